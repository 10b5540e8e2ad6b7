/- Both of layer 3. -/
import Derived.Test.YtihobchcmfamaaaEvSpan
import Derived.Test.YtihobchcmfamaaaS0
import Derived.Test.YtihobchcmfamaaaS4
import Derived.Test.YtihobchcmfamaaaS6
namespace Go.Proofs.Ytihobchcmfamaaa.SpanEv
open Go.RowKit Go.Proofs.Ytihobchcmfamaaa.S Go.Proofs.YtihobchcmfamaaaW.PrintWords Go.Proofs.YtihobchcmfamaaaW.PrintMore Go.Proofs.Ytihobchcmfamaaa.SpanTh
def meetL (x y : S45) : S45 := ⟨max x.f0 y.f0, min x.f1 y.f1⟩
def meets (s t : List (S45)) : List (S45) := s.flatMap fun x => t.map (meetL x)
theorem both_l1 (t s : List (S45)) (i : Int) (x : S45) (v : List (S45)) (ht : t.length < 1099511627776) : ∀ (m j : Nat) (out : List (S45)), t.length - j = m → j ≤ t.length → out.length + m < 8796093022208 →
    Ev (fun k => span_Set_Both.l0 k t (out ++ (t.drop j).map (meetL x)) s (s.length : Int) (wrap64 (i + 1))) v → Ev (fun k => span_Set_Both.l1 k t out s (s.length : Int) i t (t.length : Int) (j : Int) x.f0 x.f1) v := by
  intro m
  induction m with
  | zero =>
    intro j out hm hj ho he
    obtain rfl : j = t.length := by omega
    rw [List.drop_length, List.map_nil, List.append_nil] at he
    refine Ev.step (fun k => ?_) he
    rw [span_Set_Both.l1, if_neg (by omega)]
  | succ m ih =>
    intro j out hm hj ho he
    have hlt : j < t.length := by omega
    have hr := rd_at t j hlt
    have hw := w1 (i := j) (by omega)
    rw [List.drop_eq_getElem_cons hlt, List.map_cons, show out ++ meetL x t[j] :: (t.drop (j + 1)).map (meetL x) = out ++ [meetL x t[j]] ++ (t.drop (j + 1)).map (meetL x) by simp] at he
    refine Ev.step (fun k => ?_) (ih (j + 1) (out ++ [meetL x t[j]]) (by omega) (by omega) (by simp; omega) he)
    rw [span_Set_Both.l1, if_pos (by omega), if_pos (by omega), if_pos (by omega), if_pos (by omega), hr, mx_eq, mn_eq, hw]
    rfl
theorem both_l0 (s t : List (S45)) (hs : s.length < 1099511627776) (ht : t.length < 1099511627776) (hb : s.length * t.length < 1099511627776) : ∀ (m i : Nat) (out : List (S45)), s.length - i = m → i ≤ s.length → out.length = i * t.length →
    Ev (fun k => span_Set_Both.l0 k t out s (s.length : Int) (i : Int)) (ofL (out ++ meets (s.drop i) t)) := by
  intro m
  induction m with
  | zero =>
    intro i out hm hi ho
    obtain rfl : i = s.length := by omega
    rw [List.drop_length, show meets [] t = [] from rfl, List.append_nil]
    refine Ev.step (f := fun k => (span_Of.f k out).bind fun t => some t) (fun k => ?_) (Ev.bind (of_ev out (by omega)) (Ev.now _))
    rw [span_Set_Both.l0, if_neg (by omega)]
  | succ m ih =>
    intro i out hm hi ho
    have hlt : i < s.length := by omega
    have hr := rd_at s i hlt
    have hw := w1 (i := i) (by omega)
    have hmul : (i + 1) * t.length ≤ s.length * t.length := Nat.mul_le_mul_right _ hlt
    rw [Nat.succ_mul] at hmul
    have e : meets (s.drop i) t = t.map (meetL s[i]) ++ meets (s.drop (i + 1)) t := by rw [List.drop_eq_getElem_cons hlt]; rfl
    rw [e, ← List.append_assoc]
    refine Ev.step (fun k => ?_) (both_l1 t s (i : Int) s[i] _ ht t.length 0 out rfl (Nat.zero_le _) (by omega) (by rw [hw, List.drop_zero]; exact ih (i + 1) _ (by omega) (by omega) (by rw [List.length_append, List.length_map, ho, Nat.succ_mul])))
    rw [span_Set_Both.l0, if_pos (by omega), if_pos (by omega), if_pos (by omega), hr]
    rfl
theorem both_ev (s t : List (S45)) (hs : s.length < 1099511627776) (ht : t.length < 1099511627776) (hb : s.length * t.length < 1099511627776) : Ev (fun k => span_Set_Both.f k s t) (ofL (meets s t)) := by
  have := both_l0 s t hs ht hb s.length 0 [] rfl (Nat.zero_le _) (by simp)
  rwa [List.drop_zero, List.nil_append] at this
theorem mem_meets (s t : List (S45)) (n : Int) : Mem n (meets s t) ↔ Mem n s ∧ Mem n t := by
  constructor
  · rintro ⟨x, hx, h0, h1⟩
    obtain ⟨a, ha, hx⟩ := List.mem_flatMap.1 hx
    obtain ⟨b, hb, rfl⟩ := List.mem_map.1 hx
    simp only [meetL] at h0 h1
    exact ⟨⟨a, ha, by omega, by omega⟩, ⟨b, hb, by omega, by omega⟩⟩
  · rintro ⟨⟨a, ha, h0, h1⟩, ⟨b, hb, h2, h3⟩⟩
    exact ⟨meetL a b, List.mem_flatMap.2 ⟨a, ha, List.mem_map.2 ⟨b, hb, rfl⟩⟩, by simp only [meetL]; omega, by simp only [meetL]; omega⟩
theorem small_meets {s t : List (S45)} (hs : Small s) (ht : Small t) : Small (meets s t) := by
  intro x hx
  obtain ⟨a, ha, hx⟩ := List.mem_flatMap.1 hx
  obtain ⟨b, hb, rfl⟩ := List.mem_map.1 hx
  have := hs a ha
  have := ht b hb
  simp only [meetL]
  omega
/-- Both of two sets: normal, small, and what is in both. -/
theorem both_spec {s t : List (S45)} (hs : Small s) (ht : Small t) : Norm (ofL (meets s t)) ∧ Small (ofL (meets s t)) ∧ ∀ n, Mem n (ofL (meets s t)) ↔ Mem n s ∧ Mem n t :=
  ⟨(ofL_spec _).1, ofL_small _, fun n => by rw [ofL_mem (small_meets hs ht), mem_meets]⟩
end Go.Proofs.Ytihobchcmfamaaa.SpanEv
