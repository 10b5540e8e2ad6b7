/- Add and Drop of layer 3. -/
import Derived.Test.YtiiljdglbfgdbaaEvSet
import Derived.Test.YtiiljdglbfgdbaaS0
import Derived.Test.YtiiljdglbfgdbaaS1
import Derived.Test.YtiiljdglbfgdbaaS3
import Derived.Test.YtiiljdglbfgdbaaS4
namespace Go.Proofs.Ytiiljdglbfgdbaa.SpanEv
open Go.RowKit Go.Proofs.Ytiiljdglbfgdbaa.S Go.Proofs.YtiiljdglbfgdbaaW.PrintWords Go.Proofs.YtiiljdglbfgdbaaW.PrintMore Go.Proofs.Ytiiljdglbfgdbaa.SpanTh
def full (x : S105) : Bool := decide (x.f0 < x.f1)
def parts (X y : S105) : List (S105) := [⟨y.f0, min y.f1 X.f0⟩, ⟨max y.f0 X.f1, y.f1⟩]
def dropsL (s : List (S105)) (X : S105) : List (S105) := s.flatMap fun y => (parts X y).filter full
def dropR (s : List (S105)) (x : S105) : List (S105) := if (nearL x).f0 < (nearL x).f1 then ofL (dropsL s (nearL x)) else ofL s
theorem drop_l1 (s p : List (S105)) (i : Int) (X : S105) (v : List (S105)) (hp : p.length < 1000) : ∀ (m j : Nat) (out : List (S105)), p.length - j = m → j ≤ p.length → out.length + m < 1099511627776 →
    Ev (fun k => span_Set_Drop.l0 k (out ++ (p.drop j).filter full) s (s.length : Int) (wrap64 (i + 1)) X.f0 X.f1) v → Ev (fun k => span_Set_Drop.l1 k out s (s.length : Int) i p (p.length : Int) (j : Int) X.f0 X.f1) v := by
  intro m
  induction m with
  | zero =>
    intro j out hm hj ho he
    obtain rfl : j = p.length := by omega
    rw [List.drop_length, List.filter_nil, List.append_nil] at he
    refine Ev.step (fun k => ?_) he
    rw [span_Set_Drop.l1, if_neg (by omega)]
  | succ m ih =>
    intro j out hm hj ho he
    have hlt : j < p.length := by omega
    have hr := rd_at p j hlt
    have hw := w1 (i := j) (by omega)
    rw [List.drop_eq_getElem_cons hlt, List.filter_cons] at he
    by_cases hc : p[j].f0 < p[j].f1
    · rw [if_pos (by simpa [full] using hc), show out ++ p[j] :: (p.drop (j + 1)).filter full = out ++ [p[j]] ++ (p.drop (j + 1)).filter full by simp] at he
      refine Ev.step (fun k => ?_) (ih (j + 1) (out ++ [p[j]]) (by omega) (by omega) (by simp; omega) he)
      rw [span_Set_Drop.l1, if_pos (by omega), if_pos (by omega), if_pos (by omega), hr]
      simp only [span_Span_empty.f, Option.bind_some]
      rw [if_neg (by simp; omega), if_pos (by omega), hw]
    · rw [if_neg (by simpa [full] using hc)] at he
      refine Ev.step (fun k => ?_) (ih (j + 1) out (by omega) (by omega) (by omega) he)
      rw [span_Set_Drop.l1, if_pos (by omega), if_pos (by omega), if_pos (by omega), hr]
      simp only [span_Span_empty.f, Option.bind_some]
      rw [if_pos (by simp; omega), hw]
theorem drop_l0 (s : List (S105)) (X : S105) (hs : s.length < 1000000000) : ∀ (m i : Nat) (out : List (S105)), s.length - i = m → i ≤ s.length → out.length ≤ 2 * i →
    Ev (fun k => span_Set_Drop.l0 k out s (s.length : Int) (i : Int) X.f0 X.f1) (ofL (out ++ dropsL (s.drop i) X)) := by
  intro m
  induction m with
  | zero =>
    intro i out hm hi ho
    obtain rfl : i = s.length := by omega
    rw [List.drop_length, show dropsL [] X = [] from rfl, List.append_nil]
    refine Ev.step (f := fun k => (span_Of.f k out).bind fun t => some t) (fun k => ?_) (Ev.bind (of_ev out (by omega)) (Ev.now _))
    rw [span_Set_Drop.l0, if_neg (by omega)]
  | succ m ih =>
    intro i out hm hi ho
    have hlt : i < s.length := by omega
    have hr := rd_at s i hlt
    have hw := w1 (i := i) (by omega)
    have e : dropsL (s.drop i) X = (parts X s[i]).filter full ++ dropsL (s.drop (i + 1)) X := by rw [List.drop_eq_getElem_cons hlt]; rfl
    have hfl : ((parts X s[i]).filter full).length ≤ 2 := List.length_filter_le full _
    rw [e, ← List.append_assoc]
    refine Ev.step (fun k => ?_) (drop_l1 s (parts X s[i]) (i : Int) X _ (by show 2 < 1000; omega) 2 0 out rfl (Nat.zero_le _) (by omega) (by rw [hw, List.drop_zero]; exact ih (i + 1) _ (by omega) (by omega) (by rw [List.length_append]; omega)))
    rw [span_Set_Drop.l0, if_pos (by omega), if_pos (by omega), if_pos (by omega), hr, Option.bind_some, mn_eq, mx_eq]
    rfl
theorem drop_ev (s : List (S105)) (x : S105) (hs : s.length < 1000000000) : Ev (fun k => span_Set_Drop.f k s x.f0 x.f1) (dropR s x) := by
  unfold span_Set_Drop.f dropR
  simp only [near_eq, Option.bind_some, span_Span_empty.f]
  by_cases hc : (nearL x).f0 < (nearL x).f1
  · rw [if_pos hc]
    have hd : decide ((nearL x).f1 ≤ (nearL x).f0) = false := by rw [decide_eq_false_iff_not]; omega
    simp only [hd, Bool.false_eq_true, if_false]
    have := drop_l0 s (nearL x) hs s.length 0 [] rfl (Nat.zero_le _) (Nat.le_refl _)
    rwa [List.drop_zero, List.nil_append] at this
  · rw [if_neg hc]
    have hd : decide ((nearL x).f1 ≤ (nearL x).f0) = true := by rw [decide_eq_true_iff]; omega
    simp only [hd, if_true]
    exact Ev.bind (of_ev s (by omega)) (Ev.now _)
theorem mem_drops (s : List (S105)) (X : S105) (n : Int) : Mem n (dropsL s X) ↔ Mem n s ∧ ¬ (X.f0 ≤ n ∧ n < X.f1) := by
  constructor
  · rintro ⟨z, hz, h0, h1⟩
    obtain ⟨y, hy, hz⟩ := List.mem_flatMap.1 hz
    have hz := (List.mem_filter.1 hz).1
    simp only [parts, List.mem_cons, List.not_mem_nil, or_false] at hz
    rcases hz with rfl | rfl
    · simp only at h0 h1
      exact ⟨⟨y, hy, by omega, by omega⟩, by omega⟩
    · simp only at h0 h1
      exact ⟨⟨y, hy, by omega, by omega⟩, by omega⟩
  · rintro ⟨⟨y, hy, h0, h1⟩, h2⟩
    by_cases hc : n < X.f0
    · exact ⟨⟨y.f0, min y.f1 X.f0⟩, List.mem_flatMap.2 ⟨y, hy, List.mem_filter.2 ⟨by simp [parts], by simp only [full, decide_eq_true_iff]; omega⟩⟩, by simp only; omega, by simp only; omega⟩
    · exact ⟨⟨max y.f0 X.f1, y.f1⟩, List.mem_flatMap.2 ⟨y, hy, List.mem_filter.2 ⟨by simp [parts], by simp only [full, decide_eq_true_iff]; omega⟩⟩, by simp only; omega, by simp only; omega⟩
theorem small_drops {s : List (S105)} (hs : Small s) (x : S105) : Small (dropsL s (nearL x)) := by
  intro z hz
  obtain ⟨y, hy, hz⟩ := List.mem_flatMap.1 hz
  have hfull := (List.mem_filter.1 hz).2
  simp only [full, decide_eq_true_iff] at hfull
  have hz := (List.mem_filter.1 hz).1
  have hys := hs y hy
  unfold mostL at *
  simp only [parts, List.mem_cons, List.not_mem_nil, or_false] at hz
  rcases hz with rfl | rfl <;> simp only [nearL, mostL] at * <;> omega
/-- Without a span: what was there and is none of its. -/
theorem drop_spec {s : List (S105)} (hs : Small s) (x : S105) : Norm (dropR s x) ∧ Small (dropR s x) ∧ ∀ n, Mem n (dropR s x) ↔ Mem n s ∧ ¬ ((nearL x).f0 ≤ n ∧ n < (nearL x).f1) := by
  unfold dropR
  split
  · exact ⟨(ofL_spec _).1, ofL_small _, fun n => by rw [ofL_mem (small_drops hs x), mem_drops _ _]⟩
  · refine ⟨(ofL_spec _).1, ofL_small _, fun n => ?_⟩
    rw [ofL_mem hs]
    constructor
    · intro h; exact ⟨h, by omega⟩
    · exact And.left
end Go.Proofs.Ytiiljdglbfgdbaa.SpanEv
