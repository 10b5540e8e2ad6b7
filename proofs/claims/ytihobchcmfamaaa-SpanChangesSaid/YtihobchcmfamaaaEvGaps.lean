/- Gaps of layer 3. -/
import Derived.Test.YtihobchcmfamaaaEvDrop
import Derived.Test.YtihobchcmfamaaaS0
import Derived.Test.YtihobchcmfamaaaS19
import Derived.Test.YtihobchcmfamaaaS38
namespace Go.Proofs.Ytihobchcmfamaaa.SpanEv
open Go.RowKit Go.Proofs.Ytihobchcmfamaaa.S Go.Proofs.YtihobchcmfamaaaW.PrintWords Go.Proofs.YtihobchcmfamaaaW.PrintMore Go.Proofs.Ytihobchcmfamaaa.SpanTh
theorem gaps_l0 (s : List (S45)) (hs : s.length < 1000000000) (P : List (S45) → Prop) (hP : ∀ t x, P t → P (dropR t x)) (hb : ∀ t, P t → t.length < 1000000000) : ∀ (m i : Nat) (t : List (S45)), s.length - i = m → i ≤ s.length → P t →
    Ev (fun k => span_Set_Gaps.l0 k t s (s.length : Int) (i : Int)) ((s.drop i).foldl dropR t) := by
  intro m
  induction m with
  | zero =>
    intro i t hm hi ht
    obtain rfl : i = s.length := by omega
    refine Ev.step (f := fun _ => some t) (fun k => ?_) (by rw [List.drop_length]; exact Ev.now _)
    rw [span_Set_Gaps.l0, if_neg (by omega)]
  | succ m ih =>
    intro i t hm hi ht
    have hlt : i < s.length := by omega
    have hr := rd_at s i hlt
    have hw := w1 (i := i) (by omega)
    rw [List.drop_eq_getElem_cons hlt, List.foldl_cons]
    refine Ev.step (f := fun k => (span_Set_Drop.f k t s[i].f0 s[i].f1).bind fun u => span_Set_Gaps.l0 k u s (s.length : Int) ((i + 1 : Nat) : Int)) (fun k => ?_) (Ev.bind (drop_ev t s[i] (hb t ht)) (ih (i + 1) (dropR t s[i]) (by omega) (by omega) (hP t _ ht)))
    rw [span_Set_Gaps.l0, if_pos (by omega), if_pos (by omega), if_pos (by omega), hr, hw]
theorem drops_spec : ∀ (s t : List (S45)), Small t → Norm t → Small s → Norm (s.foldl dropR t) ∧ Small (s.foldl dropR t) ∧ ∀ n, Mem n (s.foldl dropR t) ↔ Mem n t ∧ ¬ Mem n s
  | [], t, ht, hn, _ => ⟨hn, ht, fun n => by simp [mem_nil]⟩
  | x :: s, t, ht, hn, hs => by
    obtain ⟨a, b, c⟩ := drop_spec ht x
    obtain ⟨d, e, f⟩ := drops_spec s (dropR t x) b a (fun y hy => hs y (List.mem_cons_of_mem _ hy))
    refine ⟨d, e, fun n => ?_⟩
    rw [List.foldl_cons, f, c, near_small (hs x List.mem_cons_self), mem_cons, not_or, and_assoc]
/-- What isn't there of a span. -/
theorem gaps_ev (s few : List (S45)) (x : S45) (hf : ∀ x ∈ few, -100 ≤ x.f0 ∧ x.f0 ≤ 100 ∧ -100 ≤ x.f1 ∧ x.f1 ≤ 100) (hfs : Small few) (hx : x ∈ few) (hs : s.length < 1000000000) : Ev (fun k => span_Set_Gaps.f k s x.f0 x.f1) (s.foldl dropR (ofL [x])) := by
  unfold span_Set_Gaps.f
  have h0 : Inv few (ofL [x]) := by
    refine ⟨(ofL_spec _).1, ofL_small _, fun n hn => ?_⟩
    rw [ofL_mem (small_one hfs hx), mem_one] at hn
    exact ⟨x, hx, hn⟩
  refine Ev.bind (of_ev [x] (by simp)) ?_
  have := gaps_l0 s hs (Inv few) (fun t y ht => by
    obtain ⟨a, b, c⟩ := drop_spec ht.2.1 y
    exact ⟨a, b, fun n hn => ht.2.2 n ((c n).1 hn).1⟩) (fun t ht => by have := inv_len hf ht; omega) s.length 0 (ofL [x]) rfl (Nat.zero_le _) h0
  rwa [List.drop_zero] at this
end Go.Proofs.Ytihobchcmfamaaa.SpanEv
