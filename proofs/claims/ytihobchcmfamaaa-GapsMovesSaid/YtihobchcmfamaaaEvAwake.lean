/- The law's own fixed fact, and the set of the few. -/
import Derived.Test.YtihobchcmfamaaaEvSpan
import Derived.Test.YtihobchcmfamaaaS0
import Derived.Test.YtihobchcmfamaaaS15
namespace Go.Proofs.Ytihobchcmfamaaa.SpanEv
open Go.RowKit Go.Proofs.Ytihobchcmfamaaa.S Go.Proofs.YtihobchcmfamaaaW.PrintWords Go.Proofs.YtihobchcmfamaaaW.PrintMore Go.Proofs.Ytihobchcmfamaaa.SpanTh
theorem awake_ev : Ev (fun k => polliwoglaw03_awake.f k) true := by
  have e : ofL [(⟨5, 7⟩ : S45), ⟨1, 3⟩, ⟨6, 9⟩] = [⟨1, 3⟩, ⟨5, 9⟩] := by
    refine norm_ext (ofL_spec _).1 ⟨fun x hx => ?_, by simp⟩ (fun n => ?_)
    · simp only [List.mem_cons, List.not_mem_nil, or_false] at hx
      rcases hx with rfl | rfl <;> decide
    · rw [ofL_mem (fun x hx => ?_)]
      · simp only [mem_cons, mem_nil, or_false]
        omega
      · simp only [List.mem_cons, List.not_mem_nil, or_false] at hx
        rcases hx with rfl | rfl | rfl <;> decide
  have h1 := of_ev [(⟨5, 7⟩ : S45), ⟨1, 3⟩, ⟨6, 9⟩] (by decide)
  rw [e] at h1
  unfold polliwoglaw03_awake.f
  refine Ev.bind h1 ?_
  have h2 := len_ev [(⟨1, 3⟩ : S45), ⟨5, 9⟩] (by decide) (fun x hx => by
    simp only [List.mem_cons, List.not_mem_nil, or_false] at hx
    rcases hx with rfl | rfl <;> decide) (by decide)
  exact Ev.bind (f := fun _ t => some (t == 6)) h2 (Ev.now _)
theorem few_near (l : List (S45)) : ∀ x ∈ fewL l, -100 ≤ x.f0 ∧ x.f0 ≤ 100 ∧ -100 ≤ x.f1 ∧ x.f1 ≤ 100 := by
  intro x hx
  obtain ⟨y, _, rfl⟩ := List.mem_map.1 hx
  simp only [cutL, mx, mn]
  repeat' split <;> omega
theorem few_small (l : List (S45)) : Small (fewL l) := fun x hx => by have := few_near l x hx; unfold mostL; omega
theorem few_len (l : List (S45)) : (fewL l).length ≤ 12 := by unfold fewL; rw [List.length_map, List.length_take]; omega
theorem few_all (l : List (S45)) : Near (allF [] (fewL l)) ∧ ∀ n, n ∈ allF [] (fewL l) ↔ Mem n (fewL l) := by
  obtain ⟨a, b⟩ := all_spec (fewL l) [] rise_nil
  have b' : ∀ n, n ∈ allF [] (fewL l) ↔ Mem n (fewL l) := fun n => by rw [b]; simp
  refine ⟨⟨a, fun n hn => ?_⟩, b'⟩
  obtain ⟨x, hx, h0, h1⟩ := (b' n).1 hn
  have := few_near l x hx
  omega
/-- The set of the few: all that the laws need. -/
theorem set_few (l : List (S45)) : Norm (ofL (fewL l)) ∧ Small (ofL (fewL l)) ∧ (∀ n, n ∈ allF [] (fewL l) ↔ Mem n (ofL (fewL l))) ∧ (ofL (fewL l)).length ≤ 200 := by
  have h := few_all l
  have hm : ∀ n, n ∈ allF [] (fewL l) ↔ Mem n (ofL (fewL l)) := fun n => by rw [ofL_mem (few_small l), h.2]
  refine ⟨(ofL_spec _).1, ofL_small _, hm, ?_⟩
  have := norm_len (ofL_spec (fewL l)).1
  rw [list_eq (ofL_spec _).1 h.1.1 hm] at this
  exact Nat.le_trans this (near_len h.1)
/-- A set whose numbers lie within some. -/
def Inv (few s : List (S45)) : Prop := Norm s ∧ Small s ∧ ∀ n, Mem n s → Mem n few
theorem inv_nil (few : List (S45)) : Inv few [] := ⟨norm_nil, fun _ h => (by cases h), fun n h => absurd h (mem_nil n)⟩
theorem inv_len {few s : List (S45)} (hf : ∀ x ∈ few, -100 ≤ x.f0 ∧ x.f0 ≤ 100 ∧ -100 ≤ x.f1 ∧ x.f1 ≤ 100) (h : Inv few s) : s.length ≤ 200 := by
  have h1 := norm_len h.1
  have h2 := rise_len (listL s) (-100) 100 (rise_listL h.1) (fun n hn => by
    obtain ⟨x, hx, h3, h4⟩ := h.2.2 n ((mem_listL s n).1 hn)
    have := hf x hx
    omega)
  omega
theorem mem_one (n : Int) (x : S45) : Mem n [x] ↔ x.f0 ≤ n ∧ n < x.f1 := by rw [mem_cons]; simp [mem_nil]
theorem small_one {few : List (S45)} (hf : Small few) {x : S45} (hx : x ∈ few) : Small [x] := fun y hy => by rw [List.mem_singleton] at hy; subst hy; exact hf _ hx
theorem small_append {s t : List (S45)} (hs : Small s) (ht : Small t) : Small (s ++ t) := fun x hx => (List.mem_append.1 hx).elim (hs x) (ht x)
end Go.Proofs.Ytihobchcmfamaaa.SpanEv
