/- Has of layer 3: the binary search finds what is there. -/
import Derived.Test.YtihobchcmfamaaaEvSpan
import Derived.Test.YtihobchcmfamaaaS0
import Derived.Test.YtihobchcmfamaaaS32
import Derived.Test.YtihobchcmfamaaaS33
namespace Go.Proofs.Ytihobchcmfamaaa.SpanEv
open Go.RowKit Go.Proofs.Ytihobchcmfamaaa.S Go.Proofs.YtihobchcmfamaaaW.PrintWords Go.Proofs.YtihobchcmfamaaaW.PrintMore Go.Proofs.Ytihobchcmfamaaa.SpanTh
theorem bs_go (t : Int) (l : List (S45)) (hN : Norm l) : ∀ (d i j : Nat), i ≤ j → j ≤ l.length → j - i < d → (∀ p (h : p < l.length), p < i → l[p].f1 ≤ t) → (∀ p (h : p < l.length), j ≤ p → t < l[p].f1) →
    span_Span_int.go t l d i j ≤ l.length ∧ (∀ p (h : p < l.length), p < span_Span_int.go t l d i j → l[p].f1 ≤ t) ∧ ∀ p (h : p < l.length), span_Span_int.go t l d i j ≤ p → t < l[p].f1 := by
  have mono : ∀ (p q : Nat) (hp : p < l.length) (hq : q < l.length), p ≤ q → l[p].f1 ≤ l[q].f1 := by
    intro p q hp hq hpq
    rcases Nat.eq_or_lt_of_le hpq with rfl | h
    · exact Int.le_refl _
    · have h1 := List.pairwise_iff_getElem.1 hN.2 p q hp hq h
      have h2 := hN.1 l[q] (List.getElem_mem hq)
      omega
  intro d
  induction d with
  | zero => intro i j _ _ h; omega
  | succ d ih =>
    intro i j hij hj hd h1 h2
    unfold span_Span_int.go
    by_cases hc : i < j
    · rw [if_pos hc]
      have hm : (i + j) / 2 < l.length := by omega
      rw [rd_at l ((i + j) / 2) hm]
      split
      · rename_i hle
        exact ih ((i + j) / 2 + 1) j (by omega) hj (by omega) (fun p hp hpi => Int.le_trans (mono p _ hp hm (by omega)) hle) h2
      · rename_i hle
        exact ih i ((i + j) / 2) (by omega) (by omega) (by omega) h1 (fun p hp hjp => by have := mono _ p hm hp hjp; omega)
    · rw [if_neg hc]
      exact ⟨by omega, h1, fun p hp hip => h2 p hp (by omega)⟩
theorem hasS_eq {l : List (S45)} (hN : Norm l) (x : Int) : span_Set_Has.f l x = some (decide (∃ y ∈ l, y.f0 ≤ x ∧ x < y.f1)) := by
  unfold span_Set_Has.f span_Span_int.f
  rw [Option.bind_some]
  congr 1
  obtain ⟨h1, h2, h3⟩ := bs_go x l hN (l.length + 1) 0 l.length (Nat.zero_le _) (Nat.le_refl _) (by omega) (fun p _ h => by omega) (fun p h h' => by omega)
  rw [show span_Span_int.go x l (l.length + 1) 0 l.length = span_Span_int.at x l from rfl] at h1 h2 h3
  generalize span_Span_int.at x l = q at *
  rw [decide_eq_decide]
  constructor
  · rintro ⟨a, b, c⟩
    rw [rd_at l q a] at b c
    exact ⟨l[q], List.getElem_mem a, c, b⟩
  · rintro ⟨y, hy, h0, h4⟩
    obtain ⟨p, hp, rfl⟩ := List.mem_iff_getElem.1 hy
    have hpq : q ≤ p := by
      rcases Nat.lt_or_ge p q with h | h
      · have := h2 p hp h; omega
      · exact h
    have hq : q < l.length := by omega
    have h5 := h3 q hq (Nat.le_refl _)
    rw [rd_at l q hq]
    refine ⟨hq, h5, ?_⟩
    rcases Nat.eq_or_lt_of_le hpq with rfl | h
    · exact h0
    · have h6 := List.pairwise_iff_getElem.1 hN.2 q p hq hp h
      have h7 := hN.1 l[q] (List.getElem_mem hq)
      omega
end Go.Proofs.Ytihobchcmfamaaa.SpanEv
