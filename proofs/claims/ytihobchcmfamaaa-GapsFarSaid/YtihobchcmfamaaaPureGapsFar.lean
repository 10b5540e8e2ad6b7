/- GapsFar: the plain law. -/
import Derived.Test.YtihobchcmfamaaaEvOf
import Derived.Test.YtihobchcmfamaaaArgs
import Derived.Test.YtihobchcmfamaaaS9
import Derived.Test.YtihobchcmfamaaaS29
import Derived.Test.YtihobchcmfamaaaS31
namespace Go.Proofs.Ytihobchcmfamaaa.Pure
open Go.RowKit Go.Proofs.Ytihobchcmfamaaa.S Go.Proofs.YtihobchcmfamaaaW.PrintWords Go.Proofs.YtihobchcmfamaaaW.PrintMore Go.Proofs.Ytihobchcmfamaaa.SpanTh Go.Proofs.Ytihobchcmfamaaa.SpanEv
def rowL (a : Int) : Nat → List Int
  | 0 => []
  | n + 1 => rowL a n ++ [(a + n) % 16777216]
theorem rowL_len (a : Int) : ∀ n, (rowL a n).length = n
  | 0 => rfl
  | n + 1 => by rw [rowL, List.length_append, rowL_len, List.length_singleton]
theorem rowL_mem (a x : Int) : ∀ n, x ∈ rowL a n → ∃ j : Nat, j < n ∧ x = (a + j) % 16777216
  | 0, h => by cases h
  | n + 1, h => by
    rw [rowL, List.mem_append, List.mem_singleton] at h
    rcases h with h | h
    · obtain ⟨j, h1, h2⟩ := rowL_mem a x n h
      exact ⟨j, by omega, h2⟩
    · exact ⟨n, by omega, h⟩
theorem rowL_get (a : Int) : ∀ (n i : Nat) (h : i < (rowL a n).length), (rowL a n)[i] = (a + i) % 16777216
  | 0, i, h => by cases h
  | n + 1, i, h => by
    rcases Nat.lt_or_ge i n with h1 | h1
    · have h2 : i < (rowL a n).length := by rw [rowL_len]; exact h1
      have := rowL_get a n i h2
      simp only [rowL]
      rw [List.getElem_append_left h2]
      exact this
    · have h2 : i = n := by rw [rowL_len] at h; omega
      subst h2
      simp only [rowL]
      rw [List.getElem_append_right (by rw [rowL_len]; omega)]
      simp
theorem name_row (a : Int) : ∀ (d i : Nat), i + d ≤ 2000 → gaps_Named.nameL a d (i : Int) (rowL a i) = rowL a (i + d)
  | 0, i, _ => rfl
  | d + 1, i, h => by
    rw [gaps_Named.nameL, if_pos (by rw [rowL_len]; omega), if_neg]
    · have := name_row a d (i + 1) (by omega)
      rw [show i + (d + 1) = i + 1 + d by omega, ← this, rowL]
      congr 1
    · intro hm
      obtain ⟨j, h1, h2⟩ := rowL_mem a _ i hm
      omega
theorem far_l0 (a0 n : Int) (got : List Int) (hl : got.length ≤ 2000) (ha : 0 ≤ a0 ∧ a0 < 4294967296) (hn : (got.length : Int) = n) (hg : ∀ (i : Nat) (h : i < got.length), got[i] = (a0 + i) % 16777216) :
    ∀ (m i : Nat), got.length - i = m → i ≤ got.length → Ev (fun k => polliwoglaw09_GapsFar.l0 k a0 n got got (got.length : Int) (i : Int)) true := by
  intro m
  induction m with
  | zero =>
    intro i hm hi
    obtain rfl : i = got.length := by omega
    refine Ev.step (f := fun _ => some true) (fun k => ?_) (Ev.now _)
    rw [polliwoglaw09_GapsFar.l0, if_neg (Int.lt_irrefl _), hn, beq_self_eq_true]
  | succ m ih =>
    intro i hm hi
    have hlt : i < got.length := by omega
    have hri := rdi_at got i hlt
    have hgi := hg i hlt
    have hw := w1 (i := i) (by omega)
    have p1 : (i : Int) < (got.length : Int) := Int.ofNat_lt.2 hlt
    have p2 : (0 : Int) ≤ (i : Int) := Int.natCast_nonneg _
    have e1 : wrap64 a0 = a0 := widG (by omega) (by omega)
    have e2 : wrap64 (a0 % 16777216 + (i : Int)) = a0 % 16777216 + (i : Int) := widG (by omega) (by omega)
    have e3 : wrap64 ((a0 + (i : Int)) % 16777216) = (a0 % 16777216 + (i : Int)) % 16777216 := by
      rw [widG (by omega) (by omega)]
      omega
    refine Ev.step (fun k => ?_) (ih (i + 1) (by omega) (by omega))
    rw [polliwoglaw09_GapsFar.l0, if_pos p1, if_pos p2, if_pos p1, e1, of1_eq, Option.bind_some, e2, of1_eq, Option.bind_some, hri, hgi, e3, if_pos rfl, hw]
theorem far_j0 (a0 a1 a2 n : Int) (ha : 0 ≤ a0 ∧ a0 < 4294967296) (hn : n = if (a1 - a0) % 16777216 ≤ 8388608 then (a1 - a0) % 16777216 else 0) : Ev (fun k => polliwoglaw09_GapsFar.j0 k a0 a2 [a0, a1] n) true := by
  obtain ⟨T, hTe⟩ : ∃ T, gaps_Count.tov a0 a1 = T := ⟨_, rfl⟩
  have hT : 0 ≤ T ∧ T < 16777216 := by rw [← hTe]; unfold gaps_Count.tov; omega
  rw [show (a1 - a0) % 16777216 = T from hTe] at hn
  have c1 : gaps_Count.f [a0, a1] = some n := by
    unfold gaps_Count.f
    rw [if_pos (by simp)]
    simp only [gaps_Count.pairsL]
    rw [hTe, hn]
    by_cases hc : T ≤ 8388608
    · rw [if_pos hc, if_pos hc, widG (by omega) (by omega), Int.zero_add]
    · rw [if_neg hc, if_neg hc]
  have c2 : gaps_Count.f ([a0, a1] ++ [a2]) = some n := by
    unfold gaps_Count.f at c1 ⊢
    rw [if_pos (by simp)] at c1 ⊢
    simpa only [List.cons_append, List.nil_append, gaps_Count.pairsL] using c1
  have l2 : [a0, a1].length < 35184372088832 := by simp
  refine Ev.step (f := fun k => polliwoglaw09_GapsFar.j1 k a0 [a0, a1] n false) (fun k => ?_) ?_
  · rw [polliwoglaw09_GapsFar.j0, c1, Option.bind_some, if_pos rfl, if_pos l2, c2, Option.bind_some, bne_self_eq_false]
  · by_cases h1 : n > 2000
    · refine Ev.step (f := fun _ => some true) (fun k => ?_) (Ev.now _)
      rw [polliwoglaw09_GapsFar.j1, if_neg (by decide), if_pos h1]
    · obtain ⟨got, hg1, hg2, hg3, hg4⟩ : ∃ got, gaps_Named.f 12 0 0 0 0 [a0, a1] false ⟨#[]⟩ = some got ∧ got.length ≤ 2000 ∧ (got.length : Int) = n ∧ ∀ (i : Nat) (h : i < got.length), got[i] = (a0 + i) % 16777216 := by
        unfold gaps_Named.f
        rw [if_pos (Or.inr rfl), if_pos (by simp)]
        simp only [gaps_Count.pairsL]
        rw [hTe]
        by_cases hc : T ≤ 8388608
        · rw [if_pos hc] at hn ⊢
          have := name_row (a0 % 16777216) T.toNat 0 (by omega)
          refine ⟨_, rfl, ?_⟩
          rw [show ((0 : Nat) : Int) = 0 from rfl, show rowL (a0 % 16777216) 0 = [] from rfl, Nat.zero_add] at this
          rw [this]
          refine ⟨by rw [rowL_len]; omega, by rw [rowL_len]; omega, fun i h => ?_⟩
          rw [rowL_get]
          omega
        · rw [if_neg hc] at hn ⊢
          exact ⟨[], rfl, Nat.zero_le _, by rw [hn]; rfl, fun i h => by cases h⟩
      refine Ev.step (fun k => ?_) (far_l0 a0 n got hg2 ha hg3 hg4 got.length 0 rfl (Nat.zero_le _))
      rw [polliwoglaw09_GapsFar.j1, if_neg (by decide), if_neg h1, hg1, Option.bind_some]
      rfl
theorem GapsFar (a0 a1 a2 : Int) (h0 : (Lit.int .u32 a0).wf = true) (h1 : (Lit.int .u32 a1).wf = true) (_ : (Lit.int .u32 a2).wf = true) : ∃ k, polliwoglaw09_GapsFar.f k a0 a1 a2 = some true := by
  have wfo : ∀ a : Int, (Lit.int .u32 a).wf = true → 0 ≤ a ∧ a < 4294967296 := by
    intro a h
    simp [Lit.wf, IntKind.min, IntKind.max, IntKind.signed, IntKind.bits] at h
    omega
  have ha := wfo a0 h0
  have hb := wfo a1 h1
  refine Ev.rounds (g := fun k => polliwoglaw09_GapsFar.f k a0 a1 a2) ?_
  unfold polliwoglaw09_GapsFar.f
  refine Ev.bind awake9_ev ?_
  simp only [if_true, Option.bind_some]
  have e0 : wrap64 a0 = a0 := widG (by omega) (by omega)
  have e1 : wrap64 a1 = a1 := widG (by omega) (by omega)
  rw [e0, e1, to1_eq a0 a1]
  simp only [Option.bind_some]
  by_cases hc : (a1 - a0) % 16777216 > 8388608
  · simp only [if_pos hc]
    exact far_j0 a0 a1 a2 0 ha (by rw [if_neg (by omega)])
  · simp only [if_neg hc]
    exact far_j0 a0 a1 a2 _ ha (by rw [if_pos (by omega)])
end Go.Proofs.Ytihobchcmfamaaa.Pure
