-- Printed for this claim by wip/tools/pp.py (a session's program, over the kit's print with hand-made functions let in). Not trusted: Lean checks it.
import Derived.WalkSpells
import Derived.WalkKit
import Derived.LoopTactic
import Derived.Test.YtihobchcmfamaaaS0
namespace Go.Proofs.Ytihobchcmfamaaa.S
open Go.RowKit Go.Proofs.YtihobchcmfamaaaW.PrintWords Go.Proofs.YtihobchcmfamaaaW.PrintLast Go.Proofs.YtihobchcmfamaaaW.PrintMore
attribute [local go_sem] max2_int min2_int max_two min_two max_three min_three max_four min_four   -- for this text's walks alone
set_option linter.unusedVariables false
set_option linter.unusedSimpArgs false

-- FOREIGN Derived.WalkSpells,Derived.WalkKit,Derived.LoopTactic
/-! ### span_Span_int: function 55 -/
def span_Span_int.cmp (a b x : Int) : Int := if b ≤ x then -1 else if a > x then 1 else 0
def span_Span_int.go (t : Int) (l : List (S45)) : Nat → Nat → Nat → Nat
  | 0, i, _ => i
  | d + 1, i, j => if i < j then (if (rd_T45 l (((i + j) / 2 : Nat) : Int)).f1 ≤ t then span_Span_int.go t l d ((i + j) / 2 + 1) j else span_Span_int.go t l d i ((i + j) / 2)) else i
def span_Span_int.at (t : Int) (l : List (S45)) : Nat := span_Span_int.go t l (l.length + 1) 0 l.length
def span_Span_int.f (l0 : List (S45)) (a1 : Int) : Option (Int × Bool) :=
  some (((span_Span_int.at a1 l0 : Nat) : Int), decide (span_Span_int.at a1 l0 < l0.length ∧ a1 < (rd_T45 l0 ((span_Span_int.at a1 l0 : Nat) : Int)).f1 ∧ (rd_T45 l0 ((span_Span_int.at a1 l0 : Nat) : Int)).f0 ≤ a1))
set_option maxHeartbeats 1000000 in
theorem span_Span_int.closure (a b x : Int) (W : World) : Calls Try.prog 56 #[.agg #[.int .i64 a, .int .i64 b], .int .i64 x] W fun e w' => e = .returned (.int .i64 (span_Span_int.cmp a b x)) ∧ Below W.heap.size W w' := by
  unfold span_Span_int.cmp
  have hu := Try.underlying45
  by_cases h1 : b ≤ x
  · rw [if_pos h1]
    go_enter Try.func56, Try.ntmps56
    go_wp2
    go_ret
    exact ⟨rfl, below_alloc (Below.refl _ _) _⟩
  · rw [if_neg h1]
    by_cases h2 : a > x
    · rw [if_pos h2]
      go_enter Try.func56, Try.ntmps56
      go_wp2
      go_ret
      exact ⟨rfl, below_alloc (Below.refl _ _) _⟩
    · rw [if_neg h2]
      go_enter Try.func56, Try.ntmps56
      go_wp2
      go_ret
      exact ⟨rfl, below_alloc (Below.refl _ _) _⟩
theorem span_Span_int.go_le (t : Int) (l : List (S45)) : ∀ d i j, i ≤ j → i ≤ span_Span_int.go t l d i j ∧ span_Span_int.go t l d i j ≤ j := by
  intro d
  induction d with
  | zero => intro i j h; exact ⟨Nat.le_refl _, h⟩
  | succ d ih =>
    intro i j h
    unfold span_Span_int.go
    split
    · split
      · have := ih ((i + j) / 2 + 1) j (by omega)
        omega
      · have := ih i ((i + j) / 2) (by omega)
        omega
    · exact ⟨Nat.le_refl _, h⟩
theorem span_Span_int.mid (i j m : Nat) (hi : i ≤ 9223372036854775807) (hj : j ≤ 9223372036854775807) (hm : m = (i + j) / 2) : wrap64 (IntKind.u64.wrap (wrap64 ((i : Int) + j)) / 2) = (m : Int) := by
  have h1 : IntKind.u64.wrap (wrap64 ((i : Int) + j)) = (i : Int) + j := by
    simp only [IntKind.wrap, IntKind.bits, IntKind.signed, wrap64]
    simp
    omega
  rw [h1]
  unfold wrap64
  omega
theorem span_Span_int.clos (a b x v : Int) (hv : span_Span_int.cmp a b x = v) (W : World) : Calls Try.prog 56 #[.agg #[.int .i64 a, .int .i64 b], .int .i64 x] W fun e w' => e = .returned (.int .i64 v) ∧ Below W.heap.size W w' := hv ▸ span_Span_int.closure a b x W
set_option maxHeartbeats 4000000 in
set_option maxRecDepth 100000 in
theorem span_Span_int.calls (A0 : Option Addr) (c0 : Nat) (l0 : List (S45)) (a1 : Int) (r1 : Int) (r2 : Bool) (w : World) (hr0 : Kd.C k45 w A0 l0.length l0) (hc0 : l0.length ≤ c0) (h : span_Span_int.f l0 a1 = some (r1, r2)) :
    Calls Try.prog 55 #[.slice A0 l0.length c0, .int .i64 a1, .func (.func 56) #[] #[]] w fun e w' => e = .returned (.tuple #[.int .i64 r1, .bool r2]) ∧ Below w.heap.size w w' := by
  unfold span_Span_int.f at h
  simp only [Option.some.injEq, Prod.mk.injEq] at h
  obtain ⟨h1, h2⟩ := h
  have HQ1 := Aside0.mk h1
  have HQ2 := Aside0.mk h2
  clear h1 h2
  have hlen : l0.length ≤ 9223372036854775807 := hr0.2.1
  have HR := Aside0.mk hr0
  clear hr0 hc0
  go_enter Try.func55, Try.ntmps55
  go_wp2
  go_loopw [9, 10] (fun vi vj wr => ∃ i j d : Nat, i ≤ j ∧ j ≤ l0.length ∧ j < i + d ∧ Aside0 (span_Span_int.go a1 l0 d i j = span_Span_int.at a1 l0) ∧ vi = .int .i64 i ∧ vj = .int .i64 j ∧ Aside0 (Below w.heap.size w wr)) (fun vi vj _ => (intOf vj - intOf vi).toNat)
  case atStart => exact ⟨0, l0.length, l0.length + 1, Nat.zero_le _, Nat.le_refl _, by omega, ⟨rfl⟩, rfl, rfl, ⟨Below.refl _ _⟩⟩
  case round =>
    obtain ⟨i, j, d, hij, hjl, hd, HG, rfl, rfl, HB⟩ := hrel
    by_cases hlt : i < j
    · obtain ⟨m, hm⟩ : ∃ m : Nat, m = (i + j) / 2 := ⟨_, rfl⟩
      have hM : wrap64 (IntKind.u64.wrap (wrap64 ((i : Int) + j)) / 2) = (m : Int) := span_Span_int.mid i j m (by omega) (by omega) hm
      have HM := Aside0.mk hm
      clear hm
      have hml : m < l0.length := by have := HM.out; omega
      obtain ⟨ad, e, hx0, hx1⟩ := at_T45 (Kd.C_below HR.out HB.out) (m : Int) (by omega) (by omega)
      cases e
      simp only [Int.toNat_natCast] at hx0 hx1
      have hs : span_Span_int.go a1 l0 d i j = (if (rd_T45 l0 ((m : Nat) : Int)).f1 ≤ a1 then span_Span_int.go a1 l0 (d - 1) (m + 1) j else span_Span_int.go a1 l0 (d - 1) i m) := by
        obtain ⟨d, rfl⟩ : ∃ q, d = q + 1 := ⟨d - 1, by omega⟩
        rw [span_Span_int.go, if_pos hlt, ← HM.out]; rfl
      rw [hs] at HG
      clear hs
      by_cases h1 : (rd_T45 l0 ((m : Nat) : Int)).f1 ≤ a1
      · rw [if_pos h1] at HG
        have hcl := fun W => span_Span_int.clos (rd_T45 l0 ((m : Nat) : Int)).f0 (rd_T45 l0 ((m : Nat) : Int)).f1 a1 (-1) (by rw [span_Span_int.cmp, if_pos h1]) W
        clear h1
        go_wp2_with (go_at_call 56; refine (hcl _).mono ?_; rintro e w1 ⟨rfl, hb⟩)
        go_roundw
        case rel => exact ⟨m + 1, j, d - 1, by have := HM.out; omega, hjl, by have := HM.out; omega, HG, by go_num, rfl, ⟨below_then HB.out HB.out.size hb⟩⟩
        case measure => have := HM.out; simp [intOf]; omega
      · rw [if_neg h1] at HG
        by_cases h2 : (rd_T45 l0 ((m : Nat) : Int)).f0 > a1
        · have hcl := fun W => span_Span_int.clos (rd_T45 l0 ((m : Nat) : Int)).f0 (rd_T45 l0 ((m : Nat) : Int)).f1 a1 1 (by rw [span_Span_int.cmp, if_neg h1, if_pos h2]) W
          clear h1 h2
          go_wp2_with (go_at_call 56; refine (hcl _).mono ?_; rintro e w1 ⟨rfl, hb⟩)
          go_roundw
          case rel => exact ⟨i, m, d - 1, by have := HM.out; omega, by omega, by have := HM.out; omega, HG, rfl, rfl, ⟨below_then HB.out HB.out.size hb⟩⟩
          case measure => have := HM.out; simp [intOf]; omega
        · have hcl := fun W => span_Span_int.clos (rd_T45 l0 ((m : Nat) : Int)).f0 (rd_T45 l0 ((m : Nat) : Int)).f1 a1 0 (by rw [span_Span_int.cmp, if_neg h1, if_neg h2]) W
          clear h1 h2
          go_wp2_with (go_at_call 56; refine (hcl _).mono ?_; rintro e w1 ⟨rfl, hb⟩)
          go_roundw
          case rel => exact ⟨i, m, d - 1, by have := HM.out; omega, by omega, by have := HM.out; omega, HG, rfl, rfl, ⟨below_then HB.out HB.out.size hb⟩⟩
          case measure => have := HM.out; simp [intOf]; omega
    · obtain rfl : i = j := by omega
      have hat : span_Span_int.at a1 l0 = i := by
        rw [← HG.out]
        obtain ⟨d, rfl⟩ : ∃ q, d = q + 1 := ⟨d - 1, by omega⟩
        rw [span_Span_int.go, if_neg hlt]
      have hf1 : r1 = (i : Int) := by have h_ := HQ1.out; rw [hat] at h_; exact h_.symm
      have hf2 : decide (i < l0.length ∧ a1 < (rd_T45 l0 ((i : Nat) : Int)).f1 ∧ (rd_T45 l0 ((i : Nat) : Int)).f0 ≤ a1) = r2 := by have h_ := HQ2.out; rw [hat] at h_; exact h_
      have HF1 := Aside0.mk hf1
      clear hf1 hat HG hij hd HQ1 HQ2
      by_cases hin : i < l0.length
      · obtain ⟨ad, e, hx0, hx1⟩ := at_T45 (Kd.C_below HR.out HB.out) (i : Int) (by omega) (by omega)
        cases e
        simp only [Int.toNat_natCast] at hx0 hx1
        by_cases h1 : (rd_T45 l0 ((i : Nat) : Int)).f1 ≤ a1
        · rw [decide_eq_false (fun h_ => by omega)] at hf2; have HF2 := Aside0.mk hf2; clear hf2
          have hcl := fun W => span_Span_int.clos (rd_T45 l0 ((i : Nat) : Int)).f0 (rd_T45 l0 ((i : Nat) : Int)).f1 a1 (-1) (by rw [span_Span_int.cmp, if_pos h1]) W
          clear h1
          go_wp2_with (go_at_call 56; refine (hcl _).mono ?_; rintro e w1 ⟨rfl, hb⟩)
          go_ret2
          exact ⟨by cases HF1.out; cases HF2.out; rfl, below_then HB.out HB.out.size hb⟩
        · by_cases h2 : (rd_T45 l0 ((i : Nat) : Int)).f0 > a1
          · rw [decide_eq_false (fun h_ => by omega)] at hf2; have HF2 := Aside0.mk hf2; clear hf2
            have hcl := fun W => span_Span_int.clos (rd_T45 l0 ((i : Nat) : Int)).f0 (rd_T45 l0 ((i : Nat) : Int)).f1 a1 1 (by rw [span_Span_int.cmp, if_neg h1, if_pos h2]) W
            clear h1 h2
            go_wp2_with (go_at_call 56; refine (hcl _).mono ?_; rintro e w1 ⟨rfl, hb⟩)
            go_ret2
            exact ⟨by cases HF1.out; cases HF2.out; rfl, below_then HB.out HB.out.size hb⟩
          · rw [decide_eq_true ⟨hin, by omega, by omega⟩] at hf2; have HF2 := Aside0.mk hf2; clear hf2
            have hcl := fun W => span_Span_int.clos (rd_T45 l0 ((i : Nat) : Int)).f0 (rd_T45 l0 ((i : Nat) : Int)).f1 a1 0 (by rw [span_Span_int.cmp, if_neg h1, if_neg h2]) W
            clear h1 h2
            go_wp2_with (go_at_call 56; refine (hcl _).mono ?_; rintro e w1 ⟨rfl, hb⟩)
            go_ret2
            exact ⟨by cases HF1.out; cases HF2.out; rfl, below_then HB.out HB.out.size hb⟩
      · rw [decide_eq_false (fun h_ => hin h_.1)] at hf2; have HF2 := Aside0.mk hf2; clear hf2
        have hin2 : decide (i < l0.length) = false := decide_eq_false hin
        go_wp2
        go_ret2
        exact ⟨by cases HF1.out; cases HF2.out; rfl, HB.out⟩

end Go.Proofs.Ytihobchcmfamaaa.S
