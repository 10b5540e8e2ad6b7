-- Printed for this claim by wip/tools/pp.py (a session's program, over the kit's print with hand-made functions let in). Not trusted: Lean checks it.
import Derived.WalkSpells
import Derived.LoopTactic
import Derived.Deep.QuietTactic
import Derived.BigQuiet
import Derived.Shelf.Abstract
import Derived.Test.YtiiljdglbfgdbaaLibs
import Derived.Test.YtiiljdglbfgdbaaS0
import Derived.Test.YtiiljdglbfgdbaaS1
namespace Go.Proofs.Ytiiljdglbfgdbaa.S
open Go.RowKit Go.Proofs.YtiiljdglbfgdbaaW.PrintWords Go.Proofs.YtiiljdglbfgdbaaW.PrintLast Go.Proofs.YtiiljdglbfgdbaaW.PrintMore
attribute [local go_sem] max2_int min2_int max_two min_two max_three min_three max_four min_four   -- for this text's walks alone
set_option linter.unusedVariables false
set_option linter.unusedSimpArgs false

-- FOREIGN Derived.WalkSpells,Derived.LoopTactic,Derived.Deep.QuietTactic,Derived.BigQuiet,Derived.Shelf.Abstract,Derived.Test.YtiiljdglbfgdbaaLibs
/-! ### gaps_pairs: function 48 -/
def gaps_pairs.tov (a b : Int) : Int := (b - a) % 16777216
theorem gaps_pairs.to_f (a b : Int) : seq_Num_To.f a b = some (gaps_pairs.tov a b) := by
  unfold seq_Num_To.f gaps_pairs.tov
  rw [Bits.and_u32_mask]
  congr 1
  unfold wrap64
  omega
theorem gaps_pairs.to_calls (a b : Int) (w : World) : Calls Try.prog 17 #[.int .u32 a, .int .u32 b] w fun e w' => e = .returned (.int .i64 (gaps_pairs.tov a b)) ∧ ∃ m, w' = w.drewN m :=
  (seq_Num_To.calls a b _ w (gaps_pairs.to_f a b)).mono fun _ _ ⟨he, hd⟩ => ⟨he, hd.out⟩
theorem gaps_pairs.low_f (a : Int) : seq_Num_Low.f a = some (a % 16777216) := by
  unfold seq_Num_Low.f
  rw [Bits.and_u32_mask]
theorem gaps_pairs.low_calls (a : Int) (w : World) : Calls Try.prog 30 #[.int .u32 a] w fun e w' => e = .returned (.int .u32 (a % 16777216)) ∧ ∃ m, w' = w.drewN m :=
  (seq_Num_Low.calls a _ w (gaps_pairs.low_f a)).mono fun _ _ ⟨he, hd⟩ => ⟨he, hd.out⟩
/-- What a list's pairs come to, one by one. -/
def gaps_pairs.pairsL {σ : Type} (step : σ → Int → Int → σ) : List Int → σ → σ
  | a :: b :: rest, s => gaps_pairs.pairsL step rest (if gaps_pairs.tov a b ≤ 8388608 then step s (a % 16777216) (gaps_pairs.tov a b) else s)
  | _, s => s
theorem gaps_pairs.drop2 (l : List Int) (i : Nat) (h : i + 1 < l.length) : l.drop i = rd l (i : Int) :: rd l ((i : Int) + 1) :: l.drop (i + 2) := by
  rw [List.drop_eq_getElem_cons (by omega), List.drop_eq_getElem_cons h]
  unfold rd
  have e : ((i : Int) + 1).toNat = i + 1 := by omega
  rw [e, Int.toNat_natCast]
  simp [List.getElem?_eq_getElem (show i < l.length by omega), List.getElem?_eq_getElem h]
theorem gaps_pairs.drop1 {σ : Type} (step : σ → Int → Int → σ) (l : List Int) (i : Nat) (s : σ) (h : ¬ i + 1 < l.length) : gaps_pairs.pairsL step (l.drop i) s = s := by
  have : (l.drop i).length ≤ 1 := by rw [List.length_drop]; omega
  match hq : l.drop i, this with
  | [], _ => rfl
  | [a], _ => rfl
set_option maxHeartbeats 4000000 in
set_option maxRecDepth 100000 in
/-- gaps.pairs, with whatever it is to do of each pair: 'I' is what is known of the world behind some pairs. -/
theorem gaps_pairs.pairs_any {σ : Type} (step : σ → Int → Int → σ) (g : Nat) (cb : Array Value) (I : Nat → σ → World → Prop) (A0 : Option Addr) (c0 : Nat) (l0 : List Int) (w : World) (s0 : σ)
    (eg : ∀ args w, (callFunc g args).run Try.prog w = .ok (.enter g args) w) (hlen : l0.length < 1073741824)
    (hI : Aside0 (∀ q s W a n, q < 1073741824 → 0 ≤ a → a < 16777216 → 0 ≤ n → n ≤ 8388608 → I q s W → Calls Try.prog g (#[.int .u32 a, .int .i64 n] ++ cb) W fun e w' => e = .returned (.tuple #[]) ∧ I (q + 1) (step s a n) w')) (hm : Aside0 (∀ q s W, I q s W → I (q + 1) s W))
    (hd : Aside0 (∀ q s W n, I q s W → I q s (W.drewN n))) (hr : Aside0 (∀ q s W, I q s W → Kd.C (Kd.int .u32) W A0 l0.length l0)) (h0 : Aside0 (I 0 s0 w)) :
    Calls Try.prog 48 #[.slice A0 l0.length c0, .func (.func g) #[] cb] w fun e w' => e = .returned (.tuple #[]) ∧ ∃ q, I q (gaps_pairs.pairsL step l0 s0) w' := by
  go_enter Try.func48, Try.ntmps48
  go_wp2
  go_loopw [4] (fun vi wr => ∃ (i q : Nat) (s : σ), i ≤ l0.length + 1 ∧ q ≤ i ∧ Aside0 (gaps_pairs.pairsL step (l0.drop i) s = gaps_pairs.pairsL step l0 s0) ∧ Aside0 (I q s wr) ∧ vi = .int .i64 i) (fun vi _ => (l0.length + 1 - (intOf vi).toNat))
  case atStart => exact ⟨0, 0, s0, by omega, by omega, ⟨rfl⟩, h0, rfl⟩
  case round =>
    obtain ⟨i, q, s, hil, hqi, HS, HI, rfl⟩ := hrel
    by_cases hlt : i + 1 < l0.length
    · have h2 := gaps_pairs.drop2 l0 i hlt
      have HS2 := HS.out
      rw [h2, gaps_pairs.pairsL] at HS2
      have HS3 := Aside0.mk HS2
      clear HS HS2 h2
      obtain ⟨ad, e, hx0⟩ := Kd.at_int (hr.out _ _ _ HI.out) (i : Int) (by omega) (by omega)
      obtain ⟨ad2, e2, hx1⟩ := Kd.at_int (hr.out _ _ _ HI.out) ((i : Int) + 1) (by omega) (by omega)
      cases e
      cases e2
      simp only [Int.toNat_natCast] at hx0
      rw [show ((i : Int) + 1).toNat = i + 1 by omega, show ad.add (i + 1) = ⟨ad.block, ad.off + (i + 1), none⟩ by simp [Addr.add]] at hx1
      have hw1 : IntKind.i64.wrap ((i : Int) + 1) = (i : Int) + 1 := by rw [IntKind.wrap_i64]; omega
      have hw2 : ((i : Int) + 1).toNat = i + 1 := by omega
      have hw3 : 0 ≤ (i : Int) + 1 := by omega
      have hw4 : (i : Int) + 1 < (l0.length : Int) := by omega
      have hb1 : i < l0.length := by omega
      have hb2 : (i : Int) < (l0.length : Int) := by omega
      go_wp2_with fail
      go_quiet ((go_at_call 17; exact Calls.quiet_of (gaps_pairs.to_calls _ _ _)))
      have HI2 : Aside0 (I q s (wr.drewN nq)) := ⟨hd.out _ _ _ _ HI.out⟩
      clear hw1 hw2 hw3 hw4 hb1 hb2
      by_cases hc : gaps_pairs.tov (rd l0 (i : Int)) (rd l0 ((i : Int) + 1)) ≤ 8388608
      · have HS4 := HS3.out
        rw [if_pos hc] at HS4
        have HS5 := Aside0.mk HS4
        clear HS3 HS4
        go_wp2_with (first | (go_at_call 30; refine (gaps_pairs.low_calls _ _).mono ?_; rintro e w1 ⟨rfl, m, rfl⟩) | (go_at_fn g; refine (hI.out q s _ _ _ (by omega) (Int.emod_nonneg _ (by omega)) (Int.emod_lt_of_pos _ (by omega)) (Int.emod_nonneg _ (by omega)) (by assumption) (hd.out _ _ _ _ HI.out)).mono ?_; rintro e w1 ⟨rfl, hi1⟩))
        go_roundw
        case rel => exact ⟨i + 2, q + 1, _, by omega, by omega, HS5, ⟨hi1⟩, by go_num⟩
        case measure => simp [intOf]; omega
      · have HS4 := HS3.out
        rw [if_neg hc] at HS4
        have HS5 := Aside0.mk HS4
        clear HS3 HS4
        have hc2 : decide (gaps_pairs.tov (rd l0 (i : Int)) (rd l0 ((i : Int) + 1)) ≤ 8388608) = false := decide_eq_false hc
        go_wp2
        go_roundw
        case rel => exact ⟨i + 2, q + 1, _, by omega, by omega, HS5, ⟨hm.out _ _ _ HI2.out⟩, by go_num⟩
        case measure => simp [intOf]; omega
    · have hn : decide ((i : Int) + 1 < (l0.length : Int)) = false := decide_eq_false (by omega)
      have hw1 : wrap64 ((i : Int) + 1) = (i : Int) + 1 := by unfold wrap64; omega
      have HS2 := HS.out
      rw [gaps_pairs.drop1 step l0 i s hlt] at HS2
      have HS3 := Aside0.mk HS2
      clear HS HS2
      go_wp2
      go_end0
      exact ⟨rfl, q, HS3.out ▸ HI.out⟩

end Go.Proofs.Ytiiljdglbfgdbaa.S
