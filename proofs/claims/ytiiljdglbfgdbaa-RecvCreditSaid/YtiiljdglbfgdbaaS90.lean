/- RecvCredit: the walk. -/
import Derived.Test.YtiiljdglbfgdbaaRcvM

set_option linter.unusedVariables false
set_option linter.unusedSimpArgs false
namespace Go.Proofs.Ytiiljdglbfgdbaa.S
open Go Go.RowKit Go.Proofs.YtiiljdglbfgdbaaW.PrintWords Go.Proofs.YtiiljdglbfgdbaaW.PrintLast Go.Proofs.YtiiljdglbfgdbaaW.PrintMore Go.Proofs.Ytiiljdglbfgdbaa Go.Proofs.Ytiiljdglbfgdbaa.Sl Go.Proofs.Ytiiljdglbfgdbaa.SpanTh Go.Proofs.Ytiiljdglbfgdbaa.SpanEv Go.Proofs.Ytiiljdglbfgdbaa.Rcv
set_option maxHeartbeats 2000000 in
set_option maxRecDepth 100000 in
theorem polliwoglaw12_RecvCredit.walk (a0 a1 : Int) (A : Option Addr) (c : Nat) (l : List Int) (w : World) (hr : (Kd.int .i64).C w A l.length l) (hc : l.length ≤ c) :
    Calls Try.prog 5 #[.int .i64 a0, .int .i64 a1, .slice A l.length c] w fun e w' => e = .returned (.bool true) ∧ Below w.heap.size w w' := by
  have HS := Aside0.mk (SL.start w)
  have HR0 := Aside0.mk hr
  have HC0 := Aside0.mk hc
  clear hr hc
  have hf4 : ∀ (a b c d e f : Value) (w : World), (Instr.field 36 (.agg #[a, b, c, d, e, f]) 4).run Try.prog w = .ok e w := fun _ _ _ _ _ _ _ => by kernel_rfl
  go_enter Try.func5, Try.ntmps5
  go_wp2_with (first
    | (go_at_call 10; (with_reducible refine (awake_c HS.out).mono ?_); rintro e w1 ⟨rfl, hs⟩; have hs2 := Aside0.mk hs; clear HS hs; have HS := hs2; clear hs2)
    | (go_at_call 12; (with_reducible refine (of_c _ _).mono ?_); rintro e w1 ⟨rfl, rfl⟩; skip)
    | (go_at_call 11; (with_reducible refine (newS HS.out _ _).mono ?_); rintro e w3 ⟨b, mr, rfl, hG, hs⟩; have HG := Aside0.mk hG; have hs2 := Aside0.mk hs; clear HS hs hG; have HS := hs2; clear hs2))
  obtain ⟨wn, hwn⟩ : ∃ wn, max 1 (min a1 64) = wn := ⟨_, rfl⟩
  obtain ⟨s, hs0⟩ : ∃ s, lowN a0 = s := ⟨_, rfl⟩
  rw [hwn, hs0] at HG HS
  rw [hwn]
  have HW := Aside0.mk HG.out.win
  have HOf : Aside0 (∀ W, Calls Try.prog 12 #[.int .i64 a0] W fun e w' => e = .returned (.int .u32 s) ∧ w' = W) := ⟨fun W => hs0 ▸ of_c a0 W⟩
  clear hwn hs0
  go_loopg [9, 10, 11] (30 : Nat) (fun kq v9 v10 v11 wr => ∃ (nx mr : Int) (inb : List ByteArray) (n i : Nat), i + kq = 30 ∧ inb.length = n ∧ v9 = .int .i64 nx ∧ v10 = .int .i64 n ∧ v11 = .int .i64 i ∧ 0 ≤ nx ∧ nx ≤ 64 * i ∧ Aside0 (Gd s wn nx inb mr) ∧ Aside0 (SL w wr [RecvA b (st s wn nx inb mr)]))
  case atStart => exact ⟨0, mr, [], 0, 0, rfl, rfl, rfl, rfl, rfl, Int.le_refl _, Int.le_refl _, HG, HS⟩
  case round =>
    clear HS HG
    obtain ⟨nx, mr, inb, n, i, hi, hn, rfl, rfl, rfl, hn0, hn1, HG, HS⟩ := hrel
    by_cases h1 : i < l.length
    case neg =>
      have p1 : decide ((i : Int) < (l.length : Int)) = false := decide_eq_false (by omega)
      go_wp2
      go_ret
      exact ⟨rfl, HS.out.1⟩
    by_cases h2 : i < 30
    case neg =>
      have p1 : decide ((i : Int) < (l.length : Int)) = true := decide_eq_true (by omega)
      have p2 : decide ((i : Int) < 30) = false := decide_eq_false (by omega)
      go_wp2
      go_ret
      exact ⟨rfl, HS.out.1⟩
    have p1 : decide ((i : Int) < (l.length : Int)) = true := decide_eq_true (by omega)
    have p2 : decide ((i : Int) < 30) = true := decide_eq_true (by omega)
    have HI := Aside0.mk hi
    have HN := Aside0.mk (And.intro hn (And.intro hn0 hn1))
    have HH1 := Aside0.mk h1
    have HH2 := Aside0.mk h2
    have g1 := HG.out.room
    have g2 := HG.out.win
    have g3 := (toN_range (addN s nx) mr).1
    have hw0 : wrap64 (wn - (n : Int)) = wn - n := by rw [hn] at g1; unfold wrap64; omega
    have hnw : (n : Int) ≤ wn := by rw [hn] at g1; omega
    clear hi hn hn0 hn1 g1 g3 h2
    go_wp2_with fail
    refine (statS HG.out HS.out).mono ?_
    rintro e w4 ⟨v4, mr4, rfl, ht, hG, hs⟩
    rw [HN.out.1] at ht
    have HTo : Aside0 (∀ W, Calls Try.prog 17 #[.int .u32 (addN s nx), .int .u32 mr4] W fun e w' => e = .returned (.int .i64 (wn - n)) ∧ w' = W) := ⟨fun W => ht ▸ to_c (addN s nx) mr4 W⟩
    have HT := Aside0.mk ht
    clear HG HS ht
    have HG := Aside0.mk hG
    have HS := Aside0.mk hs
    clear hG hs
    go_wp2_with (first
      | (go_at_call 12; (with_reducible refine (HOf.out _).mono ?_); rintro e w5 ⟨rfl, rfl⟩; skip)
      | (go_at_call 14; (with_reducible refine (add_c _ _ _).mono ?_); rintro e w5 ⟨rfl, rfl⟩; skip)
      | (go_at_call 17; (with_reducible refine (HTo.out _).mono ?_); rintro e w5 ⟨rfl, rfl⟩; skip))
    go_loopg [9, 10, 55] (wn - n).toNat (fun kq v9 v10 v55 wr => ∃ (inb : List ByteArray) (j : Nat), (j : Int) + kq = wn - n ∧ v9 = .int .i64 (nx + j) ∧ v10 = .int .i64 ((n : Int) + j) ∧ v55 = .int .i64 j ∧ Aside0 (inb.length = n + j) ∧ Aside0 (toN (addN s (nx + j)) mr4 = wn - n - j) ∧ Aside0 (Gd s wn (nx + j) inb mr4) ∧ Aside0 (SL w wr [RecvA b (st s wn (nx + j) inb mr4)]))
    case atStart => exact ⟨inb, 0, by omega, by simp, by simp, rfl, ⟨HN.out.1⟩, ⟨by simpa using HT.out⟩, ⟨by simpa using HG.out⟩, ⟨by simpa using HS.out⟩⟩
    case round =>
      clear HS HG HT HTo hw0
      obtain ⟨inb2, j, hj, rfl, rfl, rfl, HL, HT, HG, HS⟩ := hrel
      by_cases h3 : (j : Int) < wn - n
      case pos =>
        have p3 : decide ((j : Int) < wn - n) = true := decide_eq_true h3
        have HJ := Aside0.mk hj
        have HJ3 := Aside0.mk h3
        have k1 := HN.out
        have k2 := HH2.out
        have hw1 : wrap64 (nx + (j : Int) + 1) = nx + j + 1 := by unfold wrap64; omega
        have hw2 : wrap64 ((n : Int) + (j : Int) + 1) = n + j + 1 := by unfold wrap64; omega
        have hw3 : wrap64 ((j : Int) + 1) = j + 1 := by unfold wrap64; omega
        clear hj h3 k1 k2
        go_wp2_with (first
          | (go_at_call 12; (with_reducible refine (HOf.out _).mono ?_); rintro e w5 ⟨rfl, rfl⟩; skip)
          | (go_at_call 14; (with_reducible refine (add_c _ _ _).mono ?_); rintro e w5 ⟨rfl, rfl⟩; skip)
          | (go_at_call 13; (with_reducible refine (dataS1 HG.out (by rw [HT.out]; have := HJ3.out; omega) _ HS.out).mono ?_); rintro e w6 ⟨A6, c6, rfl, hG, hT, hs⟩; have HT2 := Aside0.mk hT; have HG2 := Aside0.mk hG; clear HS HG hG hT; have HS := Aside0.mk hs; clear hs))
        go_roundg ((wn - n).toNat - (j + 1))
        case measure => have := HJ.out; have := HJ3.out; omega
        case rel =>
          refine ⟨inb2 ++ [⟨#[109]⟩], j + 1, ?_, ?_, ?_, ?_, ⟨?_⟩, ⟨?_⟩, ⟨?_⟩, ⟨?_⟩⟩
          · have := HJ.out; have := HJ3.out; omega
          · rw [hw1, show nx + (j : Int) + 1 = nx + ((j + 1 : Nat) : Int) by omega]
          · rw [hw2, show (n : Int) + (j : Int) + 1 = (n : Int) + ((j + 1 : Nat) : Int) by omega]
          · rw [hw3, show (j : Int) + 1 = ((j + 1 : Nat) : Int) by omega]
          · rw [List.length_append, HL.out]; rfl
          · rw [show nx + ((j + 1 : Nat) : Int) = nx + (j : Int) + 1 by omega, HT2.out, HT.out]; omega
          · rw [show nx + ((j + 1 : Nat) : Int) = nx + (j : Int) + 1 by omega]; exact HG2.out
          · rw [show nx + ((j + 1 : Nat) : Int) = nx + (j : Int) + 1 by omega]; exact HS.out
      case neg =>
        have p3 : decide ((j : Int) < wn - n) = false := decide_eq_false h3
        have HJ := Aside0.mk (show (j : Int) = wn - n by omega)
        clear hj h3
        go_wp2_with (first
          | (go_at_call 12; (with_reducible refine (HOf.out _).mono ?_); rintro e w5 ⟨rfl, rfl⟩; skip)
          | (go_at_call 14; (with_reducible refine (add_c _ _ _).mono ?_); rintro e w5 ⟨rfl, rfl⟩; skip)
          | (go_at_call 13; (with_reducible refine (dataS0 HG.out (by rw [HT.out]; have := HJ.out; omega) _ HS.out).mono ?_); rintro e w6 ⟨A6, c6, rfl, hs⟩; clear HS; have HS := Aside0.mk hs; clear hs; obtain ⟨ad, ead, hx⟩ := Kd.at_int (Kd.C_below HR0.out HS.out.1) (i : Int) (Int.natCast_nonneg _) (Int.ofNat_lt.2 HH1.out); rw [Int.toNat_natCast] at hx; cases ead)
          | (go_at_call 21; (with_reducible refine (takeS HG.out _ HS.out).mono ?_); rintro e w7 ⟨A7, c7, k7, inb3, rfl, hk, hG, hs⟩; have HK := Aside0.mk hk; clear HS HG; have HG := Aside0.mk hG; have HS := Aside0.mk hs; clear hs hG hk; have hw4 : wrap64 ((n : Int) + (j : Int) - (k7 : Int)) = inb3.length := (by have a1 := HK.out; have a2 := HL.out; have a3 := HG.out.room; have a4 := HG.out.win; have a5 := HJ.out; rw [a2] at a1; unfold wrap64; omega))
          | (go_at_call 16; (with_reducible refine (varsS HS.out).mono ?_); rintro e w8 ⟨rfl, hs⟩; clear HS; have HS := Aside0.mk hs; clear hs))
        have hw5 : wrap64 ((i : Int) + 1) = ((i + 1 : Nat) : Int) := by have := HH2.out; unfold wrap64; omega
        go_roundg (30 - (i + 1))
        case measure => have := HI.out; have := HH2.out; omega
        case rel =>
          refine ⟨nx + j, mr4, inb3, inb3.length, i + 1, ?_, rfl, rfl, rfl, ?_, ?_, ?_, HG, HS⟩
          · have := HH2.out; omega
          · rw [hw5]
          · have := HN.out; omega
          · have := HN.out; have := HJ.out; have := HW.out; omega
/-- What the law answers. -/
def polliwoglaw12_RecvCredit.f (a0 a1 : Int) (l : List Int) : Option Bool := some true
theorem polliwoglaw12_RecvCredit.calls (a0 a1 : Int) (A2 : Option Addr) (c2 : Nat) (l2 : List Int) (r : Bool) (w : World) (hr2 : (Kd.int .i64).C w A2 l2.length l2) (hc2 : l2.length ≤ c2) (h : polliwoglaw12_RecvCredit.f a0 a1 l2 = some r) :
    Calls Try.prog 5 #[.int .i64 a0, .int .i64 a1, .slice A2 l2.length c2] w fun e w' => e = .returned (.bool r) ∧ Below w.heap.size w w' := by
  have e : true = r := Option.some.inj h
  subst e
  exact polliwoglaw12_RecvCredit.walk a0 a1 A2 c2 l2 w hr2 hc2
end Go.Proofs.Ytiiljdglbfgdbaa.S
