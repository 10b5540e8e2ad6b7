/- The law's awake: its walk. -/
import Derived.Test.YtiiljdglbfgdbaaRcvK

set_option linter.unusedVariables false
set_option linter.unusedSimpArgs false
namespace Go.Proofs.Ytiiljdglbfgdbaa.Rcv
open Go Go.RowKit Go.Proofs.YtiiljdglbfgdbaaW.PrintWords Go.Proofs.YtiiljdglbfgdbaaW.PrintLast Go.Proofs.YtiiljdglbfgdbaaW.PrintMore Go.Proofs.Ytiiljdglbfgdbaa Go.Proofs.Ytiiljdglbfgdbaa.Sl Go.Proofs.Ytiiljdglbfgdbaa.S Go.Proofs.Ytiiljdglbfgdbaa.SpanTh Go.Proofs.Ytiiljdglbfgdbaa.SpanEv
theorem newY {w0 W : World} {l : List As} (HS : SL w0 W l) : Calls Try.prog 11 #[.int .u32 0, .int .i64 8] W fun e w' => ∃ b, e = .returned (.pointer (some ⟨b, 0, none⟩)) ∧ SL w0 w' (RecvA b y0 :: l) := by
  have h := new_c HS 0 8
  rw [y0_eq] at h
  exact h
theorem dataY1 {w0 W : World} {l : List As} {b : Nat} (HS : SL w0 W (RecvA b y0 :: l)) : Calls Try.prog 13 #[.pointer (some ⟨b, 0, none⟩), .int .u32 1, .string ⟨#[98]⟩] W fun e w' => ∃ A c, e = .returned (.slice A 0 c) ∧ SL w0 w' (RecvA b y1 :: l) := by
  refine (data_c HS 1 ⟨#[98]⟩ ok1).mono ?_
  rintro e w' ⟨v, rfl, hs⟩
  rw [y1_eq] at hs
  obtain ⟨A, c, rfl, _⟩ := SL.form hs (.head _)
  exact ⟨A, c, rfl, SL.tail hs⟩
theorem dataY3 {w0 W : World} {l : List As} {b : Nat} (HS : SL w0 W (RecvA b y2 :: l)) : Calls Try.prog 13 #[.pointer (some ⟨b, 0, none⟩), .int .u32 0, .string ⟨#[97]⟩] W fun e w' => ∃ A c, e = .returned (.slice A 2 c) ∧ SL w0 w' (Row Kd.string 9 (.slice A 2 c) [⟨#[97]⟩, ⟨#[98]⟩] :: RecvA b y3 :: l) := by
  refine (data_c HS 0 ⟨#[97]⟩ ok3).mono ?_
  rintro e w' ⟨v, rfl, hs⟩
  rw [y3_eq] at hs
  obtain ⟨A, c, rfl, _⟩ := SL.form hs (.head _)
  exact ⟨A, c, rfl, hs⟩
theorem gapY {w0 W : World} {l : List As} {b : Nat} (HS : SL w0 W (RecvA b y1 :: l)) : Calls Try.prog 15 #[.pointer (some ⟨b, 0, none⟩)] W fun e w' => ∃ A c, e = .returned (.tuple #[.slice A 2 c, .int .u32 0, .int .u32 8, .bool true]) ∧ SL w0 w' (RecvA b y2 :: Row (Kd.int .u32) 27 (.slice A 2 c) [0, 1] :: l) := by
  refine (gap1 HS).mono ?_
  rintro e w' ⟨v, rfl, hs⟩
  obtain ⟨A, c, rfl, _⟩ := SL.form hs (.head _)
  exact ⟨A, c, rfl, SL.swap hs⟩
theorem varsY {w0 W : World} {l : List As} {b : Nat} (HS : SL w0 W (RecvA b y1 :: l)) : Calls Try.prog 16 #[.pointer (some ⟨b, 0, none⟩)] W fun e w' => e = .returned (.agg #[.int .u32 0, .int .u32 2, .int .u32 8, .int .i64 1, .int .i64 0, .int .i64 1]) ∧ SL w0 w' (RecvA b y1 :: l) := vars_c HS
theorem at2i {w : World} {A : Option Addr} {x y : Int} (h : (Kd.int .u32).C w A 2 [x, y]) : ∃ ad, A = some ad ∧ w.cell? ad = some (.int .u32 x) ∧ w.cell? ⟨ad.block, ad.off + 1, none⟩ = some (.int .u32 y) := by
  obtain ⟨ad, rfl, a0⟩ := Kd.at_int h 0 (by decide) (by decide)
  obtain ⟨ad2, e2, a1⟩ := Kd.at_int h 1 (by decide) (by decide)
  cases e2
  have ea : ad.add (Int.toNat 0) = ad := by cases ad; rfl
  rw [ea] at a0
  exact ⟨ad, rfl, a0, a1⟩
theorem at2s {w : World} {A : Option Addr} {x y : ByteArray} (h : Kd.string.C w A 2 [x, y]) : ∃ ad, A = some ad ∧ w.cell? ⟨ad.block, ad.off + 1, none⟩ = some (.string y) := by
  obtain ⟨ad, rfl, a0⟩ := Kd.at_string h 1 (by decide) (by decide)
  exact ⟨ad, rfl, a0⟩
set_option maxHeartbeats 2000000 in
set_option maxRecDepth 100000 in
theorem awake_c {w0 W : World} {l : List As} (HS : SL w0 W l) :
    Calls Try.prog 10 #[] W fun e w' => e = .returned (.bool true) ∧ SL w0 w' l := by
  have HS := Aside0.mk HS
  have hf1 : ∀ (a b c d e f : Value) (w : World), (Instr.field 36 (.agg #[a, b, c, d, e, f]) 1).run Try.prog w = .ok b w := fun _ _ _ _ _ _ _ => by kernel_rfl
  have hf5 : ∀ (a b c d e f : Value) (w : World), (Instr.field 36 (.agg #[a, b, c, d, e, f]) 5).run Try.prog w = .ok f w := fun _ _ _ _ _ _ _ => by kernel_rfl
  go_enter Try.func10, Try.ntmps10
  go_wp2_with (first
    | (go_at_call 11; (with_reducible refine (newY HS.out).mono ?_); rintro e w1 ⟨b, rfl, hs⟩; have hs2 := Aside0.mk hs; clear HS hs; have HS := hs2; clear hs2)
    | (go_at_call 13; (with_reducible refine (dataY1 HS.out).mono ?_); rintro e w2 ⟨A1, c1, rfl, hs⟩; have hs2 := Aside0.mk hs; clear HS hs; have HS := hs2; clear hs2)
    | (go_at_call 16; (with_reducible refine (varsY HS.out).mono ?_); rintro e w3 ⟨rfl, hs⟩; have hs2 := Aside0.mk hs; clear HS hs; have HS := hs2; clear hs2)
    | (go_at_call 15; (with_reducible refine (gapY HS.out).mono ?_); rintro e w4 ⟨A4, c4, rfl, hs⟩; have hs2 := Aside0.mk hs; clear HS hs; have HS := hs2; clear hs2)
    | (go_at_call 13; (with_reducible refine (dataY3 HS.out).mono ?_); rintro e w5 ⟨A5, c5, rfl, hs⟩; have hs2 := Aside0.mk hs; clear HS hs; have HS := hs2; clear hs2; obtain ⟨ad, rfl, a0, a1⟩ := at2i (SL.reads HS.out (.tail _ (.tail _ (.head _)))); obtain ⟨ad3, rfl, a3⟩ := at2s (SL.reads HS.out (.head _))))
  trace_state
  go_ret
  exact ⟨rfl, SL.tail (SL.tail (SL.tail HS.out))⟩
end Go.Proofs.Ytiiljdglbfgdbaa.Rcv
