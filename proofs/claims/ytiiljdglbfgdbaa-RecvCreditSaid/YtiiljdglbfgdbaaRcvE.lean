/- The receiver's methods, fifth part: Data. -/
import Derived.Test.YtiiljdglbfgdbaaRcvD

set_option linter.unusedVariables false
set_option linter.unusedSimpArgs false
namespace Go.Proofs.Ytiiljdglbfgdbaa.Rcv
open Go Go.RowKit Go.Proofs.YtiiljdglbfgdbaaW.PrintWords Go.Proofs.YtiiljdglbfgdbaaW.PrintLast Go.Proofs.YtiiljdglbfgdbaaW.PrintMore Go.Proofs.Ytiiljdglbfgdbaa Go.Proofs.Ytiiljdglbfgdbaa.Sl Go.Proofs.Ytiiljdglbfgdbaa.S
/-- Data: a unit comes. -/
def dataG (x : RS) (k : Int) : RS := if toN x.r k < toN x.r x.h then x else { x with gaps := if k ≠ x.h ∧ x.gaps.length < 8 then x.gaps ++ [⟨x.h, k⟩] else x.gaps, h := addN k 1 }
def dataF (x : RS) (n : Int) (m : ByteArray) : RS × List ByteArray :=
  if (blook x.buf (lowN n)).isSome = true ∨ ¬ toN x.r (lowN n) < toN x.r x.mr then (x, []) else deliverF (dataG { x with buf := bput x.buf (lowN n) m } (lowN n))
theorem data_kept {w0 W : World} {l : List As} {b : Nat} {x : RS} {bm : Nat} {vi vg : Value} (h : SL w0 W (partsR b x bm vi vg ++ l)) : ∃ v, Ending.returned (.slice none 0 0) = .returned v ∧ SL w0 W (Row Kd.string 9 v [] :: RecvA b x :: l) :=
  ⟨_, rfl, SL.addNil _ _ (RecvA.shut h)⟩
set_option maxHeartbeats 2000000 in
set_option maxRecDepth 100000 in
/-- What comes is kept already. -/
theorem data_have {w0 W : World} {l : List As} {b : Nat} {x : RS} (HS : SL w0 W (RecvA b x :: l)) (n k : Int) (m s : ByteArray) (hk : lowN n = k) (hh : blook x.buf k = some s) :
    Calls Try.prog 13 #[.pointer (some ⟨b, 0, none⟩), .int .u32 n, .string m] W fun e w' => ∃ v, e = .returned v ∧ SL w0 w' (Row Kd.string 9 v [] :: RecvA b x :: l) := by
  obtain ⟨bm, Ai, ci, Ag, cg, hci, hcg, h⟩ := RecvA.open_ HS
  have HS := Aside0.mk h
  have hu := Try.underlying73
  have hu2 := Try.underlying76
  have hz : ∀ w, (zeroValue 9).run Try.prog w = .ok (.string ⟨#[]⟩) w := fun w => by kernel_rfl
  have hlow : Aside0 (∀ W', Calls Try.prog 30 #[.int .u32 n] W' fun e w' => e = .returned (.int .u32 k) ∧ w' = W') := ⟨fun W' => hk ▸ low_c n W'⟩
  have HW := Aside0.mk (wfN (show 0 ≤ k ∧ k < 16777216 by rw [← hk]; unfold lowN; omega))
  obtain ⟨⟨q0, z0⟩, ⟨q1, z1⟩, ⟨q2, z2⟩, ⟨q3, z3⟩, ⟨q4, z4⟩, ⟨q5, z5⟩, ⟨q6, z6⟩⟩ := cellsAt HS.out
  have hlk : Im.look (sM x.buf) k = some (.string s) := by rw [look_sM, hh]; rfl
  have HL := Aside0.mk hlk
  clear h hci hcg hh hlk hk
  go_enter Try.func13, Try.ntmps13
  go_wp2_with (first | (go_at_call 30; (with_reducible refine (hlow.out _).mono ?_); rintro e w1 ⟨rfl, rfl⟩; skip) | (at_lookup; refine Im.wpList_look_ok _ rfl _ _ 70 rfl 27 9 .u32 Try.underlying70 Try.underlying27 (.string ⟨#[]⟩) (hz _) bm (sM x.buf) rfl (SL.mapAt HS.out (.tail _ (.head _))) k rfl HW.out ?_; simp only [HL.out, Option.getD_some, Option.isSome_some]))
  go_quiet (fail)
  go_wp2
  go_ret
  exact data_kept (SL.drewN HS.out nq)
set_option maxHeartbeats 2000000 in
set_option maxRecDepth 100000 in
/-- What comes lies beyond the window. -/
theorem data_far {w0 W : World} {l : List As} {b : Nat} {x : RS} (HS : SL w0 W (RecvA b x :: l)) (n k : Int) (m : ByteArray) (hk : lowN n = k) (hh : blook x.buf k = none) (hb : ¬ toN x.r k < toN x.r x.mr) :
    Calls Try.prog 13 #[.pointer (some ⟨b, 0, none⟩), .int .u32 n, .string m] W fun e w' => ∃ v, e = .returned v ∧ SL w0 w' (Row Kd.string 9 v [] :: RecvA b x :: l) := by
  obtain ⟨bm, Ai, ci, Ag, cg, hci, hcg, h⟩ := RecvA.open_ HS
  have HS := Aside0.mk h
  have hu := Try.underlying73
  have hu2 := Try.underlying76
  have hz : ∀ w, (zeroValue 9).run Try.prog w = .ok (.string ⟨#[]⟩) w := fun w => by kernel_rfl
  have hlow : Aside0 (∀ W', Calls Try.prog 30 #[.int .u32 n] W' fun e w' => e = .returned (.int .u32 k) ∧ w' = W') := ⟨fun W' => hk ▸ low_c n W'⟩
  have HW := Aside0.mk (wfN (show 0 ≤ k ∧ k < 16777216 by rw [← hk]; unfold lowN; omega))
  obtain ⟨⟨q0, z0⟩, ⟨q1, z1⟩, ⟨q2, z2⟩, ⟨q3, z3⟩, ⟨q4, z4⟩, ⟨q5, z5⟩, ⟨q6, z6⟩⟩ := cellsAt HS.out
  have hlk : Im.look (sM x.buf) k = none := by rw [look_sM, hh]; rfl
  have HL := Aside0.mk hlk
  have hd : decide (toN x.r k < toN x.r x.mr) = false := decide_eq_false hb
  clear h hci hcg hh hlk hk hb
  go_enter Try.func13, Try.ntmps13
  go_wp2_with (first | (go_at_call 30; (with_reducible refine (hlow.out _).mono ?_); rintro e w1 ⟨rfl, rfl⟩; skip) | (at_lookup; refine Im.wpList_look_ok _ rfl _ _ 70 rfl 27 9 .u32 Try.underlying70 Try.underlying27 (.string ⟨#[]⟩) (hz _) bm (sM x.buf) rfl (SL.mapAt HS.out (.tail _ (.head _))) k rfl HW.out ?_; simp only [HL.out, Option.getD_none, Option.isSome_none]))
  go_quiet ((first | (go_at_call 27; with_reducible exact Calls.quiet_of_same (between_c _ _ _ _))))
  go_wp2
  go_ret
  exact data_kept (SL.drewN HS.out nq)
end Go.Proofs.Ytiiljdglbfgdbaa.Rcv
