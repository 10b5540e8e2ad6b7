/- The receiver's methods, sixth part: Data, where the unit is kept. -/
import Derived.Test.YtiiljdglbfgdbaaRcvE

set_option linter.unusedVariables false
set_option linter.unusedSimpArgs false
namespace Go.Proofs.Ytiiljdglbfgdbaa.Rcv
open Go Go.RowKit Go.Proofs.YtiiljdglbfgdbaaW.PrintWords Go.Proofs.YtiiljdglbfgdbaaW.PrintLast Go.Proofs.YtiiljdglbfgdbaaW.PrintMore Go.Proofs.Ytiiljdglbfgdbaa Go.Proofs.Ytiiljdglbfgdbaa.Sl Go.Proofs.Ytiiljdglbfgdbaa.S
set_option maxHeartbeats 2000000 in
set_option maxRecDepth 100000 in
theorem data_in {w0 W : World} {l : List As} {b : Nat} {x : RS} (HS : SL w0 W (RecvA b x :: l)) (n k : Int) (m : ByteArray) (hk : lowN n = k) (hh : blook x.buf k = none) (hb : toN x.r k < toN x.r x.mr) (hi : toN x.r k < toN x.r x.h) (hx2 : ({ x with buf := bput x.buf k m } : RS).Ok) :
    Calls Try.prog 13 #[.pointer (some ⟨b, 0, none⟩), .int .u32 n, .string m] W fun e w' => ∃ v, e = .returned v ∧ SL w0 w' (Row Kd.string 9 v (deliverF { x with buf := bput x.buf k m }).2 :: RecvA b (deliverF { x with buf := bput x.buf k m }).1 :: l) := by
  obtain ⟨bm, Ai, ci, Ag, cg, hci, hcg, h⟩ := RecvA.open_ HS
  have HS := Aside0.mk h
  have hu := Try.underlying73
  have hu2 := Try.underlying76
  have hz : ∀ w, (zeroValue 9).run Try.prog w = .ok (.string ⟨#[]⟩) w := fun w => by kernel_rfl
  have hlow : Aside0 (∀ W', Calls Try.prog 30 #[.int .u32 n] W' fun e w' => e = .returned (.int .u32 k) ∧ w' = W') := ⟨fun W' => hk ▸ low_c n W'⟩
  have HW := Aside0.mk (wfN (show 0 ≤ k ∧ k < 16777216 by rw [← hk]; unfold lowN; omega))
  obtain ⟨⟨q0, z0⟩, ⟨q1, z1⟩, ⟨q2, z2⟩, ⟨q3, z3⟩, ⟨q4, z4⟩, ⟨q5, z5⟩, ⟨q6, z6⟩⟩ := cellsAt HS.out
  have hlk : Im.look (sM x.buf) k = none := by rw [look_sM, hh]; rfl
  have HL := Aside0.mk hlk
  have hd : decide (toN x.r k < toN x.r x.mr) = true := decide_eq_true hb
  have HX := Aside0.mk hx2
  clear h hci hcg hh hlk hk hb hx2
  have hd2 : decide (toN x.r k < toN x.r x.h) = true := decide_eq_true hi
  clear hi
  go_enter Try.func13, Try.ntmps13
  go_wp2_with (first | (go_at_call 30; (with_reducible refine (hlow.out _).mono ?_); rintro e w1 ⟨rfl, rfl⟩; skip) | (at_lookup; refine Im.wpList_look_ok _ rfl _ _ 70 rfl 27 9 .u32 Try.underlying70 Try.underlying27 (.string ⟨#[]⟩) (hz _) bm (sM x.buf) rfl (SL.mapAt HS.out (.tail _ (.head _))) k rfl HW.out ?_; simp only [HL.out, Option.getD_none, Option.isSome_none]))
  go_quiet ((first | (go_at_call 27; with_reducible exact Calls.quiet_of_same (between_c _ _ _ _))))
  go_wp2_with (at_mapUpdate; refine wpList_mput rfl _ _ _ 70 rfl 27 9 .u32 Try.underlying70 Try.underlying27 bm (sM x.buf) rfl (SL.swap (by (with_reducible repeat (first | apply SL.alloc | apply SL.drewN | apply SL.drew)); exact HS.out)) k (.string m) rfl rfl HW.out ?_; rw [put_sM]; intro w5 hs; have hs2 := Aside0.mk (show SL w0 w5 (partsR b { x with buf := bput x.buf k m } bm (.slice Ai x.inb.length ci) (.slice Ag x.gaps.length cg) ++ l) from SL.swap hs); clear HS hs q0 q1 q2 q3 q4 q5 q6 z0 z1 z2 z3 z4 z5 z6; have HS := hs2; clear hs2; obtain ⟨⟨q0, z0⟩, ⟨q1, z1⟩, ⟨q2, z2⟩, ⟨q3, z3⟩, ⟨q4, z4⟩, ⟨q5, z5⟩, ⟨q6, z6⟩⟩ := cellsAt HS.out)
  go_quiet ((first | (go_at_call 27; with_reducible exact Calls.quiet_of_same (between_c _ _ _ _))))
  go_wp2_with (go_at_call 31; (with_reducible refine (deliver_c HX.out (RecvA.shut (by (with_reducible repeat (first | apply SL.alloc | apply SL.drewN | apply SL.drew)); exact HS.out))).mono ?_); rintro e w9 ⟨v, rfl, hs⟩; obtain ⟨A9, c9, e9, _⟩ := SL.form hs (.head _); subst e9; have hs2 := Aside0.mk hs; clear HS hs; have HS := hs2; clear hs2)
  go_ret
  exact ⟨_, rfl, HS.out⟩
set_option maxHeartbeats 2000000 in
set_option maxRecDepth 100000 in
theorem data_eq {w0 W : World} {l : List As} {b : Nat} {x : RS} (HS : SL w0 W (RecvA b x :: l)) (n k : Int) (m : ByteArray) (hk : lowN n = k) (hh : blook x.buf k = none) (hb : toN x.r k < toN x.r x.mr) (hi : ¬ toN x.r k < toN x.r x.h) (he : k = x.h) (hx2 : ({ x with buf := bput x.buf k m, h := addN k 1 } : RS).Ok) :
    Calls Try.prog 13 #[.pointer (some ⟨b, 0, none⟩), .int .u32 n, .string m] W fun e w' => ∃ v, e = .returned v ∧ SL w0 w' (Row Kd.string 9 v (deliverF { x with buf := bput x.buf k m, h := addN k 1 }).2 :: RecvA b (deliverF { x with buf := bput x.buf k m, h := addN k 1 }).1 :: l) := by
  obtain ⟨bm, Ai, ci, Ag, cg, hci, hcg, h⟩ := RecvA.open_ HS
  have HS := Aside0.mk h
  have hu := Try.underlying73
  have hu2 := Try.underlying76
  have hz : ∀ w, (zeroValue 9).run Try.prog w = .ok (.string ⟨#[]⟩) w := fun w => by kernel_rfl
  have hlow : Aside0 (∀ W', Calls Try.prog 30 #[.int .u32 n] W' fun e w' => e = .returned (.int .u32 k) ∧ w' = W') := ⟨fun W' => hk ▸ low_c n W'⟩
  have HW := Aside0.mk (wfN (show 0 ≤ k ∧ k < 16777216 by rw [← hk]; unfold lowN; omega))
  obtain ⟨⟨q0, z0⟩, ⟨q1, z1⟩, ⟨q2, z2⟩, ⟨q3, z3⟩, ⟨q4, z4⟩, ⟨q5, z5⟩, ⟨q6, z6⟩⟩ := cellsAt HS.out
  have hlk : Im.look (sM x.buf) k = none := by rw [look_sM, hh]; rfl
  have HL := Aside0.mk hlk
  have hd : decide (toN x.r k < toN x.r x.mr) = true := decide_eq_true hb
  have HX := Aside0.mk hx2
  clear h hci hcg hh hlk hk hb hx2
  have hd2 : decide (toN x.r k < toN x.r x.h) = false := decide_eq_false hi
  clear hi
  have g1 : (k != x.h) = false := by rw [bne_eq_false_iff_eq]; exact he
  have g2 : (k == x.h) = true := beq_iff_eq.mpr he
  clear he
  go_enter Try.func13, Try.ntmps13
  go_wp2_with (first | (go_at_call 30; (with_reducible refine (hlow.out _).mono ?_); rintro e w1 ⟨rfl, rfl⟩; skip) | (at_lookup; refine Im.wpList_look_ok _ rfl _ _ 70 rfl 27 9 .u32 Try.underlying70 Try.underlying27 (.string ⟨#[]⟩) (hz _) bm (sM x.buf) rfl (SL.mapAt HS.out (.tail _ (.head _))) k rfl HW.out ?_; simp only [HL.out, Option.getD_none, Option.isSome_none]))
  go_quiet ((first | (go_at_call 27; with_reducible exact Calls.quiet_of_same (between_c _ _ _ _))))
  go_wp2_with (at_mapUpdate; refine wpList_mput rfl _ _ _ 70 rfl 27 9 .u32 Try.underlying70 Try.underlying27 bm (sM x.buf) rfl (SL.swap (by (with_reducible repeat (first | apply SL.alloc | apply SL.drewN | apply SL.drew)); exact HS.out)) k (.string m) rfl rfl HW.out ?_; rw [put_sM]; intro w5 hs; have hs2 := Aside0.mk (show SL w0 w5 (partsR b { x with buf := bput x.buf k m } bm (.slice Ai x.inb.length ci) (.slice Ag x.gaps.length cg) ++ l) from SL.swap hs); clear HS hs q0 q1 q2 q3 q4 q5 q6 z0 z1 z2 z3 z4 z5 z6; have HS := hs2; clear hs2; obtain ⟨⟨q0, z0⟩, ⟨q1, z1⟩, ⟨q2, z2⟩, ⟨q3, z3⟩, ⟨q4, z4⟩, ⟨q5, z5⟩, ⟨q6, z6⟩⟩ := cellsAt HS.out)
  go_quiet ((first | (go_at_call 27; with_reducible exact Calls.quiet_of_same (between_c _ _ _ _))))
  go_wp2_with (first | (go_at_call 14; (with_reducible refine (add_c _ _ _).mono ?_); rintro e w1 ⟨rfl, rfl⟩; skip) | ((with_reducible refine gate_callee (f := 31) rfl ?_); fail))
  have h2 := SL.set (cs' := cellsR { x with buf := bput x.buf k m, h := addN k 1 } bm (.slice Ai x.inb.length ci) (.slice Ag x.gaps.length cg)) (SL.drewN HS.out nq) 1 (.int .u32 (addN k 1)) rfl
  refine (deliver_c HX.out (RecvA.shut (x := { x with buf := bput x.buf k m, h := addN k 1 }) h2)).mono ?_
  rintro e w9 ⟨v, rfl, hs⟩
  obtain ⟨A9, c9, e9, _⟩ := SL.form hs (.head _)
  subst e9
  have hs2 := Aside0.mk hs
  clear hs h2
  go_wp2
  go_ret
  exact ⟨_, rfl, hs2.out⟩
set_option maxHeartbeats 2000000 in
set_option maxRecDepth 100000 in
theorem data_full {w0 W : World} {l : List As} {b : Nat} {x : RS} (HS : SL w0 W (RecvA b x :: l)) (n k : Int) (m : ByteArray) (hk : lowN n = k) (hh : blook x.buf k = none) (hb : toN x.r k < toN x.r x.mr) (hi : ¬ toN x.r k < toN x.r x.h) (he : k ≠ x.h) (hf : ¬ x.gaps.length < 8) (hx2 : ({ x with buf := bput x.buf k m, h := addN k 1 } : RS).Ok) :
    Calls Try.prog 13 #[.pointer (some ⟨b, 0, none⟩), .int .u32 n, .string m] W fun e w' => ∃ v, e = .returned v ∧ SL w0 w' (Row Kd.string 9 v (deliverF { x with buf := bput x.buf k m, h := addN k 1 }).2 :: RecvA b (deliverF { x with buf := bput x.buf k m, h := addN k 1 }).1 :: l) := by
  obtain ⟨bm, Ai, ci, Ag, cg, hci, hcg, h⟩ := RecvA.open_ HS
  have HS := Aside0.mk h
  have hu := Try.underlying73
  have hu2 := Try.underlying76
  have hz : ∀ w, (zeroValue 9).run Try.prog w = .ok (.string ⟨#[]⟩) w := fun w => by kernel_rfl
  have hlow : Aside0 (∀ W', Calls Try.prog 30 #[.int .u32 n] W' fun e w' => e = .returned (.int .u32 k) ∧ w' = W') := ⟨fun W' => hk ▸ low_c n W'⟩
  have HW := Aside0.mk (wfN (show 0 ≤ k ∧ k < 16777216 by rw [← hk]; unfold lowN; omega))
  obtain ⟨⟨q0, z0⟩, ⟨q1, z1⟩, ⟨q2, z2⟩, ⟨q3, z3⟩, ⟨q4, z4⟩, ⟨q5, z5⟩, ⟨q6, z6⟩⟩ := cellsAt HS.out
  have hlk : Im.look (sM x.buf) k = none := by rw [look_sM, hh]; rfl
  have HL := Aside0.mk hlk
  have hd : decide (toN x.r k < toN x.r x.mr) = true := decide_eq_true hb
  have HX := Aside0.mk hx2
  clear h hci hcg hh hlk hk hb hx2
  have hd2 : decide (toN x.r k < toN x.r x.h) = false := decide_eq_false hi
  clear hi
  have g1 : (k != x.h) = true := bne_iff_ne.mpr he
  have g2 : (k == x.h) = false := beq_eq_false_iff_ne.mpr he
  have g3 : decide ((x.gaps.length : Int) < 8) = false := decide_eq_false (by omega)
  have g4 : decide (x.gaps.length < 8) = false := decide_eq_false hf
  clear he hf
  go_enter Try.func13, Try.ntmps13
  go_wp2_with (first | (go_at_call 30; (with_reducible refine (hlow.out _).mono ?_); rintro e w1 ⟨rfl, rfl⟩; skip) | (at_lookup; refine Im.wpList_look_ok _ rfl _ _ 70 rfl 27 9 .u32 Try.underlying70 Try.underlying27 (.string ⟨#[]⟩) (hz _) bm (sM x.buf) rfl (SL.mapAt HS.out (.tail _ (.head _))) k rfl HW.out ?_; simp only [HL.out, Option.getD_none, Option.isSome_none]))
  go_quiet ((first | (go_at_call 27; with_reducible exact Calls.quiet_of_same (between_c _ _ _ _))))
  go_wp2_with (at_mapUpdate; refine wpList_mput rfl _ _ _ 70 rfl 27 9 .u32 Try.underlying70 Try.underlying27 bm (sM x.buf) rfl (SL.swap (by (with_reducible repeat (first | apply SL.alloc | apply SL.drewN | apply SL.drew)); exact HS.out)) k (.string m) rfl rfl HW.out ?_; rw [put_sM]; intro w5 hs; have hs2 := Aside0.mk (show SL w0 w5 (partsR b { x with buf := bput x.buf k m } bm (.slice Ai x.inb.length ci) (.slice Ag x.gaps.length cg) ++ l) from SL.swap hs); clear HS hs q0 q1 q2 q3 q4 q5 q6 z0 z1 z2 z3 z4 z5 z6; have HS := hs2; clear hs2; obtain ⟨⟨q0, z0⟩, ⟨q1, z1⟩, ⟨q2, z2⟩, ⟨q3, z3⟩, ⟨q4, z4⟩, ⟨q5, z5⟩, ⟨q6, z6⟩⟩ := cellsAt HS.out)
  go_quiet ((first | (go_at_call 27; with_reducible exact Calls.quiet_of_same (between_c _ _ _ _))))
  go_wp2_with (first | (go_at_call 14; (with_reducible refine (add_c _ _ _).mono ?_); rintro e w1 ⟨rfl, rfl⟩; skip) | ((with_reducible refine gate_callee (f := 31) rfl ?_); fail))
  have h2 := SL.set (cs' := cellsR { x with buf := bput x.buf k m, h := addN k 1 } bm (.slice Ai x.inb.length ci) (.slice Ag x.gaps.length cg)) (SL.drewN HS.out nq) 1 (.int .u32 (addN k 1)) rfl
  refine (deliver_c HX.out (RecvA.shut (x := { x with buf := bput x.buf k m, h := addN k 1 }) h2)).mono ?_
  rintro e w9 ⟨v, rfl, hs⟩
  obtain ⟨A9, c9, e9, _⟩ := SL.form hs (.head _)
  subst e9
  have hs2 := Aside0.mk hs
  clear hs h2
  go_wp2
  go_ret
  exact ⟨_, rfl, hs2.out⟩
set_option maxHeartbeats 2000000 in
set_option maxRecDepth 100000 in
theorem data_gap {w0 W : World} {l : List As} {b : Nat} {x : RS} (HS : SL w0 W (RecvA b x :: l)) (n k : Int) (m : ByteArray) (hk : lowN n = k) (hh : blook x.buf k = none) (hb : toN x.r k < toN x.r x.mr) (hi : ¬ toN x.r k < toN x.r x.h) (he : k ≠ x.h) (hf : x.gaps.length < 8) (hx2 : ({ x with buf := bput x.buf k m, gaps := x.gaps ++ [⟨x.h, k⟩], h := addN k 1 } : RS).Ok) :
    Calls Try.prog 13 #[.pointer (some ⟨b, 0, none⟩), .int .u32 n, .string m] W fun e w' => ∃ v, e = .returned v ∧ SL w0 w' (Row Kd.string 9 v (deliverF { x with buf := bput x.buf k m, gaps := x.gaps ++ [⟨x.h, k⟩], h := addN k 1 }).2 :: RecvA b (deliverF { x with buf := bput x.buf k m, gaps := x.gaps ++ [⟨x.h, k⟩], h := addN k 1 }).1 :: l) := by
  obtain ⟨bm, Ai, ci, Ag, cg, hci, hcg, h⟩ := RecvA.open_ HS
  have HS := Aside0.mk h
  have hu := Try.underlying73
  have hu2 := Try.underlying76
  have hz : ∀ w, (zeroValue 9).run Try.prog w = .ok (.string ⟨#[]⟩) w := fun w => by kernel_rfl
  have hlow : Aside0 (∀ W', Calls Try.prog 30 #[.int .u32 n] W' fun e w' => e = .returned (.int .u32 k) ∧ w' = W') := ⟨fun W' => hk ▸ low_c n W'⟩
  have HW := Aside0.mk (wfN (show 0 ≤ k ∧ k < 16777216 by rw [← hk]; unfold lowN; omega))
  obtain ⟨⟨q0, z0⟩, ⟨q1, z1⟩, ⟨q2, z2⟩, ⟨q3, z3⟩, ⟨q4, z4⟩, ⟨q5, z5⟩, ⟨q6, z6⟩⟩ := cellsAt HS.out
  have hlk : Im.look (sM x.buf) k = none := by rw [look_sM, hh]; rfl
  have HL := Aside0.mk hlk
  have hd : decide (toN x.r k < toN x.r x.mr) = true := decide_eq_true hb
  have HX := Aside0.mk hx2
  clear h hci hcg hh hlk hk hb hx2
  have hd2 : decide (toN x.r k < toN x.r x.h) = false := decide_eq_false hi
  clear hi
  have g1 : (k != x.h) = true := bne_iff_ne.mpr he
  have g2 : (k == x.h) = false := beq_eq_false_iff_ne.mpr he
  have g3 : decide ((x.gaps.length : Int) < 8) = true := decide_eq_true (by omega)
  have g4 : decide (x.gaps.length < 8) = true := decide_eq_true hf
  have HF := Aside0.mk hf
  clear he hf
  go_enter Try.func13, Try.ntmps13
  go_wp2_with (first | (go_at_call 30; (with_reducible refine (hlow.out _).mono ?_); rintro e w1 ⟨rfl, rfl⟩; skip) | (at_lookup; refine Im.wpList_look_ok _ rfl _ _ 70 rfl 27 9 .u32 Try.underlying70 Try.underlying27 (.string ⟨#[]⟩) (hz _) bm (sM x.buf) rfl (SL.mapAt HS.out (.tail _ (.head _))) k rfl HW.out ?_; simp only [HL.out, Option.getD_none, Option.isSome_none]))
  go_quiet ((first | (go_at_call 27; with_reducible exact Calls.quiet_of_same (between_c _ _ _ _))))
  go_wp2_with (at_mapUpdate; refine wpList_mput rfl _ _ _ 70 rfl 27 9 .u32 Try.underlying70 Try.underlying27 bm (sM x.buf) rfl (SL.swap (by (with_reducible repeat (first | apply SL.alloc | apply SL.drewN | apply SL.drew)); exact HS.out)) k (.string m) rfl rfl HW.out ?_; rw [put_sM]; intro w5 hs; have hs2 := Aside0.mk (show SL w0 w5 (partsR b { x with buf := bput x.buf k m } bm (.slice Ai x.inb.length ci) (.slice Ag x.gaps.length cg) ++ l) from SL.swap hs); clear HS hs q0 q1 q2 q3 q4 q5 q6 z0 z1 z2 z3 z4 z5 z6; have HS := hs2; clear hs2; obtain ⟨⟨q0, z0⟩, ⟨q1, z1⟩, ⟨q2, z2⟩, ⟨q3, z3⟩, ⟨q4, z4⟩, ⟨q5, z5⟩, ⟨q6, z6⟩⟩ := cellsAt HS.out)
  go_quiet ((first | (go_at_call 27; with_reducible exact Calls.quiet_of_same (between_c _ _ _ _))))
  go_wp2
  refine start_ (n := 16) (S := fun w' => w'.cell? ⟨b, 1, none⟩ = some (.int .u32 x.h) ∧ w'.cell? ⟨b, 6, none⟩ = some (.slice Ag x.gaps.length cg)) (ds := [15]) #[false, false, false, false, false, false, false, false, false, false, false, false, false, false, false, false] (by kernel_rfl) rfl rfl ⟨q1, q6⟩ (fun hHeld => ?_)
  have hs_ := Aside0.mk (SL.drew (W := w5.drewN nq) (by repeat (first | (with_reducible exact HS.out) | (with_reducible apply SL.alloc) | (with_reducible apply SL.drewN) | (with_reducible apply SL.drew))))
  clear HS
  have HS := hs_
  clear hs_
  generalize (w5.drewN nq : World).drew = W7 at HS hHeld ⊢
  refine pure_ (i := 0) (N := (some 65)) (v := ?_) (a' := ?_) #[true, false, false, false, false, false, false, false, false, false, false, false, false, false, false, false] rfl rfl (by kernel_rfl) (fun _ _ _ h => h) (Or.inl ⟨by rfl, ?_⟩) ?_ ?_
  rotate_left
  · intro w'; go_simp; with_reducible rfl
  rotate_left
  · simp only [Act.put, List.setIfInBounds_toArray, List.set_cons_zero, List.set_cons_succ, i64_w, i32_w]; rfl
  refine pure_ (i := 1) (N := (some 66)) (v := ?_) (a' := ?_) #[true, true, false, false, false, false, false, false, false, false, false, false, false, false, false, false] rfl rfl (by kernel_rfl) (fun _ _ _ h => h) (Or.inl ⟨by rfl, ?_⟩) ?_ ?_
  rotate_left
  · intro w'; go_simp; with_reducible rfl
  rotate_left
  · simp only [Act.put, List.setIfInBounds_toArray, List.set_cons_zero, List.set_cons_succ, i64_w, i32_w]; rfl
  refine pure_ (i := 2) (N := (some 67)) (v := ?_) (a' := ?_) #[true, true, true, false, false, false, false, false, false, false, false, false, false, false, false, false] rfl rfl (by kernel_rfl) (fun _ _ _ h => h) (Or.inl ⟨by rfl, ?_⟩) ?_ ?_
  rotate_left
  · intro w'; go_simp; with_reducible rfl
  rotate_left
  · simp only [Act.put, List.setIfInBounds_toArray, List.set_cons_zero, List.set_cons_succ, i64_w, i32_w]; rfl
  refine pure_ (i := 3) (N := (some 68)) (v := ?_) (a' := ?_) #[true, true, true, true, false, false, false, false, false, false, false, false, false, false, false, false] rfl rfl (by kernel_rfl) (fun _ _ _ h => h) (Or.inl ⟨by rfl, ?_⟩) ?_ ?_
  rotate_left
  · intro w'; go_simp; with_reducible rfl
  rotate_left
  · simp only [Act.put, List.setIfInBounds_toArray, List.set_cons_zero, List.set_cons_succ, i64_w, i32_w]; rfl
  refine pure_ (i := 5) (N := (some 70)) (v := ?_) (a' := ?_) #[true, true, true, true, false, true, false, false, false, false, false, false, false, false, false, false] rfl rfl (by kernel_rfl) (fun _ _ _ h => h) (Or.inl ⟨by rfl, ?_⟩) ?_ ?_
  rotate_left
  · intro w'; go_simp; with_reducible rfl
  rotate_left
  · simp only [Act.put, List.setIfInBounds_toArray, List.set_cons_zero, List.set_cons_succ, i64_w, i32_w]; rfl
  refine pure_ (i := 6) (N := (some 71)) (v := ?_) (a' := ?_) #[true, true, true, true, false, true, true, false, false, false, false, false, false, false, false, false] rfl rfl (by kernel_rfl) (fun _ _ _ h => h) (Or.inl ⟨by rfl, ?_⟩) ?_ ?_
  rotate_left
  · intro w'; go_simp; with_reducible rfl
  rotate_left
  · simp only [Act.put, List.setIfInBounds_toArray, List.set_cons_zero, List.set_cons_succ, i64_w, i32_w]; rfl
  refine pure_ (i := 7) (N := (some 72)) (v := ?_) (a' := ?_) #[true, true, true, true, false, true, true, true, false, false, false, false, false, false, false, false] rfl rfl (by kernel_rfl) (fun _ _ _ h => h) (Or.inl ⟨by rfl, ?_⟩) ?_ ?_
  rotate_left
  · intro w'; go_simp; with_reducible rfl
  rotate_left
  · simp only [Act.put, List.setIfInBounds_toArray, List.set_cons_zero, List.set_cons_succ, i64_w, i32_w]; rfl
  refine pure_ (i := 9) (N := (some 74)) (v := ?_) (a' := ?_) #[true, true, true, true, false, true, true, true, false, true, false, false, false, false, false, false] rfl rfl (by kernel_rfl) (fun _ _ _ h => h) (Or.inl ⟨by rfl, ?_⟩) ?_ ?_
  rotate_left
  · intro w'; go_simp; with_reducible rfl
  rotate_left
  · simp only [Act.put, List.setIfInBounds_toArray, List.set_cons_zero, List.set_cons_succ, i64_w, i32_w]; rfl
  refine take_ (i := 4) (N := (some 69)) (v := ?_) (a' := ?_) #[true, true, true, true, true, true, true, true, false, true, false, false, false, false, false, false] rfl rfl (by kernel_rfl) (fun _ _ _ h => h) (Or.inl ⟨by rfl, ?_⟩) hHeld ?_ ?_
  rotate_left
  · rintro w' ⟨s0, s1⟩; go_simp; with_reducible rfl
  rotate_left
  · simp only [Act.put, List.setIfInBounds_toArray, List.set_cons_zero, List.set_cons_succ, i64_w, i32_w]; rfl
  refine take_ (i := 8) (N := (some 73)) (v := ?_) (a' := ?_) #[true, true, true, true, true, true, true, true, true, true, false, false, false, false, false, false] rfl rfl (by kernel_rfl) (fun _ _ _ h => h) (Or.inl ⟨by rfl, ?_⟩) hHeld ?_ ?_
  rotate_left
  · rintro w' ⟨s0, s1⟩; go_simp; with_reducible rfl
  rotate_left
  · simp only [Act.put, List.setIfInBounds_toArray, List.set_cons_zero, List.set_cons_succ, i64_w, i32_w]; rfl
  refine pure_ (i := 10) (N := (some 75)) (v := ?_) (a' := ?_) #[true, true, true, true, true, true, true, true, true, true, true, false, false, false, false, false] rfl rfl (by kernel_rfl) (fun _ _ _ h => h) (Or.inl ⟨by rfl, ?_⟩) ?_ ?_
  rotate_left
  · intro w'; go_simp; with_reducible rfl
  rotate_left
  · simp only [Act.put, List.setIfInBounds_toArray, List.set_cons_zero, List.set_cons_succ, i64_w, i32_w]; rfl
  refine one_ (i := 11) (N := (some 76)) #[true, true, true, true, true, true, true, true, true, true, true, true, false, false, false, false] rfl rfl (by kernel_rfl) (by decide) (fun K hK => ?_)
  refine val_ (v := .slice (some ⟨W7.heap.size, 0, none⟩) 1 1) (w1 := W7.alloc (.cells #[.int .u32 x.h, .int .u32 k] 76)) (by rfl) rfl (by go_simp) ?_
  refine hK.out _ _ (by obtain ⟨_, ⟨s1, _⟩, _, _, _, _, ⟨s6, _⟩⟩ := cellsAt (SL.alloc HS.out (.cells #[.int .u32 x.h, .int .u32 k] 76)); exact ⟨s1, s6⟩) (fun hHeld => ?_)
  clear hK K
  refine norm_ (a' := ?_) ?_ ?_
  rotate_left
  · show Act.put _ (some 76) _ = _; simp only [Act.put, List.setIfInBounds_toArray, List.set_cons_zero, List.set_cons_succ, i64_w, i32_w]; rfl
  refine one_ (i := 12) (N := (some 77)) #[true, true, true, true, true, true, true, true, true, true, true, true, true, false, false, false] rfl rfl (by kernel_rfl) (by decide) (fun K hK => ?_)
  refine step_append1 kG (by rfl) (.tmp 69) (.tmp 76) 71 76 (.agg #[.int .u32 0, .int .u32 0]) 8 rfl Try.underlying71 infoG rfl (by decide) (by omega) (.slice Ag x.gaps.length cg) x.gaps ⟨x.h, k⟩ [.int .u32 x.h, .int .u32 k] rfl rfl (kG_mkM _ _ _ ⟨x.h, k⟩) (SL.pk [3] HS.out) (by have := HF.out; omega) ?_
  intro v6 w6 hs
  have hs2 := Aside0.mk (show SL w0 w6 (Row kG 76 v6 (x.gaps ++ [⟨x.h, k⟩]) :: Blk b (cellsR { x with buf := bput x.buf k m } bm (.slice Ai x.inb.length ci) (.slice Ag x.gaps.length cg)) 73 :: MapA .u32 bm (sM (bput x.buf k m)) :: Row Kd.string 9 (.slice Ai x.inb.length ci) x.inb :: l) from hs)
  clear HS hs q0 q1 q2 q3 q4 q5 q6 z0 z1 z2 z3 z4 z5 z6
  have HS := hs2
  clear hs2
  obtain ⟨A6, c6, e6, _⟩ := SL.form HS.out (.head _)
  subst e6
  obtain ⟨q1, z1⟩ := SL.cell HS.out (.tail _ (.head _)) 1 (v := .int .u32 x.h) rfl
  obtain ⟨q6, z6⟩ := SL.cell HS.out (.tail _ (.head _)) 6 (v := .slice Ag x.gaps.length cg) rfl
  refine hK.out _ _ ⟨q1, q6⟩ (fun hHeld => ?_)
  clear hK K
  refine norm_ (a' := ?_) ?_ ?_
  rotate_left
  · show Act.put _ (some 77) _ = _; simp only [Act.put, List.setIfInBounds_toArray, List.set_cons_zero, List.set_cons_succ, i64_w, i32_w]; rfl
  refine pure_ (i := 13) (N := (some 78)) (v := ?_) (a' := ?_) #[true, true, true, true, true, true, true, true, true, true, true, true, true, true, false, false] rfl rfl (by kernel_rfl) (fun _ _ _ h => h) (Or.inl ⟨by rfl, ?_⟩) ?_ ?_
  rotate_left
  · intro w'; go_simp; with_reducible rfl
  rotate_left
  · simp only [Act.put, List.setIfInBounds_toArray, List.set_cons_zero, List.set_cons_succ, i64_w, i32_w]; rfl
  refine pure_ (i := 14) (N := (some 79)) (v := ?_) (a' := ?_) #[true, true, true, true, true, true, true, true, true, true, true, true, true, true, true, false] rfl rfl (by kernel_rfl) (fun _ _ _ h => h) (Or.inl ⟨by rfl, ?_⟩) ?_ ?_
  rotate_left
  · intro w'; go_simp; with_reducible rfl
  rotate_left
  · simp only [Act.put, List.setIfInBounds_toArray, List.set_cons_zero, List.set_cons_succ, i64_w, i32_w]; rfl
  refine last_ (i := 15) (N := none) #[true, true, true, true, true, true, true, true, true, true, true, true, true, true, true, true] rfl rfl (by kernel_rfl) (by decide) (fun K hK => ?_)
  refine skip_ (w1 := ?_) (by rfl) rfl ?_ ?_
  rotate_left
  · go_simp; rfl
  refine hK.out _ _ ?_
  clear hK K
  refine done_ (by kernel_rfl) ?_
  go_wp2_with (first | (go_at_call 14; (with_reducible refine (add_c _ _ _).mono ?_); rintro e w1 ⟨rfl, rfl⟩; skip) | ((with_reducible refine gate_callee (f := 31) rfl ?_); fail))
  have h2 := SL.set (cs' := cellsR { x with buf := bput x.buf k m, gaps := x.gaps ++ [⟨x.h, k⟩], h := addN k 1 } bm (.slice Ai x.inb.length ci) (.slice A6 (x.gaps ++ [(⟨x.h, k⟩ : Gp)]).length c6)) (SL.set (SL.pk [1] HS.out) 6 (.slice A6 (x.gaps ++ [(⟨x.h, k⟩ : Gp)]).length c6) rfl) 1 (.int .u32 (addN k 1)) rfl
  have h3 : SL w0 _ (partsR b { x with buf := bput x.buf k m, gaps := x.gaps ++ [⟨x.h, k⟩], h := addN k 1 } bm (.slice Ai x.inb.length ci) (.slice A6 (x.gaps ++ [(⟨x.h, k⟩ : Gp)]).length c6) ++ l) := SL.pk [0, 1, 1, 0] h2
  have h4 := RecvA.shut h3
  rw [List.length_append, List.length_singleton] at h4
  refine (deliver_c HX.out h4).mono ?_
  rintro e w9 ⟨v, rfl, hs⟩
  obtain ⟨A9, c9, e9, _⟩ := SL.form hs (.head _)
  subst e9
  have hs2 := Aside0.mk hs
  clear hs h2 h3 h4
  go_wp2
  go_ret
  exact ⟨_, rfl, hs2.out⟩
/-- Data. -/
theorem data_c {w0 W : World} {l : List As} {b : Nat} {x : RS} (HS : SL w0 W (RecvA b x :: l)) (n : Int) (m : ByteArray) (hx2 : (dataG { x with buf := bput x.buf (lowN n) m } (lowN n)).Ok) :
    Calls Try.prog 13 #[.pointer (some ⟨b, 0, none⟩), .int .u32 n, .string m] W fun e w' => ∃ v, e = .returned v ∧ SL w0 w' (Row Kd.string 9 v (dataF x n m).2 :: RecvA b (dataF x n m).1 :: l) := by
  obtain ⟨k, hk⟩ : ∃ k, lowN n = k := ⟨_, rfl⟩
  unfold dataF
  rw [hk] at hx2 ⊢
  cases hh : blook x.buf k with
  | some s => rw [if_pos (Or.inl (by simp))]; exact data_have HS n k m s hk hh
  | none =>
    by_cases hb : toN x.r k < toN x.r x.mr
    · rw [if_neg (by simp [hb])]
      unfold dataG at hx2 ⊢
      by_cases hi : toN x.r k < toN x.r x.h
      · simp only [if_pos hi] at hx2 ⊢
        exact data_in HS n k m hk hh hb hi hx2
      · simp only [if_neg hi] at hx2 ⊢
        by_cases he : k = x.h
        · have e : (if k ≠ x.h ∧ x.gaps.length < 8 then x.gaps ++ [(⟨x.h, k⟩ : Gp)] else x.gaps) = x.gaps := if_neg (fun h => h.1 he)
          simp only [e] at hx2 ⊢
          exact data_eq HS n k m hk hh hb hi he hx2
        · by_cases hf : x.gaps.length < 8
          · have e : (if k ≠ x.h ∧ x.gaps.length < 8 then x.gaps ++ [(⟨x.h, k⟩ : Gp)] else x.gaps) = x.gaps ++ [⟨x.h, k⟩] := if_pos ⟨he, hf⟩
            simp only [e] at hx2 ⊢
            exact data_gap HS n k m hk hh hb hi he hf hx2
          · have e : (if k ≠ x.h ∧ x.gaps.length < 8 then x.gaps ++ [(⟨x.h, k⟩ : Gp)] else x.gaps) = x.gaps := if_neg (fun h => hf h.2)
            simp only [e] at hx2 ⊢
            exact data_full HS n k m hk hh hb hi he hf hx2
    · rw [if_pos (Or.inr hb)]
      exact data_far HS n k m hk hh hb
end Go.Proofs.Ytiiljdglbfgdbaa.Rcv
