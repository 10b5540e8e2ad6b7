/- The receiver's methods, first part: New, Vars. -/
import Derived.Test.YtiiljdglbfgdbaaRcv0
import Derived.Test.YtiiljdglbfgdbaaLibs
import Derived.StillTailTactics
import Derived.WalkSpells
import Derived.WalkKit
import Derived.LoopTactic
import Derived.Deep.QuietTactic
import Derived.BigQuiet
import Derived.Test.YtiiljdglbfgdbaaS1
set_option linter.unusedVariables false
set_option linter.unusedSimpArgs false
namespace Go.Proofs.Ytiiljdglbfgdbaa.Rcv
open Go Go.RowKit Go.Proofs.YtiiljdglbfgdbaaW.PrintWords Go.Proofs.YtiiljdglbfgdbaaW.PrintLast Go.Proofs.YtiiljdglbfgdbaaW.PrintMore Go.Proofs.Ytiiljdglbfgdbaa Go.Proofs.Ytiiljdglbfgdbaa.Sl Go.Proofs.Ytiiljdglbfgdbaa.S
attribute [local go_sem] max2_int min2_int max_two min_two
theorem low_f (a : Int) : seq_Num_Low.f a = some (lowN a) := by
  unfold seq_Num_Low.f lowN
  rw [Bits.and_u32_mask]
theorem add_f (a i : Int) : seq_Num_Add.f a i = some (addN a i) := by
  unfold seq_Num_Add.f
  rw [low_f]
  simp only [Option.bind_some, seq_Of.f, Bits.and_i64_mask, Bits.and_u32_mask]
  unfold lowN addN wrap64
  congr 1
  omega
theorem to_f (a b : Int) : seq_Num_To.f a b = some (toN a b) := by
  unfold seq_Num_To.f toN
  rw [Bits.and_u32_mask]
  congr 1
  unfold wrap64
  omega
theorem of_f (a : Int) : seq_Of.f a = some (lowN a) := by
  unfold seq_Of.f lowN
  rw [Bits.and_u32_mask]
  congr 1
  omega
theorem between_f (a x b : Int) : seq_Between.f a x b = some (decide (toN a x < toN a b)) := by
  unfold seq_Between.f
  simp only [to_f, Option.bind_some]
set_option maxHeartbeats 2000000 in
set_option maxRecDepth 100000 in
theorem low_c (a : Int) (w : World) : Calls Try.prog 30 #[.int .u32 a] w fun e w' => e = .returned (.int .u32 (lowN a)) ∧ w' = w := by
  have h := Aside0.mk (Bits.and_u32_mask a)
  go_enter Try.func30, Try.ntmps30
  go_wp2
  go_ret
  exact ⟨ret_int h.out, rfl⟩
set_option maxHeartbeats 2000000 in
set_option maxRecDepth 100000 in
theorem of_c (a : Int) (w : World) : Calls Try.prog 12 #[.int .i64 a] w fun e w' => e = .returned (.int .u32 (lowN a)) ∧ w' = w := by
  have h := Aside0.mk (Bits.and_u32_mask (a % 4294967296))
  go_enter Try.func12, Try.ntmps12
  go_wp2
  go_ret
  exact ⟨ret_int (h.out.trans (by unfold lowN; omega)), rfl⟩
set_option maxHeartbeats 2000000 in
set_option maxRecDepth 100000 in
theorem to_c (a b : Int) (w : World) : Calls Try.prog 17 #[.int .u32 a, .int .u32 b] w fun e w' => e = .returned (.int .i64 (toN a b)) ∧ w' = w := by
  have h := Aside0.mk (to_f a b)
  go_enter Try.func17, Try.ntmps17
  go_wp2
  go_ret
  have h2 := h.out
  unfold seq_Num_To.f at h2
  exact ⟨ret_int (Option.some.inj h2), rfl⟩
set_option maxHeartbeats 2000000 in
set_option maxRecDepth 100000 in
theorem add_c (a i : Int) (w : World) : Calls Try.prog 14 #[.int .u32 a, .int .i64 i] w fun e w' => e = .returned (.int .u32 (addN a i)) ∧ w' = w := by
  have h := Aside0.mk (Bits.and_i64_mask i)
  go_enter Try.func14, Try.ntmps14
  go_wp2_with (first
    | (go_at_call 30; (with_reducible refine (low_c _ _).mono ?_); rintro e w1 ⟨rfl, rfl⟩; skip)
    | (go_at_call 12; (with_reducible refine (of_c _ _).mono ?_); rintro e w1 ⟨rfl, rfl⟩; skip))
  go_ret
  exact ⟨ret_int (by rw [h.out]; unfold lowN addN wrap64; omega), rfl⟩
set_option maxHeartbeats 2000000 in
set_option maxRecDepth 100000 in
theorem between_c (a x b : Int) (w : World) : Calls Try.prog 27 #[.int .u32 a, .int .u32 x, .int .u32 b] w fun e w' => e = .returned (.bool (decide (toN a x < toN a b))) ∧ w' = w := by
  go_enter Try.func27, Try.ntmps27
  go_wp2_with (go_at_call 17; (with_reducible refine (to_c _ _ _).mono ?_); rintro e w1 ⟨rfl, rfl⟩; skip)
  go_ret
  exact ⟨rfl, rfl⟩
def maxN (base a b : Int) : Int := if toN base a ≥ toN base b then lowN a else lowN b
set_option maxHeartbeats 2000000 in
set_option maxRecDepth 100000 in
theorem max_c (s a b : Int) (w : World) : Calls Try.prog 52 #[.int .u32 s, .int .u32 a, .int .u32 b] w fun e w' => e = .returned (.int .u32 (maxN s a b)) ∧ w' = w := by
  have H : Aside0 (maxN s a b = if toN s a ≥ toN s b then lowN a else lowN b) := ⟨rfl⟩
  by_cases hc : toN s a ≥ toN s b
  · have H2 := H.out
    rw [if_pos hc] at H2
    have H3 := Aside0.mk H2
    have hd : decide (toN s a ≥ toN s b) = true := decide_eq_true hc
    clear H H2 hc
    go_enter Try.func52, Try.ntmps52
    go_wp2_with (first | (go_at_call 17; (with_reducible refine (to_c _ _ _).mono ?_); rintro e w1 ⟨rfl, rfl⟩; skip) | (go_at_call 30; (with_reducible refine (low_c _ _).mono ?_); rintro e w1 ⟨rfl, rfl⟩; skip))
    all_goals (first | (go_ret; exact ⟨ret_int H3.out.symm, rfl⟩) | omega)
  · have H2 := H.out
    rw [if_neg hc] at H2
    have H3 := Aside0.mk H2
    have hd : decide (toN s a ≥ toN s b) = false := decide_eq_false hc
    clear H H2 hc
    go_enter Try.func52, Try.ntmps52
    go_wp2_with (first | (go_at_call 17; (with_reducible refine (to_c _ _ _).mono ?_); rintro e w1 ⟨rfl, rfl⟩; skip) | (go_at_call 30; (with_reducible refine (low_c _ _).mono ?_); rintro e w1 ⟨rfl, rfl⟩; skip))
    all_goals (first | (go_ret; exact ⟨ret_int H3.out.symm, rfl⟩) | omega)
/-- New. -/
def newF (start window : Int) : RS := ⟨lowN start, lowN start, addN (lowN start) (max 1 (min window 64)), max 1 (min window 64), [], [], []⟩
theorem new_done {w0 W : World} {l : List As} (start window win : Int) (HS : SL w0 W l) (hw : win = max 1 (min window 64)) :
    SL w0 ((W.alloc (.map #[] 0)).alloc (.cells #[.int .u32 (lowN start), .int .u32 (lowN start), .int .u32 (addN (lowN start) win), .int .i64 win, .map (some W.heap.size), .slice none 0 0, .slice none 0 0] 73 (0, 0))) (RecvA (W.heap.size + 1) (newF start window) :: l) := by
  subst hw
  have h := ((HS.addNil kG 76).addNil Kd.string 9).newMap .u32
  have h2 := h.new (cellsR (newF start window) W.heap.size (.slice none 0 0) (.slice none 0 0)) 73
  rw [show (W.alloc (.map #[] 0)).heap.size = W.heap.size + 1 by simp] at h2
  exact RecvA.shut h2
set_option maxHeartbeats 2000000 in
set_option maxRecDepth 100000 in
theorem new_c {w0 W : World} {l : List As} (HS : SL w0 W l) (start window : Int) :
    Calls Try.prog 11 #[.int .u32 start, .int .i64 window] W fun e w' => ∃ b, e = .returned (.pointer (some ⟨b, 0, none⟩)) ∧ SL w0 w' (RecvA b (newF start window) :: l) := by
  have HS := Aside0.mk HS
  have hmm := @run_makeMap Try.prog
  have hu := Try.underlying73
  go_enter Try.func11, Try.ntmps11
  go_wp2_with (first
    | (go_at_call 30; (with_reducible refine (low_c start _).mono ?_); rintro e w1 ⟨rfl, rfl⟩; skip)
    | (go_at_call 14; (with_reducible refine (add_c (lowN start) _ _).mono ?_); rintro e w1 ⟨rfl, rfl⟩; skip))
  all_goals (go_ret; exact ⟨_, rfl, new_done start window _ (by (with_reducible repeat (first | apply SL.alloc | apply SL.drewN | apply SL.drew)); exact HS.out) (by omega)⟩)
set_option maxHeartbeats 2000000 in
set_option maxRecDepth 100000 in
theorem vars_c {w0 W : World} {l : List As} {b : Nat} {x : RS} (HS : SL w0 W (RecvA b x :: l)) :
    Calls Try.prog 16 #[.pointer (some ⟨b, 0, none⟩)] W fun e w' => e = .returned (.agg #[.int .u32 x.r, .int .u32 x.h, .int .u32 x.mr, .int .i64 x.buf.length, .int .i64 x.inb.length, .int .i64 x.gaps.length]) ∧ SL w0 w' (RecvA b x :: l) := by
  obtain ⟨bm, Ai, ci, Ag, cg, hci, hcg, h⟩ := RecvA.open_ HS
  have HP := Aside0.mk h
  have HS := Aside0.mk HS
  have hu := Try.underlying73
  have hu2 := Try.underlying36
  have HS := HP
  clear h hci hcg HP
  go_enter Try.func16, Try.ntmps16
  go_wp2_with fail
  have hs_ := Aside0.mk (SL.new HS.out #[.int .u32 0, .int .u32 0, .int .u32 0, .int .i64 0, .int .i64 0, .int .i64 0] 36); clear HS; have HS := hs_; clear hs_
  refine region_tail 28 (by kernel_rfl) (by kernel_rfl) (fun W1 hW_ => ?_); have hs_ := Aside0.mk (hW_.out ▸ SL.drew (by repeat (first | (with_reducible exact HS.out) | (with_reducible apply SL.alloc) | (with_reducible apply SL.drewN) | (with_reducible apply SL.drew)))); clear HS; have HS := hs_; clear hs_ hW_; obtain ⟨⟨q0, z0⟩, ⟨q1, z1⟩, ⟨q2, z2⟩, ⟨q3, z3⟩, ⟨q4, z4⟩, ⟨q5, z5⟩, ⟨q6, z6⟩⟩ := cellsAt (SL.tail HS.out); have hat := Aside0.mk (SL.mapAt HS.out (.tail _ (.tail _ (.head _)))); simp only [List.take_succ_cons, List.take_zero, List.drop_succ_cons, List.drop_zero]; (repeat (first | (refine still_mlen rfl _ 70 rfl 27 9 .u32 Try.underlying70 bm (sM x.buf) rfl hat.out ?_) | still_step)); refine wpStill_nil ?_
  obtain ⟨x0, y0⟩ := SL.cell HS.out (.head _) 0 (v := .int .u32 0) rfl
  obtain ⟨x1, y1⟩ := SL.cell HS.out (.head _) 1 (v := .int .u32 0) rfl
  obtain ⟨x2, y2⟩ := SL.cell HS.out (.head _) 2 (v := .int .u32 0) rfl
  obtain ⟨x3, y3⟩ := SL.cell HS.out (.head _) 3 (v := .int .i64 0) rfl
  obtain ⟨x4, y4⟩ := SL.cell HS.out (.head _) 4 (v := .int .i64 0) rfl
  obtain ⟨x5, y5⟩ := SL.cell HS.out (.head _) 5 (v := .int .i64 0) rfl
  simp only [len_sM]
  go_wp2
  exact bodyPost_ret (v := .agg #[.int .u32 x.r, .int .u32 x.h, .int .u32 x.mr, .int .i64 x.buf.length, .int .i64 x.inb.length, .int .i64 x.gaps.length]) (by simp [results, Try.results16, go_sem, x0, x1, x2, x3, x4, x5]) rfl ⟨rfl, RecvA.shut (SL.tail (SL.set (SL.set (SL.set (SL.set (SL.set (SL.set HS.out 0 _ rfl) 1 _ rfl) 2 _ rfl) 3 _ rfl) 4 _ rfl) 5 _ rfl))⟩
end Go.Proofs.Ytiiljdglbfgdbaa.Rcv
