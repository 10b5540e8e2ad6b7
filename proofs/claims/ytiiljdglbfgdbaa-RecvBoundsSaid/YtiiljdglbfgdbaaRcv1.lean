/- The receiver's methods, first part: New, Vars. -/
import Derived.Test.YtiiljdglbfgdbaaRcv0
import Derived.Test.YtiiljdglbfgdbaaLibs
import Derived.StillTailTactics
import Derived.WalkSpells
import Derived.WalkKit
import Derived.LoopTactic
import Derived.Deep.QuietTactic
import Derived.BigQuiet
import Derived.Test.YtiiljdglbfgdbaaS1
set_option linter.unusedVariables false
set_option linter.unusedSimpArgs false
/-! The receiver's methods, first part: New, Vars. -/
namespace Go.Proofs.Ytiiljdglbfgdbaa.Rcv
open Go Go.RowKit Go.Proofs.YtiiljdglbfgdbaaW.PrintWords Go.Proofs.YtiiljdglbfgdbaaW.PrintLast Go.Proofs.YtiiljdglbfgdbaaW.PrintMore Go.Proofs.Ytiiljdglbfgdbaa Go.Proofs.Ytiiljdglbfgdbaa.Sl Go.Proofs.Ytiiljdglbfgdbaa.S
attribute [local go_sem] max2_int min2_int max_two min_two
theorem low_f (a : Int) : seq_Num_Low.f a = some (lowN a) := by
  unfold seq_Num_Low.f lowN
  rw [Bits.and_u32_mask]
theorem add_f (a i : Int) : seq_Num_Add.f a i = some (addN a i) := by
  unfold seq_Num_Add.f
  rw [low_f]
  simp only [Option.bind_some, seq_Of.f, Bits.and_i64_mask, Bits.and_u32_mask]
  unfold lowN addN wrap64
  congr 1
  omega
theorem to_f (a b : Int) : seq_Num_To.f a b = some (toN a b) := by
  unfold seq_Num_To.f toN
  rw [Bits.and_u32_mask]
  congr 1
  unfold wrap64
  omega
theorem of_f (a : Int) : seq_Of.f a = some (lowN a) := by
  unfold seq_Of.f lowN
  rw [Bits.and_u32_mask]
  congr 1
  omega
theorem between_f (a x b : Int) : seq_Between.f a x b = some (decide (toN a x < toN a b)) := by
  unfold seq_Between.f
  simp only [to_f, Option.bind_some]
set_option maxHeartbeats 2000000 in
set_option maxRecDepth 100000 in
theorem low_c (a : Int) (w : World) : Calls Try.prog 30 #[.int .u32 a] w fun e w' => e = .returned (.int .u32 (lowN a)) ∧ w' = w := by
  have h := Aside0.mk (Bits.and_u32_mask a)
  go_enter Try.func30, Try.ntmps30
  go_wp2
  go_ret
  exact ⟨ret_int h.out, rfl⟩
set_option maxHeartbeats 2000000 in
set_option maxRecDepth 100000 in
theorem of_c (a : Int) (w : World) : Calls Try.prog 12 #[.int .i64 a] w fun e w' => e = .returned (.int .u32 (lowN a)) ∧ w' = w := by
  have h := Aside0.mk (Bits.and_u32_mask (a % 4294967296))
  go_enter Try.func12, Try.ntmps12
  go_wp2
  go_ret
  exact ⟨ret_int (h.out.trans (by unfold lowN; omega)), rfl⟩
set_option maxHeartbeats 2000000 in
set_option maxRecDepth 100000 in
theorem to_c (a b : Int) (w : World) : Calls Try.prog 17 #[.int .u32 a, .int .u32 b] w fun e w' => e = .returned (.int .i64 (toN a b)) ∧ w' = w := by
  have h := Aside0.mk (to_f a b)
  go_enter Try.func17, Try.ntmps17
  go_wp2
  go_ret
  have h2 := h.out
  unfold seq_Num_To.f at h2
  exact ⟨ret_int (Option.some.inj h2), rfl⟩
set_option maxHeartbeats 2000000 in
set_option maxRecDepth 100000 in
theorem add_c (a i : Int) (w : World) : Calls Try.prog 14 #[.int .u32 a, .int .i64 i] w fun e w' => e = .returned (.int .u32 (addN a i)) ∧ w' = w := by
  have h := Aside0.mk (Bits.and_i64_mask i)
  go_enter Try.func14, Try.ntmps14
  go_wp2_with (first
    | (go_at_call 30; (with_reducible refine (low_c _ _).mono ?_); rintro e w1 ⟨rfl, rfl⟩; skip)
    | (go_at_call 12; (with_reducible refine (of_c _ _).mono ?_); rintro e w1 ⟨rfl, rfl⟩; skip))
  go_ret
  exact ⟨ret_int (by rw [h.out]; unfold lowN addN wrap64; omega), rfl⟩
set_option maxHeartbeats 2000000 in
set_option maxRecDepth 100000 in
theorem between_c (a x b : Int) (w : World) : Calls Try.prog 27 #[.int .u32 a, .int .u32 x, .int .u32 b] w fun e w' => e = .returned (.bool (decide (toN a x < toN a b))) ∧ w' = w := by
  go_enter Try.func27, Try.ntmps27
  go_wp2_with (go_at_call 17; (with_reducible refine (to_c _ _ _).mono ?_); rintro e w1 ⟨rfl, rfl⟩; skip)
  go_ret
  exact ⟨rfl, rfl⟩
def maxN (base a b : Int) : Int := if toN base a ≥ toN base b then lowN a else lowN b
set_option maxHeartbeats 2000000 in
set_option maxRecDepth 100000 in
theorem max_c (s a b : Int) (w : World) : Calls Try.prog 52 #[.int .u32 s, .int .u32 a, .int .u32 b] w fun e w' => e = .returned (.int .u32 (maxN s a b)) ∧ w' = w := by
  have H : Aside0 (maxN s a b = if toN s a ≥ toN s b then lowN a else lowN b) := ⟨rfl⟩
  by_cases hc : toN s a ≥ toN s b
  · have H2 := H.out
    rw [if_pos hc] at H2
    have H3 := Aside0.mk H2
    have hd : decide (toN s a ≥ toN s b) = true := decide_eq_true hc
    clear H H2 hc
    go_enter Try.func52, Try.ntmps52
    go_wp2_with (first | (go_at_call 17; (with_reducible refine (to_c _ _ _).mono ?_); rintro e w1 ⟨rfl, rfl⟩; skip) | (go_at_call 30; (with_reducible refine (low_c _ _).mono ?_); rintro e w1 ⟨rfl, rfl⟩; skip))
    all_goals (first | (go_ret; exact ⟨ret_int H3.out.symm, rfl⟩) | omega)
  · have H2 := H.out
    rw [if_neg hc] at H2
    have H3 := Aside0.mk H2
    have hd : decide (toN s a ≥ toN s b) = false := decide_eq_false hc
    clear H H2 hc
    go_enter Try.func52, Try.ntmps52
    go_wp2_with (first | (go_at_call 17; (with_reducible refine (to_c _ _ _).mono ?_); rintro e w1 ⟨rfl, rfl⟩; skip) | (go_at_call 30; (with_reducible refine (low_c _ _).mono ?_); rintro e w1 ⟨rfl, rfl⟩; skip))
    all_goals (first | (go_ret; exact ⟨ret_int H3.out.symm, rfl⟩) | omega)
/-- New. -/
def newF (start window : Int) : RS := ⟨lowN start, lowN start, addN (lowN start) (max 1 (min window 64)), max 1 (min window 64), [], [], []⟩
theorem new_done {w0 W : World} {l : List As} (start window win : Int) (HS : SL w0 W l) (hw : win = max 1 (min window 64)) :
    SL w0 ((W.alloc (.map #[] 0)).alloc (.cells #[.int .u32 (lowN start), .int .u32 (lowN start), .int .u32 (addN (lowN start) win), .int .i64 win, .map (some W.heap.size), .slice none 0 0, .slice none 0 0] 73 (0, 0))) (RecvA (W.heap.size + 1) (newF start window) :: l) := by
  subst hw
  have h := ((HS.addNil kG 76).addNil Kd.string 9).newMap .u32
  have h2 := h.new (cellsR (newF start window) W.heap.size (.slice none 0 0) (.slice none 0 0)) 73
  rw [show (W.alloc (.map #[] 0)).heap.size = W.heap.size + 1 by simp] at h2
  exact RecvA.shut h2
set_option maxHeartbeats 2000000 in
set_option maxRecDepth 100000 in
theorem new_c {w0 W : World} {l : List As} (HS : SL w0 W l) (start window : Int) :
    Calls Try.prog 11 #[.int .u32 start, .int .i64 window] W fun e w' => ∃ b, e = .returned (.pointer (some ⟨b, 0, none⟩)) ∧ SL w0 w' (RecvA b (newF start window) :: l) := by
  have HS := Aside0.mk HS
  have hmm := @run_makeMap Try.prog
  have hu := Try.underlying73
  go_enter Try.func11, Try.ntmps11
  go_wp2_with (first
    | (go_at_call 30; (with_reducible refine (low_c start _).mono ?_); rintro e w1 ⟨rfl, rfl⟩; skip)
    | (go_at_call 14; (with_reducible refine (add_c (lowN start) _ _).mono ?_); rintro e w1 ⟨rfl, rfl⟩; skip))
  all_goals (go_ret; exact ⟨_, rfl, new_done start window _ (by (with_reducible repeat (first | apply SL.alloc | apply SL.drewN | apply SL.drew)); exact HS.out) (by omega)⟩)
set_option maxHeartbeats 2000000 in
set_option maxRecDepth 100000 in
theorem vars_c {w0 W : World} {l : List As} {b : Nat} {x : RS} (HS : SL w0 W (RecvA b x :: l)) :
    Calls Try.prog 16 #[.pointer (some ⟨b, 0, none⟩)] W fun e w' => e = .returned (.agg #[.int .u32 x.r, .int .u32 x.h, .int .u32 x.mr, .int .i64 x.buf.length, .int .i64 x.inb.length, .int .i64 x.gaps.length]) ∧ SL w0 w' (RecvA b x :: l) := by
  obtain ⟨bm, Ai, ci, Ag, cg, hci, hcg, h⟩ := RecvA.open_ HS
  have HP := Aside0.mk h
  have HS := Aside0.mk HS
  have hu := Try.underlying73
  have hu2 := Try.underlying36
  have HS := HP
  clear h hci hcg HP
  go_enter Try.func16, Try.ntmps16
  go_wp2_with fail
  have hs_ := Aside0.mk (SL.new HS.out #[.int .u32 0, .int .u32 0, .int .u32 0, .int .i64 0, .int .i64 0, .int .i64 0] 36); clear HS; have HS := hs_; clear hs_
  refine region_tail 28 (by kernel_rfl) (by kernel_rfl) (fun W1 hW_ => ?_); have hs_ := Aside0.mk (hW_.out ▸ SL.drew (by repeat (first | (with_reducible exact HS.out) | (with_reducible apply SL.alloc) | (with_reducible apply SL.drewN) | (with_reducible apply SL.drew)))); clear HS; have HS := hs_; clear hs_ hW_; obtain ⟨⟨q0, z0⟩, ⟨q1, z1⟩, ⟨q2, z2⟩, ⟨q3, z3⟩, ⟨q4, z4⟩, ⟨q5, z5⟩, ⟨q6, z6⟩⟩ := cellsAt (SL.tail HS.out); have hat := Aside0.mk (SL.mapAt HS.out (.tail _ (.tail _ (.head _)))); simp only [List.take_succ_cons, List.take_zero, List.drop_succ_cons, List.drop_zero]; (repeat (first | (refine still_mlen rfl _ 70 rfl 27 9 .u32 Try.underlying70 bm (sM x.buf) rfl hat.out ?_) | still_step)); refine wpStill_nil ?_
  obtain ⟨x0, y0⟩ := SL.cell HS.out (.head _) 0 (v := .int .u32 0) rfl
  obtain ⟨x1, y1⟩ := SL.cell HS.out (.head _) 1 (v := .int .u32 0) rfl
  obtain ⟨x2, y2⟩ := SL.cell HS.out (.head _) 2 (v := .int .u32 0) rfl
  obtain ⟨x3, y3⟩ := SL.cell HS.out (.head _) 3 (v := .int .i64 0) rfl
  obtain ⟨x4, y4⟩ := SL.cell HS.out (.head _) 4 (v := .int .i64 0) rfl
  obtain ⟨x5, y5⟩ := SL.cell HS.out (.head _) 5 (v := .int .i64 0) rfl
  simp only [len_sM]
  go_wp2
  exact bodyPost_ret (v := .agg #[.int .u32 x.r, .int .u32 x.h, .int .u32 x.mr, .int .i64 x.buf.length, .int .i64 x.inb.length, .int .i64 x.gaps.length]) (by simp [results, Try.results16, go_sem, x0, x1, x2, x3, x4, x5]) rfl ⟨rfl, RecvA.shut (SL.tail (SL.set (SL.set (SL.set (SL.set (SL.set (SL.set HS.out 0 _ rfl) 1 _ rfl) 2 _ rfl) 3 _ rfl) 4 _ rfl) 5 _ rfl))⟩
end Go.Proofs.Ytiiljdglbfgdbaa.Rcv
/-! The receiver's methods, second part: renew, Take, Poll, deliver. -/
namespace Go.Proofs.Ytiiljdglbfgdbaa.Rcv
open Go Go.RowKit Go.Proofs.YtiiljdglbfgdbaaW.PrintWords Go.Proofs.YtiiljdglbfgdbaaW.PrintLast Go.Proofs.YtiiljdglbfgdbaaW.PrintMore Go.Proofs.Ytiiljdglbfgdbaa Go.Proofs.Ytiiljdglbfgdbaa.Sl Go.Proofs.Ytiiljdglbfgdbaa.S
attribute [local go_sem] max2_int min2_int max_two min_two
theorem flatG : Flat kG := flat_iso (flat_pair (flat_int _) (flat_int _))
theorem infoS : (Try.prog.info? 9).map (fun i => (i.zero, i.size, i.bytes)) = some (some (.string ⟨#[]⟩), 1, 16) := by kernel_rfl
theorem infoG : (Try.prog.info? 76).map (fun i => (i.zero, i.size, i.bytes)) = some (some (.agg #[.int .u32 0, .int .u32 0]), 2, 8) := by kernel_rfl
theorem wfN {a : Int} (h : 0 ≤ a ∧ a < 16777216) : (Lit.int .u32 a).wf = true := by
  simp [Lit.wf, IntKind.min, IntKind.max, IntKind.signed, IntKind.bits]
  omega
set_option maxHeartbeats 2000000 in
set_option maxRecDepth 100000 in
theorem cloneS_c {w0 W : World} {l : List As} (HS : SL w0 W l) (A : Option Addr) (c : Nat) (xs : List ByteArray) (hC : Kd.string.C W A xs.length xs) (hl : xs.length ≤ 4000000) :
    Calls Try.prog 35 #[.slice A xs.length c] W fun e w' => ∃ v, e = .returned v ∧ SL w0 w' (Row Kd.string 9 v xs :: l) := by
  have hq : ∀ (W : World) (a : Option Addr) (n c n' c' : Nat), (binOp .eql 30 (.slice a n c) (.slice none n' c')).run Try.prog W = .ok (.bool a.isNone) W := fun W a n c n' c' => Lib.run_eql_slice_nil W _ _ a n c n' c' Try.underlying30
  have HS := Aside0.mk HS
  rcases A with _ | ad
  · have hn : xs.length = 0 := by
      rcases Nat.eq_zero_or_pos xs.length with h0 | h0
      · exact h0
      · obtain ⟨ad, h1, _⟩ := hC.2.2 h0
        cases h1
    obtain rfl : xs = [] := List.eq_nil_of_length_eq_zero hn
    clear hn hC hl
    go_enter Try.func35, Try.ntmps35
    go_wp2
    go_ret
    exact ⟨_, rfl, SL.addNil _ _ HS.out⟩
  · have HR := Aside0.mk hC
    have HL := Aside0.mk hl
    clear hC hl
    go_enter Try.func35, Try.ntmps35
    go_wp2_with (first | ((with_reducible refine gate_builtin (b := .append) (xs := #[.tmp 5, .tmp 6]) rfl ?_); at_builtin; refine wpList_appendN Kd.string flat_string rfl (.tmp 5) (.tmp 6) 30 9 (.string ⟨#[]⟩) 16 rfl Try.underlying30 infoS rfl (by decide) (by omega) (.slice (some ⟨W.heap.size, 0, none⟩) 0 0) [] xs (some ad) xs.length c rfl rfl (SL.lit (xs := []) (cs := []) HS.out (fun _ _ _ => Reps.none _ _) (by decide)) (Kd.C_below HR.out (below_alloc (Below.refl _ _) _)) (by have := HL.out; simp; omega) ?_; intro v1 w1 hs; have hs2 := Aside0.mk hs; clear HS hs; have HS := hs2; clear hs2))
    go_ret
    exact ⟨v1, rfl, by simpa using HS.out⟩
/-- renew. -/
def renewF (x : RS) : RS := { x with mr := maxN x.r x.mr (addN x.r (x.win - x.inb.length)) }
set_option maxHeartbeats 2000000 in
set_option maxRecDepth 100000 in
theorem renew_c {w0 W : World} {l : List As} {b : Nat} {x : RS} (hx : x.Ok) (HS : SL w0 W (RecvA b x :: l)) :
    Calls Try.prog 33 #[.pointer (some ⟨b, 0, none⟩)] W fun e w' => e = .returned (.tuple #[]) ∧ SL w0 w' (RecvA b (renewF x) :: l) := by
  obtain ⟨bm, Ai, ci, Ag, cg, hci, hcg, h⟩ := RecvA.open_ HS
  have HS := Aside0.mk h
  have hu := Try.underlying73
  have b1 := hx.win.1
  have b2 := hx.win.2
  have b3 := hx.inb
  clear h hci hcg hx
  go_enter Try.func33, Try.ntmps33
  refine region_tail 27 (by kernel_rfl) (by kernel_rfl) (fun W1 hW_ => ?_); have hs_ := Aside0.mk (hW_.out ▸ SL.drew (by repeat (first | (with_reducible exact HS.out) | (with_reducible apply SL.alloc) | (with_reducible apply SL.drewN) | (with_reducible apply SL.drew)))); clear HS; have HS := hs_; clear hs_ hW_; obtain ⟨⟨q0, z0⟩, ⟨q1, z1⟩, ⟨q2, z2⟩, ⟨q3, z3⟩, ⟨q4, z4⟩, ⟨q5, z5⟩, ⟨q6, z6⟩⟩ := cellsAt HS.out; simp only [List.take_succ_cons, List.take_zero, List.drop_succ_cons, List.drop_zero]; (repeat (first | still_step | (refine wpStill_step (fun K hK => ?_); go_simp; (with_reducible refine ⟨_, add_c _ _ _, hK _ ?_⟩); clear hK K) | (refine wpStill_step (fun K hK => ?_); go_simp; (with_reducible refine ⟨_, max_c _ _ _ _, hK _ ?_⟩); clear hK K))); refine wpStill_nil ?_
  go_wp2
  go_end0
  exact ⟨rfl, RecvA.shut (SL.set HS.out 2 _ rfl)⟩
end Go.Proofs.Ytiiljdglbfgdbaa.Rcv
/-! The receiver's methods, third part: Poll, Take, deliver. -/
namespace Go.Proofs.Ytiiljdglbfgdbaa.Rcv
open Go Go.RowKit Go.Proofs.YtiiljdglbfgdbaaW.PrintWords Go.Proofs.YtiiljdglbfgdbaaW.PrintLast Go.Proofs.YtiiljdglbfgdbaaW.PrintMore Go.Proofs.Ytiiljdglbfgdbaa Go.Proofs.Ytiiljdglbfgdbaa.Sl Go.Proofs.Ytiiljdglbfgdbaa.S
attribute [local go_sem] max2_int min2_int max_two min_two
theorem perm4 (A B C D : As) (l : List As) : pk (A :: B :: C :: D :: l) [1, 2, 0, 0] = B :: D :: A :: C :: l := rfl
/-- Poll. -/
def pollF (x : RS) (s : Int) : RS × Int := if toN x.r s < toN x.r x.h ∨ toN x.r s > toN x.r x.mr then (x, 11) else ({ x with h := lowN s }, 0)
set_option maxHeartbeats 2000000 in
set_option maxRecDepth 100000 in
theorem poll_c {w0 W : World} {l : List As} {b : Nat} {x : RS} (HS : SL w0 W (RecvA b x :: l)) (s : Int) :
    Calls Try.prog 39 #[.pointer (some ⟨b, 0, none⟩), .int .u32 s] W fun e w' => e = .returned (.int .i64 (pollF x s).2) ∧ SL w0 w' (RecvA b (pollF x s).1 :: l) := by
  obtain ⟨bm, Ai, ci, Ag, cg, hci, hcg, h⟩ := RecvA.open_ HS
  have HS := Aside0.mk h
  have hu := Try.underlying73
  obtain ⟨⟨q0, z0⟩, ⟨q1, z1⟩, ⟨q2, z2⟩, ⟨q3, z3⟩, ⟨q4, z4⟩, ⟨q5, z5⟩, ⟨q6, z6⟩⟩ := cellsAt HS.out
  clear h hci hcg
  by_cases h1 : toN x.r s < toN x.r x.h
  · have e : pollF x s = (x, 11) := by unfold pollF; rw [if_pos (Or.inl h1)]
    rw [e]
    have d1 : decide (toN x.r s < toN x.r x.h) = true := decide_eq_true h1
    clear h1 e
    go_enter Try.func39, Try.ntmps39
    go_wp2_with (go_at_call 17; (with_reducible refine (to_c _ _ _).mono ?_); rintro e w1 ⟨rfl, rfl⟩; skip)
    go_quiet ((first | (go_at_call 17; with_reducible exact Calls.quiet_of_same (to_c _ _ _))))
    have hs_ := Aside0.mk ((by repeat (first | (with_reducible exact HS.out) | (with_reducible apply SL.alloc) | (with_reducible apply SL.drewN) | (with_reducible apply SL.drew)))); clear HS; have HS := hs_; clear hs_
    go_wp2
    go_ret
    exact ⟨rfl, RecvA.shut (by (with_reducible repeat (first | apply SL.alloc | apply SL.drewN | apply SL.drew)); exact HS.out)⟩
  · have d1 : decide (toN x.r s < toN x.r x.h) = false := decide_eq_false h1
    by_cases h2 : toN x.r s > toN x.r x.mr
    · have e : pollF x s = (x, 11) := by unfold pollF; rw [if_pos (Or.inr h2)]
      rw [e]
      have d2 : decide (toN x.r s > toN x.r x.mr) = true := decide_eq_true h2
      clear h1 h2 e
      go_enter Try.func39, Try.ntmps39
      go_wp2_with (go_at_call 17; (with_reducible refine (to_c _ _ _).mono ?_); rintro e w1 ⟨rfl, rfl⟩; skip)
      go_quiet ((first | (go_at_call 17; with_reducible exact Calls.quiet_of_same (to_c _ _ _))))
      have hs_ := Aside0.mk ((by repeat (first | (with_reducible exact HS.out) | (with_reducible apply SL.alloc) | (with_reducible apply SL.drewN) | (with_reducible apply SL.drew)))); clear HS; have HS := hs_; clear hs_
      go_wp2
      go_ret
      exact ⟨rfl, RecvA.shut (by (with_reducible repeat (first | apply SL.alloc | apply SL.drewN | apply SL.drew)); exact HS.out)⟩
    · have e : pollF x s = ({ x with h := lowN s }, 0) := by unfold pollF; rw [if_neg (fun h => h.elim h1 h2)]
      rw [e]
      have d2 : decide (toN x.r s > toN x.r x.mr) = false := decide_eq_false h2
      clear h1 h2 e
      go_enter Try.func39, Try.ntmps39
      go_wp2_with (go_at_call 17; (with_reducible refine (to_c _ _ _).mono ?_); rintro e w1 ⟨rfl, rfl⟩; skip)
      go_quiet ((first | (go_at_call 17; with_reducible exact Calls.quiet_of_same (to_c _ _ _))))
      have hs_ := Aside0.mk ((by repeat (first | (with_reducible exact HS.out) | (with_reducible apply SL.alloc) | (with_reducible apply SL.drewN) | (with_reducible apply SL.drew)))); clear HS; have HS := hs_; clear hs_
      go_wp2_with (go_at_call 30; (with_reducible refine (low_c _ _).mono ?_); rintro e w1 ⟨rfl, rfl⟩; skip)
      go_ret
      exact ⟨rfl, RecvA.shut (SL.set (cs' := cellsR { x with h := lowN s } bm (.slice Ai x.inb.length ci) (.slice Ag x.gaps.length cg)) (SL.drewN HS.out nq) 1 (.int .u32 (lowN s)) rfl)⟩
theorem min2_mn (k k' : IntKind) (x y : Int) : Builtin.min2 (.int k x) (.int k' y) = pure (.int k (mn x y)) := by rw [min2_int]; rfl
theorem max2_mx (k k' : IntKind) (x y : Int) : Builtin.max2 (.int k x) (.int k' y) = pure (.int k (mx x y)) := by rw [max2_int]; rfl
theorem cloneS_n {w0 W : World} {l : List As} (HS : SL w0 W l) (A : Option Addr) (n c : Nat) (xs : List ByteArray) (hn : xs.length = n) (hC : Kd.string.C W A xs.length xs) (hl : xs.length ≤ 4000000) :
    Calls Try.prog 35 #[.slice A n c] W fun e w' => ∃ v, e = .returned v ∧ SL w0 w' (Row Kd.string 9 v xs :: l) := by
  subst hn
  exact cloneS_c HS A c xs hC hl
/-- Take. -/
def takeF (x : RS) (n : Int) : RS × List ByteArray := ({ x with inb := x.inb.drop (max 0 (min n x.inb.length)).toNat }, x.inb.take (max 0 (min n x.inb.length)).toNat)
attribute [-go_sem] max2_int min2_int
attribute [local go_sem] max2_mx min2_mn
set_option maxHeartbeats 2000000 in
set_option maxRecDepth 100000 in
theorem take_c {w0 W : World} {l : List As} {b : Nat} {x : RS} (hx : x.inb.length ≤ 1000000) (HS : SL w0 W (RecvA b x :: l)) (n : Int) :
    Calls Try.prog 21 #[.pointer (some ⟨b, 0, none⟩), .int .i64 n] W fun e w' => ∃ v, e = .returned v ∧ SL w0 w' (Row Kd.string 9 v (takeF x n).2 :: RecvA b (takeF x n).1 :: l) := by
  obtain ⟨bm, Ai, ci, Ag, cg, hci, hcg, h⟩ := RecvA.open_ HS
  have HS := Aside0.mk h
  have hu := Try.underlying73
  obtain ⟨m, hm⟩ : ∃ m : Nat, (max 0 (min n x.inb.length)).toNat = m := ⟨_, rfl⟩
  have hml : m ≤ x.inb.length := by omega
  have hv : mx 0 (mn n (x.inb.length : Int)) = (m : Int) := by unfold mx mn; split <;> split <;> omega
  obtain ⟨i0, hi, hzz⟩ := Option.map_eq_some_iff.1 infoS
  simp only [Prod.mk.injEq] at hzz
  have hs1 : ∀ W : World, (Instr.slice 30 (.slice Ai x.inb.length ci) none (some (.int .i64 (m : Int))) none).run Try.prog W = .ok (.slice Ai m ci) W := fun W => by
    have := cut_to 30 9 .i64 Try.underlying30 hi Ai x.inb.length ci (m : Int) (Int.natCast_nonneg _) (by omega) hci W
    rwa [Int.toNat_natCast] at this
  obtain ⟨A2, hA2⟩ : ∃ A2, (if ci = m then Ai else Ai.map (·.add (m * 1))) = A2 := ⟨_, rfl⟩
  have hs2 : ∀ W : World, (Instr.slice 30 (.slice Ai x.inb.length ci) (some (.int .i64 (m : Int))) none none).run Try.prog W = .ok (.slice A2 (x.inb.length - m) (ci - m)) W := fun W => by
    have := cut_from 30 9 .i64 Try.underlying30 hi 1 hzz.2.1 Ai x.inb.length ci (m : Int) (Int.natCast_nonneg _) (by omega) W
    rwa [Int.toNat_natCast, hA2] at this
  obtain ⟨⟨q0, z0⟩, ⟨q1, z1⟩, ⟨q2, z2⟩, ⟨q3, z3⟩, ⟨q4, z4⟩, ⟨q5, z5⟩, ⟨q6, z6⟩⟩ := cellsAt HS.out
  unfold takeF
  rw [hm]
  have HA2 := Aside0.mk hA2
  have HM := Aside0.mk hml
  have HX := Aside0.mk hx
  clear h hci hcg hm hA2 hml hx hi hzz i0
  go_enter Try.func21, Try.ntmps21
  go_wp2_with fail
  refine (cloneS_n (by (with_reducible repeat (first | apply SL.alloc | apply SL.drewN | apply SL.drew)); exact HS.out) Ai m ci (x.inb.take m) (by have := HM.out; rw [List.length_take]; omega) (SL.reads_take HS.out (.tail _ (.tail _ (.head _))) HM.out) (by have := HX.out; rw [List.length_take]; omega)).mono ?_
  rintro e w1 ⟨v1, rfl, hs⟩
  have hs_ := Aside0.mk hs
  clear HS hs q0 q1 q2 q3 q4 q5 q6 z0 z1 z2 z3 z4 z5 z6
  have HS := hs_
  clear hs_
  obtain ⟨⟨q0, z0⟩, ⟨q1, z1⟩, ⟨q2, z2⟩, ⟨q3, z3⟩, ⟨q4, z4⟩, ⟨q5, z5⟩, ⟨q6, z6⟩⟩ := cellsAt (SL.tail HS.out)
  go_wp2_with fail
  refine (cloneS_n (by (with_reducible repeat (first | apply SL.alloc | apply SL.drewN | apply SL.drew)); exact HS.out) A2 (x.inb.length - m) (ci - m) (x.inb.drop m) (by rw [List.length_drop]) (by rw [← HA2.out]; exact SL.reads_drop HS.out (.tail _ (.tail _ (.tail _ (.head _)))) HM.out) (by have := HX.out; rw [List.length_drop]; omega)).mono ?_
  rintro e w2 ⟨v2, rfl, hs⟩
  have hs_ := Aside0.mk hs
  clear HS hs q0 q1 q2 q3 q4 q5 q6 z0 z1 z2 z3 z4 z5 z6
  have HS := hs_
  clear hs_
  obtain ⟨⟨q0, z0⟩, ⟨q1, z1⟩, ⟨q2, z2⟩, ⟨q3, z3⟩, ⟨q4, z4⟩, ⟨q5, z5⟩, ⟨q6, z6⟩⟩ := cellsAt (SL.tail (SL.tail HS.out))
  obtain ⟨A3, c3, e3, _⟩ := SL.form HS.out (.head _)
  subst e3
  go_wp2
  go_ret
  have h2 := SL.set (cs' := cellsR { x with inb := x.inb.drop m } bm (.slice A3 (x.inb.drop m).length c3) (.slice Ag x.gaps.length cg)) (SL.pk [2] HS.out) 5 (.slice A3 (x.inb.drop m).length c3) rfl
  rw [List.length_drop] at h2
  exact ⟨v1, rfl, SL.swap (RecvA.shut (bm := bm) (vi := .slice A3 (x.inb.length - m) c3) (vg := .slice Ag x.gaps.length cg) (by rw [List.length_drop] at HS; exact SL.tail (SL.pk [4, 0, 2, 0, 1, 0] h2)))⟩
end Go.Proofs.Ytiiljdglbfgdbaa.Rcv
/-! The receiver's methods, fourth part: deliver. -/
namespace Go.Proofs.Ytiiljdglbfgdbaa.Rcv
open Go Go.RowKit Go.Proofs.YtiiljdglbfgdbaaW.PrintWords Go.Proofs.YtiiljdglbfgdbaaW.PrintLast Go.Proofs.YtiiljdglbfgdbaaW.PrintMore Go.Proofs.Ytiiljdglbfgdbaa Go.Proofs.Ytiiljdglbfgdbaa.Sl Go.Proofs.Ytiiljdglbfgdbaa.S
/-- deliver: what is in its order. -/
def runF : Nat → Buf → Int → List ByteArray → Buf × Int × List ByteArray
  | 0, m, r, out => (m, r, out)
  | k + 1, m, r, out => match blook m r with
    | none => (m, r, out)
    | some s => runF k (bdel m r) (addN r 1) (out ++ [s])
def deliverF (x : RS) : RS × List ByteArray :=
  let t := runF (x.buf.length + 1) x.buf x.r []
  ({ x with buf := t.1, r := t.2.1, inb := x.inb ++ t.2.2 }, t.2.2)
theorem runF_none {k : Nat} {m : Buf} {r : Int} {out : List ByteArray} (h : blook m r = none) : runF (k + 1) m r out = (m, r, out) := by
  unfold runF
  rw [h]
theorem runF_some {k : Nat} {m : Buf} {r : Int} {out : List ByteArray} {s : ByteArray} (h : blook m r = some s) : runF (k + 1) m r out = runF k (bdel m r) (addN r 1) (out ++ [s]) := by
  rw [runF, h]
theorem runF_more : ∀ (k d : Nat) (m : Buf) (r : Int) (out : List ByteArray), m.length < k → runF (k + d) m r out = runF k m r out
  | 0, d, m, r, out, h => absurd h (Nat.not_lt_zero _)
  | k + 1, d, m, r, out, h => by
    rw [show k + 1 + d = k + d + 1 by omega]
    cases hl : blook m r with
    | none => rw [runF_none hl, runF_none hl]
    | some s =>
      have := bdel_len hl
      rw [runF_some hl, runF_some hl, runF_more k d _ _ _ (by omega)]
set_option maxHeartbeats 2000000 in
set_option maxRecDepth 100000 in
theorem deliver_c {w0 W : World} {l : List As} {b : Nat} {x : RS} (hx : x.Ok) (HS : SL w0 W (RecvA b x :: l)) :
    Calls Try.prog 31 #[.pointer (some ⟨b, 0, none⟩)] W fun e w' => ∃ v, e = .returned v ∧ SL w0 w' (Row Kd.string 9 v (deliverF x).2 :: RecvA b (deliverF x).1 :: l) := by
  obtain ⟨bm, Ai, ci, Ag, cg, hci, hcg, h⟩ := RecvA.open_ HS
  have HS := Aside0.mk (SL.addNil Kd.string 9 h)
  have hu := Try.underlying73
  have hz : ∀ w, (zeroValue 9).run Try.prog w = .ok (.string ⟨#[]⟩) w := fun w => by kernel_rfl
  have hbl := hx.buf
  have hil := hx.inb
  have HX := Aside0.mk hx
  have HI := Aside0.mk hil
  have HD : Aside0 (∀ v w', SL w0 w' (Row Kd.string 9 v (deliverF x).2 :: RecvA b (deliverF x).1 :: l) → ∃ v', Ending.returned v = .returned v' ∧ SL w0 w' (Row Kd.string 9 v' (deliverF x).2 :: RecvA b (deliverF x).1 :: l)) := ⟨fun v w' h => ⟨v, rfl, h⟩⟩
  obtain ⟨T, hT⟩ : ∃ T, runF (x.buf.length + 1) x.buf x.r [] = T := ⟨_, rfl⟩
  have e : deliverF x = ({ x with buf := T.1, r := T.2.1, inb := x.inb ++ T.2.2 }, T.2.2) := by unfold deliverF; rw [hT]
  rw [e]
  have HT := Aside0.mk hT
  clear h hci hcg hx hT e HD hil
  go_enter Try.func31, Try.ntmps31
  go_wp2
  go_loopg [3] x.buf.length (fun kq v3 wr => ∃ (m : Buf) (r : Int) (out : List ByteArray), 0 ≤ r ∧ r < 16777216 ∧ Aside0 (m.length = kq) ∧ Aside0 (runF (m.length + 1) m r out = T) ∧ Aside0 (out.length + m.length ≤ 1000000) ∧ Aside0 (SL w0 wr (Row Kd.string 9 v3 out :: (partsR b { x with buf := m, r := r } bm (.slice Ai x.inb.length ci) (.slice Ag x.gaps.length cg) ++ l))))
  case atStart => exact ⟨x.buf, x.r, [], HX.out.r.1, HX.out.r.2, ⟨rfl⟩, HT, ⟨by simpa using hbl⟩, HS⟩
  case round =>
    obtain ⟨m, r, out, hr0, hr1, HK, HR, HO, HS⟩ := hrel
    clear HT hbl
    have HW := Aside0.mk (wfN ⟨hr0, hr1⟩)
    obtain ⟨A3, c3, e3, hc3⟩ := SL.form HS.out (.head _)
    subst e3
    cases hl : blook m r with
    | none =>
      have e := HR.out
      rw [runF_none hl] at e
      subst e
      have hlk : Im.look (sM m) r = none := by rw [look_sM, hl]; rfl
      have HL := Aside0.mk hlk
      clear hl hlk HR
      go_wp2_with fail
      refine region_tail 13 (by kernel_rfl) (by kernel_rfl) (fun W1 hW_ => ?_); have hs_ := Aside0.mk (hW_.out ▸ SL.drew (by repeat (first | (with_reducible exact HS.out) | (with_reducible apply SL.alloc) | (with_reducible apply SL.drewN) | (with_reducible apply SL.drew)))); clear HS; have HS := hs_; clear hs_ hW_; obtain ⟨⟨q0, z0⟩, ⟨q1, z1⟩, ⟨q2, z2⟩, ⟨q3, z3⟩, ⟨q4, z4⟩, ⟨q5, z5⟩, ⟨q6, z6⟩⟩ := cellsAt (SL.tail HS.out); have hat := Aside0.mk (SL.mapAt HS.out (.tail _ (.tail _ (.head _)))); simp only [List.take_succ_cons, List.take_zero, List.drop_succ_cons, List.drop_zero]; (repeat (first | (refine still_look_ok rfl _ _ 70 rfl 27 9 .u32 Try.underlying70 Try.underlying27 (.string ⟨#[]⟩) (hz _) bm (sM m) rfl hat.out r rfl HW.out ?_; simp only [HL.out, Option.getD_none, Option.isSome_none]) | still_step)); refine wpStill_nil ?_
      clear hat
      go_wp2_with (first
        | (go_at_call 35; (with_reducible refine (cloneS_c HS.out Ai ci x.inb ?s1 ?s2).mono ?_); (case s1 => exact SL.reads HS.out (.tail _ (.tail _ (.tail _ (.head _))))); (case s2 => have := HX.out.inb; omega); rintro e w1 ⟨v1, rfl, hs⟩; have hs2 := Aside0.mk hs; clear HS hs q0 q1 q2 q3 q4 q5 q6 z0 z1 z2 z3 z4 z5 z6; have HS := hs2; clear hs2; obtain ⟨A4, c4, e4, _⟩ := SL.form HS.out (.head _); subst e4)
        | ((with_reducible refine gate_builtin (b := .append) (xs := #[.tmp 25, .tmp 26]) rfl ?_); at_builtin; refine wpList_appendN Kd.string flat_string rfl (.tmp 25) (.tmp 26) 30 9 (.string ⟨#[]⟩) 16 rfl Try.underlying30 infoS rfl (by decide) (by omega) (.slice A4 x.inb.length c4) x.inb out A3 out.length c3 rfl rfl HS.out (SL.reads HS.out (.tail _ (.head _))) (by have := HX.out.inb; have := HO.out; omega) ?_; intro v2 w2 hs; have hs2 := Aside0.mk hs; clear HS hs; have HS := hs2; clear hs2; obtain ⟨A5, c5, e5, _⟩ := SL.form HS.out (.head _); subst e5; obtain ⟨⟨q0, z0⟩, ⟨q1, z1⟩, ⟨q2, z2⟩, ⟨q3, z3⟩, ⟨q4, z4⟩, ⟨q5, z5⟩, ⟨q6, z6⟩⟩ := cellsAt (SL.tail (SL.tail HS.out))))
      go_ret
      have h2 := SL.set (cs' := cellsR { x with buf := m, r := r, inb := x.inb ++ out } bm (.slice A5 (x.inb ++ out).length c5) (.slice Ag x.gaps.length cg)) (SL.pk [2] HS.out) 5 (.slice A5 (x.inb ++ out).length c5) rfl
      rw [List.length_append] at h2
      exact ⟨_, rfl, SL.swap (RecvA.shut (bm := bm) (vi := .slice A5 (x.inb.length + out.length) c5) (vg := .slice Ag x.gaps.length cg) (SL.tail (SL.pk [4, 0, 2, 0, 1, 0] h2)))⟩
    | some s =>
      have e := HR.out
      have hbd := bdel_len hl
      rw [runF_some hl, ← Nat.add_sub_of_le (show (bdel m r).length + 1 ≤ m.length by omega), runF_more _ _ _ _ _ (Nat.lt_succ_self _)] at e
      have HR2 := Aside0.mk e
      have hlk : Im.look (sM m) r = some (.string s) := by rw [look_sM, hl]; rfl
      have HL := Aside0.mk hlk
      have HB := Aside0.mk hbd
      clear hl hlk HR e hbd
      go_wp2_with fail
      refine region_tail 13 (by kernel_rfl) (by kernel_rfl) (fun W1 hW_ => ?_); have hs_ := Aside0.mk (hW_.out ▸ SL.drew (by repeat (first | (with_reducible exact HS.out) | (with_reducible apply SL.alloc) | (with_reducible apply SL.drewN) | (with_reducible apply SL.drew)))); clear HS; have HS := hs_; clear hs_ hW_; obtain ⟨⟨q0, z0⟩, ⟨q1, z1⟩, ⟨q2, z2⟩, ⟨q3, z3⟩, ⟨q4, z4⟩, ⟨q5, z5⟩, ⟨q6, z6⟩⟩ := cellsAt (SL.tail HS.out); have hat := Aside0.mk (SL.mapAt HS.out (.tail _ (.tail _ (.head _)))); simp only [List.take_succ_cons, List.take_zero, List.drop_succ_cons, List.drop_zero]; (repeat (first | (refine still_look_ok rfl _ _ 70 rfl 27 9 .u32 Try.underlying70 Try.underlying27 (.string ⟨#[]⟩) (hz _) bm (sM m) rfl hat.out r rfl HW.out ?_; simp only [HL.out, Option.getD_some, Option.isSome_some]) | still_step)); refine wpStill_nil ?_
      clear hat
      go_wp2_with ((with_reducible refine gate_builtin (b := .append) (xs := #[.tmp 31, .tmp 33]) rfl ?_); at_builtin; refine wpList_append1 Kd.string rfl (.tmp 31) (.tmp 33) 30 9 (.string ⟨#[]⟩) 16 rfl Try.underlying30 infoS rfl (by decide) (by omega) (.slice A3 out.length c3) out s [.string s] rfl rfl rfl (by repeat (first | (with_reducible exact HS.out) | (with_reducible apply SL.alloc) | (with_reducible apply SL.drewN) | (with_reducible apply SL.drew))) (by have := HO.out; omega) ?_; intro v2 w2 hs; have hs2 := Aside0.mk hs; clear HS hs q0 q1 q2 q3 q4 q5 q6 z0 z1 z2 z3 z4 z5 z6; have HS := hs2; clear hs2; obtain ⟨A5, c5, e5, _⟩ := SL.form HS.out (.head _); subst e5)
      refine region_tail 8 (by kernel_rfl) (by kernel_rfl) (fun W3 hW_ => ?_); have hs_ := Aside0.mk (hW_.out ▸ SL.drew (by repeat (first | (with_reducible exact HS.out) | (with_reducible apply SL.alloc) | (with_reducible apply SL.drewN) | (with_reducible apply SL.drew)))); clear HS; have HS := hs_; clear hs_ hW_; obtain ⟨⟨q0, z0⟩, ⟨q1, z1⟩, ⟨q2, z2⟩, ⟨q3, z3⟩, ⟨q4, z4⟩, ⟨q5, z5⟩, ⟨q6, z6⟩⟩ := cellsAt (SL.tail HS.out); simp only [List.take_succ_cons, List.take_zero, List.drop_succ_cons, List.drop_zero]; (repeat (first | still_step)); refine wpStill_nil ?_
      go_wp2_with (first
        | (at_delete; refine wpList_mdel rfl _ _ 70 27 rfl 27 9 .u32 Try.underlying70 Try.underlying27 bm (sM m) rfl (SL.pk [2] HS.out) r rfl HW.out ?_; rw [del_sM]; intro w4 hs; have hs2 := Aside0.mk hs; clear HS hs q0 q1 q2 q3 q4 q5 q6 z0 z1 z2 z3 z4 z5 z6; have HS := hs2; clear hs2; obtain ⟨q0, z0⟩ := SL.cell HS.out (.tail _ (.tail _ (.head _))) 0 (v := .int .u32 r) rfl)
        | (go_at_call 14; (with_reducible refine (add_c _ _ _).mono ?_); rintro e w1 ⟨rfl, rfl⟩; skip))
      have h2 := SL.set (cs' := cellsR { x with buf := bdel m r, r := addN r 1 } bm (.slice Ai x.inb.length ci) (.slice Ag x.gaps.length cg)) (SL.pk [2] HS.out) 0 (.int .u32 (addN r 1)) rfl
      have HS2 := Aside0.mk (SL.pk [2, 0, 0] h2)
      clear h2
      go_roundg (bdel m r).length
      case measure => have := HK.out; have := HB.out; omega
      case rel => exact ⟨bdel m r, addN r 1, out ++ [s], by unfold addN; omega, by unfold addN; omega, ⟨rfl⟩, HR2, ⟨by have := HO.out; have := HB.out; rw [List.length_append, List.length_singleton]; omega⟩, ⟨by have h := HS2.out; rw [List.length_append, List.length_singleton] at *; exact h⟩⟩
end Go.Proofs.Ytiiljdglbfgdbaa.Rcv
/-! The receiver's methods, fifth part: Data. -/
namespace Go.Proofs.Ytiiljdglbfgdbaa.Rcv
open Go Go.RowKit Go.Proofs.YtiiljdglbfgdbaaW.PrintWords Go.Proofs.YtiiljdglbfgdbaaW.PrintLast Go.Proofs.YtiiljdglbfgdbaaW.PrintMore Go.Proofs.Ytiiljdglbfgdbaa Go.Proofs.Ytiiljdglbfgdbaa.Sl Go.Proofs.Ytiiljdglbfgdbaa.S
/-- Data: a unit comes. -/
def dataG (x : RS) (k : Int) : RS := if toN x.r k < toN x.r x.h then x else { x with gaps := if k ≠ x.h ∧ x.gaps.length < 8 then x.gaps ++ [⟨x.h, k⟩] else x.gaps, h := addN k 1 }
def dataF (x : RS) (n : Int) (m : ByteArray) : RS × List ByteArray :=
  if (blook x.buf (lowN n)).isSome = true ∨ ¬ toN x.r (lowN n) < toN x.r x.mr then (x, []) else deliverF (dataG { x with buf := bput x.buf (lowN n) m } (lowN n))
theorem data_kept {w0 W : World} {l : List As} {b : Nat} {x : RS} {bm : Nat} {vi vg : Value} (h : SL w0 W (partsR b x bm vi vg ++ l)) : ∃ v, Ending.returned (.slice none 0 0) = .returned v ∧ SL w0 W (Row Kd.string 9 v [] :: RecvA b x :: l) :=
  ⟨_, rfl, SL.addNil _ _ (RecvA.shut h)⟩
set_option maxHeartbeats 2000000 in
set_option maxRecDepth 100000 in
/-- What comes is kept already. -/
theorem data_have {w0 W : World} {l : List As} {b : Nat} {x : RS} (HS : SL w0 W (RecvA b x :: l)) (n k : Int) (m s : ByteArray) (hk : lowN n = k) (hh : blook x.buf k = some s) :
    Calls Try.prog 13 #[.pointer (some ⟨b, 0, none⟩), .int .u32 n, .string m] W fun e w' => ∃ v, e = .returned v ∧ SL w0 w' (Row Kd.string 9 v [] :: RecvA b x :: l) := by
  obtain ⟨bm, Ai, ci, Ag, cg, hci, hcg, h⟩ := RecvA.open_ HS
  have HS := Aside0.mk h
  have hu := Try.underlying73
  have hu2 := Try.underlying76
  have hz : ∀ w, (zeroValue 9).run Try.prog w = .ok (.string ⟨#[]⟩) w := fun w => by kernel_rfl
  have hlow : Aside0 (∀ W', Calls Try.prog 30 #[.int .u32 n] W' fun e w' => e = .returned (.int .u32 k) ∧ w' = W') := ⟨fun W' => hk ▸ low_c n W'⟩
  have HW := Aside0.mk (wfN (show 0 ≤ k ∧ k < 16777216 by rw [← hk]; unfold lowN; omega))
  obtain ⟨⟨q0, z0⟩, ⟨q1, z1⟩, ⟨q2, z2⟩, ⟨q3, z3⟩, ⟨q4, z4⟩, ⟨q5, z5⟩, ⟨q6, z6⟩⟩ := cellsAt HS.out
  have hlk : Im.look (sM x.buf) k = some (.string s) := by rw [look_sM, hh]; rfl
  have HL := Aside0.mk hlk
  clear h hci hcg hh hlk hk
  go_enter Try.func13, Try.ntmps13
  go_wp2_with (first | (go_at_call 30; (with_reducible refine (hlow.out _).mono ?_); rintro e w1 ⟨rfl, rfl⟩; skip) | (at_lookup; refine Im.wpList_look_ok _ rfl _ _ 70 rfl 27 9 .u32 Try.underlying70 Try.underlying27 (.string ⟨#[]⟩) (hz _) bm (sM x.buf) rfl (SL.mapAt HS.out (.tail _ (.head _))) k rfl HW.out ?_; simp only [HL.out, Option.getD_some, Option.isSome_some]))
  go_quiet (fail)
  go_wp2
  go_ret
  exact data_kept (SL.drewN HS.out nq)
set_option maxHeartbeats 2000000 in
set_option maxRecDepth 100000 in
/-- What comes lies beyond the window. -/
theorem data_far {w0 W : World} {l : List As} {b : Nat} {x : RS} (HS : SL w0 W (RecvA b x :: l)) (n k : Int) (m : ByteArray) (hk : lowN n = k) (hh : blook x.buf k = none) (hb : ¬ toN x.r k < toN x.r x.mr) :
    Calls Try.prog 13 #[.pointer (some ⟨b, 0, none⟩), .int .u32 n, .string m] W fun e w' => ∃ v, e = .returned v ∧ SL w0 w' (Row Kd.string 9 v [] :: RecvA b x :: l) := by
  obtain ⟨bm, Ai, ci, Ag, cg, hci, hcg, h⟩ := RecvA.open_ HS
  have HS := Aside0.mk h
  have hu := Try.underlying73
  have hu2 := Try.underlying76
  have hz : ∀ w, (zeroValue 9).run Try.prog w = .ok (.string ⟨#[]⟩) w := fun w => by kernel_rfl
  have hlow : Aside0 (∀ W', Calls Try.prog 30 #[.int .u32 n] W' fun e w' => e = .returned (.int .u32 k) ∧ w' = W') := ⟨fun W' => hk ▸ low_c n W'⟩
  have HW := Aside0.mk (wfN (show 0 ≤ k ∧ k < 16777216 by rw [← hk]; unfold lowN; omega))
  obtain ⟨⟨q0, z0⟩, ⟨q1, z1⟩, ⟨q2, z2⟩, ⟨q3, z3⟩, ⟨q4, z4⟩, ⟨q5, z5⟩, ⟨q6, z6⟩⟩ := cellsAt HS.out
  have hlk : Im.look (sM x.buf) k = none := by rw [look_sM, hh]; rfl
  have HL := Aside0.mk hlk
  have hd : decide (toN x.r k < toN x.r x.mr) = false := decide_eq_false hb
  clear h hci hcg hh hlk hk hb
  go_enter Try.func13, Try.ntmps13
  go_wp2_with (first | (go_at_call 30; (with_reducible refine (hlow.out _).mono ?_); rintro e w1 ⟨rfl, rfl⟩; skip) | (at_lookup; refine Im.wpList_look_ok _ rfl _ _ 70 rfl 27 9 .u32 Try.underlying70 Try.underlying27 (.string ⟨#[]⟩) (hz _) bm (sM x.buf) rfl (SL.mapAt HS.out (.tail _ (.head _))) k rfl HW.out ?_; simp only [HL.out, Option.getD_none, Option.isSome_none]))
  go_quiet ((first | (go_at_call 27; with_reducible exact Calls.quiet_of_same (between_c _ _ _ _))))
  go_wp2
  go_ret
  exact data_kept (SL.drewN HS.out nq)
end Go.Proofs.Ytiiljdglbfgdbaa.Rcv
/-! The receiver's methods, sixth part: Data, where the unit is kept. -/
namespace Go.Proofs.Ytiiljdglbfgdbaa.Rcv
open Go Go.RowKit Go.Proofs.YtiiljdglbfgdbaaW.PrintWords Go.Proofs.YtiiljdglbfgdbaaW.PrintLast Go.Proofs.YtiiljdglbfgdbaaW.PrintMore Go.Proofs.Ytiiljdglbfgdbaa Go.Proofs.Ytiiljdglbfgdbaa.Sl Go.Proofs.Ytiiljdglbfgdbaa.S
set_option maxHeartbeats 2000000 in
set_option maxRecDepth 100000 in
theorem data_in {w0 W : World} {l : List As} {b : Nat} {x : RS} (HS : SL w0 W (RecvA b x :: l)) (n k : Int) (m : ByteArray) (hk : lowN n = k) (hh : blook x.buf k = none) (hb : toN x.r k < toN x.r x.mr) (hi : toN x.r k < toN x.r x.h) (hx2 : ({ x with buf := bput x.buf k m } : RS).Ok) :
    Calls Try.prog 13 #[.pointer (some ⟨b, 0, none⟩), .int .u32 n, .string m] W fun e w' => ∃ v, e = .returned v ∧ SL w0 w' (Row Kd.string 9 v (deliverF { x with buf := bput x.buf k m }).2 :: RecvA b (deliverF { x with buf := bput x.buf k m }).1 :: l) := by
  obtain ⟨bm, Ai, ci, Ag, cg, hci, hcg, h⟩ := RecvA.open_ HS
  have HS := Aside0.mk h
  have hu := Try.underlying73
  have hu2 := Try.underlying76
  have hz : ∀ w, (zeroValue 9).run Try.prog w = .ok (.string ⟨#[]⟩) w := fun w => by kernel_rfl
  have hlow : Aside0 (∀ W', Calls Try.prog 30 #[.int .u32 n] W' fun e w' => e = .returned (.int .u32 k) ∧ w' = W') := ⟨fun W' => hk ▸ low_c n W'⟩
  have HW := Aside0.mk (wfN (show 0 ≤ k ∧ k < 16777216 by rw [← hk]; unfold lowN; omega))
  obtain ⟨⟨q0, z0⟩, ⟨q1, z1⟩, ⟨q2, z2⟩, ⟨q3, z3⟩, ⟨q4, z4⟩, ⟨q5, z5⟩, ⟨q6, z6⟩⟩ := cellsAt HS.out
  have hlk : Im.look (sM x.buf) k = none := by rw [look_sM, hh]; rfl
  have HL := Aside0.mk hlk
  have hd : decide (toN x.r k < toN x.r x.mr) = true := decide_eq_true hb
  have HX := Aside0.mk hx2
  clear h hci hcg hh hlk hk hb hx2
  have hd2 : decide (toN x.r k < toN x.r x.h) = true := decide_eq_true hi
  clear hi
  go_enter Try.func13, Try.ntmps13
  go_wp2_with (first | (go_at_call 30; (with_reducible refine (hlow.out _).mono ?_); rintro e w1 ⟨rfl, rfl⟩; skip) | (at_lookup; refine Im.wpList_look_ok _ rfl _ _ 70 rfl 27 9 .u32 Try.underlying70 Try.underlying27 (.string ⟨#[]⟩) (hz _) bm (sM x.buf) rfl (SL.mapAt HS.out (.tail _ (.head _))) k rfl HW.out ?_; simp only [HL.out, Option.getD_none, Option.isSome_none]))
  go_quiet ((first | (go_at_call 27; with_reducible exact Calls.quiet_of_same (between_c _ _ _ _))))
  go_wp2_with (at_mapUpdate; refine wpList_mput rfl _ _ _ 70 rfl 27 9 .u32 Try.underlying70 Try.underlying27 bm (sM x.buf) rfl (SL.swap (by (with_reducible repeat (first | apply SL.alloc | apply SL.drewN | apply SL.drew)); exact HS.out)) k (.string m) rfl rfl HW.out ?_; rw [put_sM]; intro w5 hs; have hs2 := Aside0.mk (show SL w0 w5 (partsR b { x with buf := bput x.buf k m } bm (.slice Ai x.inb.length ci) (.slice Ag x.gaps.length cg) ++ l) from SL.swap hs); clear HS hs q0 q1 q2 q3 q4 q5 q6 z0 z1 z2 z3 z4 z5 z6; have HS := hs2; clear hs2; obtain ⟨⟨q0, z0⟩, ⟨q1, z1⟩, ⟨q2, z2⟩, ⟨q3, z3⟩, ⟨q4, z4⟩, ⟨q5, z5⟩, ⟨q6, z6⟩⟩ := cellsAt HS.out)
  go_quiet ((first | (go_at_call 27; with_reducible exact Calls.quiet_of_same (between_c _ _ _ _))))
  go_wp2_with (go_at_call 31; (with_reducible refine (deliver_c HX.out (RecvA.shut (by (with_reducible repeat (first | apply SL.alloc | apply SL.drewN | apply SL.drew)); exact HS.out))).mono ?_); rintro e w9 ⟨v, rfl, hs⟩; obtain ⟨A9, c9, e9, _⟩ := SL.form hs (.head _); subst e9; have hs2 := Aside0.mk hs; clear HS hs; have HS := hs2; clear hs2)
  go_ret
  exact ⟨_, rfl, HS.out⟩
set_option maxHeartbeats 2000000 in
set_option maxRecDepth 100000 in
theorem data_eq {w0 W : World} {l : List As} {b : Nat} {x : RS} (HS : SL w0 W (RecvA b x :: l)) (n k : Int) (m : ByteArray) (hk : lowN n = k) (hh : blook x.buf k = none) (hb : toN x.r k < toN x.r x.mr) (hi : ¬ toN x.r k < toN x.r x.h) (he : k = x.h) (hx2 : ({ x with buf := bput x.buf k m, h := addN k 1 } : RS).Ok) :
    Calls Try.prog 13 #[.pointer (some ⟨b, 0, none⟩), .int .u32 n, .string m] W fun e w' => ∃ v, e = .returned v ∧ SL w0 w' (Row Kd.string 9 v (deliverF { x with buf := bput x.buf k m, h := addN k 1 }).2 :: RecvA b (deliverF { x with buf := bput x.buf k m, h := addN k 1 }).1 :: l) := by
  obtain ⟨bm, Ai, ci, Ag, cg, hci, hcg, h⟩ := RecvA.open_ HS
  have HS := Aside0.mk h
  have hu := Try.underlying73
  have hu2 := Try.underlying76
  have hz : ∀ w, (zeroValue 9).run Try.prog w = .ok (.string ⟨#[]⟩) w := fun w => by kernel_rfl
  have hlow : Aside0 (∀ W', Calls Try.prog 30 #[.int .u32 n] W' fun e w' => e = .returned (.int .u32 k) ∧ w' = W') := ⟨fun W' => hk ▸ low_c n W'⟩
  have HW := Aside0.mk (wfN (show 0 ≤ k ∧ k < 16777216 by rw [← hk]; unfold lowN; omega))
  obtain ⟨⟨q0, z0⟩, ⟨q1, z1⟩, ⟨q2, z2⟩, ⟨q3, z3⟩, ⟨q4, z4⟩, ⟨q5, z5⟩, ⟨q6, z6⟩⟩ := cellsAt HS.out
  have hlk : Im.look (sM x.buf) k = none := by rw [look_sM, hh]; rfl
  have HL := Aside0.mk hlk
  have hd : decide (toN x.r k < toN x.r x.mr) = true := decide_eq_true hb
  have HX := Aside0.mk hx2
  clear h hci hcg hh hlk hk hb hx2
  have hd2 : decide (toN x.r k < toN x.r x.h) = false := decide_eq_false hi
  clear hi
  have g1 : (k != x.h) = false := by rw [bne_eq_false_iff_eq]; exact he
  have g2 : (k == x.h) = true := beq_iff_eq.mpr he
  clear he
  go_enter Try.func13, Try.ntmps13
  go_wp2_with (first | (go_at_call 30; (with_reducible refine (hlow.out _).mono ?_); rintro e w1 ⟨rfl, rfl⟩; skip) | (at_lookup; refine Im.wpList_look_ok _ rfl _ _ 70 rfl 27 9 .u32 Try.underlying70 Try.underlying27 (.string ⟨#[]⟩) (hz _) bm (sM x.buf) rfl (SL.mapAt HS.out (.tail _ (.head _))) k rfl HW.out ?_; simp only [HL.out, Option.getD_none, Option.isSome_none]))
  go_quiet ((first | (go_at_call 27; with_reducible exact Calls.quiet_of_same (between_c _ _ _ _))))
  go_wp2_with (at_mapUpdate; refine wpList_mput rfl _ _ _ 70 rfl 27 9 .u32 Try.underlying70 Try.underlying27 bm (sM x.buf) rfl (SL.swap (by (with_reducible repeat (first | apply SL.alloc | apply SL.drewN | apply SL.drew)); exact HS.out)) k (.string m) rfl rfl HW.out ?_; rw [put_sM]; intro w5 hs; have hs2 := Aside0.mk (show SL w0 w5 (partsR b { x with buf := bput x.buf k m } bm (.slice Ai x.inb.length ci) (.slice Ag x.gaps.length cg) ++ l) from SL.swap hs); clear HS hs q0 q1 q2 q3 q4 q5 q6 z0 z1 z2 z3 z4 z5 z6; have HS := hs2; clear hs2; obtain ⟨⟨q0, z0⟩, ⟨q1, z1⟩, ⟨q2, z2⟩, ⟨q3, z3⟩, ⟨q4, z4⟩, ⟨q5, z5⟩, ⟨q6, z6⟩⟩ := cellsAt HS.out)
  go_quiet ((first | (go_at_call 27; with_reducible exact Calls.quiet_of_same (between_c _ _ _ _))))
  go_wp2_with (first | (go_at_call 14; (with_reducible refine (add_c _ _ _).mono ?_); rintro e w1 ⟨rfl, rfl⟩; skip) | ((with_reducible refine gate_callee (f := 31) rfl ?_); fail))
  have h2 := SL.set (cs' := cellsR { x with buf := bput x.buf k m, h := addN k 1 } bm (.slice Ai x.inb.length ci) (.slice Ag x.gaps.length cg)) (SL.drewN HS.out nq) 1 (.int .u32 (addN k 1)) rfl
  refine (deliver_c HX.out (RecvA.shut (x := { x with buf := bput x.buf k m, h := addN k 1 }) h2)).mono ?_
  rintro e w9 ⟨v, rfl, hs⟩
  obtain ⟨A9, c9, e9, _⟩ := SL.form hs (.head _)
  subst e9
  have hs2 := Aside0.mk hs
  clear hs h2
  go_wp2
  go_ret
  exact ⟨_, rfl, hs2.out⟩
set_option maxHeartbeats 2000000 in
set_option maxRecDepth 100000 in
theorem data_full {w0 W : World} {l : List As} {b : Nat} {x : RS} (HS : SL w0 W (RecvA b x :: l)) (n k : Int) (m : ByteArray) (hk : lowN n = k) (hh : blook x.buf k = none) (hb : toN x.r k < toN x.r x.mr) (hi : ¬ toN x.r k < toN x.r x.h) (he : k ≠ x.h) (hf : ¬ x.gaps.length < 8) (hx2 : ({ x with buf := bput x.buf k m, h := addN k 1 } : RS).Ok) :
    Calls Try.prog 13 #[.pointer (some ⟨b, 0, none⟩), .int .u32 n, .string m] W fun e w' => ∃ v, e = .returned v ∧ SL w0 w' (Row Kd.string 9 v (deliverF { x with buf := bput x.buf k m, h := addN k 1 }).2 :: RecvA b (deliverF { x with buf := bput x.buf k m, h := addN k 1 }).1 :: l) := by
  obtain ⟨bm, Ai, ci, Ag, cg, hci, hcg, h⟩ := RecvA.open_ HS
  have HS := Aside0.mk h
  have hu := Try.underlying73
  have hu2 := Try.underlying76
  have hz : ∀ w, (zeroValue 9).run Try.prog w = .ok (.string ⟨#[]⟩) w := fun w => by kernel_rfl
  have hlow : Aside0 (∀ W', Calls Try.prog 30 #[.int .u32 n] W' fun e w' => e = .returned (.int .u32 k) ∧ w' = W') := ⟨fun W' => hk ▸ low_c n W'⟩
  have HW := Aside0.mk (wfN (show 0 ≤ k ∧ k < 16777216 by rw [← hk]; unfold lowN; omega))
  obtain ⟨⟨q0, z0⟩, ⟨q1, z1⟩, ⟨q2, z2⟩, ⟨q3, z3⟩, ⟨q4, z4⟩, ⟨q5, z5⟩, ⟨q6, z6⟩⟩ := cellsAt HS.out
  have hlk : Im.look (sM x.buf) k = none := by rw [look_sM, hh]; rfl
  have HL := Aside0.mk hlk
  have hd : decide (toN x.r k < toN x.r x.mr) = true := decide_eq_true hb
  have HX := Aside0.mk hx2
  clear h hci hcg hh hlk hk hb hx2
  have hd2 : decide (toN x.r k < toN x.r x.h) = false := decide_eq_false hi
  clear hi
  have g1 : (k != x.h) = true := bne_iff_ne.mpr he
  have g2 : (k == x.h) = false := beq_eq_false_iff_ne.mpr he
  have g3 : decide ((x.gaps.length : Int) < 8) = false := decide_eq_false (by omega)
  have g4 : decide (x.gaps.length < 8) = false := decide_eq_false hf
  clear he hf
  go_enter Try.func13, Try.ntmps13
  go_wp2_with (first | (go_at_call 30; (with_reducible refine (hlow.out _).mono ?_); rintro e w1 ⟨rfl, rfl⟩; skip) | (at_lookup; refine Im.wpList_look_ok _ rfl _ _ 70 rfl 27 9 .u32 Try.underlying70 Try.underlying27 (.string ⟨#[]⟩) (hz _) bm (sM x.buf) rfl (SL.mapAt HS.out (.tail _ (.head _))) k rfl HW.out ?_; simp only [HL.out, Option.getD_none, Option.isSome_none]))
  go_quiet ((first | (go_at_call 27; with_reducible exact Calls.quiet_of_same (between_c _ _ _ _))))
  go_wp2_with (at_mapUpdate; refine wpList_mput rfl _ _ _ 70 rfl 27 9 .u32 Try.underlying70 Try.underlying27 bm (sM x.buf) rfl (SL.swap (by (with_reducible repeat (first | apply SL.alloc | apply SL.drewN | apply SL.drew)); exact HS.out)) k (.string m) rfl rfl HW.out ?_; rw [put_sM]; intro w5 hs; have hs2 := Aside0.mk (show SL w0 w5 (partsR b { x with buf := bput x.buf k m } bm (.slice Ai x.inb.length ci) (.slice Ag x.gaps.length cg) ++ l) from SL.swap hs); clear HS hs q0 q1 q2 q3 q4 q5 q6 z0 z1 z2 z3 z4 z5 z6; have HS := hs2; clear hs2; obtain ⟨⟨q0, z0⟩, ⟨q1, z1⟩, ⟨q2, z2⟩, ⟨q3, z3⟩, ⟨q4, z4⟩, ⟨q5, z5⟩, ⟨q6, z6⟩⟩ := cellsAt HS.out)
  go_quiet ((first | (go_at_call 27; with_reducible exact Calls.quiet_of_same (between_c _ _ _ _))))
  go_wp2_with (first | (go_at_call 14; (with_reducible refine (add_c _ _ _).mono ?_); rintro e w1 ⟨rfl, rfl⟩; skip) | ((with_reducible refine gate_callee (f := 31) rfl ?_); fail))
  have h2 := SL.set (cs' := cellsR { x with buf := bput x.buf k m, h := addN k 1 } bm (.slice Ai x.inb.length ci) (.slice Ag x.gaps.length cg)) (SL.drewN HS.out nq) 1 (.int .u32 (addN k 1)) rfl
  refine (deliver_c HX.out (RecvA.shut (x := { x with buf := bput x.buf k m, h := addN k 1 }) h2)).mono ?_
  rintro e w9 ⟨v, rfl, hs⟩
  obtain ⟨A9, c9, e9, _⟩ := SL.form hs (.head _)
  subst e9
  have hs2 := Aside0.mk hs
  clear hs h2
  go_wp2
  go_ret
  exact ⟨_, rfl, hs2.out⟩
set_option maxHeartbeats 2000000 in
set_option maxRecDepth 100000 in
theorem data_gap {w0 W : World} {l : List As} {b : Nat} {x : RS} (HS : SL w0 W (RecvA b x :: l)) (n k : Int) (m : ByteArray) (hk : lowN n = k) (hh : blook x.buf k = none) (hb : toN x.r k < toN x.r x.mr) (hi : ¬ toN x.r k < toN x.r x.h) (he : k ≠ x.h) (hf : x.gaps.length < 8) (hx2 : ({ x with buf := bput x.buf k m, gaps := x.gaps ++ [⟨x.h, k⟩], h := addN k 1 } : RS).Ok) :
    Calls Try.prog 13 #[.pointer (some ⟨b, 0, none⟩), .int .u32 n, .string m] W fun e w' => ∃ v, e = .returned v ∧ SL w0 w' (Row Kd.string 9 v (deliverF { x with buf := bput x.buf k m, gaps := x.gaps ++ [⟨x.h, k⟩], h := addN k 1 }).2 :: RecvA b (deliverF { x with buf := bput x.buf k m, gaps := x.gaps ++ [⟨x.h, k⟩], h := addN k 1 }).1 :: l) := by
  obtain ⟨bm, Ai, ci, Ag, cg, hci, hcg, h⟩ := RecvA.open_ HS
  have HS := Aside0.mk h
  have hu := Try.underlying73
  have hu2 := Try.underlying76
  have hz : ∀ w, (zeroValue 9).run Try.prog w = .ok (.string ⟨#[]⟩) w := fun w => by kernel_rfl
  have hlow : Aside0 (∀ W', Calls Try.prog 30 #[.int .u32 n] W' fun e w' => e = .returned (.int .u32 k) ∧ w' = W') := ⟨fun W' => hk ▸ low_c n W'⟩
  have HW := Aside0.mk (wfN (show 0 ≤ k ∧ k < 16777216 by rw [← hk]; unfold lowN; omega))
  obtain ⟨⟨q0, z0⟩, ⟨q1, z1⟩, ⟨q2, z2⟩, ⟨q3, z3⟩, ⟨q4, z4⟩, ⟨q5, z5⟩, ⟨q6, z6⟩⟩ := cellsAt HS.out
  have hlk : Im.look (sM x.buf) k = none := by rw [look_sM, hh]; rfl
  have HL := Aside0.mk hlk
  have hd : decide (toN x.r k < toN x.r x.mr) = true := decide_eq_true hb
  have HX := Aside0.mk hx2
  clear h hci hcg hh hlk hk hb hx2
  have hd2 : decide (toN x.r k < toN x.r x.h) = false := decide_eq_false hi
  clear hi
  have g1 : (k != x.h) = true := bne_iff_ne.mpr he
  have g2 : (k == x.h) = false := beq_eq_false_iff_ne.mpr he
  have g3 : decide ((x.gaps.length : Int) < 8) = true := decide_eq_true (by omega)
  have g4 : decide (x.gaps.length < 8) = true := decide_eq_true hf
  have HF := Aside0.mk hf
  clear he hf
  go_enter Try.func13, Try.ntmps13
  go_wp2_with (first | (go_at_call 30; (with_reducible refine (hlow.out _).mono ?_); rintro e w1 ⟨rfl, rfl⟩; skip) | (at_lookup; refine Im.wpList_look_ok _ rfl _ _ 70 rfl 27 9 .u32 Try.underlying70 Try.underlying27 (.string ⟨#[]⟩) (hz _) bm (sM x.buf) rfl (SL.mapAt HS.out (.tail _ (.head _))) k rfl HW.out ?_; simp only [HL.out, Option.getD_none, Option.isSome_none]))
  go_quiet ((first | (go_at_call 27; with_reducible exact Calls.quiet_of_same (between_c _ _ _ _))))
  go_wp2_with (at_mapUpdate; refine wpList_mput rfl _ _ _ 70 rfl 27 9 .u32 Try.underlying70 Try.underlying27 bm (sM x.buf) rfl (SL.swap (by (with_reducible repeat (first | apply SL.alloc | apply SL.drewN | apply SL.drew)); exact HS.out)) k (.string m) rfl rfl HW.out ?_; rw [put_sM]; intro w5 hs; have hs2 := Aside0.mk (show SL w0 w5 (partsR b { x with buf := bput x.buf k m } bm (.slice Ai x.inb.length ci) (.slice Ag x.gaps.length cg) ++ l) from SL.swap hs); clear HS hs q0 q1 q2 q3 q4 q5 q6 z0 z1 z2 z3 z4 z5 z6; have HS := hs2; clear hs2; obtain ⟨⟨q0, z0⟩, ⟨q1, z1⟩, ⟨q2, z2⟩, ⟨q3, z3⟩, ⟨q4, z4⟩, ⟨q5, z5⟩, ⟨q6, z6⟩⟩ := cellsAt HS.out)
  go_quiet ((first | (go_at_call 27; with_reducible exact Calls.quiet_of_same (between_c _ _ _ _))))
  go_wp2
  refine start_ (n := 16) (S := fun w' => w'.cell? ⟨b, 1, none⟩ = some (.int .u32 x.h) ∧ w'.cell? ⟨b, 6, none⟩ = some (.slice Ag x.gaps.length cg)) (ds := [15]) #[false, false, false, false, false, false, false, false, false, false, false, false, false, false, false, false] (by kernel_rfl) rfl rfl ⟨q1, q6⟩ (fun hHeld => ?_)
  have hs_ := Aside0.mk (SL.drew (W := w5.drewN nq) (by repeat (first | (with_reducible exact HS.out) | (with_reducible apply SL.alloc) | (with_reducible apply SL.drewN) | (with_reducible apply SL.drew))))
  clear HS
  have HS := hs_
  clear hs_
  generalize (w5.drewN nq : World).drew = W7 at HS hHeld ⊢
  refine pure_ (i := 0) (N := (some 65)) (v := ?_) (a' := ?_) #[true, false, false, false, false, false, false, false, false, false, false, false, false, false, false, false] rfl rfl (by kernel_rfl) (fun _ _ _ h => h) (Or.inl ⟨by rfl, ?_⟩) ?_ ?_
  rotate_left
  · intro w'; go_simp; with_reducible rfl
  rotate_left
  · simp only [Act.put, List.setIfInBounds_toArray, List.set_cons_zero, List.set_cons_succ, i64_w, i32_w]; rfl
  refine pure_ (i := 1) (N := (some 66)) (v := ?_) (a' := ?_) #[true, true, false, false, false, false, false, false, false, false, false, false, false, false, false, false] rfl rfl (by kernel_rfl) (fun _ _ _ h => h) (Or.inl ⟨by rfl, ?_⟩) ?_ ?_
  rotate_left
  · intro w'; go_simp; with_reducible rfl
  rotate_left
  · simp only [Act.put, List.setIfInBounds_toArray, List.set_cons_zero, List.set_cons_succ, i64_w, i32_w]; rfl
  refine pure_ (i := 2) (N := (some 67)) (v := ?_) (a' := ?_) #[true, true, true, false, false, false, false, false, false, false, false, false, false, false, false, false] rfl rfl (by kernel_rfl) (fun _ _ _ h => h) (Or.inl ⟨by rfl, ?_⟩) ?_ ?_
  rotate_left
  · intro w'; go_simp; with_reducible rfl
  rotate_left
  · simp only [Act.put, List.setIfInBounds_toArray, List.set_cons_zero, List.set_cons_succ, i64_w, i32_w]; rfl
  refine pure_ (i := 3) (N := (some 68)) (v := ?_) (a' := ?_) #[true, true, true, true, false, false, false, false, false, false, false, false, false, false, false, false] rfl rfl (by kernel_rfl) (fun _ _ _ h => h) (Or.inl ⟨by rfl, ?_⟩) ?_ ?_
  rotate_left
  · intro w'; go_simp; with_reducible rfl
  rotate_left
  · simp only [Act.put, List.setIfInBounds_toArray, List.set_cons_zero, List.set_cons_succ, i64_w, i32_w]; rfl
  refine pure_ (i := 5) (N := (some 70)) (v := ?_) (a' := ?_) #[true, true, true, true, false, true, false, false, false, false, false, false, false, false, false, false] rfl rfl (by kernel_rfl) (fun _ _ _ h => h) (Or.inl ⟨by rfl, ?_⟩) ?_ ?_
  rotate_left
  · intro w'; go_simp; with_reducible rfl
  rotate_left
  · simp only [Act.put, List.setIfInBounds_toArray, List.set_cons_zero, List.set_cons_succ, i64_w, i32_w]; rfl
  refine pure_ (i := 6) (N := (some 71)) (v := ?_) (a' := ?_) #[true, true, true, true, false, true, true, false, false, false, false, false, false, false, false, false] rfl rfl (by kernel_rfl) (fun _ _ _ h => h) (Or.inl ⟨by rfl, ?_⟩) ?_ ?_
  rotate_left
  · intro w'; go_simp; with_reducible rfl
  rotate_left
  · simp only [Act.put, List.setIfInBounds_toArray, List.set_cons_zero, List.set_cons_succ, i64_w, i32_w]; rfl
  refine pure_ (i := 7) (N := (some 72)) (v := ?_) (a' := ?_) #[true, true, true, true, false, true, true, true, false, false, false, false, false, false, false, false] rfl rfl (by kernel_rfl) (fun _ _ _ h => h) (Or.inl ⟨by rfl, ?_⟩) ?_ ?_
  rotate_left
  · intro w'; go_simp; with_reducible rfl
  rotate_left
  · simp only [Act.put, List.setIfInBounds_toArray, List.set_cons_zero, List.set_cons_succ, i64_w, i32_w]; rfl
  refine pure_ (i := 9) (N := (some 74)) (v := ?_) (a' := ?_) #[true, true, true, true, false, true, true, true, false, true, false, false, false, false, false, false] rfl rfl (by kernel_rfl) (fun _ _ _ h => h) (Or.inl ⟨by rfl, ?_⟩) ?_ ?_
  rotate_left
  · intro w'; go_simp; with_reducible rfl
  rotate_left
  · simp only [Act.put, List.setIfInBounds_toArray, List.set_cons_zero, List.set_cons_succ, i64_w, i32_w]; rfl
  refine take_ (i := 4) (N := (some 69)) (v := ?_) (a' := ?_) #[true, true, true, true, true, true, true, true, false, true, false, false, false, false, false, false] rfl rfl (by kernel_rfl) (fun _ _ _ h => h) (Or.inl ⟨by rfl, ?_⟩) hHeld ?_ ?_
  rotate_left
  · rintro w' ⟨s0, s1⟩; go_simp; with_reducible rfl
  rotate_left
  · simp only [Act.put, List.setIfInBounds_toArray, List.set_cons_zero, List.set_cons_succ, i64_w, i32_w]; rfl
  refine take_ (i := 8) (N := (some 73)) (v := ?_) (a' := ?_) #[true, true, true, true, true, true, true, true, true, true, false, false, false, false, false, false] rfl rfl (by kernel_rfl) (fun _ _ _ h => h) (Or.inl ⟨by rfl, ?_⟩) hHeld ?_ ?_
  rotate_left
  · rintro w' ⟨s0, s1⟩; go_simp; with_reducible rfl
  rotate_left
  · simp only [Act.put, List.setIfInBounds_toArray, List.set_cons_zero, List.set_cons_succ, i64_w, i32_w]; rfl
  refine pure_ (i := 10) (N := (some 75)) (v := ?_) (a' := ?_) #[true, true, true, true, true, true, true, true, true, true, true, false, false, false, false, false] rfl rfl (by kernel_rfl) (fun _ _ _ h => h) (Or.inl ⟨by rfl, ?_⟩) ?_ ?_
  rotate_left
  · intro w'; go_simp; with_reducible rfl
  rotate_left
  · simp only [Act.put, List.setIfInBounds_toArray, List.set_cons_zero, List.set_cons_succ, i64_w, i32_w]; rfl
  refine one_ (i := 11) (N := (some 76)) #[true, true, true, true, true, true, true, true, true, true, true, true, false, false, false, false] rfl rfl (by kernel_rfl) (by decide) (fun K hK => ?_)
  refine val_ (v := .slice (some ⟨W7.heap.size, 0, none⟩) 1 1) (w1 := W7.alloc (.cells #[.int .u32 x.h, .int .u32 k] 76)) (by rfl) rfl (by go_simp) ?_
  refine hK.out _ _ (by obtain ⟨_, ⟨s1, _⟩, _, _, _, _, ⟨s6, _⟩⟩ := cellsAt (SL.alloc HS.out (.cells #[.int .u32 x.h, .int .u32 k] 76)); exact ⟨s1, s6⟩) (fun hHeld => ?_)
  clear hK K
  refine norm_ (a' := ?_) ?_ ?_
  rotate_left
  · show Act.put _ (some 76) _ = _; simp only [Act.put, List.setIfInBounds_toArray, List.set_cons_zero, List.set_cons_succ, i64_w, i32_w]; rfl
  refine one_ (i := 12) (N := (some 77)) #[true, true, true, true, true, true, true, true, true, true, true, true, true, false, false, false] rfl rfl (by kernel_rfl) (by decide) (fun K hK => ?_)
  refine step_append1 kG (by rfl) (.tmp 69) (.tmp 76) 71 76 (.agg #[.int .u32 0, .int .u32 0]) 8 rfl Try.underlying71 infoG rfl (by decide) (by omega) (.slice Ag x.gaps.length cg) x.gaps ⟨x.h, k⟩ [.int .u32 x.h, .int .u32 k] rfl rfl (kG_mkM _ _ _ ⟨x.h, k⟩) (SL.pk [3] HS.out) (by have := HF.out; omega) ?_
  intro v6 w6 hs
  have hs2 := Aside0.mk (show SL w0 w6 (Row kG 76 v6 (x.gaps ++ [⟨x.h, k⟩]) :: Blk b (cellsR { x with buf := bput x.buf k m } bm (.slice Ai x.inb.length ci) (.slice Ag x.gaps.length cg)) 73 :: MapA .u32 bm (sM (bput x.buf k m)) :: Row Kd.string 9 (.slice Ai x.inb.length ci) x.inb :: l) from hs)
  clear HS hs q0 q1 q2 q3 q4 q5 q6 z0 z1 z2 z3 z4 z5 z6
  have HS := hs2
  clear hs2
  obtain ⟨A6, c6, e6, _⟩ := SL.form HS.out (.head _)
  subst e6
  obtain ⟨q1, z1⟩ := SL.cell HS.out (.tail _ (.head _)) 1 (v := .int .u32 x.h) rfl
  obtain ⟨q6, z6⟩ := SL.cell HS.out (.tail _ (.head _)) 6 (v := .slice Ag x.gaps.length cg) rfl
  refine hK.out _ _ ⟨q1, q6⟩ (fun hHeld => ?_)
  clear hK K
  refine norm_ (a' := ?_) ?_ ?_
  rotate_left
  · show Act.put _ (some 77) _ = _; simp only [Act.put, List.setIfInBounds_toArray, List.set_cons_zero, List.set_cons_succ, i64_w, i32_w]; rfl
  refine pure_ (i := 13) (N := (some 78)) (v := ?_) (a' := ?_) #[true, true, true, true, true, true, true, true, true, true, true, true, true, true, false, false] rfl rfl (by kernel_rfl) (fun _ _ _ h => h) (Or.inl ⟨by rfl, ?_⟩) ?_ ?_
  rotate_left
  · intro w'; go_simp; with_reducible rfl
  rotate_left
  · simp only [Act.put, List.setIfInBounds_toArray, List.set_cons_zero, List.set_cons_succ, i64_w, i32_w]; rfl
  refine pure_ (i := 14) (N := (some 79)) (v := ?_) (a' := ?_) #[true, true, true, true, true, true, true, true, true, true, true, true, true, true, true, false] rfl rfl (by kernel_rfl) (fun _ _ _ h => h) (Or.inl ⟨by rfl, ?_⟩) ?_ ?_
  rotate_left
  · intro w'; go_simp; with_reducible rfl
  rotate_left
  · simp only [Act.put, List.setIfInBounds_toArray, List.set_cons_zero, List.set_cons_succ, i64_w, i32_w]; rfl
  refine last_ (i := 15) (N := none) #[true, true, true, true, true, true, true, true, true, true, true, true, true, true, true, true] rfl rfl (by kernel_rfl) (by decide) (fun K hK => ?_)
  refine skip_ (w1 := ?_) (by rfl) rfl ?_ ?_
  rotate_left
  · go_simp; rfl
  refine hK.out _ _ ?_
  clear hK K
  refine done_ (by kernel_rfl) ?_
  go_wp2_with (first | (go_at_call 14; (with_reducible refine (add_c _ _ _).mono ?_); rintro e w1 ⟨rfl, rfl⟩; skip) | ((with_reducible refine gate_callee (f := 31) rfl ?_); fail))
  have h2 := SL.set (cs' := cellsR { x with buf := bput x.buf k m, gaps := x.gaps ++ [⟨x.h, k⟩], h := addN k 1 } bm (.slice Ai x.inb.length ci) (.slice A6 (x.gaps ++ [(⟨x.h, k⟩ : Gp)]).length c6)) (SL.set (SL.pk [1] HS.out) 6 (.slice A6 (x.gaps ++ [(⟨x.h, k⟩ : Gp)]).length c6) rfl) 1 (.int .u32 (addN k 1)) rfl
  have h3 : SL w0 _ (partsR b { x with buf := bput x.buf k m, gaps := x.gaps ++ [⟨x.h, k⟩], h := addN k 1 } bm (.slice Ai x.inb.length ci) (.slice A6 (x.gaps ++ [(⟨x.h, k⟩ : Gp)]).length c6) ++ l) := SL.pk [0, 1, 1, 0] h2
  have h4 := RecvA.shut h3
  rw [List.length_append, List.length_singleton] at h4
  refine (deliver_c HX.out h4).mono ?_
  rintro e w9 ⟨v, rfl, hs⟩
  obtain ⟨A9, c9, e9, _⟩ := SL.form hs (.head _)
  subst e9
  have hs2 := Aside0.mk hs
  clear hs h2 h3 h4
  go_wp2
  go_ret
  exact ⟨_, rfl, hs2.out⟩
/-- Data. -/
theorem data_c {w0 W : World} {l : List As} {b : Nat} {x : RS} (HS : SL w0 W (RecvA b x :: l)) (n : Int) (m : ByteArray) (hx2 : (dataG { x with buf := bput x.buf (lowN n) m } (lowN n)).Ok) :
    Calls Try.prog 13 #[.pointer (some ⟨b, 0, none⟩), .int .u32 n, .string m] W fun e w' => ∃ v, e = .returned v ∧ SL w0 w' (Row Kd.string 9 v (dataF x n m).2 :: RecvA b (dataF x n m).1 :: l) := by
  obtain ⟨k, hk⟩ : ∃ k, lowN n = k := ⟨_, rfl⟩
  unfold dataF
  rw [hk] at hx2 ⊢
  cases hh : blook x.buf k with
  | some s => rw [if_pos (Or.inl (by simp))]; exact data_have HS n k m s hk hh
  | none =>
    by_cases hb : toN x.r k < toN x.r x.mr
    · rw [if_neg (by simp [hb])]
      unfold dataG at hx2 ⊢
      by_cases hi : toN x.r k < toN x.r x.h
      · simp only [if_pos hi] at hx2 ⊢
        exact data_in HS n k m hk hh hb hi hx2
      · simp only [if_neg hi] at hx2 ⊢
        by_cases he : k = x.h
        · have e : (if k ≠ x.h ∧ x.gaps.length < 8 then x.gaps ++ [(⟨x.h, k⟩ : Gp)] else x.gaps) = x.gaps := if_neg (fun h => h.1 he)
          simp only [e] at hx2 ⊢
          exact data_eq HS n k m hk hh hb hi he hx2
        · by_cases hf : x.gaps.length < 8
          · have e : (if k ≠ x.h ∧ x.gaps.length < 8 then x.gaps ++ [(⟨x.h, k⟩ : Gp)] else x.gaps) = x.gaps ++ [⟨x.h, k⟩] := if_pos ⟨he, hf⟩
            simp only [e] at hx2 ⊢
            exact data_gap HS n k m hk hh hb hi he hf hx2
          · have e : (if k ≠ x.h ∧ x.gaps.length < 8 then x.gaps ++ [(⟨x.h, k⟩ : Gp)] else x.gaps) = x.gaps := if_neg (fun h => hf h.2)
            simp only [e] at hx2 ⊢
            exact data_full HS n k m hk hh hb hi he hf hx2
    · rw [if_pos (Or.inr hb)]
      exact data_far HS n k m hk hh hb
end Go.Proofs.Ytiiljdglbfgdbaa.Rcv
