/- The receiver's methods, second part: renew, Take, Poll, deliver. -/
import Derived.Test.YtiiljdglbfgdbaaRcvA

set_option linter.unusedVariables false
set_option linter.unusedSimpArgs false
namespace Go.Proofs.Ytiiljdglbfgdbaa.Rcv
open Go Go.RowKit Go.Proofs.YtiiljdglbfgdbaaW.PrintWords Go.Proofs.YtiiljdglbfgdbaaW.PrintLast Go.Proofs.YtiiljdglbfgdbaaW.PrintMore Go.Proofs.Ytiiljdglbfgdbaa Go.Proofs.Ytiiljdglbfgdbaa.Sl Go.Proofs.Ytiiljdglbfgdbaa.S
attribute [local go_sem] max2_int min2_int max_two min_two
theorem flatG : Flat kG := flat_iso (flat_pair (flat_int _) (flat_int _))
theorem infoS : (Try.prog.info? 9).map (fun i => (i.zero, i.size, i.bytes)) = some (some (.string ⟨#[]⟩), 1, 16) := by kernel_rfl
theorem infoG : (Try.prog.info? 76).map (fun i => (i.zero, i.size, i.bytes)) = some (some (.agg #[.int .u32 0, .int .u32 0]), 2, 8) := by kernel_rfl
theorem wfN {a : Int} (h : 0 ≤ a ∧ a < 16777216) : (Lit.int .u32 a).wf = true := by
  simp [Lit.wf, IntKind.min, IntKind.max, IntKind.signed, IntKind.bits]
  omega
set_option maxHeartbeats 2000000 in
set_option maxRecDepth 100000 in
theorem cloneS_c {w0 W : World} {l : List As} (HS : SL w0 W l) (A : Option Addr) (c : Nat) (xs : List ByteArray) (hC : Kd.string.C W A xs.length xs) (hl : xs.length ≤ 4000000) :
    Calls Try.prog 35 #[.slice A xs.length c] W fun e w' => ∃ v, e = .returned v ∧ SL w0 w' (Row Kd.string 9 v xs :: l) := by
  have hq : ∀ (W : World) (a : Option Addr) (n c n' c' : Nat), (binOp .eql 30 (.slice a n c) (.slice none n' c')).run Try.prog W = .ok (.bool a.isNone) W := fun W a n c n' c' => Lib.run_eql_slice_nil W _ _ a n c n' c' Try.underlying30
  have HS := Aside0.mk HS
  rcases A with _ | ad
  · have hn : xs.length = 0 := by
      rcases Nat.eq_zero_or_pos xs.length with h0 | h0
      · exact h0
      · obtain ⟨ad, h1, _⟩ := hC.2.2 h0
        cases h1
    obtain rfl : xs = [] := List.eq_nil_of_length_eq_zero hn
    clear hn hC hl
    go_enter Try.func35, Try.ntmps35
    go_wp2
    go_ret
    exact ⟨_, rfl, SL.addNil _ _ HS.out⟩
  · have HR := Aside0.mk hC
    have HL := Aside0.mk hl
    clear hC hl
    go_enter Try.func35, Try.ntmps35
    go_wp2_with (first | ((with_reducible refine gate_builtin (b := .append) (xs := #[.tmp 5, .tmp 6]) rfl ?_); at_builtin; refine wpList_appendN Kd.string flat_string rfl (.tmp 5) (.tmp 6) 30 9 (.string ⟨#[]⟩) 16 rfl Try.underlying30 infoS rfl (by decide) (by omega) (.slice (some ⟨W.heap.size, 0, none⟩) 0 0) [] xs (some ad) xs.length c rfl rfl (SL.lit (xs := []) (cs := []) HS.out (fun _ _ _ => Reps.none _ _) (by decide)) (Kd.C_below HR.out (below_alloc (Below.refl _ _) _)) (by have := HL.out; simp; omega) ?_; intro v1 w1 hs; have hs2 := Aside0.mk hs; clear HS hs; have HS := hs2; clear hs2))
    go_ret
    exact ⟨v1, rfl, by simpa using HS.out⟩
/-- renew. -/
def renewF (x : RS) : RS := { x with mr := maxN x.r x.mr (addN x.r (x.win - x.inb.length)) }
set_option maxHeartbeats 2000000 in
set_option maxRecDepth 100000 in
theorem renew_c {w0 W : World} {l : List As} {b : Nat} {x : RS} (hx : x.Ok) (HS : SL w0 W (RecvA b x :: l)) :
    Calls Try.prog 33 #[.pointer (some ⟨b, 0, none⟩)] W fun e w' => e = .returned (.tuple #[]) ∧ SL w0 w' (RecvA b (renewF x) :: l) := by
  obtain ⟨bm, Ai, ci, Ag, cg, hci, hcg, h⟩ := RecvA.open_ HS
  have HS := Aside0.mk h
  have hu := Try.underlying73
  have b1 := hx.win.1
  have b2 := hx.win.2
  have b3 := hx.inb
  clear h hci hcg hx
  go_enter Try.func33, Try.ntmps33
  refine region_tail 27 (by kernel_rfl) (by kernel_rfl) (fun W1 hW_ => ?_); have hs_ := Aside0.mk (hW_.out ▸ SL.drew (by repeat (first | (with_reducible exact HS.out) | (with_reducible apply SL.alloc) | (with_reducible apply SL.drewN) | (with_reducible apply SL.drew)))); clear HS; have HS := hs_; clear hs_ hW_; obtain ⟨⟨q0, z0⟩, ⟨q1, z1⟩, ⟨q2, z2⟩, ⟨q3, z3⟩, ⟨q4, z4⟩, ⟨q5, z5⟩, ⟨q6, z6⟩⟩ := cellsAt HS.out; simp only [List.take_succ_cons, List.take_zero, List.drop_succ_cons, List.drop_zero]; (repeat (first | still_step | (refine wpStill_step (fun K hK => ?_); go_simp; (with_reducible refine ⟨_, add_c _ _ _, hK _ ?_⟩); clear hK K) | (refine wpStill_step (fun K hK => ?_); go_simp; (with_reducible refine ⟨_, max_c _ _ _ _, hK _ ?_⟩); clear hK K))); refine wpStill_nil ?_
  go_wp2
  go_end0
  exact ⟨rfl, RecvA.shut (SL.set HS.out 2 _ rfl)⟩
end Go.Proofs.Ytiiljdglbfgdbaa.Rcv
