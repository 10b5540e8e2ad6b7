/- Proved here: the law RecvBounds returns true for every input, and its arguments read behind the call as they read before it (the given statement RecvBoundsSaid). Conditions: none beyond the given statement's own. -/
-- Printed for this claim by wip/tools/rowgen.py (a session's program). Not trusted: Lean checks it.
import Derived.Test.YtiiljdglbfgdbaaRows
import Derived.Test.YtiiljdglbfgdbaaS93
import Derived.Test.YtiiljdglbfgdbaaPureRecvBounds
import Derived.Test.YtiiljdglbfgdbaaArgs
import Derived.WalkKit
import Derived.ProofKit
import Derived.OpenShut
import Derived.ShutString
import Derived.ChangeOld
import Derived.Below
import Derived.SizedLaws
import Derived.Carry
import Derived.WideShapes
namespace Go.Proofs.Ytiiljdglbfgdbaa.recvBounds
open Go.ChangeShapes Go.WideShapes Go.ChangeAt Go.RowKit Go.Proofs.YtiiljdglbfgdbaaW.PrintWords Go.Proofs.Ytiiljdglbfgdbaa.Rd Go.Proofs.Ytiiljdglbfgdbaa.S
open Go.ChangeMaps (open_string shut_string)
set_option linter.unusedVariables false
theorem own : ownKnob Try.prog.godebug = none := by kernel_rfl
theorem laidOut : laidOutB Try.prog = true := by kernel_rfl
set_option maxRecDepth 100000 in
theorem lifted (os : Os) (started : os.Started) (H : Type) (enc : TypeId × Value → H) :
    ReturnsInHanded {} Try.checked os 7 .any (Rows.recvBoundsSpec.pre6 enc Try.prog Try.f7 Rows.recvBoundsRow.domain false) (Rows.recvBoundsSpec.post enc Try.prog Try.f7 false true false false) := by
  refine returnsInHanded_of_change_sized (C := Try.checked) own started (by kernel_rfl) Try.func7
    (ChangeSpec.witness6 (enc := enc) (C := Try.checked) false ⟨#[], #[.int .i64 0, .int .i64 0, .slice none 0 0], []⟩ 8 (by kernel_rfl) (by kernel_rfl) (by kernel_rfl) (by kernel_rfl)) ?_
  intro W base args ds gs before hval0 hW hcnd hsz0 _
  have hsz : (DataW.weightsEach Try.prog (Try.f7.params.toList ++ Rows.recvBoundsSpec.plain.varTypes Try.prog) (ds ++ gs)).all (· ≤ reachBytes) = true := hsz0
  have hval : ∀ (j : Nat) t v, Try.f7.params[j]? = some t → args[j]? = some v → Value.okWide Try.prog W .any base t v := hval0
  have hW' := hW
  obtain ⟨p, q, hA0, hV, rfl, hfz, hnd⟩ := hW
  have hA : DataW.TrodAll enc Try.prog W 0 (fun _ => true) true Try.f7.params.toList args.toList ds p := hA0
  rw [Try.params7] at hA hval hsz
  obtain ⟨v0, vs0, d0, ds0, p0, q0, hargs, rfl, rfl, h0, r0⟩ := trodAll_cons hA
  obtain ⟨v1, vs1, d1, ds1, p1, q1, rfl, rfl, rfl, h1, r1⟩ := trodAll_cons r0
  obtain ⟨v2, vs2, d2, ds2, p2, q2, rfl, rfl, rfl, h2, r2⟩ := trodAll_cons r1
  obtain ⟨rfl, rfl, rfl⟩ := trodAll_nil r2
  obtain rfl : args = #[v0, v1, v2] := by cases args; simp_all
  obtain ⟨rfl, rfl⟩ := trodVars_none hV
  obtain ⟨a0, rfl, rfl, rfl, w0⟩ := open_int Try.underlying3 (hval 0 3 v0 rfl rfl) h0
  obtain ⟨a1, rfl, rfl, rfl, w1⟩ := open_int Try.underlying3 (hval 1 3 v1 rfl rfl) h1
  obtain ⟨A2, len2, c2, rfl⟩ := okWide_slice Try.underlying48 (hval 2 48 v2 rfl rfl)
  have k2 := h2
  have lt2 : ∀ x ∈ p2, x.block < W.heap.size := by obtain ⟨m, hm⟩ := k2; exact DataW.trod_lt m _ _ _ hm
  obtain ⟨l2, e2, hc2, hr2, g2⟩ : ∃ l : (List S57), len2 = l.length ∧ l.length ≤ c2 ∧ Kd.C k57 W A2 l.length l ∧ ∀ x ∈ l, Ytiiljdglbfgdbaa.Args.good57 x := by
    obtain ⟨fuel, hf⟩ := h2
    obtain ⟨l, ⟨A_, c_, he, hl, hC⟩, g⟩ := (rd_slice (d := k57) (good := Ytiiljdglbfgdbaa.Args.good57) 57 Try.underlying48 (by kernel_rfl) Ytiiljdglbfgdbaa.Args.rd57) enc W 0 _ _ fuel _ _ hf
    have he' : [Value.slice A2 len2 c2] = [Value.slice A_ l.length c_] := he
    cases he'
    exact ⟨l, rfl, hl, hC, g⟩
  subst e2
  clear hA0 hval0 hsz0 hsz
  have h := Pure.RecvBounds a0 a1 l2 w0 w1 g2
  refine (S.polliwoglaw12_RecvBounds.calls a0 a1 A2 c2 l2 true W hr2 hc2 h).mono fun e W' ⟨he, bel⟩ => ?_
  subst he
  exact ⟨_, rfl, _, _, _, [], _, [], hW', trodAll_mk1 (shut_bool Try.underlying4 _), (trodAll_cons_mk (shut_int Try.underlying3 w0) (trodAll_cons_mk (shut_int Try.underlying3 w1) (trodAll_cons_mk (Below.trod laidOut (by kernel_rfl) (of_decide_eq_true (by kernel_rfl)) k2 bel lt2) trodAll_mk0))), rfl, bel.frame _, fun h => by cases h⟩
theorem over : Rows.recvBoundsRow.holds Try.pinned (OpenSpec.ofChange Rows.recvBoundsSpec) :=
  OpenClaim.holds_of_wide 7 Try.f7 rfl rfl rfl rfl rfl rfl rfl ⟨rfl, rfl, rfl, rfl, rfl⟩ rfl rfl rfl rfl rfl (by kernel_rfl) Try.func7 (by kernel_rfl)
    (of_decide_eq_true (by kernel_rfl)) (by unfold Func.isWrapper; first | (rw [if_pos (by decide +kernel)]; kernel_rfl) | (rw [if_neg (by decide +kernel)]; exact ⟨rfl, rfl⟩))
    (fun os started H enc _ => lifted os started H enc)
theorem proved : Rows.RecvBoundsSaid := over
#print axioms proved
end Go.Proofs.Ytiiljdglbfgdbaa.recvBounds
namespace Go.Proofs.Ytiiljdglbfgdbaa
/-- The row, under a short name, for the claim. -/
theorem recvBounds_holds : Rows.RecvBoundsSaid := recvBounds.proved
end Go.Proofs.Ytiiljdglbfgdbaa
