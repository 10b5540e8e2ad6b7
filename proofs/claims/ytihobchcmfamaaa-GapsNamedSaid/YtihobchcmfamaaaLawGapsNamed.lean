/- Proved here: the law GapsNamed returns true for every input, and its arguments read behind the call as they read before it (the given statement GapsNamedSaid). Conditions: none beyond the given statement's own. -/
-- Printed for this claim by wip/tools/rowgen.py (a session's program). Not trusted: Lean checks it.
import Derived.Test.YtihobchcmfamaaaRows
import Derived.Test.YtihobchcmfamaaaS37
import Derived.Test.YtihobchcmfamaaaPureGapsNamed
import Derived.Test.YtihobchcmfamaaaArgs
import Derived.WalkKit
import Derived.ProofKit
import Derived.OpenShut
import Derived.ShutString
import Derived.ChangeOld
import Derived.Below
import Derived.SizedLaws
import Derived.Carry
import Derived.WideShapes
namespace Go.Proofs.Ytihobchcmfamaaa.gapsNamed
open Go.ChangeShapes Go.WideShapes Go.ChangeAt Go.RowKit Go.Proofs.YtihobchcmfamaaaW.PrintWords Go.Proofs.Ytihobchcmfamaaa.Rd Go.Proofs.Ytihobchcmfamaaa.S
open Go.ChangeMaps (open_string shut_string)
set_option linter.unusedVariables false
theorem own : ownKnob Try.prog.godebug = none := by kernel_rfl
theorem laidOut : laidOutB Try.prog = true := by kernel_rfl
set_option maxRecDepth 100000 in
theorem lifted (os : Os) (started : os.Started) (H : Type) (enc : TypeId × Value → H) :
    ReturnsInHanded {} Try.checked os 7 .any (Rows.gapsNamedSpec.pre6 enc Try.prog Try.f7 Rows.gapsNamedRow.domain false) (Rows.gapsNamedSpec.post enc Try.prog Try.f7 false true false false) := by
  refine returnsInHanded_of_change_sized (C := Try.checked) own started (by kernel_rfl) Try.func7
    (ChangeSpec.witness6 (enc := enc) (C := Try.checked) false ⟨#[], #[.int .i64 0, .slice none 0 0], []⟩ 8 (by kernel_rfl) (by kernel_rfl) (by kernel_rfl) (by kernel_rfl)) ?_
  intro W base args ds gs before hval0 hW hcnd hsz0 _
  have hsz : (DataW.weightsEach Try.prog (Try.f7.params.toList ++ Rows.gapsNamedSpec.plain.varTypes Try.prog) (ds ++ gs)).all (· ≤ reachBytes) = true := hsz0
  have hval : ∀ (j : Nat) t v, Try.f7.params[j]? = some t → args[j]? = some v → Value.okWide Try.prog W .any base t v := hval0
  have hW' := hW
  obtain ⟨p, q, hA0, hV, rfl, hfz, hnd⟩ := hW
  have hA : DataW.TrodAll enc Try.prog W 0 (fun _ => true) true Try.f7.params.toList args.toList ds p := hA0
  rw [Try.params7] at hA hval hsz
  obtain ⟨v0, vs0, d0, ds0, p0, q0, hargs, rfl, rfl, h0, r0⟩ := trodAll_cons hA
  obtain ⟨v1, vs1, d1, ds1, p1, q1, rfl, rfl, rfl, h1, r1⟩ := trodAll_cons r0
  obtain ⟨rfl, rfl, rfl⟩ := trodAll_nil r1
  obtain rfl : args = #[v0, v1] := by cases args; simp_all
  obtain ⟨rfl, rfl⟩ := trodVars_none hV
  obtain ⟨a0, rfl, rfl, rfl, w0⟩ := open_int Try.underlying3 (hval 0 3 v0 rfl rfl) h0
  obtain ⟨A1, len1, c1, rfl⟩ := okWide_slice Try.underlying25 (hval 1 25 v1 rfl rfl)
  have k1 := h1
  have lt1 : ∀ x ∈ p1, x.block < W.heap.size := by obtain ⟨m, hm⟩ := k1; exact DataW.trod_lt m _ _ _ hm
  obtain ⟨l1, e1, hc1, hr1, g1⟩ : ∃ l : (List Int), len1 = l.length ∧ l.length ≤ c1 ∧ Kd.C (Kd.int .i64) W A1 l.length l ∧ ∀ x ∈ l, (fun x => (Lit.int .i64 x).wf = true) x := by
    obtain ⟨fuel, hf⟩ := h1
    obtain ⟨l, ⟨A_, c_, he, hl, hC⟩, g⟩ := (rd_slice (d := (Kd.int .i64)) (good := (fun x => (Lit.int .i64 x).wf = true)) 3 Try.underlying25 (by kernel_rfl) (rd_int Try.underlying3)) enc W 0 _ _ fuel _ _ hf
    have he' : [Value.slice A1 len1 c1] = [Value.slice A_ l.length c_] := he
    cases he'
    exact ⟨l, rfl, hl, hC, g⟩
  subst e1
  clear hA0 hval0 hsz0 hsz
  obtain ⟨k, h⟩ := Pure.GapsNamed a0 l1 w0 g1
  refine (S.polliwoglaw09_GapsNamed.calls k a0 A1 c1 l1 true W hr1 hc1 h).mono fun e W' ⟨he, bel⟩ => ?_
  subst he
  exact ⟨_, rfl, _, _, _, [], _, [], hW', trodAll_mk1 (shut_bool Try.underlying4 _), (trodAll_cons_mk (shut_int Try.underlying3 w0) (trodAll_cons_mk (Below.trod laidOut (by kernel_rfl) (of_decide_eq_true (by kernel_rfl)) k1 bel lt1) trodAll_mk0)), rfl, bel.frame _, fun h => by cases h⟩
theorem over : Rows.gapsNamedRow.holds Try.pinned (OpenSpec.ofChange Rows.gapsNamedSpec) :=
  OpenClaim.holds_of_wide 7 Try.f7 rfl rfl rfl rfl rfl rfl rfl ⟨rfl, rfl, rfl, rfl, rfl⟩ rfl rfl rfl rfl rfl (by kernel_rfl) Try.func7 (by kernel_rfl)
    (of_decide_eq_true (by kernel_rfl)) (by unfold Func.isWrapper; first | (rw [if_pos (by decide +kernel)]; kernel_rfl) | (rw [if_neg (by decide +kernel)]; exact ⟨rfl, rfl⟩))
    (fun os started H enc _ => lifted os started H enc)
theorem proved : Rows.GapsNamedSaid := over
#print axioms proved
end Go.Proofs.Ytihobchcmfamaaa.gapsNamed
namespace Go.Proofs.Ytihobchcmfamaaa
/-- The row, under a short name, for the claim. -/
theorem gapsNamed_holds : Rows.GapsNamedSaid := gapsNamed.proved
end Go.Proofs.Ytihobchcmfamaaa
