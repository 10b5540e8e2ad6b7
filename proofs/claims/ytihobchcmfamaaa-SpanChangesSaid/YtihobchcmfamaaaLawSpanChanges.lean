/- Proved here: the law SpanChanges returns true for every input, and its arguments read behind the call as they read before it (the given statement SpanChangesSaid). Conditions: none beyond the given statement's own. -/
-- Printed for this claim by wip/tools/rowgen.py (a session's program). Not trusted: Lean checks it.
import Derived.Test.YtihobchcmfamaaaRows
import Derived.Test.YtihobchcmfamaaaS90
import Derived.Test.YtihobchcmfamaaaPureSpanChanges
import Derived.Test.YtihobchcmfamaaaArgs
import Derived.WalkKit
import Derived.ProofKit
import Derived.OpenShut
import Derived.ShutString
import Derived.ChangeOld
import Derived.Below
import Derived.SizedLaws
import Derived.Carry
import Derived.WideShapes
namespace Go.Proofs.Ytihobchcmfamaaa.spanChanges
open Go.ChangeShapes Go.WideShapes Go.ChangeAt Go.RowKit Go.Proofs.YtihobchcmfamaaaW.PrintWords Go.Proofs.Ytihobchcmfamaaa.Rd Go.Proofs.Ytihobchcmfamaaa.S
open Go.ChangeMaps (open_string shut_string)
set_option linter.unusedVariables false
theorem own : ownKnob Try.prog.godebug = none := by kernel_rfl
theorem laidOut : laidOutB Try.prog = true := by kernel_rfl
set_option maxRecDepth 100000 in
theorem lifted (os : Os) (started : os.Started) (H : Type) (enc : TypeId × Value → H) :
    ReturnsInHanded {} Try.checked os 6 .any (Rows.spanChangesSpec.pre6 enc Try.prog Try.f6 Rows.spanChangesRow.domain false) (Rows.spanChangesSpec.post enc Try.prog Try.f6 false true false false) := by
  refine returnsInHanded_of_change_sized (C := Try.checked) own started (by kernel_rfl) Try.func6
    (ChangeSpec.witness6 (enc := enc) (C := Try.checked) false ⟨#[], #[.slice none 0 0, .agg #[.int .i64 0, .int .i64 0]], []⟩ 8 (by kernel_rfl) (by kernel_rfl) (by kernel_rfl) (by kernel_rfl)) ?_
  intro W base args ds gs before hval0 hW hcnd hsz0 _
  have hsz : (DataW.weightsEach Try.prog (Try.f6.params.toList ++ Rows.spanChangesSpec.plain.varTypes Try.prog) (ds ++ gs)).all (· ≤ reachBytes) = true := hsz0
  have hval : ∀ (j : Nat) t v, Try.f6.params[j]? = some t → args[j]? = some v → Value.okWide Try.prog W .any base t v := hval0
  have hW' := hW
  obtain ⟨p, q, hA0, hV, rfl, hfz, hnd⟩ := hW
  have hA : DataW.TrodAll enc Try.prog W 0 (fun _ => true) true Try.f6.params.toList args.toList ds p := hA0
  rw [Try.params6] at hA hval hsz
  obtain ⟨v0, vs0, d0, ds0, p0, q0, hargs, rfl, rfl, h0, r0⟩ := trodAll_cons hA
  obtain ⟨v1, vs1, d1, ds1, p1, q1, rfl, rfl, rfl, h1, r1⟩ := trodAll_cons r0
  obtain ⟨rfl, rfl, rfl⟩ := trodAll_nil r1
  obtain rfl : args = #[v0, v1] := by cases args; simp_all
  obtain ⟨rfl, rfl⟩ := trodVars_none hV
  obtain ⟨A0, len0, c0, rfl⟩ := okWide_slice Try.underlying23 (hval 0 23 v0 rfl rfl)
  have k0 := h0
  have lt0 : ∀ x ∈ p0, x.block < W.heap.size := by obtain ⟨m, hm⟩ := k0; exact DataW.trod_lt m _ _ _ hm
  obtain ⟨l0, e0, hc0, hr0, g0⟩ : ∃ l : (List S45), len0 = l.length ∧ l.length ≤ c0 ∧ Kd.C k45 W A0 l.length l ∧ ∀ x ∈ l, Ytihobchcmfamaaa.Args.good45 x := by
    obtain ⟨fuel, hf⟩ := h0
    obtain ⟨l, ⟨A_, c_, he, hl, hC⟩, g⟩ := (rd_slice (d := k45) (good := Ytihobchcmfamaaa.Args.good45) 45 Try.underlying23 (by kernel_rfl) Ytihobchcmfamaaa.Args.rd45) enc W 0 _ _ fuel _ _ hf
    have he' : [Value.slice A0 len0 c0] = [Value.slice A_ l.length c_] := he
    cases he'
    exact ⟨l, rfl, hl, hC, g⟩
  subst e0
  have k1 := h1
  have lt1 : ∀ x ∈ p1, x.block < W.heap.size := by obtain ⟨m, hm⟩ := k1; exact DataW.trod_lt m _ _ _ hm
  obtain ⟨x1, hK1, g1⟩ : ∃ x : S45, k45.K W x v1.cells.toList ∧ Ytihobchcmfamaaa.Args.good45 x := by
    obtain ⟨fuel, hf⟩ := h1
    exact Ytihobchcmfamaaa.Args.rd45 enc W 0 _ _ fuel _ _ hf
  obtain ⟨cs1, ev1, _⟩ := okWide_struct Try.underlying45 (hval 1 45 v1 rfl rfl)
  subst ev1
  obtain rfl : cs1 = #[.int .i64 x1.f0, .int .i64 x1.f1] := Array.ext' (S.k45_open hK1)
  clear hA0 hval0 hsz0 hsz
  obtain ⟨k, h⟩ := Pure.SpanChanges l0 x1 g0 g1
  refine (S.polliwoglaw03_SpanChanges.calls k A0 c0 l0 x1.f0 x1.f1 true W hr0 hc0 h).mono fun e W' ⟨he, bel⟩ => ?_
  subst he
  exact ⟨_, rfl, _, _, _, [], _, [], hW', trodAll_mk1 (shut_bool Try.underlying4 _), (trodAll_cons_mk (Below.trod laidOut (by kernel_rfl) (of_decide_eq_true (by kernel_rfl)) k0 bel lt0) (trodAll_cons_mk (Below.trod laidOut (by kernel_rfl) (of_decide_eq_true (by kernel_rfl)) k1 bel lt1) trodAll_mk0)), rfl, bel.frame _, fun h => by cases h⟩
theorem over : Rows.spanChangesRow.holds Try.pinned (OpenSpec.ofChange Rows.spanChangesSpec) :=
  OpenClaim.holds_of_wide 6 Try.f6 rfl rfl rfl rfl rfl rfl rfl ⟨rfl, rfl, rfl, rfl, rfl⟩ rfl rfl rfl rfl rfl (by kernel_rfl) Try.func6 (by kernel_rfl)
    (of_decide_eq_true (by kernel_rfl)) (by unfold Func.isWrapper; first | (rw [if_pos (by decide +kernel)]; kernel_rfl) | (rw [if_neg (by decide +kernel)]; exact ⟨rfl, rfl⟩))
    (fun os started H enc _ => lifted os started H enc)
theorem proved : Rows.SpanChangesSaid := over
#print axioms proved
end Go.Proofs.Ytihobchcmfamaaa.spanChanges
namespace Go.Proofs.Ytihobchcmfamaaa
/-- The row, under a short name, for the claim. -/
theorem spanChanges_holds : Rows.SpanChangesSaid := spanChanges.proved
end Go.Proofs.Ytihobchcmfamaaa
