-- Printed for this claim by wip/tools/rowgen.py (a session's program). Not trusted: Lean checks it.
import Derived.Test.YtihobchcmfamaaaRd
import Derived.Test.YtihobchcmfamaaaS0
import Derived.ProofKit
namespace Go.Proofs.Ytihobchcmfamaaa.Args
open Go Go.RowKit Go.Deep Go.ChangeShapes Go.Proofs.YtihobchcmfamaaaW.PrintWords Go.Proofs.Ytihobchcmfamaaa.Rd Go.Proofs.Ytihobchcmfamaaa.S
set_option linter.unusedVariables false
def good45 (x : S45) : Prop := (fun x => (Lit.int .i64 x).wf = true) x.f0 ∧ (fun x => (Lit.int .i64 x).wf = true) x.f1
theorem rd45 : Rd k45 Try.prog 45 good45 := by
  intro H enc W base spare held fuel cs x h
  obtain ⟨xs, n, _, _, hl0, hlen, hf⟩ := DataW.trod_struct Try.underlying45 h
  have hl : cs.length = 2 := hl0.trans (by kernel_rfl)
  have F0 := hf 0 _ rfl
  obtain ⟨y0, e0⟩ : ∃ y, xs[0]? = some y := ⟨_, List.getElem?_eq_getElem (by rw [hlen]; decide)⟩
  rw [e0] at F0
  obtain ⟨u0, K0, G0⟩ := (rd_int Try.underlying3) enc W base spare held n _ _ F0
  rw [show Try.prog.cellsOf _ = 1 by kernel_rfl] at K0
  have F1 := hf 1 _ rfl
  obtain ⟨y1, e1⟩ : ∃ y, xs[1]? = some y := ⟨_, List.getElem?_eq_getElem (by rw [hlen]; decide)⟩
  rw [e1] at F1
  obtain ⟨u1, K1, G1⟩ := (rd_int Try.underlying3) enc W base spare held n _ _ F1
  rw [show Try.prog.cellsOf _ = 1 by kernel_rfl] at K1
  have hK : ((Kd.pair (Kd.int .i64) (Kd.int .i64))).K W (u0, u1) (cs.drop 0) := (pairK (o := 0) K0 (lastK (o := 1) (by rw [hl]; rfl) K1))
  exact ⟨⟨u0, u1⟩, hK, ⟨G0, G1⟩⟩
end Go.Proofs.Ytihobchcmfamaaa.Args
