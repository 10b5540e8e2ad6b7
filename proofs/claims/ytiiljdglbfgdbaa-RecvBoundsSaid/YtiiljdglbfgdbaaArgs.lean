-- Printed for this claim by wip/tools/rowgen.py (a session's program). Not trusted: Lean checks it.
import Derived.Test.YtiiljdglbfgdbaaRd
import Derived.Test.YtiiljdglbfgdbaaS0
import Derived.Test.YtiiljdglbfgdbaaRcvX
import Derived.ProofKit
namespace Go.Proofs.Ytiiljdglbfgdbaa.Args
open Go Go.RowKit Go.Deep Go.ChangeShapes Go.Proofs.YtiiljdglbfgdbaaW.PrintWords Go.Proofs.Ytiiljdglbfgdbaa.Rd Go.Proofs.Ytiiljdglbfgdbaa.S
set_option linter.unusedVariables false
def good57 (x : S57) : Prop := (fun x => (Lit.int .i64 x).wf = true) x.f0 ∧ (fun x => (Lit.int .i64 x).wf = true) x.f1 ∧ (fun _ => True) x.f2 ∧ (fun s => s.size ≤ maxLen) x.f3
theorem rd57 : Rd k57 Try.prog 57 good57 := by
  intro H enc W base spare held fuel cs x h
  obtain ⟨xs, n, _, _, hl0, hlen, hf⟩ := DataW.trod_struct Try.underlying57 h
  have hl : cs.length = 4 := hl0.trans (by kernel_rfl)
  have F0 := hf 0 _ rfl
  obtain ⟨y0, e0⟩ : ∃ y, xs[0]? = some y := ⟨_, List.getElem?_eq_getElem (by rw [hlen]; decide)⟩
  rw [e0] at F0
  obtain ⟨u0, K0, G0⟩ := (rd_int Try.underlying3) enc W base spare held n _ _ F0
  rw [show Try.prog.cellsOf _ = 1 by kernel_rfl] at K0
  have F1 := hf 1 _ rfl
  obtain ⟨y1, e1⟩ : ∃ y, xs[1]? = some y := ⟨_, List.getElem?_eq_getElem (by rw [hlen]; decide)⟩
  rw [e1] at F1
  obtain ⟨u1, K1, G1⟩ := (rd_int Try.underlying3) enc W base spare held n _ _ F1
  rw [show Try.prog.cellsOf _ = 1 by kernel_rfl] at K1
  have F2 := hf 2 _ rfl
  obtain ⟨y2, e2⟩ : ∃ y, xs[2]? = some y := ⟨_, List.getElem?_eq_getElem (by rw [hlen]; decide)⟩
  rw [e2] at F2
  obtain ⟨u2, K2, G2⟩ := (rd_bool Try.underlying4) enc W base spare held n _ _ F2
  rw [show Try.prog.cellsOf _ = 1 by kernel_rfl] at K2
  have F3 := hf 3 _ rfl
  obtain ⟨y3, e3⟩ : ∃ y, xs[3]? = some y := ⟨_, List.getElem?_eq_getElem (by rw [hlen]; decide)⟩
  rw [e3] at F3
  obtain ⟨u3, K3, G3⟩ := (rd_string Try.underlying9) enc W base spare held n _ _ F3
  rw [show Try.prog.cellsOf _ = 1 by kernel_rfl] at K3
  have hK : ((Kd.pair (Kd.int .i64) (Kd.pair (Kd.int .i64) (Kd.pair Kd.bool Kd.string)))).K W (u0, u1, u2, u3) (cs.drop 0) := (pairK (o := 0) K0 (pairK (o := 1) K1 (pairK (o := 2) K2 (lastK (o := 3) (by rw [hl]; rfl) K3))))
  exact ⟨⟨u0, u1, u2, u3⟩, hK, ⟨G0, G1, G2, G3⟩⟩
end Go.Proofs.Ytiiljdglbfgdbaa.Args
