/- RecvBounds: the plain law (the walk says all). -/
import Derived.Test.YtiiljdglbfgdbaaArgs
import Derived.Test.YtiiljdglbfgdbaaS93
namespace Go.Proofs.Ytiiljdglbfgdbaa.Pure
open Go Go.RowKit Go.Proofs.Ytiiljdglbfgdbaa.S
theorem wf64b {x : Int} (h : (Lit.int .i64 x).wf = true) : -9223372036854775808 ≤ x ∧ x ≤ 9223372036854775807 := by
  simp [Lit.wf, IntKind.min, IntKind.max, IntKind.signed, IntKind.bits] at h
  omega
theorem RecvBounds (a0 a1 : Int) (l2 : List S57) (w0 : (Lit.int .i64 a0).wf = true) (_ : (Lit.int .i64 a1).wf = true) (g2 : ∀ x ∈ l2, Args.good57 x) : polliwoglaw12_RecvBounds.f a0 a1 l2 = some true := by
  unfold polliwoglaw12_RecvBounds.f
  rw [if_pos ⟨wf64b w0, fun x hx => wf64b (g2 x hx).2.1⟩]
end Go.Proofs.Ytiiljdglbfgdbaa.Pure
