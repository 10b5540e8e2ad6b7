/- RecvGaps: the plain law (the walk says all). -/
import Derived.Test.YtiiljdglbfgdbaaS91
namespace Go.Proofs.Ytiiljdglbfgdbaa.Pure
open Go.RowKit Go.Proofs.Ytiiljdglbfgdbaa.S
theorem RecvGaps (a0 : Int) (l1 : List Int) (_ : (Lit.int .i64 a0).wf = true) (_ : ∀ x ∈ l1, (Lit.int .i64 x).wf = true) : polliwoglaw12_RecvGaps.f a0 l1 = some true := rfl
end Go.Proofs.Ytiiljdglbfgdbaa.Pure
