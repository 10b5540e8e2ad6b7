/- RecvCredit: the plain law (the walk says all). -/
import Derived.Test.YtiiljdglbfgdbaaS90
namespace Go.Proofs.Ytiiljdglbfgdbaa.Pure
open Go.RowKit Go.Proofs.Ytiiljdglbfgdbaa.S
theorem RecvCredit (a0 a1 : Int) (l2 : List Int) (_ : (Lit.int .i64 a0).wf = true) (_ : (Lit.int .i64 a1).wf = true) (_ : ∀ x ∈ l2, (Lit.int .i64 x).wf = true) : polliwoglaw12_RecvCredit.f a0 a1 l2 = some true := rfl
end Go.Proofs.Ytiiljdglbfgdbaa.Pure
