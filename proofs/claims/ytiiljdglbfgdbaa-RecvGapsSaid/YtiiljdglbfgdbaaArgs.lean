-- Printed for this claim by wip/tools/rowgen.py (a session's program). Not trusted: Lean checks it.
import Derived.Test.YtiiljdglbfgdbaaRd
import Derived.Test.YtiiljdglbfgdbaaS0
import Derived.ProofKit
namespace Go.Proofs.Ytiiljdglbfgdbaa.Args
open Go Go.RowKit Go.Deep Go.ChangeShapes Go.Proofs.YtiiljdglbfgdbaaW.PrintWords Go.Proofs.Ytiiljdglbfgdbaa.Rd Go.Proofs.Ytiiljdglbfgdbaa.S
set_option linter.unusedVariables false
end Go.Proofs.Ytiiljdglbfgdbaa.Args
