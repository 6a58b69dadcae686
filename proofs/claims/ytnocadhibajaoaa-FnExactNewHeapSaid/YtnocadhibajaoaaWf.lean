/- What the laws' arguments read as, struct by struct. Conditions: none. -/
import Derived.Test.YtnocadhibajaoaaOpens
import Derived.Test.YtnocadhibajaoaaQx0
import Derived.WalkKit
set_option linter.unusedVariables false
namespace Go.Proofs.Ytnocadhibajaoaa.Wf
open Go.Proofs.Ytnocadhibajaoaa.Q Go.Proofs.Ytnocadhibajaoaa.Opens Go.Proofs.YtnocadhibajaoaaW.PrintWords
end Go.Proofs.Ytnocadhibajaoaa.Wf
