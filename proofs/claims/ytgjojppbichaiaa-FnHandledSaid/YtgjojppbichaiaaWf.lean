/- What the laws' arguments read as, struct by struct. Conditions: none. -/
import Derived.Test.YtgjojppbichaiaaOpens
import Derived.Test.YtgjojppbichaiaaQx0
import Derived.WalkKit
set_option linter.unusedVariables false
namespace Go.Proofs.Ytgjojppbichaiaa.Wf
open Go.Proofs.Ytgjojppbichaiaa.Q Go.Proofs.Ytgjojppbichaiaa.Opens Go.Proofs.YtgjojppbichaiaaW.PrintWords
end Go.Proofs.Ytgjojppbichaiaa.Wf
