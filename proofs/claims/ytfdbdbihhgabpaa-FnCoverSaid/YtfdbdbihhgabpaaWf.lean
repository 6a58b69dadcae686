/- What the laws' arguments read as, struct by struct. Conditions: none. -/
import Derived.Test.YtfdbdbihhgabpaaOpens
import Derived.Test.YtfdbdbihhgabpaaQx0
import Derived.WalkKit
set_option linter.unusedVariables false
namespace Go.Proofs.Ytfdbdbihhgabpaa.Wf
open Go.Proofs.Ytfdbdbihhgabpaa.Q Go.Proofs.Ytfdbdbihhgabpaa.Opens Go.Proofs.YtfdbdbihhgabpaaW.PrintWords
end Go.Proofs.Ytfdbdbihhgabpaa.Wf
