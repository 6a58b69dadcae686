/- What the laws' arguments read as, struct by struct. Conditions: none. -/
import Derived.Test.YtjmgleomljfieaaOpens
import Derived.Test.YtjmgleomljfieaaQx0
import Derived.WalkKit
set_option linter.unusedVariables false
namespace Go.Proofs.Ytjmgleomljfieaa.Wf
open Go.Proofs.Ytjmgleomljfieaa.Q Go.Proofs.Ytjmgleomljfieaa.Opens Go.Proofs.YtjmgleomljfieaaW.PrintWords
end Go.Proofs.Ytjmgleomljfieaa.Wf
