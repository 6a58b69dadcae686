-- Words that print.sh laid for this claim, trimmed to what it comes to by the program wip/tools/wtrim.py of its session.
import Derived.Test.YtgjojppbichaiaaWInv
import Derived.Test.YtgjojppbichaiaaWFootNe
namespace Go.Proofs.YtgjojppbichaiaaW.PrintWords
open Go.RowKit
end Go.Proofs.YtgjojppbichaiaaW.PrintWords
namespace Go.Proofs.YtgjojppbichaiaaW.PrintLast
section
variable {ops : Array Oper} {a : Act} {o og : Oper} {g : Nat} {t : Tmp} {u : Bool}
end
end Go.Proofs.YtgjojppbichaiaaW.PrintLast
