-- Words that print.sh laid for this claim, trimmed to what it comes to by the program wip/tools/wtrim.py of its session.
import Derived.Test.YtgjojppbichaiaaWTab
namespace Go.Proofs.YtgjojppbichaiaaW.PrintLast
section
variable {P : Program} {ops : Array Oper} {Q : Exit → Act → World → Prop} {md : Region.Mode} {T : Bool × List (List Nat × List Nat)} {B : List Nat} {O : List Nat} {b : Nat → Bool} {i j n : Nat}
end
end Go.Proofs.YtgjojppbichaiaaW.PrintLast
