-- Words that print.sh laid for this claim, trimmed to what it comes to by the program wip/tools/wtrim.py of its session.
import Derived.Test.YtpnhlccdhflogaaWWords
import Derived.Test.YtpnhlccdhflogaaWLast
namespace Go.Proofs.YtpnhlccdhflogaaW.PrintWords
open Go.RowKit
namespace Kd
section
variable {α : Type} {d : Kd α} {e base g o n cap : Nat} {ok okp : Nat → Prop} {w W : World} {v : Value} {xs : List α}
end
section
variable {α : Type} {enc : α → Value} {h1 : ∀ x, (enc x).oneCell' = true} {e base g o n cap : Nat} {ok : Nat → Prop} {W : World} {xs : List α}
end
end Kd
end Go.Proofs.YtpnhlccdhflogaaW.PrintWords
