-- Words that print.sh laid for this claim, trimmed to what it comes to by the program wip/tools/wtrim.py of its session.
import Derived.Test.YtpnhlccdhflogaaWN
namespace Go.Proofs.YtpnhlccdhflogaaW.PrintWords
open Go.RowKit
namespace Kd
section
variable {α : Type} {d : Kd α} {W : World} {g n : Nat} {S ok : Nat → Prop} {A : Option Addr} {ad : Addr} {xs : List α}
end
end Kd
end Go.Proofs.YtpnhlccdhflogaaW.PrintWords
