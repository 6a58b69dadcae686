/- What the laws' arguments read as, struct by struct. Conditions: none. -/
import Derived.Test.YtpnhlccdhflogaaOpens
import Derived.Test.YtpnhlccdhflogaaQx0
import Derived.WalkKit
set_option linter.unusedVariables false
namespace Go.Proofs.Ytpnhlccdhflogaa.Wf
open Go.Proofs.Ytpnhlccdhflogaa.Q Go.Proofs.Ytpnhlccdhflogaa.Opens Go.Proofs.YtpnhlccdhflogaaW.PrintWords
def wf_S77 (x : S77) : Prop := (fun x : Int => (Lit.int .i64 x).wf = true) x.f0 ∧ (fun x : Int => (Lit.int .i64 x).wf = true) x.f1 ∧ (fun x : Int => (Lit.int .i64 x).wf = true) x.f2
theorem op_S77 : CellsTell Try.prog 77 k77 wf_S77 := op_struct (fun x : S77 => (x.f0, x.f1, x.f2)) (fun a => (⟨a.1, a.2.1, a.2.2⟩ : S77)) (fun a => by first | rfl | (cases a; rfl)) Try.underlying77 (by kernel_rfl) (opfs_cons rfl (by kernel_rfl) rfl (op_int Try.underlying3) (opfs_cons rfl (by kernel_rfl) rfl (op_int Try.underlying3) (opfs_one rfl (by kernel_rfl) (op_int Try.underlying3))))
end Go.Proofs.Ytpnhlccdhflogaa.Wf
