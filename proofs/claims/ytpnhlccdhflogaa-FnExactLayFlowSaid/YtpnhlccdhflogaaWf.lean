/- What the laws' arguments read as, struct by struct. Conditions: none. -/
import Derived.Test.YtpnhlccdhflogaaOpens
import Derived.Test.YtpnhlccdhflogaaQx0
import Derived.WalkKit
set_option linter.unusedVariables false
namespace Go.Proofs.Ytpnhlccdhflogaa.Wf
open Go.Proofs.Ytpnhlccdhflogaa.Q Go.Proofs.Ytpnhlccdhflogaa.Opens Go.Proofs.YtpnhlccdhflogaaW.PrintWords
def wf_S141 (x : S141) : Prop := (fun x : Int => (Lit.int .i64 x).wf = true) x.f0 ∧ (fun x : Int => (Lit.int .i64 x).wf = true) x.f1 ∧ (fun x : Int => (Lit.int .i64 x).wf = true) x.f2 ∧ (fun x : Int => (Lit.int .i64 x).wf = true) x.f3 ∧ (fun x : Int => (Lit.int .i64 x).wf = true) x.f4
theorem op_S141 : CellsTell Try.prog 141 k141 wf_S141 := op_struct (fun x : S141 => (x.f0, x.f1, x.f2, x.f3, x.f4)) (fun a => (⟨a.1, a.2.1, a.2.2.1, a.2.2.2.1, a.2.2.2.2⟩ : S141)) (fun a => by first | rfl | (cases a; rfl)) Try.underlying141 (by kernel_rfl) (opfs_cons rfl (by kernel_rfl) rfl (op_int Try.underlying3) (opfs_cons rfl (by kernel_rfl) rfl (op_int Try.underlying3) (opfs_cons rfl (by kernel_rfl) rfl (op_int Try.underlying3) (opfs_cons rfl (by kernel_rfl) rfl (op_int Try.underlying3) (opfs_one rfl (by kernel_rfl) (op_int Try.underlying3))))))
def wf_S95 (x : S95) : Prop := (fun xs => xs.length ≤ maxLen ∧ ∀ x ∈ xs, wf_S141 x) x.f0 ∧ (fun x : Int => (Lit.int .i64 x).wf = true) x.f1 ∧ (fun x : Int => (Lit.int .i64 x).wf = true) x.f2 ∧ (fun x : Int => (Lit.int .i64 x).wf = true) x.f3
theorem op_S95 : CellsTell Try.prog 95 k95 wf_S95 := op_struct (fun x : S95 => (x.f0, x.f1, x.f2, x.f3)) (fun a => (⟨a.1, a.2.1, a.2.2.1, a.2.2.2⟩ : S95)) (fun a => by first | rfl | (cases a; rfl)) Try.underlying95 (by kernel_rfl) (opfs_cons rfl (by kernel_rfl) rfl (op_slice Try.underlying93 (by kernel_rfl) op_S141) (opfs_cons rfl (by kernel_rfl) rfl (op_int Try.underlying3) (opfs_cons rfl (by kernel_rfl) rfl (op_int Try.underlying3) (opfs_one rfl (by kernel_rfl) (op_int Try.underlying3)))))
end Go.Proofs.Ytpnhlccdhflogaa.Wf
