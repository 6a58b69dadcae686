/- What the laws' arguments read as, struct by struct. Conditions: none. -/
import Derived.Test.YtnocadhibajaoaaOpens
import Derived.Test.YtnocadhibajaoaaQx0
import Derived.WalkKit
set_option linter.unusedVariables false
namespace Go.Proofs.Ytnocadhibajaoaa.Wf
open Go.Proofs.Ytnocadhibajaoaa.Q Go.Proofs.Ytnocadhibajaoaa.Opens Go.Proofs.YtnocadhibajaoaaW.PrintWords
def wf_S59 (x : S59) : Prop := (fun x : Int => (Lit.int .i64 x).wf = true) x.f0 ∧ (fun _ : Bool => True) x.f1 ∧ (fun xs => xs.length ≤ maxLen ∧ ∀ x ∈ xs, (fun x : Int => (Lit.int .i64 x).wf = true) x) x.f2
theorem op_S59 : CellsTell Try.prog 59 k59 wf_S59 := op_struct (fun x : S59 => (x.f0, x.f1, x.f2)) (fun a => (⟨a.1, a.2.1, a.2.2⟩ : S59)) (fun a => by first | rfl | (cases a; rfl)) Try.underlying59 (by kernel_rfl) (opfs_cons rfl (by kernel_rfl) rfl (op_int Try.underlying3) (opfs_cons rfl (by kernel_rfl) rfl (op_bool Try.underlying4) (opfs_one rfl (by kernel_rfl) (op_slice Try.underlying23 (by kernel_rfl) (op_int Try.underlying3)))))
def wf_S32 (x : S32) : Prop := (fun xs => xs.length ≤ maxLen ∧ ∀ x ∈ xs, wf_S59 x) x.f0 ∧ (fun xs => xs.length ≤ maxLen ∧ ∀ x ∈ xs, (fun x : Int => (Lit.int .i64 x).wf = true) x) x.f1 ∧ (fun xs => xs.length ≤ maxLen ∧ ∀ x ∈ xs, (fun x : Int => (Lit.int .i64 x).wf = true) x) x.f2 ∧ (fun x : Int => (Lit.int .i64 x).wf = true) x.f3
theorem op_S32 : CellsTell Try.prog 32 k32 wf_S32 := op_struct (fun x : S32 => (x.f0, x.f1, x.f2, x.f3)) (fun a => (⟨a.1, a.2.1, a.2.2.1, a.2.2.2⟩ : S32)) (fun a => by first | rfl | (cases a; rfl)) Try.underlying32 (by kernel_rfl) (opfs_cons rfl (by kernel_rfl) rfl (op_slice Try.underlying30 (by kernel_rfl) op_S59) (opfs_cons rfl (by kernel_rfl) rfl (op_slice Try.underlying23 (by kernel_rfl) (op_int Try.underlying3)) (opfs_cons rfl (by kernel_rfl) rfl (op_slice Try.underlying23 (by kernel_rfl) (op_int Try.underlying3)) (opfs_one rfl (by kernel_rfl) (op_int Try.underlying3)))))
end Go.Proofs.Ytnocadhibajaoaa.Wf
