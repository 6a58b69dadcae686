/- What the laws' arguments read as, struct by struct. Conditions: none. -/
import Derived.Test.YtfdbdbihhgabpaaOpens
import Derived.Test.YtfdbdbihhgabpaaQx0
import Derived.WalkKit
set_option linter.unusedVariables false
namespace Go.Proofs.Ytfdbdbihhgabpaa.Wf
open Go.Proofs.Ytfdbdbihhgabpaa.Q Go.Proofs.Ytfdbdbihhgabpaa.Opens Go.Proofs.YtfdbdbihhgabpaaW.PrintWords
def wf_S52 (x : S52) : Prop := (fun xs => xs.length ≤ maxLen ∧ ∀ x ∈ xs, (fun x : Int => (Lit.int .i64 x).wf = true) x) x.f0 ∧ (fun x : Int => (Lit.int .i64 x).wf = true) x.f1
theorem op_S52 : CellsTell Try.prog 52 k52 wf_S52 := op_struct (fun x : S52 => (x.f0, x.f1)) (fun a => (⟨a.1, a.2⟩ : S52)) (fun a => by first | rfl | (cases a; rfl)) Try.underlying52 (by kernel_rfl) (opfs_cons rfl (by kernel_rfl) rfl (op_slice Try.underlying22 (by kernel_rfl) (op_int Try.underlying3)) (opfs_one rfl (by kernel_rfl) (op_int Try.underlying3)))
end Go.Proofs.Ytfdbdbihhgabpaa.Wf
