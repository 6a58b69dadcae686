/- What the laws' arguments read as, struct by struct. Conditions: none. -/
import Derived.Test.YtpoddnhfnphdcaaOpens
import Derived.Test.YtpoddnhfnphdcaaQx0
import Derived.WalkKit
set_option linter.unusedVariables false
namespace Go.Proofs.Ytpoddnhfnphdcaa.Wf
open Go.Proofs.Ytpoddnhfnphdcaa.Q Go.Proofs.Ytpoddnhfnphdcaa.Opens Go.Proofs.YtpoddnhfnphdcaaW.PrintWords
def wf_S24 (x : S24) : Prop := (fun xs => xs.length ≤ maxLen ∧ ∀ x ∈ xs, (fun x : Int => (Lit.int .i64 x).wf = true) x) x.f0 ∧ (fun xs => xs.length ≤ maxLen ∧ ∀ x ∈ xs, (fun x : Int => (Lit.int .i64 x).wf = true) x) x.f1 ∧ (fun xs => xs.length ≤ maxLen ∧ ∀ x ∈ xs, (fun x : Int => (Lit.int .i64 x).wf = true) x) x.f2
theorem op_S24 : CellsTell Try.prog 24 k24 wf_S24 := op_struct (fun x : S24 => (x.f0, x.f1, x.f2)) (fun a => (⟨a.1, a.2.1, a.2.2⟩ : S24)) (fun a => by first | rfl | (cases a; rfl)) Try.underlying24 (by kernel_rfl) (opfs_cons rfl (by kernel_rfl) rfl (op_slice Try.underlying22 (by kernel_rfl) (op_int Try.underlying3)) (opfs_cons rfl (by kernel_rfl) rfl (op_slice Try.underlying22 (by kernel_rfl) (op_int Try.underlying3)) (opfs_one rfl (by kernel_rfl) (op_slice Try.underlying22 (by kernel_rfl) (op_int Try.underlying3)))))
end Go.Proofs.Ytpoddnhfnphdcaa.Wf
