/- What the laws' arguments read as, struct by struct. Conditions: none. -/
import Derived.Test.YtpoddnhfnphdcaaOpens
import Derived.Test.YtpoddnhfnphdcaaQx0
import Derived.WalkKit
set_option linter.unusedVariables false
namespace Go.Proofs.Ytpoddnhfnphdcaa.Wf
open Go.Proofs.Ytpoddnhfnphdcaa.Q Go.Proofs.Ytpoddnhfnphdcaa.Opens Go.Proofs.YtpoddnhfnphdcaaW.PrintWords
def wf_S93 (x : S93) : Prop := (fun x : Int => (Lit.int .i64 x).wf = true) x.f0 ∧ (fun x : Int => (Lit.int .i64 x).wf = true) x.f1 ∧ (fun x : Int => (Lit.int .i64 x).wf = true) x.f2 ∧ (fun x : Int => (Lit.int .i64 x).wf = true) x.f3 ∧ (fun x : Int => (Lit.int .i64 x).wf = true) x.f4
theorem op_S93 : CellsTell Try.prog 93 k93 wf_S93 := op_struct (fun x : S93 => (x.f0, x.f1, x.f2, x.f3, x.f4)) (fun a => (⟨a.1, a.2.1, a.2.2.1, a.2.2.2.1, a.2.2.2.2⟩ : S93)) (fun a => by first | rfl | (cases a; rfl)) Try.underlying93 (by kernel_rfl) (opfs_cons rfl (by kernel_rfl) rfl (op_int Try.underlying3) (opfs_cons rfl (by kernel_rfl) rfl (op_int Try.underlying3) (opfs_cons rfl (by kernel_rfl) rfl (op_int Try.underlying3) (opfs_cons rfl (by kernel_rfl) rfl (op_int Try.underlying3) (opfs_one rfl (by kernel_rfl) (op_int Try.underlying3))))))
def wf_S100 (x : S100) : Prop := (fun _ : Bool => True) x.f0 ∧ (fun x : Int => (Lit.int .i64 x).wf = true) x.f1
theorem op_S100 : CellsTell Try.prog 100 k100 wf_S100 := op_struct (fun x : S100 => (x.f0, x.f1)) (fun a => (⟨a.1, a.2⟩ : S100)) (fun a => by first | rfl | (cases a; rfl)) Try.underlying100 (by kernel_rfl) (opfs_cons rfl (by kernel_rfl) rfl (op_bool Try.underlying4) (opfs_one rfl (by kernel_rfl) (op_int Try.underlying3)))
def wf_S48 (x : S48) : Prop := (fun xs => xs.length ≤ maxLen ∧ ∀ x ∈ xs, wf_S93 x) x.f0 ∧ (fun xs => xs.length ≤ maxLen ∧ ∀ x ∈ xs, (fun x : Int => (Lit.int .i64 x).wf = true) x) x.f1 ∧ (fun xs => xs.length ≤ maxLen ∧ ∀ x ∈ xs, (fun xs => xs.length ≤ maxLen ∧ ∀ x ∈ xs, wf_S100 x) x) x.f2
theorem op_S48 : CellsTell Try.prog 48 k48 wf_S48 := op_struct (fun x : S48 => (x.f0, x.f1, x.f2)) (fun a => (⟨a.1, a.2.1, a.2.2⟩ : S48)) (fun a => by first | rfl | (cases a; rfl)) Try.underlying48 (by kernel_rfl) (opfs_cons rfl (by kernel_rfl) rfl (op_slice Try.underlying45 (by kernel_rfl) op_S93) (opfs_cons rfl (by kernel_rfl) rfl (op_slice Try.underlying22 (by kernel_rfl) (op_int Try.underlying3)) (opfs_one rfl (by kernel_rfl) (op_slice Try.underlying46 (by kernel_rfl) (op_slice Try.underlying89 (by kernel_rfl) op_S100)))))
end Go.Proofs.Ytpoddnhfnphdcaa.Wf
