/- What the laws' arguments read as, struct by struct. Conditions: none. -/
import Derived.Test.YtmgnnegmohmbhaaOpens
import Derived.Test.YtmgnnegmohmbhaaQx0
import Derived.WalkKit
set_option linter.unusedVariables false
namespace Go.Proofs.Ytmgnnegmohmbhaa.Wf
open Go.Proofs.Ytmgnnegmohmbhaa.Q Go.Proofs.Ytmgnnegmohmbhaa.Opens Go.Proofs.YtmgnnegmohmbhaaW.PrintWords
def wf_S56 (x : S56) : Prop := (fun xs => xs.length ≤ maxLen ∧ ∀ x ∈ xs, (fun x : Int => (Lit.int .i64 x).wf = true) x) x.f0 ∧ (fun x : Int => (Lit.int .i64 x).wf = true) x.f1 ∧ (fun _ : Bool => True) x.f2
theorem op_S56 : CellsTell Try.prog 56 k56 wf_S56 := op_struct (fun x : S56 => (x.f0, x.f1, x.f2)) (fun a => (⟨a.1, a.2.1, a.2.2⟩ : S56)) (fun a => by first | rfl | (cases a; rfl)) Try.underlying56 (by kernel_rfl) (opfs_cons rfl (by kernel_rfl) rfl (op_slice Try.underlying23 (by kernel_rfl) (op_int Try.underlying3)) (opfs_cons rfl (by kernel_rfl) rfl (op_int Try.underlying3) (opfs_one rfl (by kernel_rfl) (op_bool Try.underlying4))))
def wf_S33 (x : S33) : Prop := (fun xs => xs.length ≤ maxLen ∧ ∀ x ∈ xs, wf_S56 x) x.f0 ∧ (fun xs => xs.length ≤ maxLen ∧ ∀ x ∈ xs, (fun x : Int => (Lit.int .i64 x).wf = true) x) x.f1 ∧ (fun _ : Bool => True) x.f2
theorem op_S33 : CellsTell Try.prog 33 k33 wf_S33 := op_struct (fun x : S33 => (x.f0, x.f1, x.f2)) (fun a => (⟨a.1, a.2.1, a.2.2⟩ : S33)) (fun a => by first | rfl | (cases a; rfl)) Try.underlying33 (by kernel_rfl) (opfs_cons rfl (by kernel_rfl) rfl (op_slice Try.underlying31 (by kernel_rfl) op_S56) (opfs_cons rfl (by kernel_rfl) rfl (op_slice Try.underlying23 (by kernel_rfl) (op_int Try.underlying3)) (opfs_one rfl (by kernel_rfl) (op_bool Try.underlying4))))
end Go.Proofs.Ytmgnnegmohmbhaa.Wf
