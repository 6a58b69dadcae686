/- What the laws' arguments read as, struct by struct. Conditions: none. -/
import Derived.Test.YtgjojppbichaiaaOpens
import Derived.Test.YtgjojppbichaiaaQx0
import Derived.WalkKit
set_option linter.unusedVariables false
namespace Go.Proofs.Ytgjojppbichaiaa.Wf
open Go.Proofs.Ytgjojppbichaiaa.Q Go.Proofs.Ytgjojppbichaiaa.Opens Go.Proofs.YtgjojppbichaiaaW.PrintWords
def wf_S124 (x : S124) : Prop := (fun x : Int => (Lit.int .i64 x).wf = true) x.f0 ∧ (fun x : Int => (Lit.int .i64 x).wf = true) x.f1 ∧ (fun x : Int => (Lit.int .i64 x).wf = true) x.f2
theorem op_S124 : CellsTell Try.prog 124 k124 wf_S124 := op_struct (fun x : S124 => (x.f0, x.f1, x.f2)) (fun a => (⟨a.1, a.2.1, a.2.2⟩ : S124)) (fun a => by first | rfl | (cases a; rfl)) Try.underlying124 (by kernel_rfl) (opfs_cons rfl (by kernel_rfl) rfl (op_int Try.underlying3) (opfs_cons rfl (by kernel_rfl) rfl (op_int Try.underlying3) (opfs_one rfl (by kernel_rfl) (op_int Try.underlying3))))
def wf_S126 (x : S126) : Prop := (fun x : Int => (Lit.int .i64 x).wf = true) x.f0 ∧ (fun x : Int => (Lit.int .i64 x).wf = true) x.f1 ∧ (fun x : Int => (Lit.int .i64 x).wf = true) x.f2 ∧ (fun x : Int => (Lit.int .i64 x).wf = true) x.f3
theorem op_S126 : CellsTell Try.prog 126 k126 wf_S126 := op_struct (fun x : S126 => (x.f0, x.f1, x.f2, x.f3)) (fun a => (⟨a.1, a.2.1, a.2.2.1, a.2.2.2⟩ : S126)) (fun a => by first | rfl | (cases a; rfl)) Try.underlying126 (by kernel_rfl) (opfs_cons rfl (by kernel_rfl) rfl (op_int Try.underlying3) (opfs_cons rfl (by kernel_rfl) rfl (op_int Try.underlying3) (opfs_cons rfl (by kernel_rfl) rfl (op_int Try.underlying3) (opfs_one rfl (by kernel_rfl) (op_int Try.underlying3)))))
def wf_S32 (x : S32) : Prop := (fun xs => xs.length ≤ maxLen ∧ ∀ x ∈ xs, wf_S124 x) x.f0 ∧ (fun xs => xs.length ≤ maxLen ∧ ∀ x ∈ xs, wf_S126 x) x.f1
theorem op_S32 : CellsTell Try.prog 32 k32 wf_S32 := op_struct (fun x : S32 => (x.f0, x.f1)) (fun a => (⟨a.1, a.2⟩ : S32)) (fun a => by first | rfl | (cases a; rfl)) Try.underlying32 (by kernel_rfl) (opfs_cons rfl (by kernel_rfl) rfl (op_slice Try.underlying29 (by kernel_rfl) op_S124) (opfs_one rfl (by kernel_rfl) (op_slice Try.underlying30 (by kernel_rfl) op_S126)))
end Go.Proofs.Ytgjojppbichaiaa.Wf
