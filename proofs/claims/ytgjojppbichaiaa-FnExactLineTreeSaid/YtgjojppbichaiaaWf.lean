/- What the laws' arguments read as, struct by struct. Conditions: none. -/
import Derived.Test.YtgjojppbichaiaaOpens
import Derived.Test.YtgjojppbichaiaaQx0
import Derived.WalkKit
set_option linter.unusedVariables false
namespace Go.Proofs.Ytgjojppbichaiaa.Wf
open Go.Proofs.Ytgjojppbichaiaa.Q Go.Proofs.Ytgjojppbichaiaa.Opens Go.Proofs.YtgjojppbichaiaaW.PrintWords
def wf_S78 (x : S78) : Prop := (fun x : Int => (Lit.int .i64 x).wf = true) x.f0 ∧ (fun x : Int => (Lit.int .i64 x).wf = true) x.f1
theorem op_S78 : CellsTell Try.prog 78 k78 wf_S78 := op_struct (fun x : S78 => (x.f0, x.f1)) (fun a => (⟨a.1, a.2⟩ : S78)) (fun a => by first | rfl | (cases a; rfl)) Try.underlying78 (by kernel_rfl) (opfs_cons rfl (by kernel_rfl) rfl (op_int Try.underlying3) (opfs_one rfl (by kernel_rfl) (op_int Try.underlying3)))
end Go.Proofs.Ytgjojppbichaiaa.Wf
