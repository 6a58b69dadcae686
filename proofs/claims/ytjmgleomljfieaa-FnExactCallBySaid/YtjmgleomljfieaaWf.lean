/- What the laws' arguments read as, struct by struct. Conditions: none. -/
import Derived.Test.YtjmgleomljfieaaOpens
import Derived.Test.YtjmgleomljfieaaQx0
import Derived.WalkKit
set_option linter.unusedVariables false
namespace Go.Proofs.Ytjmgleomljfieaa.Wf
open Go.Proofs.Ytjmgleomljfieaa.Q Go.Proofs.Ytjmgleomljfieaa.Opens Go.Proofs.YtjmgleomljfieaaW.PrintWords
def wf_S111 (x : S111) : Prop := (fun x : Int => (Lit.int .i64 x).wf = true) x.f0 ∧ (fun xs => xs.length ≤ maxLen ∧ ∀ x ∈ xs, (fun x : Int => (Lit.int .i64 x).wf = true) x) x.f1
theorem op_S111 : CellsTell Try.prog 111 k111 wf_S111 := op_struct (fun x : S111 => (x.f0, x.f1)) (fun a => (⟨a.1, a.2⟩ : S111)) (fun a => by first | rfl | (cases a; rfl)) Try.underlying111 (by kernel_rfl) (opfs_cons rfl (by kernel_rfl) rfl (op_int Try.underlying3) (opfs_one rfl (by kernel_rfl) (op_slice Try.underlying68 (by kernel_rfl) (op_int Try.underlying3))))
def wf_S24 (x : S24) : Prop := (fun xs => xs.length ≤ maxLen ∧ ∀ x ∈ xs, wf_S111 x) x.f0 ∧ (fun x : Int => (Lit.int .i64 x).wf = true) x.f1
theorem op_S24 : CellsTell Try.prog 24 k24 wf_S24 := op_struct (fun x : S24 => (x.f0, x.f1)) (fun a => (⟨a.1, a.2⟩ : S24)) (fun a => by first | rfl | (cases a; rfl)) Try.underlying24 (by kernel_rfl) (opfs_cons rfl (by kernel_rfl) rfl (op_slice Try.underlying22 (by kernel_rfl) op_S111) (opfs_one rfl (by kernel_rfl) (op_int Try.underlying3)))
def wf_S117 (x : S117) : Prop := (fun x : Int => (Lit.int .i64 x).wf = true) x.f0 ∧ (fun x : Int => (Lit.int .i64 x).wf = true) x.f1
theorem op_S117 : CellsTell Try.prog 117 k117 wf_S117 := op_struct (fun x : S117 => (x.f0, x.f1)) (fun a => (⟨a.1, a.2⟩ : S117)) (fun a => by first | rfl | (cases a; rfl)) Try.underlying117 (by kernel_rfl) (opfs_cons rfl (by kernel_rfl) rfl (op_int Try.underlying3) (opfs_one rfl (by kernel_rfl) (op_int Try.underlying3)))
def wf_S52 (x : S52) : Prop := (fun x : Int => (Lit.int .i64 x).wf = true) x.f0 ∧ (fun x : Int => (Lit.int .i64 x).wf = true) x.f1 ∧ (fun xs => xs.length ≤ maxLen ∧ ∀ x ∈ xs, wf_S117 x) x.f2 ∧ (fun x : Int => (Lit.int .i64 x).wf = true) x.f3 ∧ (fun x : Int => (Lit.int .i64 x).wf = true) x.f4 ∧ (fun x : Int => (Lit.int .i64 x).wf = true) x.f5
theorem op_S52 : CellsTell Try.prog 52 k52 wf_S52 := op_struct (fun x : S52 => (x.f0, x.f1, x.f2, x.f3, x.f4, x.f5)) (fun a => (⟨a.1, a.2.1, a.2.2.1, a.2.2.2.1, a.2.2.2.2.1, a.2.2.2.2.2⟩ : S52)) (fun a => by first | rfl | (cases a; rfl)) Try.underlying52 (by kernel_rfl) (opfs_cons rfl (by kernel_rfl) rfl (op_int Try.underlying3) (opfs_cons rfl (by kernel_rfl) rfl (op_int Try.underlying3) (opfs_cons rfl (by kernel_rfl) rfl (op_slice Try.underlying50 (by kernel_rfl) op_S117) (opfs_cons rfl (by kernel_rfl) rfl (op_int Try.underlying3) (opfs_cons rfl (by kernel_rfl) rfl (op_int Try.underlying3) (opfs_one rfl (by kernel_rfl) (op_int Try.underlying3)))))))
end Go.Proofs.Ytjmgleomljfieaa.Wf
