/- NewHeap: the program and the reference make the same heap. Conditions: none. -/
import Derived.Test.YtnocadhibajaoaaGoodFnExactNewHeap
import Derived.Test.YtnocadhibajaoaaKit
import Derived.KernelRfl
set_option linter.unusedVariables false
namespace Go.Proofs.Ytnocadhibajaoaa.Pure
open Go.RowKit Go.Proofs.Ytnocadhibajaoaa.Q Go.Proofs.YtnocadhibajaoaaW.PrintWords Go.Proofs.YtnocadhibajaoaaW.PrintLast Go.Proofs.Ytnocadhibajaoaa.Kit

def objs : List S45 := [⟨0, true, [-1, -1]⟩]
def roots : List Int := [0, -1, -1, -1, -1, -1]
theorem same : laws_eqHeap.f 40 objs roots [] 1 objs roots [] 1 = some true := by kernel_rfl
theorem held : laws_heldHeap.f 40 (markObjectS_mk (1) objs) (Kit.from_ (1 + (markObjectS_cnt objs : Nat)) roots.length) (Kit.from_ (1 + (markObjectS_cnt objs : Nat) + (roots.length : Nat)) ([] : List Int).length) 1 1 = some (1 + (markObjectS_cnt objs : Nat) + (roots.length : Nat) + (([] : List Int).length : Nat) : Int) := by kernel_rfl
theorem FnExactNewHeap : ∃ k, laws_FnExactNewHeap.f k = some true := by
  refine ⟨40, ?_⟩
  unfold laws_FnExactNewHeap.f
  exact if_pos ⟨objs, roots, [], 1, (by kernel_rfl), objs, roots, [], 1, (by kernel_rfl), same, (by decide +kernel), held, objs, roots, [], 1, (by kernel_rfl), same, held, trivial⟩
end Go.Proofs.Ytnocadhibajaoaa.Pure
