/- GoodTree2: the program and the reference take the same cells for a tree. Conditions: none. -/
import Derived.Test.YtgjojppbichaiaaPTr
import Derived.Test.YtgjojppbichaiaaDataN
import Derived.Test.YtgjojppbichaiaaQx0
import Derived.Test.YtgjojppbichaiaaQx2
import Derived.Test.YtgjojppbichaiaaQx3
set_option linter.unusedVariables false
set_option linter.unusedSimpArgs false
namespace Go.Proofs.Ytgjojppbichaiaa.Pure
open Go.RowKit Go.Proofs.Ytgjojppbichaiaa.Q Go.Proofs.YtgjojppbichaiaaW.PrintWords Go.Proofs.YtgjojppbichaiaaW.PrintLast Go.Proofs.Ytgjojppbichaiaa.Kit Go.Proofs.Ytgjojppbichaiaa.Wf
theorem FnExactGoodTree2 (l : List S78) (hp : l.length ≤ maxLen ∧ ∀ x ∈ l, wf_S78 x) : ∃ k, laws_FnExactGoodTree2.f k l = some true := by
  refine Ev.rounds ?_
  obtain ⟨z, hz, hz2⟩ := szXCellS_ok l 1048576 (by omega) (by omega) hp.1
  unfold laws_FnExactGoodTree2.f
  refine bind_ev hz ?_
  by_cases h : z < 0
  · exact ite_t h (Ev.now _)
  · have hl := (hz2 (by omega)).2
    have hm : (l.map cv_S78).length ≤ 1048576 := by simpa using hl
    have ht := toXCellS_ev l hl
    obtain ⟨t, h1, _⟩ := spec_tree (l.map cv_S78) hm
    obtain ⟨o, h2, _⟩ := impl_tree (l.map cv_S78)
    refine ite_f h (bind_ev ht (bind_ev (a := (treeOf (l.map cv_S78)).isSome) (by unfold spec_GoodTree2.f; exact bind_ev h1 (Ev.now _)) (bind_ev ht ?_)))
    refine bind_ev (a := (treeOf (l.map cv_S78)).isSome) (by unfold impl_GoodTree2.f; rw [h2]; exact Ev.now _) ?_
    exact ite_f (by simp) (bind_ev ht (bind_ev (eqXCellS_ev _ hm) (ite_t rfl (Ev.now _))))
end Go.Proofs.Ytgjojppbichaiaa.Pure
