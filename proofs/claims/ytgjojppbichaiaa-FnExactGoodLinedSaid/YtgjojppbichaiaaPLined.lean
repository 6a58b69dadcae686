/- GoodLined: the program and the reference ask the same of a line. Conditions: none. -/
import Derived.Test.YtgjojppbichaiaaPL
import Derived.Test.YtgjojppbichaiaaQx0
import Derived.Test.YtgjojppbichaiaaQx3
import Derived.Test.YtgjojppbichaiaaQx5
set_option linter.unusedVariables false
set_option linter.unusedSimpArgs false
namespace Go.Proofs.Ytgjojppbichaiaa.Pure
open Go.RowKit Go.Proofs.Ytgjojppbichaiaa.Q Go.Proofs.YtgjojppbichaiaaW.PrintWords Go.Proofs.YtgjojppbichaiaaW.PrintLast Go.Proofs.Ytgjojppbichaiaa.Kit Go.Proofs.Ytgjojppbichaiaa.Wf
theorem FnExactGoodLined (y : S32) (hp : wf_S32 y) : ∃ k, laws_FnExactGoodLined.f k y.f0 y.f1 = some true := by
  refine Ev.rounds ?_
  obtain ⟨z, hz, hz2⟩ := szLined_ok y 1048576 (by omega) (by omega) hp
  unfold laws_FnExactGoodLined.f
  refine bind_ev hz ?_
  by_cases h : z < 0
  · exact ite_t h (Ev.now _)
  · have hl := (hz2 (by omega)).2
    have hs : (cv_S32 y).f0.length ≤ 1048576 := by simpa [cv_S32] using hl.1
    have hg : (cv_S32 y).f1.length ≤ 1048576 := by simpa [cv_S32] using hl.2
    have ht := toLined_ev y hl
    refine ite_f h (bind_ev ht (bind_ev (spec_good _ _ hs hg) (bind_ev ht ?_)))
    refine bind_ev (a := goodL (cv_S32 y).f0 (cv_S32 y).f1) (by unfold impl_GoodLined.f; exact bind_ev (impl_good _ _ hs hg) (Ev.now _)) ?_
    exact ite_f (by simp) (bind_ev ht (bind_ev (eqLined_ev _ ⟨hs, hg⟩) (ite_t rfl (Ev.now _))))
end Go.Proofs.Ytgjojppbichaiaa.Pure
