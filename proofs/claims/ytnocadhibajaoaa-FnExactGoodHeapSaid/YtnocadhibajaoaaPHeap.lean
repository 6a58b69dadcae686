/- GoodHeap: the program and the reference ask the same of a heap. Conditions: none. -/
import Derived.Test.YtnocadhibajaoaaPH
import Derived.Test.YtnocadhibajaoaaQx0
import Derived.Test.YtnocadhibajaoaaQx7
set_option linter.unusedVariables false
set_option linter.unusedSimpArgs false
namespace Go.Proofs.Ytnocadhibajaoaa.Pure
open Go.RowKit Go.Proofs.Ytnocadhibajaoaa.Q Go.Proofs.YtnocadhibajaoaaW.PrintWords Go.Proofs.YtnocadhibajaoaaW.PrintLast Go.Proofs.Ytnocadhibajaoaa.Kit Go.Proofs.Ytnocadhibajaoaa.Wf
theorem FnExactGoodHeap (y : S32) (hp : wf_S32 y) : ∃ k, laws_FnExactGoodHeap.f k y.f0 y.f1 y.f2 y.f3 = some true := by
  refine Ev.rounds ?_
  obtain ⟨z, hz, hz2⟩ := szHeap_ok y 1048576 (by omega) (by omega) hp
  unfold laws_FnExactGoodHeap.f
  refine bind_ev hz ?_
  by_cases h : z < 0
  · exact ite_t h (Ev.now _)
  · have hl := (hz2 (by omega)).2
    have hl2 := cv_bd y hl
    have ht := toHeap_ev y hl
    have hm : ∀ c ∈ (cv_S32 y).f0, c.f2.length ≤ 1048576 := fun c hc => (hl2.1.2 c hc).2.2
    refine ite_f h (bind_ev ht (bind_ev (spec_good _ _ _ _ hl2.1.1 hl2.2.2.1 hl2.2.1 hm) (bind_ev ht ?_)))
    refine bind_ev (a := goodH (cv_S32 y).f0 (cv_S32 y).f1 (cv_S32 y).f2 (cv_S32 y).f3) (by unfold impl_GoodHeap.f; exact bind_ev (impl_good _ _ _ _ hl2.1.1 hl2.2.2.1 hl2.2.1 hm) (Ev.now _)) ?_
    exact ite_f (by simp) (bind_ev ht (bind_ev (eqHeap_ev _ hl2) (ite_t rfl (Ev.now _))))
end Go.Proofs.Ytnocadhibajaoaa.Pure
