/- GoodMarker: the program and the reference ask the same of a marker. Conditions: none. -/
import Derived.Test.YtmgnnegmohmbhaaPM
import Derived.Test.YtmgnnegmohmbhaaQx0
import Derived.Test.YtmgnnegmohmbhaaQx6
set_option linter.unusedVariables false
set_option linter.unusedSimpArgs false
namespace Go.Proofs.Ytmgnnegmohmbhaa.Pure
open Go.RowKit Go.Proofs.Ytmgnnegmohmbhaa.Q Go.Proofs.YtmgnnegmohmbhaaW.PrintWords Go.Proofs.YtmgnnegmohmbhaaW.PrintLast Go.Proofs.Ytmgnnegmohmbhaa.Kit Go.Proofs.Ytmgnnegmohmbhaa.Wf
theorem FnExactGoodMarker (y : S33) (hp : wf_S33 y) : ∃ k, laws_FnExactGoodMarker.f k y.f0 y.f1 y.f2 = some true := by
  refine Ev.rounds ?_
  obtain ⟨z, hz, hz2⟩ := szMarker_ok y 1048576 (by omega) (by omega) hp
  unfold laws_FnExactGoodMarker.f
  refine bind_ev hz ?_
  by_cases h : z < 0
  · exact ite_t h (Ev.now _)
  · have hl := (hz2 (by omega)).2
    have hl2 := cv_bd y hl
    have ht := toMarker_ev y hl
    have hm : ∀ c ∈ (cv_S33 y).f0, c.f0.length ≤ 1048576 := fun c hc => (hl2.1.2 c hc).1
    refine ite_f h (bind_ev ht (bind_ev (spec_good _ _ _ hl2.2.1 hl2.1.1 hm) (bind_ev ht ?_)))
    refine bind_ev (a := goodM (cv_S33 y).f0 (cv_S33 y).f1 (cv_S33 y).f2) (by unfold impl_GoodMarker.f; exact bind_ev (impl_good _ _ _ hl2.1.1 hm) (Ev.now _)) ?_
    exact ite_f (by simp) (bind_ev ht (bind_ev (eqMarker_ev _ hl2) (ite_t rfl (Ev.now _))))
end Go.Proofs.Ytmgnnegmohmbhaa.Pure
