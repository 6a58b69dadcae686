/- GuardAt: what both tell. Conditions: none. -/
import Derived.Test.YtgjojppbichaiaaPGd
import Derived.Test.YtgjojppbichaiaaQx0
import Derived.Test.YtgjojppbichaiaaQx3
set_option linter.unusedVariables false
set_option linter.unusedSimpArgs false
namespace Go.Proofs.Ytgjojppbichaiaa.Pure
open Go.RowKit Go.Proofs.Ytgjojppbichaiaa.Q Go.Proofs.YtgjojppbichaiaaW.PrintWords Go.Proofs.YtgjojppbichaiaaW.PrintLast Go.Proofs.Ytgjojppbichaiaa.Kit Go.Proofs.Ytgjojppbichaiaa.Wf
/-- What GuardAt tells. -/
def gAt (ss : List S86) (gs : List S63) (a c : Int) : Int × Bool :=
  if goodL ss gs = true ∧ (0 ≤ a ∧ a < ss.length) ∧ inB c 1 9 = true ∧ 0 ≤ gI a c 0 gs then (gI a c 0 gs, true) else (0, false)
theorem spec_gAt (ss : List S86) (gs : List S63) (a c : Int) (hs : ss.length ≤ 1048576) (hg : gs.length ≤ 1048576) : Ev (fun k => spec_GuardAt.f k ss gs a c) (gAt ss gs a c) := by
  unfold spec_GuardAt.f gAt
  have no : ∀ {r : Int × Bool}, r = (0, false) → Ev (fun k => spec_GuardAt.j0 k a c true ss gs) r := by
    intro r e; subst e
    exact Ev.step (fun k => by simp only [spec_GuardAt.j0]; rw [if_pos trivial]) (Ev.now _)
  refine bind_ev (spec_good ss gs hs hg) ?_
  by_cases h1 : goodL ss gs = true
  · refine ite_t h1 ?_
    by_cases h2 : a < 0
    · exact ite_t h2 (no (by rw [if_neg (by omega)]))
    · refine ite_f h2 ?_
      by_cases h3 : a ≥ (ss.length : Int)
      · exact ite_t h3 (no (by rw [if_neg (by omega)]))
      · refine ite_f h3 ?_
        rw [spec_in]
        simp only [Option.bind_some]
        cases h4 : inB c 1 9 with
        | false => exact no (by rw [if_neg (by simp)])
        | true =>
          refine Ev.step (fun k => by simp only [spec_GuardAt.j0]; rw [if_neg (by simp)]) ?_
          refine bind_ev (spec_guard ss gs a c hg) ?_
          by_cases h5 : gI a c 0 gs < 0
          · exact ite_t h5 (some_ev (by rw [if_neg (by omega)]))
          · exact ite_f h5 (some_ev (by rw [if_pos ⟨h1, ⟨by omega, by omega⟩, rfl, by omega⟩]))
  · exact ite_f h1 (no (by rw [if_neg (fun z => h1 z.1)]))
theorem impl_gAt (ss : List S86) (gs : List S63) (a c : Int) (hs : ss.length ≤ 1048576) (hg : gs.length ≤ 1048576) : Ev (fun k => impl_GuardAt.f k ss gs a c) (gAt ss gs a c) := by
  unfold impl_GuardAt.f gAt
  refine bind_ev (impl_good ss gs hs hg) ?_
  rw [impl_in, impl_in, impl_guard, w64 (by omega) (by omega)]
  simp only [Option.bind_some]
  by_cases h1 : goodL ss gs = true
  · refine ite_t h1 ?_
    by_cases h2 : inB a 0 ((ss.length : Int) - 1) = true
    · refine ite_t h2 ?_
      have h2' := (inB_iff _ _ _).1 h2
      by_cases h4 : inB c 1 9 = true
      · refine ite_t h4 (some_ev ?_)
        by_cases h5 : gI a c 0 gs < 0
        · rw [if_neg (by omega), show decide (gI a c 0 gs ≥ 0) = false from decide_eq_false (by omega)]
          have := gI_ge a c 0 gs
          rw [show gI a c 0 gs = -1 by omega]
          rfl
        · rw [if_pos ⟨h1, ⟨by omega, by omega⟩, h4, by omega⟩, show decide (gI a c 0 gs ≥ 0) = true from decide_eq_true (by omega)]
          unfold mx
          rw [if_neg h5]
      · exact ite_f h4 (some_ev (by rw [if_neg (fun z => h4 z.2.2.1)]))
    · refine ite_f h2 (some_ev ?_)
      have h2' : ¬ (0 ≤ a ∧ a ≤ (ss.length : Int) - 1) := fun z => h2 ((inB_iff _ _ _).2 z)
      rw [if_neg (by omega)]
  · exact ite_f h1 (some_ev (by rw [if_neg (fun z => h1 z.1)]))
end Go.Proofs.Ytgjojppbichaiaa.Pure
