/- Trees out of cells: the reference reads them. Conditions: none. -/
import Derived.Test.YtgjojppbichaiaaPTb
import Derived.Test.YtgjojppbichaiaaQx0
import Derived.Test.YtgjojppbichaiaaQx7
set_option linter.unusedVariables false
set_option linter.unusedSimpArgs false
namespace Go.Proofs.Ytgjojppbichaiaa.Pure
open Go.RowKit Go.Proofs.Ytgjojppbichaiaa.Q Go.Proofs.YtgjojppbichaiaaW.PrintWords Go.Proofs.YtgjojppbichaiaaW.PrintLast Go.Proofs.Ytgjojppbichaiaa.Kit
theorem spec_tree (l : List S76) (hl : l.length ≤ 1048576) : ∃ t : S72, Ev (fun k => spec_l16Tree.f k l) (t.f0, t.f1, t.f2, (treeOf l).isSome) ∧ (∀ t', treeOf l = some t' → t = t') := by
  unfold spec_l16Tree.f treeOf
  by_cases h1 : l.length ≤ 30
  · rw [if_pos h1]
    have hr := spec_read l hl 40 0 (by omega) (by omega)
    cases he : rdT l 40 0 with
    | none =>
      rw [he] at hr
      exact ⟨⟨0, 0, []⟩, ite_f (by omega) (bind_ev hr (ite_f (by simp [enc]) (some_ev rfl))), fun _ h => by simp at h⟩
    | some r =>
      obtain ⟨t, b⟩ := r
      rw [he] at hr
      have h2 := rdT_mono l _ _ _ _ he
      have h3 := rdT_sz l _ _ _ _ he
      simp only
      refine ⟨t, ?_, ?_⟩
      · refine ite_f (by omega) (bind_ev hr (ite_t (by simp only [enc]; omega) ?_))
        by_cases h4 : b = l.length
        · refine ite_t (by simp only [enc]; omega) (bind_ev (spec_loops t (by omega)) (some_ev ?_))
          by_cases h5 : lp t ≤ 3
          · rw [if_pos ⟨h4, h5⟩, decide_eq_true (by omega)]; rfl
          · rw [if_neg (fun z => h5 z.2), decide_eq_false (by omega)]; rfl
        · refine ite_f (by simp only [enc]; omega) (some_ev ?_)
          rw [if_neg (fun z => h4 z.1)]; rfl
      · intro t' ht
        split at ht
        · exact Option.some.inj ht
        · cases ht
  · rw [if_neg h1]
    exact ⟨⟨0, 0, []⟩, ite_t (by omega) (some_ev rfl), fun _ h => by simp at h⟩
end Go.Proofs.Ytgjojppbichaiaa.Pure
