/- GuardAt: the program and the reference take the same guard. Conditions: none. -/
import Derived.Test.YtgjojppbichaiaaPL
import Derived.Test.YtgjojppbichaiaaQx0
import Derived.Test.YtgjojppbichaiaaQx4
import Derived.Test.YtgjojppbichaiaaQx5
import Derived.Test.YtgjojppbichaiaaQx6
set_option linter.unusedVariables false
set_option linter.unusedSimpArgs false
namespace Go.Proofs.Ytgjojppbichaiaa.Pure
open Go.RowKit Go.Proofs.Ytgjojppbichaiaa.Q Go.Proofs.YtgjojppbichaiaaW.PrintWords Go.Proofs.YtgjojppbichaiaaW.PrintLast Go.Proofs.Ytgjojppbichaiaa.Kit Go.Proofs.Ytgjojppbichaiaa.Wf
/-- Is the guard there for a step and a code? -/
def hits (a c : Int) (g : S63) : Bool := decide (a ≥ g.f0) && decide (a < g.f1) && (decide (g.f2 = 0) || decide (g.f2 = c))
def gI (a c : Int) : Nat → List S63 → Int
  | _, [] => -1
  | i, g :: gs => if hits a c g = true then (i : Int) else gI a c (i + 1) gs
theorem gI_ge (a c : Int) : ∀ (i : Nat) (gs : List S63), -1 ≤ gI a c i gs
  | _, [] => by simp [gI]
  | i, g :: gs => by
    have := gI_ge a c (i + 1) gs
    unfold gI
    split <;> omega
theorem spec_guard_l0 (a c : Int) : ∀ (post pre : List S63), pre.length + post.length ≤ 1048576 →
    Ev (fun k => spec_l16Guard.l0 k a c (pre ++ post) ((pre ++ post).length : Int) (pre.length : Int)) (gI a c pre.length post)
  | [], pre, hb => by
    refine Ev.step (fun k => by simp only [spec_l16Guard.l0]; rw [if_neg (by simp)]) ?_
    exact some_ev rfl
  | g :: post, pre, hb => by
    simp at hb
    refine Ev.step (fun k => by
      simp only [spec_l16Guard.l0]
      rw [if_pos (by simp; omega), if_pos (by omega), if_pos (by simp; omega), rdat_T63 rfl, w_succ (by omega)]) ?_
    have ih : hits a c g = false → Ev (fun k => spec_l16Guard.l0 k a c (pre ++ g :: post) ((pre ++ g :: post).length : Int) ((pre.length + 1 : Nat) : Int)) (gI a c pre.length (g :: post)) := by
      intro e
      have := spec_guard_l0 a c post (pre ++ [g]) (by simp; omega)
      simpa [gI, e] using this
    by_cases h1 : a ≥ g.f0
    · refine ite_t h1 ?_
      by_cases h2 : a < g.f1
      · refine ite_t h2 ?_
        by_cases h3 : g.f2 = 0
        · exact ite_t h3 (some_ev (by simp [gI, hits, h1, h2, h3]))
        · refine ite_f h3 ?_
          by_cases h4 : g.f2 = c
          · exact ite_t h4 (some_ev (by unfold gI; rw [if_pos (by simp [hits, h1, h2, h4])]))
          · exact ite_f h4 (ih (by simp [hits, h3, h4]))
      · exact ite_f h2 (ih (by simp [hits, h2]))
    · exact ite_f h1 (ih (by simp [hits, h1]))
theorem spec_guard (ss : List S86) (gs : List S63) (a c : Int) (hg : gs.length ≤ 1048576) : Ev (fun k => spec_l16Guard.f k ss gs a c) (gI a c 0 gs) := by
  unfold spec_l16Guard.f
  simpa using spec_guard_l0 a c gs [] (by simpa using hg)
theorem idx_guard (a c : Int) : ∀ (gs : List S63) (i : Nat), Kit.idxO (fun x : S63 => impl_guardAt_1.f x.f0 x.f1 x.f2 x.f3 a c) gs i = some (gI a c i gs)
  | [], i => rfl
  | g :: gs, i => by
    have e : impl_guardAt_1.f g.f0 g.f1 g.f2 g.f3 a c = some (hits a c g) := by
      unfold impl_guardAt_1.f hits
      by_cases h1 : a ≥ g.f0
      · rw [if_pos h1]
        by_cases h2 : a < g.f1
        · rw [if_pos h2]
          by_cases h3 : g.f2 = 0
          · rw [if_pos h3]; simp [h1, h2, h3]
          · rw [if_neg h3]; simp [h1, h2, h3]
            by_cases h4 : g.f2 = c <;> simp [h4]
        · rw [if_neg h2]; simp [h2]
      · rw [if_neg h1]; simp [h1]
    simp only [Kit.idxO, gI]
    rw [e]
    simp only [Option.bind_some]
    cases hits a c g
    · simpa using idx_guard a c gs (i + 1)
    · simp
theorem impl_guard (ss : List S86) (gs : List S63) (a c : Int) : impl_guardAt.f ss gs a c = some (gI a c 0 gs) := by
  unfold impl_guardAt.f impl_Guard_84_85.f
  rw [idx_guard]; rfl
/-- What GuardAt tells. -/
def gAt (ss : List S86) (gs : List S63) (a c : Int) : Int × Bool :=
  if goodL ss gs = true ∧ (0 ≤ a ∧ a < ss.length) ∧ inB c 1 9 = true ∧ 0 ≤ gI a c 0 gs then (gI a c 0 gs, true) else (0, false)
theorem spec_gAt (ss : List S86) (gs : List S63) (a c : Int) (hs : ss.length ≤ 1048576) (hg : gs.length ≤ 1048576) : Ev (fun k => spec_GuardAt.f k ss gs a c) (gAt ss gs a c) := by
  unfold spec_GuardAt.f gAt
  have no : ∀ {r : Int × Bool}, r = (0, false) → Ev (fun k => spec_GuardAt.j0 k a c true ss gs) r := by
    intro r e; subst e
    exact Ev.step (fun k => by simp only [spec_GuardAt.j0]; rw [if_pos trivial]) (Ev.now _)
  refine bind_ev (spec_good ss gs hs hg) ?_
  by_cases h1 : goodL ss gs = true
  · refine ite_t h1 ?_
    by_cases h2 : a < 0
    · exact ite_t h2 (no (by rw [if_neg (by omega)]))
    · refine ite_f h2 ?_
      by_cases h3 : a ≥ (ss.length : Int)
      · exact ite_t h3 (no (by rw [if_neg (by omega)]))
      · refine ite_f h3 ?_
        rw [spec_in]
        simp only [Option.bind_some]
        cases h4 : inB c 1 9 with
        | false => exact no (by rw [if_neg (by simp)])
        | true =>
          refine Ev.step (fun k => by simp only [spec_GuardAt.j0]; rw [if_neg (by simp)]) ?_
          refine bind_ev (spec_guard ss gs a c hg) ?_
          by_cases h5 : gI a c 0 gs < 0
          · exact ite_t h5 (some_ev (by rw [if_neg (by omega)]))
          · exact ite_f h5 (some_ev (by rw [if_pos ⟨h1, ⟨by omega, by omega⟩, rfl, by omega⟩]))
  · exact ite_f h1 (no (by rw [if_neg (fun z => h1 z.1)]))
theorem impl_gAt (ss : List S86) (gs : List S63) (a c : Int) (hs : ss.length ≤ 1048576) (hg : gs.length ≤ 1048576) : Ev (fun k => impl_GuardAt.f k ss gs a c) (gAt ss gs a c) := by
  unfold impl_GuardAt.f gAt
  refine bind_ev (impl_good ss gs hs hg) ?_
  rw [impl_in, impl_in, impl_guard, w64 (by omega) (by omega)]
  simp only [Option.bind_some]
  by_cases h1 : goodL ss gs = true
  · refine ite_t h1 ?_
    by_cases h2 : inB a 0 ((ss.length : Int) - 1) = true
    · refine ite_t h2 ?_
      have h2' := (inB_iff _ _ _).1 h2
      by_cases h4 : inB c 1 9 = true
      · refine ite_t h4 (some_ev ?_)
        by_cases h5 : gI a c 0 gs < 0
        · rw [if_neg (by omega), show decide (gI a c 0 gs ≥ 0) = false from decide_eq_false (by omega)]
          have := gI_ge a c 0 gs
          rw [show gI a c 0 gs = -1 by omega]
          rfl
        · rw [if_pos ⟨h1, ⟨by omega, by omega⟩, h4, by omega⟩, show decide (gI a c 0 gs ≥ 0) = true from decide_eq_true (by omega)]
          unfold mx
          rw [if_neg h5]
      · exact ite_f h4 (some_ev (by rw [if_neg (fun z => h4 z.2.2.1)]))
    · refine ite_f h2 (some_ev ?_)
      have h2' : ¬ (0 ≤ a ∧ a ≤ (ss.length : Int) - 1) := fun z => h2 ((inB_iff _ _ _).2 z)
      rw [if_neg (by omega)]
  · exact ite_f h1 (some_ev (by rw [if_neg (fun z => h1 z.1)]))
theorem FnExactGuardAt (y : S32) (hp : wf_S32 y) (a : Int) (_ : (Lit.int .i64 a).wf = true) (c : Int) (_ : (Lit.int .i64 c).wf = true) : ∃ k, laws_FnExactGuardAt.f k y.f0 y.f1 a c = some true := by
  refine Ev.rounds ?_
  obtain ⟨z, hz, hz2⟩ := szLined_ok y 1048576 (by omega) (by omega) hp
  unfold laws_FnExactGuardAt.f
  refine bind_ev hz ?_
  by_cases h : z < 0
  · exact ite_t h (Ev.now _)
  · have hl := (hz2 (by omega)).2
    have hs : (cv_S32 y).f0.length ≤ 1048576 := by simpa [cv_S32] using hl.1
    have hg : (cv_S32 y).f1.length ≤ 1048576 := by simpa [cv_S32] using hl.2
    have ht := toLined_ev y hl
    refine ite_f h (bind_ev ht (bind_ev (spec_gAt _ _ a c hs hg) (bind_ev ht (bind_ev (impl_gAt _ _ a c hs hg) ?_))))
    refine ite_t rfl (Ev.step (fun k => by simp only [laws_FnExactGuardAt.j0]; rw [if_neg (by simp)]) ?_)
    exact bind_ev ht (bind_ev (eqLined_ev _ ⟨hs, hg⟩) (ite_t rfl (Ev.now _)))
end Go.Proofs.Ytgjojppbichaiaa.Pure
