/- The guard that takes a code at a step: the program and the reference find the same. Conditions: none. -/
import Derived.Test.YtgjojppbichaiaaPL
import Derived.Test.YtgjojppbichaiaaQx0
import Derived.Test.YtgjojppbichaiaaQx1
import Derived.Test.YtgjojppbichaiaaQx2
import Derived.Test.YtgjojppbichaiaaQx3
set_option linter.unusedVariables false
set_option linter.unusedSimpArgs false
namespace Go.Proofs.Ytgjojppbichaiaa.Pure
open Go.RowKit Go.Proofs.Ytgjojppbichaiaa.Q Go.Proofs.YtgjojppbichaiaaW.PrintWords Go.Proofs.YtgjojppbichaiaaW.PrintLast Go.Proofs.Ytgjojppbichaiaa.Kit Go.Proofs.Ytgjojppbichaiaa.Wf
/-- Is the guard there for a step and a code? -/
def hits (a c : Int) (g : S63) : Bool := decide (a ≥ g.f0) && decide (a < g.f1) && (decide (g.f2 = 0) || decide (g.f2 = c))
def gI (a c : Int) : Nat → List S63 → Int
  | _, [] => -1
  | i, g :: gs => if hits a c g = true then (i : Int) else gI a c (i + 1) gs
theorem gI_ge (a c : Int) : ∀ (i : Nat) (gs : List S63), -1 ≤ gI a c i gs
  | _, [] => by simp [gI]
  | i, g :: gs => by
    have := gI_ge a c (i + 1) gs
    unfold gI
    split <;> omega
theorem spec_guard_l0 (a c : Int) : ∀ (post pre : List S63), pre.length + post.length ≤ 1048576 →
    Ev (fun k => spec_l16Guard.l0 k a c (pre ++ post) ((pre ++ post).length : Int) (pre.length : Int)) (gI a c pre.length post)
  | [], pre, hb => by
    refine Ev.step (fun k => by simp only [spec_l16Guard.l0]; rw [if_neg (by simp)]) ?_
    exact some_ev rfl
  | g :: post, pre, hb => by
    simp at hb
    refine Ev.step (fun k => by
      simp only [spec_l16Guard.l0]
      rw [if_pos (by simp; omega), if_pos (by omega), if_pos (by simp; omega), rdl_T63 rfl, w_succ (by omega)]) ?_
    have ih : hits a c g = false → Ev (fun k => spec_l16Guard.l0 k a c (pre ++ g :: post) ((pre ++ g :: post).length : Int) ((pre.length + 1 : Nat) : Int)) (gI a c pre.length (g :: post)) := by
      intro e
      have := spec_guard_l0 a c post (pre ++ [g]) (by simp; omega)
      simpa [gI, e] using this
    by_cases h1 : a ≥ g.f0
    · refine ite_t h1 ?_
      by_cases h2 : a < g.f1
      · refine ite_t h2 ?_
        by_cases h3 : g.f2 = 0
        · exact ite_t h3 (some_ev (by simp [gI, hits, h1, h2, h3]))
        · refine ite_f h3 ?_
          by_cases h4 : g.f2 = c
          · exact ite_t h4 (some_ev (by unfold gI; rw [if_pos (by simp [hits, h1, h2, h4])]))
          · exact ite_f h4 (ih (by simp [hits, h3, h4]))
      · exact ite_f h2 (ih (by simp [hits, h2]))
    · exact ite_f h1 (ih (by simp [hits, h1]))
theorem spec_guard (ss : List S86) (gs : List S63) (a c : Int) (hg : gs.length ≤ 1048576) : Ev (fun k => spec_l16Guard.f k ss gs a c) (gI a c 0 gs) := by
  unfold spec_l16Guard.f
  simpa using spec_guard_l0 a c gs [] (by simpa using hg)
theorem idx_guard (a c : Int) : ∀ (gs : List S63) (i : Nat), Kit.idxO (fun x : S63 => impl_guardAt_1.f x.f0 x.f1 x.f2 x.f3 a c) gs i = some (gI a c i gs)
  | [], i => rfl
  | g :: gs, i => by
    have e : impl_guardAt_1.f g.f0 g.f1 g.f2 g.f3 a c = some (hits a c g) := by
      unfold impl_guardAt_1.f hits
      by_cases h1 : a ≥ g.f0
      · rw [if_pos h1]
        by_cases h2 : a < g.f1
        · rw [if_pos h2]
          by_cases h3 : g.f2 = 0
          · rw [if_pos h3]; simp [h1, h2, h3]
          · rw [if_neg h3]; simp [h1, h2, h3]
            by_cases h4 : g.f2 = c <;> simp [h4]
        · rw [if_neg h2]; simp [h2]
      · rw [if_neg h1]; simp [h1]
    simp only [Kit.idxO, gI]
    rw [e]
    simp only [Option.bind_some]
    cases hits a c g
    · simpa using idx_guard a c gs (i + 1)
    · simp
theorem impl_guard (ss : List S86) (gs : List S63) (a c : Int) : impl_guardAt.f ss gs a c = some (gI a c 0 gs) := by
  unfold impl_guardAt.f impl_Guard_84_85.f
  rw [idx_guard]; rfl
end Go.Proofs.Ytgjojppbichaiaa.Pure
