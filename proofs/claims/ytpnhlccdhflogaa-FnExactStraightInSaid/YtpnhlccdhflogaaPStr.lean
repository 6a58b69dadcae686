/- StraightIn: the program and the reference answer alike. Conditions: none. -/
import Derived.Test.YtpnhlccdhflogaaPEdge
import Derived.Test.YtpnhlccdhflogaaQx0
import Derived.Test.YtpnhlccdhflogaaQx3
import Derived.Test.YtpnhlccdhflogaaQx5
set_option linter.unusedVariables false
set_option linter.unusedSimpArgs false
set_option linter.unusedSectionVars false
namespace Go.Proofs.Ytpnhlccdhflogaa.Pure
open Go.RowKit Go.Proofs.Ytpnhlccdhflogaa.Q Go.Proofs.YtpnhlccdhflogaaW.PrintWords Go.Proofs.YtpnhlccdhflogaaW.PrintLast Go.Proofs.Ytpnhlccdhflogaa.Kit Go.Proofs.Ytpnhlccdhflogaa.Wf

theorem straight_both (n : Int) (es : List S48) (l : List Int) (hb : es.length ≤ 1048576) (hl : l.length ≤ 1048576) : ∃ q, Ev (fun k => spec_StraightIn.f k n es l) q ∧ Ev (fun k => impl_StraightIn.f k n es l) q := by
  have h1 := spec_edges n es hb
  have h2 := spec_lay n l hl
  have h3 := impl_lay n l hl
  unfold spec_StraightIn.f impl_StraightIn.f
  rw [impl_edges]
  simp only [Option.bind_some]
  cases hg : goodE n es with
  | false =>
    rw [hg] at h1
    exact ⟨(0, false), bind_ev h1 (ite_f (by simp) (Ev.now _)), ite_f (by simp) (Ev.now _)⟩
  | true =>
    rw [hg] at h1
    cases hy : layB n l with
    | false =>
      rw [hy] at h2 h3
      exact ⟨(0, false), bind_ev h1 (ite_t rfl (bind_ev h2 (ite_f (by simp) (Ev.now _)))), ite_t rfl (bind_ev h3 (ite_f (by simp) (Ev.now _)))⟩
    | true =>
      rw [hy] at h2 h3
      have ok := layOk hy
      have he := goodE_ok hg
      have s1 := spec_str l es hl (by have := ok.len; have := ok.lo; omega) he.1 (fun e h => ⟨(he.2 e h).c0, (he.2 e h).c1⟩)
      have s2 := impl_str n l ok es he.1 he.2
      exact ⟨(sumOn l es, true), bind_ev h1 (ite_t rfl (bind_ev h2 (ite_t rfl (bind_ev s1 (Ev.now _))))), ite_t rfl (bind_ev h3 (ite_t rfl (bind_ev s2 (Ev.now _))))⟩
theorem FnExactStraightIn (a : Int) (_ : (Lit.int .i64 a).wf = true) (x : List S77) (hx : x.length ≤ maxLen ∧ ∀ y ∈ x, wf_S77 y) (l : List Int) (hq : l.length ≤ maxLen ∧ ∀ x ∈ l, (fun x : Int => (Lit.int .i64 x).wf = true) x) : ∃ k, laws_FnExactStraightIn.f k a x l = some true := by
  refine Ev.rounds ?_
  unfold laws_FnExactStraightIn.f
  by_cases hl : (l.length : Int) > 1048576
  · exact ite_t hl (Ev.now _)
  refine ite_f hl ?_
  obtain ⟨z, hz, hz2⟩ := szEdgeS_ok x 1048576 (by omega) (by omega) hx.1
  refine bind_ev hz ?_
  by_cases h : z < 0
  · exact ite_t h (Ev.now _)
  have hb := (hz2 (by omega)).2
  have ht := toEdgeS_ev x hb
  have hi := toIntS_ev l (by omega)
  obtain ⟨q, q1, q2⟩ := straight_both a (x.map cv_S77) l (by simpa using hb) (by omega)
  refine ite_f h (bind_ev ht (bind_ev hi (bind_ev q1 (bind_ev ht (bind_ev hi (bind_ev q2 (ite_t rfl ?_)))))))
  rw [show (q.2 != q.2) = false by simp]
  refine Ev.step (fun k => by simp only [laws_FnExactStraightIn.j0]; rfl) ?_
  refine ite_f (by simp) (bind_ev ht (bind_ev (eqEdgeS_ev _ (by simpa using hb)) (ite_t rfl (bind_ev hi (bind_ev (eqIntS_ev l (by omega)) (ite_t rfl (Ev.now _)))))))
end Go.Proofs.Ytpnhlccdhflogaa.Pure
