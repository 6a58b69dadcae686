/- JumpsIn: the program and the reference answer alike. Conditions: none. -/
import Derived.Test.YtpnhlccdhflogaaPEdge
import Derived.Test.YtpnhlccdhflogaaQx0
import Derived.Test.YtpnhlccdhflogaaQx3
import Derived.Test.YtpnhlccdhflogaaQx4
set_option linter.unusedVariables false
set_option linter.unusedSimpArgs false
set_option linter.unusedSectionVars false
namespace Go.Proofs.Ytpnhlccdhflogaa.Pure
open Go.RowKit Go.Proofs.Ytpnhlccdhflogaa.Q Go.Proofs.YtpnhlccdhflogaaW.PrintWords Go.Proofs.YtpnhlccdhflogaaW.PrintLast Go.Proofs.Ytpnhlccdhflogaa.Kit Go.Proofs.Ytpnhlccdhflogaa.Wf

theorem jump_l0 (es : List S48) (hc : es.length ≤ 20) (he : ∀ e ∈ es, 0 ≤ e.f2 ∧ e.f2 ≤ 100000) : ∀ (post pre : List S48), es = pre ++ post → ∀ a : Int, -2000000 ≤ a → a ≤ 100000 * pre.length →
    Ev (fun k => impl_JumpsIn.l0 k a es (es.length : Int) (pre.length : Int)) (a + sumAll post, true)
  | [], pre, h, a, a0, a1 => by
    have : es.length = pre.length := by rw [h]; simp
    refine Ev.step (fun k => by simp only [impl_JumpsIn.l0]; rw [if_neg (by omega)]) ?_
    exact some_ev (by simp [sumAll])
  | x :: post, pre, h, a, a0, a1 => by
    have hn : es.length = pre.length + (post.length + 1) := by rw [h]; simp
    have hrd : rd_T48 es (pre.length : Int) = x := by rw [h]; exact rdat_T48 rfl
    have hx := he x (by rw [h]; simp)
    have i1 := jump_l0 es hc he post (pre ++ [x]) (by simp [h]) (a + x.f2) (by omega) (by simp; omega)
    have e2 : (((pre ++ [x]).length : Nat) : Int) = ((pre.length + 1 : Nat) : Int) := by simp
    rw [e2] at i1
    refine Ev.step (fun k => by simp only [impl_JumpsIn.l0]; rw [if_pos (by omega), if_pos (by omega), if_pos (by omega), hrd, w_succ (by omega), w64 (x := a + x.f2) (by omega) (by omega)]) ?_
    simp only [sumAll]
    rw [← Int.add_assoc]
    exact i1
theorem jumps_both (n : Int) (es : List S48) (l : List Int) (hb : es.length ≤ 1048576) (hl : l.length ≤ 1048576) : ∃ q, Ev (fun k => spec_JumpsIn.f k n es l) q ∧ Ev (fun k => impl_JumpsIn.f k n es l) q := by
  have h1 := spec_edges n es hb
  have h2 := spec_lay n l hl
  have h3 := impl_lay n l hl
  have jt : Ev (fun k => impl_JumpsIn.j0 k es l true) (0, false) := by
    refine Ev.step (fun k => by simp only [impl_JumpsIn.j0]; rfl) ?_
    exact ite_t (by trivial) (Ev.now _)
  unfold spec_JumpsIn.f impl_JumpsIn.f
  rw [impl_edges]
  simp only [Option.bind_some]
  cases hg : goodE n es with
  | false =>
    rw [hg] at h1
    exact ⟨(0, false), bind_ev h1 (ite_f (by simp) (Ev.now _)), ite_f (by simp) jt⟩
  | true =>
    rw [hg] at h1
    cases hy : layB n l with
    | false =>
      rw [hy] at h2 h3
      exact ⟨(0, false), bind_ev h1 (ite_t rfl (bind_ev h2 (ite_f (by simp) (Ev.now _)))), ite_t rfl (bind_ev h3 jt)⟩
    | true =>
      rw [hy] at h2 h3
      have ok := layOk hy
      have he := goodE_ok hg
      have hc : ∀ e ∈ es, 0 ≤ e.f2 ∧ e.f2 ≤ 100000 := fun e h => ⟨(he.2 e h).c0, (he.2 e h).c1⟩
      have s1 := spec_str l es hl (by have := ok.len; have := ok.lo; omega) he.1 hc
      have s2 := impl_str n l ok es he.1 he.2
      have hs := sums l es
      have hd := sum_bd l es hc
      have he1 := he.1
      have s3 := jump_l0 es he.1 hc es [] rfl (-sumOn l es) (by omega) (by simp; omega)
      refine ⟨(sumOff l es, true), bind_ev h1 (ite_t rfl (bind_ev h2 (ite_t rfl (bind_ev s1 (Ev.now _))))), ite_t rfl (bind_ev h3 ?_)⟩
      refine Ev.step (fun k => by simp only [impl_JumpsIn.j0]; rfl) ?_
      refine ite_f (by simp) (bind_ev s2 ?_)
      rw [w64 (x := -sumOn l es) (by omega) (by omega)]
      have e : -sumOn l es + sumAll es = sumOff l es := by omega
      rw [e] at s3
      simpa using s3
theorem FnExactJumpsIn (a : Int) (_ : (Lit.int .i64 a).wf = true) (x : List S77) (hx : x.length ≤ maxLen ∧ ∀ y ∈ x, wf_S77 y) (l : List Int) (hq : l.length ≤ maxLen ∧ ∀ x ∈ l, (fun x : Int => (Lit.int .i64 x).wf = true) x) : ∃ k, laws_FnExactJumpsIn.f k a x l = some true := by
  refine Ev.rounds ?_
  unfold laws_FnExactJumpsIn.f
  by_cases hl : (l.length : Int) > 1048576
  · exact ite_t hl (Ev.now _)
  refine ite_f hl ?_
  obtain ⟨z, hz, hz2⟩ := szEdgeS_ok x 1048576 (by omega) (by omega) hx.1
  refine bind_ev hz ?_
  by_cases h : z < 0
  · exact ite_t h (Ev.now _)
  have hb := (hz2 (by omega)).2
  have ht := toEdgeS_ev x hb
  have hi := toIntS_ev l (by omega)
  obtain ⟨q, q1, q2⟩ := jumps_both a (x.map cv_S77) l (by simpa using hb) (by omega)
  refine ite_f h (bind_ev ht (bind_ev hi (bind_ev q1 (bind_ev ht (bind_ev hi (bind_ev q2 (ite_t rfl ?_)))))))
  rw [show (q.2 != q.2) = false by simp]
  refine Ev.step (fun k => by simp only [laws_FnExactJumpsIn.j0]; rfl) ?_
  refine ite_f (by simp) (bind_ev ht (bind_ev (eqEdgeS_ev _ (by simpa using hb)) (ite_t rfl (bind_ev hi (bind_ev (eqIntS_ev l (by omega)) (ite_t rfl (Ev.now _)))))))
end Go.Proofs.Ytpnhlccdhflogaa.Pure
