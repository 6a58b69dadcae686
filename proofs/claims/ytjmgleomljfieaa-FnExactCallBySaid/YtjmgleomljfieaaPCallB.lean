/- CallBy, by the program and by the reference. Conditions: none. -/
import Derived.Test.YtjmgleomljfieaaPCs
import Derived.Test.YtjmgleomljfieaaQx0
import Derived.Test.YtjmgleomljfieaaQx5
import Derived.Test.YtjmgleomljfieaaQx6
import Derived.Test.YtjmgleomljfieaaQx9
set_option linter.unusedVariables false
set_option linter.unusedSimpArgs false
set_option linter.unusedSectionVars false
namespace Go.Proofs.Ytjmgleomljfieaa.Pure
open Go.RowKit Go.Proofs.Ytjmgleomljfieaa.Q Go.Proofs.YtjmgleomljfieaaW.PrintWords Go.Proofs.YtjmgleomljfieaaW.PrintLast Go.Proofs.Ytjmgleomljfieaa.Kit Go.Proofs.Ytjmgleomljfieaa.Wf

theorem callBy_both (ws : List S82) (wst name state : Int) (ways : List S97) (stamp hits looks cl : Int) (hb : ws.length ≤ 1048576) (hm : ∀ c ∈ ws, c.f1.length ≤ 1048576) (hl : ways.length ≤ 1048576) :
    ∃ q, Ev (fun k => spec_CallBy.f k ws wst name state ways stamp hits looks cl) q ∧ Ev (fun k => impl_CallBy.f k ws wst name state ways stamp hits looks cl) q ∧ q.2.2.1.length ≤ 4 := by
  have h1 := spec_world ws wst hb hm
  have h2 := impl_world ws wst hb
  have hz0 : Ev (fun k => spec_CallBy.j0 k cl true ws wst name state ways stamp hits looks) zeroC := by
    refine Ev.step (fun k => by simp only [spec_CallBy.j0]; rfl) ?_
    exact ite_t (by trivial) (Ev.now _)
  cases hg : goodW ws wst with
  | false =>
    rw [hg] at h1 h2
    have hs : Ev (fun k => spec_GoodCache.f k ws wst name state ways stamp hits looks) false := by
      unfold spec_GoodCache.f
      refine bind_ev h1 (ite_f (by simp) ?_)
      refine Ev.step (fun k => by simp only [spec_GoodCache.j0]; rfl) ?_
      exact ite_t (by trivial) (Ev.now _)
    refine ⟨zeroC, ?_, ?_, by simp [zeroC]⟩
    · unfold spec_CallBy.f
      exact bind_ev hs (ite_f (by simp) hz0)
    · unfold impl_CallBy.f
      exact bind_ev h2 (ite_f (by simp) (Ev.now _))
  | true =>
    rw [hg] at h2
    obtain ⟨r, g1, g2, g3⟩ := cache_both ws wst name state ways stamp hits looks hg hb hm hl
    cases r with
    | false =>
      refine ⟨zeroC, ?_, ?_, by simp [zeroC]⟩
      · unfold spec_CallBy.f
        exact bind_ev g1 (ite_f (by simp) hz0)
      · unfold impl_CallBy.f
        exact bind_ev h2 (ite_t rfl (bind_ev g2 (ite_f (by simp) (Ev.now _))))
    | true =>
      have hn := (g3 rfl).1
      obtain ⟨q, q1, q2, q3, q4⟩ := call_step ws wst hg hb hm name state ways stamp hits looks cl g1 hn (g3 rfl).2
      refine ⟨q, q1, ?_, by rcases q4 with rfl | h; exact (by simp [zeroC]); exact h.2.2.1⟩
      unfold impl_CallBy.f
      refine bind_ev h2 (ite_t rfl (bind_ev g2 (ite_t rfl ?_)))
      rw [w64 (x := (ws.length : Int) - 1) (by omega) (by omega), impl_in]
      simp only [Option.bind_some]
      cases hc : inB cl 0 (ws.length - 1) with
      | false =>
        rw [q2 hc]
        exact ite_f (by simp) (Ev.now _)
      | true =>
        obtain ⟨t, t1, t2, t3⟩ := q3 hc
        refine ite_t rfl (bind_ev t1 ?_)
        by_cases ht : t = 0
        · rw [t2 ht]
          exact ite_t ht (Ev.now _)
        · exact ite_f ht (bind_ev (t3 ht) (Ev.now _))
end Go.Proofs.Ytjmgleomljfieaa.Pure
