/- One call by a good cache, by the program and by the reference. Conditions: none. -/
import Derived.Test.YtjmgleomljfieaaPGc
import Derived.Test.YtjmgleomljfieaaQx0
import Derived.Test.YtjmgleomljfieaaQx4
import Derived.Test.YtjmgleomljfieaaQx5
import Derived.Test.YtjmgleomljfieaaQx6
import Derived.Test.YtjmgleomljfieaaQx7
import Derived.Test.YtjmgleomljfieaaQx9
set_option linter.unusedVariables false
set_option linter.unusedSimpArgs false
set_option linter.unusedSectionVars false
namespace Go.Proofs.Ytjmgleomljfieaa.Pure
open Go.RowKit Go.Proofs.Ytjmgleomljfieaa.Q Go.Proofs.YtjmgleomljfieaaW.PrintWords Go.Proofs.YtjmgleomljfieaaW.PrintLast Go.Proofs.Ytjmgleomljfieaa.Kit Go.Proofs.Ytjmgleomljfieaa.Wf

section
variable (ws : List S82) (wst : Int) (hg : goodW ws wst = true) (hb : ws.length ≤ 1048576) (hm : ∀ c ∈ ws, c.f1.length ≤ 1048576)
include hg hb hm
/-- One call by a good cache: what the reference answers, and the program's part behind its own tests. -/
theorem call_step (name state : Int) (ways : List S97) (stamp hits looks cl : Int) (hG : Ev (fun k => spec_GoodCache.f k ws wst name state ways stamp hits looks) true) (hn : inB name 0 4 = true) (hl : ways.length ≤ 4) :
    ∃ q, Ev (fun k => spec_CallBy.f k ws wst name state ways stamp hits looks cl) q ∧ (inB cl 0 (ws.length - 1) = false → q = zeroC) ∧
      (inB cl 0 (ws.length - 1) = true → ∃ t, Ev (fun k => impl_World_find.f k ws wst cl name) t ∧ (t = 0 → q = zeroC) ∧ (t ≠ 0 → Ev (fun k => impl_callBy.f k ws wst name state ways stamp hits looks cl) q)) ∧
      (q = zeroC ∨ (q.2.2.2.2.2.2.2 = true ∧ q.1 = name ∧ q.2.2.1.length ≤ 4 ∧ Ev (fun k => spec_GoodCache.f k ws wst q.1 q.2.1 q.2.2.1 q.2.2.2.1 q.2.2.2.2.1 q.2.2.2.2.2.1) true)) := by
  have hn' := (inB_iff _ _ _).1 hn
  unfold spec_CallBy.f
  simp only [spec_class, Option.bind_some]
  cases hc : inB cl 0 (ws.length - 1) with
  | false =>
    refine ⟨zeroC, ?_, fun _ => rfl, fun h => (by cases h), .inl rfl⟩
    refine bind_ev hG (ite_t rfl ?_)
    refine Ev.step (fun k => by simp only [spec_CallBy.j0]; rfl) ?_
    exact (ite_t rfl (Ev.now _))
  | true =>
    have hc' := (inB_iff _ _ _).1 hc
    obtain ⟨t, f1, f2⟩ := find_ev ws wst hg hb hm name cl hn'.1 hn'.2 (by omega) (by omega)
    have hs := spec_call ws wst name state ways stamp hits looks cl t hl
    obtain ⟨r, g1, g2, g3⟩ := cache_both ws wst (callOut wst name state ways stamp hits looks cl t).1 (callOut wst name state ways stamp hits looks cl t).2.1 (callOut wst name state ways stamp hits looks cl t).2.2.1 (callOut wst name state ways stamp hits looks cl t).2.2.2.1 (callOut wst name state ways stamp hits looks cl t).2.2.2.2.1 (callOut wst name state ways stamp hits looks cl t).2.2.2.2.2 hg hb hm (by have := callOut_len (wst := wst) (name := name) (state := state) (stamp := stamp) (hits := hits) (looks := looks) (cl := cl) (t := t) hl; omega)
    have hi := impl_call ws wst hg hb hm name state ways stamp hits looks cl t hl f2 r g2
    have pre : ∀ q, Ev (fun k => (spec_l12Find.f k ws wst cl name).bind fun t232 => ((spec_l12Call.f k ws wst name state ways stamp hits looks cl t232).bind fun bt233 => (if t232 = 0 then (some (0, 0, ([] : List (S97)), 0, 0, 0, 0, false)) else ((spec_GoodCache.f k ws wst bt233.1 bt233.2.1 bt233.2.2.1 bt233.2.2.2.1 bt233.2.2.2.2.1 bt233.2.2.2.2.2).bind fun t242 => (if t242 = true then (some (bt233.1, bt233.2.1, bt233.2.2.1, bt233.2.2.2.1, bt233.2.2.2.2.1, bt233.2.2.2.2.2, t232, true)) else (some (0, 0, ([] : List (S97)), 0, 0, 0, 0, false))))))) q →
        Ev (fun k => (spec_GoodCache.f k ws wst name state ways stamp hits looks).bind fun t230 => if t230 = true then spec_CallBy.j0 k cl (!true) ws wst name state ways stamp hits looks else spec_CallBy.j0 k cl true ws wst name state ways stamp hits looks) q := fun q h =>
      bind_ev hG (ite_t rfl (by
        refine Ev.step (fun k => by simp only [spec_CallBy.j0]; rfl) ?_
        exact ite_f (by simp) h))
    by_cases ht : t = 0
    · exact ⟨zeroC, pre _ (bind_ev f1 (bind_ev hs (ite_t ht (Ev.now _)))), fun h => (by cases h), fun _ => ⟨t, f2, fun _ => rfl, fun h => absurd ht h⟩, .inl rfl⟩
    · cases r with
      | false =>
        refine ⟨zeroC, pre _ (bind_ev f1 (bind_ev hs (ite_f ht (bind_ev g1 (ite_f (by simp) (Ev.now _)))))), fun h => (by cases h), fun _ => ⟨t, f2, fun h => absurd h ht, fun _ => ?_⟩, .inl rfl⟩
        simpa [zeroC] using hi
      | true =>
        have hl4 := (g3 rfl).2
        refine ⟨((callOut wst name state ways stamp hits looks cl t).1, (callOut wst name state ways stamp hits looks cl t).2.1, (callOut wst name state ways stamp hits looks cl t).2.2.1, (callOut wst name state ways stamp hits looks cl t).2.2.2.1, (callOut wst name state ways stamp hits looks cl t).2.2.2.2.1, (callOut wst name state ways stamp hits looks cl t).2.2.2.2.2, t, true), pre _ (bind_ev f1 (bind_ev hs (ite_f ht (bind_ev g1 (ite_t rfl (Ev.now _)))))), fun h => (by cases h), fun _ => ⟨t, f2, fun h => absurd h ht, fun _ => ?_⟩, .inr ⟨rfl, callOut_name, hl4, g1⟩⟩
        simpa using hi
end
end Go.Proofs.Ytjmgleomljfieaa.Pure
