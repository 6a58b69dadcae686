/- PlayCalls: the program and the reference answer alike, and what comes back is held as it was marked. Conditions: none. -/
import Derived.Test.YtjmgleomljfieaaGoodFnExactPlayCalls
import Derived.Test.YtjmgleomljfieaaPPlayB
import Derived.Test.YtjmgleomljfieaaPMw
set_option linter.unusedVariables false
set_option linter.unusedSimpArgs false
set_option linter.unusedSectionVars false
namespace Go.Proofs.Ytjmgleomljfieaa.Pure
open Go.RowKit Go.Proofs.Ytjmgleomljfieaa.Q Go.Proofs.YtjmgleomljfieaaW.PrintWords Go.Proofs.YtjmgleomljfieaaW.PrintLast Go.Proofs.Ytjmgleomljfieaa.Kit Go.Proofs.Ytjmgleomljfieaa.Wf

theorem FnExactPlayCalls (y : S24) (hp : wf_S24 y) (a : Int) (_ : (Lit.int .i64 a).wf = true) (l : List Int) (hq : l.length ≤ maxLen ∧ ∀ x ∈ l, (fun x : Int => (Lit.int .i64 x).wf = true) x) : ∃ k, laws_FnExactPlayCalls.f k y.f0 y.f1 a l = some true := by
  unfold laws_FnExactPlayCalls.f
  by_cases hl1 : 1048576 < (l.length : Int)
  · exact ⟨0, if_pos (.inl hl1)⟩
  obtain ⟨z, ⟨k1, hz⟩, hz2⟩ := szWorld_ok y 1048576 (by omega) (by omega) hp
  by_cases h : z < 0
  · exact ⟨k1, if_pos (.inr ⟨hl1, z, hz k1 (Nat.le_refl _), .inl h⟩)⟩
  · have hl := (hz2 (by omega)).2
    have hl2 := cv_lens y hl
    obtain ⟨k2, ht⟩ := toWorld_ev y hl
    obtain ⟨k3, hi⟩ := toIntS_ev l (by omega)
    obtain ⟨⟨n, s, w, st, hh, lk, o, ok⟩, ⟨k4, h1⟩, ⟨k5, h2⟩, h3, h4⟩ := play_both (cv_S24 y).f0 (cv_S24 y).f1 a l hl2.1 hl2.2
    simp only at h3 h4
    obtain ⟨k6, he⟩ := eqWorld_ev _ (cv_bd y hl)
    obtain ⟨k7, hf⟩ := eqIntS_ev l (by omega)
    obtain ⟨k8, hc⟩ := eqCache_t n s w st hh lk (by omega)
    obtain ⟨k9, ho⟩ := eqIntS_ev o (by omega)
    have hcn := cntClass_le _ hl2.2
    have hc2 : (1 + (markClassS_cnt (cv_S24 y).f0 : Nat) : Int) < 2305843009213693952 := by
      have := hl2.1
      omega
    obtain ⟨k10, m1⟩ := markIntS_flat l (1 + (markClassS_cnt (cv_S24 y).f0 : Nat) : Int) (by omega) (by omega) hc2
    obtain ⟨k11, m2⟩ := markCache_ev n s w st hh lk (by omega)
    obtain ⟨k12, m3⟩ := markIntS_flat o (1 + 2 * (w.length : Nat)) (by omega) (by omega) (by omega)
    obtain ⟨k13, g1⟩ := heldCache_ev n s w st hh lk (by omega)
    obtain ⟨k14, g2⟩ := heldIntS_ev o.length (1 + 2 * (w.length : Nat)) (by omega) (by omega) (by omega)
    generalize hk : k1 + k2 + k3 + k4 + k5 + k6 + k7 + k8 + k9 + k10 + k11 + k12 + k13 + k14 = k
    exact ⟨k, if_pos (.inr ⟨hl1, z, hz k (by omega), .inr ⟨h, _, _, ht k (by omega), _, hi k (by omega), _, _, _, _, _, _, _, _, h1 k (by omega), _, _, ht k (by omega), _, hi k (by omega), _, _, _, _, _, _, _, h2 k (by omega), hc k (by omega), ho k (by omega),
      _, _, ht k (by omega), he k (by omega), _, hi k (by omega), hf k (by omega), hc2, _, _, m1 k (by omega), by omega, hc k (by omega), ho k (by omega), _, _, m2 k (by omega), by omega, _, _, m3 k (by omega), by omega, g1 k (by omega), g2 k (by omega),
      _, _, ht k (by omega), _, hi k (by omega), _, _, _, _, _, _, _, h2 k (by omega), hc k (by omega), ho k (by omega), g1 k (by omega), g2 k (by omega), trivial⟩⟩)⟩
end Go.Proofs.Ytjmgleomljfieaa.Pure
