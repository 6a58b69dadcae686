/- CallBy: the program and the reference answer alike, and what comes back is held as it was marked. Conditions: none. -/
import Derived.Test.YtjmgleomljfieaaGoodFnExactCallBy
import Derived.Test.YtjmgleomljfieaaPCallB
import Derived.Test.YtjmgleomljfieaaPMw
set_option linter.unusedVariables false
set_option linter.unusedSimpArgs false
set_option linter.unusedSectionVars false
namespace Go.Proofs.Ytjmgleomljfieaa.Pure
open Go.RowKit Go.Proofs.Ytjmgleomljfieaa.Q Go.Proofs.YtjmgleomljfieaaW.PrintWords Go.Proofs.YtjmgleomljfieaaW.PrintLast Go.Proofs.Ytjmgleomljfieaa.Kit Go.Proofs.Ytjmgleomljfieaa.Wf

theorem markCache_evn (a b : Int) (l : List S97) (c d e : Int) (n : Int) (hb : l.length ≤ 1048576) (h0 : 0 ≤ n) (hn : n < 1152921504606846976) : Ev (fun k => laws_markCache.f k a b l c d e n) (n + 2 * (l.length : Nat), mkW n l) := by
  have h := markWayS_l0 l [] n (by simpa using hb) (by omega) (by omega)
  unfold laws_markCache.f laws_markWayS.f
  exact bind_ev (by simpa using h) (Ev.now _)
theorem FnExactCallBy (y : S24) (hp : wf_S24 y) (x : S52) (hq : wf_S52 x) (a : Int) (_ : (Lit.int .i64 a).wf = true) : ∃ k, laws_FnExactCallBy.f k y.f0 y.f1 x.f0 x.f1 x.f2 x.f3 x.f4 x.f5 a = some true := by
  obtain ⟨z, ⟨k1, hz⟩, hz2⟩ := szWorld_ok y 1048576 (by omega) (by omega) hp
  unfold laws_FnExactCallBy.f
  by_cases h : z < 0
  · exact ⟨k1, if_pos ⟨z, hz k1 (Nat.le_refl _), .inl h⟩⟩
  · have hl := hz2 (by omega)
    obtain ⟨u, ⟨k2, hu⟩, hu2⟩ := szCache_ok x z (by omega) (by omega) hq
    by_cases g : u < 0
    · generalize hk : k1 + k2 = k
      exact ⟨k, if_pos ⟨z, hz k (by omega), .inr ⟨h, u, hu k (by omega), .inl g⟩⟩⟩
    · have hc := (hu2 (by omega)).2
      have hl2 := cv_lens y hl.2
      obtain ⟨k3, ht⟩ := toWorld_ev y hl.2
      obtain ⟨k4, hc2⟩ := toCache_ev x hc
      have hcb : bd_S44 (cv_S52 x) := by
        simp only [bd_S52] at hc
        simp only [bd_S44, cv_S52, List.length_map]
        exact hc
      have hwl : (cv_S52 x).f2.length ≤ 1048576 := by
        simp only [bd_S44] at hcb
        first | exact hcb.2.2.1.1 | exact hcb.2.2.1 | exact hcb.2.2
      obtain ⟨⟨n, s, w, st, hh, lk, o, ok⟩, ⟨k5, i1⟩, ⟨k6, i2⟩, h4⟩ := callBy_both (cv_S24 y).f0 (cv_S24 y).f1 (cv_S52 x).f0 (cv_S52 x).f1 (cv_S52 x).f2 (cv_S52 x).f3 (cv_S52 x).f4 (cv_S52 x).f5 a hl2.1 hl2.2 hwl
      simp only at h4
      obtain ⟨k7, he⟩ := eqWorld_ev _ (cv_bd y hl.2)
      obtain ⟨k8, hf⟩ := eqCache_ev _ hcb
      obtain ⟨k9, hr⟩ := eqCache_t n s w st hh lk (by omega)
      have hcn := cntClass_le _ hl2.2
      have hcn2 : (1 + (markClassS_cnt (cv_S24 y).f0 : Nat) : Int) < 2305843009213693952 := by
        have := hl2.1
        omega
      have hcn3 : (1 + (markClassS_cnt (cv_S24 y).f0 : Nat) : Int) < 1152921504606846976 := by
        have := hl2.1
        omega
      obtain ⟨k10, m1⟩ := markCache_evn (cv_S52 x).f0 (cv_S52 x).f1 (cv_S52 x).f2 (cv_S52 x).f3 (cv_S52 x).f4 (cv_S52 x).f5 (1 + (markClassS_cnt (cv_S24 y).f0 : Nat) : Int) hwl (by omega) hcn3
      obtain ⟨k11, m2⟩ := markCache_ev n s w st hh lk (by omega)
      obtain ⟨k12, m3⟩ := heldCache_ev n s w st hh lk (by omega)
      generalize hk : k1 + k2 + k3 + k4 + k5 + k6 + k7 + k8 + k9 + k10 + k11 + k12 = k
      exact ⟨k, if_pos ⟨z, hz k (by omega), .inr ⟨h, u, hu k (by omega), .inr ⟨g, _, _, ht k (by omega), _, _, _, _, _, _, hc2 k (by omega), _, _, _, _, _, _, _, _, i1 k (by omega), _, _, ht k (by omega), _, _, _, _, _, _, hc2 k (by omega), _, _, _, _, _, _, i2 k (by omega), hr k (by omega),
        _, _, ht k (by omega), he k (by omega), _, _, _, _, _, _, hc2 k (by omega), hf k (by omega), hcn2, _, _, m1 k (by omega), by omega, hr k (by omega), _, _, m2 k (by omega), by omega, m3 k (by omega),
        _, _, ht k (by omega), _, _, _, _, _, _, hc2 k (by omega), _, _, _, _, _, _, i2 k (by omega), hr k (by omega), m3 k (by omega), trivial⟩⟩⟩⟩
end Go.Proofs.Ytjmgleomljfieaa.Pure
