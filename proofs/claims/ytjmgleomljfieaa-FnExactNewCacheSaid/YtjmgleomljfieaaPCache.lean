/- NewCache: the program and the reference make the same cache. Conditions: none. -/
import Derived.Test.YtjmgleomljfieaaGoodFnExactNewCache
import Derived.Test.YtjmgleomljfieaaPW0
set_option linter.unusedVariables false
set_option linter.unusedSimpArgs false
namespace Go.Proofs.Ytjmgleomljfieaa.Pure
open Go.RowKit Go.Proofs.Ytjmgleomljfieaa.Q Go.Proofs.YtjmgleomljfieaaW.PrintWords Go.Proofs.YtjmgleomljfieaaW.PrintLast Go.Proofs.Ytjmgleomljfieaa.Kit Go.Proofs.Ytjmgleomljfieaa.Wf

theorem cntClass_le : ∀ (l : List S82), (∀ c ∈ l, c.f1.length ≤ 1048576) → markClassS_cnt l ≤ l.length * 1048577
  | [], _ => by simp [markClassS_cnt]
  | x :: xs, h => by
    have ih := cntClass_le xs (fun c hc => h c (List.mem_cons_of_mem _ hc))
    have h1 := h x (by simp)
    simp only [markClassS_cnt, markClassS_cnt1, List.length_cons]
    omega
theorem eqCache_nil (n s : Int) : Ev (fun k => laws_eqCache.f k n 0 [] s 0 0 n 0 [] s 0 0) true :=
  ⟨3, fun k hk => by obtain ⟨m, rfl⟩ : ∃ m, k = m + 3 := ⟨k - 3, by omega⟩; simp [laws_eqCache.f, laws_eqWayS.f, laws_eqWayS.l0]⟩
theorem markCache_nil (n s : Int) : Ev (fun k => laws_markCache.f k n 0 [] s 0 0 1) (1, []) :=
  ⟨3, fun k hk => by obtain ⟨m, rfl⟩ : ∃ m, k = m + 3 := ⟨k - 3, by omega⟩; simp [laws_markCache.f, laws_markWayS.f, laws_markWayS.l0]⟩
theorem heldCache_nil (n s : Int) : Ev (fun k => laws_heldCache.f k n 0 [] s 0 0 1) 1 :=
  ⟨3, fun k hk => by obtain ⟨m, rfl⟩ : ∃ m, k = m + 3 := ⟨k - 3, by omega⟩; simp [laws_heldCache.f, laws_heldWayS.f, laws_heldWayS.l0]⟩
theorem newCache_both (ws : List S82) (st a : Int) (hb : ws.length ≤ 1048576) (hm : ∀ c ∈ ws, c.f1.length ≤ 1048576) :
    ∃ n s o, Ev (fun k => spec_NewCache.f k ws st a) (n, 0, [], s, 0, 0, o) ∧ Ev (fun k => impl_NewCache.f k ws st a) (n, 0, [], s, 0, 0, o) := by
  have hs := spec_world ws st hb hm
  have hi := impl_world ws st hb
  by_cases h : goodW ws st = true ∧ inB a 0 4 = true
  · refine ⟨a, st, true, ?_, ?_⟩
    · unfold spec_NewCache.f
      refine bind_ev hs (ite_t h.1 ?_)
      unfold spec_l12Name.f
      rw [spec_in, h.2]
      exact Ev.now _
    · unfold impl_NewCache.f
      refine bind_ev hi (ite_t h.1 ?_)
      rw [impl_in, h.2]
      exact Ev.now _
  · refine ⟨0, 0, false, ?_, ?_⟩
    · unfold spec_NewCache.f
      refine bind_ev hs ?_
      by_cases g : goodW ws st = true
      · refine ite_t g ?_
        unfold spec_l12Name.f
        rw [spec_in, Bool.eq_false_iff.mpr (fun hn => h ⟨g, hn⟩)]
        exact Ev.now _
      · exact ite_f g (Ev.now _)
    · unfold impl_NewCache.f
      refine bind_ev hi ?_
      by_cases g : goodW ws st = true
      · refine ite_t g ?_
        rw [impl_in, Bool.eq_false_iff.mpr (fun hn => h ⟨g, hn⟩)]
        exact Ev.now _
      · exact ite_f g (Ev.now _)

theorem FnExactNewCache (y : S24) (hp : wf_S24 y) (a : Int) (_ : (Lit.int .i64 a).wf = true) : ∃ k, laws_FnExactNewCache.f k y.f0 y.f1 a = some true := by
  obtain ⟨z, ⟨k1, hz⟩, hz2⟩ := szWorld_ok y 1048576 (by omega) (by omega) hp
  unfold laws_FnExactNewCache.f
  by_cases h : z < 0
  · exact ⟨k1, if_pos ⟨z, hz k1 (Nat.le_refl _), .inl h⟩⟩
  · have hl := (hz2 (by omega)).2
    have hl2 := cv_lens y hl
    obtain ⟨k2, ht⟩ := toWorld_ev y hl
    obtain ⟨n, s, o, ⟨k3, h1⟩, ⟨k4, h2⟩⟩ := newCache_both (cv_S24 y).f0 (cv_S24 y).f1 a hl2.1 hl2.2
    obtain ⟨k5, he⟩ := eqWorld_ev _ (cv_bd y hl)
    obtain ⟨k6, hq⟩ := eqCache_nil n s
    obtain ⟨k7, hm⟩ := markCache_nil n s
    obtain ⟨k8, hh⟩ := heldCache_nil n s
    have hc := cntClass_le _ hl2.2
    have hc2 : (1 + (markClassS_cnt (cv_S24 y).f0 : Nat) : Int) < 2305843009213693952 := by
      have := hl2.1
      omega
    generalize hk : k1 + k2 + k3 + k4 + k5 + k6 + k7 + k8 = k
    exact ⟨k, if_pos ⟨z, hz k (by omega), .inr ⟨h, _, _, ht k (by omega), _, _, _, _, _, _, _, h1 k (by omega), _, _, ht k (by omega), _, _, _, _, _, _, h2 k (by omega), hq k (by omega), _, _, ht k (by omega), he k (by omega), hc2, hq k (by omega),
      _, _, hm k (by omega), by omega, hh k (by omega), _, _, ht k (by omega), _, _, _, _, _, _, h2 k (by omega), hq k (by omega), hh k (by omega), trivial⟩⟩⟩
end Go.Proofs.Ytjmgleomljfieaa.Pure
