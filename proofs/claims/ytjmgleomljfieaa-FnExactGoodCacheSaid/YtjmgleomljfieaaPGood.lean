/- GoodCache: the program and the reference ask the same of a cache. Conditions: none. -/
import Derived.Test.YtjmgleomljfieaaGoodFnExactGoodCache
import Derived.Test.YtjmgleomljfieaaPF1
set_option linter.unusedVariables false
set_option linter.unusedSimpArgs false
namespace Go.Proofs.Ytjmgleomljfieaa.Pure
open Go.RowKit Go.Proofs.Ytjmgleomljfieaa.Q Go.Proofs.YtjmgleomljfieaaW.PrintWords Go.Proofs.YtjmgleomljfieaaW.PrintLast Go.Proofs.Ytjmgleomljfieaa.Kit Go.Proofs.Ytjmgleomljfieaa.Wf

def stateB (a n : Int) : Bool := if a = 0 ∨ a = 3 then n == 0 else if a = 1 then n == 1 else if a = 2 then inB n 2 4 else false
def tailB (a n : Int) : Bool := if a = 1 then n == 1 else if a = 2 then inB n 2 4 else n == 0
theorem state_tail (a n : Int) : stateB a n = (inB a 0 3 && tailB a n) := by
  unfold stateB tailB
  by_cases h0 : a = 0
  · subst h0; simp [inB]
  · by_cases h3 : a = 3
    · subst h3; simp [inB]
    · by_cases h1 : a = 1
      · subst h1; simp [inB]
      · by_cases h2 : a = 2
        · subst h2; simp [inB]
        · have : inB a 0 3 = false := by
            rw [Bool.eq_false_iff]; intro h; have := (inB_iff _ _ _).1 h; omega
          simp [h0, h1, h2, h3, this]
theorem spec_state (a n : Int) : Ev (fun k => spec_l12State.f k a n) (stateB a n) := by
  refine ⟨1, fun k hk => ?_⟩
  obtain ⟨m, rfl⟩ : ∃ m, k = m + 1 := ⟨k - 1, by omega⟩
  unfold spec_l12State.f stateB
  simp only [spec_l12State.j0, spec_in, Option.bind_some]
  by_cases h0 : a = 0
  · subst h0; simp
  · by_cases h3 : a = 3
    · subst h3; simp
    · by_cases h1 : a = 1
      · subst h1; simp
      · by_cases h2 : a = 2
        · subst h2; simp
        · simp [h0, h1, h2, h3]

section
variable (ws : List S82) (wst : Int) (hg : goodW ws wst = true) (name : Int) (h0 : 0 ≤ name) (h4 : name ≤ 4) (state stamp hits looks : Int) (ways : List S97)

theorem dup_both (x : S97) (i : Nat) (hi : (i : Int) < 9223372036854775807) (r0 : Bool) (tl : Bool)
    (hs : Ev (fun k => spec_GoodCache.l0 k ways (ways.length : Int) (((i + 1 : Nat)) : Int) ws wst name state ways stamp hits looks) r0)
    (hp : Ev (fun k => impl_isCache.l0 k ways (ways.length : Int) (((i + 1 : Nat)) : Int) ws wst name state ways stamp hits looks) (r0 && tl)) :
    ∀ (p2 p1 : List S97), p1.length + p2.length ≤ 1048576 →
    ∃ r, Ev (fun k => spec_GoodCache.l1 k ways (ways.length : Int) (i : Int) (p1 ++ p2) ((p1 ++ p2).length : Int) (p1.length : Int) ws wst name state ways stamp hits looks x.f0 x.f1) r ∧
      Ev (fun k => impl_isCache.l1 k ways (ways.length : Int) (i : Int) (p1 ++ p2) ((p1 ++ p2).length : Int) (p1.length : Int) ws wst name state ways stamp hits looks x.f0 x.f1) (r && tl)
  | [], p1, hb => by
    refine ⟨r0, ?_, ?_⟩
    · refine Ev.step (fun k => by simp only [spec_GoodCache.l1]; rw [if_neg (by simp), w_succ (by omega)]) hs
    · refine Ev.step (fun k => by simp only [impl_isCache.l1]; rw [if_neg (by simp), w_succ (by omega)]) hp
  | y :: p2, p1, hb => by
    simp only [List.length_cons] at hb
    obtain ⟨r, i1, i2⟩ := dup_both x i hi r0 tl hs hp p2 (p1 ++ [y]) (by simp; omega)
    by_cases he : y.f0 = x.f0
    · refine ⟨false, ?_, ?_⟩
      · refine Ev.step (fun k => by
          simp only [spec_GoodCache.l1]
          rw [if_pos (by simp; omega), if_pos (by omega), if_pos (by simp; omega), rdat_T97 rfl, if_pos he]) (Ev.now _)
      · refine Ev.step (fun k => by
          simp only [impl_isCache.l1]
          rw [if_pos (by simp; omega), if_pos (by omega), if_pos (by simp; omega), rdat_T97 rfl, if_pos he.symm, Bool.false_and]) (Ev.now _)
    · refine ⟨r, ?_, ?_⟩
      · refine Ev.step (fun k => by
          simp only [spec_GoodCache.l1]
          rw [if_pos (by simp; omega), if_pos (by omega), if_pos (by simp; omega), rdat_T97 rfl, if_neg he, w_succ (by omega)]) ?_
        simpa using i1
      · refine Ev.step (fun k => by
          simp only [impl_isCache.l1]
          rw [if_pos (by simp; omega), if_pos (by omega), if_pos (by simp; omega), rdat_T97 rfl, if_neg (fun h => he h.symm), w_succ (by omega)]) ?_
        simpa using i2

include hg h0 h4 in
theorem ways_both (hb : ws.length ≤ 1048576) : ∀ (post pre : List S97), ways = pre ++ post → pre.length + post.length ≤ 1048576 →
    ∃ r, Ev (fun k => spec_GoodCache.l0 k ways (ways.length : Int) (pre.length : Int) ws wst name state ways stamp hits looks) r ∧
      Ev (fun k => impl_isCache.l0 k ways (ways.length : Int) (pre.length : Int) ws wst name state ways stamp hits looks) (r && tailB state ways.length)
  | [], pre, hw, hl => by
    simp only [List.append_nil] at hw
    subst hw
    refine ⟨true, ?_, ?_⟩
    · exact Ev.step (fun k => by simp only [spec_GoodCache.l0]; rw [if_neg (by omega)]) (Ev.now _)
    · refine Ev.step (fun k => by simp only [impl_isCache.l0]; rw [if_neg (by omega)]) ?_
      unfold tailB
      by_cases h1 : state = 1
      · refine ite_t h1 ?_
        rw [if_pos h1]; simpa using Ev.now _
      · refine ite_f h1 ?_
        rw [if_neg h1]
        by_cases h2 : state = 2
        · refine ite_t h2 ?_
          rw [if_pos h2]
          simp only [impl_in, Option.bind_some]
          simpa using Ev.now _
        · refine ite_f h2 ?_
          rw [if_neg h2]; simpa using Ev.now _
  | x :: post, pre, hw, hl => by
    simp only [List.length_cons] at hl
    obtain ⟨r0, i1, i2⟩ := ways_both hb post (pre ++ [x]) (by simp [hw]) (by simp; omega)
    have hlen : ways.length = pre.length + (post.length + 1) := by rw [hw]; simp
    have hrd : rd_T97 ways (pre.length : Int) = x := by rw [hw]; exact rdat_T97 rfl
    have htk : ways.take (pre.length : Int).toNat = pre := by rw [hw]; simp
    have e1 : (((pre ++ [x]).length : Nat) : Int) = ((pre.length + 1 : Nat) : Int) := by simp
    rw [e1] at i1 i2
    obtain ⟨rd_, d1, d2⟩ := dup_both ws wst name state stamp hits looks ways x pre.length (by omega) r0 _ i1 i2 pre [] (by simp; omega)
    have js : ∀ b : Bool, Ev (fun k => spec_GoodCache.j2 k (pre.length : Int) ways (ways.length : Int) (pre.length : Int) b ws wst name state ways stamp hits looks x.f0 x.f1) (if b = true then false else rd_) := by
      intro b
      refine Ev.step (fun k => by simp only [spec_GoodCache.j2]; rfl) ?_
      refine ite_ev (fun _ => Ev.now _) (fun _ => ite_t (by omega) (ite_t (by omega) ?_))
      rw [htk]
      simpa using d1
    have jp : ∀ b : Bool, Ev (fun k => impl_isCache.j2 k (pre.length : Int) ways (ways.length : Int) (pre.length : Int) b ws wst name state ways stamp hits looks x.f0 x.f1) ((if b = true then false else rd_) && tailB state ways.length) := by
      intro b
      refine Ev.step (fun k => by simp only [impl_isCache.j2]; rfl) ?_
      cases b with
      | true => exact ite_t rfl (Ev.now _)
      | false =>
        refine ite_f (by simp) (ite_t (by omega) (ite_t (by omega) ?_))
        rw [htk]
        simpa using d2
    have S : ∀ r, Ev (fun k => (spec_l12Class.f ws wst x.f0).bind fun t418 => (if t418 = true then ((spec_l1In.f x.f1 1 1000).bind fun t419 => (if t419 = true then (if stamp = wst then ((spec_l12Find.f k ws wst x.f0 name).bind fun t420 => (spec_GoodCache.j2 k (pre.length : Int) ways (ways.length : Int) (pre.length : Int) (t420 != x.f1) ws wst name state ways stamp hits looks x.f0 x.f1)) else (spec_GoodCache.j2 k (pre.length : Int) ways (ways.length : Int) (pre.length : Int) false ws wst name state ways stamp hits looks x.f0 x.f1)) else (spec_GoodCache.j2 k (pre.length : Int) ways (ways.length : Int) (pre.length : Int) true ws wst name state ways stamp hits looks x.f0 x.f1))) else (spec_GoodCache.j2 k (pre.length : Int) ways (ways.length : Int) (pre.length : Int) true ws wst name state ways stamp hits looks x.f0 x.f1))) r →
        Ev (fun k => spec_GoodCache.l0 k ways (ways.length : Int) (pre.length : Int) ws wst name state ways stamp hits looks) r := fun r h =>
      Ev.step (fun k => by simp only [spec_GoodCache.l0]; rw [if_pos (by omega), if_pos (by omega), if_pos (by omega), hrd]) h
    have P : ∀ r, Ev (fun k => (impl_in.f x.f0 0 (wrap64 ((ws.length : Int) - 1))).bind fun t452 => (if t452 = true then ((impl_in.f x.f1 1 1000).bind fun t453 => (if t453 = true then (if stamp = wst then ((impl_World_find.f k ws wst x.f0 name).bind fun t454 => (impl_isCache.j2 k (pre.length : Int) ways (ways.length : Int) (pre.length : Int) (x.f1 != t454) ws wst name state ways stamp hits looks x.f0 x.f1)) else (impl_isCache.j2 k (pre.length : Int) ways (ways.length : Int) (pre.length : Int) false ws wst name state ways stamp hits looks x.f0 x.f1)) else (impl_isCache.j2 k (pre.length : Int) ways (ways.length : Int) (pre.length : Int) true ws wst name state ways stamp hits looks x.f0 x.f1))) else (impl_isCache.j2 k (pre.length : Int) ways (ways.length : Int) (pre.length : Int) true ws wst name state ways stamp hits looks x.f0 x.f1))) r →
        Ev (fun k => impl_isCache.l0 k ways (ways.length : Int) (pre.length : Int) ws wst name state ways stamp hits looks) r := fun r h =>
      Ev.step (fun k => by simp only [impl_isCache.l0]; rw [if_pos (by omega), if_pos (by omega), if_pos (by omega), hrd]) h
    simp only [spec_class, spec_in, impl_in, Option.bind_some] at S P
    rw [w64 (x := (ws.length : Int) - 1) (by omega) (by omega)] at P
    cases hc : inB x.f0 0 (ws.length - 1) with
    | false =>
      simp only [hc] at S P
      first | exact ⟨false, S _ (ite_f (by simp) (js true)), P _ (ite_f (by simp) (jp true))⟩ | exact ⟨false, S _ (js true), P _ (jp true)⟩
    | true =>
      simp only [hc] at S P
      cases ht : inB x.f1 1 1000 with
      | false =>
        simp only [ht] at S P
        exact ⟨false, S _ (js true), P _ (jp true)⟩
      | true =>
        simp only [ht] at S P
        by_cases hst : stamp = wst
        · have hc' := (inB_iff _ _ _).1 hc
          obtain ⟨r, f1, f2, _⟩ := find_both ws wst hg name h0 h4 ws.length x.f0 (by omega) (by omega) (by omega)
          have e2 : (x.f1 != r) = (r != x.f1) := by rw [Bool.eq_iff_iff]; simp [ne_comm]
          refine ⟨_, S _ (ite_t trivial (ite_t trivial (ite_t hst (bind_ev f1 (js _))))), P _ (ite_t trivial (ite_t trivial (ite_t hst (bind_ev f2 ?_))))⟩
          rw [e2]
          exact jp _
        · exact ⟨_, S _ (ite_t trivial (ite_t trivial (ite_f hst (js false)))), P _ (ite_t trivial (ite_t trivial (ite_f hst (jp false))))⟩
end

theorem goodCache_both (ws : List S82) (wst name state : Int) (ways : List S97) (stamp hits looks : Int) (hb : ws.length ≤ 1048576) (hm : ∀ c ∈ ws, c.f1.length ≤ 1048576) (hl : ways.length ≤ 1048576) :
    ∃ r, Ev (fun k => spec_GoodCache.f k ws wst name state ways stamp hits looks) r ∧ Ev (fun k => impl_GoodCache.f k ws wst name state ways stamp hits looks) r := by
  have h1 := spec_world ws wst hb hm
  have h2 := impl_world ws wst hb
  have h3 := spec_state state ways.length
  have hjs : Ev (fun k => spec_GoodCache.j0 k true ws wst name state ways stamp hits looks) false :=
    ⟨1, fun k hk => by obtain ⟨m, rfl⟩ : ∃ m, k = m + 1 := ⟨k - 1, by omega⟩; simp [spec_GoodCache.j0]⟩
  have hjp : Ev (fun k => impl_isCache.j0 k true ws wst name state ways stamp hits looks) false :=
    ⟨1, fun k hk => by obtain ⟨m, rfl⟩ : ∃ m, k = m + 1 := ⟨k - 1, by omega⟩; simp [impl_isCache.j0]⟩
  unfold spec_GoodCache.f impl_GoodCache.f impl_isCache.f
  simp only [impl_in, spec_l12Name.f, spec_in, Option.bind_some]
  cases hg : goodW ws wst with
  | false =>
    rw [hg] at h1 h2
    exact ⟨false, bind_ev h1 (ite_f (by simp) hjs), bind_ev h2 (ite_f (by simp) (Ev.now _))⟩
  | true =>
    rw [hg] at h1 h2
    cases hn : inB name 0 4 with
    | false => exact ⟨false, bind_ev h1 (ite_t rfl (ite_f (by simp) hjs)), bind_ev h2 (ite_t rfl (bind_ev (ite_f (by simp) hjp) (Ev.now _)))⟩
    | true =>
      have hn' := (inB_iff _ _ _).1 hn
      obtain ⟨r, w1, w2⟩ := ways_both ws wst hg name hn'.1 hn'.2 state stamp hits looks ways hb ways [] rfl (by simpa using hl)
      have hjs2 : Ev (fun k => spec_GoodCache.j0 k false ws wst name state ways stamp hits looks) r :=
        Ev.step (fun k => by simp only [spec_GoodCache.j0]; rfl) (ite_f (by simp) (by simpa using w1))
      have hjp2 : Ev (fun k => impl_isCache.j0 k false ws wst name state ways stamp hits looks) (r && tailB state ways.length) :=
        Ev.step (fun k => by simp only [impl_isCache.j0]; rfl) (ite_f (by simp) (by simpa using w2))
      cases ht : inB stamp 0 wst with
      | false =>
        refine ⟨false, bind_ev h1 (ite_t rfl (ite_t rfl (bind_ev h3 ?_))), bind_ev h2 (ite_t rfl (bind_ev (ite_t rfl (ite_f (by simp) hjp)) (Ev.now _)))⟩
        cases stateB state ways.length
        · exact ite_f (by simp) hjs
        · exact ite_t rfl (ite_f (by simp) hjs)
      | true =>
        cases hh : inB hits 0 1000000 with
        | false =>
          refine ⟨false, bind_ev h1 (ite_t rfl (ite_t rfl (bind_ev h3 ?_))), bind_ev h2 (ite_t rfl (bind_ev (ite_t rfl (ite_t rfl (ite_f (by simp) hjp))) (Ev.now _)))⟩
          cases stateB state ways.length
          · exact ite_f (by simp) hjs
          · exact ite_t rfl (ite_t rfl (ite_f (by simp) hjs))
        | true =>
          cases hk : inB looks 0 1000000 with
          | false =>
            refine ⟨false, bind_ev h1 (ite_t rfl (ite_t rfl (bind_ev h3 ?_))), bind_ev h2 (ite_t rfl (bind_ev (ite_t rfl (ite_t rfl (ite_t rfl (ite_f (by simp) hjp)))) (Ev.now _)))⟩
            cases stateB state ways.length
            · exact ite_f (by simp) hjs
            · exact ite_t rfl (ite_t rfl (ite_t rfl hjs))
          | true =>
            rw [state_tail] at h3
            cases hq : inB state 0 3 with
            | false =>
              rw [hq, Bool.false_and] at h3
              exact ⟨false, bind_ev h1 (ite_t rfl (ite_t rfl (bind_ev h3 (ite_f (by simp) hjs)))), bind_ev h2 (ite_t rfl (bind_ev (ite_t rfl (ite_t rfl (ite_t rfl (ite_t rfl hjp)))) (Ev.now _)))⟩
            | true =>
              rw [hq, Bool.true_and] at h3
              cases hT : tailB state ways.length with
              | false =>
                rw [hT] at h3 hjp2
                rw [Bool.and_false] at hjp2
                exact ⟨false, bind_ev h1 (ite_t rfl (ite_t rfl (bind_ev h3 (ite_f (by simp) hjs)))), bind_ev h2 (ite_t rfl (bind_ev (ite_t rfl (ite_t rfl (ite_t rfl (ite_t rfl hjp2)))) (Ev.now _)))⟩
              | true =>
                rw [hT] at h3 hjp2
                rw [Bool.and_true] at hjp2
                exact ⟨r, bind_ev h1 (ite_t rfl (ite_t rfl (bind_ev h3 (ite_t rfl (ite_t rfl (ite_t rfl hjs2)))))), bind_ev h2 (ite_t rfl (bind_ev (ite_t rfl (ite_t rfl (ite_t rfl (ite_t rfl hjp2)))) (Ev.now _)))⟩

theorem FnExactGoodCache (y : S24) (hp : wf_S24 y) (x : S52) (hq : wf_S52 x) : ∃ k, laws_FnExactGoodCache.f k y.f0 y.f1 x.f0 x.f1 x.f2 x.f3 x.f4 x.f5 = some true := by
  obtain ⟨z, ⟨k1, hz⟩, hz2⟩ := szWorld_ok y 1048576 (by omega) (by omega) hp
  unfold laws_FnExactGoodCache.f
  by_cases h : z < 0
  · exact ⟨k1, if_pos ⟨z, hz k1 (Nat.le_refl _), .inl h⟩⟩
  · have hl := hz2 (by omega)
    obtain ⟨u, ⟨k2, hu⟩, hu2⟩ := szCache_ok x z (by omega) (by omega) hq
    by_cases g : u < 0
    · generalize hk : k1 + k2 = k
      exact ⟨k, if_pos ⟨z, hz k (by omega), .inr ⟨h, u, hu k (by omega), .inl g⟩⟩⟩
    · have hc := (hu2 (by omega)).2
      have hl2 := cv_lens y hl.2
      obtain ⟨k3, ht⟩ := toWorld_ev y hl.2
      obtain ⟨k4, hc2⟩ := toCache_ev x hc
      have hcb : bd_S44 (cv_S52 x) := by
        simp only [bd_S52] at hc
        simp only [bd_S44, cv_S52, List.length_map]
        exact hc
      have hwl : (cv_S52 x).f2.length ≤ 1048576 := by
        simp only [bd_S44] at hcb
        first | exact hcb.2.2.1.1 | exact hcb.2.2.1 | exact hcb.2.2
      obtain ⟨r, ⟨k5, i1⟩, ⟨k6, i2⟩⟩ := goodCache_both (cv_S24 y).f0 (cv_S24 y).f1 (cv_S52 x).f0 (cv_S52 x).f1 (cv_S52 x).f2 (cv_S52 x).f3 (cv_S52 x).f4 (cv_S52 x).f5 hl2.1 hl2.2 hwl
      obtain ⟨k7, he⟩ := eqWorld_ev _ (cv_bd y hl.2)
      obtain ⟨k8, hf⟩ := eqCache_ev _ hcb
      generalize hk : k1 + k2 + k3 + k4 + k5 + k6 + k7 + k8 = k
      exact ⟨k, if_pos ⟨z, hz k (by omega), .inr ⟨h, u, hu k (by omega), .inr ⟨g, _, _, ht k (by omega), _, _, _, _, _, _, hc2 k (by omega), r, i1 k (by omega), _, _, ht k (by omega), _, _, _, _, _, _, hc2 k (by omega), i2 k (by omega),
        _, _, ht k (by omega), he k (by omega), _, _, _, _, _, _, hc2 k (by omega), hf k (by omega), trivial⟩⟩⟩⟩
end Go.Proofs.Ytjmgleomljfieaa.Pure
