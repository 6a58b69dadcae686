/- Caches in a good world: the program and the reference ask the same; what a call makes of a cache. Conditions: none. -/
import Derived.Test.YtjmgleomljfieaaPF1
import Derived.Test.YtjmgleomljfieaaQx0
import Derived.Test.YtjmgleomljfieaaQx3
import Derived.Test.YtjmgleomljfieaaQx4
import Derived.Test.YtjmgleomljfieaaQx5
import Derived.Test.YtjmgleomljfieaaQx6
import Derived.Test.YtjmgleomljfieaaQx7
import Derived.Test.YtjmgleomljfieaaQx8
import Derived.Test.YtjmgleomljfieaaQx9
set_option linter.unusedVariables false
set_option linter.unusedSimpArgs false
set_option linter.unusedSectionVars false
namespace Go.Proofs.Ytjmgleomljfieaa.Pure
open Go.RowKit Go.Proofs.Ytjmgleomljfieaa.Q Go.Proofs.YtjmgleomljfieaaW.PrintWords Go.Proofs.YtjmgleomljfieaaW.PrintLast Go.Proofs.Ytjmgleomljfieaa.Kit Go.Proofs.Ytjmgleomljfieaa.Wf

def stateB (a n : Int) : Bool := if a = 0 ∨ a = 3 then n == 0 else if a = 1 then n == 1 else if a = 2 then inB n 2 4 else false
def tailB (a n : Int) : Bool := if a = 1 then n == 1 else if a = 2 then inB n 2 4 else n == 0
theorem state_tail (a n : Int) : stateB a n = (inB a 0 3 && tailB a n) := by
  unfold stateB tailB
  by_cases h0 : a = 0
  · subst h0; simp [inB]
  · by_cases h3 : a = 3
    · subst h3; simp [inB]
    · by_cases h1 : a = 1
      · subst h1; simp [inB]
      · by_cases h2 : a = 2
        · subst h2; simp [inB]
        · have : inB a 0 3 = false := by
            rw [Bool.eq_false_iff]; intro h; have := (inB_iff _ _ _).1 h; omega
          simp [h0, h1, h2, h3, this]
theorem spec_state (a n : Int) : Ev (fun k => spec_l12State.f k a n) (stateB a n) := by
  refine ⟨1, fun k hk => ?_⟩
  obtain ⟨m, rfl⟩ : ∃ m, k = m + 1 := ⟨k - 1, by omega⟩
  unfold spec_l12State.f stateB
  simp only [spec_l12State.j0, spec_in, Option.bind_some]
  by_cases h0 : a = 0
  · subst h0; simp
  · by_cases h3 : a = 3
    · subst h3; simp
    · by_cases h1 : a = 1
      · subst h1; simp
      · by_cases h2 : a = 2
        · subst h2; simp
        · simp [h0, h1, h2, h3]

section
variable (ws : List S82) (wst : Int) (hg : goodW ws wst = true) (name : Int) (h0 : 0 ≤ name) (h4 : name ≤ 4) (state stamp hits looks : Int) (ways : List S97)

theorem dup_both (x : S97) (i : Nat) (hi : (i : Int) < 9223372036854775807) (r0 : Bool) (tl : Bool)
    (hs : Ev (fun k => spec_GoodCache.l0 k ways (ways.length : Int) (((i + 1 : Nat)) : Int) ws wst name state ways stamp hits looks) r0)
    (hp : Ev (fun k => impl_isCache.l0 k ways (ways.length : Int) (((i + 1 : Nat)) : Int) ws wst name state ways stamp hits looks) (r0 && tl)) :
    ∀ (p2 p1 : List S97), p1.length + p2.length ≤ 1048576 →
    ∃ r, Ev (fun k => spec_GoodCache.l1 k ways (ways.length : Int) (i : Int) (p1 ++ p2) ((p1 ++ p2).length : Int) (p1.length : Int) ws wst name state ways stamp hits looks x.f0 x.f1) r ∧
      Ev (fun k => impl_isCache.l1 k ways (ways.length : Int) (i : Int) (p1 ++ p2) ((p1 ++ p2).length : Int) (p1.length : Int) ws wst name state ways stamp hits looks x.f0 x.f1) (r && tl)
  | [], p1, hb => by
    refine ⟨r0, ?_, ?_⟩
    · refine Ev.step (fun k => by simp only [spec_GoodCache.l1]; rw [if_neg (by simp), w_succ (by omega)]) hs
    · refine Ev.step (fun k => by simp only [impl_isCache.l1]; rw [if_neg (by simp), w_succ (by omega)]) hp
  | y :: p2, p1, hb => by
    simp only [List.length_cons] at hb
    obtain ⟨r, i1, i2⟩ := dup_both x i hi r0 tl hs hp p2 (p1 ++ [y]) (by simp; omega)
    by_cases he : y.f0 = x.f0
    · refine ⟨false, ?_, ?_⟩
      · refine Ev.step (fun k => by
          simp only [spec_GoodCache.l1]
          rw [if_pos (by simp; omega), if_pos (by omega), if_pos (by simp; omega), rdat_T97 rfl, if_pos he]) (Ev.now _)
      · refine Ev.step (fun k => by
          simp only [impl_isCache.l1]
          rw [if_pos (by simp; omega), if_pos (by omega), if_pos (by simp; omega), rdat_T97 rfl, if_pos he.symm, Bool.false_and]) (Ev.now _)
    · refine ⟨r, ?_, ?_⟩
      · refine Ev.step (fun k => by
          simp only [spec_GoodCache.l1]
          rw [if_pos (by simp; omega), if_pos (by omega), if_pos (by simp; omega), rdat_T97 rfl, if_neg he, w_succ (by omega)]) ?_
        simpa using i1
      · refine Ev.step (fun k => by
          simp only [impl_isCache.l1]
          rw [if_pos (by simp; omega), if_pos (by omega), if_pos (by simp; omega), rdat_T97 rfl, if_neg (fun h => he h.symm), w_succ (by omega)]) ?_
        simpa using i2

include hg h0 h4 in
theorem ways_both (hb : ws.length ≤ 1048576) : ∀ (post pre : List S97), ways = pre ++ post → pre.length + post.length ≤ 1048576 →
    ∃ r, Ev (fun k => spec_GoodCache.l0 k ways (ways.length : Int) (pre.length : Int) ws wst name state ways stamp hits looks) r ∧
      Ev (fun k => impl_isCache.l0 k ways (ways.length : Int) (pre.length : Int) ws wst name state ways stamp hits looks) (r && tailB state ways.length)
  | [], pre, hw, hl => by
    simp only [List.append_nil] at hw
    subst hw
    refine ⟨true, ?_, ?_⟩
    · exact Ev.step (fun k => by simp only [spec_GoodCache.l0]; rw [if_neg (by omega)]) (Ev.now _)
    · refine Ev.step (fun k => by simp only [impl_isCache.l0]; rw [if_neg (by omega)]) ?_
      unfold tailB
      by_cases h1 : state = 1
      · refine ite_t h1 ?_
        rw [if_pos h1]; simpa using Ev.now _
      · refine ite_f h1 ?_
        rw [if_neg h1]
        by_cases h2 : state = 2
        · refine ite_t h2 ?_
          rw [if_pos h2]
          simp only [impl_in, Option.bind_some]
          simpa using Ev.now _
        · refine ite_f h2 ?_
          rw [if_neg h2]; simpa using Ev.now _
  | x :: post, pre, hw, hl => by
    simp only [List.length_cons] at hl
    obtain ⟨r0, i1, i2⟩ := ways_both hb post (pre ++ [x]) (by simp [hw]) (by simp; omega)
    have hlen : ways.length = pre.length + (post.length + 1) := by rw [hw]; simp
    have hrd : rd_T97 ways (pre.length : Int) = x := by rw [hw]; exact rdat_T97 rfl
    have htk : ways.take (pre.length : Int).toNat = pre := by rw [hw]; simp
    have e1 : (((pre ++ [x]).length : Nat) : Int) = ((pre.length + 1 : Nat) : Int) := by simp
    rw [e1] at i1 i2
    obtain ⟨rd_, d1, d2⟩ := dup_both ws wst name state stamp hits looks ways x pre.length (by omega) r0 _ i1 i2 pre [] (by simp; omega)
    have js : ∀ b : Bool, Ev (fun k => spec_GoodCache.j2 k (pre.length : Int) ways (ways.length : Int) (pre.length : Int) b ws wst name state ways stamp hits looks x.f0 x.f1) (if b = true then false else rd_) := by
      intro b
      refine Ev.step (fun k => by simp only [spec_GoodCache.j2]; rfl) ?_
      refine ite_ev (fun _ => Ev.now _) (fun _ => ite_t (by omega) (ite_t (by omega) ?_))
      rw [htk]
      simpa using d1
    have jp : ∀ b : Bool, Ev (fun k => impl_isCache.j2 k (pre.length : Int) ways (ways.length : Int) (pre.length : Int) b ws wst name state ways stamp hits looks x.f0 x.f1) ((if b = true then false else rd_) && tailB state ways.length) := by
      intro b
      refine Ev.step (fun k => by simp only [impl_isCache.j2]; rfl) ?_
      cases b with
      | true => exact ite_t rfl (Ev.now _)
      | false =>
        refine ite_f (by simp) (ite_t (by omega) (ite_t (by omega) ?_))
        rw [htk]
        simpa using d2
    have S : ∀ r, Ev (fun k => (spec_l12Class.f ws wst x.f0).bind fun t418 => (if t418 = true then ((spec_l1In.f x.f1 1 1000).bind fun t419 => (if t419 = true then (if stamp = wst then ((spec_l12Find.f k ws wst x.f0 name).bind fun t420 => (spec_GoodCache.j2 k (pre.length : Int) ways (ways.length : Int) (pre.length : Int) (t420 != x.f1) ws wst name state ways stamp hits looks x.f0 x.f1)) else (spec_GoodCache.j2 k (pre.length : Int) ways (ways.length : Int) (pre.length : Int) false ws wst name state ways stamp hits looks x.f0 x.f1)) else (spec_GoodCache.j2 k (pre.length : Int) ways (ways.length : Int) (pre.length : Int) true ws wst name state ways stamp hits looks x.f0 x.f1))) else (spec_GoodCache.j2 k (pre.length : Int) ways (ways.length : Int) (pre.length : Int) true ws wst name state ways stamp hits looks x.f0 x.f1))) r →
        Ev (fun k => spec_GoodCache.l0 k ways (ways.length : Int) (pre.length : Int) ws wst name state ways stamp hits looks) r := fun r h =>
      Ev.step (fun k => by simp only [spec_GoodCache.l0]; rw [if_pos (by omega), if_pos (by omega), if_pos (by omega), hrd]) h
    have P : ∀ r, Ev (fun k => (impl_in.f x.f0 0 (wrap64 ((ws.length : Int) - 1))).bind fun t452 => (if t452 = true then ((impl_in.f x.f1 1 1000).bind fun t453 => (if t453 = true then (if stamp = wst then ((impl_World_find.f k ws wst x.f0 name).bind fun t454 => (impl_isCache.j2 k (pre.length : Int) ways (ways.length : Int) (pre.length : Int) (x.f1 != t454) ws wst name state ways stamp hits looks x.f0 x.f1)) else (impl_isCache.j2 k (pre.length : Int) ways (ways.length : Int) (pre.length : Int) false ws wst name state ways stamp hits looks x.f0 x.f1)) else (impl_isCache.j2 k (pre.length : Int) ways (ways.length : Int) (pre.length : Int) true ws wst name state ways stamp hits looks x.f0 x.f1))) else (impl_isCache.j2 k (pre.length : Int) ways (ways.length : Int) (pre.length : Int) true ws wst name state ways stamp hits looks x.f0 x.f1))) r →
        Ev (fun k => impl_isCache.l0 k ways (ways.length : Int) (pre.length : Int) ws wst name state ways stamp hits looks) r := fun r h =>
      Ev.step (fun k => by simp only [impl_isCache.l0]; rw [if_pos (by omega), if_pos (by omega), if_pos (by omega), hrd]) h
    simp only [spec_class, spec_in, impl_in, Option.bind_some] at S P
    rw [w64 (x := (ws.length : Int) - 1) (by omega) (by omega)] at P
    cases hc : inB x.f0 0 (ws.length - 1) with
    | false =>
      simp only [hc] at S P
      first | exact ⟨false, S _ (ite_f (by simp) (js true)), P _ (ite_f (by simp) (jp true))⟩ | exact ⟨false, S _ (js true), P _ (jp true)⟩
    | true =>
      simp only [hc] at S P
      cases ht : inB x.f1 1 1000 with
      | false =>
        simp only [ht] at S P
        exact ⟨false, S _ (js true), P _ (jp true)⟩
      | true =>
        simp only [ht] at S P
        by_cases hst : stamp = wst
        · have hc' := (inB_iff _ _ _).1 hc
          obtain ⟨r, f1, f2, _⟩ := find_both ws wst hg name h0 h4 ws.length x.f0 (by omega) (by omega) (by omega)
          have e2 : (x.f1 != r) = (r != x.f1) := by rw [Bool.eq_iff_iff]; simp [ne_comm]
          refine ⟨_, S _ (ite_t trivial (ite_t trivial (ite_t hst (bind_ev f1 (js _))))), P _ (ite_t trivial (ite_t trivial (ite_t hst (bind_ev f2 ?_))))⟩
          rw [e2]
          exact jp _
        · exact ⟨_, S _ (ite_t trivial (ite_t trivial (ite_f hst (js false)))), P _ (ite_t trivial (ite_t trivial (ite_f hst (jp false))))⟩
end

theorem tail_len {state : Int} {n : Nat} (h : tailB state n = true) : n ≤ 4 := by
  unfold tailB at h
  split at h
  · simp at h; omega
  · split at h
    · have := (inB_iff _ _ _).1 h; omega
    · simp at h; omega
theorem cache_both (ws : List S82) (wst name state : Int) (ways : List S97) (stamp hits looks : Int) (hg : goodW ws wst = true) (hb : ws.length ≤ 1048576) (hm : ∀ c ∈ ws, c.f1.length ≤ 1048576) (hl : ways.length ≤ 1048576) :
    ∃ r, Ev (fun k => spec_GoodCache.f k ws wst name state ways stamp hits looks) r ∧ Ev (fun k => impl_isCache.f k ws wst name state ways stamp hits looks) r ∧ (r = true → inB name 0 4 = true ∧ ways.length ≤ 4) := by
  have h1 := spec_world ws wst hb hm
  rw [hg] at h1
  have h3 := spec_state state ways.length
  have hjs : Ev (fun k => spec_GoodCache.j0 k true ws wst name state ways stamp hits looks) false :=
    ⟨1, fun k hk => by obtain ⟨m, rfl⟩ : ∃ m, k = m + 1 := ⟨k - 1, by omega⟩; simp [spec_GoodCache.j0]⟩
  have hjp : Ev (fun k => impl_isCache.j0 k true ws wst name state ways stamp hits looks) false :=
    ⟨1, fun k hk => by obtain ⟨m, rfl⟩ : ∃ m, k = m + 1 := ⟨k - 1, by omega⟩; simp [impl_isCache.j0]⟩
  unfold spec_GoodCache.f impl_isCache.f
  simp only [impl_in, spec_l12Name.f, spec_in, Option.bind_some]
  cases hn : inB name 0 4 with
  | false => exact ⟨false, bind_ev h1 (ite_t rfl (ite_f (by simp) hjs)), (ite_f (by simp) hjp), fun h => by cases h⟩
  | true =>
    have hn' := (inB_iff _ _ _).1 hn
    obtain ⟨r, w1, w2⟩ := ways_both ws wst hg name hn'.1 hn'.2 state stamp hits looks ways hb ways [] rfl (by simpa using hl)
    have hjs2 : Ev (fun k => spec_GoodCache.j0 k false ws wst name state ways stamp hits looks) r :=
      Ev.step (fun k => by simp only [spec_GoodCache.j0]; rfl) (ite_f (by simp) (by simpa using w1))
    have hjp2 : Ev (fun k => impl_isCache.j0 k false ws wst name state ways stamp hits looks) (r && tailB state ways.length) :=
      Ev.step (fun k => by simp only [impl_isCache.j0]; rfl) (ite_f (by simp) (by simpa using w2))
    cases ht : inB stamp 0 wst with
    | false =>
      refine ⟨false, bind_ev h1 (ite_t rfl (ite_t rfl (bind_ev h3 ?_))), (ite_t rfl (ite_f (by simp) hjp)), fun h => by cases h⟩
      cases stateB state ways.length
      · exact ite_f (by simp) hjs
      · exact ite_t rfl (ite_f (by simp) hjs)
    | true =>
      cases hh : inB hits 0 1000000 with
      | false =>
        refine ⟨false, bind_ev h1 (ite_t rfl (ite_t rfl (bind_ev h3 ?_))), (ite_t rfl (ite_t rfl (ite_f (by simp) hjp))), fun h => by cases h⟩
        cases stateB state ways.length
        · exact ite_f (by simp) hjs
        · exact ite_t rfl (ite_t rfl (ite_f (by simp) hjs))
      | true =>
        cases hk : inB looks 0 1000000 with
        | false =>
          refine ⟨false, bind_ev h1 (ite_t rfl (ite_t rfl (bind_ev h3 ?_))), (ite_t rfl (ite_t rfl (ite_t rfl (ite_f (by simp) hjp)))), fun h => by cases h⟩
          cases stateB state ways.length
          · exact ite_f (by simp) hjs
          · exact ite_t rfl (ite_t rfl (ite_t rfl hjs))
        | true =>
          rw [state_tail] at h3
          cases hq : inB state 0 3 with
          | false =>
            rw [hq, Bool.false_and] at h3
            exact ⟨false, bind_ev h1 (ite_t rfl (ite_t rfl (bind_ev h3 (ite_f (by simp) hjs)))), (ite_t rfl (ite_t rfl (ite_t rfl (ite_t rfl hjp)))), fun h => by cases h⟩
          | true =>
            rw [hq, Bool.true_and] at h3
            cases hT : tailB state ways.length with
            | false =>
              rw [hT] at h3 hjp2
              rw [Bool.and_false] at hjp2
              exact ⟨false, bind_ev h1 (ite_t rfl (ite_t rfl (bind_ev h3 (ite_f (by simp) hjs)))), (ite_t rfl (ite_t rfl (ite_t rfl (ite_t rfl hjp2)))), fun h => by cases h⟩
            | true =>
              rw [hT] at h3 hjp2
              rw [Bool.and_true] at hjp2
              exact ⟨r, bind_ev h1 (ite_t rfl (ite_t rfl (bind_ev h3 (ite_t rfl (ite_t rfl (ite_t rfl hjs2)))))), (ite_t rfl (ite_t rfl (ite_t rfl (ite_t rfl hjp2)))), fun _ => ⟨rfl, tail_len hT⟩⟩

/-- What a call makes of a cache. -/
def callOut (wst name state : Int) (ways : List S97) (stamp hits looks cl t : Int) : Int × Int × List S97 × Int × Int × Int :=
  let st := if stamp = wst then state else 0
  let wy := if stamp = wst then ways else []
  if (wy.any fun x => x.f0 == cl) = true then (name, st, wy, wst, wrap64 (hits + 1), looks)
  else if st = 3 then (name, st, wy, wst, hits, wrap64 (looks + 1))
  else if wy.length < 4 then (name, if wy.length = 0 then 1 else 2, wy ++ [⟨cl, t⟩], wst, hits, wrap64 (looks + 1))
  else (name, 3, [], wst, hits, wrap64 (looks + 1))
theorem callOut_len {wst name state : Int} {ways : List S97} {stamp hits looks cl t : Int} (hl : ways.length ≤ 4) : (callOut wst name state ways stamp hits looks cl t).2.2.1.length ≤ 4 := by
  unfold callOut
  by_cases h : stamp = wst
  · simp only [h, if_true]
    split
    · exact hl
    · split
      · exact hl
      · split
        · simp; omega
        · simp
  · simp only [h, if_false]
    split
    · simp
    · split
      · simp
      · split
        · simp
        · simp
theorem callOut_name {wst name state : Int} {ways : List S97} {stamp hits looks cl t : Int} : (callOut wst name state ways stamp hits looks cl t).1 = name := by
  unfold callOut
  simp only
  repeat first | rfl | split

theorem spec_call_l0 (cl t name state : Int) (ways : List S97) (stamp hits looks : Int) (hl : ways.length ≤ 4) : ∀ (post pre : List S97), ways = pre ++ post →
    Ev (fun k => spec_l12Call.l0 k cl t ways (ways.length : Int) (pre.length : Int) name state ways stamp hits looks)
      (if (post.any fun x => x.f0 == cl) = true then (name, state, ways, stamp, wrap64 (hits + 1), looks)
       else if state = 3 then (name, state, ways, stamp, hits, wrap64 (looks + 1))
       else if ways.length < 4 then (name, if ways.length = 0 then 1 else 2, ways ++ [⟨cl, t⟩], stamp, hits, wrap64 (looks + 1))
       else (name, 3, [], stamp, hits, wrap64 (looks + 1)))
  | [], pre, hw => by
    simp only [List.append_nil] at hw
    subst hw
    refine Ev.step (fun k => by simp only [spec_l12Call.l0]; rw [if_neg (by omega)]) ?_
    simp only [List.any_nil, Bool.false_eq_true, if_false]
    by_cases h3 : state = 3
    · exact ite_t h3 (some_ev (by simp [h3]))
    · refine ite_f h3 ?_
      by_cases h4 : ways.length = 4
      · exact ite_t (by omega) (some_ev (by simp [h3, h4]))
      · refine ite_f (by omega) (ite_t (by omega) (bind_ev (Ev.now _) ?_))
        have h5 : ways.length < 4 := by omega
        by_cases h0 : ways.length = 0
        · exact ite_t (by simp; omega) (some_ev (by simp [h3, h5, h0]))
        · exact ite_f (by simp; omega) (some_ev (by simp only [h3, h5, h0, if_true, if_false]))
  | x :: post, pre, hw => by
    have hlen : ways.length = pre.length + (post.length + 1) := by rw [hw]; simp
    have hrd : rd_T97 ways (pre.length : Int) = x := by rw [hw]; exact rdat_T97 rfl
    refine Ev.step (fun k => by simp only [spec_l12Call.l0]; rw [if_pos (by omega), if_pos (by omega), if_pos (by omega), hrd]) ?_
    by_cases he : x.f0 = cl
    · have e1 : ((x :: post).any fun x => x.f0 == cl) = true := by simp [he]
      rw [if_pos e1]
      exact ite_t he (Ev.now _)
    · have ih := spec_call_l0 cl t name state ways stamp hits looks hl post (pre ++ [x]) (by simp [hw])
      have e1 : ((x :: post).any fun x => x.f0 == cl) = (post.any fun x => x.f0 == cl) := by simp [he]
      rw [e1]
      refine ite_f he ?_
      rw [w_succ (by omega)]
      have e2 : (((pre ++ [x]).length : Nat) : Int) = ((pre.length + 1 : Nat) : Int) := by simp
      rw [e2] at ih
      exact ih
theorem spec_call (ws : List S82) (wst name state : Int) (ways : List S97) (stamp hits looks cl t : Int) (hl : ways.length ≤ 4) :
    Ev (fun k => spec_l12Call.f k ws wst name state ways stamp hits looks cl t) (callOut wst name state ways stamp hits looks cl t) := by
  unfold spec_l12Call.f callOut
  refine bind_ev (Ev.now _) (ite_t (by simp; omega) ?_)
  by_cases h : stamp = wst
  · subst h
    simp only [if_true]
    refine Ev.step (fun k => by simp only [spec_l12Call.j0]; rfl) ?_
    have := spec_call_l0 cl t name state ways stamp hits looks hl ways [] rfl
    simpa using this
  · simp only [h, if_false]
    refine Ev.step (fun k => by simp only [spec_l12Call.j0]; rfl) ?_
    have := spec_call_l0 cl t name 0 [] wst hits looks (by simp) [] [] rfl
    simpa using this

theorem way_any (l : List S97) (cl : Int) : impl_Way_89_90.f l cl = some (l.any fun x => x.f0 == cl) := by
  unfold impl_Way_89_90.f
  exact Kit.anyO_some _ _

section
variable (ws : List S82) (wst : Int) (hg : goodW ws wst = true) (hb : ws.length ≤ 1048576) (hm : ∀ c ∈ ws, c.f1.length ≤ 1048576)
include hg hb hm
/-- The program's call: the cache of callOut, if it is a good one. -/
theorem impl_call (name state : Int) (ways : List S97) (stamp hits looks cl t : Int) (hl : ways.length ≤ 4) (hf : Ev (fun k => impl_World_find.f k ws wst cl name) t) (r : Bool)
    (hr : Ev (fun k => impl_isCache.f k ws wst (callOut wst name state ways stamp hits looks cl t).1 (callOut wst name state ways stamp hits looks cl t).2.1 (callOut wst name state ways stamp hits looks cl t).2.2.1 (callOut wst name state ways stamp hits looks cl t).2.2.2.1 (callOut wst name state ways stamp hits looks cl t).2.2.2.2.1 (callOut wst name state ways stamp hits looks cl t).2.2.2.2.2) r) :
    Ev (fun k => impl_callBy.f k ws wst name state ways stamp hits looks cl)
      (if r = true then ((callOut wst name state ways stamp hits looks cl t).1, (callOut wst name state ways stamp hits looks cl t).2.1, (callOut wst name state ways stamp hits looks cl t).2.2.1, (callOut wst name state ways stamp hits looks cl t).2.2.2.1, (callOut wst name state ways stamp hits looks cl t).2.2.2.2.1, (callOut wst name state ways stamp hits looks cl t).2.2.2.2.2, t, true) else (0, 0, [], 0, 0, 0, 0, false)) := by
  have main : ∀ (st : Int) (wy : List S97), wy.length ≤ 4 → ∀ (q : Int × Int × List S97 × Int × Int × Int), q = (if (wy.any fun x => x.f0 == cl) = true then (name, st, wy, wst, wrap64 (hits + 1), looks)
      else if st = 3 then (name, st, wy, wst, hits, wrap64 (looks + 1))
      else if wy.length < 4 then (name, if wy.length = 0 then 1 else 2, wy ++ [⟨cl, t⟩], wst, hits, wrap64 (looks + 1))
      else (name, 3, [], wst, hits, wrap64 (looks + 1))) →
      Ev (fun k => impl_isCache.f k ws wst q.1 q.2.1 q.2.2.1 q.2.2.2.1 q.2.2.2.2.1 q.2.2.2.2.2) r →
      Ev (fun k => impl_callBy.j0 k ws wst name st wy wst hits looks cl) (if r = true then (q.1, q.2.1, q.2.2.1, q.2.2.2.1, q.2.2.2.2.1, q.2.2.2.2.2, t, true) else (0, 0, [], 0, 0, 0, 0, false)) := by
    intro st wy hwl q hq hr
    refine Ev.step (fun k => by simp only [impl_callBy.j0]; rfl) ?_
    refine bind_ev hf ?_
    rw [way_any]
    simp only [Option.bind_some]
    have fin : ∀ (q' : Int × Int × List S97 × Int × Int × Int), q = q' → Ev (fun k => (impl_isCache.f k ws wst q'.1 q'.2.1 q'.2.2.1 q'.2.2.2.1 q'.2.2.2.2.1 q'.2.2.2.2.2).bind fun t9 => if t9 = true then some (q'.1, q'.2.1, q'.2.2.1, q'.2.2.2.1, q'.2.2.2.2.1, q'.2.2.2.2.2, t, true) else some (0, 0, ([] : List S97), 0, 0, 0, 0, false)) (if r = true then (q.1, q.2.1, q.2.2.1, q.2.2.2.1, q.2.2.2.2.1, q.2.2.2.2.2, t, true) else (0, 0, [], 0, 0, 0, 0, false)) := by
      intro q' e
      subst e
      exact bind_ev hr (ite_ev (fun _ => Ev.now _) (fun _ => Ev.now _))
    by_cases ha : (wy.any fun x => x.f0 == cl) = true
    · rw [if_pos ha] at hq
      exact ite_t ha (fin _ hq)
    · rw [if_neg ha] at hq
      refine ite_f ha ?_
      by_cases h3 : st = 3
      · rw [if_pos h3] at hq
        exact ite_t h3 (fin _ hq)
      · rw [if_neg h3] at hq
        refine ite_f h3 ?_
        by_cases h4 : wy.length < 4
        · rw [if_pos h4] at hq
          refine ite_t (by omega) (ite_t (by omega) (bind_ev (Ev.now _) ?_))
          by_cases h0 : wy.length = 0
          · rw [if_pos h0] at hq
            exact ite_t (by simp; omega) (fin _ hq)
          · rw [if_neg h0] at hq
            exact ite_f (by simp; omega) (fin _ hq)
        · rw [if_neg h4] at hq
          exact ite_f (by omega) (fin _ hq)
  unfold impl_callBy.f
  refine bind_ev (Ev.now _) (ite_t (by simp; omega) ?_)
  by_cases h : stamp = wst
  · subst h
    refine ite_t rfl ?_
    have := main state ways hl _ (by unfold callOut; simp only [if_true]) hr
    simpa using this
  · refine ite_f h ?_
    exact main 0 [] (by simp) _ (by unfold callOut; simp only [h, if_false]) hr
theorem find_ev (name cl : Int) (h0 : 0 ≤ name) (h4 : name ≤ 4) (h1 : 0 ≤ cl) (h2 : cl < ws.length) :
    ∃ t, Ev (fun k => spec_l12Find.f k ws wst cl name) t ∧ Ev (fun k => impl_World_find.f k ws wst cl name) t := by
  obtain ⟨t, a, b, _⟩ := find_both ws wst hg name h0 h4 (cl + 1).toNat cl (by omega) (by omega) h2
  exact ⟨t, by unfold spec_l12Find.f; exact a, by unfold impl_World_find.f; exact b⟩
end

/-- The answer of a call by a cache. -/
def zeroC : Int × Int × List S97 × Int × Int × Int × Int × Bool := (0, 0, [], 0, 0, 0, 0, false)
def isOut (name : Int) (q : Int × Int × List S97 × Int × Int × Int × Int × Bool) : Prop := q = zeroC ∨ (q.2.2.2.2.2.2.2 = true ∧ q.1 = name ∧ q.2.2.1.length ≤ 4)
end Go.Proofs.Ytjmgleomljfieaa.Pure
