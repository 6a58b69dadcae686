/- PlayCalls, by the program and by the reference. Conditions: none. -/
import Derived.Test.YtjmgleomljfieaaPCs
import Derived.Test.YtjmgleomljfieaaQx0
import Derived.Test.YtjmgleomljfieaaQx3
import Derived.Test.YtjmgleomljfieaaQx4
import Derived.Test.YtjmgleomljfieaaQx5
import Derived.Test.YtjmgleomljfieaaQx6
import Derived.Test.YtjmgleomljfieaaQx7
import Derived.Test.YtjmgleomljfieaaQx9
import Derived.Test.YtjmgleomljfieaaQx10
set_option linter.unusedVariables false
set_option linter.unusedSimpArgs false
set_option linter.unusedSectionVars false
namespace Go.Proofs.Ytjmgleomljfieaa.Pure
open Go.RowKit Go.Proofs.Ytjmgleomljfieaa.Q Go.Proofs.YtjmgleomljfieaaW.PrintWords Go.Proofs.YtjmgleomljfieaaW.PrintLast Go.Proofs.Ytjmgleomljfieaa.Kit Go.Proofs.Ytjmgleomljfieaa.Wf

section
variable (ws : List S82) (wst : Int) (hg : goodW ws wst = true) (hb : ws.length ≤ 1048576) (hm : ∀ c ∈ ws, c.f1.length ≤ 1048576) (name : Int) (hn : inB name 0 4 = true) (l : List Int) (hl100 : l.length ≤ 100)
include hg hb hm hn hl100
def zeroP : Int × Int × List S97 × Int × Int × Int × List Int × Bool := (0, 0, [], 0, 0, 0, [], false)
theorem play_l0 : ∀ (post pre : List Int), l = pre ++ post → ∀ (acc : List Int), acc.length + post.length ≤ 100 → ∀ (state : Int) (ways : List S97) (stamp hits looks : Int), Ev (fun k => spec_GoodCache.f k ws wst name state ways stamp hits looks) true → ways.length ≤ 4 →
    ∃ Q, Ev (fun k => spec_PlayCalls.l0 k acc l (l.length : Int) (pre.length : Int) ws wst name state ways stamp hits looks) Q ∧ Ev (fun k => impl_PlayCalls.l0 k name acc l (l.length : Int) (pre.length : Int) ws wst name state ways stamp hits looks) Q ∧ Q.2.2.1.length ≤ 4 ∧ Q.2.2.2.2.2.2.1.length ≤ 100
  | [], pre, hl, acc, ha, state, ways, stamp, hits, looks, hG, hw => by
    simp only [List.append_nil] at hl
    subst hl
    refine ⟨(name, state, ways, stamp, hits, looks, acc, true), ?_, ?_, hw, by simpa using ha⟩
    · exact Ev.step (fun k => by simp only [spec_PlayCalls.l0]; rw [if_neg (by omega)]) (Ev.now _)
    · exact Ev.step (fun k => by simp only [impl_PlayCalls.l0]; rw [if_neg (by omega)]) (Ev.now _)
  | cl :: post, pre, hl, acc, ha, state, ways, stamp, hits, looks, hG, hw => by
    simp only [List.length_cons] at ha
    have hlen : l.length = pre.length + (post.length + 1) := by rw [hl]; simp
    have hrd : rd l (pre.length : Int) = cl := by rw [hl]; exact rd_at rfl
    have hwl := goodW_len hg
    obtain ⟨q, q1, q2, q3, q4⟩ := call_step ws wst hg hb hm name state ways stamp hits looks cl hG hn hw
    have S : ∀ Q, Ev (fun k => (if q.2.2.2.2.2.2.2 = true then (if acc.length < 17592186044416 then (spec_PlayCalls.l0 k (acc ++ [q.2.2.2.2.2.2.1]) l (l.length : Int) ((pre.length + 1 : Nat) : Int) ws wst q.1 q.2.1 q.2.2.1 q.2.2.2.1 q.2.2.2.2.1 q.2.2.2.2.2.1) else (none)) else (some (0, 0, ([] : List (S97)), 0, 0, 0, ([] : List Int), false)))) Q →
        Ev (fun k => spec_PlayCalls.l0 k acc l (l.length : Int) (pre.length : Int) ws wst name state ways stamp hits looks) Q := fun Q h =>
      Ev.step (fun k => by simp only [spec_PlayCalls.l0]; rw [if_pos (by omega), if_pos (by omega), if_pos (by omega), hrd, w_succ (by omega)]) (bind_ev q1 h)
    have J : ∀ (b : Bool) Q, Ev (fun k => if b = true then (some (0, 0, ([] : List (S97)), 0, 0, 0, ([] : List Int), false)) else ((impl_callBy.f k ws wst name state ways stamp hits looks cl).bind fun bt425 => (if bt425.2.2.2.2.2.2.2 = true then (if acc.length < 17592186044416 then (impl_PlayCalls.l0 k name (acc ++ [bt425.2.2.2.2.2.2.1]) l (l.length : Int) ((pre.length + 1 : Nat) : Int) ws wst bt425.1 bt425.2.1 bt425.2.2.1 bt425.2.2.2.1 bt425.2.2.2.2.1 bt425.2.2.2.2.2.1) else (none)) else (some (0, 0, ([] : List (S97)), 0, 0, 0, ([] : List Int), false))))) Q →
        Ev (fun k => impl_PlayCalls.j2 k name acc cl l (l.length : Int) (pre.length : Int) b ws wst name state ways stamp hits looks) Q := fun b Q h =>
      Ev.step (fun k => by simp only [impl_PlayCalls.j2]; rw [w_succ (by omega)]) h
    have P : ∀ Q, Ev (fun k => (if inB cl 0 (ws.length - 1) = true then ((impl_World_find.f k ws wst cl name).bind fun t424 => (impl_PlayCalls.j2 k name acc cl l (l.length : Int) (pre.length : Int) (t424 == 0) ws wst name state ways stamp hits looks)) else (impl_PlayCalls.j2 k name acc cl l (l.length : Int) (pre.length : Int) true ws wst name state ways stamp hits looks))) Q →
        Ev (fun k => impl_PlayCalls.l0 k name acc l (l.length : Int) (pre.length : Int) ws wst name state ways stamp hits looks) Q := fun Q h =>
      Ev.step (fun k => by simp only [impl_PlayCalls.l0]; rw [if_pos (by omega), if_pos (by omega), if_pos (by omega), hrd, w64 (x := (ws.length : Int) - 1) (by omega) (by omega), impl_in]; simp only [Option.bind_some]) h
    rcases q4 with rfl | ⟨k1, k2, k3, k4⟩
    · refine ⟨zeroP, S _ (by simpa [zeroC, zeroP] using Ev.now _), P _ ?_, by simp [zeroP], by simp [zeroP]⟩
      cases hc : inB cl 0 (ws.length - 1) with
      | false => exact ite_f (by simp) (J _ _ (ite_t rfl (Ev.now _)))
      | true =>
        obtain ⟨t, t1, t2, t3⟩ := q3 hc
        refine ite_t rfl (bind_ev t1 (J _ _ ?_))
        by_cases ht : t = 0
        · exact ite_t (by simp [ht]) (Ev.now _)
        · refine ite_f (by simp [ht]) (bind_ev (t3 ht) (ite_f (by simp [zeroC]) (Ev.now _)))
    · obtain ⟨Q, r1, r2, r3, r4⟩ := play_l0 post (pre ++ [cl]) (by simp [hl]) (acc ++ [q.2.2.2.2.2.2.1]) (by simp; omega) q.2.1 q.2.2.1 q.2.2.2.1 q.2.2.2.2.1 q.2.2.2.2.2.1 (by rw [k2] at k4; exact k4) k3
      have e2 : (((pre ++ [cl]).length : Nat) : Int) = ((pre.length + 1 : Nat) : Int) := by simp
      rw [e2] at r1 r2
      refine ⟨Q, S _ (ite_t k1 (ite_t (by omega) (by rw [k2]; exact r1))), P _ ?_, r3, r4⟩
      cases hc : inB cl 0 (ws.length - 1) with
      | false =>
        have := q2 hc
        rw [this] at k1
        exact absurd k1 (by simp [zeroC])
      | true =>
        obtain ⟨t, t1, t2, t3⟩ := q3 hc
        refine ite_t rfl (bind_ev t1 (J _ _ ?_))
        by_cases ht : t = 0
        · have := t2 ht
          rw [this] at k1
          exact absurd k1 (by simp [zeroC])
        · exact ite_f (by simp [ht]) (bind_ev (t3 ht) (ite_t k1 (ite_t (by omega) (by rw [k2]; exact r2))))
end
theorem newC_good (ws : List S82) (wst name : Int) (hg : goodW ws wst = true) (hn : inB name 0 4 = true) (hb : ws.length ≤ 1048576) (hm : ∀ c ∈ ws, c.f1.length ≤ 1048576) : Ev (fun k => spec_GoodCache.f k ws wst name 0 [] wst 0 0) true := by
  have h1 := spec_world ws wst hb hm
  rw [hg] at h1
  have h3 := spec_state 0 0
  have hst : inB wst 0 wst = true := by
    simp only [goodW, Bool.and_eq_true] at hg
    have := (inB_iff _ _ _).1 hg.2
    exact (inB_iff _ _ _).2 (by omega)
  unfold spec_GoodCache.f
  simp only [spec_l12Name.f, spec_in, Option.bind_some, hn, hst]
  refine bind_ev h1 (ite_t (by trivial) (ite_t (by trivial) (bind_ev h3 (ite_t (by simp [stateB]) (ite_t (by trivial) ?_)))))
  have : inB 0 0 1000000 = true := by decide
  simp only [this]
  refine ite_t (by trivial) ?_
  refine Ev.step (fun k => by simp only [spec_GoodCache.j0]; rfl) ?_
  refine ite_f (by simp) ?_
  exact Ev.step (fun k => by simp only [spec_GoodCache.l0]; rw [if_neg (by simp)]) (Ev.now _)
theorem play_both (ws : List S82) (wst name : Int) (l : List Int) (hb : ws.length ≤ 1048576) (hm : ∀ c ∈ ws, c.f1.length ≤ 1048576) :
    ∃ Q, Ev (fun k => spec_PlayCalls.f k ws wst name l) Q ∧ Ev (fun k => impl_PlayCalls.f k ws wst name l) Q ∧ Q.2.2.1.length ≤ 4 ∧ Q.2.2.2.2.2.2.1.length ≤ 100 := by
  have h1 := spec_world ws wst hb hm
  have h2 := impl_world ws wst hb
  have js : ∀ (n s : Int) (w : List S97) (a b c : Int), Ev (fun k => spec_PlayCalls.j0 k l true ws wst n s w a b c) zeroP := fun n s w a b c =>
    by
      refine Ev.step (fun k => by simp only [spec_PlayCalls.j0]; rfl) ?_
      exact (ite_t (by trivial) (Ev.now _))
  have jp : Ev (fun k => impl_PlayCalls.j0 k name l true ws wst) zeroP :=
    by
      refine Ev.step (fun k => by simp only [impl_PlayCalls.j0]; rfl) ?_
      exact (ite_t (by trivial) (Ev.now _))
  unfold spec_PlayCalls.f impl_PlayCalls.f spec_NewCache.f spec_l12Name.f
  simp only [spec_in, impl_in, Option.bind_some]
  cases hg : goodW ws wst with
  | false =>
    rw [hg] at h1 h2
    exact ⟨zeroP, bind_ev (bind_ev h1 (ite_f (by simp) (Ev.now _))) (ite_f (by simp) (js _ _ _ _ _ _)), bind_ev h2 (ite_f (by simp) jp), by simp [zeroP], by simp [zeroP]⟩
  | true =>
    rw [hg] at h1 h2
    cases hn : inB name 0 4 with
    | false => exact ⟨zeroP, bind_ev (bind_ev h1 (ite_t rfl (ite_f (by simp) (Ev.now _)))) (ite_f (by simp) (js _ _ _ _ _ _)), bind_ev h2 (ite_t rfl (ite_f (by simp) jp)), by simp [zeroP], by simp [zeroP]⟩
    | true =>
      by_cases h100 : (l.length : Int) > 100
      · refine ⟨zeroP, bind_ev (bind_ev h1 (ite_t rfl (ite_t rfl (Ev.now _)))) (ite_t rfl ?_), bind_ev h2 (ite_t rfl (ite_t rfl ?_)), by simp [zeroP], by simp [zeroP]⟩
        · rw [show decide ((l.length : Int) > 100) = true from decide_eq_true h100]; exact js _ _ _ _ _ _
        · rw [show decide ((l.length : Int) > 100) = true from decide_eq_true h100]; exact jp
      · obtain ⟨Q, r1, r2, r3, r4⟩ := play_l0 ws wst hg hb hm name hn l (by omega) l [] rfl [] (by simp; omega) 0 [] wst 0 0 (newC_good ws wst name hg hn hb hm) (by simp)
        refine ⟨Q, bind_ev (bind_ev h1 (ite_t rfl (ite_t rfl (Ev.now _)))) (ite_t rfl ?_), bind_ev h2 (ite_t rfl (ite_t rfl ?_)), r3, r4⟩
        · rw [show decide ((l.length : Int) > 100) = false from decide_eq_false h100]
          refine Ev.step (fun k => by simp only [spec_PlayCalls.j0]; rfl) ?_
          exact (ite_f (by simp) (by simpa using r1))
        · rw [show decide ((l.length : Int) > 100) = false from decide_eq_false h100]
          refine Ev.step (fun k => by simp only [impl_PlayCalls.j0]; rfl) ?_
          exact (ite_f (by simp) (by simpa using r2))
end Go.Proofs.Ytjmgleomljfieaa.Pure
