/- Drawn worlds: they are there. Conditions: none. -/
import Derived.Test.YtjmgleomljfieaaPCur
import Derived.Test.YtjmgleomljfieaaPWb
import Derived.Test.YtjmgleomljfieaaQx0
import Derived.Test.YtjmgleomljfieaaQx5
import Derived.Test.YtjmgleomljfieaaQx6
import Derived.Test.YtjmgleomljfieaaQx7
import Derived.Test.YtjmgleomljfieaaQx8
set_option linter.unusedVariables false
set_option linter.unusedSimpArgs false
set_option linter.unusedSectionVars false
namespace Go.Proofs.Ytjmgleomljfieaa.Pure
open Go.RowKit Go.Proofs.Ytjmgleomljfieaa.Q Go.Proofs.YtjmgleomljfieaaW.PrintWords Go.Proofs.YtjmgleomljfieaaW.PrintLast Go.Proofs.Ytjmgleomljfieaa.Kit

def Five (ws : List S82) : Prop := ∀ c ∈ ws, c.f1.length = 5
theorem five_set {ws : List S82} (h : Five ws) {c : S82} (hc : c.f1.length = 5) (j : Nat) : Five (ws.set j c) := by
  intro d hd
  rcases List.mem_or_eq_of_mem_set hd with h1 | h1
  · exact h d h1
  · subst h1; exact hc
theorem five_at {ws : List S82} (h : Five ws) {i : Int} (h0 : 0 ≤ i) (h1 : i < ws.length) : (rd_T82 ws i).f1.length = 5 := by
  have hl : i.toNat < ws.length := by omega
  have : rd_T82 ws i = ws[i.toNat] := by unfold rd_T82; rw [List.getD_eq_getElem?_getD]; simp [hl]
  rw [this]; exact h _ (List.getElem_mem hl)
section
variable {c : List Int} (hc : Bytes c)
include hc
theorem world_l1 (n : Int) (kk : Nat) (hk : kk ≤ 1000) (ws : List S82) (hw : ws.length ≤ 1000) (st up : Int) : ∀ (d m : Nat) (acc : List Int) (a s : Int), m + d = 5 → acc.length = m → 0 ≤ a → a + 4 * d ≤ 900000020 →
    ∃ acc' a' s', acc'.length = 5 ∧ a ≤ a' ∧ a' ≤ a + 4 * d ∧ ∀ R, Ev (fun k => spec_l1Cur_world.l0 k n ((kk + 1 : Nat) : Int) c a' s' (ws ++ [⟨up, acc'⟩]) st) R → Ev (fun k => spec_l1Cur_world.l1 k n (kk : Int) (m : Int) c a s ws st up acc) R
  | 0, m, acc, a, s, hd, ha, h0, h1 => by
    refine ⟨acc, a, s, by omega, by omega, by omega, fun R h => ?_⟩
    refine Ev.step (fun k => by simp only [spec_l1Cur_world.l1]; rw [if_neg (by omega), w_succ (by omega)]) ?_
    exact ite_t (by omega) h
  | d + 1, m, acc, a, s, hd, ha, h0, h1 => by
    obtain ⟨b, a1, s1, e1, p0, p1⟩ := one_ok hc s 2 h0 (by omega)
    have go : ∀ R, Ev (fun k => (if b = true then ((spec_l1Cur_pick.f c a1 s1 9).bind fun bt245 => (if acc.length < 17592186044416 then (spec_l1Cur_world.l1 k n (kk : Int) (wrap64 ((m : Int) + 1)) c bt245.2.1 bt245.2.2 ws st up (acc ++ [wrap64 (1 + bt245.1)])) else (none))) else (if (kk : Int) = 0 then (if (m : Int) = 0 then ((spec_l1Cur_pick.f c a1 s1 9).bind fun bt251 => (if acc.length < 17592186044416 then (spec_l1Cur_world.l1 k n (kk : Int) (wrap64 ((m : Int) + 1)) c bt251.2.1 bt251.2.2 ws st up (acc ++ [wrap64 (1 + bt251.1)])) else (none))) else (if acc.length < 17592186044416 then (spec_l1Cur_world.l1 k n (kk : Int) (wrap64 ((m : Int) + 1)) c a1 s1 ws st up (acc ++ [0])) else (none))) else (if acc.length < 17592186044416 then (spec_l1Cur_world.l1 k n (kk : Int) (wrap64 ((m : Int) + 1)) c a1 s1 ws st up (acc ++ [0])) else (none))))) R → Ev (fun k => spec_l1Cur_world.l1 k n (kk : Int) (m : Int) c a s ws st up acc) R := by
      intro R h
      refine Ev.step (fun k => by simp only [spec_l1Cur_world.l1]; rw [if_pos (by omega)]) ?_
      exact bind_ev (const_ev e1) h
    have picked : ∃ acc' a' s', acc'.length = 5 ∧ a ≤ a' ∧ a' ≤ a + 4 * (d + 1 : Nat) ∧ ∀ R, Ev (fun k => spec_l1Cur_world.l0 k n ((kk + 1 : Nat) : Int) c a' s' (ws ++ [⟨up, acc'⟩]) st) R → Ev (fun k => (spec_l1Cur_pick.f c a1 s1 9).bind fun bt245 => (if acc.length < 17592186044416 then (spec_l1Cur_world.l1 k n (kk : Int) (wrap64 ((m : Int) + 1)) c bt245.2.1 bt245.2.2 ws st up (acc ++ [wrap64 (1 + bt245.1)])) else (none))) R := by
      obtain ⟨r, a2, s2, e2, _, _, p2, p3⟩ := cpick_ok hc s1 9 (a := a1) (by omega) (by omega)
      obtain ⟨acc', a', s', q1, q2, q3, q4⟩ := world_l1 n kk hk ws hw st up d (m + 1) (acc ++ [wrap64 (1 + r)]) a2 s2 (by omega) (by simp; omega) (by omega) (by omega)
      refine ⟨acc', a', s', q1, by omega, by omega, fun R h => bind_ev (const_ev e2) (ite_t (by omega) ?_)⟩
      rw [w_succ (by omega)]
      exact q4 R h
    have plain : ∃ acc' a' s', acc'.length = 5 ∧ a ≤ a' ∧ a' ≤ a + 4 * (d + 1 : Nat) ∧ ∀ R, Ev (fun k => spec_l1Cur_world.l0 k n ((kk + 1 : Nat) : Int) c a' s' (ws ++ [⟨up, acc'⟩]) st) R → Ev (fun k => if acc.length < 17592186044416 then (spec_l1Cur_world.l1 k n (kk : Int) (wrap64 ((m : Int) + 1)) c a1 s1 ws st up (acc ++ [0])) else (none)) R := by
      obtain ⟨acc', a', s', q1, q2, q3, q4⟩ := world_l1 n kk hk ws hw st up d (m + 1) (acc ++ [0]) a1 s1 (by omega) (by simp; omega) (by omega) (by omega)
      refine ⟨acc', a', s', q1, by omega, by omega, fun R h => ite_t (by omega) ?_⟩
      rw [w_succ (by omega)]
      exact q4 R h
    by_cases hb : b = true
    · obtain ⟨acc', a', s', q1, q2, q3, q4⟩ := picked
      exact ⟨acc', a', s', q1, q2, q3, fun R h => go R (ite_t hb (q4 R h))⟩
    · by_cases h5 : (kk : Int) = 0
      · by_cases h7 : (m : Int) = 0
        · obtain ⟨acc', a', s', q1, q2, q3, q4⟩ := picked
          exact ⟨acc', a', s', q1, q2, q3, fun R h => go R (ite_f hb (ite_t h5 (ite_t h7 (q4 R h))))⟩
        · obtain ⟨acc', a', s', q1, q2, q3, q4⟩ := plain
          exact ⟨acc', a', s', q1, q2, q3, fun R h => go R (ite_f hb (ite_t h5 (ite_f h7 (q4 R h))))⟩
      · obtain ⟨acc', a', s', q1, q2, q3, q4⟩ := plain
        exact ⟨acc', a', s', q1, q2, q3, fun R h => go R (ite_f hb (ite_f h5 (q4 R h)))⟩
theorem world_l0 (n : Nat) (hn : n ≤ 8) (hn1 : 1 ≤ n) (st : Int) : ∀ (d kk : Nat) (ws : List S82) (a s : Int), kk + d = n → ws.length = kk → Five ws → 0 ≤ a → a + 30 * d ≤ 800000000 →
    ∃ ws' st' a' s', Ev (fun k => spec_l1Cur_world.l0 k (n : Int) (kk : Int) c a s ws st) (ws', st', a', s') ∧ ws'.length = n ∧ Five ws' ∧ a ≤ a' ∧ a' ≤ a + 30 * d + 10
  | 0, kk, ws, a, s, hd, hw, h5, h0, h1 => by
    obtain ⟨r, a1, s1, e1, r0, r1, p0, p1⟩ := cpick_ok hc s 40 h0 (by omega)
    have go : ∀ R, Ev (fun k => (if r = 0 then ((spec_l1Cur_among.f c a1 s1 (([(-1), 1000000, 1000001] : List Int))).bind fun bt269 => (some (ws, bt269.1, bt269.2.1, bt269.2.2))) else (if r = 1 then (if 0 < (ws.length : Int) then (some ((ws.set (0 : Int).toNat (⟨0, (rd_T82 ws 0).f1⟩ : S82)), st, a1, s1)) else (none)) else (if r = 2 then (if 0 < (ws.length : Int) then (if 0 < (((rd_T82 ws 0).f1).length : Int) then (some ((ws.set (0 : Int).toNat (⟨(rd_T82 ws 0).f0, (((rd_T82 ws 0).f1).set (0 : Int).toNat 1001)⟩ : S82)), st, a1, s1)) else (none)) else (none)) else (some (ws, st, a1, s1)))))) R → Ev (fun k => spec_l1Cur_world.l0 k (n : Int) (kk : Int) c a s ws st) R := by
      intro R h
      refine Ev.step (fun k => by simp only [spec_l1Cur_world.l0]; rw [if_neg (by omega)]) ?_
      exact bind_ev (const_ev e1) h
    have e5 := five_at h5 (i := 0) (by omega) (by omega)
    by_cases hr0 : r = 0
    · obtain ⟨q, a2, s2, e2, _, p2, p3⟩ := among_ok hc s1 [-1, 1000000, 1000001] (by simp) (a := a1) (by omega) (by omega)
      exact ⟨ws, q, a2, s2, go _ (ite_t hr0 (bind_ev (const_ev e2) (Ev.now _))), by omega, h5, by omega, by omega⟩
    · by_cases hr1 : r = 1
      · exact ⟨_, st, a1, s1, go _ (ite_f hr0 (ite_t hr1 (ite_t (by omega) (Ev.now _)))), by simp; omega, five_set h5 (c := ⟨0, (rd_T82 ws 0).f1⟩) e5 _, by omega, by omega⟩
      · by_cases hr2 : r = 2
        · exact ⟨_, st, a1, s1, go _ (ite_f hr0 (ite_f hr1 (ite_t hr2 (ite_t (by omega) (ite_t (by omega) (Ev.now _)))))), by simp; omega, five_set h5 (by simpa using e5) _, by omega, by omega⟩
        · exact ⟨ws, st, a1, s1, go _ (ite_f hr0 (ite_f hr1 (ite_f hr2 (Ev.now _)))), by omega, h5, by omega, by omega⟩
  | d + 1, kk, ws, a, s, hd, hw, h5, h0, h1 => by
    obtain ⟨r, a1, s1, e1, r0, r1, p0, p1⟩ := cpick_ok hc s ((kk + 1 : Nat) : Int) h0 (by omega)
    obtain ⟨acc, a2, s2, q1, q2, q3, q4⟩ := world_l1 hc (n : Int) kk (by omega) ws (by omega) st (wrap64 (r - 1)) 5 0 [] a1 s1 (by omega) rfl (by omega) (by omega)
    obtain ⟨ws', st', a', s', m1, m2, m3, m4, m5⟩ := world_l0 n hn hn1 st d (kk + 1) (ws ++ [⟨wrap64 (r - 1), acc⟩]) a2 s2 (by omega) (by simp; omega) (by
      intro x hx
      rcases List.mem_append.1 hx with h | h
      · exact h5 x h
      · simp only [List.mem_singleton] at h; subst h; exact q1) (by omega) (by omega)
    refine ⟨ws', st', a', s', ?_, m2, m3, by omega, by omega⟩
    refine Ev.step (fun k => by simp only [spec_l1Cur_world.l0]; rw [if_pos (by omega), w_succ (by omega)]) ?_
    exact bind_ev (const_ev e1) (q4 _ m1)
theorem world_ok (a s : Int) (h0 : 0 ≤ a) (h1 : a ≤ 700000000) : ∃ ws st a' s', Ev (fun k => spec_l1Cur_world.f k c a s) (ws, st, a', s') ∧ 1 ≤ ws.length ∧ ws.length ≤ 8 ∧ Five ws ∧ a ≤ a' ∧ a' ≤ a + 1000 := by
  obtain ⟨r1, a1, s1, e1, _, _, p0, p1⟩ := cpick_ok hc s 3 h0 (by omega)
  obtain ⟨r2, a2, s2, e2, q0, q1, p2, p3⟩ := cpick_ok hc s1 8 (a := a1) (by omega) (by omega)
  have q1 := q1 (by omega)
  obtain ⟨n, rfl⟩ := Int.eq_ofNat_of_zero_le q0
  obtain ⟨ws, st, a', s', m1, m2, m3, m4, m5⟩ := world_l0 hc (n + 1) (by omega) (by omega) r1 (n + 1) 0 [] a2 s2 (by omega) rfl (by intro x hx; simp at hx) (by omega) (by omega)
  refine ⟨ws, st, a', s', ?_, by omega, by omega, m3, by omega, by omega⟩
  unfold spec_l1Cur_world.f
  refine bind_ev (const_ev e1) (bind_ev (const_ev e2) ?_)
  have e : wrap64 (1 + (n : Int)) = ((n + 1 : Nat) : Int) := by rw [w64 (by omega) (by omega)]; omega
  simp only
  rw [e]
  exact m1
theorem drawSet_ok : ∃ ws st a n t, Ev (fun k => spec_DrawSetMethod.f k c) (ws, st, a, n, t) ∧ 1 ≤ ws.length ∧ ws.length ≤ 8 ∧ Five ws := by
  obtain ⟨ws, st, a1, s1, e1, w1, w2, w3, p0, p1⟩ := world_ok hc 0 0 (by omega) (by omega)
  obtain ⟨r2, a2, s2, e2, _, _, p2, p3⟩ := cpick_ok hc s1 (wrap64 ((ws.length : Int) + 1)) (a := a1) (by omega) (by omega)
  obtain ⟨r3, a3, s3, e3, _, _, p4, p5⟩ := cpick_ok hc s2 5 (a := a2) (by omega) (by omega)
  obtain ⟨r4, a4, s4, e4, _, p6, p7⟩ := among_ok hc s3 [-1, 0, 5, 1000, 1001] (by simp) (a := a3) (by omega) (by omega)
  refine ⟨ws, st, r2, r3, r4, ?_, w1, w2, w3⟩
  unfold spec_DrawSetMethod.f
  exact bind_ev e1 (bind_ev (const_ev e2) (bind_ev (const_ev e3) (bind_ev (const_ev e4) (Ev.now _))))
theorem drawFind_ok : ∃ ws st a n, Ev (fun k => spec_DrawFindMethod.f k c) (ws, st, a, n) ∧ 1 ≤ ws.length ∧ ws.length ≤ 8 ∧ Five ws := by
  obtain ⟨ws, st, a1, s1, e1, w1, w2, w3, p0, p1⟩ := world_ok hc 0 0 (by omega) (by omega)
  obtain ⟨r2, a2, s2, e2, _, _, p2, p3⟩ := cpick_ok hc s1 (wrap64 ((ws.length : Int) + 1)) (a := a1) (by omega) (by omega)
  obtain ⟨r3, a3, s3, e3, _, _, p4, p5⟩ := cpick_ok hc s2 6 (a := a2) (by omega) (by omega)
  refine ⟨ws, st, r2, r3, ?_, w1, w2, w3⟩
  unfold spec_DrawFindMethod.f
  exact bind_ev e1 (bind_ev (const_ev e2) (bind_ev (const_ev e3) (Ev.now _)))
theorem drawSub_ok : ∃ ws st a n, Ev (fun k => spec_DrawSubclassOf.f k c) (ws, st, a, n) ∧ 1 ≤ ws.length ∧ ws.length ≤ 8 ∧ Five ws := by
  obtain ⟨ws, st, a1, s1, e1, w1, w2, w3, p0, p1⟩ := world_ok hc 0 0 (by omega) (by omega)
  obtain ⟨r2, a2, s2, e2, _, _, p2, p3⟩ := cpick_ok hc s1 (wrap64 ((ws.length : Int) + 1)) (a := a1) (by omega) (by omega)
  obtain ⟨r3, a3, s3, e3, _, _, p4, p5⟩ := cpick_ok hc s2 (ws.length : Int) (a := a2) (by omega) (by omega)
  refine ⟨ws, st, r2, r3, ?_, w1, w2, w3⟩
  unfold spec_DrawSubclassOf.f
  exact bind_ev e1 (bind_ev (const_ev e2) (bind_ev (const_ev e3) (Ev.now _)))
theorem drawNew_ok : ∃ ws st n, Ev (fun k => spec_DrawNewCache.f k c) (ws, st, n) ∧ 1 ≤ ws.length ∧ ws.length ≤ 8 ∧ Five ws := by
  obtain ⟨ws, st, a1, s1, e1, w1, w2, w3, p0, p1⟩ := world_ok hc 0 0 (by omega) (by omega)
  obtain ⟨r2, a2, s2, e2, _, _, p2, p3⟩ := cpick_ok hc s1 7 (a := a1) (by omega) (by omega)
  refine ⟨ws, st, wrap64 (r2 - 1), ?_, w1, w2, w3⟩
  unfold spec_DrawNewCache.f
  exact bind_ev e1 (bind_ev (const_ev e2) (Ev.now _))
end
end Go.Proofs.Ytjmgleomljfieaa.Pure
