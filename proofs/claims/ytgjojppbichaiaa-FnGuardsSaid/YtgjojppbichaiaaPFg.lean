/- FnGuards: the first guard that is there for a step and a code takes it, for drawn lines. Conditions: none. -/
import Derived.Test.YtgjojppbichaiaaPDr
import Derived.Test.YtgjojppbichaiaaPLs
import Derived.Test.YtgjojppbichaiaaPGa
import Derived.Test.YtgjojppbichaiaaPRun
import Derived.Test.YtgjojppbichaiaaQx0
import Derived.Test.YtgjojppbichaiaaQx2
import Derived.Test.YtgjojppbichaiaaQx11
import Derived.Test.YtgjojppbichaiaaQx12
import Derived.Test.YtgjojppbichaiaaQx13
set_option linter.unusedVariables false
set_option linter.unusedSimpArgs false
set_option linter.unusedSectionVars false
namespace Go.Proofs.Ytgjojppbichaiaa.Pure
open Go.RowKit Go.Proofs.Ytgjojppbichaiaa.Q Go.Proofs.YtgjojppbichaiaaW.PrintWords Go.Proofs.YtgjojppbichaiaaW.PrintLast Go.Proofs.Ytgjojppbichaiaa.Kit

section
variable {c : List Int} (hc : Bytes c)
include hc
theorem ln_j1 (b : Bool) (S : List S86) (G : List S63) (hb : b = true → 1 ≤ S.length) (hS : S.length ≤ 200000) {a : Int} (s : Int) (h0 : 0 ≤ a) (h1 : a ≤ 100000000) :
    ∃ S' a' s', Ev (fun k => spec_l1Cur_lined.j1 k b c a s S G) (S', G, a', s') ∧ S'.length = S.length ∧ a ≤ a' ∧ a' ≤ a + 10 := by
  by_cases h : b = true
  · have hp := hb h
    obtain ⟨r, a2, s2, e2, r0, r1, q0, q1⟩ := cpick_ok hc s (S.length : Int) (a := a) (by omega) (by omega)
    obtain ⟨x, a3, s3, e3, _, _, w0, w1⟩ := cpick_ok hc s2 8 (a := a2) (by omega) (by omega)
    obtain ⟨y, a4, s4, e4, _, _, z0, z1⟩ := cpick_ok hc s3 41 (a := a3) (by omega) (by omega)
    obtain ⟨z, a5, s5, e5, _, _, y0, y1⟩ := cpick_ok hc s4 (wrap64 ((S.length : Int) + 2)) (a := a4) (by omega) (by omega)
    refine ⟨S.set r.toNat ⟨x, y, z⟩, a5, s5, ?_, by simp, by omega, by omega⟩
    refine Ev.step (fun k => by simp only [spec_l1Cur_lined.j1]; rw [if_pos h]) ?_
    exact bind_ev (const_ev e2) (bind_ev (const_ev e3) (bind_ev (const_ev e4) (bind_ev (const_ev e5) (ite_t r0 (ite_t (r1 (by omega)) (Ev.now _))))))
  · refine ⟨S, a, s, ?_, rfl, by omega, by omega⟩
    refine Ev.step (fun k => by simp only [spec_l1Cur_lined.j1]; rw [if_neg h]) ?_
    exact Ev.now _
theorem ln_j0 (S : List S86) (G : List S63) (hS : S.length ≤ 200000) {a : Int} (s : Int) (h0 : 0 ≤ a) (h1 : a ≤ 90000000) :
    ∃ S' a' s', Ev (fun k => spec_l1Cur_lined.j0 k c a s S G) (S', G, a', s') ∧ S'.length = S.length ∧ a ≤ a' ∧ a' ≤ a + 20 := by
  obtain ⟨b, a1, s1, e1, p0, p1⟩ := one_ok hc s 8 h0 (by omega)
  have go : ∀ R, Ev (fun k => if b = true then (spec_l1Cur_lined.j1 k (decide ((S.length : Int) > 0)) c a1 s1 S G) else (spec_l1Cur_lined.j1 k false c a1 s1 S G)) R → Ev (fun k => spec_l1Cur_lined.j0 k c a s S G) R := by
    intro R h
    refine Ev.step (fun k => by simp only [spec_l1Cur_lined.j0]; rfl) ?_
    exact bind_ev (const_ev e1) h
  by_cases hb : b = true
  · obtain ⟨S', a', s', e, x0, x1, x2⟩ := ln_j1 hc (decide ((S.length : Int) > 0)) S G (fun h => by have := of_decide_eq_true h; omega) hS s1 (a := a1) (by omega) (by omega)
    exact ⟨S', a', s', go _ (ite_t hb e), x0, by omega, by omega⟩
  · obtain ⟨S', a', s', e, x0, x1, x2⟩ := ln_j1 hc false S G (fun h => by cases h) hS s1 (a := a1) (by omega) (by omega)
    exact ⟨S', a', s', go _ (ite_f hb e), x0, by omega, by omega⟩
theorem lined_ok : ∃ S G a' s', Ev (fun k => spec_l1Cur_lined.f k c 0 0) (S, G, a', s') ∧ S.length ≤ 200000 ∧ G.length ≤ 200000 ∧ 0 ≤ a' ∧ a' ≤ 10000 := by
  obtain ⟨l, a1, s1, e1, p0, p1, p2⟩ := xtree_ok hc (a := 0) 0 (by omega) (by omega)
  have e2 := spec_lineOf l (by omega)
  have hl := lineOf_len l
  generalize lineOf l = r at e2 hl
  obtain ⟨S, G, b⟩ := r
  simp only at hl
  have go : ∀ R, Ev (fun k => if b = true then (spec_l1Cur_lined.j0 k c a1 s1 S G) else (spec_l1Cur_lined.j0 k c a1 s1 (([(⟨2, 1, 0⟩ : S86)] : List (S86))) (([(⟨0, 1, 0, 1⟩ : S63)] : List (S63))))) R → Ev (fun k => spec_l1Cur_lined.f k c 0 0) R := by
    intro R h
    unfold spec_l1Cur_lined.f
    exact bind_ev e1 (bind_ev e2 h)
  by_cases hb : b = true
  · obtain ⟨S', a', s', e, x0, x1, x2⟩ := ln_j0 hc S G (by omega) s1 (a := a1) (by omega) (by omega)
    exact ⟨S', G, a', s', go _ (ite_t hb e), by omega, by omega, by omega, by omega⟩
  · obtain ⟨S', a', s', e, x0, x1, x2⟩ := ln_j0 hc [⟨2, 1, 0⟩] [⟨0, 1, 0, 1⟩] (by simp) s1 (a := a1) (by omega) (by omega)
    exact ⟨S', _, a', s', go _ (ite_f hb e), by simp at x0; omega, by simp, by omega, by omega⟩
theorem draw_guardAt : ∃ S G a d, Ev (fun k => spec_DrawGuardAt.f k c) (S, G, a, d) ∧ S.length ≤ 200000 ∧ G.length ≤ 200000 := by
  obtain ⟨S, G, a1, s1, e1, p0, p1, p2, p3⟩ := lined_ok hc
  obtain ⟨x, a2, s2, e2, _, _, w0, w1⟩ := cpick_ok hc s1 (wrap64 ((S.length : Int) + 1)) (a := a1) (by omega) (by omega)
  obtain ⟨y, a3, s3, e3, _, _, z0, z1⟩ := cpick_ok hc s2 11 (a := a2) (by omega) (by omega)
  refine ⟨S, G, x, y, ?_, p0, p1⟩
  unfold spec_DrawGuardAt.f
  exact bind_ev e1 (bind_ev (const_ev e2) (bind_ev (const_ev e3) (Ev.now _)))
theorem draw_runLined : ∃ S G f, Ev (fun k => spec_DrawRunLined.f k c) (S, G, f) ∧ S.length ≤ 200000 ∧ G.length ≤ 200000 := by
  obtain ⟨S, G, a1, s1, e1, p0, p1, p2, p3⟩ := lined_ok hc
  obtain ⟨x, a2, s2, e2, _, w0, w1⟩ := among_ok hc s1 [-1, 0, 5, 300, 2000, 2001] (by simp) (a := a1) (by omega) (by omega)
  refine ⟨S, G, x, ?_, p0, p1⟩
  unfold spec_DrawRunLined.f
  exact bind_ev e1 (bind_ev (const_ev e2) (Ev.now _))
end
theorem sameInts_l0 : ∀ (post pre : List Int), pre.length + post.length ≤ 1048576 →
    Ev (fun k => laws_sameInts.l0 k (pre ++ post) (pre ++ post) ((pre ++ post).length : Int) (pre.length : Int)) true
  | [], pre, hb => by
    refine Ev.step (fun k => by simp only [laws_sameInts.l0]; rw [if_neg (by simp)]) ?_
    exact Ev.now _
  | x :: post, pre, hb => by
    simp only [List.length_cons] at hb
    have ih := sameInts_l0 post (pre ++ [x]) (by simp; omega)
    have hlt : (pre.length : Int) < ((pre ++ x :: post).length : Int) := by simp; omega
    have h0 : (0 : Int) ≤ (pre.length : Int) := by omega
    refine Ev.step (fun k => by simp only [laws_sameInts.l0]; rw [if_pos hlt]) ?_
    refine ite_t h0 (ite_t hlt (ite_t hlt (ite_t trivial ?_)))
    rw [w_succ (by omega)]
    simpa using ih
theorem sameInts_ev (l : List Int) (hb : l.length ≤ 1048576) : Ev (fun k => laws_sameInts.f k l l) true := by
  have h := sameInts_l0 l [] (by simpa using hb)
  unfold laws_sameInts.f
  refine ite_t rfl ?_
  simpa using h
/-- A run's steps are no more than what it may do. -/
theorem rn_steps {ss : List S86} {gs : List S63} : ∀ (m : Nat) (a : Int) (said regs : List Int) (done : Int), (rn ss gs m a said regs done).2.2.2 = true → (rn ss gs m a said regs done).2.2.1 ≤ done + m
  | 0, a, said, regs, done, h => by
    unfold rn at h ⊢; split
    · rename_i h1; rw [if_pos h1] at h; cases h
    · simp
  | m + 1, a, said, regs, done, h => by
    have hj : ∀ (s r : List Int) (c n : Int), ((jn gs a s r c n).then (fun a s r => rn ss gs m a s r (done + 1)) (done + 1)).2.2.2 = true → ((jn gs a s r c n).then (fun a s r => rn ss gs m a s r (done + 1)) (done + 1)).2.2.1 ≤ done + (m + 1 : Nat) := by
      intro s r c n
      unfold jn
      split
      · intro h; have := rn_steps m _ _ _ _ h; simp only [Stp.then]; omega
      · split
        · intro _; simp only [Stp.then]; omega
        · intro h; have := rn_steps m _ _ _ _ h; simp only [Stp.then]; omega
    unfold rn at h ⊢
    split
    · rename_i h1
      rw [if_pos h1] at h
      revert h
      unfold stp
      split
      · split
        · exact hj _ _ _ _
        · intro h; simp [Stp.then] at h
      · split
        · exact hj _ _ _ _
        · split
          · exact hj _ _ _ _
          · split
            · exact hj _ _ _ _
            · split
              · exact hj _ _ _ _
              · split <;> exact hj _ _ _ _
    · simp only; omega
theorem runL_steps (ss : List S86) (gs : List S63) (fuel : Int) (h : (runL ss gs fuel).2.2.2 = true) : (runL ss gs fuel).2.2.1 ≤ fuel := by
  unfold runL at h ⊢
  split
  · rename_i h1
    rw [if_pos h1] at h
    have h2 := (inB_iff _ _ _).1 h1.2
    have := rn_steps _ _ _ _ _ h
    omega
  · rename_i h1; rw [if_neg h1] at h; cases h
/-- The guards ahead of the one that is found take nothing. -/
theorem gI_first (a c : Int) : ∀ (gs : List S63) (i j : Nat), j < gs.length → ((i + j : Nat) : Int) ≤ gI a c i gs → hits a c (rd_T63 gs (j : Int)) = decide (((i + j : Nat) : Int) = gI a c i gs)
  | [], i, j, hj, _ => by simp at hj
  | g :: gs, i, j, hj, hle => by
    unfold gI at hle ⊢
    cases j with
    | zero =>
      have e : rd_T63 (g :: gs) ((0 : Nat) : Int) = g := rfl
      rw [e]
      by_cases h : hits a c g = true
      · rw [if_pos h, h]; simp
      · rw [if_neg h] at hle ⊢
        have h1 : gI a c (i + 1) gs ≠ (i : Int) := by
          have : ∀ (gs : List S63) (i : Nat), gI a c i gs = -1 ∨ (i : Int) ≤ gI a c i gs := by
            intro gs
            induction gs with
            | nil => intro i; left; rfl
            | cons g gs ih =>
              intro i
              unfold gI
              split
              · right; omega
              · rcases ih (i + 1) with h | h
                · left; exact h
                · right; omega
          rcases this gs (i + 1) with h2 | h2 <;> omega
        have h2 : hits a c g = false := by simpa using h
        rw [h2]
        symm
        apply decide_eq_false
        omega
    | succ j =>
      simp only [List.length_cons] at hj
      have e : rd_T63 (g :: gs) ((j + 1 : Nat) : Int) = rd_T63 gs (j : Int) := by unfold rd_T63; rw [Int.toNat_natCast, Int.toNat_natCast]; rfl
      rw [e]
      by_cases h : hits a c g = true
      · rw [if_pos h] at hle; omega
      · rw [if_neg h] at hle ⊢
        have e2 : i + (j + 1) = i + 1 + j := by omega
        rw [e2] at hle ⊢
        exact gI_first a c gs (i + 1) j (by omega) hle
theorem fg_l0 (l1 : List Int) (hJ : Ev (fun k => laws_FnGuards.j2 k l1) true) (a d : Int) (S : List S86) (G : List S63) (hG : G.length ≤ 200000) (hK : 0 ≤ gI a d 0 G) : ∀ (m i : Nat), ((i + m : Nat) : Int) = gI a d 0 G + 1 → Ev (fun k => laws_FnGuards.l0 k l1 a d (gI a d 0 G) (i : Int) S G) true
  | 0, i, hi => by
    refine Ev.step (fun k => by simp only [laws_FnGuards.l0]; rw [if_neg (show ¬ ((i : Int) ≤ gI a d 0 G) by omega)]) ?_
    exact hJ
  | m + 1, i, hi => by
    have hlt := gI_lt a d 0 G
    have ih := fg_l0 l1 hJ a d S G hG hK m (i + 1) (by omega)
    have hf := gI_first a d G 0 i (by omega) (by omega)
    rw [Nat.zero_add] at hf
    have hle : (i : Int) ≤ gI a d 0 G := by omega
    have hl2 : (i : Int) < (G.length : Int) := by omega
    have h0 : (0 : Int) ≤ (i : Int) := by omega
    have hw : wrap64 ((i : Int) + 1) = ((i + 1 : Nat) : Int) := w_succ (by omega)
    have he : ((i : Int) == gI a d 0 G) = decide ((i : Int) = gI a d 0 G) := rfl
    refine Ev.step (fun k => by simp only [laws_FnGuards.l0]; rw [if_pos hle]) ?_
    refine ite_t h0 (ite_t hl2 ?_)
    rw [hw, he, ← hf]
    unfold hits
    by_cases c1 : a ≥ (rd_T63 G (i : Int)).f0
    · refine ite_t c1 ?_
      by_cases c2 : a < (rd_T63 G (i : Int)).f1
      · refine ite_t c2 ?_
        by_cases c3 : (rd_T63 G (i : Int)).f2 = 0
        · exact ite_t c3 (ite_f (by simp [c1, c2, c3]) ih)
        · refine ite_f c3 (ite_f ?_ ih)
          by_cases c4 : (rd_T63 G (i : Int)).f2 = d
          · simp [c1, c2, c4]
          · simp [c1, c2, c3, c4]
      · exact ite_f c2 (ite_f (by simp [c2]) ih)
    · exact ite_f c1 (ite_f (by simp [c1]) ih)
theorem FnGuards (l0 : List Int) (hp0 : l0.length ≤ maxLen ∧ ∀ x ∈ l0, (Lit.int .u8 x).wf = true) (l1 : List Int) (hp1 : l1.length ≤ maxLen ∧ ∀ x ∈ l1, (Lit.int .u8 x).wf = true) : ∃ k, laws_FnGuards.f k l0 l1 = some true := by
  obtain ⟨h1, hw0⟩ := hp0
  obtain ⟨h2, hw1⟩ := hp1
  refine Ev.rounds ?_
  have hc0 := bytes_of hw0
  have hc1 := bytes_of hw1
  unfold laws_FnGuards.f
  by_cases h : (wrap64 ((l0.length : Int) + (l1.length : Int))) > 1048576
  · exact ite_t h (Ev.now _)
  · refine ite_f h ?_
    obtain ⟨S, G, a, d, e1, p0, p1⟩ := draw_guardAt hc0
    have g1 := impl_gAt S G a d (by omega) (by omega)
    have g2 := spec_gAt S G a d (by omega) (by omega)
    have hJ : Ev (fun k => laws_FnGuards.j2 k l1) true := by
      obtain ⟨S', G', f, e2, q0, q1⟩ := draw_runLined hc1
      have r1 := impl_runL S' G' f (by omega) (by omega)
      have r2 := spec_runL S' G' f (by omega) (by omega)
      have r3 := runL_len S' G' f
      have r4 := runL_steps S' G' f
      generalize runL S' G' f = r at r1 r2 r3 r4
      obtain ⟨o, cd, n, b⟩ := r
      simp only at r3 r4
      refine Ev.step (fun k => by simp only [laws_FnGuards.j2]; rfl) ?_
      refine bind_ev e2 (bind_ev r1 (bind_ev r2 (ite_t (by simp) (bind_ev (sameInts_ev o (by omega)) (ite_t rfl (ite_t rfl (ite_t rfl ?_)))))))
      by_cases hb : b = true
      · exact ite_t hb (some_ev (decide_eq_true (r4 hb)))
      · exact ite_f hb (Ev.now _)
    refine bind_ev e1 (bind_ev g1 (bind_ev g2 (ite_f (by simp) (ite_t rfl ?_))))
    refine bind_ev (a := goodL S G) (by unfold impl_GoodLined.f; exact bind_ev (impl_good S G (by omega) (by omega)) (Ev.now _)) (bind_ev (spec_good S G (by omega) (by omega)) ?_)
    have hbn : (goodL S G != goodL S G) = false := by cases goodL S G <;> rfl
    rw [hbn]
    refine Ev.step (fun k => by simp only [laws_FnGuards.j0]; rw [if_neg (by simp)]) ?_
    unfold gAt
    by_cases hk : goodL S G = true ∧ (0 ≤ a ∧ a < S.length) ∧ inB d 1 9 = true ∧ 0 ≤ gI a d 0 G
    · rw [if_pos hk]
      refine ite_t rfl ?_
      have hlt := gI_lt a d 0 G
      have h3 := fg_l0 l1 hJ a d S G p1 hk.2.2.2 ((gI a d 0 G).toNat + 1) 0 (by omega)
      simpa using h3
    · rw [if_neg hk]
      exact ite_f (by simp) hJ
end Go.Proofs.Ytgjojppbichaiaa.Pure
