/- Drawn trees, patterns and pieces: they are there. Conditions: none. -/
import Derived.Test.YtfdbdbihhgabpaaPCur
import Derived.Test.YtfdbdbihhgabpaaPGC
import Derived.Test.YtfdbdbihhgabpaaQx0
import Derived.Test.YtfdbdbihhgabpaaQx10
import Derived.Test.YtfdbdbihhgabpaaQx11
import Derived.Test.YtfdbdbihhgabpaaQx14
set_option linter.unusedVariables false
set_option linter.unusedSimpArgs false
set_option linter.unusedSectionVars false
namespace Go.Proofs.Ytfdbdbihhgabpaa.Pure
open Go.RowKit Go.Proofs.Ytfdbdbihhgabpaa.Q Go.Proofs.YtfdbdbihhgabpaaW.PrintWords Go.Proofs.YtfdbdbihhgabpaaW.PrintLast Go.Proofs.Ytfdbdbihhgabpaa.Kit

section
variable {c : List Int} (hc : Bytes c)
include hc
theorem kinds_j1 (d : Nat) (any : Bool)
    (IH : ∀ e, d = e + 1 → ∀ (l3 : List Int) (a s : Int), l3.length + 2 ^ (e + 1) ≤ 1000000 → 0 ≤ a → a + 10 * ((2 ^ (e + 1) : Nat) : Int) ≤ 1000000000 → ∃ ys a' s', Ev (fun k => spec_l1Cur_kinds.f k c a s (e : Int) any l3) (l3 ++ ys, a', s') ∧ 1 ≤ ys.length ∧ ys.length + 1 ≤ 2 ^ (e + 1) ∧ a ≤ a' ∧ a' + 10 ≤ a + 10 * ((2 ^ (e + 1) : Nat) : Int))
    (b : Bool) (hb : b = true ∨ 1 ≤ d) (l3 : List Int) (a s : Int) (hl : l3.length + 2 ^ (d + 1) ≤ 1000000) (h0 : 0 ≤ a) (h1 : a + 10 * ((2 ^ (d + 1) : Nat) : Int) ≤ 1000000004) :
    ∃ ys a' s', Ev (fun k => spec_l1Cur_kinds.j1 k (d : Int) any l3 b c a s) (l3 ++ ys, a', s') ∧ 1 ≤ ys.length ∧ ys.length + 1 ≤ 2 ^ (d + 1) ∧ a ≤ a' ∧ a' + 14 ≤ a + 10 * ((2 ^ (d + 1) : Nat) : Int) := by
  have hP : 2 ≤ 2 ^ (d + 1) := by rw [Nat.pow_succ]; have := Nat.one_le_two_pow (n := d); omega
  by_cases hbt : b = true
  · obtain ⟨r, a1, s1, e1, r0, r1, p0, p1⟩ := cpick_ok hc s 2 h0 (by omega)
    refine ⟨[wrap64 (1 + r)], a1, s1, ?_, by simp, by simp; omega, p0, by omega⟩
    refine Ev.step (fun k => by simp only [spec_l1Cur_kinds.j1]; rw [if_pos hbt]) ?_
    exact bind_ev (const_ev e1) (ite_t (by omega) (Ev.now _))
  · have hd : 1 ≤ d := hb.resolve_left hbt
    obtain ⟨e, rfl⟩ : ∃ e, d = e + 1 := ⟨d - 1, by omega⟩
    have IH := IH e rfl
    have hp2 : 2 ^ (e + 1 + 1) = 2 * 2 ^ (e + 1) := by rw [Nat.pow_succ]; omega
    have hp1 : 2 ≤ 2 ^ (e + 1) := by rw [Nat.pow_succ]; have := Nat.one_le_two_pow (n := e); omega
    have hlt : e + 1 < 2 ^ (e + 1) := Nat.lt_two_pow_self
    rw [hp2] at hl h1 ⊢
    revert hl h1 IH hp1 hlt
    generalize 2 ^ (e + 1) = P
    intro hl h1 IH hp1 hlt
    obtain ⟨r, a1, s1, e1, r0, r1, p0, p1⟩ := cpick_ok hc s 4 h0 (by omega)
    have hw : wrap64 (((e + 1 : Nat) : Int) - 1) = (e : Int) := by rw [w64 (by omega) (by omega)]; omega
    have go : ∀ R, Ev (fun k => (if r = 0 then (if l3.length < 17592186044416 then ((spec_l1Cur_kinds.f k c a1 s1 (e : Int) any (l3 ++ [5])).bind fun bt363 => (some (bt363.1, bt363.2.1, bt363.2.2))) else (none)) else (if r = 1 then (if l3.length < 17592186044416 then ((spec_l1Cur_kinds.f k c a1 s1 (e : Int) any (l3 ++ [4])).bind fun bt371 => ((spec_l1Cur_kinds.f k c bt371.2.1 bt371.2.2 (e : Int) any bt371.1).bind fun bt376 => (some (bt376.1, bt376.2.1, bt376.2.2)))) else (none)) else (if l3.length < 17592186044416 then ((spec_l1Cur_kinds.f k c a1 s1 (e : Int) any (l3 ++ [3])).bind fun bt384 => ((spec_l1Cur_kinds.f k c bt384.2.1 bt384.2.2 (e : Int) any bt384.1).bind fun bt389 => (some (bt389.1, bt389.2.1, bt389.2.2)))) else (none))))) R → Ev (fun k => spec_l1Cur_kinds.j1 k ((e + 1 : Nat) : Int) any l3 b c a s) R := by
      intro R h
      refine Ev.step (fun k => by simp only [spec_l1Cur_kinds.j1]; rw [if_neg hbt, hw]) ?_
      exact bind_ev (const_ev e1) h
    by_cases hr0 : r = 0
    · obtain ⟨ys, a2, s2, k1, k2, k3, k4, k5⟩ := IH (l3 ++ [5]) a1 s1 (by simp; omega) (by omega) (by omega)
      refine ⟨5 :: ys, a2, s2, go _ (ite_t hr0 (ite_t (by omega) (bind_ev k1 (some_ev (by simp))))), by simp, by simp; omega, by omega, by omega⟩
    · have two : ∀ x : Int, ∃ ys a' s', Ev (fun k => (spec_l1Cur_kinds.f k c a1 s1 (e : Int) any (l3 ++ [x])).bind fun bt => ((spec_l1Cur_kinds.f k c bt.2.1 bt.2.2 (e : Int) any bt.1).bind fun bt2 => (some (bt2.1, bt2.2.1, bt2.2.2)))) (l3 ++ ys, a', s') ∧ 1 ≤ ys.length ∧ ys.length + 1 ≤ 2 * P ∧ a ≤ a' ∧ a' + 14 ≤ a + 10 * ((2 * P : Nat) : Int) := by
        intro x
        obtain ⟨ys, a2, s2, k1, k2, k3, k4, k5⟩ := IH (l3 ++ [x]) a1 s1 (by simp; omega) (by omega) (by omega)
        obtain ⟨zs, a3, s3, m1, m2, m3, m4, m5⟩ := IH (l3 ++ [x] ++ ys) a2 s2 (by simp; omega) (by omega) (by omega)
        exact ⟨x :: (ys ++ zs), a3, s3, bind_ev k1 (bind_ev m1 (some_ev (by simp))), by simp, by simp; omega, by omega, by omega⟩
      by_cases hr1 : r = 1
      · obtain ⟨ys, a', s', q1, q2⟩ := two 4
        exact ⟨ys, a', s', go _ (ite_f hr0 (ite_t hr1 (ite_t (by omega) q1))), q2⟩
      · obtain ⟨ys, a', s', q1, q2⟩ := two 3
        exact ⟨ys, a', s', go _ (ite_f hr0 (ite_f hr1 (ite_t (by omega) q1))), q2⟩
theorem kinds_j0 (d : Nat) (any : Bool)
    (IH : ∀ e, d = e + 1 → ∀ (l3 : List Int) (a s : Int), l3.length + 2 ^ (e + 1) ≤ 1000000 → 0 ≤ a → a + 10 * ((2 ^ (e + 1) : Nat) : Int) ≤ 1000000000 → ∃ ys a' s', Ev (fun k => spec_l1Cur_kinds.f k c a s (e : Int) any l3) (l3 ++ ys, a', s') ∧ 1 ≤ ys.length ∧ ys.length + 1 ≤ 2 ^ (e + 1) ∧ a ≤ a' ∧ a' + 10 ≤ a + 10 * ((2 ^ (e + 1) : Nat) : Int))
    (b : Bool) (l3 : List Int) (a s : Int) (hl : l3.length + 2 ^ (d + 1) ≤ 1000000) (h0 : 0 ≤ a) (h1 : a + 10 * ((2 ^ (d + 1) : Nat) : Int) ≤ 1000000002) :
    ∃ ys a' s', Ev (fun k => spec_l1Cur_kinds.j0 k (d : Int) any l3 b c a s) (l3 ++ ys, a', s') ∧ 1 ≤ ys.length ∧ ys.length + 1 ≤ 2 ^ (d + 1) ∧ a ≤ a' ∧ a' + 12 ≤ a + 10 * ((2 ^ (d + 1) : Nat) : Int) := by
  have hP : 2 ≤ 2 ^ (d + 1) := by rw [Nat.pow_succ]; have := Nat.one_le_two_pow (n := d); omega
  by_cases hbt : b = true
  · refine ⟨[0], a, s, ?_, by simp, by simp; omega, by omega, by omega⟩
    refine Ev.step (fun k => by simp only [spec_l1Cur_kinds.j0]; rw [if_pos hbt]) ?_
    exact ite_t (by omega) (Ev.now _)
  · by_cases hd : (d : Int) ≤ 0
    · obtain ⟨ys, a', s', q1, q2, q3, q4, q5⟩ := kinds_j1 hc d any IH true (.inl rfl) l3 a s hl h0 (by omega)
      refine ⟨ys, a', s', ?_, q2, q3, q4, by omega⟩
      refine Ev.step (fun k => by simp only [spec_l1Cur_kinds.j0]; rw [if_neg hbt]) ?_
      exact ite_t hd q1
    · obtain ⟨b2, a1, s1, e1, p0, p1⟩ := one_ok hc s 4 h0 (by omega)
      obtain ⟨ys, a', s', q1, q2, q3, q4, q5⟩ := kinds_j1 hc d any IH b2 (.inr (by omega)) l3 a1 s1 hl (by omega) (by omega)
      refine ⟨ys, a', s', ?_, q2, q3, by omega, by omega⟩
      refine Ev.step (fun k => by simp only [spec_l1Cur_kinds.j0]; rw [if_neg hbt]) ?_
      exact ite_f hd (bind_ev (const_ev e1) q1)
theorem kinds_f (d : Nat) (any : Bool)
    (IH : ∀ e, d = e + 1 → ∀ (l3 : List Int) (a s : Int), l3.length + 2 ^ (e + 1) ≤ 1000000 → 0 ≤ a → a + 10 * ((2 ^ (e + 1) : Nat) : Int) ≤ 1000000000 → ∃ ys a' s', Ev (fun k => spec_l1Cur_kinds.f k c a s (e : Int) any l3) (l3 ++ ys, a', s') ∧ 1 ≤ ys.length ∧ ys.length + 1 ≤ 2 ^ (e + 1) ∧ a ≤ a' ∧ a' + 10 ≤ a + 10 * ((2 ^ (e + 1) : Nat) : Int))
    (l3 : List Int) (a s : Int) (hl : l3.length + 2 ^ (d + 1) ≤ 1000000) (h0 : 0 ≤ a) (h1 : a + 10 * ((2 ^ (d + 1) : Nat) : Int) ≤ 1000000000) :
    ∃ ys a' s', Ev (fun k => spec_l1Cur_kinds.f k c a s (d : Int) any l3) (l3 ++ ys, a', s') ∧ 1 ≤ ys.length ∧ ys.length + 1 ≤ 2 ^ (d + 1) ∧ a ≤ a' ∧ a' + 10 ≤ a + 10 * ((2 ^ (d + 1) : Nat) : Int) := by
  have hP : 2 ≤ 2 ^ (d + 1) := by rw [Nat.pow_succ]; have := Nat.one_le_two_pow (n := d); omega
  have plain : ∀ (g : Nat → Option (List Int × Int × Int)), (∀ R, Ev (fun k => spec_l1Cur_kinds.j0 k (d : Int) any l3 false c a s) R → Ev g R) → ∃ ys a' s', Ev g (l3 ++ ys, a', s') ∧ 1 ≤ ys.length ∧ ys.length + 1 ≤ 2 ^ (d + 1) ∧ a ≤ a' ∧ a' + 10 ≤ a + 10 * ((2 ^ (d + 1) : Nat) : Int) := by
    intro g hg
    obtain ⟨ys, a', s', q1, q2, q3, q4, q5⟩ := kinds_j0 hc d any IH false l3 a s hl h0 (by omega)
    exact ⟨ys, a', s', hg _ q1, q2, q3, q4, by omega⟩
  by_cases ha : any = true
  · by_cases hln : (l3.length : Int) > 0
    · obtain ⟨b2, a1, s1, e1, p0, p1⟩ := one_ok hc s 3 h0 (by omega)
      obtain ⟨ys, a', s', q1, q2, q3, q4, q5⟩ := kinds_j0 hc d any IH b2 l3 a1 s1 hl (by omega) (by omega)
      refine ⟨ys, a', s', ?_, q2, q3, by omega, by omega⟩
      refine Ev.step (fun k => by simp only [spec_l1Cur_kinds.f]; rw [if_pos ha, if_pos hln]) ?_
      exact bind_ev (const_ev e1) q1
    · exact plain _ (fun R h => Ev.step (fun k => by simp only [spec_l1Cur_kinds.f]; rw [if_pos ha, if_neg hln]) h)
  · exact plain _ (fun R h => Ev.step (fun k => by simp only [spec_l1Cur_kinds.f]; rw [if_neg ha]) h)
theorem kinds_ok (any : Bool) : ∀ (d : Nat) (l3 : List Int) (a s : Int), l3.length + 2 ^ (d + 1) ≤ 1000000 → 0 ≤ a → a + 10 * ((2 ^ (d + 1) : Nat) : Int) ≤ 1000000000 → ∃ ys a' s', Ev (fun k => spec_l1Cur_kinds.f k c a s (d : Int) any l3) (l3 ++ ys, a', s') ∧ 1 ≤ ys.length ∧ ys.length + 1 ≤ 2 ^ (d + 1) ∧ a ≤ a' ∧ a' + 10 ≤ a + 10 * ((2 ^ (d + 1) : Nat) : Int) := by
  intro d
  induction d with
  | zero => exact kinds_f hc 0 any (fun e he => by omega)
  | succ d ih => exact kinds_f hc (d + 1) any (fun e he => by
      obtain rfl : e = d := by omega
      exact ih)
theorem kinds_small (any : Bool) (d : Int) (h0 : 0 ≤ d) (h4 : d ≤ 4) (a s : Int) (ha : 0 ≤ a) (ha2 : a ≤ 900000000) : ∃ t a' s', Ev (fun k => spec_l1Cur_kinds.f k c a s d any []) (t, a', s') ∧ 1 ≤ t.length ∧ t.length ≤ 31 ∧ a ≤ a' ∧ a' ≤ a + 310 := by
  obtain ⟨n, rfl⟩ := Int.eq_ofNat_of_zero_le h0
  have hp : 2 ^ (n + 1) ≤ 32 := by
    have : 2 ^ (n + 1) ≤ 2 ^ 5 := Nat.pow_le_pow_right (by omega) (by omega)
    simpa using this
  obtain ⟨ys, a', s', q1, q2, q3, q4, q5⟩ := kinds_ok hc any n [] a s (by simp; omega) ha (by omega)
  exact ⟨ys, a', s', by simpa using q1, q2, by omega, q4, by omega⟩
theorem opTree_ok (a s : Int) (ha : 0 ≤ a) (ha2 : a ≤ 800000000) : ∃ t a' s', Ev (fun k => spec_l1Cur_opTree.f k c a s) (t, a', s') ∧ 1 ≤ t.length ∧ t.length ≤ 31 ∧ a ≤ a' ∧ a' ≤ a + 1000 := by
  have j1 : ∀ (t : List Int) (a s : Int), 1 ≤ t.length → 0 ≤ a → a ≤ 900000000 → ∃ t' a' s', Ev (fun k => spec_l1Cur_opTree.j1 k t c a s) (t', a', s') ∧ t'.length = t.length ∧ a ≤ a' ∧ a' ≤ a + 6 := by
    intro t a s ht ha ha2
    obtain ⟨b, a1, s1, e1, p0, p1⟩ := one_ok hc s 30 ha (by omega)
    by_cases hb : b = true
    · obtain ⟨r, a2, s2, e2, r0, r1, p2, p3⟩ := cpick_ok hc s1 (t.length : Int) (a := a1) (by omega) (by omega)
      obtain ⟨q, a3, s3, e3, _, _, p4, p5⟩ := cpick_ok hc s2 7 (a := a2) (by omega) (by omega)
      refine ⟨t.set r.toNat q, a3, s3, ?_, by simp, by omega, by omega⟩
      refine Ev.step (fun k => by simp only [spec_l1Cur_opTree.j1]; rfl) ?_
      exact bind_ev (const_ev e1) (ite_t hb (bind_ev (const_ev e2) (bind_ev (const_ev e3) (ite_t r0 (ite_t (r1 (by omega)) (Ev.now _))))))
    · refine ⟨t, a1, s1, ?_, rfl, by omega, by omega⟩
      refine Ev.step (fun k => by simp only [spec_l1Cur_opTree.j1]; rfl) ?_
      exact bind_ev (const_ev e1) (ite_f hb (Ev.now _))
  obtain ⟨r, a1, s1, e1, r0, r1, p0, p1⟩ := cpick_ok hc s 5 ha (by omega)
  obtain ⟨t, a2, s2, e2, t1, t2, p2, p3⟩ := kinds_small hc false r r0 (by have := r1 (by omega); omega) a1 s1 (by omega) (by omega)
  obtain ⟨t', a3, s3, e3, t3, p4, p5⟩ := j1 t a2 s2 t1 (by omega) (by omega)
  refine ⟨t', a3, s3, ?_, by omega, by omega, by omega, by omega⟩
  unfold spec_l1Cur_opTree.f
  refine bind_ev (const_ev e1) (bind_ev e2 (ite_f (by simp only; omega) ?_))
  exact Ev.step (fun k => by simp only [spec_l1Cur_opTree.j0]; rw [if_neg (by simp)]) e3
def SmallP (p : S57) : Prop := p.f0.length ≤ 31
theorem patterns_l0 : ∀ (n : Nat) (l : List S57) (a s : Int), l.length + n ≤ 1000 → (∀ p ∈ l, SmallP p) → 0 ≤ a → a + 400 * n ≤ 800000000 →
    ∃ l' a' s', Ev (fun k => spec_l1Cur_patterns.l0 k l (n : Int) c a s) (l', a', s') ∧ l'.length = l.length + n ∧ (∀ p ∈ l', SmallP p) ∧ a ≤ a' ∧ a' ≤ a + 400 * n + 10
  | 0, l, a, s, hl, hs, h0, h1 => by
    by_cases hln : (l.length : Int) > 0
    · obtain ⟨b, a1, s1, e1, p0, p1⟩ := one_ok hc s 30 h0 (by omega)
      by_cases hb : b = true
      · obtain ⟨q, a2, s2, e2, _, p2, p3⟩ := among_ok hc s1 [0, 100, 101] (by simp) (a := a1) (by omega) (by omega)
        refine ⟨l.set 0 ⟨(rd_T57 l 0).f0, q⟩, a2, s2, ?_, by simp, ?_, by omega, by omega⟩
        · refine Ev.step (fun k => by simp only [spec_l1Cur_patterns.l0]; rw [if_neg (by omega), if_pos hln]) ?_
          exact bind_ev (const_ev e1) (ite_t hb (bind_ev (const_ev e2) (ite_t (by omega) (Ev.now _))))
        · intro p hp
          rcases List.mem_or_eq_of_mem_set hp with h | h
          · exact hs p h
          · subst h
            have := hs _ (rdT_mem l 0 (by omega) (by omega))
            exact this
      · refine ⟨l, a1, s1, ?_, rfl, hs, by omega, by omega⟩
        refine Ev.step (fun k => by simp only [spec_l1Cur_patterns.l0]; rw [if_neg (by omega), if_pos hln]) ?_
        exact bind_ev (const_ev e1) (ite_f hb (Ev.now _))
    · refine ⟨l, a, s, ?_, rfl, hs, by omega, by omega⟩
      exact Ev.step (fun k => by simp only [spec_l1Cur_patterns.l0]; rw [if_neg (by omega), if_neg hln]) (Ev.now _)
  | n + 1, l, a, s, hl, hs, h0, h1 => by
    obtain ⟨t, a1, s1, e1, t1, t2, p0, p1⟩ := kinds_small hc true 2 (by omega) (by omega) a s h0 (by omega)
    obtain ⟨q, a2, s2, e2, q0, q1, p2, p3⟩ := cpick_ok hc s1 6 (a := a1) (by omega) (by omega)
    obtain ⟨l', a', s', e3, m1, m2, m3, m4⟩ := patterns_l0 n (l ++ [⟨t, wrap64 (1 + q)⟩]) a2 s2 (by simp; omega) (fun p hp => by
      rcases List.mem_append.1 hp with h | h
      · exact hs p h
      · simp only [List.mem_singleton] at h; subst h; exact t2) (by omega) (by omega)
    refine ⟨l', a', s', ?_, by rw [m1]; simp; omega, m2, by omega, by omega⟩
    refine Ev.step (fun k => by simp only [spec_l1Cur_patterns.l0]; rw [if_pos (by omega), show wrap64 (((n + 1 : Nat) : Int) - 1) = (n : Int) by rw [w64 (by omega) (by omega)]; omega]) ?_
    exact bind_ev e1 (bind_ev (const_ev e2) (ite_t (by omega) e3))
theorem patterns_ok (a s : Int) (ha : 0 ≤ a) (ha2 : a ≤ 700000000) : ∃ l a' s', Ev (fun k => spec_l1Cur_patterns.f k c a s) (l, a', s') ∧ l.length ≤ 10 ∧ (∀ p ∈ l, SmallP p) ∧ a ≤ a' ∧ a' ≤ a + 3000 := by
  have j0 : ∀ (l : List S57) (a s : Int), l.length ≤ 5 → (∀ p ∈ l, SmallP p) → 0 ≤ a → a ≤ 750000000 → ∃ l' a' s', Ev (fun k => spec_l1Cur_patterns.j0 k l c a s) (l', a', s') ∧ l'.length ≤ 10 ∧ (∀ p ∈ l', SmallP p) ∧ a ≤ a' ∧ a' ≤ a + 2900 := by
    intro l a s hl hs ha ha2
    obtain ⟨r, a1, s1, e1, r0, r1, p0, p1⟩ := cpick_ok hc s 6 ha (by omega)
    have r1 := r1 (by omega)
    obtain ⟨n, rfl⟩ := Int.eq_ofNat_of_zero_le r0
    obtain ⟨l', a', s', e3, m1, m2, m3, m4⟩ := patterns_l0 hc n l a1 s1 (by omega) hs (by omega) (by omega)
    refine ⟨l', a', s', ?_, by omega, m2, by omega, by omega⟩
    exact Ev.step (fun k => by simp only [spec_l1Cur_patterns.j0]; rfl) (bind_ev (const_ev e1) e3)
  obtain ⟨r1, a1, s1, e1, _, _, p0, p1⟩ := cpick_ok hc s 3 ha (by omega)
  obtain ⟨r2, a2, s2, e2, _, _, p2, p3⟩ := cpick_ok hc s1 4 (a := a1) (by omega) (by omega)
  obtain ⟨r3, a3, s3, e3, _, _, p4, p5⟩ := cpick_ok hc s2 4 (a := a2) (by omega) (by omega)
  obtain ⟨r4, a4, s4, e4, _, _, p6, p7⟩ := cpick_ok hc s3 4 (a := a3) (by omega) (by omega)
  obtain ⟨b, a5, s5, e5, p8, p9⟩ := one_ok hc s4 6 (a := a4) (by omega) (by omega)
  have hsm : ∀ p ∈ [(⟨(([1] : List Int)), wrap64 (1 + r1)⟩ : S57), (⟨(([2] : List Int)), 1⟩ : S57), (⟨(([3, 0, 0] : List Int)), wrap64 (1 + r2)⟩ : S57), (⟨(([4, 0, 0] : List Int)), wrap64 (2 + r3)⟩ : S57), (⟨(([5, 0] : List Int)), wrap64 (1 + r4)⟩ : S57)], SmallP p := by
    intro p hp
    simp only [List.mem_cons, List.not_mem_nil, or_false] at hp
    rcases hp with rfl | rfl | rfl | rfl | rfl <;> simp [SmallP]
  by_cases hb : b = true
  · obtain ⟨r, a6, s6, e6, r0, r1', p10, p11⟩ := cpick_ok hc s5 5 (a := a5) (by omega) (by omega)
    have r1' := r1' (by omega)
    obtain ⟨l', a', s', e7, m1, m2, m3, m4⟩ := j0 (List.take r.toNat [(⟨(([1] : List Int)), wrap64 (1 + r1)⟩ : S57), (⟨(([2] : List Int)), 1⟩ : S57), (⟨(([3, 0, 0] : List Int)), wrap64 (1 + r2)⟩ : S57), (⟨(([4, 0, 0] : List Int)), wrap64 (2 + r3)⟩ : S57), (⟨(([5, 0] : List Int)), wrap64 (1 + r4)⟩ : S57)]) a6 s6 (by rw [List.length_take]; simp; omega) (fun p hp => hsm p (List.mem_of_mem_take hp)) (by omega) (by omega)
    refine ⟨l', a', s', ?_, m1, m2, by omega, by omega⟩
    unfold spec_l1Cur_patterns.f
    exact bind_ev (const_ev e1) (bind_ev (const_ev e2) (bind_ev (const_ev e3) (bind_ev (const_ev e4) (bind_ev (Ev.now _) (bind_ev (const_ev e5) (ite_t hb (bind_ev (const_ev e6) (ite_t r0 (ite_t (by simp; omega) e7)))))))))
  · obtain ⟨l', a', s', e7, m1, m2, m3, m4⟩ := j0 _ a5 s5 (by simp) hsm (by omega) (by omega)
    refine ⟨l', a', s', ?_, m1, m2, by omega, by omega⟩
    unfold spec_l1Cur_patterns.f
    exact bind_ev (const_ev e1) (bind_ev (const_ev e2) (bind_ev (const_ev e3) (bind_ev (const_ev e4) (bind_ev (Ev.now _) (bind_ev (const_ev e5) (ite_f hb e7))))))
theorem drawBest_ok : ∃ (t : List Int) (l : List S57), Ev (fun k => spec_DrawBestCover.f k c) (t, l) ∧ t.length ≤ 31 ∧ l.length ≤ 10 ∧ ∀ p ∈ l, SmallP p := by
  obtain ⟨t, a1, s1, e1, t1, t2, p0, p1⟩ := opTree_ok hc 0 0 (by omega) (by omega)
  obtain ⟨l, a2, s2, e2, l1, l2, p2, p3⟩ := patterns_ok hc a1 s1 (by omega) (by omega)
  refine ⟨t, l, ?_, t2, l1, l2⟩
  unfold spec_DrawBestCover.f
  exact bind_ev e1 (bind_ev e2 (Ev.now _))
theorem drawCost_ok : ∃ (t : List Int) (q : Int) (l : List S57), Ev (fun k => spec_DrawCostAt.f k c) (t, q, l) ∧ t.length ≤ 31 ∧ l.length ≤ 10 ∧ ∀ p ∈ l, SmallP p := by
  obtain ⟨t, a1, s1, e1, t1, t2, p0, p1⟩ := opTree_ok hc 0 0 (by omega) (by omega)
  obtain ⟨r, a2, s2, e2, _, _, p2, p3⟩ := cpick_ok hc s1 (wrap64 ((t.length : Int) + 2)) (a := a1) (by omega) (by omega)
  obtain ⟨l, a3, s3, e3, l1, l2, p4, p5⟩ := patterns_ok hc a2 s2 (by omega) (by omega)
  refine ⟨t, wrap64 (r - 1), l, ?_, t2, l1, l2⟩
  unfold spec_DrawCostAt.f
  exact bind_ev e1 (bind_ev (const_ev e2) (bind_ev e3 (Ev.now _)))
end
end Go.Proofs.Ytfdbdbihhgabpaa.Pure
