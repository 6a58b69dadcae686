/- Drawn trees: they are there. Conditions: none. -/
import Derived.Test.YtgjojppbichaiaaPCur
import Derived.Test.YtgjojppbichaiaaQx0
import Derived.Test.YtgjojppbichaiaaQx9
import Derived.Test.YtgjojppbichaiaaQx10
import Derived.Test.YtgjojppbichaiaaQx11
set_option linter.unusedVariables false
set_option linter.unusedSimpArgs false
set_option linter.unusedSectionVars false
namespace Go.Proofs.Ytgjojppbichaiaa.Pure
open Go.RowKit Go.Proofs.Ytgjojppbichaiaa.Q Go.Proofs.YtgjojppbichaiaaW.PrintWords Go.Proofs.YtgjojppbichaiaaW.PrintLast Go.Proofs.Ytgjojppbichaiaa.Kit

/-- How many bytes a drawn tree takes at most, and how many cells it has. -/
def wd : Nat → Int
  | 0 => 10
  | d + 1 => 10 + 2 * wd d
def fd : Nat → Nat
  | 0 => 1
  | d + 1 => 1 + 2 * fd d
theorem wd_pos : ∀ d, 10 ≤ wd d
  | 0 => by simp [wd]
  | d + 1 => by have := wd_pos d; simp only [wd]; omega
theorem fd_pos : ∀ d, 1 ≤ fd d
  | 0 => by simp [fd]
  | d + 1 => by have := fd_pos d; simp only [fd]; omega
section
variable {c : List Int} (hc : Bytes c)
include hc
theorem tr_leaf (x1 : Int) {a : Int} (s : Int) (h0 : 0 ≤ a) (h1 : a ≤ 1000000000) :
    ∃ (t : S72) (a' s' : Int), Ev (fun k => spec_l1Cur_tree16.j0 k x1 true c a s) (t.f0, t.f1, t.f2, a', s') ∧ a ≤ a' ∧ a' ≤ a + 4 ∧ (Fl.flat t).length = 1 := by
  obtain ⟨b, a1, s1, e1, p0, p1⟩ := one_ok hc s 3 h0 (by omega)
  cases b with
  | true =>
    obtain ⟨r, a2, s2, e2, r0, r1, q0, q1⟩ := cpick_ok hc s1 3 (a := a1) (by omega) (by omega)
    refine ⟨⟨2, wrap64 (1 + r), []⟩, a2, s2, ?_, by omega, by omega, by simp [Fl.flat, Fl.flats]⟩
    refine Ev.step (fun k => by simp only [spec_l1Cur_tree16.j0]; rw [if_pos trivial]) ?_
    exact bind_ev (const_ev e1) (ite_t rfl (bind_ev (const_ev e2) (Ev.now _)))
  | false =>
    obtain ⟨r, a2, s2, e2, r0, r1, q0, q1⟩ := cpick_ok hc s1 9 (a := a1) (by omega) (by omega)
    refine ⟨⟨1, r, []⟩, a2, s2, ?_, by omega, by omega, by simp [Fl.flat, Fl.flats]⟩
    refine Ev.step (fun k => by simp only [spec_l1Cur_tree16.j0]; rw [if_pos trivial]) ?_
    exact bind_ev (const_ev e1) (ite_f (by simp) (bind_ev (const_ev e2) (Ev.now _)))
theorem tr_j1 (d : Nat) (hd : d ≤ 10) (IH : ∀ (a s : Int), 0 ≤ a → a + wd d ≤ 1000000000 → ∃ (t : S72) (a' s' : Int), Ev (fun k => spec_l1Cur_tree16.f k c a s (d : Int)) (t.f0, t.f1, t.f2, a', s') ∧ a ≤ a' ∧ a' ≤ a + wd d ∧ (Fl.flat t).length ≤ fd d)
    (kd n : Int) {a : Int} (s : Int) (h0 : 0 ≤ a) (h1 : a + 2 * wd d ≤ 1000000000) :
    ∃ (t : S72) (a' s' : Int), Ev (fun k => spec_l1Cur_tree16.j1 k ((d + 1 : Nat) : Int) c a s kd n) (t.f0, t.f1, t.f2, a', s') ∧ a ≤ a' ∧ a' ≤ a + 2 * wd d ∧ (Fl.flat t).length ≤ 1 + 2 * fd d := by
  have hp := wd_pos d
  have hw : wrap64 (((d + 1 : Nat) : Int) - 1) = (d : Int) := by rw [w64 (by omega) (by omega)]; omega
  obtain ⟨t, a1, s1, e1, p0, p1, p2⟩ := IH a s h0 (by omega)
  by_cases h6 : kd = 6
  · refine ⟨⟨kd, n, [t]⟩, a1, s1, ?_, p0, by omega, by simp [Fl.flat, Fl.flats]; omega⟩
    refine Ev.step (fun k => by simp only [spec_l1Cur_tree16.j1]; rw [hw]) ?_
    exact bind_ev e1 (ite_t (by simp) (bind_ev (Ev.now _) (ite_t h6 (some_ev (by cases t; rfl)))))
  · obtain ⟨u, a2, s2, e2, q0, q1, q2⟩ := IH a1 s1 (by omega) (by omega)
    refine ⟨⟨kd, n, [t, u]⟩, a2, s2, ?_, by omega, by omega, by simp [Fl.flat, Fl.flats]; omega⟩
    refine Ev.step (fun k => by simp only [spec_l1Cur_tree16.j1]; rw [hw]) ?_
    exact bind_ev e1 (ite_t (by simp) (bind_ev (Ev.now _) (ite_f h6 (bind_ev e2 (ite_t (by simp) (some_ev (by cases t; cases u; rfl)))))))
theorem tree_ok : ∀ (d : Nat), d ≤ 10 → ∀ (a s : Int), 0 ≤ a → a + wd d ≤ 1000000000 → ∃ (t : S72) (a' s' : Int), Ev (fun k => spec_l1Cur_tree16.f k c a s (d : Int)) (t.f0, t.f1, t.f2, a', s') ∧ a ≤ a' ∧ a' ≤ a + wd d ∧ (Fl.flat t).length ≤ fd d
  | 0, _, a, s, h0, h1 => by
    have hp := wd_pos 0
    obtain ⟨t, a', s', e, p0, p1, p2⟩ := tr_leaf hc 0 s h0 (by omega)
    refine ⟨t, a', s', (by refine Ev.step (fun k => by simp only [spec_l1Cur_tree16.f]; rfl) ?_; exact ite_t (by omega) e), p0, by simp only [wd] at *; omega, by simp only [fd]; omega⟩
  | d + 1, hd, a, s, h0, h1 => by
    have hp := wd_pos d
    simp only [wd] at h1
    obtain ⟨b, a1, s1, e1, p0, p1⟩ := one_ok hc s 5 h0 (by omega)
    have go : ∀ R, Ev (fun k => spec_l1Cur_tree16.j0 k ((d + 1 : Nat) : Int) b c a1 s1) R → Ev (fun k => spec_l1Cur_tree16.f k c a s ((d + 1 : Nat) : Int)) R := by
      intro R h
      refine Ev.step (fun k => by simp only [spec_l1Cur_tree16.f]; rfl) ?_
      exact ite_f (by omega) (bind_ev (const_ev e1) h)
    cases b with
    | true =>
      obtain ⟨t, a', s', e, q0, q1, q2⟩ := tr_leaf hc ((d + 1 : Nat) : Int) s1 (a := a1) (by omega) (by omega)
      exact ⟨t, a', s', go _ e, by omega, by simp only [wd]; omega, by simp only [fd]; omega⟩
    | false =>
      obtain ⟨r, a2, s2, e2, _, q0, q1⟩ := among_ok hc s1 [3, 3, 3, 4, 4, 5, 6] (by simp) (a := a1) (by omega) (by omega)
      have fin : ∀ (n : Int) (a3 s3 : Int), a2 ≤ a3 → a3 ≤ a2 + 2 → Ev (fun k => spec_l1Cur_tree16.j1 k ((d + 1 : Nat) : Int) c a3 s3 r n) = Ev (fun k => spec_l1Cur_tree16.j1 k ((d + 1 : Nat) : Int) c a3 s3 r n) → ∃ (t : S72) (a' s' : Int), Ev (fun k => spec_l1Cur_tree16.j1 k ((d + 1 : Nat) : Int) c a3 s3 r n) (t.f0, t.f1, t.f2, a', s') ∧ a3 ≤ a' ∧ a' ≤ a3 + 2 * wd d ∧ (Fl.flat t).length ≤ 1 + 2 * fd d := fun n a3 s3 h2 h3 _ => tr_j1 hc d (by omega) (tree_ok d (by omega)) r n s3 (by omega) (by omega)
      have go2 : ∀ R, Ev (fun k => if r = 4 then ((spec_l1Cur_pick.f c a2 s2 4).bind fun bt267 => (spec_l1Cur_tree16.j1 k ((d + 1 : Nat) : Int) c bt267.2.1 bt267.2.2 r bt267.1)) else (if r = 6 then ((spec_l1Cur_pick.f c a2 s2 4).bind fun bt270 => (spec_l1Cur_tree16.j1 k ((d + 1 : Nat) : Int) c bt270.2.1 bt270.2.2 r bt270.1)) else (spec_l1Cur_tree16.j1 k ((d + 1 : Nat) : Int) c a2 s2 r 0))) R → Ev (fun k => spec_l1Cur_tree16.j0 k ((d + 1 : Nat) : Int) false c a1 s1) R := by
        intro R h
        refine Ev.step (fun k => by simp only [spec_l1Cur_tree16.j0]; rw [if_neg (by simp)]) ?_
        exact bind_ev (const_ev e2) h
      obtain ⟨n, a3, s3, e3, _, _, w0, w1⟩ := cpick_ok hc s2 4 (a := a2) (by omega) (by omega)
      by_cases h4 : r = 4
      · obtain ⟨t, a', s', e, x0, x1, x2⟩ := fin n a3 s3 w0 w1 rfl
        exact ⟨t, a', s', go _ (go2 _ (ite_t h4 (bind_ev (const_ev e3) e))), by omega, by simp only [wd]; omega, by simp only [fd]; omega⟩
      · by_cases h6 : r = 6
        · obtain ⟨t, a', s', e, x0, x1, x2⟩ := fin n a3 s3 w0 w1 rfl
          exact ⟨t, a', s', go _ (go2 _ (ite_f h4 (ite_t h6 (bind_ev (const_ev e3) e)))), by omega, by simp only [wd]; omega, by simp only [fd]; omega⟩
        · obtain ⟨t, a', s', e, x0, x1, x2⟩ := fin 0 a2 s2 (by omega) (by omega) rfl
          exact ⟨t, a', s', go _ (go2 _ (ite_f h4 (ite_f h6 e))), by omega, by simp only [wd]; omega, by simp only [fd]; omega⟩
theorem flat_ok {t : S72} (h : (Fl.flat t).length ≤ 1000) : spec_l16Flat.f t.f0 t.f1 t.f2 [] = some (Fl.flat t) := by
  obtain ⟨k, n, ts⟩ := t
  unfold spec_l16Flat.f
  rw [if_pos (by simp only [List.length_nil]; omega)]; simp
theorem flat_pos (t : S72) : 1 ≤ (Fl.flat t).length := by cases t; simp [Fl.flat]
theorem xt_j1 (l : List S76) (hl : 1 ≤ l.length) (hl2 : l.length ≤ 1000) {a : Int} (s : Int) (h0 : 0 ≤ a) (h1 : a ≤ 100000000) :
    ∃ l' a' s', Ev (fun k => spec_l1Cur_xtree.j1 k l c a s) (l', a', s') ∧ l'.length = l.length ∧ a ≤ a' ∧ a' ≤ a + 8 := by
  obtain ⟨b, a1, s1, e1, p0, p1⟩ := one_ok hc s 30 h0 (by omega)
  have go : ∀ R, Ev (fun k => if b = true then ((spec_l1Cur_pick.f c a1 s1 (l.length : Int)).bind fun bt322 => ((spec_l1Cur_pick.f c bt322.2.1 bt322.2.2 8).bind fun bt325 => ((spec_l1Cur_pick.f c bt325.2.1 bt325.2.2 11).bind fun bt328 => (if 0 ≤ bt322.1 then (if bt322.1 < (l.length : Int) then (some ((l.set (bt322.1 : Int).toNat (⟨bt325.1, bt328.1⟩ : S76)), bt328.2.1, bt328.2.2)) else (none)) else (none))))) else (some (l, a1, s1))) R → Ev (fun k => spec_l1Cur_xtree.j1 k l c a s) R := by
    intro R h
    refine Ev.step (fun k => by simp only [spec_l1Cur_xtree.j1]; rfl) ?_
    exact bind_ev (const_ev e1) h
  by_cases hb : b = true
  · obtain ⟨r, a2, s2, e2, r0, r1, q0, q1⟩ := cpick_ok hc s1 (l.length : Int) (a := a1) (by omega) (by omega)
    obtain ⟨x, a3, s3, e3, _, _, w0, w1⟩ := cpick_ok hc s2 8 (a := a2) (by omega) (by omega)
    obtain ⟨y, a4, s4, e4, _, _, z0, z1⟩ := cpick_ok hc s3 11 (a := a3) (by omega) (by omega)
    exact ⟨l.set r.toNat ⟨x, y⟩, a4, s4, go _ (ite_t hb (bind_ev (const_ev e2) (bind_ev (const_ev e3) (bind_ev (const_ev e4) (ite_t r0 (ite_t (r1 (by omega)) (Ev.now _))))))), by simp, by omega, by omega⟩
  · exact ⟨l, a1, s1, go _ (ite_f hb (Ev.now _)), rfl, by omega, by omega⟩
theorem xt_j0 (l : List S76) (hl : 1 ≤ l.length) (hl2 : l.length ≤ 1000) (b : Bool) {a : Int} (s : Int) (h0 : 0 ≤ a) (h1 : a ≤ 90000000) :
    ∃ l' a' s', Ev (fun k => spec_l1Cur_xtree.j0 k l b c a s) (l', a', s') ∧ l'.length ≤ 1000 ∧ a ≤ a' ∧ a' ≤ a + 1000 := by
  cases b with
  | true =>
    obtain ⟨t, a1, s1, e1, p0, p1, p2⟩ := tree_ok hc 2 (by omega) a s h0 (by simp [wd]; omega)
    have h3 : wd 2 = 70 := rfl
    have h4 : fd 2 = 7 := rfl
    obtain ⟨l', a', s', e, q0, q1, q2⟩ := xt_j1 hc (Fl.flat t) (flat_pos hc t) (by omega) s1 (a := a1) (by omega) (by omega)
    refine ⟨l', a', s', ?_, by omega, by omega, by omega⟩
    refine Ev.step (fun k => by simp only [spec_l1Cur_xtree.j0]; rw [if_pos trivial]) ?_
    exact bind_ev e1 (bind_ev (const_ev (flat_ok hc (by omega))) e)
  | false =>
    obtain ⟨l', a', s', e, q0, q1, q2⟩ := xt_j1 hc l hl hl2 s (a := a) (by omega) (by omega)
    refine ⟨l', a', s', ?_, by omega, by omega, by omega⟩
    refine Ev.step (fun k => by simp only [spec_l1Cur_xtree.j0]; rw [if_neg (by simp)]) ?_
    exact e
theorem xtree_ok {a : Int} (s : Int) (h0 : 0 ≤ a) (h1 : a ≤ 80000000) :
    ∃ l' a' s', Ev (fun k => spec_l1Cur_xtree.f k c a s) (l', a', s') ∧ l'.length ≤ 1000 ∧ a ≤ a' ∧ a' ≤ a + 2000 := by
  obtain ⟨r, a1, s1, e1, r0, r1, p0, p1⟩ := cpick_ok hc s 5 h0 (by omega)
  obtain ⟨d, rfl⟩ : ∃ d : Nat, r = (d : Int) := ⟨r.toNat, by omega⟩
  have hd : d ≤ 4 := by have := r1 (by omega); omega
  have hw : wd d ≤ 310 ∧ fd d ≤ 31 := by
    have : d = 0 ∨ d = 1 ∨ d = 2 ∨ d = 3 ∨ d = 4 := by omega
    rcases this with rfl | rfl | rfl | rfl | rfl <;> decide
  obtain ⟨t, a2, s2, e2, q0, q1, q2⟩ := tree_ok hc d (by omega) a1 s1 (by omega) (by omega)
  have go : ∀ R, Ev (fun k => if ((Fl.flat t).length : Int) > 30 then ((spec_l1Cur_one.f c a2 s2 4).bind fun bt306 => (spec_l1Cur_xtree.j0 k (Fl.flat t) (!bt306.1) c bt306.2.1 bt306.2.2)) else (spec_l1Cur_xtree.j0 k (Fl.flat t) false c a2 s2)) R → Ev (fun k => spec_l1Cur_xtree.f k c a s) R := by
    intro R h
    unfold spec_l1Cur_xtree.f
    exact bind_ev (const_ev e1) (bind_ev e2 (bind_ev (const_ev (flat_ok hc (by omega))) h))
  have hp := flat_pos hc t
  by_cases h30 : ((Fl.flat t).length : Int) > 30
  · obtain ⟨b, a3, s3, e3, w0, w1⟩ := one_ok hc s2 4 (a := a2) (by omega) (by omega)
    obtain ⟨l', a', s', e, x0, x1, x2⟩ := xt_j0 hc (Fl.flat t) hp (by omega) (!b) s3 (a := a3) (by omega) (by omega)
    exact ⟨l', a', s', go _ (ite_t h30 (bind_ev (const_ev e3) e)), x0, by omega, by omega⟩
  · obtain ⟨l', a', s', e, x0, x1, x2⟩ := xt_j0 hc (Fl.flat t) hp (by omega) false s2 (a := a2) (by omega) (by omega)
    exact ⟨l', a', s', go _ (ite_f h30 e), x0, by omega, by omega⟩
end
end Go.Proofs.Ytgjojppbichaiaa.Pure
