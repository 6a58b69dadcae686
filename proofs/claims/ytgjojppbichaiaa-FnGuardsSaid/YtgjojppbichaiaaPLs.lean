/- LineTree: the reference lays the line of a tree. Conditions: none. -/
import Derived.Test.YtgjojppbichaiaaPLb
import Derived.Test.YtgjojppbichaiaaPTs
import Derived.Test.YtgjojppbichaiaaQx0
import Derived.Test.YtgjojppbichaiaaQx8
import Derived.Test.YtgjojppbichaiaaQx9
set_option linter.unusedVariables false
set_option linter.unusedSimpArgs false
namespace Go.Proofs.Ytgjojppbichaiaa.Pure
open Go.RowKit Go.Proofs.Ytgjojppbichaiaa.Q Go.Proofs.YtgjojppbichaiaaW.PrintWords Go.Proofs.YtgjojppbichaiaaW.PrintLast Go.Proofs.Ytgjojppbichaiaa.Kit
/-! ### the reference's -/
def qS (q : Ln) : Ls.Q := ⟨q.s.map e86, q.g.map e63, (q.l : Int)⟩
theorem ls_put (x : St) (q : Ln) (h : q.s.length < 100000000) : Ls.put (e86 x) (qS q) = some (qS ⟨q.s ++ [x], q.g, q.l⟩) := by
  unfold Ls.put qS
  rw [if_pos (by simp; omega)]; simp
theorem ls_grd (x : Gd) (q : Ln) (h : q.g.length < 100000000) : Ls.grd (e63 x) (qS q) = some (qS ⟨q.s, q.g ++ [x], q.l⟩) := by
  unfold Ls.grd qS
  rw [if_pos (by simp; omega)]; simp
theorem ls_setT {i : Nat} {t : Int} {q : Ln} {x : St} (h : q.s[i]? = some x) : Ls.setT i t (qS q) = some (qS ⟨q.s.set i ⟨x.op, x.n, t⟩, q.g, q.l⟩) := by
  have hi := (List.getElem?_eq_some_iff.1 h).1
  unfold Ls.setT qS
  simp only
  rw [if_pos (by simpa using hi), rd86_map h, List.map_set]; rfl
theorem ls_setA {i : Nat} {t : Int} {q : Ln} {x : Gd} (h : q.g[i]? = some x) : Ls.setA i t (qS q) = some (qS ⟨q.s, q.g.set i ⟨x.frm, x.to, x.kind, t⟩, q.l⟩) := by
  have hi := (List.getElem?_eq_some_iff.1 h).1
  unfold Ls.setA qS
  simp only
  rw [if_pos (by simpa using hi), rd63_map h, List.map_set]; rfl
theorem qS_s (q : Ln) : (qS q).s.length = q.s.length := by simp [qS]
theorem qS_g (q : Ln) : (qS q).g.length = q.g.length := by simp [qS]
theorem ls_lay : ∀ (N : Nat) (t : S72), sz t ≤ N → N ≤ 30 → gd t → ∀ q : Ln, Rm (sz t) q → Ls.lay t (qS q) = some (qS ((toX t).lay q)) ∧ Bd (sz t) q ((toX t).lay q)
  | 0, t, hN, _, _ => by have := sz_pos t; omega
  | N + 1, t, hN, hN30, hgd => by
    intro q hq
    have hok := toX_ok (N + 1) t hN hgd
    rcases gd_cases t hgd with ⟨n, rfl⟩ | ⟨n, rfl, hn⟩ | ⟨n, a, rfl, hn0, hn5, ha⟩ | ⟨n, a, b, rfl, ha, hb⟩ | ⟨n, a, b, rfl, ha, hb⟩ | ⟨n, a, b, rfl, ha, hb⟩
    · have e1 : toX ⟨1, n, []⟩ = .out n := by simp [toX, mkX]
      rw [e1]
      obtain ⟨hq1, hq2, hq3⟩ := hq
      refine ⟨?_, ?_⟩
      · unfold Ls.lay Ls.node
        rw [if_pos rfl]
        exact ls_put ⟨1, n, 0⟩ q (by omega)
      · have h1 : lB (sz ⟨1, n, []⟩) = 1 := by simp [sz, szm, lB_one]
        simp only [Bd, XT.lay, List.length_append, List.length_cons, List.length_nil, h1]
        omega
    · have e1 : toX ⟨2, n, []⟩ = .rai n := by simp [toX, mkX]
      rw [e1]
      obtain ⟨hq1, hq2, hq3⟩ := hq
      refine ⟨?_, ?_⟩
      · unfold Ls.lay Ls.node
        rw [if_neg (by decide), if_pos rfl]
        exact ls_put ⟨2, n, 0⟩ q (by omega)
      · have h1 : lB (sz ⟨2, n, []⟩) = 1 := by simp [sz, szm, lB_one]
        simp only [Bd, XT.lay, List.length_append, List.length_cons, List.length_nil, h1]
        omega
    · have e1 : toX ⟨6, n, [a]⟩ = .loop n.toNat (toX a) := by simp [toX, toXs, mkX]
      have hs : sz ⟨6, n, [a]⟩ = sz a + 1 := by simp [sz, szm]
      have hp := sz_pos a
      have hB := lB_loop (sz a) (by omega) hp
      rw [hs] at hq hN ⊢
      rw [e1] at hok ⊢
      obtain ⟨hq1, hq2, hq3⟩ := hq
      have ia := ls_lay N a (by omega) (by omega) ha
      have hoa : (toX a).Ok := hok
      obtain ⟨i1, i2, i3, i4⟩ := ia ⟨q.s ++ [⟨5, ((20 + q.l : Nat) : Int), 0⟩, ⟨6, ((20 + q.l : Nat) : Int), n⟩, ⟨4, 0, 0⟩], q.g, q.l + 1⟩ ⟨by simp; omega, by simp; omega, by simp; omega⟩
      simp only [List.length_append, List.length_cons, List.length_nil] at i2 i3 i4
      have hk := keep_s (q := ⟨q.s ++ [⟨5, ((20 + q.l : Nat) : Int), 0⟩, ⟨6, ((20 + q.l : Nat) : Int), n⟩, ⟨4, 0, 0⟩], q.g, q.l + 1⟩) hoa (i := q.s.length + 2) (by simp)
      rw [get_append_at] at hk
      have hl1 := len_s (q := ⟨q.s ++ [⟨5, ((20 + q.l : Nat) : Int), 0⟩, ⟨6, ((20 + q.l : Nat) : Int), n⟩, ⟨4, 0, 0⟩], q.g, q.l + 1⟩) hoa
      simp only [List.length_append, List.length_cons, List.length_nil] at hl1
      have en : ((n.toNat : Nat) : Int) = n := by omega
      simp only [XT.lay, en]
      generalize (toX a).lay ⟨q.s ++ [⟨5, ((20 + q.l : Nat) : Int), 0⟩, ⟨6, ((20 + q.l : Nat) : Int), n⟩, ⟨4, 0, 0⟩], q.g, q.l + 1⟩ = q1 at i1 i2 i3 i4 hk hl1 ⊢
      refine ⟨?_, ?_⟩
      · simp only [Ls.lay, Ls.lays, Ls.node, List.getElem?_cons_zero]
        rw [if_neg (by decide), if_neg (by decide), if_pos trivial, if_pos (by simp [qS]; omega)]
        have p1 : Ls.put3 ⟨5, 20 + (q.l : Int), 0⟩ ⟨6, 20 + (q.l : Int), n⟩ ⟨4, 0, 0⟩ (qS ⟨q.s, q.g, q.l + 1⟩) = some (qS ⟨q.s ++ [⟨5, ((20 + q.l : Nat) : Int), 0⟩, ⟨6, ((20 + q.l : Nat) : Int), n⟩, ⟨4, 0, 0⟩], q.g, q.l + 1⟩) := by
          unfold Ls.put3 qS
          rw [if_pos (by simp; omega)]; simp [e86]
        have p4 : Ls.put ⟨4, 0, ((q.s.length + 1 : Nat) : Int)⟩ (qS q1) = _ := ls_put ⟨4, 0, ((q.s.length + 1 : Nat) : Int)⟩ q1 (by omega)
        have p5 := ls_setT (t := ((q1.s.length + 1 : Nat) : Int)) (q := ⟨q1.s ++ [⟨4, 0, ((q.s.length + 1 : Nat) : Int)⟩], q1.g, q1.l⟩) (i := q.s.length + 2) (x := ⟨4, 0, 0⟩) (by rw [get_append_left _ _ _ (by omega), hk]; rfl)
        have eq0 : (⟨(qS q).s, (qS q).g, (qS q).n + 1⟩ : Ls.Q) = qS ⟨q.s, q.g, q.l + 1⟩ := by simp [qS]
        have en0 : (qS q).n = (q.l : Int) := rfl
        rw [eq0, en0, p1, Option.bind_some, i1, Option.bind_some]
        have ec : ((q.s.length : Nat) : Int) + 1 = ((q.s.length + 1 : Nat) : Int) := by omega
        simp only [qS_s]
        rw [ec, p4, Option.bind_some]
        simp only [qS_s, List.length_append, List.length_cons, List.length_nil, Nat.zero_add]
        exact p5
      · simp only [Bd, List.length_set, List.length_append, List.length_cons, List.length_nil]
        omega
    · have e1 : toX ⟨3, n, [a, b]⟩ = .seq (toX a) (toX b) := by simp [toX, toXs, mkX]
      have hs : sz ⟨3, n, [a, b]⟩ = sz a + sz b + 1 := by simp [sz, szm]
      have hp := sz_pos a
      have hp2 := sz_pos b
      have hB := lB_cat (sz a) (by omega) (sz b) (by omega) hp hp2
      rw [hs] at hq hN ⊢
      rw [e1] at hok ⊢
      obtain ⟨hq1, hq2, hq3⟩ := hq
      obtain ⟨i1, i2, i3, i4⟩ := ls_lay N a (by omega) (by omega) ha q ⟨by omega, by omega, by omega⟩
      obtain ⟨j1, j2, j3, j4⟩ := ls_lay N b (by omega) (by omega) hb ((toX a).lay q) ⟨by omega, by omega, by omega⟩
      simp only [XT.lay]
      refine ⟨?_, by simp only [Bd]; omega⟩
      simp only [Ls.lay, Ls.lays, Ls.node, List.getElem?_cons_zero, List.getElem?_cons_succ]
      rw [if_neg (by decide), if_neg (by decide), if_neg (by decide), i1]
      simp only [Option.bind_some]
      rw [if_pos trivial, j1]
    · have e1 : toX ⟨4, n, [a, b]⟩ = .cat n (toX a) (toX b) := by simp [toX, toXs, mkX]
      have hs : sz ⟨4, n, [a, b]⟩ = sz a + sz b + 1 := by simp [sz, szm]
      have hp := sz_pos a
      have hp2 := sz_pos b
      have hB := lB_cat (sz a) (by omega) (sz b) (by omega) hp hp2
      rw [hs] at hq hN ⊢
      rw [e1] at hok ⊢
      obtain ⟨hq1, hq2, hq3⟩ := hq
      obtain ⟨hoa, hob⟩ := hok
      obtain ⟨i1, i2, i3, i4⟩ := ls_lay N a (by omega) (by omega) ha q ⟨by omega, by omega, by omega⟩
      simp only [XT.lay]
      generalize (toX a).lay q = q1 at i1 i2 i3 i4 ⊢
      obtain ⟨j1, j2, j3, j4⟩ := ls_lay N b (by omega) (by omega) hb ⟨q1.s ++ [⟨4, 0, 0⟩], q1.g ++ [⟨q.s.length, q1.s.length, n, ((q1.s.length + 1 : Nat) : Int)⟩], q1.l⟩ ⟨by simp; omega, by simp; omega, by simp; omega⟩
      simp only [List.length_append, List.length_cons, List.length_nil] at j2 j3 j4
      have hk := keep_s (q := ⟨q1.s ++ [⟨4, 0, 0⟩], q1.g ++ [⟨q.s.length, q1.s.length, n, ((q1.s.length + 1 : Nat) : Int)⟩], q1.l⟩) hob (i := q1.s.length) (by simp)
      rw [last_get] at hk
      generalize (toX b).lay ⟨q1.s ++ [⟨4, 0, 0⟩], q1.g ++ [⟨q.s.length, q1.s.length, n, ((q1.s.length + 1 : Nat) : Int)⟩], q1.l⟩ = q2 at j1 j2 j3 j4 hk ⊢
      refine ⟨?_, ?_⟩
      · simp only [Ls.lay, Ls.lays, Ls.node, List.getElem?_cons_zero, List.getElem?_cons_succ]
        rw [if_neg (by decide), if_neg (by decide), if_neg (by decide), i1]
        simp only [Option.bind_some]
        rw [if_neg (by decide), if_pos trivial]
        have p1 : Ls.put ⟨4, 0, 0⟩ (qS q1) = _ := ls_put ⟨4, 0, 0⟩ q1 (by omega)
        have p2 : Ls.grd ⟨(q.s.length : Nat), (q1.s.length : Nat), n, ((q1.s.length + 1 : Nat) : Int)⟩ (qS ⟨q1.s ++ [⟨4, 0, 0⟩], q1.g, q1.l⟩) = _ := ls_grd ⟨(q.s.length : Nat), (q1.s.length : Nat), n, ((q1.s.length + 1 : Nat) : Int)⟩ _ (by simp only; omega)
        have p4 := ls_setT (t := ((q2.s.length : Nat) : Int)) (q := q2) (i := q1.s.length) hk
        have ec : ((q1.s.length : Nat) : Int) + 1 = ((q1.s.length + 1 : Nat) : Int) := by omega
        simp only [qS_s, qS_g]
        rw [ec, p1, Option.bind_some, p2, Option.bind_some, j1, Option.bind_some]
        simp only [qS_s, qS_g]
        exact p4
      · simp only [Bd, List.length_set]
        omega
    · have e1 : toX ⟨5, n, [a, b]⟩ = .fin (toX a) (toX b) := by simp [toX, toXs, mkX]
      have hs : sz ⟨5, n, [a, b]⟩ = sz a + sz b + 1 := by simp [sz, szm]
      have hp := sz_pos a
      have hp2 := sz_pos b
      have hB := lB_fin (sz a) (by omega) (sz b) (by omega) hp hp2
      rw [hs] at hq hN ⊢
      rw [e1] at hok ⊢
      obtain ⟨hq1, hq2, hq3⟩ := hq
      obtain ⟨hoa, hob⟩ := hok
      obtain ⟨i1, i2, i3, i4⟩ := ls_lay N a (by omega) (by omega) ha q ⟨by omega, by omega, by omega⟩
      simp only [XT.lay]
      generalize (toX a).lay q = q1 at i1 i2 i3 i4 ⊢
      obtain ⟨j1, j2, j3, j4⟩ := ls_lay N b (by omega) (by omega) hb ⟨q1.s, q1.g ++ [⟨q.s.length, q1.s.length, 0, 0⟩], q1.l⟩ ⟨by simp; omega, by simp; omega, by simp; omega⟩
      simp only [List.length_append, List.length_cons, List.length_nil] at j2 j3 j4
      have hk := keep_g (q := ⟨q1.s, q1.g ++ [⟨q.s.length, q1.s.length, 0, 0⟩], q1.l⟩) hob (i := q1.g.length) (by simp)
      rw [last_get] at hk
      generalize (toX b).lay ⟨q1.s, q1.g ++ [⟨q.s.length, q1.s.length, 0, 0⟩], q1.l⟩ = q2 at j1 j2 j3 j4 hk ⊢
      obtain ⟨m1, m2, m3, m4⟩ := ls_lay N b (by omega) (by omega) hb ⟨q2.s ++ [⟨4, 0, 0⟩], q2.g.set q1.g.length ⟨q.s.length, q1.s.length, 0, ((q2.s.length + 1 : Nat) : Int)⟩, q2.l⟩ ⟨by simp; omega, by simp; omega, by simp; omega⟩
      simp only [List.length_append, List.length_cons, List.length_nil, List.length_set] at m2 m3 m4
      have hk2 := keep_s (q := ⟨q2.s ++ [⟨4, 0, 0⟩], q2.g.set q1.g.length ⟨q.s.length, q1.s.length, 0, ((q2.s.length + 1 : Nat) : Int)⟩, q2.l⟩) hob (i := q2.s.length) (by simp)
      rw [last_get] at hk2
      have hl3 := len_s (q := ⟨q2.s ++ [⟨4, 0, 0⟩], q2.g.set q1.g.length ⟨q.s.length, q1.s.length, 0, ((q2.s.length + 1 : Nat) : Int)⟩, q2.l⟩) hob
      simp only [List.length_append, List.length_cons, List.length_nil] at hl3
      generalize (toX b).lay ⟨q2.s ++ [⟨4, 0, 0⟩], q2.g.set q1.g.length ⟨q.s.length, q1.s.length, 0, ((q2.s.length + 1 : Nat) : Int)⟩, q2.l⟩ = q3 at m1 m2 m3 m4 hk2 hl3 ⊢
      refine ⟨?_, ?_⟩
      · simp only [Ls.lay, Ls.lays, Ls.node, List.getElem?_cons_zero, List.getElem?_cons_succ]
        rw [if_neg (by decide), if_neg (by decide), if_neg (by decide), i1]
        simp only [Option.bind_some]
        rw [if_neg (by decide), if_neg (by decide), if_pos trivial]
        have p1 : Ls.grd ⟨(q.s.length : Nat), (q1.s.length : Nat), 0, 0⟩ (qS q1) = _ := ls_grd ⟨(q.s.length : Nat), (q1.s.length : Nat), 0, 0⟩ q1 (by omega)
        have p2 : Ls.put ⟨4, 0, 0⟩ (qS q2) = _ := ls_put ⟨4, 0, 0⟩ q2 (by omega)
        have p3 := ls_setA (t := ((q2.s.length + 1 : Nat) : Int)) (q := ⟨q2.s ++ [⟨4, 0, 0⟩], q2.g, q2.l⟩) (i := q1.g.length) hk
        have p4 : Ls.put ⟨3, (q1.g.length : Nat), 0⟩ (qS q3) = _ := ls_put ⟨3, (q1.g.length : Nat), 0⟩ q3 (by omega)
        have p5 := ls_setT (t := ((q3.s.length + 1 : Nat) : Int)) (q := ⟨q3.s ++ [⟨3, (q1.g.length : Nat), 0⟩], q3.g, q3.l⟩) (i := q2.s.length) (x := ⟨4, 0, 0⟩) (by rw [get_append_left _ _ _ (by omega), hk2])
        simp only [qS_s, qS_g]
        have ec : ((q2.s.length : Nat) : Int) + 1 = ((q2.s.length + 1 : Nat) : Int) := by omega
        rw [p1, Option.bind_some, j1, Option.bind_some, p2, Option.bind_some]
        simp only [qS_s, qS_g, List.length_append, List.length_cons, List.length_nil, Nat.zero_add]
        rw [ec, p3, Option.bind_some, m1, Option.bind_some, p4, Option.bind_some]
        simp only [qS_s, qS_g, List.length_append, List.length_cons, List.length_nil, Nat.zero_add]
        exact p5
      · simp only [Bd, List.length_set, List.length_append, List.length_cons, List.length_nil]
        omega
theorem lay_lenS {t : S72} (h : sz t ≤ 30) (hg : gd t) : ((toX t).lay ⟨[], [], 0⟩).s.length ≤ 131069 ∧ ((toX t).lay ⟨[], [], 0⟩).g.length ≤ 131069 := by
  have h1 := (ls_lay (sz t) t (Nat.le_refl _) h hg ⟨[], [], 0⟩ (Rm0 h)).2
  have := lB_top (sz t) (by omega)
  obtain ⟨a, b, _⟩ := h1
  simp only [List.length_nil] at a b
  omega
theorem lineOf_len (l : List S76) : (lineOf l).1.length ≤ 131069 ∧ (lineOf l).2.1.length ≤ 131069 := by
  unfold lineOf
  cases ht : treeOf l with
  | none => simp
  | some t =>
    have := lay_lenS (treeOf_sz ht) (treeOf_gd ht)
    simp only
    split
    · simpa using this
    · simp
theorem spec_lineOf (l : List S76) (hl : l.length ≤ 1048576) : Ev (fun k => spec_LineTree.f k l) (lineOf l) := by
  unfold spec_LineTree.f lineOf
  obtain ⟨t, h1, h2⟩ := spec_tree l hl
  refine bind_ev h1 ?_
  cases ht : treeOf l with
  | none => exact ite_f (by simp) (Ev.now _)
  | some t' =>
    obtain rfl := h2 t' ht
    refine ite_t (by simp) ?_
    have h3 := (ls_lay (sz t) t (Nat.le_refl _) (treeOf_sz ht) (treeOf_gd ht) ⟨[], [], 0⟩ (Rm0 (treeOf_sz ht))).1
    have e0 : qS ⟨[], [], 0⟩ = (⟨[], [], 0⟩ : Ls.Q) := rfl
    rw [e0] at h3
    have hl := lay_lenS (treeOf_sz ht) (treeOf_gd ht)
    refine bind_ev (a := qS ((toX t).lay ⟨[], [], 0⟩)) (const_ev (by cases t; exact h3)) ?_
    simp only [qS]
    refine bind_ev (spec_good _ _ (by simp; omega) (by simp; omega)) ?_
    exact ite_ev (fun _ => Ev.now _) (fun _ => Ev.now _)
end Go.Proofs.Ytgjojppbichaiaa.Pure
