/- LineTree: the program and the reference lay the same line of a tree. Conditions: none. -/
import Derived.Test.YtgjojppbichaiaaPTg
import Derived.Test.YtgjojppbichaiaaPL
import Derived.Test.YtgjojppbichaiaaQx0
import Derived.Test.YtgjojppbichaiaaQx5
import Derived.Test.YtgjojppbichaiaaQx6
import Derived.Test.YtgjojppbichaiaaQx7
import Derived.Test.YtgjojppbichaiaaQx8
set_option linter.unusedVariables false
set_option linter.unusedSimpArgs false
namespace Go.Proofs.Ytgjojppbichaiaa.Pure
open Go.RowKit Go.Proofs.Ytgjojppbichaiaa.Q Go.Proofs.YtgjojppbichaiaaW.PrintWords Go.Proofs.YtgjojppbichaiaaW.PrintLast Go.Proofs.Ytgjojppbichaiaa.Kit

/-- How long a tree's line is at most. -/
def lB (n : Nat) : Nat := if n = 1 then 1 else (if n % 2 = 0 then 4 * 2 ^ (n / 2) else 6 * 2 ^ (n / 2)) - 3
theorem lB_fin : ∀ s, s < 31 → ∀ t, t < 31 → 1 ≤ s → 1 ≤ t → lB s + 2 * lB t + 2 ≤ lB (s + t + 1) := by decide +kernel
theorem lB_cat : ∀ s, s < 31 → ∀ t, t < 31 → 1 ≤ s → 1 ≤ t → lB s + lB t + 1 ≤ lB (s + t + 1) := by decide +kernel
theorem lB_loop : ∀ s, s < 31 → 1 ≤ s → lB s + 4 ≤ lB (s + 1) := by decide +kernel
theorem lB_one : lB 1 = 1 := by decide
theorem lB_top : ∀ s, s < 31 → lB s ≤ 131069 := by decide +kernel
theorem sz_pos (t : S72) : 1 ≤ sz t := by cases t; unfold sz; omega
theorem treeOf_sz {l : List S76} {t : S72} (h : treeOf l = some t) : sz t ≤ 30 := by
  unfold treeOf at h
  split at h
  · rename_i hl
    cases hr : rdT l 40 0 with
    | none => rw [hr] at h; cases h
    | some r =>
      obtain ⟨t', b⟩ := r
      rw [hr] at h
      simp only at h
      split at h
      · rename_i hb
        obtain rfl := Option.some.inj h
        have h1 := rdT_sz l _ _ _ _ hr
        have h2 := (rdT_mono l _ _ _ _ hr).2
        omega
      · cases h
  · cases h
theorem toX_ok : ∀ (N : Nat) (t : S72), sz t ≤ N → gd t → (toX t).Ok
  | 0, t, hN, _ => by have := sz_pos t; omega
  | N + 1, t, hN, hgd => by
    rcases gd_cases t hgd with ⟨n, rfl⟩ | ⟨n, rfl, hn⟩ | ⟨n, a, rfl, hn0, hn5, ha⟩ | ⟨n, a, b, rfl, ha, hb⟩ | ⟨n, a, b, rfl, ha, hb⟩ | ⟨n, a, b, rfl, ha, hb⟩
    · rw [show toX ⟨1, n, []⟩ = .out n by simp [toX, mkX]]; trivial
    · rw [show toX ⟨2, n, []⟩ = .rai n by simp [toX, mkX]]; exact hn
    · rw [show toX ⟨6, n, [a]⟩ = .loop n.toNat (toX a) by simp [toX, toXs, mkX]]
      exact toX_ok N a (by simp only [sz, szm] at hN; omega) ha
    · rw [show toX ⟨3, n, [a, b]⟩ = .seq (toX a) (toX b) by simp [toX, toXs, mkX]]
      exact ⟨toX_ok N a (by simp only [sz, szm] at hN; omega) ha, toX_ok N b (by simp only [sz, szm] at hN; omega) hb⟩
    · rw [show toX ⟨4, n, [a, b]⟩ = .cat n (toX a) (toX b) by simp [toX, toXs, mkX]]
      exact ⟨toX_ok N a (by simp only [sz, szm] at hN; omega) ha, toX_ok N b (by simp only [sz, szm] at hN; omega) hb⟩
    · rw [show toX ⟨5, n, [a, b]⟩ = .fin (toX a) (toX b) by simp [toX, toXs, mkX]]
      exact ⟨toX_ok N a (by simp only [sz, szm] at hN; omega) ha, toX_ok N b (by simp only [sz, szm] at hN; omega) hb⟩
def e86 (x : St) : S86 := ⟨x.op, x.n, x.to⟩
def e63 (x : Gd) : S63 := ⟨x.frm, x.to, x.kind, x.at_⟩
theorem rd86_map {s : List St} {i : Nat} {x : St} (h : s[i]? = some x) : rd_T86 (s.map e86) (i : Int) = e86 x := by
  unfold rd_T86; rw [Int.toNat_natCast, List.getD_eq_getElem?_getD, List.getElem?_map, h]; rfl
theorem rd63_map {s : List Gd} {i : Nat} {x : Gd} (h : s[i]? = some x) : rd_T63 (s.map e63) (i : Int) = e63 x := by
  unfold rd_T63; rw [Int.toNat_natCast, List.getD_eq_getElem?_getD, List.getElem?_map, h]; rfl
theorem last_get {α : Type} (s : List α) (x : α) : (s ++ [x])[s.length]? = some x := by
  simp
theorem last_set {α : Type} (s : List α) (x y : α) : (s ++ [x]).set s.length y = s ++ [y] := by
  rw [List.set_append_right _ _ (Nat.le_refl _), Nat.sub_self]; rfl
/-- The bounds that a laid tree keeps. -/
def Bd (m : Nat) (q r : Ln) : Prop := r.s.length ≤ q.s.length + lB m ∧ r.g.length ≤ q.g.length + lB m ∧ r.l ≤ q.l + lB m
def Rm (m : Nat) (q : Ln) : Prop := q.s.length + lB m ≤ 10000000 ∧ q.g.length + lB m ≤ 10000000 ∧ q.l + lB m ≤ 10000000
theorem keep_s {T : XT} {q : Ln} (h : T.Ok) {i : Nat} (hi : i < q.s.length) : (T.lay q).s[i]? = q.s[i]? := (T.lay_laid q h).1.2.2.1 i hi
theorem keep_g {T : XT} {q : Ln} (h : T.Ok) {i : Nat} (hi : i < q.g.length) : (T.lay q).g[i]? = q.g[i]? := (T.lay_laid q h).1.2.2.2 i hi
theorem len_s {T : XT} {q : Ln} (h : T.Ok) : q.s.length ≤ (T.lay q).s.length := (T.lay_laid q h).1.1
theorem len_g {T : XT} {q : Ln} (h : T.Ok) : q.g.length ≤ (T.lay q).g.length := (T.lay_laid q h).1.2.1
/-! ### the program's -/
def qI (q : Ln) : Ll.Q := ⟨q.s.map e86, q.g.map e63, ((20 + q.l : Nat) : Int)⟩
theorem ll_put (x : St) (q : Ln) (h : q.s.length < 100000000) : Ll.put (e86 x) (qI q) = some (qI ⟨q.s ++ [x], q.g, q.l⟩) := by
  unfold Ll.put qI
  rw [if_pos (by simp; omega)]; simp
theorem ll_grd (x : Gd) (q : Ln) (h : q.g.length < 100000000) : Ll.grd (e63 x) (qI q) = some (qI ⟨q.s, q.g ++ [x], q.l⟩) := by
  unfold Ll.grd qI
  rw [if_pos (by simp; omega)]; simp
theorem ll_setT {i : Nat} {t : Int} {q : Ln} {x : St} (h : q.s[i]? = some x) : Ll.setT i t (qI q) = some (qI ⟨q.s.set i ⟨x.op, x.n, t⟩, q.g, q.l⟩) := by
  have hi := (List.getElem?_eq_some_iff.1 h).1
  unfold Ll.setT qI
  simp only
  rw [if_pos (by simpa using hi), rd86_map h, List.map_set]; rfl
theorem ll_setA {i : Nat} {t : Int} {q : Ln} {x : Gd} (h : q.g[i]? = some x) : Ll.setA i t (qI q) = some (qI ⟨q.s, q.g.set i ⟨x.frm, x.to, x.kind, t⟩, q.l⟩) := by
  have hi := (List.getElem?_eq_some_iff.1 h).1
  unfold Ll.setA qI
  simp only
  rw [if_pos (by simpa using hi), rd63_map h, List.map_set]; rfl
theorem qI_s (q : Ln) : (qI q).s.length = q.s.length := by simp [qI]
theorem qI_g (q : Ln) : (qI q).g.length = q.g.length := by simp [qI]
theorem ll_lay : ∀ (N : Nat) (t : S72), sz t ≤ N → N ≤ 30 → gd t → ∀ q : Ln, Rm (sz t) q → Ll.lay t (qI q) = some (qI ((toX t).lay q)) ∧ Bd (sz t) q ((toX t).lay q)
  | 0, t, hN, _, _ => by have := sz_pos t; omega
  | N + 1, t, hN, hN30, hgd => by
    intro q hq
    have hok := toX_ok (N + 1) t hN hgd
    rcases gd_cases t hgd with ⟨n, rfl⟩ | ⟨n, rfl, hn⟩ | ⟨n, a, rfl, hn0, hn5, ha⟩ | ⟨n, a, b, rfl, ha, hb⟩ | ⟨n, a, b, rfl, ha, hb⟩ | ⟨n, a, b, rfl, ha, hb⟩
    · have e1 : toX ⟨1, n, []⟩ = .out n := by simp [toX, mkX]
      rw [e1]
      obtain ⟨hq1, hq2, hq3⟩ := hq
      refine ⟨?_, ?_⟩
      · unfold Ll.lay Ll.node
        rw [if_pos rfl]
        exact ll_put ⟨1, n, 0⟩ q (by omega)
      · have h1 : lB (sz ⟨1, n, []⟩) = 1 := by simp [sz, szm, lB_one]
        simp only [Bd, XT.lay, List.length_append, List.length_cons, List.length_nil, h1]
        omega
    · have e1 : toX ⟨2, n, []⟩ = .rai n := by simp [toX, mkX]
      rw [e1]
      obtain ⟨hq1, hq2, hq3⟩ := hq
      refine ⟨?_, ?_⟩
      · unfold Ll.lay Ll.node
        rw [if_neg (by decide), if_pos rfl]
        exact ll_put ⟨2, n, 0⟩ q (by omega)
      · have h1 : lB (sz ⟨2, n, []⟩) = 1 := by simp [sz, szm, lB_one]
        simp only [Bd, XT.lay, List.length_append, List.length_cons, List.length_nil, h1]
        omega
    · have e1 : toX ⟨6, n, [a]⟩ = .loop n.toNat (toX a) := by simp [toX, toXs, mkX]
      have hs : sz ⟨6, n, [a]⟩ = sz a + 1 := by simp [sz, szm]
      have hp := sz_pos a
      have hB := lB_loop (sz a) (by omega) hp
      rw [hs] at hq hN ⊢
      rw [e1] at hok ⊢
      obtain ⟨hq1, hq2, hq3⟩ := hq
      have ia := ll_lay N a (by omega) (by omega) ha
      have hoa : (toX a).Ok := hok
      obtain ⟨i1, i2, i3, i4⟩ := ia ⟨q.s ++ [⟨5, ((20 + q.l : Nat) : Int), 0⟩, ⟨6, ((20 + q.l : Nat) : Int), n⟩, ⟨4, 0, 0⟩], q.g, q.l + 1⟩ ⟨by simp; omega, by simp; omega, by simp; omega⟩
      simp only [List.length_append, List.length_cons, List.length_nil] at i2 i3 i4
      have hk := keep_s (q := ⟨q.s ++ [⟨5, ((20 + q.l : Nat) : Int), 0⟩, ⟨6, ((20 + q.l : Nat) : Int), n⟩, ⟨4, 0, 0⟩], q.g, q.l + 1⟩) hoa (i := q.s.length + 2) (by simp)
      rw [get_append_at] at hk
      have hl1 := len_s (q := ⟨q.s ++ [⟨5, ((20 + q.l : Nat) : Int), 0⟩, ⟨6, ((20 + q.l : Nat) : Int), n⟩, ⟨4, 0, 0⟩], q.g, q.l + 1⟩) hoa
      simp only [List.length_append, List.length_cons, List.length_nil] at hl1
      have en : ((n.toNat : Nat) : Int) = n := by omega
      simp only [XT.lay, en]
      generalize (toX a).lay ⟨q.s ++ [⟨5, ((20 + q.l : Nat) : Int), 0⟩, ⟨6, ((20 + q.l : Nat) : Int), n⟩, ⟨4, 0, 0⟩], q.g, q.l + 1⟩ = q1 at i1 i2 i3 i4 hk hl1 ⊢
      refine ⟨?_, ?_⟩
      · simp only [Ll.lay, Ll.lays, Ll.node, List.getElem?_cons_zero]
        rw [if_neg (by decide), if_neg (by decide), if_pos trivial, if_pos (by simp [qI]; omega)]
        have p1 := ll_put ⟨5, ((20 + q.l : Nat) : Int), 0⟩ ⟨q.s, q.g, q.l + 1⟩ (by simp only; omega)
        have p2 := ll_put ⟨6, ((20 + q.l : Nat) : Int), n⟩ ⟨q.s ++ [⟨5, ((20 + q.l : Nat) : Int), 0⟩], q.g, q.l + 1⟩ (by simp; omega)
        have p3 := ll_put ⟨4, 0, 0⟩ ⟨q.s ++ [⟨5, ((20 + q.l : Nat) : Int), 0⟩] ++ [⟨6, ((20 + q.l : Nat) : Int), n⟩], q.g, q.l + 1⟩ (by simp; omega)
        have p4 := ll_put ⟨4, 0, ((q.s.length + 1 : Nat) : Int)⟩ q1 (by omega)
        have p5 := ll_setT (t := ((q1.s.length + 1 : Nat) : Int)) (q := ⟨q1.s ++ [⟨4, 0, ((q.s.length + 1 : Nat) : Int)⟩], q1.g, q1.l⟩) (i := q.s.length + 2) (x := ⟨4, 0, 0⟩) (by rw [get_append_left _ _ _ (by omega), hk]; rfl)
        have eq0 : (⟨(qI q).s, (qI q).g, (qI q).n + 1⟩ : Ll.Q) = qI ⟨q.s, q.g, q.l + 1⟩ := by simp [qI]; omega
        have en0 : (qI q).n = ((20 + q.l : Nat) : Int) := rfl
        rw [eq0, en0]
        have p1' : Ll.put ⟨5, ((20 + q.l : Nat) : Int), 0⟩ (qI ⟨q.s, q.g, q.l + 1⟩) = _ := p1
        rw [p1', Option.bind_some]
        have p2' : Ll.put ⟨6, ((20 + q.l : Nat) : Int), n⟩ (qI ⟨q.s ++ [⟨5, ((20 + q.l : Nat) : Int), 0⟩], q.g, q.l + 1⟩) = _ := p2
        rw [p2', Option.bind_some]
        have p3' : Ll.put ⟨4, 0, 0⟩ (qI ⟨q.s ++ [⟨5, ((20 + q.l : Nat) : Int), 0⟩] ++ [⟨6, ((20 + q.l : Nat) : Int), n⟩], q.g, q.l + 1⟩) = _ := p3
        rw [p3', Option.bind_some]
        have ea : q.s ++ [(⟨5, ((20 + q.l : Nat) : Int), 0⟩ : St)] ++ [⟨6, ((20 + q.l : Nat) : Int), n⟩] ++ [⟨4, 0, 0⟩] = q.s ++ [⟨5, ((20 + q.l : Nat) : Int), 0⟩, ⟨6, ((20 + q.l : Nat) : Int), n⟩, ⟨4, 0, 0⟩] := by simp
        rw [ea, i1, Option.bind_some]
        simp only [qI_s, List.length_append, List.length_cons, List.length_nil, Nat.zero_add]
        have p4' : Ll.put ⟨4, 0, ((q.s.length + 1 : Nat) : Int)⟩ (qI q1) = _ := p4
        rw [p4', Option.bind_some]
        simp only [qI_s, List.length_append, List.length_cons, List.length_nil, Nat.zero_add]
        exact p5
      · simp only [Bd, List.length_set, List.length_append, List.length_cons, List.length_nil]
        omega
    · have e1 : toX ⟨3, n, [a, b]⟩ = .seq (toX a) (toX b) := by simp [toX, toXs, mkX]
      have hs : sz ⟨3, n, [a, b]⟩ = sz a + sz b + 1 := by simp [sz, szm]
      have hp := sz_pos a
      have hp2 := sz_pos b
      have hB := lB_cat (sz a) (by omega) (sz b) (by omega) hp hp2
      rw [hs] at hq hN ⊢
      rw [e1] at hok ⊢
      obtain ⟨hq1, hq2, hq3⟩ := hq
      obtain ⟨i1, i2, i3, i4⟩ := ll_lay N a (by omega) (by omega) ha q ⟨by omega, by omega, by omega⟩
      obtain ⟨j1, j2, j3, j4⟩ := ll_lay N b (by omega) (by omega) hb ((toX a).lay q) ⟨by omega, by omega, by omega⟩
      simp only [XT.lay]
      refine ⟨?_, by simp only [Bd]; omega⟩
      simp only [Ll.lay, Ll.lays, Ll.node, List.getElem?_cons_zero, List.getElem?_cons_succ]
      rw [if_neg (by decide), if_neg (by decide), if_neg (by decide), i1]
      simp only [Option.bind_some]
      rw [if_pos trivial, j1]
    · have e1 : toX ⟨4, n, [a, b]⟩ = .cat n (toX a) (toX b) := by simp [toX, toXs, mkX]
      have hs : sz ⟨4, n, [a, b]⟩ = sz a + sz b + 1 := by simp [sz, szm]
      have hp := sz_pos a
      have hp2 := sz_pos b
      have hB := lB_cat (sz a) (by omega) (sz b) (by omega) hp hp2
      rw [hs] at hq hN ⊢
      rw [e1] at hok ⊢
      obtain ⟨hq1, hq2, hq3⟩ := hq
      obtain ⟨hoa, hob⟩ := hok
      obtain ⟨i1, i2, i3, i4⟩ := ll_lay N a (by omega) (by omega) ha q ⟨by omega, by omega, by omega⟩
      simp only [XT.lay]
      generalize (toX a).lay q = q1 at i1 i2 i3 i4 ⊢
      obtain ⟨j1, j2, j3, j4⟩ := ll_lay N b (by omega) (by omega) hb ⟨q1.s ++ [⟨4, 0, 0⟩], q1.g ++ [⟨q.s.length, q1.s.length, n, ((q1.s.length + 1 : Nat) : Int)⟩], q1.l⟩ ⟨by simp; omega, by simp; omega, by simp; omega⟩
      simp only [List.length_append, List.length_cons, List.length_nil] at j2 j3 j4
      have hk := keep_s (q := ⟨q1.s ++ [⟨4, 0, 0⟩], q1.g ++ [⟨q.s.length, q1.s.length, n, ((q1.s.length + 1 : Nat) : Int)⟩], q1.l⟩) hob (i := q1.s.length) (by simp)
      rw [last_get] at hk
      generalize (toX b).lay ⟨q1.s ++ [⟨4, 0, 0⟩], q1.g ++ [⟨q.s.length, q1.s.length, n, ((q1.s.length + 1 : Nat) : Int)⟩], q1.l⟩ = q2 at j1 j2 j3 j4 hk ⊢
      refine ⟨?_, ?_⟩
      · simp only [Ll.lay, Ll.lays, Ll.node, List.getElem?_cons_zero, List.getElem?_cons_succ]
        rw [if_neg (by decide), if_neg (by decide), if_neg (by decide), i1]
        simp only [Option.bind_some]
        rw [if_neg (by decide), if_pos trivial]
        have p1 : Ll.grd ⟨(q.s.length : Nat), (q1.s.length : Nat), n, 0⟩ (qI q1) = _ := ll_grd ⟨(q.s.length : Nat), (q1.s.length : Nat), n, 0⟩ q1 (by omega)
        have p2 : Ll.put ⟨4, 0, 0⟩ (qI ⟨q1.s, q1.g ++ [⟨(q.s.length : Nat), (q1.s.length : Nat), n, 0⟩], q1.l⟩) = _ := ll_put ⟨4, 0, 0⟩ _ (by simp only; omega)
        have p3 := ll_setA (t := ((q1.s.length + 1 : Nat) : Int)) (q := ⟨q1.s ++ [⟨4, 0, 0⟩], q1.g ++ [⟨(q.s.length : Nat), (q1.s.length : Nat), n, 0⟩], q1.l⟩) (i := q1.g.length) (last_get _ _)
        have p4 := ll_setT (t := ((q2.s.length : Nat) : Int)) (q := q2) (i := q1.s.length) hk
        simp only [qI_s, qI_g]
        rw [p1, Option.bind_some, p2, Option.bind_some]
        simp only [qI_s, qI_g, List.length_append, List.length_cons, List.length_nil, Nat.zero_add]
        rw [p3, Option.bind_some]
        simp only [last_set]
        rw [j1, Option.bind_some]
        simp only [qI_s, qI_g]
        exact p4
      · simp only [Bd, List.length_set]
        omega
    · have e1 : toX ⟨5, n, [a, b]⟩ = .fin (toX a) (toX b) := by simp [toX, toXs, mkX]
      have hs : sz ⟨5, n, [a, b]⟩ = sz a + sz b + 1 := by simp [sz, szm]
      have hp := sz_pos a
      have hp2 := sz_pos b
      have hB := lB_fin (sz a) (by omega) (sz b) (by omega) hp hp2
      rw [hs] at hq hN ⊢
      rw [e1] at hok ⊢
      obtain ⟨hq1, hq2, hq3⟩ := hq
      obtain ⟨hoa, hob⟩ := hok
      obtain ⟨i1, i2, i3, i4⟩ := ll_lay N a (by omega) (by omega) ha q ⟨by omega, by omega, by omega⟩
      simp only [XT.lay]
      generalize (toX a).lay q = q1 at i1 i2 i3 i4 ⊢
      obtain ⟨j1, j2, j3, j4⟩ := ll_lay N b (by omega) (by omega) hb ⟨q1.s, q1.g ++ [⟨q.s.length, q1.s.length, 0, 0⟩], q1.l⟩ ⟨by simp; omega, by simp; omega, by simp; omega⟩
      simp only [List.length_append, List.length_cons, List.length_nil] at j2 j3 j4
      have hk := keep_g (q := ⟨q1.s, q1.g ++ [⟨q.s.length, q1.s.length, 0, 0⟩], q1.l⟩) hob (i := q1.g.length) (by simp)
      rw [last_get] at hk
      generalize (toX b).lay ⟨q1.s, q1.g ++ [⟨q.s.length, q1.s.length, 0, 0⟩], q1.l⟩ = q2 at j1 j2 j3 j4 hk ⊢
      obtain ⟨m1, m2, m3, m4⟩ := ll_lay N b (by omega) (by omega) hb ⟨q2.s ++ [⟨4, 0, 0⟩], q2.g.set q1.g.length ⟨q.s.length, q1.s.length, 0, ((q2.s.length + 1 : Nat) : Int)⟩, q2.l⟩ ⟨by simp; omega, by simp; omega, by simp; omega⟩
      simp only [List.length_append, List.length_cons, List.length_nil, List.length_set] at m2 m3 m4
      have hk2 := keep_s (q := ⟨q2.s ++ [⟨4, 0, 0⟩], q2.g.set q1.g.length ⟨q.s.length, q1.s.length, 0, ((q2.s.length + 1 : Nat) : Int)⟩, q2.l⟩) hob (i := q2.s.length) (by simp)
      rw [last_get] at hk2
      have hl3 := len_s (q := ⟨q2.s ++ [⟨4, 0, 0⟩], q2.g.set q1.g.length ⟨q.s.length, q1.s.length, 0, ((q2.s.length + 1 : Nat) : Int)⟩, q2.l⟩) hob
      simp only [List.length_append, List.length_cons, List.length_nil] at hl3
      generalize (toX b).lay ⟨q2.s ++ [⟨4, 0, 0⟩], q2.g.set q1.g.length ⟨q.s.length, q1.s.length, 0, ((q2.s.length + 1 : Nat) : Int)⟩, q2.l⟩ = q3 at m1 m2 m3 m4 hk2 hl3 ⊢
      refine ⟨?_, ?_⟩
      · simp only [Ll.lay, Ll.lays, Ll.node, List.getElem?_cons_zero, List.getElem?_cons_succ]
        rw [if_neg (by decide), if_neg (by decide), if_neg (by decide), i1]
        simp only [Option.bind_some]
        rw [if_neg (by decide), if_neg (by decide), if_pos trivial]
        have p1 : Ll.grd ⟨(q.s.length : Nat), (q1.s.length : Nat), 0, 0⟩ (qI q1) = _ := ll_grd ⟨(q.s.length : Nat), (q1.s.length : Nat), 0, 0⟩ q1 (by omega)
        have p2 : Ll.put ⟨4, 0, 0⟩ (qI q2) = _ := ll_put ⟨4, 0, 0⟩ q2 (by omega)
        have p3 := ll_setA (t := ((q2.s.length + 1 : Nat) : Int)) (q := ⟨q2.s ++ [⟨4, 0, 0⟩], q2.g, q2.l⟩) (i := q1.g.length) hk
        have p4 : Ll.put ⟨3, (q1.g.length : Nat), 0⟩ (qI q3) = _ := ll_put ⟨3, (q1.g.length : Nat), 0⟩ q3 (by omega)
        have p5 := ll_setT (t := ((q3.s.length + 1 : Nat) : Int)) (q := ⟨q3.s ++ [⟨3, (q1.g.length : Nat), 0⟩], q3.g, q3.l⟩) (i := q2.s.length) (x := ⟨4, 0, 0⟩) (by rw [get_append_left _ _ _ (by omega), hk2])
        simp only [qI_s, qI_g]
        rw [p1, Option.bind_some, j1, Option.bind_some, p2, Option.bind_some]
        simp only [qI_s, qI_g, List.length_append, List.length_cons, List.length_nil, Nat.zero_add]
        rw [p3, Option.bind_some, m1, Option.bind_some, p4, Option.bind_some]
        simp only [qI_s, qI_g, List.length_append, List.length_cons, List.length_nil, Nat.zero_add]
        exact p5
      · simp only [Bd, List.length_set, List.length_append, List.length_cons, List.length_nil]
        omega
/-! ### the reference's -/
def qS (q : Ln) : Ls.Q := ⟨q.s.map e86, q.g.map e63, (q.l : Int)⟩
theorem ls_put (x : St) (q : Ln) (h : q.s.length < 100000000) : Ls.put (e86 x) (qS q) = some (qS ⟨q.s ++ [x], q.g, q.l⟩) := by
  unfold Ls.put qS
  rw [if_pos (by simp; omega)]; simp
theorem ls_grd (x : Gd) (q : Ln) (h : q.g.length < 100000000) : Ls.grd (e63 x) (qS q) = some (qS ⟨q.s, q.g ++ [x], q.l⟩) := by
  unfold Ls.grd qS
  rw [if_pos (by simp; omega)]; simp
theorem ls_setT {i : Nat} {t : Int} {q : Ln} {x : St} (h : q.s[i]? = some x) : Ls.setT i t (qS q) = some (qS ⟨q.s.set i ⟨x.op, x.n, t⟩, q.g, q.l⟩) := by
  have hi := (List.getElem?_eq_some_iff.1 h).1
  unfold Ls.setT qS
  simp only
  rw [if_pos (by simpa using hi), rd86_map h, List.map_set]; rfl
theorem ls_setA {i : Nat} {t : Int} {q : Ln} {x : Gd} (h : q.g[i]? = some x) : Ls.setA i t (qS q) = some (qS ⟨q.s, q.g.set i ⟨x.frm, x.to, x.kind, t⟩, q.l⟩) := by
  have hi := (List.getElem?_eq_some_iff.1 h).1
  unfold Ls.setA qS
  simp only
  rw [if_pos (by simpa using hi), rd63_map h, List.map_set]; rfl
theorem qS_s (q : Ln) : (qS q).s.length = q.s.length := by simp [qS]
theorem qS_g (q : Ln) : (qS q).g.length = q.g.length := by simp [qS]
theorem ls_lay : ∀ (N : Nat) (t : S72), sz t ≤ N → N ≤ 30 → gd t → ∀ q : Ln, Rm (sz t) q → Ls.lay t (qS q) = some (qS ((toX t).lay q)) ∧ Bd (sz t) q ((toX t).lay q)
  | 0, t, hN, _, _ => by have := sz_pos t; omega
  | N + 1, t, hN, hN30, hgd => by
    intro q hq
    have hok := toX_ok (N + 1) t hN hgd
    rcases gd_cases t hgd with ⟨n, rfl⟩ | ⟨n, rfl, hn⟩ | ⟨n, a, rfl, hn0, hn5, ha⟩ | ⟨n, a, b, rfl, ha, hb⟩ | ⟨n, a, b, rfl, ha, hb⟩ | ⟨n, a, b, rfl, ha, hb⟩
    · have e1 : toX ⟨1, n, []⟩ = .out n := by simp [toX, mkX]
      rw [e1]
      obtain ⟨hq1, hq2, hq3⟩ := hq
      refine ⟨?_, ?_⟩
      · unfold Ls.lay Ls.node
        rw [if_pos rfl]
        exact ls_put ⟨1, n, 0⟩ q (by omega)
      · have h1 : lB (sz ⟨1, n, []⟩) = 1 := by simp [sz, szm, lB_one]
        simp only [Bd, XT.lay, List.length_append, List.length_cons, List.length_nil, h1]
        omega
    · have e1 : toX ⟨2, n, []⟩ = .rai n := by simp [toX, mkX]
      rw [e1]
      obtain ⟨hq1, hq2, hq3⟩ := hq
      refine ⟨?_, ?_⟩
      · unfold Ls.lay Ls.node
        rw [if_neg (by decide), if_pos rfl]
        exact ls_put ⟨2, n, 0⟩ q (by omega)
      · have h1 : lB (sz ⟨2, n, []⟩) = 1 := by simp [sz, szm, lB_one]
        simp only [Bd, XT.lay, List.length_append, List.length_cons, List.length_nil, h1]
        omega
    · have e1 : toX ⟨6, n, [a]⟩ = .loop n.toNat (toX a) := by simp [toX, toXs, mkX]
      have hs : sz ⟨6, n, [a]⟩ = sz a + 1 := by simp [sz, szm]
      have hp := sz_pos a
      have hB := lB_loop (sz a) (by omega) hp
      rw [hs] at hq hN ⊢
      rw [e1] at hok ⊢
      obtain ⟨hq1, hq2, hq3⟩ := hq
      have ia := ls_lay N a (by omega) (by omega) ha
      have hoa : (toX a).Ok := hok
      obtain ⟨i1, i2, i3, i4⟩ := ia ⟨q.s ++ [⟨5, ((20 + q.l : Nat) : Int), 0⟩, ⟨6, ((20 + q.l : Nat) : Int), n⟩, ⟨4, 0, 0⟩], q.g, q.l + 1⟩ ⟨by simp; omega, by simp; omega, by simp; omega⟩
      simp only [List.length_append, List.length_cons, List.length_nil] at i2 i3 i4
      have hk := keep_s (q := ⟨q.s ++ [⟨5, ((20 + q.l : Nat) : Int), 0⟩, ⟨6, ((20 + q.l : Nat) : Int), n⟩, ⟨4, 0, 0⟩], q.g, q.l + 1⟩) hoa (i := q.s.length + 2) (by simp)
      rw [get_append_at] at hk
      have hl1 := len_s (q := ⟨q.s ++ [⟨5, ((20 + q.l : Nat) : Int), 0⟩, ⟨6, ((20 + q.l : Nat) : Int), n⟩, ⟨4, 0, 0⟩], q.g, q.l + 1⟩) hoa
      simp only [List.length_append, List.length_cons, List.length_nil] at hl1
      have en : ((n.toNat : Nat) : Int) = n := by omega
      simp only [XT.lay, en]
      generalize (toX a).lay ⟨q.s ++ [⟨5, ((20 + q.l : Nat) : Int), 0⟩, ⟨6, ((20 + q.l : Nat) : Int), n⟩, ⟨4, 0, 0⟩], q.g, q.l + 1⟩ = q1 at i1 i2 i3 i4 hk hl1 ⊢
      refine ⟨?_, ?_⟩
      · simp only [Ls.lay, Ls.lays, Ls.node, List.getElem?_cons_zero]
        rw [if_neg (by decide), if_neg (by decide), if_pos trivial, if_pos (by simp [qS]; omega)]
        have p1 : Ls.put3 ⟨5, 20 + (q.l : Int), 0⟩ ⟨6, 20 + (q.l : Int), n⟩ ⟨4, 0, 0⟩ (qS ⟨q.s, q.g, q.l + 1⟩) = some (qS ⟨q.s ++ [⟨5, ((20 + q.l : Nat) : Int), 0⟩, ⟨6, ((20 + q.l : Nat) : Int), n⟩, ⟨4, 0, 0⟩], q.g, q.l + 1⟩) := by
          unfold Ls.put3 qS
          rw [if_pos (by simp; omega)]; simp [e86]
        have p4 : Ls.put ⟨4, 0, ((q.s.length + 1 : Nat) : Int)⟩ (qS q1) = _ := ls_put ⟨4, 0, ((q.s.length + 1 : Nat) : Int)⟩ q1 (by omega)
        have p5 := ls_setT (t := ((q1.s.length + 1 : Nat) : Int)) (q := ⟨q1.s ++ [⟨4, 0, ((q.s.length + 1 : Nat) : Int)⟩], q1.g, q1.l⟩) (i := q.s.length + 2) (x := ⟨4, 0, 0⟩) (by rw [get_append_left _ _ _ (by omega), hk]; rfl)
        have eq0 : (⟨(qS q).s, (qS q).g, (qS q).n + 1⟩ : Ls.Q) = qS ⟨q.s, q.g, q.l + 1⟩ := by simp [qS]
        have en0 : (qS q).n = (q.l : Int) := rfl
        rw [eq0, en0, p1, Option.bind_some, i1, Option.bind_some]
        have ec : ((q.s.length : Nat) : Int) + 1 = ((q.s.length + 1 : Nat) : Int) := by omega
        simp only [qS_s]
        rw [ec, p4, Option.bind_some]
        simp only [qS_s, List.length_append, List.length_cons, List.length_nil, Nat.zero_add]
        exact p5
      · simp only [Bd, List.length_set, List.length_append, List.length_cons, List.length_nil]
        omega
    · have e1 : toX ⟨3, n, [a, b]⟩ = .seq (toX a) (toX b) := by simp [toX, toXs, mkX]
      have hs : sz ⟨3, n, [a, b]⟩ = sz a + sz b + 1 := by simp [sz, szm]
      have hp := sz_pos a
      have hp2 := sz_pos b
      have hB := lB_cat (sz a) (by omega) (sz b) (by omega) hp hp2
      rw [hs] at hq hN ⊢
      rw [e1] at hok ⊢
      obtain ⟨hq1, hq2, hq3⟩ := hq
      obtain ⟨i1, i2, i3, i4⟩ := ls_lay N a (by omega) (by omega) ha q ⟨by omega, by omega, by omega⟩
      obtain ⟨j1, j2, j3, j4⟩ := ls_lay N b (by omega) (by omega) hb ((toX a).lay q) ⟨by omega, by omega, by omega⟩
      simp only [XT.lay]
      refine ⟨?_, by simp only [Bd]; omega⟩
      simp only [Ls.lay, Ls.lays, Ls.node, List.getElem?_cons_zero, List.getElem?_cons_succ]
      rw [if_neg (by decide), if_neg (by decide), if_neg (by decide), i1]
      simp only [Option.bind_some]
      rw [if_pos trivial, j1]
    · have e1 : toX ⟨4, n, [a, b]⟩ = .cat n (toX a) (toX b) := by simp [toX, toXs, mkX]
      have hs : sz ⟨4, n, [a, b]⟩ = sz a + sz b + 1 := by simp [sz, szm]
      have hp := sz_pos a
      have hp2 := sz_pos b
      have hB := lB_cat (sz a) (by omega) (sz b) (by omega) hp hp2
      rw [hs] at hq hN ⊢
      rw [e1] at hok ⊢
      obtain ⟨hq1, hq2, hq3⟩ := hq
      obtain ⟨hoa, hob⟩ := hok
      obtain ⟨i1, i2, i3, i4⟩ := ls_lay N a (by omega) (by omega) ha q ⟨by omega, by omega, by omega⟩
      simp only [XT.lay]
      generalize (toX a).lay q = q1 at i1 i2 i3 i4 ⊢
      obtain ⟨j1, j2, j3, j4⟩ := ls_lay N b (by omega) (by omega) hb ⟨q1.s ++ [⟨4, 0, 0⟩], q1.g ++ [⟨q.s.length, q1.s.length, n, ((q1.s.length + 1 : Nat) : Int)⟩], q1.l⟩ ⟨by simp; omega, by simp; omega, by simp; omega⟩
      simp only [List.length_append, List.length_cons, List.length_nil] at j2 j3 j4
      have hk := keep_s (q := ⟨q1.s ++ [⟨4, 0, 0⟩], q1.g ++ [⟨q.s.length, q1.s.length, n, ((q1.s.length + 1 : Nat) : Int)⟩], q1.l⟩) hob (i := q1.s.length) (by simp)
      rw [last_get] at hk
      generalize (toX b).lay ⟨q1.s ++ [⟨4, 0, 0⟩], q1.g ++ [⟨q.s.length, q1.s.length, n, ((q1.s.length + 1 : Nat) : Int)⟩], q1.l⟩ = q2 at j1 j2 j3 j4 hk ⊢
      refine ⟨?_, ?_⟩
      · simp only [Ls.lay, Ls.lays, Ls.node, List.getElem?_cons_zero, List.getElem?_cons_succ]
        rw [if_neg (by decide), if_neg (by decide), if_neg (by decide), i1]
        simp only [Option.bind_some]
        rw [if_neg (by decide), if_pos trivial]
        have p1 : Ls.put ⟨4, 0, 0⟩ (qS q1) = _ := ls_put ⟨4, 0, 0⟩ q1 (by omega)
        have p2 : Ls.grd ⟨(q.s.length : Nat), (q1.s.length : Nat), n, ((q1.s.length + 1 : Nat) : Int)⟩ (qS ⟨q1.s ++ [⟨4, 0, 0⟩], q1.g, q1.l⟩) = _ := ls_grd ⟨(q.s.length : Nat), (q1.s.length : Nat), n, ((q1.s.length + 1 : Nat) : Int)⟩ _ (by simp only; omega)
        have p4 := ls_setT (t := ((q2.s.length : Nat) : Int)) (q := q2) (i := q1.s.length) hk
        have ec : ((q1.s.length : Nat) : Int) + 1 = ((q1.s.length + 1 : Nat) : Int) := by omega
        simp only [qS_s, qS_g]
        rw [ec, p1, Option.bind_some, p2, Option.bind_some, j1, Option.bind_some]
        simp only [qS_s, qS_g]
        exact p4
      · simp only [Bd, List.length_set]
        omega
    · have e1 : toX ⟨5, n, [a, b]⟩ = .fin (toX a) (toX b) := by simp [toX, toXs, mkX]
      have hs : sz ⟨5, n, [a, b]⟩ = sz a + sz b + 1 := by simp [sz, szm]
      have hp := sz_pos a
      have hp2 := sz_pos b
      have hB := lB_fin (sz a) (by omega) (sz b) (by omega) hp hp2
      rw [hs] at hq hN ⊢
      rw [e1] at hok ⊢
      obtain ⟨hq1, hq2, hq3⟩ := hq
      obtain ⟨hoa, hob⟩ := hok
      obtain ⟨i1, i2, i3, i4⟩ := ls_lay N a (by omega) (by omega) ha q ⟨by omega, by omega, by omega⟩
      simp only [XT.lay]
      generalize (toX a).lay q = q1 at i1 i2 i3 i4 ⊢
      obtain ⟨j1, j2, j3, j4⟩ := ls_lay N b (by omega) (by omega) hb ⟨q1.s, q1.g ++ [⟨q.s.length, q1.s.length, 0, 0⟩], q1.l⟩ ⟨by simp; omega, by simp; omega, by simp; omega⟩
      simp only [List.length_append, List.length_cons, List.length_nil] at j2 j3 j4
      have hk := keep_g (q := ⟨q1.s, q1.g ++ [⟨q.s.length, q1.s.length, 0, 0⟩], q1.l⟩) hob (i := q1.g.length) (by simp)
      rw [last_get] at hk
      generalize (toX b).lay ⟨q1.s, q1.g ++ [⟨q.s.length, q1.s.length, 0, 0⟩], q1.l⟩ = q2 at j1 j2 j3 j4 hk ⊢
      obtain ⟨m1, m2, m3, m4⟩ := ls_lay N b (by omega) (by omega) hb ⟨q2.s ++ [⟨4, 0, 0⟩], q2.g.set q1.g.length ⟨q.s.length, q1.s.length, 0, ((q2.s.length + 1 : Nat) : Int)⟩, q2.l⟩ ⟨by simp; omega, by simp; omega, by simp; omega⟩
      simp only [List.length_append, List.length_cons, List.length_nil, List.length_set] at m2 m3 m4
      have hk2 := keep_s (q := ⟨q2.s ++ [⟨4, 0, 0⟩], q2.g.set q1.g.length ⟨q.s.length, q1.s.length, 0, ((q2.s.length + 1 : Nat) : Int)⟩, q2.l⟩) hob (i := q2.s.length) (by simp)
      rw [last_get] at hk2
      have hl3 := len_s (q := ⟨q2.s ++ [⟨4, 0, 0⟩], q2.g.set q1.g.length ⟨q.s.length, q1.s.length, 0, ((q2.s.length + 1 : Nat) : Int)⟩, q2.l⟩) hob
      simp only [List.length_append, List.length_cons, List.length_nil] at hl3
      generalize (toX b).lay ⟨q2.s ++ [⟨4, 0, 0⟩], q2.g.set q1.g.length ⟨q.s.length, q1.s.length, 0, ((q2.s.length + 1 : Nat) : Int)⟩, q2.l⟩ = q3 at m1 m2 m3 m4 hk2 hl3 ⊢
      refine ⟨?_, ?_⟩
      · simp only [Ls.lay, Ls.lays, Ls.node, List.getElem?_cons_zero, List.getElem?_cons_succ]
        rw [if_neg (by decide), if_neg (by decide), if_neg (by decide), i1]
        simp only [Option.bind_some]
        rw [if_neg (by decide), if_neg (by decide), if_pos trivial]
        have p1 : Ls.grd ⟨(q.s.length : Nat), (q1.s.length : Nat), 0, 0⟩ (qS q1) = _ := ls_grd ⟨(q.s.length : Nat), (q1.s.length : Nat), 0, 0⟩ q1 (by omega)
        have p2 : Ls.put ⟨4, 0, 0⟩ (qS q2) = _ := ls_put ⟨4, 0, 0⟩ q2 (by omega)
        have p3 := ls_setA (t := ((q2.s.length + 1 : Nat) : Int)) (q := ⟨q2.s ++ [⟨4, 0, 0⟩], q2.g, q2.l⟩) (i := q1.g.length) hk
        have p4 : Ls.put ⟨3, (q1.g.length : Nat), 0⟩ (qS q3) = _ := ls_put ⟨3, (q1.g.length : Nat), 0⟩ q3 (by omega)
        have p5 := ls_setT (t := ((q3.s.length + 1 : Nat) : Int)) (q := ⟨q3.s ++ [⟨3, (q1.g.length : Nat), 0⟩], q3.g, q3.l⟩) (i := q2.s.length) (x := ⟨4, 0, 0⟩) (by rw [get_append_left _ _ _ (by omega), hk2])
        simp only [qS_s, qS_g]
        have ec : ((q2.s.length : Nat) : Int) + 1 = ((q2.s.length + 1 : Nat) : Int) := by omega
        rw [p1, Option.bind_some, j1, Option.bind_some, p2, Option.bind_some]
        simp only [qS_s, qS_g, List.length_append, List.length_cons, List.length_nil, Nat.zero_add]
        rw [ec, p3, Option.bind_some, m1, Option.bind_some, p4, Option.bind_some]
        simp only [qS_s, qS_g, List.length_append, List.length_cons, List.length_nil, Nat.zero_add]
        exact p5
      · simp only [Bd, List.length_set, List.length_append, List.length_cons, List.length_nil]
        omega
/-- What LineTree tells. -/
def lineOf (l : List S76) : List S86 × List S63 × Bool := match treeOf l with
  | none => ([], [], false)
  | some t => if goodL (((toX t).lay ⟨[], [], 0⟩).s.map e86) (((toX t).lay ⟨[], [], 0⟩).g.map e63) = true then (((toX t).lay ⟨[], [], 0⟩).s.map e86, ((toX t).lay ⟨[], [], 0⟩).g.map e63, true) else ([], [], false)
theorem Rm0 {t : S72} (h : sz t ≤ 30) : Rm (sz t) ⟨[], [], 0⟩ := by
  have := lB_top (sz t) (by omega)
  exact ⟨by simp; omega, by simp; omega, by simp; omega⟩
theorem lay_len {t : S72} (h : sz t ≤ 30) (hg : gd t) : ((toX t).lay ⟨[], [], 0⟩).s.length ≤ 131069 ∧ ((toX t).lay ⟨[], [], 0⟩).g.length ≤ 131069 := by
  have h1 := (ll_lay (sz t) t (Nat.le_refl _) h hg ⟨[], [], 0⟩ (Rm0 h)).2
  have := lB_top (sz t) (by omega)
  obtain ⟨a, b, _⟩ := h1
  simp only [List.length_nil] at a b
  omega
theorem lineOf_len (l : List S76) : (lineOf l).1.length ≤ 131069 ∧ (lineOf l).2.1.length ≤ 131069 := by
  unfold lineOf
  cases ht : treeOf l with
  | none => simp
  | some t =>
    have := lay_len (treeOf_sz ht) (treeOf_gd ht)
    simp only
    split
    · simpa using this
    · simp
theorem impl_lineOf (l : List S76) : Ev (fun k => impl_LineTree.f k l) (lineOf l) := by
  unfold impl_LineTree.f lineOf
  obtain ⟨o, h1, h2⟩ := impl_tree l
  rw [h1]
  simp only [Option.bind_some]
  cases ht : treeOf l with
  | none => exact ite_f (by simp) (Ev.now _)
  | some t =>
    refine ite_t (by simp) ?_
    rw [h2 t ht]
    simp only
    have h3 := (ll_lay (sz t) t (Nat.le_refl _) (treeOf_sz ht) (treeOf_gd ht) ⟨[], [], 0⟩ (Rm0 (treeOf_sz ht))).1
    have e0 : qI ⟨[], [], 0⟩ = (⟨[], [], 20⟩ : Ll.Q) := rfl
    rw [e0] at h3
    rw [h3]
    have hl := lay_len (treeOf_sz ht) (treeOf_gd ht)
    refine bind_ev (Ev.now _) ?_
    simp only [qI]
    refine bind_ev (impl_good _ _ (by simp; omega) (by simp; omega)) ?_
    exact ite_ev (fun _ => Ev.now _) (fun _ => Ev.now _)
theorem spec_lineOf (l : List S76) (hl : l.length ≤ 1048576) : Ev (fun k => spec_LineTree.f k l) (lineOf l) := by
  unfold spec_LineTree.f lineOf
  obtain ⟨t, h1, h2⟩ := spec_tree l hl
  refine bind_ev h1 ?_
  cases ht : treeOf l with
  | none => exact ite_f (by simp) (Ev.now _)
  | some t' =>
    obtain rfl := h2 t' ht
    refine ite_t (by simp) ?_
    have h3 := (ls_lay (sz t) t (Nat.le_refl _) (treeOf_sz ht) (treeOf_gd ht) ⟨[], [], 0⟩ (Rm0 (treeOf_sz ht))).1
    have e0 : qS ⟨[], [], 0⟩ = (⟨[], [], 0⟩ : Ls.Q) := rfl
    rw [e0] at h3
    have hl := lay_len (treeOf_sz ht) (treeOf_gd ht)
    refine bind_ev (a := qS ((toX t).lay ⟨[], [], 0⟩)) (const_ev (by cases t; exact h3)) ?_
    simp only [qS]
    refine bind_ev (spec_good _ _ (by simp; omega) (by simp; omega)) ?_
    exact ite_ev (fun _ => Ev.now _) (fun _ => Ev.now _)
end Go.Proofs.Ytgjojppbichaiaa.Pure
