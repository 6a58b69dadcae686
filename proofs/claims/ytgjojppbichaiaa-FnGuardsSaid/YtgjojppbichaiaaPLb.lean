/- LineTree: the line of a tree, in plain Lean. Conditions: none. -/
import Derived.Test.YtgjojppbichaiaaPTg
import Derived.Test.YtgjojppbichaiaaPL
import Derived.Test.YtgjojppbichaiaaQx0
set_option linter.unusedVariables false
set_option linter.unusedSimpArgs false
namespace Go.Proofs.Ytgjojppbichaiaa.Pure
open Go.RowKit Go.Proofs.Ytgjojppbichaiaa.Q Go.Proofs.YtgjojppbichaiaaW.PrintWords Go.Proofs.YtgjojppbichaiaaW.PrintLast Go.Proofs.Ytgjojppbichaiaa.Kit
/-- How long a tree's line is at most. -/
def lB (n : Nat) : Nat := if n = 1 then 1 else (if n % 2 = 0 then 4 * 2 ^ (n / 2) else 6 * 2 ^ (n / 2)) - 3
theorem lB_fin : ∀ s, s < 31 → ∀ t, t < 31 → 1 ≤ s → 1 ≤ t → lB s + 2 * lB t + 2 ≤ lB (s + t + 1) := by decide +kernel
theorem lB_cat : ∀ s, s < 31 → ∀ t, t < 31 → 1 ≤ s → 1 ≤ t → lB s + lB t + 1 ≤ lB (s + t + 1) := by decide +kernel
theorem lB_loop : ∀ s, s < 31 → 1 ≤ s → lB s + 4 ≤ lB (s + 1) := by decide +kernel
theorem lB_one : lB 1 = 1 := by decide
theorem lB_top : ∀ s, s < 31 → lB s ≤ 131069 := by decide +kernel
theorem sz_pos (t : S72) : 1 ≤ sz t := by cases t; unfold sz; omega
theorem treeOf_sz {l : List S76} {t : S72} (h : treeOf l = some t) : sz t ≤ 30 := by
  unfold treeOf at h
  split at h
  · rename_i hl
    cases hr : rdT l 40 0 with
    | none => rw [hr] at h; cases h
    | some r =>
      obtain ⟨t', b⟩ := r
      rw [hr] at h
      simp only at h
      split at h
      · rename_i hb
        obtain rfl := Option.some.inj h
        have h1 := rdT_sz l _ _ _ _ hr
        have h2 := (rdT_mono l _ _ _ _ hr).2
        omega
      · cases h
  · cases h
theorem toX_ok : ∀ (N : Nat) (t : S72), sz t ≤ N → gd t → (toX t).Ok
  | 0, t, hN, _ => by have := sz_pos t; omega
  | N + 1, t, hN, hgd => by
    rcases gd_cases t hgd with ⟨n, rfl⟩ | ⟨n, rfl, hn⟩ | ⟨n, a, rfl, hn0, hn5, ha⟩ | ⟨n, a, b, rfl, ha, hb⟩ | ⟨n, a, b, rfl, ha, hb⟩ | ⟨n, a, b, rfl, ha, hb⟩
    · rw [show toX ⟨1, n, []⟩ = .out n by simp [toX, mkX]]; trivial
    · rw [show toX ⟨2, n, []⟩ = .rai n by simp [toX, mkX]]; exact hn
    · rw [show toX ⟨6, n, [a]⟩ = .loop n.toNat (toX a) by simp [toX, toXs, mkX]]
      exact toX_ok N a (by simp only [sz, szm] at hN; omega) ha
    · rw [show toX ⟨3, n, [a, b]⟩ = .seq (toX a) (toX b) by simp [toX, toXs, mkX]]
      exact ⟨toX_ok N a (by simp only [sz, szm] at hN; omega) ha, toX_ok N b (by simp only [sz, szm] at hN; omega) hb⟩
    · rw [show toX ⟨4, n, [a, b]⟩ = .cat n (toX a) (toX b) by simp [toX, toXs, mkX]]
      exact ⟨toX_ok N a (by simp only [sz, szm] at hN; omega) ha, toX_ok N b (by simp only [sz, szm] at hN; omega) hb⟩
    · rw [show toX ⟨5, n, [a, b]⟩ = .fin (toX a) (toX b) by simp [toX, toXs, mkX]]
      exact ⟨toX_ok N a (by simp only [sz, szm] at hN; omega) ha, toX_ok N b (by simp only [sz, szm] at hN; omega) hb⟩
def e86 (x : St) : S86 := ⟨x.op, x.n, x.to⟩
def e63 (x : Gd) : S63 := ⟨x.frm, x.to, x.kind, x.at_⟩
theorem rd86_map {s : List St} {i : Nat} {x : St} (h : s[i]? = some x) : rd_T86 (s.map e86) (i : Int) = e86 x := by
  unfold rd_T86; rw [Int.toNat_natCast, List.getD_eq_getElem?_getD, List.getElem?_map, h]; rfl
theorem rd63_map {s : List Gd} {i : Nat} {x : Gd} (h : s[i]? = some x) : rd_T63 (s.map e63) (i : Int) = e63 x := by
  unfold rd_T63; rw [Int.toNat_natCast, List.getD_eq_getElem?_getD, List.getElem?_map, h]; rfl
theorem last_get {α : Type} (s : List α) (x : α) : (s ++ [x])[s.length]? = some x := by
  simp
theorem last_set {α : Type} (s : List α) (x y : α) : (s ++ [x]).set s.length y = s ++ [y] := by
  rw [List.set_append_right _ _ (Nat.le_refl _), Nat.sub_self]; rfl
/-- The bounds that a laid tree keeps. -/
def Bd (m : Nat) (q r : Ln) : Prop := r.s.length ≤ q.s.length + lB m ∧ r.g.length ≤ q.g.length + lB m ∧ r.l ≤ q.l + lB m
def Rm (m : Nat) (q : Ln) : Prop := q.s.length + lB m ≤ 10000000 ∧ q.g.length + lB m ≤ 10000000 ∧ q.l + lB m ≤ 10000000
theorem keep_s {T : XT} {q : Ln} (h : T.Ok) {i : Nat} (hi : i < q.s.length) : (T.lay q).s[i]? = q.s[i]? := (T.lay_laid q h).1.2.2.1 i hi
theorem keep_g {T : XT} {q : Ln} (h : T.Ok) {i : Nat} (hi : i < q.g.length) : (T.lay q).g[i]? = q.g[i]? := (T.lay_laid q h).1.2.2.2 i hi
theorem len_s {T : XT} {q : Ln} (h : T.Ok) : q.s.length ≤ (T.lay q).s.length := (T.lay_laid q h).1.1
theorem len_g {T : XT} {q : Ln} (h : T.Ok) : q.g.length ≤ (T.lay q).g.length := (T.lay_laid q h).1.2.1
/-- What LineTree tells. -/
def lineOf (l : List S76) : List S86 × List S63 × Bool := match treeOf l with
  | none => ([], [], false)
  | some t => if goodL (((toX t).lay ⟨[], [], 0⟩).s.map e86) (((toX t).lay ⟨[], [], 0⟩).g.map e63) = true then (((toX t).lay ⟨[], [], 0⟩).s.map e86, ((toX t).lay ⟨[], [], 0⟩).g.map e63, true) else ([], [], false)
theorem Rm0 {t : S72} (h : sz t ≤ 30) : Rm (sz t) ⟨[], [], 0⟩ := by
  have := lB_top (sz t) (by omega)
  exact ⟨by simp; omega, by simp; omega, by simp; omega⟩
end Go.Proofs.Ytgjojppbichaiaa.Pure
