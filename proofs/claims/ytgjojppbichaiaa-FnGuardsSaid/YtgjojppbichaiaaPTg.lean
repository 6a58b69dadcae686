/- Good trees of cells, as plain trees. Conditions: none. -/
import Derived.Test.YtgjojppbichaiaaPTb
import Derived.Test.YtgjojppbichaiaaPSa
import Derived.Test.YtgjojppbichaiaaQx0
set_option linter.unusedVariables false
set_option linter.unusedSimpArgs false
namespace Go.Proofs.Ytgjojppbichaiaa.Pure
open Go.RowKit Go.Proofs.Ytgjojppbichaiaa.Q Go.Proofs.YtgjojppbichaiaaW.PrintWords Go.Proofs.YtgjojppbichaiaaW.PrintLast Go.Proofs.Ytgjojppbichaiaa.Kit

mutual
/-- Is it a good tree? -/
def gd : S72 → Prop
  | ⟨k, n, ts⟩ => cellOk ⟨k, n⟩ = true ∧ ts.length = arity k ∧ gds ts
def gds : List S72 → Prop
  | [] => True
  | t :: ts => gd t ∧ gds ts
end
theorem gds_append (t : S72) : ∀ (ts : List S72), gds ts → gd t → gds (ts ++ [t])
  | [], _, h => by simp only [List.nil_append, gds]; exact ⟨h, trivial⟩
  | x :: ts, h, h2 => by
    simp only [List.cons_append, gds] at h ⊢
    exact ⟨h.1, gds_append t ts h.2 h2⟩
theorem rdK_gd {G : Nat → Option (S72 × Nat)} (hG : ∀ a t b, G a = some (t, b) → gd t) : ∀ (m a : Nat) (acc ts : List S72) (b : Nat), gds acc → rdK G m a acc = some (ts, b) → gds ts ∧ ts.length = acc.length + m
  | 0, a, acc, ts, b, h0, h => by
    simp only [rdK, Option.some.injEq, Prod.mk.injEq] at h
    rw [← h.1]; exact ⟨h0, rfl⟩
  | m + 1, a, acc, ts, b, h0, h => by
    simp only [rdK] at h
    obtain ⟨⟨t, c⟩, h1, h2⟩ := Option.bind_eq_some_iff.1 h
    have h3 := rdK_gd hG m c (acc ++ [t]) ts b (gds_append t acc h0 (hG a t c h1)) h2
    refine ⟨h3.1, ?_⟩
    rw [h3.2]; simp; omega
theorem rdT_gd (l : List S76) : ∀ (k a : Nat) (t : S72) (b : Nat), rdT l k a = some (t, b) → gd t
  | 0, a, t, b, h => by simp [rdT] at h
  | k + 1, a, t, b, h => by
    simp only [rdT] at h
    split at h
    · split at h
      · rename_i hc
        obtain ⟨⟨ts, c⟩, h1, h2⟩ := Option.map_eq_some_iff.1 h
        simp only [Prod.mk.injEq] at h2
        obtain ⟨h3, h4⟩ := rdK_gd (fun a t b h => rdT_gd l k a t b h) _ _ [] _ _ (by simp [gds]) h1
        rw [← h2.1]
        unfold gd
        exact ⟨hc, by simpa using h4, h3⟩
      · cases h
    · cases h
theorem treeOf_gd {l : List S76} {t : S72} (h : treeOf l = some t) : gd t := by
  unfold treeOf at h
  split at h
  · cases hr : rdT l 40 0 with
    | none => rw [hr] at h; cases h
    | some r =>
      obtain ⟨t', b⟩ := r
      rw [hr] at h
      simp only at h
      split at h
      · rw [← Option.some.inj h]; exact rdT_gd l _ _ _ _ hr
      · cases h
  · cases h
def mkX (k n : Int) (l : List XT) : XT :=
  if k = 1 then .out n else if k = 2 then .rai n else match l with
    | [a] => .loop n.toNat a
    | [a, b] => if k = 3 then .seq a b else if k = 4 then .cat n a b else .fin a b
    | _ => .out 0
mutual
/-- The same tree, in plain Lean. -/
def toX : S72 → XT
  | ⟨k, n, ts⟩ => mkX k n (toXs ts)
def toXs : List S72 → List XT
  | [] => []
  | t :: ts => toX t :: toXs ts
end
theorem list_two {α : Type} {l : List α} (h : l.length = 2) : ∃ a b, l = [a, b] := by
  match l, h with
  | [a, b], _ => exact ⟨a, b, rfl⟩
/-- The kinds of a good tree. -/
theorem gd_cases (t : S72) (h : gd t) : (∃ n, t = ⟨1, n, []⟩) ∨ (∃ n, t = ⟨2, n, []⟩ ∧ n ≠ 0) ∨ (∃ n a, t = ⟨6, n, [a]⟩ ∧ 0 ≤ n ∧ n ≤ 5 ∧ gd a) ∨ (∃ n a b, t = ⟨3, n, [a, b]⟩ ∧ gd a ∧ gd b) ∨ (∃ n a b, t = ⟨4, n, [a, b]⟩ ∧ gd a ∧ gd b) ∨ (∃ n a b, t = ⟨5, n, [a, b]⟩ ∧ gd a ∧ gd b) := by
  obtain ⟨k, n, ts⟩ := t
  unfold gd at h
  obtain ⟨h1, h2, h3⟩ := h
  unfold cellOk at h1
  simp only at h1
  have two : arity k = 2 → ∃ a b, ts = [a, b] ∧ gd a ∧ gd b := by
    intro e
    rw [e] at h2
    obtain ⟨a, b, rfl⟩ := list_two h2
    simp only [gds] at h3
    exact ⟨a, b, rfl, h3.1, h3.2.1⟩
  by_cases k1 : k = 1
  · subst k1
    have : ts = [] := List.length_eq_zero_iff.1 (by simpa [arity] using h2)
    subst this
    exact .inl ⟨n, rfl⟩
  · rw [if_neg k1] at h1
    by_cases k2 : k = 2
    · subst k2
      rw [if_pos rfl] at h1
      have := (tB_iff _ _ _).1 h1
      have : ts = [] := List.length_eq_zero_iff.1 (by simpa [arity] using h2)
      subst this
      exact .inr (.inl ⟨n, rfl, by omega⟩)
    · rw [if_neg k2] at h1
      by_cases k6 : k = 6
      · subst k6
        have : tB n 0 5 = true := by simpa using h1
        have hb := (tB_iff _ _ _).1 this
        obtain ⟨a, rfl⟩ := List.length_eq_one_iff.1 (by simpa [arity] using h2)
        simp only [gds] at h3
        exact .inr (.inr (.inl ⟨n, a, rfl, hb.1, hb.2, h3.1⟩))
      · obtain ⟨a, b, rfl, ha, hb⟩ := two (by unfold arity; rw [if_neg (by omega), if_neg k6])
        by_cases k3 : k = 3
        · subst k3; exact .inr (.inr (.inr (.inl ⟨n, a, b, rfl, ha, hb⟩)))
        · by_cases k4 : k = 4
          · subst k4; exact .inr (.inr (.inr (.inr (.inl ⟨n, a, b, rfl, ha, hb⟩))))
          · by_cases k5 : k = 5
            · subst k5; exact .inr (.inr (.inr (.inr (.inr ⟨n, a, b, rfl, ha, hb⟩))))
            · rw [if_neg k3, if_neg k5, if_neg k4, if_neg k6] at h1; cases h1
end Go.Proofs.Ytgjojppbichaiaa.Pure
