/- EvalTree: the program and the reference tell the same of a tree. Conditions: none. -/
import Derived.Test.YtgjojppbichaiaaPTr
import Derived.Test.YtgjojppbichaiaaPSim
import Derived.Test.YtgjojppbichaiaaQx0
import Derived.Test.YtgjojppbichaiaaQx3
import Derived.Test.YtgjojppbichaiaaQx4
import Derived.Test.YtgjojppbichaiaaQx5
set_option linter.unusedVariables false
set_option linter.unusedSimpArgs false
namespace Go.Proofs.Ytgjojppbichaiaa.Pure
open Go.RowKit Go.Proofs.Ytgjojppbichaiaa.Q Go.Proofs.YtgjojppbichaiaaW.PrintWords Go.Proofs.YtgjojppbichaiaaW.PrintLast Go.Proofs.Ytgjojppbichaiaa.Kit

mutual
/-- Is it a good tree? -/
def gd : S72 → Prop
  | ⟨k, n, ts⟩ => cellOk ⟨k, n⟩ = true ∧ ts.length = arity k ∧ gds ts
def gds : List S72 → Prop
  | [] => True
  | t :: ts => gd t ∧ gds ts
end
theorem gds_append (t : S72) : ∀ (ts : List S72), gds ts → gd t → gds (ts ++ [t])
  | [], _, h => by simp only [List.nil_append, gds]; exact ⟨h, trivial⟩
  | x :: ts, h, h2 => by
    simp only [List.cons_append, gds] at h ⊢
    exact ⟨h.1, gds_append t ts h.2 h2⟩
theorem rdK_gd {G : Nat → Option (S72 × Nat)} (hG : ∀ a t b, G a = some (t, b) → gd t) : ∀ (m a : Nat) (acc ts : List S72) (b : Nat), gds acc → rdK G m a acc = some (ts, b) → gds ts ∧ ts.length = acc.length + m
  | 0, a, acc, ts, b, h0, h => by
    simp only [rdK, Option.some.injEq, Prod.mk.injEq] at h
    rw [← h.1]; exact ⟨h0, rfl⟩
  | m + 1, a, acc, ts, b, h0, h => by
    simp only [rdK] at h
    obtain ⟨⟨t, c⟩, h1, h2⟩ := Option.bind_eq_some_iff.1 h
    have h3 := rdK_gd hG m c (acc ++ [t]) ts b (gds_append t acc h0 (hG a t c h1)) h2
    refine ⟨h3.1, ?_⟩
    rw [h3.2]; simp; omega
theorem rdT_gd (l : List S76) : ∀ (k a : Nat) (t : S72) (b : Nat), rdT l k a = some (t, b) → gd t
  | 0, a, t, b, h => by simp [rdT] at h
  | k + 1, a, t, b, h => by
    simp only [rdT] at h
    split at h
    · split at h
      · rename_i hc
        obtain ⟨⟨ts, c⟩, h1, h2⟩ := Option.map_eq_some_iff.1 h
        simp only [Prod.mk.injEq] at h2
        obtain ⟨h3, h4⟩ := rdK_gd (fun a t b h => rdT_gd l k a t b h) _ _ [] _ _ (by simp [gds]) h1
        rw [← h2.1]
        unfold gd
        exact ⟨hc, by simpa using h4, h3⟩
      · cases h
    · cases h
theorem treeOf_gd {l : List S76} {t : S72} (h : treeOf l = some t) : gd t := by
  unfold treeOf at h
  split at h
  · cases hr : rdT l 40 0 with
    | none => rw [hr] at h; cases h
    | some r =>
      obtain ⟨t', b⟩ := r
      rw [hr] at h
      simp only at h
      split at h
      · rw [← Option.some.inj h]; exact rdT_gd l _ _ _ _ hr
      · cases h
  · cases h
def mkX (k n : Int) (l : List XT) : XT :=
  if k = 1 then .out n else if k = 2 then .rai n else match l with
    | [a] => .loop n.toNat a
    | [a, b] => if k = 3 then .seq a b else if k = 4 then .cat n a b else .fin a b
    | _ => .out 0
mutual
/-- The same tree, in plain Lean. -/
def toX : S72 → XT
  | ⟨k, n, ts⟩ => mkX k n (toXs ts)
def toXs : List S72 → List XT
  | [] => []
  | t :: ts => toX t :: toXs ts
end
theorem list_two {α : Type} {l : List α} (h : l.length = 2) : ∃ a b, l = [a, b] := by
  match l, h with
  | [a, b], _ => exact ⟨a, b, rfl⟩
/-- The kinds of a good tree. -/
theorem gd_cases (t : S72) (h : gd t) : (∃ n, t = ⟨1, n, []⟩) ∨ (∃ n, t = ⟨2, n, []⟩ ∧ n ≠ 0) ∨ (∃ n a, t = ⟨6, n, [a]⟩ ∧ 0 ≤ n ∧ n ≤ 5 ∧ gd a) ∨ (∃ n a b, t = ⟨3, n, [a, b]⟩ ∧ gd a ∧ gd b) ∨ (∃ n a b, t = ⟨4, n, [a, b]⟩ ∧ gd a ∧ gd b) ∨ (∃ n a b, t = ⟨5, n, [a, b]⟩ ∧ gd a ∧ gd b) := by
  obtain ⟨k, n, ts⟩ := t
  unfold gd at h
  obtain ⟨h1, h2, h3⟩ := h
  unfold cellOk at h1
  simp only at h1
  have two : arity k = 2 → ∃ a b, ts = [a, b] ∧ gd a ∧ gd b := by
    intro e
    rw [e] at h2
    obtain ⟨a, b, rfl⟩ := list_two h2
    simp only [gds] at h3
    exact ⟨a, b, rfl, h3.1, h3.2.1⟩
  by_cases k1 : k = 1
  · subst k1
    have : ts = [] := List.length_eq_zero_iff.1 (by simpa [arity] using h2)
    subst this
    exact .inl ⟨n, rfl⟩
  · rw [if_neg k1] at h1
    by_cases k2 : k = 2
    · subst k2
      rw [if_pos rfl] at h1
      have := (tB_iff _ _ _).1 h1
      have : ts = [] := List.length_eq_zero_iff.1 (by simpa [arity] using h2)
      subst this
      exact .inr (.inl ⟨n, rfl, by omega⟩)
    · rw [if_neg k2] at h1
      by_cases k6 : k = 6
      · subst k6
        have : tB n 0 5 = true := by simpa using h1
        have hb := (tB_iff _ _ _).1 this
        obtain ⟨a, rfl⟩ := List.length_eq_one_iff.1 (by simpa [arity] using h2)
        simp only [gds] at h3
        exact .inr (.inr (.inl ⟨n, a, rfl, hb.1, hb.2, h3.1⟩))
      · obtain ⟨a, b, rfl, ha, hb⟩ := two (by unfold arity; rw [if_neg (by omega), if_neg k6])
        by_cases k3 : k = 3
        · subst k3; exact .inr (.inr (.inr (.inl ⟨n, a, b, rfl, ha, hb⟩)))
        · by_cases k4 : k = 4
          · subst k4; exact .inr (.inr (.inr (.inr (.inl ⟨n, a, b, rfl, ha, hb⟩))))
          · by_cases k5 : k = 5
            · subst k5; exact .inr (.inr (.inr (.inr (.inr ⟨n, a, b, rfl, ha, hb⟩))))
            · rw [if_neg k3, if_neg k5, if_neg k4, if_neg k6] at h1; cases h1
theorem Se_over (t : S72) (told : List Int) (h : told.length > 200) : Se.ev t told = some (told, 0) := by
  obtain ⟨k, n, ts⟩ := t
  unfold Se.ev Se.node
  rw [if_pos h]
/-- Both tell what the plain tree tells. -/
def BB (o : Option (List Int × Int)) (f : Option ((Int × Bool) × List Int)) (g : Option (List Int × Int)) : Prop :=
  (∀ s c, o = some (s, c) → f = some ((c, true), s) ∧ g = some (s, c) ∧ s.length ≤ 200) ∧
  (o = none → (∃ c s, f = some ((c, false), s)) ∧ ∃ s c, g = some (s, c) ∧ s.length > 200)
theorem BB.yes {o f g} (s : List Int) (c : Int) (ho : o = some (s, c)) (hf : f = some ((c, true), s)) (hg : g = some (s, c)) (hl : s.length ≤ 200) : BB o f g := by
  refine ⟨fun s' c' h => ?_, fun h => by rw [ho] at h; cases h⟩
  rw [ho] at h
  simp only [Option.some.injEq, Prod.mk.injEq] at h
  obtain ⟨rfl, rfl⟩ := h
  exact ⟨hf, hg, hl⟩
theorem BB.no {o f g} (ho : o = none) (hf : ∃ c s, f = some ((c, false), s)) (hg : ∃ s c, g = some (s, c) ∧ s.length > 200) : BB o f g := ⟨fun s c h => (by rw [ho] at h; cases h), fun _ => ⟨hf, hg⟩⟩
theorem BB.eq {o o' f f' g g'} (h : BB o' f' g') (ho : o = o') (hf : f = f') (hg : g = g') : BB o f g := by subst ho hf hg; exact h
theorem BB.cases {o f g} (h : BB o f g) : (∃ s c, o = some (s, c) ∧ f = some ((c, true), s) ∧ g = some (s, c) ∧ s.length ≤ 200) ∨ (o = none ∧ ∃ c s s2 c2, f = some ((c, false), s) ∧ g = some (s2, c2) ∧ s2.length > 200) := by
  cases o with
  | none =>
    obtain ⟨⟨c, s, h1⟩, s2, c2, h2, h3⟩ := h.2 rfl
    exact .inr ⟨rfl, c, s, s2, c2, h1, h2, h3⟩
  | some r =>
    obtain ⟨h1, h2, h3⟩ := h.1 r.1 r.2 rfl
    exact .inl ⟨r.1, r.2, rfl, h1, h2, h3⟩
def Both (X : XT) (f : Xe.F) (g : Se.F) : Prop := ∀ said : List Int, said.length ≤ 200 → BB (X.eval said) (f said) (g said)
theorem rounds_both {X : XT} {f : Xe.F} {g : Se.F} (h : Both X f g) (hg : ∀ s : List Int, s.length > 200 → g s = some (s, 0)) : ∀ (m : Nat) (said : List Int), said.length ≤ 200 →
    BB (XT.rounds X.eval m said) (Xe.rounds f m said) (Se.rounds g m said)
  | 0, said, hl => BB.yes said 0 rfl rfl rfl hl
  | m + 1, said, hl => by
    rcases (h said hl).cases with ⟨s, c, he, hf, hg1, hl1⟩ | ⟨he, c, s, s2, c2, hf, hg2, hl2⟩
    · by_cases hc : c = 0
      · subst hc
        refine BB.eq (rounds_both h hg m s hl1) ?_ ?_ ?_
        · rw [XT.rounds, he]; rfl
        · simp only [Xe.rounds]; rw [hf]; show (if true = false ∨ (0 : Int) ≠ 0 then some ((0, true), s) else Xe.rounds f m s) = _; rw [if_neg (by decide)]
        · simp only [Se.rounds]; rw [hg1]; rfl
      · refine BB.yes s c ?_ ?_ ?_ hl1
        · rw [XT.rounds, he]; exact if_pos hc
        · simp only [Xe.rounds]; rw [hf]; exact if_pos (.inr hc)
        · simp only [Se.rounds]; rw [hg1]; exact if_neg hc
    · refine BB.no ?_ ⟨c, s, ?_⟩ ?_
      · rw [XT.rounds, he]; rfl
      · simp only [Xe.rounds]; rw [hf]; show (if false = false ∨ c ≠ 0 then some ((c, false), s) else Xe.rounds f m s) = _; rw [if_pos (Or.inl rfl)]
      · simp only [Se.rounds]; rw [hg2]
        have over : ∀ m, Se.rounds g m s2 = some (s2, 0) := by
          intro m
          induction m with
          | zero => rfl
          | succ m ih => simp only [Se.rounds]; rw [hg s2 hl2]; exact ih
        by_cases hc : c2 = 0
        · exact ⟨s2, 0, (if_pos hc).trans (over m), hl2⟩
        · exact ⟨s2, c2, if_neg hc, hl2⟩
theorem ev_both : ∀ (N : Nat) (t : S72), sz t ≤ N → gd t → Both (toX t) (Xe.ev t) (Se.ev t)
  | 0, t, hN, _ => by cases t; unfold sz at hN; omega
  | N + 1, t, hN, hgd => by
    intro said hl
    have nl : ¬ said.length > 200 := by omega
    rcases gd_cases t hgd with ⟨n, rfl⟩ | ⟨n, rfl, hn⟩ | ⟨n, a, rfl, hn0, hn5, ha⟩ | ⟨n, a, b, rfl, ha, hb⟩ | ⟨n, a, b, rfl, ha, hb⟩ | ⟨n, a, b, rfl, ha, hb⟩
    · have e1 : toX ⟨1, n, []⟩ = .out n := by simp [toX, mkX]
      have e2 : Xe.ev ⟨1, n, []⟩ said = some ((0, decide (((said ++ [n]).length : Int) ≤ 200)), said ++ [n]) := by unfold Xe.ev Xe.node; rw [if_pos rfl, if_pos (by omega)]
      have e3 : Se.ev ⟨1, n, []⟩ said = some (said ++ [n], 0) := by unfold Se.ev Se.node; rw [if_neg nl, if_pos rfl]
      rw [e1, e2, e3]
      by_cases h2 : said.length < 200
      · exact BB.yes (said ++ [n]) 0 (by rw [XT.eval, if_pos h2]) (by rw [decide_eq_true (by simp; omega)]) rfl (by simp; omega)
      · exact BB.no (by rw [XT.eval, if_neg h2]) ⟨0, said ++ [n], by rw [decide_eq_false (by simp; omega)]⟩ ⟨said ++ [n], 0, rfl, by simp; omega⟩
    · have e1 : toX ⟨2, n, []⟩ = .rai n := by simp [toX, mkX]
      have e2 : Xe.ev ⟨2, n, []⟩ said = some ((n, true), said) := by unfold Xe.ev Xe.node; rw [if_neg (by decide), if_pos rfl]
      have e3 : Se.ev ⟨2, n, []⟩ said = some (said, n) := by unfold Se.ev Se.node; rw [if_neg nl, if_neg (by decide), if_pos rfl]
      rw [e1, e2, e3]
      exact BB.yes said n (by rw [XT.eval]) rfl rfl hl
    · have iha := ev_both N a (by simp only [sz, szm] at hN; omega) ha
      have e1 : toX ⟨6, n, [a]⟩ = .loop n.toNat (toX a) := by simp [toX, toXs, mkX]
      have e2 : Xe.ev ⟨6, n, [a]⟩ said = Xe.rounds (Xe.ev a) n.toNat said := by
        simp only [Xe.ev, Xe.evs, Xe.node]
        rw [if_neg (by decide), if_neg (by decide)]
        simp only [List.getElem?_cons_zero]
        rw [if_pos trivial, if_pos (by omega)]
      have e3 : Se.ev ⟨6, n, [a]⟩ said = Se.rounds (Se.ev a) n.toNat said := by
        simp only [Se.ev, Se.evs, Se.node]
        rw [if_neg nl, if_neg (by decide), if_neg (by decide)]
        simp only [List.getElem?_cons_zero]
        rw [if_pos trivial, if_pos (by omega)]
      rw [e1, e2, e3]
      simp only [XT.eval]
      exact rounds_both iha (fun s h => Se_over a s h) n.toNat said hl
    · have iha := ev_both N a (by simp only [sz, szm] at hN; omega) ha
      have ihb := ev_both N b (by simp only [sz, szm] at hN; omega) hb
      have e1 : toX ⟨3, n, [a, b]⟩ = .seq (toX a) (toX b) := by simp [toX, toXs, mkX]
      have e2 : Xe.ev ⟨3, n, [a, b]⟩ said = (Xe.ev a said).bind fun r => if r.1.2 = false then some ((0, false), r.2) else if r.1.1 = 0 then Xe.ev b r.2 else some ((r.1.1, true), r.2) := by simp [Xe.ev, Xe.evs, Xe.node, Xe.second]
      have e3 : Se.ev ⟨3, n, [a, b]⟩ said = (Se.ev a said).bind fun r => if r.2 = 0 then Se.ev b r.1 else some r := by simp only [Se.ev, Se.evs, Se.node, Se.second]; rw [if_neg nl]; simp
      rw [e1, e2, e3]
      simp only [XT.eval]
      rcases (iha said hl).cases with ⟨s, c, he, hf, hg1, hl1⟩ | ⟨he, c, s, s2, c2, hf, hg2, hl2⟩
      · rw [he, hf, hg1]
        by_cases hc : c = 0
        · subst hc
          exact BB.eq (ihb s hl1) rfl rfl rfl
        · exact BB.yes s c (if_pos hc) (if_neg hc) (if_neg hc) hl1
      · rw [he, hf, hg2]
        refine BB.no rfl ⟨0, s, rfl⟩ ?_
        by_cases hc : c2 = 0
        · exact ⟨s2, 0, (if_pos hc).trans (Se_over b s2 hl2), hl2⟩
        · exact ⟨s2, c2, if_neg hc, hl2⟩
    · have iha := ev_both N a (by simp only [sz, szm] at hN; omega) ha
      have ihb := ev_both N b (by simp only [sz, szm] at hN; omega) hb
      have e1 : toX ⟨4, n, [a, b]⟩ = .cat n (toX a) (toX b) := by simp [toX, toXs, mkX]
      have e2 : Xe.ev ⟨4, n, [a, b]⟩ said = (Xe.ev a said).bind fun r => if r.1.2 = false then some ((0, false), r.2) else if r.1.1 = 0 ∨ n ≠ 0 ∧ n ≠ r.1.1 then some ((r.1.1, true), r.2) else Xe.ev b r.2 := by simp [Xe.ev, Xe.evs, Xe.node, Xe.second]
      have e3 : Se.ev ⟨4, n, [a, b]⟩ said = (Se.ev a said).bind fun r => if r.2 = 0 ∨ n ≠ 0 ∧ n ≠ r.2 then some r else Se.ev b r.1 := by simp only [Se.ev, Se.evs, Se.node, Se.second]; rw [if_neg nl]; simp
      rw [e1, e2, e3]
      simp only [XT.eval]
      rcases (iha said hl).cases with ⟨s, c, he, hf, hg1, hl1⟩ | ⟨he, c, s, s2, c2, hf, hg2, hl2⟩
      · rw [he, hf, hg1]
        by_cases hc : c = 0 ∨ n ≠ 0 ∧ n ≠ c
        · exact BB.yes s c (if_pos hc) (if_pos hc) (if_pos hc) hl1
        · exact BB.eq (ihb s hl1) (if_neg hc) (if_neg hc) (if_neg hc)
      · rw [he, hf, hg2]
        refine BB.no rfl ⟨0, s, rfl⟩ ?_
        by_cases hc : c2 = 0 ∨ n ≠ 0 ∧ n ≠ c2
        · exact ⟨s2, c2, if_pos hc, hl2⟩
        · exact ⟨s2, 0, (if_neg hc).trans (Se_over b s2 hl2), hl2⟩
    · have iha := ev_both N a (by simp only [sz, szm] at hN; omega) ha
      have ihb := ev_both N b (by simp only [sz, szm] at hN; omega) hb
      have e1 : toX ⟨5, n, [a, b]⟩ = .fin (toX a) (toX b) := by simp [toX, toXs, mkX]
      have e2 : Xe.ev ⟨5, n, [a, b]⟩ said = (Xe.ev a said).bind fun r => if r.1.2 = false then some ((0, false), r.2) else (Xe.ev b r.2).bind fun q => if q.1.1 ≠ 0 ∨ q.1.2 = false then some q else some ((r.1.1, true), q.2) := by simp [Xe.ev, Xe.evs, Xe.node, Xe.second]
      have e3 : Se.ev ⟨5, n, [a, b]⟩ said = (Se.ev a said).bind fun r => (Se.ev b r.1).bind fun q => if q.2 = 0 then some (q.1, r.2) else some q := by simp only [Se.ev, Se.evs, Se.node, Se.second]; rw [if_neg nl]; simp
      rw [e1, e2, e3]
      simp only [XT.eval]
      rcases (iha said hl).cases with ⟨s, c, he, hf, hg1, hl1⟩ | ⟨he, c, s, s2, c2, hf, hg2, hl2⟩
      · rw [he, hf, hg1]
        rcases (ihb s hl1).cases with ⟨s3, c3, he3, hf3, hg3, hl3⟩ | ⟨he3, c3, s3, s4, c4, hf3, hg4, hl4⟩
        · by_cases hc : c3 = 0
          · refine BB.yes s3 c ?_ ?_ ?_ hl3
            · show ((toX b).eval s).bind _ = _; rw [he3]; exact if_neg (by simpa using hc)
            · show (Xe.ev b s).bind _ = _; rw [hf3]; exact if_neg (by simpa using hc)
            · show (Se.ev b s).bind _ = _; rw [hg3]; exact if_pos hc
          · refine BB.yes s3 c3 ?_ ?_ ?_ hl3
            · show ((toX b).eval s).bind _ = _; rw [he3]; exact if_pos hc
            · show (Xe.ev b s).bind _ = _; rw [hf3]; exact if_pos (.inl hc)
            · show (Se.ev b s).bind _ = _; rw [hg3]; exact if_neg hc
        · refine BB.no ?_ ⟨c3, s3, ?_⟩ ?_
          · show ((toX b).eval s).bind _ = _; rw [he3]; rfl
          · show (Xe.ev b s).bind _ = _; rw [hf3]; exact if_pos (.inr rfl)
          · by_cases hc : c4 = 0
            · exact ⟨s4, c, by show (Se.ev b s).bind _ = _; rw [hg4]; exact if_pos hc, hl4⟩
            · exact ⟨s4, c4, by show (Se.ev b s).bind _ = _; rw [hg4]; exact if_neg hc, hl4⟩
      · rw [he, hf, hg2]
        refine BB.no rfl ⟨0, s, rfl⟩ ⟨s2, c2, ?_, hl2⟩
        show (Se.ev b s2).bind _ = _
        rw [Se_over b s2 hl2]
        rfl
/-- What EvalTree tells. -/
def evalOf (l : List S76) : List Int × Int × Bool := match treeOf l with
  | none => ([], 0, false)
  | some t => match (toX t).eval [] with
    | some (s, c) => (s, c, true)
    | none => ([], 0, false)
theorem evalOf_len (l : List S76) : (evalOf l).1.length ≤ 200 := by
  unfold evalOf
  cases ht : treeOf l with
  | none => simp
  | some t =>
    simp only
    cases he : (toX t).eval [] with
    | none => simp
    | some r => exact (((ev_both (sz t) t (Nat.le_refl _) (treeOf_gd ht)) [] (by simp)).1 r.1 r.2 he).2.2
theorem impl_evalOf (l : List S76) : impl_EvalTree.f l = some (evalOf l) := by
  unfold impl_EvalTree.f evalOf
  obtain ⟨o, h1, h2⟩ := impl_tree l
  rw [h1]
  simp only [Option.bind_some]
  cases ht : treeOf l with
  | none => rw [if_neg (by simp)]
  | some t =>
    rw [if_pos (by simp), h2 t ht]
    simp only
    obtain ⟨h3, h4⟩ := ev_both (sz t) t (Nat.le_refl _) (treeOf_gd ht) [] (by simp)
    cases he : (toX t).eval [] with
    | none =>
      obtain ⟨⟨c, s, hf⟩, _⟩ := h4 he
      rw [hf]; simp
    | some r => rw [(h3 r.1 r.2 he).1]; simp
theorem spec_evalOf (l : List S76) (hl : l.length ≤ 1048576) : Ev (fun k => spec_EvalTree.f k l) (evalOf l) := by
  unfold spec_EvalTree.f evalOf
  obtain ⟨t, h1, h2⟩ := spec_tree l hl
  refine bind_ev h1 ?_
  cases ht : treeOf l with
  | none => exact ite_f (by simp) (Ev.now _)
  | some t' =>
    obtain rfl := h2 t' ht
    refine ite_t (by simp) ?_
    obtain ⟨h3, h4⟩ := ev_both (sz t) t (Nat.le_refl _) (treeOf_gd ht) [] (by simp)
    cases he : (toX t).eval [] with
    | none =>
      obtain ⟨_, s, c, hg, hs⟩ := h4 he
      have hg' : Se.ev ⟨t.f0, t.f1, t.f2⟩ [] = some (s, c) := by cases t; exact hg
      show Ev (fun k => (Se.ev ⟨t.f0, t.f1, t.f2⟩ []).bind fun q => if q.1.length > 200 then some ([], 0, false) else some (q.1, q.2, true)) (match (toX t).eval [] with | some (s, c) => (s, c, true) | none => ([], 0, false))
      rw [he]
      exact bind_ev (a := (s, c)) (const_ev hg') (ite_t hs (Ev.now _))
    | some r =>
      obtain ⟨_, hg, hs⟩ := h3 r.1 r.2 he
      have hg' : Se.ev ⟨t.f0, t.f1, t.f2⟩ [] = some (r.1, r.2) := by cases t; exact hg
      show Ev (fun k => (Se.ev ⟨t.f0, t.f1, t.f2⟩ []).bind fun q => if q.1.length > 200 then some ([], 0, false) else some (q.1, q.2, true)) (match (toX t).eval [] with | some (s, c) => (s, c, true) | none => ([], 0, false))
      rw [he]
      exact bind_ev (a := (r.1, r.2)) (const_ev hg') (ite_f (show ¬ r.1.length > 200 by omega) (Ev.now _))
end Go.Proofs.Ytgjojppbichaiaa.Pure
