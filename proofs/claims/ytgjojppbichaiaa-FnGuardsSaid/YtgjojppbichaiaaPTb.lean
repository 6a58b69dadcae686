/- Trees out of cells. Conditions: none. -/
import Derived.Test.YtgjojppbichaiaaKit
import Derived.Test.YtgjojppbichaiaaQx0
import Derived.Test.YtgjojppbichaiaaQx1
import Derived.Test.YtgjojppbichaiaaQx6
set_option linter.unusedVariables false
set_option linter.unusedSimpArgs false
namespace Go.Proofs.Ytgjojppbichaiaa.Pure
open Go.RowKit Go.Proofs.Ytgjojppbichaiaa.Q Go.Proofs.YtgjojppbichaiaaW.PrintWords Go.Proofs.YtgjojppbichaiaaW.PrintLast Go.Proofs.Ytgjojppbichaiaa.Kit
def tB (a b c : Int) : Bool := if a ≥ b then decide (a ≤ c) else false
theorem t_spec_in (a b c : Int) : spec_l1In.f a b c = some (tB a b c) := by unfold spec_l1In.f tB; split <;> rfl
theorem t_impl_in (a b c : Int) : impl_in.f a b c = some (tB a b c) := by unfold impl_in.f tB; split <;> rfl
theorem tB_iff (a b c : Int) : tB a b c = true ↔ b ≤ a ∧ a ≤ c := by
  unfold tB; split <;> simp <;> omega
theorem tB_no (a b c : Int) (h : ¬ (b ≤ a ∧ a ≤ c)) : tB a b c = false := by
  cases e : tB a b c
  · rfl
  · exact absurd ((tB_iff _ _ _).1 e) h
/-- Is it a good cell? -/
def cellOk (x : S76) : Bool :=
  if x.f0 = 1 then tB x.f1 0 99 else if x.f0 = 2 then tB x.f1 1 9 else if x.f0 = 3 then tB x.f1 0 0 else if x.f0 = 5 then tB x.f1 0 0 else if x.f0 = 4 then tB x.f1 0 9 else if x.f0 = 6 then tB x.f1 0 5 else false
/-- How many kids has a tree of this kind? -/
def arity (k : Int) : Nat := if k = 1 ∨ k = 2 then 0 else if k = 6 then 1 else 2
def rdK (F : Nat → Option (S72 × Nat)) : Nat → Nat → List S72 → Option (List S72 × Nat)
  | 0, a, acc => some (acc, a)
  | m + 1, a, acc => (F a).bind fun r => rdK F m r.2 (acc ++ [r.1])
/-- The tree at a place, and the place behind it. -/
def rdT (l : List S76) : Nat → Nat → Option (S72 × Nat)
  | 0, _ => none
  | k + 1, a => if a < l.length then (if cellOk (rd_T76 l a) = true then (rdK (rdT l k) (arity (rd_T76 l a).f0) (a + 1) []).map fun r => (⟨(rd_T76 l a).f0, (rd_T76 l a).f1, r.1⟩, r.2) else none) else none
mutual
/-- How many loops lie within one another? -/
def lp : S72 → Nat
  | ⟨k, _, ts⟩ => lpm ts + if k = 6 then 1 else 0
def lpm : List S72 → Nat
  | [] => 0
  | t :: ts => max (lp t) (lpm ts)
end
theorem lpm_append (t : S72) : ∀ (ts : List S72), lpm (ts ++ [t]) = max (lpm ts) (lp t)
  | [] => by simp [lpm]
  | x :: ts => by
    simp only [List.cons_append, lpm, lpm_append t ts]
    omega
theorem rdK_snoc (F : Nat → Option (S72 × Nat)) : ∀ (m a : Nat) (acc acc2 : List S72), (rdK F m a acc).map (fun r => (acc2 ++ r.1, r.2)) = rdK F m a (acc2 ++ acc)
  | 0, a, acc, acc2 => rfl
  | m + 1, a, acc, acc2 => by
    simp only [rdK]
    cases F a with
    | none => rfl
    | some r =>
      simp only [Option.bind_some]
      rw [rdK_snoc F m r.2 (acc ++ [r.1]) acc2, List.append_assoc]
theorem rdK_mono {F : Nat → Option (S72 × Nat)} {n : Nat} (hF : ∀ a t b, a ≤ n → F a = some (t, b) → a < b ∧ b ≤ n) : ∀ (m a : Nat) (acc : List S72) (ts : List S72) (b : Nat), a ≤ n → rdK F m a acc = some (ts, b) → a ≤ b ∧ b ≤ n
  | 0, a, acc, ts, b, ha, h => by
    simp only [rdK, Option.some.injEq, Prod.mk.injEq] at h
    omega
  | m + 1, a, acc, ts, b, ha, h => by
    simp only [rdK] at h
    obtain ⟨⟨t, c⟩, h1, h2⟩ := Option.bind_eq_some_iff.1 h
    have h3 := hF a t c ha h1
    have h4 := rdK_mono hF m c (acc ++ [t]) ts b h3.2 h2
    omega
theorem rdT_mono (l : List S76) : ∀ (k a : Nat) (t : S72) (b : Nat), rdT l k a = some (t, b) → a < b ∧ b ≤ l.length
  | 0, a, t, b, h => by simp [rdT] at h
  | k + 1, a, t, b, h => by
    simp only [rdT] at h
    split at h
    · split at h
      · obtain ⟨⟨ts, c⟩, h1, h2⟩ := Option.map_eq_some_iff.1 h
        simp only [Prod.mk.injEq] at h2
        have := rdK_mono (n := l.length) (fun a t b _ h => rdT_mono l k a t b h) _ _ _ _ _ (by omega) h1
        omega
      · cases h
    · cases h
/-! ### the reference's -/
theorem spec_arity (x : Int) : Ev (fun k => spec_l16Arity.f k x) (if x = 1 ∨ x = 2 then 0 else if x = 3 ∨ x = 4 ∨ x = 5 then 2 else if x = 6 then 1 else -1) := by
  unfold spec_l16Arity.f
  have j1 : ∀ b : Bool, b = decide (x = 3 ∨ x = 4 ∨ x = 5) → ¬ (x = 1 ∨ x = 2) → Ev (fun k => spec_l16Arity.j1 k x b) (if x = 1 ∨ x = 2 then 0 else if x = 3 ∨ x = 4 ∨ x = 5 then 2 else if x = 6 then 1 else -1) := by
    intro b hb h12
    refine Ev.step (fun k => by rw [spec_l16Arity.j1]) ?_
    rw [if_neg h12]
    by_cases h : x = 3 ∨ x = 4 ∨ x = 5
    · rw [if_pos h]; exact ite_t (by simp [hb, h]) (Ev.now _)
    · rw [if_neg h]
      refine ite_f (by simp only [hb, decide_eq_true_eq]; exact h) ?_
      by_cases h6 : x = 6
      · exact ite_t h6 (some_ev (by rw [if_pos h6]))
      · exact ite_f h6 (some_ev (by rw [if_neg h6]))
  have j0 : ∀ b : Bool, b = decide (x = 1 ∨ x = 2) → Ev (fun k => spec_l16Arity.j0 k x b) (if x = 1 ∨ x = 2 then 0 else if x = 3 ∨ x = 4 ∨ x = 5 then 2 else if x = 6 then 1 else -1) := by
    intro b hb
    refine Ev.step (fun k => by rw [spec_l16Arity.j0]) ?_
    by_cases h : x = 1 ∨ x = 2
    · rw [if_pos h]; exact ite_t (by simp [hb, h]) (Ev.now _)
    · refine ite_f (by simp only [hb, decide_eq_true_eq]; exact h) ?_
      by_cases h3 : x = 3
      · exact ite_t h3 (j1 _ (by simp [h3]) h)
      · refine ite_f h3 ?_
        by_cases h4 : x = 4
        · exact ite_t h4 (j1 _ (by simp [h4]) h)
        · exact ite_f h4 (j1 _ (by simp [h3, h4]; rfl) h)
  by_cases h1 : x = 1
  · exact ite_t h1 (j0 _ (by simp [h1]))
  · exact ite_f h1 (j0 _ (by simp [h1]; rfl))
theorem spec_cell (x : S76) : Ev (fun k => spec_l16Cell.f k x.f0 x.f1) (cellOk x) := by
  unfold spec_l16Cell.f cellOk
  simp only [t_spec_in, Option.bind_some]
  by_cases h1 : x.f0 = 1
  · rw [if_pos h1]; exact ite_t h1 (Ev.now _)
  · rw [if_neg h1]; refine ite_f h1 ?_
    by_cases h2 : x.f0 = 2
    · rw [if_pos h2]; exact ite_t h2 (Ev.now _)
    · rw [if_neg h2]; refine ite_f h2 ?_
      by_cases h4 : x.f0 = 4
      · rw [if_neg (by omega), if_neg (by omega), if_pos h4]; exact ite_t h4 (Ev.now _)
      · refine ite_f h4 ?_
        by_cases h6 : x.f0 = 6
        · rw [if_neg (by omega), if_neg (by omega), if_neg h4, if_pos h6]; exact ite_t h6 (Ev.now _)
        · refine ite_f h6 ?_
          have hz : tB x.f1 0 0 = decide (x.f1 = 0) := by
            by_cases h : x.f1 = 0
            · rw [(tB_iff _ _ _).2 (by omega)]; simp [h]
            · rw [tB_no _ _ _ (by omega)]; simp [h]
          rw [hz, if_neg h4, if_neg h6]
          by_cases h0 : x.f1 = 0
          · refine ite_t h0 (bind_ev (spec_arity x.f0) (some_ev ?_))
            rw [if_neg (by omega)]
            by_cases h3 : x.f0 = 3
            · simp [h3, h0]
            · by_cases h5 : x.f0 = 5
              · simp [h5, h0]
              · simp [h3, h4, h5, h6]
          · refine ite_f h0 (some_ev ?_)
            by_cases h3 : x.f0 = 3
            · simp [h3, h0]
            · by_cases h5 : x.f0 = 5
              · simp [h5, h0]
              · simp [h3, h5]
theorem arity_of {x : S76} (h : cellOk x = true) : (if x.f0 = 1 ∨ x.f0 = 2 then 0 else if x.f0 = 3 ∨ x.f0 = 4 ∨ x.f0 = 5 then 2 else if x.f0 = 6 then 1 else -1) = (arity x.f0 : Int) := by
  unfold cellOk at h
  unfold arity
  by_cases h1 : x.f0 = 1 ∨ x.f0 = 2
  · rw [if_pos h1, if_pos h1]; rfl
  · rw [if_neg h1, if_neg h1]
    by_cases h6 : x.f0 = 6
    · rw [if_neg (by omega), if_pos h6, if_pos h6]; rfl
    · rw [if_neg h6]
      by_cases h3 : x.f0 = 3 ∨ x.f0 = 4 ∨ x.f0 = 5
      · rw [if_pos h3, if_neg h6]; rfl
      · rw [if_neg (by omega), if_neg (by omega), if_neg (by omega), if_neg (by omega), if_neg (by omega), if_neg (by omega)] at h
        cases h
def enc (o : Option (S72 × Nat)) : Int × Int × List S72 × Int :=
  match o with
  | some (t, b) => (t.f0, t.f1, t.f2, (b : Int))
  | none => (0, 0, [], 0)
theorem spec_kids {l : List S76} {G : Nat → Option (S72 × Nat)} {n lo : Nat} {kd nn : Int} (hn : n ≤ 1048576) (hG : ∀ a t b, a ≤ n → G a = some (t, b) → a < b ∧ b ≤ n)
    (hF : ∀ (a : Nat), lo ≤ a → a ≤ n → Ev (fun k => spec_l16Read.f k l a) (enc (G a))) :
    ∀ (m a : Nat) (acc : List S72), m ≤ 2 → acc.length + m ≤ 4 → lo ≤ a → a ≤ n → Ev (fun k => spec_l16Read.l0 k l a m kd nn acc) (enc ((rdK G m a acc).map fun r => (⟨kd, nn, r.1⟩, r.2)))
  | 0, a, acc, hm, hc, hlo, ha => by
    refine Ev.step (fun k => by simp only [spec_l16Read.l0]; rw [if_neg (by omega)]) ?_
    exact some_ev rfl
  | m + 1, a, acc, hm, hc, hlo, ha => by
    refine Ev.step (fun k => by simp only [spec_l16Read.l0]; rw [if_pos (by omega)]) ?_
    refine bind_ev (hF a hlo ha) ?_
    simp only [rdK]
    cases hg : G a with
    | none => exact ite_t rfl (some_ev rfl)
    | some r =>
      obtain ⟨t, c⟩ := r
      have h3 := hG a t c ha hg
      have hw : wrap64 (((m + 1 : Nat) : Int) - 1) = (m : Int) := by rw [w64 (by omega) (by omega)]; omega
      have ih := spec_kids (kd := kd) (nn := nn) hn hG hF m c (acc ++ [t]) (by omega) (by simp; omega) (by omega) h3.2
      simp only [enc, Option.bind_some]
      refine ite_f (by omega) (ite_t (by omega) ?_)
      rw [hw]
      cases t
      exact ih
theorem spec_read (l : List S76) (hl : l.length ≤ 1048576) : ∀ (k a : Nat), a + k > l.length → a ≤ l.length → Ev (fun j => spec_l16Read.f j l a) (enc (rdT l k a))
  | 0, a, h, ha => by omega
  | k + 1, a, h, ha => by
    simp only [rdT]
    refine Ev.step (fun j => by rw [spec_l16Read.f]) ?_
    by_cases h1 : a < l.length
    · rw [if_pos h1]
      refine ite_f (by omega) (ite_t (by omega) (ite_t (by omega) (bind_ev (spec_cell _) ?_)))
      by_cases hc : cellOk (rd_T76 l a) = true
      · rw [if_pos hc, hc]
        refine Ev.step (fun j => by simp only [spec_l16Read.j0]; rw [if_neg (by decide), if_pos (by omega), if_pos (by omega), w_succ (by omega)]) ?_
        refine bind_ev (spec_arity _) ?_
        rw [arity_of hc]
        have ha2 : arity (rd_T76 l a).f0 ≤ 2 := by unfold arity; split <;> (try split) <;> omega
        exact spec_kids (n := l.length) (lo := a + 1) hl (fun a t b _ h => rdT_mono l k a t b h) (fun a' hlo ha' => spec_read l hl k a' (by omega) ha') _ (a + 1) [] ha2 (by simp; omega) (Nat.le_refl _) (by omega)
      · rw [if_neg hc, Bool.eq_false_iff.mpr hc]
        refine Ev.step (fun j => by simp only [spec_l16Read.j0]; rw [if_pos (by decide)]) ?_
        exact some_ev rfl
    · rw [if_neg h1]
      refine ite_t (by omega) (Ev.step (fun j => by simp only [spec_l16Read.j0]; rw [if_pos trivial]) ?_)
      exact some_ev rfl
/-! ### loops within loops -/
theorem lp_f (t : S72) : lp t = lpm t.f2 + if t.f0 = 6 then 1 else 0 := by cases t; rfl
mutual
def sz : S72 → Nat
  | ⟨_, _, ts⟩ => szm ts + 1
def szm : List S72 → Nat
  | [] => 0
  | t :: ts => sz t + szm ts
end
mutual
theorem lp_sz : ∀ t : S72, lp t ≤ sz t
  | ⟨k, n, ts⟩ => by
    have := lpm_szm ts
    unfold lp sz
    split <;> omega
theorem lpm_szm : ∀ ts : List S72, lpm ts ≤ szm ts
  | [] => by simp [lpm, szm]
  | t :: ts => by
    have := lp_sz t
    have := lpm_szm ts
    unfold lpm szm
    omega
end
theorem len_szm : ∀ ts : List S72, ts.length ≤ szm ts
  | [] => by simp [szm]
  | t :: ts => by
    have := len_szm ts
    have : 1 ≤ sz t := by cases t; unfold sz; omega
    unfold szm
    simp; omega
theorem rdat72 {pre : List S72} {x : S72} {post : List S72} {n : Nat} (h : n = pre.length) : rd_T72 (pre ++ x :: post) (n : Int) = x := by
  unfold rd_T72; rw [Int.toNat_natCast]; exact getD_at h
mutual
theorem spec_loops : ∀ (t : S72), sz t ≤ 1048576 → Ev (fun k => spec_l16Loops.f k t.f0 t.f1 t.f2) (lp t : Int)
  | ⟨kd, n, ts⟩, h => by
    have hs : szm ts + 1 ≤ 1048576 := by simpa [sz] using h
    refine Ev.step (fun k => by rw [spec_l16Loops.f]) ?_
    have hlen := len_szm ts
    have := spec_loops_m kd n ts [] 0 (by omega) (by omega) (by simp; omega)
    simpa [lp_f] using this
theorem spec_loops_m : ∀ (kd n : Int) (post pre : List S72) (m : Nat), szm post ≤ 1048575 → m ≤ 1048576 → pre.length + post.length ≤ 1048576 →
    Ev (fun k => spec_l16Loops.l0 k m (pre ++ post) ((pre ++ post).length : Int) (pre.length : Int) kd n (pre ++ post)) ((max m (lpm post) + if kd = 6 then 1 else 0 : Nat) : Int)
  | kd, n, [], pre, m, hs, hm, hb => by
    refine Ev.step (fun k => by simp only [spec_l16Loops.l0]; rw [if_neg (by simp)]) ?_
    have e : max m (lpm []) = m := by simp [lpm]
    rw [e]
    by_cases h6 : kd = 6
    · have e2 : wrap64 ((m : Int) + 1) = ((m + 1 : Nat) : Int) := w_succ (by omega)
      rw [e2]
      refine ite_t h6 (some_ev ?_)
      rw [if_pos h6]
    · refine ite_f h6 (some_ev ?_)
      rw [if_neg h6]; rfl
  | kd, n, t :: post, pre, m, hs, hm, hb => by
    have hs2 : sz t + szm post ≤ 1048575 := by simpa [szm] using hs
    have hl := lp_sz t
    simp at hb
    have ih := spec_loops t (by omega)
    refine Ev.step (fun k => by
      simp only [spec_l16Loops.l0]
      rw [if_pos (by simp; omega), if_pos (by omega), if_pos (by simp; omega), rdat72 rfl, w_succ (by omega)]) ?_
    refine bind_ev ih ?_
    have e : max m (lpm (t :: post)) = max (max m (lp t)) (lpm post) := by simp only [lpm]; omega
    rw [e]
    by_cases hg : (lp t : Int) > (m : Int)
    · refine ite_t hg ?_
      rw [show max m (lp t) = lp t by omega]
      have := spec_loops_m kd n post (pre ++ [t]) (lp t) (by omega) (by omega) (by simp; omega)
      simpa using this
    · refine ite_f hg ?_
      rw [show max m (lp t) = m by omega]
      have := spec_loops_m kd n post (pre ++ [t]) m (by omega) hm (by simp; omega)
      simpa using this
end
/-- What is read is no greater than the cells. -/
theorem rdK_sz {G : Nat → Option (S72 × Nat)} (hG : ∀ a t b, G a = some (t, b) → a + sz t = b) : ∀ (m a : Nat) (acc ts : List S72) (b : Nat), rdK G m a acc = some (ts, b) → a + szm ts = b + szm acc
  | 0, a, acc, ts, b, h => by
    simp only [rdK, Option.some.injEq, Prod.mk.injEq] at h
    rw [h.1, h.2]
  | m + 1, a, acc, ts, b, h => by
    simp only [rdK] at h
    obtain ⟨⟨t, c⟩, h1, h2⟩ := Option.bind_eq_some_iff.1 h
    have h3 := hG a t c h1
    have h4 := rdK_sz hG m c (acc ++ [t]) ts b h2
    have h5 : szm (acc ++ [t]) = szm acc + sz t := by
      clear h h1 h2 h4
      induction acc with
      | nil => simp [szm]
      | cons x xs ih => simp only [List.cons_append, szm, ih]; omega
    omega
theorem rdT_sz (l : List S76) : ∀ (k a : Nat) (t : S72) (b : Nat), rdT l k a = some (t, b) → a + sz t = b
  | 0, a, t, b, h => by simp [rdT] at h
  | k + 1, a, t, b, h => by
    simp only [rdT] at h
    split at h
    · split at h
      · obtain ⟨⟨ts, c⟩, h1, h2⟩ := Option.map_eq_some_iff.1 h
        simp only [Prod.mk.injEq] at h2
        have := rdK_sz (fun a t b h => rdT_sz l k a t b h) _ _ _ _ _ h1
        rw [← h2.1, ← h2.2]
        simp only [sz, szm] at this ⊢
        omega
      · cases h
    · cases h
/-- The tree that cells are. -/
def treeOf (l : List S76) : Option S72 :=
  if l.length ≤ 30 then match rdT l 40 0 with
    | some (t, b) => if b = l.length ∧ lp t ≤ 3 then some t else none
    | none => none
  else none
end Go.Proofs.Ytgjojppbichaiaa.Pure
