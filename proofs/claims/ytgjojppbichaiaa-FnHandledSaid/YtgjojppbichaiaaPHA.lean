/- FnHandled: a line with its guards tells and raises what the tree does, for drawn trees. Conditions: none. -/
import Derived.Test.YtgjojppbichaiaaKit
import Derived.Test.YtgjojppbichaiaaQx0
import Derived.Test.YtgjojppbichaiaaQx3
import Derived.Test.YtgjojppbichaiaaQx4
import Derived.Test.YtgjojppbichaiaaQx5
import Derived.Test.YtgjojppbichaiaaQx6
import Derived.Test.YtgjojppbichaiaaPSA
import Derived.Test.YtgjojppbichaiaaWf
import Derived.Test.YtgjojppbichaiaaQx12
import Derived.Test.YtgjojppbichaiaaQx14
import Derived.Test.YtgjojppbichaiaaQx15
import Derived.Test.YtgjojppbichaiaaQx13
import Derived.Test.YtgjojppbichaiaaQx9
import Derived.Test.YtgjojppbichaiaaQx10
import Derived.Test.YtgjojppbichaiaaQx7
import Derived.Test.YtgjojppbichaiaaQx8
import Derived.Test.YtgjojppbichaiaaQx16
import Derived.Laws.BitsAllLaws
import Derived.Test.YtgjojppbichaiaaQx17
import Derived.Test.YtgjojppbichaiaaQx18
import Derived.Test.YtgjojppbichaiaaQx11
import Derived.Test.YtgjojppbichaiaaQx19
import Derived.Test.YtgjojppbichaiaaQx20
set_option linter.unusedVariables false
set_option linter.unusedSimpArgs false
set_option linter.unusedSectionVars false
namespace Go.Proofs.Ytgjojppbichaiaa.Pure
open Go.RowKit Go.Proofs.Ytgjojppbichaiaa.Q Go.Proofs.YtgjojppbichaiaaW.PrintWords Go.Proofs.YtgjojppbichaiaaW.PrintLast Go.Proofs.Ytgjojppbichaiaa.Kit
def tB (a b c : Int) : Bool := if a ≥ b then decide (a ≤ c) else false
theorem t_spec_in (a b c : Int) : spec_l1In.f a b c = some (tB a b c) := by unfold spec_l1In.f tB; split <;> rfl
theorem t_impl_in (a b c : Int) : impl_in.f a b c = some (tB a b c) := by unfold impl_in.f tB; split <;> rfl
theorem tB_iff (a b c : Int) : tB a b c = true ↔ b ≤ a ∧ a ≤ c := by
  unfold tB; split <;> simp <;> omega
theorem tB_no (a b c : Int) (h : ¬ (b ≤ a ∧ a ≤ c)) : tB a b c = false := by
  cases e : tB a b c
  · rfl
  · exact absurd ((tB_iff _ _ _).1 e) h
/-- Is it a good cell? -/
def cellOk (x : S76) : Bool :=
  if x.f0 = 1 then tB x.f1 0 99 else if x.f0 = 2 then tB x.f1 1 9 else if x.f0 = 3 then tB x.f1 0 0 else if x.f0 = 5 then tB x.f1 0 0 else if x.f0 = 4 then tB x.f1 0 9 else if x.f0 = 6 then tB x.f1 0 5 else false
/-- How many kids has a tree of this kind? -/
def arity (k : Int) : Nat := if k = 1 ∨ k = 2 then 0 else if k = 6 then 1 else 2
def rdK (F : Nat → Option (S72 × Nat)) : Nat → Nat → List S72 → Option (List S72 × Nat)
  | 0, a, acc => some (acc, a)
  | m + 1, a, acc => (F a).bind fun r => rdK F m r.2 (acc ++ [r.1])
/-- The tree at a place, and the place behind it. -/
def rdT (l : List S76) : Nat → Nat → Option (S72 × Nat)
  | 0, _ => none
  | k + 1, a => if a < l.length then (if cellOk (rd_T76 l a) = true then (rdK (rdT l k) (arity (rd_T76 l a).f0) (a + 1) []).map fun r => (⟨(rd_T76 l a).f0, (rd_T76 l a).f1, r.1⟩, r.2) else none) else none
mutual
/-- How many loops lie within one another? -/
def lp : S72 → Nat
  | ⟨k, _, ts⟩ => lpm ts + if k = 6 then 1 else 0
def lpm : List S72 → Nat
  | [] => 0
  | t :: ts => max (lp t) (lpm ts)
end
theorem lpm_append (t : S72) : ∀ (ts : List S72), lpm (ts ++ [t]) = max (lpm ts) (lp t)
  | [] => by simp [lpm]
  | x :: ts => by
    simp only [List.cons_append, lpm, lpm_append t ts]
    omega
theorem rdK_snoc (F : Nat → Option (S72 × Nat)) : ∀ (m a : Nat) (acc acc2 : List S72), (rdK F m a acc).map (fun r => (acc2 ++ r.1, r.2)) = rdK F m a (acc2 ++ acc)
  | 0, a, acc, acc2 => rfl
  | m + 1, a, acc, acc2 => by
    simp only [rdK]
    cases F a with
    | none => rfl
    | some r =>
      simp only [Option.bind_some]
      rw [rdK_snoc F m r.2 (acc ++ [r.1]) acc2, List.append_assoc]
theorem rdK_mono {F : Nat → Option (S72 × Nat)} {n : Nat} (hF : ∀ a t b, a ≤ n → F a = some (t, b) → a < b ∧ b ≤ n) : ∀ (m a : Nat) (acc : List S72) (ts : List S72) (b : Nat), a ≤ n → rdK F m a acc = some (ts, b) → a ≤ b ∧ b ≤ n
  | 0, a, acc, ts, b, ha, h => by
    simp only [rdK, Option.some.injEq, Prod.mk.injEq] at h
    omega
  | m + 1, a, acc, ts, b, ha, h => by
    simp only [rdK] at h
    obtain ⟨⟨t, c⟩, h1, h2⟩ := Option.bind_eq_some_iff.1 h
    have h3 := hF a t c ha h1
    have h4 := rdK_mono hF m c (acc ++ [t]) ts b h3.2 h2
    omega
theorem rdT_mono (l : List S76) : ∀ (k a : Nat) (t : S72) (b : Nat), rdT l k a = some (t, b) → a < b ∧ b ≤ l.length
  | 0, a, t, b, h => by simp [rdT] at h
  | k + 1, a, t, b, h => by
    simp only [rdT] at h
    split at h
    · split at h
      · obtain ⟨⟨ts, c⟩, h1, h2⟩ := Option.map_eq_some_iff.1 h
        simp only [Prod.mk.injEq] at h2
        have := rdK_mono (n := l.length) (fun a t b _ h => rdT_mono l k a t b h) _ _ _ _ _ (by omega) h1
        omega
      · cases h
    · cases h
/-! ### the reference's -/
theorem spec_arity (x : Int) : Ev (fun k => spec_l16Arity.f k x) (if x = 1 ∨ x = 2 then 0 else if x = 3 ∨ x = 4 ∨ x = 5 then 2 else if x = 6 then 1 else -1) := by
  unfold spec_l16Arity.f
  have j1 : ∀ b : Bool, b = decide (x = 3 ∨ x = 4 ∨ x = 5) → ¬ (x = 1 ∨ x = 2) → Ev (fun k => spec_l16Arity.j1 k x b) (if x = 1 ∨ x = 2 then 0 else if x = 3 ∨ x = 4 ∨ x = 5 then 2 else if x = 6 then 1 else -1) := by
    intro b hb h12
    refine Ev.step (fun k => by rw [spec_l16Arity.j1]) ?_
    rw [if_neg h12]
    by_cases h : x = 3 ∨ x = 4 ∨ x = 5
    · rw [if_pos h]; exact ite_t (by simp [hb, h]) (Ev.now _)
    · rw [if_neg h]
      refine ite_f (by simp only [hb, decide_eq_true_eq]; exact h) ?_
      by_cases h6 : x = 6
      · exact ite_t h6 (some_ev (by rw [if_pos h6]))
      · exact ite_f h6 (some_ev (by rw [if_neg h6]))
  have j0 : ∀ b : Bool, b = decide (x = 1 ∨ x = 2) → Ev (fun k => spec_l16Arity.j0 k x b) (if x = 1 ∨ x = 2 then 0 else if x = 3 ∨ x = 4 ∨ x = 5 then 2 else if x = 6 then 1 else -1) := by
    intro b hb
    refine Ev.step (fun k => by rw [spec_l16Arity.j0]) ?_
    by_cases h : x = 1 ∨ x = 2
    · rw [if_pos h]; exact ite_t (by simp [hb, h]) (Ev.now _)
    · refine ite_f (by simp only [hb, decide_eq_true_eq]; exact h) ?_
      by_cases h3 : x = 3
      · exact ite_t h3 (j1 _ (by simp [h3]) h)
      · refine ite_f h3 ?_
        by_cases h4 : x = 4
        · exact ite_t h4 (j1 _ (by simp [h4]) h)
        · exact ite_f h4 (j1 _ (by simp [h3, h4]; rfl) h)
  by_cases h1 : x = 1
  · exact ite_t h1 (j0 _ (by simp [h1]))
  · exact ite_f h1 (j0 _ (by simp [h1]; rfl))
theorem spec_cell (x : S76) : Ev (fun k => spec_l16Cell.f k x.f0 x.f1) (cellOk x) := by
  unfold spec_l16Cell.f cellOk
  simp only [t_spec_in, Option.bind_some]
  by_cases h1 : x.f0 = 1
  · rw [if_pos h1]; exact ite_t h1 (Ev.now _)
  · rw [if_neg h1]; refine ite_f h1 ?_
    by_cases h2 : x.f0 = 2
    · rw [if_pos h2]; exact ite_t h2 (Ev.now _)
    · rw [if_neg h2]; refine ite_f h2 ?_
      by_cases h4 : x.f0 = 4
      · rw [if_neg (by omega), if_neg (by omega), if_pos h4]; exact ite_t h4 (Ev.now _)
      · refine ite_f h4 ?_
        by_cases h6 : x.f0 = 6
        · rw [if_neg (by omega), if_neg (by omega), if_neg h4, if_pos h6]; exact ite_t h6 (Ev.now _)
        · refine ite_f h6 ?_
          have hz : tB x.f1 0 0 = decide (x.f1 = 0) := by
            by_cases h : x.f1 = 0
            · rw [(tB_iff _ _ _).2 (by omega)]; simp [h]
            · rw [tB_no _ _ _ (by omega)]; simp [h]
          rw [hz, if_neg h4, if_neg h6]
          by_cases h0 : x.f1 = 0
          · refine ite_t h0 (bind_ev (spec_arity x.f0) (some_ev ?_))
            rw [if_neg (by omega)]
            by_cases h3 : x.f0 = 3
            · simp [h3, h0]
            · by_cases h5 : x.f0 = 5
              · simp [h5, h0]
              · simp [h3, h4, h5, h6]
          · refine ite_f h0 (some_ev ?_)
            by_cases h3 : x.f0 = 3
            · simp [h3, h0]
            · by_cases h5 : x.f0 = 5
              · simp [h5, h0]
              · simp [h3, h5]
theorem arity_of {x : S76} (h : cellOk x = true) : (if x.f0 = 1 ∨ x.f0 = 2 then 0 else if x.f0 = 3 ∨ x.f0 = 4 ∨ x.f0 = 5 then 2 else if x.f0 = 6 then 1 else -1) = (arity x.f0 : Int) := by
  unfold cellOk at h
  unfold arity
  by_cases h1 : x.f0 = 1 ∨ x.f0 = 2
  · rw [if_pos h1, if_pos h1]; rfl
  · rw [if_neg h1, if_neg h1]
    by_cases h6 : x.f0 = 6
    · rw [if_neg (by omega), if_pos h6, if_pos h6]; rfl
    · rw [if_neg h6]
      by_cases h3 : x.f0 = 3 ∨ x.f0 = 4 ∨ x.f0 = 5
      · rw [if_pos h3, if_neg h6]; rfl
      · rw [if_neg (by omega), if_neg (by omega), if_neg (by omega), if_neg (by omega), if_neg (by omega), if_neg (by omega)] at h
        cases h
def enc (o : Option (S72 × Nat)) : Int × Int × List S72 × Int :=
  match o with
  | some (t, b) => (t.f0, t.f1, t.f2, (b : Int))
  | none => (0, 0, [], 0)
theorem spec_kids {l : List S76} {G : Nat → Option (S72 × Nat)} {n lo : Nat} {kd nn : Int} (hn : n ≤ 1048576) (hG : ∀ a t b, a ≤ n → G a = some (t, b) → a < b ∧ b ≤ n)
    (hF : ∀ (a : Nat), lo ≤ a → a ≤ n → Ev (fun k => spec_l16Read.f k l a) (enc (G a))) :
    ∀ (m a : Nat) (acc : List S72), m ≤ 2 → acc.length + m ≤ 4 → lo ≤ a → a ≤ n → Ev (fun k => spec_l16Read.l0 k l a m kd nn acc) (enc ((rdK G m a acc).map fun r => (⟨kd, nn, r.1⟩, r.2)))
  | 0, a, acc, hm, hc, hlo, ha => by
    refine Ev.step (fun k => by simp only [spec_l16Read.l0]; rw [if_neg (by omega)]) ?_
    exact some_ev rfl
  | m + 1, a, acc, hm, hc, hlo, ha => by
    refine Ev.step (fun k => by simp only [spec_l16Read.l0]; rw [if_pos (by omega)]) ?_
    refine bind_ev (hF a hlo ha) ?_
    simp only [rdK]
    cases hg : G a with
    | none => exact ite_t rfl (some_ev rfl)
    | some r =>
      obtain ⟨t, c⟩ := r
      have h3 := hG a t c ha hg
      have hw : wrap64 (((m + 1 : Nat) : Int) - 1) = (m : Int) := by rw [w64 (by omega) (by omega)]; omega
      have ih := spec_kids (kd := kd) (nn := nn) hn hG hF m c (acc ++ [t]) (by omega) (by simp; omega) (by omega) h3.2
      simp only [enc, Option.bind_some]
      refine ite_f (by omega) (ite_t (by omega) ?_)
      rw [hw]
      cases t
      exact ih
theorem spec_read (l : List S76) (hl : l.length ≤ 1048576) : ∀ (k a : Nat), a + k > l.length → a ≤ l.length → Ev (fun j => spec_l16Read.f j l a) (enc (rdT l k a))
  | 0, a, h, ha => by omega
  | k + 1, a, h, ha => by
    simp only [rdT]
    refine Ev.step (fun j => by rw [spec_l16Read.f]) ?_
    by_cases h1 : a < l.length
    · rw [if_pos h1]
      refine ite_f (by omega) (ite_t (by omega) (ite_t (by omega) (bind_ev (spec_cell _) ?_)))
      by_cases hc : cellOk (rd_T76 l a) = true
      · rw [if_pos hc, hc]
        refine Ev.step (fun j => by simp only [spec_l16Read.j0]; rw [if_neg (by decide), if_pos (by omega), if_pos (by omega), w_succ (by omega)]) ?_
        refine bind_ev (spec_arity _) ?_
        rw [arity_of hc]
        have ha2 : arity (rd_T76 l a).f0 ≤ 2 := by unfold arity; split <;> (try split) <;> omega
        exact spec_kids (n := l.length) (lo := a + 1) hl (fun a t b _ h => rdT_mono l k a t b h) (fun a' hlo ha' => spec_read l hl k a' (by omega) ha') _ (a + 1) [] ha2 (by simp; omega) (Nat.le_refl _) (by omega)
      · rw [if_neg hc, Bool.eq_false_iff.mpr hc]
        refine Ev.step (fun j => by simp only [spec_l16Read.j0]; rw [if_pos (by decide)]) ?_
        exact some_ev rfl
    · rw [if_neg h1]
      refine ite_t (by omega) (Ev.step (fun j => by simp only [spec_l16Read.j0]; rw [if_pos trivial]) ?_)
      exact some_ev rfl
/-! ### loops within loops -/
theorem lp_f (t : S72) : lp t = lpm t.f2 + if t.f0 = 6 then 1 else 0 := by cases t; rfl
mutual
def sz : S72 → Nat
  | ⟨_, _, ts⟩ => szm ts + 1
def szm : List S72 → Nat
  | [] => 0
  | t :: ts => sz t + szm ts
end
mutual
theorem lp_sz : ∀ t : S72, lp t ≤ sz t
  | ⟨k, n, ts⟩ => by
    have := lpm_szm ts
    unfold lp sz
    split <;> omega
theorem lpm_szm : ∀ ts : List S72, lpm ts ≤ szm ts
  | [] => by simp [lpm, szm]
  | t :: ts => by
    have := lp_sz t
    have := lpm_szm ts
    unfold lpm szm
    omega
end
theorem len_szm : ∀ ts : List S72, ts.length ≤ szm ts
  | [] => by simp [szm]
  | t :: ts => by
    have := len_szm ts
    have : 1 ≤ sz t := by cases t; unfold sz; omega
    unfold szm
    simp; omega
theorem rdat72 {pre : List S72} {x : S72} {post : List S72} {n : Nat} (h : n = pre.length) : rd_T72 (pre ++ x :: post) (n : Int) = x := by
  unfold rd_T72; rw [Int.toNat_natCast]; exact getD_at h
mutual
theorem spec_loops : ∀ (t : S72), sz t ≤ 1048576 → Ev (fun k => spec_l16Loops.f k t.f0 t.f1 t.f2) (lp t : Int)
  | ⟨kd, n, ts⟩, h => by
    have hs : szm ts + 1 ≤ 1048576 := by simpa [sz] using h
    refine Ev.step (fun k => by rw [spec_l16Loops.f]) ?_
    have hlen := len_szm ts
    have := spec_loops_m kd n ts [] 0 (by omega) (by omega) (by simp; omega)
    simpa [lp_f] using this
theorem spec_loops_m : ∀ (kd n : Int) (post pre : List S72) (m : Nat), szm post ≤ 1048575 → m ≤ 1048576 → pre.length + post.length ≤ 1048576 →
    Ev (fun k => spec_l16Loops.l0 k m (pre ++ post) ((pre ++ post).length : Int) (pre.length : Int) kd n (pre ++ post)) ((max m (lpm post) + if kd = 6 then 1 else 0 : Nat) : Int)
  | kd, n, [], pre, m, hs, hm, hb => by
    refine Ev.step (fun k => by simp only [spec_l16Loops.l0]; rw [if_neg (by simp)]) ?_
    have e : max m (lpm []) = m := by simp [lpm]
    rw [e]
    by_cases h6 : kd = 6
    · have e2 : wrap64 ((m : Int) + 1) = ((m + 1 : Nat) : Int) := w_succ (by omega)
      rw [e2]
      refine ite_t h6 (some_ev ?_)
      rw [if_pos h6]
    · refine ite_f h6 (some_ev ?_)
      rw [if_neg h6]; rfl
  | kd, n, t :: post, pre, m, hs, hm, hb => by
    have hs2 : sz t + szm post ≤ 1048575 := by simpa [szm] using hs
    have hl := lp_sz t
    simp at hb
    have ih := spec_loops t (by omega)
    refine Ev.step (fun k => by
      simp only [spec_l16Loops.l0]
      rw [if_pos (by simp; omega), if_pos (by omega), if_pos (by simp; omega), rdat72 rfl, w_succ (by omega)]) ?_
    refine bind_ev ih ?_
    have e : max m (lpm (t :: post)) = max (max m (lp t)) (lpm post) := by simp only [lpm]; omega
    rw [e]
    by_cases hg : (lp t : Int) > (m : Int)
    · refine ite_t hg ?_
      rw [show max m (lp t) = lp t by omega]
      have := spec_loops_m kd n post (pre ++ [t]) (lp t) (by omega) (by omega) (by simp; omega)
      simpa using this
    · refine ite_f hg ?_
      rw [show max m (lp t) = m by omega]
      have := spec_loops_m kd n post (pre ++ [t]) m (by omega) hm (by simp; omega)
      simpa using this
end
/-- What is read is no greater than the cells. -/
theorem rdK_sz {G : Nat → Option (S72 × Nat)} (hG : ∀ a t b, G a = some (t, b) → a + sz t = b) : ∀ (m a : Nat) (acc ts : List S72) (b : Nat), rdK G m a acc = some (ts, b) → a + szm ts = b + szm acc
  | 0, a, acc, ts, b, h => by
    simp only [rdK, Option.some.injEq, Prod.mk.injEq] at h
    rw [h.1, h.2]
  | m + 1, a, acc, ts, b, h => by
    simp only [rdK] at h
    obtain ⟨⟨t, c⟩, h1, h2⟩ := Option.bind_eq_some_iff.1 h
    have h3 := hG a t c h1
    have h4 := rdK_sz hG m c (acc ++ [t]) ts b h2
    have h5 : szm (acc ++ [t]) = szm acc + sz t := by
      clear h h1 h2 h4
      induction acc with
      | nil => simp [szm]
      | cons x xs ih => simp only [List.cons_append, szm, ih]; omega
    omega
theorem rdT_sz (l : List S76) : ∀ (k a : Nat) (t : S72) (b : Nat), rdT l k a = some (t, b) → a + sz t = b
  | 0, a, t, b, h => by simp [rdT] at h
  | k + 1, a, t, b, h => by
    simp only [rdT] at h
    split at h
    · split at h
      · obtain ⟨⟨ts, c⟩, h1, h2⟩ := Option.map_eq_some_iff.1 h
        simp only [Prod.mk.injEq] at h2
        have := rdK_sz (fun a t b h => rdT_sz l k a t b h) _ _ _ _ _ h1
        rw [← h2.1, ← h2.2]
        simp only [sz, szm] at this ⊢
        omega
      · cases h
    · cases h
/-- The tree that cells are. -/
def treeOf (l : List S76) : Option S72 :=
  if l.length ≤ 30 then match rdT l 40 0 with
    | some (t, b) => if b = l.length ∧ lp t ≤ 3 then some t else none
    | none => none
  else none
end Go.Proofs.Ytgjojppbichaiaa.Pure
namespace Go.Proofs.Ytgjojppbichaiaa.Pure
open Go.RowKit Go.Proofs.Ytgjojppbichaiaa.Q Go.Proofs.YtgjojppbichaiaaW.PrintWords Go.Proofs.YtgjojppbichaiaaW.PrintLast Go.Proofs.Ytgjojppbichaiaa.Kit
/-! ### the program's -/
/-- What reading kids comes to. -/
theorem impl_kids {F : Int → Option (Option S72 × Int)} {G : Nat → Option (S72 × Nat)} {n lo : Nat} {q : Nat} (hG : ∀ a t b, a ≤ n → G a = some (t, b) → a < b ∧ b ≤ n)
    (hF : ∀ a, lo ≤ a → a ≤ n → (∀ t b, G a = some (t, b) → if q + lp t ≤ 3 then F a = some (some t, (b : Int)) else ∃ b', F a = some (none, b')) ∧ (G a = none → ∃ b', F a = some (none, b'))) :
    ∀ (m a : Nat) (acc : List S72), lo ≤ a → a ≤ n → q + lpm acc ≤ 3 → (∀ ts b, rdK G m a acc = some (ts, b) → if q + lpm ts ≤ 3 then Xn.kids F m a acc = some (some ts, (b : Int)) else ∃ b', Xn.kids F m a acc = some (none, b')) ∧ (rdK G m a acc = none → ∃ b', Xn.kids F m a acc = some (none, b'))
  | 0, a, acc, hlo, ha, hq => by
    refine ⟨fun ts b h => ?_, fun h => by simp [rdK] at h⟩
    simp only [rdK, Option.some.injEq, Prod.mk.injEq] at h
    obtain ⟨rfl, rfl⟩ := h
    rw [if_pos hq]
    rfl
  | m + 1, a, acc, hlo, ha, hq => by
    obtain ⟨h1, h2⟩ := hF a hlo ha
    simp only [rdK, Xn.kids]
    cases hg : G a with
    | none =>
      obtain ⟨b', hb⟩ := h2 hg
      refine ⟨fun ts b h => by simp at h, fun _ => ⟨_, by rw [hb]; rfl⟩⟩
    | some r =>
      obtain ⟨t, c⟩ := r
      have h3 := h1 t c hg
      have hc := hG a t c ha hg
      simp only [Option.bind_some]
      by_cases hl : q + lp t ≤ 3
      · rw [if_pos hl] at h3
        rw [h3]
        simp only [Option.bind_some]
        have ih := impl_kids hG hF m c (acc ++ [t]) (by omega) hc.2 (by rw [lpm_append]; omega)
        exact ih
      · rw [if_neg hl] at h3
        obtain ⟨b', hb⟩ := h3
        rw [hb]
        simp only [Option.bind_some]
        refine ⟨fun ts b h => ?_, fun _ => ⟨_, rfl⟩⟩
        have : q + lp t ≤ q + lpm ts := by
          have h5 := rdK_snoc G m c [] (acc ++ [t])
          rw [List.append_nil] at h5
          rw [← h5] at h
          obtain ⟨⟨ts', b2⟩, _, h7⟩ := Option.map_eq_some_iff.1 h
          simp only [Prod.mk.injEq] at h7
          rw [← h7.1]
          have : ∀ (xs ys : List S72), lpm xs ≤ lpm (xs ++ ys) := by
            intro xs
            induction xs with
            | nil => intro ys; simp [lpm]
            | cons x xs ih => intro ys; simp only [List.cons_append, lpm]; have := ih ys; omega
          have h8 := this (acc ++ [t]) ts'
          rw [lpm_append] at h8
          omega
        rw [if_neg (by omega)]
        exact ⟨_, rfl⟩
theorem impl_node {F : Int → Int → Option (Option S72 × Int)} {G : Nat → Option (S72 × Nat)} {n q a : Nat} {x : S76} (hn : n ≤ 30) (ha : a < n) (hq : q ≤ 4) (hG : ∀ a t b, a ≤ n → G a = some (t, b) → a < b ∧ b ≤ n)
    (hF : ∀ (q a' : Nat), q ≤ 4 → a + 1 ≤ a' → a' ≤ n → (∀ t b, G a' = some (t, b) → if q + lp t ≤ 3 then F q a' = some (some t, (b : Int)) else ∃ b', F q a' = some (none, b')) ∧ (G a' = none → ∃ b', F q a' = some (none, b'))) :
    (∀ ts b, cellOk x = true → rdK G (arity x.f0) (a + 1) [] = some (ts, b) → if q + lp ⟨x.f0, x.f1, ts⟩ ≤ 3 then Xn.node F x a q = some (some ⟨x.f0, x.f1, ts⟩, (b : Int)) else ∃ b', Xn.node F x a q = some (none, b')) ∧
    (cellOk x = false ∨ rdK G (arity x.f0) (a + 1) [] = none → ∃ b', Xn.node F x a q = some (none, b')) := by
  have w1 : wrap64 ((a : Int) + 1) = ((a + 1 : Nat) : Int) := w_succ (by omega)
  have rest : ∀ (lo hi : Int) (q' : Nat), q' ≤ 5 → (q' ≤ 3 → q' ≤ 4) → q' = q + (if x.f0 = 6 then 1 else 0) → Xn.node F x a q = Xn.rest F x a lo hi (arity x.f0) q' → cellOk x = tB x.f1 lo hi →
      (∀ ts b, cellOk x = true → rdK G (arity x.f0) (a + 1) [] = some (ts, b) → if q + lp ⟨x.f0, x.f1, ts⟩ ≤ 3 then Xn.node F x a q = some (some ⟨x.f0, x.f1, ts⟩, (b : Int)) else ∃ b', Xn.node F x a q = some (none, b')) ∧
      (cellOk x = false ∨ rdK G (arity x.f0) (a + 1) [] = none → ∃ b', Xn.node F x a q = some (none, b')) := by
    intro lo hi q' hq5 hq6 hq' e hc
    rw [e, hc]
    unfold Xn.rest
    rw [t_impl_in, w1]
    simp only [Option.bind_some]
    cases hb : tB x.f1 lo hi with
    | false =>
      refine ⟨fun _ _ h => by simp at h, fun _ => ⟨_, if_neg (by simp)⟩⟩
    | true =>
      rw [if_pos rfl]
      by_cases h3 : q' ≤ 3
      · rw [if_neg (by omega)]
        obtain ⟨k1, k2⟩ := impl_kids (F := F q') (q := q') (lo := a + 1) hG (fun a hlo ha => hF q' a (by omega) hlo ha) (arity x.f0) (a + 1) [] (Nat.le_refl _) (by omega) (by simp [lpm]; omega)
        refine ⟨fun ts b _ h => ?_, fun h => ?_⟩
        · have h4 := k1 ts b h
          have e2 : q + lp ⟨x.f0, x.f1, ts⟩ = q' + lpm ts := by rw [lp, hq']; omega
          rw [e2]
          by_cases h5 : q' + lpm ts ≤ 3
          · rw [if_pos h5] at h4 ⊢
            rw [h4]; rfl
          · rw [if_neg h5] at h4 ⊢
            obtain ⟨b', h4⟩ := h4
            exact ⟨b', by rw [h4]; rfl⟩
        · rcases h with h | h
          · cases h
          · obtain ⟨b', h4⟩ := k2 h
            exact ⟨b', by rw [h4]; rfl⟩
      · rw [if_pos (by omega)]
        refine ⟨fun ts b _ h => ?_, fun _ => ⟨_, rfl⟩⟩
        have e2 : q + lp ⟨x.f0, x.f1, ts⟩ = q' + lpm ts := by rw [lp, hq']; omega
        rw [e2, if_neg (by omega)]
        exact ⟨_, rfl⟩
  by_cases h1 : x.f0 = 1
  · exact rest 0 99 q (by omega) (by omega) (by rw [if_neg (by omega)]; rfl) (by unfold Xn.node; rw [if_pos h1, show arity x.f0 = 0 from if_pos (by omega)]) (if_pos h1)
  · by_cases h2 : x.f0 = 2
    · exact rest 1 9 q (by omega) (by omega) (by rw [if_neg (by omega)]; rfl) (by unfold Xn.node; rw [if_neg h1, if_pos h2, show arity x.f0 = 0 from if_pos (by omega)]) (by unfold cellOk; rw [if_neg h1, if_pos h2])
    · have h12 : ¬ (x.f0 = 1 ∨ x.f0 = 2) := by omega
      by_cases h3 : x.f0 = 3
      · exact rest 0 0 q (by omega) (by omega) (by rw [if_neg (by omega)]; rfl) (by unfold Xn.node; rw [if_neg h1, if_neg h2, if_pos h3, show arity x.f0 = 2 by unfold arity; rw [if_neg h12, if_neg (by omega)]]) (by unfold cellOk; rw [if_neg h1, if_neg h2, if_pos h3])
      · by_cases h5 : x.f0 = 5
        · exact rest 0 0 q (by omega) (by omega) (by rw [if_neg (by omega)]; rfl) (by unfold Xn.node; rw [if_neg h1, if_neg h2, if_neg h3, if_pos h5, show arity x.f0 = 2 by unfold arity; rw [if_neg h12, if_neg (by omega)]]) (by unfold cellOk; rw [if_neg h1, if_neg h2, if_neg h3, if_pos h5])
        · by_cases h4 : x.f0 = 4
          · exact rest 0 9 q (by omega) (by omega) (by rw [if_neg (by omega)]; rfl) (by unfold Xn.node; rw [if_neg h1, if_neg h2, if_neg h3, if_neg h5, if_pos h4, show arity x.f0 = 2 by unfold arity; rw [if_neg h12, if_neg (by omega)]]) (by unfold cellOk; rw [if_neg h1, if_neg h2, if_neg h3, if_neg h5, if_pos h4])
          · by_cases h6 : x.f0 = 6
            · exact rest 0 5 (q + 1) (by omega) (by omega) (by rw [if_pos h6]) (by unfold Xn.node; rw [if_neg h1, if_neg h2, if_neg h3, if_neg h5, if_neg h4, if_pos h6, show arity x.f0 = 1 by unfold arity; rw [if_neg h12, if_pos h6], w_succ (by omega)]) (by unfold cellOk; rw [if_neg h1, if_neg h2, if_neg h3, if_neg h5, if_neg h4, if_pos h6])
            · have hc : cellOk x = false := by unfold cellOk; rw [if_neg h1, if_neg h2, if_neg h3, if_neg h5, if_neg h4, if_neg h6]
              refine ⟨fun _ _ h => absurd (hc.symm.trans h) (by decide), fun _ => ⟨_, by unfold Xn.node; rw [if_neg h1, if_neg h2, if_neg h3, if_neg h5, if_neg h4, if_neg h6]⟩⟩
theorem impl_parse (l : List S76) (hl : l.length ≤ 30) : ∀ (k a q : Nat), a + k > l.length → a ≤ l.length → q ≤ 4 →
    (∀ t b, rdT l k a = some (t, b) → if q + lp t ≤ 3 then impl_parseNode.f k l a q = some (some t, (b : Int)) else ∃ b', impl_parseNode.f k l a q = some (none, b')) ∧ (rdT l k a = none → ∃ b', impl_parseNode.f k l a q = some (none, b'))
  | 0, a, q, h, ha, hq => by omega
  | k + 1, a, q, h, ha, hq => by
    simp only [rdT, impl_parseNode.f]
    by_cases h1 : a < l.length
    · rw [if_pos h1, if_neg (show ¬ ((a : Int) ≥ (l.length : Int)) by omega), if_pos (show (0 : Int) ≤ (a : Int) by omega)]
      obtain ⟨k1, k2⟩ := impl_node (F := fun q a => impl_parseNode.f k l a q) (G := rdT l k) (x := rd_T76 l a) hl h1 hq (fun a t b _ h => rdT_mono l k a t b h) (fun q' a' hq' hlo ha' => impl_parse l hl k a' q' (by omega) ha' hq')
      by_cases hc : cellOk (rd_T76 l a) = true
      · rw [if_pos hc]
        refine ⟨fun t b h => ?_, fun h => k2 (.inr (by simpa using h))⟩
        obtain ⟨⟨ts, c⟩, h2, h3⟩ := Option.map_eq_some_iff.1 h
        simp only [Prod.mk.injEq] at h3
        obtain ⟨rfl, rfl⟩ := h3
        exact k1 ts c hc h2
      · rw [if_neg hc]
        exact ⟨fun _ _ h => by simp at h, fun _ => k2 (.inl (Bool.eq_false_iff.mpr hc))⟩
    · rw [if_neg h1, if_pos (show (a : Int) ≥ (l.length : Int) by omega)]
      exact ⟨fun _ _ h => by simp at h, fun _ => ⟨_, rfl⟩⟩
theorem impl_tree (l : List S76) : ∃ o, impl_parseTree.f l = some (o, (treeOf l).isSome) ∧ (∀ t, treeOf l = some t → o = some t) := by
  unfold impl_parseTree.f treeOf
  rw [t_impl_in]
  simp only [Option.bind_some]
  by_cases h1 : 1 ≤ l.length ∧ l.length ≤ 30
  · rw [(tB_iff _ _ _).2 (by omega), if_pos rfl, if_pos h1.2]
    obtain ⟨k1, k2⟩ := impl_parse l h1.2 40 0 0 (by omega) (by omega) (by omega)
    simp only [Int.natCast_zero, Int.ofNat_zero] at k1 k2
    cases hr : rdT l 40 0 with
    | none =>
      obtain ⟨b', hb⟩ := k2 hr
      exact ⟨none, by rw [hb]; simp, fun _ h => by simp at h⟩
    | some r =>
      obtain ⟨t, b⟩ := r
      have h2 := k1 t b hr
      simp only
      by_cases h3 : lp t ≤ 3
      · rw [if_pos (by omega)] at h2
        rw [h2]
        by_cases h4 : b = l.length
        · rw [if_pos ⟨h4, h3⟩]
          exact ⟨some t, by simp [h4], fun _ h => h⟩
        · rw [if_neg (fun z => h4 z.1)]
          exact ⟨some t, by simp; omega, fun _ h => by simp at h⟩
      · rw [if_neg (by omega)] at h2
        obtain ⟨b', hb⟩ := h2
        rw [if_neg (fun z => h3 z.2), hb]
        exact ⟨none, by simp, fun _ h => by simp at h⟩
  · rw [tB_no _ _ _ (by omega), if_neg (by decide)]
    by_cases h2 : l.length ≤ 30
    · rw [if_pos h2]
      have : l = [] := List.length_eq_zero_iff.1 (by omega)
      subst this
      exact ⟨none, by simp [rdT], fun _ h => by simp [rdT] at h⟩
    · rw [if_neg h2]
      exact ⟨none, by simp, fun _ h => by simp at h⟩
end Go.Proofs.Ytgjojppbichaiaa.Pure
namespace Go.Proofs.Ytgjojppbichaiaa.Pure
open Go.RowKit Go.Proofs.Ytgjojppbichaiaa.Q Go.Proofs.YtgjojppbichaiaaW.PrintWords Go.Proofs.YtgjojppbichaiaaW.PrintLast Go.Proofs.Ytgjojppbichaiaa.Kit
theorem spec_tree (l : List S76) (hl : l.length ≤ 1048576) : ∃ t : S72, Ev (fun k => spec_l16Tree.f k l) (t.f0, t.f1, t.f2, (treeOf l).isSome) ∧ (∀ t', treeOf l = some t' → t = t') := by
  unfold spec_l16Tree.f treeOf
  by_cases h1 : l.length ≤ 30
  · rw [if_pos h1]
    have hr := spec_read l hl 40 0 (by omega) (by omega)
    cases he : rdT l 40 0 with
    | none =>
      rw [he] at hr
      exact ⟨⟨0, 0, []⟩, ite_f (by omega) (bind_ev hr (ite_f (by simp [enc]) (some_ev rfl))), fun _ h => by simp at h⟩
    | some r =>
      obtain ⟨t, b⟩ := r
      rw [he] at hr
      have h2 := rdT_mono l _ _ _ _ he
      have h3 := rdT_sz l _ _ _ _ he
      simp only
      refine ⟨t, ?_, ?_⟩
      · refine ite_f (by omega) (bind_ev hr (ite_t (by simp only [enc]; omega) ?_))
        by_cases h4 : b = l.length
        · refine ite_t (by simp only [enc]; omega) (bind_ev (spec_loops t (by omega)) (some_ev ?_))
          by_cases h5 : lp t ≤ 3
          · rw [if_pos ⟨h4, h5⟩, decide_eq_true (by omega)]; rfl
          · rw [if_neg (fun z => h5 z.2), decide_eq_false (by omega)]; rfl
        · refine ite_f (by simp only [enc]; omega) (some_ev ?_)
          rw [if_neg (fun z => h4 z.1)]; rfl
      · intro t' ht
        split at ht
        · exact Option.some.inj ht
        · cases ht
  · rw [if_neg h1]
    exact ⟨⟨0, 0, []⟩, ite_t (by omega) (some_ev rfl), fun _ h => by simp at h⟩
end Go.Proofs.Ytgjojppbichaiaa.Pure
namespace Go.Proofs.Ytgjojppbichaiaa.Pure
open Go.RowKit Go.Proofs.Ytgjojppbichaiaa.Q Go.Proofs.YtgjojppbichaiaaW.PrintWords Go.Proofs.YtgjojppbichaiaaW.PrintLast Go.Proofs.Ytgjojppbichaiaa.Kit

mutual
/-- Is it a good tree? -/
def gd : S72 → Prop
  | ⟨k, n, ts⟩ => cellOk ⟨k, n⟩ = true ∧ ts.length = arity k ∧ gds ts
def gds : List S72 → Prop
  | [] => True
  | t :: ts => gd t ∧ gds ts
end
theorem gds_append (t : S72) : ∀ (ts : List S72), gds ts → gd t → gds (ts ++ [t])
  | [], _, h => by simp only [List.nil_append, gds]; exact ⟨h, trivial⟩
  | x :: ts, h, h2 => by
    simp only [List.cons_append, gds] at h ⊢
    exact ⟨h.1, gds_append t ts h.2 h2⟩
theorem rdK_gd {G : Nat → Option (S72 × Nat)} (hG : ∀ a t b, G a = some (t, b) → gd t) : ∀ (m a : Nat) (acc ts : List S72) (b : Nat), gds acc → rdK G m a acc = some (ts, b) → gds ts ∧ ts.length = acc.length + m
  | 0, a, acc, ts, b, h0, h => by
    simp only [rdK, Option.some.injEq, Prod.mk.injEq] at h
    rw [← h.1]; exact ⟨h0, rfl⟩
  | m + 1, a, acc, ts, b, h0, h => by
    simp only [rdK] at h
    obtain ⟨⟨t, c⟩, h1, h2⟩ := Option.bind_eq_some_iff.1 h
    have h3 := rdK_gd hG m c (acc ++ [t]) ts b (gds_append t acc h0 (hG a t c h1)) h2
    refine ⟨h3.1, ?_⟩
    rw [h3.2]; simp; omega
theorem rdT_gd (l : List S76) : ∀ (k a : Nat) (t : S72) (b : Nat), rdT l k a = some (t, b) → gd t
  | 0, a, t, b, h => by simp [rdT] at h
  | k + 1, a, t, b, h => by
    simp only [rdT] at h
    split at h
    · split at h
      · rename_i hc
        obtain ⟨⟨ts, c⟩, h1, h2⟩ := Option.map_eq_some_iff.1 h
        simp only [Prod.mk.injEq] at h2
        obtain ⟨h3, h4⟩ := rdK_gd (fun a t b h => rdT_gd l k a t b h) _ _ [] _ _ (by simp [gds]) h1
        rw [← h2.1]
        unfold gd
        exact ⟨hc, by simpa using h4, h3⟩
      · cases h
    · cases h
theorem treeOf_gd {l : List S76} {t : S72} (h : treeOf l = some t) : gd t := by
  unfold treeOf at h
  split at h
  · cases hr : rdT l 40 0 with
    | none => rw [hr] at h; cases h
    | some r =>
      obtain ⟨t', b⟩ := r
      rw [hr] at h
      simp only at h
      split at h
      · rw [← Option.some.inj h]; exact rdT_gd l _ _ _ _ hr
      · cases h
  · cases h
def mkX (k n : Int) (l : List XT) : XT :=
  if k = 1 then .out n else if k = 2 then .rai n else match l with
    | [a] => .loop n.toNat a
    | [a, b] => if k = 3 then .seq a b else if k = 4 then .cat n a b else .fin a b
    | _ => .out 0
mutual
/-- The same tree, in plain Lean. -/
def toX : S72 → XT
  | ⟨k, n, ts⟩ => mkX k n (toXs ts)
def toXs : List S72 → List XT
  | [] => []
  | t :: ts => toX t :: toXs ts
end
theorem list_two {α : Type} {l : List α} (h : l.length = 2) : ∃ a b, l = [a, b] := by
  match l, h with
  | [a, b], _ => exact ⟨a, b, rfl⟩
/-- The kinds of a good tree. -/
theorem gd_cases (t : S72) (h : gd t) : (∃ n, t = ⟨1, n, []⟩) ∨ (∃ n, t = ⟨2, n, []⟩ ∧ n ≠ 0) ∨ (∃ n a, t = ⟨6, n, [a]⟩ ∧ 0 ≤ n ∧ n ≤ 5 ∧ gd a) ∨ (∃ n a b, t = ⟨3, n, [a, b]⟩ ∧ gd a ∧ gd b) ∨ (∃ n a b, t = ⟨4, n, [a, b]⟩ ∧ gd a ∧ gd b) ∨ (∃ n a b, t = ⟨5, n, [a, b]⟩ ∧ gd a ∧ gd b) := by
  obtain ⟨k, n, ts⟩ := t
  unfold gd at h
  obtain ⟨h1, h2, h3⟩ := h
  unfold cellOk at h1
  simp only at h1
  have two : arity k = 2 → ∃ a b, ts = [a, b] ∧ gd a ∧ gd b := by
    intro e
    rw [e] at h2
    obtain ⟨a, b, rfl⟩ := list_two h2
    simp only [gds] at h3
    exact ⟨a, b, rfl, h3.1, h3.2.1⟩
  by_cases k1 : k = 1
  · subst k1
    have : ts = [] := List.length_eq_zero_iff.1 (by simpa [arity] using h2)
    subst this
    exact .inl ⟨n, rfl⟩
  · rw [if_neg k1] at h1
    by_cases k2 : k = 2
    · subst k2
      rw [if_pos rfl] at h1
      have := (tB_iff _ _ _).1 h1
      have : ts = [] := List.length_eq_zero_iff.1 (by simpa [arity] using h2)
      subst this
      exact .inr (.inl ⟨n, rfl, by omega⟩)
    · rw [if_neg k2] at h1
      by_cases k6 : k = 6
      · subst k6
        have : tB n 0 5 = true := by simpa using h1
        have hb := (tB_iff _ _ _).1 this
        obtain ⟨a, rfl⟩ := List.length_eq_one_iff.1 (by simpa [arity] using h2)
        simp only [gds] at h3
        exact .inr (.inr (.inl ⟨n, a, rfl, hb.1, hb.2, h3.1⟩))
      · obtain ⟨a, b, rfl, ha, hb⟩ := two (by unfold arity; rw [if_neg (by omega), if_neg k6])
        by_cases k3 : k = 3
        · subst k3; exact .inr (.inr (.inr (.inl ⟨n, a, b, rfl, ha, hb⟩)))
        · by_cases k4 : k = 4
          · subst k4; exact .inr (.inr (.inr (.inr (.inl ⟨n, a, b, rfl, ha, hb⟩))))
          · by_cases k5 : k = 5
            · subst k5; exact .inr (.inr (.inr (.inr (.inr ⟨n, a, b, rfl, ha, hb⟩))))
            · rw [if_neg k3, if_neg k5, if_neg k4, if_neg k6] at h1; cases h1
end Go.Proofs.Ytgjojppbichaiaa.Pure
namespace Go.Proofs.Ytgjojppbichaiaa.Pure
open Go.RowKit Go.Proofs.Ytgjojppbichaiaa.Q Go.Proofs.YtgjojppbichaiaaW.PrintWords Go.Proofs.YtgjojppbichaiaaW.PrintLast Go.Proofs.Ytgjojppbichaiaa.Kit Go.Proofs.Ytgjojppbichaiaa.Wf

theorem rdl_T86 {pre : List S86} {x : S86} {post : List S86} {n : Nat} (h : n = pre.length) : rd_T86 (pre ++ x :: post) (n : Int) = x := by
  unfold rd_T86; rw [Int.toNat_natCast]; exact getD_at h
theorem rdl_T63 {pre : List S63} {x : S63} {post : List S63} {n : Nat} (h : n = pre.length) : rd_T63 (pre ++ x :: post) (n : Int) = x := by
  unfold rd_T63; rw [Int.toNat_natCast]; exact getD_at h
def inB (a b c : Int) : Bool := if a ≥ b then decide (a ≤ c) else false
theorem spec_in (a b c : Int) : spec_l1In.f a b c = some (inB a b c) := by unfold spec_l1In.f inB; split <;> rfl
theorem impl_in (a b c : Int) : impl_in.f a b c = some (inB a b c) := by unfold impl_in.f inB; split <;> rfl
theorem inB_iff (a b c : Int) : inB a b c = true ↔ b ≤ a ∧ a ≤ c := by
  unfold inB; split <;> simp <;> omega
theorem inB0 (x : Int) : inB x 0 0 = (x == 0) := by
  by_cases h : x = 0
  · subst h; rfl
  · rw [show (x == 0) = false by simpa using h]
    cases e : inB x 0 0
    · rfl
    · have := (inB_iff _ _ _).1 e; omega
/-- A step of a line of n steps is as said. -/
def stepOk (n : Int) (s : S86) : Bool :=
  if s.f0 = 1 then inB s.f1 0 99 && (s.f2 == 0) else if s.f0 = 2 then inB s.f1 1 9 && (s.f2 == 0)
  else if s.f0 = 3 ∨ s.f0 = 5 then inB s.f1 0 39 && (s.f2 == 0) else if s.f0 = 4 then (s.f1 == 0) && inB s.f2 0 n
  else if s.f0 = 6 then inB s.f1 0 39 && inB s.f2 0 9 else false
def guardOk (n : Int) (g : S63) : Bool := inB g.f0 0 n && inB g.f1 g.f0 n && inB g.f2 0 9 && inB g.f3 0 n
def goodL (ss : List S86) (gs : List S63) : Bool := ss.all (stepOk ss.length) && gs.all (guardOk ss.length) && decide ((ss.length : Int) ≤ 120) && decide ((gs.length : Int) ≤ 20)

theorem and_ev {f : Nat → Option Bool} {a b : Bool} (h : Ev f b) : Ev (fun k => (some a).bind fun t => if t = true then f k else some false) (a && b) := by
  simp only [Option.bind_some]
  cases a
  · exact ite_f (by simp) (some_ev rfl)
  · exact ite_t rfl (by simpa using h)
theorem ok1 {n : Int} {s : S86} (h1 : s.f0 = 1) : stepOk n s = (inB s.f1 0 99 && (s.f2 == 0)) := by unfold stepOk; rw [if_pos h1]
theorem ok2 {n : Int} {s : S86} (h2 : s.f0 = 2) : stepOk n s = (inB s.f1 1 9 && (s.f2 == 0)) := by unfold stepOk; rw [if_neg (by omega), if_pos h2]
theorem ok3 {n : Int} {s : S86} (h3 : s.f0 = 3 ∨ s.f0 = 5) : stepOk n s = (inB s.f1 0 39 && (s.f2 == 0)) := by unfold stepOk; rw [if_neg (by omega), if_neg (by omega), if_pos h3]
theorem ok4 {n : Int} {s : S86} (h4 : s.f0 = 4) : stepOk n s = ((s.f1 == 0) && inB s.f2 0 n) := by unfold stepOk; rw [if_neg (by omega), if_neg (by omega), if_neg (by omega), if_pos h4]
theorem ok6 {n : Int} {s : S86} (h6 : s.f0 = 6) : stepOk n s = (inB s.f1 0 39 && inB s.f2 0 9) := by unfold stepOk; rw [if_neg (by omega), if_neg (by omega), if_neg (by omega), if_neg (by omega), if_pos h6]
theorem ok0 {n : Int} {s : S86} (h : ¬ (s.f0 = 1 ∨ s.f0 = 2 ∨ s.f0 = 3 ∨ s.f0 = 5 ∨ s.f0 = 4 ∨ s.f0 = 6)) : stepOk n s = false := by unfold stepOk; rw [if_neg (by omega), if_neg (by omega), if_neg (by omega), if_neg (by omega), if_neg (by omega)]
theorem spec_step (n : Int) (s : S86) : Ev (fun k => spec_l16Step.f k s.f0 s.f1 s.f2 n) (stepOk n s) := by
  unfold spec_l16Step.f
  rw [spec_in, spec_in]
  by_cases h1 : s.f0 = 1
  · rw [ok1 h1]
    exact ite_t h1 (and_ev (Ev.now _))
  · refine ite_f h1 ?_
    by_cases h2 : s.f0 = 2
    · rw [ok2 h2]
      exact ite_t h2 (and_ev (Ev.now _))
    · refine ite_f h2 ?_
      by_cases h3 : s.f0 = 3
      · rw [ok3 (.inl h3)]
        refine ite_t h3 (Ev.step (fun k => by simp only [spec_l16Step.j0]; rw [if_pos (by simp [h3]), spec_in]) ?_)
        exact and_ev (Ev.now _)
      · refine ite_f h3 ?_
        by_cases h5 : s.f0 = 5
        · rw [ok3 (.inr h5)]
          refine Ev.step (fun k => by simp only [spec_l16Step.j0]; rw [if_pos (by simp [h5]), spec_in]) ?_
          exact and_ev (Ev.now _)
        · refine Ev.step (fun k => by simp only [spec_l16Step.j0]; rw [if_neg (by simp [h5]), spec_in, spec_in, spec_in]) ?_
          by_cases h4 : s.f0 = 4
          · rw [ok4 h4]
            refine ite_t h4 ?_
            by_cases h6 : s.f1 = 0
            · exact ite_t h6 (some_ev (by simp [h6]))
            · exact ite_f h6 (some_ev (by simp [h6]))
          · refine ite_f h4 ?_
            by_cases h6 : s.f0 = 6
            · rw [ok6 h6]
              exact ite_t h6 (and_ev (some_ev rfl))
            · rw [ok0 (by omega)]
              exact ite_f h6 (Ev.now _)
theorem spec_l1 (n : Int) (ss : List S86) (gs : List S63) : ∀ (post pre : List S63), pre.length + post.length ≤ 1048576 →
    Ev (fun k => spec_GoodLined.l1 k n (pre ++ post) ((pre ++ post).length : Int) (pre.length : Int) ss gs) (post.all (guardOk n) && (decide (n ≤ 120) && decide ((gs.length : Int) ≤ 20)))
  | [], pre, hb => by
    refine Ev.step (fun k => by simp only [spec_GoodLined.l1]; rw [if_neg (by simp)]) ?_
    by_cases h : n ≤ 120
    · exact ite_t h (some_ev (by simp [h]))
    · exact ite_f h (some_ev (by simp [h]))
  | g :: post, pre, hb => by
    simp at hb
    refine Ev.step (fun k => by
      simp only [spec_GoodLined.l1]
      rw [if_pos (by simp; omega), if_pos (by omega), if_pos (by simp; omega), rdl_T63 rfl, w_succ (by omega), spec_in, spec_in, spec_in, spec_in]) ?_
    have ih := spec_l1 n ss gs post (pre ++ [g]) (by simp; omega)
    have e : ((g :: post).all (guardOk n) && (decide (n ≤ 120) && decide ((gs.length : Int) ≤ 20))) = (inB g.f0 0 n && (inB g.f1 g.f0 n && (inB g.f2 0 9 && (inB g.f3 0 n && (post.all (guardOk n) && (decide (n ≤ 120) && decide ((gs.length : Int) ≤ 20))))))) := by
      simp [guardOk, Bool.and_assoc]
    rw [e]
    exact and_ev (and_ev (and_ev (and_ev (by simpa using ih))))
theorem spec_l0 (n : Int) (ss : List S86) (gs : List S63) (hg : gs.length ≤ 1048576) : ∀ (post pre : List S86), pre.length + post.length ≤ 1048576 →
    Ev (fun k => spec_GoodLined.l0 k n (pre ++ post) ((pre ++ post).length : Int) (pre.length : Int) ss gs) (post.all (stepOk n) && (gs.all (guardOk n) && (decide (n ≤ 120) && decide ((gs.length : Int) ≤ 20))))
  | [], pre, hb => by
    refine Ev.step (fun k => by simp only [spec_GoodLined.l0]; rw [if_neg (by simp)]) ?_
    simpa using spec_l1 n ss gs gs [] (by simpa using hg)
  | s :: post, pre, hb => by
    simp at hb
    refine Ev.step (fun k => by
      simp only [spec_GoodLined.l0]
      rw [if_pos (by simp; omega), if_pos (by omega), if_pos (by simp; omega), rdl_T86 rfl, w_succ (by omega)]) ?_
    refine bind_ev (spec_step n s) ?_
    have ih := spec_l0 n ss gs hg post (pre ++ [s]) (by simp; omega)
    cases h : stepOk n s
    · exact ite_f (by simp) (some_ev (by simp [h]))
    · exact ite_t rfl (by simpa [h] using ih)
theorem spec_good (ss : List S86) (gs : List S63) (hs : ss.length ≤ 1048576) (hg : gs.length ≤ 1048576) : Ev (fun k => spec_GoodLined.f k ss gs) (goodL ss gs) := by
  unfold spec_GoodLined.f goodL
  simpa [Bool.and_assoc] using spec_l0 ss.length ss gs hg ss [] (by simpa using hs)

theorem cnt_impl (n : Int) (gs : List S63) : impl_Guard_80_81.f gs n = some (!gs.all (guardOk n)) := by
  unfold impl_Guard_80_81.f
  have e : (fun x : S63 => impl_isLined_1.f x.f0 x.f1 x.f2 x.f3 n) = fun x => some (!guardOk n x) := by
    funext x
    unfold impl_isLined_1.f guardOk
    rw [impl_in, impl_in, impl_in, impl_in]
    simp only [Option.bind_some]
    cases inB x.f0 0 n <;> cases inB x.f1 x.f0 n <;> cases inB x.f2 0 9 <;> cases inB x.f3 0 n <;> rfl
  rw [e, Kit.anyO_some]
  congr 1
  rw [List.not_all_eq_any_not]
theorem impl_l0 (n : Int) (ss : List S86) (gs : List S63) : ∀ (post pre : List S86), pre.length + post.length ≤ 1048576 →
    Ev (fun k => impl_isLined.l0 k (pre ++ post) ((pre ++ post).length : Int) (pre.length : Int) ss gs n) (post.all (stepOk n) && gs.all (guardOk n))
  | [], pre, hb => by
    refine Ev.step (fun k => by simp only [impl_isLined.l0]; rw [if_neg (by simp), cnt_impl]) ?_
    exact some_ev (by simp)
  | s :: post, pre, hb => by
    simp at hb
    refine Ev.step (fun k => by
      simp only [impl_isLined.l0]
      rw [if_pos (by simp; omega), if_pos (by omega), if_pos (by simp; omega), rdl_T86 rfl]) ?_
    have ih : Ev (fun k => impl_isLined.l0 k (pre ++ s :: post) ((pre ++ s :: post).length : Int) (wrap64 ((pre.length : Int) + 1)) ss gs n) (post.all (stepOk n) && gs.all (guardOk n)) := by
      rw [w_succ (by omega)]
      simpa using impl_l0 n ss gs post (pre ++ [s]) (by simp; omega)
    have j3 : ∀ (a b c : Int), stepOk n s = (inB s.f1 a b && inB s.f2 0 c) → Ev (fun k => impl_isLined.j3 k a b c (pre ++ s :: post) ((pre ++ s :: post).length : Int) (pre.length : Int) ss gs n s.f0 s.f1 s.f2) ((s :: post).all (stepOk n) && gs.all (guardOk n)) := by
      intro a b c e
      refine Ev.step (fun k => by simp only [impl_isLined.j3]; rw [impl_in, impl_in]) ?_
      rw [List.all_cons, e, Bool.and_assoc, Bool.and_assoc]
      exact and_ev (and_ev ih)
    have j2 : ∀ (b : Bool), s.f0 ≠ 1 → s.f0 ≠ 2 → b = decide (s.f0 = 3 ∨ s.f0 = 5) → Ev (fun k => impl_isLined.j2 k 0 39 0 (pre ++ s :: post) ((pre ++ s :: post).length : Int) (pre.length : Int) s.f0 b ss gs n s.f0 s.f1 s.f2) ((s :: post).all (stepOk n) && gs.all (guardOk n)) := by
      intro b h1 h2 hb2
      by_cases h3 : s.f0 = 3 ∨ s.f0 = 5
      · refine Ev.step (fun k => by simp only [impl_isLined.j2]; rw [if_pos (by simp [hb2, h3])]) ?_
        exact j3 0 39 0 (by rw [ok3 h3, inB0])
      · refine Ev.step (fun k => by simp only [impl_isLined.j2]; rw [if_neg (by simp [hb2]; omega)]) ?_
        by_cases h4 : s.f0 = 4
        · exact ite_t h4 (j3 0 0 n (by rw [ok4 h4, inB0]))
        · refine ite_f h4 ?_
          by_cases h6 : s.f0 = 6
          · exact ite_t h6 (j3 0 39 9 (by rw [ok6 h6]))
          · exact ite_f h6 (some_ev (by rw [List.all_cons, ok0 (by omega)]; simp))
    by_cases h1 : s.f0 = 1
    · exact ite_t h1 (j3 0 99 0 (by rw [ok1 h1, inB0]))
    · refine ite_f h1 ?_
      by_cases h2 : s.f0 = 2
      · exact ite_t h2 (j3 1 9 0 (by rw [ok2 h2, inB0]))
      · refine ite_f h2 ?_
        by_cases h3 : s.f0 = 3
        · exact ite_t h3 (j2 _ h1 h2 (by simp [h3]))
        · exact ite_f h3 (j2 _ h1 h2 (by simp only [h3, false_or]; rfl))
theorem impl_good (ss : List S86) (gs : List S63) (hs : ss.length ≤ 1048576) (hg : gs.length ≤ 1048576) : Ev (fun k => impl_isLined.f k ss gs) (goodL ss gs) := by
  unfold impl_isLined.f goodL
  have no : Ev (fun k => impl_isLined.j0 k true ss gs (ss.length : Int)) false := Ev.step (fun k => by simp only [impl_isLined.j0]; rw [if_pos trivial]) (Ev.now _)
  by_cases h1 : (ss.length : Int) > 120
  · refine ite_t h1 ?_
    rw [show decide ((ss.length : Int) ≤ 120) = false from decide_eq_false (by omega)]
    simpa using no
  · refine ite_f h1 ?_
    rw [show decide ((ss.length : Int) ≤ 120) = true from decide_eq_true (by omega)]
    by_cases h2 : (gs.length : Int) > 20
    · rw [show decide ((gs.length : Int) > 20) = true from decide_eq_true h2, show decide ((gs.length : Int) ≤ 20) = false from decide_eq_false (by omega)]
      simpa using no
    · rw [show decide ((gs.length : Int) > 20) = false from decide_eq_false h2, show decide ((gs.length : Int) ≤ 20) = true from decide_eq_true (by omega)]
      refine Ev.step (fun k => by simp only [impl_isLined.j0]; rw [if_neg (by simp)]) ?_
      simpa using impl_l0 ss.length ss gs ss [] (by simpa using hs)
end Go.Proofs.Ytgjojppbichaiaa.Pure
namespace Go.Proofs.Ytgjojppbichaiaa.Pure
open Go.RowKit Go.Proofs.Ytgjojppbichaiaa.Q Go.Proofs.YtgjojppbichaiaaW.PrintWords Go.Proofs.YtgjojppbichaiaaW.PrintLast Go.Proofs.Ytgjojppbichaiaa.Kit
/-- How long a tree's line is at most. -/
def lB (n : Nat) : Nat := if n = 1 then 1 else (if n % 2 = 0 then 4 * 2 ^ (n / 2) else 6 * 2 ^ (n / 2)) - 3
theorem lB_fin : ∀ s, s < 31 → ∀ t, t < 31 → 1 ≤ s → 1 ≤ t → lB s + 2 * lB t + 2 ≤ lB (s + t + 1) := by decide +kernel
theorem lB_cat : ∀ s, s < 31 → ∀ t, t < 31 → 1 ≤ s → 1 ≤ t → lB s + lB t + 1 ≤ lB (s + t + 1) := by decide +kernel
theorem lB_loop : ∀ s, s < 31 → 1 ≤ s → lB s + 4 ≤ lB (s + 1) := by decide +kernel
theorem lB_one : lB 1 = 1 := by decide
theorem lB_top : ∀ s, s < 31 → lB s ≤ 131069 := by decide +kernel
theorem sz_pos (t : S72) : 1 ≤ sz t := by cases t; unfold sz; omega
theorem treeOf_sz {l : List S76} {t : S72} (h : treeOf l = some t) : sz t ≤ 30 := by
  unfold treeOf at h
  split at h
  · rename_i hl
    cases hr : rdT l 40 0 with
    | none => rw [hr] at h; cases h
    | some r =>
      obtain ⟨t', b⟩ := r
      rw [hr] at h
      simp only at h
      split at h
      · rename_i hb
        obtain rfl := Option.some.inj h
        have h1 := rdT_sz l _ _ _ _ hr
        have h2 := (rdT_mono l _ _ _ _ hr).2
        omega
      · cases h
  · cases h
theorem toX_ok : ∀ (N : Nat) (t : S72), sz t ≤ N → gd t → (toX t).Ok
  | 0, t, hN, _ => by have := sz_pos t; omega
  | N + 1, t, hN, hgd => by
    rcases gd_cases t hgd with ⟨n, rfl⟩ | ⟨n, rfl, hn⟩ | ⟨n, a, rfl, hn0, hn5, ha⟩ | ⟨n, a, b, rfl, ha, hb⟩ | ⟨n, a, b, rfl, ha, hb⟩ | ⟨n, a, b, rfl, ha, hb⟩
    · rw [show toX ⟨1, n, []⟩ = .out n by simp [toX, mkX]]; trivial
    · rw [show toX ⟨2, n, []⟩ = .rai n by simp [toX, mkX]]; exact hn
    · rw [show toX ⟨6, n, [a]⟩ = .loop n.toNat (toX a) by simp [toX, toXs, mkX]]
      exact toX_ok N a (by simp only [sz, szm] at hN; omega) ha
    · rw [show toX ⟨3, n, [a, b]⟩ = .seq (toX a) (toX b) by simp [toX, toXs, mkX]]
      exact ⟨toX_ok N a (by simp only [sz, szm] at hN; omega) ha, toX_ok N b (by simp only [sz, szm] at hN; omega) hb⟩
    · rw [show toX ⟨4, n, [a, b]⟩ = .cat n (toX a) (toX b) by simp [toX, toXs, mkX]]
      exact ⟨toX_ok N a (by simp only [sz, szm] at hN; omega) ha, toX_ok N b (by simp only [sz, szm] at hN; omega) hb⟩
    · rw [show toX ⟨5, n, [a, b]⟩ = .fin (toX a) (toX b) by simp [toX, toXs, mkX]]
      exact ⟨toX_ok N a (by simp only [sz, szm] at hN; omega) ha, toX_ok N b (by simp only [sz, szm] at hN; omega) hb⟩
def e86 (x : St) : S86 := ⟨x.op, x.n, x.to⟩
def e63 (x : Gd) : S63 := ⟨x.frm, x.to, x.kind, x.at_⟩
theorem rd86_map {s : List St} {i : Nat} {x : St} (h : s[i]? = some x) : rd_T86 (s.map e86) (i : Int) = e86 x := by
  unfold rd_T86; rw [Int.toNat_natCast, List.getD_eq_getElem?_getD, List.getElem?_map, h]; rfl
theorem rd63_map {s : List Gd} {i : Nat} {x : Gd} (h : s[i]? = some x) : rd_T63 (s.map e63) (i : Int) = e63 x := by
  unfold rd_T63; rw [Int.toNat_natCast, List.getD_eq_getElem?_getD, List.getElem?_map, h]; rfl
theorem last_get {α : Type} (s : List α) (x : α) : (s ++ [x])[s.length]? = some x := by
  simp
theorem last_set {α : Type} (s : List α) (x y : α) : (s ++ [x]).set s.length y = s ++ [y] := by
  rw [List.set_append_right _ _ (Nat.le_refl _), Nat.sub_self]; rfl
/-- The bounds that a laid tree keeps. -/
def Bd (m : Nat) (q r : Ln) : Prop := r.s.length ≤ q.s.length + lB m ∧ r.g.length ≤ q.g.length + lB m ∧ r.l ≤ q.l + lB m
def Rm (m : Nat) (q : Ln) : Prop := q.s.length + lB m ≤ 10000000 ∧ q.g.length + lB m ≤ 10000000 ∧ q.l + lB m ≤ 10000000
theorem keep_s {T : XT} {q : Ln} (h : T.Ok) {i : Nat} (hi : i < q.s.length) : (T.lay q).s[i]? = q.s[i]? := (T.lay_laid q h).1.2.2.1 i hi
theorem keep_g {T : XT} {q : Ln} (h : T.Ok) {i : Nat} (hi : i < q.g.length) : (T.lay q).g[i]? = q.g[i]? := (T.lay_laid q h).1.2.2.2 i hi
theorem len_s {T : XT} {q : Ln} (h : T.Ok) : q.s.length ≤ (T.lay q).s.length := (T.lay_laid q h).1.1
theorem len_g {T : XT} {q : Ln} (h : T.Ok) : q.g.length ≤ (T.lay q).g.length := (T.lay_laid q h).1.2.1
/-- What LineTree tells. -/
def lineOf (l : List S76) : List S86 × List S63 × Bool := match treeOf l with
  | none => ([], [], false)
  | some t => if goodL (((toX t).lay ⟨[], [], 0⟩).s.map e86) (((toX t).lay ⟨[], [], 0⟩).g.map e63) = true then (((toX t).lay ⟨[], [], 0⟩).s.map e86, ((toX t).lay ⟨[], [], 0⟩).g.map e63, true) else ([], [], false)
theorem Rm0 {t : S72} (h : sz t ≤ 30) : Rm (sz t) ⟨[], [], 0⟩ := by
  have := lB_top (sz t) (by omega)
  exact ⟨by simp; omega, by simp; omega, by simp; omega⟩
end Go.Proofs.Ytgjojppbichaiaa.Pure
namespace Go.Proofs.Ytgjojppbichaiaa.Pure
open Go.RowKit Go.Proofs.Ytgjojppbichaiaa.Q Go.Proofs.YtgjojppbichaiaaW.PrintWords Go.Proofs.YtgjojppbichaiaaW.PrintLast Go.Proofs.Ytgjojppbichaiaa.Kit
/-! ### the program's -/
def qI (q : Ln) : Ll.Q := ⟨q.s.map e86, q.g.map e63, ((20 + q.l : Nat) : Int)⟩
theorem ll_put (x : St) (q : Ln) (h : q.s.length < 100000000) : Ll.put (e86 x) (qI q) = some (qI ⟨q.s ++ [x], q.g, q.l⟩) := by
  unfold Ll.put qI
  rw [if_pos (by simp; omega)]; simp
theorem ll_grd (x : Gd) (q : Ln) (h : q.g.length < 100000000) : Ll.grd (e63 x) (qI q) = some (qI ⟨q.s, q.g ++ [x], q.l⟩) := by
  unfold Ll.grd qI
  rw [if_pos (by simp; omega)]; simp
theorem ll_setT {i : Nat} {t : Int} {q : Ln} {x : St} (h : q.s[i]? = some x) : Ll.setT i t (qI q) = some (qI ⟨q.s.set i ⟨x.op, x.n, t⟩, q.g, q.l⟩) := by
  have hi := (List.getElem?_eq_some_iff.1 h).1
  unfold Ll.setT qI
  simp only
  rw [if_pos (by simpa using hi), rd86_map h, List.map_set]; rfl
theorem ll_setA {i : Nat} {t : Int} {q : Ln} {x : Gd} (h : q.g[i]? = some x) : Ll.setA i t (qI q) = some (qI ⟨q.s, q.g.set i ⟨x.frm, x.to, x.kind, t⟩, q.l⟩) := by
  have hi := (List.getElem?_eq_some_iff.1 h).1
  unfold Ll.setA qI
  simp only
  rw [if_pos (by simpa using hi), rd63_map h, List.map_set]; rfl
theorem qI_s (q : Ln) : (qI q).s.length = q.s.length := by simp [qI]
theorem qI_g (q : Ln) : (qI q).g.length = q.g.length := by simp [qI]
theorem ll_lay : ∀ (N : Nat) (t : S72), sz t ≤ N → N ≤ 30 → gd t → ∀ q : Ln, Rm (sz t) q → Ll.lay t (qI q) = some (qI ((toX t).lay q)) ∧ Bd (sz t) q ((toX t).lay q)
  | 0, t, hN, _, _ => by have := sz_pos t; omega
  | N + 1, t, hN, hN30, hgd => by
    intro q hq
    have hok := toX_ok (N + 1) t hN hgd
    rcases gd_cases t hgd with ⟨n, rfl⟩ | ⟨n, rfl, hn⟩ | ⟨n, a, rfl, hn0, hn5, ha⟩ | ⟨n, a, b, rfl, ha, hb⟩ | ⟨n, a, b, rfl, ha, hb⟩ | ⟨n, a, b, rfl, ha, hb⟩
    · have e1 : toX ⟨1, n, []⟩ = .out n := by simp [toX, mkX]
      rw [e1]
      obtain ⟨hq1, hq2, hq3⟩ := hq
      refine ⟨?_, ?_⟩
      · unfold Ll.lay Ll.node
        rw [if_pos rfl]
        exact ll_put ⟨1, n, 0⟩ q (by omega)
      · have h1 : lB (sz ⟨1, n, []⟩) = 1 := by simp [sz, szm, lB_one]
        simp only [Bd, XT.lay, List.length_append, List.length_cons, List.length_nil, h1]
        omega
    · have e1 : toX ⟨2, n, []⟩ = .rai n := by simp [toX, mkX]
      rw [e1]
      obtain ⟨hq1, hq2, hq3⟩ := hq
      refine ⟨?_, ?_⟩
      · unfold Ll.lay Ll.node
        rw [if_neg (by decide), if_pos rfl]
        exact ll_put ⟨2, n, 0⟩ q (by omega)
      · have h1 : lB (sz ⟨2, n, []⟩) = 1 := by simp [sz, szm, lB_one]
        simp only [Bd, XT.lay, List.length_append, List.length_cons, List.length_nil, h1]
        omega
    · have e1 : toX ⟨6, n, [a]⟩ = .loop n.toNat (toX a) := by simp [toX, toXs, mkX]
      have hs : sz ⟨6, n, [a]⟩ = sz a + 1 := by simp [sz, szm]
      have hp := sz_pos a
      have hB := lB_loop (sz a) (by omega) hp
      rw [hs] at hq hN ⊢
      rw [e1] at hok ⊢
      obtain ⟨hq1, hq2, hq3⟩ := hq
      have ia := ll_lay N a (by omega) (by omega) ha
      have hoa : (toX a).Ok := hok
      obtain ⟨i1, i2, i3, i4⟩ := ia ⟨q.s ++ [⟨5, ((20 + q.l : Nat) : Int), 0⟩, ⟨6, ((20 + q.l : Nat) : Int), n⟩, ⟨4, 0, 0⟩], q.g, q.l + 1⟩ ⟨by simp; omega, by simp; omega, by simp; omega⟩
      simp only [List.length_append, List.length_cons, List.length_nil] at i2 i3 i4
      have hk := keep_s (q := ⟨q.s ++ [⟨5, ((20 + q.l : Nat) : Int), 0⟩, ⟨6, ((20 + q.l : Nat) : Int), n⟩, ⟨4, 0, 0⟩], q.g, q.l + 1⟩) hoa (i := q.s.length + 2) (by simp)
      rw [get_append_at] at hk
      have hl1 := len_s (q := ⟨q.s ++ [⟨5, ((20 + q.l : Nat) : Int), 0⟩, ⟨6, ((20 + q.l : Nat) : Int), n⟩, ⟨4, 0, 0⟩], q.g, q.l + 1⟩) hoa
      simp only [List.length_append, List.length_cons, List.length_nil] at hl1
      have en : ((n.toNat : Nat) : Int) = n := by omega
      simp only [XT.lay, en]
      generalize (toX a).lay ⟨q.s ++ [⟨5, ((20 + q.l : Nat) : Int), 0⟩, ⟨6, ((20 + q.l : Nat) : Int), n⟩, ⟨4, 0, 0⟩], q.g, q.l + 1⟩ = q1 at i1 i2 i3 i4 hk hl1 ⊢
      refine ⟨?_, ?_⟩
      · simp only [Ll.lay, Ll.lays, Ll.node, List.getElem?_cons_zero]
        rw [if_neg (by decide), if_neg (by decide), if_pos trivial, if_pos (by simp [qI]; omega)]
        have p1 := ll_put ⟨5, ((20 + q.l : Nat) : Int), 0⟩ ⟨q.s, q.g, q.l + 1⟩ (by simp only; omega)
        have p2 := ll_put ⟨6, ((20 + q.l : Nat) : Int), n⟩ ⟨q.s ++ [⟨5, ((20 + q.l : Nat) : Int), 0⟩], q.g, q.l + 1⟩ (by simp; omega)
        have p3 := ll_put ⟨4, 0, 0⟩ ⟨q.s ++ [⟨5, ((20 + q.l : Nat) : Int), 0⟩] ++ [⟨6, ((20 + q.l : Nat) : Int), n⟩], q.g, q.l + 1⟩ (by simp; omega)
        have p4 := ll_put ⟨4, 0, ((q.s.length + 1 : Nat) : Int)⟩ q1 (by omega)
        have p5 := ll_setT (t := ((q1.s.length + 1 : Nat) : Int)) (q := ⟨q1.s ++ [⟨4, 0, ((q.s.length + 1 : Nat) : Int)⟩], q1.g, q1.l⟩) (i := q.s.length + 2) (x := ⟨4, 0, 0⟩) (by rw [get_append_left _ _ _ (by omega), hk]; rfl)
        have eq0 : (⟨(qI q).s, (qI q).g, (qI q).n + 1⟩ : Ll.Q) = qI ⟨q.s, q.g, q.l + 1⟩ := by simp [qI]; omega
        have en0 : (qI q).n = ((20 + q.l : Nat) : Int) := rfl
        rw [eq0, en0]
        have p1' : Ll.put ⟨5, ((20 + q.l : Nat) : Int), 0⟩ (qI ⟨q.s, q.g, q.l + 1⟩) = _ := p1
        rw [p1', Option.bind_some]
        have p2' : Ll.put ⟨6, ((20 + q.l : Nat) : Int), n⟩ (qI ⟨q.s ++ [⟨5, ((20 + q.l : Nat) : Int), 0⟩], q.g, q.l + 1⟩) = _ := p2
        rw [p2', Option.bind_some]
        have p3' : Ll.put ⟨4, 0, 0⟩ (qI ⟨q.s ++ [⟨5, ((20 + q.l : Nat) : Int), 0⟩] ++ [⟨6, ((20 + q.l : Nat) : Int), n⟩], q.g, q.l + 1⟩) = _ := p3
        rw [p3', Option.bind_some]
        have ea : q.s ++ [(⟨5, ((20 + q.l : Nat) : Int), 0⟩ : St)] ++ [⟨6, ((20 + q.l : Nat) : Int), n⟩] ++ [⟨4, 0, 0⟩] = q.s ++ [⟨5, ((20 + q.l : Nat) : Int), 0⟩, ⟨6, ((20 + q.l : Nat) : Int), n⟩, ⟨4, 0, 0⟩] := by simp
        rw [ea, i1, Option.bind_some]
        simp only [qI_s, List.length_append, List.length_cons, List.length_nil, Nat.zero_add]
        have p4' : Ll.put ⟨4, 0, ((q.s.length + 1 : Nat) : Int)⟩ (qI q1) = _ := p4
        rw [p4', Option.bind_some]
        simp only [qI_s, List.length_append, List.length_cons, List.length_nil, Nat.zero_add]
        exact p5
      · simp only [Bd, List.length_set, List.length_append, List.length_cons, List.length_nil]
        omega
    · have e1 : toX ⟨3, n, [a, b]⟩ = .seq (toX a) (toX b) := by simp [toX, toXs, mkX]
      have hs : sz ⟨3, n, [a, b]⟩ = sz a + sz b + 1 := by simp [sz, szm]
      have hp := sz_pos a
      have hp2 := sz_pos b
      have hB := lB_cat (sz a) (by omega) (sz b) (by omega) hp hp2
      rw [hs] at hq hN ⊢
      rw [e1] at hok ⊢
      obtain ⟨hq1, hq2, hq3⟩ := hq
      obtain ⟨i1, i2, i3, i4⟩ := ll_lay N a (by omega) (by omega) ha q ⟨by omega, by omega, by omega⟩
      obtain ⟨j1, j2, j3, j4⟩ := ll_lay N b (by omega) (by omega) hb ((toX a).lay q) ⟨by omega, by omega, by omega⟩
      simp only [XT.lay]
      refine ⟨?_, by simp only [Bd]; omega⟩
      simp only [Ll.lay, Ll.lays, Ll.node, List.getElem?_cons_zero, List.getElem?_cons_succ]
      rw [if_neg (by decide), if_neg (by decide), if_neg (by decide), i1]
      simp only [Option.bind_some]
      rw [if_pos trivial, j1]
    · have e1 : toX ⟨4, n, [a, b]⟩ = .cat n (toX a) (toX b) := by simp [toX, toXs, mkX]
      have hs : sz ⟨4, n, [a, b]⟩ = sz a + sz b + 1 := by simp [sz, szm]
      have hp := sz_pos a
      have hp2 := sz_pos b
      have hB := lB_cat (sz a) (by omega) (sz b) (by omega) hp hp2
      rw [hs] at hq hN ⊢
      rw [e1] at hok ⊢
      obtain ⟨hq1, hq2, hq3⟩ := hq
      obtain ⟨hoa, hob⟩ := hok
      obtain ⟨i1, i2, i3, i4⟩ := ll_lay N a (by omega) (by omega) ha q ⟨by omega, by omega, by omega⟩
      simp only [XT.lay]
      generalize (toX a).lay q = q1 at i1 i2 i3 i4 ⊢
      obtain ⟨j1, j2, j3, j4⟩ := ll_lay N b (by omega) (by omega) hb ⟨q1.s ++ [⟨4, 0, 0⟩], q1.g ++ [⟨q.s.length, q1.s.length, n, ((q1.s.length + 1 : Nat) : Int)⟩], q1.l⟩ ⟨by simp; omega, by simp; omega, by simp; omega⟩
      simp only [List.length_append, List.length_cons, List.length_nil] at j2 j3 j4
      have hk := keep_s (q := ⟨q1.s ++ [⟨4, 0, 0⟩], q1.g ++ [⟨q.s.length, q1.s.length, n, ((q1.s.length + 1 : Nat) : Int)⟩], q1.l⟩) hob (i := q1.s.length) (by simp)
      rw [last_get] at hk
      generalize (toX b).lay ⟨q1.s ++ [⟨4, 0, 0⟩], q1.g ++ [⟨q.s.length, q1.s.length, n, ((q1.s.length + 1 : Nat) : Int)⟩], q1.l⟩ = q2 at j1 j2 j3 j4 hk ⊢
      refine ⟨?_, ?_⟩
      · simp only [Ll.lay, Ll.lays, Ll.node, List.getElem?_cons_zero, List.getElem?_cons_succ]
        rw [if_neg (by decide), if_neg (by decide), if_neg (by decide), i1]
        simp only [Option.bind_some]
        rw [if_neg (by decide), if_pos trivial]
        have p1 : Ll.grd ⟨(q.s.length : Nat), (q1.s.length : Nat), n, 0⟩ (qI q1) = _ := ll_grd ⟨(q.s.length : Nat), (q1.s.length : Nat), n, 0⟩ q1 (by omega)
        have p2 : Ll.put ⟨4, 0, 0⟩ (qI ⟨q1.s, q1.g ++ [⟨(q.s.length : Nat), (q1.s.length : Nat), n, 0⟩], q1.l⟩) = _ := ll_put ⟨4, 0, 0⟩ _ (by simp only; omega)
        have p3 := ll_setA (t := ((q1.s.length + 1 : Nat) : Int)) (q := ⟨q1.s ++ [⟨4, 0, 0⟩], q1.g ++ [⟨(q.s.length : Nat), (q1.s.length : Nat), n, 0⟩], q1.l⟩) (i := q1.g.length) (last_get _ _)
        have p4 := ll_setT (t := ((q2.s.length : Nat) : Int)) (q := q2) (i := q1.s.length) hk
        simp only [qI_s, qI_g]
        rw [p1, Option.bind_some, p2, Option.bind_some]
        simp only [qI_s, qI_g, List.length_append, List.length_cons, List.length_nil, Nat.zero_add]
        rw [p3, Option.bind_some]
        simp only [last_set]
        rw [j1, Option.bind_some]
        simp only [qI_s, qI_g]
        exact p4
      · simp only [Bd, List.length_set]
        omega
    · have e1 : toX ⟨5, n, [a, b]⟩ = .fin (toX a) (toX b) := by simp [toX, toXs, mkX]
      have hs : sz ⟨5, n, [a, b]⟩ = sz a + sz b + 1 := by simp [sz, szm]
      have hp := sz_pos a
      have hp2 := sz_pos b
      have hB := lB_fin (sz a) (by omega) (sz b) (by omega) hp hp2
      rw [hs] at hq hN ⊢
      rw [e1] at hok ⊢
      obtain ⟨hq1, hq2, hq3⟩ := hq
      obtain ⟨hoa, hob⟩ := hok
      obtain ⟨i1, i2, i3, i4⟩ := ll_lay N a (by omega) (by omega) ha q ⟨by omega, by omega, by omega⟩
      simp only [XT.lay]
      generalize (toX a).lay q = q1 at i1 i2 i3 i4 ⊢
      obtain ⟨j1, j2, j3, j4⟩ := ll_lay N b (by omega) (by omega) hb ⟨q1.s, q1.g ++ [⟨q.s.length, q1.s.length, 0, 0⟩], q1.l⟩ ⟨by simp; omega, by simp; omega, by simp; omega⟩
      simp only [List.length_append, List.length_cons, List.length_nil] at j2 j3 j4
      have hk := keep_g (q := ⟨q1.s, q1.g ++ [⟨q.s.length, q1.s.length, 0, 0⟩], q1.l⟩) hob (i := q1.g.length) (by simp)
      rw [last_get] at hk
      generalize (toX b).lay ⟨q1.s, q1.g ++ [⟨q.s.length, q1.s.length, 0, 0⟩], q1.l⟩ = q2 at j1 j2 j3 j4 hk ⊢
      obtain ⟨m1, m2, m3, m4⟩ := ll_lay N b (by omega) (by omega) hb ⟨q2.s ++ [⟨4, 0, 0⟩], q2.g.set q1.g.length ⟨q.s.length, q1.s.length, 0, ((q2.s.length + 1 : Nat) : Int)⟩, q2.l⟩ ⟨by simp; omega, by simp; omega, by simp; omega⟩
      simp only [List.length_append, List.length_cons, List.length_nil, List.length_set] at m2 m3 m4
      have hk2 := keep_s (q := ⟨q2.s ++ [⟨4, 0, 0⟩], q2.g.set q1.g.length ⟨q.s.length, q1.s.length, 0, ((q2.s.length + 1 : Nat) : Int)⟩, q2.l⟩) hob (i := q2.s.length) (by simp)
      rw [last_get] at hk2
      have hl3 := len_s (q := ⟨q2.s ++ [⟨4, 0, 0⟩], q2.g.set q1.g.length ⟨q.s.length, q1.s.length, 0, ((q2.s.length + 1 : Nat) : Int)⟩, q2.l⟩) hob
      simp only [List.length_append, List.length_cons, List.length_nil] at hl3
      generalize (toX b).lay ⟨q2.s ++ [⟨4, 0, 0⟩], q2.g.set q1.g.length ⟨q.s.length, q1.s.length, 0, ((q2.s.length + 1 : Nat) : Int)⟩, q2.l⟩ = q3 at m1 m2 m3 m4 hk2 hl3 ⊢
      refine ⟨?_, ?_⟩
      · simp only [Ll.lay, Ll.lays, Ll.node, List.getElem?_cons_zero, List.getElem?_cons_succ]
        rw [if_neg (by decide), if_neg (by decide), if_neg (by decide), i1]
        simp only [Option.bind_some]
        rw [if_neg (by decide), if_neg (by decide), if_pos trivial]
        have p1 : Ll.grd ⟨(q.s.length : Nat), (q1.s.length : Nat), 0, 0⟩ (qI q1) = _ := ll_grd ⟨(q.s.length : Nat), (q1.s.length : Nat), 0, 0⟩ q1 (by omega)
        have p2 : Ll.put ⟨4, 0, 0⟩ (qI q2) = _ := ll_put ⟨4, 0, 0⟩ q2 (by omega)
        have p3 := ll_setA (t := ((q2.s.length + 1 : Nat) : Int)) (q := ⟨q2.s ++ [⟨4, 0, 0⟩], q2.g, q2.l⟩) (i := q1.g.length) hk
        have p4 : Ll.put ⟨3, (q1.g.length : Nat), 0⟩ (qI q3) = _ := ll_put ⟨3, (q1.g.length : Nat), 0⟩ q3 (by omega)
        have p5 := ll_setT (t := ((q3.s.length + 1 : Nat) : Int)) (q := ⟨q3.s ++ [⟨3, (q1.g.length : Nat), 0⟩], q3.g, q3.l⟩) (i := q2.s.length) (x := ⟨4, 0, 0⟩) (by rw [get_append_left _ _ _ (by omega), hk2])
        simp only [qI_s, qI_g]
        rw [p1, Option.bind_some, j1, Option.bind_some, p2, Option.bind_some]
        simp only [qI_s, qI_g, List.length_append, List.length_cons, List.length_nil, Nat.zero_add]
        rw [p3, Option.bind_some, m1, Option.bind_some, p4, Option.bind_some]
        simp only [qI_s, qI_g, List.length_append, List.length_cons, List.length_nil, Nat.zero_add]
        exact p5
      · simp only [Bd, List.length_set, List.length_append, List.length_cons, List.length_nil]
        omega
theorem lay_lenI {t : S72} (h : sz t ≤ 30) (hg : gd t) : ((toX t).lay ⟨[], [], 0⟩).s.length ≤ 131069 ∧ ((toX t).lay ⟨[], [], 0⟩).g.length ≤ 131069 := by
  have h1 := (ll_lay (sz t) t (Nat.le_refl _) h hg ⟨[], [], 0⟩ (Rm0 h)).2
  have := lB_top (sz t) (by omega)
  obtain ⟨a, b, _⟩ := h1
  simp only [List.length_nil] at a b
  omega
theorem impl_lineOf (l : List S76) : Ev (fun k => impl_LineTree.f k l) (lineOf l) := by
  unfold impl_LineTree.f lineOf
  obtain ⟨o, h1, h2⟩ := impl_tree l
  rw [h1]
  simp only [Option.bind_some]
  cases ht : treeOf l with
  | none => exact ite_f (by simp) (Ev.now _)
  | some t =>
    refine ite_t (by simp) ?_
    rw [h2 t ht]
    simp only
    have h3 := (ll_lay (sz t) t (Nat.le_refl _) (treeOf_sz ht) (treeOf_gd ht) ⟨[], [], 0⟩ (Rm0 (treeOf_sz ht))).1
    have e0 : qI ⟨[], [], 0⟩ = (⟨[], [], 20⟩ : Ll.Q) := rfl
    rw [e0] at h3
    rw [h3]
    have hl := lay_lenI (treeOf_sz ht) (treeOf_gd ht)
    refine bind_ev (Ev.now _) ?_
    simp only [qI]
    refine bind_ev (impl_good _ _ (by simp; omega) (by simp; omega)) ?_
    exact ite_ev (fun _ => Ev.now _) (fun _ => Ev.now _)
end Go.Proofs.Ytgjojppbichaiaa.Pure
namespace Go.Proofs.Ytgjojppbichaiaa.Pure
open Go.RowKit Go.Proofs.Ytgjojppbichaiaa.Q Go.Proofs.YtgjojppbichaiaaW.PrintWords Go.Proofs.YtgjojppbichaiaaW.PrintLast Go.Proofs.Ytgjojppbichaiaa.Kit
/-! ### the reference's -/
def qS (q : Ln) : Ls.Q := ⟨q.s.map e86, q.g.map e63, (q.l : Int)⟩
theorem ls_put (x : St) (q : Ln) (h : q.s.length < 100000000) : Ls.put (e86 x) (qS q) = some (qS ⟨q.s ++ [x], q.g, q.l⟩) := by
  unfold Ls.put qS
  rw [if_pos (by simp; omega)]; simp
theorem ls_grd (x : Gd) (q : Ln) (h : q.g.length < 100000000) : Ls.grd (e63 x) (qS q) = some (qS ⟨q.s, q.g ++ [x], q.l⟩) := by
  unfold Ls.grd qS
  rw [if_pos (by simp; omega)]; simp
theorem ls_setT {i : Nat} {t : Int} {q : Ln} {x : St} (h : q.s[i]? = some x) : Ls.setT i t (qS q) = some (qS ⟨q.s.set i ⟨x.op, x.n, t⟩, q.g, q.l⟩) := by
  have hi := (List.getElem?_eq_some_iff.1 h).1
  unfold Ls.setT qS
  simp only
  rw [if_pos (by simpa using hi), rd86_map h, List.map_set]; rfl
theorem ls_setA {i : Nat} {t : Int} {q : Ln} {x : Gd} (h : q.g[i]? = some x) : Ls.setA i t (qS q) = some (qS ⟨q.s, q.g.set i ⟨x.frm, x.to, x.kind, t⟩, q.l⟩) := by
  have hi := (List.getElem?_eq_some_iff.1 h).1
  unfold Ls.setA qS
  simp only
  rw [if_pos (by simpa using hi), rd63_map h, List.map_set]; rfl
theorem qS_s (q : Ln) : (qS q).s.length = q.s.length := by simp [qS]
theorem qS_g (q : Ln) : (qS q).g.length = q.g.length := by simp [qS]
theorem ls_lay : ∀ (N : Nat) (t : S72), sz t ≤ N → N ≤ 30 → gd t → ∀ q : Ln, Rm (sz t) q → Ls.lay t (qS q) = some (qS ((toX t).lay q)) ∧ Bd (sz t) q ((toX t).lay q)
  | 0, t, hN, _, _ => by have := sz_pos t; omega
  | N + 1, t, hN, hN30, hgd => by
    intro q hq
    have hok := toX_ok (N + 1) t hN hgd
    rcases gd_cases t hgd with ⟨n, rfl⟩ | ⟨n, rfl, hn⟩ | ⟨n, a, rfl, hn0, hn5, ha⟩ | ⟨n, a, b, rfl, ha, hb⟩ | ⟨n, a, b, rfl, ha, hb⟩ | ⟨n, a, b, rfl, ha, hb⟩
    · have e1 : toX ⟨1, n, []⟩ = .out n := by simp [toX, mkX]
      rw [e1]
      obtain ⟨hq1, hq2, hq3⟩ := hq
      refine ⟨?_, ?_⟩
      · unfold Ls.lay Ls.node
        rw [if_pos rfl]
        exact ls_put ⟨1, n, 0⟩ q (by omega)
      · have h1 : lB (sz ⟨1, n, []⟩) = 1 := by simp [sz, szm, lB_one]
        simp only [Bd, XT.lay, List.length_append, List.length_cons, List.length_nil, h1]
        omega
    · have e1 : toX ⟨2, n, []⟩ = .rai n := by simp [toX, mkX]
      rw [e1]
      obtain ⟨hq1, hq2, hq3⟩ := hq
      refine ⟨?_, ?_⟩
      · unfold Ls.lay Ls.node
        rw [if_neg (by decide), if_pos rfl]
        exact ls_put ⟨2, n, 0⟩ q (by omega)
      · have h1 : lB (sz ⟨2, n, []⟩) = 1 := by simp [sz, szm, lB_one]
        simp only [Bd, XT.lay, List.length_append, List.length_cons, List.length_nil, h1]
        omega
    · have e1 : toX ⟨6, n, [a]⟩ = .loop n.toNat (toX a) := by simp [toX, toXs, mkX]
      have hs : sz ⟨6, n, [a]⟩ = sz a + 1 := by simp [sz, szm]
      have hp := sz_pos a
      have hB := lB_loop (sz a) (by omega) hp
      rw [hs] at hq hN ⊢
      rw [e1] at hok ⊢
      obtain ⟨hq1, hq2, hq3⟩ := hq
      have ia := ls_lay N a (by omega) (by omega) ha
      have hoa : (toX a).Ok := hok
      obtain ⟨i1, i2, i3, i4⟩ := ia ⟨q.s ++ [⟨5, ((20 + q.l : Nat) : Int), 0⟩, ⟨6, ((20 + q.l : Nat) : Int), n⟩, ⟨4, 0, 0⟩], q.g, q.l + 1⟩ ⟨by simp; omega, by simp; omega, by simp; omega⟩
      simp only [List.length_append, List.length_cons, List.length_nil] at i2 i3 i4
      have hk := keep_s (q := ⟨q.s ++ [⟨5, ((20 + q.l : Nat) : Int), 0⟩, ⟨6, ((20 + q.l : Nat) : Int), n⟩, ⟨4, 0, 0⟩], q.g, q.l + 1⟩) hoa (i := q.s.length + 2) (by simp)
      rw [get_append_at] at hk
      have hl1 := len_s (q := ⟨q.s ++ [⟨5, ((20 + q.l : Nat) : Int), 0⟩, ⟨6, ((20 + q.l : Nat) : Int), n⟩, ⟨4, 0, 0⟩], q.g, q.l + 1⟩) hoa
      simp only [List.length_append, List.length_cons, List.length_nil] at hl1
      have en : ((n.toNat : Nat) : Int) = n := by omega
      simp only [XT.lay, en]
      generalize (toX a).lay ⟨q.s ++ [⟨5, ((20 + q.l : Nat) : Int), 0⟩, ⟨6, ((20 + q.l : Nat) : Int), n⟩, ⟨4, 0, 0⟩], q.g, q.l + 1⟩ = q1 at i1 i2 i3 i4 hk hl1 ⊢
      refine ⟨?_, ?_⟩
      · simp only [Ls.lay, Ls.lays, Ls.node, List.getElem?_cons_zero]
        rw [if_neg (by decide), if_neg (by decide), if_pos trivial, if_pos (by simp [qS]; omega)]
        have p1 : Ls.put3 ⟨5, 20 + (q.l : Int), 0⟩ ⟨6, 20 + (q.l : Int), n⟩ ⟨4, 0, 0⟩ (qS ⟨q.s, q.g, q.l + 1⟩) = some (qS ⟨q.s ++ [⟨5, ((20 + q.l : Nat) : Int), 0⟩, ⟨6, ((20 + q.l : Nat) : Int), n⟩, ⟨4, 0, 0⟩], q.g, q.l + 1⟩) := by
          unfold Ls.put3 qS
          rw [if_pos (by simp; omega)]; simp [e86]
        have p4 : Ls.put ⟨4, 0, ((q.s.length + 1 : Nat) : Int)⟩ (qS q1) = _ := ls_put ⟨4, 0, ((q.s.length + 1 : Nat) : Int)⟩ q1 (by omega)
        have p5 := ls_setT (t := ((q1.s.length + 1 : Nat) : Int)) (q := ⟨q1.s ++ [⟨4, 0, ((q.s.length + 1 : Nat) : Int)⟩], q1.g, q1.l⟩) (i := q.s.length + 2) (x := ⟨4, 0, 0⟩) (by rw [get_append_left _ _ _ (by omega), hk]; rfl)
        have eq0 : (⟨(qS q).s, (qS q).g, (qS q).n + 1⟩ : Ls.Q) = qS ⟨q.s, q.g, q.l + 1⟩ := by simp [qS]
        have en0 : (qS q).n = (q.l : Int) := rfl
        rw [eq0, en0, p1, Option.bind_some, i1, Option.bind_some]
        have ec : ((q.s.length : Nat) : Int) + 1 = ((q.s.length + 1 : Nat) : Int) := by omega
        simp only [qS_s]
        rw [ec, p4, Option.bind_some]
        simp only [qS_s, List.length_append, List.length_cons, List.length_nil, Nat.zero_add]
        exact p5
      · simp only [Bd, List.length_set, List.length_append, List.length_cons, List.length_nil]
        omega
    · have e1 : toX ⟨3, n, [a, b]⟩ = .seq (toX a) (toX b) := by simp [toX, toXs, mkX]
      have hs : sz ⟨3, n, [a, b]⟩ = sz a + sz b + 1 := by simp [sz, szm]
      have hp := sz_pos a
      have hp2 := sz_pos b
      have hB := lB_cat (sz a) (by omega) (sz b) (by omega) hp hp2
      rw [hs] at hq hN ⊢
      rw [e1] at hok ⊢
      obtain ⟨hq1, hq2, hq3⟩ := hq
      obtain ⟨i1, i2, i3, i4⟩ := ls_lay N a (by omega) (by omega) ha q ⟨by omega, by omega, by omega⟩
      obtain ⟨j1, j2, j3, j4⟩ := ls_lay N b (by omega) (by omega) hb ((toX a).lay q) ⟨by omega, by omega, by omega⟩
      simp only [XT.lay]
      refine ⟨?_, by simp only [Bd]; omega⟩
      simp only [Ls.lay, Ls.lays, Ls.node, List.getElem?_cons_zero, List.getElem?_cons_succ]
      rw [if_neg (by decide), if_neg (by decide), if_neg (by decide), i1]
      simp only [Option.bind_some]
      rw [if_pos trivial, j1]
    · have e1 : toX ⟨4, n, [a, b]⟩ = .cat n (toX a) (toX b) := by simp [toX, toXs, mkX]
      have hs : sz ⟨4, n, [a, b]⟩ = sz a + sz b + 1 := by simp [sz, szm]
      have hp := sz_pos a
      have hp2 := sz_pos b
      have hB := lB_cat (sz a) (by omega) (sz b) (by omega) hp hp2
      rw [hs] at hq hN ⊢
      rw [e1] at hok ⊢
      obtain ⟨hq1, hq2, hq3⟩ := hq
      obtain ⟨hoa, hob⟩ := hok
      obtain ⟨i1, i2, i3, i4⟩ := ls_lay N a (by omega) (by omega) ha q ⟨by omega, by omega, by omega⟩
      simp only [XT.lay]
      generalize (toX a).lay q = q1 at i1 i2 i3 i4 ⊢
      obtain ⟨j1, j2, j3, j4⟩ := ls_lay N b (by omega) (by omega) hb ⟨q1.s ++ [⟨4, 0, 0⟩], q1.g ++ [⟨q.s.length, q1.s.length, n, ((q1.s.length + 1 : Nat) : Int)⟩], q1.l⟩ ⟨by simp; omega, by simp; omega, by simp; omega⟩
      simp only [List.length_append, List.length_cons, List.length_nil] at j2 j3 j4
      have hk := keep_s (q := ⟨q1.s ++ [⟨4, 0, 0⟩], q1.g ++ [⟨q.s.length, q1.s.length, n, ((q1.s.length + 1 : Nat) : Int)⟩], q1.l⟩) hob (i := q1.s.length) (by simp)
      rw [last_get] at hk
      generalize (toX b).lay ⟨q1.s ++ [⟨4, 0, 0⟩], q1.g ++ [⟨q.s.length, q1.s.length, n, ((q1.s.length + 1 : Nat) : Int)⟩], q1.l⟩ = q2 at j1 j2 j3 j4 hk ⊢
      refine ⟨?_, ?_⟩
      · simp only [Ls.lay, Ls.lays, Ls.node, List.getElem?_cons_zero, List.getElem?_cons_succ]
        rw [if_neg (by decide), if_neg (by decide), if_neg (by decide), i1]
        simp only [Option.bind_some]
        rw [if_neg (by decide), if_pos trivial]
        have p1 : Ls.put ⟨4, 0, 0⟩ (qS q1) = _ := ls_put ⟨4, 0, 0⟩ q1 (by omega)
        have p2 : Ls.grd ⟨(q.s.length : Nat), (q1.s.length : Nat), n, ((q1.s.length + 1 : Nat) : Int)⟩ (qS ⟨q1.s ++ [⟨4, 0, 0⟩], q1.g, q1.l⟩) = _ := ls_grd ⟨(q.s.length : Nat), (q1.s.length : Nat), n, ((q1.s.length + 1 : Nat) : Int)⟩ _ (by simp only; omega)
        have p4 := ls_setT (t := ((q2.s.length : Nat) : Int)) (q := q2) (i := q1.s.length) hk
        have ec : ((q1.s.length : Nat) : Int) + 1 = ((q1.s.length + 1 : Nat) : Int) := by omega
        simp only [qS_s, qS_g]
        rw [ec, p1, Option.bind_some, p2, Option.bind_some, j1, Option.bind_some]
        simp only [qS_s, qS_g]
        exact p4
      · simp only [Bd, List.length_set]
        omega
    · have e1 : toX ⟨5, n, [a, b]⟩ = .fin (toX a) (toX b) := by simp [toX, toXs, mkX]
      have hs : sz ⟨5, n, [a, b]⟩ = sz a + sz b + 1 := by simp [sz, szm]
      have hp := sz_pos a
      have hp2 := sz_pos b
      have hB := lB_fin (sz a) (by omega) (sz b) (by omega) hp hp2
      rw [hs] at hq hN ⊢
      rw [e1] at hok ⊢
      obtain ⟨hq1, hq2, hq3⟩ := hq
      obtain ⟨hoa, hob⟩ := hok
      obtain ⟨i1, i2, i3, i4⟩ := ls_lay N a (by omega) (by omega) ha q ⟨by omega, by omega, by omega⟩
      simp only [XT.lay]
      generalize (toX a).lay q = q1 at i1 i2 i3 i4 ⊢
      obtain ⟨j1, j2, j3, j4⟩ := ls_lay N b (by omega) (by omega) hb ⟨q1.s, q1.g ++ [⟨q.s.length, q1.s.length, 0, 0⟩], q1.l⟩ ⟨by simp; omega, by simp; omega, by simp; omega⟩
      simp only [List.length_append, List.length_cons, List.length_nil] at j2 j3 j4
      have hk := keep_g (q := ⟨q1.s, q1.g ++ [⟨q.s.length, q1.s.length, 0, 0⟩], q1.l⟩) hob (i := q1.g.length) (by simp)
      rw [last_get] at hk
      generalize (toX b).lay ⟨q1.s, q1.g ++ [⟨q.s.length, q1.s.length, 0, 0⟩], q1.l⟩ = q2 at j1 j2 j3 j4 hk ⊢
      obtain ⟨m1, m2, m3, m4⟩ := ls_lay N b (by omega) (by omega) hb ⟨q2.s ++ [⟨4, 0, 0⟩], q2.g.set q1.g.length ⟨q.s.length, q1.s.length, 0, ((q2.s.length + 1 : Nat) : Int)⟩, q2.l⟩ ⟨by simp; omega, by simp; omega, by simp; omega⟩
      simp only [List.length_append, List.length_cons, List.length_nil, List.length_set] at m2 m3 m4
      have hk2 := keep_s (q := ⟨q2.s ++ [⟨4, 0, 0⟩], q2.g.set q1.g.length ⟨q.s.length, q1.s.length, 0, ((q2.s.length + 1 : Nat) : Int)⟩, q2.l⟩) hob (i := q2.s.length) (by simp)
      rw [last_get] at hk2
      have hl3 := len_s (q := ⟨q2.s ++ [⟨4, 0, 0⟩], q2.g.set q1.g.length ⟨q.s.length, q1.s.length, 0, ((q2.s.length + 1 : Nat) : Int)⟩, q2.l⟩) hob
      simp only [List.length_append, List.length_cons, List.length_nil] at hl3
      generalize (toX b).lay ⟨q2.s ++ [⟨4, 0, 0⟩], q2.g.set q1.g.length ⟨q.s.length, q1.s.length, 0, ((q2.s.length + 1 : Nat) : Int)⟩, q2.l⟩ = q3 at m1 m2 m3 m4 hk2 hl3 ⊢
      refine ⟨?_, ?_⟩
      · simp only [Ls.lay, Ls.lays, Ls.node, List.getElem?_cons_zero, List.getElem?_cons_succ]
        rw [if_neg (by decide), if_neg (by decide), if_neg (by decide), i1]
        simp only [Option.bind_some]
        rw [if_neg (by decide), if_neg (by decide), if_pos trivial]
        have p1 : Ls.grd ⟨(q.s.length : Nat), (q1.s.length : Nat), 0, 0⟩ (qS q1) = _ := ls_grd ⟨(q.s.length : Nat), (q1.s.length : Nat), 0, 0⟩ q1 (by omega)
        have p2 : Ls.put ⟨4, 0, 0⟩ (qS q2) = _ := ls_put ⟨4, 0, 0⟩ q2 (by omega)
        have p3 := ls_setA (t := ((q2.s.length + 1 : Nat) : Int)) (q := ⟨q2.s ++ [⟨4, 0, 0⟩], q2.g, q2.l⟩) (i := q1.g.length) hk
        have p4 : Ls.put ⟨3, (q1.g.length : Nat), 0⟩ (qS q3) = _ := ls_put ⟨3, (q1.g.length : Nat), 0⟩ q3 (by omega)
        have p5 := ls_setT (t := ((q3.s.length + 1 : Nat) : Int)) (q := ⟨q3.s ++ [⟨3, (q1.g.length : Nat), 0⟩], q3.g, q3.l⟩) (i := q2.s.length) (x := ⟨4, 0, 0⟩) (by rw [get_append_left _ _ _ (by omega), hk2])
        simp only [qS_s, qS_g]
        have ec : ((q2.s.length : Nat) : Int) + 1 = ((q2.s.length + 1 : Nat) : Int) := by omega
        rw [p1, Option.bind_some, j1, Option.bind_some, p2, Option.bind_some]
        simp only [qS_s, qS_g, List.length_append, List.length_cons, List.length_nil, Nat.zero_add]
        rw [ec, p3, Option.bind_some, m1, Option.bind_some, p4, Option.bind_some]
        simp only [qS_s, qS_g, List.length_append, List.length_cons, List.length_nil, Nat.zero_add]
        exact p5
      · simp only [Bd, List.length_set, List.length_append, List.length_cons, List.length_nil]
        omega
theorem lay_lenS {t : S72} (h : sz t ≤ 30) (hg : gd t) : ((toX t).lay ⟨[], [], 0⟩).s.length ≤ 131069 ∧ ((toX t).lay ⟨[], [], 0⟩).g.length ≤ 131069 := by
  have h1 := (ls_lay (sz t) t (Nat.le_refl _) h hg ⟨[], [], 0⟩ (Rm0 h)).2
  have := lB_top (sz t) (by omega)
  obtain ⟨a, b, _⟩ := h1
  simp only [List.length_nil] at a b
  omega
theorem lineOf_len (l : List S76) : (lineOf l).1.length ≤ 131069 ∧ (lineOf l).2.1.length ≤ 131069 := by
  unfold lineOf
  cases ht : treeOf l with
  | none => simp
  | some t =>
    have := lay_lenS (treeOf_sz ht) (treeOf_gd ht)
    simp only
    split
    · simpa using this
    · simp
theorem spec_lineOf (l : List S76) (hl : l.length ≤ 1048576) : Ev (fun k => spec_LineTree.f k l) (lineOf l) := by
  unfold spec_LineTree.f lineOf
  obtain ⟨t, h1, h2⟩ := spec_tree l hl
  refine bind_ev h1 ?_
  cases ht : treeOf l with
  | none => exact ite_f (by simp) (Ev.now _)
  | some t' =>
    obtain rfl := h2 t' ht
    refine ite_t (by simp) ?_
    have h3 := (ls_lay (sz t) t (Nat.le_refl _) (treeOf_sz ht) (treeOf_gd ht) ⟨[], [], 0⟩ (Rm0 (treeOf_sz ht))).1
    have e0 : qS ⟨[], [], 0⟩ = (⟨[], [], 0⟩ : Ls.Q) := rfl
    rw [e0] at h3
    have hl := lay_lenS (treeOf_sz ht) (treeOf_gd ht)
    refine bind_ev (a := qS ((toX t).lay ⟨[], [], 0⟩)) (const_ev (by cases t; exact h3)) ?_
    simp only [qS]
    refine bind_ev (spec_good _ _ (by simp; omega) (by simp; omega)) ?_
    exact ite_ev (fun _ => Ev.now _) (fun _ => Ev.now _)
end Go.Proofs.Ytgjojppbichaiaa.Pure
namespace Go.Proofs.Ytgjojppbichaiaa.Pure
open Go.RowKit Go.Proofs.Ytgjojppbichaiaa.Q Go.Proofs.YtgjojppbichaiaaW.PrintWords Go.Proofs.YtgjojppbichaiaaW.PrintLast Go.Proofs.Ytgjojppbichaiaa.Kit

theorem Se_over (t : S72) (told : List Int) (h : told.length > 200) : Se.ev t told = some (told, 0) := by
  obtain ⟨k, n, ts⟩ := t
  unfold Se.ev Se.node
  rw [if_pos h]
/-- Both tell what the plain tree tells. -/
def BB (o : Option (List Int × Int)) (f : Option ((Int × Bool) × List Int)) (g : Option (List Int × Int)) : Prop :=
  (∀ s c, o = some (s, c) → f = some ((c, true), s) ∧ g = some (s, c) ∧ s.length ≤ 200) ∧
  (o = none → (∃ c s, f = some ((c, false), s)) ∧ ∃ s c, g = some (s, c) ∧ s.length > 200)
theorem BB.yes {o f g} (s : List Int) (c : Int) (ho : o = some (s, c)) (hf : f = some ((c, true), s)) (hg : g = some (s, c)) (hl : s.length ≤ 200) : BB o f g := by
  refine ⟨fun s' c' h => ?_, fun h => by rw [ho] at h; cases h⟩
  rw [ho] at h
  simp only [Option.some.injEq, Prod.mk.injEq] at h
  obtain ⟨rfl, rfl⟩ := h
  exact ⟨hf, hg, hl⟩
theorem BB.no {o f g} (ho : o = none) (hf : ∃ c s, f = some ((c, false), s)) (hg : ∃ s c, g = some (s, c) ∧ s.length > 200) : BB o f g := ⟨fun s c h => (by rw [ho] at h; cases h), fun _ => ⟨hf, hg⟩⟩
theorem BB.eq {o o' f f' g g'} (h : BB o' f' g') (ho : o = o') (hf : f = f') (hg : g = g') : BB o f g := by subst ho hf hg; exact h
theorem BB.cases {o f g} (h : BB o f g) : (∃ s c, o = some (s, c) ∧ f = some ((c, true), s) ∧ g = some (s, c) ∧ s.length ≤ 200) ∨ (o = none ∧ ∃ c s s2 c2, f = some ((c, false), s) ∧ g = some (s2, c2) ∧ s2.length > 200) := by
  cases o with
  | none =>
    obtain ⟨⟨c, s, h1⟩, s2, c2, h2, h3⟩ := h.2 rfl
    exact .inr ⟨rfl, c, s, s2, c2, h1, h2, h3⟩
  | some r =>
    obtain ⟨h1, h2, h3⟩ := h.1 r.1 r.2 rfl
    exact .inl ⟨r.1, r.2, rfl, h1, h2, h3⟩
def Both (X : XT) (f : Xe.F) (g : Se.F) : Prop := ∀ said : List Int, said.length ≤ 200 → BB (X.eval said) (f said) (g said)
theorem rounds_both {X : XT} {f : Xe.F} {g : Se.F} (h : Both X f g) (hg : ∀ s : List Int, s.length > 200 → g s = some (s, 0)) : ∀ (m : Nat) (said : List Int), said.length ≤ 200 →
    BB (XT.rounds X.eval m said) (Xe.rounds f m said) (Se.rounds g m said)
  | 0, said, hl => BB.yes said 0 rfl rfl rfl hl
  | m + 1, said, hl => by
    rcases (h said hl).cases with ⟨s, c, he, hf, hg1, hl1⟩ | ⟨he, c, s, s2, c2, hf, hg2, hl2⟩
    · by_cases hc : c = 0
      · subst hc
        refine BB.eq (rounds_both h hg m s hl1) ?_ ?_ ?_
        · rw [XT.rounds, he]; rfl
        · simp only [Xe.rounds]; rw [hf]; show (if true = false ∨ (0 : Int) ≠ 0 then some ((0, true), s) else Xe.rounds f m s) = _; rw [if_neg (by decide)]
        · simp only [Se.rounds]; rw [hg1]; rfl
      · refine BB.yes s c ?_ ?_ ?_ hl1
        · rw [XT.rounds, he]; exact if_pos hc
        · simp only [Xe.rounds]; rw [hf]; exact if_pos (.inr hc)
        · simp only [Se.rounds]; rw [hg1]; exact if_neg hc
    · refine BB.no ?_ ⟨c, s, ?_⟩ ?_
      · rw [XT.rounds, he]; rfl
      · simp only [Xe.rounds]; rw [hf]; show (if false = false ∨ c ≠ 0 then some ((c, false), s) else Xe.rounds f m s) = _; rw [if_pos (Or.inl rfl)]
      · simp only [Se.rounds]; rw [hg2]
        have over : ∀ m, Se.rounds g m s2 = some (s2, 0) := by
          intro m
          induction m with
          | zero => rfl
          | succ m ih => simp only [Se.rounds]; rw [hg s2 hl2]; exact ih
        by_cases hc : c2 = 0
        · exact ⟨s2, 0, (if_pos hc).trans (over m), hl2⟩
        · exact ⟨s2, c2, if_neg hc, hl2⟩
theorem ev_both : ∀ (N : Nat) (t : S72), sz t ≤ N → gd t → Both (toX t) (Xe.ev t) (Se.ev t)
  | 0, t, hN, _ => by cases t; unfold sz at hN; omega
  | N + 1, t, hN, hgd => by
    intro said hl
    have nl : ¬ said.length > 200 := by omega
    rcases gd_cases t hgd with ⟨n, rfl⟩ | ⟨n, rfl, hn⟩ | ⟨n, a, rfl, hn0, hn5, ha⟩ | ⟨n, a, b, rfl, ha, hb⟩ | ⟨n, a, b, rfl, ha, hb⟩ | ⟨n, a, b, rfl, ha, hb⟩
    · have e1 : toX ⟨1, n, []⟩ = .out n := by simp [toX, mkX]
      have e2 : Xe.ev ⟨1, n, []⟩ said = some ((0, decide (((said ++ [n]).length : Int) ≤ 200)), said ++ [n]) := by unfold Xe.ev Xe.node; rw [if_pos rfl, if_pos (by omega)]
      have e3 : Se.ev ⟨1, n, []⟩ said = some (said ++ [n], 0) := by unfold Se.ev Se.node; rw [if_neg nl, if_pos rfl]
      rw [e1, e2, e3]
      by_cases h2 : said.length < 200
      · exact BB.yes (said ++ [n]) 0 (by rw [XT.eval, if_pos h2]) (by rw [decide_eq_true (by simp; omega)]) rfl (by simp; omega)
      · exact BB.no (by rw [XT.eval, if_neg h2]) ⟨0, said ++ [n], by rw [decide_eq_false (by simp; omega)]⟩ ⟨said ++ [n], 0, rfl, by simp; omega⟩
    · have e1 : toX ⟨2, n, []⟩ = .rai n := by simp [toX, mkX]
      have e2 : Xe.ev ⟨2, n, []⟩ said = some ((n, true), said) := by unfold Xe.ev Xe.node; rw [if_neg (by decide), if_pos rfl]
      have e3 : Se.ev ⟨2, n, []⟩ said = some (said, n) := by unfold Se.ev Se.node; rw [if_neg nl, if_neg (by decide), if_pos rfl]
      rw [e1, e2, e3]
      exact BB.yes said n (by rw [XT.eval]) rfl rfl hl
    · have iha := ev_both N a (by simp only [sz, szm] at hN; omega) ha
      have e1 : toX ⟨6, n, [a]⟩ = .loop n.toNat (toX a) := by simp [toX, toXs, mkX]
      have e2 : Xe.ev ⟨6, n, [a]⟩ said = Xe.rounds (Xe.ev a) n.toNat said := by
        simp only [Xe.ev, Xe.evs, Xe.node]
        rw [if_neg (by decide), if_neg (by decide)]
        simp only [List.getElem?_cons_zero]
        rw [if_pos trivial, if_pos (by omega)]
      have e3 : Se.ev ⟨6, n, [a]⟩ said = Se.rounds (Se.ev a) n.toNat said := by
        simp only [Se.ev, Se.evs, Se.node]
        rw [if_neg nl, if_neg (by decide), if_neg (by decide)]
        simp only [List.getElem?_cons_zero]
        rw [if_pos trivial, if_pos (by omega)]
      rw [e1, e2, e3]
      simp only [XT.eval]
      exact rounds_both iha (fun s h => Se_over a s h) n.toNat said hl
    · have iha := ev_both N a (by simp only [sz, szm] at hN; omega) ha
      have ihb := ev_both N b (by simp only [sz, szm] at hN; omega) hb
      have e1 : toX ⟨3, n, [a, b]⟩ = .seq (toX a) (toX b) := by simp [toX, toXs, mkX]
      have e2 : Xe.ev ⟨3, n, [a, b]⟩ said = (Xe.ev a said).bind fun r => if r.1.2 = false then some ((0, false), r.2) else if r.1.1 = 0 then Xe.ev b r.2 else some ((r.1.1, true), r.2) := by simp [Xe.ev, Xe.evs, Xe.node, Xe.second]
      have e3 : Se.ev ⟨3, n, [a, b]⟩ said = (Se.ev a said).bind fun r => if r.2 = 0 then Se.ev b r.1 else some r := by simp only [Se.ev, Se.evs, Se.node, Se.second]; rw [if_neg nl]; simp
      rw [e1, e2, e3]
      simp only [XT.eval]
      rcases (iha said hl).cases with ⟨s, c, he, hf, hg1, hl1⟩ | ⟨he, c, s, s2, c2, hf, hg2, hl2⟩
      · rw [he, hf, hg1]
        by_cases hc : c = 0
        · subst hc
          exact BB.eq (ihb s hl1) rfl rfl rfl
        · exact BB.yes s c (if_pos hc) (if_neg hc) (if_neg hc) hl1
      · rw [he, hf, hg2]
        refine BB.no rfl ⟨0, s, rfl⟩ ?_
        by_cases hc : c2 = 0
        · exact ⟨s2, 0, (if_pos hc).trans (Se_over b s2 hl2), hl2⟩
        · exact ⟨s2, c2, if_neg hc, hl2⟩
    · have iha := ev_both N a (by simp only [sz, szm] at hN; omega) ha
      have ihb := ev_both N b (by simp only [sz, szm] at hN; omega) hb
      have e1 : toX ⟨4, n, [a, b]⟩ = .cat n (toX a) (toX b) := by simp [toX, toXs, mkX]
      have e2 : Xe.ev ⟨4, n, [a, b]⟩ said = (Xe.ev a said).bind fun r => if r.1.2 = false then some ((0, false), r.2) else if r.1.1 = 0 ∨ n ≠ 0 ∧ n ≠ r.1.1 then some ((r.1.1, true), r.2) else Xe.ev b r.2 := by simp [Xe.ev, Xe.evs, Xe.node, Xe.second]
      have e3 : Se.ev ⟨4, n, [a, b]⟩ said = (Se.ev a said).bind fun r => if r.2 = 0 ∨ n ≠ 0 ∧ n ≠ r.2 then some r else Se.ev b r.1 := by simp only [Se.ev, Se.evs, Se.node, Se.second]; rw [if_neg nl]; simp
      rw [e1, e2, e3]
      simp only [XT.eval]
      rcases (iha said hl).cases with ⟨s, c, he, hf, hg1, hl1⟩ | ⟨he, c, s, s2, c2, hf, hg2, hl2⟩
      · rw [he, hf, hg1]
        by_cases hc : c = 0 ∨ n ≠ 0 ∧ n ≠ c
        · exact BB.yes s c (if_pos hc) (if_pos hc) (if_pos hc) hl1
        · exact BB.eq (ihb s hl1) (if_neg hc) (if_neg hc) (if_neg hc)
      · rw [he, hf, hg2]
        refine BB.no rfl ⟨0, s, rfl⟩ ?_
        by_cases hc : c2 = 0 ∨ n ≠ 0 ∧ n ≠ c2
        · exact ⟨s2, c2, if_pos hc, hl2⟩
        · exact ⟨s2, 0, (if_neg hc).trans (Se_over b s2 hl2), hl2⟩
    · have iha := ev_both N a (by simp only [sz, szm] at hN; omega) ha
      have ihb := ev_both N b (by simp only [sz, szm] at hN; omega) hb
      have e1 : toX ⟨5, n, [a, b]⟩ = .fin (toX a) (toX b) := by simp [toX, toXs, mkX]
      have e2 : Xe.ev ⟨5, n, [a, b]⟩ said = (Xe.ev a said).bind fun r => if r.1.2 = false then some ((0, false), r.2) else (Xe.ev b r.2).bind fun q => if q.1.1 ≠ 0 ∨ q.1.2 = false then some q else some ((r.1.1, true), q.2) := by simp [Xe.ev, Xe.evs, Xe.node, Xe.second]
      have e3 : Se.ev ⟨5, n, [a, b]⟩ said = (Se.ev a said).bind fun r => (Se.ev b r.1).bind fun q => if q.2 = 0 then some (q.1, r.2) else some q := by simp only [Se.ev, Se.evs, Se.node, Se.second]; rw [if_neg nl]; simp
      rw [e1, e2, e3]
      simp only [XT.eval]
      rcases (iha said hl).cases with ⟨s, c, he, hf, hg1, hl1⟩ | ⟨he, c, s, s2, c2, hf, hg2, hl2⟩
      · rw [he, hf, hg1]
        rcases (ihb s hl1).cases with ⟨s3, c3, he3, hf3, hg3, hl3⟩ | ⟨he3, c3, s3, s4, c4, hf3, hg4, hl4⟩
        · by_cases hc : c3 = 0
          · refine BB.yes s3 c ?_ ?_ ?_ hl3
            · show ((toX b).eval s).bind _ = _; rw [he3]; exact if_neg (by simpa using hc)
            · show (Xe.ev b s).bind _ = _; rw [hf3]; exact if_neg (by simpa using hc)
            · show (Se.ev b s).bind _ = _; rw [hg3]; exact if_pos hc
          · refine BB.yes s3 c3 ?_ ?_ ?_ hl3
            · show ((toX b).eval s).bind _ = _; rw [he3]; exact if_pos hc
            · show (Xe.ev b s).bind _ = _; rw [hf3]; exact if_pos (.inl hc)
            · show (Se.ev b s).bind _ = _; rw [hg3]; exact if_neg hc
        · refine BB.no ?_ ⟨c3, s3, ?_⟩ ?_
          · show ((toX b).eval s).bind _ = _; rw [he3]; rfl
          · show (Xe.ev b s).bind _ = _; rw [hf3]; exact if_pos (.inr rfl)
          · by_cases hc : c4 = 0
            · exact ⟨s4, c, by show (Se.ev b s).bind _ = _; rw [hg4]; exact if_pos hc, hl4⟩
            · exact ⟨s4, c4, by show (Se.ev b s).bind _ = _; rw [hg4]; exact if_neg hc, hl4⟩
      · rw [he, hf, hg2]
        refine BB.no rfl ⟨0, s, rfl⟩ ⟨s2, c2, ?_, hl2⟩
        show (Se.ev b s2).bind _ = _
        rw [Se_over b s2 hl2]
        rfl
/-- What EvalTree tells. -/
def evalOf (l : List S76) : List Int × Int × Bool := match treeOf l with
  | none => ([], 0, false)
  | some t => match (toX t).eval [] with
    | some (s, c) => (s, c, true)
    | none => ([], 0, false)
theorem evalOf_len (l : List S76) : (evalOf l).1.length ≤ 200 := by
  unfold evalOf
  cases ht : treeOf l with
  | none => simp
  | some t =>
    simp only
    cases he : (toX t).eval [] with
    | none => simp
    | some r => exact (((ev_both (sz t) t (Nat.le_refl _) (treeOf_gd ht)) [] (by simp)).1 r.1 r.2 he).2.2
theorem impl_evalOf (l : List S76) : impl_EvalTree.f l = some (evalOf l) := by
  unfold impl_EvalTree.f evalOf
  obtain ⟨o, h1, h2⟩ := impl_tree l
  rw [h1]
  simp only [Option.bind_some]
  cases ht : treeOf l with
  | none => rw [if_neg (by simp)]
  | some t =>
    rw [if_pos (by simp), h2 t ht]
    simp only
    obtain ⟨h3, h4⟩ := ev_both (sz t) t (Nat.le_refl _) (treeOf_gd ht) [] (by simp)
    cases he : (toX t).eval [] with
    | none =>
      obtain ⟨⟨c, s, hf⟩, _⟩ := h4 he
      rw [hf]; simp
    | some r => rw [(h3 r.1 r.2 he).1]; simp
theorem spec_evalOf (l : List S76) (hl : l.length ≤ 1048576) : Ev (fun k => spec_EvalTree.f k l) (evalOf l) := by
  unfold spec_EvalTree.f evalOf
  obtain ⟨t, h1, h2⟩ := spec_tree l hl
  refine bind_ev h1 ?_
  cases ht : treeOf l with
  | none => exact ite_f (by simp) (Ev.now _)
  | some t' =>
    obtain rfl := h2 t' ht
    refine ite_t (by simp) ?_
    obtain ⟨h3, h4⟩ := ev_both (sz t) t (Nat.le_refl _) (treeOf_gd ht) [] (by simp)
    cases he : (toX t).eval [] with
    | none =>
      obtain ⟨_, s, c, hg, hs⟩ := h4 he
      have hg' : Se.ev ⟨t.f0, t.f1, t.f2⟩ [] = some (s, c) := by cases t; exact hg
      show Ev (fun k => (Se.ev ⟨t.f0, t.f1, t.f2⟩ []).bind fun q => if q.1.length > 200 then some ([], 0, false) else some (q.1, q.2, true)) (match (toX t).eval [] with | some (s, c) => (s, c, true) | none => ([], 0, false))
      rw [he]
      exact bind_ev (a := (s, c)) (const_ev hg') (ite_t hs (Ev.now _))
    | some r =>
      obtain ⟨_, hg, hs⟩ := h3 r.1 r.2 he
      have hg' : Se.ev ⟨t.f0, t.f1, t.f2⟩ [] = some (r.1, r.2) := by cases t; exact hg
      show Ev (fun k => (Se.ev ⟨t.f0, t.f1, t.f2⟩ []).bind fun q => if q.1.length > 200 then some ([], 0, false) else some (q.1, q.2, true)) (match (toX t).eval [] with | some (s, c) => (s, c, true) | none => ([], 0, false))
      rw [he]
      exact bind_ev (a := (r.1, r.2)) (const_ev hg') (ite_f (show ¬ r.1.length > 200 by omega) (Ev.now _))
end Go.Proofs.Ytgjojppbichaiaa.Pure
namespace Go.Proofs.Ytgjojppbichaiaa.Pure
open Go.RowKit Go.Proofs.Ytgjojppbichaiaa.Q Go.Proofs.YtgjojppbichaiaaW.PrintWords Go.Proofs.YtgjojppbichaiaaW.PrintLast Go.Proofs.Ytgjojppbichaiaa.Kit

/-- Some bits from a place on. -/
def bitsN (p : Nat → Bool) : Nat → Nat → List Bool
  | _, 0 => []
  | i, m + 1 => p i :: bitsN p (i + 1) m
/-- The numbers of the bits that are set. -/
def codesN (p : Nat → Bool) : Nat → Nat → List Int
  | _, 0 => []
  | i, m + 1 => if p i = true then (i : Int) :: codesN p (i + 1) m else codesN p (i + 1) m
theorem codesN_len (p : Nat → Bool) : ∀ (m i : Nat), (codesN p i m).length ≤ m
  | 0, i => by simp [codesN]
  | m + 1, i => by
    have := codesN_len p m (i + 1)
    unfold codesN
    split <;> simp <;> omega
theorem bitsN_len (p : Nat → Bool) : ∀ (m i : Nat), (bitsN p i m).length = m
  | 0, i => rfl
  | m + 1, i => by simp [bitsN, bitsN_len p m (i + 1)]
theorem codesN_congr {p q : Nat → Bool} : ∀ (m i : Nat), (∀ j, i ≤ j → j < i + m → p j = q j) → codesN p i m = codesN q i m
  | 0, i, _ => rfl
  | m + 1, i, h => by
    simp only [codesN]
    rw [h i (Nat.le_refl _) (by omega), codesN_congr m (i + 1) (fun j h1 h2 => h j (by omega) (by omega))]
theorem bitsN_congr {p q : Nat → Bool} : ∀ (m i : Nat), (∀ j, i ≤ j → j < i + m → p j = q j) → bitsN p i m = bitsN q i m
  | 0, i, _ => rfl
  | m + 1, i, h => by
    simp only [bitsN]
    rw [h i (Nat.le_refl _) (by omega), bitsN_congr m (i + 1) (fun j h1 h2 => h j (by omega) (by omega))]
theorem codesN_ge (p : Nat → Bool) : ∀ (m i : Nat) (x : Int), x ∈ codesN p i m → (i : Int) ≤ x
  | 0, i, x, h => by simp [codesN] at h
  | m + 1, i, x, h => by
    unfold codesN at h
    split at h
    · rcases List.mem_cons.1 h with rfl | h
      · exact Int.le_refl _
      · have := codesN_ge p m (i + 1) x h; omega
    · have := codesN_ge p m (i + 1) x h; omega
theorem codesN_mem (p : Nat → Bool) : ∀ (m i j : Nat), (j : Int) ∈ codesN p i m ↔ i ≤ j ∧ j < i + m ∧ p j = true
  | 0, i, j => by simp [codesN]; omega
  | m + 1, i, j => by
    unfold codesN
    have ih := codesN_mem p m (i + 1) j
    by_cases hp : p i = true
    · rw [if_pos hp, List.mem_cons, ih]
      constructor
      · rintro (h | h)
        · obtain rfl : j = i := by omega
          exact ⟨Nat.le_refl _, by omega, hp⟩
        · exact ⟨by omega, by omega, h.2.2⟩
      · rintro ⟨h1, h2, h3⟩
        by_cases e : j = i
        · left; omega
        · right; exact ⟨by omega, by omega, h3⟩
    · rw [if_neg hp, ih]
      constructor
      · rintro h; exact ⟨by omega, by omega, h.2.2⟩
      · rintro ⟨h1, h2, h3⟩
        by_cases e : j = i
        · subst e; exact absurd h3 hp
        · exact ⟨by omega, by omega, h3⟩
/-- A number among rising ones. -/
def insS (x : Int) : List Int → List Int
  | [] => [x]
  | y :: ys => if y < x then y :: insS x ys else if y = x then y :: ys else x :: y :: ys
theorem insS_low (x : Int) : ∀ s : List Int, (∀ y ∈ s, x < y) → insS x s = x :: s
  | [], _ => rfl
  | y :: ys, h => by
    have := h y (by simp)
    unfold insS
    rw [if_neg (by omega), if_neg (by omega)]
theorem insS_codes (p : Nat → Bool) (j : Nat) : ∀ (m i : Nat), i ≤ j → j < i + m → insS (j : Int) (codesN p i m) = codesN (fun n => p n || decide (n = j)) i m
  | 0, i, h1, h2 => by omega
  | m + 1, i, h1, h2 => by
    by_cases e : i = j
    · subst e
      have hc : codesN (fun n => p n || decide (n = i)) (i + 1) m = codesN p (i + 1) m := codesN_congr m (i + 1) (fun n h _ => by
        have : ¬ n = i := by omega
        simp [this])
      simp only [codesN, decide_true, Bool.or_true, if_true]
      rw [hc]
      by_cases hp : p i = true
      · rw [if_pos hp, insS, if_neg (by omega), if_pos rfl]
      · rw [if_neg hp]
        exact insS_low _ _ (fun y hy => by have := codesN_ge p m (i + 1) y hy; omega)
    · have ih := insS_codes p j m (i + 1) (by omega) (by omega)
      have hi : (p i || decide (i = j)) = p i := by simp [e]
      simp only [codesN, hi]
      by_cases hp : p i = true
      · rw [if_pos hp, if_pos hp, insS, if_pos (by omega), ih]
      · rw [if_neg hp, if_neg hp, ih]
theorem codesN_zero (p : Nat → Bool) (i : Nat) : codesN p i 0 = [] := rfl
theorem codesN_succ (p : Nat → Bool) (i m : Nat) : codesN p i (m + 1) = if p i = true then (i : Int) :: codesN p (i + 1) m else codesN p (i + 1) m := rfl
theorem puts_codes (M : Nat) (p q : Nat → Bool) : ∀ (m i : Nat), i + m ≤ M → (codesN q i m).foldl (fun s x => insS x s) (codesN p 0 M) = codesN (fun n => p n || decide (i ≤ n ∧ n < i + m) && q n) 0 M
  | 0, i, h => by
    simp only [codesN_zero, List.foldl_nil]
    refine codesN_congr M 0 (fun j _ _ => ?_)
    have : ¬ (i ≤ j ∧ j < i + 0) := by omega
    rw [decide_eq_false this]; simp
  | m + 1, i, h => by
    rw [codesN_succ q]
    by_cases hq : q i = true
    · rw [if_pos hq, List.foldl_cons, insS_codes p i M 0 (by omega) (by omega), puts_codes M _ q m (i + 1) (by omega)]
      refine codesN_congr M 0 (fun j _ _ => ?_)
      by_cases e : j = i
      · subst e; simp [hq]
      · have e1 : decide (i + 1 ≤ j ∧ j < i + 1 + m) = decide (i ≤ j ∧ j < i + (m + 1)) := by
          apply decide_eq_decide.2; omega
        simp only [e1, e, decide_false, Bool.or_false]
    · rw [if_neg hq, puts_codes M p q m (i + 1) (by omega)]
      refine codesN_congr M 0 (fun j _ _ => ?_)
      by_cases e : j = i
      · subst e; simp [hq]
      · have e1 : decide (i + 1 ≤ j ∧ j < i + 1 + m) = decide (i ≤ j ∧ j < i + (m + 1)) := by
          apply decide_eq_decide.2; omega
        simp only [e1]
theorem puts_all (p q : Nat → Bool) : (codesN q 0 10).foldl (fun s x => insS x s) (codesN p 0 10) = codesN (fun n => p n || q n) 0 10 := by
  rw [puts_codes 10 p q 10 0 (by omega)]
  refine codesN_congr 10 0 (fun j _ h => ?_)
  have : (0 ≤ j ∧ j < 0 + 10) := by omega
  rw [decide_eq_true this]; simp
/-! ### the reference's -/
theorem putS_l0 (x : Int) : ∀ (post pre : List Int), pre.length + post.length ≤ 1048576 →
    Ev (fun k => spec_l1Put.l0 k (pre ++ post) x (pre.length : Int)) (pre ++ insS x post)
  | [], pre, hb => by
    simp at hb
    refine Ev.step (fun k => by simp only [spec_l1Put.l0]; rw [if_neg (by simp)]) ?_
    refine ite_t (by omega) (ite_t (by simp) (bind_ev (Ev.now _) (ite_t (by simp; omega) (bind_ev (Ev.now _) (ite_t (by simp; omega) (bind_ev (Ev.now _) (bind_ev (Ev.now _) (ite_t (by simp; omega) (some_ev ?_)))))))))
    simp [insS]
  | y :: post, pre, hb => by
    simp at hb
    refine Ev.step (fun k => by
      simp only [spec_l1Put.l0]
      rw [if_pos (by simp; omega), if_pos (by omega), rd_at rfl, w_succ (by omega)]) ?_
    by_cases h : y < x
    · have e0 : insS x (y :: post) = y :: insS x post := by rw [insS, if_pos h]
      refine ite_t h ?_
      rw [e0]
      have ih := putS_l0 x post (pre ++ [y]) (by simp; omega)
      simpa using ih
    · refine ite_f h ?_
      by_cases e : y = x
      · have e0 : insS x (y :: post) = y :: post := by rw [insS, if_neg h, if_pos e]
        rw [e0]
        exact ite_t e (some_ev rfl)
      · have e0 : insS x (y :: post) = x :: y :: post := by rw [insS, if_neg h, if_neg e]
        rw [e0]
        refine ite_f e ?_
        refine ite_t (by simp; omega) (bind_ev (Ev.now _) (ite_t (by simp; omega) (bind_ev (Ev.now _) (ite_t (by simp; omega) (bind_ev (Ev.now _) (bind_ev (Ev.now _) (ite_t (by simp; omega) (some_ev ?_))))))))
        simp
theorem putS_ev (x : Int) (s : List Int) (hb : s.length ≤ 1048576) : Ev (fun k => spec_l1Put.f k s x) (insS x s) := by
  have := putS_l0 x s [] (by simpa using hb)
  unfold spec_l1Put.f
  simpa using this
theorem insS_len (x : Int) : ∀ s : List Int, (insS x s).length ≤ s.length + 1
  | [] => by simp [insS]
  | y :: ys => by
    have := insS_len x ys
    unfold insS
    split
    · simp; omega
    · split <;> simp
theorem sput_ev : ∀ (s b : List Int), b.length + s.length ≤ 1000 → Ev (fun k => Sm.put k b s) (s.foldl (fun s x => insS x s) b)
  | [], b, _ => Ev.now _
  | x :: xs, b, h => by
    simp only [Sm.put, List.foldl_cons]
    simp only [List.length_cons] at h
    have := insS_len x b
    exact bind_ev (putS_ev x b (by omega)) (sput_ev xs (insS x b) (by omega))
def hitB (n : Int) (i : Nat) : Bool := decide (n = 0) || decide (n = (i : Int))
theorem sleft_codes (n : Int) (p : Nat → Bool) : ∀ (m i : Nat), Sm.left n (codesN p i m) = codesN (fun j => p j && !hitB n j) i m
  | 0, i => rfl
  | m + 1, i => by
    have ih := sleft_codes n p m (i + 1)
    simp only [codesN]
    have e : Sm.hit n (i : Int) = hitB n i := rfl
    by_cases hp : p i = true
    · rw [if_pos hp, Sm.left, e]
      by_cases hh : hitB n i = true
      · rw [if_pos hh, if_neg (by simp [hh]), ih]
      · rw [if_neg hh, if_pos (by simp [hp, hh]), ih]
    · rw [if_neg hp, if_neg (by simp [hp]), ih]
theorem scaught_iff (n : Int) (p : Nat → Bool) : ∀ (m i : Nat), Sm.caught n (codesN p i m) = true ↔ ∃ j, i ≤ j ∧ j < i + m ∧ p j = true ∧ hitB n j = true
  | 0, i => by
    simp only [codesN, Sm.caught]
    constructor
    · intro h; cases h
    · rintro ⟨j, h1, h2, _⟩; omega
  | m + 1, i => by
    have ih := scaught_iff n p m (i + 1)
    simp only [codesN]
    have e : Sm.hit n (i : Int) = hitB n i := rfl
    constructor
    · intro h
      by_cases hp : p i = true
      · rw [if_pos hp, Sm.caught, e] at h
        by_cases hh : hitB n i = true
        · exact ⟨i, Nat.le_refl _, by omega, hp, hh⟩
        · rw [if_neg hh] at h
          obtain ⟨j, h1, h2, h3⟩ := ih.1 h
          exact ⟨j, by omega, by omega, h3⟩
      · rw [if_neg hp] at h
        obtain ⟨j, h1, h2, h3⟩ := ih.1 h
        exact ⟨j, by omega, by omega, h3⟩
    · rintro ⟨j, h1, h2, h3, h4⟩
      by_cases ej : j = i
      · subst ej
        rw [if_pos h3, Sm.caught, e, if_pos h4]
      · have h5 := ih.2 ⟨j, by omega, by omega, h3, h4⟩
        by_cases hp : p i = true
        · rw [if_pos hp, Sm.caught]
          split
          · rfl
          · exact h5
        · rw [if_neg hp]; exact h5
/-! ### the program's -/
theorem xany_caught (n : Int) (p : Nat → Bool) : ∀ (m i : Nat), Xm.any n i (bitsN p i m) = Sm.caught n (codesN p i m)
  | 0, i => rfl
  | m + 1, i => by
    have ih := xany_caught n p m (i + 1)
    simp only [bitsN, codesN, Xm.any, ih]
    have e : Sm.hit n (i : Int) = hitB n i := rfl
    have e2 : Xm.hit n i (p i) = (p i && hitB n i) := rfl
    rw [e2]
    by_cases hp : p i = true
    · rw [if_pos hp, Sm.caught, e, hp]
      cases hitB n i <;> simp
    · have hp' : p i = false := by simpa using hp
      rw [if_neg hp, hp']
      simp
theorem xleft_bits (n : Int) (p : Nat → Bool) : ∀ (m i : Nat), Xm.left n i (bitsN p i m) = bitsN (fun j => p j && !hitB n j) i m
  | 0, i => rfl
  | m + 1, i => by
    simp only [bitsN, Xm.left, xleft_bits n p m (i + 1)]
    congr 1
    show (p i && !(p i && hitB n i)) = (p i && !hitB n i)
    cases p i <;> simp
theorem xzip_bits (ct : Bool) (p q : Nat → Bool) : ∀ (m i : Nat), Xm.zip ct (bitsN p i m) (bitsN q i m) = bitsN (fun j => p j || ct && q j) i m
  | 0, i => rfl
  | m + 1, i => by simp only [bitsN, Xm.zip, xzip_bits ct p q m (i + 1)]
theorem set_bits (n : Nat) (h : n < 10) : (List.replicate 10 false).set n true = bitsN (fun j => decide (j = n)) 0 10 := by
  have : n = 0 ∨ n = 1 ∨ n = 2 ∨ n = 3 ∨ n = 4 ∨ n = 5 ∨ n = 6 ∨ n = 7 ∨ n = 8 ∨ n = 9 := by omega
  rcases this with rfl | rfl | rfl | rfl | rfl | rfl | rfl | rfl | rfl | rfl <;> rfl
theorem one_codes (n : Nat) (h : n < 10) : [(n : Int)] = codesN (fun j => decide (j = n)) 0 10 := by
  have : n = 0 ∨ n = 1 ∨ n = 2 ∨ n = 3 ∨ n = 4 ∨ n = 5 ∨ n = 6 ∨ n = 7 ∨ n = 8 ∨ n = 9 := by omega
  rcases this with rfl | rfl | rfl | rfl | rfl | rfl | rfl | rfl | rfl | rfl <;> rfl
theorem no_codes : codesN (fun _ => false) 0 10 = [] := rfl
theorem no_bits : List.replicate 10 false = bitsN (fun _ => false) 0 10 := rfl
theorem gd_rai {n : Int} (h : gd ⟨2, n, []⟩) : 1 ≤ n ∧ n ≤ 9 := by
  unfold gd at h
  have h1 := h.1
  unfold cellOk at h1
  simp only at h1
  rw [if_neg (by decide), if_pos trivial] at h1
  exact (tB_iff _ _ _).1 h1
/-- Both tell the codes that a tree may raise. -/
theorem may_both : ∀ (N : Nat) (t : S72), sz t ≤ N → gd t → ∃ p : Nat → Bool, Xm.may t = some (bitsN p 0 10) ∧ Ev (fun k => Sm.may k t) (codesN p 0 10) ∧ (∀ j, j < 10 → (p j = true ↔ (toX t).may (j : Int))) ∧ (∀ c, (toX t).may c → 0 ≤ c ∧ c < 10)
  | 0, t, hN, _ => by cases t; unfold sz at hN; omega
  | N + 1, t, hN, hgd => by
    rcases gd_cases t hgd with ⟨n, rfl⟩ | ⟨n, rfl, hn⟩ | ⟨n, a, rfl, hn0, hn5, ha⟩ | ⟨n, a, b, rfl, ha, hb⟩ | ⟨n, a, b, rfl, ha, hb⟩ | ⟨n, a, b, rfl, ha, hb⟩
    · have e1 : toX ⟨1, n, []⟩ = .out n := by simp [toX, mkX]
      refine ⟨fun _ => false, ?_, ?_, fun j _ => ?_, fun c h => ?_⟩
      · unfold Xm.may Xm.node; rw [if_pos rfl]; rfl
      · unfold Sm.may Sm.node; simp only [if_true]; exact Ev.now _
      · rw [e1]; simp [XT.may]
      · rw [e1] at h; cases h
    · have e1 : toX ⟨2, n, []⟩ = .rai n := by simp [toX, mkX]
      have hb := gd_rai hgd
      obtain ⟨m, rfl⟩ : ∃ m : Nat, n = (m : Int) := ⟨n.toNat, by omega⟩
      refine ⟨fun j => decide (j = m), ?_, ?_, fun j _ => ?_, fun c h => ?_⟩
      · unfold Xm.may Xm.node; rw [if_neg (by decide), if_pos rfl, if_pos (by omega), Int.toNat_natCast, set_bits m (by omega)]
      · unfold Sm.may Sm.node
        refine ite_f (by decide) (ite_t rfl (some_ev ?_))
        exact one_codes m (by omega)
      · rw [e1]; simp only [decide_eq_true_eq]; show j = m ↔ (j : Int) = m; omega
      · rw [e1] at h; have h' : c = (m : Int) := h; omega
    · obtain ⟨p, h1, h2, h3, h4⟩ := may_both N a (by simp only [sz, szm] at hN; omega) ha
      have e1 : toX ⟨6, n, [a]⟩ = .loop n.toNat (toX a) := by simp [toX, toXs, mkX]
      by_cases hn : n = 0
      · refine ⟨fun _ => false, ?_, ?_, fun j _ => ?_, fun c h => ?_⟩
        · simp only [Xm.may, Xm.mays, Xm.node, List.getElem?_cons_zero]
          rw [if_neg (by decide), if_neg (by decide), h1]
          simp only [Option.bind_some]
          rw [if_pos (bitsN_len p 10 0)]
          simp only [Option.bind_some]
          rw [if_pos trivial, if_pos hn]; rfl
        · simp only [Sm.may, Sm.mays, Sm.node, List.getElem?_cons_zero]
          exact ite_f (by decide) (ite_f (by decide) (ite_t trivial (ite_t hn (Ev.now _))))
        · rw [e1]; simp [XT.may, hn]
        · rw [e1] at h; exact h4 c h.2
      · refine ⟨p, ?_, ?_, fun j hj => ?_, fun c h => ?_⟩
        · simp only [Xm.may, Xm.mays, Xm.node, List.getElem?_cons_zero]
          rw [if_neg (by decide), if_neg (by decide), h1]
          simp only [Option.bind_some]
          rw [if_pos (bitsN_len p 10 0)]
          simp only [Option.bind_some]
          rw [if_pos trivial, if_neg hn]
        · simp only [Sm.may, Sm.mays, Sm.node, List.getElem?_cons_zero]
          exact ite_f (by decide) (ite_f (by decide) (ite_t trivial (ite_f hn h2)))
        · rw [e1, h3 j hj]; show _ ↔ n.toNat ≠ 0 ∧ _; constructor
          · intro h; exact ⟨by omega, h⟩
          · intro h; exact h.2
        · rw [e1] at h; exact h4 c h.2
    · obtain ⟨p, h1, h2, h3, h4⟩ := may_both N a (by simp only [sz, szm] at hN; omega) ha
      obtain ⟨q, g1, g2, g3, g4⟩ := may_both N b (by simp only [sz, szm] at hN; omega) hb
      have e1 : toX ⟨3, n, [a, b]⟩ = .seq (toX a) (toX b) := by simp [toX, toXs, mkX]
      refine ⟨fun j => p j || q j, ?_, ?_, fun j hj => ?_, fun c h => ?_⟩
      · simp only [Xm.may, Xm.mays, Xm.node, Xm.second, List.getElem?_cons_zero, List.getElem?_cons_succ]
        rw [if_neg (by decide), if_neg (by decide), h1, g1]
        simp only [Option.bind_some]
        rw [if_pos (bitsN_len p 10 0), if_pos (bitsN_len q 10 0)]
        simp only [Option.bind_some]
        rw [if_neg (by decide), if_neg (by decide), xzip_bits]; simp
      · simp only [Sm.may, Sm.mays, Sm.node, Sm.second, List.getElem?_cons_zero, List.getElem?_cons_succ]
        refine ite_f (by decide) (ite_f (by decide) (ite_f (by decide) (bind_ev h2 (ite_f (by decide) (bind_ev (a := codesN q 0 10) (bind_ev g2 (ite_t (by have := codesN_len q 10 0; omega) (Ev.now _))) ?_)))))
        have := sput_ev (codesN q 0 10) (codesN p 0 10) (by have := codesN_len q 10 0; have := codesN_len p 10 0; omega)
        rw [puts_all] at this; exact this
      · rw [e1]; simp only [Bool.or_eq_true]; rw [h3 j hj, g3 j hj]; rfl
      · rw [e1] at h; rcases h with h | h
        · exact h4 c h
        · exact g4 c h
    · obtain ⟨p, h1, h2, h3, h4⟩ := may_both N a (by simp only [sz, szm] at hN; omega) ha
      obtain ⟨q, g1, g2, g3, g4⟩ := may_both N b (by simp only [sz, szm] at hN; omega) hb
      have e1 : toX ⟨4, n, [a, b]⟩ = .cat n (toX a) (toX b) := by simp [toX, toXs, mkX]
      have hx : Xm.may ⟨4, n, [a, b]⟩ = some (bitsN (fun j => (p j && !hitB n j) || Sm.caught n (codesN p 0 10) && q j) 0 10) := by
        simp only [Xm.may, Xm.mays, Xm.node, Xm.second, List.getElem?_cons_zero, List.getElem?_cons_succ]
        rw [if_neg (by decide), if_neg (by decide), h1, g1]
        simp only [Option.bind_some]
        rw [if_pos (bitsN_len p 10 0), if_pos (bitsN_len q 10 0)]
        simp only [Option.bind_some]
        rw [if_neg (by decide), if_pos trivial, xany_caught, xleft_bits, xzip_bits]
      refine ⟨_, hx, ?_, fun j hj => ?_, fun c h => ?_⟩
      · simp only [Sm.may, Sm.mays, Sm.node, Sm.second, List.getElem?_cons_zero, List.getElem?_cons_succ]
        refine ite_f (by decide) (ite_f (by decide) (ite_f (by decide) (bind_ev h2 (ite_t trivial (ite_t (by have := codesN_len p 10 0; omega) ?_)))))
        rw [sleft_codes]
        cases hc : Sm.caught n (codesN p 0 10) with
        | true =>
          refine ite_t rfl (bind_ev (a := codesN q 0 10) (bind_ev g2 (ite_t (by have := codesN_len q 10 0; omega) (Ev.now _))) ?_)
          have := sput_ev (codesN q 0 10) (codesN (fun j => p j && !hitB n j) 0 10) (by have := codesN_len q 10 0; have := codesN_len (fun j => p j && !hitB n j) 10 0; omega)
          rw [puts_all] at this
          simpa using this
        | false =>
          refine ite_f (by decide) (some_ev ?_)
          simp
      · rw [e1]
        show _ ↔ ((toX a).may j ∧ ¬ (n = 0 ∨ n = j)) ∨ ((∃ d, (toX a).may d ∧ (n = 0 ∨ n = d)) ∧ (toX b).may j)
        rw [← h3 j hj, ← g3 j hj]
        simp only [Bool.or_eq_true, Bool.and_eq_true, Bool.not_eq_true', scaught_iff]
        have hh : ∀ i : Nat, hitB n i = true ↔ (n = 0 ∨ n = (i : Int)) := fun i => by simp [hitB]
        have hh2 : hitB n j = false ↔ ¬ (n = 0 ∨ n = (j : Int)) := by rw [← hh j]; simp
        rw [hh2]
        refine or_congr Iff.rfl (and_congr ⟨?_, ?_⟩ Iff.rfl)
        · rintro ⟨i, _, hi, hp, hk⟩
          exact ⟨i, (h3 i (by omega)).1 hp, (hh i).1 hk⟩
        · rintro ⟨d, hd, hk⟩
          have hb := h4 d hd
          obtain ⟨i, rfl⟩ : ∃ i : Nat, d = (i : Int) := ⟨d.toNat, by omega⟩
          exact ⟨i, by omega, by omega, (h3 i (by omega)).2 hd, (hh i).2 hk⟩
      · rw [e1] at h; rcases h with h | h
        · exact h4 c h.1
        · exact g4 c h.2
    · obtain ⟨p, h1, h2, h3, h4⟩ := may_both N a (by simp only [sz, szm] at hN; omega) ha
      obtain ⟨q, g1, g2, g3, g4⟩ := may_both N b (by simp only [sz, szm] at hN; omega) hb
      have e1 : toX ⟨5, n, [a, b]⟩ = .fin (toX a) (toX b) := by simp [toX, toXs, mkX]
      refine ⟨fun j => p j || q j, ?_, ?_, fun j hj => ?_, fun c h => ?_⟩
      · simp only [Xm.may, Xm.mays, Xm.node, Xm.second, List.getElem?_cons_zero, List.getElem?_cons_succ]
        rw [if_neg (by decide), if_neg (by decide), h1, g1]
        simp only [Option.bind_some]
        rw [if_pos (bitsN_len p 10 0), if_pos (bitsN_len q 10 0)]
        simp only [Option.bind_some]
        rw [if_neg (by decide), if_neg (by decide), xzip_bits]; simp
      · simp only [Sm.may, Sm.mays, Sm.node, Sm.second, List.getElem?_cons_zero, List.getElem?_cons_succ]
        refine ite_f (by decide) (ite_f (by decide) (ite_f (by decide) (bind_ev h2 (ite_f (by decide) (bind_ev (a := codesN q 0 10) (bind_ev g2 (ite_t (by have := codesN_len q 10 0; omega) (Ev.now _))) ?_)))))
        have := sput_ev (codesN q 0 10) (codesN p 0 10) (by have := codesN_len q 10 0; have := codesN_len p 10 0; omega)
        rw [puts_all] at this; exact this
      · rw [e1]; simp only [Bool.or_eq_true]; rw [h3 j hj, g3 j hj]; rfl
      · rw [e1] at h; rcases h with h | h
        · exact h4 c h
        · exact g4 c h
theorem codes_bits (p : Nat → Bool) : ∀ (m i : Nat), impl_MayRaise.codes i (bitsN p i m) = codesN p i m
  | 0, i => rfl
  | m + 1, i => by simp only [bitsN, impl_MayRaise.codes, codesN, codes_bits p m (i + 1)]
/-- What MayRaise tells. -/
def mayOf (l : List S76) : List Int × Bool := match treeOf l with
  | none => ([], false)
  | some t => match Xm.may t with
    | some r => (impl_MayRaise.codes 0 r, true)
    | none => ([], false)
theorem mayOf_len (l : List S76) : (mayOf l).1.length ≤ 10 := by
  unfold mayOf
  cases ht : treeOf l with
  | none => simp
  | some t =>
    obtain ⟨p, h1, _⟩ := may_both (sz t) t (Nat.le_refl _) (treeOf_gd ht)
    simp only [h1, codes_bits]
    exact codesN_len p 10 0
theorem impl_mayOf (l : List S76) : impl_MayRaise.f l = some (mayOf l) := by
  unfold impl_MayRaise.f mayOf
  obtain ⟨o, h1, h2⟩ := impl_tree l
  rw [h1]
  simp only [Option.bind_some]
  cases ht : treeOf l with
  | none => rw [if_neg (by simp)]
  | some t =>
    obtain ⟨p, h3, _⟩ := may_both (sz t) t (Nat.le_refl _) (treeOf_gd ht)
    rw [if_pos (by simp), h2 t ht]
    simp only [h3, Option.bind_some]
    rw [if_pos (bitsN_len p 10 0)]
theorem spec_mayOf (l : List S76) (hl : l.length ≤ 1048576) : Ev (fun k => spec_MayRaise.f k l) (mayOf l) := by
  unfold spec_MayRaise.f mayOf
  obtain ⟨t, h1, h2⟩ := spec_tree l hl
  refine bind_ev h1 ?_
  cases ht : treeOf l with
  | none => exact ite_f (by simp) (Ev.now _)
  | some t' =>
    obtain rfl := h2 t' ht
    refine ite_t (by simp) ?_
    obtain ⟨p, h3, h4, _⟩ := may_both (sz t) t (Nat.le_refl _) (treeOf_gd ht)
    simp only [h3, codes_bits]
    exact bind_ev (a := codesN p 0 10) (by cases t; exact h4) (Ev.now _)
end Go.Proofs.Ytgjojppbichaiaa.Pure
namespace Go.Proofs.Ytgjojppbichaiaa.Pure
open Go.RowKit Go.Proofs.Ytgjojppbichaiaa.Q Go.Proofs.YtgjojppbichaiaaW.PrintWords Go.Proofs.YtgjojppbichaiaaW.PrintLast Go.Proofs.Ytgjojppbichaiaa.Kit

def Bytes (c : List Int) : Prop := ∀ x ∈ c, 0 ≤ x ∧ x ≤ 255
theorem byte_at {c : List Int} (hc : Bytes c) {a : Int} (h0 : 0 ≤ a) (h1 : a < c.length) : 0 ≤ rd c a ∧ rd c a ≤ 255 := by
  have e : rd c a ∈ c := by
    have h : a.toNat < c.length := by omega
    have : rd c a = c[a.toNat] := by simp [rd, List.getD, h]
    rw [this]; exact List.getElem_mem h
  exact hc _ e
theorem bytes_of {c : List Int} (hw : ∀ x ∈ c, (Lit.int .u8 x).wf = true) : Bytes c := by
  intro x hx
  have := hw x hx
  simp [Lit.wf] at this
  have h1 : IntKind.u8.min = 0 := by decide
  have h2 : IntKind.u8.max = 255 := by decide
  omega
theorem top_byte (x : Int) : 0 ≤ wrap64 (Go.bits .and .u64 ((IntKind.u64.wrap x) / 1099511627776) 255) ∧ wrap64 (Go.bits .and .u64 ((IntKind.u64.wrap x) / 1099511627776) 255) ≤ 255 := by
  rw [IntKind.wrap_u64]
  have h0 : 0 ≤ x % 18446744073709551616 / 1099511627776 := by omega
  have h1 : x % 18446744073709551616 / 1099511627776 < 18446744073709551616 := by omega
  rw [u64_and _ 255 h0 h1 (by omega) (by omega)]
  have h2 : (x % 18446744073709551616 / 1099511627776).toNat &&& (255 : Int).toNat ≤ 255 := Nat.and_le_right
  rw [w64 (by omega) (by omega)]
  omega
theorem next_ok {c : List Int} (hc : Bytes c) {a : Int} (s : Int) (h0 : 0 ≤ a) (h1 : a < 2305843009213693952) : ∃ v s', spec_l1Cur_next.f c a s = some (v, a + 1, s') ∧ 0 ≤ v ∧ v ≤ 255 := by
  unfold spec_l1Cur_next.f
  rw [w64 (x := a + 1) (by omega) (by omega)]
  by_cases h : a < (c.length : Int)
  · rw [if_pos h, if_pos h0, if_pos (by omega)]
    have hb := byte_at hc h0 h
    exact ⟨_, _, rfl, by rw [w64 (by omega) (by omega)]; exact hb.1, by rw [w64 (by omega) (by omega)]; exact hb.2⟩
  · rw [if_neg h, if_neg (by omega)]
    exact ⟨_, _, rfl, (top_byte _).1, (top_byte _).2⟩
theorem cpick_ok {c : List Int} (hc : Bytes c) {a : Int} (s : Int) (n : Int) (h0 : 0 ≤ a) (h1 : a < 1152921504606846976) : ∃ r a' s', spec_l1Cur_pick.f c a s n = some (r, a', s') ∧ 0 ≤ r ∧ (1 ≤ n → r < n) ∧ a ≤ a' ∧ a' ≤ a + 2 := by
  unfold spec_l1Cur_pick.f
  by_cases h : n ≤ 1
  · rw [if_pos h]; exact ⟨0, a, s, rfl, by omega, by omega, by omega, by omega⟩
  · rw [if_neg h]
    obtain ⟨v, s1, e1, v0, v1⟩ := next_ok hc s h0 (by omega)
    rw [e1]
    simp only [Option.bind_some]
    by_cases h2 : n > 200
    · rw [if_pos h2]
      obtain ⟨v2, s2, e2, w0, w1⟩ := next_ok hc s1 (a := a + 1) (by omega) (by omega)
      rw [e2]
      simp only [Option.bind_some]
      rw [if_neg (by omega)]
      refine ⟨_, _, _, rfl, ?_, fun _ => ?_, by omega, by omega⟩
      · rw [w64 (x := v * 256) (by omega) (by omega), w64 (by omega) (by omega)]; exact Int.tmod_nonneg _ (by omega)
      · exact Int.tmod_lt_of_pos _ (by omega)
    · rw [if_neg h2, if_neg (by omega)]
      exact ⟨_, _, _, rfl, Int.tmod_nonneg _ v0, fun _ => Int.tmod_lt_of_pos _ (by omega), by omega, by omega⟩
theorem one_ok {c : List Int} (hc : Bytes c) {a : Int} (s : Int) (n : Int) (h0 : 0 ≤ a) (h1 : a < 1152921504606846976) : ∃ b a' s', spec_l1Cur_one.f c a s n = some (b, a', s') ∧ a ≤ a' ∧ a' ≤ a + 2 := by
  obtain ⟨r, a', s', e, _, _, h2, h3⟩ := cpick_ok hc s n h0 h1
  unfold spec_l1Cur_one.f
  rw [e]
  exact ⟨_, _, _, rfl, h2, h3⟩
theorem among_ok {c : List Int} (hc : Bytes c) {a : Int} (s : Int) (l : List Int) (hl : 1 ≤ l.length) (h0 : 0 ≤ a) (h1 : a < 1152921504606846976) : ∃ r a' s', spec_l1Cur_among.f c a s l = some (r, a', s') ∧ r ∈ l ∧ a ≤ a' ∧ a' ≤ a + 2 := by
  obtain ⟨r, a', s', e, r0, r1, h2, h3⟩ := cpick_ok hc s (l.length : Int) h0 h1
  unfold spec_l1Cur_among.f
  rw [e]
  simp only [Option.bind_some]
  have := r1 (by omega)
  rw [if_pos r0, if_pos this]
  refine ⟨_, _, _, rfl, ?_, h2, h3⟩
  have h : r.toNat < l.length := by omega
  have : rd l r = l[r.toNat] := by simp [rd, List.getD, h]
  rw [this]; exact List.getElem_mem h
end Go.Proofs.Ytgjojppbichaiaa.Pure
namespace Go.Proofs.Ytgjojppbichaiaa.Pure
open Go.RowKit Go.Proofs.Ytgjojppbichaiaa.Q Go.Proofs.YtgjojppbichaiaaW.PrintWords Go.Proofs.YtgjojppbichaiaaW.PrintLast Go.Proofs.Ytgjojppbichaiaa.Kit

/-- How many bytes a drawn tree takes at most, and how many cells it has. -/
def wd : Nat → Int
  | 0 => 10
  | d + 1 => 10 + 2 * wd d
def fd : Nat → Nat
  | 0 => 1
  | d + 1 => 1 + 2 * fd d
theorem wd_pos : ∀ d, 10 ≤ wd d
  | 0 => by simp [wd]
  | d + 1 => by have := wd_pos d; simp only [wd]; omega
theorem fd_pos : ∀ d, 1 ≤ fd d
  | 0 => by simp [fd]
  | d + 1 => by have := fd_pos d; simp only [fd]; omega
section
variable {c : List Int} (hc : Bytes c)
include hc
theorem tr_leaf (x1 : Int) {a : Int} (s : Int) (h0 : 0 ≤ a) (h1 : a ≤ 1000000000) :
    ∃ (t : S72) (a' s' : Int), Ev (fun k => spec_l1Cur_tree16.j0 k x1 true c a s) (t.f0, t.f1, t.f2, a', s') ∧ a ≤ a' ∧ a' ≤ a + 4 ∧ (Fl.flat t).length = 1 := by
  obtain ⟨b, a1, s1, e1, p0, p1⟩ := one_ok hc s 3 h0 (by omega)
  cases b with
  | true =>
    obtain ⟨r, a2, s2, e2, r0, r1, q0, q1⟩ := cpick_ok hc s1 3 (a := a1) (by omega) (by omega)
    refine ⟨⟨2, wrap64 (1 + r), []⟩, a2, s2, ?_, by omega, by omega, by simp [Fl.flat, Fl.flats]⟩
    refine Ev.step (fun k => by simp only [spec_l1Cur_tree16.j0]; rw [if_pos trivial]) ?_
    exact bind_ev (const_ev e1) (ite_t rfl (bind_ev (const_ev e2) (Ev.now _)))
  | false =>
    obtain ⟨r, a2, s2, e2, r0, r1, q0, q1⟩ := cpick_ok hc s1 9 (a := a1) (by omega) (by omega)
    refine ⟨⟨1, r, []⟩, a2, s2, ?_, by omega, by omega, by simp [Fl.flat, Fl.flats]⟩
    refine Ev.step (fun k => by simp only [spec_l1Cur_tree16.j0]; rw [if_pos trivial]) ?_
    exact bind_ev (const_ev e1) (ite_f (by simp) (bind_ev (const_ev e2) (Ev.now _)))
theorem tr_j1 (d : Nat) (hd : d ≤ 10) (IH : ∀ (a s : Int), 0 ≤ a → a + wd d ≤ 1000000000 → ∃ (t : S72) (a' s' : Int), Ev (fun k => spec_l1Cur_tree16.f k c a s (d : Int)) (t.f0, t.f1, t.f2, a', s') ∧ a ≤ a' ∧ a' ≤ a + wd d ∧ (Fl.flat t).length ≤ fd d)
    (kd n : Int) {a : Int} (s : Int) (h0 : 0 ≤ a) (h1 : a + 2 * wd d ≤ 1000000000) :
    ∃ (t : S72) (a' s' : Int), Ev (fun k => spec_l1Cur_tree16.j1 k ((d + 1 : Nat) : Int) c a s kd n) (t.f0, t.f1, t.f2, a', s') ∧ a ≤ a' ∧ a' ≤ a + 2 * wd d ∧ (Fl.flat t).length ≤ 1 + 2 * fd d := by
  have hp := wd_pos d
  have hw : wrap64 (((d + 1 : Nat) : Int) - 1) = (d : Int) := by rw [w64 (by omega) (by omega)]; omega
  obtain ⟨t, a1, s1, e1, p0, p1, p2⟩ := IH a s h0 (by omega)
  by_cases h6 : kd = 6
  · refine ⟨⟨kd, n, [t]⟩, a1, s1, ?_, p0, by omega, by simp [Fl.flat, Fl.flats]; omega⟩
    refine Ev.step (fun k => by simp only [spec_l1Cur_tree16.j1]; rw [hw]) ?_
    exact bind_ev e1 (ite_t (by simp) (bind_ev (Ev.now _) (ite_t h6 (some_ev (by cases t; rfl)))))
  · obtain ⟨u, a2, s2, e2, q0, q1, q2⟩ := IH a1 s1 (by omega) (by omega)
    refine ⟨⟨kd, n, [t, u]⟩, a2, s2, ?_, by omega, by omega, by simp [Fl.flat, Fl.flats]; omega⟩
    refine Ev.step (fun k => by simp only [spec_l1Cur_tree16.j1]; rw [hw]) ?_
    exact bind_ev e1 (ite_t (by simp) (bind_ev (Ev.now _) (ite_f h6 (bind_ev e2 (ite_t (by simp) (some_ev (by cases t; cases u; rfl)))))))
theorem tree_ok : ∀ (d : Nat), d ≤ 10 → ∀ (a s : Int), 0 ≤ a → a + wd d ≤ 1000000000 → ∃ (t : S72) (a' s' : Int), Ev (fun k => spec_l1Cur_tree16.f k c a s (d : Int)) (t.f0, t.f1, t.f2, a', s') ∧ a ≤ a' ∧ a' ≤ a + wd d ∧ (Fl.flat t).length ≤ fd d
  | 0, _, a, s, h0, h1 => by
    have hp := wd_pos 0
    obtain ⟨t, a', s', e, p0, p1, p2⟩ := tr_leaf hc 0 s h0 (by omega)
    refine ⟨t, a', s', (by refine Ev.step (fun k => by simp only [spec_l1Cur_tree16.f]; rfl) ?_; exact ite_t (by omega) e), p0, by simp only [wd] at *; omega, by simp only [fd]; omega⟩
  | d + 1, hd, a, s, h0, h1 => by
    have hp := wd_pos d
    simp only [wd] at h1
    obtain ⟨b, a1, s1, e1, p0, p1⟩ := one_ok hc s 5 h0 (by omega)
    have go : ∀ R, Ev (fun k => spec_l1Cur_tree16.j0 k ((d + 1 : Nat) : Int) b c a1 s1) R → Ev (fun k => spec_l1Cur_tree16.f k c a s ((d + 1 : Nat) : Int)) R := by
      intro R h
      refine Ev.step (fun k => by simp only [spec_l1Cur_tree16.f]; rfl) ?_
      exact ite_f (by omega) (bind_ev (const_ev e1) h)
    cases b with
    | true =>
      obtain ⟨t, a', s', e, q0, q1, q2⟩ := tr_leaf hc ((d + 1 : Nat) : Int) s1 (a := a1) (by omega) (by omega)
      exact ⟨t, a', s', go _ e, by omega, by simp only [wd]; omega, by simp only [fd]; omega⟩
    | false =>
      obtain ⟨r, a2, s2, e2, _, q0, q1⟩ := among_ok hc s1 [3, 3, 3, 4, 4, 5, 6] (by simp) (a := a1) (by omega) (by omega)
      have fin : ∀ (n : Int) (a3 s3 : Int), a2 ≤ a3 → a3 ≤ a2 + 2 → Ev (fun k => spec_l1Cur_tree16.j1 k ((d + 1 : Nat) : Int) c a3 s3 r n) = Ev (fun k => spec_l1Cur_tree16.j1 k ((d + 1 : Nat) : Int) c a3 s3 r n) → ∃ (t : S72) (a' s' : Int), Ev (fun k => spec_l1Cur_tree16.j1 k ((d + 1 : Nat) : Int) c a3 s3 r n) (t.f0, t.f1, t.f2, a', s') ∧ a3 ≤ a' ∧ a' ≤ a3 + 2 * wd d ∧ (Fl.flat t).length ≤ 1 + 2 * fd d := fun n a3 s3 h2 h3 _ => tr_j1 hc d (by omega) (tree_ok d (by omega)) r n s3 (by omega) (by omega)
      have go2 : ∀ R, Ev (fun k => if r = 4 then ((spec_l1Cur_pick.f c a2 s2 4).bind fun bt267 => (spec_l1Cur_tree16.j1 k ((d + 1 : Nat) : Int) c bt267.2.1 bt267.2.2 r bt267.1)) else (if r = 6 then ((spec_l1Cur_pick.f c a2 s2 4).bind fun bt270 => (spec_l1Cur_tree16.j1 k ((d + 1 : Nat) : Int) c bt270.2.1 bt270.2.2 r bt270.1)) else (spec_l1Cur_tree16.j1 k ((d + 1 : Nat) : Int) c a2 s2 r 0))) R → Ev (fun k => spec_l1Cur_tree16.j0 k ((d + 1 : Nat) : Int) false c a1 s1) R := by
        intro R h
        refine Ev.step (fun k => by simp only [spec_l1Cur_tree16.j0]; rw [if_neg (by simp)]) ?_
        exact bind_ev (const_ev e2) h
      obtain ⟨n, a3, s3, e3, _, _, w0, w1⟩ := cpick_ok hc s2 4 (a := a2) (by omega) (by omega)
      by_cases h4 : r = 4
      · obtain ⟨t, a', s', e, x0, x1, x2⟩ := fin n a3 s3 w0 w1 rfl
        exact ⟨t, a', s', go _ (go2 _ (ite_t h4 (bind_ev (const_ev e3) e))), by omega, by simp only [wd]; omega, by simp only [fd]; omega⟩
      · by_cases h6 : r = 6
        · obtain ⟨t, a', s', e, x0, x1, x2⟩ := fin n a3 s3 w0 w1 rfl
          exact ⟨t, a', s', go _ (go2 _ (ite_f h4 (ite_t h6 (bind_ev (const_ev e3) e)))), by omega, by simp only [wd]; omega, by simp only [fd]; omega⟩
        · obtain ⟨t, a', s', e, x0, x1, x2⟩ := fin 0 a2 s2 (by omega) (by omega) rfl
          exact ⟨t, a', s', go _ (go2 _ (ite_f h4 (ite_f h6 e))), by omega, by simp only [wd]; omega, by simp only [fd]; omega⟩
theorem flat_ok {t : S72} (h : (Fl.flat t).length ≤ 1000) : spec_l16Flat.f t.f0 t.f1 t.f2 [] = some (Fl.flat t) := by
  obtain ⟨k, n, ts⟩ := t
  unfold spec_l16Flat.f
  rw [if_pos (by simp only [List.length_nil]; omega)]; simp
theorem flat_pos (t : S72) : 1 ≤ (Fl.flat t).length := by cases t; simp [Fl.flat]
theorem xt_j1 (l : List S76) (hl : 1 ≤ l.length) (hl2 : l.length ≤ 1000) {a : Int} (s : Int) (h0 : 0 ≤ a) (h1 : a ≤ 100000000) :
    ∃ l' a' s', Ev (fun k => spec_l1Cur_xtree.j1 k l c a s) (l', a', s') ∧ l'.length = l.length ∧ a ≤ a' ∧ a' ≤ a + 8 := by
  obtain ⟨b, a1, s1, e1, p0, p1⟩ := one_ok hc s 30 h0 (by omega)
  have go : ∀ R, Ev (fun k => if b = true then ((spec_l1Cur_pick.f c a1 s1 (l.length : Int)).bind fun bt322 => ((spec_l1Cur_pick.f c bt322.2.1 bt322.2.2 8).bind fun bt325 => ((spec_l1Cur_pick.f c bt325.2.1 bt325.2.2 11).bind fun bt328 => (if 0 ≤ bt322.1 then (if bt322.1 < (l.length : Int) then (some ((l.set (bt322.1 : Int).toNat (⟨bt325.1, bt328.1⟩ : S76)), bt328.2.1, bt328.2.2)) else (none)) else (none))))) else (some (l, a1, s1))) R → Ev (fun k => spec_l1Cur_xtree.j1 k l c a s) R := by
    intro R h
    refine Ev.step (fun k => by simp only [spec_l1Cur_xtree.j1]; rfl) ?_
    exact bind_ev (const_ev e1) h
  by_cases hb : b = true
  · obtain ⟨r, a2, s2, e2, r0, r1, q0, q1⟩ := cpick_ok hc s1 (l.length : Int) (a := a1) (by omega) (by omega)
    obtain ⟨x, a3, s3, e3, _, _, w0, w1⟩ := cpick_ok hc s2 8 (a := a2) (by omega) (by omega)
    obtain ⟨y, a4, s4, e4, _, _, z0, z1⟩ := cpick_ok hc s3 11 (a := a3) (by omega) (by omega)
    exact ⟨l.set r.toNat ⟨x, y⟩, a4, s4, go _ (ite_t hb (bind_ev (const_ev e2) (bind_ev (const_ev e3) (bind_ev (const_ev e4) (ite_t r0 (ite_t (r1 (by omega)) (Ev.now _))))))), by simp, by omega, by omega⟩
  · exact ⟨l, a1, s1, go _ (ite_f hb (Ev.now _)), rfl, by omega, by omega⟩
theorem xt_j0 (l : List S76) (hl : 1 ≤ l.length) (hl2 : l.length ≤ 1000) (b : Bool) {a : Int} (s : Int) (h0 : 0 ≤ a) (h1 : a ≤ 90000000) :
    ∃ l' a' s', Ev (fun k => spec_l1Cur_xtree.j0 k l b c a s) (l', a', s') ∧ l'.length ≤ 1000 ∧ a ≤ a' ∧ a' ≤ a + 1000 := by
  cases b with
  | true =>
    obtain ⟨t, a1, s1, e1, p0, p1, p2⟩ := tree_ok hc 2 (by omega) a s h0 (by simp [wd]; omega)
    have h3 : wd 2 = 70 := rfl
    have h4 : fd 2 = 7 := rfl
    obtain ⟨l', a', s', e, q0, q1, q2⟩ := xt_j1 hc (Fl.flat t) (flat_pos hc t) (by omega) s1 (a := a1) (by omega) (by omega)
    refine ⟨l', a', s', ?_, by omega, by omega, by omega⟩
    refine Ev.step (fun k => by simp only [spec_l1Cur_xtree.j0]; rw [if_pos trivial]) ?_
    exact bind_ev e1 (bind_ev (const_ev (flat_ok hc (by omega))) e)
  | false =>
    obtain ⟨l', a', s', e, q0, q1, q2⟩ := xt_j1 hc l hl hl2 s (a := a) (by omega) (by omega)
    refine ⟨l', a', s', ?_, by omega, by omega, by omega⟩
    refine Ev.step (fun k => by simp only [spec_l1Cur_xtree.j0]; rw [if_neg (by simp)]) ?_
    exact e
theorem xtree_ok {a : Int} (s : Int) (h0 : 0 ≤ a) (h1 : a ≤ 80000000) :
    ∃ l' a' s', Ev (fun k => spec_l1Cur_xtree.f k c a s) (l', a', s') ∧ l'.length ≤ 1000 ∧ a ≤ a' ∧ a' ≤ a + 2000 := by
  obtain ⟨r, a1, s1, e1, r0, r1, p0, p1⟩ := cpick_ok hc s 5 h0 (by omega)
  obtain ⟨d, rfl⟩ : ∃ d : Nat, r = (d : Int) := ⟨r.toNat, by omega⟩
  have hd : d ≤ 4 := by have := r1 (by omega); omega
  have hw : wd d ≤ 310 ∧ fd d ≤ 31 := by
    have : d = 0 ∨ d = 1 ∨ d = 2 ∨ d = 3 ∨ d = 4 := by omega
    rcases this with rfl | rfl | rfl | rfl | rfl <;> decide
  obtain ⟨t, a2, s2, e2, q0, q1, q2⟩ := tree_ok hc d (by omega) a1 s1 (by omega) (by omega)
  have go : ∀ R, Ev (fun k => if ((Fl.flat t).length : Int) > 30 then ((spec_l1Cur_one.f c a2 s2 4).bind fun bt306 => (spec_l1Cur_xtree.j0 k (Fl.flat t) (!bt306.1) c bt306.2.1 bt306.2.2)) else (spec_l1Cur_xtree.j0 k (Fl.flat t) false c a2 s2)) R → Ev (fun k => spec_l1Cur_xtree.f k c a s) R := by
    intro R h
    unfold spec_l1Cur_xtree.f
    exact bind_ev (const_ev e1) (bind_ev e2 (bind_ev (const_ev (flat_ok hc (by omega))) h))
  have hp := flat_pos hc t
  by_cases h30 : ((Fl.flat t).length : Int) > 30
  · obtain ⟨b, a3, s3, e3, w0, w1⟩ := one_ok hc s2 4 (a := a2) (by omega) (by omega)
    obtain ⟨l', a', s', e, x0, x1, x2⟩ := xt_j0 hc (Fl.flat t) hp (by omega) (!b) s3 (a := a3) (by omega) (by omega)
    exact ⟨l', a', s', go _ (ite_t h30 (bind_ev (const_ev e3) e)), x0, by omega, by omega⟩
  · obtain ⟨l', a', s', e, x0, x1, x2⟩ := xt_j0 hc (Fl.flat t) hp (by omega) false s2 (a := a2) (by omega) (by omega)
    exact ⟨l', a', s', go _ (ite_f h30 e), x0, by omega, by omega⟩
end
end Go.Proofs.Ytgjojppbichaiaa.Pure
namespace Go.Proofs.Ytgjojppbichaiaa.Pure
open Go.RowKit Go.Proofs.Ytgjojppbichaiaa.Q Go.Proofs.YtgjojppbichaiaaW.PrintWords Go.Proofs.YtgjojppbichaiaaW.PrintLast Go.Proofs.Ytgjojppbichaiaa.Kit Go.Proofs.Ytgjojppbichaiaa.Wf
/-- Is the guard there for a step and a code? -/
def hits (a c : Int) (g : S63) : Bool := decide (a ≥ g.f0) && decide (a < g.f1) && (decide (g.f2 = 0) || decide (g.f2 = c))
def gI (a c : Int) : Nat → List S63 → Int
  | _, [] => -1
  | i, g :: gs => if hits a c g = true then (i : Int) else gI a c (i + 1) gs
theorem gI_ge (a c : Int) : ∀ (i : Nat) (gs : List S63), -1 ≤ gI a c i gs
  | _, [] => by simp [gI]
  | i, g :: gs => by
    have := gI_ge a c (i + 1) gs
    unfold gI
    split <;> omega
theorem idx_guard (a c : Int) : ∀ (gs : List S63) (i : Nat), Kit.idxO (fun x : S63 => impl_guardAt_1.f x.f0 x.f1 x.f2 x.f3 a c) gs i = some (gI a c i gs)
  | [], i => rfl
  | g :: gs, i => by
    have e : impl_guardAt_1.f g.f0 g.f1 g.f2 g.f3 a c = some (hits a c g) := by
      unfold impl_guardAt_1.f hits
      by_cases h1 : a ≥ g.f0
      · rw [if_pos h1]
        by_cases h2 : a < g.f1
        · rw [if_pos h2]
          by_cases h3 : g.f2 = 0
          · rw [if_pos h3]; simp [h1, h2, h3]
          · rw [if_neg h3]; simp [h1, h2, h3]
            by_cases h4 : g.f2 = c <;> simp [h4]
        · rw [if_neg h2]; simp [h2]
      · rw [if_neg h1]; simp [h1]
    simp only [Kit.idxO, gI]
    rw [e]
    simp only [Option.bind_some]
    cases hits a c g
    · simpa using idx_guard a c gs (i + 1)
    · simp
theorem impl_guard (ss : List S86) (gs : List S63) (a c : Int) : impl_guardAt.f ss gs a c = some (gI a c 0 gs) := by
  unfold impl_guardAt.f impl_Guard_84_85.f
  rw [idx_guard]; rfl
end Go.Proofs.Ytgjojppbichaiaa.Pure
namespace Go.Proofs.Ytgjojppbichaiaa.Pure
open Go.RowKit Go.Proofs.Ytgjojppbichaiaa.Q Go.Proofs.YtgjojppbichaiaaW.PrintWords Go.Proofs.YtgjojppbichaiaaW.PrintLast Go.Proofs.Ytgjojppbichaiaa.Kit

/-- How a step ends: too much is told, a code is thrown, or it goes on. -/
inductive Stp where
  | fail
  | stop (said : List Int) (code : Int)
  | go (next : Int) (said : List Int) (regs : List Int)
abbrev RR := List Int × Int × Int × Bool
def Stp.then (F : Int → List Int → List Int → RR) (done : Int) : Stp → RR
  | .fail => ([], 0, 0, false)
  | .stop s c => (s, c, done, true)
  | .go a s r => F a s r
def jn (gs : List S63) (a : Int) (said regs : List Int) (code next : Int) : Stp :=
  if code = 0 then .go next said regs else if gI a code 0 gs < 0 then .stop said code else .go (rd_T63 gs (gI a code 0 gs)).f3 said (regs.set (gI a code 0 gs).toNat code)
def stp (gs : List S63) (x : S86) (a : Int) (said regs : List Int) : Stp :=
  if x.f0 = 1 then (if said.length < 200 then jn gs a (said ++ [x.f1]) regs 0 (a + 1) else .fail)
  else if x.f0 = 2 then jn gs a said regs x.f1 (a + 1)
  else if x.f0 = 3 then jn gs a said regs (rd regs x.f1) (a + 1)
  else if x.f0 = 4 then jn gs a said regs 0 x.f2
  else if x.f0 = 5 then jn gs a said (regs.set x.f1.toNat 0) 0 (a + 1)
  else if rd regs x.f1 = x.f2 then jn gs a said regs 0 (a + 1) else jn gs a said (regs.set x.f1.toNat (rd regs x.f1 + 1)) 0 (a + 2)
/-- A line's run with so much left. -/
def rn (ss : List S86) (gs : List S63) : Nat → Int → List Int → List Int → Int → RR
  | 0, a, said, regs, done => if a < (ss.length : Int) then ([], 0, 0, false) else (said, 0, done, true)
  | m + 1, a, said, regs, done => if a < (ss.length : Int) then (stp gs (rd_T86 ss a) a said regs).then (fun a s r => rn ss gs m a s r (done + 1)) (done + 1) else (said, 0, done, true)
/-- What holds at each step. -/
structure Inv (ss : List S86) (a : Int) (said regs : List Int) (done : Int) : Prop where
  a0 : 0 ≤ a
  a1 : a ≤ (ss.length : Int) + 1
  said : said.length ≤ 200
  len : regs.length = 40
  reg : ∀ v ∈ regs, 0 ≤ v ∧ v ≤ 9 + done
theorem rd_bd {regs : List Int} {d i : Int} (h : ∀ v ∈ regs, 0 ≤ v ∧ v ≤ d) (hd : 0 ≤ d) : 0 ≤ rd regs i ∧ rd regs i ≤ d := by
  unfold rd
  by_cases hi : i.toNat < regs.length
  · rw [List.getD, List.getElem?_eq_getElem hi, Option.getD_some]
    exact h _ (List.getElem_mem hi)
  · rw [List.getD, List.getElem?_eq_none (by omega)]
    exact ⟨Int.le_refl _, hd⟩
theorem set_bd {regs : List Int} {d : Int} {i : Nat} {v : Int} (h : ∀ v ∈ regs, 0 ≤ v ∧ v ≤ d) (hv : 0 ≤ v ∧ v ≤ d + 1) : ∀ u ∈ regs.set i v, 0 ≤ u ∧ u ≤ d + 1 := by
  intro u hu
  rcases List.mem_or_eq_of_mem_set hu with h1 | h1
  · have := h u h1; omega
  · rw [h1]; exact hv
theorem gI_lt (a c : Int) : ∀ (i : Nat) (gs : List S63), gI a c i gs < (i : Int) + gs.length
  | i, [] => by simp [gI]; omega
  | i, g :: gs => by
    have := gI_lt a c (i + 1) gs
    unfold gI
    split
    · simp; omega
    · simp at this ⊢; omega
theorem goodL_at {ss : List S86} {gs : List S63} (h : goodL ss gs = true) : (∀ x ∈ ss, stepOk ss.length x = true) ∧ (∀ g ∈ gs, guardOk ss.length g = true) ∧ ss.length ≤ 120 ∧ gs.length ≤ 20 := by
  unfold goodL at h
  simp only [Bool.and_eq_true, decide_eq_true_eq, List.all_eq_true] at h
  exact ⟨h.1.1.1, h.1.1.2, by omega, by omega⟩
theorem rd86_mem {ss : List S86} {a : Int} (h0 : 0 ≤ a) (h1 : a < (ss.length : Int)) : rd_T86 ss a ∈ ss := by
  unfold rd_T86
  rw [List.getD, List.getElem?_eq_getElem (by omega), Option.getD_some]
  exact List.getElem_mem _
theorem rd63_mem {gs : List S63} {a : Int} (h0 : 0 ≤ a) (h1 : a < (gs.length : Int)) : rd_T63 gs a ∈ gs := by
  unfold rd_T63
  rw [List.getD, List.getElem?_eq_getElem (by omega), Option.getD_some]
  exact List.getElem_mem _
theorem guard_at {n : Int} {g : S63} (h : guardOk n g = true) : 0 ≤ g.f3 ∧ g.f3 ≤ n := by
  unfold guardOk at h
  simp only [Bool.and_eq_true] at h
  exact (inB_iff _ _ _).1 h.2
section
variable {ss : List S86} {gs : List S63} {fuel : Int}
/-- What the code's place leads to. -/
theorem jn_inv {F : Int → List Int → List Int → RR} (hgood : goodL ss gs = true) {a : Int} {said regs : List Int} {code next done : Int} (hs : said.length ≤ 200) (hl : regs.length = 40) (hr : ∀ v ∈ regs, 0 ≤ v ∧ v ≤ 9 + (done + 1)) (hc : 0 ≤ code ∧ code ≤ 9 + done) (hn : 0 ≤ next ∧ next ≤ (ss.length : Int) + 1) :
    (code = 0 ∧ (jn gs a said regs code next).then F (done + 1) = F next said regs ∧ Inv ss next said regs (done + 1)) ∨
    (code ≠ 0 ∧ gI a code 0 gs < 0 ∧ (jn gs a said regs code next).then F (done + 1) = (said, code, done + 1, true)) ∨
    (code ≠ 0 ∧ 0 ≤ gI a code 0 gs ∧ gI a code 0 gs < 40 ∧ gI a code 0 gs < (gs.length : Int) ∧ (jn gs a said regs code next).then F (done + 1) = F (rd_T63 gs (gI a code 0 gs)).f3 said (regs.set (gI a code 0 gs).toNat code) ∧ Inv ss (rd_T63 gs (gI a code 0 gs)).f3 said (regs.set (gI a code 0 gs).toNat code) (done + 1)) := by
  obtain ⟨_, hg, _, hgl⟩ := goodL_at hgood
  by_cases h0 : code = 0
  · left
    exact ⟨h0, by unfold jn; rw [if_pos h0]; rfl, hn.1, hn.2, hs, hl, hr⟩
  · right
    by_cases h1 : gI a code 0 gs < 0
    · left; exact ⟨h0, h1, by unfold jn; rw [if_neg h0, if_pos h1]; rfl⟩
    · right
      have h2 := gI_lt a code 0 gs
      have h3 := guard_at (hg _ (rd63_mem (a := gI a code 0 gs) (by omega) (by omega)))
      refine ⟨h0, by omega, by omega, by omega, by unfold jn; rw [if_neg h0, if_neg h1]; rfl, h3.1, by omega, hs, by simpa using hl, ?_⟩
      intro v hv
      rcases List.mem_or_eq_of_mem_set hv with h1 | h1
      · exact hr v h1
      · rw [h1]; omega
theorem step_of {n : Int} {x : S86} (h : stepOk n x = true) : (x.f0 = 1) ∨ (x.f0 = 2 ∧ 1 ≤ x.f1 ∧ x.f1 ≤ 9) ∨ (x.f0 = 3 ∧ 0 ≤ x.f1 ∧ x.f1 ≤ 39) ∨ (x.f0 = 4 ∧ 0 ≤ x.f2 ∧ x.f2 ≤ n) ∨ (x.f0 = 5 ∧ 0 ≤ x.f1 ∧ x.f1 ≤ 39) ∨ (x.f0 = 6 ∧ 0 ≤ x.f1 ∧ x.f1 ≤ 39) := by
  unfold stepOk at h
  split at h
  · left; assumption
  · split at h
    · rename_i h2
      simp only [Bool.and_eq_true, inB_iff] at h
      right; left; exact ⟨h2, h.1⟩
    · split at h
      · rename_i h3
        simp only [Bool.and_eq_true, inB_iff] at h
        rcases h3 with h3 | h3
        · right; right; left; exact ⟨h3, h.1⟩
        · right; right; right; right; left; exact ⟨h3, h.1⟩
      · split at h
        · rename_i h4
          simp only [Bool.and_eq_true, inB_iff] at h
          right; right; right; left; exact ⟨h4, h.2⟩
        · split at h
          · rename_i h6
            simp only [Bool.and_eq_true, inB_iff] at h
            right; right; right; right; right; exact ⟨h6, h.1⟩
          · cases h
end
/-- What RunLined tells. -/
def runL (ss : List S86) (gs : List S63) (fuel : Int) : RR := if goodL ss gs = true ∧ inB fuel 0 2000 = true then rn ss gs fuel.toNat 0 [] (List.replicate 40 0) 0 else ([], 0, 0, false)
theorem inv0 (ss : List S86) : Inv ss 0 [] (List.replicate 40 0) 0 := ⟨Int.le_refl _, by omega, by simp, by simp, fun v hv => by rw [List.eq_of_mem_replicate hv]; omega⟩
theorem rn_len {ss : List S86} {gs : List S63} : ∀ (m : Nat) (a : Int) (said regs : List Int) (done : Int), said.length ≤ 200 → (rn ss gs m a said regs done).1.length ≤ 200
  | 0, a, said, regs, done, h => by
    unfold rn; split
    · simp
    · exact h
  | m + 1, a, said, regs, done, h => by
    have hj : ∀ (s r : List Int) (c n : Int), s.length ≤ 200 → ((jn gs a s r c n).then (fun a s r => rn ss gs m a s r (done + 1)) (done + 1)).1.length ≤ 200 := by
      intro s r c n hs
      unfold jn
      split
      · exact rn_len m _ _ _ _ hs
      · split
        · exact hs
        · exact rn_len m _ _ _ _ hs
    unfold rn; split
    · unfold stp
      split
      · split
        · exact hj _ _ _ _ (by simp; omega)
        · simp [Stp.then]
      · split
        · exact hj _ _ _ _ h
        · split
          · exact hj _ _ _ _ h
          · split
            · exact hj _ _ _ _ h
            · split
              · exact hj _ _ _ _ h
              · split <;> exact hj _ _ _ _ h
    · exact h
theorem runL_len (ss : List S86) (gs : List S63) (fuel : Int) : (runL ss gs fuel).1.length ≤ 200 := by
  unfold runL; split
  · exact rn_len _ _ _ _ _ (by simp)
  · simp
end Go.Proofs.Ytgjojppbichaiaa.Pure
namespace Go.Proofs.Ytgjojppbichaiaa.Pure
open Go.RowKit Go.Proofs.Ytgjojppbichaiaa.Q Go.Proofs.YtgjojppbichaiaaW.PrintWords Go.Proofs.YtgjojppbichaiaaW.PrintLast Go.Proofs.Ytgjojppbichaiaa.Kit

section
variable {ss : List S86} {gs : List S63} {fuel : Int}
theorem impl_j (hgood : goodL ss gs = true) {F : Int → List Int → List Int → RR} {a : Int} {said regs : List Int} {code next done : Int} (hs : said.length ≤ 200) (hl : regs.length = 40) (hd : 0 ≤ done ∧ done ≤ 2000) (hr : ∀ v ∈ regs, 0 ≤ v ∧ v ≤ 9 + (done + 1)) (hc : 0 ≤ code ∧ code ≤ 9 + done) (hn : 0 ≤ next ∧ next ≤ (ss.length : Int) + 1)
    (ih : ∀ a s r, Inv ss a s r (done + 1) → Ev (fun k => impl_runLined.l0 k fuel s r a (done + 1) ss gs) (F a s r)) :
    Ev (fun k => impl_runLined.j1 k fuel said regs a (done + 1) code next ss gs) ((jn gs a said regs code next).then F (done + 1)) := by
  obtain ⟨_, _, _, hgl⟩ := goodL_at hgood
  refine Ev.step (fun k => by simp only [impl_runLined.j1]; rw [impl_guard, Option.bind_some]) ?_
  rcases jn_inv (F := F) (a := a) hgood hs hl hr hc hn with ⟨h0, e, hi⟩ | ⟨h0, h1, e⟩ | ⟨h0, h1, h2, h3, e, hi⟩
  · rw [e]; exact ite_t h0 (ih _ _ _ hi)
  · rw [e]; exact ite_f h0 (ite_t h1 (Ev.now _))
  · rw [e]
    refine ite_f h0 (ite_f (by omega) (ite_t h1 (ite_t (by omega) (ite_t h3 ?_))))
    exact ih _ _ _ hi
theorem impl_l0r (hgood : goodL ss gs = true) (hf : fuel ≤ 2000) : ∀ (m : Nat) (a : Int) (said regs : List Int) (done : Int), Inv ss a said regs done → 0 ≤ done → done + m = fuel →
    Ev (fun k => impl_runLined.l0 k fuel said regs a done ss gs) (rn ss gs m a said regs done)
  | m, a, said, regs, done, hi, hd, hm => by
    obtain ⟨hg, _, hsl, hgl⟩ := goodL_at hgood
    refine Ev.step (fun k => by rw [impl_runLined.l0]) ?_
    by_cases h1 : a < (ss.length : Int)
    · refine ite_t h1 ?_
      cases m with
      | zero =>
        rw [rn, if_pos h1]
        exact ite_t (by omega) (Ev.now _)
      | succ m =>
        rw [rn, if_pos h1]
        refine ite_f (by omega) (ite_t hi.a0 ?_)
        have hx := step_of (hg _ (rd86_mem hi.a0 h1))
        generalize rd_T86 ss a = x at hx ⊢
        have ih : ∀ a s r, Inv ss a s r (done + 1) → Ev (fun k => impl_runLined.l0 k fuel s r a (done + 1) ss gs) (rn ss gs m a s r (done + 1)) := fun a s r h => impl_l0r hgood hf m a s r (done + 1) h (by omega) (by omega)
        have hw1 : wrap64 (a + 1) = a + 1 := w64 (by have := hi.a0; omega) (by omega)
        have hw2 : wrap64 (a + 2) = a + 2 := w64 (by have := hi.a0; omega) (by omega)
        have hrb := fun i : Int => rd_bd (i := i) hi.reg (by omega)
        have hlen := hi.len
        have ha0 := hi.a0
        have hreg : ∀ v ∈ regs, 0 ≤ v ∧ v ≤ 9 + (done + 1) := fun v hv => by have := hi.reg v hv; omega
        have hwd : wrap64 (done + 1) = done + 1 := w64 (by omega) (by omega)
        have hw2' : wrap64 (a + 1 + 1) = a + 2 := (congrArg wrap64 (by omega : a + 1 + 1 = a + 2)).trans hw2
        rw [hw1, hwd]
        unfold stp
        rcases hx with h | ⟨h, hb⟩ | ⟨h, hb⟩ | ⟨h, hb⟩ | ⟨h, hb⟩ | ⟨h, hb⟩
        · rw [if_pos h]
          refine ite_t h ?_
          have hsd := hi.said
          refine ite_t (by omega) (bind_ev (Ev.now _) ?_)
          by_cases hl : said.length < 200
          · rw [if_pos hl]
            exact ite_f (by simp; omega) (impl_j hgood (by simp; omega) hlen (by omega) hreg (by omega) (by omega) ih)
          · rw [if_neg hl]
            exact ite_t (by simp; omega) (Ev.now _)
        · rw [if_neg (by omega), if_pos h]
          exact ite_f (by omega) (ite_t h (impl_j hgood hi.said hlen (by omega) hreg (by omega) (by omega) ih))
        · rw [if_neg (by omega), if_neg (by omega), if_pos h]
          exact ite_f (by omega) (ite_f (by omega) (ite_t h (ite_t hb.1 (ite_t (by omega) (impl_j hgood hi.said hlen (by omega) hreg (hrb _) (by omega) ih)))))
        · rw [if_neg (by omega), if_neg (by omega), if_neg (by omega), if_pos h]
          exact ite_f (by omega) (ite_f (by omega) (ite_f (by omega) (ite_t h (impl_j hgood hi.said hlen (by omega) hreg (by omega) (by omega) ih))))
        · rw [if_neg (by omega), if_neg (by omega), if_neg (by omega), if_neg (by omega), if_pos h]
          refine ite_f (by omega) (ite_f (by omega) (ite_f (by omega) (ite_f (by omega) (ite_t h (ite_t hb.1 (ite_t (by omega) (impl_j hgood hi.said (by simpa using hlen) (by omega) ?_ (by omega) (by omega) ih)))))))
          intro u hu
          rcases List.mem_or_eq_of_mem_set hu with h1 | h1
          · exact hreg u h1
          · rw [h1]; omega
        · rw [if_neg (by omega), if_neg (by omega), if_neg (by omega), if_neg (by omega), if_neg (by omega)]
          have hv := hrb x.f1
          have hw3 : wrap64 (rd regs x.f1 + 1) = rd regs x.f1 + 1 := w64 (by omega) (by omega)
          refine ite_f (by omega) (ite_f (by omega) (ite_f (by omega) (ite_f (by omega) (ite_f (by omega) (ite_t h (ite_t hb.1 (ite_t (by omega) ?_)))))))
          by_cases hq : rd regs x.f1 = x.f2
          · rw [if_pos hq]
            exact ite_t hq (impl_j hgood hi.said hlen (by omega) hreg (by omega) (by omega) ih)
          · rw [if_neg hq]
            refine ite_f hq ?_
            rw [hw2', hw3]
            refine impl_j hgood hi.said (by simpa using hlen) (by omega) ?_ (by omega) (by omega) ih
            have := set_bd (i := x.f1.toNat) (v := rd regs x.f1 + 1) hi.reg (by omega)
            exact fun v hv => by have := this v hv; omega
    · rw [show rn ss gs m a said regs done = (said, 0, done, true) by cases m <;> (rw [rn, if_neg h1])]
      exact ite_f h1 (Ev.now _)
end
theorem impl_runL (ss : List S86) (gs : List S63) (fuel : Int) (hs : ss.length ≤ 1048576) (hg : gs.length ≤ 1048576) : Ev (fun k => impl_RunLined.f k ss gs fuel) (runL ss gs fuel) := by
  unfold impl_RunLined.f runL
  refine bind_ev (impl_good ss gs hs hg) ?_
  by_cases h1 : goodL ss gs = true
  · refine ite_t h1 ?_
    rw [impl_in]
    simp only [Option.bind_some]
    by_cases h2 : inB fuel 0 2000 = true
    · rw [if_pos ⟨h1, h2⟩]
      have h3 := (inB_iff _ _ _).1 h2
      refine ite_t h2 (bind_ev (a := rn ss gs fuel.toNat 0 [] (List.replicate 40 0) 0) ?_ (Ev.now _))
      unfold impl_runLined.f
      exact ite_t (by decide) (impl_l0r h1 h3.2 fuel.toNat 0 [] _ 0 (inv0 ss) (Int.le_refl _) (by omega))
    · rw [if_neg (fun z => h2 z.2)]
      exact ite_f h2 (Ev.now _)
  · rw [if_neg (fun z => h1 z.1)]
    exact ite_f h1 (Ev.now _)
end Go.Proofs.Ytgjojppbichaiaa.Pure
namespace Go.Proofs.Ytgjojppbichaiaa.Pure
open Go.RowKit Go.Proofs.Ytgjojppbichaiaa.Q Go.Proofs.YtgjojppbichaiaaW.PrintWords Go.Proofs.YtgjojppbichaiaaW.PrintLast Go.Proofs.Ytgjojppbichaiaa.Kit

theorem hits_eq (p : Nat) (c : Int) (g : Gd) : hits (p : Int) c (e63 g) = (decide (g.frm ≤ (p : Int)) && decide ((p : Int) < g.to) && (g.kind == 0 || g.kind == c)) := by
  unfold hits e63
  rfl
theorem gI_guard (p : Nat) (c : Int) : ∀ (G : List Gd) (i : Nat), gI (p : Int) c i (G.map e63) = match guardOf G p c with | none => -1 | some j => ((i + j : Nat) : Int)
  | [], i => rfl
  | g :: G, i => by
    have ih := gI_guard p c G (i + 1)
    simp only [List.map_cons, gI]
    unfold guardOf at ih ⊢
    rw [List.findIdx?_cons, hits_eq]
    by_cases h : (decide (g.frm ≤ (p : Int)) && decide ((p : Int) < g.to) && (g.kind == 0 || g.kind == c)) = true
    · rw [if_pos h, if_pos h]; rfl
    · rw [if_neg h, ih, if_neg h]
      cases List.findIdx? (fun g => decide (g.frm ≤ (p : Int)) && decide ((p : Int) < g.to) && (g.kind == 0 || g.kind == c)) G with
      | none => rfl
      | some j =>
        show ((i + 1 + j : Nat) : Int) = ((i + (j + 1) : Nat) : Int)
        omega
def RegOk (R : Regs) (regs : List Int) : Prop := ∀ i : Nat, i < 40 → R i = rd regs (i : Int)
theorem RegOk.put {R : Regs} {regs : List Int} (h : RegOk R regs) (hl : regs.length = 40) {i : Nat} (hi : i < 40) (v : Int) : RegOk (R.put i v) (regs.set i v) := by
  intro j hj
  unfold Regs.put
  by_cases e : j = i
  · subst e
    rw [if_pos rfl]
    unfold rd
    simp [hl, hj]
  · rw [if_neg e, h j hj]
    unfold rd
    rw [Int.toNat_natCast, List.getD_eq_getElem?_getD, List.getD_eq_getElem?_getD, List.getElem?_set_ne (fun h => e h.symm)]
theorem at86 {S : List St} {a : Int} (h0 : 0 ≤ a) (h1 : a < (S.length : Int)) : ∃ x, S[a.toNat]? = some x ∧ rd_T86 (S.map e86) a = e86 x := by
  have hl : a.toNat < S.length := by omega
  refine ⟨S[a.toNat], List.getElem?_eq_getElem hl, ?_⟩
  have := rd86_map (s := S) (i := a.toNat) (List.getElem?_eq_getElem hl)
  rw [Int.toNat_of_nonneg h0] at this
  exact this
theorem rn_run {S : List St} {G : List Gd} (hgood : goodL (S.map e86) (G.map e63) = true) : ∀ (m : Nat) (a : Int) (said regs : List Int) (done : Int) (R : Regs), Inv (S.map e86) a said regs done → 0 ≤ done → RegOk R regs → ∀ (s : List Int) (c n : Int), rn (S.map e86) (G.map e63) m a said regs done = (s, c, n, true) → ∃ k, run S G k a.toNat R said = some (s, c) := by
  have stop : ∀ (a : Int) (R : Regs) (said : List Int), 0 ≤ a → ¬ a < ((S.map e86).length : Int) → run S G 0 a.toNat R said = some (said, 0) := by
    intro a R said h0 h1
    rw [run, if_pos (by simp at h1; omega)]
  intro m
  induction m with
  | zero =>
    intro a said regs done R hi hd hR s c n h
    unfold rn at h
    split at h
    · cases h
    · rename_i h1
      simp only [Prod.mk.injEq] at h
      obtain ⟨rfl, rfl, _⟩ := h
      exact ⟨0, stop a R said hi.a0 h1⟩
  | succ m ih =>
    intro a said regs done R hi hd hR s c n h
    unfold rn at h
    split at h
    · rename_i h1
      obtain ⟨hg, _, hsl, hgl⟩ := goodL_at hgood
      have ha0 := hi.a0
      have hlen := hi.len
      obtain ⟨x, hx, ex⟩ := at86 (S := S) ha0 (by simpa using h1)
      have hx2 := step_of (hg _ (rd86_mem ha0 h1))
      rw [ex] at h hx2
      have hrb := fun i : Int => rd_bd (i := i) hi.reg (by omega)
      have hreg : ∀ v ∈ regs, 0 ≤ v ∧ v ≤ 9 + (done + 1) := fun v hv => by have := hi.reg v hv; omega
      have hgl2 : G.length ≤ 20 := by simpa using hgl
      -- what a place's code leads to
      have J : ∀ (said' regs' : List Int) (code next : Int) (R' : Regs), said'.length ≤ 200 → regs'.length = 40 → (∀ v ∈ regs', 0 ≤ v ∧ v ≤ 9 + (done + 1)) → (0 ≤ code ∧ code ≤ 9 + done) → (0 ≤ next ∧ next ≤ ((S.map e86).length : Int) + 1) → RegOk R' regs' →
          (jn (G.map e63) a said' regs' code next).then (fun a s r => rn (S.map e86) (G.map e63) m a s r (done + 1)) (done + 1) = (s, c, n, true) → ∃ k, raise S G k a.toNat code next.toNat R' said' = some (s, c) := by
        intro said' regs' code next R' q1 q2 q3 q4 q5 q6 q7
        have eg := gI_guard a.toNat code G 0
        rw [Int.toNat_of_nonneg ha0] at eg
        rcases jn_inv (F := fun a s r => rn (S.map e86) (G.map e63) m a s r (done + 1)) (a := a) hgood q1 q2 q3 q4 q5 with ⟨h0, e, hj⟩ | ⟨h0, h2, e⟩ | ⟨h0, h2, h3, h4, e, hj⟩
        · rw [e] at q7
          obtain ⟨k, hk⟩ := ih next said' regs' (done + 1) R' hj (by omega) q6 s c n q7
          exact ⟨k, by rw [raise, if_pos h0]; exact hk⟩
        · rw [e] at q7
          simp only [Prod.mk.injEq] at q7
          obtain ⟨rfl, rfl, _⟩ := q7
          refine ⟨0, ?_⟩
          rw [raise, if_neg h0]
          cases hgo : guardOf G a.toNat code with
          | none => rfl
          | some j => rw [hgo] at eg; simp only at eg; omega
        · rw [e] at q7
          cases hgo : guardOf G a.toNat code with
          | none => rw [hgo] at eg; simp only at eg; omega
          | some j =>
            rw [hgo] at eg
            simp only [Nat.zero_add] at eg
            rw [eg] at q7 hj
            have hjl : j < G.length := by rw [eg] at h4; simpa using h4
            rw [rd63_map (List.getElem?_eq_getElem hjl), Int.toNat_natCast] at q7 hj
            obtain ⟨k, hk⟩ := ih _ said' _ (done + 1) (R'.put j code) hj (by omega) (q6.put q2 (by omega) code) s c n q7
            refine ⟨k, ?_⟩
            rw [raise, if_neg h0, hgo]
            simp only [List.getElem?_eq_getElem hjl]
            exact hk
      have zero : ∀ (k : Nat) (nx : Nat) (R' : Regs) (t : List Int) (r : Option (List Int × Int)), raise S G k a.toNat 0 nx R' t = r → run S G k nx R' t = r := by
        intro k nx R' t r h; rw [raise, if_pos rfl] at h; exact h
      have go : ∀ (k : Nat) (r : Option (List Int × Int)), (if x.op = 1 then (if said.length < 200 then run S G k (a.toNat + 1) R (said ++ [x.n]) else none)
          else if x.op = 2 then raise S G k a.toNat x.n (a.toNat + 1) R said
          else if x.op = 3 then raise S G k a.toNat (R x.n.toNat) (a.toNat + 1) R said
          else if x.op = 4 then run S G k x.to.toNat R said
          else if x.op = 5 then run S G k (a.toNat + 1) (R.put x.n.toNat 0) said
          else if x.op = 6 then (if R x.n.toNat = x.to then run S G k (a.toNat + 1) R said else run S G k (a.toNat + 2) (R.put x.n.toNat (R x.n.toNat + 1)) said)
          else none) = r → run S G (k + 1) a.toNat R said = r := by
        intro k r h; rw [run, hx]; exact h
      have e1 : (a + 1).toNat = a.toNat + 1 := by omega
      have e2 : (a + 2).toNat = a.toNat + 2 := by omega
      have eR : 0 ≤ x.n → x.n ≤ 39 → R x.n.toNat = rd regs x.n := fun h0 h1 => by
        have := hR x.n.toNat (by omega)
        rw [Int.toNat_of_nonneg h0] at this
        exact this
      unfold stp at h
      have f0 : (e86 x).f0 = x.op := rfl
      have f1 : (e86 x).f1 = x.n := rfl
      have f2 : (e86 x).f2 = x.to := rfl
      rw [f0, f1, f2] at h hx2
      rcases hx2 with o | ⟨o, hb⟩ | ⟨o, hb⟩ | ⟨o, hb⟩ | ⟨o, hb⟩ | ⟨o, hb⟩
      · rw [if_pos o] at h
        by_cases hl : said.length < 200
        · rw [if_pos hl] at h
          obtain ⟨k, hk⟩ := J _ _ _ _ R (by simp; omega) hlen hreg (by omega) (by omega) hR h
          exact ⟨k + 1, go k _ (by rw [if_pos o, if_pos hl, ← e1]; exact zero _ _ _ _ _ hk)⟩
        · rw [if_neg hl] at h; simp [Stp.then] at h
      · rw [if_neg (by omega), if_pos o] at h
        obtain ⟨k, hk⟩ := J _ _ _ _ R hi.said hlen hreg (by omega) (by omega) hR h
        exact ⟨k + 1, go k _ (by rw [if_neg (by omega), if_pos o, ← e1]; exact hk)⟩
      · rw [if_neg (by omega), if_neg (by omega), if_pos o] at h
        obtain ⟨k, hk⟩ := J _ _ _ _ R hi.said hlen hreg (hrb _) (by omega) hR h
        exact ⟨k + 1, go k _ (by rw [if_neg (by omega), if_neg (by omega), if_pos o, ← e1, eR hb.1 hb.2]; exact hk)⟩
      · rw [if_neg (by omega), if_neg (by omega), if_neg (by omega), if_pos o] at h
        obtain ⟨k, hk⟩ := J _ _ _ _ R hi.said hlen hreg (by omega) (by omega) hR h
        exact ⟨k + 1, go k _ (by rw [if_neg (by omega), if_neg (by omega), if_neg (by omega), if_pos o]; exact zero _ _ _ _ _ hk)⟩
      · rw [if_neg (by omega), if_neg (by omega), if_neg (by omega), if_neg (by omega), if_pos o] at h
        obtain ⟨k, hk⟩ := J _ _ _ _ (R.put x.n.toNat 0) hi.said (by simpa using hlen) (fun u hu => by
          rcases List.mem_or_eq_of_mem_set hu with h1 | h1
          · exact hreg u h1
          · rw [h1]; omega) (by omega) (by omega) (hR.put hlen (by omega) 0) h
        exact ⟨k + 1, go k _ (by rw [if_neg (by omega), if_neg (by omega), if_neg (by omega), if_neg (by omega), if_pos o, ← e1]; exact zero _ _ _ _ _ hk)⟩
      · rw [if_neg (by omega), if_neg (by omega), if_neg (by omega), if_neg (by omega), if_neg (by omega)] at h
        have hv := hrb x.n
        by_cases hq : rd regs x.n = x.to
        · rw [if_pos hq] at h
          obtain ⟨k, hk⟩ := J _ _ _ _ R hi.said hlen hreg (by omega) (by omega) hR h
          exact ⟨k + 1, go k _ (by rw [if_neg (by omega), if_neg (by omega), if_neg (by omega), if_neg (by omega), if_neg (by omega), if_pos o, eR hb.1 hb.2, if_pos hq, ← e1]; exact zero _ _ _ _ _ hk)⟩
        · rw [if_neg hq] at h
          have hsb := set_bd (i := x.n.toNat) (v := rd regs x.n + 1) hi.reg (by omega)
          obtain ⟨k, hk⟩ := J _ _ _ _ (R.put x.n.toNat (rd regs x.n + 1)) hi.said (by simpa using hlen) (fun v hv => by have := hsb v hv; omega) (by omega) (by omega) (hR.put hlen (by omega) _) h
          exact ⟨k + 1, go k _ (by rw [if_neg (by omega), if_neg (by omega), if_neg (by omega), if_neg (by omega), if_neg (by omega), if_pos o, eR hb.1 hb.2, if_neg hq, ← e2]; exact zero _ _ _ _ _ hk)⟩
    · rename_i h1
      simp only [Prod.mk.injEq] at h
      obtain ⟨rfl, rfl, _⟩ := h
      exact ⟨0, stop a R said hi.a0 h1⟩
/-- A laid tree's line, run by the program, ends as the tree does. -/
theorem run_tree {T : XT} (hok : T.Ok) (hgood : goodL ((T.lay ⟨[], [], 0⟩).s.map e86) ((T.lay ⟨[], [], 0⟩).g.map e63) = true) {fuel : Int} {s : List Int} {c n : Int}
    (h : runL ((T.lay ⟨[], [], 0⟩).s.map e86) ((T.lay ⟨[], [], 0⟩).g.map e63) fuel = (s, c, n, true)) : T.eval [] = some (s, c) := by
  unfold runL at h
  split at h
  · have hR : RegOk (fun _ => 0) (List.replicate 40 0) := by
      intro i hi
      unfold rd
      rw [List.getD_eq_getElem?_getD, Int.toNat_natCast, List.getElem?_replicate, if_pos hi]
      rfl
    obtain ⟨k, hk⟩ := rn_run hgood _ 0 [] _ 0 (fun _ => 0) (inv0 _) (Int.le_refl _) hR s c n h
    have h20 := (goodL_at hgood).2.2.2
    exact T.lay_sim hok (by simpa using h20) (fun _ => 0) k s c hk
  · cases h
end Go.Proofs.Ytgjojppbichaiaa.Pure
namespace Go.Proofs.Ytgjojppbichaiaa.Pure
open Go.RowKit Go.Proofs.Ytgjojppbichaiaa.Q Go.Proofs.YtgjojppbichaiaaW.PrintWords Go.Proofs.YtgjojppbichaiaaW.PrintLast Go.Proofs.Ytgjojppbichaiaa.Kit

theorem sameInts_l0 : ∀ (post pre : List Int), pre.length + post.length ≤ 1048576 →
    Ev (fun k => laws_sameInts.l0 k (pre ++ post) (pre ++ post) ((pre ++ post).length : Int) (pre.length : Int)) true
  | [], pre, hb => by
    refine Ev.step (fun k => by simp only [laws_sameInts.l0]; rw [if_neg (by simp)]) ?_
    exact Ev.now _
  | x :: post, pre, hb => by
    simp only [List.length_cons] at hb
    have ih := sameInts_l0 post (pre ++ [x]) (by simp; omega)
    have hlt : (pre.length : Int) < ((pre ++ x :: post).length : Int) := by simp; omega
    have h0 : (0 : Int) ≤ (pre.length : Int) := by omega
    refine Ev.step (fun k => by simp only [laws_sameInts.l0]; rw [if_pos hlt]) ?_
    refine ite_t h0 (ite_t hlt (ite_t hlt (ite_t trivial ?_)))
    rw [w_succ (by omega)]
    simpa using ih
theorem sameInts_ev (l : List Int) (hb : l.length ≤ 1048576) : Ev (fun k => laws_sameInts.f k l l) true := by
  have h := sameInts_l0 l [] (by simpa using hb)
  unfold laws_sameInts.f
  refine ite_t rfl ?_
  simpa using h
theorem has_l0 (x : Int) : ∀ (post pre : List Int), pre.length + post.length ≤ 1048576 → x ∈ post →
    Ev (fun k => laws_has.l0 k x (pre ++ post) ((pre ++ post).length : Int) (pre.length : Int)) true
  | [], pre, _, h => by simp at h
  | y :: post, pre, hb, h => by
    simp only [List.length_cons] at hb
    have hlt : (pre.length : Int) < ((pre ++ y :: post).length : Int) := by simp; omega
    have h0 : (0 : Int) ≤ (pre.length : Int) := by omega
    refine Ev.step (fun k => by simp only [laws_has.l0]; rw [if_pos hlt]) ?_
    refine ite_t h0 (ite_t hlt ?_)
    rw [rd_at rfl]
    by_cases e : y = x
    · exact ite_t e (Ev.now _)
    · refine ite_f e ?_
      rw [w_succ (by omega)]
      have ih := has_l0 x post (pre ++ [y]) (by simp; omega) (by
        rcases List.mem_cons.1 h with h | h
        · exact absurd h.symm e
        · exact h)
      simpa using ih
theorem has_ev (l : List Int) (x : Int) (hb : l.length ≤ 1048576) (h : x ∈ l) : Ev (fun k => laws_has.f k l x) true := by
  have := has_l0 x l [] (by simpa using hb) h
  unfold laws_has.f
  simpa using this
theorem bne_self3 (x : S86) : ((!(x.f0 == x.f0)) || ((!(x.f1 == x.f1)) || (!(x.f2 == x.f2)))) = false := by simp
theorem bne_self4 (x : S63) : ((!(x.f0 == x.f0)) || ((!(x.f1 == x.f1)) || ((!(x.f2 == x.f2)) || (!(x.f3 == x.f3))))) = false := by simp
theorem sameLined_l1 (S : List S86) (G : List S63) (hb : G.length ≤ 1048576) : ∀ (m i : Nat), i + m = G.length → Ev (fun k => laws_sameLined.l1 k (G.length : Int) (i : Int) S G S G) true
  | 0, i, h => by
    refine Ev.step (fun k => by simp only [laws_sameLined.l1]; rw [if_neg (by omega)]) ?_
    exact Ev.now _
  | m + 1, i, h => by
    refine Ev.step (fun k => by simp only [laws_sameLined.l1]; rw [if_pos (show (i : Int) < (G.length : Int) by omega), if_pos (show (0 : Int) ≤ (i : Int) by omega), if_pos (show (i : Int) < (G.length : Int) by omega), if_pos (show (i : Int) < (G.length : Int) by omega), bne_self4, if_neg (by simp), w_succ (by omega)]) ?_
    exact sameLined_l1 S G hb m (i + 1) (by omega)
theorem sameLined_l0 (S : List S86) (G : List S63) (hb : G.length ≤ 1048576) (hs : S.length ≤ 1048576) : ∀ (m i : Nat), i + m = S.length → Ev (fun k => laws_sameLined.l0 k (S.length : Int) (i : Int) S G S G) true
  | 0, i, h => by
    refine Ev.step (fun k => by simp only [laws_sameLined.l0]; rw [if_neg (by omega)]) ?_
    exact sameLined_l1 S G hb _ 0 (Nat.zero_add _)
  | m + 1, i, h => by
    refine Ev.step (fun k => by simp only [laws_sameLined.l0]; rw [if_pos (show (i : Int) < (S.length : Int) by omega), if_pos (show (0 : Int) ≤ (i : Int) by omega), if_pos (show (i : Int) < (S.length : Int) by omega), if_pos (show (i : Int) < (S.length : Int) by omega), bne_self3, if_neg (by simp), w_succ (by omega)]) ?_
    exact sameLined_l0 S G hb hs m (i + 1) (by omega)
theorem sameLined_ev (S : List S86) (G : List S63) (hs : S.length ≤ 1048576) (hb : G.length ≤ 1048576) : Ev (fun k => laws_sameLined.f k S G S G) true := by
  unfold laws_sameLined.f
  refine ite_t rfl ?_
  have e : ((G.length : Int) != (G.length : Int)) = false := by simp
  rw [e]
  refine Ev.step (fun k => by simp only [laws_sameLined.j0]; rw [if_neg (by simp)]) ?_
  exact sameLined_l0 S G hb hs _ 0 (Nat.zero_add _)
theorem mayOf_snd (l : List S76) : (mayOf l).2 = (treeOf l).isSome := by
  unfold mayOf
  cases ht : treeOf l with
  | none => rfl
  | some t =>
    obtain ⟨p, h1, _⟩ := may_both (sz t) t (Nat.le_refl _) (treeOf_gd ht)
    simp only [h1]; rfl
theorem may_has (l : List S76) {s : List Int} {c : Int} (h : evalOf l = (s, c, true)) (hc : c ≠ 0) : c ∈ (mayOf l).1 := by
  unfold evalOf at h
  unfold mayOf
  cases ht : treeOf l with
  | none => rw [ht] at h; simp at h
  | some t =>
    rw [ht] at h
    simp only at h
    obtain ⟨p, h1, _, h3, h4⟩ := may_both (sz t) t (Nat.le_refl _) (treeOf_gd ht)
    simp only [h1, codes_bits]
    cases he : (toX t).eval [] with
    | none => rw [he] at h; simp at h
    | some r =>
      obtain ⟨s', c'⟩ := r
      rw [he] at h
      simp only [Prod.mk.injEq] at h
      obtain ⟨rfl, rfl, _⟩ := h
      have hm := XT.eval_may _ _ _ _ he hc
      obtain ⟨q0, q1⟩ := h4 _ hm
      obtain ⟨j, rfl⟩ : ∃ j : Nat, c' = (j : Int) := ⟨c'.toNat, by omega⟩
      exact (codesN_mem p 10 0 j).2 ⟨by omega, by omega, (h3 j (by omega)).2 hm⟩
theorem run_eval (l : List S76) {S : List S86} {G : List S63} (h : lineOf l = (S, G, true)) : goodL S G = true ∧ ∀ (f : Int) (s : List Int) (c n : Int), runL S G f = (s, c, n, true) → evalOf l = (s, c, true) := by
  unfold lineOf at h
  unfold evalOf
  cases ht : treeOf l with
  | none => rw [ht] at h; simp at h
  | some t =>
    rw [ht] at h
    simp only at h ⊢
    by_cases hg : goodL (((toX t).lay ⟨[], [], 0⟩).s.map e86) (((toX t).lay ⟨[], [], 0⟩).g.map e63) = true
    · rw [if_pos hg] at h
      simp only [Prod.mk.injEq] at h
      obtain ⟨rfl, rfl, _⟩ := h
      refine ⟨hg, fun f s c n hr => ?_⟩
      rw [run_tree (toX_ok _ t (Nat.le_refl _) (treeOf_gd ht)) hg hr]
    · rw [if_neg hg] at h; simp at h
theorem fh_j2 : Ev (fun k => laws_FnHandled.j2 k false) true := by
  refine Ev.step (fun k => by simp only [laws_FnHandled.j2]; rw [if_neg (by simp)]) ?_
  exact Ev.step (fun k => by simp only [laws_FnHandled.j3]) (Ev.now _)
theorem FnHandled (l0 : List Int) (hp0 : l0.length ≤ maxLen ∧ ∀ x ∈ l0, (Lit.int .u8 x).wf = true) : ∃ k, laws_FnHandled.f k l0 = some true := by
  obtain ⟨h1, hw0⟩ := hp0
  refine Ev.rounds ?_
  have hc := bytes_of hw0
  unfold laws_FnHandled.f
  by_cases h : (l0.length : Int) > 1048576
  · exact ite_t h (Ev.now _)
  · refine ite_f h ?_
    obtain ⟨l, a', s', e0, p0, _, _⟩ := xtree_ok hc (a := 0) 0 (by omega) (by omega)
    have ed : Ev (fun k => spec_DrawLineTree.f k l0) l := by
      unfold spec_DrawLineTree.f
      refine bind_ev (a := l) ?_ (Ev.now _)
      unfold spec_DrawGoodTree2.f
      exact bind_ev e0 (Ev.now _)
    have a1 := impl_lineOf l
    have a2 := spec_lineOf l (by omega)
    have a3 := impl_evalOf l
    have a4 := spec_evalOf l (by omega)
    have a5 := impl_mayOf l
    have a6 := spec_mayOf l (by omega)
    obtain ⟨o, h7, _⟩ := impl_tree l
    have a7 : impl_GoodTree2.f l = some ((treeOf l).isSome) := by unfold impl_GoodTree2.f; rw [h7]; rfl
    have hms := mayOf_snd l
    have hml := mayOf_len l
    have hel := evalOf_len l
    have hll := lineOf_len l
    have hre := fun S G => run_eval l (S := S) (G := G)
    have hmh := fun s c => may_has l (s := s) (c := c)
    generalize lineOf l = L at a1 a2 hll hre
    generalize evalOf l = E at a3 a4 hel hre hmh
    generalize mayOf l = M at a5 a6 hms hml hmh
    obtain ⟨S, G, b⟩ := L
    obtain ⟨said, c, eb⟩ := E
    obtain ⟨mc, mb⟩ := M
    simp only at hms hml hel hll hmh hre
    have nb : ∀ x : Bool, (x != x) = false := by intro x; cases x <;> rfl
    refine bind_ev ed (bind_ev a1 (bind_ev a2 (bind_ev (const_ev a3) (bind_ev a4 (bind_ev (const_ev a5) (bind_ev a6 ?_))))))
    refine ite_f (by rw [nb]; simp) (bind_ev (sameLined_ev S G (by omega) (by omega)) (ite_t rfl (ite_f (by rw [nb]; simp) (ite_t rfl (bind_ev (sameInts_ev said (by omega)) (ite_t rfl (ite_f (by rw [nb]; simp) (bind_ev (sameInts_ev mc (by omega)) (ite_t rfl (bind_ev (const_ev a7) ?_))))))))))
    simp only
    rw [hms, nb]
    have J1 : Ev (fun k => laws_FnHandled.j1 k b said c eb false S G) true := by
      refine Ev.step (fun k => by simp only [laws_FnHandled.j1]; rw [if_neg (by simp)]) ?_
      cases b with
      | false => exact ite_f (by simp) (Ev.step (fun k => by simp only [laws_FnHandled.j3]) (Ev.now _))
      | true =>
        obtain ⟨hg, hr⟩ := hre S G rfl
        have r1 := impl_runL S G 2000 (by omega) (by omega)
        have r2 : Ev (fun k => impl_GoodLined.f k S G) (goodL S G) := by unfold impl_GoodLined.f; exact bind_ev (impl_good S G (by omega) (by omega)) (Ev.now _)
        have hr2 := hr 2000
        generalize runL S G 2000 = r at r1 hr2
        obtain ⟨o2, cd, n, rb⟩ := r
        refine ite_t rfl (bind_ev r1 (bind_ev r2 (ite_t hg ?_)))
        cases rb with
        | false => exact ite_f (by simp) fh_j2
        | true =>
          have he := hr2 o2 cd n rfl
          simp only [Prod.mk.injEq] at he
          obtain ⟨rfl, rfl, rfl⟩ := he
          refine ite_t rfl (ite_t rfl (ite_t rfl (bind_ev (sameInts_ev said (by omega)) (ite_t rfl ?_))))
          exact fh_j2
    refine Ev.step (fun k => by simp only [laws_FnHandled.j0]; rw [if_neg (by simp)]) ?_
    cases eb with
    | false => exact ite_f (by simp) J1
    | true =>
      refine ite_t rfl ?_
      by_cases hz : c = 0
      · exact ite_t hz J1
      · refine ite_f hz (bind_ev (has_ev mc c (by omega) (hmh said c rfl hz)) ?_)
        exact J1
end Go.Proofs.Ytgjojppbichaiaa.Pure
