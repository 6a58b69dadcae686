/- Where a number stands; layouts. Conditions: none. -/
import Derived.Test.YtpnhlccdhflogaaPP
import Derived.Test.YtpnhlccdhflogaaDataN
import Derived.Test.YtpnhlccdhflogaaQx0
import Derived.Test.YtpnhlccdhflogaaQx1
import Derived.Test.YtpnhlccdhflogaaQx2
import Derived.Test.YtpnhlccdhflogaaQx4
set_option linter.unusedVariables false
set_option linter.unusedSimpArgs false
set_option linter.unusedSectionVars false
namespace Go.Proofs.Ytpnhlccdhflogaa.Pure
open Go.RowKit Go.Proofs.Ytpnhlccdhflogaa.Q Go.Proofs.YtpnhlccdhflogaaW.PrintWords Go.Proofs.YtpnhlccdhflogaaW.PrintLast Go.Proofs.Ytpnhlccdhflogaa.Kit Go.Proofs.Ytpnhlccdhflogaa.Wf

theorem ite_ev' {α : Type} {c : Prop} [Decidable c] {f g : Nat → Option α} {r : α} (h : c → Ev f r) (k : ¬ c → Ev g r) : Ev (fun n => if c then f n else g n) r := by
  by_cases hc : c
  · exact ite_t hc (h hc)
  · exact ite_f hc (k hc)
def inB (a b c : Int) : Bool := if a ≥ b then decide (a ≤ c) else false
theorem spec_in (a b c : Int) : spec_l1In.f a b c = some (inB a b c) := by unfold spec_l1In.f inB; split <;> rfl
theorem impl_in (a b c : Int) : impl_in.f a b c = some (inB a b c) := by unfold impl_in.f inB; split <;> rfl
theorem inB_iff (a b c : Int) : inB a b c = true ↔ b ≤ a ∧ a ≤ c := by
  unfold inB; split <;> simp <;> omega
/-- The place of the first that is it, -1 for none; the first one's place is i. -/
def idxF : List Int → Int → Nat → Int
  | [], _, _ => -1
  | x :: xs, a, i => if a = x then (i : Int) else idxF xs a (i + 1)
theorem idxF_neg : ∀ (l : List Int) (a : Int) (i : Nat), a ∉ l → idxF l a i = -1
  | [], _, _, _ => rfl
  | x :: xs, a, i, h => by
    simp only [List.mem_cons, not_or] at h
    simp only [idxF]; rw [if_neg h.1]; exact idxF_neg xs a (i + 1) h.2
theorem idxF_at : ∀ (p : List Int) (a : Int) (q : List Int) (i : Nat), a ∉ p → idxF (p ++ a :: q) a i = (i + p.length : Nat)
  | [], a, q, i, _ => by simp [idxF]
  | x :: p, a, q, i, h => by
    simp only [List.mem_cons, not_or] at h
    simp only [List.cons_append, idxF]; rw [if_neg h.1, idxF_at p a q (i + 1) h.2]
    simp only [List.length_cons]; omega
theorem idxF_mem {l : List Int} {a : Int} (h : a ∈ l) : ∃ p q, l = p ++ a :: q ∧ a ∉ p ∧ idxF l a 0 = (p.length : Nat) := by
  have key : ∀ l : List Int, a ∈ l → ∃ p q, l = p ++ a :: q ∧ a ∉ p := by
    intro l
    induction l with
    | nil => intro h; cases h
    | cons x xs ih =>
      intro h
      by_cases hx : a = x
      · exact ⟨[], xs, by simp [hx], by simp⟩
      · obtain ⟨p, q, e, hp⟩ := ih (by simpa [hx] using h)
        exact ⟨x :: p, q, by simp [e], by simp [hx, hp]⟩
  obtain ⟨p, q, h1, h2⟩ := key l h
  exact ⟨p, q, h1, h2, by rw [h1, idxF_at p a q 0 h2]; simp⟩
theorem idxF_nonneg (l : List Int) (a : Int) : decide (idxF l a 0 ≥ 0) = l.contains a := by
  by_cases h : a ∈ l
  · obtain ⟨p, q, _, _, e⟩ := idxF_mem h
    rw [e]; simp [h]
  · rw [idxF_neg l a 0 h]; simp [h]
theorem index_l0 (l : List Int) (a : Int) (hb : l.length ≤ 1048576) : ∀ (post pre : List Int), l = pre ++ post →
    Ev (fun k => slices_Index_int_int.l0 k l a (l.length : Int) (pre.length : Int)) (idxF post a pre.length)
  | [], pre, hl => by
    have : l.length = pre.length := by rw [hl]; simp
    refine Ev.step (fun k => by simp only [slices_Index_int_int.l0]; rw [if_neg (by omega)]) ?_
    exact some_ev rfl
  | x :: post, pre, hl => by
    have hn : l.length = pre.length + (post.length + 1) := by rw [hl]; simp
    have hr : rd l (pre.length : Int) = x := by rw [hl]; exact rd_at rfl
    have ih := index_l0 l a hb post (pre ++ [x]) (by simp [hl])
    refine Ev.step (fun k => by simp only [slices_Index_int_int.l0]; rw [if_pos (by omega), if_pos (by omega), if_pos (by omega), hr, w_succ (by omega)]) ?_
    simp only [idxF]
    refine ite_ev (fun _ => Ev.now _) (fun _ => ?_)
    simpa using ih
theorem index_ev (l : List Int) (a : Int) (hb : l.length ≤ 1048576) : Ev (fun k => slices_Index_int_int.f k l a) (idxF l a 0) := by
  have := index_l0 l a hb l [] rfl
  unfold slices_Index_int_int.f
  simpa using this
theorem contains_ev (l : List Int) (a : Int) (hb : l.length ≤ 1048576) : Ev (fun k => slices_Contains_int_int.f k l a) (l.contains a) := by
  unfold slices_Contains_int_int.f
  exact bind_ev (index_ev l a hb) (some_ev (idxF_nonneg l a))
theorem has_l0 (l : List Int) (a : Int) (hb : l.length ≤ 1048576) : ∀ (post pre : List Int), l = pre ++ post →
    Ev (fun k => spec_l1Has.l0 k a l (l.length : Int) (pre.length : Int)) (post.contains a)
  | [], pre, hl => by
    have : l.length = pre.length := by rw [hl]; simp
    refine Ev.step (fun k => by simp only [spec_l1Has.l0]; rw [if_neg (by omega)]) ?_
    exact some_ev rfl
  | x :: post, pre, hl => by
    have hn : l.length = pre.length + (post.length + 1) := by rw [hl]; simp
    have hr : rd l (pre.length : Int) = x := by rw [hl]; exact rd_at rfl
    have ih := has_l0 l a hb post (pre ++ [x]) (by simp [hl])
    refine Ev.step (fun k => by simp only [spec_l1Has.l0]; rw [if_pos (by omega), if_pos (by omega), if_pos (by omega), hr, w_succ (by omega)]) ?_
    by_cases hx : x = a
    · exact ite_t hx (some_ev (by simp [hx]))
    · refine ite_f hx ?_
      have e : (x :: post).contains a = post.contains a := by simp [Ne.symm hx]
      rw [e]
      simpa using ih
theorem has_ev (l : List Int) (a : Int) (hb : l.length ≤ 1048576) : Ev (fun k => spec_l1Has.f k l a) (l.contains a) := by
  have := has_l0 l a hb l [] rfl
  unfold spec_l1Has.f
  simpa using this
/-- Each lies below n, and none stands twice. -/
def onceB (n : Int) : List Int → List Int → Bool
  | _, [] => true
  | pre, x :: post => decide (0 ≤ x) && decide (x < n) && !pre.contains x && onceB n (pre ++ [x]) post
theorem onceB_iff (n : Int) : ∀ (post pre : List Int), onceB n pre post = true ↔ (∀ x ∈ post, 0 ≤ x ∧ x < n) ∧ post.Nodup ∧ ∀ x ∈ post, x ∉ pre
  | [], pre => by simp [onceB]
  | x :: post, pre => by
    have ih := onceB_iff n post (pre ++ [x])
    simp only [onceB, Bool.and_eq_true, decide_eq_true_eq, Bool.not_eq_true', ih, List.mem_cons, List.nodup_cons]
    constructor
    · rintro ⟨⟨⟨h1, h2⟩, h3⟩, h4, h5, h6⟩
      refine ⟨?_, ⟨?_, h5⟩, ?_⟩
      · rintro y (rfl | hy)
        · exact ⟨h1, h2⟩
        · exact h4 y hy
      · intro hx
        exact h6 x hx (by simp)
      · rintro y (rfl | hy)
        · simpa using h3
        · exact fun hp => h6 y hy (by simp [hp])
    · rintro ⟨h1, ⟨h2, h3⟩, h4⟩
      refine ⟨⟨h1 x (.inl rfl), ?_⟩, fun y hy => h1 y (.inr hy), h3, ?_⟩
      · simpa using h4 x (.inl rfl)
      · intro y hy hp
        rcases List.mem_append.1 hp with hp | hp
        · exact h4 y (.inr hy) hp
        · rw [List.mem_singleton.1 hp] at hy; exact h2 hy
def allB (l : List Int) : Nat → Nat → Bool
  | _, 0 => true
  | i, m + 1 => l.contains (i : Int) && allB l (i + 1) m
theorem allB_iff (l : List Int) : ∀ (m i : Nat), allB l i m = true ↔ ∀ j : Nat, i ≤ j → j < i + m → (j : Int) ∈ l
  | 0, i => by simp [allB]; omega
  | m + 1, i => by
    have ih := allB_iff l m (i + 1)
    simp only [allB, Bool.and_eq_true, ih, List.contains_iff_mem]
    constructor
    · rintro ⟨h1, h2⟩ j h3 h4
      by_cases e : j = i
      · subst e; exact h1
      · exact h2 j (by omega) (by omega)
    · intro h
      exact ⟨h i (by omega) (by omega), fun j h1 h2 => h j (by omega) (by omega)⟩
theorem order_once (l : List Int) (n : Nat) (hl : l.length = n) : onceB n [] l = allB l 0 n := by
  rw [Bool.eq_iff_iff, onceB_iff, allB_iff]
  constructor
  · rintro ⟨h1, h2, _⟩ j _ h3
    exact all_there hl h2 h1 j (by omega) (by omega)
  · intro h
    have ha : ∀ k : Int, 0 ≤ k → k < n → k ∈ l := fun k h0 h1 => by
      obtain ⟨j, rfl⟩ := Int.eq_ofNat_of_zero_le h0
      exact h j (by omega) (by omega)
    refine ⟨in_range hl ha, ?_, by simp⟩
    have key : ∀ (q p : List Int), l = p ++ q → q.Nodup := by
      intro q
      induction q with
      | nil => intro p _; simp
      | cons x q ih =>
        intro p e
        refine List.nodup_cons.2 ⟨?_, ih (p ++ [x]) (by simp [e])⟩
        intro hx
        obtain ⟨a, b, hab⟩ := List.append_of_mem hx
        exact once hl ha (p ++ x :: a) b x (by rw [e, hab]; simp) (by simp)
    exact key l [] rfl
/-- A layout of n blocks. -/
def layB (n : Int) (l : List Int) : Bool := inB n 1 8 && decide ((l.length : Int) = n) && (rd l 0 == 0) && onceB n [] l
theorem spec_lay_l0 (n : Int) (l : List Int) (hb : l.length ≤ 1048576) : ∀ (post pre : List Int), l = pre ++ post →
    Ev (fun k => spec_IsLayout.l0 k n l l (l.length : Int) (pre.length : Int)) (onceB n pre post)
  | [], pre, hl => by
    have : l.length = pre.length := by rw [hl]; simp
    refine Ev.step (fun k => by simp only [spec_IsLayout.l0]; rw [if_neg (by omega)]) ?_
    exact some_ev rfl
  | x :: post, pre, hl => by
    have hn : l.length = pre.length + (post.length + 1) := by rw [hl]; simp
    have hr : rd l (pre.length : Int) = x := by rw [hl]; exact rd_at rfl
    have ht : l.take (pre.length : Int).toNat = pre := by rw [hl]; simp
    have ih := spec_lay_l0 n l hb post (pre ++ [x]) (by simp [hl])
    refine Ev.step (fun k => by simp only [spec_IsLayout.l0]; rw [if_pos (by omega), if_pos (by omega), if_pos (by omega), hr, if_pos (by omega : (pre.length : Int) ≤ (l.length : Int)), ht, w_succ (by omega)]) ?_
    simp only [onceB]
    by_cases h1 : x < 0
    · exact ite_t h1 (some_ev (by rw [show decide (0 ≤ x) = false by simp; omega]; simp))
    · refine ite_f h1 ?_
      by_cases h2 : x ≥ n
      · exact ite_t h2 (some_ev (by rw [show decide (x < n) = false by simp; omega]; simp))
      · refine ite_f h2 (bind_ev (has_ev pre x (by omega)) ?_)
        rw [show decide (0 ≤ x) = true by simp; omega, show decide (x < n) = true by simp; omega]
        cases h3 : pre.contains x with
        | true => exact ite_t rfl (some_ev (by simp))
        | false => exact ite_f (by simp) (by simpa using ih)
theorem spec_lay (n : Int) (l : List Int) (hb : l.length ≤ 1048576) : Ev (fun k => spec_IsLayout.f k n l) (layB n l) := by
  have jt : Ev (fun k => spec_IsLayout.j0 k n l true) false := by
    refine Ev.step (fun k => by simp only [spec_IsLayout.j0]; rfl) ?_
    exact ite_t (by trivial) (Ev.now _)
  unfold spec_IsLayout.f spec_l11Blocks.f layB
  simp only [spec_in, Option.bind_some]
  cases h1 : inB n 1 8 with
  | false => exact ite_f (by simp) jt
  | true =>
    refine ite_t rfl ?_
    by_cases h2 : (l.length : Int) = n
    · have h3 := (inB_iff _ _ _).1 h1
      refine ite_t h2 (ite_t (by omega) ?_)
      rw [show decide ((l.length : Int) = n) = true from decide_eq_true h2]
      by_cases h4 : rd l 0 = 0
      · rw [show (rd l 0 != 0) = false by simp [h4], show (rd l 0 == 0) = true by simp [h4]]
        refine Ev.step (fun k => by simp only [spec_IsLayout.j0]; rfl) ?_
        refine ite_f (by simp) ?_
        have := spec_lay_l0 n l hb l [] rfl
        simpa using this
      · rw [show (rd l 0 != 0) = true by simp [h4], show (rd l 0 == 0) = false by simp [h4]]
        simpa using jt
    · refine ite_f h2 ?_
      rw [show decide ((l.length : Int) = n) = false from decide_eq_false h2]
      simpa using jt
theorem impl_order_l0 (l : List Int) (n : Int) (hb : l.length ≤ 1048576) (hn : n ≤ 1048576) : ∀ (m i : Nat), (i : Int) + m = n →
    Ev (fun k => impl_isOrder.l0 k l n (i : Int)) (allB l i m)
  | 0, i, h => by
    refine Ev.step (fun k => by simp only [impl_isOrder.l0]; rw [if_neg (by omega)]) ?_
    exact some_ev rfl
  | m + 1, i, h => by
    have ih := impl_order_l0 l n hb hn m (i + 1) (by omega)
    refine Ev.step (fun k => by simp only [impl_isOrder.l0]; rw [if_pos (by omega), w_succ (by omega)]) ?_
    refine bind_ev (contains_ev l i hb) ?_
    simp only [allB]
    cases hc : l.contains (i : Int) with
    | true => exact ite_t rfl (by simpa using ih)
    | false => exact ite_f (by simp) (some_ev (by simp))
theorem impl_lay (n : Int) (l : List Int) (hb : l.length ≤ 1048576) : Ev (fun k => impl_isLayout.f k n l) (layB n l) := by
  unfold impl_isLayout.f layB
  simp only [impl_in, Option.bind_some]
  cases h1 : inB n 1 8 with
  | false => exact ite_f (by simp) (Ev.now _)
  | true =>
    have h3 := (inB_iff _ _ _).1 h1
    refine ite_t rfl ?_
    unfold impl_isOrder.f
    by_cases h2 : (l.length : Int) = n
    · have ho := impl_order_l0 l n hb (by omega) n.toNat 0 (by omega)
      have e := order_once l n.toNat (by omega)
      rw [show ((n.toNat : Nat) : Int) = n by omega] at e
      rw [← e] at ho
      refine bind_ev (ite_t h2 ho) ?_
      rw [show decide ((l.length : Int) = n) = true from decide_eq_true h2]
      cases h4 : onceB n [] l with
      | true => exact ite_t rfl (ite_t (by omega) (some_ev (by simp)))
      | false => exact ite_f (by simp) (some_ev (by simp))
    · refine bind_ev (ite_f h2 (Ev.now _)) ?_
      rw [show decide ((l.length : Int) = n) = false from decide_eq_false h2]
      exact ite_f (by simp) (some_ev (by simp))
structure LayOk (n : Int) (l : List Int) : Prop where
  lo : 1 ≤ n
  hi : n ≤ 8
  len : (l.length : Int) = n
  first : rd l 0 = 0
  range : ∀ x ∈ l, 0 ≤ x ∧ x < n
  nodup : l.Nodup
  all : ∀ k : Int, 0 ≤ k → k < n → k ∈ l
theorem layOk {n : Int} {l : List Int} (h : layB n l = true) : LayOk n l := by
  simp only [layB, Bool.and_eq_true, decide_eq_true_eq, beq_iff_eq] at h
  obtain ⟨⟨⟨h1, h2⟩, h3⟩, h4⟩ := h
  have h1 := (inB_iff _ _ _).1 h1
  have h5 := (onceB_iff _ _ _).1 h4
  refine ⟨h1.1, h1.2, h2, h3, h5.1, h5.2.1, fun k h0 hk => ?_⟩
  exact all_there (n := n.toNat) (by omega) h5.2.1 (fun x hx => by have := h5.1 x hx; omega) k h0 (by omega)
end Go.Proofs.Ytpnhlccdhflogaa.Pure
