/- Trees told kind by kind: where they end, where a pattern fits. Conditions: none. -/
import Derived.Test.YtfdbdbihhgabpaaKit
import Derived.Test.YtfdbdbihhgabpaaQx0
import Derived.Test.YtfdbdbihhgabpaaQx2
import Derived.Test.YtfdbdbihhgabpaaQx4
set_option linter.unusedVariables false
set_option linter.unusedSimpArgs false
set_option linter.unusedSectionVars false
namespace Go.Proofs.Ytfdbdbihhgabpaa.Pure
open Go.RowKit Go.Proofs.Ytfdbdbihhgabpaa.Q Go.Proofs.YtfdbdbihhgabpaaW.PrintWords Go.Proofs.YtfdbdbihhgabpaaW.PrintLast Go.Proofs.Ytfdbdbihhgabpaa.Kit

/-- How many trees a kind is of, -1 for no kind. -/
def ar (x : Int) : Int := if x = 0 ∨ x = 1 ∨ x = 2 then 0 else if x = 5 then 1 else if x = 3 ∨ x = 4 then 2 else -1
theorem ar_bd (x : Int) : -1 ≤ ar x ∧ ar x ≤ 2 := by unfold ar; split <;> (try split) <;> (try split) <;> omega
theorem spec_ar (x : Int) : Ev (fun k => spec_l9Arity.f k x) (ar x) := by
  unfold spec_l9Arity.f ar
  refine ⟨1, fun k hk => ?_⟩
  obtain ⟨k, rfl⟩ : ∃ j, k = j + 1 := ⟨k - 1, by omega⟩
  by_cases h0 : x = 0
  · subst h0; simp [spec_l9Arity.j0]
  by_cases h1 : x = 1
  · subst h1; simp [spec_l9Arity.j0]
  by_cases h2 : x = 2
  · subst h2; simp [spec_l9Arity.j0]
  by_cases h5 : x = 5
  · subst h5; simp [spec_l9Arity.j0]
  by_cases h3 : x = 3
  · subst h3; simp [spec_l9Arity.j0]
  by_cases h4 : x = 4
  · subst h4; simp [spec_l9Arity.j0]
  simp [spec_l9Arity.j0, h0, h1, h2, h3, h4, h5]
theorem impl_ar (x : Int) : Ev (fun k => impl_below.f k x) (ar x) := by
  unfold impl_below.f ar
  refine ⟨1, fun k hk => ?_⟩
  obtain ⟨k, rfl⟩ : ∃ j, k = j + 1 := ⟨k - 1, by omega⟩
  by_cases h0 : x = 0
  · subst h0; simp [impl_below.j0]
  by_cases h1 : x = 1
  · subst h1; simp [impl_below.j0]
  by_cases h2 : x = 2
  · subst h2; simp [impl_below.j0]
  by_cases h5 : x = 5
  · subst h5; simp [impl_below.j0]
  by_cases h3 : x = 3
  · subst h3; simp [impl_below.j0]
  by_cases h4 : x = 4
  · subst h4; simp [impl_below.j0]
  simp [impl_below.j0, h0, h1, h2, h3, h4, h5]
/-- What is left behind n trees; none where they are not there. -/
def sk (any : Bool) : Nat → List Int → Option (List Int)
  | 0, s => some s
  | _ + 1, [] => none
  | n + 1, x :: s => if ar x < 0 ∨ (x = 0 ∧ any = false) then none else sk any (n + (ar x).toNat) s
theorem sk_add (any : Bool) : ∀ (s : List Int) (n m : Nat), sk any (n + m) s = (sk any n s).bind (sk any m)
  | s, 0, m => by simp [sk]
  | [], n + 1, m => by rw [show n + 1 + m = (n + m) + 1 by omega]; simp [sk]
  | x :: s, n + 1, m => by
    rw [show n + 1 + m = (n + m) + 1 by omega]
    simp only [sk]
    split
    · rfl
    · rw [show n + m + (ar x).toNat = (n + (ar x).toNat) + m by omega]
      exact sk_add any s _ m
theorem sk_len (any : Bool) : ∀ (s : List Int) (n : Nat) (r : List Int), sk any n s = some r → r.length + n ≤ s.length ∧ ∃ p, s = p ++ r
  | s, 0, r, h => by simp [sk] at h; subst h; exact ⟨by omega, [], rfl⟩
  | [], n + 1, r, h => by simp [sk] at h
  | x :: s, n + 1, r, h => by
    simp only [sk] at h
    split at h
    · cases h
    · obtain ⟨h1, p, h2⟩ := sk_len any s _ r h
      exact ⟨by simp; omega, x :: p, by simp [h2]⟩
theorem sk_any : ∀ (s : List Int) (n : Nat), (∀ x ∈ s, x ≠ 0) → sk false n s = sk true n s
  | s, 0, _ => by simp [sk]
  | [], n + 1, _ => by simp [sk]
  | x :: s, n + 1, h => by
    have hx := h x (by simp)
    simp only [sk]
    rw [sk_any s _ (fun y hy => h y (by simp [hy]))]
    simp [hx]
theorem sk_no0 : ∀ (s : List Int) (n : Nat), sk false n s = some [] → (∀ x ∈ s, x ≠ 0)
  | [], _, _, x, hx => by simp at hx
  | y :: s, 0, h, x, hx => by simp [sk] at h
  | y :: s, n + 1, h, x, hx => by
    simp only [sk] at h
    split at h
    · cases h
    · rename_i hc
      rcases List.mem_cons.1 hx with rfl | hx
      · intro e; exact hc (by simp [e])
      · exact sk_no0 s _ h x hx
/-- The place of what is left. -/
def endI (L : Nat) : Option (List Int) → Int
  | some r => ((L - r.length : Nat) : Int)
  | none => -1
def endS (L : Nat) : Option (List Int) → Int
  | some r => ((L - r.length : Nat) : Int)
  | none => 0
theorem impl_end_l0 (t : List Int) (hb : t.length ≤ 100) : ∀ (post pre : List Int) (n : Nat), t = pre ++ post → n ≤ 1 + 2 * pre.length → Ev (fun k => impl_endOf.l0 k t (pre.length : Int) (n : Int)) (endI t.length (sk true n post))
  | post, pre, 0, ht, hn => by
    refine Ev.step (fun k => by simp only [impl_endOf.l0]; rw [if_neg (by simp)]) ?_
    exact some_ev (by simp [sk, endI, ht])
  | [], pre, n + 1, ht, hn => by
    refine Ev.step (fun k => by simp only [impl_endOf.l0]; rw [if_pos (by omega), if_neg (by omega), if_pos (by rw [ht]; simp)]) ?_
    exact some_ev (by simp [sk, endI])
  | x :: post, pre, n + 1, ht, hn => by
    have hl : t.length = pre.length + (post.length + 1) := by rw [ht]; simp
    have hr : rd t (pre.length : Int) = x := by rw [ht]; exact rd_at rfl
    have hx := ar_bd x
    refine Ev.step (fun k => by simp only [impl_endOf.l0]; rw [if_pos (by omega), if_neg (by omega), if_neg (by omega), if_pos (by omega), if_pos (by omega), hr, w_succ (by omega)]) ?_
    refine bind_ev (impl_ar x) ?_
    simp only [sk]
    by_cases h : ar x < 0
    · rw [if_pos (.inl h)]
      exact ite_t h (some_ev rfl)
    · rw [if_neg (by simp [h])]
      refine ite_f h (bind_ev (impl_ar x) ?_)
      have e : wrap64 (wrap64 (((n + 1 : Nat) : Int) + ar x) - 1) = ((n + (ar x).toNat : Nat) : Int) := by
        rw [w64 (x := ((n + 1 : Nat) : Int) + ar x) (by omega) (by omega), w64 (by omega) (by omega)]; omega
      rw [e]
      have ih := impl_end_l0 t hb post (pre ++ [x]) (n + (ar x).toNat) (by simp [ht]) (by simp; omega)
      simpa using ih
theorem spec_end_l0 (t : List Int) (any : Bool) (hb : t.length ≤ 100) : ∀ (post pre : List Int) (n : Nat), t = pre ++ post → n ≤ 1 + 2 * pre.length → Ev (fun k => spec_l9End.l0 k t (pre.length : Int) any (n : Int)) (endS t.length (sk any n post))
  | post, pre, 0, ht, hn => by
    refine Ev.step (fun k => by simp only [spec_l9End.l0]; rw [if_neg (by simp)]) ?_
    exact some_ev (by simp [sk, endS, ht])
  | [], pre, n + 1, ht, hn => by
    refine Ev.step (fun k => by simp only [spec_l9End.l0]; rw [if_pos (by omega), if_pos (by rw [ht]; simp)]) ?_
    exact some_ev (by simp [sk, endS])
  | x :: post, pre, n + 1, ht, hn => by
    have hl : t.length = pre.length + (post.length + 1) := by rw [ht]; simp
    have hr : rd t (pre.length : Int) = x := by rw [ht]; exact rd_at rfl
    have hx := ar_bd x
    refine Ev.step (fun k => by simp only [spec_l9End.l0]; rw [if_pos (by omega), if_neg (by omega), if_pos (by omega), if_pos (by omega), hr, w_succ (by omega)]) ?_
    refine bind_ev (spec_ar x) ?_
    simp only [sk]
    by_cases h : ar x < 0
    · rw [if_pos (.inl h)]
      exact ite_t h (some_ev rfl)
    · refine ite_f h ?_
      have e : wrap64 (((n + 1 : Nat) : Int) + wrap64 (ar x - 1)) = ((n + (ar x).toNat : Nat) : Int) := by
        rw [w64 (x := ar x - 1) (by omega) (by omega), w64 (by omega) (by omega)]; omega
      have ih := spec_end_l0 t any hb post (pre ++ [x]) (n + (ar x).toNat) (by simp [ht]) (by simp; omega)
      have ih' : Ev (fun k => spec_l9End.l0 k t (((pre.length + 1 : Nat) : Int)) any ((n + (ar x).toNat : Nat) : Int)) (endS t.length (sk any (n + (ar x).toNat) post)) := by simpa using ih
      by_cases h0 : x = 0
      · refine ite_t h0 ?_
        cases any with
        | false => rw [if_pos (.inr ⟨h0, rfl⟩)]; exact ite_f (by decide) (some_ev rfl)
        | true => rw [if_neg (by simp [h])]; refine ite_t rfl (bind_ev (spec_ar x) ?_); rw [e]; exact ih'
      · rw [if_neg (by simp [h, h0])]
        refine ite_f h0 (bind_ev (spec_ar x) ?_); rw [e]; exact ih'
end Go.Proofs.Ytfdbdbihhgabpaa.Pure
