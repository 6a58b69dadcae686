/- SameShape, plain part: two orders' numbers tell the same shape. Conditions: none. -/
import Derived.Test.YtnocadhibajaoaaKit
set_option linter.unusedVariables false
set_option linter.unusedSimpArgs false
namespace Go.Proofs.Ytnocadhibajaoaa.Pure
/-- The place of a name in an order, -1 for none. -/
def nmI (x : Int) : Nat → List Int → Int
  | _, [] => -1
  | i, y :: ys => if y = x then (i : Int) else nmI x (i + 1) ys
def nm (R : List Int) (x : Int) : Int := nmI x 0 R
theorem nmI_not (x : Int) : ∀ (R : List Int) (i : Nat), x ∉ R → nmI x i R = -1
  | [], i, h => rfl
  | y :: ys, i, h => by
    simp only [List.mem_cons, not_or] at h
    unfold nmI
    rw [if_neg (fun e => h.1 e.symm)]
    exact nmI_not x ys (i + 1) h.2
theorem nmI_app (x : Int) (T : List Int) : ∀ (R : List Int) (i : Nat), x ∈ R → nmI x i (R ++ T) = nmI x i R
  | [], i, h => by simp at h
  | y :: ys, i, h => by
    show (if y = x then (i : Int) else nmI x (i + 1) (ys ++ T)) = if y = x then (i : Int) else nmI x (i + 1) ys
    by_cases e : y = x
    · rw [if_pos e, if_pos e]
    · rw [if_neg e, if_neg e]
      rcases List.mem_cons.1 h with h | h
      · exact absurd h.symm e
      · exact nmI_app x T ys (i + 1) h
theorem nmI_end (x : Int) (T : List Int) : ∀ (R : List Int) (i : Nat), x ∉ R → nmI x i (R ++ x :: T) = ((i + R.length : Nat) : Int)
  | [], i, h => by show (if x = x then (i : Int) else _) = _; rw [if_pos rfl]; simp
  | y :: ys, i, h => by
    simp only [List.mem_cons, not_or] at h
    show (if y = x then (i : Int) else nmI x (i + 1) (ys ++ x :: T)) = _
    rw [if_neg (fun e => h.1 e.symm), nmI_end x T ys (i + 1) h.2]
    simp only [List.length_cons]
    omega
/-- A name in the order: the order behind it and its number. -/
def num (a : List Int) (x : Int) : List Int × Int := if x < 0 then (a, -1) else if x ∈ a then (a, nm a x) else (a ++ [x], (a.length : Int))
def numL (a : List Int) : List Int → List Int × List Int
  | [] => (a, [])
  | x :: xs => ((numL (num a x).1 xs).1, (num a x).2 :: (numL (num a x).1 xs).2)
theorem num_pre (a : List Int) (x : Int) : ∃ t, (num a x).1 = a ++ t := by
  unfold num
  split
  · exact ⟨[], by simp⟩
  · split
    · exact ⟨[], by simp⟩
    · exact ⟨[x], rfl⟩
theorem numL_pre : ∀ (xs a : List Int), ∃ t, (numL a xs).1 = a ++ t
  | [], a => ⟨[], by simp [numL]⟩
  | x :: xs, a => by
    obtain ⟨t, ht⟩ := num_pre a x
    obtain ⟨u, hu⟩ := numL_pre xs (num a x).1
    exact ⟨t ++ u, by show (numL (num a x).1 xs).1 = _; rw [hu, ht]; simp⟩
theorem numL_len : ∀ (xs a : List Int), (numL a xs).2.length = xs.length
  | [], a => rfl
  | x :: xs, a => by show (_ :: _ : List Int).length = _; simp [numL_len xs]
theorem num_nm (a T : List Int) (x : Int) (h0 : ∀ y ∈ a ++ T, 0 ≤ y) (hT : ∃ u, a ++ T = (num a x).1 ++ u) : (num a x).2 = nm (a ++ T) x := by
  unfold num at hT ⊢
  by_cases h : x < 0
  · rw [if_pos h]
    exact (nmI_not x _ 0 (fun hm => by have := h0 x hm; omega)).symm
  · rw [if_neg h] at hT ⊢
    by_cases hm : x ∈ a
    · rw [if_pos hm]
      exact (nmI_app x T a 0 hm).symm
    · rw [if_neg hm] at hT ⊢
      obtain ⟨u, hu⟩ := hT
      rw [hu]
      have := nmI_end x u a 0 hm
      unfold nm
      rw [show (a ++ [x], (a.length : Int)).1 ++ u = a ++ x :: u by simp, this]
      simp
theorem numL_nm : ∀ (xs a T : List Int), (∀ y ∈ a ++ T, 0 ≤ y) → (∃ u, a ++ T = (numL a xs).1 ++ u) → (numL a xs).2 = xs.map (nm (a ++ T))
  | [], a, T, _, _ => rfl
  | x :: xs, a, T, h0, hT => by
    obtain ⟨u, hu⟩ := hT
    obtain ⟨t, ht⟩ := num_pre a x
    obtain ⟨v, hv⟩ := numL_pre xs (num a x).1
    have e : a ++ T = (num a x).1 ++ (v ++ u) := by
      rw [hu]; show (numL (num a x).1 xs).1 ++ u = _; rw [hv]; simp
    show (num a x).2 :: (numL (num a x).1 xs).2 = nm (a ++ T) x :: xs.map (nm (a ++ T))
    rw [num_nm a T x h0 ⟨_, e⟩]
    congr 1
    rw [e] at h0 ⊢
    exact numL_nm xs (num a x).1 (v ++ u) h0 ⟨u, by rw [hv]; simp⟩
/-- What the shape's list is, from the whole order. -/
def shp (R rs : List Int) (lk : Int → List Int) : List Int := rs.map (nm R) ++ R.flatMap fun x => (lk x).map (nm R)
theorem flat_len (f : Int → List Int) (hf : ∀ x, (f x).length = 2) : ∀ R : List Int, (R.flatMap f).length = 2 * R.length
  | [] => rfl
  | x :: R => by simp only [List.flatMap_cons, List.length_append, hf, flat_len f hf R, List.length_cons]; omega
theorem flat_eq (f g : Int → List Int) (hf : ∀ x, (f x).length = 2) (hg : ∀ x, (g x).length = 2) : ∀ R S : List Int, R.length = S.length → (R.flatMap f = S.flatMap g ↔ ∀ i : Nat, (h : i < R.length) → (h2 : i < S.length) → f R[i] = g S[i])
  | [], [], _ => by simp
  | [], _ :: _, h => by simp at h
  | _ :: _, [], h => by simp at h
  | x :: R, y :: S, h => by
    have hl : R.length = S.length := by simpa using h
    simp only [List.flatMap_cons]
    constructor
    · intro e
      obtain ⟨e1, e2⟩ := List.append_inj e (by rw [hf, hg])
      intro i h1 h2
      cases i with
      | zero => exact e1
      | succ i => exact (flat_eq f g hf hg R S hl).1 e2 i (by simpa using h1) (by simpa using h2)
    · intro e
      have e1 := e 0 (by simp) (by simp)
      have e2 := (flat_eq f g hf hg R S hl).2 (fun i h1 h2 => e (i + 1) (by simpa using h1) (by simpa using h2))
      simp only [List.getElem_cons_zero] at e1
      rw [e1, e2]
/-- Two shapes are the same iff the orders are as long and all numbers are the same. -/
theorem shp_eq (R S rs ss : List Int) (lk lj : Int → List Int) (hr : rs.length = ss.length) (h1 : ∀ x, (lk x).length = 2) (h2 : ∀ x, (lj x).length = 2) :
    shp R rs lk = shp S ss lj ↔ R.length = S.length ∧ rs.map (nm R) = ss.map (nm S) ∧ ∀ i : Nat, (h : i < R.length) → (h2 : i < S.length) → (lk R[i]).map (nm R) = (lj S[i]).map (nm S) := by
  unfold shp
  have a1 : ∀ x, ((fun x => (lk x).map (nm R)) x).length = 2 := fun x => by simp [h1]
  have a2 : ∀ x, ((fun x => (lj x).map (nm S)) x).length = 2 := fun x => by simp [h2]
  constructor
  · intro e
    have hl := congrArg List.length e
    simp only [List.length_append, List.length_map, flat_len _ a1, flat_len _ a2] at hl
    obtain ⟨e1, e2⟩ := List.append_inj e (by simp [hr])
    have hRS : R.length = S.length := by omega
    exact ⟨hRS, e1, (flat_eq _ _ a1 a2 R S hRS).1 e2⟩
  · rintro ⟨hRS, e1, e2⟩
    rw [e1, (flat_eq _ _ a1 a2 R S hRS).2 e2]
end Go.Proofs.Ytnocadhibajaoaa.Pure
