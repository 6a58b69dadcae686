/- Plain lemmas on rounds, lists and int's wrap, for the pure statements of this seat. Conditions: none. -/
import Derived.Test.YtpnhlccdhflogaaWWords
set_option linter.unusedVariables false
set_option linter.unusedSimpArgs false
namespace Go.Proofs.Ytpnhlccdhflogaa.Kit
open Go.RowKit Go.Proofs.YtpnhlccdhflogaaW.PrintWords

theorem w64 {x : Int} (h : -9223372036854775808 ≤ x) (h' : x ≤ 9223372036854775807) : wrap64 x = x := by
  unfold wrap64
  omega
theorem w_succ {n : Nat} (h : n < 9223372036854775807) : wrap64 ((n : Int) + 1) = ((n + 1 : Nat) : Int) := by
  rw [w64 (by omega) (by omega)]; omega
theorem set_mid {α : Type} (pre : List α) (x y : α) (post : List α) : (pre ++ x :: post).set pre.length y = pre ++ y :: post := by simp
theorem getD_mid {α : Type} (pre : List α) (x d : α) (post : List α) : (pre ++ x :: post).getD pre.length d = x := by simp [List.getD]
theorem getD_at {α : Type} {pre : List α} {x d : α} {post : List α} {n : Nat} (h : n = pre.length) : (pre ++ x :: post).getD n d = x := by subst h; exact getD_mid _ _ _ _
theorem set_at {α : Type} {pre : List α} {x y : α} {post : List α} {n : Nat} (h : n = pre.length) : (pre ++ x :: post).set n y = pre ++ y :: post := by subst h; exact set_mid _ _ _ _
theorem rd_mid (pre : List Int) (x : Int) (post : List Int) : rd (pre ++ x :: post) (pre.length : Int) = x := by
  unfold rd; rw [Int.toNat_natCast]; exact getD_mid _ _ _ _
theorem rd_at {pre : List Int} {x : Int} {post : List Int} {n : Nat} (h : n = pre.length) : rd (pre ++ x :: post) (n : Int) = x := by subst h; exact rd_mid _ _ _
theorem bind_ev {α β : Type} {g : Nat → Option α} {f : Nat → α → Option β} {a : α} {r : β} (h : Ev g a) (k : Ev (fun n => f n a) r) : Ev (fun n => (g n).bind (f n)) r := Ev.bind h k
theorem ite_t {α : Type} {c : Prop} [Decidable c] {f g : Nat → Option α} {r : α} (h : c) (k : Ev f r) : Ev (fun n => if c then f n else g n) r := by
  obtain ⟨K, hK⟩ := k; exact ⟨K, fun n hn => (if_pos h).trans (hK n hn)⟩
theorem ite_f {α : Type} {c : Prop} [Decidable c] {f g : Nat → Option α} {r : α} (h : ¬ c) (k : Ev g r) : Ev (fun n => if c then f n else g n) r := by
  obtain ⟨K, hK⟩ := k; exact ⟨K, fun n hn => (if_neg h).trans (hK n hn)⟩
theorem ite_ev {α : Type} {c : Prop} [Decidable c] {f g : Nat → Option α} {r r' : α} (h : c → Ev f r) (k : ¬ c → Ev g r') : Ev (fun n => if c then f n else g n) (if c then r else r') := by
  by_cases hc : c
  · rw [if_pos hc]; exact ite_t hc (h hc)
  · rw [if_neg hc]; exact ite_f hc (k hc)
theorem some_ev {α : Type} {a : α} {b : α} (h : a = b) : Ev (fun _ => some a) b := by subst h; exact Ev.now _
theorem const_ev {α : Type} {a : Option α} {b : α} (h : a = some b) : Ev (fun _ => a) b := ⟨0, fun _ _ => h⟩
/-- Both come to the same, with as many rounds. -/
theorem ev_unique {α : Type} {g : Nat → Option α} {a b : α} (h : Ev g a) (k : Ev g b) : a = b := by
  obtain ⟨K, hK⟩ := h; obtain ⟨L, hL⟩ := k
  have h1 := hK (max K L) (Nat.le_max_left _ _)
  have h2 := hL (max K L) (Nat.le_max_right _ _)
  rw [h1] at h2; exact Option.some.inj h2
/-- The numbers from k on. -/
def from_ (k : Int) : Nat → List Int
  | 0 => []
  | n + 1 => k :: from_ (k + 1) n
theorem from_length (k : Int) (n : Nat) : (from_ k n).length = n := by
  induction n generalizing k with
  | zero => rfl
  | succ n ih => simp [from_, ih]
/-- Does one of them fit? (none: what is asked comes to nothing) -/
def anyO {α : Type} (p : α → Option Bool) : List α → Option Bool
  | [] => some false
  | x :: xs => (p x).bind fun b => if b = true then some true else anyO p xs
/-- The place of the first that fits, -1 for none; the first one's place is i. -/
def idxO {α : Type} (p : α → Option Bool) : List α → Nat → Option Int
  | [], _ => some (-1)
  | x :: xs, i => (p x).bind fun b => if b = true then some (i : Int) else idxO p xs (i + 1)
theorem idxO_any {α : Type} (p : α → Option Bool) : ∀ (xs : List α) (i : Nat) (b : Bool), anyO p xs = some b → ∃ r, idxO p xs i = some r ∧ b = decide (0 ≤ r)
  | [], i, b, h => ⟨-1, rfl, by simp [anyO] at h; simp [← h]⟩
  | x :: xs, i, b, h => by
    simp only [anyO] at h
    obtain ⟨c, hc, h⟩ := Option.bind_eq_some_iff.1 h
    cases c with
    | true =>
      simp at h
      exact ⟨i, by simp [idxO, hc], by simp [← h]⟩
    | false =>
      simp at h
      obtain ⟨r, h1, h2⟩ := idxO_any p xs (i + 1) b h
      exact ⟨r, by simp [idxO, hc, h1], h2⟩
theorem anyO_mono {α : Type} {p q : α → Option Bool} (h : ∀ x, LeO (p x) (q x)) : ∀ xs, LeO (anyO p xs) (anyO q xs)
  | [] => LeO.refl _
  | x :: xs => LeO.bind (h x) (fun b => LeO.ite (LeO.refl _) (anyO_mono h xs))
theorem anyO_some {α : Type} (p : α → Bool) : ∀ xs, anyO (fun x => some (p x)) xs = some (xs.any p)
  | [] => rfl
  | x :: xs => by
    simp only [anyO, Option.bind_some, List.any_cons]
    cases h : p x
    · simpa using anyO_some p xs
    · simp
theorem anyO_congr {α : Type} {p q : α → Option Bool} : ∀ {xs : List α}, (∀ x ∈ xs, p x = q x) → anyO p xs = anyO q xs
  | [], _ => rfl
  | x :: xs, h => by
    simp only [anyO]
    rw [h x (by simp), anyO_congr (fun y hy => h y (by simp [hy]))]
theorem anyO_ev {α : Type} {p : Nat → α → Option Bool} {q : α → Bool} : ∀ {xs : List α}, (∀ x ∈ xs, Ev (fun k => p k x) (q x)) → Ev (fun k => anyO (p k) xs) (xs.any q)
  | [], _ => Ev.now _
  | x :: xs, h => by
    simp only [anyO, List.any_cons]
    refine Ev.bind (h x (by simp)) ?_
    cases hq : q x
    · simpa using anyO_ev (fun y hy => h y (by simp [hy]))
    · simpa using Ev.now _
end Go.Proofs.Ytpnhlccdhflogaa.Kit
