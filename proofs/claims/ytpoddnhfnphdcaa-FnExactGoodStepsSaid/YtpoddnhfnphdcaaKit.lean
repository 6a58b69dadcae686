/- Plain lemmas on rounds, lists and int's wrap, for the pure statements of this seat. Conditions: none. -/
import Derived.Test.YtpoddnhfnphdcaaWWords
set_option linter.unusedVariables false
set_option linter.unusedSimpArgs false
namespace Go.Proofs.Ytpoddnhfnphdcaa.Kit
open Go.RowKit Go.Proofs.YtpoddnhfnphdcaaW.PrintWords

theorem w64 {x : Int} (h : -9223372036854775808 ≤ x) (h' : x ≤ 9223372036854775807) : wrap64 x = x := by
  unfold wrap64
  omega
theorem w_succ {n : Nat} (h : n < 9223372036854775807) : wrap64 ((n : Int) + 1) = ((n + 1 : Nat) : Int) := by
  rw [w64 (by omega) (by omega)]; omega
theorem set_mid {α : Type} (pre : List α) (x y : α) (post : List α) : (pre ++ x :: post).set pre.length y = pre ++ y :: post := by simp
theorem getD_mid {α : Type} (pre : List α) (x d : α) (post : List α) : (pre ++ x :: post).getD pre.length d = x := by simp [List.getD]
theorem getD_at {α : Type} {pre : List α} {x d : α} {post : List α} {n : Nat} (h : n = pre.length) : (pre ++ x :: post).getD n d = x := by subst h; exact getD_mid _ _ _ _
theorem set_at {α : Type} {pre : List α} {x y : α} {post : List α} {n : Nat} (h : n = pre.length) : (pre ++ x :: post).set n y = pre ++ y :: post := by subst h; exact set_mid _ _ _ _
theorem rd_mid (pre : List Int) (x : Int) (post : List Int) : rd (pre ++ x :: post) (pre.length : Int) = x := by
  unfold rd; rw [Int.toNat_natCast]; exact getD_mid _ _ _ _
theorem rd_at {pre : List Int} {x : Int} {post : List Int} {n : Nat} (h : n = pre.length) : rd (pre ++ x :: post) (n : Int) = x := by subst h; exact rd_mid _ _ _
theorem bind_ev {α β : Type} {g : Nat → Option α} {f : Nat → α → Option β} {a : α} {r : β} (h : Ev g a) (k : Ev (fun n => f n a) r) : Ev (fun n => (g n).bind (f n)) r := Ev.bind h k
theorem ite_t {α : Type} {c : Prop} [Decidable c] {f g : Nat → Option α} {r : α} (h : c) (k : Ev f r) : Ev (fun n => if c then f n else g n) r := by
  obtain ⟨K, hK⟩ := k; exact ⟨K, fun n hn => (if_pos h).trans (hK n hn)⟩
theorem ite_f {α : Type} {c : Prop} [Decidable c] {f g : Nat → Option α} {r : α} (h : ¬ c) (k : Ev g r) : Ev (fun n => if c then f n else g n) r := by
  obtain ⟨K, hK⟩ := k; exact ⟨K, fun n hn => (if_neg h).trans (hK n hn)⟩
theorem ite_ev {α : Type} {c : Prop} [Decidable c] {f g : Nat → Option α} {r r' : α} (h : c → Ev f r) (k : ¬ c → Ev g r') : Ev (fun n => if c then f n else g n) (if c then r else r') := by
  by_cases hc : c
  · rw [if_pos hc]; exact ite_t hc (h hc)
  · rw [if_neg hc]; exact ite_f hc (k hc)
theorem some_ev {α : Type} {a : α} {b : α} (h : a = b) : Ev (fun _ => some a) b := by subst h; exact Ev.now _
theorem const_ev {α : Type} {a : Option α} {b : α} (h : a = some b) : Ev (fun _ => a) b := ⟨0, fun _ _ => h⟩
/-- Both come to the same, with as many rounds. -/
theorem ev_unique {α : Type} {g : Nat → Option α} {a b : α} (h : Ev g a) (k : Ev g b) : a = b := by
  obtain ⟨K, hK⟩ := h; obtain ⟨L, hL⟩ := k
  have h1 := hK (max K L) (Nat.le_max_left _ _)
  have h2 := hL (max K L) (Nat.le_max_right _ _)
  rw [h1] at h2; exact Option.some.inj h2
/-- The numbers from k on. -/
def from_ (k : Int) : Nat → List Int
  | 0 => []
  | n + 1 => k :: from_ (k + 1) n
theorem from_length (k : Int) (n : Nat) : (from_ k n).length = n := by
  induction n generalizing k with
  | zero => rfl
  | succ n ih => simp [from_, ih]
end Go.Proofs.Ytpoddnhfnphdcaa.Kit
