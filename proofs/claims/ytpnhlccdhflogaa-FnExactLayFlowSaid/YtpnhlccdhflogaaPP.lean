/- Plain facts: a list with as many members as there are numbers has each number once, if it has each. Conditions: none. -/
import Derived.Test.YtpnhlccdhflogaaKit
set_option linter.unusedVariables false
set_option linter.unusedSimpArgs false
namespace Go.Proofs.Ytpnhlccdhflogaa.Pure
/-- What holds no member twice and lies in another is no longer. -/
theorem nodup_le {α : Type} [DecidableEq α] : ∀ (l s : List α), l.Nodup → (∀ x ∈ l, x ∈ s) → l.length ≤ s.length
  | [], s, _, _ => by simp
  | x :: l, s, hn, hs => by
    have hx := hs x (by simp)
    have h1 := nodup_le l (s.erase x) (List.nodup_cons.1 hn).2 (fun y hy => by
      have hne : y ≠ x := fun e => (List.nodup_cons.1 hn).1 (e ▸ hy)
      exact (List.mem_erase_of_ne hne).2 (hs y (by simp [hy])))
    have h2 := List.length_erase_of_mem hx
    have h3 : 0 < s.length := List.length_pos_of_mem hx
    simp only [List.length_cons]
    omega
/-- The numbers below n. -/
def nums (n : Nat) : List Int := (List.range n).map (fun (k : Nat) => (k : Int))
theorem mem_nums {n : Nat} {x : Int} : x ∈ nums n ↔ 0 ≤ x ∧ x < n := by
  unfold nums
  simp only [List.mem_map, List.mem_range]
  constructor
  · rintro ⟨k, hk, rfl⟩; omega
  · rintro ⟨h0, h1⟩; exact ⟨x.toNat, by omega, by omega⟩
theorem nums_nodup (n : Nat) : (nums n).Nodup := by
  unfold nums
  refine List.Pairwise.map _ ?_ List.nodup_range
  intro a b h e
  exact h (by omega)
theorem nums_length (n : Nat) : (nums n).length = n := by simp [nums]
/-- Each number once: then each is there. -/
theorem all_there {n : Nat} {l : List Int} (hl : l.length = n) (hn : l.Nodup) (hr : ∀ x ∈ l, 0 ≤ x ∧ x < n) (k : Int) (h0 : 0 ≤ k) (h1 : k < n) : k ∈ l := by
  by_cases h : k ∈ l
  · exact h
  · have := nodup_le (k :: l) (nums n) (List.nodup_cons.2 ⟨h, hn⟩) (fun x hx => by
      rcases List.mem_cons.1 hx with rfl | hx
      · exact mem_nums.2 ⟨h0, h1⟩
      · exact mem_nums.2 (hr x hx))
    rw [nums_length] at this
    simp at this
    omega
/-- Each is there: then there is nothing else. -/
theorem in_range {n : Nat} {l : List Int} (hl : l.length = n) (ha : ∀ k : Int, 0 ≤ k → k < n → k ∈ l) : ∀ x ∈ l, 0 ≤ x ∧ x < n := by
  intro x hx
  by_cases h : 0 ≤ x ∧ x < n
  · exact h
  · have := nodup_le (nums n) (l.erase x) (nums_nodup n) (fun y hy => by
      have hy := mem_nums.1 hy
      have hne : y ≠ x := fun e => h (e ▸ hy)
      exact (List.mem_erase_of_ne hne).2 (ha y hy.1 hy.2))
    rw [nums_length, List.length_erase_of_mem hx] at this
    have := List.length_pos_of_mem hx
    omega
theorem once {n : Nat} {l : List Int} (hl : l.length = n) (ha : ∀ k : Int, 0 ≤ k → k < n → k ∈ l) (a b : List Int) (x : Int) (e : l = a ++ x :: b) : x ∉ a := by
  intro hx
  have := nodup_le (nums n) (a ++ b) (nums_nodup n) (fun y hy => by
    have hy := mem_nums.1 hy
    have hm := ha y hy.1 hy.2
    rw [e] at hm
    simp only [List.mem_append, List.mem_cons] at hm ⊢
    rcases hm with h | rfl | h
    · exact .inl h
    · exact .inl hx
    · exact .inr h)
  rw [nums_length] at this
  rw [e] at hl
  simp at hl this
  omega
end Go.Proofs.Ytpnhlccdhflogaa.Pure
