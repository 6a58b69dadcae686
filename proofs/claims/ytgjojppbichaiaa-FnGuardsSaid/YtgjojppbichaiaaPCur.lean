/- Choices read from bytes: each is there, and within its bounds. Conditions: none. -/
import Derived.Test.YtgjojppbichaiaaKit
import Derived.Test.YtgjojppbichaiaaQx0
import Derived.Test.YtgjojppbichaiaaQx9
import Derived.Laws.BitsAllLaws
set_option linter.unusedVariables false
set_option linter.unusedSimpArgs false
set_option linter.unusedSectionVars false
namespace Go.Proofs.Ytgjojppbichaiaa.Pure
open Go.RowKit Go.Proofs.Ytgjojppbichaiaa.Q Go.Proofs.YtgjojppbichaiaaW.PrintWords Go.Proofs.YtgjojppbichaiaaW.PrintLast Go.Proofs.Ytgjojppbichaiaa.Kit

def Bytes (c : List Int) : Prop := ∀ x ∈ c, 0 ≤ x ∧ x ≤ 255
theorem byte_at {c : List Int} (hc : Bytes c) {a : Int} (h0 : 0 ≤ a) (h1 : a < c.length) : 0 ≤ rd c a ∧ rd c a ≤ 255 := by
  have e : rd c a ∈ c := by
    have h : a.toNat < c.length := by omega
    have : rd c a = c[a.toNat] := by simp [rd, List.getD, h]
    rw [this]; exact List.getElem_mem h
  exact hc _ e
theorem bytes_of {c : List Int} (hw : ∀ x ∈ c, (Lit.int .u8 x).wf = true) : Bytes c := by
  intro x hx
  have := hw x hx
  simp [Lit.wf] at this
  have h1 : IntKind.u8.min = 0 := by decide
  have h2 : IntKind.u8.max = 255 := by decide
  omega
theorem top_byte (x : Int) : 0 ≤ wrap64 (Go.bits .and .u64 ((IntKind.u64.wrap x) / 1099511627776) 255) ∧ wrap64 (Go.bits .and .u64 ((IntKind.u64.wrap x) / 1099511627776) 255) ≤ 255 := by
  rw [IntKind.wrap_u64]
  have h0 : 0 ≤ x % 18446744073709551616 / 1099511627776 := by omega
  have h1 : x % 18446744073709551616 / 1099511627776 < 18446744073709551616 := by omega
  rw [u64_and _ 255 h0 h1 (by omega) (by omega)]
  have h2 : (x % 18446744073709551616 / 1099511627776).toNat &&& (255 : Int).toNat ≤ 255 := Nat.and_le_right
  rw [w64 (by omega) (by omega)]
  omega
theorem next_ok {c : List Int} (hc : Bytes c) {a : Int} (s : Int) (h0 : 0 ≤ a) (h1 : a < 2305843009213693952) : ∃ v s', spec_l1Cur_next.f c a s = some (v, a + 1, s') ∧ 0 ≤ v ∧ v ≤ 255 := by
  unfold spec_l1Cur_next.f
  rw [w64 (x := a + 1) (by omega) (by omega)]
  by_cases h : a < (c.length : Int)
  · rw [if_pos h, if_pos h0, if_pos (by omega)]
    have hb := byte_at hc h0 h
    exact ⟨_, _, rfl, by rw [w64 (by omega) (by omega)]; exact hb.1, by rw [w64 (by omega) (by omega)]; exact hb.2⟩
  · rw [if_neg h, if_neg (by omega)]
    exact ⟨_, _, rfl, (top_byte _).1, (top_byte _).2⟩
theorem cpick_ok {c : List Int} (hc : Bytes c) {a : Int} (s : Int) (n : Int) (h0 : 0 ≤ a) (h1 : a < 1152921504606846976) : ∃ r a' s', spec_l1Cur_pick.f c a s n = some (r, a', s') ∧ 0 ≤ r ∧ (1 ≤ n → r < n) ∧ a ≤ a' ∧ a' ≤ a + 2 := by
  unfold spec_l1Cur_pick.f
  by_cases h : n ≤ 1
  · rw [if_pos h]; exact ⟨0, a, s, rfl, by omega, by omega, by omega, by omega⟩
  · rw [if_neg h]
    obtain ⟨v, s1, e1, v0, v1⟩ := next_ok hc s h0 (by omega)
    rw [e1]
    simp only [Option.bind_some]
    by_cases h2 : n > 200
    · rw [if_pos h2]
      obtain ⟨v2, s2, e2, w0, w1⟩ := next_ok hc s1 (a := a + 1) (by omega) (by omega)
      rw [e2]
      simp only [Option.bind_some]
      rw [if_neg (by omega)]
      refine ⟨_, _, _, rfl, ?_, fun _ => ?_, by omega, by omega⟩
      · rw [w64 (x := v * 256) (by omega) (by omega), w64 (by omega) (by omega)]; exact Int.tmod_nonneg _ (by omega)
      · exact Int.tmod_lt_of_pos _ (by omega)
    · rw [if_neg h2, if_neg (by omega)]
      exact ⟨_, _, _, rfl, Int.tmod_nonneg _ v0, fun _ => Int.tmod_lt_of_pos _ (by omega), by omega, by omega⟩
theorem one_ok {c : List Int} (hc : Bytes c) {a : Int} (s : Int) (n : Int) (h0 : 0 ≤ a) (h1 : a < 1152921504606846976) : ∃ b a' s', spec_l1Cur_one.f c a s n = some (b, a', s') ∧ a ≤ a' ∧ a' ≤ a + 2 := by
  obtain ⟨r, a', s', e, _, _, h2, h3⟩ := cpick_ok hc s n h0 h1
  unfold spec_l1Cur_one.f
  rw [e]
  exact ⟨_, _, _, rfl, h2, h3⟩
theorem among_ok {c : List Int} (hc : Bytes c) {a : Int} (s : Int) (l : List Int) (hl : 1 ≤ l.length) (h0 : 0 ≤ a) (h1 : a < 1152921504606846976) : ∃ r a' s', spec_l1Cur_among.f c a s l = some (r, a', s') ∧ r ∈ l ∧ a ≤ a' ∧ a' ≤ a + 2 := by
  obtain ⟨r, a', s', e, r0, r1, h2, h3⟩ := cpick_ok hc s (l.length : Int) h0 h1
  unfold spec_l1Cur_among.f
  rw [e]
  simp only [Option.bind_some]
  have := r1 (by omega)
  rw [if_pos r0, if_pos this]
  refine ⟨_, _, _, rfl, ?_, h2, h3⟩
  have h : r.toNat < l.length := by omega
  have : rd l r = l[r.toNat] := by simp [rd, List.getD, h]
  rw [this]; exact List.getElem_mem h
end Go.Proofs.Ytgjojppbichaiaa.Pure
