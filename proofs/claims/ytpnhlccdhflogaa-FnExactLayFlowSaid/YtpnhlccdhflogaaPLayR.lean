/- LayFlow, for every input. Conditions: none. -/
import Derived.Test.YtpnhlccdhflogaaPLayF
import Derived.Test.YtpnhlccdhflogaaPHeld
import Derived.Test.YtpnhlccdhflogaaGoodFnExactLayFlow
set_option linter.unusedVariables false
set_option linter.unusedSimpArgs false
namespace Go.Proofs.Ytpnhlccdhflogaa.Pure
open Go.RowKit Go.Proofs.Ytpnhlccdhflogaa.Q Go.Proofs.YtpnhlccdhflogaaW.PrintWords Go.Proofs.YtpnhlccdhflogaaW.PrintLast Go.Proofs.Ytpnhlccdhflogaa.Kit Go.Proofs.Ytpnhlccdhflogaa.Wf

theorem FnExactLayFlow (l : List S95) (hp : l.length ≤ maxLen ∧ ∀ x ∈ l, wf_S95 x) (a : List Int) (ha : a.length ≤ maxLen ∧ ∀ x ∈ a, (Lit.int .i64 x).wf = true) : ∃ k, laws_FnExactLayFlow.f k l a = some true := by
  unfold laws_FnExactLayFlow.f
  by_cases g : 1048576 < (a.length : Int)
  · exact ⟨0, if_pos (.inl g)⟩
  have hab : a.length ≤ 1048576 := by omega
  obtain ⟨z, ⟨k1, hz⟩, hz2⟩ := szBlockS_ok l 1048576 (by omega) (by omega) hp
  by_cases h : z < 0
  · exact ⟨k1, if_pos (.inr ⟨g, z, hz k1 (Nat.le_refl _), .inl h⟩)⟩
  · have hl := (hz2 (by omega)).2
    have hl2 := cvB_bd l hl
    obtain ⟨k2, ht⟩ := toBlockS_ev l hl
    obtain ⟨k3, hi⟩ := toIntS_ev a hab
    obtain ⟨⟨o, b⟩, ho, ho2, ⟨k4, h1⟩, ⟨k5, h2⟩⟩ := layFlow_both (l.map cv_S95) a hl2.1 hab (fun b hb => (hl2.2 b hb).1)
    simp only at ho ho2
    obtain ⟨k6, he⟩ := eqBlockS_ev _ hl2
    obtain ⟨k7, hq⟩ := eqBlockS_ev o ⟨ho, fun x hx => ⟨ho2 x hx, trivial, trivial, trivial⟩⟩
    obtain ⟨k8, hei⟩ := eqIntS_ev a hab
    obtain ⟨k9, hh⟩ := heldB_ev o ho ho2
    have hc := cntB_le (l.map cv_S95) (fun x hx => (hl2.2 x hx).1)
    have hc3 := cntB_le o ho2
    have hc2 : (1 + (markBlockS_cnt (l.map cv_S95) : Nat) : Int) < 2305843009213693952 := by
      have h3 := hl2.1
      omega
    have hc4 : (1 + (markBlockS_cnt o : Nat) : Int) < 2305843009213693952 := by omega
    obtain ⟨k10, hm⟩ := markIntS_ev a (1 + (markBlockS_cnt (l.map cv_S95) : Nat) : Int) (by omega) (by omega) hc2
    generalize hk' : k1 + k2 + k3 + k4 + k5 + k6 + k7 + k8 + k9 + k10 = k
    exact ⟨k, if_pos (.inr ⟨g, z, hz k (by omega), .inr ⟨h, _, ht k (by omega), _, hi k (by omega), _, _, h1 k (by omega), _, ht k (by omega), _, hi k (by omega), _, h2 k (by omega), hq k (by omega), _, ht k (by omega), he k (by omega), _, hi k (by omega), hei k (by omega), hc2, _, _, hm k (by omega), by omega, hq k (by omega), hc4, hh k (by omega),
      _, ht k (by omega), _, hi k (by omega), _, h2 k (by omega), hq k (by omega), hh k (by omega), trivial⟩⟩)⟩
end Go.Proofs.Ytpnhlccdhflogaa.Pure
