/- GreedyCover, for every input. Conditions: none. -/
import Derived.Test.YtfdbdbihhgabpaaPGC
import Derived.Test.YtfdbdbihhgabpaaPMk
import Derived.Test.YtfdbdbihhgabpaaGoodFnExactGreedyCover
set_option linter.unusedVariables false
set_option linter.unusedSimpArgs false
namespace Go.Proofs.Ytfdbdbihhgabpaa.Pure
open Go.RowKit Go.Proofs.Ytfdbdbihhgabpaa.Q Go.Proofs.YtfdbdbihhgabpaaW.PrintWords Go.Proofs.YtfdbdbihhgabpaaW.PrintLast Go.Proofs.Ytfdbdbihhgabpaa.Kit Go.Proofs.Ytfdbdbihhgabpaa.Wf

theorem FnExactGreedyCover (a : List Int) (ha : a.length ≤ maxLen ∧ ∀ x ∈ a, (Lit.int .i64 x).wf = true) (l : List S52) (hp : l.length ≤ maxLen ∧ ∀ x ∈ l, wf_S52 x) : ∃ k, laws_FnExactGreedyCover.f k a l = some true := by
  unfold laws_FnExactGreedyCover.f
  by_cases g : 1048576 < (a.length : Int)
  · exact ⟨0, if_pos (.inl g)⟩
  have hab : a.length ≤ 1048576 := by omega
  obtain ⟨z, ⟨k1, hz⟩, hz2⟩ := szPatternS_ok l 1048576 (by omega) (by omega) hp
  by_cases h : z < 0
  · exact ⟨k1, if_pos (.inr ⟨g, z, hz k1 (Nat.le_refl _), .inl h⟩)⟩
  · have hl := (hz2 (by omega)).2
    have hl2 := cvP_bd l hl
    obtain ⟨k2, ht⟩ := toPatternS_ev l hl
    obtain ⟨k3, hi⟩ := toIntS_ev a hab
    obtain ⟨⟨o, c, b⟩, ho, ⟨k4, h1⟩, ⟨k5, h2⟩⟩ := greedy_both a (l.map cv_S52) hab hl2.1
    simp only at ho
    obtain ⟨k6, he⟩ := eqPatternS_ev _ hl2
    obtain ⟨k7, hq⟩ := eqPieceS_ev o (by omega)
    obtain ⟨k8, hei⟩ := eqIntS_ev a hab
    obtain ⟨k9, hh⟩ := heldPieceS_ev o (by omega)
    obtain ⟨k10, hk⟩ := markPieceS_ev o (by omega)
    obtain ⟨k11, hm⟩ := markIntS_ev a 1 (by omega) (by omega) (by omega)
    have hc := cntPat_le (l.map cv_S52) (fun x hx => (hl2.2 x hx).1)
    have hc2 : (1 + (a.length : Int) + (markPatternS_cnt (l.map cv_S52) : Nat) : Int) < 2305843009213693952 := by
      have h3 := hl2.1
      omega
    generalize hk' : k1 + k2 + k3 + k4 + k5 + k6 + k7 + k8 + k9 + k10 + k11 = k
    exact ⟨k, if_pos (.inr ⟨g, z, hz k (by omega), .inr ⟨h, _, hi k (by omega), _, ht k (by omega), _, _, _, h1 k (by omega), _, hi k (by omega), _, ht k (by omega), _, h2 k (by omega), hq k (by omega), _, hi k (by omega), hei k (by omega), _, ht k (by omega), he k (by omega), _, _, hm k (by omega), by omega, hc2, hq k (by omega), _, _, hk k (by omega), by omega, hh k (by omega),
      _, hi k (by omega), _, ht k (by omega), _, h2 k (by omega), hq k (by omega), hh k (by omega), trivial⟩⟩)⟩
end Go.Proofs.Ytfdbdbihhgabpaa.Pure
