/- NewMarker: the program and the reference make the same marker; every number of cells by itself. Conditions: none. -/
import Derived.Test.YtmgnnegmohmbhaaGoodFnExactNewMarker
import Derived.Test.YtmgnnegmohmbhaaKit
import Derived.KernelRfl
set_option linter.unusedVariables false
namespace Go.Proofs.Ytmgnnegmohmbhaa.Pure
open Go.RowKit Go.Proofs.Ytmgnnegmohmbhaa.Q Go.Proofs.YtmgnnegmohmbhaaW.PrintWords Go.Proofs.YtmgnnegmohmbhaaW.PrintLast Go.Proofs.Ytmgnnegmohmbhaa.Kit

def cellsOf (n : Nat) : List S44 := (List.range n).map fun i => ⟨[-1, -1], 0, decide (0 < i)⟩
theorem of_good {k : Nat} {a : Int} (h : laws_FnExactNewMarker.good k a) : ∃ k, laws_FnExactNewMarker.f k a = some true := ⟨k, by unfold laws_FnExactNewMarker.f; rw [if_pos h]⟩
theorem one (n : Nat) (hs : spec_NewMarker.f 40 n = some (cellsOf n, [0, -1], false, true)) (hi : impl_NewMarker.f 40 n = some (cellsOf n, [0, -1], false, true)) (he : laws_eqMarker.f 40 (cellsOf n) [0, -1] false (cellsOf n) [0, -1] false = some true)
    (hb : (1 + (markCellS_cnt (cellsOf n) : Nat) + (([0, -1] : List Int).length : Nat) : Int) < 2305843009213693952)
    (hh : laws_heldMarker.f 40 (markCellS_mk 1 (cellsOf n)) (Kit.from_ (1 + (markCellS_cnt (cellsOf n) : Nat)) ([0, -1] : List Int).length) false 1 = some (1 + (markCellS_cnt (cellsOf n) : Nat) + (([0, -1] : List Int).length : Nat) : Int)) : laws_FnExactNewMarker.good 40 n :=
  ⟨_, _, _, _, hs, _, _, _, hi, he, hb, hh, _, _, _, hi, he, hh, trivial⟩
theorem FnExactNewMarker (a : Int) (w : (Lit.int .i64 a).wf = true) : ∃ k, laws_FnExactNewMarker.f k a = some true := by
  by_cases h : 2 ≤ a ∧ a ≤ 10
  · have hc : a = 2 ∨ a = 3 ∨ a = 4 ∨ a = 5 ∨ a = 6 ∨ a = 7 ∨ a = 8 ∨ a = 9 ∨ a = 10 := by omega
    rcases hc with rfl | rfl | rfl | rfl | rfl | rfl | rfl | rfl | rfl
    · exact of_good (one 2 (by kernel_rfl) (by kernel_rfl) (by kernel_rfl) (by decide +kernel) (by kernel_rfl))
    · exact of_good (one 3 (by kernel_rfl) (by kernel_rfl) (by kernel_rfl) (by decide +kernel) (by kernel_rfl))
    · exact of_good (one 4 (by kernel_rfl) (by kernel_rfl) (by kernel_rfl) (by decide +kernel) (by kernel_rfl))
    · exact of_good (one 5 (by kernel_rfl) (by kernel_rfl) (by kernel_rfl) (by decide +kernel) (by kernel_rfl))
    · exact of_good (one 6 (by kernel_rfl) (by kernel_rfl) (by kernel_rfl) (by decide +kernel) (by kernel_rfl))
    · exact of_good (one 7 (by kernel_rfl) (by kernel_rfl) (by kernel_rfl) (by decide +kernel) (by kernel_rfl))
    · exact of_good (one 8 (by kernel_rfl) (by kernel_rfl) (by kernel_rfl) (by decide +kernel) (by kernel_rfl))
    · exact of_good (one 9 (by kernel_rfl) (by kernel_rfl) (by kernel_rfl) (by decide +kernel) (by kernel_rfl))
    · exact of_good (one 10 (by kernel_rfl) (by kernel_rfl) (by kernel_rfl) (by decide +kernel) (by kernel_rfl))
  · have hs : spec_NewMarker.f 40 a = some ([], [], false, false) := by
      unfold spec_NewMarker.f spec_l1In.f
      split
      · have : decide (a ≤ 10) = false := by simp; omega
        simp [this]
      · simp
    have hi : impl_NewMarker.f 40 a = some ([], [], false, false) := by
      unfold impl_NewMarker.f impl_in.f
      split
      · have : decide (a ≤ 10) = false := by simp; omega
        simp [this]
      · simp
    exact of_good ⟨_, _, _, _, hs, _, _, _, hi, (by kernel_rfl), (by decide +kernel), (by kernel_rfl), _, _, _, hi, (by kernel_rfl), (by kernel_rfl), trivial⟩
end Go.Proofs.Ytmgnnegmohmbhaa.Pure
