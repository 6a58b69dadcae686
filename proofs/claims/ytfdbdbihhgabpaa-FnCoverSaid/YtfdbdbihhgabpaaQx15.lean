-- Written by the program wip/tools/pr.py of this claim's session, over the kit's print.py.
import Derived.Test.YtfdbdbihhgabpaaQx0
import Derived.Test.YtfdbdbihhgabpaaQx2
import Derived.Test.YtfdbdbihhgabpaaQx4
import Derived.Test.YtfdbdbihhgabpaaQx7
import Derived.Test.YtfdbdbihhgabpaaQx9
import Derived.Test.YtfdbdbihhgabpaaQx10
import Derived.Test.YtfdbdbihhgabpaaQx11
import Derived.Test.YtfdbdbihhgabpaaQx12
import Derived.Test.YtfdbdbihhgabpaaQx13
import Derived.Test.YtfdbdbihhgabpaaQx14
namespace Go.Proofs.Ytfdbdbihhgabpaa.Q
open Go.RowKit Go.Proofs.YtfdbdbihhgabpaaW.PrintWords Go.Proofs.YtfdbdbihhgabpaaW.PrintLast Go.Proofs.YtfdbdbihhgabpaaW.PrintMore
attribute [local go_sem] max2_int min2_int max_two min_two max_three min_three max_four min_four   -- for this text's walks alone
set_option linter.unusedVariables false
set_option linter.unusedSimpArgs false

/-! ### laws_FnCover: function 5 -/
mutual
def laws_FnCover.j0 : Nat → List Int → List Int → List (S57) → Int → Bool → Bool → List (S63) → Int → Bool → Int → Bool → Bool → Option (Bool)
  | 0, _, _, _, _, _, _, _, _, _, _, _, _ => none
  | k + 1, x1, x5, x6, x8, x9, x10, x14, x15, x16, x21, x22, x152 => if x152 = true then (some false) else (if x10 = true then (if x9 = true then (if x16 = true then (if x8 < x15 then (laws_FnCover.j1 k x1 x5 x6 x14 x15 x16 true) else (if x22 = true then (laws_FnCover.j1 k x1 x5 x6 x14 x15 x16 (decide (x21 < x15))) else (laws_FnCover.j1 k x1 x5 x6 x14 x15 x16 false))) else (laws_FnCover.j1 k x1 x5 x6 x14 x15 x16 true)) else (if x22 = true then (if x16 = true then (laws_FnCover.j1 k x1 x5 x6 x14 x15 x16 (decide (x21 < x15))) else (laws_FnCover.j1 k x1 x5 x6 x14 x15 x16 true)) else (laws_FnCover.j1 k x1 x5 x6 x14 x15 x16 false))) else (if x22 = true then (if x16 = true then (laws_FnCover.j1 k x1 x5 x6 x14 x15 x16 (decide (x21 < x15))) else (laws_FnCover.j1 k x1 x5 x6 x14 x15 x16 true)) else (laws_FnCover.j1 k x1 x5 x6 x14 x15 x16 false)))
def laws_FnCover.j1 : Nat → List Int → List Int → List (S57) → List (S63) → Int → Bool → Bool → Option (Bool)
  | 0, _, _, _, _, _, _, _ => none
  | k + 1, x1, x5, x6, x14, x15, x16, x177 => if x177 = true then (some false) else (if x16 = true then ((impl_IsCover.f k x5 x6 x14).bind fun bt641 => ((impl_CostAt.f k x5 0 x6).bind fun bt644 => (if bt641.2.2 = true then (if bt641.2.1 = true then (if bt641.1 = x15 then (if bt644.2 = true then (laws_FnCover.j2 k x1 (bt644.1 != x15)) else (laws_FnCover.j2 k x1 true)) else (laws_FnCover.j2 k x1 true)) else (laws_FnCover.j2 k x1 true)) else (laws_FnCover.j2 k x1 true)))) else ((spec_DrawCostAt.f k x1).bind fun bt657 => ((impl_CostAt.f k bt657.1 bt657.2.1 bt657.2.2).bind fun bt664 => ((spec_CostAt.f k bt657.1 bt657.2.1 bt657.2.2).bind fun bt666 => (if (bt664.2 == bt666.2) = true then (some (bt664.1 == bt666.1)) else (some false))))))
def laws_FnCover.j2 : Nat → List Int → Bool → Option (Bool)
  | 0, _, _ => none
  | k + 1, x1, x212 => if x212 = true then (some false) else ((spec_DrawCostAt.f k x1).bind fun bt646 => ((impl_CostAt.f k bt646.1 bt646.2.1 bt646.2.2).bind fun bt653 => ((spec_CostAt.f k bt646.1 bt646.2.1 bt646.2.2).bind fun bt655 => (if (bt653.2 == bt655.2) = true then (some (bt653.1 == bt655.1)) else (some false)))))
end
def laws_FnCover.f (k : Nat) (l0 : List Int) (l1 : List Int) : Option (Bool) := if (wrap64 ((l0.length : Int) + (l1.length : Int))) > 1048576 then (some true) else ((spec_DrawIsCover.f k l0).bind fun bt600 => ((impl_IsCover.f k bt600.1 bt600.2.1 bt600.2.2).bind fun bt609 => ((spec_IsCover.f k bt600.1 bt600.2.1 bt600.2.2).bind fun bt612 => ((impl_BestCover.f k bt600.1 bt600.2.1).bind fun bt615 => ((spec_BestCover.f k bt600.1 bt600.2.1).bind fun bt620 => ((impl_GreedyCover.f k bt600.1 bt600.2.1).bind fun bt625 => ((spec_GreedyCover.f k bt600.1 bt600.2.1).bind fun bt630 => (if (bt609.2.2 != bt612.2.2) = true then (laws_FnCover.j0 k l1 bt600.1 bt600.2.1 bt609.1 bt609.2.1 bt609.2.2 bt615.1 bt615.2.1 bt615.2.2 bt625.2.1 bt625.2.2 true) else (if bt609.1 = bt612.1 then (if (bt609.2.1 != bt612.2.1) = true then (laws_FnCover.j0 k l1 bt600.1 bt600.2.1 bt609.1 bt609.2.1 bt609.2.2 bt615.1 bt615.2.1 bt615.2.2 bt625.2.1 bt625.2.2 true) else (if (bt615.2.2 != bt620.2.2) = true then (laws_FnCover.j0 k l1 bt600.1 bt600.2.1 bt609.1 bt609.2.1 bt609.2.2 bt615.1 bt615.2.1 bt615.2.2 bt625.2.1 bt625.2.2 true) else (if bt615.2.1 = bt620.2.1 then ((laws_samePieces.f k bt615.1 bt620.1).bind fun t635 => (if t635 = true then (if (bt625.2.2 != bt630.2.2) = true then (laws_FnCover.j0 k l1 bt600.1 bt600.2.1 bt609.1 bt609.2.1 bt609.2.2 bt615.1 bt615.2.1 bt615.2.2 bt625.2.1 bt625.2.2 true) else (if bt625.2.1 = bt630.2.1 then ((laws_samePieces.f k bt625.1 bt630.1).bind fun t636 => (if t636 = true then ((impl_GoodTree.f k bt600.1).bind fun t637 => ((spec_GoodTree.f k bt600.1).bind fun t638 => (if (t637 != t638) = true then (laws_FnCover.j0 k l1 bt600.1 bt600.2.1 bt609.1 bt609.2.1 bt609.2.2 bt615.1 bt615.2.1 bt615.2.2 bt625.2.1 bt625.2.2 true) else ((impl_GoodPatterns.f k bt600.2.1).bind fun t639 => ((spec_GoodPatterns.f k bt600.2.1).bind fun t640 => (laws_FnCover.j0 k l1 bt600.1 bt600.2.1 bt609.1 bt609.2.1 bt609.2.2 bt615.1 bt615.2.1 bt615.2.2 bt625.2.1 bt625.2.2 (t639 != t640))))))) else (laws_FnCover.j0 k l1 bt600.1 bt600.2.1 bt609.1 bt609.2.1 bt609.2.2 bt615.1 bt615.2.1 bt615.2.2 bt625.2.1 bt625.2.2 true))) else (laws_FnCover.j0 k l1 bt600.1 bt600.2.1 bt609.1 bt609.2.1 bt609.2.2 bt615.1 bt615.2.1 bt615.2.2 bt625.2.1 bt625.2.2 true))) else (laws_FnCover.j0 k l1 bt600.1 bt600.2.1 bt609.1 bt609.2.1 bt609.2.2 bt615.1 bt615.2.1 bt615.2.2 bt625.2.1 bt625.2.2 true))) else (laws_FnCover.j0 k l1 bt600.1 bt600.2.1 bt609.1 bt609.2.1 bt609.2.2 bt615.1 bt615.2.1 bt615.2.2 bt625.2.1 bt625.2.2 true)))) else (laws_FnCover.j0 k l1 bt600.1 bt600.2.1 bt609.1 bt609.2.1 bt609.2.2 bt615.1 bt615.2.1 bt615.2.2 bt625.2.1 bt625.2.2 true))))))))))
theorem laws_FnCover.mono_l : ∀ k, (∀ y0 y1 y2 y3 y4 y5 y6 y7 y8 y9 y10 y11, LeO (laws_FnCover.j0 k y0 y1 y2 y3 y4 y5 y6 y7 y8 y9 y10 y11) (laws_FnCover.j0 (k + 1) y0 y1 y2 y3 y4 y5 y6 y7 y8 y9 y10 y11)) ∧ (∀ y0 y1 y2 y3 y4 y5 y6, LeO (laws_FnCover.j1 k y0 y1 y2 y3 y4 y5 y6) (laws_FnCover.j1 (k + 1) y0 y1 y2 y3 y4 y5 y6)) ∧ (∀ y0 y1, LeO (laws_FnCover.j2 k y0 y1) (laws_FnCover.j2 (k + 1) y0 y1))
  | 0 => ⟨fun _ _ _ _ _ _ _ _ _ _ _ _ r h => by simp [laws_FnCover.j0] at h, fun _ _ _ _ _ _ _ r h => by simp [laws_FnCover.j1] at h, fun _ _ r h => by simp [laws_FnCover.j2] at h⟩
  | k + 1 => by
    obtain ⟨ih0, ih1, ih2⟩ := laws_FnCover.mono_l k
    refine ⟨?_, ?_, ?_⟩
    · intro y0 y1 y2 y3 y4 y5 y6 y7 y8 y9 y10 y11
      unfold laws_FnCover.j0
      repeat' first
      | with_reducible apply ih0
      | with_reducible apply ih1
      | with_reducible apply ih2
      | with_reducible apply impl_BestCover.mono
      | with_reducible apply impl_CostAt.mono
      | with_reducible apply impl_GoodPatterns.mono
      | with_reducible apply impl_GoodTree.mono
      | with_reducible apply impl_GreedyCover.mono
      | with_reducible apply impl_IsCover.mono
      | with_reducible apply laws_samePieces.mono
      | with_reducible apply spec_BestCover.mono
      | with_reducible apply spec_CostAt.mono
      | with_reducible apply spec_DrawCostAt.mono
      | with_reducible apply spec_DrawIsCover.mono
      | with_reducible apply spec_GoodPatterns.mono
      | with_reducible apply spec_GoodTree.mono
      | with_reducible apply spec_GreedyCover.mono
      | with_reducible apply spec_IsCover.mono
      | (with_reducible exact LeO.refl _)
      | (with_reducible exact LeO.none _)
      | (with_reducible refine LeO.ite ?_ ?_)
      | (with_reducible refine LeO.bind ?_ (fun _ => ?_))
      | apply ih0
      | apply ih1
      | apply ih2
      | apply impl_BestCover.mono
      | apply impl_CostAt.mono
      | apply impl_GoodPatterns.mono
      | apply impl_GoodTree.mono
      | apply impl_GreedyCover.mono
      | apply impl_IsCover.mono
      | apply laws_samePieces.mono
      | apply spec_BestCover.mono
      | apply spec_CostAt.mono
      | apply spec_DrawCostAt.mono
      | apply spec_DrawIsCover.mono
      | apply spec_GoodPatterns.mono
      | apply spec_GoodTree.mono
      | apply spec_GreedyCover.mono
      | apply spec_IsCover.mono
      | exact LeO.none _
      | refine LeO.ite ?_ ?_
      | refine LeO.bind ?_ (fun _ => ?_)
    · intro y0 y1 y2 y3 y4 y5 y6
      unfold laws_FnCover.j1
      repeat' first
      | with_reducible apply ih0
      | with_reducible apply ih1
      | with_reducible apply ih2
      | with_reducible apply impl_BestCover.mono
      | with_reducible apply impl_CostAt.mono
      | with_reducible apply impl_GoodPatterns.mono
      | with_reducible apply impl_GoodTree.mono
      | with_reducible apply impl_GreedyCover.mono
      | with_reducible apply impl_IsCover.mono
      | with_reducible apply laws_samePieces.mono
      | with_reducible apply spec_BestCover.mono
      | with_reducible apply spec_CostAt.mono
      | with_reducible apply spec_DrawCostAt.mono
      | with_reducible apply spec_DrawIsCover.mono
      | with_reducible apply spec_GoodPatterns.mono
      | with_reducible apply spec_GoodTree.mono
      | with_reducible apply spec_GreedyCover.mono
      | with_reducible apply spec_IsCover.mono
      | (with_reducible exact LeO.refl _)
      | (with_reducible exact LeO.none _)
      | (with_reducible refine LeO.ite ?_ ?_)
      | (with_reducible refine LeO.bind ?_ (fun _ => ?_))
      | apply ih0
      | apply ih1
      | apply ih2
      | apply impl_BestCover.mono
      | apply impl_CostAt.mono
      | apply impl_GoodPatterns.mono
      | apply impl_GoodTree.mono
      | apply impl_GreedyCover.mono
      | apply impl_IsCover.mono
      | apply laws_samePieces.mono
      | apply spec_BestCover.mono
      | apply spec_CostAt.mono
      | apply spec_DrawCostAt.mono
      | apply spec_DrawIsCover.mono
      | apply spec_GoodPatterns.mono
      | apply spec_GoodTree.mono
      | apply spec_GreedyCover.mono
      | apply spec_IsCover.mono
      | exact LeO.none _
      | refine LeO.ite ?_ ?_
      | refine LeO.bind ?_ (fun _ => ?_)
    · intro y0 y1
      unfold laws_FnCover.j2
      repeat' first
      | with_reducible apply ih0
      | with_reducible apply ih1
      | with_reducible apply ih2
      | with_reducible apply impl_BestCover.mono
      | with_reducible apply impl_CostAt.mono
      | with_reducible apply impl_GoodPatterns.mono
      | with_reducible apply impl_GoodTree.mono
      | with_reducible apply impl_GreedyCover.mono
      | with_reducible apply impl_IsCover.mono
      | with_reducible apply laws_samePieces.mono
      | with_reducible apply spec_BestCover.mono
      | with_reducible apply spec_CostAt.mono
      | with_reducible apply spec_DrawCostAt.mono
      | with_reducible apply spec_DrawIsCover.mono
      | with_reducible apply spec_GoodPatterns.mono
      | with_reducible apply spec_GoodTree.mono
      | with_reducible apply spec_GreedyCover.mono
      | with_reducible apply spec_IsCover.mono
      | (with_reducible exact LeO.refl _)
      | (with_reducible exact LeO.none _)
      | (with_reducible refine LeO.ite ?_ ?_)
      | (with_reducible refine LeO.bind ?_ (fun _ => ?_))
      | apply ih0
      | apply ih1
      | apply ih2
      | apply impl_BestCover.mono
      | apply impl_CostAt.mono
      | apply impl_GoodPatterns.mono
      | apply impl_GoodTree.mono
      | apply impl_GreedyCover.mono
      | apply impl_IsCover.mono
      | apply laws_samePieces.mono
      | apply spec_BestCover.mono
      | apply spec_CostAt.mono
      | apply spec_DrawCostAt.mono
      | apply spec_DrawIsCover.mono
      | apply spec_GoodPatterns.mono
      | apply spec_GoodTree.mono
      | apply spec_GreedyCover.mono
      | apply spec_IsCover.mono
      | exact LeO.none _
      | refine LeO.ite ?_ ?_
      | refine LeO.bind ?_ (fun _ => ?_)
theorem laws_FnCover.mono : ∀ a0 a1 k, LeO (laws_FnCover.f k a0 a1) (laws_FnCover.f (k + 1) a0 a1) := by
  intro a0 a1 k
  obtain ⟨ih0, ih1, ih2⟩ := laws_FnCover.mono_l k
  unfold laws_FnCover.f
  repeat' first
      | with_reducible apply ih0
      | with_reducible apply ih1
      | with_reducible apply ih2
      | with_reducible apply impl_BestCover.mono
      | with_reducible apply impl_CostAt.mono
      | with_reducible apply impl_GoodPatterns.mono
      | with_reducible apply impl_GoodTree.mono
      | with_reducible apply impl_GreedyCover.mono
      | with_reducible apply impl_IsCover.mono
      | with_reducible apply laws_samePieces.mono
      | with_reducible apply spec_BestCover.mono
      | with_reducible apply spec_CostAt.mono
      | with_reducible apply spec_DrawCostAt.mono
      | with_reducible apply spec_DrawIsCover.mono
      | with_reducible apply spec_GoodPatterns.mono
      | with_reducible apply spec_GoodTree.mono
      | with_reducible apply spec_GreedyCover.mono
      | with_reducible apply spec_IsCover.mono
      | (with_reducible exact LeO.refl _)
      | (with_reducible exact LeO.none _)
      | (with_reducible refine LeO.ite ?_ ?_)
      | (with_reducible refine LeO.bind ?_ (fun _ => ?_))
      | apply ih0
      | apply ih1
      | apply ih2
      | apply impl_BestCover.mono
      | apply impl_CostAt.mono
      | apply impl_GoodPatterns.mono
      | apply impl_GoodTree.mono
      | apply impl_GreedyCover.mono
      | apply impl_IsCover.mono
      | apply laws_samePieces.mono
      | apply spec_BestCover.mono
      | apply spec_CostAt.mono
      | apply spec_DrawCostAt.mono
      | apply spec_DrawIsCover.mono
      | apply spec_GoodPatterns.mono
      | apply spec_GoodTree.mono
      | apply spec_GreedyCover.mono
      | apply spec_IsCover.mono
      | exact LeO.none _
      | refine LeO.ite ?_ ?_
      | refine LeO.bind ?_ (fun _ => ?_)
set_option maxHeartbeats 8000000 in
set_option maxRecDepth 100000 in
theorem laws_FnCover.calls (k : Nat) (A0 : Option Addr) (c0 : Nat) (l0 : List Int) (A1 : Option Addr) (c1 : Nat) (l1 : List Int) (r : Bool) (w : World) (hr0 : Kd.C (Kd.int .u8) w A0 l0.length l0) (hc0 : l0.length ≤ c0) (hr1 : Kd.C (Kd.int .u8) w A1 l1.length l1) (hc1 : l1.length ≤ c1) (h : laws_FnCover.f k l0 l1 = some r) :
    Calls Try.prog 5 #[.slice A0 l0.length c0, .slice A1 l1.length c1] w fun e w' => e = .returned (.bool r) ∧ Below w.heap.size w w' := by
  have HR0 := Aside0.mk hr0
  have HC0 := Aside0.mk hc0
  clear hr0 hc0
  have HR1 := Aside0.mk hr1
  have HC1 := Aside0.mk hc1
  clear hr1 hc1
  have HB := Aside0.mk (Below.refl w.heap.size w)
  have H : (if (wrap64 ((l0.length : Int) + (l1.length : Int))) > 1048576 then (some true) else ((spec_DrawIsCover.f k l0).bind fun bt600 => ((impl_IsCover.f k bt600.1 bt600.2.1 bt600.2.2).bind fun bt609 => ((spec_IsCover.f k bt600.1 bt600.2.1 bt600.2.2).bind fun bt612 => ((impl_BestCover.f k bt600.1 bt600.2.1).bind fun bt615 => ((spec_BestCover.f k bt600.1 bt600.2.1).bind fun bt620 => ((impl_GreedyCover.f k bt600.1 bt600.2.1).bind fun bt625 => ((spec_GreedyCover.f k bt600.1 bt600.2.1).bind fun bt630 => (if (bt609.2.2 != bt612.2.2) = true then (laws_FnCover.j0 k l1 bt600.1 bt600.2.1 bt609.1 bt609.2.1 bt609.2.2 bt615.1 bt615.2.1 bt615.2.2 bt625.2.1 bt625.2.2 true) else (if bt609.1 = bt612.1 then (if (bt609.2.1 != bt612.2.1) = true then (laws_FnCover.j0 k l1 bt600.1 bt600.2.1 bt609.1 bt609.2.1 bt609.2.2 bt615.1 bt615.2.1 bt615.2.2 bt625.2.1 bt625.2.2 true) else (if (bt615.2.2 != bt620.2.2) = true then (laws_FnCover.j0 k l1 bt600.1 bt600.2.1 bt609.1 bt609.2.1 bt609.2.2 bt615.1 bt615.2.1 bt615.2.2 bt625.2.1 bt625.2.2 true) else (if bt615.2.1 = bt620.2.1 then ((laws_samePieces.f k bt615.1 bt620.1).bind fun t635 => (if t635 = true then (if (bt625.2.2 != bt630.2.2) = true then (laws_FnCover.j0 k l1 bt600.1 bt600.2.1 bt609.1 bt609.2.1 bt609.2.2 bt615.1 bt615.2.1 bt615.2.2 bt625.2.1 bt625.2.2 true) else (if bt625.2.1 = bt630.2.1 then ((laws_samePieces.f k bt625.1 bt630.1).bind fun t636 => (if t636 = true then ((impl_GoodTree.f k bt600.1).bind fun t637 => ((spec_GoodTree.f k bt600.1).bind fun t638 => (if (t637 != t638) = true then (laws_FnCover.j0 k l1 bt600.1 bt600.2.1 bt609.1 bt609.2.1 bt609.2.2 bt615.1 bt615.2.1 bt615.2.2 bt625.2.1 bt625.2.2 true) else ((impl_GoodPatterns.f k bt600.2.1).bind fun t639 => ((spec_GoodPatterns.f k bt600.2.1).bind fun t640 => (laws_FnCover.j0 k l1 bt600.1 bt600.2.1 bt609.1 bt609.2.1 bt609.2.2 bt615.1 bt615.2.1 bt615.2.2 bt625.2.1 bt625.2.2 (t639 != t640))))))) else (laws_FnCover.j0 k l1 bt600.1 bt600.2.1 bt609.1 bt609.2.1 bt609.2.2 bt615.1 bt615.2.1 bt615.2.2 bt625.2.1 bt625.2.2 true))) else (laws_FnCover.j0 k l1 bt600.1 bt600.2.1 bt609.1 bt609.2.1 bt609.2.2 bt615.1 bt615.2.1 bt615.2.2 bt625.2.1 bt625.2.2 true))) else (laws_FnCover.j0 k l1 bt600.1 bt600.2.1 bt609.1 bt609.2.1 bt609.2.2 bt615.1 bt615.2.1 bt615.2.2 bt625.2.1 bt625.2.2 true))) else (laws_FnCover.j0 k l1 bt600.1 bt600.2.1 bt609.1 bt609.2.1 bt609.2.2 bt615.1 bt615.2.1 bt615.2.2 bt625.2.1 bt625.2.2 true)))) else (laws_FnCover.j0 k l1 bt600.1 bt600.2.1 bt609.1 bt609.2.1 bt609.2.2 bt615.1 bt615.2.1 bt615.2.2 bt625.2.1 bt625.2.2 true))))))))))) = some r := h
  clear h
  by_cases c3 : (wrap64 ((l0.length : Int) + (l1.length : Int))) > 1048576
  · rw [if_pos c3] at H
    have c3b0 : decide (1048576 < (wrap64 ((l0.length : Int) + (l1.length : Int)))) = true := decide_eq_true c3
    clear c3
    obtain rfl := Option.some.inj H
    go_enter Try.func5, Try.ntmps5
    first | (go_wp2; go_ret; exact ⟨lE, lB⟩) | (exfalso; simp only [decide_eq_false_iff_not, decide_eq_true_eq] at *; omega)
  · rw [if_neg c3] at H
    have c3b0 : decide (1048576 < (wrap64 ((l0.length : Int) + (l1.length : Int)))) = false := decide_eq_false c3
    clear c3
    replace H := Option.bind_eq_some_iff.mp H
    obtain ⟨⟨t600, t603, t606⟩, A40, H⟩ := H
    replace H : ((impl_IsCover.f k t600 t603 t606).bind fun bt609 => ((spec_IsCover.f k t600 t603 t606).bind fun bt612 => ((impl_BestCover.f k t600 t603).bind fun bt615 => ((spec_BestCover.f k t600 t603).bind fun bt620 => ((impl_GreedyCover.f k t600 t603).bind fun bt625 => ((spec_GreedyCover.f k t600 t603).bind fun bt630 => (if (bt609.2.2 != bt612.2.2) = true then (laws_FnCover.j0 k l1 t600 t603 bt609.1 bt609.2.1 bt609.2.2 bt615.1 bt615.2.1 bt615.2.2 bt625.2.1 bt625.2.2 true) else (if bt609.1 = bt612.1 then (if (bt609.2.1 != bt612.2.1) = true then (laws_FnCover.j0 k l1 t600 t603 bt609.1 bt609.2.1 bt609.2.2 bt615.1 bt615.2.1 bt615.2.2 bt625.2.1 bt625.2.2 true) else (if (bt615.2.2 != bt620.2.2) = true then (laws_FnCover.j0 k l1 t600 t603 bt609.1 bt609.2.1 bt609.2.2 bt615.1 bt615.2.1 bt615.2.2 bt625.2.1 bt625.2.2 true) else (if bt615.2.1 = bt620.2.1 then ((laws_samePieces.f k bt615.1 bt620.1).bind fun t635 => (if t635 = true then (if (bt625.2.2 != bt630.2.2) = true then (laws_FnCover.j0 k l1 t600 t603 bt609.1 bt609.2.1 bt609.2.2 bt615.1 bt615.2.1 bt615.2.2 bt625.2.1 bt625.2.2 true) else (if bt625.2.1 = bt630.2.1 then ((laws_samePieces.f k bt625.1 bt630.1).bind fun t636 => (if t636 = true then ((impl_GoodTree.f k t600).bind fun t637 => ((spec_GoodTree.f k t600).bind fun t638 => (if (t637 != t638) = true then (laws_FnCover.j0 k l1 t600 t603 bt609.1 bt609.2.1 bt609.2.2 bt615.1 bt615.2.1 bt615.2.2 bt625.2.1 bt625.2.2 true) else ((impl_GoodPatterns.f k t603).bind fun t639 => ((spec_GoodPatterns.f k t603).bind fun t640 => (laws_FnCover.j0 k l1 t600 t603 bt609.1 bt609.2.1 bt609.2.2 bt615.1 bt615.2.1 bt615.2.2 bt625.2.1 bt625.2.2 (t639 != t640))))))) else (laws_FnCover.j0 k l1 t600 t603 bt609.1 bt609.2.1 bt609.2.2 bt615.1 bt615.2.1 bt615.2.2 bt625.2.1 bt625.2.2 true))) else (laws_FnCover.j0 k l1 t600 t603 bt609.1 bt609.2.1 bt609.2.2 bt615.1 bt615.2.1 bt615.2.2 bt625.2.1 bt625.2.2 true))) else (laws_FnCover.j0 k l1 t600 t603 bt609.1 bt609.2.1 bt609.2.2 bt615.1 bt615.2.1 bt615.2.2 bt625.2.1 bt625.2.2 true))) else (laws_FnCover.j0 k l1 t600 t603 bt609.1 bt609.2.1 bt609.2.2 bt615.1 bt615.2.1 bt615.2.2 bt625.2.1 bt625.2.2 true)))) else (laws_FnCover.j0 k l1 t600 t603 bt609.1 bt609.2.1 bt609.2.2 bt615.1 bt615.2.1 bt615.2.2 bt625.2.1 bt625.2.2 true))))))))) = some r := H
    have A4 := Aside0.mk A40
    clear A40
    replace H := Option.bind_eq_some_iff.mp H
    obtain ⟨⟨t609, t610, t611⟩, A50, H⟩ := H
    replace H : ((spec_IsCover.f k t600 t603 t606).bind fun bt612 => ((impl_BestCover.f k t600 t603).bind fun bt615 => ((spec_BestCover.f k t600 t603).bind fun bt620 => ((impl_GreedyCover.f k t600 t603).bind fun bt625 => ((spec_GreedyCover.f k t600 t603).bind fun bt630 => (if (t611 != bt612.2.2) = true then (laws_FnCover.j0 k l1 t600 t603 t609 t610 t611 bt615.1 bt615.2.1 bt615.2.2 bt625.2.1 bt625.2.2 true) else (if t609 = bt612.1 then (if (t610 != bt612.2.1) = true then (laws_FnCover.j0 k l1 t600 t603 t609 t610 t611 bt615.1 bt615.2.1 bt615.2.2 bt625.2.1 bt625.2.2 true) else (if (bt615.2.2 != bt620.2.2) = true then (laws_FnCover.j0 k l1 t600 t603 t609 t610 t611 bt615.1 bt615.2.1 bt615.2.2 bt625.2.1 bt625.2.2 true) else (if bt615.2.1 = bt620.2.1 then ((laws_samePieces.f k bt615.1 bt620.1).bind fun t635 => (if t635 = true then (if (bt625.2.2 != bt630.2.2) = true then (laws_FnCover.j0 k l1 t600 t603 t609 t610 t611 bt615.1 bt615.2.1 bt615.2.2 bt625.2.1 bt625.2.2 true) else (if bt625.2.1 = bt630.2.1 then ((laws_samePieces.f k bt625.1 bt630.1).bind fun t636 => (if t636 = true then ((impl_GoodTree.f k t600).bind fun t637 => ((spec_GoodTree.f k t600).bind fun t638 => (if (t637 != t638) = true then (laws_FnCover.j0 k l1 t600 t603 t609 t610 t611 bt615.1 bt615.2.1 bt615.2.2 bt625.2.1 bt625.2.2 true) else ((impl_GoodPatterns.f k t603).bind fun t639 => ((spec_GoodPatterns.f k t603).bind fun t640 => (laws_FnCover.j0 k l1 t600 t603 t609 t610 t611 bt615.1 bt615.2.1 bt615.2.2 bt625.2.1 bt625.2.2 (t639 != t640))))))) else (laws_FnCover.j0 k l1 t600 t603 t609 t610 t611 bt615.1 bt615.2.1 bt615.2.2 bt625.2.1 bt625.2.2 true))) else (laws_FnCover.j0 k l1 t600 t603 t609 t610 t611 bt615.1 bt615.2.1 bt615.2.2 bt625.2.1 bt625.2.2 true))) else (laws_FnCover.j0 k l1 t600 t603 t609 t610 t611 bt615.1 bt615.2.1 bt615.2.2 bt625.2.1 bt625.2.2 true))) else (laws_FnCover.j0 k l1 t600 t603 t609 t610 t611 bt615.1 bt615.2.1 bt615.2.2 bt625.2.1 bt625.2.2 true)))) else (laws_FnCover.j0 k l1 t600 t603 t609 t610 t611 bt615.1 bt615.2.1 bt615.2.2 bt625.2.1 bt625.2.2 true)))))))) = some r := H
    have A5 := Aside0.mk A50
    clear A50
    replace H := Option.bind_eq_some_iff.mp H
    obtain ⟨⟨t612, t613, t614⟩, A60, H⟩ := H
    replace H : ((impl_BestCover.f k t600 t603).bind fun bt615 => ((spec_BestCover.f k t600 t603).bind fun bt620 => ((impl_GreedyCover.f k t600 t603).bind fun bt625 => ((spec_GreedyCover.f k t600 t603).bind fun bt630 => (if (t611 != t614) = true then (laws_FnCover.j0 k l1 t600 t603 t609 t610 t611 bt615.1 bt615.2.1 bt615.2.2 bt625.2.1 bt625.2.2 true) else (if t609 = t612 then (if (t610 != t613) = true then (laws_FnCover.j0 k l1 t600 t603 t609 t610 t611 bt615.1 bt615.2.1 bt615.2.2 bt625.2.1 bt625.2.2 true) else (if (bt615.2.2 != bt620.2.2) = true then (laws_FnCover.j0 k l1 t600 t603 t609 t610 t611 bt615.1 bt615.2.1 bt615.2.2 bt625.2.1 bt625.2.2 true) else (if bt615.2.1 = bt620.2.1 then ((laws_samePieces.f k bt615.1 bt620.1).bind fun t635 => (if t635 = true then (if (bt625.2.2 != bt630.2.2) = true then (laws_FnCover.j0 k l1 t600 t603 t609 t610 t611 bt615.1 bt615.2.1 bt615.2.2 bt625.2.1 bt625.2.2 true) else (if bt625.2.1 = bt630.2.1 then ((laws_samePieces.f k bt625.1 bt630.1).bind fun t636 => (if t636 = true then ((impl_GoodTree.f k t600).bind fun t637 => ((spec_GoodTree.f k t600).bind fun t638 => (if (t637 != t638) = true then (laws_FnCover.j0 k l1 t600 t603 t609 t610 t611 bt615.1 bt615.2.1 bt615.2.2 bt625.2.1 bt625.2.2 true) else ((impl_GoodPatterns.f k t603).bind fun t639 => ((spec_GoodPatterns.f k t603).bind fun t640 => (laws_FnCover.j0 k l1 t600 t603 t609 t610 t611 bt615.1 bt615.2.1 bt615.2.2 bt625.2.1 bt625.2.2 (t639 != t640))))))) else (laws_FnCover.j0 k l1 t600 t603 t609 t610 t611 bt615.1 bt615.2.1 bt615.2.2 bt625.2.1 bt625.2.2 true))) else (laws_FnCover.j0 k l1 t600 t603 t609 t610 t611 bt615.1 bt615.2.1 bt615.2.2 bt625.2.1 bt625.2.2 true))) else (laws_FnCover.j0 k l1 t600 t603 t609 t610 t611 bt615.1 bt615.2.1 bt615.2.2 bt625.2.1 bt625.2.2 true))) else (laws_FnCover.j0 k l1 t600 t603 t609 t610 t611 bt615.1 bt615.2.1 bt615.2.2 bt625.2.1 bt625.2.2 true)))) else (laws_FnCover.j0 k l1 t600 t603 t609 t610 t611 bt615.1 bt615.2.1 bt615.2.2 bt625.2.1 bt625.2.2 true))))))) = some r := H
    have A6 := Aside0.mk A60
    clear A60
    replace H := Option.bind_eq_some_iff.mp H
    obtain ⟨⟨t615, t616, t617⟩, A70, H⟩ := H
    replace H : ((spec_BestCover.f k t600 t603).bind fun bt620 => ((impl_GreedyCover.f k t600 t603).bind fun bt625 => ((spec_GreedyCover.f k t600 t603).bind fun bt630 => (if (t611 != t614) = true then (laws_FnCover.j0 k l1 t600 t603 t609 t610 t611 t615 t616 t617 bt625.2.1 bt625.2.2 true) else (if t609 = t612 then (if (t610 != t613) = true then (laws_FnCover.j0 k l1 t600 t603 t609 t610 t611 t615 t616 t617 bt625.2.1 bt625.2.2 true) else (if (t617 != bt620.2.2) = true then (laws_FnCover.j0 k l1 t600 t603 t609 t610 t611 t615 t616 t617 bt625.2.1 bt625.2.2 true) else (if t616 = bt620.2.1 then ((laws_samePieces.f k t615 bt620.1).bind fun t635 => (if t635 = true then (if (bt625.2.2 != bt630.2.2) = true then (laws_FnCover.j0 k l1 t600 t603 t609 t610 t611 t615 t616 t617 bt625.2.1 bt625.2.2 true) else (if bt625.2.1 = bt630.2.1 then ((laws_samePieces.f k bt625.1 bt630.1).bind fun t636 => (if t636 = true then ((impl_GoodTree.f k t600).bind fun t637 => ((spec_GoodTree.f k t600).bind fun t638 => (if (t637 != t638) = true then (laws_FnCover.j0 k l1 t600 t603 t609 t610 t611 t615 t616 t617 bt625.2.1 bt625.2.2 true) else ((impl_GoodPatterns.f k t603).bind fun t639 => ((spec_GoodPatterns.f k t603).bind fun t640 => (laws_FnCover.j0 k l1 t600 t603 t609 t610 t611 t615 t616 t617 bt625.2.1 bt625.2.2 (t639 != t640))))))) else (laws_FnCover.j0 k l1 t600 t603 t609 t610 t611 t615 t616 t617 bt625.2.1 bt625.2.2 true))) else (laws_FnCover.j0 k l1 t600 t603 t609 t610 t611 t615 t616 t617 bt625.2.1 bt625.2.2 true))) else (laws_FnCover.j0 k l1 t600 t603 t609 t610 t611 t615 t616 t617 bt625.2.1 bt625.2.2 true))) else (laws_FnCover.j0 k l1 t600 t603 t609 t610 t611 t615 t616 t617 bt625.2.1 bt625.2.2 true)))) else (laws_FnCover.j0 k l1 t600 t603 t609 t610 t611 t615 t616 t617 bt625.2.1 bt625.2.2 true)))))) = some r := H
    have A7 := Aside0.mk A70
    clear A70
    replace H := Option.bind_eq_some_iff.mp H
    obtain ⟨⟨t620, t621, t622⟩, A80, H⟩ := H
    replace H : ((impl_GreedyCover.f k t600 t603).bind fun bt625 => ((spec_GreedyCover.f k t600 t603).bind fun bt630 => (if (t611 != t614) = true then (laws_FnCover.j0 k l1 t600 t603 t609 t610 t611 t615 t616 t617 bt625.2.1 bt625.2.2 true) else (if t609 = t612 then (if (t610 != t613) = true then (laws_FnCover.j0 k l1 t600 t603 t609 t610 t611 t615 t616 t617 bt625.2.1 bt625.2.2 true) else (if (t617 != t622) = true then (laws_FnCover.j0 k l1 t600 t603 t609 t610 t611 t615 t616 t617 bt625.2.1 bt625.2.2 true) else (if t616 = t621 then ((laws_samePieces.f k t615 t620).bind fun t635 => (if t635 = true then (if (bt625.2.2 != bt630.2.2) = true then (laws_FnCover.j0 k l1 t600 t603 t609 t610 t611 t615 t616 t617 bt625.2.1 bt625.2.2 true) else (if bt625.2.1 = bt630.2.1 then ((laws_samePieces.f k bt625.1 bt630.1).bind fun t636 => (if t636 = true then ((impl_GoodTree.f k t600).bind fun t637 => ((spec_GoodTree.f k t600).bind fun t638 => (if (t637 != t638) = true then (laws_FnCover.j0 k l1 t600 t603 t609 t610 t611 t615 t616 t617 bt625.2.1 bt625.2.2 true) else ((impl_GoodPatterns.f k t603).bind fun t639 => ((spec_GoodPatterns.f k t603).bind fun t640 => (laws_FnCover.j0 k l1 t600 t603 t609 t610 t611 t615 t616 t617 bt625.2.1 bt625.2.2 (t639 != t640))))))) else (laws_FnCover.j0 k l1 t600 t603 t609 t610 t611 t615 t616 t617 bt625.2.1 bt625.2.2 true))) else (laws_FnCover.j0 k l1 t600 t603 t609 t610 t611 t615 t616 t617 bt625.2.1 bt625.2.2 true))) else (laws_FnCover.j0 k l1 t600 t603 t609 t610 t611 t615 t616 t617 bt625.2.1 bt625.2.2 true))) else (laws_FnCover.j0 k l1 t600 t603 t609 t610 t611 t615 t616 t617 bt625.2.1 bt625.2.2 true)))) else (laws_FnCover.j0 k l1 t600 t603 t609 t610 t611 t615 t616 t617 bt625.2.1 bt625.2.2 true))))) = some r := H
    have A8 := Aside0.mk A80
    clear A80
    replace H := Option.bind_eq_some_iff.mp H
    obtain ⟨⟨t625, t626, t627⟩, A90, H⟩ := H
    replace H : ((spec_GreedyCover.f k t600 t603).bind fun bt630 => (if (t611 != t614) = true then (laws_FnCover.j0 k l1 t600 t603 t609 t610 t611 t615 t616 t617 t626 t627 true) else (if t609 = t612 then (if (t610 != t613) = true then (laws_FnCover.j0 k l1 t600 t603 t609 t610 t611 t615 t616 t617 t626 t627 true) else (if (t617 != t622) = true then (laws_FnCover.j0 k l1 t600 t603 t609 t610 t611 t615 t616 t617 t626 t627 true) else (if t616 = t621 then ((laws_samePieces.f k t615 t620).bind fun t635 => (if t635 = true then (if (t627 != bt630.2.2) = true then (laws_FnCover.j0 k l1 t600 t603 t609 t610 t611 t615 t616 t617 t626 t627 true) else (if t626 = bt630.2.1 then ((laws_samePieces.f k t625 bt630.1).bind fun t636 => (if t636 = true then ((impl_GoodTree.f k t600).bind fun t637 => ((spec_GoodTree.f k t600).bind fun t638 => (if (t637 != t638) = true then (laws_FnCover.j0 k l1 t600 t603 t609 t610 t611 t615 t616 t617 t626 t627 true) else ((impl_GoodPatterns.f k t603).bind fun t639 => ((spec_GoodPatterns.f k t603).bind fun t640 => (laws_FnCover.j0 k l1 t600 t603 t609 t610 t611 t615 t616 t617 t626 t627 (t639 != t640))))))) else (laws_FnCover.j0 k l1 t600 t603 t609 t610 t611 t615 t616 t617 t626 t627 true))) else (laws_FnCover.j0 k l1 t600 t603 t609 t610 t611 t615 t616 t617 t626 t627 true))) else (laws_FnCover.j0 k l1 t600 t603 t609 t610 t611 t615 t616 t617 t626 t627 true))) else (laws_FnCover.j0 k l1 t600 t603 t609 t610 t611 t615 t616 t617 t626 t627 true)))) else (laws_FnCover.j0 k l1 t600 t603 t609 t610 t611 t615 t616 t617 t626 t627 true)))) = some r := H
    have A9 := Aside0.mk A90
    clear A90
    replace H := Option.bind_eq_some_iff.mp H
    obtain ⟨⟨t630, t631, t632⟩, A100, H⟩ := H
    replace H : (if (t611 != t614) = true then (laws_FnCover.j0 k l1 t600 t603 t609 t610 t611 t615 t616 t617 t626 t627 true) else (if t609 = t612 then (if (t610 != t613) = true then (laws_FnCover.j0 k l1 t600 t603 t609 t610 t611 t615 t616 t617 t626 t627 true) else (if (t617 != t622) = true then (laws_FnCover.j0 k l1 t600 t603 t609 t610 t611 t615 t616 t617 t626 t627 true) else (if t616 = t621 then ((laws_samePieces.f k t615 t620).bind fun t635 => (if t635 = true then (if (t627 != t632) = true then (laws_FnCover.j0 k l1 t600 t603 t609 t610 t611 t615 t616 t617 t626 t627 true) else (if t626 = t631 then ((laws_samePieces.f k t625 t630).bind fun t636 => (if t636 = true then ((impl_GoodTree.f k t600).bind fun t637 => ((spec_GoodTree.f k t600).bind fun t638 => (if (t637 != t638) = true then (laws_FnCover.j0 k l1 t600 t603 t609 t610 t611 t615 t616 t617 t626 t627 true) else ((impl_GoodPatterns.f k t603).bind fun t639 => ((spec_GoodPatterns.f k t603).bind fun t640 => (laws_FnCover.j0 k l1 t600 t603 t609 t610 t611 t615 t616 t617 t626 t627 (t639 != t640))))))) else (laws_FnCover.j0 k l1 t600 t603 t609 t610 t611 t615 t616 t617 t626 t627 true))) else (laws_FnCover.j0 k l1 t600 t603 t609 t610 t611 t615 t616 t617 t626 t627 true))) else (laws_FnCover.j0 k l1 t600 t603 t609 t610 t611 t615 t616 t617 t626 t627 true))) else (laws_FnCover.j0 k l1 t600 t603 t609 t610 t611 t615 t616 t617 t626 t627 true)))) else (laws_FnCover.j0 k l1 t600 t603 t609 t610 t611 t615 t616 t617 t626 t627 true))) = some r := H
    have A10 := Aside0.mk A100
    clear A100
    have HC11 := Aside0.mk H
    clear H
    go_enter Try.func5, Try.ntmps5
    go_upto_region 10 with (first | ((with_reducible refine gate_callee (f := 20) rfl ?_); refine gl_ (some 46) (Try.func20) #[.slice A0 l0.length c0] ?_; (with_reducible refine (spec_DrawIsCover.calls k _ _ l0 t600 t603 t606 _ ?side1 ?side2 A4.out).mono ?_); (case side1 => repeat (first | exact HR0.out | (with_reducible refine Kd.C_alloc ?_ _) | (with_reducible refine Kd.C_drewN ?_ _) | (with_reducible refine Kd.C_drew ?_))); (case side2 => exact HC0.out); rintro e w12 ⟨v601, v604, v607, rfl, ho0, ho1, ho2, hb⟩; refine ⟨_, rfl, ?_⟩; have n0_ := Aside0.mk (Kd.R_lower (Kd.R_mono (ok' := fun k_ => True) ho0 (fun _ hk_ => trivial)) (below_size lB)); have n1_ := Aside0.mk (Kd.N_lower (Kd.N_mono (ok' := fun k_ => some k_ ≠ (v601 : Value).ownBlock ∧ some k_ ≠ (v607 : Value).ownBlock) ho1 (fun k_ hk_ => ⟨hk_.2.1, hk_.2.2⟩)) (below_size lB)); have n2_ := Aside0.mk (Kd.R_lower (Kd.R_mono (ok' := fun k_ => True) ho2 (fun _ hk_ => trivial)) (below_size lB)); have n3_ := Aside0.mk (below_step lB hb); clear HB; have HO602 := n0_; have HO605 := n1_; have HO608 := n2_; have HB := n3_; clear n0_ n1_ n2_ n3_; (try clear hb); (try clear hb2); (try clear hk); (try clear hi); (try clear ho0); (try clear ho1); (try clear ho2); obtain ⟨Ao13, co13, eo13⟩ := Kd.R_slice HO602.out; subst eo13; obtain ⟨Ao14, co14, eo14⟩ := Kd.N_slice HO605.out; subst eo14; obtain ⟨Ao15, co15, eo15⟩ := Kd.R_slice HO608.out; subst eo15) | ((with_reducible refine gate_callee (f := 21) rfl ?_); refine gl_ (some 54) (Try.func21) #[.slice Ao13 t600.length co13, .slice Ao14 t603.length co14, .slice Ao15 t606.length co15] ?_; (with_reducible refine (impl_IsCover.calls k _ _ t600 _ _ t603 _ _ t606 t609 t610 t611 _ ?side1 ?side2 ?side3 ?side4 ?side5 ?side6 A5.out).mono ?_); (case side1 => repeat (first | exact (Kd.R_reads' HO602.out).2.2 | (with_reducible refine Kd.C_alloc ?_ _) | (with_reducible refine Kd.C_drewN ?_ _) | (with_reducible refine Kd.C_drew ?_))); (case side2 => exact (Kd.R_reads' HO602.out).2.1); (case side3 => repeat (first | exact (Kd.N_reads' HO605.out).2.2 | (with_reducible refine Kd.C_alloc ?_ _) | (with_reducible refine Kd.C_drewN ?_ _) | (with_reducible refine Kd.C_drew ?_))); (case side4 => exact (Kd.N_reads' HO605.out).2.1); (case side5 => repeat (first | exact (Kd.R_reads' HO608.out).2.2 | (with_reducible refine Kd.C_alloc ?_ _) | (with_reducible refine Kd.C_drewN ?_ _) | (with_reducible refine Kd.C_drew ?_))); (case side6 => exact (Kd.R_reads' HO608.out).2.1); rintro e w16 ⟨rfl, hb⟩; refine ⟨_, rfl, ?_⟩; have n0_ := Aside0.mk (Kd.R_below (lR HO602.out) hb); have n1_ := Aside0.mk (Kd.N_below (by (with_reducible repeat (first | apply Kd.N_alloc | apply Kd.N_drewN | apply Kd.N_drew)); exact HO605.out) hb); have n2_ := Aside0.mk (Kd.R_below (lR HO608.out) hb); have n3_ := Aside0.mk (below_step lB hb); clear HO602; clear HO605; clear HO608; clear HB; have HO602 := n0_; have HO605 := n1_; have HO608 := n2_; have HB := n3_; clear n0_ n1_ n2_ n3_; (try clear hb); (try clear hb2); (try clear hk); (try clear hi)) | ((with_reducible refine gate_callee (f := 22) rfl ?_); refine gl_ (some 62) (Try.func22) #[.slice Ao13 t600.length co13, .slice Ao14 t603.length co14, .slice Ao15 t606.length co15] ?_; (with_reducible refine (spec_IsCover.calls k _ _ t600 _ _ t603 _ _ t606 t612 t613 t614 _ ?side1 ?side2 ?side3 ?side4 ?side5 ?side6 A6.out).mono ?_); (case side1 => repeat (first | exact (Kd.R_reads' HO602.out).2.2 | (with_reducible refine Kd.C_alloc ?_ _) | (with_reducible refine Kd.C_drewN ?_ _) | (with_reducible refine Kd.C_drew ?_))); (case side2 => exact (Kd.R_reads' HO602.out).2.1); (case side3 => repeat (first | exact (Kd.N_reads' HO605.out).2.2 | (with_reducible refine Kd.C_alloc ?_ _) | (with_reducible refine Kd.C_drewN ?_ _) | (with_reducible refine Kd.C_drew ?_))); (case side4 => exact (Kd.N_reads' HO605.out).2.1); (case side5 => repeat (first | exact (Kd.R_reads' HO608.out).2.2 | (with_reducible refine Kd.C_alloc ?_ _) | (with_reducible refine Kd.C_drewN ?_ _) | (with_reducible refine Kd.C_drew ?_))); (case side6 => exact (Kd.R_reads' HO608.out).2.1); rintro e w17 ⟨rfl, hb⟩; refine ⟨_, rfl, ?_⟩; have n0_ := Aside0.mk (Kd.R_below (lR HO602.out) hb); have n1_ := Aside0.mk (Kd.N_below (by (with_reducible repeat (first | apply Kd.N_alloc | apply Kd.N_drewN | apply Kd.N_drew)); exact HO605.out) hb); have n2_ := Aside0.mk (Kd.R_below (lR HO608.out) hb); have n3_ := Aside0.mk (below_step lB hb); clear HO602; clear HO605; clear HO608; clear HB; have HO602 := n0_; have HO605 := n1_; have HO608 := n2_; have HB := n3_; clear n0_ n1_ n2_ n3_; (try clear hb); (try clear hb2); (try clear hk); (try clear hi)) | ((with_reducible refine gate_callee (f := 10) rfl ?_); refine gl_ (some 69) (Try.func10) #[.slice Ao13 t600.length co13, .slice Ao14 t603.length co14] ?_; (with_reducible refine (impl_BestCover.calls k _ _ t600 _ _ t603 t615 t616 t617 _ ?side1 ?side2 ?side3 ?side4 A7.out).mono ?_); (case side1 => repeat (first | exact (Kd.R_reads' HO602.out).2.2 | (with_reducible refine Kd.C_alloc ?_ _) | (with_reducible refine Kd.C_drewN ?_ _) | (with_reducible refine Kd.C_drew ?_))); (case side2 => exact (Kd.R_reads' HO602.out).2.1); (case side3 => repeat (first | exact (Kd.N_reads' HO605.out).2.2 | (with_reducible refine Kd.C_alloc ?_ _) | (with_reducible refine Kd.C_drewN ?_ _) | (with_reducible refine Kd.C_drew ?_))); (case side4 => exact (Kd.N_reads' HO605.out).2.1); rintro e w18 ⟨v618, rfl, ho0, hb⟩; refine ⟨_, rfl, ?_⟩; have n0_ := Aside0.mk (Kd.R_below (lR HO602.out) hb); have n1_ := Aside0.mk (Kd.N_elder' (by (with_reducible repeat (first | apply Kd.N_alloc | apply Kd.N_drewN | apply Kd.N_drew)); exact HO605.out) (Kd.R_base ho0) hb); have n2_ := Aside0.mk (Kd.R_elder' (lR HO608.out) (Kd.R_base ho0) hb); have n3_ := Aside0.mk (Kd.R_lower (Kd.R_new' ho0 (Kd.R_lt (lR HO608.out))) (below_size lB)); have n4_ := Aside0.mk (below_step lB hb); clear HO602; clear HO605; clear HO608; clear HB; have HO602 := n0_; have HO605 := n1_; have HO608 := n2_; have HO619 := n3_; have HB := n4_; clear n0_ n1_ n2_ n3_ n4_; (try clear hb); (try clear hb2); (try clear hk); (try clear hi); (try clear ho0)) | ((with_reducible refine gate_callee (f := 7) rfl ?_); refine gl_ (some 76) (Try.func7) #[.slice Ao13 t600.length co13, .slice Ao14 t603.length co14] ?_; (with_reducible refine (spec_BestCover.calls k _ _ t600 _ _ t603 t620 t621 t622 _ ?side1 ?side2 ?side3 ?side4 A8.out).mono ?_); (case side1 => repeat (first | exact (Kd.R_reads' HO602.out).2.2 | (with_reducible refine Kd.C_alloc ?_ _) | (with_reducible refine Kd.C_drewN ?_ _) | (with_reducible refine Kd.C_drew ?_))); (case side2 => exact (Kd.R_reads' HO602.out).2.1); (case side3 => repeat (first | exact (Kd.N_reads' HO605.out).2.2 | (with_reducible refine Kd.C_alloc ?_ _) | (with_reducible refine Kd.C_drewN ?_ _) | (with_reducible refine Kd.C_drew ?_))); (case side4 => exact (Kd.N_reads' HO605.out).2.1); rintro e w19 ⟨v623, rfl, ho0, hb⟩; refine ⟨_, rfl, ?_⟩; have n0_ := Aside0.mk (Kd.R_below (lR HO602.out) hb); have n1_ := Aside0.mk (Kd.N_elder' (by (with_reducible repeat (first | apply Kd.N_alloc | apply Kd.N_drewN | apply Kd.N_drew)); exact HO605.out) (Kd.R_base ho0) hb); have n2_ := Aside0.mk (Kd.R_elder' (lR HO608.out) (Kd.R_base ho0) hb); have n3_ := Aside0.mk (Kd.R_elder' (lR HO619.out) (Kd.R_base ho0) hb); have n4_ := Aside0.mk (Kd.R_lower (Kd.R_new' (Kd.R_new' ho0 (Kd.R_lt (lR HO608.out))) (Kd.R_lt (lR HO619.out))) (below_size lB)); have n5_ := Aside0.mk (below_step lB hb); clear HO602; clear HO605; clear HO608; clear HO619; clear HB; have HO602 := n0_; have HO605 := n1_; have HO608 := n2_; have HO619 := n3_; have HO624 := n4_; have HB := n5_; clear n0_ n1_ n2_ n3_ n4_ n5_; (try clear hb); (try clear hb2); (try clear hk); (try clear hi); (try clear ho0)) | ((with_reducible refine gate_callee (f := 19) rfl ?_); refine gl_ (some 83) (Try.func19) #[.slice Ao13 t600.length co13, .slice Ao14 t603.length co14] ?_; (with_reducible refine (impl_GreedyCover.calls k _ _ t600 _ _ t603 t625 t626 t627 _ ?side1 ?side2 ?side3 ?side4 A9.out).mono ?_); (case side1 => repeat (first | exact (Kd.R_reads' HO602.out).2.2 | (with_reducible refine Kd.C_alloc ?_ _) | (with_reducible refine Kd.C_drewN ?_ _) | (with_reducible refine Kd.C_drew ?_))); (case side2 => exact (Kd.R_reads' HO602.out).2.1); (case side3 => repeat (first | exact (Kd.N_reads' HO605.out).2.2 | (with_reducible refine Kd.C_alloc ?_ _) | (with_reducible refine Kd.C_drewN ?_ _) | (with_reducible refine Kd.C_drew ?_))); (case side4 => exact (Kd.N_reads' HO605.out).2.1); rintro e w20 ⟨v628, rfl, ho0, hb⟩; refine ⟨_, rfl, ?_⟩; have n0_ := Aside0.mk (Kd.R_below (lR HO602.out) hb); have n1_ := Aside0.mk (Kd.N_elder' (by (with_reducible repeat (first | apply Kd.N_alloc | apply Kd.N_drewN | apply Kd.N_drew)); exact HO605.out) (Kd.R_base ho0) hb); have n2_ := Aside0.mk (Kd.R_elder' (lR HO608.out) (Kd.R_base ho0) hb); have n3_ := Aside0.mk (Kd.R_elder' (lR HO619.out) (Kd.R_base ho0) hb); have n4_ := Aside0.mk (Kd.R_elder' (lR HO624.out) (Kd.R_base ho0) hb); have n5_ := Aside0.mk (Kd.R_lower (Kd.R_new' (Kd.R_new' (Kd.R_new' ho0 (Kd.R_lt (lR HO608.out))) (Kd.R_lt (lR HO619.out))) (Kd.R_lt (lR HO624.out))) (below_size lB)); have n6_ := Aside0.mk (below_step lB hb); clear HO602; clear HO605; clear HO608; clear HO619; clear HO624; clear HB; have HO602 := n0_; have HO605 := n1_; have HO608 := n2_; have HO619 := n3_; have HO624 := n4_; have HO629 := n5_; have HB := n6_; clear n0_ n1_ n2_ n3_ n4_ n5_ n6_; (try clear hb); (try clear hb2); (try clear hk); (try clear hi); (try clear ho0)) | ((with_reducible refine gate_callee (f := 18) rfl ?_); refine gl_ (some 90) (Try.func18) #[.slice Ao13 t600.length co13, .slice Ao14 t603.length co14] ?_; (with_reducible refine (spec_GreedyCover.calls k _ _ t600 _ _ t603 t630 t631 t632 _ ?side1 ?side2 ?side3 ?side4 A10.out).mono ?_); (case side1 => repeat (first | exact (Kd.R_reads' HO602.out).2.2 | (with_reducible refine Kd.C_alloc ?_ _) | (with_reducible refine Kd.C_drewN ?_ _) | (with_reducible refine Kd.C_drew ?_))); (case side2 => exact (Kd.R_reads' HO602.out).2.1); (case side3 => repeat (first | exact (Kd.N_reads' HO605.out).2.2 | (with_reducible refine Kd.C_alloc ?_ _) | (with_reducible refine Kd.C_drewN ?_ _) | (with_reducible refine Kd.C_drew ?_))); (case side4 => exact (Kd.N_reads' HO605.out).2.1); rintro e w21 ⟨v633, rfl, ho0, hb⟩; refine ⟨_, rfl, ?_⟩; have n0_ := Aside0.mk (Kd.R_below (lR HO602.out) hb); have n1_ := Aside0.mk (Kd.N_elder' (by (with_reducible repeat (first | apply Kd.N_alloc | apply Kd.N_drewN | apply Kd.N_drew)); exact HO605.out) (Kd.R_base ho0) hb); have n2_ := Aside0.mk (Kd.R_elder' (lR HO608.out) (Kd.R_base ho0) hb); have n3_ := Aside0.mk (Kd.R_elder' (lR HO619.out) (Kd.R_base ho0) hb); have n4_ := Aside0.mk (Kd.R_elder' (lR HO624.out) (Kd.R_base ho0) hb); have n5_ := Aside0.mk (Kd.R_elder' (lR HO629.out) (Kd.R_base ho0) hb); have n6_ := Aside0.mk (Kd.R_lower (Kd.R_new' (Kd.R_new' (Kd.R_new' (Kd.R_new' ho0 (Kd.R_lt (lR HO608.out))) (Kd.R_lt (lR HO619.out))) (Kd.R_lt (lR HO624.out))) (Kd.R_lt (lR HO629.out))) (below_size lB)); have n7_ := Aside0.mk (below_step lB hb); clear HO602; clear HO605; clear HO608; clear HO619; clear HO624; clear HO629; clear HB; have HO602 := n0_; have HO605 := n1_; have HO608 := n2_; have HO619 := n3_; have HO624 := n4_; have HO629 := n5_; have HO634 := n6_; have HB := n7_; clear n0_ n1_ n2_ n3_ n4_ n5_ n6_ n7_; (try clear hb); (try clear hb2); (try clear hk); (try clear hi); (try clear ho0)))
    (try simp only [Act.put, List.setIfInBounds_toArray, List.set_cons_zero, List.set_cons_succ])
    go_cut [152] (fun v152 wc => ∃ (kq : Nat) (x152_10 : Bool), v152 = .bool x152_10 ∧ Aside0 (laws_FnCover.j0 kq l1 t600 t603 t609 t610 t611 t615 t616 t617 t626 t627 x152_10 = some r) ∧ Aside0 (kq ≤ k) ∧ Aside0 (Kd.R (Kd.int .i64) 3 wc w.heap.size (fun _ => True) (.slice Ao13 t600.length co13) t600) ∧ Aside0 (Kd.N k57 57 wc w.heap.size (fun k_ => some k_ ≠ ((.slice Ao13 t600.length co13) : Value).ownBlock ∧ some k_ ≠ (v618 : Value).ownBlock) (.slice Ao14 t603.length co14) t603) ∧ Aside0 (Kd.R k63 63 wc w.heap.size (fun _ => True) v618 t615) ∧ Aside0 (Below w.heap.size w wc))
    case first =>
      have H := HC11.out
      clear HC11
      by_cases c22 : (t611 != t614) = true
      · rw [if_pos c22] at H
        have c22b0 : (t611 != t614) = true := c22
        (try (have c22b1 : decide (t611 = t614) = false := by simpa using c22))
        (try (have c22b2 : (t611 == t614) = false := by simpa using c22))
        (try (have c22b3 : ¬ (t611 = t614) := by simpa using c22))
        clear c22
        (first | rw [c22b0] | (simp only [i64_w, i32_w]; rw [c22b0]) | skip)
        have H' := Aside0.mk H
        clear H
        as_aux_lemma =>
         go_wp2
         go_meet
         case rel => exact ⟨_, (true), lF, H', ⟨lN⟩, ⟨lR HO602.out⟩, ⟨by (with_reducible repeat (first | apply Kd.N_alloc | apply Kd.N_drewN | apply Kd.N_drew)); exact Kd.N_mono HO605.out (fun _ hk => ⟨hk.1.1.1.1.1, hk.1.1.1.2⟩)⟩, ⟨by (with_reducible repeat (first | apply Kd.R_alloc | apply Kd.R_drewN | apply Kd.R_drew)); exact Kd.R_mono HO619.out (fun _ hk => trivial)⟩, ⟨lB⟩⟩
      · rw [if_neg c22] at H
        have c22b0 : (t611 != t614) = false := by simpa using c22
        (try (have c22b1 : decide (t611 = t614) = true := by simpa using c22))
        (try (have c22b2 : (t611 == t614) = true := by simpa using c22))
        clear c22
        (first | rw [c22b0] | (simp only [i64_w, i32_w]; rw [c22b0]) | skip)
        by_cases c23 : t609 = t612
        · rw [if_pos c23] at H
          have c23b0 : (t609 == t612) = true := beq_iff_eq.mpr c23
          have c23b1 : (t609 != t612) = false := bne_eq_false_iff_eq.mpr c23
          clear c23
          by_cases c24 : (t610 != t613) = true
          · rw [if_pos c24] at H
            have c24b0 : (t610 != t613) = true := c24
            (try (have c24b1 : decide (t610 = t613) = false := by simpa using c24))
            (try (have c24b2 : (t610 == t613) = false := by simpa using c24))
            (try (have c24b3 : ¬ (t610 = t613) := by simpa using c24))
            clear c24
            have H' := Aside0.mk H
            clear H
            as_aux_lemma =>
             go_wp2
             go_meet
             case rel => exact ⟨_, (true), lF, H', ⟨lN⟩, ⟨lR HO602.out⟩, ⟨by (with_reducible repeat (first | apply Kd.N_alloc | apply Kd.N_drewN | apply Kd.N_drew)); exact Kd.N_mono HO605.out (fun _ hk => ⟨hk.1.1.1.1.1, hk.1.1.1.2⟩)⟩, ⟨by (with_reducible repeat (first | apply Kd.R_alloc | apply Kd.R_drewN | apply Kd.R_drew)); exact Kd.R_mono HO619.out (fun _ hk => trivial)⟩, ⟨lB⟩⟩
          · rw [if_neg c24] at H
            have c24b0 : (t610 != t613) = false := by simpa using c24
            (try (have c24b1 : decide (t610 = t613) = true := by simpa using c24))
            (try (have c24b2 : (t610 == t613) = true := by simpa using c24))
            clear c24
            by_cases c25 : (t617 != t622) = true
            · rw [if_pos c25] at H
              have c25b0 : (t617 != t622) = true := c25
              (try (have c25b1 : decide (t617 = t622) = false := by simpa using c25))
              (try (have c25b2 : (t617 == t622) = false := by simpa using c25))
              (try (have c25b3 : ¬ (t617 = t622) := by simpa using c25))
              clear c25
              have H' := Aside0.mk H
              clear H
              as_aux_lemma =>
               go_wp2
               go_meet
               case rel => exact ⟨_, (true), lF, H', ⟨lN⟩, ⟨lR HO602.out⟩, ⟨by (with_reducible repeat (first | apply Kd.N_alloc | apply Kd.N_drewN | apply Kd.N_drew)); exact Kd.N_mono HO605.out (fun _ hk => ⟨hk.1.1.1.1.1, hk.1.1.1.2⟩)⟩, ⟨by (with_reducible repeat (first | apply Kd.R_alloc | apply Kd.R_drewN | apply Kd.R_drew)); exact Kd.R_mono HO619.out (fun _ hk => trivial)⟩, ⟨lB⟩⟩
            · rw [if_neg c25] at H
              have c25b0 : (t617 != t622) = false := by simpa using c25
              (try (have c25b1 : decide (t617 = t622) = true := by simpa using c25))
              (try (have c25b2 : (t617 == t622) = true := by simpa using c25))
              clear c25
              by_cases c26 : t616 = t621
              · rw [if_pos c26] at H
                have c26b0 : (t616 == t621) = true := beq_iff_eq.mpr c26
                have c26b1 : (t616 != t621) = false := bne_eq_false_iff_eq.mpr c26
                clear c26
                replace H := lO H
                obtain ⟨t635, A27, H⟩ := H
                by_cases c28 : t635 = true
                · subst c28
                  rw [if_pos rfl] at H
                  by_cases c29 : (t627 != t632) = true
                  · rw [if_pos c29] at H
                    have c29b0 : (t627 != t632) = true := c29
                    (try (have c29b1 : decide (t627 = t632) = false := by simpa using c29))
                    (try (have c29b2 : (t627 == t632) = false := by simpa using c29))
                    (try (have c29b3 : ¬ (t627 = t632) := by simpa using c29))
                    clear c29
                    have H' := Aside0.mk H
                    clear H
                    obtain ⟨Ao30, co30, eo30⟩ := Kd.R_slice HO619.out
                    subst eo30
                    obtain ⟨Ao31, co31, eo31⟩ := Kd.R_slice HO624.out
                    subst eo31
                    as_aux_lemma =>
                     go_wp2_with (first | (go_at_call 23; (with_reducible refine (laws_samePieces.calls k _ _ t615 _ _ t620 true _ ?side1 ?side2 ?side3 ?side4 A27.out).mono ?_); (case side1 => repeat (first | exact (Kd.R_reads' HO619.out).2.2 | (with_reducible refine Kd.C_alloc ?_ _) | (with_reducible refine Kd.C_drewN ?_ _) | (with_reducible refine Kd.C_drew ?_))); (case side2 => exact (Kd.R_reads' HO619.out).2.1); (case side3 => repeat (first | exact (Kd.R_reads' HO624.out).2.2 | (with_reducible refine Kd.C_alloc ?_ _) | (with_reducible refine Kd.C_drewN ?_ _) | (with_reducible refine Kd.C_drew ?_))); (case side4 => exact (Kd.R_reads' HO624.out).2.1); rintro e w' ⟨rfl, ⟨nd, rfl⟩⟩))
                     go_meet
                     case rel => exact ⟨_, (true), lF, H', ⟨lN⟩, ⟨lR HO602.out⟩, ⟨by (with_reducible repeat (first | apply Kd.N_alloc | apply Kd.N_drewN | apply Kd.N_drew)); exact Kd.N_mono HO605.out (fun _ hk => ⟨hk.1.1.1.1.1, hk.1.1.1.2⟩)⟩, ⟨by (with_reducible repeat (first | apply Kd.R_alloc | apply Kd.R_drewN | apply Kd.R_drew)); exact Kd.R_mono HO619.out (fun _ hk => trivial)⟩, ⟨lB⟩⟩
                  · rw [if_neg c29] at H
                    have c29b0 : (t627 != t632) = false := by simpa using c29
                    (try (have c29b1 : decide (t627 = t632) = true := by simpa using c29))
                    (try (have c29b2 : (t627 == t632) = true := by simpa using c29))
                    clear c29
                    by_cases c32 : t626 = t631
                    · rw [if_pos c32] at H
                      have c32b0 : (t626 == t631) = true := beq_iff_eq.mpr c32
                      have c32b1 : (t626 != t631) = false := bne_eq_false_iff_eq.mpr c32
                      clear c32
                      replace H := lO H
                      obtain ⟨t636, A33, H⟩ := H
                      by_cases c34 : t636 = true
                      · subst c34
                        rw [if_pos rfl] at H
                        replace H := lO H
                        obtain ⟨t637, A35, H⟩ := H
                        replace H := lO H
                        obtain ⟨t638, A36, H⟩ := H
                        by_cases c37 : (t637 != t638) = true
                        · rw [if_pos c37] at H
                          have c37b0 : (t637 != t638) = true := c37
                          (try (have c37b1 : decide (t637 = t638) = false := by simpa using c37))
                          (try (have c37b2 : (t637 == t638) = false := by simpa using c37))
                          (try (have c37b3 : ¬ (t637 = t638) := by simpa using c37))
                          clear c37
                          have H' := Aside0.mk H
                          clear H
                          obtain ⟨Ao38, co38, eo38⟩ := Kd.R_slice HO619.out
                          subst eo38
                          obtain ⟨Ao39, co39, eo39⟩ := Kd.R_slice HO624.out
                          subst eo39
                          as_aux_lemma =>
                           go_wp2_with (first | (go_at_call 23; (with_reducible refine (laws_samePieces.calls k _ _ t615 _ _ t620 true _ ?side1 ?side2 ?side3 ?side4 A27.out).mono ?_); (case side1 => repeat (first | exact (Kd.R_reads' HO619.out).2.2 | (with_reducible refine Kd.C_alloc ?_ _) | (with_reducible refine Kd.C_drewN ?_ _) | (with_reducible refine Kd.C_drew ?_))); (case side2 => exact (Kd.R_reads' HO619.out).2.1); (case side3 => repeat (first | exact (Kd.R_reads' HO624.out).2.2 | (with_reducible refine Kd.C_alloc ?_ _) | (with_reducible refine Kd.C_drewN ?_ _) | (with_reducible refine Kd.C_drew ?_))); (case side4 => exact (Kd.R_reads' HO624.out).2.1); rintro e w' ⟨rfl, ⟨nd, rfl⟩⟩; obtain ⟨Ao40, co40, eo40⟩ := Kd.R_slice HO629.out; subst eo40; obtain ⟨Ao41, co41, eo41⟩ := Kd.R_slice HO634.out; subst eo41) | (go_at_call 23; (with_reducible refine (laws_samePieces.calls k _ _ t625 _ _ t630 true _ ?side1 ?side2 ?side3 ?side4 A33.out).mono ?_); (case side1 => repeat (first | exact (Kd.R_reads' HO629.out).2.2 | (with_reducible refine Kd.C_alloc ?_ _) | (with_reducible refine Kd.C_drewN ?_ _) | (with_reducible refine Kd.C_drew ?_))); (case side2 => exact (Kd.R_reads' HO629.out).2.1); (case side3 => repeat (first | exact (Kd.R_reads' HO634.out).2.2 | (with_reducible refine Kd.C_alloc ?_ _) | (with_reducible refine Kd.C_drewN ?_ _) | (with_reducible refine Kd.C_drew ?_))); (case side4 => exact (Kd.R_reads' HO634.out).2.1); rintro e w' ⟨rfl, ⟨nd, rfl⟩⟩) | (go_at_call 24; (with_reducible refine (impl_GoodTree.calls k _ _ t600 t637 _ ?side1 ?side2 A35.out).mono ?_); (case side1 => repeat (first | exact (Kd.R_reads' HO602.out).2.2 | (with_reducible refine Kd.C_alloc ?_ _) | (with_reducible refine Kd.C_drewN ?_ _) | (with_reducible refine Kd.C_drew ?_))); (case side2 => exact (Kd.R_reads' HO602.out).2.1); rintro e w' ⟨rfl, ⟨nd, rfl⟩⟩) | (go_at_call 25; (with_reducible refine (spec_GoodTree.calls k _ _ t600 t638 _ ?side1 ?side2 A36.out).mono ?_); (case side1 => repeat (first | exact (Kd.R_reads' HO602.out).2.2 | (with_reducible refine Kd.C_alloc ?_ _) | (with_reducible refine Kd.C_drewN ?_ _) | (with_reducible refine Kd.C_drew ?_))); (case side2 => exact (Kd.R_reads' HO602.out).2.1); rintro e w' ⟨rfl, ⟨nd, rfl⟩⟩))
                           go_meet
                           case rel => exact ⟨_, (true), lF, H', ⟨lN⟩, ⟨lR HO602.out⟩, ⟨by (with_reducible repeat (first | apply Kd.N_alloc | apply Kd.N_drewN | apply Kd.N_drew)); exact Kd.N_mono HO605.out (fun _ hk => ⟨hk.1.1.1.1.1, hk.1.1.1.2⟩)⟩, ⟨by (with_reducible repeat (first | apply Kd.R_alloc | apply Kd.R_drewN | apply Kd.R_drew)); exact Kd.R_mono HO619.out (fun _ hk => trivial)⟩, ⟨lB⟩⟩
                        · rw [if_neg c37] at H
                          have c37b0 : (t637 != t638) = false := by simpa using c37
                          (try (have c37b1 : decide (t637 = t638) = true := by simpa using c37))
                          (try (have c37b2 : (t637 == t638) = true := by simpa using c37))
                          clear c37
                          replace H := lO H
                          obtain ⟨t639, A42, H⟩ := H
                          replace H := lO H
                          obtain ⟨t640, A43, H⟩ := H
                          have H' := Aside0.mk H
                          clear H
                          obtain ⟨Ao44, co44, eo44⟩ := Kd.R_slice HO619.out
                          subst eo44
                          obtain ⟨Ao45, co45, eo45⟩ := Kd.R_slice HO624.out
                          subst eo45
                          as_aux_lemma =>
                           go_wp2_with (first | (go_at_call 23; (with_reducible refine (laws_samePieces.calls k _ _ t615 _ _ t620 true _ ?side1 ?side2 ?side3 ?side4 A27.out).mono ?_); (case side1 => repeat (first | exact (Kd.R_reads' HO619.out).2.2 | (with_reducible refine Kd.C_alloc ?_ _) | (with_reducible refine Kd.C_drewN ?_ _) | (with_reducible refine Kd.C_drew ?_))); (case side2 => exact (Kd.R_reads' HO619.out).2.1); (case side3 => repeat (first | exact (Kd.R_reads' HO624.out).2.2 | (with_reducible refine Kd.C_alloc ?_ _) | (with_reducible refine Kd.C_drewN ?_ _) | (with_reducible refine Kd.C_drew ?_))); (case side4 => exact (Kd.R_reads' HO624.out).2.1); rintro e w' ⟨rfl, ⟨nd, rfl⟩⟩; obtain ⟨Ao46, co46, eo46⟩ := Kd.R_slice HO629.out; subst eo46; obtain ⟨Ao47, co47, eo47⟩ := Kd.R_slice HO634.out; subst eo47) | (go_at_call 23; (with_reducible refine (laws_samePieces.calls k _ _ t625 _ _ t630 true _ ?side1 ?side2 ?side3 ?side4 A33.out).mono ?_); (case side1 => repeat (first | exact (Kd.R_reads' HO629.out).2.2 | (with_reducible refine Kd.C_alloc ?_ _) | (with_reducible refine Kd.C_drewN ?_ _) | (with_reducible refine Kd.C_drew ?_))); (case side2 => exact (Kd.R_reads' HO629.out).2.1); (case side3 => repeat (first | exact (Kd.R_reads' HO634.out).2.2 | (with_reducible refine Kd.C_alloc ?_ _) | (with_reducible refine Kd.C_drewN ?_ _) | (with_reducible refine Kd.C_drew ?_))); (case side4 => exact (Kd.R_reads' HO634.out).2.1); rintro e w' ⟨rfl, ⟨nd, rfl⟩⟩) | (go_at_call 24; (with_reducible refine (impl_GoodTree.calls k _ _ t600 t637 _ ?side1 ?side2 A35.out).mono ?_); (case side1 => repeat (first | exact (Kd.R_reads' HO602.out).2.2 | (with_reducible refine Kd.C_alloc ?_ _) | (with_reducible refine Kd.C_drewN ?_ _) | (with_reducible refine Kd.C_drew ?_))); (case side2 => exact (Kd.R_reads' HO602.out).2.1); rintro e w' ⟨rfl, ⟨nd, rfl⟩⟩) | (go_at_call 25; (with_reducible refine (spec_GoodTree.calls k _ _ t600 t638 _ ?side1 ?side2 A36.out).mono ?_); (case side1 => repeat (first | exact (Kd.R_reads' HO602.out).2.2 | (with_reducible refine Kd.C_alloc ?_ _) | (with_reducible refine Kd.C_drewN ?_ _) | (with_reducible refine Kd.C_drew ?_))); (case side2 => exact (Kd.R_reads' HO602.out).2.1); rintro e w' ⟨rfl, ⟨nd, rfl⟩⟩) | (go_at_call 26; (with_reducible refine (impl_GoodPatterns.calls k _ _ t603 t639 _ ?side1 ?side2 A42.out).mono ?_); (case side1 => repeat (first | exact (Kd.N_reads' HO605.out).2.2 | (with_reducible refine Kd.C_alloc ?_ _) | (with_reducible refine Kd.C_drewN ?_ _) | (with_reducible refine Kd.C_drew ?_))); (case side2 => exact (Kd.N_reads' HO605.out).2.1); rintro e w48 ⟨rfl, hb⟩; have n0_ := Aside0.mk (Kd.R_below (lR HO602.out) hb); have n1_ := Aside0.mk (Kd.N_below (by (with_reducible repeat (first | apply Kd.N_alloc | apply Kd.N_drewN | apply Kd.N_drew)); exact HO605.out) hb); have n2_ := Aside0.mk (Kd.R_below (lR HO608.out) hb); have n3_ := Aside0.mk (Kd.R_below (lR HO619.out) hb); have n4_ := Aside0.mk (Kd.R_below (lR HO624.out) hb); have n5_ := Aside0.mk (Kd.R_below (lR HO629.out) hb); have n6_ := Aside0.mk (Kd.R_below (lR HO634.out) hb); have n7_ := Aside0.mk (below_step lB hb); clear HO602; clear HO605; clear HO608; clear HO619; clear HO624; clear HO629; clear HO634; clear HB; have HO602 := n0_; have HO605 := n1_; have HO608 := n2_; have HO619 := n3_; have HO624 := n4_; have HO629 := n5_; have HO634 := n6_; have HB := n7_; clear n0_ n1_ n2_ n3_ n4_ n5_ n6_ n7_; (try clear hb); (try clear hb2); (try clear hk); (try clear hi)) | (go_at_call 27; (with_reducible refine (spec_GoodPatterns.calls k _ _ t603 t640 _ ?side1 ?side2 A43.out).mono ?_); (case side1 => repeat (first | exact (Kd.N_reads' HO605.out).2.2 | (with_reducible refine Kd.C_alloc ?_ _) | (with_reducible refine Kd.C_drewN ?_ _) | (with_reducible refine Kd.C_drew ?_))); (case side2 => exact (Kd.N_reads' HO605.out).2.1); rintro e w49 ⟨rfl, hb⟩; have n0_ := Aside0.mk (Kd.R_below (lR HO602.out) hb); have n1_ := Aside0.mk (Kd.N_below (by (with_reducible repeat (first | apply Kd.N_alloc | apply Kd.N_drewN | apply Kd.N_drew)); exact HO605.out) hb); have n2_ := Aside0.mk (Kd.R_below (lR HO608.out) hb); have n3_ := Aside0.mk (Kd.R_below (lR HO619.out) hb); have n4_ := Aside0.mk (Kd.R_below (lR HO624.out) hb); have n5_ := Aside0.mk (Kd.R_below (lR HO629.out) hb); have n6_ := Aside0.mk (Kd.R_below (lR HO634.out) hb); have n7_ := Aside0.mk (below_step lB hb); clear HO602; clear HO605; clear HO608; clear HO619; clear HO624; clear HO629; clear HO634; clear HB; have HO602 := n0_; have HO605 := n1_; have HO608 := n2_; have HO619 := n3_; have HO624 := n4_; have HO629 := n5_; have HO634 := n6_; have HB := n7_; clear n0_ n1_ n2_ n3_ n4_ n5_ n6_ n7_; (try clear hb); (try clear hb2); (try clear hk); (try clear hi)))
                           go_meet
                           case rel => exact ⟨_, ((t639 != t640)), lF, H', ⟨lN⟩, ⟨lR HO602.out⟩, ⟨by (with_reducible repeat (first | apply Kd.N_alloc | apply Kd.N_drewN | apply Kd.N_drew)); exact Kd.N_mono HO605.out (fun _ hk => ⟨hk.1.1.1.1.1, hk.1.1.1.2⟩)⟩, ⟨by (with_reducible repeat (first | apply Kd.R_alloc | apply Kd.R_drewN | apply Kd.R_drew)); exact Kd.R_mono HO619.out (fun _ hk => trivial)⟩, ⟨lB⟩⟩
                      · replace c34 := Bool.eq_false_iff.mpr c34
                        subst c34
                        rw [if_neg (show ¬ (false = true) by decide)] at H
                        have H' := Aside0.mk H
                        clear H
                        obtain ⟨Ao50, co50, eo50⟩ := Kd.R_slice HO619.out
                        subst eo50
                        obtain ⟨Ao51, co51, eo51⟩ := Kd.R_slice HO624.out
                        subst eo51
                        as_aux_lemma =>
                         go_wp2_with (first | (go_at_call 23; (with_reducible refine (laws_samePieces.calls k _ _ t615 _ _ t620 true _ ?side1 ?side2 ?side3 ?side4 A27.out).mono ?_); (case side1 => repeat (first | exact (Kd.R_reads' HO619.out).2.2 | (with_reducible refine Kd.C_alloc ?_ _) | (with_reducible refine Kd.C_drewN ?_ _) | (with_reducible refine Kd.C_drew ?_))); (case side2 => exact (Kd.R_reads' HO619.out).2.1); (case side3 => repeat (first | exact (Kd.R_reads' HO624.out).2.2 | (with_reducible refine Kd.C_alloc ?_ _) | (with_reducible refine Kd.C_drewN ?_ _) | (with_reducible refine Kd.C_drew ?_))); (case side4 => exact (Kd.R_reads' HO624.out).2.1); rintro e w' ⟨rfl, ⟨nd, rfl⟩⟩; obtain ⟨Ao52, co52, eo52⟩ := Kd.R_slice HO629.out; subst eo52; obtain ⟨Ao53, co53, eo53⟩ := Kd.R_slice HO634.out; subst eo53) | (go_at_call 23; (with_reducible refine (laws_samePieces.calls k _ _ t625 _ _ t630 false _ ?side1 ?side2 ?side3 ?side4 A33.out).mono ?_); (case side1 => repeat (first | exact (Kd.R_reads' HO629.out).2.2 | (with_reducible refine Kd.C_alloc ?_ _) | (with_reducible refine Kd.C_drewN ?_ _) | (with_reducible refine Kd.C_drew ?_))); (case side2 => exact (Kd.R_reads' HO629.out).2.1); (case side3 => repeat (first | exact (Kd.R_reads' HO634.out).2.2 | (with_reducible refine Kd.C_alloc ?_ _) | (with_reducible refine Kd.C_drewN ?_ _) | (with_reducible refine Kd.C_drew ?_))); (case side4 => exact (Kd.R_reads' HO634.out).2.1); rintro e w' ⟨rfl, ⟨nd, rfl⟩⟩))
                         go_meet
                         case rel => exact ⟨_, (true), lF, H', ⟨lN⟩, ⟨lR HO602.out⟩, ⟨by (with_reducible repeat (first | apply Kd.N_alloc | apply Kd.N_drewN | apply Kd.N_drew)); exact Kd.N_mono HO605.out (fun _ hk => ⟨hk.1.1.1.1.1, hk.1.1.1.2⟩)⟩, ⟨by (with_reducible repeat (first | apply Kd.R_alloc | apply Kd.R_drewN | apply Kd.R_drew)); exact Kd.R_mono HO619.out (fun _ hk => trivial)⟩, ⟨lB⟩⟩
                    · rw [if_neg c32] at H
                      have c32b0 : (t626 == t631) = false := beq_eq_false_iff_ne.mpr c32
                      have c32b1 : (t626 != t631) = true := bne_iff_ne.mpr c32
                      have H' := Aside0.mk H
                      clear H
                      obtain ⟨Ao54, co54, eo54⟩ := Kd.R_slice HO619.out
                      subst eo54
                      obtain ⟨Ao55, co55, eo55⟩ := Kd.R_slice HO624.out
                      subst eo55
                      as_aux_lemma =>
                       go_wp2_with (first | (go_at_call 23; (with_reducible refine (laws_samePieces.calls k _ _ t615 _ _ t620 true _ ?side1 ?side2 ?side3 ?side4 A27.out).mono ?_); (case side1 => repeat (first | exact (Kd.R_reads' HO619.out).2.2 | (with_reducible refine Kd.C_alloc ?_ _) | (with_reducible refine Kd.C_drewN ?_ _) | (with_reducible refine Kd.C_drew ?_))); (case side2 => exact (Kd.R_reads' HO619.out).2.1); (case side3 => repeat (first | exact (Kd.R_reads' HO624.out).2.2 | (with_reducible refine Kd.C_alloc ?_ _) | (with_reducible refine Kd.C_drewN ?_ _) | (with_reducible refine Kd.C_drew ?_))); (case side4 => exact (Kd.R_reads' HO624.out).2.1); rintro e w' ⟨rfl, ⟨nd, rfl⟩⟩))
                       go_meet
                       case rel => exact ⟨_, (true), lF, H', ⟨lN⟩, ⟨lR HO602.out⟩, ⟨by (with_reducible repeat (first | apply Kd.N_alloc | apply Kd.N_drewN | apply Kd.N_drew)); exact Kd.N_mono HO605.out (fun _ hk => ⟨hk.1.1.1.1.1, hk.1.1.1.2⟩)⟩, ⟨by (with_reducible repeat (first | apply Kd.R_alloc | apply Kd.R_drewN | apply Kd.R_drew)); exact Kd.R_mono HO619.out (fun _ hk => trivial)⟩, ⟨lB⟩⟩
                · replace c28 := Bool.eq_false_iff.mpr c28
                  subst c28
                  rw [if_neg (show ¬ (false = true) by decide)] at H
                  have H' := Aside0.mk H
                  clear H
                  obtain ⟨Ao56, co56, eo56⟩ := Kd.R_slice HO619.out
                  subst eo56
                  obtain ⟨Ao57, co57, eo57⟩ := Kd.R_slice HO624.out
                  subst eo57
                  as_aux_lemma =>
                   go_wp2_with (first | (go_at_call 23; (with_reducible refine (laws_samePieces.calls k _ _ t615 _ _ t620 false _ ?side1 ?side2 ?side3 ?side4 A27.out).mono ?_); (case side1 => repeat (first | exact (Kd.R_reads' HO619.out).2.2 | (with_reducible refine Kd.C_alloc ?_ _) | (with_reducible refine Kd.C_drewN ?_ _) | (with_reducible refine Kd.C_drew ?_))); (case side2 => exact (Kd.R_reads' HO619.out).2.1); (case side3 => repeat (first | exact (Kd.R_reads' HO624.out).2.2 | (with_reducible refine Kd.C_alloc ?_ _) | (with_reducible refine Kd.C_drewN ?_ _) | (with_reducible refine Kd.C_drew ?_))); (case side4 => exact (Kd.R_reads' HO624.out).2.1); rintro e w' ⟨rfl, ⟨nd, rfl⟩⟩))
                   go_meet
                   case rel => exact ⟨_, (true), lF, H', ⟨lN⟩, ⟨lR HO602.out⟩, ⟨by (with_reducible repeat (first | apply Kd.N_alloc | apply Kd.N_drewN | apply Kd.N_drew)); exact Kd.N_mono HO605.out (fun _ hk => ⟨hk.1.1.1.1.1, hk.1.1.1.2⟩)⟩, ⟨by (with_reducible repeat (first | apply Kd.R_alloc | apply Kd.R_drewN | apply Kd.R_drew)); exact Kd.R_mono HO619.out (fun _ hk => trivial)⟩, ⟨lB⟩⟩
              · rw [if_neg c26] at H
                have c26b0 : (t616 == t621) = false := beq_eq_false_iff_ne.mpr c26
                have c26b1 : (t616 != t621) = true := bne_iff_ne.mpr c26
                have H' := Aside0.mk H
                clear H
                as_aux_lemma =>
                 go_wp2
                 go_meet
                 case rel => exact ⟨_, (true), lF, H', ⟨lN⟩, ⟨lR HO602.out⟩, ⟨by (with_reducible repeat (first | apply Kd.N_alloc | apply Kd.N_drewN | apply Kd.N_drew)); exact Kd.N_mono HO605.out (fun _ hk => ⟨hk.1.1.1.1.1, hk.1.1.1.2⟩)⟩, ⟨by (with_reducible repeat (first | apply Kd.R_alloc | apply Kd.R_drewN | apply Kd.R_drew)); exact Kd.R_mono HO619.out (fun _ hk => trivial)⟩, ⟨lB⟩⟩
        · rw [if_neg c23] at H
          have c23b0 : (t609 == t612) = false := beq_eq_false_iff_ne.mpr c23
          have c23b1 : (t609 != t612) = true := bne_iff_ne.mpr c23
          have H' := Aside0.mk H
          clear H
          as_aux_lemma =>
           go_wp2
           go_meet
           case rel => exact ⟨_, (true), lF, H', ⟨lN⟩, ⟨lR HO602.out⟩, ⟨by (with_reducible repeat (first | apply Kd.N_alloc | apply Kd.N_drewN | apply Kd.N_drew)); exact Kd.N_mono HO605.out (fun _ hk => ⟨hk.1.1.1.1.1, hk.1.1.1.2⟩)⟩, ⟨by (with_reducible repeat (first | apply Kd.R_alloc | apply Kd.R_drewN | apply Kd.R_drew)); exact Kd.R_mono HO619.out (fun _ hk => trivial)⟩, ⟨lB⟩⟩
    case rest =>
      clear HC11
      try clear c1
      try clear c2
      try clear p2
      try clear c3
      try clear c3b0
      try clear c5
      try clear p6
      try clear c7
      try clear c10
      try clear c18
      try clear c19
      try clear c20
      try clear c21
      try clear c22
      try clear c22b0
      try clear c22b1
      try clear c22b2
      try clear c23
      try clear c23b0
      try clear c23b1
      try clear c24
      try clear c24b0
      try clear c24b1
      try clear c24b2
      try clear c25
      try clear c25b0
      try clear c25b1
      try clear c25b2
      try clear c26
      try clear c26b0
      try clear c26b1
      try clear c28
      try clear c29
      try clear c29b0
      try clear c29b1
      try clear c29b2
      try clear c32
      try clear c32b0
      try clear c32b1
      try clear c34
      try clear c37
      try clear c37b0
      try clear c37b1
      try clear c37b2
      obtain ⟨kq, x152_10, rfl, HA, HJ10, HO_5, HO_6, HO_14, HB⟩ := hcut
      cases kq with
      | zero => exact absurd HA.out (by simp [laws_FnCover.j0])
      | succ kj10 =>
        have H := HA.out
        clear HA
        simp only [laws_FnCover.j0] at H
        by_cases c58 : x152_10 = true
        · subst c58
          rw [if_pos rfl] at H
          obtain rfl := Option.some.inj H
          first | (go_wp2; go_ret; exact ⟨lE, lB⟩) | (exfalso; simp only [decide_eq_false_iff_not, decide_eq_true_eq] at *; omega)
        · replace c58 := Bool.eq_false_iff.mpr c58
          subst c58
          rw [if_neg (show ¬ (false = true) by decide)] at H
          have HC59 := Aside0.mk H
          clear H
          go_upto_region 12 with (fail)
          go_cut [177] (fun v177 wc => ∃ (kq : Nat) (x177_58 : Bool), v177 = .bool x177_58 ∧ Aside0 (laws_FnCover.j1 kq l1 t600 t603 t615 t616 t617 x177_58 = some r) ∧ Aside0 (kq ≤ kj10) ∧ Aside0 (Kd.R (Kd.int .i64) 3 wc w.heap.size (fun _ => True) (.slice Ao13 t600.length co13) t600) ∧ Aside0 (Kd.N k57 57 wc w.heap.size (fun k_ => some k_ ≠ ((.slice Ao13 t600.length co13) : Value).ownBlock ∧ some k_ ≠ (v618 : Value).ownBlock) (.slice Ao14 t603.length co14) t603) ∧ Aside0 (Kd.R k63 63 wc w.heap.size (fun _ => True) v618 t615) ∧ Aside0 (Below w.heap.size w wc))
          case first =>
            have H := HC59.out
            clear HC59
            by_cases c60 : t611 = true
            · subst c60
              rw [if_pos rfl] at H
              by_cases c61 : t610 = true
              · subst c61
                rw [if_pos rfl] at H
                by_cases c62 : t617 = true
                · subst c62
                  rw [if_pos rfl] at H
                  by_cases c63 : t609 < t616
                  · rw [if_pos c63] at H
                    have c63b0 : decide (t609 < t616) = true := decide_eq_true c63
                    clear c63
                    (first | rw [c63b0] | (simp only [i64_w, i32_w]; rw [c63b0]) | skip)
                    have H' := Aside0.mk H
                    clear H
                    as_aux_lemma =>
                     go_wp2
                     go_meet
                     case rel => exact ⟨_, (true), lF, H', ⟨by have := HJ10.out; first | omega | exact Nat.le_refl _⟩, ⟨lR HO_5.out⟩, ⟨by (with_reducible repeat (first | apply Kd.N_alloc | apply Kd.N_drewN | apply Kd.N_drew)); exact HO_6.out⟩, ⟨lR HO_14.out⟩, ⟨lB⟩⟩
                  · rw [if_neg c63] at H
                    have c63b0 : decide (t609 < t616) = false := decide_eq_false c63
                    clear c63
                    (first | rw [c63b0] | (simp only [i64_w, i32_w]; rw [c63b0]) | skip)
                    by_cases c64 : t627 = true
                    · subst c64
                      rw [if_pos rfl] at H
                      have H' := Aside0.mk H
                      clear H
                      as_aux_lemma =>
                       go_wp2
                       go_meet
                       case rel => exact ⟨_, (decide (t626 < t616)), lF, H', ⟨by have := HJ10.out; first | omega | exact Nat.le_refl _⟩, ⟨lR HO_5.out⟩, ⟨by (with_reducible repeat (first | apply Kd.N_alloc | apply Kd.N_drewN | apply Kd.N_drew)); exact HO_6.out⟩, ⟨lR HO_14.out⟩, ⟨lB⟩⟩
                    · replace c64 := Bool.eq_false_iff.mpr c64
                      subst c64
                      rw [if_neg (show ¬ (false = true) by decide)] at H
                      have H' := Aside0.mk H
                      clear H
                      as_aux_lemma =>
                       go_wp2
                       go_meet
                       case rel => exact ⟨_, (false), lF, H', ⟨by have := HJ10.out; first | omega | exact Nat.le_refl _⟩, ⟨lR HO_5.out⟩, ⟨by (with_reducible repeat (first | apply Kd.N_alloc | apply Kd.N_drewN | apply Kd.N_drew)); exact HO_6.out⟩, ⟨lR HO_14.out⟩, ⟨lB⟩⟩
                · replace c62 := Bool.eq_false_iff.mpr c62
                  subst c62
                  rw [if_neg (show ¬ (false = true) by decide)] at H
                  have H' := Aside0.mk H
                  clear H
                  as_aux_lemma =>
                   go_wp2
                   go_meet
                   case rel => exact ⟨_, (true), lF, H', ⟨by have := HJ10.out; first | omega | exact Nat.le_refl _⟩, ⟨lR HO_5.out⟩, ⟨by (with_reducible repeat (first | apply Kd.N_alloc | apply Kd.N_drewN | apply Kd.N_drew)); exact HO_6.out⟩, ⟨lR HO_14.out⟩, ⟨lB⟩⟩
              · replace c61 := Bool.eq_false_iff.mpr c61
                subst c61
                rw [if_neg (show ¬ (false = true) by decide)] at H
                by_cases c65 : t627 = true
                · subst c65
                  rw [if_pos rfl] at H
                  by_cases c66 : t617 = true
                  · subst c66
                    rw [if_pos rfl] at H
                    have H' := Aside0.mk H
                    clear H
                    as_aux_lemma =>
                     go_wp2
                     go_meet
                     case rel => exact ⟨_, (decide (t626 < t616)), lF, H', ⟨by have := HJ10.out; first | omega | exact Nat.le_refl _⟩, ⟨lR HO_5.out⟩, ⟨by (with_reducible repeat (first | apply Kd.N_alloc | apply Kd.N_drewN | apply Kd.N_drew)); exact HO_6.out⟩, ⟨lR HO_14.out⟩, ⟨lB⟩⟩
                  · replace c66 := Bool.eq_false_iff.mpr c66
                    subst c66
                    rw [if_neg (show ¬ (false = true) by decide)] at H
                    have H' := Aside0.mk H
                    clear H
                    as_aux_lemma =>
                     go_wp2
                     go_meet
                     case rel => exact ⟨_, (true), lF, H', ⟨by have := HJ10.out; first | omega | exact Nat.le_refl _⟩, ⟨lR HO_5.out⟩, ⟨by (with_reducible repeat (first | apply Kd.N_alloc | apply Kd.N_drewN | apply Kd.N_drew)); exact HO_6.out⟩, ⟨lR HO_14.out⟩, ⟨lB⟩⟩
                · replace c65 := Bool.eq_false_iff.mpr c65
                  subst c65
                  rw [if_neg (show ¬ (false = true) by decide)] at H
                  have H' := Aside0.mk H
                  clear H
                  as_aux_lemma =>
                   go_wp2
                   go_meet
                   case rel => exact ⟨_, (false), lF, H', ⟨by have := HJ10.out; first | omega | exact Nat.le_refl _⟩, ⟨lR HO_5.out⟩, ⟨by (with_reducible repeat (first | apply Kd.N_alloc | apply Kd.N_drewN | apply Kd.N_drew)); exact HO_6.out⟩, ⟨lR HO_14.out⟩, ⟨lB⟩⟩
            · replace c60 := Bool.eq_false_iff.mpr c60
              subst c60
              rw [if_neg (show ¬ (false = true) by decide)] at H
              by_cases c67 : t627 = true
              · subst c67
                rw [if_pos rfl] at H
                by_cases c68 : t617 = true
                · subst c68
                  rw [if_pos rfl] at H
                  have H' := Aside0.mk H
                  clear H
                  as_aux_lemma =>
                   go_wp2
                   go_meet
                   case rel => exact ⟨_, (decide (t626 < t616)), lF, H', ⟨by have := HJ10.out; first | omega | exact Nat.le_refl _⟩, ⟨lR HO_5.out⟩, ⟨by (with_reducible repeat (first | apply Kd.N_alloc | apply Kd.N_drewN | apply Kd.N_drew)); exact HO_6.out⟩, ⟨lR HO_14.out⟩, ⟨lB⟩⟩
                · replace c68 := Bool.eq_false_iff.mpr c68
                  subst c68
                  rw [if_neg (show ¬ (false = true) by decide)] at H
                  have H' := Aside0.mk H
                  clear H
                  as_aux_lemma =>
                   go_wp2
                   go_meet
                   case rel => exact ⟨_, (true), lF, H', ⟨by have := HJ10.out; first | omega | exact Nat.le_refl _⟩, ⟨lR HO_5.out⟩, ⟨by (with_reducible repeat (first | apply Kd.N_alloc | apply Kd.N_drewN | apply Kd.N_drew)); exact HO_6.out⟩, ⟨lR HO_14.out⟩, ⟨lB⟩⟩
              · replace c67 := Bool.eq_false_iff.mpr c67
                subst c67
                rw [if_neg (show ¬ (false = true) by decide)] at H
                have H' := Aside0.mk H
                clear H
                as_aux_lemma =>
                 go_wp2
                 go_meet
                 case rel => exact ⟨_, (false), lF, H', ⟨by have := HJ10.out; first | omega | exact Nat.le_refl _⟩, ⟨lR HO_5.out⟩, ⟨by (with_reducible repeat (first | apply Kd.N_alloc | apply Kd.N_drewN | apply Kd.N_drew)); exact HO_6.out⟩, ⟨lR HO_14.out⟩, ⟨lB⟩⟩
          case rest =>
            clear HC59
            try clear c1
            try clear c2
            try clear p2
            try clear c3
            try clear c3b0
            try clear c5
            try clear c6
            try clear p6
            try clear c7
            try clear c10
            try clear c18
            try clear c19
            try clear c20
            try clear c21
            try clear c22
            try clear c22b0
            try clear c22b1
            try clear c22b2
            try clear c23
            try clear c23b0
            try clear c23b1
            try clear c24
            try clear c24b0
            try clear c24b1
            try clear c24b2
            try clear c25
            try clear c25b0
            try clear c25b1
            try clear c25b2
            try clear c26
            try clear c26b0
            try clear c26b1
            try clear c28
            try clear c29
            try clear c29b0
            try clear c29b1
            try clear c29b2
            try clear c32
            try clear c32b0
            try clear c32b1
            try clear c34
            try clear c37
            try clear c37b0
            try clear c37b1
            try clear c37b2
            try clear c58
            try clear c60
            try clear c61
            try clear c62
            try clear c63
            try clear c63b0
            try clear c64
            try clear p64
            try clear c65
            try clear c66
            try clear c67
            try clear c68
            try clear p2
            try clear p6
            obtain ⟨kq, x177_58, rfl, HA, HJ58, HO_5, HO_6, HO_14, HB⟩ := hcut
            cases kq with
            | zero => exact absurd HA.out (by simp [laws_FnCover.j1])
            | succ kj58 =>
              have H := HA.out
              clear HA
              simp only [laws_FnCover.j1] at H
              by_cases c69 : x177_58 = true
              · subst c69
                rw [if_pos rfl] at H
                obtain rfl := Option.some.inj H
                first | (go_wp2; go_ret; exact ⟨lE, lB⟩) | (exfalso; simp only [decide_eq_false_iff_not, decide_eq_true_eq] at *; omega)
              · replace c69 := Bool.eq_false_iff.mpr c69
                subst c69
                rw [if_neg (show ¬ (false = true) by decide)] at H
                by_cases c70 : t617 = true
                · subst c70
                  rw [if_pos rfl] at H
                  replace H := Option.bind_eq_some_iff.mp H
                  obtain ⟨⟨t641, t642, t643⟩, A710, H⟩ := H
                  replace H : ((impl_CostAt.f kj58 t600 0 t603).bind fun bt644 => (if t643 = true then (if t642 = true then (if t641 = t616 then (if bt644.2 = true then (laws_FnCover.j2 kj58 l1 (bt644.1 != t616)) else (laws_FnCover.j2 kj58 l1 true)) else (laws_FnCover.j2 kj58 l1 true)) else (laws_FnCover.j2 kj58 l1 true)) else (laws_FnCover.j2 kj58 l1 true))) = some r := H
                  have A71 := Aside0.mk A710
                  clear A710
                  replace H := Option.bind_eq_some_iff.mp H
                  obtain ⟨⟨t644, t645⟩, A720, H⟩ := H
                  replace H : (if t643 = true then (if t642 = true then (if t641 = t616 then (if t645 = true then (laws_FnCover.j2 kj58 l1 (t644 != t616)) else (laws_FnCover.j2 kj58 l1 true)) else (laws_FnCover.j2 kj58 l1 true)) else (laws_FnCover.j2 kj58 l1 true)) else (laws_FnCover.j2 kj58 l1 true)) = some r := H
                  have A72 := Aside0.mk A720
                  clear A720
                  have HC73 := Aside0.mk H
                  clear H
                  obtain ⟨Ao74, co74, eo74⟩ := Kd.R_slice HO_14.out
                  subst eo74
                  go_upto_region 17 with (first | ((with_reducible refine gate_callee (f := 21) rfl ?_); refine gl_ (some 183) (Try.func21) #[.slice Ao13 t600.length co13, .slice Ao14 t603.length co14, .slice Ao74 t615.length co74] ?_; (with_reducible refine (impl_IsCover.calls kj58 _ _ t600 _ _ t603 _ _ t615 t641 t642 t643 _ ?side1 ?side2 ?side3 ?side4 ?side5 ?side6 A71.out).mono ?_); (case side1 => repeat (first | exact (Kd.R_reads' HO_5.out).2.2 | (with_reducible refine Kd.C_alloc ?_ _) | (with_reducible refine Kd.C_drewN ?_ _) | (with_reducible refine Kd.C_drew ?_))); (case side2 => exact (Kd.R_reads' HO_5.out).2.1); (case side3 => repeat (first | exact (Kd.N_reads' HO_6.out).2.2 | (with_reducible refine Kd.C_alloc ?_ _) | (with_reducible refine Kd.C_drewN ?_ _) | (with_reducible refine Kd.C_drew ?_))); (case side4 => exact (Kd.N_reads' HO_6.out).2.1); (case side5 => repeat (first | exact (Kd.R_reads' HO_14.out).2.2 | (with_reducible refine Kd.C_alloc ?_ _) | (with_reducible refine Kd.C_drewN ?_ _) | (with_reducible refine Kd.C_drew ?_))); (case side6 => exact (Kd.R_reads' HO_14.out).2.1); rintro e w75 ⟨rfl, hb⟩; refine ⟨_, rfl, ?_⟩; have n0_ := Aside0.mk (Kd.R_below (lR HO_5.out) hb); have n1_ := Aside0.mk (Kd.N_below (by (with_reducible repeat (first | apply Kd.N_alloc | apply Kd.N_drewN | apply Kd.N_drew)); exact HO_6.out) hb); have n2_ := Aside0.mk (Kd.R_below (lR HO_14.out) hb); have n3_ := Aside0.mk (below_step lB hb); clear HO_5; clear HO_6; clear HO_14; clear HB; have HO_5 := n0_; have HO_6 := n1_; have HO_14 := n2_; have HB := n3_; clear n0_ n1_ n2_ n3_; (try clear hb); (try clear hb2); (try clear hk); (try clear hi)) | ((with_reducible refine gate_callee (f := 28) rfl ?_); refine gl_ (some 190) (Try.func28) #[.slice Ao13 t600.length co13, .int .i64 0, .slice Ao14 t603.length co14] ?_; (with_reducible refine (impl_CostAt.calls kj58 _ _ t600 0 _ _ t603 t644 t645 _ ?side1 ?side2 ?side3 ?side4 A72.out).mono ?_); (case side1 => repeat (first | exact (Kd.R_reads' HO_5.out).2.2 | (with_reducible refine Kd.C_alloc ?_ _) | (with_reducible refine Kd.C_drewN ?_ _) | (with_reducible refine Kd.C_drew ?_))); (case side2 => exact (Kd.R_reads' HO_5.out).2.1); (case side3 => repeat (first | exact (Kd.N_reads' HO_6.out).2.2 | (with_reducible refine Kd.C_alloc ?_ _) | (with_reducible refine Kd.C_drewN ?_ _) | (with_reducible refine Kd.C_drew ?_))); (case side4 => exact (Kd.N_reads' HO_6.out).2.1); rintro e w76 ⟨rfl, hb⟩; refine ⟨_, rfl, ?_⟩; have n0_ := Aside0.mk (Kd.R_below (lR HO_5.out) hb); have n1_ := Aside0.mk (Kd.N_below (by (with_reducible repeat (first | apply Kd.N_alloc | apply Kd.N_drewN | apply Kd.N_drew)); exact HO_6.out) hb); have n2_ := Aside0.mk (Kd.R_below (lR HO_14.out) hb); have n3_ := Aside0.mk (below_step lB hb); clear HO_5; clear HO_6; clear HO_14; clear HB; have HO_5 := n0_; have HO_6 := n1_; have HO_14 := n2_; have HB := n3_; clear n0_ n1_ n2_ n3_; (try clear hb); (try clear hb2); (try clear hk); (try clear hi)))
                  (try simp only [Act.put, List.setIfInBounds_toArray, List.set_cons_zero, List.set_cons_succ])
                  go_cut [212] (fun v212 wc => ∃ (kq : Nat) (x212_72 : Bool), v212 = .bool x212_72 ∧ Aside0 (laws_FnCover.j2 kq l1 x212_72 = some r) ∧ Aside0 (kq ≤ kj58) ∧ Aside0 (Below w.heap.size w wc))
                  case first =>
                    have H := HC73.out
                    clear HC73
                    by_cases c77 : t643 = true
                    · subst c77
                      rw [if_pos rfl] at H
                      by_cases c78 : t642 = true
                      · subst c78
                        rw [if_pos rfl] at H
                        by_cases c79 : t641 = t616
                        · rw [if_pos c79] at H
                          have c79b0 : (t641 == t616) = true := beq_iff_eq.mpr c79
                          have c79b1 : (t641 != t616) = false := bne_eq_false_iff_eq.mpr c79
                          clear c79
                          (first | rw [c79b0] | (simp only [i64_w, i32_w]; rw [c79b0]) | skip)
                          by_cases c80 : t645 = true
                          · subst c80
                            rw [if_pos rfl] at H
                            have H' := Aside0.mk H
                            clear H
                            as_aux_lemma =>
                             go_wp2
                             go_meet
                             case rel => exact ⟨_, ((t644 != t616)), lF, H', ⟨by have := HJ10.out; have := HJ58.out; first | omega | exact Nat.le_refl _⟩, ⟨lB⟩⟩
                          · replace c80 := Bool.eq_false_iff.mpr c80
                            subst c80
                            rw [if_neg (show ¬ (false = true) by decide)] at H
                            have H' := Aside0.mk H
                            clear H
                            as_aux_lemma =>
                             go_wp2
                             go_meet
                             case rel => exact ⟨_, (true), lF, H', ⟨by have := HJ10.out; have := HJ58.out; first | omega | exact Nat.le_refl _⟩, ⟨lB⟩⟩
                        · rw [if_neg c79] at H
                          have c79b0 : (t641 == t616) = false := beq_eq_false_iff_ne.mpr c79
                          have c79b1 : (t641 != t616) = true := bne_iff_ne.mpr c79
                          (first | rw [c79b0] | (simp only [i64_w, i32_w]; rw [c79b0]) | skip)
                          have H' := Aside0.mk H
                          clear H
                          as_aux_lemma =>
                           go_wp2
                           go_meet
                           case rel => exact ⟨_, (true), lF, H', ⟨by have := HJ10.out; have := HJ58.out; first | omega | exact Nat.le_refl _⟩, ⟨lB⟩⟩
                      · replace c78 := Bool.eq_false_iff.mpr c78
                        subst c78
                        rw [if_neg (show ¬ (false = true) by decide)] at H
                        have H' := Aside0.mk H
                        clear H
                        as_aux_lemma =>
                         go_wp2
                         go_meet
                         case rel => exact ⟨_, (true), lF, H', ⟨by have := HJ10.out; have := HJ58.out; first | omega | exact Nat.le_refl _⟩, ⟨lB⟩⟩
                    · replace c77 := Bool.eq_false_iff.mpr c77
                      subst c77
                      rw [if_neg (show ¬ (false = true) by decide)] at H
                      have H' := Aside0.mk H
                      clear H
                      as_aux_lemma =>
                       go_wp2
                       go_meet
                       case rel => exact ⟨_, (true), lF, H', ⟨by have := HJ10.out; have := HJ58.out; first | omega | exact Nat.le_refl _⟩, ⟨lB⟩⟩
                  case rest =>
                    clear HC73
                    try clear c1
                    try clear c2
                    try clear p2
                    try clear c3
                    try clear c3b0
                    try clear c5
                    try clear c6
                    try clear p6
                    try clear c7
                    try clear c8
                    try clear c10
                    try clear c18
                    try clear c19
                    try clear c20
                    try clear c21
                    try clear c22
                    try clear c22b0
                    try clear c22b1
                    try clear c22b2
                    try clear c23
                    try clear c23b0
                    try clear c23b1
                    try clear c24
                    try clear c24b0
                    try clear c24b1
                    try clear c24b2
                    try clear c25
                    try clear c25b0
                    try clear c25b1
                    try clear c25b2
                    try clear c26
                    try clear c26b0
                    try clear c26b1
                    try clear c28
                    try clear c29
                    try clear c29b0
                    try clear c29b1
                    try clear c29b2
                    try clear c32
                    try clear c32b0
                    try clear c32b1
                    try clear c34
                    try clear c37
                    try clear c37b0
                    try clear c37b1
                    try clear c37b2
                    try clear c58
                    try clear c60
                    try clear c61
                    try clear c62
                    try clear c63
                    try clear c63b0
                    try clear c64
                    try clear p64
                    try clear c65
                    try clear c66
                    try clear c67
                    try clear c68
                    try clear c69
                    try clear c70
                    try clear c77
                    try clear c78
                    try clear c79
                    try clear c79b0
                    try clear c79b1
                    try clear c80
                    try clear p2
                    try clear p6
                    try clear p64
                    obtain ⟨kq, x212_72, rfl, HA, HJ72, HB⟩ := hcut
                    cases kq with
                    | zero => exact absurd HA.out (by simp [laws_FnCover.j2])
                    | succ kj72 =>
                      have H := HA.out
                      clear HA
                      simp only [laws_FnCover.j2] at H
                      by_cases c81 : x212_72 = true
                      · subst c81
                        rw [if_pos rfl] at H
                        obtain rfl := Option.some.inj H
                        first | (go_wp2; go_ret; exact ⟨lE, lB⟩) | (exfalso; simp only [decide_eq_false_iff_not, decide_eq_true_eq] at *; omega)
                      · replace c81 := Bool.eq_false_iff.mpr c81
                        subst c81
                        rw [if_neg (show ¬ (false = true) by decide)] at H
                        replace H := Option.bind_eq_some_iff.mp H
                        obtain ⟨⟨t646, t649, t650⟩, A820, H⟩ := H
                        replace H : ((impl_CostAt.f kj72 t646 t649 t650).bind fun bt653 => ((spec_CostAt.f kj72 t646 t649 t650).bind fun bt655 => (if (bt653.2 == bt655.2) = true then (some (bt653.1 == bt655.1)) else (some false)))) = some r := H
                        have A82 := Aside0.mk A820
                        clear A820
                        replace H := Option.bind_eq_some_iff.mp H
                        obtain ⟨⟨t653, t654⟩, A830, H⟩ := H
                        replace H : ((spec_CostAt.f kj72 t646 t649 t650).bind fun bt655 => (if (t654 == bt655.2) = true then (some (t653 == bt655.1)) else (some false))) = some r := H
                        have A83 := Aside0.mk A830
                        clear A830
                        replace H := Option.bind_eq_some_iff.mp H
                        obtain ⟨⟨t655, t656⟩, A840, H⟩ := H
                        replace H : (if (t654 == t656) = true then (some (t653 == t655)) else (some false)) = some r := H
                        have A84 := Aside0.mk A840
                        clear A840
                        by_cases c85 : (t654 == t656) = true
                        · rw [if_pos c85] at H
                          have c85b0 : (t654 == t656) = true := c85
                          (try (have c85b1 : decide (t654 = t656) = true := by simpa using c85))
                          (try (have c85b2 : (t654 == t656) = true := by simpa using c85))
                          clear c85
                          obtain rfl := Option.some.inj H
                          as_aux_lemma =>
                           go_wp2_with (first | ((with_reducible refine gate_callee (f := 29) rfl ?_); refine gl_ (some 215) (Try.func29) #[.slice A1 l1.length c1] ?_; (with_reducible refine (spec_DrawCostAt.calls kj72 _ _ l1 t646 t649 t650 _ ?side1 ?side2 A82.out).mono ?_); (case side1 => exact lC (Kd.C_below HR1.out HB.out)); (case side2 => exact HC1.out); rintro e w86 ⟨v647, v651, rfl, ho0, ho1, hb⟩; refine ⟨_, rfl, ?_⟩; have n0_ := Aside0.mk (Kd.R_lower (Kd.R_mono (ok' := fun k_ => True) ho0 (fun _ hk_ => trivial)) (below_size lB)); have n1_ := Aside0.mk (Kd.N_lower (Kd.N_mono (ok' := fun k_ => some k_ ≠ (v647 : Value).ownBlock) ho1 (fun k_ hk_ => hk_.2)) (below_size lB)); have n2_ := Aside0.mk (below_step lB hb); clear HB; have HO648 := n0_; have HO652 := n1_; have HB := n2_; clear n0_ n1_ n2_; (try clear hb); (try clear hb2); (try clear hk); (try clear hi); (try clear ho0); (try clear ho1); obtain ⟨Ao87, co87, eo87⟩ := Kd.R_slice HO648.out; subst eo87; obtain ⟨Ao88, co88, eo88⟩ := Kd.N_slice HO652.out; subst eo88) | ((with_reducible refine gate_callee (f := 28) rfl ?_); refine gl_ (some 223) (Try.func28) #[.slice Ao87 t646.length co87, .int .i64 t649, .slice Ao88 t650.length co88] ?_; (with_reducible refine (impl_CostAt.calls kj72 _ _ t646 t649 _ _ t650 t653 t654 _ ?side1 ?side2 ?side3 ?side4 A83.out).mono ?_); (case side1 => repeat (first | exact (Kd.R_reads' HO648.out).2.2 | (with_reducible refine Kd.C_alloc ?_ _) | (with_reducible refine Kd.C_drewN ?_ _) | (with_reducible refine Kd.C_drew ?_))); (case side2 => exact (Kd.R_reads' HO648.out).2.1); (case side3 => repeat (first | exact (Kd.N_reads' HO652.out).2.2 | (with_reducible refine Kd.C_alloc ?_ _) | (with_reducible refine Kd.C_drewN ?_ _) | (with_reducible refine Kd.C_drew ?_))); (case side4 => exact (Kd.N_reads' HO652.out).2.1); rintro e w89 ⟨rfl, hb⟩; refine ⟨_, rfl, ?_⟩; have n0_ := Aside0.mk (Kd.R_below (lR HO648.out) hb); have n1_ := Aside0.mk (Kd.N_below (by (with_reducible repeat (first | apply Kd.N_alloc | apply Kd.N_drewN | apply Kd.N_drew)); exact HO652.out) hb); have n2_ := Aside0.mk (below_step lB hb); clear HO648; clear HO652; clear HB; have HO648 := n0_; have HO652 := n1_; have HB := n2_; clear n0_ n1_ n2_; (try clear hb); (try clear hb2); (try clear hk); (try clear hi)) | ((with_reducible refine gate_callee (f := 30) rfl ?_); refine gl_ (some 230) (Try.func30) #[.slice Ao87 t646.length co87, .int .i64 t649, .slice Ao88 t650.length co88] ?_; (with_reducible refine (spec_CostAt.calls kj72 _ _ t646 t649 _ _ t650 t655 t656 _ ?side1 ?side2 ?side3 ?side4 A84.out).mono ?_); (case side1 => repeat (first | exact (Kd.R_reads' HO648.out).2.2 | (with_reducible refine Kd.C_alloc ?_ _) | (with_reducible refine Kd.C_drewN ?_ _) | (with_reducible refine Kd.C_drew ?_))); (case side2 => exact (Kd.R_reads' HO648.out).2.1); (case side3 => repeat (first | exact (Kd.N_reads' HO652.out).2.2 | (with_reducible refine Kd.C_alloc ?_ _) | (with_reducible refine Kd.C_drewN ?_ _) | (with_reducible refine Kd.C_drew ?_))); (case side4 => exact (Kd.N_reads' HO652.out).2.1); rintro e w90 ⟨rfl, hb⟩; refine ⟨_, rfl, ?_⟩; have n0_ := Aside0.mk (Kd.R_below (lR HO648.out) hb); have n1_ := Aside0.mk (Kd.N_below (by (with_reducible repeat (first | apply Kd.N_alloc | apply Kd.N_drewN | apply Kd.N_drew)); exact HO652.out) hb); have n2_ := Aside0.mk (below_step lB hb); clear HO648; clear HO652; clear HB; have HO648 := n0_; have HO652 := n1_; have HB := n2_; clear n0_ n1_ n2_; (try clear hb); (try clear hb2); (try clear hk); (try clear hi)))
                           go_ret
                           exact ⟨lE, lB⟩
                        · rw [if_neg c85] at H
                          have c85b0 : (t654 == t656) = false := by simpa using c85
                          (try (have c85b1 : decide (t654 = t656) = false := by simpa using c85))
                          (try (have c85b2 : (t654 == t656) = false := by simpa using c85))
                          (try (have c85b3 : ¬ (t654 = t656) := by simpa using c85))
                          clear c85
                          obtain rfl := Option.some.inj H
                          as_aux_lemma =>
                           go_wp2_with (first | ((with_reducible refine gate_callee (f := 29) rfl ?_); refine gl_ (some 215) (Try.func29) #[.slice A1 l1.length c1] ?_; (with_reducible refine (spec_DrawCostAt.calls kj72 _ _ l1 t646 t649 t650 _ ?side1 ?side2 A82.out).mono ?_); (case side1 => exact lC (Kd.C_below HR1.out HB.out)); (case side2 => exact HC1.out); rintro e w91 ⟨v647, v651, rfl, ho0, ho1, hb⟩; refine ⟨_, rfl, ?_⟩; have n0_ := Aside0.mk (Kd.R_lower (Kd.R_mono (ok' := fun k_ => True) ho0 (fun _ hk_ => trivial)) (below_size lB)); have n1_ := Aside0.mk (Kd.N_lower (Kd.N_mono (ok' := fun k_ => some k_ ≠ (v647 : Value).ownBlock) ho1 (fun k_ hk_ => hk_.2)) (below_size lB)); have n2_ := Aside0.mk (below_step lB hb); clear HB; have HO648 := n0_; have HO652 := n1_; have HB := n2_; clear n0_ n1_ n2_; (try clear hb); (try clear hb2); (try clear hk); (try clear hi); (try clear ho0); (try clear ho1); obtain ⟨Ao92, co92, eo92⟩ := Kd.R_slice HO648.out; subst eo92; obtain ⟨Ao93, co93, eo93⟩ := Kd.N_slice HO652.out; subst eo93) | ((with_reducible refine gate_callee (f := 28) rfl ?_); refine gl_ (some 223) (Try.func28) #[.slice Ao92 t646.length co92, .int .i64 t649, .slice Ao93 t650.length co93] ?_; (with_reducible refine (impl_CostAt.calls kj72 _ _ t646 t649 _ _ t650 t653 t654 _ ?side1 ?side2 ?side3 ?side4 A83.out).mono ?_); (case side1 => repeat (first | exact (Kd.R_reads' HO648.out).2.2 | (with_reducible refine Kd.C_alloc ?_ _) | (with_reducible refine Kd.C_drewN ?_ _) | (with_reducible refine Kd.C_drew ?_))); (case side2 => exact (Kd.R_reads' HO648.out).2.1); (case side3 => repeat (first | exact (Kd.N_reads' HO652.out).2.2 | (with_reducible refine Kd.C_alloc ?_ _) | (with_reducible refine Kd.C_drewN ?_ _) | (with_reducible refine Kd.C_drew ?_))); (case side4 => exact (Kd.N_reads' HO652.out).2.1); rintro e w94 ⟨rfl, hb⟩; refine ⟨_, rfl, ?_⟩; have n0_ := Aside0.mk (Kd.R_below (lR HO648.out) hb); have n1_ := Aside0.mk (Kd.N_below (by (with_reducible repeat (first | apply Kd.N_alloc | apply Kd.N_drewN | apply Kd.N_drew)); exact HO652.out) hb); have n2_ := Aside0.mk (below_step lB hb); clear HO648; clear HO652; clear HB; have HO648 := n0_; have HO652 := n1_; have HB := n2_; clear n0_ n1_ n2_; (try clear hb); (try clear hb2); (try clear hk); (try clear hi)) | ((with_reducible refine gate_callee (f := 30) rfl ?_); refine gl_ (some 230) (Try.func30) #[.slice Ao92 t646.length co92, .int .i64 t649, .slice Ao93 t650.length co93] ?_; (with_reducible refine (spec_CostAt.calls kj72 _ _ t646 t649 _ _ t650 t655 t656 _ ?side1 ?side2 ?side3 ?side4 A84.out).mono ?_); (case side1 => repeat (first | exact (Kd.R_reads' HO648.out).2.2 | (with_reducible refine Kd.C_alloc ?_ _) | (with_reducible refine Kd.C_drewN ?_ _) | (with_reducible refine Kd.C_drew ?_))); (case side2 => exact (Kd.R_reads' HO648.out).2.1); (case side3 => repeat (first | exact (Kd.N_reads' HO652.out).2.2 | (with_reducible refine Kd.C_alloc ?_ _) | (with_reducible refine Kd.C_drewN ?_ _) | (with_reducible refine Kd.C_drew ?_))); (case side4 => exact (Kd.N_reads' HO652.out).2.1); rintro e w95 ⟨rfl, hb⟩; refine ⟨_, rfl, ?_⟩; have n0_ := Aside0.mk (Kd.R_below (lR HO648.out) hb); have n1_ := Aside0.mk (Kd.N_below (by (with_reducible repeat (first | apply Kd.N_alloc | apply Kd.N_drewN | apply Kd.N_drew)); exact HO652.out) hb); have n2_ := Aside0.mk (below_step lB hb); clear HO648; clear HO652; clear HB; have HO648 := n0_; have HO652 := n1_; have HB := n2_; clear n0_ n1_ n2_; (try clear hb); (try clear hb2); (try clear hk); (try clear hi)))
                           go_ret
                           exact ⟨lE, lB⟩
                · replace c70 := Bool.eq_false_iff.mpr c70
                  subst c70
                  rw [if_neg (show ¬ (false = true) by decide)] at H
                  replace H := Option.bind_eq_some_iff.mp H
                  obtain ⟨⟨t657, t660, t661⟩, A960, H⟩ := H
                  replace H : ((impl_CostAt.f kj58 t657 t660 t661).bind fun bt664 => ((spec_CostAt.f kj58 t657 t660 t661).bind fun bt666 => (if (bt664.2 == bt666.2) = true then (some (bt664.1 == bt666.1)) else (some false)))) = some r := H
                  have A96 := Aside0.mk A960
                  clear A960
                  replace H := Option.bind_eq_some_iff.mp H
                  obtain ⟨⟨t664, t665⟩, A970, H⟩ := H
                  replace H : ((spec_CostAt.f kj58 t657 t660 t661).bind fun bt666 => (if (t665 == bt666.2) = true then (some (t664 == bt666.1)) else (some false))) = some r := H
                  have A97 := Aside0.mk A970
                  clear A970
                  replace H := Option.bind_eq_some_iff.mp H
                  obtain ⟨⟨t666, t667⟩, A980, H⟩ := H
                  replace H : (if (t665 == t667) = true then (some (t664 == t666)) else (some false)) = some r := H
                  have A98 := Aside0.mk A980
                  clear A980
                  by_cases c99 : (t665 == t667) = true
                  · rw [if_pos c99] at H
                    have c99b0 : (t665 == t667) = true := c99
                    (try (have c99b1 : decide (t665 = t667) = true := by simpa using c99))
                    (try (have c99b2 : (t665 == t667) = true := by simpa using c99))
                    clear c99
                    obtain rfl := Option.some.inj H
                    as_aux_lemma =>
                     go_wp2_with (first | ((with_reducible refine gate_callee (f := 29) rfl ?_); refine gl_ (some 215) (Try.func29) #[.slice A1 l1.length c1] ?_; (with_reducible refine (spec_DrawCostAt.calls kj58 _ _ l1 t657 t660 t661 _ ?side1 ?side2 A96.out).mono ?_); (case side1 => exact lC (Kd.C_below HR1.out HB.out)); (case side2 => exact HC1.out); rintro e w100 ⟨v658, v662, rfl, ho0, ho1, hb⟩; refine ⟨_, rfl, ?_⟩; have n0_ := Aside0.mk (Kd.R_elder' (lR HO_5.out) (Kd.R_base ho0) hb); have n1_ := Aside0.mk (Kd.N_mono (Kd.N_told (Kd.N_told (Kd.N_old (by (with_reducible repeat (first | apply Kd.N_alloc | apply Kd.N_drewN | apply Kd.N_drew)); exact HO_6.out) hb) (Kd.R_base ho0)) (Kd.N_base ho1)) (fun _ h_ => h_.1)); have n2_ := Aside0.mk (Kd.R_below (lR HO_14.out) hb); have n3_ := Aside0.mk (Kd.R_lower (Kd.R_new' (Kd.R_mono (ok' := fun k_ => True) ho0 (fun _ hk_ => trivial)) (Kd.R_lt (lR HO_5.out))) (below_size lB)); have n4_ := Aside0.mk (Kd.N_lower (Kd.N_mono (ok' := fun k_ => some k_ ≠ (v658 : Value).ownBlock ∧ some k_ ≠ (.slice Ao13 t600.length co13 : Value).ownBlock ∧ some k_ ≠ (.slice Ao14 t603.length co14 : Value).ownBlock ∧ some k_ ≠ (v618 : Value).ownBlock) ho1 (fun k_ hk_ => ⟨hk_.2, (Kd.fresh' (Kd.R_lt (lR HO_5.out)) k_ hk_.1), (Kd.fresh' (Kd.N_lt (by (with_reducible repeat (first | apply Kd.N_alloc | apply Kd.N_drewN | apply Kd.N_drew)); exact HO_6.out)) k_ hk_.1), (Kd.fresh' (Kd.R_lt (lR HO_14.out)) k_ hk_.1)⟩)) (below_size lB)); have n5_ := Aside0.mk (below_step lB hb); clear HO_5; clear HO_6; clear HO_14; clear HB; have HO_5 := n0_; have HO_6 := n1_; have HO_14 := n2_; have HO659 := n3_; have HO663 := n4_; have HB := n5_; clear n0_ n1_ n2_ n3_ n4_ n5_; (try clear hb); (try clear hb2); (try clear hk); (try clear hi); (try clear ho0); (try clear ho1); obtain ⟨Ao101, co101, eo101⟩ := Kd.R_slice HO659.out; subst eo101; obtain ⟨Ao102, co102, eo102⟩ := Kd.N_slice HO663.out; subst eo102) | ((with_reducible refine gate_callee (f := 28) rfl ?_); refine gl_ (some 223) (Try.func28) #[.slice Ao101 t657.length co101, .int .i64 t660, .slice Ao102 t661.length co102] ?_; (with_reducible refine (impl_CostAt.calls kj58 _ _ t657 t660 _ _ t661 t664 t665 _ ?side1 ?side2 ?side3 ?side4 A97.out).mono ?_); (case side1 => repeat (first | exact (Kd.R_reads' HO659.out).2.2 | (with_reducible refine Kd.C_alloc ?_ _) | (with_reducible refine Kd.C_drewN ?_ _) | (with_reducible refine Kd.C_drew ?_))); (case side2 => exact (Kd.R_reads' HO659.out).2.1); (case side3 => repeat (first | exact (Kd.N_reads' HO663.out).2.2 | (with_reducible refine Kd.C_alloc ?_ _) | (with_reducible refine Kd.C_drewN ?_ _) | (with_reducible refine Kd.C_drew ?_))); (case side4 => exact (Kd.N_reads' HO663.out).2.1); rintro e w103 ⟨rfl, hb⟩; refine ⟨_, rfl, ?_⟩; have n0_ := Aside0.mk (Kd.R_below (lR HO_5.out) hb); have n1_ := Aside0.mk (Kd.N_below (by (with_reducible repeat (first | apply Kd.N_alloc | apply Kd.N_drewN | apply Kd.N_drew)); exact HO_6.out) hb); have n2_ := Aside0.mk (Kd.R_below (lR HO_14.out) hb); have n3_ := Aside0.mk (Kd.R_below (lR HO659.out) hb); have n4_ := Aside0.mk (Kd.N_below (by (with_reducible repeat (first | apply Kd.N_alloc | apply Kd.N_drewN | apply Kd.N_drew)); exact HO663.out) hb); have n5_ := Aside0.mk (below_step lB hb); clear HO_5; clear HO_6; clear HO_14; clear HO659; clear HO663; clear HB; have HO_5 := n0_; have HO_6 := n1_; have HO_14 := n2_; have HO659 := n3_; have HO663 := n4_; have HB := n5_; clear n0_ n1_ n2_ n3_ n4_ n5_; (try clear hb); (try clear hb2); (try clear hk); (try clear hi)) | ((with_reducible refine gate_callee (f := 30) rfl ?_); refine gl_ (some 230) (Try.func30) #[.slice Ao101 t657.length co101, .int .i64 t660, .slice Ao102 t661.length co102] ?_; (with_reducible refine (spec_CostAt.calls kj58 _ _ t657 t660 _ _ t661 t666 t667 _ ?side1 ?side2 ?side3 ?side4 A98.out).mono ?_); (case side1 => repeat (first | exact (Kd.R_reads' HO659.out).2.2 | (with_reducible refine Kd.C_alloc ?_ _) | (with_reducible refine Kd.C_drewN ?_ _) | (with_reducible refine Kd.C_drew ?_))); (case side2 => exact (Kd.R_reads' HO659.out).2.1); (case side3 => repeat (first | exact (Kd.N_reads' HO663.out).2.2 | (with_reducible refine Kd.C_alloc ?_ _) | (with_reducible refine Kd.C_drewN ?_ _) | (with_reducible refine Kd.C_drew ?_))); (case side4 => exact (Kd.N_reads' HO663.out).2.1); rintro e w104 ⟨rfl, hb⟩; refine ⟨_, rfl, ?_⟩; have n0_ := Aside0.mk (Kd.R_below (lR HO_5.out) hb); have n1_ := Aside0.mk (Kd.N_below (by (with_reducible repeat (first | apply Kd.N_alloc | apply Kd.N_drewN | apply Kd.N_drew)); exact HO_6.out) hb); have n2_ := Aside0.mk (Kd.R_below (lR HO_14.out) hb); have n3_ := Aside0.mk (Kd.R_below (lR HO659.out) hb); have n4_ := Aside0.mk (Kd.N_below (by (with_reducible repeat (first | apply Kd.N_alloc | apply Kd.N_drewN | apply Kd.N_drew)); exact HO663.out) hb); have n5_ := Aside0.mk (below_step lB hb); clear HO_5; clear HO_6; clear HO_14; clear HO659; clear HO663; clear HB; have HO_5 := n0_; have HO_6 := n1_; have HO_14 := n2_; have HO659 := n3_; have HO663 := n4_; have HB := n5_; clear n0_ n1_ n2_ n3_ n4_ n5_; (try clear hb); (try clear hb2); (try clear hk); (try clear hi)))
                     go_ret
                     exact ⟨lE, lB⟩
                  · rw [if_neg c99] at H
                    have c99b0 : (t665 == t667) = false := by simpa using c99
                    (try (have c99b1 : decide (t665 = t667) = false := by simpa using c99))
                    (try (have c99b2 : (t665 == t667) = false := by simpa using c99))
                    (try (have c99b3 : ¬ (t665 = t667) := by simpa using c99))
                    clear c99
                    obtain rfl := Option.some.inj H
                    as_aux_lemma =>
                     go_wp2_with (first | ((with_reducible refine gate_callee (f := 29) rfl ?_); refine gl_ (some 215) (Try.func29) #[.slice A1 l1.length c1] ?_; (with_reducible refine (spec_DrawCostAt.calls kj58 _ _ l1 t657 t660 t661 _ ?side1 ?side2 A96.out).mono ?_); (case side1 => exact lC (Kd.C_below HR1.out HB.out)); (case side2 => exact HC1.out); rintro e w105 ⟨v658, v662, rfl, ho0, ho1, hb⟩; refine ⟨_, rfl, ?_⟩; have n0_ := Aside0.mk (Kd.R_elder' (lR HO_5.out) (Kd.R_base ho0) hb); have n1_ := Aside0.mk (Kd.N_mono (Kd.N_told (Kd.N_told (Kd.N_old (by (with_reducible repeat (first | apply Kd.N_alloc | apply Kd.N_drewN | apply Kd.N_drew)); exact HO_6.out) hb) (Kd.R_base ho0)) (Kd.N_base ho1)) (fun _ h_ => h_.1)); have n2_ := Aside0.mk (Kd.R_below (lR HO_14.out) hb); have n3_ := Aside0.mk (Kd.R_lower (Kd.R_new' (Kd.R_mono (ok' := fun k_ => True) ho0 (fun _ hk_ => trivial)) (Kd.R_lt (lR HO_5.out))) (below_size lB)); have n4_ := Aside0.mk (Kd.N_lower (Kd.N_mono (ok' := fun k_ => some k_ ≠ (v658 : Value).ownBlock ∧ some k_ ≠ (.slice Ao13 t600.length co13 : Value).ownBlock ∧ some k_ ≠ (.slice Ao14 t603.length co14 : Value).ownBlock ∧ some k_ ≠ (v618 : Value).ownBlock) ho1 (fun k_ hk_ => ⟨hk_.2, (Kd.fresh' (Kd.R_lt (lR HO_5.out)) k_ hk_.1), (Kd.fresh' (Kd.N_lt (by (with_reducible repeat (first | apply Kd.N_alloc | apply Kd.N_drewN | apply Kd.N_drew)); exact HO_6.out)) k_ hk_.1), (Kd.fresh' (Kd.R_lt (lR HO_14.out)) k_ hk_.1)⟩)) (below_size lB)); have n5_ := Aside0.mk (below_step lB hb); clear HO_5; clear HO_6; clear HO_14; clear HB; have HO_5 := n0_; have HO_6 := n1_; have HO_14 := n2_; have HO659 := n3_; have HO663 := n4_; have HB := n5_; clear n0_ n1_ n2_ n3_ n4_ n5_; (try clear hb); (try clear hb2); (try clear hk); (try clear hi); (try clear ho0); (try clear ho1); obtain ⟨Ao106, co106, eo106⟩ := Kd.R_slice HO659.out; subst eo106; obtain ⟨Ao107, co107, eo107⟩ := Kd.N_slice HO663.out; subst eo107) | ((with_reducible refine gate_callee (f := 28) rfl ?_); refine gl_ (some 223) (Try.func28) #[.slice Ao106 t657.length co106, .int .i64 t660, .slice Ao107 t661.length co107] ?_; (with_reducible refine (impl_CostAt.calls kj58 _ _ t657 t660 _ _ t661 t664 t665 _ ?side1 ?side2 ?side3 ?side4 A97.out).mono ?_); (case side1 => repeat (first | exact (Kd.R_reads' HO659.out).2.2 | (with_reducible refine Kd.C_alloc ?_ _) | (with_reducible refine Kd.C_drewN ?_ _) | (with_reducible refine Kd.C_drew ?_))); (case side2 => exact (Kd.R_reads' HO659.out).2.1); (case side3 => repeat (first | exact (Kd.N_reads' HO663.out).2.2 | (with_reducible refine Kd.C_alloc ?_ _) | (with_reducible refine Kd.C_drewN ?_ _) | (with_reducible refine Kd.C_drew ?_))); (case side4 => exact (Kd.N_reads' HO663.out).2.1); rintro e w108 ⟨rfl, hb⟩; refine ⟨_, rfl, ?_⟩; have n0_ := Aside0.mk (Kd.R_below (lR HO_5.out) hb); have n1_ := Aside0.mk (Kd.N_below (by (with_reducible repeat (first | apply Kd.N_alloc | apply Kd.N_drewN | apply Kd.N_drew)); exact HO_6.out) hb); have n2_ := Aside0.mk (Kd.R_below (lR HO_14.out) hb); have n3_ := Aside0.mk (Kd.R_below (lR HO659.out) hb); have n4_ := Aside0.mk (Kd.N_below (by (with_reducible repeat (first | apply Kd.N_alloc | apply Kd.N_drewN | apply Kd.N_drew)); exact HO663.out) hb); have n5_ := Aside0.mk (below_step lB hb); clear HO_5; clear HO_6; clear HO_14; clear HO659; clear HO663; clear HB; have HO_5 := n0_; have HO_6 := n1_; have HO_14 := n2_; have HO659 := n3_; have HO663 := n4_; have HB := n5_; clear n0_ n1_ n2_ n3_ n4_ n5_; (try clear hb); (try clear hb2); (try clear hk); (try clear hi)) | ((with_reducible refine gate_callee (f := 30) rfl ?_); refine gl_ (some 230) (Try.func30) #[.slice Ao106 t657.length co106, .int .i64 t660, .slice Ao107 t661.length co107] ?_; (with_reducible refine (spec_CostAt.calls kj58 _ _ t657 t660 _ _ t661 t666 t667 _ ?side1 ?side2 ?side3 ?side4 A98.out).mono ?_); (case side1 => repeat (first | exact (Kd.R_reads' HO659.out).2.2 | (with_reducible refine Kd.C_alloc ?_ _) | (with_reducible refine Kd.C_drewN ?_ _) | (with_reducible refine Kd.C_drew ?_))); (case side2 => exact (Kd.R_reads' HO659.out).2.1); (case side3 => repeat (first | exact (Kd.N_reads' HO663.out).2.2 | (with_reducible refine Kd.C_alloc ?_ _) | (with_reducible refine Kd.C_drewN ?_ _) | (with_reducible refine Kd.C_drew ?_))); (case side4 => exact (Kd.N_reads' HO663.out).2.1); rintro e w109 ⟨rfl, hb⟩; refine ⟨_, rfl, ?_⟩; have n0_ := Aside0.mk (Kd.R_below (lR HO_5.out) hb); have n1_ := Aside0.mk (Kd.N_below (by (with_reducible repeat (first | apply Kd.N_alloc | apply Kd.N_drewN | apply Kd.N_drew)); exact HO_6.out) hb); have n2_ := Aside0.mk (Kd.R_below (lR HO_14.out) hb); have n3_ := Aside0.mk (Kd.R_below (lR HO659.out) hb); have n4_ := Aside0.mk (Kd.N_below (by (with_reducible repeat (first | apply Kd.N_alloc | apply Kd.N_drewN | apply Kd.N_drew)); exact HO663.out) hb); have n5_ := Aside0.mk (below_step lB hb); clear HO_5; clear HO_6; clear HO_14; clear HO659; clear HO663; clear HB; have HO_5 := n0_; have HO_6 := n1_; have HO_14 := n2_; have HO659 := n3_; have HO663 := n4_; have HB := n5_; clear n0_ n1_ n2_ n3_ n4_ n5_; (try clear hb); (try clear hb2); (try clear hk); (try clear hi)))
                     go_ret
                     exact ⟨lE, lB⟩

/-- THE ONE PURE STATEMENT of laws_FnCover: yours. -/
def laws_FnCover.Pure : Prop := ∀ (l0 : List Int) (l1 : List Int), l0.length ≤ maxLen → l0.length * 1 ≤ 140737488351232 → (∀ x ∈ l0, (Lit.int .u8 x).wf = true) → l1.length ≤ maxLen → l1.length * 1 ≤ 140737488351232 → (∀ x ∈ l1, (Lit.int .u8 x).wf = true) → ∃ k, laws_FnCover.f k l0 l1 = some true
theorem laws_FnCover.walk (P : laws_FnCover.Pure) (a0 : Option Addr) (len0 cap0 : Nat) (z0 : List Int) (a1 : Option Addr) (len1 cap1 : Nat) (z1 : List Int) (w : World) (w0 : (a0 = none ∧ len0 = 0 ∧ cap0 = 0 ∧ z0 = []) ∨ ∃ x, a0 = some x ∧ len0 ≤ cap0 ∧ cap0 ≤ maxLen ∧ z0.length = cap0 ∧ (∀ i, i < z0.length → w.cell? (x.add i) = some (.int .u8 (z0.getD i 0))) ∧ ∀ n ∈ z0, (Lit.int .u8 n).wf = true) (y0 : len0 * 1 ≤ 140737488351232) (w1 : (a1 = none ∧ len1 = 0 ∧ cap1 = 0 ∧ z1 = []) ∨ ∃ x, a1 = some x ∧ len1 ≤ cap1 ∧ cap1 ≤ maxLen ∧ z1.length = cap1 ∧ (∀ i, i < z1.length → w.cell? (x.add i) = some (.int .u8 (z1.getD i 0))) ∧ ∀ n ∈ z1, (Lit.int .u8 n).wf = true) (y1 : len1 * 1 ≤ 140737488351232) :
    Calls Try.prog 5 #[.slice a0 len0 cap0, .slice a1 len1 cap1] w fun e w' => e = .returned (.bool true) ∧ Below w.heap.size w w' := by
  obtain ⟨l0, rfl, hr0, hm0, hw0, hc0⟩ := ReadsInt.ofRowC w0
  obtain ⟨l1, rfl, hr1, hm1, hw1, hc1⟩ := ReadsInt.ofRowC w1
  obtain ⟨k, h⟩ := P l0 l1 hm0 y0 hw0 hm1 y1 hw1
  refine (laws_FnCover.calls k _ _ l0 _ _ l1 true w (Kd.C_of_reads (d := (0 : Int)) (h1 := fun _ => rfl) hr0) hc0 (Kd.C_of_reads (d := (0 : Int)) (h1 := fun _ => rfl) hr1) hc1 h).mono ?_
  rintro e w' ⟨rfl, hd⟩
  exact ⟨rfl, hd⟩

end Go.Proofs.Ytfdbdbihhgabpaa.Q
