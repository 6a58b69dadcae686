/- The law FnExactSetMethod of this seat: the walk along its one way. Conditions: none. -/
import Derived.Test.YtjmgleomljfieaaQx0
import Derived.Test.YtjmgleomljfieaaQx1
import Derived.Test.YtjmgleomljfieaaQx2
import Derived.Test.YtjmgleomljfieaaQx4
import Derived.Test.YtjmgleomljfieaaQx5
import Derived.Test.YtjmgleomljfieaaQx6
namespace Go.Proofs.Ytjmgleomljfieaa.Q
open Go.RowKit Go.Proofs.YtjmgleomljfieaaW.PrintWords Go.Proofs.YtjmgleomljfieaaW.PrintLast Go.Proofs.YtjmgleomljfieaaW.PrintMore
set_option linter.unusedVariables false
set_option linter.unusedSimpArgs false
/-- What the law's calls come to. -/
def laws_FnExactSetMethod.good (k : Nat) (l0_0 : List (S111)) (a0_1 : Int) (a1 : Int) (a2 : Int) (a3 : Int) : Prop := ∃ (t7 : Int), (laws_szWorld.f k l0_0 a0_1 1048576 = some t7) ∧ (t7 < 0 ∨ (¬ t7 < 0 ∧ ∃ (t11 : List (S82)) (t12 : Int), (laws_toWorld.f k l0_0 a0_1 = some (t11, t12)) ∧ ∃ (t21 : List (S82)) (t22 : Int) (t23 : Bool), (spec_SetMethod.f k t11 t12 a1 a2 a3 = some (t21, t22, t23)) ∧ ∃ (t40 : List (S82)) (t41 : Int), (laws_toWorld.f k l0_0 a0_1 = some (t40, t41)) ∧ ∃ (t58 : List (S82)) (t59 : Int), (impl_SetMethod.f k t40 t41 a1 a2 a3 = some (t58, t59, t23)) ∧ (laws_eqWorld.f k t58 t59 t21 t22 = some true) ∧ ∃ (t83 : List (S82)) (t84 : Int), (laws_toWorld.f k l0_0 a0_1 = some (t83, t84)) ∧ (laws_eqWorld.f k t40 t41 t83 t84 = some true) ∧ ((1 + (markClassS_cnt t40 : Nat) : Int) < 2305843009213693952) ∧ (laws_eqWorld.f k t58 t59 t21 t22 = some true) ∧ ((1 + (markClassS_cnt t58 : Nat) : Int) < 2305843009213693952) ∧ (laws_heldWorld.f k (markClassS_mk (1) t58) t59 1 = some (1 + (markClassS_cnt t58 : Nat) : Int)) ∧ ∃ (t115 : List (S82)) (t116 : Int), (laws_toWorld.f k l0_0 a0_1 = some (t115, t116)) ∧ ∃ (t125 : List (S82)) (t126 : Int), (impl_SetMethod.f k t115 t116 a1 a2 a3 = some (t125, t126, t23)) ∧ (laws_eqWorld.f k t125 t126 t21 t22 = some true) ∧ (laws_heldWorld.f k (markClassS_mk (1) t58) t59 1 = some (1 + (markClassS_cnt t58 : Nat) : Int)) ∧ True))
open Classical in
/-- The law, told by that. -/
noncomputable def laws_FnExactSetMethod.f (k : Nat) (l0_0 : List (S111)) (a0_1 : Int) (a1 : Int) (a2 : Int) (a3 : Int) : Option Bool := if laws_FnExactSetMethod.good k l0_0 a0_1 a1 a2 a3 then some true else none
end Go.Proofs.Ytjmgleomljfieaa.Q
