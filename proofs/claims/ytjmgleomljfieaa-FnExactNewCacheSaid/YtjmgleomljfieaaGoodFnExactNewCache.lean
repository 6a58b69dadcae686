/- The law FnExactNewCache of this seat: the walk along its one way. Conditions: none. -/
import Derived.Test.YtjmgleomljfieaaQx0
import Derived.Test.YtjmgleomljfieaaQx1
import Derived.Test.YtjmgleomljfieaaQx2
import Derived.Test.YtjmgleomljfieaaQx3
import Derived.Test.YtjmgleomljfieaaQx4
import Derived.Test.YtjmgleomljfieaaQx5
namespace Go.Proofs.Ytjmgleomljfieaa.Q
open Go.RowKit Go.Proofs.YtjmgleomljfieaaW.PrintWords Go.Proofs.YtjmgleomljfieaaW.PrintLast Go.Proofs.YtjmgleomljfieaaW.PrintMore
set_option linter.unusedVariables false
set_option linter.unusedSimpArgs false
/-- What the law's calls come to. -/
def laws_FnExactNewCache.good (k : Nat) (l0_0 : List (S111)) (a0_1 : Int) (a1 : Int) : Prop := ∃ (t7 : Int), (laws_szWorld.f k l0_0 a0_1 1048576 = some t7) ∧ (t7 < 0 ∨ (¬ t7 < 0 ∧ ∃ (t11 : List (S82)) (t12 : Int), (laws_toWorld.f k l0_0 a0_1 = some (t11, t12)) ∧ ∃ (t21 : Int) (t22 : Int) (t23 : List (S97)) (t24 : Int) (t25 : Int) (t26 : Int) (t27 : Bool), (spec_NewCache.f k t11 t12 a1 = some (t21, t22, t23, t24, t25, t26, t27)) ∧ ∃ (t44 : List (S82)) (t45 : Int), (laws_toWorld.f k l0_0 a0_1 = some (t44, t45)) ∧ ∃ (t62 : Int) (t63 : Int) (t64 : List (S97)) (t65 : Int) (t66 : Int) (t67 : Int), (impl_NewCache.f k t44 t45 a1 = some (t62, t63, t64, t65, t66, t67, t27)) ∧ (laws_eqCache.f k t62 t63 t64 t65 t66 t67 t21 t22 t23 t24 t25 t26 = some true) ∧ ∃ (t91 : List (S82)) (t92 : Int), (laws_toWorld.f k l0_0 a0_1 = some (t91, t92)) ∧ (laws_eqWorld.f k t44 t45 t91 t92 = some true) ∧ ((1 + (markClassS_cnt t44 : Nat) : Int) < 2305843009213693952) ∧ (laws_eqCache.f k t62 t63 t64 t65 t66 t67 t21 t22 t23 t24 t25 t26 = some true) ∧ ∃ (t115 : Int) (t116 : List (S97)), (laws_markCache.f k t62 t63 t64 t65 t66 t67 1 = some (t115, t116)) ∧ (0 ≤ t115) ∧ (laws_heldCache.f k t62 t63 t116 t65 t66 t67 1 = some t115) ∧ ∃ (t126 : List (S82)) (t127 : Int), (laws_toWorld.f k l0_0 a0_1 = some (t126, t127)) ∧ ∃ (t136 : Int) (t137 : Int) (t138 : List (S97)) (t139 : Int) (t140 : Int) (t141 : Int), (impl_NewCache.f k t126 t127 a1 = some (t136, t137, t138, t139, t140, t141, t27)) ∧ (laws_eqCache.f k t136 t137 t138 t139 t140 t141 t21 t22 t23 t24 t25 t26 = some true) ∧ (laws_heldCache.f k t62 t63 t116 t65 t66 t67 1 = some t115) ∧ True))
open Classical in
/-- The law, told by that. -/
noncomputable def laws_FnExactNewCache.f (k : Nat) (l0_0 : List (S111)) (a0_1 : Int) (a1 : Int) : Option Bool := if laws_FnExactNewCache.good k l0_0 a0_1 a1 then some true else none
end Go.Proofs.Ytjmgleomljfieaa.Q
