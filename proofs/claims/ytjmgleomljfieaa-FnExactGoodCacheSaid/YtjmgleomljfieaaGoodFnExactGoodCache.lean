/- The law FnExactGoodCache of this seat: the walk along its one way. Conditions: none. -/
import Derived.Test.YtjmgleomljfieaaQx0
import Derived.Test.YtjmgleomljfieaaQx1
import Derived.Test.YtjmgleomljfieaaQx2
import Derived.Test.YtjmgleomljfieaaQx3
import Derived.Test.YtjmgleomljfieaaQx5
import Derived.Test.YtjmgleomljfieaaQx6
import Derived.Test.YtjmgleomljfieaaQx8
namespace Go.Proofs.Ytjmgleomljfieaa.Q
open Go.RowKit Go.Proofs.YtjmgleomljfieaaW.PrintWords Go.Proofs.YtjmgleomljfieaaW.PrintLast Go.Proofs.YtjmgleomljfieaaW.PrintMore
set_option linter.unusedVariables false
set_option linter.unusedSimpArgs false
/-- What the law's calls come to. -/
def laws_FnExactGoodCache.good (k : Nat) (l0_0 : List (S111)) (a0_1 : Int) (a1_0 : Int) (a1_1 : Int) (l1_2 : List (S117)) (a1_3 : Int) (a1_4 : Int) (a1_5 : Int) : Prop := ∃ (t13 : Int), (laws_szWorld.f k l0_0 a0_1 1048576 = some t13) ∧ (t13 < 0 ∨ (¬ t13 < 0 ∧ ∃ (t17 : Int), (laws_szCache.f a1_0 a1_1 l1_2 a1_3 a1_4 a1_5 t13 = some t17) ∧ (t17 < 0 ∨ (¬ t17 < 0 ∧ ∃ (t23 : List (S82)) (t24 : Int), (laws_toWorld.f k l0_0 a0_1 = some (t23, t24)) ∧ ∃ (t33 : Int) (t34 : Int) (t35 : List (S97)) (t36 : Int) (t37 : Int) (t38 : Int), (laws_toCache.f k a1_0 a1_1 l1_2 a1_3 a1_4 a1_5 = some (t33, t34, t35, t36, t37, t38)) ∧ ∃ (t47 : Bool), (spec_GoodCache.f k t23 t24 t33 t34 t35 t36 t37 t38 = some t47) ∧ ∃ (t51 : List (S82)) (t52 : Int), (laws_toWorld.f k l0_0 a0_1 = some (t51, t52)) ∧ ∃ (t69 : Int) (t70 : Int) (t71 : List (S97)) (t72 : Int) (t73 : Int) (t74 : Int), (laws_toCache.f k a1_0 a1_1 l1_2 a1_3 a1_4 a1_5 = some (t69, t70, t71, t72, t73, t74)) ∧ (impl_GoodCache.f k t51 t52 t69 t70 t71 t72 t73 t74 = some t47) ∧ ∃ (t97 : List (S82)) (t98 : Int), (laws_toWorld.f k l0_0 a0_1 = some (t97, t98)) ∧ (laws_eqWorld.f k t51 t52 t97 t98 = some true) ∧ ∃ (t113 : Int) (t114 : Int) (t115 : List (S97)) (t116 : Int) (t117 : Int) (t118 : Int), (laws_toCache.f k a1_0 a1_1 l1_2 a1_3 a1_4 a1_5 = some (t113, t114, t115, t116, t117, t118)) ∧ (laws_eqCache.f k t69 t70 t71 t72 t73 t74 t113 t114 t115 t116 t117 t118 = some true) ∧ True))))
open Classical in
/-- The law, told by that. -/
noncomputable def laws_FnExactGoodCache.f (k : Nat) (l0_0 : List (S111)) (a0_1 : Int) (a1_0 : Int) (a1_1 : Int) (l1_2 : List (S117)) (a1_3 : Int) (a1_4 : Int) (a1_5 : Int) : Option Bool := if laws_FnExactGoodCache.good k l0_0 a0_1 a1_0 a1_1 l1_2 a1_3 a1_4 a1_5 then some true else none
end Go.Proofs.Ytjmgleomljfieaa.Q
