/- The law FnExactEnterAt of this seat: the walk along its one way. Conditions: none. -/
import Derived.Test.YtpoddnhfnphdcaaQx0
import Derived.Test.YtpoddnhfnphdcaaQx1
import Derived.Test.YtpoddnhfnphdcaaQx2
import Derived.Test.YtpoddnhfnphdcaaQx3
namespace Go.Proofs.Ytpoddnhfnphdcaa.Q
open Go.RowKit Go.Proofs.YtpoddnhfnphdcaaW.PrintWords Go.Proofs.YtpoddnhfnphdcaaW.PrintLast Go.Proofs.YtpoddnhfnphdcaaW.PrintMore
set_option linter.unusedVariables false
set_option linter.unusedSimpArgs false
/-- What the law's calls come to. -/
def laws_FnExactEnterAt.good (k : Nat) (l0_0 : List Int) (l0_1 : List Int) (l0_2 : List Int) : Prop := ∃ (t7 : Int), (laws_szFrame.f l0_0 l0_1 l0_2 1048576 = some t7) ∧ (t7 < 0 ∨ (¬ t7 < 0 ∧ ∃ (t11 : List Int) (t12 : List Int) (t13 : List Int), (laws_toFrame.f k l0_0 l0_1 l0_2 = some (t11, t12, t13)) ∧ ∃ (t32 : List Int) (t33 : Bool), (spec_EnterAt.f k t11 t12 t13 = some (t32, t33)) ∧ ∃ (t42 : List Int) (t43 : List Int) (t44 : List Int), (laws_toFrame.f k l0_0 l0_1 l0_2 = some (t42, t43, t44)) ∧ ∃ (t71 : List Int), (impl_EnterAt.f t42 t43 t44 = some (t71, t33)) ∧ (laws_eqIntS.f k t71 t32 = some true) ∧ ∃ (t87 : List Int) (t88 : List Int) (t89 : List Int), (laws_toFrame.f k l0_0 l0_1 l0_2 = some (t87, t88, t89)) ∧ (laws_eqFrame.f k t42 t43 t44 t87 t88 t89 = some true) ∧ ((1 + (t42.length : Nat) + (t43.length : Nat) + (t44.length : Nat) : Int) < 2305843009213693952) ∧ (laws_eqIntS.f k t71 t32 = some true) ∧ ∃ (t124 : Int) (t125 : List Int), (laws_markIntS.f k t71 1 = some (t124, t125)) ∧ (0 ≤ t124) ∧ (laws_heldIntS.f k t125 1 = some t124) ∧ ∃ (t135 : List Int) (t136 : List Int) (t137 : List Int), (laws_toFrame.f k l0_0 l0_1 l0_2 = some (t135, t136, t137)) ∧ ∃ (t156 : List Int), (impl_EnterAt.f t135 t136 t137 = some (t156, t33)) ∧ (laws_eqIntS.f k t156 t32 = some true) ∧ (laws_heldIntS.f k t125 1 = some t124) ∧ True))
open Classical in
/-- The law, told by that. -/
noncomputable def laws_FnExactEnterAt.f (k : Nat) (l0_0 : List Int) (l0_1 : List Int) (l0_2 : List Int) : Option Bool := if laws_FnExactEnterAt.good k l0_0 l0_1 l0_2 then some true else none
end Go.Proofs.Ytpoddnhfnphdcaa.Q
