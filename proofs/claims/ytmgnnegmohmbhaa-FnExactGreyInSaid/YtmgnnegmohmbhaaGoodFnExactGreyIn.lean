/- The law FnExactGreyIn of this seat: the walk along its one way. Conditions: none. -/
import Derived.Test.YtmgnnegmohmbhaaQx0
import Derived.Test.YtmgnnegmohmbhaaQx1
import Derived.Test.YtmgnnegmohmbhaaQx2
import Derived.Test.YtmgnnegmohmbhaaQx5
import Derived.Test.YtmgnnegmohmbhaaQx7
namespace Go.Proofs.Ytmgnnegmohmbhaa.Q
open Go.RowKit Go.Proofs.YtmgnnegmohmbhaaW.PrintWords Go.Proofs.YtmgnnegmohmbhaaW.PrintLast Go.Proofs.YtmgnnegmohmbhaaW.PrintMore
set_option linter.unusedVariables false
set_option linter.unusedSimpArgs false
/-- What the law's calls come to. -/
def laws_FnExactGreyIn.good (k : Nat) (l0_0 : List (S56)) (l0_1 : List Int) (a0_2 : Bool) : Prop := ∃ (t7 : Int), (laws_szMarker.f k l0_0 l0_1 a0_2 1048576 = some t7) ∧ (t7 < 0 ∨ (¬ t7 < 0 ∧ ∃ (t11 : List (S44)) (t12 : List Int) (t13 : Bool), (laws_toMarker.f k l0_0 l0_1 a0_2 = some (t11, t12, t13)) ∧ ∃ (t27 : List Int) (t28 : Bool), (spec_GreyIn.f k t11 t12 t13 = some (t27, t28)) ∧ ∃ (t37 : List (S44)) (t38 : List Int) (t39 : Bool), (laws_toMarker.f k l0_0 l0_1 a0_2 = some (t37, t38, t39)) ∧ ∃ (t61 : List Int), (impl_GreyIn.f k t37 t38 t39 = some (t61, t28)) ∧ (laws_eqIntS.f k t61 t27 = some true) ∧ ∃ (t77 : List (S44)) (t78 : List Int) (t79 : Bool), (laws_toMarker.f k l0_0 l0_1 a0_2 = some (t77, t78, t79)) ∧ (laws_eqMarker.f k t37 t38 t39 t77 t78 t79 = some true) ∧ ((1 + (markCellS_cnt t37 : Nat) + (t38.length : Nat) : Int) < 2305843009213693952) ∧ (laws_eqIntS.f k t61 t27 = some true) ∧ ∃ (t108 : Int) (t109 : List Int), (laws_markIntS.f k t61 1 = some (t108, t109)) ∧ (0 ≤ t108) ∧ (laws_heldIntS.f k t109 1 = some t108) ∧ ∃ (t119 : List (S44)) (t120 : List Int) (t121 : Bool), (laws_toMarker.f k l0_0 l0_1 a0_2 = some (t119, t120, t121)) ∧ ∃ (t135 : List Int), (impl_GreyIn.f k t119 t120 t121 = some (t135, t28)) ∧ (laws_eqIntS.f k t135 t27 = some true) ∧ (laws_heldIntS.f k t109 1 = some t108) ∧ True))
open Classical in
/-- The law, told by that. -/
noncomputable def laws_FnExactGreyIn.f (k : Nat) (l0_0 : List (S56)) (l0_1 : List Int) (a0_2 : Bool) : Option Bool := if laws_FnExactGreyIn.good k l0_0 l0_1 a0_2 then some true else none
end Go.Proofs.Ytmgnnegmohmbhaa.Q
