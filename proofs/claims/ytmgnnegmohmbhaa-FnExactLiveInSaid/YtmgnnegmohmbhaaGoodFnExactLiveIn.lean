/- The law FnExactLiveIn of this seat: the walk along its one way. Conditions: none. -/
import Derived.Test.YtmgnnegmohmbhaaQx0
import Derived.Test.YtmgnnegmohmbhaaQx1
import Derived.Test.YtmgnnegmohmbhaaQx2
import Derived.Test.YtmgnnegmohmbhaaQx5
import Derived.Test.YtmgnnegmohmbhaaQx13
namespace Go.Proofs.Ytmgnnegmohmbhaa.Q
open Go.RowKit Go.Proofs.YtmgnnegmohmbhaaW.PrintWords Go.Proofs.YtmgnnegmohmbhaaW.PrintLast Go.Proofs.YtmgnnegmohmbhaaW.PrintMore
set_option linter.unusedVariables false
set_option linter.unusedSimpArgs false
/-- What the law's calls come to. -/
def laws_FnExactLiveIn.good (k : Nat) (l0_0 : List (S56)) (l0_1 : List Int) (a0_2 : Bool) : Prop := ∃ (t8 : Int), (laws_szMarker.f k l0_0 l0_1 a0_2 1048576 = some t8) ∧ (t8 < 0 ∨ (¬ t8 < 0 ∧ ∃ (t13 : List (S44)) (t14 : List Int) (t15 : Bool), (laws_toMarker.f k l0_0 l0_1 a0_2 = some (t13, t14, t15)) ∧ ∃ (t30 : List Int) (t31 : Bool), (spec_LiveIn.f k t13 t14 t15 = some (t30, t31)) ∧ ∃ (t41 : List (S44)) (t42 : List Int) (t43 : Bool), (laws_toMarker.f k l0_0 l0_1 a0_2 = some (t41, t42, t43)) ∧ ∃ (t68 : List Int), (impl_LiveIn.f k t41 t42 t43 = some (t68, t31)) ∧ (laws_eqIntS.f k t68 t30 = some true) ∧ ∃ (t87 : List (S44)) (t88 : List Int) (t89 : Bool), (laws_toMarker.f k l0_0 l0_1 a0_2 = some (t87, t88, t89)) ∧ (laws_eqMarker.f k t41 t42 t43 t87 t88 t89 = some true) ∧ ((1 + (markCellS_cnt t41 : Nat) + (t42.length : Nat) : Int) < 2305843009213693952) ∧ (laws_eqIntS.f k t68 t30 = some true) ∧ ∃ (t121 : Int) (t122 : List Int), (laws_markIntS.f k t68 1 = some (t121, t122)) ∧ (0 ≤ t121) ∧ (laws_heldIntS.f k t122 1 = some t121) ∧ ∃ (t133 : List (S44)) (t134 : List Int) (t135 : Bool), (laws_toMarker.f k l0_0 l0_1 a0_2 = some (t133, t134, t135)) ∧ ∃ (t150 : List Int), (impl_LiveIn.f k t133 t134 t135 = some (t150, t31)) ∧ (laws_eqIntS.f k t150 t30 = some true) ∧ (laws_heldIntS.f k t122 1 = some t121) ∧ True))
open Classical in
/-- The law, told by that. -/
noncomputable def laws_FnExactLiveIn.f (k : Nat) (l0_0 : List (S56)) (l0_1 : List Int) (a0_2 : Bool) : Option Bool := if laws_FnExactLiveIn.good k l0_0 l0_1 a0_2 then some true else none
end Go.Proofs.Ytmgnnegmohmbhaa.Q
