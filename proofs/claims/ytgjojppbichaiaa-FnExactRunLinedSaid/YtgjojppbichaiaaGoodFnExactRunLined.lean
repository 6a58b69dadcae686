/- The law FnExactRunLined of this seat: the walk along its one way. Conditions: none. -/
import Derived.Test.YtgjojppbichaiaaQx0
import Derived.Test.YtgjojppbichaiaaQx1
import Derived.Test.YtgjojppbichaiaaQx2
import Derived.Test.YtgjojppbichaiaaQx4
import Derived.Test.YtgjojppbichaiaaQx6
import Derived.Test.YtgjojppbichaiaaQx7
namespace Go.Proofs.Ytgjojppbichaiaa.Q
open Go.RowKit Go.Proofs.YtgjojppbichaiaaW.PrintWords Go.Proofs.YtgjojppbichaiaaW.PrintLast Go.Proofs.YtgjojppbichaiaaW.PrintMore
set_option linter.unusedVariables false
set_option linter.unusedSimpArgs false
/-- What the law's calls come to. -/
def laws_FnExactRunLined.good (k : Nat) (l0_0 : List (S124)) (l0_1 : List (S126)) (a1 : Int) : Prop := ∃ (t8 : Int), (laws_szLined.f l0_0 l0_1 1048576 = some t8) ∧ (t8 < 0 ∨ (¬ t8 < 0 ∧ ∃ (t13 : List (S86)) (t14 : List (S63)), (laws_toLined.f k l0_0 l0_1 = some (t13, t14)) ∧ ∃ (t29 : List Int) (t30 : Int) (t31 : Int) (t32 : Bool), (spec_RunLined.f k t13 t14 a1 = some (t29, t30, t31, t32)) ∧ ∃ (t42 : List (S86)) (t43 : List (S63)), (laws_toLined.f k l0_0 l0_1 = some (t42, t43)) ∧ ∃ (t68 : List Int), (impl_RunLined.f k t42 t43 a1 = some (t68, t30, t31, t32)) ∧ (laws_eqIntS.f k t68 t29 = some true) ∧ ∃ (t89 : List (S86)) (t90 : List (S63)), (laws_toLined.f k l0_0 l0_1 = some (t89, t90)) ∧ (laws_eqLined.f k t42 t43 t89 t90 = some true) ∧ ((1 + (markLStepS_cnt t42 : Nat) + (markGuardS_cnt t43 : Nat) : Int) < 2305843009213693952) ∧ (laws_eqIntS.f k t68 t29 = some true) ∧ ∃ (t122 : Int) (t123 : List Int), (laws_markIntS.f k t68 1 = some (t122, t123)) ∧ (0 ≤ t122) ∧ (laws_heldIntS.f k t123 1 = some t122) ∧ ∃ (t134 : List (S86)) (t135 : List (S63)), (laws_toLined.f k l0_0 l0_1 = some (t134, t135)) ∧ ∃ (t150 : List Int), (impl_RunLined.f k t134 t135 a1 = some (t150, t30, t31, t32)) ∧ (laws_eqIntS.f k t150 t29 = some true) ∧ (laws_heldIntS.f k t123 1 = some t122) ∧ True))
open Classical in
/-- The law, told by that. -/
noncomputable def laws_FnExactRunLined.f (k : Nat) (l0_0 : List (S124)) (l0_1 : List (S126)) (a1 : Int) : Option Bool := if laws_FnExactRunLined.good k l0_0 l0_1 a1 then some true else none
end Go.Proofs.Ytgjojppbichaiaa.Q
