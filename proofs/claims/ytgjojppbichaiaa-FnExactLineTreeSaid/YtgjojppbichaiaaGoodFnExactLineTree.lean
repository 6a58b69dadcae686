/- The law FnExactLineTree of this seat: the walk along its one way. Conditions: none. -/
import Derived.Test.YtgjojppbichaiaaQx0
import Derived.Test.YtgjojppbichaiaaQx1
import Derived.Test.YtgjojppbichaiaaQx2
import Derived.Test.YtgjojppbichaiaaQx6
import Derived.Test.YtgjojppbichaiaaQx8
import Derived.Test.YtgjojppbichaiaaQx9
namespace Go.Proofs.Ytgjojppbichaiaa.Q
open Go.RowKit Go.Proofs.YtgjojppbichaiaaW.PrintWords Go.Proofs.YtgjojppbichaiaaW.PrintLast Go.Proofs.YtgjojppbichaiaaW.PrintMore
set_option linter.unusedVariables false
set_option linter.unusedSimpArgs false
/-- What the law's calls come to. -/
def laws_FnExactLineTree.good (k : Nat) (l0 : List (S78)) : Prop := ∃ (t1 : Int), (laws_szXCellS.f l0 1048576 = some t1) ∧ (t1 < 0 ∨ (¬ t1 < 0 ∧ ∃ (t6 : List (S76)), (laws_toXCellS.f k l0 = some t6) ∧ ∃ (t16 : List S86) (t17 : List S63) (t18 : Bool), (spec_LineTree.f k t6 = some (t16, t17, t18)) ∧ ∃ (t43 : List (S76)), (laws_toXCellS.f k l0 = some t43) ∧ ∃ (t53 : List S86) (t54 : List S63), (impl_LineTree.f k t43 = some (t53, t54, t18)) ∧ (laws_eqLined.f k t53 t54 t16 t17 = some true) ∧ ∃ (t85 : List (S76)), (laws_toXCellS.f k l0 = some t85) ∧ (laws_eqXCellS.f k t43 t85 = some true) ∧ ∃ (t101 : Int) (t102 : List (S76)), (laws_markXCellS.f k t43 1 = some (t101, t102)) ∧ (0 ≤ t101) ∧ (laws_eqLined.f k t53 t54 t16 t17 = some true) ∧ ((1 + (markLStepS_cnt t53 : Nat) + (markGuardS_cnt t54 : Nat) : Int) < 2305843009213693952) ∧ (laws_heldLined.f k (markLStepS_mk (1) t53) (markGuardS_mk (1 + (markLStepS_cnt t53 : Nat)) t54) 1 = some (1 + (markLStepS_cnt t53 : Nat) + (markGuardS_cnt t54 : Nat) : Int)) ∧ ∃ (t124 : List (S76)), (laws_toXCellS.f k l0 = some t124) ∧ ∃ (t134 : List S86) (t135 : List S63), (impl_LineTree.f k t124 = some (t134, t135, t18)) ∧ (laws_eqLined.f k t134 t135 t16 t17 = some true) ∧ (laws_heldLined.f k (markLStepS_mk (1) t53) (markGuardS_mk (1 + (markLStepS_cnt t53 : Nat)) t54) 1 = some (1 + (markLStepS_cnt t53 : Nat) + (markGuardS_cnt t54 : Nat) : Int)) ∧ True))
open Classical in
/-- The law, told by that. -/
noncomputable def laws_FnExactLineTree.f (k : Nat) (l0 : List (S78)) : Option Bool := if laws_FnExactLineTree.good k l0 then some true else none
end Go.Proofs.Ytgjojppbichaiaa.Q
