/- The law FnExactGreedyCover of this seat: the walk along its one way. Conditions: none. -/
import Derived.Test.YtfdbdbihhgabpaaQx0
import Derived.Test.YtfdbdbihhgabpaaQx1
import Derived.Test.YtfdbdbihhgabpaaQx3
import Derived.Test.YtfdbdbihhgabpaaQx7
import Derived.Test.YtfdbdbihhgabpaaQx8
import Derived.Test.YtfdbdbihhgabpaaQx9
import Derived.Test.YtfdbdbihhgabpaaQx10
namespace Go.Proofs.Ytfdbdbihhgabpaa.Q
open Go.RowKit Go.Proofs.YtfdbdbihhgabpaaW.PrintWords Go.Proofs.YtfdbdbihhgabpaaW.PrintLast Go.Proofs.YtfdbdbihhgabpaaW.PrintMore
set_option linter.unusedVariables false
set_option linter.unusedSimpArgs false
/-- What the law's calls come to. -/
def laws_FnExactGreedyCover.good (k : Nat) (l0 : List Int) (l1 : List (S52)) : Prop := (1048576 < (l0.length : Int) ∨ (¬ 1048576 < (l0.length : Int) ∧ ∃ (t1 : Int), (laws_szPatternS.f k l1 1048576 = some t1) ∧ (t1 < 0 ∨ (¬ t1 < 0 ∧ ∃ (t6 : List Int), (laws_toIntS.f k l0 = some t6) ∧ ∃ (t16 : List (S57)), (laws_toPatternS.f k l1 = some t16) ∧ ∃ (t26 : List (S63)) (t27 : Int) (t28 : Bool), (spec_GreedyCover.f k t6 t16 = some (t26, t27, t28)) ∧ ∃ (t38 : List Int), (laws_toIntS.f k l0 = some t38) ∧ ∃ (t48 : List (S57)), (laws_toPatternS.f k l1 = some t48) ∧ ∃ (t58 : List (S63)), (impl_GreedyCover.f k t38 t48 = some (t58, t27, t28)) ∧ (laws_eqPieceS.f k t58 t26 = some true) ∧ ∃ (t75 : List Int), (laws_toIntS.f k l0 = some t75) ∧ (laws_eqIntS.f k t38 t75 = some true) ∧ ∃ (t90 : List (S57)), (laws_toPatternS.f k l1 = some t90) ∧ (laws_eqPatternS.f k t48 t90 = some true) ∧ ∃ (t106 : Int) (t107 : List Int), (laws_markIntS.f k t38 1 = some (t106, t107)) ∧ (0 ≤ t106) ∧ ((t106 + (markPatternS_cnt t48 : Nat) : Int) < 2305843009213693952) ∧ (laws_eqPieceS.f k t58 t26 = some true) ∧ ∃ (t124 : Int) (t125 : List (S63)), (laws_markPieceS.f k t58 1 = some (t124, t125)) ∧ (0 ≤ t124) ∧ (laws_heldPieceS.f k t125 1 = some t124) ∧ ∃ (t136 : List Int), (laws_toIntS.f k l0 = some t136) ∧ ∃ (t146 : List (S57)), (laws_toPatternS.f k l1 = some t146) ∧ ∃ (t156 : List (S63)), (impl_GreedyCover.f k t136 t146 = some (t156, t27, t28)) ∧ (laws_eqPieceS.f k t156 t26 = some true) ∧ (laws_heldPieceS.f k t125 1 = some t124) ∧ True))))
open Classical in
/-- The law, told by that. -/
noncomputable def laws_FnExactGreedyCover.f (k : Nat) (l0 : List Int) (l1 : List (S52)) : Option Bool := if laws_FnExactGreedyCover.good k l0 l1 then some true else none
end Go.Proofs.Ytfdbdbihhgabpaa.Q
