/- The law FnExactMinorKeeps of this seat: the walk along its one way. Conditions: none. -/
import Derived.Test.YtnocadhibajaoaaQx0
import Derived.Test.YtnocadhibajaoaaQx1
import Derived.Test.YtnocadhibajaoaaQx2
import Derived.Test.YtnocadhibajaoaaQx6
import Derived.Test.YtnocadhibajaoaaQx15
namespace Go.Proofs.Ytnocadhibajaoaa.Q
open Go.RowKit Go.Proofs.YtnocadhibajaoaaW.PrintWords Go.Proofs.YtnocadhibajaoaaW.PrintLast Go.Proofs.YtnocadhibajaoaaW.PrintMore
set_option linter.unusedVariables false
set_option linter.unusedSimpArgs false
/-- What the law's calls come to. -/
def laws_FnExactMinorKeeps.good (k : Nat) (l0_0 : List (S59)) (l0_1 : List Int) (l0_2 : List Int) (a0_3 : Int) : Prop := ∃ (t8 : Int), (laws_szHeap.f k l0_0 l0_1 l0_2 a0_3 1048576 = some t8) ∧ (t8 < 0 ∨ (¬ t8 < 0 ∧ ∃ (t13 : List (S45)) (t14 : List Int) (t15 : List Int) (t16 : Int), (laws_toHeap.f k l0_0 l0_1 l0_2 a0_3 = some (t13, t14, t15, t16)) ∧ ∃ (t36 : List Int) (t37 : Bool), (spec_MinorKeeps.f k t13 t14 t15 t16 = some (t36, t37)) ∧ ∃ (t47 : List (S45)) (t48 : List Int) (t49 : List Int) (t50 : Int), (laws_toHeap.f k l0_0 l0_1 l0_2 a0_3 = some (t47, t48, t49, t50)) ∧ ∃ (t80 : List Int), (impl_MinorKeeps.f k t47 t48 t49 t50 = some (t80, t37)) ∧ (laws_eqIntS.f k t80 t36 = some true) ∧ ∃ (t99 : List (S45)) (t100 : List Int) (t101 : List Int) (t102 : Int), (laws_toHeap.f k l0_0 l0_1 l0_2 a0_3 = some (t99, t100, t101, t102)) ∧ (laws_eqHeap.f k t47 t48 t49 t50 t99 t100 t101 t102 = some true) ∧ ((1 + (markObjectS_cnt t47 : Nat) + (t48.length : Nat) + (t49.length : Nat) : Int) < 2305843009213693952) ∧ (laws_eqIntS.f k t80 t36 = some true) ∧ ∃ (t140 : Int) (t141 : List Int), (laws_markIntS.f k t80 1 = some (t140, t141)) ∧ (0 ≤ t140) ∧ (laws_heldIntS.f k t141 1 = some t140) ∧ ∃ (t152 : List (S45)) (t153 : List Int) (t154 : List Int) (t155 : Int), (laws_toHeap.f k l0_0 l0_1 l0_2 a0_3 = some (t152, t153, t154, t155)) ∧ ∃ (t175 : List Int), (impl_MinorKeeps.f k t152 t153 t154 t155 = some (t175, t37)) ∧ (laws_eqIntS.f k t175 t36 = some true) ∧ (laws_heldIntS.f k t141 1 = some t140) ∧ True))
open Classical in
/-- The law, told by that. -/
noncomputable def laws_FnExactMinorKeeps.f (k : Nat) (l0_0 : List (S59)) (l0_1 : List Int) (l0_2 : List Int) (a0_3 : Int) : Option Bool := if laws_FnExactMinorKeeps.good k l0_0 l0_1 l0_2 a0_3 then some true else none
end Go.Proofs.Ytnocadhibajaoaa.Q
