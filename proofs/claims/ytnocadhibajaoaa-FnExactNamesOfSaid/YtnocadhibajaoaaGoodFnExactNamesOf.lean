/- The law FnExactNamesOf of this seat: the walk along its one way. Conditions: none. -/
import Derived.Test.YtnocadhibajaoaaQx0
import Derived.Test.YtnocadhibajaoaaQx1
import Derived.Test.YtnocadhibajaoaaQx2
import Derived.Test.YtnocadhibajaoaaQx5
import Derived.Test.YtnocadhibajaoaaQx7
namespace Go.Proofs.Ytnocadhibajaoaa.Q
open Go.RowKit Go.Proofs.YtnocadhibajaoaaW.PrintWords Go.Proofs.YtnocadhibajaoaaW.PrintLast Go.Proofs.YtnocadhibajaoaaW.PrintMore
set_option linter.unusedVariables false
set_option linter.unusedSimpArgs false
/-- What the law's calls come to. -/
def laws_FnExactNamesOf.good (k : Nat) (l0_0 : List (S59)) (l0_1 : List Int) (l0_2 : List Int) (a0_3 : Int) : Prop := ∃ (t7 : Int), (laws_szHeap.f k l0_0 l0_1 l0_2 a0_3 1048576 = some t7) ∧ (t7 < 0 ∨ (¬ t7 < 0 ∧ ∃ (t11 : List (S45)) (t12 : List Int) (t13 : List Int) (t14 : Int), (laws_toHeap.f k l0_0 l0_1 l0_2 a0_3 = some (t11, t12, t13, t14)) ∧ ∃ (t33 : List Int) (t34 : Bool), (spec_NamesOf.f k t11 t12 t13 t14 = some (t33, t34)) ∧ ∃ (t43 : List (S45)) (t44 : List Int) (t45 : List Int) (t46 : Int), (laws_toHeap.f k l0_0 l0_1 l0_2 a0_3 = some (t43, t44, t45, t46)) ∧ ∃ (t73 : List Int), (impl_NamesOf.f k t43 t44 t45 t46 = some (t73, t34)) ∧ (laws_eqIntS.f k t73 t33 = some true) ∧ ∃ (t89 : List (S45)) (t90 : List Int) (t91 : List Int) (t92 : Int), (laws_toHeap.f k l0_0 l0_1 l0_2 a0_3 = some (t89, t90, t91, t92)) ∧ (laws_eqHeap.f k t43 t44 t45 t46 t89 t90 t91 t92 = some true) ∧ ((1 + (markObjectS_cnt t43 : Nat) + (t44.length : Nat) + (t45.length : Nat) : Int) < 2305843009213693952) ∧ (laws_eqIntS.f k t73 t33 = some true) ∧ ∃ (t127 : Int) (t128 : List Int), (laws_markIntS.f k t73 1 = some (t127, t128)) ∧ (0 ≤ t127) ∧ (laws_heldIntS.f k t128 1 = some t127) ∧ ∃ (t138 : List (S45)) (t139 : List Int) (t140 : List Int) (t141 : Int), (laws_toHeap.f k l0_0 l0_1 l0_2 a0_3 = some (t138, t139, t140, t141)) ∧ ∃ (t160 : List Int), (impl_NamesOf.f k t138 t139 t140 t141 = some (t160, t34)) ∧ (laws_eqIntS.f k t160 t33 = some true) ∧ (laws_heldIntS.f k t128 1 = some t127) ∧ True))
open Classical in
/-- The law, told by that. -/
noncomputable def laws_FnExactNamesOf.f (k : Nat) (l0_0 : List (S59)) (l0_1 : List Int) (l0_2 : List Int) (a0_3 : Int) : Option Bool := if laws_FnExactNamesOf.good k l0_0 l0_1 l0_2 a0_3 then some true else none
end Go.Proofs.Ytnocadhibajaoaa.Q
