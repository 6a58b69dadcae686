/- The law FnExactLayFlow of this seat: the walk along its one way. Conditions: none. -/
import Derived.Test.YtpnhlccdhflogaaQx0
import Derived.Test.YtpnhlccdhflogaaQx1
import Derived.Test.YtpnhlccdhflogaaQx3
import Derived.Test.YtpnhlccdhflogaaQx4
import Derived.Test.YtpnhlccdhflogaaQx6
import Derived.Test.YtpnhlccdhflogaaQx7
import Derived.Test.YtpnhlccdhflogaaQx8
namespace Go.Proofs.Ytpnhlccdhflogaa.Q
open Go.RowKit Go.Proofs.YtpnhlccdhflogaaW.PrintWords Go.Proofs.YtpnhlccdhflogaaW.PrintLast Go.Proofs.YtpnhlccdhflogaaW.PrintMore
set_option linter.unusedVariables false
set_option linter.unusedSimpArgs false
/-- What the law's calls come to. -/
def laws_FnExactLayFlow.good (k : Nat) (l0 : List (S95)) (l1 : List Int) : Prop := (1048576 < (l1.length : Int) ∨ (¬ 1048576 < (l1.length : Int) ∧ ∃ (t1 : Int), (laws_szBlockS.f k l0 1048576 = some t1) ∧ (t1 < 0 ∨ (¬ t1 < 0 ∧ ∃ (t6 : List (S99)), (laws_toBlockS.f k l0 = some t6) ∧ ∃ (t16 : List Int), (laws_toIntS.f k l1 = some t16) ∧ ∃ (t26 : List (S99)) (t27 : Bool), (spec_LayFlow.f k t6 t16 = some (t26, t27)) ∧ ∃ (t37 : List (S99)), (laws_toBlockS.f k l0 = some t37) ∧ ∃ (t47 : List Int), (laws_toIntS.f k l1 = some t47) ∧ ∃ (t57 : List (S99)), (impl_LayFlow.f k t37 t47 = some (t57, t27)) ∧ (laws_eqBlockS.f k t57 t26 = some true) ∧ ∃ (t73 : List (S99)), (laws_toBlockS.f k l0 = some t73) ∧ (laws_eqBlockS.f k t37 t73 = some true) ∧ ∃ (t88 : List Int), (laws_toIntS.f k l1 = some t88) ∧ (laws_eqIntS.f k t47 t88 = some true) ∧ ((1 + (markBlockS_cnt t37 : Nat) : Int) < 2305843009213693952) ∧ ∃ (t109 : Int) (t110 : List Int), (laws_markIntS.f k t47 (1 + (markBlockS_cnt t37 : Nat) : Int) = some (t109, t110)) ∧ (0 ≤ t109) ∧ (laws_eqBlockS.f k t57 t26 = some true) ∧ ((1 + (markBlockS_cnt t57 : Nat) : Int) < 2305843009213693952) ∧ (laws_heldBlockS.f k (markBlockS_mk (1) t57) 1 = some (1 + (markBlockS_cnt t57 : Nat) : Int)) ∧ ∃ (t131 : List (S99)), (laws_toBlockS.f k l0 = some t131) ∧ ∃ (t141 : List Int), (laws_toIntS.f k l1 = some t141) ∧ ∃ (t151 : List (S99)), (impl_LayFlow.f k t131 t141 = some (t151, t27)) ∧ (laws_eqBlockS.f k t151 t26 = some true) ∧ (laws_heldBlockS.f k (markBlockS_mk (1) t57) 1 = some (1 + (markBlockS_cnt t57 : Nat) : Int)) ∧ True))))
open Classical in
/-- The law, told by that. -/
noncomputable def laws_FnExactLayFlow.f (k : Nat) (l0 : List (S95)) (l1 : List Int) : Option Bool := if laws_FnExactLayFlow.good k l0 l1 then some true else none
end Go.Proofs.Ytpnhlccdhflogaa.Q
