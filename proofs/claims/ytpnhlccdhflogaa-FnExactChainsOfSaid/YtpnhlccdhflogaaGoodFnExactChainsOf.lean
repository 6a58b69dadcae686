/- The law FnExactChainsOf of this seat: the walk along its one way. Conditions: none. -/
import Derived.Test.YtpnhlccdhflogaaQx0
import Derived.Test.YtpnhlccdhflogaaQx1
import Derived.Test.YtpnhlccdhflogaaQx3
import Derived.Test.YtpnhlccdhflogaaQx6
import Derived.Test.YtpnhlccdhflogaaQx7
namespace Go.Proofs.Ytpnhlccdhflogaa.Q
open Go.RowKit Go.Proofs.YtpnhlccdhflogaaW.PrintWords Go.Proofs.YtpnhlccdhflogaaW.PrintLast Go.Proofs.YtpnhlccdhflogaaW.PrintMore
set_option linter.unusedVariables false
set_option linter.unusedSimpArgs false
/-- What the law's calls come to. -/
def laws_FnExactChainsOf.good (k : Nat) (a0 : Int) (l1 : List (S77)) : Prop := ∃ (t1 : Int), (laws_szEdgeS.f l1 1048576 = some t1) ∧ (t1 < 0 ∨ (¬ t1 < 0 ∧ ∃ (t6 : List (S48)), (laws_toEdgeS.f k l1 = some t6) ∧ ∃ (t16 : List (List Int)) (t17 : Bool), (spec_ChainsOf.f k a0 t6 = some (t16, t17)) ∧ ∃ (t27 : List (S48)), (laws_toEdgeS.f k l1 = some t27) ∧ ∃ (t37 : List (List Int)), (impl_ChainsOf.f a0 t27 = some (t37, t17)) ∧ (laws_eqIntSS.f k t37 t16 = some true) ∧ ∃ (t53 : List (S48)), (laws_toEdgeS.f k l1 = some t53) ∧ (laws_eqEdgeS.f k t27 t53 = some true) ∧ ∃ (t69 : Int) (t70 : List (S48)), (laws_markEdgeS.f k t27 1 = some (t69, t70)) ∧ (0 ≤ t69) ∧ (laws_eqIntSS.f k t37 t16 = some true) ∧ ((1 + (markIntSS_cnt t37 : Nat) : Int) < 2305843009213693952) ∧ (laws_heldIntSS.f k (markIntSS_mk (1) t37) 1 = some (1 + (markIntSS_cnt t37 : Nat) : Int)) ∧ ∃ (t91 : List (S48)), (laws_toEdgeS.f k l1 = some t91) ∧ ∃ (t101 : List (List Int)), (impl_ChainsOf.f a0 t91 = some (t101, t17)) ∧ (laws_eqIntSS.f k t101 t16 = some true) ∧ (laws_heldIntSS.f k (markIntSS_mk (1) t37) 1 = some (1 + (markIntSS_cnt t37 : Nat) : Int)) ∧ True))
open Classical in
/-- The law, told by that. -/
noncomputable def laws_FnExactChainsOf.f (k : Nat) (a0 : Int) (l1 : List (S77)) : Option Bool := if laws_FnExactChainsOf.good k a0 l1 then some true else none
end Go.Proofs.Ytpnhlccdhflogaa.Q
