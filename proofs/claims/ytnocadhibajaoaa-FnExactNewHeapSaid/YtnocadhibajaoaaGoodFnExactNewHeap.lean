/- The law FnExactNewHeap of this seat: the walk along its one way. Conditions: none. -/
import Derived.Test.YtnocadhibajaoaaQx0
import Derived.Test.YtnocadhibajaoaaQx1
import Derived.Test.YtnocadhibajaoaaQx2
import Derived.Test.YtnocadhibajaoaaQx3
namespace Go.Proofs.Ytnocadhibajaoaa.Q
open Go.RowKit Go.Proofs.YtnocadhibajaoaaW.PrintWords Go.Proofs.YtnocadhibajaoaaW.PrintLast Go.Proofs.YtnocadhibajaoaaW.PrintMore
set_option linter.unusedVariables false
set_option linter.unusedSimpArgs false
/-- What the law's calls come to. -/
def laws_FnExactNewHeap.good (k : Nat)  : Prop := ∃ (t1 : List (S45)) (t2 : List Int) (t3 : List Int) (t4 : Int), (spec_NewHeap.f k  = some (t1, t2, t3, t4)) ∧ ∃ (t31 : List (S45)) (t32 : List Int) (t33 : List Int) (t34 : Int), (impl_NewHeap.f = some (t31, t32, t33, t34)) ∧ (laws_eqHeap.f k t31 t32 t33 t34 t1 t2 t3 t4 = some true) ∧ ((1 + (markObjectS_cnt t31 : Nat) + (t32.length : Nat) + (t33.length : Nat) : Int) < 2305843009213693952) ∧ (laws_heldHeap.f k (markObjectS_mk (1) t31) (Kit.from_ (1 + (markObjectS_cnt t31 : Nat)) t32.length) (Kit.from_ (1 + (markObjectS_cnt t31 : Nat) + (t32.length : Nat)) t33.length) t34 1 = some (1 + (markObjectS_cnt t31 : Nat) + (t32.length : Nat) + (t33.length : Nat) : Int)) ∧ ∃ (t76 : List (S45)) (t77 : List Int) (t78 : List Int) (t79 : Int), (impl_NewHeap.f = some (t76, t77, t78, t79)) ∧ (laws_eqHeap.f k t76 t77 t78 t79 t1 t2 t3 t4 = some true) ∧ (laws_heldHeap.f k (markObjectS_mk (1) t31) (Kit.from_ (1 + (markObjectS_cnt t31 : Nat)) t32.length) (Kit.from_ (1 + (markObjectS_cnt t31 : Nat) + (t32.length : Nat)) t33.length) t34 1 = some (1 + (markObjectS_cnt t31 : Nat) + (t32.length : Nat) + (t33.length : Nat) : Int)) ∧ True
open Classical in
/-- The law, told by that. -/
noncomputable def laws_FnExactNewHeap.f (k : Nat)  : Option Bool := if laws_FnExactNewHeap.good k  then some true else none
end Go.Proofs.Ytnocadhibajaoaa.Q
