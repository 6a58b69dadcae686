/- The law FnExactNewMarker of this seat: the walk along its one way. Conditions: none. -/
import Derived.Test.YtmgnnegmohmbhaaQx0
import Derived.Test.YtmgnnegmohmbhaaQx1
import Derived.Test.YtmgnnegmohmbhaaQx2
import Derived.Test.YtmgnnegmohmbhaaQx3
namespace Go.Proofs.Ytmgnnegmohmbhaa.Q
open Go.RowKit Go.Proofs.YtmgnnegmohmbhaaW.PrintWords Go.Proofs.YtmgnnegmohmbhaaW.PrintLast Go.Proofs.YtmgnnegmohmbhaaW.PrintMore
set_option linter.unusedVariables false
/-- What the law's calls come to. -/
def laws_FnExactNewMarker.good (k : Nat) (a0 : Int) : Prop := ∃ (t1 : List (S44)) (t2 : List Int) (t3 : Bool) (t4 : Bool), (spec_NewMarker.f k a0 = some (t1, t2, t3, t4)) ∧ ∃ (t26 : List (S44)) (t27 : List Int) (t28 : Bool), (impl_NewMarker.f k a0 = some (t26, t27, t28, t4)) ∧ (laws_eqMarker.f k t26 t27 t28 t1 t2 t3 = some true) ∧ ((1 + (markCellS_cnt t26 : Nat) + (t27.length : Nat) : Int) < 2305843009213693952) ∧ (laws_heldMarker.f k (markCellS_mk (1) t26) (Kit.from_ (1 + (markCellS_cnt t26 : Nat)) t27.length) t28 1 = some (1 + (markCellS_cnt t26 : Nat) + (t27.length : Nat) : Int)) ∧ ∃ (t65 : List (S44)) (t66 : List Int) (t67 : Bool), (impl_NewMarker.f k a0 = some (t65, t66, t67, t4)) ∧ (laws_eqMarker.f k t65 t66 t67 t1 t2 t3 = some true) ∧ (laws_heldMarker.f k (markCellS_mk (1) t26) (Kit.from_ (1 + (markCellS_cnt t26 : Nat)) t27.length) t28 1 = some (1 + (markCellS_cnt t26 : Nat) + (t27.length : Nat) : Int)) ∧ True
open Classical in
/-- The law, told by that. -/
noncomputable def laws_FnExactNewMarker.f (k : Nat) (a0 : Int) : Option Bool := if laws_FnExactNewMarker.good k a0 then some true else none
end Go.Proofs.Ytmgnnegmohmbhaa.Q
