/-
  No cell of these rows narrows 'for every input' (looked for: loops, veiled, ifaces, maps, wideKeys, modest, calm, conditions, laid).
  DERIVED. THE GIVEN ROWS OF THIS SEAT. 4 by the template 'for every input the law returns true; each argument reads behind the call as it read before'; 0 by the template 'total and deterministic' (their statements: YtmgnnegmohmbhaaTotals.lean).
  GIVEN WITH THE SEED: the statements are not yours to turn. If you find one false, say at which input.
  Laid BY PROGRAM, IN A SANDBOX (cutbox-rows.mjs): the forced cells as the released guide's own fill.sh prints them over the translation 5bd3cc156be17c95… (all of the seat's roots in one cut). By AI agents, Wed Nov 11 2026. No macro, syntax, notation, axiom, sorry.
-/
import Derived.Test.YtmgnnegmohmbhaaChecked
import GoSem.Claim
import GoSem.ClaimJoined
import GoSem.ClaimMapViews
import Derived.JoinedTies
import Derived.KernelRfl
namespace Go.Proofs.Ytmgnnegmohmbhaa
/- THE CELL 'sum', in the pinned program and in every row, IS THE sha256 OF THE DUMP (.gsa) THAT YtmgnnegmohmbhaaProg.lean LOADS. Nothing in Lean hashes anything: it is a label: what it is worth is what the hold of that sum in a sandbox is worth. -/
noncomputable def Try.pinned : Pinned := { name := "ytmgnnegmohmbhaa", sum := "5bd3cc156be17c9515d8e8b9e91d31975dc663094dd87611a694cd70394d6b49", checked := Try.checked }
namespace Rows
def none {H : Type} : Left H := { results := [], args := [] }

/-- 'laws.FnExactNewMarker': WHATEVER THE INPUT: true; the input reads as it did. -/
def fnExactNewMarkerSpec : ChangeSpec := { name := "fnExactNewMarker", fn := fun _ => fun
  | [d] => { results := [.lit (.bool true)], args := [d] }
  | _ => none }
def fnExactNewMarkerRow : OpenClaim := { program := "ytmgnnegmohmbhaa", sum := "5bd3cc156be17c9515d8e8b9e91d31975dc663094dd87611a694cd70394d6b49", func := "loop.example/g00350/laws.FnExactNewMarker", spec := "fnExactNewMarker", apart := false }
def FnExactNewMarkerSaid : Prop := fnExactNewMarkerRow.holds Try.pinned (OpenSpec.ofChange fnExactNewMarkerSpec)

/-- ITS FALSE NEIGHBOUR: 'it returns false'. Refute it at one input. -/
def fnExactNewMarkerWrong : ChangeSpec := { name := "fnExactNewMarker", fn := fun _ => fun
  | [d] => { results := [.lit (.bool false)], args := [d] }
  | _ => none }
def FnExactNewMarkerWrongFalsely : Prop := fnExactNewMarkerRow.holds Try.pinned (OpenSpec.ofChange fnExactNewMarkerWrong)

/-- 'laws.FnExactGoodMarker': WHATEVER THE INPUT: true; the input reads as it did. -/
def fnExactGoodMarkerSpec : ChangeSpec := { name := "fnExactGoodMarker", fn := fun _ => fun
  | [d] => { results := [.lit (.bool true)], args := [d] }
  | _ => none }
def fnExactGoodMarkerRow : OpenClaim := { program := "ytmgnnegmohmbhaa", sum := "5bd3cc156be17c9515d8e8b9e91d31975dc663094dd87611a694cd70394d6b49", func := "loop.example/g00350/laws.FnExactGoodMarker", spec := "fnExactGoodMarker", unfollowed := true, recurses := true, apart := false }
def FnExactGoodMarkerSaid : Prop := fnExactGoodMarkerRow.holds Try.pinned (OpenSpec.ofChange fnExactGoodMarkerSpec)

/-- ITS FALSE NEIGHBOUR: 'it returns false'. Refute it at one input. -/
def fnExactGoodMarkerWrong : ChangeSpec := { name := "fnExactGoodMarker", fn := fun _ => fun
  | [d] => { results := [.lit (.bool false)], args := [d] }
  | _ => none }
def FnExactGoodMarkerWrongFalsely : Prop := fnExactGoodMarkerRow.holds Try.pinned (OpenSpec.ofChange fnExactGoodMarkerWrong)

/-- 'laws.FnExactGreyIn': WHATEVER THE INPUT: true; the input reads as it did. -/
def fnExactGreyInSpec : ChangeSpec := { name := "fnExactGreyIn", fn := fun _ => fun
  | [d] => { results := [.lit (.bool true)], args := [d] }
  | _ => none }
def fnExactGreyInRow : OpenClaim := { program := "ytmgnnegmohmbhaa", sum := "5bd3cc156be17c9515d8e8b9e91d31975dc663094dd87611a694cd70394d6b49", func := "loop.example/g00350/laws.FnExactGreyIn", spec := "fnExactGreyIn", unfollowed := true, recurses := true, apart := false }
def FnExactGreyInSaid : Prop := fnExactGreyInRow.holds Try.pinned (OpenSpec.ofChange fnExactGreyInSpec)

/-- ITS FALSE NEIGHBOUR: 'it returns false'. Refute it at one input. -/
def fnExactGreyInWrong : ChangeSpec := { name := "fnExactGreyIn", fn := fun _ => fun
  | [d] => { results := [.lit (.bool false)], args := [d] }
  | _ => none }
def FnExactGreyInWrongFalsely : Prop := fnExactGreyInRow.holds Try.pinned (OpenSpec.ofChange fnExactGreyInWrong)

/-- 'laws.FnExactLiveIn': WHATEVER THE INPUT: true; the input reads as it did. -/
def fnExactLiveInSpec : ChangeSpec := { name := "fnExactLiveIn", fn := fun _ => fun
  | [d] => { results := [.lit (.bool true)], args := [d] }
  | _ => none }
def fnExactLiveInRow : OpenClaim := { program := "ytmgnnegmohmbhaa", sum := "5bd3cc156be17c9515d8e8b9e91d31975dc663094dd87611a694cd70394d6b49", func := "loop.example/g00350/laws.FnExactLiveIn", spec := "fnExactLiveIn", unfollowed := true, recurses := true, apart := false }
def FnExactLiveInSaid : Prop := fnExactLiveInRow.holds Try.pinned (OpenSpec.ofChange fnExactLiveInSpec)

/-- ITS FALSE NEIGHBOUR: 'it returns false'. Refute it at one input. -/
def fnExactLiveInWrong : ChangeSpec := { name := "fnExactLiveIn", fn := fun _ => fun
  | [d] => { results := [.lit (.bool false)], args := [d] }
  | _ => none }
def FnExactLiveInWrongFalsely : Prop := fnExactLiveInRow.holds Try.pinned (OpenSpec.ofChange fnExactLiveInWrong)

/- THE SECOND FORM. 'bulk': how many values and letters a reading holds, each counted each time it is reached (what is shared counts as often as it is met; a slice's spare places count too). A statement '..UptoSaid' is the law's where the arguments, and the package variables that the reading takes, are together of bulk at most 1048576: NARROWER than '..Said'. Prove '..Said' where nothing that the law and all that it calls make is longer than what came in: it says more and counts as full. Else prove '..UptoSaid'. A law counts once. -/
mutual
def uptoBulk {H : Type} : DataW H → Nat
  | .lit (.string bytes) => bytes.length + 1
  | .lit _ => 1
  | .nil => 1
  | .ptr d => uptoBulk d + 1
  | .slice elems spare => uptoBulkAll elems + uptoBulkAll spare + 1
  | .agg parts => uptoBulkAll parts + 1
  | .iface _ d => uptoBulk d + 1
  | .map entries => uptoBulkEntries entries + 1
  | .held _ => 1
def uptoBulkAll {H : Type} : List (DataW H) → Nat
  | [] => 0
  | d :: r => uptoBulk d + uptoBulkAll r
def uptoBulkEntries {H : Type} : List (Lit × DataW H) → Nat
  | [] => 0
  | x :: r => uptoBulkEntry x + uptoBulkEntries r
def uptoBulkEntry {H : Type} : Lit × DataW H → Nat
  | (.string bytes, d) => bytes.length + uptoBulk d + 1
  | (_, d) => uptoBulk d + 1
 end
def uptoSmall : (H : Type) → List (DataW H) → Bool := fun _ ds => decide (uptoBulkAll ds ≤ 1048576)
def OpenSpec.upto (s : _root_.Go.ChangeSpec) : _root_.Go.OpenSpec := { _root_.Go.OpenSpec.ofChange s with cond := some uptoSmall }

/-- 'laws.FnExactNewMarker', WHERE WHAT IT READS IS OF BULK AT MOST 1048576: true; the input reads as it did. -/
def fnExactNewMarkerUptoRow : OpenClaim := { program := "ytmgnnegmohmbhaa", sum := "5bd3cc156be17c9515d8e8b9e91d31975dc663094dd87611a694cd70394d6b49", func := "loop.example/g00350/laws.FnExactNewMarker", spec := "fnExactNewMarker", apart := false, narrowed := true }
def FnExactNewMarkerUptoSaid : Prop := fnExactNewMarkerUptoRow.holds Try.pinned (OpenSpec.upto fnExactNewMarkerSpec)

/-- 'laws.FnExactGoodMarker', WHERE WHAT IT READS IS OF BULK AT MOST 1048576: true; the input reads as it did. -/
def fnExactGoodMarkerUptoRow : OpenClaim := { program := "ytmgnnegmohmbhaa", sum := "5bd3cc156be17c9515d8e8b9e91d31975dc663094dd87611a694cd70394d6b49", func := "loop.example/g00350/laws.FnExactGoodMarker", spec := "fnExactGoodMarker", unfollowed := true, recurses := true, apart := false, narrowed := true }
def FnExactGoodMarkerUptoSaid : Prop := fnExactGoodMarkerUptoRow.holds Try.pinned (OpenSpec.upto fnExactGoodMarkerSpec)

/-- 'laws.FnExactGreyIn', WHERE WHAT IT READS IS OF BULK AT MOST 1048576: true; the input reads as it did. -/
def fnExactGreyInUptoRow : OpenClaim := { program := "ytmgnnegmohmbhaa", sum := "5bd3cc156be17c9515d8e8b9e91d31975dc663094dd87611a694cd70394d6b49", func := "loop.example/g00350/laws.FnExactGreyIn", spec := "fnExactGreyIn", unfollowed := true, recurses := true, apart := false, narrowed := true }
def FnExactGreyInUptoSaid : Prop := fnExactGreyInUptoRow.holds Try.pinned (OpenSpec.upto fnExactGreyInSpec)

/-- 'laws.FnExactLiveIn', WHERE WHAT IT READS IS OF BULK AT MOST 1048576: true; the input reads as it did. -/
def fnExactLiveInUptoRow : OpenClaim := { program := "ytmgnnegmohmbhaa", sum := "5bd3cc156be17c9515d8e8b9e91d31975dc663094dd87611a694cd70394d6b49", func := "loop.example/g00350/laws.FnExactLiveIn", spec := "fnExactLiveIn", unfollowed := true, recurses := true, apart := false, narrowed := true }
def FnExactLiveInUptoSaid : Prop := fnExactLiveInUptoRow.holds Try.pinned (OpenSpec.upto fnExactLiveInSpec)

end Rows
end Go.Proofs.Ytmgnnegmohmbhaa
