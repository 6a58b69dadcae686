/-
  No cell of these rows narrows 'for every input' (looked for: loops, veiled, ifaces, maps, wideKeys, modest, calm, conditions, laid).
  DERIVED. THE GIVEN ROWS OF THIS SEAT. 5 by the template 'for every input the law returns true; each argument reads behind the call as it read before'; 0 by the template 'total and deterministic' (their statements: YtpoddnhfnphdcaaTotals.lean).
  GIVEN WITH THE SEED: the statements are not yours to turn. If you find one false, say at which input.
  Laid BY PROGRAM, IN A SANDBOX (cutbox-rows.mjs): the forced cells as the released guide's own fill.sh prints them over the translation 6f4a25e7d7604fae… (all of the seat's roots in one cut). By AI agents, Wed Nov 11 2026. No macro, syntax, notation, axiom, sorry.
-/
import Derived.Test.YtpoddnhfnphdcaaChecked
import GoSem.Claim
import GoSem.ClaimJoined
import GoSem.ClaimMapViews
import Derived.JoinedTies
import Derived.KernelRfl
namespace Go.Proofs.Ytpoddnhfnphdcaa
/- THE CELL 'sum', in the pinned program and in every row, IS THE sha256 OF THE DUMP (.gsa) THAT YtpoddnhfnphdcaaProg.lean LOADS. Nothing in Lean hashes anything: it is a label: what it is worth is what the hold of that sum in a sandbox is worth. -/
noncomputable def Try.pinned : Pinned := { name := "ytpoddnhfnphdcaa", sum := "6f4a25e7d7604fae751fe6f9fe4985c1fb1aa4c50d5975528774c27b512b61ac", checked := Try.checked }
namespace Rows
def none {H : Type} : Left H := { results := [], args := [] }

/-- 'laws.FnExactGoodFrame': WHATEVER THE INPUT: true; the input reads as it did. -/
def fnExactGoodFrameSpec : ChangeSpec := { name := "fnExactGoodFrame", fn := fun _ => fun
  | [d] => { results := [.lit (.bool true)], args := [d] }
  | _ => none }
def fnExactGoodFrameRow : OpenClaim := { program := "ytpoddnhfnphdcaa", sum := "6f4a25e7d7604fae751fe6f9fe4985c1fb1aa4c50d5975528774c27b512b61ac", func := "loop.example/g00350/laws.FnExactGoodFrame", spec := "fnExactGoodFrame", unfollowed := true, recurses := true, apart := false }
def FnExactGoodFrameSaid : Prop := fnExactGoodFrameRow.holds Try.pinned (OpenSpec.ofChange fnExactGoodFrameSpec)

/-- ITS FALSE NEIGHBOUR: 'it returns false'. Refute it at one input. -/
def fnExactGoodFrameWrong : ChangeSpec := { name := "fnExactGoodFrame", fn := fun _ => fun
  | [d] => { results := [.lit (.bool false)], args := [d] }
  | _ => none }
def FnExactGoodFrameWrongFalsely : Prop := fnExactGoodFrameRow.holds Try.pinned (OpenSpec.ofChange fnExactGoodFrameWrong)

/-- 'laws.FnExactGoodSteps': WHATEVER THE INPUT: true; the input reads as it did. -/
def fnExactGoodStepsSpec : ChangeSpec := { name := "fnExactGoodSteps", fn := fun _ => fun
  | [d] => { results := [.lit (.bool true)], args := [d] }
  | _ => none }
def fnExactGoodStepsRow : OpenClaim := { program := "ytpoddnhfnphdcaa", sum := "6f4a25e7d7604fae751fe6f9fe4985c1fb1aa4c50d5975528774c27b512b61ac", func := "loop.example/g00350/laws.FnExactGoodSteps", spec := "fnExactGoodSteps", apart := false }
def FnExactGoodStepsSaid : Prop := fnExactGoodStepsRow.holds Try.pinned (OpenSpec.ofChange fnExactGoodStepsSpec)

/-- ITS FALSE NEIGHBOUR: 'it returns false'. Refute it at one input. -/
def fnExactGoodStepsWrong : ChangeSpec := { name := "fnExactGoodSteps", fn := fun _ => fun
  | [d] => { results := [.lit (.bool false)], args := [d] }
  | _ => none }
def FnExactGoodStepsWrongFalsely : Prop := fnExactGoodStepsRow.holds Try.pinned (OpenSpec.ofChange fnExactGoodStepsWrong)

/-- 'laws.FnExactEnterAt': WHATEVER THE INPUT: true; the input reads as it did. -/
def fnExactEnterAtSpec : ChangeSpec := { name := "fnExactEnterAt", fn := fun _ => fun
  | [d] => { results := [.lit (.bool true)], args := [d] }
  | _ => none }
def fnExactEnterAtRow : OpenClaim := { program := "ytpoddnhfnphdcaa", sum := "6f4a25e7d7604fae751fe6f9fe4985c1fb1aa4c50d5975528774c27b512b61ac", func := "loop.example/g00350/laws.FnExactEnterAt", spec := "fnExactEnterAt", unfollowed := true, recurses := true, apart := false }
def FnExactEnterAtSaid : Prop := fnExactEnterAtRow.holds Try.pinned (OpenSpec.ofChange fnExactEnterAtSpec)

/-- ITS FALSE NEIGHBOUR: 'it returns false'. Refute it at one input. -/
def fnExactEnterAtWrong : ChangeSpec := { name := "fnExactEnterAt", fn := fun _ => fun
  | [d] => { results := [.lit (.bool false)], args := [d] }
  | _ => none }
def FnExactEnterAtWrongFalsely : Prop := fnExactEnterAtRow.holds Try.pinned (OpenSpec.ofChange fnExactEnterAtWrong)

/-- 'laws.FnExactDepthsOf': WHATEVER THE INPUT: true; the input reads as it did. -/
def fnExactDepthsOfSpec : ChangeSpec := { name := "fnExactDepthsOf", fn := fun _ => fun
  | [d] => { results := [.lit (.bool true)], args := [d] }
  | _ => none }
def fnExactDepthsOfRow : OpenClaim := { program := "ytpoddnhfnphdcaa", sum := "6f4a25e7d7604fae751fe6f9fe4985c1fb1aa4c50d5975528774c27b512b61ac", func := "loop.example/g00350/laws.FnExactDepthsOf", spec := "fnExactDepthsOf", apart := false }
def FnExactDepthsOfSaid : Prop := fnExactDepthsOfRow.holds Try.pinned (OpenSpec.ofChange fnExactDepthsOfSpec)

/-- ITS FALSE NEIGHBOUR: 'it returns false'. Refute it at one input. -/
def fnExactDepthsOfWrong : ChangeSpec := { name := "fnExactDepthsOf", fn := fun _ => fun
  | [d] => { results := [.lit (.bool false)], args := [d] }
  | _ => none }
def FnExactDepthsOfWrongFalsely : Prop := fnExactDepthsOfRow.holds Try.pinned (OpenSpec.ofChange fnExactDepthsOfWrong)

/-- 'laws.FnExactLeaveAt': WHATEVER THE INPUT: true; the input reads as it did. -/
def fnExactLeaveAtSpec : ChangeSpec := { name := "fnExactLeaveAt", fn := fun _ => fun
  | [d1, d2, d3, d4] => { results := [.lit (.bool true)], args := [d1, d2, d3, d4] }
  | _ => none }
def fnExactLeaveAtRow : OpenClaim := { program := "ytpoddnhfnphdcaa", sum := "6f4a25e7d7604fae751fe6f9fe4985c1fb1aa4c50d5975528774c27b512b61ac", func := "loop.example/g00350/laws.FnExactLeaveAt", spec := "fnExactLeaveAt", unfollowed := true, recurses := true, apart := false }
def FnExactLeaveAtSaid : Prop := fnExactLeaveAtRow.holds Try.pinned (OpenSpec.ofChange fnExactLeaveAtSpec)

/-- ITS FALSE NEIGHBOUR: 'it returns false'. Refute it at one input. -/
def fnExactLeaveAtWrong : ChangeSpec := { name := "fnExactLeaveAt", fn := fun _ => fun
  | [d1, d2, d3, d4] => { results := [.lit (.bool false)], args := [d1, d2, d3, d4] }
  | _ => none }
def FnExactLeaveAtWrongFalsely : Prop := fnExactLeaveAtRow.holds Try.pinned (OpenSpec.ofChange fnExactLeaveAtWrong)

/- THE SECOND FORM. 'bulk': how many values and letters a reading holds, each counted each time it is reached (what is shared counts as often as it is met; a slice's spare places count too). A statement '..UptoSaid' is the law's where the arguments, and the package variables that the reading takes, are together of bulk at most 1048576: NARROWER than '..Said'. Prove '..Said' where nothing that the law and all that it calls make is longer than what came in: it says more and counts as full. Else prove '..UptoSaid'. A law counts once. -/
mutual
def uptoBulk {H : Type} : DataW H → Nat
  | .lit (.string bytes) => bytes.length + 1
  | .lit _ => 1
  | .nil => 1
  | .ptr d => uptoBulk d + 1
  | .slice elems spare => uptoBulkAll elems + uptoBulkAll spare + 1
  | .agg parts => uptoBulkAll parts + 1
  | .iface _ d => uptoBulk d + 1
  | .map entries => uptoBulkEntries entries + 1
  | .held _ => 1
def uptoBulkAll {H : Type} : List (DataW H) → Nat
  | [] => 0
  | d :: r => uptoBulk d + uptoBulkAll r
def uptoBulkEntries {H : Type} : List (Lit × DataW H) → Nat
  | [] => 0
  | x :: r => uptoBulkEntry x + uptoBulkEntries r
def uptoBulkEntry {H : Type} : Lit × DataW H → Nat
  | (.string bytes, d) => bytes.length + uptoBulk d + 1
  | (_, d) => uptoBulk d + 1
 end
def uptoSmall : (H : Type) → List (DataW H) → Bool := fun _ ds => decide (uptoBulkAll ds ≤ 1048576)
def OpenSpec.upto (s : _root_.Go.ChangeSpec) : _root_.Go.OpenSpec := { _root_.Go.OpenSpec.ofChange s with cond := some uptoSmall }

/-- 'laws.FnExactGoodFrame', WHERE WHAT IT READS IS OF BULK AT MOST 1048576: true; the input reads as it did. -/
def fnExactGoodFrameUptoRow : OpenClaim := { program := "ytpoddnhfnphdcaa", sum := "6f4a25e7d7604fae751fe6f9fe4985c1fb1aa4c50d5975528774c27b512b61ac", func := "loop.example/g00350/laws.FnExactGoodFrame", spec := "fnExactGoodFrame", unfollowed := true, recurses := true, apart := false, narrowed := true }
def FnExactGoodFrameUptoSaid : Prop := fnExactGoodFrameUptoRow.holds Try.pinned (OpenSpec.upto fnExactGoodFrameSpec)

/-- 'laws.FnExactGoodSteps', WHERE WHAT IT READS IS OF BULK AT MOST 1048576: true; the input reads as it did. -/
def fnExactGoodStepsUptoRow : OpenClaim := { program := "ytpoddnhfnphdcaa", sum := "6f4a25e7d7604fae751fe6f9fe4985c1fb1aa4c50d5975528774c27b512b61ac", func := "loop.example/g00350/laws.FnExactGoodSteps", spec := "fnExactGoodSteps", apart := false, narrowed := true }
def FnExactGoodStepsUptoSaid : Prop := fnExactGoodStepsUptoRow.holds Try.pinned (OpenSpec.upto fnExactGoodStepsSpec)

/-- 'laws.FnExactEnterAt', WHERE WHAT IT READS IS OF BULK AT MOST 1048576: true; the input reads as it did. -/
def fnExactEnterAtUptoRow : OpenClaim := { program := "ytpoddnhfnphdcaa", sum := "6f4a25e7d7604fae751fe6f9fe4985c1fb1aa4c50d5975528774c27b512b61ac", func := "loop.example/g00350/laws.FnExactEnterAt", spec := "fnExactEnterAt", unfollowed := true, recurses := true, apart := false, narrowed := true }
def FnExactEnterAtUptoSaid : Prop := fnExactEnterAtUptoRow.holds Try.pinned (OpenSpec.upto fnExactEnterAtSpec)

/-- 'laws.FnExactDepthsOf', WHERE WHAT IT READS IS OF BULK AT MOST 1048576: true; the input reads as it did. -/
def fnExactDepthsOfUptoRow : OpenClaim := { program := "ytpoddnhfnphdcaa", sum := "6f4a25e7d7604fae751fe6f9fe4985c1fb1aa4c50d5975528774c27b512b61ac", func := "loop.example/g00350/laws.FnExactDepthsOf", spec := "fnExactDepthsOf", apart := false, narrowed := true }
def FnExactDepthsOfUptoSaid : Prop := fnExactDepthsOfUptoRow.holds Try.pinned (OpenSpec.upto fnExactDepthsOfSpec)

/-- 'laws.FnExactLeaveAt', WHERE WHAT IT READS IS OF BULK AT MOST 1048576: true; the input reads as it did. -/
def fnExactLeaveAtUptoRow : OpenClaim := { program := "ytpoddnhfnphdcaa", sum := "6f4a25e7d7604fae751fe6f9fe4985c1fb1aa4c50d5975528774c27b512b61ac", func := "loop.example/g00350/laws.FnExactLeaveAt", spec := "fnExactLeaveAt", unfollowed := true, recurses := true, apart := false, narrowed := true }
def FnExactLeaveAtUptoSaid : Prop := fnExactLeaveAtUptoRow.holds Try.pinned (OpenSpec.upto fnExactLeaveAtSpec)

end Rows
end Go.Proofs.Ytpoddnhfnphdcaa
