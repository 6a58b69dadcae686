/-
  No cell of these rows narrows 'for every input' (looked for: loops, veiled, ifaces, maps, wideKeys, modest, calm, conditions, laid).
  DERIVED. THE GIVEN ROWS OF THIS SEAT. 6 by the template 'for every input the law returns true; each argument reads behind the call as it read before'; 0 by the template 'total and deterministic' (their statements: YtnocadhibajaoaaTotals.lean).
  GIVEN WITH THE SEED: the statements are not yours to turn. If you find one false, say at which input.
  Laid BY PROGRAM, IN A SANDBOX (cutbox-rows.mjs): the forced cells as the released guide's own fill.sh prints them over the translation 1a44ea99a0176488… (all of the seat's roots in one cut). By AI agents, Wed Nov 11 2026. No macro, syntax, notation, axiom, sorry.
-/
import Derived.Test.YtnocadhibajaoaaChecked
import GoSem.Claim
import GoSem.ClaimJoined
import GoSem.ClaimMapViews
import Derived.JoinedTies
import Derived.KernelRfl
namespace Go.Proofs.Ytnocadhibajaoaa
/- THE CELL 'sum', in the pinned program and in every row, IS THE sha256 OF THE DUMP (.gsa) THAT YtnocadhibajaoaaProg.lean LOADS. Nothing in Lean hashes anything: it is a label: what it is worth is what the hold of that sum in a sandbox is worth. -/
noncomputable def Try.pinned : Pinned := { name := "ytnocadhibajaoaa", sum := "1a44ea99a0176488ab91a20b5e5e89086b645f4db822d36cb10c579f8c0e7dc2", checked := Try.checked }
namespace Rows
def none {H : Type} : Left H := { results := [], args := [] }

/-- 'laws.FnExactNewHeap': WHATEVER THE INPUT: true; the input reads as it did. -/
def fnExactNewHeapSpec : ChangeSpec := { name := "fnExactNewHeap", fn := fun _ => fun
  | [] => { results := [.lit (.bool true)], args := [] }
  | _ => none }
def fnExactNewHeapRow : OpenClaim := { program := "ytnocadhibajaoaa", sum := "1a44ea99a0176488ab91a20b5e5e89086b645f4db822d36cb10c579f8c0e7dc2", func := "loop.example/g00350/laws.FnExactNewHeap", spec := "fnExactNewHeap", apart := false }
def FnExactNewHeapSaid : Prop := fnExactNewHeapRow.holds Try.pinned (OpenSpec.ofChange fnExactNewHeapSpec)

/-- ITS FALSE NEIGHBOUR: 'it returns false'. Refute it at one input. -/
def fnExactNewHeapWrong : ChangeSpec := { name := "fnExactNewHeap", fn := fun _ => fun
  | [] => { results := [.lit (.bool false)], args := [] }
  | _ => none }
def FnExactNewHeapWrongFalsely : Prop := fnExactNewHeapRow.holds Try.pinned (OpenSpec.ofChange fnExactNewHeapWrong)

/-- 'laws.FnExactGoodHeap': WHATEVER THE INPUT: true; the input reads as it did. -/
def fnExactGoodHeapSpec : ChangeSpec := { name := "fnExactGoodHeap", fn := fun _ => fun
  | [d] => { results := [.lit (.bool true)], args := [d] }
  | _ => none }
def fnExactGoodHeapRow : OpenClaim := { program := "ytnocadhibajaoaa", sum := "1a44ea99a0176488ab91a20b5e5e89086b645f4db822d36cb10c579f8c0e7dc2", func := "loop.example/g00350/laws.FnExactGoodHeap", spec := "fnExactGoodHeap", unfollowed := true, recurses := true, apart := false }
def FnExactGoodHeapSaid : Prop := fnExactGoodHeapRow.holds Try.pinned (OpenSpec.ofChange fnExactGoodHeapSpec)

/-- ITS FALSE NEIGHBOUR: 'it returns false'. Refute it at one input. -/
def fnExactGoodHeapWrong : ChangeSpec := { name := "fnExactGoodHeap", fn := fun _ => fun
  | [d] => { results := [.lit (.bool false)], args := [d] }
  | _ => none }
def FnExactGoodHeapWrongFalsely : Prop := fnExactGoodHeapRow.holds Try.pinned (OpenSpec.ofChange fnExactGoodHeapWrong)

/-- 'laws.FnExactNamesOf': WHATEVER THE INPUT: true; the input reads as it did. -/
def fnExactNamesOfSpec : ChangeSpec := { name := "fnExactNamesOf", fn := fun _ => fun
  | [d] => { results := [.lit (.bool true)], args := [d] }
  | _ => none }
def fnExactNamesOfRow : OpenClaim := { program := "ytnocadhibajaoaa", sum := "1a44ea99a0176488ab91a20b5e5e89086b645f4db822d36cb10c579f8c0e7dc2", func := "loop.example/g00350/laws.FnExactNamesOf", spec := "fnExactNamesOf", unfollowed := true, recurses := true, apart := false }
def FnExactNamesOfSaid : Prop := fnExactNamesOfRow.holds Try.pinned (OpenSpec.ofChange fnExactNamesOfSpec)

/-- ITS FALSE NEIGHBOUR: 'it returns false'. Refute it at one input. -/
def fnExactNamesOfWrong : ChangeSpec := { name := "fnExactNamesOf", fn := fun _ => fun
  | [d] => { results := [.lit (.bool false)], args := [d] }
  | _ => none }
def FnExactNamesOfWrongFalsely : Prop := fnExactNamesOfRow.holds Try.pinned (OpenSpec.ofChange fnExactNamesOfWrong)

/-- 'laws.FnExactSameShape': WHATEVER THE INPUT: true; the input reads as it did. -/
def fnExactSameShapeSpec : ChangeSpec := { name := "fnExactSameShape", fn := fun _ => fun
  | [d1, d2] => { results := [.lit (.bool true)], args := [d1, d2] }
  | _ => none }
def fnExactSameShapeRow : OpenClaim := { program := "ytnocadhibajaoaa", sum := "1a44ea99a0176488ab91a20b5e5e89086b645f4db822d36cb10c579f8c0e7dc2", func := "loop.example/g00350/laws.FnExactSameShape", spec := "fnExactSameShape", unfollowed := true, recurses := true, apart := false }
def FnExactSameShapeSaid : Prop := fnExactSameShapeRow.holds Try.pinned (OpenSpec.ofChange fnExactSameShapeSpec)

/-- ITS FALSE NEIGHBOUR: 'it returns false'. Refute it at one input. -/
def fnExactSameShapeWrong : ChangeSpec := { name := "fnExactSameShape", fn := fun _ => fun
  | [d1, d2] => { results := [.lit (.bool false)], args := [d1, d2] }
  | _ => none }
def FnExactSameShapeWrongFalsely : Prop := fnExactSameShapeRow.holds Try.pinned (OpenSpec.ofChange fnExactSameShapeWrong)

/-- 'laws.FnExactReachOf': WHATEVER THE INPUT: true; the input reads as it did. -/
def fnExactReachOfSpec : ChangeSpec := { name := "fnExactReachOf", fn := fun _ => fun
  | [d] => { results := [.lit (.bool true)], args := [d] }
  | _ => none }
def fnExactReachOfRow : OpenClaim := { program := "ytnocadhibajaoaa", sum := "1a44ea99a0176488ab91a20b5e5e89086b645f4db822d36cb10c579f8c0e7dc2", func := "loop.example/g00350/laws.FnExactReachOf", spec := "fnExactReachOf", unfollowed := true, recurses := true, apart := false }
def FnExactReachOfSaid : Prop := fnExactReachOfRow.holds Try.pinned (OpenSpec.ofChange fnExactReachOfSpec)

/-- ITS FALSE NEIGHBOUR: 'it returns false'. Refute it at one input. -/
def fnExactReachOfWrong : ChangeSpec := { name := "fnExactReachOf", fn := fun _ => fun
  | [d] => { results := [.lit (.bool false)], args := [d] }
  | _ => none }
def FnExactReachOfWrongFalsely : Prop := fnExactReachOfRow.holds Try.pinned (OpenSpec.ofChange fnExactReachOfWrong)

/-- 'laws.FnExactMinorKeeps': WHATEVER THE INPUT: true; the input reads as it did. -/
def fnExactMinorKeepsSpec : ChangeSpec := { name := "fnExactMinorKeeps", fn := fun _ => fun
  | [d] => { results := [.lit (.bool true)], args := [d] }
  | _ => none }
def fnExactMinorKeepsRow : OpenClaim := { program := "ytnocadhibajaoaa", sum := "1a44ea99a0176488ab91a20b5e5e89086b645f4db822d36cb10c579f8c0e7dc2", func := "loop.example/g00350/laws.FnExactMinorKeeps", spec := "fnExactMinorKeeps", unfollowed := true, recurses := true, apart := false }
def FnExactMinorKeepsSaid : Prop := fnExactMinorKeepsRow.holds Try.pinned (OpenSpec.ofChange fnExactMinorKeepsSpec)

/-- ITS FALSE NEIGHBOUR: 'it returns false'. Refute it at one input. -/
def fnExactMinorKeepsWrong : ChangeSpec := { name := "fnExactMinorKeeps", fn := fun _ => fun
  | [d] => { results := [.lit (.bool false)], args := [d] }
  | _ => none }
def FnExactMinorKeepsWrongFalsely : Prop := fnExactMinorKeepsRow.holds Try.pinned (OpenSpec.ofChange fnExactMinorKeepsWrong)

/- THE SECOND FORM. 'bulk': how many values and letters a reading holds, each counted each time it is reached (what is shared counts as often as it is met; a slice's spare places count too). A statement '..UptoSaid' is the law's where the arguments, and the package variables that the reading takes, are together of bulk at most 1048576: NARROWER than '..Said'. Prove '..Said' where nothing that the law and all that it calls make is longer than what came in: it says more and counts as full. Else prove '..UptoSaid'. A law counts once. -/
mutual
def uptoBulk {H : Type} : DataW H → Nat
  | .lit (.string bytes) => bytes.length + 1
  | .lit _ => 1
  | .nil => 1
  | .ptr d => uptoBulk d + 1
  | .slice elems spare => uptoBulkAll elems + uptoBulkAll spare + 1
  | .agg parts => uptoBulkAll parts + 1
  | .iface _ d => uptoBulk d + 1
  | .map entries => uptoBulkEntries entries + 1
  | .held _ => 1
def uptoBulkAll {H : Type} : List (DataW H) → Nat
  | [] => 0
  | d :: r => uptoBulk d + uptoBulkAll r
def uptoBulkEntries {H : Type} : List (Lit × DataW H) → Nat
  | [] => 0
  | x :: r => uptoBulkEntry x + uptoBulkEntries r
def uptoBulkEntry {H : Type} : Lit × DataW H → Nat
  | (.string bytes, d) => bytes.length + uptoBulk d + 1
  | (_, d) => uptoBulk d + 1
 end
def uptoSmall : (H : Type) → List (DataW H) → Bool := fun _ ds => decide (uptoBulkAll ds ≤ 1048576)
def OpenSpec.upto (s : _root_.Go.ChangeSpec) : _root_.Go.OpenSpec := { _root_.Go.OpenSpec.ofChange s with cond := some uptoSmall }

/-- 'laws.FnExactNewHeap', WHERE WHAT IT READS IS OF BULK AT MOST 1048576: true; the input reads as it did. -/
def fnExactNewHeapUptoRow : OpenClaim := { program := "ytnocadhibajaoaa", sum := "1a44ea99a0176488ab91a20b5e5e89086b645f4db822d36cb10c579f8c0e7dc2", func := "loop.example/g00350/laws.FnExactNewHeap", spec := "fnExactNewHeap", apart := false, narrowed := true }
def FnExactNewHeapUptoSaid : Prop := fnExactNewHeapUptoRow.holds Try.pinned (OpenSpec.upto fnExactNewHeapSpec)

/-- 'laws.FnExactGoodHeap', WHERE WHAT IT READS IS OF BULK AT MOST 1048576: true; the input reads as it did. -/
def fnExactGoodHeapUptoRow : OpenClaim := { program := "ytnocadhibajaoaa", sum := "1a44ea99a0176488ab91a20b5e5e89086b645f4db822d36cb10c579f8c0e7dc2", func := "loop.example/g00350/laws.FnExactGoodHeap", spec := "fnExactGoodHeap", unfollowed := true, recurses := true, apart := false, narrowed := true }
def FnExactGoodHeapUptoSaid : Prop := fnExactGoodHeapUptoRow.holds Try.pinned (OpenSpec.upto fnExactGoodHeapSpec)

/-- 'laws.FnExactNamesOf', WHERE WHAT IT READS IS OF BULK AT MOST 1048576: true; the input reads as it did. -/
def fnExactNamesOfUptoRow : OpenClaim := { program := "ytnocadhibajaoaa", sum := "1a44ea99a0176488ab91a20b5e5e89086b645f4db822d36cb10c579f8c0e7dc2", func := "loop.example/g00350/laws.FnExactNamesOf", spec := "fnExactNamesOf", unfollowed := true, recurses := true, apart := false, narrowed := true }
def FnExactNamesOfUptoSaid : Prop := fnExactNamesOfUptoRow.holds Try.pinned (OpenSpec.upto fnExactNamesOfSpec)

/-- 'laws.FnExactSameShape', WHERE WHAT IT READS IS OF BULK AT MOST 1048576: true; the input reads as it did. -/
def fnExactSameShapeUptoRow : OpenClaim := { program := "ytnocadhibajaoaa", sum := "1a44ea99a0176488ab91a20b5e5e89086b645f4db822d36cb10c579f8c0e7dc2", func := "loop.example/g00350/laws.FnExactSameShape", spec := "fnExactSameShape", unfollowed := true, recurses := true, apart := false, narrowed := true }
def FnExactSameShapeUptoSaid : Prop := fnExactSameShapeUptoRow.holds Try.pinned (OpenSpec.upto fnExactSameShapeSpec)

/-- 'laws.FnExactReachOf', WHERE WHAT IT READS IS OF BULK AT MOST 1048576: true; the input reads as it did. -/
def fnExactReachOfUptoRow : OpenClaim := { program := "ytnocadhibajaoaa", sum := "1a44ea99a0176488ab91a20b5e5e89086b645f4db822d36cb10c579f8c0e7dc2", func := "loop.example/g00350/laws.FnExactReachOf", spec := "fnExactReachOf", unfollowed := true, recurses := true, apart := false, narrowed := true }
def FnExactReachOfUptoSaid : Prop := fnExactReachOfUptoRow.holds Try.pinned (OpenSpec.upto fnExactReachOfSpec)

/-- 'laws.FnExactMinorKeeps', WHERE WHAT IT READS IS OF BULK AT MOST 1048576: true; the input reads as it did. -/
def fnExactMinorKeepsUptoRow : OpenClaim := { program := "ytnocadhibajaoaa", sum := "1a44ea99a0176488ab91a20b5e5e89086b645f4db822d36cb10c579f8c0e7dc2", func := "loop.example/g00350/laws.FnExactMinorKeeps", spec := "fnExactMinorKeeps", unfollowed := true, recurses := true, apart := false, narrowed := true }
def FnExactMinorKeepsUptoSaid : Prop := fnExactMinorKeepsUptoRow.holds Try.pinned (OpenSpec.upto fnExactMinorKeepsSpec)

end Rows
end Go.Proofs.Ytnocadhibajaoaa
