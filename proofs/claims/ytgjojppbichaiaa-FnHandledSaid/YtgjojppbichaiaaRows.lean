/-
  No cell of these rows narrows 'for every input' (looked for: loops, veiled, ifaces, maps, wideKeys, modest, calm, conditions, laid).
  DERIVED. THE GIVEN ROWS OF THIS SEAT. 9 by the template 'for every input the law returns true; each argument reads behind the call as it read before'; 0 by the template 'total and deterministic' (their statements: YtgjojppbichaiaaTotals.lean).
  GIVEN WITH THE SEED: the statements are not yours to turn. If you find one false, say at which input.
  Laid BY PROGRAM, IN A SANDBOX (cutbox-rows.mjs): the forced cells as the released guide's own fill.sh prints them over the translation 6b7d5a95504ac826… (all of the seat's roots in one cut). By AI agents, Wed Nov 11 2026. No macro, syntax, notation, axiom, sorry.
-/
import Derived.Test.YtgjojppbichaiaaChecked
import GoSem.Claim
import GoSem.ClaimJoined
import GoSem.ClaimMapViews
import Derived.JoinedTies
import Derived.KernelRfl
namespace Go.Proofs.Ytgjojppbichaiaa
/- THE CELL 'sum', in the pinned program and in every row, IS THE sha256 OF THE DUMP (.gsa) THAT YtgjojppbichaiaaProg.lean LOADS. Nothing in Lean hashes anything: it is a label: what it is worth is what the hold of that sum in a sandbox is worth. -/
noncomputable def Try.pinned : Pinned := { name := "ytgjojppbichaiaa", sum := "6b7d5a95504ac8266799e8ec90c7164d5bcd2c1cafd4886e3d810a5eab510d1a", checked := Try.checked }
namespace Rows
def none {H : Type} : Left H := { results := [], args := [] }

/-- 'laws.FnExactGoodTree2': WHATEVER THE INPUT: true; the input reads as it did. -/
def fnExactGoodTree2Spec : ChangeSpec := { name := "fnExactGoodTree2", fn := fun _ => fun
  | [d] => { results := [.lit (.bool true)], args := [d] }
  | _ => none }
def fnExactGoodTree2Row : OpenClaim := { program := "ytgjojppbichaiaa", sum := "6b7d5a95504ac8266799e8ec90c7164d5bcd2c1cafd4886e3d810a5eab510d1a", func := "loop.example/g00350/laws.FnExactGoodTree2", spec := "fnExactGoodTree2", recurses := true, apart := false }
def FnExactGoodTree2Said : Prop := fnExactGoodTree2Row.holds Try.pinned (OpenSpec.ofChange fnExactGoodTree2Spec)

/-- ITS FALSE NEIGHBOUR: 'it returns false'. Refute it at one input. -/
def fnExactGoodTree2Wrong : ChangeSpec := { name := "fnExactGoodTree2", fn := fun _ => fun
  | [d] => { results := [.lit (.bool false)], args := [d] }
  | _ => none }
def FnExactGoodTree2WrongFalsely : Prop := fnExactGoodTree2Row.holds Try.pinned (OpenSpec.ofChange fnExactGoodTree2Wrong)

/-- 'laws.FnExactGoodLined': WHATEVER THE INPUT: true; the input reads as it did. -/
def fnExactGoodLinedSpec : ChangeSpec := { name := "fnExactGoodLined", fn := fun _ => fun
  | [d] => { results := [.lit (.bool true)], args := [d] }
  | _ => none }
def fnExactGoodLinedRow : OpenClaim := { program := "ytgjojppbichaiaa", sum := "6b7d5a95504ac8266799e8ec90c7164d5bcd2c1cafd4886e3d810a5eab510d1a", func := "loop.example/g00350/laws.FnExactGoodLined", spec := "fnExactGoodLined", unfollowed := true, recurses := true, apart := false }
def FnExactGoodLinedSaid : Prop := fnExactGoodLinedRow.holds Try.pinned (OpenSpec.ofChange fnExactGoodLinedSpec)

/-- ITS FALSE NEIGHBOUR: 'it returns false'. Refute it at one input. -/
def fnExactGoodLinedWrong : ChangeSpec := { name := "fnExactGoodLined", fn := fun _ => fun
  | [d] => { results := [.lit (.bool false)], args := [d] }
  | _ => none }
def FnExactGoodLinedWrongFalsely : Prop := fnExactGoodLinedRow.holds Try.pinned (OpenSpec.ofChange fnExactGoodLinedWrong)

/-- 'laws.FnExactGuardAt': WHATEVER THE INPUT: true; the input reads as it did. -/
def fnExactGuardAtSpec : ChangeSpec := { name := "fnExactGuardAt", fn := fun _ => fun
  | [d1, d2, d3] => { results := [.lit (.bool true)], args := [d1, d2, d3] }
  | _ => none }
def fnExactGuardAtRow : OpenClaim := { program := "ytgjojppbichaiaa", sum := "6b7d5a95504ac8266799e8ec90c7164d5bcd2c1cafd4886e3d810a5eab510d1a", func := "loop.example/g00350/laws.FnExactGuardAt", spec := "fnExactGuardAt", unfollowed := true, recurses := true, apart := false }
def FnExactGuardAtSaid : Prop := fnExactGuardAtRow.holds Try.pinned (OpenSpec.ofChange fnExactGuardAtSpec)

/-- ITS FALSE NEIGHBOUR: 'it returns false'. Refute it at one input. -/
def fnExactGuardAtWrong : ChangeSpec := { name := "fnExactGuardAt", fn := fun _ => fun
  | [d1, d2, d3] => { results := [.lit (.bool false)], args := [d1, d2, d3] }
  | _ => none }
def FnExactGuardAtWrongFalsely : Prop := fnExactGuardAtRow.holds Try.pinned (OpenSpec.ofChange fnExactGuardAtWrong)

/-- 'laws.FnExactMayRaise': WHATEVER THE INPUT: true; the input reads as it did. -/
def fnExactMayRaiseSpec : ChangeSpec := { name := "fnExactMayRaise", fn := fun _ => fun
  | [d] => { results := [.lit (.bool true)], args := [d] }
  | _ => none }
def fnExactMayRaiseRow : OpenClaim := { program := "ytgjojppbichaiaa", sum := "6b7d5a95504ac8266799e8ec90c7164d5bcd2c1cafd4886e3d810a5eab510d1a", func := "loop.example/g00350/laws.FnExactMayRaise", spec := "fnExactMayRaise", recurses := true, apart := false }
def FnExactMayRaiseSaid : Prop := fnExactMayRaiseRow.holds Try.pinned (OpenSpec.ofChange fnExactMayRaiseSpec)

/-- ITS FALSE NEIGHBOUR: 'it returns false'. Refute it at one input. -/
def fnExactMayRaiseWrong : ChangeSpec := { name := "fnExactMayRaise", fn := fun _ => fun
  | [d] => { results := [.lit (.bool false)], args := [d] }
  | _ => none }
def FnExactMayRaiseWrongFalsely : Prop := fnExactMayRaiseRow.holds Try.pinned (OpenSpec.ofChange fnExactMayRaiseWrong)

/-- 'laws.FnExactEvalTree': WHATEVER THE INPUT: true; the input reads as it did. -/
def fnExactEvalTreeSpec : ChangeSpec := { name := "fnExactEvalTree", fn := fun _ => fun
  | [d] => { results := [.lit (.bool true)], args := [d] }
  | _ => none }
def fnExactEvalTreeRow : OpenClaim := { program := "ytgjojppbichaiaa", sum := "6b7d5a95504ac8266799e8ec90c7164d5bcd2c1cafd4886e3d810a5eab510d1a", func := "loop.example/g00350/laws.FnExactEvalTree", spec := "fnExactEvalTree", recurses := true, apart := false }
def FnExactEvalTreeSaid : Prop := fnExactEvalTreeRow.holds Try.pinned (OpenSpec.ofChange fnExactEvalTreeSpec)

/-- ITS FALSE NEIGHBOUR: 'it returns false'. Refute it at one input. -/
def fnExactEvalTreeWrong : ChangeSpec := { name := "fnExactEvalTree", fn := fun _ => fun
  | [d] => { results := [.lit (.bool false)], args := [d] }
  | _ => none }
def FnExactEvalTreeWrongFalsely : Prop := fnExactEvalTreeRow.holds Try.pinned (OpenSpec.ofChange fnExactEvalTreeWrong)

/-- 'laws.FnExactRunLined': WHATEVER THE INPUT: true; the input reads as it did. -/
def fnExactRunLinedSpec : ChangeSpec := { name := "fnExactRunLined", fn := fun _ => fun
  | [d1, d2] => { results := [.lit (.bool true)], args := [d1, d2] }
  | _ => none }
def fnExactRunLinedRow : OpenClaim := { program := "ytgjojppbichaiaa", sum := "6b7d5a95504ac8266799e8ec90c7164d5bcd2c1cafd4886e3d810a5eab510d1a", func := "loop.example/g00350/laws.FnExactRunLined", spec := "fnExactRunLined", unfollowed := true, recurses := true, apart := false }
def FnExactRunLinedSaid : Prop := fnExactRunLinedRow.holds Try.pinned (OpenSpec.ofChange fnExactRunLinedSpec)

/-- ITS FALSE NEIGHBOUR: 'it returns false'. Refute it at one input. -/
def fnExactRunLinedWrong : ChangeSpec := { name := "fnExactRunLined", fn := fun _ => fun
  | [d1, d2] => { results := [.lit (.bool false)], args := [d1, d2] }
  | _ => none }
def FnExactRunLinedWrongFalsely : Prop := fnExactRunLinedRow.holds Try.pinned (OpenSpec.ofChange fnExactRunLinedWrong)

/-- 'laws.FnExactLineTree': WHATEVER THE INPUT: true; the input reads as it did. -/
def fnExactLineTreeSpec : ChangeSpec := { name := "fnExactLineTree", fn := fun _ => fun
  | [d] => { results := [.lit (.bool true)], args := [d] }
  | _ => none }
def fnExactLineTreeRow : OpenClaim := { program := "ytgjojppbichaiaa", sum := "6b7d5a95504ac8266799e8ec90c7164d5bcd2c1cafd4886e3d810a5eab510d1a", func := "loop.example/g00350/laws.FnExactLineTree", spec := "fnExactLineTree", unfollowed := true, recurses := true, apart := false }
def FnExactLineTreeSaid : Prop := fnExactLineTreeRow.holds Try.pinned (OpenSpec.ofChange fnExactLineTreeSpec)

/-- ITS FALSE NEIGHBOUR: 'it returns false'. Refute it at one input. -/
def fnExactLineTreeWrong : ChangeSpec := { name := "fnExactLineTree", fn := fun _ => fun
  | [d] => { results := [.lit (.bool false)], args := [d] }
  | _ => none }
def FnExactLineTreeWrongFalsely : Prop := fnExactLineTreeRow.holds Try.pinned (OpenSpec.ofChange fnExactLineTreeWrong)

/-- 'laws.FnGuards': WHATEVER THE INPUT: true; the input reads as it did. -/
def fnGuardsSpec : ChangeSpec := { name := "fnGuards", fn := fun _ => fun
  | [d1, d2] => { results := [.lit (.bool true)], args := [d1, d2] }
  | _ => none }
def fnGuardsRow : OpenClaim := { program := "ytgjojppbichaiaa", sum := "6b7d5a95504ac8266799e8ec90c7164d5bcd2c1cafd4886e3d810a5eab510d1a", func := "loop.example/g00350/laws.FnGuards", spec := "fnGuards", unfollowed := true, recurses := true, apart := false }
def FnGuardsSaid : Prop := fnGuardsRow.holds Try.pinned (OpenSpec.ofChange fnGuardsSpec)

/-- ITS FALSE NEIGHBOUR: 'it returns false'. Refute it at one input. -/
def fnGuardsWrong : ChangeSpec := { name := "fnGuards", fn := fun _ => fun
  | [d1, d2] => { results := [.lit (.bool false)], args := [d1, d2] }
  | _ => none }
def FnGuardsWrongFalsely : Prop := fnGuardsRow.holds Try.pinned (OpenSpec.ofChange fnGuardsWrong)

/-- 'laws.FnHandled': WHATEVER THE INPUT: true; the input reads as it did. -/
def fnHandledSpec : ChangeSpec := { name := "fnHandled", fn := fun _ => fun
  | [d] => { results := [.lit (.bool true)], args := [d] }
  | _ => none }
def fnHandledRow : OpenClaim := { program := "ytgjojppbichaiaa", sum := "6b7d5a95504ac8266799e8ec90c7164d5bcd2c1cafd4886e3d810a5eab510d1a", func := "loop.example/g00350/laws.FnHandled", spec := "fnHandled", unfollowed := true, recurses := true, apart := false }
def FnHandledSaid : Prop := fnHandledRow.holds Try.pinned (OpenSpec.ofChange fnHandledSpec)

/-- ITS FALSE NEIGHBOUR: 'it returns false'. Refute it at one input. -/
def fnHandledWrong : ChangeSpec := { name := "fnHandled", fn := fun _ => fun
  | [d] => { results := [.lit (.bool false)], args := [d] }
  | _ => none }
def FnHandledWrongFalsely : Prop := fnHandledRow.holds Try.pinned (OpenSpec.ofChange fnHandledWrong)

/- THE SECOND FORM. 'bulk': how many values and letters a reading holds, each counted each time it is reached (what is shared counts as often as it is met; a slice's spare places count too). A statement '..UptoSaid' is the law's where the arguments, and the package variables that the reading takes, are together of bulk at most 1048576: NARROWER than '..Said'. Prove '..Said' where nothing that the law and all that it calls make is longer than what came in: it says more and counts as full. Else prove '..UptoSaid'. A law counts once. -/
mutual
def uptoBulk {H : Type} : DataW H → Nat
  | .lit (.string bytes) => bytes.length + 1
  | .lit _ => 1
  | .nil => 1
  | .ptr d => uptoBulk d + 1
  | .slice elems spare => uptoBulkAll elems + uptoBulkAll spare + 1
  | .agg parts => uptoBulkAll parts + 1
  | .iface _ d => uptoBulk d + 1
  | .map entries => uptoBulkEntries entries + 1
  | .held _ => 1
def uptoBulkAll {H : Type} : List (DataW H) → Nat
  | [] => 0
  | d :: r => uptoBulk d + uptoBulkAll r
def uptoBulkEntries {H : Type} : List (Lit × DataW H) → Nat
  | [] => 0
  | x :: r => uptoBulkEntry x + uptoBulkEntries r
def uptoBulkEntry {H : Type} : Lit × DataW H → Nat
  | (.string bytes, d) => bytes.length + uptoBulk d + 1
  | (_, d) => uptoBulk d + 1
 end
def uptoSmall : (H : Type) → List (DataW H) → Bool := fun _ ds => decide (uptoBulkAll ds ≤ 1048576)
def OpenSpec.upto (s : _root_.Go.ChangeSpec) : _root_.Go.OpenSpec := { _root_.Go.OpenSpec.ofChange s with cond := some uptoSmall }

/-- 'laws.FnExactGoodTree2', WHERE WHAT IT READS IS OF BULK AT MOST 1048576: true; the input reads as it did. -/
def fnExactGoodTree2UptoRow : OpenClaim := { program := "ytgjojppbichaiaa", sum := "6b7d5a95504ac8266799e8ec90c7164d5bcd2c1cafd4886e3d810a5eab510d1a", func := "loop.example/g00350/laws.FnExactGoodTree2", spec := "fnExactGoodTree2", recurses := true, apart := false, narrowed := true }
def FnExactGoodTree2UptoSaid : Prop := fnExactGoodTree2UptoRow.holds Try.pinned (OpenSpec.upto fnExactGoodTree2Spec)

/-- 'laws.FnExactGoodLined', WHERE WHAT IT READS IS OF BULK AT MOST 1048576: true; the input reads as it did. -/
def fnExactGoodLinedUptoRow : OpenClaim := { program := "ytgjojppbichaiaa", sum := "6b7d5a95504ac8266799e8ec90c7164d5bcd2c1cafd4886e3d810a5eab510d1a", func := "loop.example/g00350/laws.FnExactGoodLined", spec := "fnExactGoodLined", unfollowed := true, recurses := true, apart := false, narrowed := true }
def FnExactGoodLinedUptoSaid : Prop := fnExactGoodLinedUptoRow.holds Try.pinned (OpenSpec.upto fnExactGoodLinedSpec)

/-- 'laws.FnExactGuardAt', WHERE WHAT IT READS IS OF BULK AT MOST 1048576: true; the input reads as it did. -/
def fnExactGuardAtUptoRow : OpenClaim := { program := "ytgjojppbichaiaa", sum := "6b7d5a95504ac8266799e8ec90c7164d5bcd2c1cafd4886e3d810a5eab510d1a", func := "loop.example/g00350/laws.FnExactGuardAt", spec := "fnExactGuardAt", unfollowed := true, recurses := true, apart := false, narrowed := true }
def FnExactGuardAtUptoSaid : Prop := fnExactGuardAtUptoRow.holds Try.pinned (OpenSpec.upto fnExactGuardAtSpec)

/-- 'laws.FnExactMayRaise', WHERE WHAT IT READS IS OF BULK AT MOST 1048576: true; the input reads as it did. -/
def fnExactMayRaiseUptoRow : OpenClaim := { program := "ytgjojppbichaiaa", sum := "6b7d5a95504ac8266799e8ec90c7164d5bcd2c1cafd4886e3d810a5eab510d1a", func := "loop.example/g00350/laws.FnExactMayRaise", spec := "fnExactMayRaise", recurses := true, apart := false, narrowed := true }
def FnExactMayRaiseUptoSaid : Prop := fnExactMayRaiseUptoRow.holds Try.pinned (OpenSpec.upto fnExactMayRaiseSpec)

/-- 'laws.FnExactEvalTree', WHERE WHAT IT READS IS OF BULK AT MOST 1048576: true; the input reads as it did. -/
def fnExactEvalTreeUptoRow : OpenClaim := { program := "ytgjojppbichaiaa", sum := "6b7d5a95504ac8266799e8ec90c7164d5bcd2c1cafd4886e3d810a5eab510d1a", func := "loop.example/g00350/laws.FnExactEvalTree", spec := "fnExactEvalTree", recurses := true, apart := false, narrowed := true }
def FnExactEvalTreeUptoSaid : Prop := fnExactEvalTreeUptoRow.holds Try.pinned (OpenSpec.upto fnExactEvalTreeSpec)

/-- 'laws.FnExactRunLined', WHERE WHAT IT READS IS OF BULK AT MOST 1048576: true; the input reads as it did. -/
def fnExactRunLinedUptoRow : OpenClaim := { program := "ytgjojppbichaiaa", sum := "6b7d5a95504ac8266799e8ec90c7164d5bcd2c1cafd4886e3d810a5eab510d1a", func := "loop.example/g00350/laws.FnExactRunLined", spec := "fnExactRunLined", unfollowed := true, recurses := true, apart := false, narrowed := true }
def FnExactRunLinedUptoSaid : Prop := fnExactRunLinedUptoRow.holds Try.pinned (OpenSpec.upto fnExactRunLinedSpec)

/-- 'laws.FnExactLineTree', WHERE WHAT IT READS IS OF BULK AT MOST 1048576: true; the input reads as it did. -/
def fnExactLineTreeUptoRow : OpenClaim := { program := "ytgjojppbichaiaa", sum := "6b7d5a95504ac8266799e8ec90c7164d5bcd2c1cafd4886e3d810a5eab510d1a", func := "loop.example/g00350/laws.FnExactLineTree", spec := "fnExactLineTree", unfollowed := true, recurses := true, apart := false, narrowed := true }
def FnExactLineTreeUptoSaid : Prop := fnExactLineTreeUptoRow.holds Try.pinned (OpenSpec.upto fnExactLineTreeSpec)

/-- 'laws.FnGuards', WHERE WHAT IT READS IS OF BULK AT MOST 1048576: true; the input reads as it did. -/
def fnGuardsUptoRow : OpenClaim := { program := "ytgjojppbichaiaa", sum := "6b7d5a95504ac8266799e8ec90c7164d5bcd2c1cafd4886e3d810a5eab510d1a", func := "loop.example/g00350/laws.FnGuards", spec := "fnGuards", unfollowed := true, recurses := true, apart := false, narrowed := true }
def FnGuardsUptoSaid : Prop := fnGuardsUptoRow.holds Try.pinned (OpenSpec.upto fnGuardsSpec)

/-- 'laws.FnHandled', WHERE WHAT IT READS IS OF BULK AT MOST 1048576: true; the input reads as it did. -/
def fnHandledUptoRow : OpenClaim := { program := "ytgjojppbichaiaa", sum := "6b7d5a95504ac8266799e8ec90c7164d5bcd2c1cafd4886e3d810a5eab510d1a", func := "loop.example/g00350/laws.FnHandled", spec := "fnHandled", unfollowed := true, recurses := true, apart := false, narrowed := true }
def FnHandledUptoSaid : Prop := fnHandledUptoRow.holds Try.pinned (OpenSpec.upto fnHandledSpec)

end Rows
end Go.Proofs.Ytgjojppbichaiaa
