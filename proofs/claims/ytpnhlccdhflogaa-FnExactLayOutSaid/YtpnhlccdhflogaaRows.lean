/-
  No cell of these rows narrows 'for every input' (looked for: loops, veiled, ifaces, maps, wideKeys, modest, calm, conditions, laid).
  DERIVED. THE GIVEN ROWS OF THIS SEAT. 8 by the template 'for every input the law returns true; each argument reads behind the call as it read before'; 0 by the template 'total and deterministic' (their statements: YtpnhlccdhflogaaTotals.lean).
  GIVEN WITH THE SEED: the statements are not yours to turn. If you find one false, say at which input.
  Laid BY PROGRAM, IN A SANDBOX (cutbox-rows.mjs): the forced cells as the released guide's own fill.sh prints them over the translation f1a0ab95b8b0d495… (all of the seat's roots in one cut). By AI agents, Wed Nov 11 2026. No macro, syntax, notation, axiom, sorry.
-/
import Derived.Test.YtpnhlccdhflogaaChecked
import GoSem.Claim
import GoSem.ClaimJoined
import GoSem.ClaimMapViews
import Derived.JoinedTies
import Derived.KernelRfl
namespace Go.Proofs.Ytpnhlccdhflogaa
/- THE CELL 'sum', in the pinned program and in every row, IS THE sha256 OF THE DUMP (.gsa) THAT YtpnhlccdhflogaaProg.lean LOADS. Nothing in Lean hashes anything: it is a label: what it is worth is what the hold of that sum in a sandbox is worth. -/
noncomputable def Try.pinned : Pinned := { name := "ytpnhlccdhflogaa", sum := "f1a0ab95b8b0d49562671704aab9d130898d20aea062c39bd1c1dfd281cc040e", checked := Try.checked }
namespace Rows
def none {H : Type} : Left H := { results := [], args := [] }

/-- 'laws.FnExactChainsOf': WHATEVER THE INPUT: true; the input reads as it did. -/
def fnExactChainsOfSpec : ChangeSpec := { name := "fnExactChainsOf", fn := fun _ => fun
  | [d1, d2] => { results := [.lit (.bool true)], args := [d1, d2] }
  | _ => none }
def fnExactChainsOfRow : OpenClaim := { program := "ytpnhlccdhflogaa", sum := "f1a0ab95b8b0d49562671704aab9d130898d20aea062c39bd1c1dfd281cc040e", func := "loop.example/g00350/laws.FnExactChainsOf", spec := "fnExactChainsOf", unfollowed := true, recurses := true, apart := false }
def FnExactChainsOfSaid : Prop := fnExactChainsOfRow.holds Try.pinned (OpenSpec.ofChange fnExactChainsOfSpec)

/-- ITS FALSE NEIGHBOUR: 'it returns false'. Refute it at one input. -/
def fnExactChainsOfWrong : ChangeSpec := { name := "fnExactChainsOf", fn := fun _ => fun
  | [d1, d2] => { results := [.lit (.bool false)], args := [d1, d2] }
  | _ => none }
def FnExactChainsOfWrongFalsely : Prop := fnExactChainsOfRow.holds Try.pinned (OpenSpec.ofChange fnExactChainsOfWrong)

/-- 'laws.FnExactLayOut': WHATEVER THE INPUT: true; the input reads as it did. -/
def fnExactLayOutSpec : ChangeSpec := { name := "fnExactLayOut", fn := fun _ => fun
  | [d1, d2] => { results := [.lit (.bool true)], args := [d1, d2] }
  | _ => none }
def fnExactLayOutRow : OpenClaim := { program := "ytpnhlccdhflogaa", sum := "f1a0ab95b8b0d49562671704aab9d130898d20aea062c39bd1c1dfd281cc040e", func := "loop.example/g00350/laws.FnExactLayOut", spec := "fnExactLayOut", unfollowed := true, recurses := true, apart := false }
def FnExactLayOutSaid : Prop := fnExactLayOutRow.holds Try.pinned (OpenSpec.ofChange fnExactLayOutSpec)

/-- ITS FALSE NEIGHBOUR: 'it returns false'. Refute it at one input. -/
def fnExactLayOutWrong : ChangeSpec := { name := "fnExactLayOut", fn := fun _ => fun
  | [d1, d2] => { results := [.lit (.bool false)], args := [d1, d2] }
  | _ => none }
def FnExactLayOutWrongFalsely : Prop := fnExactLayOutRow.holds Try.pinned (OpenSpec.ofChange fnExactLayOutWrong)

/-- 'laws.FnExactStraightIn': WHATEVER THE INPUT: true; the input reads as it did. -/
def fnExactStraightInSpec : ChangeSpec := { name := "fnExactStraightIn", fn := fun _ => fun
  | [d1, d2, d3] => { results := [.lit (.bool true)], args := [d1, d2, d3] }
  | _ => none }
def fnExactStraightInRow : OpenClaim := { program := "ytpnhlccdhflogaa", sum := "f1a0ab95b8b0d49562671704aab9d130898d20aea062c39bd1c1dfd281cc040e", func := "loop.example/g00350/laws.FnExactStraightIn", spec := "fnExactStraightIn", apart := false }
def FnExactStraightInSaid : Prop := fnExactStraightInRow.holds Try.pinned (OpenSpec.ofChange fnExactStraightInSpec)

/-- ITS FALSE NEIGHBOUR: 'it returns false'. Refute it at one input. -/
def fnExactStraightInWrong : ChangeSpec := { name := "fnExactStraightIn", fn := fun _ => fun
  | [d1, d2, d3] => { results := [.lit (.bool false)], args := [d1, d2, d3] }
  | _ => none }
def FnExactStraightInWrongFalsely : Prop := fnExactStraightInRow.holds Try.pinned (OpenSpec.ofChange fnExactStraightInWrong)

/-- 'laws.FnExactJumpsIn': WHATEVER THE INPUT: true; the input reads as it did. -/
def fnExactJumpsInSpec : ChangeSpec := { name := "fnExactJumpsIn", fn := fun _ => fun
  | [d1, d2, d3] => { results := [.lit (.bool true)], args := [d1, d2, d3] }
  | _ => none }
def fnExactJumpsInRow : OpenClaim := { program := "ytpnhlccdhflogaa", sum := "f1a0ab95b8b0d49562671704aab9d130898d20aea062c39bd1c1dfd281cc040e", func := "loop.example/g00350/laws.FnExactJumpsIn", spec := "fnExactJumpsIn", apart := false }
def FnExactJumpsInSaid : Prop := fnExactJumpsInRow.holds Try.pinned (OpenSpec.ofChange fnExactJumpsInSpec)

/-- ITS FALSE NEIGHBOUR: 'it returns false'. Refute it at one input. -/
def fnExactJumpsInWrong : ChangeSpec := { name := "fnExactJumpsIn", fn := fun _ => fun
  | [d1, d2, d3] => { results := [.lit (.bool false)], args := [d1, d2, d3] }
  | _ => none }
def FnExactJumpsInWrongFalsely : Prop := fnExactJumpsInRow.holds Try.pinned (OpenSpec.ofChange fnExactJumpsInWrong)

/-- 'laws.FnLayout': WHATEVER THE INPUT: true; the input reads as it did. -/
def fnLayoutSpec : ChangeSpec := { name := "fnLayout", fn := fun _ => fun
  | [d1, d2] => { results := [.lit (.bool true)], args := [d1, d2] }
  | _ => none }
def fnLayoutRow : OpenClaim := { program := "ytpnhlccdhflogaa", sum := "f1a0ab95b8b0d49562671704aab9d130898d20aea062c39bd1c1dfd281cc040e", func := "loop.example/g00350/laws.FnLayout", spec := "fnLayout", unfollowed := true, recurses := true, apart := false }
def FnLayoutSaid : Prop := fnLayoutRow.holds Try.pinned (OpenSpec.ofChange fnLayoutSpec)

/-- ITS FALSE NEIGHBOUR: 'it returns false'. Refute it at one input. -/
def fnLayoutWrong : ChangeSpec := { name := "fnLayout", fn := fun _ => fun
  | [d1, d2] => { results := [.lit (.bool false)], args := [d1, d2] }
  | _ => none }
def FnLayoutWrongFalsely : Prop := fnLayoutRow.holds Try.pinned (OpenSpec.ofChange fnLayoutWrong)

/-- 'laws.FnExactLayFlow': WHATEVER THE INPUT: true; the input reads as it did. -/
def fnExactLayFlowSpec : ChangeSpec := { name := "fnExactLayFlow", fn := fun _ => fun
  | [d1, d2] => { results := [.lit (.bool true)], args := [d1, d2] }
  | _ => none }
def fnExactLayFlowRow : OpenClaim := { program := "ytpnhlccdhflogaa", sum := "f1a0ab95b8b0d49562671704aab9d130898d20aea062c39bd1c1dfd281cc040e", func := "loop.example/g00350/laws.FnExactLayFlow", spec := "fnExactLayFlow", unfollowed := true, recurses := true, apart := false }
def FnExactLayFlowSaid : Prop := fnExactLayFlowRow.holds Try.pinned (OpenSpec.ofChange fnExactLayFlowSpec)

/-- ITS FALSE NEIGHBOUR: 'it returns false'. Refute it at one input. -/
def fnExactLayFlowWrong : ChangeSpec := { name := "fnExactLayFlow", fn := fun _ => fun
  | [d1, d2] => { results := [.lit (.bool false)], args := [d1, d2] }
  | _ => none }
def FnExactLayFlowWrongFalsely : Prop := fnExactLayFlowRow.holds Try.pinned (OpenSpec.ofChange fnExactLayFlowWrong)

/-- 'laws.FnExactCountEdges': WHATEVER THE INPUT: true; the input reads as it did. -/
def fnExactCountEdgesSpec : ChangeSpec := { name := "fnExactCountEdges", fn := fun _ => fun
  | [d1, d2, d3] => { results := [.lit (.bool true)], args := [d1, d2, d3] }
  | _ => none }
def fnExactCountEdgesRow : OpenClaim := { program := "ytpnhlccdhflogaa", sum := "f1a0ab95b8b0d49562671704aab9d130898d20aea062c39bd1c1dfd281cc040e", func := "loop.example/g00350/laws.FnExactCountEdges", spec := "fnExactCountEdges", unfollowed := true, recurses := true, apart := false }
def FnExactCountEdgesSaid : Prop := fnExactCountEdgesRow.holds Try.pinned (OpenSpec.ofChange fnExactCountEdgesSpec)

/-- ITS FALSE NEIGHBOUR: 'it returns false'. Refute it at one input. -/
def fnExactCountEdgesWrong : ChangeSpec := { name := "fnExactCountEdges", fn := fun _ => fun
  | [d1, d2, d3] => { results := [.lit (.bool false)], args := [d1, d2, d3] }
  | _ => none }
def FnExactCountEdgesWrongFalsely : Prop := fnExactCountEdgesRow.holds Try.pinned (OpenSpec.ofChange fnExactCountEdgesWrong)

/-- 'laws.FnLaid': WHATEVER THE INPUT: true; the input reads as it did. -/
def fnLaidSpec : ChangeSpec := { name := "fnLaid", fn := fun _ => fun
  | [d1, d2] => { results := [.lit (.bool true)], args := [d1, d2] }
  | _ => none }
def fnLaidRow : OpenClaim := { program := "ytpnhlccdhflogaa", sum := "f1a0ab95b8b0d49562671704aab9d130898d20aea062c39bd1c1dfd281cc040e", func := "loop.example/g00350/laws.FnLaid", spec := "fnLaid", unfollowed := true, recurses := true, apart := false }
def FnLaidSaid : Prop := fnLaidRow.holds Try.pinned (OpenSpec.ofChange fnLaidSpec)

/-- ITS FALSE NEIGHBOUR: 'it returns false'. Refute it at one input. -/
def fnLaidWrong : ChangeSpec := { name := "fnLaid", fn := fun _ => fun
  | [d1, d2] => { results := [.lit (.bool false)], args := [d1, d2] }
  | _ => none }
def FnLaidWrongFalsely : Prop := fnLaidRow.holds Try.pinned (OpenSpec.ofChange fnLaidWrong)

/- THE SECOND FORM. 'bulk': how many values and letters a reading holds, each counted each time it is reached (what is shared counts as often as it is met; a slice's spare places count too). A statement '..UptoSaid' is the law's where the arguments, and the package variables that the reading takes, are together of bulk at most 1048576: NARROWER than '..Said'. Prove '..Said' where nothing that the law and all that it calls make is longer than what came in: it says more and counts as full. Else prove '..UptoSaid'. A law counts once. -/
mutual
def uptoBulk {H : Type} : DataW H → Nat
  | .lit (.string bytes) => bytes.length + 1
  | .lit _ => 1
  | .nil => 1
  | .ptr d => uptoBulk d + 1
  | .slice elems spare => uptoBulkAll elems + uptoBulkAll spare + 1
  | .agg parts => uptoBulkAll parts + 1
  | .iface _ d => uptoBulk d + 1
  | .map entries => uptoBulkEntries entries + 1
  | .held _ => 1
def uptoBulkAll {H : Type} : List (DataW H) → Nat
  | [] => 0
  | d :: r => uptoBulk d + uptoBulkAll r
def uptoBulkEntries {H : Type} : List (Lit × DataW H) → Nat
  | [] => 0
  | x :: r => uptoBulkEntry x + uptoBulkEntries r
def uptoBulkEntry {H : Type} : Lit × DataW H → Nat
  | (.string bytes, d) => bytes.length + uptoBulk d + 1
  | (_, d) => uptoBulk d + 1
 end
def uptoSmall : (H : Type) → List (DataW H) → Bool := fun _ ds => decide (uptoBulkAll ds ≤ 1048576)
def OpenSpec.upto (s : _root_.Go.ChangeSpec) : _root_.Go.OpenSpec := { _root_.Go.OpenSpec.ofChange s with cond := some uptoSmall }

/-- 'laws.FnExactChainsOf', WHERE WHAT IT READS IS OF BULK AT MOST 1048576: true; the input reads as it did. -/
def fnExactChainsOfUptoRow : OpenClaim := { program := "ytpnhlccdhflogaa", sum := "f1a0ab95b8b0d49562671704aab9d130898d20aea062c39bd1c1dfd281cc040e", func := "loop.example/g00350/laws.FnExactChainsOf", spec := "fnExactChainsOf", unfollowed := true, recurses := true, apart := false, narrowed := true }
def FnExactChainsOfUptoSaid : Prop := fnExactChainsOfUptoRow.holds Try.pinned (OpenSpec.upto fnExactChainsOfSpec)

/-- 'laws.FnExactLayOut', WHERE WHAT IT READS IS OF BULK AT MOST 1048576: true; the input reads as it did. -/
def fnExactLayOutUptoRow : OpenClaim := { program := "ytpnhlccdhflogaa", sum := "f1a0ab95b8b0d49562671704aab9d130898d20aea062c39bd1c1dfd281cc040e", func := "loop.example/g00350/laws.FnExactLayOut", spec := "fnExactLayOut", unfollowed := true, recurses := true, apart := false, narrowed := true }
def FnExactLayOutUptoSaid : Prop := fnExactLayOutUptoRow.holds Try.pinned (OpenSpec.upto fnExactLayOutSpec)

/-- 'laws.FnExactStraightIn', WHERE WHAT IT READS IS OF BULK AT MOST 1048576: true; the input reads as it did. -/
def fnExactStraightInUptoRow : OpenClaim := { program := "ytpnhlccdhflogaa", sum := "f1a0ab95b8b0d49562671704aab9d130898d20aea062c39bd1c1dfd281cc040e", func := "loop.example/g00350/laws.FnExactStraightIn", spec := "fnExactStraightIn", apart := false, narrowed := true }
def FnExactStraightInUptoSaid : Prop := fnExactStraightInUptoRow.holds Try.pinned (OpenSpec.upto fnExactStraightInSpec)

/-- 'laws.FnExactJumpsIn', WHERE WHAT IT READS IS OF BULK AT MOST 1048576: true; the input reads as it did. -/
def fnExactJumpsInUptoRow : OpenClaim := { program := "ytpnhlccdhflogaa", sum := "f1a0ab95b8b0d49562671704aab9d130898d20aea062c39bd1c1dfd281cc040e", func := "loop.example/g00350/laws.FnExactJumpsIn", spec := "fnExactJumpsIn", apart := false, narrowed := true }
def FnExactJumpsInUptoSaid : Prop := fnExactJumpsInUptoRow.holds Try.pinned (OpenSpec.upto fnExactJumpsInSpec)

/-- 'laws.FnLayout', WHERE WHAT IT READS IS OF BULK AT MOST 1048576: true; the input reads as it did. -/
def fnLayoutUptoRow : OpenClaim := { program := "ytpnhlccdhflogaa", sum := "f1a0ab95b8b0d49562671704aab9d130898d20aea062c39bd1c1dfd281cc040e", func := "loop.example/g00350/laws.FnLayout", spec := "fnLayout", unfollowed := true, recurses := true, apart := false, narrowed := true }
def FnLayoutUptoSaid : Prop := fnLayoutUptoRow.holds Try.pinned (OpenSpec.upto fnLayoutSpec)

/-- 'laws.FnExactLayFlow', WHERE WHAT IT READS IS OF BULK AT MOST 1048576: true; the input reads as it did. -/
def fnExactLayFlowUptoRow : OpenClaim := { program := "ytpnhlccdhflogaa", sum := "f1a0ab95b8b0d49562671704aab9d130898d20aea062c39bd1c1dfd281cc040e", func := "loop.example/g00350/laws.FnExactLayFlow", spec := "fnExactLayFlow", unfollowed := true, recurses := true, apart := false, narrowed := true }
def FnExactLayFlowUptoSaid : Prop := fnExactLayFlowUptoRow.holds Try.pinned (OpenSpec.upto fnExactLayFlowSpec)

/-- 'laws.FnExactCountEdges', WHERE WHAT IT READS IS OF BULK AT MOST 1048576: true; the input reads as it did. -/
def fnExactCountEdgesUptoRow : OpenClaim := { program := "ytpnhlccdhflogaa", sum := "f1a0ab95b8b0d49562671704aab9d130898d20aea062c39bd1c1dfd281cc040e", func := "loop.example/g00350/laws.FnExactCountEdges", spec := "fnExactCountEdges", unfollowed := true, recurses := true, apart := false, narrowed := true }
def FnExactCountEdgesUptoSaid : Prop := fnExactCountEdgesUptoRow.holds Try.pinned (OpenSpec.upto fnExactCountEdgesSpec)

/-- 'laws.FnLaid', WHERE WHAT IT READS IS OF BULK AT MOST 1048576: true; the input reads as it did. -/
def fnLaidUptoRow : OpenClaim := { program := "ytpnhlccdhflogaa", sum := "f1a0ab95b8b0d49562671704aab9d130898d20aea062c39bd1c1dfd281cc040e", func := "loop.example/g00350/laws.FnLaid", spec := "fnLaid", unfollowed := true, recurses := true, apart := false, narrowed := true }
def FnLaidUptoSaid : Prop := fnLaidUptoRow.holds Try.pinned (OpenSpec.upto fnLaidSpec)

end Rows
end Go.Proofs.Ytpnhlccdhflogaa
