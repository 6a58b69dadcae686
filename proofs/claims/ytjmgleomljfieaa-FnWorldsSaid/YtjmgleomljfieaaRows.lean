/-
  No cell of these rows narrows 'for every input' (looked for: loops, veiled, ifaces, maps, wideKeys, modest, calm, conditions, laid).
  DERIVED. THE GIVEN ROWS OF THIS SEAT. 10 by the template 'for every input the law returns true; each argument reads behind the call as it read before'; 0 by the template 'total and deterministic' (their statements: YtjmgleomljfieaaTotals.lean).
  GIVEN WITH THE SEED: the statements are not yours to turn. If you find one false, say at which input.
  Laid BY PROGRAM, IN A SANDBOX (cutbox-rows.mjs): the forced cells as the released guide's own fill.sh prints them over the translation dfc025c79c2a6a22… (all of the seat's roots in one cut). By AI agents, Wed Nov 11 2026. No macro, syntax, notation, axiom, sorry.
-/
import Derived.Test.YtjmgleomljfieaaChecked
import GoSem.Claim
import GoSem.ClaimJoined
import GoSem.ClaimMapViews
import Derived.JoinedTies
import Derived.KernelRfl
namespace Go.Proofs.Ytjmgleomljfieaa
/- THE CELL 'sum', in the pinned program and in every row, IS THE sha256 OF THE DUMP (.gsa) THAT YtjmgleomljfieaaProg.lean LOADS. Nothing in Lean hashes anything: it is a label: what it is worth is what the hold of that sum in a sandbox is worth. -/
noncomputable def Try.pinned : Pinned := { name := "ytjmgleomljfieaa", sum := "dfc025c79c2a6a22c6ad48a2920e5b9710e9aa9ceb17cb56f1dd5114de54be54", checked := Try.checked }
namespace Rows
def none {H : Type} : Left H := { results := [], args := [] }

/-- 'laws.FnExactGoodWorld': WHATEVER THE INPUT: true; the input reads as it did. -/
def fnExactGoodWorldSpec : ChangeSpec := { name := "fnExactGoodWorld", fn := fun _ => fun
  | [d] => { results := [.lit (.bool true)], args := [d] }
  | _ => none }
def fnExactGoodWorldRow : OpenClaim := { program := "ytjmgleomljfieaa", sum := "dfc025c79c2a6a22c6ad48a2920e5b9710e9aa9ceb17cb56f1dd5114de54be54", func := "loop.example/g00350/laws.FnExactGoodWorld", spec := "fnExactGoodWorld", unfollowed := true, recurses := true, apart := false }
def FnExactGoodWorldSaid : Prop := fnExactGoodWorldRow.holds Try.pinned (OpenSpec.ofChange fnExactGoodWorldSpec)

/-- ITS FALSE NEIGHBOUR: 'it returns false'. Refute it at one input. -/
def fnExactGoodWorldWrong : ChangeSpec := { name := "fnExactGoodWorld", fn := fun _ => fun
  | [d] => { results := [.lit (.bool false)], args := [d] }
  | _ => none }
def FnExactGoodWorldWrongFalsely : Prop := fnExactGoodWorldRow.holds Try.pinned (OpenSpec.ofChange fnExactGoodWorldWrong)

/-- 'laws.FnExactSubclassOf': WHATEVER THE INPUT: true; the input reads as it did. -/
def fnExactSubclassOfSpec : ChangeSpec := { name := "fnExactSubclassOf", fn := fun _ => fun
  | [d1, d2, d3] => { results := [.lit (.bool true)], args := [d1, d2, d3] }
  | _ => none }
def fnExactSubclassOfRow : OpenClaim := { program := "ytjmgleomljfieaa", sum := "dfc025c79c2a6a22c6ad48a2920e5b9710e9aa9ceb17cb56f1dd5114de54be54", func := "loop.example/g00350/laws.FnExactSubclassOf", spec := "fnExactSubclassOf", unfollowed := true, recurses := true, apart := false }
def FnExactSubclassOfSaid : Prop := fnExactSubclassOfRow.holds Try.pinned (OpenSpec.ofChange fnExactSubclassOfSpec)

/-- ITS FALSE NEIGHBOUR: 'it returns false'. Refute it at one input. -/
def fnExactSubclassOfWrong : ChangeSpec := { name := "fnExactSubclassOf", fn := fun _ => fun
  | [d1, d2, d3] => { results := [.lit (.bool false)], args := [d1, d2, d3] }
  | _ => none }
def FnExactSubclassOfWrongFalsely : Prop := fnExactSubclassOfRow.holds Try.pinned (OpenSpec.ofChange fnExactSubclassOfWrong)

/-- 'laws.FnExactFindMethod': WHATEVER THE INPUT: true; the input reads as it did. -/
def fnExactFindMethodSpec : ChangeSpec := { name := "fnExactFindMethod", fn := fun _ => fun
  | [d1, d2, d3] => { results := [.lit (.bool true)], args := [d1, d2, d3] }
  | _ => none }
def fnExactFindMethodRow : OpenClaim := { program := "ytjmgleomljfieaa", sum := "dfc025c79c2a6a22c6ad48a2920e5b9710e9aa9ceb17cb56f1dd5114de54be54", func := "loop.example/g00350/laws.FnExactFindMethod", spec := "fnExactFindMethod", unfollowed := true, recurses := true, apart := false }
def FnExactFindMethodSaid : Prop := fnExactFindMethodRow.holds Try.pinned (OpenSpec.ofChange fnExactFindMethodSpec)

/-- ITS FALSE NEIGHBOUR: 'it returns false'. Refute it at one input. -/
def fnExactFindMethodWrong : ChangeSpec := { name := "fnExactFindMethod", fn := fun _ => fun
  | [d1, d2, d3] => { results := [.lit (.bool false)], args := [d1, d2, d3] }
  | _ => none }
def FnExactFindMethodWrongFalsely : Prop := fnExactFindMethodRow.holds Try.pinned (OpenSpec.ofChange fnExactFindMethodWrong)

/-- 'laws.FnExactSetMethod': WHATEVER THE INPUT: true; the input reads as it did. -/
def fnExactSetMethodSpec : ChangeSpec := { name := "fnExactSetMethod", fn := fun _ => fun
  | [d1, d2, d3, d4] => { results := [.lit (.bool true)], args := [d1, d2, d3, d4] }
  | _ => none }
def fnExactSetMethodRow : OpenClaim := { program := "ytjmgleomljfieaa", sum := "dfc025c79c2a6a22c6ad48a2920e5b9710e9aa9ceb17cb56f1dd5114de54be54", func := "loop.example/g00350/laws.FnExactSetMethod", spec := "fnExactSetMethod", unfollowed := true, recurses := true, apart := false }
def FnExactSetMethodSaid : Prop := fnExactSetMethodRow.holds Try.pinned (OpenSpec.ofChange fnExactSetMethodSpec)

/-- ITS FALSE NEIGHBOUR: 'it returns false'. Refute it at one input. -/
def fnExactSetMethodWrong : ChangeSpec := { name := "fnExactSetMethod", fn := fun _ => fun
  | [d1, d2, d3, d4] => { results := [.lit (.bool false)], args := [d1, d2, d3, d4] }
  | _ => none }
def FnExactSetMethodWrongFalsely : Prop := fnExactSetMethodRow.holds Try.pinned (OpenSpec.ofChange fnExactSetMethodWrong)

/-- 'laws.FnExactNewCache': WHATEVER THE INPUT: true; the input reads as it did. -/
def fnExactNewCacheSpec : ChangeSpec := { name := "fnExactNewCache", fn := fun _ => fun
  | [d1, d2] => { results := [.lit (.bool true)], args := [d1, d2] }
  | _ => none }
def fnExactNewCacheRow : OpenClaim := { program := "ytjmgleomljfieaa", sum := "dfc025c79c2a6a22c6ad48a2920e5b9710e9aa9ceb17cb56f1dd5114de54be54", func := "loop.example/g00350/laws.FnExactNewCache", spec := "fnExactNewCache", unfollowed := true, recurses := true, apart := false }
def FnExactNewCacheSaid : Prop := fnExactNewCacheRow.holds Try.pinned (OpenSpec.ofChange fnExactNewCacheSpec)

/-- ITS FALSE NEIGHBOUR: 'it returns false'. Refute it at one input. -/
def fnExactNewCacheWrong : ChangeSpec := { name := "fnExactNewCache", fn := fun _ => fun
  | [d1, d2] => { results := [.lit (.bool false)], args := [d1, d2] }
  | _ => none }
def FnExactNewCacheWrongFalsely : Prop := fnExactNewCacheRow.holds Try.pinned (OpenSpec.ofChange fnExactNewCacheWrong)

/-- 'laws.FnExactGoodCache': WHATEVER THE INPUT: true; the input reads as it did. -/
def fnExactGoodCacheSpec : ChangeSpec := { name := "fnExactGoodCache", fn := fun _ => fun
  | [d1, d2] => { results := [.lit (.bool true)], args := [d1, d2] }
  | _ => none }
def fnExactGoodCacheRow : OpenClaim := { program := "ytjmgleomljfieaa", sum := "dfc025c79c2a6a22c6ad48a2920e5b9710e9aa9ceb17cb56f1dd5114de54be54", func := "loop.example/g00350/laws.FnExactGoodCache", spec := "fnExactGoodCache", unfollowed := true, recurses := true, apart := false }
def FnExactGoodCacheSaid : Prop := fnExactGoodCacheRow.holds Try.pinned (OpenSpec.ofChange fnExactGoodCacheSpec)

/-- ITS FALSE NEIGHBOUR: 'it returns false'. Refute it at one input. -/
def fnExactGoodCacheWrong : ChangeSpec := { name := "fnExactGoodCache", fn := fun _ => fun
  | [d1, d2] => { results := [.lit (.bool false)], args := [d1, d2] }
  | _ => none }
def FnExactGoodCacheWrongFalsely : Prop := fnExactGoodCacheRow.holds Try.pinned (OpenSpec.ofChange fnExactGoodCacheWrong)

/-- 'laws.FnWorlds': WHATEVER THE INPUT: true; the input reads as it did. -/
def fnWorldsSpec : ChangeSpec := { name := "fnWorlds", fn := fun _ => fun
  | [d1, d2] => { results := [.lit (.bool true)], args := [d1, d2] }
  | _ => none }
def fnWorldsRow : OpenClaim := { program := "ytjmgleomljfieaa", sum := "dfc025c79c2a6a22c6ad48a2920e5b9710e9aa9ceb17cb56f1dd5114de54be54", func := "loop.example/g00350/laws.FnWorlds", spec := "fnWorlds", unfollowed := true, recurses := true, apart := false }
def FnWorldsSaid : Prop := fnWorldsRow.holds Try.pinned (OpenSpec.ofChange fnWorldsSpec)

/-- ITS FALSE NEIGHBOUR: 'it returns false'. Refute it at one input. -/
def fnWorldsWrong : ChangeSpec := { name := "fnWorlds", fn := fun _ => fun
  | [d1, d2] => { results := [.lit (.bool false)], args := [d1, d2] }
  | _ => none }
def FnWorldsWrongFalsely : Prop := fnWorldsRow.holds Try.pinned (OpenSpec.ofChange fnWorldsWrong)

/-- 'laws.FnExactCallBy': WHATEVER THE INPUT: true; the input reads as it did. -/
def fnExactCallBySpec : ChangeSpec := { name := "fnExactCallBy", fn := fun _ => fun
  | [d1, d2, d3] => { results := [.lit (.bool true)], args := [d1, d2, d3] }
  | _ => none }
def fnExactCallByRow : OpenClaim := { program := "ytjmgleomljfieaa", sum := "dfc025c79c2a6a22c6ad48a2920e5b9710e9aa9ceb17cb56f1dd5114de54be54", func := "loop.example/g00350/laws.FnExactCallBy", spec := "fnExactCallBy", unfollowed := true, recurses := true, apart := false }
def FnExactCallBySaid : Prop := fnExactCallByRow.holds Try.pinned (OpenSpec.ofChange fnExactCallBySpec)

/-- ITS FALSE NEIGHBOUR: 'it returns false'. Refute it at one input. -/
def fnExactCallByWrong : ChangeSpec := { name := "fnExactCallBy", fn := fun _ => fun
  | [d1, d2, d3] => { results := [.lit (.bool false)], args := [d1, d2, d3] }
  | _ => none }
def FnExactCallByWrongFalsely : Prop := fnExactCallByRow.holds Try.pinned (OpenSpec.ofChange fnExactCallByWrong)

/-- 'laws.FnExactPlayCalls': WHATEVER THE INPUT: true; the input reads as it did. -/
def fnExactPlayCallsSpec : ChangeSpec := { name := "fnExactPlayCalls", fn := fun _ => fun
  | [d1, d2, d3] => { results := [.lit (.bool true)], args := [d1, d2, d3] }
  | _ => none }
def fnExactPlayCallsRow : OpenClaim := { program := "ytjmgleomljfieaa", sum := "dfc025c79c2a6a22c6ad48a2920e5b9710e9aa9ceb17cb56f1dd5114de54be54", func := "loop.example/g00350/laws.FnExactPlayCalls", spec := "fnExactPlayCalls", unfollowed := true, recurses := true, apart := false }
def FnExactPlayCallsSaid : Prop := fnExactPlayCallsRow.holds Try.pinned (OpenSpec.ofChange fnExactPlayCallsSpec)

/-- ITS FALSE NEIGHBOUR: 'it returns false'. Refute it at one input. -/
def fnExactPlayCallsWrong : ChangeSpec := { name := "fnExactPlayCalls", fn := fun _ => fun
  | [d1, d2, d3] => { results := [.lit (.bool false)], args := [d1, d2, d3] }
  | _ => none }
def FnExactPlayCallsWrongFalsely : Prop := fnExactPlayCallsRow.holds Try.pinned (OpenSpec.ofChange fnExactPlayCallsWrong)

/-- 'laws.FnCaches': WHATEVER THE INPUT: true; the input reads as it did. -/
def fnCachesSpec : ChangeSpec := { name := "fnCaches", fn := fun _ => fun
  | [d1, d2] => { results := [.lit (.bool true)], args := [d1, d2] }
  | _ => none }
def fnCachesRow : OpenClaim := { program := "ytjmgleomljfieaa", sum := "dfc025c79c2a6a22c6ad48a2920e5b9710e9aa9ceb17cb56f1dd5114de54be54", func := "loop.example/g00350/laws.FnCaches", spec := "fnCaches", unfollowed := true, recurses := true, apart := false }
def FnCachesSaid : Prop := fnCachesRow.holds Try.pinned (OpenSpec.ofChange fnCachesSpec)

/-- ITS FALSE NEIGHBOUR: 'it returns false'. Refute it at one input. -/
def fnCachesWrong : ChangeSpec := { name := "fnCaches", fn := fun _ => fun
  | [d1, d2] => { results := [.lit (.bool false)], args := [d1, d2] }
  | _ => none }
def FnCachesWrongFalsely : Prop := fnCachesRow.holds Try.pinned (OpenSpec.ofChange fnCachesWrong)

/- THE SECOND FORM. 'bulk': how many values and letters a reading holds, each counted each time it is reached (what is shared counts as often as it is met; a slice's spare places count too). A statement '..UptoSaid' is the law's where the arguments, and the package variables that the reading takes, are together of bulk at most 1048576: NARROWER than '..Said'. Prove '..Said' where nothing that the law and all that it calls make is longer than what came in: it says more and counts as full. Else prove '..UptoSaid'. A law counts once. -/
mutual
def uptoBulk {H : Type} : DataW H → Nat
  | .lit (.string bytes) => bytes.length + 1
  | .lit _ => 1
  | .nil => 1
  | .ptr d => uptoBulk d + 1
  | .slice elems spare => uptoBulkAll elems + uptoBulkAll spare + 1
  | .agg parts => uptoBulkAll parts + 1
  | .iface _ d => uptoBulk d + 1
  | .map entries => uptoBulkEntries entries + 1
  | .held _ => 1
def uptoBulkAll {H : Type} : List (DataW H) → Nat
  | [] => 0
  | d :: r => uptoBulk d + uptoBulkAll r
def uptoBulkEntries {H : Type} : List (Lit × DataW H) → Nat
  | [] => 0
  | x :: r => uptoBulkEntry x + uptoBulkEntries r
def uptoBulkEntry {H : Type} : Lit × DataW H → Nat
  | (.string bytes, d) => bytes.length + uptoBulk d + 1
  | (_, d) => uptoBulk d + 1
 end
def uptoSmall : (H : Type) → List (DataW H) → Bool := fun _ ds => decide (uptoBulkAll ds ≤ 1048576)
def OpenSpec.upto (s : _root_.Go.ChangeSpec) : _root_.Go.OpenSpec := { _root_.Go.OpenSpec.ofChange s with cond := some uptoSmall }

/-- 'laws.FnExactGoodWorld', WHERE WHAT IT READS IS OF BULK AT MOST 1048576: true; the input reads as it did. -/
def fnExactGoodWorldUptoRow : OpenClaim := { program := "ytjmgleomljfieaa", sum := "dfc025c79c2a6a22c6ad48a2920e5b9710e9aa9ceb17cb56f1dd5114de54be54", func := "loop.example/g00350/laws.FnExactGoodWorld", spec := "fnExactGoodWorld", unfollowed := true, recurses := true, apart := false, narrowed := true }
def FnExactGoodWorldUptoSaid : Prop := fnExactGoodWorldUptoRow.holds Try.pinned (OpenSpec.upto fnExactGoodWorldSpec)

/-- 'laws.FnExactSubclassOf', WHERE WHAT IT READS IS OF BULK AT MOST 1048576: true; the input reads as it did. -/
def fnExactSubclassOfUptoRow : OpenClaim := { program := "ytjmgleomljfieaa", sum := "dfc025c79c2a6a22c6ad48a2920e5b9710e9aa9ceb17cb56f1dd5114de54be54", func := "loop.example/g00350/laws.FnExactSubclassOf", spec := "fnExactSubclassOf", unfollowed := true, recurses := true, apart := false, narrowed := true }
def FnExactSubclassOfUptoSaid : Prop := fnExactSubclassOfUptoRow.holds Try.pinned (OpenSpec.upto fnExactSubclassOfSpec)

/-- 'laws.FnExactFindMethod', WHERE WHAT IT READS IS OF BULK AT MOST 1048576: true; the input reads as it did. -/
def fnExactFindMethodUptoRow : OpenClaim := { program := "ytjmgleomljfieaa", sum := "dfc025c79c2a6a22c6ad48a2920e5b9710e9aa9ceb17cb56f1dd5114de54be54", func := "loop.example/g00350/laws.FnExactFindMethod", spec := "fnExactFindMethod", unfollowed := true, recurses := true, apart := false, narrowed := true }
def FnExactFindMethodUptoSaid : Prop := fnExactFindMethodUptoRow.holds Try.pinned (OpenSpec.upto fnExactFindMethodSpec)

/-- 'laws.FnExactSetMethod', WHERE WHAT IT READS IS OF BULK AT MOST 1048576: true; the input reads as it did. -/
def fnExactSetMethodUptoRow : OpenClaim := { program := "ytjmgleomljfieaa", sum := "dfc025c79c2a6a22c6ad48a2920e5b9710e9aa9ceb17cb56f1dd5114de54be54", func := "loop.example/g00350/laws.FnExactSetMethod", spec := "fnExactSetMethod", unfollowed := true, recurses := true, apart := false, narrowed := true }
def FnExactSetMethodUptoSaid : Prop := fnExactSetMethodUptoRow.holds Try.pinned (OpenSpec.upto fnExactSetMethodSpec)

/-- 'laws.FnExactNewCache', WHERE WHAT IT READS IS OF BULK AT MOST 1048576: true; the input reads as it did. -/
def fnExactNewCacheUptoRow : OpenClaim := { program := "ytjmgleomljfieaa", sum := "dfc025c79c2a6a22c6ad48a2920e5b9710e9aa9ceb17cb56f1dd5114de54be54", func := "loop.example/g00350/laws.FnExactNewCache", spec := "fnExactNewCache", unfollowed := true, recurses := true, apart := false, narrowed := true }
def FnExactNewCacheUptoSaid : Prop := fnExactNewCacheUptoRow.holds Try.pinned (OpenSpec.upto fnExactNewCacheSpec)

/-- 'laws.FnExactGoodCache', WHERE WHAT IT READS IS OF BULK AT MOST 1048576: true; the input reads as it did. -/
def fnExactGoodCacheUptoRow : OpenClaim := { program := "ytjmgleomljfieaa", sum := "dfc025c79c2a6a22c6ad48a2920e5b9710e9aa9ceb17cb56f1dd5114de54be54", func := "loop.example/g00350/laws.FnExactGoodCache", spec := "fnExactGoodCache", unfollowed := true, recurses := true, apart := false, narrowed := true }
def FnExactGoodCacheUptoSaid : Prop := fnExactGoodCacheUptoRow.holds Try.pinned (OpenSpec.upto fnExactGoodCacheSpec)

/-- 'laws.FnWorlds', WHERE WHAT IT READS IS OF BULK AT MOST 1048576: true; the input reads as it did. -/
def fnWorldsUptoRow : OpenClaim := { program := "ytjmgleomljfieaa", sum := "dfc025c79c2a6a22c6ad48a2920e5b9710e9aa9ceb17cb56f1dd5114de54be54", func := "loop.example/g00350/laws.FnWorlds", spec := "fnWorlds", unfollowed := true, recurses := true, apart := false, narrowed := true }
def FnWorldsUptoSaid : Prop := fnWorldsUptoRow.holds Try.pinned (OpenSpec.upto fnWorldsSpec)

/-- 'laws.FnExactCallBy', WHERE WHAT IT READS IS OF BULK AT MOST 1048576: true; the input reads as it did. -/
def fnExactCallByUptoRow : OpenClaim := { program := "ytjmgleomljfieaa", sum := "dfc025c79c2a6a22c6ad48a2920e5b9710e9aa9ceb17cb56f1dd5114de54be54", func := "loop.example/g00350/laws.FnExactCallBy", spec := "fnExactCallBy", unfollowed := true, recurses := true, apart := false, narrowed := true }
def FnExactCallByUptoSaid : Prop := fnExactCallByUptoRow.holds Try.pinned (OpenSpec.upto fnExactCallBySpec)

/-- 'laws.FnExactPlayCalls', WHERE WHAT IT READS IS OF BULK AT MOST 1048576: true; the input reads as it did. -/
def fnExactPlayCallsUptoRow : OpenClaim := { program := "ytjmgleomljfieaa", sum := "dfc025c79c2a6a22c6ad48a2920e5b9710e9aa9ceb17cb56f1dd5114de54be54", func := "loop.example/g00350/laws.FnExactPlayCalls", spec := "fnExactPlayCalls", unfollowed := true, recurses := true, apart := false, narrowed := true }
def FnExactPlayCallsUptoSaid : Prop := fnExactPlayCallsUptoRow.holds Try.pinned (OpenSpec.upto fnExactPlayCallsSpec)

/-- 'laws.FnCaches', WHERE WHAT IT READS IS OF BULK AT MOST 1048576: true; the input reads as it did. -/
def fnCachesUptoRow : OpenClaim := { program := "ytjmgleomljfieaa", sum := "dfc025c79c2a6a22c6ad48a2920e5b9710e9aa9ceb17cb56f1dd5114de54be54", func := "loop.example/g00350/laws.FnCaches", spec := "fnCaches", unfollowed := true, recurses := true, apart := false, narrowed := true }
def FnCachesUptoSaid : Prop := fnCachesUptoRow.holds Try.pinned (OpenSpec.upto fnCachesSpec)

end Rows
end Go.Proofs.Ytjmgleomljfieaa
