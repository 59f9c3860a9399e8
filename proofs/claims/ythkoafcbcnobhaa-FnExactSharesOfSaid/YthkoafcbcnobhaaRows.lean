/-
  No cell of these rows narrows 'for every input' (looked for: loops, veiled, ifaces, maps, wideKeys, modest, calm, conditions, laid).
  DERIVED. THE GIVEN ROWS OF THIS SEAT. 10 by the template 'for every input the law returns true; each argument reads behind the call as it read before'; 0 by the template 'total and deterministic' (their statements: YthkoafcbcnobhaaTotals.lean).
  GIVEN WITH THE SEED: the statements are not yours to turn. If you find one false, say at which input.
  Laid BY PROGRAM, IN A SANDBOX (cutbox-rows.mjs): the forced cells as the released guide's own fill.sh prints them over the translation 13a86a092df0ece8… (all of the seat's roots in one cut). By AI agents, Wed Nov 11 2026. No macro, syntax, notation, axiom, sorry.
-/
import Derived.Test.YthkoafcbcnobhaaChecked
import GoSem.Claim
import GoSem.ClaimJoined
import GoSem.ClaimMapViews
import Derived.JoinedTies
import Derived.KernelRfl
namespace Go.Proofs.Ythkoafcbcnobhaa
/- THE CELL 'sum', in the pinned program and in every row, IS THE sha256 OF THE DUMP (.gsa) THAT YthkoafcbcnobhaaProg.lean LOADS. Nothing in Lean hashes anything: it is a label: what it is worth is what the hold of that sum in a sandbox is worth. -/
noncomputable def Try.pinned : Pinned := { name := "ythkoafcbcnobhaa", sum := "13a86a092df0ece851ed460877c1e50655e440fd2ffa0ce34d4651a8bf110539", checked := Try.checked }
namespace Rows
def none {H : Type} : Left H := { results := [], args := [] }

/-- 'laws.FnExactSharesCost': WHATEVER THE INPUT: true; the input reads as it did. -/
def fnExactSharesCostSpec : ChangeSpec := { name := "fnExactSharesCost", fn := fun _ => fun
  | [d1, d2] => { results := [.lit (.bool true)], args := [d1, d2] }
  | _ => none }
def fnExactSharesCostRow : OpenClaim := { program := "ythkoafcbcnobhaa", sum := "13a86a092df0ece851ed460877c1e50655e440fd2ffa0ce34d4651a8bf110539", func := "loop.example/mediarelay/laws.FnExactSharesCost", spec := "fnExactSharesCost", apart := false }
def FnExactSharesCostSaid : Prop := fnExactSharesCostRow.holds Try.pinned (OpenSpec.ofChange fnExactSharesCostSpec)

/-- ITS FALSE NEIGHBOUR: 'it returns false'. Refute it at one input. -/
def fnExactSharesCostWrong : ChangeSpec := { name := "fnExactSharesCost", fn := fun _ => fun
  | [d1, d2] => { results := [.lit (.bool false)], args := [d1, d2] }
  | _ => none }
def FnExactSharesCostWrongFalsely : Prop := fnExactSharesCostRow.holds Try.pinned (OpenSpec.ofChange fnExactSharesCostWrong)

/-- 'laws.FnCost': WHATEVER THE INPUT: true; the input reads as it did. -/
def fnCostSpec : ChangeSpec := { name := "fnCost", fn := fun _ => fun
  | [d] => { results := [.lit (.bool true)], args := [d] }
  | _ => none }
def fnCostRow : OpenClaim := { program := "ythkoafcbcnobhaa", sum := "13a86a092df0ece851ed460877c1e50655e440fd2ffa0ce34d4651a8bf110539", func := "loop.example/mediarelay/laws.FnCost", spec := "fnCost", apart := false }
def FnCostSaid : Prop := fnCostRow.holds Try.pinned (OpenSpec.ofChange fnCostSpec)

/-- ITS FALSE NEIGHBOUR: 'it returns false'. Refute it at one input. -/
def fnCostWrong : ChangeSpec := { name := "fnCost", fn := fun _ => fun
  | [d] => { results := [.lit (.bool false)], args := [d] }
  | _ => none }
def FnCostWrongFalsely : Prop := fnCostRow.holds Try.pinned (OpenSpec.ofChange fnCostWrong)

/-- 'laws.FnCostMore': WHATEVER THE INPUT: true; the input reads as it did. -/
def fnCostMoreSpec : ChangeSpec := { name := "fnCostMore", fn := fun _ => fun
  | [d1, d2] => { results := [.lit (.bool true)], args := [d1, d2] }
  | _ => none }
def fnCostMoreRow : OpenClaim := { program := "ythkoafcbcnobhaa", sum := "13a86a092df0ece851ed460877c1e50655e440fd2ffa0ce34d4651a8bf110539", func := "loop.example/mediarelay/laws.FnCostMore", spec := "fnCostMore", apart := false }
def FnCostMoreSaid : Prop := fnCostMoreRow.holds Try.pinned (OpenSpec.ofChange fnCostMoreSpec)

/-- ITS FALSE NEIGHBOUR: 'it returns false'. Refute it at one input. -/
def fnCostMoreWrong : ChangeSpec := { name := "fnCostMore", fn := fun _ => fun
  | [d1, d2] => { results := [.lit (.bool false)], args := [d1, d2] }
  | _ => none }
def FnCostMoreWrongFalsely : Prop := fnCostMoreRow.holds Try.pinned (OpenSpec.ofChange fnCostMoreWrong)

/-- 'laws.FnSharesWhen': WHATEVER THE INPUT: true; the input reads as it did. -/
def fnSharesWhenSpec : ChangeSpec := { name := "fnSharesWhen", fn := fun _ => fun
  | [d] => { results := [.lit (.bool true)], args := [d] }
  | _ => none }
def fnSharesWhenRow : OpenClaim := { program := "ythkoafcbcnobhaa", sum := "13a86a092df0ece851ed460877c1e50655e440fd2ffa0ce34d4651a8bf110539", func := "loop.example/mediarelay/laws.FnSharesWhen", spec := "fnSharesWhen", apart := false }
def FnSharesWhenSaid : Prop := fnSharesWhenRow.holds Try.pinned (OpenSpec.ofChange fnSharesWhenSpec)

/-- ITS FALSE NEIGHBOUR: 'it returns false'. Refute it at one input. -/
def fnSharesWhenWrong : ChangeSpec := { name := "fnSharesWhen", fn := fun _ => fun
  | [d] => { results := [.lit (.bool false)], args := [d] }
  | _ => none }
def FnSharesWhenWrongFalsely : Prop := fnSharesWhenRow.holds Try.pinned (OpenSpec.ofChange fnSharesWhenWrong)

/-- 'laws.FnExactSharesFull': WHATEVER THE INPUT: true; the input reads as it did. -/
def fnExactSharesFullSpec : ChangeSpec := { name := "fnExactSharesFull", fn := fun _ => fun
  | [d1, d2, d3] => { results := [.lit (.bool true)], args := [d1, d2, d3] }
  | _ => none }
def fnExactSharesFullRow : OpenClaim := { program := "ythkoafcbcnobhaa", sum := "13a86a092df0ece851ed460877c1e50655e440fd2ffa0ce34d4651a8bf110539", func := "loop.example/mediarelay/laws.FnExactSharesFull", spec := "fnExactSharesFull", apart := false }
def FnExactSharesFullSaid : Prop := fnExactSharesFullRow.holds Try.pinned (OpenSpec.ofChange fnExactSharesFullSpec)

/-- ITS FALSE NEIGHBOUR: 'it returns false'. Refute it at one input. -/
def fnExactSharesFullWrong : ChangeSpec := { name := "fnExactSharesFull", fn := fun _ => fun
  | [d1, d2, d3] => { results := [.lit (.bool false)], args := [d1, d2, d3] }
  | _ => none }
def FnExactSharesFullWrongFalsely : Prop := fnExactSharesFullRow.holds Try.pinned (OpenSpec.ofChange fnExactSharesFullWrong)

/-- 'laws.FnSharesEqual': WHATEVER THE INPUT: true; the input reads as it did. -/
def fnSharesEqualSpec : ChangeSpec := { name := "fnSharesEqual", fn := fun _ => fun
  | [d] => { results := [.lit (.bool true)], args := [d] }
  | _ => none }
def fnSharesEqualRow : OpenClaim := { program := "ythkoafcbcnobhaa", sum := "13a86a092df0ece851ed460877c1e50655e440fd2ffa0ce34d4651a8bf110539", func := "loop.example/mediarelay/laws.FnSharesEqual", spec := "fnSharesEqual", unfollowed := true, recurses := true, apart := false }
def FnSharesEqualSaid : Prop := fnSharesEqualRow.holds Try.pinned (OpenSpec.ofChange fnSharesEqualSpec)

/-- ITS FALSE NEIGHBOUR: 'it returns false'. Refute it at one input. -/
def fnSharesEqualWrong : ChangeSpec := { name := "fnSharesEqual", fn := fun _ => fun
  | [d] => { results := [.lit (.bool false)], args := [d] }
  | _ => none }
def FnSharesEqualWrongFalsely : Prop := fnSharesEqualRow.holds Try.pinned (OpenSpec.ofChange fnSharesEqualWrong)

/-- 'laws.FnSharesMost': WHATEVER THE INPUT: true; the input reads as it did. -/
def fnSharesMostSpec : ChangeSpec := { name := "fnSharesMost", fn := fun _ => fun
  | [d] => { results := [.lit (.bool true)], args := [d] }
  | _ => none }
def fnSharesMostRow : OpenClaim := { program := "ythkoafcbcnobhaa", sum := "13a86a092df0ece851ed460877c1e50655e440fd2ffa0ce34d4651a8bf110539", func := "loop.example/mediarelay/laws.FnSharesMost", spec := "fnSharesMost", unfollowed := true, recurses := true, apart := false }
def FnSharesMostSaid : Prop := fnSharesMostRow.holds Try.pinned (OpenSpec.ofChange fnSharesMostSpec)

/-- ITS FALSE NEIGHBOUR: 'it returns false'. Refute it at one input. -/
def fnSharesMostWrong : ChangeSpec := { name := "fnSharesMost", fn := fun _ => fun
  | [d] => { results := [.lit (.bool false)], args := [d] }
  | _ => none }
def FnSharesMostWrongFalsely : Prop := fnSharesMostRow.holds Try.pinned (OpenSpec.ofChange fnSharesMostWrong)

/-- 'laws.FnShares': WHATEVER THE INPUT: true; the input reads as it did. -/
def fnSharesSpec : ChangeSpec := { name := "fnShares", fn := fun _ => fun
  | [d] => { results := [.lit (.bool true)], args := [d] }
  | _ => none }
def fnSharesRow : OpenClaim := { program := "ythkoafcbcnobhaa", sum := "13a86a092df0ece851ed460877c1e50655e440fd2ffa0ce34d4651a8bf110539", func := "loop.example/mediarelay/laws.FnShares", spec := "fnShares", unfollowed := true, recurses := true, apart := false }
def FnSharesSaid : Prop := fnSharesRow.holds Try.pinned (OpenSpec.ofChange fnSharesSpec)

/-- ITS FALSE NEIGHBOUR: 'it returns false'. Refute it at one input. -/
def fnSharesWrong : ChangeSpec := { name := "fnShares", fn := fun _ => fun
  | [d] => { results := [.lit (.bool false)], args := [d] }
  | _ => none }
def FnSharesWrongFalsely : Prop := fnSharesRow.holds Try.pinned (OpenSpec.ofChange fnSharesWrong)

/-- 'laws.FnSharesFull': WHATEVER THE INPUT: true; the input reads as it did. -/
def fnSharesFullSpec : ChangeSpec := { name := "fnSharesFull", fn := fun _ => fun
  | [d] => { results := [.lit (.bool true)], args := [d] }
  | _ => none }
def fnSharesFullRow : OpenClaim := { program := "ythkoafcbcnobhaa", sum := "13a86a092df0ece851ed460877c1e50655e440fd2ffa0ce34d4651a8bf110539", func := "loop.example/mediarelay/laws.FnSharesFull", spec := "fnSharesFull", unfollowed := true, recurses := true, apart := false }
def FnSharesFullSaid : Prop := fnSharesFullRow.holds Try.pinned (OpenSpec.ofChange fnSharesFullSpec)

/-- ITS FALSE NEIGHBOUR: 'it returns false'. Refute it at one input. -/
def fnSharesFullWrong : ChangeSpec := { name := "fnSharesFull", fn := fun _ => fun
  | [d] => { results := [.lit (.bool false)], args := [d] }
  | _ => none }
def FnSharesFullWrongFalsely : Prop := fnSharesFullRow.holds Try.pinned (OpenSpec.ofChange fnSharesFullWrong)

/-- 'laws.FnExactSharesOf': WHATEVER THE INPUT: true; the input reads as it did. -/
def fnExactSharesOfSpec : ChangeSpec := { name := "fnExactSharesOf", fn := fun _ => fun
  | [d1, d2] => { results := [.lit (.bool true)], args := [d1, d2] }
  | _ => none }
def fnExactSharesOfRow : OpenClaim := { program := "ythkoafcbcnobhaa", sum := "13a86a092df0ece851ed460877c1e50655e440fd2ffa0ce34d4651a8bf110539", func := "loop.example/mediarelay/laws.FnExactSharesOf", spec := "fnExactSharesOf", unfollowed := true, recurses := true, apart := false }
def FnExactSharesOfSaid : Prop := fnExactSharesOfRow.holds Try.pinned (OpenSpec.ofChange fnExactSharesOfSpec)

/-- ITS FALSE NEIGHBOUR: 'it returns false'. Refute it at one input. -/
def fnExactSharesOfWrong : ChangeSpec := { name := "fnExactSharesOf", fn := fun _ => fun
  | [d1, d2] => { results := [.lit (.bool false)], args := [d1, d2] }
  | _ => none }
def FnExactSharesOfWrongFalsely : Prop := fnExactSharesOfRow.holds Try.pinned (OpenSpec.ofChange fnExactSharesOfWrong)

/- THE SECOND FORM. 'bulk': how many values and letters a reading holds, each counted each time it is reached (what is shared counts as often as it is met; a slice's spare places count too). A statement '..UptoSaid' is the law's where the arguments, and the package variables that the reading takes, are together of bulk at most 1048576: NARROWER than '..Said'. Prove '..Said' where nothing that the law and all that it calls make is longer than what came in: it says more and counts as full. Else prove '..UptoSaid'. A law counts once. -/
mutual
def uptoBulk {H : Type} : DataW H → Nat
  | .lit (.string bytes) => bytes.length + 1
  | .lit _ => 1
  | .nil => 1
  | .ptr d => uptoBulk d + 1
  | .slice elems spare => uptoBulkAll elems + uptoBulkAll spare + 1
  | .agg parts => uptoBulkAll parts + 1
  | .iface _ d => uptoBulk d + 1
  | .map entries => uptoBulkEntries entries + 1
  | .held _ => 1
def uptoBulkAll {H : Type} : List (DataW H) → Nat
  | [] => 0
  | d :: r => uptoBulk d + uptoBulkAll r
def uptoBulkEntries {H : Type} : List (Lit × DataW H) → Nat
  | [] => 0
  | x :: r => uptoBulkEntry x + uptoBulkEntries r
def uptoBulkEntry {H : Type} : Lit × DataW H → Nat
  | (.string bytes, d) => bytes.length + uptoBulk d + 1
  | (_, d) => uptoBulk d + 1
 end
def uptoSmall : (H : Type) → List (DataW H) → Bool := fun _ ds => decide (uptoBulkAll ds ≤ 1048576)
def OpenSpec.upto (s : _root_.Go.ChangeSpec) : _root_.Go.OpenSpec := { _root_.Go.OpenSpec.ofChange s with cond := some uptoSmall }

/-- 'laws.FnExactSharesCost', WHERE WHAT IT READS IS OF BULK AT MOST 1048576: true; the input reads as it did. -/
def fnExactSharesCostUptoRow : OpenClaim := { program := "ythkoafcbcnobhaa", sum := "13a86a092df0ece851ed460877c1e50655e440fd2ffa0ce34d4651a8bf110539", func := "loop.example/mediarelay/laws.FnExactSharesCost", spec := "fnExactSharesCost", apart := false, narrowed := true }
def FnExactSharesCostUptoSaid : Prop := fnExactSharesCostUptoRow.holds Try.pinned (OpenSpec.upto fnExactSharesCostSpec)

/-- 'laws.FnCost', WHERE WHAT IT READS IS OF BULK AT MOST 1048576: true; the input reads as it did. -/
def fnCostUptoRow : OpenClaim := { program := "ythkoafcbcnobhaa", sum := "13a86a092df0ece851ed460877c1e50655e440fd2ffa0ce34d4651a8bf110539", func := "loop.example/mediarelay/laws.FnCost", spec := "fnCost", apart := false, narrowed := true }
def FnCostUptoSaid : Prop := fnCostUptoRow.holds Try.pinned (OpenSpec.upto fnCostSpec)

/-- 'laws.FnCostMore', WHERE WHAT IT READS IS OF BULK AT MOST 1048576: true; the input reads as it did. -/
def fnCostMoreUptoRow : OpenClaim := { program := "ythkoafcbcnobhaa", sum := "13a86a092df0ece851ed460877c1e50655e440fd2ffa0ce34d4651a8bf110539", func := "loop.example/mediarelay/laws.FnCostMore", spec := "fnCostMore", apart := false, narrowed := true }
def FnCostMoreUptoSaid : Prop := fnCostMoreUptoRow.holds Try.pinned (OpenSpec.upto fnCostMoreSpec)

/-- 'laws.FnSharesWhen', WHERE WHAT IT READS IS OF BULK AT MOST 1048576: true; the input reads as it did. -/
def fnSharesWhenUptoRow : OpenClaim := { program := "ythkoafcbcnobhaa", sum := "13a86a092df0ece851ed460877c1e50655e440fd2ffa0ce34d4651a8bf110539", func := "loop.example/mediarelay/laws.FnSharesWhen", spec := "fnSharesWhen", apart := false, narrowed := true }
def FnSharesWhenUptoSaid : Prop := fnSharesWhenUptoRow.holds Try.pinned (OpenSpec.upto fnSharesWhenSpec)

/-- 'laws.FnExactSharesFull', WHERE WHAT IT READS IS OF BULK AT MOST 1048576: true; the input reads as it did. -/
def fnExactSharesFullUptoRow : OpenClaim := { program := "ythkoafcbcnobhaa", sum := "13a86a092df0ece851ed460877c1e50655e440fd2ffa0ce34d4651a8bf110539", func := "loop.example/mediarelay/laws.FnExactSharesFull", spec := "fnExactSharesFull", apart := false, narrowed := true }
def FnExactSharesFullUptoSaid : Prop := fnExactSharesFullUptoRow.holds Try.pinned (OpenSpec.upto fnExactSharesFullSpec)

/-- 'laws.FnSharesEqual', WHERE WHAT IT READS IS OF BULK AT MOST 1048576: true; the input reads as it did. -/
def fnSharesEqualUptoRow : OpenClaim := { program := "ythkoafcbcnobhaa", sum := "13a86a092df0ece851ed460877c1e50655e440fd2ffa0ce34d4651a8bf110539", func := "loop.example/mediarelay/laws.FnSharesEqual", spec := "fnSharesEqual", unfollowed := true, recurses := true, apart := false, narrowed := true }
def FnSharesEqualUptoSaid : Prop := fnSharesEqualUptoRow.holds Try.pinned (OpenSpec.upto fnSharesEqualSpec)

/-- 'laws.FnSharesMost', WHERE WHAT IT READS IS OF BULK AT MOST 1048576: true; the input reads as it did. -/
def fnSharesMostUptoRow : OpenClaim := { program := "ythkoafcbcnobhaa", sum := "13a86a092df0ece851ed460877c1e50655e440fd2ffa0ce34d4651a8bf110539", func := "loop.example/mediarelay/laws.FnSharesMost", spec := "fnSharesMost", unfollowed := true, recurses := true, apart := false, narrowed := true }
def FnSharesMostUptoSaid : Prop := fnSharesMostUptoRow.holds Try.pinned (OpenSpec.upto fnSharesMostSpec)

/-- 'laws.FnShares', WHERE WHAT IT READS IS OF BULK AT MOST 1048576: true; the input reads as it did. -/
def fnSharesUptoRow : OpenClaim := { program := "ythkoafcbcnobhaa", sum := "13a86a092df0ece851ed460877c1e50655e440fd2ffa0ce34d4651a8bf110539", func := "loop.example/mediarelay/laws.FnShares", spec := "fnShares", unfollowed := true, recurses := true, apart := false, narrowed := true }
def FnSharesUptoSaid : Prop := fnSharesUptoRow.holds Try.pinned (OpenSpec.upto fnSharesSpec)

/-- 'laws.FnSharesFull', WHERE WHAT IT READS IS OF BULK AT MOST 1048576: true; the input reads as it did. -/
def fnSharesFullUptoRow : OpenClaim := { program := "ythkoafcbcnobhaa", sum := "13a86a092df0ece851ed460877c1e50655e440fd2ffa0ce34d4651a8bf110539", func := "loop.example/mediarelay/laws.FnSharesFull", spec := "fnSharesFull", unfollowed := true, recurses := true, apart := false, narrowed := true }
def FnSharesFullUptoSaid : Prop := fnSharesFullUptoRow.holds Try.pinned (OpenSpec.upto fnSharesFullSpec)

/-- 'laws.FnExactSharesOf', WHERE WHAT IT READS IS OF BULK AT MOST 1048576: true; the input reads as it did. -/
def fnExactSharesOfUptoRow : OpenClaim := { program := "ythkoafcbcnobhaa", sum := "13a86a092df0ece851ed460877c1e50655e440fd2ffa0ce34d4651a8bf110539", func := "loop.example/mediarelay/laws.FnExactSharesOf", spec := "fnExactSharesOf", unfollowed := true, recurses := true, apart := false, narrowed := true }
def FnExactSharesOfUptoSaid : Prop := fnExactSharesOfUptoRow.holds Try.pinned (OpenSpec.upto fnExactSharesOfSpec)

end Rows
end Go.Proofs.Ythkoafcbcnobhaa
