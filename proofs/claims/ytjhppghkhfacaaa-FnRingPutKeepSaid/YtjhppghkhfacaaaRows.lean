/-
  No cell of these rows narrows 'for every input' (looked for: loops, veiled, ifaces, maps, wideKeys, modest, calm, conditions, laid).
  DERIVED. THE GIVEN ROWS OF THIS SEAT. 4 by the template 'for every input the law returns true; each argument reads behind the call as it read before'; 0 by the template 'total and deterministic' (their statements: YtjhppghkhfacaaaTotals.lean).
  GIVEN WITH THE SEED: the statements are not yours to turn. If you find one false, say at which input.
  Laid BY PROGRAM, IN A SANDBOX (cutbox-rows.mjs): the forced cells as the released guide's own fill.sh prints them over the translation 99dea0aeebb11417… (all of the seat's roots in one cut). By AI agents, Wed Nov 11 2026. No macro, syntax, notation, axiom, sorry.
-/
import Derived.Test.YtjhppghkhfacaaaChecked
import GoSem.Claim
import GoSem.ClaimJoined
import GoSem.ClaimMapViews
import Derived.JoinedTies
import Derived.KernelRfl
namespace Go.Proofs.Ytjhppghkhfacaaa
/- THE CELL 'sum', in the pinned program and in every row, IS THE sha256 OF THE DUMP (.gsa) THAT YtjhppghkhfacaaaProg.lean LOADS. Nothing in Lean hashes anything: it is a label: what it is worth is what the hold of that sum in a sandbox is worth. -/
noncomputable def Try.pinned : Pinned := { name := "ytjhppghkhfacaaa", sum := "99dea0aeebb11417a91800aaf81d7ad19f36bf7d392448655d43e9443993c7a4", checked := Try.checked }
namespace Rows
def none {H : Type} : Left H := { results := [], args := [] }

/-- 'laws.FnRingPutDrop': WHATEVER THE INPUT: true; the input reads as it did. -/
def fnRingPutDropSpec : ChangeSpec := { name := "fnRingPutDrop", fn := fun _ => fun
  | [d] => { results := [.lit (.bool true)], args := [d] }
  | _ => none }
def fnRingPutDropRow : OpenClaim := { program := "ytjhppghkhfacaaa", sum := "99dea0aeebb11417a91800aaf81d7ad19f36bf7d392448655d43e9443993c7a4", func := "loop.example/mediarelay/laws.FnRingPutDrop", spec := "fnRingPutDrop", apart := false }
def FnRingPutDropSaid : Prop := fnRingPutDropRow.holds Try.pinned (OpenSpec.ofChange fnRingPutDropSpec)

/-- ITS FALSE NEIGHBOUR: 'it returns false'. Refute it at one input. -/
def fnRingPutDropWrong : ChangeSpec := { name := "fnRingPutDrop", fn := fun _ => fun
  | [d] => { results := [.lit (.bool false)], args := [d] }
  | _ => none }
def FnRingPutDropWrongFalsely : Prop := fnRingPutDropRow.holds Try.pinned (OpenSpec.ofChange fnRingPutDropWrong)

/-- 'laws.FnRingPut': WHATEVER THE INPUT: true; the input reads as it did. -/
def fnRingPutSpec : ChangeSpec := { name := "fnRingPut", fn := fun _ => fun
  | [d] => { results := [.lit (.bool true)], args := [d] }
  | _ => none }
def fnRingPutRow : OpenClaim := { program := "ytjhppghkhfacaaa", sum := "99dea0aeebb11417a91800aaf81d7ad19f36bf7d392448655d43e9443993c7a4", func := "loop.example/mediarelay/laws.FnRingPut", spec := "fnRingPut", apart := false }
def FnRingPutSaid : Prop := fnRingPutRow.holds Try.pinned (OpenSpec.ofChange fnRingPutSpec)

/-- ITS FALSE NEIGHBOUR: 'it returns false'. Refute it at one input. -/
def fnRingPutWrong : ChangeSpec := { name := "fnRingPut", fn := fun _ => fun
  | [d] => { results := [.lit (.bool false)], args := [d] }
  | _ => none }
def FnRingPutWrongFalsely : Prop := fnRingPutRow.holds Try.pinned (OpenSpec.ofChange fnRingPutWrong)

/-- 'laws.FnRingPutKeep': WHATEVER THE INPUT: true; the input reads as it did. -/
def fnRingPutKeepSpec : ChangeSpec := { name := "fnRingPutKeep", fn := fun _ => fun
  | [d] => { results := [.lit (.bool true)], args := [d] }
  | _ => none }
def fnRingPutKeepRow : OpenClaim := { program := "ytjhppghkhfacaaa", sum := "99dea0aeebb11417a91800aaf81d7ad19f36bf7d392448655d43e9443993c7a4", func := "loop.example/mediarelay/laws.FnRingPutKeep", spec := "fnRingPutKeep", apart := false }
def FnRingPutKeepSaid : Prop := fnRingPutKeepRow.holds Try.pinned (OpenSpec.ofChange fnRingPutKeepSpec)

/-- ITS FALSE NEIGHBOUR: 'it returns false'. Refute it at one input. -/
def fnRingPutKeepWrong : ChangeSpec := { name := "fnRingPutKeep", fn := fun _ => fun
  | [d] => { results := [.lit (.bool false)], args := [d] }
  | _ => none }
def FnRingPutKeepWrongFalsely : Prop := fnRingPutKeepRow.holds Try.pinned (OpenSpec.ofChange fnRingPutKeepWrong)

/-- 'laws.FnExactRingPut': WHATEVER THE INPUT: true; the input reads as it did. -/
def fnExactRingPutSpec : ChangeSpec := { name := "fnExactRingPut", fn := fun _ => fun
  | [d1, d2] => { results := [.lit (.bool true)], args := [d1, d2] }
  | _ => none }
def fnExactRingPutRow : OpenClaim := { program := "ytjhppghkhfacaaa", sum := "99dea0aeebb11417a91800aaf81d7ad19f36bf7d392448655d43e9443993c7a4", func := "loop.example/mediarelay/laws.FnExactRingPut", spec := "fnExactRingPut", apart := false }
def FnExactRingPutSaid : Prop := fnExactRingPutRow.holds Try.pinned (OpenSpec.ofChange fnExactRingPutSpec)

/-- ITS FALSE NEIGHBOUR: 'it returns false'. Refute it at one input. -/
def fnExactRingPutWrong : ChangeSpec := { name := "fnExactRingPut", fn := fun _ => fun
  | [d1, d2] => { results := [.lit (.bool false)], args := [d1, d2] }
  | _ => none }
def FnExactRingPutWrongFalsely : Prop := fnExactRingPutRow.holds Try.pinned (OpenSpec.ofChange fnExactRingPutWrong)

/- THE SECOND FORM. 'bulk': how many values and letters a reading holds, each counted each time it is reached (what is shared counts as often as it is met; a slice's spare places count too). A statement '..UptoSaid' is the law's where the arguments, and the package variables that the reading takes, are together of bulk at most 1048576: NARROWER than '..Said'. Prove '..Said' where nothing that the law and all that it calls make is longer than what came in: it says more and counts as full. Else prove '..UptoSaid'. A law counts once. -/
mutual
def uptoBulk {H : Type} : DataW H → Nat
  | .lit (.string bytes) => bytes.length + 1
  | .lit _ => 1
  | .nil => 1
  | .ptr d => uptoBulk d + 1
  | .slice elems spare => uptoBulkAll elems + uptoBulkAll spare + 1
  | .agg parts => uptoBulkAll parts + 1
  | .iface _ d => uptoBulk d + 1
  | .map entries => uptoBulkEntries entries + 1
  | .held _ => 1
def uptoBulkAll {H : Type} : List (DataW H) → Nat
  | [] => 0
  | d :: r => uptoBulk d + uptoBulkAll r
def uptoBulkEntries {H : Type} : List (Lit × DataW H) → Nat
  | [] => 0
  | x :: r => uptoBulkEntry x + uptoBulkEntries r
def uptoBulkEntry {H : Type} : Lit × DataW H → Nat
  | (.string bytes, d) => bytes.length + uptoBulk d + 1
  | (_, d) => uptoBulk d + 1
 end
def uptoSmall : (H : Type) → List (DataW H) → Bool := fun _ ds => decide (uptoBulkAll ds ≤ 1048576)
def OpenSpec.upto (s : _root_.Go.ChangeSpec) : _root_.Go.OpenSpec := { _root_.Go.OpenSpec.ofChange s with cond := some uptoSmall }

/-- 'laws.FnRingPutDrop', WHERE WHAT IT READS IS OF BULK AT MOST 1048576: true; the input reads as it did. -/
def fnRingPutDropUptoRow : OpenClaim := { program := "ytjhppghkhfacaaa", sum := "99dea0aeebb11417a91800aaf81d7ad19f36bf7d392448655d43e9443993c7a4", func := "loop.example/mediarelay/laws.FnRingPutDrop", spec := "fnRingPutDrop", apart := false, narrowed := true }
def FnRingPutDropUptoSaid : Prop := fnRingPutDropUptoRow.holds Try.pinned (OpenSpec.upto fnRingPutDropSpec)

/-- 'laws.FnRingPut', WHERE WHAT IT READS IS OF BULK AT MOST 1048576: true; the input reads as it did. -/
def fnRingPutUptoRow : OpenClaim := { program := "ytjhppghkhfacaaa", sum := "99dea0aeebb11417a91800aaf81d7ad19f36bf7d392448655d43e9443993c7a4", func := "loop.example/mediarelay/laws.FnRingPut", spec := "fnRingPut", apart := false, narrowed := true }
def FnRingPutUptoSaid : Prop := fnRingPutUptoRow.holds Try.pinned (OpenSpec.upto fnRingPutSpec)

/-- 'laws.FnRingPutKeep', WHERE WHAT IT READS IS OF BULK AT MOST 1048576: true; the input reads as it did. -/
def fnRingPutKeepUptoRow : OpenClaim := { program := "ytjhppghkhfacaaa", sum := "99dea0aeebb11417a91800aaf81d7ad19f36bf7d392448655d43e9443993c7a4", func := "loop.example/mediarelay/laws.FnRingPutKeep", spec := "fnRingPutKeep", apart := false, narrowed := true }
def FnRingPutKeepUptoSaid : Prop := fnRingPutKeepUptoRow.holds Try.pinned (OpenSpec.upto fnRingPutKeepSpec)

/-- 'laws.FnExactRingPut', WHERE WHAT IT READS IS OF BULK AT MOST 1048576: true; the input reads as it did. -/
def fnExactRingPutUptoRow : OpenClaim := { program := "ytjhppghkhfacaaa", sum := "99dea0aeebb11417a91800aaf81d7ad19f36bf7d392448655d43e9443993c7a4", func := "loop.example/mediarelay/laws.FnExactRingPut", spec := "fnExactRingPut", apart := false, narrowed := true }
def FnExactRingPutUptoSaid : Prop := fnExactRingPutUptoRow.holds Try.pinned (OpenSpec.upto fnExactRingPutSpec)

end Rows
end Go.Proofs.Ytjhppghkhfacaaa
