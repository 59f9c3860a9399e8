/-
  No cell of these rows narrows 'for every input' (looked for: loops, veiled, ifaces, maps, wideKeys, modest, calm, conditions, laid).
  DERIVED. THE GIVEN ROWS OF THIS SEAT. 10 by the template 'for every input the law returns true; each argument reads behind the call as it read before'; 0 by the template 'total and deterministic' (their statements: YtilokgloocbbnaaTotals.lean).
  GIVEN WITH THE SEED: the statements are not yours to turn. If you find one false, say at which input.
  Laid BY PROGRAM, IN A SANDBOX (cutbox-rows.mjs): the forced cells as the released guide's own fill.sh prints them over the translation 55494d954cec79c3… (all of the seat's roots in one cut). By AI agents, Wed Nov 11 2026. No macro, syntax, notation, axiom, sorry.
-/
import Derived.Test.YtilokgloocbbnaaChecked
import GoSem.Claim
import GoSem.ClaimJoined
import GoSem.ClaimMapViews
import Derived.JoinedTies
import Derived.KernelRfl
namespace Go.Proofs.Ytilokgloocbbnaa
/- THE CELL 'sum', in the pinned program and in every row, IS THE sha256 OF THE DUMP (.gsa) THAT YtilokgloocbbnaaProg.lean LOADS. Nothing in Lean hashes anything: it is a label: what it is worth is what the hold of that sum in a sandbox is worth. -/
noncomputable def Try.pinned : Pinned := { name := "ytilokgloocbbnaa", sum := "55494d954cec79c32fb1a45d5f50d841f77bfaf96c54c804383aa7a5433129a6", checked := Try.checked }
namespace Rows
def none {H : Type} : Left H := { results := [], args := [] }

/-- 'laws.FnPacerPut': WHATEVER THE INPUT: true; the input reads as it did. -/
def fnPacerPutSpec : ChangeSpec := { name := "fnPacerPut", fn := fun _ => fun
  | [d] => { results := [.lit (.bool true)], args := [d] }
  | _ => none }
def fnPacerPutRow : OpenClaim := { program := "ytilokgloocbbnaa", sum := "55494d954cec79c32fb1a45d5f50d841f77bfaf96c54c804383aa7a5433129a6", func := "loop.example/mediarelay/laws.FnPacerPut", spec := "fnPacerPut", apart := false }
def FnPacerPutSaid : Prop := fnPacerPutRow.holds Try.pinned (OpenSpec.ofChange fnPacerPutSpec)

/-- ITS FALSE NEIGHBOUR: 'it returns false'. Refute it at one input. -/
def fnPacerPutWrong : ChangeSpec := { name := "fnPacerPut", fn := fun _ => fun
  | [d] => { results := [.lit (.bool false)], args := [d] }
  | _ => none }
def FnPacerPutWrongFalsely : Prop := fnPacerPutRow.holds Try.pinned (OpenSpec.ofChange fnPacerPutWrong)

/-- 'laws.FnPacerCredit': WHATEVER THE INPUT: true; the input reads as it did. -/
def fnPacerCreditSpec : ChangeSpec := { name := "fnPacerCredit", fn := fun _ => fun
  | [d] => { results := [.lit (.bool true)], args := [d] }
  | _ => none }
def fnPacerCreditRow : OpenClaim := { program := "ytilokgloocbbnaa", sum := "55494d954cec79c32fb1a45d5f50d841f77bfaf96c54c804383aa7a5433129a6", func := "loop.example/mediarelay/laws.FnPacerCredit", spec := "fnPacerCredit", apart := false }
def FnPacerCreditSaid : Prop := fnPacerCreditRow.holds Try.pinned (OpenSpec.ofChange fnPacerCreditSpec)

/-- ITS FALSE NEIGHBOUR: 'it returns false'. Refute it at one input. -/
def fnPacerCreditWrong : ChangeSpec := { name := "fnPacerCredit", fn := fun _ => fun
  | [d] => { results := [.lit (.bool false)], args := [d] }
  | _ => none }
def FnPacerCreditWrongFalsely : Prop := fnPacerCreditRow.holds Try.pinned (OpenSpec.ofChange fnPacerCreditWrong)

/-- 'laws.FnPacerEmpty': WHATEVER THE INPUT: true; the input reads as it did. -/
def fnPacerEmptySpec : ChangeSpec := { name := "fnPacerEmpty", fn := fun _ => fun
  | [d] => { results := [.lit (.bool true)], args := [d] }
  | _ => none }
def fnPacerEmptyRow : OpenClaim := { program := "ytilokgloocbbnaa", sum := "55494d954cec79c32fb1a45d5f50d841f77bfaf96c54c804383aa7a5433129a6", func := "loop.example/mediarelay/laws.FnPacerEmpty", spec := "fnPacerEmpty", apart := false }
def FnPacerEmptySaid : Prop := fnPacerEmptyRow.holds Try.pinned (OpenSpec.ofChange fnPacerEmptySpec)

/-- ITS FALSE NEIGHBOUR: 'it returns false'. Refute it at one input. -/
def fnPacerEmptyWrong : ChangeSpec := { name := "fnPacerEmpty", fn := fun _ => fun
  | [d] => { results := [.lit (.bool false)], args := [d] }
  | _ => none }
def FnPacerEmptyWrongFalsely : Prop := fnPacerEmptyRow.holds Try.pinned (OpenSpec.ofChange fnPacerEmptyWrong)

/-- 'laws.FnPacerMost': WHATEVER THE INPUT: true; the input reads as it did. -/
def fnPacerMostSpec : ChangeSpec := { name := "fnPacerMost", fn := fun _ => fun
  | [d] => { results := [.lit (.bool true)], args := [d] }
  | _ => none }
def fnPacerMostRow : OpenClaim := { program := "ytilokgloocbbnaa", sum := "55494d954cec79c32fb1a45d5f50d841f77bfaf96c54c804383aa7a5433129a6", func := "loop.example/mediarelay/laws.FnPacerMost", spec := "fnPacerMost", apart := false }
def FnPacerMostSaid : Prop := fnPacerMostRow.holds Try.pinned (OpenSpec.ofChange fnPacerMostSpec)

/-- ITS FALSE NEIGHBOUR: 'it returns false'. Refute it at one input. -/
def fnPacerMostWrong : ChangeSpec := { name := "fnPacerMost", fn := fun _ => fun
  | [d] => { results := [.lit (.bool false)], args := [d] }
  | _ => none }
def FnPacerMostWrongFalsely : Prop := fnPacerMostRow.holds Try.pinned (OpenSpec.ofChange fnPacerMostWrong)

/-- 'laws.FnPacerTick': WHATEVER THE INPUT: true; the input reads as it did. -/
def fnPacerTickSpec : ChangeSpec := { name := "fnPacerTick", fn := fun _ => fun
  | [d] => { results := [.lit (.bool true)], args := [d] }
  | _ => none }
def fnPacerTickRow : OpenClaim := { program := "ytilokgloocbbnaa", sum := "55494d954cec79c32fb1a45d5f50d841f77bfaf96c54c804383aa7a5433129a6", func := "loop.example/mediarelay/laws.FnPacerTick", spec := "fnPacerTick", apart := false }
def FnPacerTickSaid : Prop := fnPacerTickRow.holds Try.pinned (OpenSpec.ofChange fnPacerTickSpec)

/-- ITS FALSE NEIGHBOUR: 'it returns false'. Refute it at one input. -/
def fnPacerTickWrong : ChangeSpec := { name := "fnPacerTick", fn := fun _ => fun
  | [d] => { results := [.lit (.bool false)], args := [d] }
  | _ => none }
def FnPacerTickWrongFalsely : Prop := fnPacerTickRow.holds Try.pinned (OpenSpec.ofChange fnPacerTickWrong)

/-- 'laws.FnPacerTicks': WHATEVER THE INPUT: true; the input reads as it did. -/
def fnPacerTicksSpec : ChangeSpec := { name := "fnPacerTicks", fn := fun _ => fun
  | [d] => { results := [.lit (.bool true)], args := [d] }
  | _ => none }
def fnPacerTicksRow : OpenClaim := { program := "ytilokgloocbbnaa", sum := "55494d954cec79c32fb1a45d5f50d841f77bfaf96c54c804383aa7a5433129a6", func := "loop.example/mediarelay/laws.FnPacerTicks", spec := "fnPacerTicks", apart := false }
def FnPacerTicksSaid : Prop := fnPacerTicksRow.holds Try.pinned (OpenSpec.ofChange fnPacerTicksSpec)

/-- ITS FALSE NEIGHBOUR: 'it returns false'. Refute it at one input. -/
def fnPacerTicksWrong : ChangeSpec := { name := "fnPacerTicks", fn := fun _ => fun
  | [d] => { results := [.lit (.bool false)], args := [d] }
  | _ => none }
def FnPacerTicksWrongFalsely : Prop := fnPacerTicksRow.holds Try.pinned (OpenSpec.ofChange fnPacerTicksWrong)

/-- 'laws.FnExactPacerPut': WHATEVER THE INPUT: true; the input reads as it did. -/
def fnExactPacerPutSpec : ChangeSpec := { name := "fnExactPacerPut", fn := fun _ => fun
  | [d1, d2] => { results := [.lit (.bool true)], args := [d1, d2] }
  | _ => none }
def fnExactPacerPutRow : OpenClaim := { program := "ytilokgloocbbnaa", sum := "55494d954cec79c32fb1a45d5f50d841f77bfaf96c54c804383aa7a5433129a6", func := "loop.example/mediarelay/laws.FnExactPacerPut", spec := "fnExactPacerPut", apart := false }
def FnExactPacerPutSaid : Prop := fnExactPacerPutRow.holds Try.pinned (OpenSpec.ofChange fnExactPacerPutSpec)

/-- ITS FALSE NEIGHBOUR: 'it returns false'. Refute it at one input. -/
def fnExactPacerPutWrong : ChangeSpec := { name := "fnExactPacerPut", fn := fun _ => fun
  | [d1, d2] => { results := [.lit (.bool false)], args := [d1, d2] }
  | _ => none }
def FnExactPacerPutWrongFalsely : Prop := fnExactPacerPutRow.holds Try.pinned (OpenSpec.ofChange fnExactPacerPutWrong)

/-- 'laws.FnPacerTicksPut': WHATEVER THE INPUT: true; the input reads as it did. -/
def fnPacerTicksPutSpec : ChangeSpec := { name := "fnPacerTicksPut", fn := fun _ => fun
  | [d1, d2] => { results := [.lit (.bool true)], args := [d1, d2] }
  | _ => none }
def fnPacerTicksPutRow : OpenClaim := { program := "ytilokgloocbbnaa", sum := "55494d954cec79c32fb1a45d5f50d841f77bfaf96c54c804383aa7a5433129a6", func := "loop.example/mediarelay/laws.FnPacerTicksPut", spec := "fnPacerTicksPut", apart := false }
def FnPacerTicksPutSaid : Prop := fnPacerTicksPutRow.holds Try.pinned (OpenSpec.ofChange fnPacerTicksPutSpec)

/-- ITS FALSE NEIGHBOUR: 'it returns false'. Refute it at one input. -/
def fnPacerTicksPutWrong : ChangeSpec := { name := "fnPacerTicksPut", fn := fun _ => fun
  | [d1, d2] => { results := [.lit (.bool false)], args := [d1, d2] }
  | _ => none }
def FnPacerTicksPutWrongFalsely : Prop := fnPacerTicksPutRow.holds Try.pinned (OpenSpec.ofChange fnPacerTicksPutWrong)

/-- 'laws.FnExactPacerTicks': WHATEVER THE INPUT: true; the input reads as it did. -/
def fnExactPacerTicksSpec : ChangeSpec := { name := "fnExactPacerTicks", fn := fun _ => fun
  | [d] => { results := [.lit (.bool true)], args := [d] }
  | _ => none }
def fnExactPacerTicksRow : OpenClaim := { program := "ytilokgloocbbnaa", sum := "55494d954cec79c32fb1a45d5f50d841f77bfaf96c54c804383aa7a5433129a6", func := "loop.example/mediarelay/laws.FnExactPacerTicks", spec := "fnExactPacerTicks", apart := false }
def FnExactPacerTicksSaid : Prop := fnExactPacerTicksRow.holds Try.pinned (OpenSpec.ofChange fnExactPacerTicksSpec)

/-- ITS FALSE NEIGHBOUR: 'it returns false'. Refute it at one input. -/
def fnExactPacerTicksWrong : ChangeSpec := { name := "fnExactPacerTicks", fn := fun _ => fun
  | [d] => { results := [.lit (.bool false)], args := [d] }
  | _ => none }
def FnExactPacerTicksWrongFalsely : Prop := fnExactPacerTicksRow.holds Try.pinned (OpenSpec.ofChange fnExactPacerTicksWrong)

/-- 'laws.FnExactPacerTick': WHATEVER THE INPUT: true; the input reads as it did. -/
def fnExactPacerTickSpec : ChangeSpec := { name := "fnExactPacerTick", fn := fun _ => fun
  | [d] => { results := [.lit (.bool true)], args := [d] }
  | _ => none }
def fnExactPacerTickRow : OpenClaim := { program := "ytilokgloocbbnaa", sum := "55494d954cec79c32fb1a45d5f50d841f77bfaf96c54c804383aa7a5433129a6", func := "loop.example/mediarelay/laws.FnExactPacerTick", spec := "fnExactPacerTick", apart := false }
def FnExactPacerTickSaid : Prop := fnExactPacerTickRow.holds Try.pinned (OpenSpec.ofChange fnExactPacerTickSpec)

/-- ITS FALSE NEIGHBOUR: 'it returns false'. Refute it at one input. -/
def fnExactPacerTickWrong : ChangeSpec := { name := "fnExactPacerTick", fn := fun _ => fun
  | [d] => { results := [.lit (.bool false)], args := [d] }
  | _ => none }
def FnExactPacerTickWrongFalsely : Prop := fnExactPacerTickRow.holds Try.pinned (OpenSpec.ofChange fnExactPacerTickWrong)

/- THE SECOND FORM. 'bulk': how many values and letters a reading holds, each counted each time it is reached (what is shared counts as often as it is met; a slice's spare places count too). A statement '..UptoSaid' is the law's where the arguments, and the package variables that the reading takes, are together of bulk at most 1048576: NARROWER than '..Said'. Prove '..Said' where nothing that the law and all that it calls make is longer than what came in: it says more and counts as full. Else prove '..UptoSaid'. A law counts once. -/
mutual
def uptoBulk {H : Type} : DataW H → Nat
  | .lit (.string bytes) => bytes.length + 1
  | .lit _ => 1
  | .nil => 1
  | .ptr d => uptoBulk d + 1
  | .slice elems spare => uptoBulkAll elems + uptoBulkAll spare + 1
  | .agg parts => uptoBulkAll parts + 1
  | .iface _ d => uptoBulk d + 1
  | .map entries => uptoBulkEntries entries + 1
  | .held _ => 1
def uptoBulkAll {H : Type} : List (DataW H) → Nat
  | [] => 0
  | d :: r => uptoBulk d + uptoBulkAll r
def uptoBulkEntries {H : Type} : List (Lit × DataW H) → Nat
  | [] => 0
  | x :: r => uptoBulkEntry x + uptoBulkEntries r
def uptoBulkEntry {H : Type} : Lit × DataW H → Nat
  | (.string bytes, d) => bytes.length + uptoBulk d + 1
  | (_, d) => uptoBulk d + 1
 end
def uptoSmall : (H : Type) → List (DataW H) → Bool := fun _ ds => decide (uptoBulkAll ds ≤ 1048576)
def OpenSpec.upto (s : _root_.Go.ChangeSpec) : _root_.Go.OpenSpec := { _root_.Go.OpenSpec.ofChange s with cond := some uptoSmall }

/-- 'laws.FnPacerPut', WHERE WHAT IT READS IS OF BULK AT MOST 1048576: true; the input reads as it did. -/
def fnPacerPutUptoRow : OpenClaim := { program := "ytilokgloocbbnaa", sum := "55494d954cec79c32fb1a45d5f50d841f77bfaf96c54c804383aa7a5433129a6", func := "loop.example/mediarelay/laws.FnPacerPut", spec := "fnPacerPut", apart := false, narrowed := true }
def FnPacerPutUptoSaid : Prop := fnPacerPutUptoRow.holds Try.pinned (OpenSpec.upto fnPacerPutSpec)

/-- 'laws.FnPacerCredit', WHERE WHAT IT READS IS OF BULK AT MOST 1048576: true; the input reads as it did. -/
def fnPacerCreditUptoRow : OpenClaim := { program := "ytilokgloocbbnaa", sum := "55494d954cec79c32fb1a45d5f50d841f77bfaf96c54c804383aa7a5433129a6", func := "loop.example/mediarelay/laws.FnPacerCredit", spec := "fnPacerCredit", apart := false, narrowed := true }
def FnPacerCreditUptoSaid : Prop := fnPacerCreditUptoRow.holds Try.pinned (OpenSpec.upto fnPacerCreditSpec)

/-- 'laws.FnPacerEmpty', WHERE WHAT IT READS IS OF BULK AT MOST 1048576: true; the input reads as it did. -/
def fnPacerEmptyUptoRow : OpenClaim := { program := "ytilokgloocbbnaa", sum := "55494d954cec79c32fb1a45d5f50d841f77bfaf96c54c804383aa7a5433129a6", func := "loop.example/mediarelay/laws.FnPacerEmpty", spec := "fnPacerEmpty", apart := false, narrowed := true }
def FnPacerEmptyUptoSaid : Prop := fnPacerEmptyUptoRow.holds Try.pinned (OpenSpec.upto fnPacerEmptySpec)

/-- 'laws.FnPacerMost', WHERE WHAT IT READS IS OF BULK AT MOST 1048576: true; the input reads as it did. -/
def fnPacerMostUptoRow : OpenClaim := { program := "ytilokgloocbbnaa", sum := "55494d954cec79c32fb1a45d5f50d841f77bfaf96c54c804383aa7a5433129a6", func := "loop.example/mediarelay/laws.FnPacerMost", spec := "fnPacerMost", apart := false, narrowed := true }
def FnPacerMostUptoSaid : Prop := fnPacerMostUptoRow.holds Try.pinned (OpenSpec.upto fnPacerMostSpec)

/-- 'laws.FnPacerTick', WHERE WHAT IT READS IS OF BULK AT MOST 1048576: true; the input reads as it did. -/
def fnPacerTickUptoRow : OpenClaim := { program := "ytilokgloocbbnaa", sum := "55494d954cec79c32fb1a45d5f50d841f77bfaf96c54c804383aa7a5433129a6", func := "loop.example/mediarelay/laws.FnPacerTick", spec := "fnPacerTick", apart := false, narrowed := true }
def FnPacerTickUptoSaid : Prop := fnPacerTickUptoRow.holds Try.pinned (OpenSpec.upto fnPacerTickSpec)

/-- 'laws.FnPacerTicks', WHERE WHAT IT READS IS OF BULK AT MOST 1048576: true; the input reads as it did. -/
def fnPacerTicksUptoRow : OpenClaim := { program := "ytilokgloocbbnaa", sum := "55494d954cec79c32fb1a45d5f50d841f77bfaf96c54c804383aa7a5433129a6", func := "loop.example/mediarelay/laws.FnPacerTicks", spec := "fnPacerTicks", apart := false, narrowed := true }
def FnPacerTicksUptoSaid : Prop := fnPacerTicksUptoRow.holds Try.pinned (OpenSpec.upto fnPacerTicksSpec)

/-- 'laws.FnExactPacerPut', WHERE WHAT IT READS IS OF BULK AT MOST 1048576: true; the input reads as it did. -/
def fnExactPacerPutUptoRow : OpenClaim := { program := "ytilokgloocbbnaa", sum := "55494d954cec79c32fb1a45d5f50d841f77bfaf96c54c804383aa7a5433129a6", func := "loop.example/mediarelay/laws.FnExactPacerPut", spec := "fnExactPacerPut", apart := false, narrowed := true }
def FnExactPacerPutUptoSaid : Prop := fnExactPacerPutUptoRow.holds Try.pinned (OpenSpec.upto fnExactPacerPutSpec)

/-- 'laws.FnPacerTicksPut', WHERE WHAT IT READS IS OF BULK AT MOST 1048576: true; the input reads as it did. -/
def fnPacerTicksPutUptoRow : OpenClaim := { program := "ytilokgloocbbnaa", sum := "55494d954cec79c32fb1a45d5f50d841f77bfaf96c54c804383aa7a5433129a6", func := "loop.example/mediarelay/laws.FnPacerTicksPut", spec := "fnPacerTicksPut", apart := false, narrowed := true }
def FnPacerTicksPutUptoSaid : Prop := fnPacerTicksPutUptoRow.holds Try.pinned (OpenSpec.upto fnPacerTicksPutSpec)

/-- 'laws.FnExactPacerTicks', WHERE WHAT IT READS IS OF BULK AT MOST 1048576: true; the input reads as it did. -/
def fnExactPacerTicksUptoRow : OpenClaim := { program := "ytilokgloocbbnaa", sum := "55494d954cec79c32fb1a45d5f50d841f77bfaf96c54c804383aa7a5433129a6", func := "loop.example/mediarelay/laws.FnExactPacerTicks", spec := "fnExactPacerTicks", apart := false, narrowed := true }
def FnExactPacerTicksUptoSaid : Prop := fnExactPacerTicksUptoRow.holds Try.pinned (OpenSpec.upto fnExactPacerTicksSpec)

/-- 'laws.FnExactPacerTick', WHERE WHAT IT READS IS OF BULK AT MOST 1048576: true; the input reads as it did. -/
def fnExactPacerTickUptoRow : OpenClaim := { program := "ytilokgloocbbnaa", sum := "55494d954cec79c32fb1a45d5f50d841f77bfaf96c54c804383aa7a5433129a6", func := "loop.example/mediarelay/laws.FnExactPacerTick", spec := "fnExactPacerTick", apart := false, narrowed := true }
def FnExactPacerTickUptoSaid : Prop := fnExactPacerTickUptoRow.holds Try.pinned (OpenSpec.upto fnExactPacerTickSpec)

end Rows
end Go.Proofs.Ytilokgloocbbnaa
