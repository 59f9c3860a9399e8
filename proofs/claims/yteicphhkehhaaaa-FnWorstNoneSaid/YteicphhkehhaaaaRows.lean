/-
  No cell of these rows narrows 'for every input' (looked for: loops, veiled, ifaces, maps, wideKeys, modest, calm, conditions, laid).
  DERIVED. THE GIVEN ROWS OF THIS SEAT. 10 by the template 'for every input the law returns true; each argument reads behind the call as it read before'; 0 by the template 'total and deterministic' (their statements: YteicphhkehhaaaaTotals.lean).
  GIVEN WITH THE SEED: the statements are not yours to turn. If you find one false, say at which input.
  Laid BY PROGRAM, IN A SANDBOX (cutbox-rows.mjs): the forced cells as the released guide's own fill.sh prints them over the translation 30222e4f98b08607… (all of the seat's roots in one cut). By AI agents, Wed Nov 11 2026. No macro, syntax, notation, axiom, sorry.
-/
import Derived.Test.YteicphhkehhaaaaChecked
import GoSem.Claim
import GoSem.ClaimJoined
import GoSem.ClaimMapViews
import Derived.JoinedTies
import Derived.KernelRfl
namespace Go.Proofs.Yteicphhkehhaaaa
/- THE CELL 'sum', in the pinned program and in every row, IS THE sha256 OF THE DUMP (.gsa) THAT YteicphhkehhaaaaProg.lean LOADS. Nothing in Lean hashes anything: it is a label: what it is worth is what the hold of that sum in a sandbox is worth. -/
noncomputable def Try.pinned : Pinned := { name := "yteicphhkehhaaaa", sum := "30222e4f98b0860746400c20a7838ee7b74719a3f6458d3db632835ec0b251f2", checked := Try.checked }
namespace Rows
def none {H : Type} : Left H := { results := [], args := [] }

/-- 'laws.FnExactScoreOf': WHATEVER THE INPUT: true; the input reads as it did. -/
def fnExactScoreOfSpec : ChangeSpec := { name := "fnExactScoreOf", fn := fun _ => fun
  | [d1, d2, d3] => { results := [.lit (.bool true)], args := [d1, d2, d3] }
  | _ => none }
def fnExactScoreOfRow : OpenClaim := { program := "yteicphhkehhaaaa", sum := "30222e4f98b0860746400c20a7838ee7b74719a3f6458d3db632835ec0b251f2", func := "loop.example/mediarelay/laws.FnExactScoreOf", spec := "fnExactScoreOf", apart := false }
def FnExactScoreOfSaid : Prop := fnExactScoreOfRow.holds Try.pinned (OpenSpec.ofChange fnExactScoreOfSpec)

/-- ITS FALSE NEIGHBOUR: 'it returns false'. Refute it at one input. -/
def fnExactScoreOfWrong : ChangeSpec := { name := "fnExactScoreOf", fn := fun _ => fun
  | [d1, d2, d3] => { results := [.lit (.bool false)], args := [d1, d2, d3] }
  | _ => none }
def FnExactScoreOfWrongFalsely : Prop := fnExactScoreOfRow.holds Try.pinned (OpenSpec.ofChange fnExactScoreOfWrong)

/-- 'laws.FnExactScoreName': WHATEVER THE INPUT: true; the input reads as it did. -/
def fnExactScoreNameSpec : ChangeSpec := { name := "fnExactScoreName", fn := fun _ => fun
  | [d] => { results := [.lit (.bool true)], args := [d] }
  | _ => none }
def fnExactScoreNameRow : OpenClaim := { program := "yteicphhkehhaaaa", sum := "30222e4f98b0860746400c20a7838ee7b74719a3f6458d3db632835ec0b251f2", func := "loop.example/mediarelay/laws.FnExactScoreName", spec := "fnExactScoreName", apart := false }
def FnExactScoreNameSaid : Prop := fnExactScoreNameRow.holds Try.pinned (OpenSpec.ofChange fnExactScoreNameSpec)

/-- ITS FALSE NEIGHBOUR: 'it returns false'. Refute it at one input. -/
def fnExactScoreNameWrong : ChangeSpec := { name := "fnExactScoreName", fn := fun _ => fun
  | [d] => { results := [.lit (.bool false)], args := [d] }
  | _ => none }
def FnExactScoreNameWrongFalsely : Prop := fnExactScoreNameRow.holds Try.pinned (OpenSpec.ofChange fnExactScoreNameWrong)

/-- 'laws.FnScoreName': WHATEVER THE INPUT: true; the input reads as it did. -/
def fnScoreNameSpec : ChangeSpec := { name := "fnScoreName", fn := fun _ => fun
  | [d] => { results := [.lit (.bool true)], args := [d] }
  | _ => none }
def fnScoreNameRow : OpenClaim := { program := "yteicphhkehhaaaa", sum := "30222e4f98b0860746400c20a7838ee7b74719a3f6458d3db632835ec0b251f2", func := "loop.example/mediarelay/laws.FnScoreName", spec := "fnScoreName", apart := false }
def FnScoreNameSaid : Prop := fnScoreNameRow.holds Try.pinned (OpenSpec.ofChange fnScoreNameSpec)

/-- ITS FALSE NEIGHBOUR: 'it returns false'. Refute it at one input. -/
def fnScoreNameWrong : ChangeSpec := { name := "fnScoreName", fn := fun _ => fun
  | [d] => { results := [.lit (.bool false)], args := [d] }
  | _ => none }
def FnScoreNameWrongFalsely : Prop := fnScoreNameRow.holds Try.pinned (OpenSpec.ofChange fnScoreNameWrong)

/-- 'laws.FnScoreNameWhen': WHATEVER THE INPUT: true; the input reads as it did. -/
def fnScoreNameWhenSpec : ChangeSpec := { name := "fnScoreNameWhen", fn := fun _ => fun
  | [d] => { results := [.lit (.bool true)], args := [d] }
  | _ => none }
def fnScoreNameWhenRow : OpenClaim := { program := "yteicphhkehhaaaa", sum := "30222e4f98b0860746400c20a7838ee7b74719a3f6458d3db632835ec0b251f2", func := "loop.example/mediarelay/laws.FnScoreNameWhen", spec := "fnScoreNameWhen", apart := false }
def FnScoreNameWhenSaid : Prop := fnScoreNameWhenRow.holds Try.pinned (OpenSpec.ofChange fnScoreNameWhenSpec)

/-- ITS FALSE NEIGHBOUR: 'it returns false'. Refute it at one input. -/
def fnScoreNameWhenWrong : ChangeSpec := { name := "fnScoreNameWhen", fn := fun _ => fun
  | [d] => { results := [.lit (.bool false)], args := [d] }
  | _ => none }
def FnScoreNameWhenWrongFalsely : Prop := fnScoreNameWhenRow.holds Try.pinned (OpenSpec.ofChange fnScoreNameWhenWrong)

/-- 'laws.FnExactScoresWorst': WHATEVER THE INPUT: true; the input reads as it did. -/
def fnExactScoresWorstSpec : ChangeSpec := { name := "fnExactScoresWorst", fn := fun _ => fun
  | [d] => { results := [.lit (.bool true)], args := [d] }
  | _ => none }
def fnExactScoresWorstRow : OpenClaim := { program := "yteicphhkehhaaaa", sum := "30222e4f98b0860746400c20a7838ee7b74719a3f6458d3db632835ec0b251f2", func := "loop.example/mediarelay/laws.FnExactScoresWorst", spec := "fnExactScoresWorst", apart := false }
def FnExactScoresWorstSaid : Prop := fnExactScoresWorstRow.holds Try.pinned (OpenSpec.ofChange fnExactScoresWorstSpec)

/-- ITS FALSE NEIGHBOUR: 'it returns false'. Refute it at one input. -/
def fnExactScoresWorstWrong : ChangeSpec := { name := "fnExactScoresWorst", fn := fun _ => fun
  | [d] => { results := [.lit (.bool false)], args := [d] }
  | _ => none }
def FnExactScoresWorstWrongFalsely : Prop := fnExactScoresWorstRow.holds Try.pinned (OpenSpec.ofChange fnExactScoresWorstWrong)

/-- 'laws.FnScore': WHATEVER THE INPUT: true; the input reads as it did. -/
def fnScoreSpec : ChangeSpec := { name := "fnScore", fn := fun _ => fun
  | [d] => { results := [.lit (.bool true)], args := [d] }
  | _ => none }
def fnScoreRow : OpenClaim := { program := "yteicphhkehhaaaa", sum := "30222e4f98b0860746400c20a7838ee7b74719a3f6458d3db632835ec0b251f2", func := "loop.example/mediarelay/laws.FnScore", spec := "fnScore", apart := false }
def FnScoreSaid : Prop := fnScoreRow.holds Try.pinned (OpenSpec.ofChange fnScoreSpec)

/-- ITS FALSE NEIGHBOUR: 'it returns false'. Refute it at one input. -/
def fnScoreWrong : ChangeSpec := { name := "fnScore", fn := fun _ => fun
  | [d] => { results := [.lit (.bool false)], args := [d] }
  | _ => none }
def FnScoreWrongFalsely : Prop := fnScoreRow.holds Try.pinned (OpenSpec.ofChange fnScoreWrong)

/-- 'laws.FnScoreHalf': WHATEVER THE INPUT: true; the input reads as it did. -/
def fnScoreHalfSpec : ChangeSpec := { name := "fnScoreHalf", fn := fun _ => fun
  | [d] => { results := [.lit (.bool true)], args := [d] }
  | _ => none }
def fnScoreHalfRow : OpenClaim := { program := "yteicphhkehhaaaa", sum := "30222e4f98b0860746400c20a7838ee7b74719a3f6458d3db632835ec0b251f2", func := "loop.example/mediarelay/laws.FnScoreHalf", spec := "fnScoreHalf", apart := false }
def FnScoreHalfSaid : Prop := fnScoreHalfRow.holds Try.pinned (OpenSpec.ofChange fnScoreHalfSpec)

/-- ITS FALSE NEIGHBOUR: 'it returns false'. Refute it at one input. -/
def fnScoreHalfWrong : ChangeSpec := { name := "fnScoreHalf", fn := fun _ => fun
  | [d] => { results := [.lit (.bool false)], args := [d] }
  | _ => none }
def FnScoreHalfWrongFalsely : Prop := fnScoreHalfRow.holds Try.pinned (OpenSpec.ofChange fnScoreHalfWrong)

/-- 'laws.FnScoreLess': WHATEVER THE INPUT: true; the input reads as it did. -/
def fnScoreLessSpec : ChangeSpec := { name := "fnScoreLess", fn := fun _ => fun
  | [d] => { results := [.lit (.bool true)], args := [d] }
  | _ => none }
def fnScoreLessRow : OpenClaim := { program := "yteicphhkehhaaaa", sum := "30222e4f98b0860746400c20a7838ee7b74719a3f6458d3db632835ec0b251f2", func := "loop.example/mediarelay/laws.FnScoreLess", spec := "fnScoreLess", apart := false }
def FnScoreLessSaid : Prop := fnScoreLessRow.holds Try.pinned (OpenSpec.ofChange fnScoreLessSpec)

/-- ITS FALSE NEIGHBOUR: 'it returns false'. Refute it at one input. -/
def fnScoreLessWrong : ChangeSpec := { name := "fnScoreLess", fn := fun _ => fun
  | [d] => { results := [.lit (.bool false)], args := [d] }
  | _ => none }
def FnScoreLessWrongFalsely : Prop := fnScoreLessRow.holds Try.pinned (OpenSpec.ofChange fnScoreLessWrong)

/-- 'laws.FnWorst': WHATEVER THE INPUT: true; the input reads as it did. -/
def fnWorstSpec : ChangeSpec := { name := "fnWorst", fn := fun _ => fun
  | [d] => { results := [.lit (.bool true)], args := [d] }
  | _ => none }
def fnWorstRow : OpenClaim := { program := "yteicphhkehhaaaa", sum := "30222e4f98b0860746400c20a7838ee7b74719a3f6458d3db632835ec0b251f2", func := "loop.example/mediarelay/laws.FnWorst", spec := "fnWorst", apart := false }
def FnWorstSaid : Prop := fnWorstRow.holds Try.pinned (OpenSpec.ofChange fnWorstSpec)

/-- ITS FALSE NEIGHBOUR: 'it returns false'. Refute it at one input. -/
def fnWorstWrong : ChangeSpec := { name := "fnWorst", fn := fun _ => fun
  | [d] => { results := [.lit (.bool false)], args := [d] }
  | _ => none }
def FnWorstWrongFalsely : Prop := fnWorstRow.holds Try.pinned (OpenSpec.ofChange fnWorstWrong)

/-- 'laws.FnWorstNone': WHATEVER THE INPUT: true; the input reads as it did. -/
def fnWorstNoneSpec : ChangeSpec := { name := "fnWorstNone", fn := fun _ => fun
  | [d] => { results := [.lit (.bool true)], args := [d] }
  | _ => none }
def fnWorstNoneRow : OpenClaim := { program := "yteicphhkehhaaaa", sum := "30222e4f98b0860746400c20a7838ee7b74719a3f6458d3db632835ec0b251f2", func := "loop.example/mediarelay/laws.FnWorstNone", spec := "fnWorstNone", apart := false }
def FnWorstNoneSaid : Prop := fnWorstNoneRow.holds Try.pinned (OpenSpec.ofChange fnWorstNoneSpec)

/-- ITS FALSE NEIGHBOUR: 'it returns false'. Refute it at one input. -/
def fnWorstNoneWrong : ChangeSpec := { name := "fnWorstNone", fn := fun _ => fun
  | [d] => { results := [.lit (.bool false)], args := [d] }
  | _ => none }
def FnWorstNoneWrongFalsely : Prop := fnWorstNoneRow.holds Try.pinned (OpenSpec.ofChange fnWorstNoneWrong)

/- THE SECOND FORM. 'bulk': how many values and letters a reading holds, each counted each time it is reached (what is shared counts as often as it is met; a slice's spare places count too). A statement '..UptoSaid' is the law's where the arguments, and the package variables that the reading takes, are together of bulk at most 1048576: NARROWER than '..Said'. Prove '..Said' where nothing that the law and all that it calls make is longer than what came in: it says more and counts as full. Else prove '..UptoSaid'. A law counts once. -/
mutual
def uptoBulk {H : Type} : DataW H → Nat
  | .lit (.string bytes) => bytes.length + 1
  | .lit _ => 1
  | .nil => 1
  | .ptr d => uptoBulk d + 1
  | .slice elems spare => uptoBulkAll elems + uptoBulkAll spare + 1
  | .agg parts => uptoBulkAll parts + 1
  | .iface _ d => uptoBulk d + 1
  | .map entries => uptoBulkEntries entries + 1
  | .held _ => 1
def uptoBulkAll {H : Type} : List (DataW H) → Nat
  | [] => 0
  | d :: r => uptoBulk d + uptoBulkAll r
def uptoBulkEntries {H : Type} : List (Lit × DataW H) → Nat
  | [] => 0
  | x :: r => uptoBulkEntry x + uptoBulkEntries r
def uptoBulkEntry {H : Type} : Lit × DataW H → Nat
  | (.string bytes, d) => bytes.length + uptoBulk d + 1
  | (_, d) => uptoBulk d + 1
 end
def uptoSmall : (H : Type) → List (DataW H) → Bool := fun _ ds => decide (uptoBulkAll ds ≤ 1048576)
def OpenSpec.upto (s : _root_.Go.ChangeSpec) : _root_.Go.OpenSpec := { _root_.Go.OpenSpec.ofChange s with cond := some uptoSmall }

/-- 'laws.FnExactScoreOf', WHERE WHAT IT READS IS OF BULK AT MOST 1048576: true; the input reads as it did. -/
def fnExactScoreOfUptoRow : OpenClaim := { program := "yteicphhkehhaaaa", sum := "30222e4f98b0860746400c20a7838ee7b74719a3f6458d3db632835ec0b251f2", func := "loop.example/mediarelay/laws.FnExactScoreOf", spec := "fnExactScoreOf", apart := false, narrowed := true }
def FnExactScoreOfUptoSaid : Prop := fnExactScoreOfUptoRow.holds Try.pinned (OpenSpec.upto fnExactScoreOfSpec)

/-- 'laws.FnExactScoreName', WHERE WHAT IT READS IS OF BULK AT MOST 1048576: true; the input reads as it did. -/
def fnExactScoreNameUptoRow : OpenClaim := { program := "yteicphhkehhaaaa", sum := "30222e4f98b0860746400c20a7838ee7b74719a3f6458d3db632835ec0b251f2", func := "loop.example/mediarelay/laws.FnExactScoreName", spec := "fnExactScoreName", apart := false, narrowed := true }
def FnExactScoreNameUptoSaid : Prop := fnExactScoreNameUptoRow.holds Try.pinned (OpenSpec.upto fnExactScoreNameSpec)

/-- 'laws.FnScoreName', WHERE WHAT IT READS IS OF BULK AT MOST 1048576: true; the input reads as it did. -/
def fnScoreNameUptoRow : OpenClaim := { program := "yteicphhkehhaaaa", sum := "30222e4f98b0860746400c20a7838ee7b74719a3f6458d3db632835ec0b251f2", func := "loop.example/mediarelay/laws.FnScoreName", spec := "fnScoreName", apart := false, narrowed := true }
def FnScoreNameUptoSaid : Prop := fnScoreNameUptoRow.holds Try.pinned (OpenSpec.upto fnScoreNameSpec)

/-- 'laws.FnScoreNameWhen', WHERE WHAT IT READS IS OF BULK AT MOST 1048576: true; the input reads as it did. -/
def fnScoreNameWhenUptoRow : OpenClaim := { program := "yteicphhkehhaaaa", sum := "30222e4f98b0860746400c20a7838ee7b74719a3f6458d3db632835ec0b251f2", func := "loop.example/mediarelay/laws.FnScoreNameWhen", spec := "fnScoreNameWhen", apart := false, narrowed := true }
def FnScoreNameWhenUptoSaid : Prop := fnScoreNameWhenUptoRow.holds Try.pinned (OpenSpec.upto fnScoreNameWhenSpec)

/-- 'laws.FnExactScoresWorst', WHERE WHAT IT READS IS OF BULK AT MOST 1048576: true; the input reads as it did. -/
def fnExactScoresWorstUptoRow : OpenClaim := { program := "yteicphhkehhaaaa", sum := "30222e4f98b0860746400c20a7838ee7b74719a3f6458d3db632835ec0b251f2", func := "loop.example/mediarelay/laws.FnExactScoresWorst", spec := "fnExactScoresWorst", apart := false, narrowed := true }
def FnExactScoresWorstUptoSaid : Prop := fnExactScoresWorstUptoRow.holds Try.pinned (OpenSpec.upto fnExactScoresWorstSpec)

/-- 'laws.FnScore', WHERE WHAT IT READS IS OF BULK AT MOST 1048576: true; the input reads as it did. -/
def fnScoreUptoRow : OpenClaim := { program := "yteicphhkehhaaaa", sum := "30222e4f98b0860746400c20a7838ee7b74719a3f6458d3db632835ec0b251f2", func := "loop.example/mediarelay/laws.FnScore", spec := "fnScore", apart := false, narrowed := true }
def FnScoreUptoSaid : Prop := fnScoreUptoRow.holds Try.pinned (OpenSpec.upto fnScoreSpec)

/-- 'laws.FnScoreHalf', WHERE WHAT IT READS IS OF BULK AT MOST 1048576: true; the input reads as it did. -/
def fnScoreHalfUptoRow : OpenClaim := { program := "yteicphhkehhaaaa", sum := "30222e4f98b0860746400c20a7838ee7b74719a3f6458d3db632835ec0b251f2", func := "loop.example/mediarelay/laws.FnScoreHalf", spec := "fnScoreHalf", apart := false, narrowed := true }
def FnScoreHalfUptoSaid : Prop := fnScoreHalfUptoRow.holds Try.pinned (OpenSpec.upto fnScoreHalfSpec)

/-- 'laws.FnScoreLess', WHERE WHAT IT READS IS OF BULK AT MOST 1048576: true; the input reads as it did. -/
def fnScoreLessUptoRow : OpenClaim := { program := "yteicphhkehhaaaa", sum := "30222e4f98b0860746400c20a7838ee7b74719a3f6458d3db632835ec0b251f2", func := "loop.example/mediarelay/laws.FnScoreLess", spec := "fnScoreLess", apart := false, narrowed := true }
def FnScoreLessUptoSaid : Prop := fnScoreLessUptoRow.holds Try.pinned (OpenSpec.upto fnScoreLessSpec)

/-- 'laws.FnWorst', WHERE WHAT IT READS IS OF BULK AT MOST 1048576: true; the input reads as it did. -/
def fnWorstUptoRow : OpenClaim := { program := "yteicphhkehhaaaa", sum := "30222e4f98b0860746400c20a7838ee7b74719a3f6458d3db632835ec0b251f2", func := "loop.example/mediarelay/laws.FnWorst", spec := "fnWorst", apart := false, narrowed := true }
def FnWorstUptoSaid : Prop := fnWorstUptoRow.holds Try.pinned (OpenSpec.upto fnWorstSpec)

/-- 'laws.FnWorstNone', WHERE WHAT IT READS IS OF BULK AT MOST 1048576: true; the input reads as it did. -/
def fnWorstNoneUptoRow : OpenClaim := { program := "yteicphhkehhaaaa", sum := "30222e4f98b0860746400c20a7838ee7b74719a3f6458d3db632835ec0b251f2", func := "loop.example/mediarelay/laws.FnWorstNone", spec := "fnWorstNone", apart := false, narrowed := true }
def FnWorstNoneUptoSaid : Prop := fnWorstNoneUptoRow.holds Try.pinned (OpenSpec.upto fnWorstNoneSpec)

end Rows
end Go.Proofs.Yteicphhkehhaaaa
