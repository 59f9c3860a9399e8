/-
  No cell of these rows narrows 'for every input' (looked for: loops, veiled, ifaces, maps, wideKeys, modest, calm, conditions, laid).
  DERIVED. THE GIVEN ROWS OF THIS SEAT. 11 by the template 'for every input the law returns true; each argument reads behind the call as it read before'; 0 by the template 'total and deterministic' (their statements: YtambjhapnhmmmaaTotals.lean).
  GIVEN WITH THE SEED: the statements are not yours to turn. If you find one false, say at which input.
  Laid BY PROGRAM, IN A SANDBOX (cutbox-rows.mjs): the forced cells as the released guide's own fill.sh prints them over the translation bb4033a6ad07f706… (all of the seat's roots in one cut). By AI agents, Wed Nov 11 2026. No macro, syntax, notation, axiom, sorry.
-/
import Derived.Test.YtambjhapnhmmmaaChecked
import GoSem.Claim
import GoSem.ClaimJoined
import GoSem.ClaimMapViews
import Derived.JoinedTies
import Derived.KernelRfl
namespace Go.Proofs.Ytambjhapnhmmmaa
/- THE CELL 'sum', in the pinned program and in every row, IS THE sha256 OF THE DUMP (.gsa) THAT YtambjhapnhmmmaaProg.lean LOADS. Nothing in Lean hashes anything: it is a label: what it is worth is what the hold of that sum in a sandbox is worth. -/
noncomputable def Try.pinned : Pinned := { name := "ytambjhapnhmmmaa", sum := "bb4033a6ad07f706562e293876f0d7bd3087bf80b3f89c2266a44f188e3e780b", checked := Try.checked }
namespace Rows
def none {H : Type} : Left H := { results := [], args := [] }

/-- 'laws.FnWide': WHATEVER THE INPUT: true; the input reads as it did. -/
def fnWideSpec : ChangeSpec := { name := "fnWide", fn := fun _ => fun
  | [d] => { results := [.lit (.bool true)], args := [d] }
  | _ => none }
def fnWideRow : OpenClaim := { program := "ytambjhapnhmmmaa", sum := "bb4033a6ad07f706562e293876f0d7bd3087bf80b3f89c2266a44f188e3e780b", func := "loop.example/mediarelay/laws.FnWide", spec := "fnWide", apart := false }
def FnWideSaid : Prop := fnWideRow.holds Try.pinned (OpenSpec.ofChange fnWideSpec)

/-- ITS FALSE NEIGHBOUR: 'it returns false'. Refute it at one input. -/
def fnWideWrong : ChangeSpec := { name := "fnWide", fn := fun _ => fun
  | [d] => { results := [.lit (.bool false)], args := [d] }
  | _ => none }
def FnWideWrongFalsely : Prop := fnWideRow.holds Try.pinned (OpenSpec.ofChange fnWideWrong)

/-- 'laws.FnExactStatsPut': WHATEVER THE INPUT: true; the input reads as it did. -/
def fnExactStatsPutSpec : ChangeSpec := { name := "fnExactStatsPut", fn := fun _ => fun
  | [d1, d2, d3, d4] => { results := [.lit (.bool true)], args := [d1, d2, d3, d4] }
  | _ => none }
def fnExactStatsPutRow : OpenClaim := { program := "ytambjhapnhmmmaa", sum := "bb4033a6ad07f706562e293876f0d7bd3087bf80b3f89c2266a44f188e3e780b", func := "loop.example/mediarelay/laws.FnExactStatsPut", spec := "fnExactStatsPut", apart := false }
def FnExactStatsPutSaid : Prop := fnExactStatsPutRow.holds Try.pinned (OpenSpec.ofChange fnExactStatsPutSpec)

/-- ITS FALSE NEIGHBOUR: 'it returns false'. Refute it at one input. -/
def fnExactStatsPutWrong : ChangeSpec := { name := "fnExactStatsPut", fn := fun _ => fun
  | [d1, d2, d3, d4] => { results := [.lit (.bool false)], args := [d1, d2, d3, d4] }
  | _ => none }
def FnExactStatsPutWrongFalsely : Prop := fnExactStatsPutRow.holds Try.pinned (OpenSpec.ofChange fnExactStatsPutWrong)

/-- 'laws.FnClockOf': WHATEVER THE INPUT: true; the input reads as it did. -/
def fnClockOfSpec : ChangeSpec := { name := "fnClockOf", fn := fun _ => fun
  | [d] => { results := [.lit (.bool true)], args := [d] }
  | _ => none }
def fnClockOfRow : OpenClaim := { program := "ytambjhapnhmmmaa", sum := "bb4033a6ad07f706562e293876f0d7bd3087bf80b3f89c2266a44f188e3e780b", func := "loop.example/mediarelay/laws.FnClockOf", spec := "fnClockOf", apart := false }
def FnClockOfSaid : Prop := fnClockOfRow.holds Try.pinned (OpenSpec.ofChange fnClockOfSpec)

/-- ITS FALSE NEIGHBOUR: 'it returns false'. Refute it at one input. -/
def fnClockOfWrong : ChangeSpec := { name := "fnClockOf", fn := fun _ => fun
  | [d] => { results := [.lit (.bool false)], args := [d] }
  | _ => none }
def FnClockOfWrongFalsely : Prop := fnClockOfRow.holds Try.pinned (OpenSpec.ofChange fnClockOfWrong)

/-- 'laws.FnWideStep': WHATEVER THE INPUT: true; the input reads as it did. -/
def fnWideStepSpec : ChangeSpec := { name := "fnWideStep", fn := fun _ => fun
  | [d] => { results := [.lit (.bool true)], args := [d] }
  | _ => none }
def fnWideStepRow : OpenClaim := { program := "ytambjhapnhmmmaa", sum := "bb4033a6ad07f706562e293876f0d7bd3087bf80b3f89c2266a44f188e3e780b", func := "loop.example/mediarelay/laws.FnWideStep", spec := "fnWideStep", apart := false }
def FnWideStepSaid : Prop := fnWideStepRow.holds Try.pinned (OpenSpec.ofChange fnWideStepSpec)

/-- ITS FALSE NEIGHBOUR: 'it returns false'. Refute it at one input. -/
def fnWideStepWrong : ChangeSpec := { name := "fnWideStep", fn := fun _ => fun
  | [d] => { results := [.lit (.bool false)], args := [d] }
  | _ => none }
def FnWideStepWrongFalsely : Prop := fnWideStepRow.holds Try.pinned (OpenSpec.ofChange fnWideStepWrong)

/-- 'laws.FnClockWall': WHATEVER THE INPUT: true; the input reads as it did. -/
def fnClockWallSpec : ChangeSpec := { name := "fnClockWall", fn := fun _ => fun
  | [d] => { results := [.lit (.bool true)], args := [d] }
  | _ => none }
def fnClockWallRow : OpenClaim := { program := "ytambjhapnhmmmaa", sum := "bb4033a6ad07f706562e293876f0d7bd3087bf80b3f89c2266a44f188e3e780b", func := "loop.example/mediarelay/laws.FnClockWall", spec := "fnClockWall", apart := false }
def FnClockWallSaid : Prop := fnClockWallRow.holds Try.pinned (OpenSpec.ofChange fnClockWallSpec)

/-- ITS FALSE NEIGHBOUR: 'it returns false'. Refute it at one input. -/
def fnClockWallWrong : ChangeSpec := { name := "fnClockWall", fn := fun _ => fun
  | [d] => { results := [.lit (.bool false)], args := [d] }
  | _ => none }
def FnClockWallWrongFalsely : Prop := fnClockWallRow.holds Try.pinned (OpenSpec.ofChange fnClockWallWrong)

/-- 'laws.FnGap': WHATEVER THE INPUT: true; the input reads as it did. -/
def fnGapSpec : ChangeSpec := { name := "fnGap", fn := fun _ => fun
  | [d] => { results := [.lit (.bool true)], args := [d] }
  | _ => none }
def fnGapRow : OpenClaim := { program := "ytambjhapnhmmmaa", sum := "bb4033a6ad07f706562e293876f0d7bd3087bf80b3f89c2266a44f188e3e780b", func := "loop.example/mediarelay/laws.FnGap", spec := "fnGap", apart := false }
def FnGapSaid : Prop := fnGapRow.holds Try.pinned (OpenSpec.ofChange fnGapSpec)

/-- ITS FALSE NEIGHBOUR: 'it returns false'. Refute it at one input. -/
def fnGapWrong : ChangeSpec := { name := "fnGap", fn := fun _ => fun
  | [d] => { results := [.lit (.bool false)], args := [d] }
  | _ => none }
def FnGapWrongFalsely : Prop := fnGapRow.holds Try.pinned (OpenSpec.ofChange fnGapWrong)

/-- 'laws.FnGapNone': WHATEVER THE INPUT: true; the input reads as it did. -/
def fnGapNoneSpec : ChangeSpec := { name := "fnGapNone", fn := fun _ => fun
  | [d] => { results := [.lit (.bool true)], args := [d] }
  | _ => none }
def fnGapNoneRow : OpenClaim := { program := "ytambjhapnhmmmaa", sum := "bb4033a6ad07f706562e293876f0d7bd3087bf80b3f89c2266a44f188e3e780b", func := "loop.example/mediarelay/laws.FnGapNone", spec := "fnGapNone", apart := false }
def FnGapNoneSaid : Prop := fnGapNoneRow.holds Try.pinned (OpenSpec.ofChange fnGapNoneSpec)

/-- ITS FALSE NEIGHBOUR: 'it returns false'. Refute it at one input. -/
def fnGapNoneWrong : ChangeSpec := { name := "fnGapNone", fn := fun _ => fun
  | [d] => { results := [.lit (.bool false)], args := [d] }
  | _ => none }
def FnGapNoneWrongFalsely : Prop := fnGapNoneRow.holds Try.pinned (OpenSpec.ofChange fnGapNoneWrong)

/-- 'laws.FnStatsDiffer': WHATEVER THE INPUT: true; the input reads as it did. -/
def fnStatsDifferSpec : ChangeSpec := { name := "fnStatsDiffer", fn := fun _ => fun
  | [d] => { results := [.lit (.bool true)], args := [d] }
  | _ => none }
def fnStatsDifferRow : OpenClaim := { program := "ytambjhapnhmmmaa", sum := "bb4033a6ad07f706562e293876f0d7bd3087bf80b3f89c2266a44f188e3e780b", func := "loop.example/mediarelay/laws.FnStatsDiffer", spec := "fnStatsDiffer", apart := false }
def FnStatsDifferSaid : Prop := fnStatsDifferRow.holds Try.pinned (OpenSpec.ofChange fnStatsDifferSpec)

/-- ITS FALSE NEIGHBOUR: 'it returns false'. Refute it at one input. -/
def fnStatsDifferWrong : ChangeSpec := { name := "fnStatsDiffer", fn := fun _ => fun
  | [d] => { results := [.lit (.bool false)], args := [d] }
  | _ => none }
def FnStatsDifferWrongFalsely : Prop := fnStatsDifferRow.holds Try.pinned (OpenSpec.ofChange fnStatsDifferWrong)

/-- 'laws.FnStatsDifferMore': WHATEVER THE INPUT: true; the input reads as it did. -/
def fnStatsDifferMoreSpec : ChangeSpec := { name := "fnStatsDifferMore", fn := fun _ => fun
  | [d] => { results := [.lit (.bool true)], args := [d] }
  | _ => none }
def fnStatsDifferMoreRow : OpenClaim := { program := "ytambjhapnhmmmaa", sum := "bb4033a6ad07f706562e293876f0d7bd3087bf80b3f89c2266a44f188e3e780b", func := "loop.example/mediarelay/laws.FnStatsDifferMore", spec := "fnStatsDifferMore", apart := false }
def FnStatsDifferMoreSaid : Prop := fnStatsDifferMoreRow.holds Try.pinned (OpenSpec.ofChange fnStatsDifferMoreSpec)

/-- ITS FALSE NEIGHBOUR: 'it returns false'. Refute it at one input. -/
def fnStatsDifferMoreWrong : ChangeSpec := { name := "fnStatsDifferMore", fn := fun _ => fun
  | [d] => { results := [.lit (.bool false)], args := [d] }
  | _ => none }
def FnStatsDifferMoreWrongFalsely : Prop := fnStatsDifferMoreRow.holds Try.pinned (OpenSpec.ofChange fnStatsDifferMoreWrong)

/-- 'laws.FnStatsPut': WHATEVER THE INPUT: true; the input reads as it did. -/
def fnStatsPutSpec : ChangeSpec := { name := "fnStatsPut", fn := fun _ => fun
  | [d] => { results := [.lit (.bool true)], args := [d] }
  | _ => none }
def fnStatsPutRow : OpenClaim := { program := "ytambjhapnhmmmaa", sum := "bb4033a6ad07f706562e293876f0d7bd3087bf80b3f89c2266a44f188e3e780b", func := "loop.example/mediarelay/laws.FnStatsPut", spec := "fnStatsPut", apart := false }
def FnStatsPutSaid : Prop := fnStatsPutRow.holds Try.pinned (OpenSpec.ofChange fnStatsPutSpec)

/-- ITS FALSE NEIGHBOUR: 'it returns false'. Refute it at one input. -/
def fnStatsPutWrong : ChangeSpec := { name := "fnStatsPut", fn := fun _ => fun
  | [d] => { results := [.lit (.bool false)], args := [d] }
  | _ => none }
def FnStatsPutWrongFalsely : Prop := fnStatsPutRow.holds Try.pinned (OpenSpec.ofChange fnStatsPutWrong)

/-- 'laws.FnStatsPutLost': WHATEVER THE INPUT: true; the input reads as it did. -/
def fnStatsPutLostSpec : ChangeSpec := { name := "fnStatsPutLost", fn := fun _ => fun
  | [d] => { results := [.lit (.bool true)], args := [d] }
  | _ => none }
def fnStatsPutLostRow : OpenClaim := { program := "ytambjhapnhmmmaa", sum := "bb4033a6ad07f706562e293876f0d7bd3087bf80b3f89c2266a44f188e3e780b", func := "loop.example/mediarelay/laws.FnStatsPutLost", spec := "fnStatsPutLost", apart := false }
def FnStatsPutLostSaid : Prop := fnStatsPutLostRow.holds Try.pinned (OpenSpec.ofChange fnStatsPutLostSpec)

/-- ITS FALSE NEIGHBOUR: 'it returns false'. Refute it at one input. -/
def fnStatsPutLostWrong : ChangeSpec := { name := "fnStatsPutLost", fn := fun _ => fun
  | [d] => { results := [.lit (.bool false)], args := [d] }
  | _ => none }
def FnStatsPutLostWrongFalsely : Prop := fnStatsPutLostRow.holds Try.pinned (OpenSpec.ofChange fnStatsPutLostWrong)

/- THE SECOND FORM. 'bulk': how many values and letters a reading holds, each counted each time it is reached (what is shared counts as often as it is met; a slice's spare places count too). A statement '..UptoSaid' is the law's where the arguments, and the package variables that the reading takes, are together of bulk at most 1048576: NARROWER than '..Said'. Prove '..Said' where nothing that the law and all that it calls make is longer than what came in: it says more and counts as full. Else prove '..UptoSaid'. A law counts once. -/
mutual
def uptoBulk {H : Type} : DataW H → Nat
  | .lit (.string bytes) => bytes.length + 1
  | .lit _ => 1
  | .nil => 1
  | .ptr d => uptoBulk d + 1
  | .slice elems spare => uptoBulkAll elems + uptoBulkAll spare + 1
  | .agg parts => uptoBulkAll parts + 1
  | .iface _ d => uptoBulk d + 1
  | .map entries => uptoBulkEntries entries + 1
  | .held _ => 1
def uptoBulkAll {H : Type} : List (DataW H) → Nat
  | [] => 0
  | d :: r => uptoBulk d + uptoBulkAll r
def uptoBulkEntries {H : Type} : List (Lit × DataW H) → Nat
  | [] => 0
  | x :: r => uptoBulkEntry x + uptoBulkEntries r
def uptoBulkEntry {H : Type} : Lit × DataW H → Nat
  | (.string bytes, d) => bytes.length + uptoBulk d + 1
  | (_, d) => uptoBulk d + 1
 end
def uptoSmall : (H : Type) → List (DataW H) → Bool := fun _ ds => decide (uptoBulkAll ds ≤ 1048576)
def OpenSpec.upto (s : _root_.Go.ChangeSpec) : _root_.Go.OpenSpec := { _root_.Go.OpenSpec.ofChange s with cond := some uptoSmall }

/-- 'laws.FnWide', WHERE WHAT IT READS IS OF BULK AT MOST 1048576: true; the input reads as it did. -/
def fnWideUptoRow : OpenClaim := { program := "ytambjhapnhmmmaa", sum := "bb4033a6ad07f706562e293876f0d7bd3087bf80b3f89c2266a44f188e3e780b", func := "loop.example/mediarelay/laws.FnWide", spec := "fnWide", apart := false, narrowed := true }
def FnWideUptoSaid : Prop := fnWideUptoRow.holds Try.pinned (OpenSpec.upto fnWideSpec)

/-- 'laws.FnExactStatsPut', WHERE WHAT IT READS IS OF BULK AT MOST 1048576: true; the input reads as it did. -/
def fnExactStatsPutUptoRow : OpenClaim := { program := "ytambjhapnhmmmaa", sum := "bb4033a6ad07f706562e293876f0d7bd3087bf80b3f89c2266a44f188e3e780b", func := "loop.example/mediarelay/laws.FnExactStatsPut", spec := "fnExactStatsPut", apart := false, narrowed := true }
def FnExactStatsPutUptoSaid : Prop := fnExactStatsPutUptoRow.holds Try.pinned (OpenSpec.upto fnExactStatsPutSpec)

/-- 'laws.FnClockOf', WHERE WHAT IT READS IS OF BULK AT MOST 1048576: true; the input reads as it did. -/
def fnClockOfUptoRow : OpenClaim := { program := "ytambjhapnhmmmaa", sum := "bb4033a6ad07f706562e293876f0d7bd3087bf80b3f89c2266a44f188e3e780b", func := "loop.example/mediarelay/laws.FnClockOf", spec := "fnClockOf", apart := false, narrowed := true }
def FnClockOfUptoSaid : Prop := fnClockOfUptoRow.holds Try.pinned (OpenSpec.upto fnClockOfSpec)

/-- 'laws.FnWideStep', WHERE WHAT IT READS IS OF BULK AT MOST 1048576: true; the input reads as it did. -/
def fnWideStepUptoRow : OpenClaim := { program := "ytambjhapnhmmmaa", sum := "bb4033a6ad07f706562e293876f0d7bd3087bf80b3f89c2266a44f188e3e780b", func := "loop.example/mediarelay/laws.FnWideStep", spec := "fnWideStep", apart := false, narrowed := true }
def FnWideStepUptoSaid : Prop := fnWideStepUptoRow.holds Try.pinned (OpenSpec.upto fnWideStepSpec)

/-- 'laws.FnClockWall', WHERE WHAT IT READS IS OF BULK AT MOST 1048576: true; the input reads as it did. -/
def fnClockWallUptoRow : OpenClaim := { program := "ytambjhapnhmmmaa", sum := "bb4033a6ad07f706562e293876f0d7bd3087bf80b3f89c2266a44f188e3e780b", func := "loop.example/mediarelay/laws.FnClockWall", spec := "fnClockWall", apart := false, narrowed := true }
def FnClockWallUptoSaid : Prop := fnClockWallUptoRow.holds Try.pinned (OpenSpec.upto fnClockWallSpec)

/-- 'laws.FnGap', WHERE WHAT IT READS IS OF BULK AT MOST 1048576: true; the input reads as it did. -/
def fnGapUptoRow : OpenClaim := { program := "ytambjhapnhmmmaa", sum := "bb4033a6ad07f706562e293876f0d7bd3087bf80b3f89c2266a44f188e3e780b", func := "loop.example/mediarelay/laws.FnGap", spec := "fnGap", apart := false, narrowed := true }
def FnGapUptoSaid : Prop := fnGapUptoRow.holds Try.pinned (OpenSpec.upto fnGapSpec)

/-- 'laws.FnGapNone', WHERE WHAT IT READS IS OF BULK AT MOST 1048576: true; the input reads as it did. -/
def fnGapNoneUptoRow : OpenClaim := { program := "ytambjhapnhmmmaa", sum := "bb4033a6ad07f706562e293876f0d7bd3087bf80b3f89c2266a44f188e3e780b", func := "loop.example/mediarelay/laws.FnGapNone", spec := "fnGapNone", apart := false, narrowed := true }
def FnGapNoneUptoSaid : Prop := fnGapNoneUptoRow.holds Try.pinned (OpenSpec.upto fnGapNoneSpec)

/-- 'laws.FnStatsDiffer', WHERE WHAT IT READS IS OF BULK AT MOST 1048576: true; the input reads as it did. -/
def fnStatsDifferUptoRow : OpenClaim := { program := "ytambjhapnhmmmaa", sum := "bb4033a6ad07f706562e293876f0d7bd3087bf80b3f89c2266a44f188e3e780b", func := "loop.example/mediarelay/laws.FnStatsDiffer", spec := "fnStatsDiffer", apart := false, narrowed := true }
def FnStatsDifferUptoSaid : Prop := fnStatsDifferUptoRow.holds Try.pinned (OpenSpec.upto fnStatsDifferSpec)

/-- 'laws.FnStatsDifferMore', WHERE WHAT IT READS IS OF BULK AT MOST 1048576: true; the input reads as it did. -/
def fnStatsDifferMoreUptoRow : OpenClaim := { program := "ytambjhapnhmmmaa", sum := "bb4033a6ad07f706562e293876f0d7bd3087bf80b3f89c2266a44f188e3e780b", func := "loop.example/mediarelay/laws.FnStatsDifferMore", spec := "fnStatsDifferMore", apart := false, narrowed := true }
def FnStatsDifferMoreUptoSaid : Prop := fnStatsDifferMoreUptoRow.holds Try.pinned (OpenSpec.upto fnStatsDifferMoreSpec)

/-- 'laws.FnStatsPut', WHERE WHAT IT READS IS OF BULK AT MOST 1048576: true; the input reads as it did. -/
def fnStatsPutUptoRow : OpenClaim := { program := "ytambjhapnhmmmaa", sum := "bb4033a6ad07f706562e293876f0d7bd3087bf80b3f89c2266a44f188e3e780b", func := "loop.example/mediarelay/laws.FnStatsPut", spec := "fnStatsPut", apart := false, narrowed := true }
def FnStatsPutUptoSaid : Prop := fnStatsPutUptoRow.holds Try.pinned (OpenSpec.upto fnStatsPutSpec)

/-- 'laws.FnStatsPutLost', WHERE WHAT IT READS IS OF BULK AT MOST 1048576: true; the input reads as it did. -/
def fnStatsPutLostUptoRow : OpenClaim := { program := "ytambjhapnhmmmaa", sum := "bb4033a6ad07f706562e293876f0d7bd3087bf80b3f89c2266a44f188e3e780b", func := "loop.example/mediarelay/laws.FnStatsPutLost", spec := "fnStatsPutLost", apart := false, narrowed := true }
def FnStatsPutLostUptoSaid : Prop := fnStatsPutLostUptoRow.holds Try.pinned (OpenSpec.upto fnStatsPutLostSpec)

end Rows
end Go.Proofs.Ytambjhapnhmmmaa
