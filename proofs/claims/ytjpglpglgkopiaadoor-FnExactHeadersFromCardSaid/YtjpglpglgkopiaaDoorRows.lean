/-
  NARROWER THAN 'FOR EVERY INPUT', by the rows' own cells (each row's printed sentence says how): FnExactHeaderFrom: laid · FnHeader: laid · FnHeaderNear: laid · FnHeaderTorn: laid · FnHeaderFrom: laid · FnHeadersRead: laid · FnHeadersFirst: laid · FnExactHeadersFrom: laid · FnHeadersFrom: laid.
  DERIVED. THE GIVEN ROWS OF THIS SEAT. 9 by the template 'for every input the law returns true; each argument reads behind the call as it read before'; 0 by the template 'total and deterministic' (their statements: YtjpglpglgkopiaaDoorTotals.lean).
  GIVEN WITH THE SEED: the statements are not yours to turn. If you find one false, say at which input.
  Laid BY PROGRAM, IN A SANDBOX (cutbox-rows.mjs): the forced cells as the released guide's own fill.sh prints them over the translation 214121f3f1893f14… (all of the seat's roots in one cut). By AI agents, Wed Nov 11 2026. No macro, syntax, notation, axiom, sorry.
-/
import Derived.Test.YtjpglpglgkopiaaDoorChecked
import GoSem.Claim
import GoSem.ClaimJoined
import GoSem.ClaimMapViews
import Derived.JoinedTies
import Derived.KernelRfl
namespace Go.Proofs.YtjpglpglgkopiaaDoor
/- THE CELL 'sum', in the pinned program and in every row, IS THE sha256 OF THE DUMP (.gsa) THAT YtjpglpglgkopiaaDoorProg.lean LOADS. Nothing in Lean hashes anything: it is a label: what it is worth is what the hold of that sum in a sandbox is worth. -/
noncomputable def Tryd.pinned : Pinned := { name := "ytjpglpglgkopiaadoor", sum := "214121f3f1893f14339b3ca1d746bd7bc49f4a2df420bc5a612c75eb567ed8d4", checked := Tryd.checked }
namespace Rows
def none {H : Type} : Left H := { results := [], args := [] }

/- WHAT THE LISTED PACKAGE-LEVEL VARIABLES READ AS WHEN THE CALL BEGINS. Each datum BY PROGRAM (the guide's laid-datum.mjs) off the statement by which the dump's own 'gosem.cut.vars' lays the variable. In a bare row this is a premise. The card (YtjpglpglgkopiaaDoorCards.lean) ties it to the program's text. -/
def laid_errors_errorType {H : Type} : DataW H := .iface "internal/reflectlite.rtype" (.agg [.ptr (.lit (.string [101, 114, 114, 111, 114]))])

/-- 'laws.FnExactHeaderFrom': WHATEVER THE INPUT: true; the input reads as it did. -/
def fnExactHeaderFromSpec : ChangeSpec := { name := "fnExactHeaderFrom", fn := fun _ => fun
  | [d1, d2] => { results := [.lit (.bool true)], args := [d1, d2] }
  | _ => none }
def fnExactHeaderFromRow : OpenClaim := { program := "ytjpglpglgkopiaadoor", sum := "214121f3f1893f14339b3ca1d746bd7bc49f4a2df420bc5a612c75eb567ed8d4", func := "loop.example/mediarelay/laws.FnExactHeaderFrom", spec := "fnExactHeaderFrom", inPlace := ["internal/reflectlite.ValueOf", "(internal/reflectlite.Value).Type", "(internal/reflectlite.Value).IsNil", "internal/reflectlite.TypeOf", "(internal/reflectlite.Value).Elem", "(internal/reflectlite.Value).Set"], unfollowed := true, recurses := true, named := ["errors.errorType"], apart := false, laid := [("errors.errorType", laid_errors_errorType)] }
def FnExactHeaderFromSaid : Prop := fnExactHeaderFromRow.holds Tryd.pinned (OpenSpec.ofChange fnExactHeaderFromSpec)

/-- ITS FALSE NEIGHBOUR: 'it returns false'. Refute it at one input. -/
def fnExactHeaderFromWrong : ChangeSpec := { name := "fnExactHeaderFrom", fn := fun _ => fun
  | [d1, d2] => { results := [.lit (.bool false)], args := [d1, d2] }
  | _ => none }
def FnExactHeaderFromWrongFalsely : Prop := fnExactHeaderFromRow.holds Tryd.pinned (OpenSpec.ofChange fnExactHeaderFromWrong)

/-- 'laws.FnHeader': WHATEVER THE INPUT: true; the input reads as it did. -/
def fnHeaderSpec : ChangeSpec := { name := "fnHeader", fn := fun _ => fun
  | [d] => { results := [.lit (.bool true)], args := [d] }
  | _ => none }
def fnHeaderRow : OpenClaim := { program := "ytjpglpglgkopiaadoor", sum := "214121f3f1893f14339b3ca1d746bd7bc49f4a2df420bc5a612c75eb567ed8d4", func := "loop.example/mediarelay/laws.FnHeader", spec := "fnHeader", inPlace := ["internal/reflectlite.ValueOf", "(internal/reflectlite.Value).Type", "(internal/reflectlite.Value).IsNil", "internal/reflectlite.TypeOf", "(internal/reflectlite.Value).Elem", "(internal/reflectlite.Value).Set"], unfollowed := true, recurses := true, named := ["errors.errorType"], apart := false, laid := [("errors.errorType", laid_errors_errorType)] }
def FnHeaderSaid : Prop := fnHeaderRow.holds Tryd.pinned (OpenSpec.ofChange fnHeaderSpec)

/-- ITS FALSE NEIGHBOUR: 'it returns false'. Refute it at one input. -/
def fnHeaderWrong : ChangeSpec := { name := "fnHeader", fn := fun _ => fun
  | [d] => { results := [.lit (.bool false)], args := [d] }
  | _ => none }
def FnHeaderWrongFalsely : Prop := fnHeaderRow.holds Tryd.pinned (OpenSpec.ofChange fnHeaderWrong)

/-- 'laws.FnHeaderNear': WHATEVER THE INPUT: true; the input reads as it did. -/
def fnHeaderNearSpec : ChangeSpec := { name := "fnHeaderNear", fn := fun _ => fun
  | [d1, d2] => { results := [.lit (.bool true)], args := [d1, d2] }
  | _ => none }
def fnHeaderNearRow : OpenClaim := { program := "ytjpglpglgkopiaadoor", sum := "214121f3f1893f14339b3ca1d746bd7bc49f4a2df420bc5a612c75eb567ed8d4", func := "loop.example/mediarelay/laws.FnHeaderNear", spec := "fnHeaderNear", inPlace := ["internal/reflectlite.ValueOf", "(internal/reflectlite.Value).Type", "(internal/reflectlite.Value).IsNil", "internal/reflectlite.TypeOf", "(internal/reflectlite.Value).Elem", "(internal/reflectlite.Value).Set"], unfollowed := true, recurses := true, named := ["errors.errorType"], apart := false, laid := [("errors.errorType", laid_errors_errorType)] }
def FnHeaderNearSaid : Prop := fnHeaderNearRow.holds Tryd.pinned (OpenSpec.ofChange fnHeaderNearSpec)

/-- ITS FALSE NEIGHBOUR: 'it returns false'. Refute it at one input. -/
def fnHeaderNearWrong : ChangeSpec := { name := "fnHeaderNear", fn := fun _ => fun
  | [d1, d2] => { results := [.lit (.bool false)], args := [d1, d2] }
  | _ => none }
def FnHeaderNearWrongFalsely : Prop := fnHeaderNearRow.holds Tryd.pinned (OpenSpec.ofChange fnHeaderNearWrong)

/-- 'laws.FnHeaderTorn': WHATEVER THE INPUT: true; the input reads as it did. -/
def fnHeaderTornSpec : ChangeSpec := { name := "fnHeaderTorn", fn := fun _ => fun
  | [d] => { results := [.lit (.bool true)], args := [d] }
  | _ => none }
def fnHeaderTornRow : OpenClaim := { program := "ytjpglpglgkopiaadoor", sum := "214121f3f1893f14339b3ca1d746bd7bc49f4a2df420bc5a612c75eb567ed8d4", func := "loop.example/mediarelay/laws.FnHeaderTorn", spec := "fnHeaderTorn", inPlace := ["internal/reflectlite.ValueOf", "(internal/reflectlite.Value).Type", "(internal/reflectlite.Value).IsNil", "internal/reflectlite.TypeOf", "(internal/reflectlite.Value).Elem", "(internal/reflectlite.Value).Set"], unfollowed := true, recurses := true, named := ["errors.errorType"], apart := false, laid := [("errors.errorType", laid_errors_errorType)] }
def FnHeaderTornSaid : Prop := fnHeaderTornRow.holds Tryd.pinned (OpenSpec.ofChange fnHeaderTornSpec)

/-- ITS FALSE NEIGHBOUR: 'it returns false'. Refute it at one input. -/
def fnHeaderTornWrong : ChangeSpec := { name := "fnHeaderTorn", fn := fun _ => fun
  | [d] => { results := [.lit (.bool false)], args := [d] }
  | _ => none }
def FnHeaderTornWrongFalsely : Prop := fnHeaderTornRow.holds Tryd.pinned (OpenSpec.ofChange fnHeaderTornWrong)

/-- 'laws.FnHeaderFrom': WHATEVER THE INPUT: true; the input reads as it did. -/
def fnHeaderFromSpec : ChangeSpec := { name := "fnHeaderFrom", fn := fun _ => fun
  | [d] => { results := [.lit (.bool true)], args := [d] }
  | _ => none }
def fnHeaderFromRow : OpenClaim := { program := "ytjpglpglgkopiaadoor", sum := "214121f3f1893f14339b3ca1d746bd7bc49f4a2df420bc5a612c75eb567ed8d4", func := "loop.example/mediarelay/laws.FnHeaderFrom", spec := "fnHeaderFrom", inPlace := ["internal/reflectlite.ValueOf", "(internal/reflectlite.Value).Type", "(internal/reflectlite.Value).IsNil", "internal/reflectlite.TypeOf", "(internal/reflectlite.Value).Elem", "(internal/reflectlite.Value).Set"], unfollowed := true, recurses := true, named := ["errors.errorType"], apart := false, laid := [("errors.errorType", laid_errors_errorType)] }
def FnHeaderFromSaid : Prop := fnHeaderFromRow.holds Tryd.pinned (OpenSpec.ofChange fnHeaderFromSpec)

/-- ITS FALSE NEIGHBOUR: 'it returns false'. Refute it at one input. -/
def fnHeaderFromWrong : ChangeSpec := { name := "fnHeaderFrom", fn := fun _ => fun
  | [d] => { results := [.lit (.bool false)], args := [d] }
  | _ => none }
def FnHeaderFromWrongFalsely : Prop := fnHeaderFromRow.holds Tryd.pinned (OpenSpec.ofChange fnHeaderFromWrong)

/-- 'laws.FnHeadersRead': WHATEVER THE INPUT: true; the input reads as it did. -/
def fnHeadersReadSpec : ChangeSpec := { name := "fnHeadersRead", fn := fun _ => fun
  | [d] => { results := [.lit (.bool true)], args := [d] }
  | _ => none }
def fnHeadersReadRow : OpenClaim := { program := "ytjpglpglgkopiaadoor", sum := "214121f3f1893f14339b3ca1d746bd7bc49f4a2df420bc5a612c75eb567ed8d4", func := "loop.example/mediarelay/laws.FnHeadersRead", spec := "fnHeadersRead", inPlace := ["internal/reflectlite.ValueOf", "(internal/reflectlite.Value).Type", "(internal/reflectlite.Value).IsNil", "internal/reflectlite.TypeOf", "(internal/reflectlite.Value).Elem", "(internal/reflectlite.Value).Set"], unfollowed := true, recurses := true, named := ["errors.errorType"], apart := false, laid := [("errors.errorType", laid_errors_errorType)] }
def FnHeadersReadSaid : Prop := fnHeadersReadRow.holds Tryd.pinned (OpenSpec.ofChange fnHeadersReadSpec)

/-- ITS FALSE NEIGHBOUR: 'it returns false'. Refute it at one input. -/
def fnHeadersReadWrong : ChangeSpec := { name := "fnHeadersRead", fn := fun _ => fun
  | [d] => { results := [.lit (.bool false)], args := [d] }
  | _ => none }
def FnHeadersReadWrongFalsely : Prop := fnHeadersReadRow.holds Tryd.pinned (OpenSpec.ofChange fnHeadersReadWrong)

/-- 'laws.FnHeadersFirst': WHATEVER THE INPUT: true; the input reads as it did. -/
def fnHeadersFirstSpec : ChangeSpec := { name := "fnHeadersFirst", fn := fun _ => fun
  | [d] => { results := [.lit (.bool true)], args := [d] }
  | _ => none }
def fnHeadersFirstRow : OpenClaim := { program := "ytjpglpglgkopiaadoor", sum := "214121f3f1893f14339b3ca1d746bd7bc49f4a2df420bc5a612c75eb567ed8d4", func := "loop.example/mediarelay/laws.FnHeadersFirst", spec := "fnHeadersFirst", inPlace := ["internal/reflectlite.ValueOf", "(internal/reflectlite.Value).Type", "(internal/reflectlite.Value).IsNil", "internal/reflectlite.TypeOf", "(internal/reflectlite.Value).Elem", "(internal/reflectlite.Value).Set"], unfollowed := true, recurses := true, named := ["errors.errorType"], apart := false, laid := [("errors.errorType", laid_errors_errorType)] }
def FnHeadersFirstSaid : Prop := fnHeadersFirstRow.holds Tryd.pinned (OpenSpec.ofChange fnHeadersFirstSpec)

/-- ITS FALSE NEIGHBOUR: 'it returns false'. Refute it at one input. -/
def fnHeadersFirstWrong : ChangeSpec := { name := "fnHeadersFirst", fn := fun _ => fun
  | [d] => { results := [.lit (.bool false)], args := [d] }
  | _ => none }
def FnHeadersFirstWrongFalsely : Prop := fnHeadersFirstRow.holds Tryd.pinned (OpenSpec.ofChange fnHeadersFirstWrong)

/-- 'laws.FnExactHeadersFrom': WHATEVER THE INPUT: true; the input reads as it did. -/
def fnExactHeadersFromSpec : ChangeSpec := { name := "fnExactHeadersFrom", fn := fun _ => fun
  | [d1, d2] => { results := [.lit (.bool true)], args := [d1, d2] }
  | _ => none }
def fnExactHeadersFromRow : OpenClaim := { program := "ytjpglpglgkopiaadoor", sum := "214121f3f1893f14339b3ca1d746bd7bc49f4a2df420bc5a612c75eb567ed8d4", func := "loop.example/mediarelay/laws.FnExactHeadersFrom", spec := "fnExactHeadersFrom", inPlace := ["internal/reflectlite.ValueOf", "(internal/reflectlite.Value).Type", "(internal/reflectlite.Value).IsNil", "internal/reflectlite.TypeOf", "(internal/reflectlite.Value).Elem", "(internal/reflectlite.Value).Set"], unfollowed := true, recurses := true, named := ["errors.errorType"], apart := false, laid := [("errors.errorType", laid_errors_errorType)] }
def FnExactHeadersFromSaid : Prop := fnExactHeadersFromRow.holds Tryd.pinned (OpenSpec.ofChange fnExactHeadersFromSpec)

/-- ITS FALSE NEIGHBOUR: 'it returns false'. Refute it at one input. -/
def fnExactHeadersFromWrong : ChangeSpec := { name := "fnExactHeadersFrom", fn := fun _ => fun
  | [d1, d2] => { results := [.lit (.bool false)], args := [d1, d2] }
  | _ => none }
def FnExactHeadersFromWrongFalsely : Prop := fnExactHeadersFromRow.holds Tryd.pinned (OpenSpec.ofChange fnExactHeadersFromWrong)

/-- 'laws.FnHeadersFrom': WHATEVER THE INPUT: true; the input reads as it did. -/
def fnHeadersFromSpec : ChangeSpec := { name := "fnHeadersFrom", fn := fun _ => fun
  | [d] => { results := [.lit (.bool true)], args := [d] }
  | _ => none }
def fnHeadersFromRow : OpenClaim := { program := "ytjpglpglgkopiaadoor", sum := "214121f3f1893f14339b3ca1d746bd7bc49f4a2df420bc5a612c75eb567ed8d4", func := "loop.example/mediarelay/laws.FnHeadersFrom", spec := "fnHeadersFrom", inPlace := ["internal/reflectlite.ValueOf", "(internal/reflectlite.Value).Type", "(internal/reflectlite.Value).IsNil", "internal/reflectlite.TypeOf", "(internal/reflectlite.Value).Elem", "(internal/reflectlite.Value).Set"], unfollowed := true, recurses := true, named := ["errors.errorType"], apart := false, laid := [("errors.errorType", laid_errors_errorType)] }
def FnHeadersFromSaid : Prop := fnHeadersFromRow.holds Tryd.pinned (OpenSpec.ofChange fnHeadersFromSpec)

/-- ITS FALSE NEIGHBOUR: 'it returns false'. Refute it at one input. -/
def fnHeadersFromWrong : ChangeSpec := { name := "fnHeadersFrom", fn := fun _ => fun
  | [d] => { results := [.lit (.bool false)], args := [d] }
  | _ => none }
def FnHeadersFromWrongFalsely : Prop := fnHeadersFromRow.holds Tryd.pinned (OpenSpec.ofChange fnHeadersFromWrong)

/- THE SECOND FORM. 'bulk': how many values and letters a reading holds, each counted each time it is reached (what is shared counts as often as it is met; a slice's spare places count too). A statement '..UptoSaid' is the law's where the arguments, and the package variables that the reading takes, are together of bulk at most 1048576: NARROWER than '..Said'. Prove '..Said' where nothing that the law and all that it calls make is longer than what came in: it says more and counts as full. Else prove '..UptoSaid'. A law counts once. -/
mutual
def uptoBulk {H : Type} : DataW H → Nat
  | .lit (.string bytes) => bytes.length + 1
  | .lit _ => 1
  | .nil => 1
  | .ptr d => uptoBulk d + 1
  | .slice elems spare => uptoBulkAll elems + uptoBulkAll spare + 1
  | .agg parts => uptoBulkAll parts + 1
  | .iface _ d => uptoBulk d + 1
  | .map entries => uptoBulkEntries entries + 1
  | .held _ => 1
def uptoBulkAll {H : Type} : List (DataW H) → Nat
  | [] => 0
  | d :: r => uptoBulk d + uptoBulkAll r
def uptoBulkEntries {H : Type} : List (Lit × DataW H) → Nat
  | [] => 0
  | x :: r => uptoBulkEntry x + uptoBulkEntries r
def uptoBulkEntry {H : Type} : Lit × DataW H → Nat
  | (.string bytes, d) => bytes.length + uptoBulk d + 1
  | (_, d) => uptoBulk d + 1
 end
def uptoSmall : (H : Type) → List (DataW H) → Bool := fun _ ds => decide (uptoBulkAll ds ≤ 1048576)
def OpenSpec.upto (s : _root_.Go.ChangeSpec) : _root_.Go.OpenSpec := { _root_.Go.OpenSpec.ofChange s with cond := some uptoSmall }

/-- 'laws.FnExactHeaderFrom', WHERE WHAT IT READS IS OF BULK AT MOST 1048576: true; the input reads as it did. -/
def fnExactHeaderFromUptoRow : OpenClaim := { program := "ytjpglpglgkopiaadoor", sum := "214121f3f1893f14339b3ca1d746bd7bc49f4a2df420bc5a612c75eb567ed8d4", func := "loop.example/mediarelay/laws.FnExactHeaderFrom", spec := "fnExactHeaderFrom", inPlace := ["internal/reflectlite.ValueOf", "(internal/reflectlite.Value).Type", "(internal/reflectlite.Value).IsNil", "internal/reflectlite.TypeOf", "(internal/reflectlite.Value).Elem", "(internal/reflectlite.Value).Set"], unfollowed := true, recurses := true, named := ["errors.errorType"], apart := false, laid := [("errors.errorType", laid_errors_errorType)], narrowed := true }
def FnExactHeaderFromUptoSaid : Prop := fnExactHeaderFromUptoRow.holds Tryd.pinned (OpenSpec.upto fnExactHeaderFromSpec)

/-- 'laws.FnHeader', WHERE WHAT IT READS IS OF BULK AT MOST 1048576: true; the input reads as it did. -/
def fnHeaderUptoRow : OpenClaim := { program := "ytjpglpglgkopiaadoor", sum := "214121f3f1893f14339b3ca1d746bd7bc49f4a2df420bc5a612c75eb567ed8d4", func := "loop.example/mediarelay/laws.FnHeader", spec := "fnHeader", inPlace := ["internal/reflectlite.ValueOf", "(internal/reflectlite.Value).Type", "(internal/reflectlite.Value).IsNil", "internal/reflectlite.TypeOf", "(internal/reflectlite.Value).Elem", "(internal/reflectlite.Value).Set"], unfollowed := true, recurses := true, named := ["errors.errorType"], apart := false, laid := [("errors.errorType", laid_errors_errorType)], narrowed := true }
def FnHeaderUptoSaid : Prop := fnHeaderUptoRow.holds Tryd.pinned (OpenSpec.upto fnHeaderSpec)

/-- 'laws.FnHeaderNear', WHERE WHAT IT READS IS OF BULK AT MOST 1048576: true; the input reads as it did. -/
def fnHeaderNearUptoRow : OpenClaim := { program := "ytjpglpglgkopiaadoor", sum := "214121f3f1893f14339b3ca1d746bd7bc49f4a2df420bc5a612c75eb567ed8d4", func := "loop.example/mediarelay/laws.FnHeaderNear", spec := "fnHeaderNear", inPlace := ["internal/reflectlite.ValueOf", "(internal/reflectlite.Value).Type", "(internal/reflectlite.Value).IsNil", "internal/reflectlite.TypeOf", "(internal/reflectlite.Value).Elem", "(internal/reflectlite.Value).Set"], unfollowed := true, recurses := true, named := ["errors.errorType"], apart := false, laid := [("errors.errorType", laid_errors_errorType)], narrowed := true }
def FnHeaderNearUptoSaid : Prop := fnHeaderNearUptoRow.holds Tryd.pinned (OpenSpec.upto fnHeaderNearSpec)

/-- 'laws.FnHeaderTorn', WHERE WHAT IT READS IS OF BULK AT MOST 1048576: true; the input reads as it did. -/
def fnHeaderTornUptoRow : OpenClaim := { program := "ytjpglpglgkopiaadoor", sum := "214121f3f1893f14339b3ca1d746bd7bc49f4a2df420bc5a612c75eb567ed8d4", func := "loop.example/mediarelay/laws.FnHeaderTorn", spec := "fnHeaderTorn", inPlace := ["internal/reflectlite.ValueOf", "(internal/reflectlite.Value).Type", "(internal/reflectlite.Value).IsNil", "internal/reflectlite.TypeOf", "(internal/reflectlite.Value).Elem", "(internal/reflectlite.Value).Set"], unfollowed := true, recurses := true, named := ["errors.errorType"], apart := false, laid := [("errors.errorType", laid_errors_errorType)], narrowed := true }
def FnHeaderTornUptoSaid : Prop := fnHeaderTornUptoRow.holds Tryd.pinned (OpenSpec.upto fnHeaderTornSpec)

/-- 'laws.FnHeaderFrom', WHERE WHAT IT READS IS OF BULK AT MOST 1048576: true; the input reads as it did. -/
def fnHeaderFromUptoRow : OpenClaim := { program := "ytjpglpglgkopiaadoor", sum := "214121f3f1893f14339b3ca1d746bd7bc49f4a2df420bc5a612c75eb567ed8d4", func := "loop.example/mediarelay/laws.FnHeaderFrom", spec := "fnHeaderFrom", inPlace := ["internal/reflectlite.ValueOf", "(internal/reflectlite.Value).Type", "(internal/reflectlite.Value).IsNil", "internal/reflectlite.TypeOf", "(internal/reflectlite.Value).Elem", "(internal/reflectlite.Value).Set"], unfollowed := true, recurses := true, named := ["errors.errorType"], apart := false, laid := [("errors.errorType", laid_errors_errorType)], narrowed := true }
def FnHeaderFromUptoSaid : Prop := fnHeaderFromUptoRow.holds Tryd.pinned (OpenSpec.upto fnHeaderFromSpec)

/-- 'laws.FnHeadersRead', WHERE WHAT IT READS IS OF BULK AT MOST 1048576: true; the input reads as it did. -/
def fnHeadersReadUptoRow : OpenClaim := { program := "ytjpglpglgkopiaadoor", sum := "214121f3f1893f14339b3ca1d746bd7bc49f4a2df420bc5a612c75eb567ed8d4", func := "loop.example/mediarelay/laws.FnHeadersRead", spec := "fnHeadersRead", inPlace := ["internal/reflectlite.ValueOf", "(internal/reflectlite.Value).Type", "(internal/reflectlite.Value).IsNil", "internal/reflectlite.TypeOf", "(internal/reflectlite.Value).Elem", "(internal/reflectlite.Value).Set"], unfollowed := true, recurses := true, named := ["errors.errorType"], apart := false, laid := [("errors.errorType", laid_errors_errorType)], narrowed := true }
def FnHeadersReadUptoSaid : Prop := fnHeadersReadUptoRow.holds Tryd.pinned (OpenSpec.upto fnHeadersReadSpec)

/-- 'laws.FnHeadersFirst', WHERE WHAT IT READS IS OF BULK AT MOST 1048576: true; the input reads as it did. -/
def fnHeadersFirstUptoRow : OpenClaim := { program := "ytjpglpglgkopiaadoor", sum := "214121f3f1893f14339b3ca1d746bd7bc49f4a2df420bc5a612c75eb567ed8d4", func := "loop.example/mediarelay/laws.FnHeadersFirst", spec := "fnHeadersFirst", inPlace := ["internal/reflectlite.ValueOf", "(internal/reflectlite.Value).Type", "(internal/reflectlite.Value).IsNil", "internal/reflectlite.TypeOf", "(internal/reflectlite.Value).Elem", "(internal/reflectlite.Value).Set"], unfollowed := true, recurses := true, named := ["errors.errorType"], apart := false, laid := [("errors.errorType", laid_errors_errorType)], narrowed := true }
def FnHeadersFirstUptoSaid : Prop := fnHeadersFirstUptoRow.holds Tryd.pinned (OpenSpec.upto fnHeadersFirstSpec)

/-- 'laws.FnExactHeadersFrom', WHERE WHAT IT READS IS OF BULK AT MOST 1048576: true; the input reads as it did. -/
def fnExactHeadersFromUptoRow : OpenClaim := { program := "ytjpglpglgkopiaadoor", sum := "214121f3f1893f14339b3ca1d746bd7bc49f4a2df420bc5a612c75eb567ed8d4", func := "loop.example/mediarelay/laws.FnExactHeadersFrom", spec := "fnExactHeadersFrom", inPlace := ["internal/reflectlite.ValueOf", "(internal/reflectlite.Value).Type", "(internal/reflectlite.Value).IsNil", "internal/reflectlite.TypeOf", "(internal/reflectlite.Value).Elem", "(internal/reflectlite.Value).Set"], unfollowed := true, recurses := true, named := ["errors.errorType"], apart := false, laid := [("errors.errorType", laid_errors_errorType)], narrowed := true }
def FnExactHeadersFromUptoSaid : Prop := fnExactHeadersFromUptoRow.holds Tryd.pinned (OpenSpec.upto fnExactHeadersFromSpec)

/-- 'laws.FnHeadersFrom', WHERE WHAT IT READS IS OF BULK AT MOST 1048576: true; the input reads as it did. -/
def fnHeadersFromUptoRow : OpenClaim := { program := "ytjpglpglgkopiaadoor", sum := "214121f3f1893f14339b3ca1d746bd7bc49f4a2df420bc5a612c75eb567ed8d4", func := "loop.example/mediarelay/laws.FnHeadersFrom", spec := "fnHeadersFrom", inPlace := ["internal/reflectlite.ValueOf", "(internal/reflectlite.Value).Type", "(internal/reflectlite.Value).IsNil", "internal/reflectlite.TypeOf", "(internal/reflectlite.Value).Elem", "(internal/reflectlite.Value).Set"], unfollowed := true, recurses := true, named := ["errors.errorType"], apart := false, laid := [("errors.errorType", laid_errors_errorType)], narrowed := true }
def FnHeadersFromUptoSaid : Prop := fnHeadersFromUptoRow.holds Tryd.pinned (OpenSpec.upto fnHeadersFromSpec)

end Rows
end Go.Proofs.YtjpglpglgkopiaaDoor
