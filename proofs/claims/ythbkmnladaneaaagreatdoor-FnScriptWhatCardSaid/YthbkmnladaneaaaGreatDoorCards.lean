/-
  DERIVED. GIVEN WITH THE SEED: THE CARDS: each row of YthbkmnladaneaaaGreatDoorRows.lean that lists a variable, with what it lists TIED to the program's text (the seventh form; the later family's looks); each row that meets fmt, with fmt's text TOLD by the authors' own Lean function (tested against real Go, not proved from fmt's source: count such statements apart). THE CARD IS WHAT COUNTS. Prove the row's statement (the work); the ties are given (YthbkmnladaneaaaGreatDoorTie.lean); close each card by the builder's one call (the guide's Derived/Test/ToyasCard.lean, 'card_holds'). Laid BY PROGRAM, IN A SANDBOX (cutbox-door.mjs). By AI agents, Wed Nov 11 2026. No macro, syntax, notation, axiom, sorry.
-/
import Derived.Test.YthbkmnladaneaaaGreatDoorRows
import GoSem.ClaimSeven
namespace Go.Proofs.YthbkmnladaneaaaGreatDoor
namespace Rows

/-- THE TIED CARD OF 'laws.FnScriptWait'. -/
def fnScriptWaitCard : Claim7 := { stood := { row := fnScriptWaitRow, standIns := [], harness := (true, "5b1c8d1f139489b2291203883e38b26fff7b1df61fd5d08406a9c6c670d1818c"), looks := true }, kinds := [], alts := [], laidByText := true, laidKinds := [.data, .data, .data, .data, .pinned], laidTests := true, laidLooks := .later }
def FnScriptWaitCardSaid : Prop := Claim7.holds Tryz.pinned (.plain (OpenSpec.ofChange fnScriptWaitSpec)) fnScriptWaitCard

/-- THE TIED CARD OF 'laws.FnScriptCut'. -/
def fnScriptCutCard : Claim7 := { stood := { row := fnScriptCutRow, standIns := [], harness := (true, "5b1c8d1f139489b2291203883e38b26fff7b1df61fd5d08406a9c6c670d1818c"), looks := true }, kinds := [], alts := [], laidByText := true, laidKinds := [.data, .data, .data, .data, .pinned], laidTests := true, laidLooks := .later }
def FnScriptCutCardSaid : Prop := Claim7.holds Tryz.pinned (.plain (OpenSpec.ofChange fnScriptCutSpec)) fnScriptCutCard

/-- THE TIED CARD OF 'laws.FnScriptWhat'. -/
def fnScriptWhatCard : Claim7 := { stood := { row := fnScriptWhatRow, standIns := [], harness := (true, "5b1c8d1f139489b2291203883e38b26fff7b1df61fd5d08406a9c6c670d1818c"), looks := true }, kinds := [], alts := [], laidByText := true, laidKinds := [.data, .data, .data, .data, .pinned], laidTests := true, laidLooks := .later }
def FnScriptWhatCardSaid : Prop := Claim7.holds Tryz.pinned (.plain (OpenSpec.ofChange fnScriptWhatSpec)) fnScriptWhatCard

/-- THE TIED CARD OF 'laws.FnScript'. -/
def fnScriptCard : Claim7 := { stood := { row := fnScriptRow, standIns := [], harness := (true, "5b1c8d1f139489b2291203883e38b26fff7b1df61fd5d08406a9c6c670d1818c"), looks := true }, kinds := [], alts := [], laidByText := true, laidKinds := [.data, .data, .data, .data, .pinned], laidTests := true, laidLooks := .later }
def FnScriptCardSaid : Prop := Claim7.holds Tryz.pinned (.plain (OpenSpec.ofChange fnScriptSpec)) fnScriptCard

/-- THE TIED CARD OF 'laws.FnScriptBad'. -/
def fnScriptBadCard : Claim7 := { stood := { row := fnScriptBadRow, standIns := [], harness := (true, "5b1c8d1f139489b2291203883e38b26fff7b1df61fd5d08406a9c6c670d1818c"), looks := true }, kinds := [], alts := [], laidByText := true, laidKinds := [.data, .data, .data, .data, .pinned], laidTests := true, laidLooks := .later }
def FnScriptBadCardSaid : Prop := Claim7.holds Tryz.pinned (.plain (OpenSpec.ofChange fnScriptBadSpec)) fnScriptBadCard

/-- THE TIED CARD OF 'laws.FnScriptNew'. -/
def fnScriptNewCard : Claim7 := { stood := { row := fnScriptNewRow, standIns := [], harness := (true, "5b1c8d1f139489b2291203883e38b26fff7b1df61fd5d08406a9c6c670d1818c"), looks := true }, kinds := [], alts := [], laidByText := true, laidKinds := [.data, .data, .data, .data, .pinned], laidTests := true, laidLooks := .later }
def FnScriptNewCardSaid : Prop := Claim7.holds Tryz.pinned (.plain (OpenSpec.ofChange fnScriptNewSpec)) fnScriptNewCard

/-- THE TIED CARD OF 'laws.FnScriptOver'. -/
def fnScriptOverCard : Claim7 := { stood := { row := fnScriptOverRow, standIns := [], harness := (true, "5b1c8d1f139489b2291203883e38b26fff7b1df61fd5d08406a9c6c670d1818c"), looks := true }, kinds := [], alts := [], laidByText := true, laidKinds := [.data, .data, .data, .data, .pinned], laidTests := true, laidLooks := .later }
def FnScriptOverCardSaid : Prop := Claim7.holds Tryz.pinned (.plain (OpenSpec.ofChange fnScriptOverSpec)) fnScriptOverCard

/-- THE TIED CARD OF 'laws.FnScriptRead'. -/
def fnScriptReadCard : Claim7 := { stood := { row := fnScriptReadRow, standIns := [], harness := (true, "5b1c8d1f139489b2291203883e38b26fff7b1df61fd5d08406a9c6c670d1818c"), looks := true }, kinds := [], alts := [], laidByText := true, laidKinds := [.data, .data, .data, .data, .pinned], laidTests := true, laidLooks := .later }
def FnScriptReadCardSaid : Prop := Claim7.holds Tryz.pinned (.plain (OpenSpec.ofChange fnScriptReadSpec)) fnScriptReadCard

/-- THE SECOND FORM's CARD OF 'laws.FnScriptWait'. -/
def fnScriptWaitUptoCard : Claim7 := { stood := { row := fnScriptWaitUptoRow, standIns := [], harness := (true, "5b1c8d1f139489b2291203883e38b26fff7b1df61fd5d08406a9c6c670d1818c"), looks := true }, kinds := [], alts := [], laidByText := true, laidKinds := [.data, .data, .data, .data, .pinned], laidTests := true, laidLooks := .later }
def FnScriptWaitUptoCardSaid : Prop := Claim7.holds Tryz.pinned (.plain (OpenSpec.upto fnScriptWaitSpec)) fnScriptWaitUptoCard

/-- THE SECOND FORM's CARD OF 'laws.FnScriptCut'. -/
def fnScriptCutUptoCard : Claim7 := { stood := { row := fnScriptCutUptoRow, standIns := [], harness := (true, "5b1c8d1f139489b2291203883e38b26fff7b1df61fd5d08406a9c6c670d1818c"), looks := true }, kinds := [], alts := [], laidByText := true, laidKinds := [.data, .data, .data, .data, .pinned], laidTests := true, laidLooks := .later }
def FnScriptCutUptoCardSaid : Prop := Claim7.holds Tryz.pinned (.plain (OpenSpec.upto fnScriptCutSpec)) fnScriptCutUptoCard

/-- THE SECOND FORM's CARD OF 'laws.FnScriptWhat'. -/
def fnScriptWhatUptoCard : Claim7 := { stood := { row := fnScriptWhatUptoRow, standIns := [], harness := (true, "5b1c8d1f139489b2291203883e38b26fff7b1df61fd5d08406a9c6c670d1818c"), looks := true }, kinds := [], alts := [], laidByText := true, laidKinds := [.data, .data, .data, .data, .pinned], laidTests := true, laidLooks := .later }
def FnScriptWhatUptoCardSaid : Prop := Claim7.holds Tryz.pinned (.plain (OpenSpec.upto fnScriptWhatSpec)) fnScriptWhatUptoCard

/-- THE SECOND FORM's CARD OF 'laws.FnScript'. -/
def fnScriptUptoCard : Claim7 := { stood := { row := fnScriptUptoRow, standIns := [], harness := (true, "5b1c8d1f139489b2291203883e38b26fff7b1df61fd5d08406a9c6c670d1818c"), looks := true }, kinds := [], alts := [], laidByText := true, laidKinds := [.data, .data, .data, .data, .pinned], laidTests := true, laidLooks := .later }
def FnScriptUptoCardSaid : Prop := Claim7.holds Tryz.pinned (.plain (OpenSpec.upto fnScriptSpec)) fnScriptUptoCard

/-- THE SECOND FORM's CARD OF 'laws.FnScriptBad'. -/
def fnScriptBadUptoCard : Claim7 := { stood := { row := fnScriptBadUptoRow, standIns := [], harness := (true, "5b1c8d1f139489b2291203883e38b26fff7b1df61fd5d08406a9c6c670d1818c"), looks := true }, kinds := [], alts := [], laidByText := true, laidKinds := [.data, .data, .data, .data, .pinned], laidTests := true, laidLooks := .later }
def FnScriptBadUptoCardSaid : Prop := Claim7.holds Tryz.pinned (.plain (OpenSpec.upto fnScriptBadSpec)) fnScriptBadUptoCard

/-- THE SECOND FORM's CARD OF 'laws.FnScriptNew'. -/
def fnScriptNewUptoCard : Claim7 := { stood := { row := fnScriptNewUptoRow, standIns := [], harness := (true, "5b1c8d1f139489b2291203883e38b26fff7b1df61fd5d08406a9c6c670d1818c"), looks := true }, kinds := [], alts := [], laidByText := true, laidKinds := [.data, .data, .data, .data, .pinned], laidTests := true, laidLooks := .later }
def FnScriptNewUptoCardSaid : Prop := Claim7.holds Tryz.pinned (.plain (OpenSpec.upto fnScriptNewSpec)) fnScriptNewUptoCard

/-- THE SECOND FORM's CARD OF 'laws.FnScriptOver'. -/
def fnScriptOverUptoCard : Claim7 := { stood := { row := fnScriptOverUptoRow, standIns := [], harness := (true, "5b1c8d1f139489b2291203883e38b26fff7b1df61fd5d08406a9c6c670d1818c"), looks := true }, kinds := [], alts := [], laidByText := true, laidKinds := [.data, .data, .data, .data, .pinned], laidTests := true, laidLooks := .later }
def FnScriptOverUptoCardSaid : Prop := Claim7.holds Tryz.pinned (.plain (OpenSpec.upto fnScriptOverSpec)) fnScriptOverUptoCard

/-- THE SECOND FORM's CARD OF 'laws.FnScriptRead'. -/
def fnScriptReadUptoCard : Claim7 := { stood := { row := fnScriptReadUptoRow, standIns := [], harness := (true, "5b1c8d1f139489b2291203883e38b26fff7b1df61fd5d08406a9c6c670d1818c"), looks := true }, kinds := [], alts := [], laidByText := true, laidKinds := [.data, .data, .data, .data, .pinned], laidTests := true, laidLooks := .later }
def FnScriptReadUptoCardSaid : Prop := Claim7.holds Tryz.pinned (.plain (OpenSpec.upto fnScriptReadSpec)) fnScriptReadUptoCard
end Rows
end Go.Proofs.YthbkmnladaneaaaGreatDoor
