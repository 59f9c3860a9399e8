/-
  DERIVED. GIVEN WITH THE SEED: THE CARDS: each row of YtjpglpglgkopiaaDoorRows.lean that lists a variable, with what it lists TIED to the program's text (the seventh form; the later family's looks); each row that meets fmt, with fmt's text TOLD by the authors' own Lean function (tested against real Go, not proved from fmt's source: count such statements apart). THE CARD IS WHAT COUNTS. Prove the row's statement (the work); the ties are given (YtjpglpglgkopiaaDoorTie.lean); close each card by the builder's one call (the guide's Derived/Test/ToyasCard.lean, 'card_holds'). Laid BY PROGRAM, IN A SANDBOX (cutbox-door.mjs). By AI agents, Wed Nov 11 2026. No macro, syntax, notation, axiom, sorry.
-/
import Derived.Test.YtjpglpglgkopiaaDoorRows
import GoSem.ClaimSeven
namespace Go.Proofs.YtjpglpglgkopiaaDoor
namespace Rows

/-- THE TIED CARD OF 'laws.FnExactHeaderFrom'. -/
def fnExactHeaderFromCard : Claim7 := { stood := { row := fnExactHeaderFromRow, standIns := [], harness := (true, "f2c3165d935d7055cbfed0928b62cc79c40ab9b59b194cd62da8f9fd35a1a633"), looks := true }, kinds := [], alts := [], laidByText := true, laidKinds := [.handle], laidTests := true, laidLooks := .later }
def FnExactHeaderFromCardSaid : Prop := Claim7.holds Tryd.pinned (.plain (OpenSpec.ofChange fnExactHeaderFromSpec)) fnExactHeaderFromCard

/-- THE TIED CARD OF 'laws.FnHeader'. -/
def fnHeaderCard : Claim7 := { stood := { row := fnHeaderRow, standIns := [], harness := (true, "f2c3165d935d7055cbfed0928b62cc79c40ab9b59b194cd62da8f9fd35a1a633"), looks := true }, kinds := [], alts := [], laidByText := true, laidKinds := [.handle], laidTests := true, laidLooks := .later }
def FnHeaderCardSaid : Prop := Claim7.holds Tryd.pinned (.plain (OpenSpec.ofChange fnHeaderSpec)) fnHeaderCard

/-- THE TIED CARD OF 'laws.FnHeaderNear'. -/
def fnHeaderNearCard : Claim7 := { stood := { row := fnHeaderNearRow, standIns := [], harness := (true, "f2c3165d935d7055cbfed0928b62cc79c40ab9b59b194cd62da8f9fd35a1a633"), looks := true }, kinds := [], alts := [], laidByText := true, laidKinds := [.handle], laidTests := true, laidLooks := .later }
def FnHeaderNearCardSaid : Prop := Claim7.holds Tryd.pinned (.plain (OpenSpec.ofChange fnHeaderNearSpec)) fnHeaderNearCard

/-- THE TIED CARD OF 'laws.FnHeaderTorn'. -/
def fnHeaderTornCard : Claim7 := { stood := { row := fnHeaderTornRow, standIns := [], harness := (true, "f2c3165d935d7055cbfed0928b62cc79c40ab9b59b194cd62da8f9fd35a1a633"), looks := true }, kinds := [], alts := [], laidByText := true, laidKinds := [.handle], laidTests := true, laidLooks := .later }
def FnHeaderTornCardSaid : Prop := Claim7.holds Tryd.pinned (.plain (OpenSpec.ofChange fnHeaderTornSpec)) fnHeaderTornCard

/-- THE TIED CARD OF 'laws.FnHeaderFrom'. -/
def fnHeaderFromCard : Claim7 := { stood := { row := fnHeaderFromRow, standIns := [], harness := (true, "f2c3165d935d7055cbfed0928b62cc79c40ab9b59b194cd62da8f9fd35a1a633"), looks := true }, kinds := [], alts := [], laidByText := true, laidKinds := [.handle], laidTests := true, laidLooks := .later }
def FnHeaderFromCardSaid : Prop := Claim7.holds Tryd.pinned (.plain (OpenSpec.ofChange fnHeaderFromSpec)) fnHeaderFromCard

/-- THE TIED CARD OF 'laws.FnHeadersRead'. -/
def fnHeadersReadCard : Claim7 := { stood := { row := fnHeadersReadRow, standIns := [], harness := (true, "f2c3165d935d7055cbfed0928b62cc79c40ab9b59b194cd62da8f9fd35a1a633"), looks := true }, kinds := [], alts := [], laidByText := true, laidKinds := [.handle], laidTests := true, laidLooks := .later }
def FnHeadersReadCardSaid : Prop := Claim7.holds Tryd.pinned (.plain (OpenSpec.ofChange fnHeadersReadSpec)) fnHeadersReadCard

/-- THE TIED CARD OF 'laws.FnHeadersFirst'. -/
def fnHeadersFirstCard : Claim7 := { stood := { row := fnHeadersFirstRow, standIns := [], harness := (true, "f2c3165d935d7055cbfed0928b62cc79c40ab9b59b194cd62da8f9fd35a1a633"), looks := true }, kinds := [], alts := [], laidByText := true, laidKinds := [.handle], laidTests := true, laidLooks := .later }
def FnHeadersFirstCardSaid : Prop := Claim7.holds Tryd.pinned (.plain (OpenSpec.ofChange fnHeadersFirstSpec)) fnHeadersFirstCard

/-- THE TIED CARD OF 'laws.FnExactHeadersFrom'. -/
def fnExactHeadersFromCard : Claim7 := { stood := { row := fnExactHeadersFromRow, standIns := [], harness := (true, "f2c3165d935d7055cbfed0928b62cc79c40ab9b59b194cd62da8f9fd35a1a633"), looks := true }, kinds := [], alts := [], laidByText := true, laidKinds := [.handle], laidTests := true, laidLooks := .later }
def FnExactHeadersFromCardSaid : Prop := Claim7.holds Tryd.pinned (.plain (OpenSpec.ofChange fnExactHeadersFromSpec)) fnExactHeadersFromCard

/-- THE TIED CARD OF 'laws.FnHeadersFrom'. -/
def fnHeadersFromCard : Claim7 := { stood := { row := fnHeadersFromRow, standIns := [], harness := (true, "f2c3165d935d7055cbfed0928b62cc79c40ab9b59b194cd62da8f9fd35a1a633"), looks := true }, kinds := [], alts := [], laidByText := true, laidKinds := [.handle], laidTests := true, laidLooks := .later }
def FnHeadersFromCardSaid : Prop := Claim7.holds Tryd.pinned (.plain (OpenSpec.ofChange fnHeadersFromSpec)) fnHeadersFromCard

/-- THE SECOND FORM's CARD OF 'laws.FnExactHeaderFrom'. -/
def fnExactHeaderFromUptoCard : Claim7 := { stood := { row := fnExactHeaderFromUptoRow, standIns := [], harness := (true, "f2c3165d935d7055cbfed0928b62cc79c40ab9b59b194cd62da8f9fd35a1a633"), looks := true }, kinds := [], alts := [], laidByText := true, laidKinds := [.handle], laidTests := true, laidLooks := .later }
def FnExactHeaderFromUptoCardSaid : Prop := Claim7.holds Tryd.pinned (.plain (OpenSpec.upto fnExactHeaderFromSpec)) fnExactHeaderFromUptoCard

/-- THE SECOND FORM's CARD OF 'laws.FnHeader'. -/
def fnHeaderUptoCard : Claim7 := { stood := { row := fnHeaderUptoRow, standIns := [], harness := (true, "f2c3165d935d7055cbfed0928b62cc79c40ab9b59b194cd62da8f9fd35a1a633"), looks := true }, kinds := [], alts := [], laidByText := true, laidKinds := [.handle], laidTests := true, laidLooks := .later }
def FnHeaderUptoCardSaid : Prop := Claim7.holds Tryd.pinned (.plain (OpenSpec.upto fnHeaderSpec)) fnHeaderUptoCard

/-- THE SECOND FORM's CARD OF 'laws.FnHeaderNear'. -/
def fnHeaderNearUptoCard : Claim7 := { stood := { row := fnHeaderNearUptoRow, standIns := [], harness := (true, "f2c3165d935d7055cbfed0928b62cc79c40ab9b59b194cd62da8f9fd35a1a633"), looks := true }, kinds := [], alts := [], laidByText := true, laidKinds := [.handle], laidTests := true, laidLooks := .later }
def FnHeaderNearUptoCardSaid : Prop := Claim7.holds Tryd.pinned (.plain (OpenSpec.upto fnHeaderNearSpec)) fnHeaderNearUptoCard

/-- THE SECOND FORM's CARD OF 'laws.FnHeaderTorn'. -/
def fnHeaderTornUptoCard : Claim7 := { stood := { row := fnHeaderTornUptoRow, standIns := [], harness := (true, "f2c3165d935d7055cbfed0928b62cc79c40ab9b59b194cd62da8f9fd35a1a633"), looks := true }, kinds := [], alts := [], laidByText := true, laidKinds := [.handle], laidTests := true, laidLooks := .later }
def FnHeaderTornUptoCardSaid : Prop := Claim7.holds Tryd.pinned (.plain (OpenSpec.upto fnHeaderTornSpec)) fnHeaderTornUptoCard

/-- THE SECOND FORM's CARD OF 'laws.FnHeaderFrom'. -/
def fnHeaderFromUptoCard : Claim7 := { stood := { row := fnHeaderFromUptoRow, standIns := [], harness := (true, "f2c3165d935d7055cbfed0928b62cc79c40ab9b59b194cd62da8f9fd35a1a633"), looks := true }, kinds := [], alts := [], laidByText := true, laidKinds := [.handle], laidTests := true, laidLooks := .later }
def FnHeaderFromUptoCardSaid : Prop := Claim7.holds Tryd.pinned (.plain (OpenSpec.upto fnHeaderFromSpec)) fnHeaderFromUptoCard

/-- THE SECOND FORM's CARD OF 'laws.FnHeadersRead'. -/
def fnHeadersReadUptoCard : Claim7 := { stood := { row := fnHeadersReadUptoRow, standIns := [], harness := (true, "f2c3165d935d7055cbfed0928b62cc79c40ab9b59b194cd62da8f9fd35a1a633"), looks := true }, kinds := [], alts := [], laidByText := true, laidKinds := [.handle], laidTests := true, laidLooks := .later }
def FnHeadersReadUptoCardSaid : Prop := Claim7.holds Tryd.pinned (.plain (OpenSpec.upto fnHeadersReadSpec)) fnHeadersReadUptoCard

/-- THE SECOND FORM's CARD OF 'laws.FnHeadersFirst'. -/
def fnHeadersFirstUptoCard : Claim7 := { stood := { row := fnHeadersFirstUptoRow, standIns := [], harness := (true, "f2c3165d935d7055cbfed0928b62cc79c40ab9b59b194cd62da8f9fd35a1a633"), looks := true }, kinds := [], alts := [], laidByText := true, laidKinds := [.handle], laidTests := true, laidLooks := .later }
def FnHeadersFirstUptoCardSaid : Prop := Claim7.holds Tryd.pinned (.plain (OpenSpec.upto fnHeadersFirstSpec)) fnHeadersFirstUptoCard

/-- THE SECOND FORM's CARD OF 'laws.FnExactHeadersFrom'. -/
def fnExactHeadersFromUptoCard : Claim7 := { stood := { row := fnExactHeadersFromUptoRow, standIns := [], harness := (true, "f2c3165d935d7055cbfed0928b62cc79c40ab9b59b194cd62da8f9fd35a1a633"), looks := true }, kinds := [], alts := [], laidByText := true, laidKinds := [.handle], laidTests := true, laidLooks := .later }
def FnExactHeadersFromUptoCardSaid : Prop := Claim7.holds Tryd.pinned (.plain (OpenSpec.upto fnExactHeadersFromSpec)) fnExactHeadersFromUptoCard

/-- THE SECOND FORM's CARD OF 'laws.FnHeadersFrom'. -/
def fnHeadersFromUptoCard : Claim7 := { stood := { row := fnHeadersFromUptoRow, standIns := [], harness := (true, "f2c3165d935d7055cbfed0928b62cc79c40ab9b59b194cd62da8f9fd35a1a633"), looks := true }, kinds := [], alts := [], laidByText := true, laidKinds := [.handle], laidTests := true, laidLooks := .later }
def FnHeadersFromUptoCardSaid : Prop := Claim7.holds Tryd.pinned (.plain (OpenSpec.upto fnHeadersFromSpec)) fnHeadersFromUptoCard
end Rows
end Go.Proofs.YtjpglpglgkopiaaDoor
