/-
  DERIVED. GIVEN WITH THE SEED: THE CARDS: each row of YtbndichleiameaaDoorRows.lean that lists a variable, with what it lists TIED to the program's text (the seventh form; the later family's looks); each row that meets fmt, with fmt's text TOLD by the authors' own Lean function (tested against real Go, not proved from fmt's source: count such statements apart). THE CARD IS WHAT COUNTS. Prove the row's statement (the work); the ties are given (YtbndichleiameaaDoorTie.lean); close each card by the builder's one call (the guide's Derived/Test/ToyasCard.lean, 'card_holds'). Laid BY PROGRAM, IN A SANDBOX (cutbox-door.mjs). By AI agents, Wed Nov 11 2026. No macro, syntax, notation, axiom, sorry.
-/
import Derived.Test.YtbndichleiameaaDoorRows
import GoSem.ClaimSeven
namespace Go.Proofs.YtbndichleiameaaDoor
namespace Rows

/-- THE TIED CARD OF 'ostlerlaw10.PrioParses'. -/
def prioParsesCard : Claim7 := { stood := { row := prioParsesRow, standIns := [], harness := (true, "cc8c975a6dbaf294738da61994e5fd356db96e362709d6a94f8e8216b46402a1"), looks := false }, kinds := [], alts := [], laidByText := true, laidKinds := [.data, .data, .data, .data, .pinned], laidTests := true, laidLooks := .later }
def PrioParsesCardSaid : Prop := Claim7.holds Tryd.pinned (.plain (OpenSpec.ofChange prioParsesSpec)) prioParsesCard

/-- THE TIED CARD OF 'ostlerlaw10.PrioFormats'. -/
def prioFormatsCard : Claim7 := { stood := { row := prioFormatsRow, standIns := [], harness := (true, "cc8c975a6dbaf294738da61994e5fd356db96e362709d6a94f8e8216b46402a1"), looks := false }, kinds := [], alts := [], laidByText := true, laidKinds := [.data, .data, .data, .data, .pinned], laidTests := true, laidLooks := .later }
def PrioFormatsCardSaid : Prop := Claim7.holds Tryd.pinned (.plain (OpenSpec.ofChange prioFormatsSpec)) prioFormatsCard

/-- THE TIED CARD OF 'ostlerlaw10.PrioTurns'. -/
def prioTurnsCard : Claim7 := { stood := { row := prioTurnsRow, standIns := [], harness := (true, "cc8c975a6dbaf294738da61994e5fd356db96e362709d6a94f8e8216b46402a1"), looks := false }, kinds := [], alts := [], laidByText := true, laidKinds := [.data, .data, .data, .data, .pinned], laidTests := true, laidLooks := .later }
def PrioTurnsCardSaid : Prop := Claim7.holds Tryd.pinned (.plain (OpenSpec.ofChange prioTurnsSpec)) prioTurnsCard

/-- THE TIED CARD OF 'ostlerlaw10.PrioUrgent'. -/
def prioUrgentCard : Claim7 := { stood := { row := prioUrgentRow, standIns := [], harness := (true, "cc8c975a6dbaf294738da61994e5fd356db96e362709d6a94f8e8216b46402a1"), looks := false }, kinds := [], alts := [], laidByText := true, laidKinds := [.data, .data, .data, .data, .pinned], laidTests := true, laidLooks := .later }
def PrioUrgentCardSaid : Prop := Claim7.holds Tryd.pinned (.plain (OpenSpec.ofChange prioUrgentSpec)) prioUrgentCard

/-- THE TIED CARD OF 'ostlerlaw10.PrioPlays'. -/
def prioPlaysCard : Claim7 := { stood := { row := prioPlaysRow, standIns := [], harness := (true, "cc8c975a6dbaf294738da61994e5fd356db96e362709d6a94f8e8216b46402a1"), looks := false }, kinds := [], alts := [], laidByText := true, laidKinds := [.data, .data, .data, .data, .pinned], laidTests := true, laidLooks := .later }
def PrioPlaysCardSaid : Prop := Claim7.holds Tryd.pinned (.plain (OpenSpec.ofChange prioPlaysSpec)) prioPlaysCard

/-- THE TIED CARD OF 'ostlerlaw10.PrioNil'. -/
def prioNilCard : Claim7 := { stood := { row := prioNilRow, standIns := [], harness := (true, "cc8c975a6dbaf294738da61994e5fd356db96e362709d6a94f8e8216b46402a1"), looks := false }, kinds := [], alts := [], laidByText := true, laidKinds := [.data, .data, .data, .data, .pinned], laidTests := true, laidLooks := .later }
def PrioNilCardSaid : Prop := Claim7.holds Tryd.pinned (.plain (OpenSpec.ofChange prioNilSpec)) prioNilCard

/-- THE SECOND FORM's CARD OF 'ostlerlaw10.PrioParses'. -/
def prioParsesUptoCard : Claim7 := { stood := { row := prioParsesUptoRow, standIns := [], harness := (true, "cc8c975a6dbaf294738da61994e5fd356db96e362709d6a94f8e8216b46402a1"), looks := false }, kinds := [], alts := [], laidByText := true, laidKinds := [.data, .data, .data, .data, .pinned], laidTests := true, laidLooks := .later }
def PrioParsesUptoCardSaid : Prop := Claim7.holds Tryd.pinned (.plain (OpenSpec.upto prioParsesSpec)) prioParsesUptoCard

/-- THE SECOND FORM's CARD OF 'ostlerlaw10.PrioFormats'. -/
def prioFormatsUptoCard : Claim7 := { stood := { row := prioFormatsUptoRow, standIns := [], harness := (true, "cc8c975a6dbaf294738da61994e5fd356db96e362709d6a94f8e8216b46402a1"), looks := false }, kinds := [], alts := [], laidByText := true, laidKinds := [.data, .data, .data, .data, .pinned], laidTests := true, laidLooks := .later }
def PrioFormatsUptoCardSaid : Prop := Claim7.holds Tryd.pinned (.plain (OpenSpec.upto prioFormatsSpec)) prioFormatsUptoCard

/-- THE SECOND FORM's CARD OF 'ostlerlaw10.PrioTurns'. -/
def prioTurnsUptoCard : Claim7 := { stood := { row := prioTurnsUptoRow, standIns := [], harness := (true, "cc8c975a6dbaf294738da61994e5fd356db96e362709d6a94f8e8216b46402a1"), looks := false }, kinds := [], alts := [], laidByText := true, laidKinds := [.data, .data, .data, .data, .pinned], laidTests := true, laidLooks := .later }
def PrioTurnsUptoCardSaid : Prop := Claim7.holds Tryd.pinned (.plain (OpenSpec.upto prioTurnsSpec)) prioTurnsUptoCard

/-- THE SECOND FORM's CARD OF 'ostlerlaw10.PrioUrgent'. -/
def prioUrgentUptoCard : Claim7 := { stood := { row := prioUrgentUptoRow, standIns := [], harness := (true, "cc8c975a6dbaf294738da61994e5fd356db96e362709d6a94f8e8216b46402a1"), looks := false }, kinds := [], alts := [], laidByText := true, laidKinds := [.data, .data, .data, .data, .pinned], laidTests := true, laidLooks := .later }
def PrioUrgentUptoCardSaid : Prop := Claim7.holds Tryd.pinned (.plain (OpenSpec.upto prioUrgentSpec)) prioUrgentUptoCard

/-- THE SECOND FORM's CARD OF 'ostlerlaw10.PrioPlays'. -/
def prioPlaysUptoCard : Claim7 := { stood := { row := prioPlaysUptoRow, standIns := [], harness := (true, "cc8c975a6dbaf294738da61994e5fd356db96e362709d6a94f8e8216b46402a1"), looks := false }, kinds := [], alts := [], laidByText := true, laidKinds := [.data, .data, .data, .data, .pinned], laidTests := true, laidLooks := .later }
def PrioPlaysUptoCardSaid : Prop := Claim7.holds Tryd.pinned (.plain (OpenSpec.upto prioPlaysSpec)) prioPlaysUptoCard

/-- THE SECOND FORM's CARD OF 'ostlerlaw10.PrioNil'. -/
def prioNilUptoCard : Claim7 := { stood := { row := prioNilUptoRow, standIns := [], harness := (true, "cc8c975a6dbaf294738da61994e5fd356db96e362709d6a94f8e8216b46402a1"), looks := false }, kinds := [], alts := [], laidByText := true, laidKinds := [.data, .data, .data, .data, .pinned], laidTests := true, laidLooks := .later }
def PrioNilUptoCardSaid : Prop := Claim7.holds Tryd.pinned (.plain (OpenSpec.upto prioNilSpec)) prioNilUptoCard
end Rows
end Go.Proofs.YtbndichleiameaaDoor
