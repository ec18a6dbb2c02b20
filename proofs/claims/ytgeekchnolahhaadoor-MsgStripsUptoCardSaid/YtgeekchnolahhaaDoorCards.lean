/-
  DERIVED. GIVEN WITH THE SEED: THE CARDS: each row of YtgeekchnolahhaaDoorRows.lean that lists a variable, with what it lists TIED to the program's text (the seventh form; the later family's looks); each row that meets fmt, with fmt's text TOLD by the authors' own Lean function (tested against real Go, not proved from fmt's source: count such statements apart). THE CARD IS WHAT COUNTS. Prove the row's statement (the work); the ties are given (YtgeekchnolahhaaDoorTie.lean); close each card by the builder's one call (the guide's Derived/Test/ToyasCard.lean, 'card_holds'). Laid BY PROGRAM, IN A SANDBOX (cutbox-door.mjs). By AI agents, Wed Nov 11 2026. No macro, syntax, notation, axiom, sorry.
-/
import Derived.Test.YtgeekchnolahhaaDoorRows
import GoSem.ClaimSeven
namespace Go.Proofs.YtgeekchnolahhaaDoor
namespace Rows

/-- THE TIED CARD OF 'ostlerlaw14.MsgClean'. -/
def msgCleanCard : Claim7 := { stood := { row := msgCleanRow, standIns := [], harness := (true, "97a185af42c265bb9555d8a3e6b1e29fcbd519da36f6882b44868ed55955a0f1"), looks := true }, kinds := [], alts := [], laidByText := true, laidKinds := [.data, .data, .data, .data, .sentinel, .sentinel, .pinned], laidTests := true, laidLooks := .later }
def MsgCleanCardSaid : Prop := Claim7.holds Tryd.pinned (.plain (OpenSpec.ofChange msgCleanSpec)) msgCleanCard

/-- THE TIED CARD OF 'ostlerlaw14.MsgParts'. -/
def msgPartsCard : Claim7 := { stood := { row := msgPartsRow, standIns := [], harness := (true, "97a185af42c265bb9555d8a3e6b1e29fcbd519da36f6882b44868ed55955a0f1"), looks := true }, kinds := [], alts := [], laidByText := true, laidKinds := [.data, .data, .data, .data, .sentinel, .sentinel, .pinned], laidTests := true, laidLooks := .later }
def MsgPartsCardSaid : Prop := Claim7.holds Tryd.pinned (.plain (OpenSpec.ofChange msgPartsSpec)) msgPartsCard

/-- THE TIED CARD OF 'ostlerlaw14.MsgStrips'. -/
def msgStripsCard : Claim7 := { stood := { row := msgStripsRow, standIns := [], harness := (true, "97a185af42c265bb9555d8a3e6b1e29fcbd519da36f6882b44868ed55955a0f1"), looks := true }, kinds := [], alts := [], laidByText := true, laidKinds := [.data, .data, .data, .data, .sentinel, .sentinel, .pinned], laidTests := true, laidLooks := .later }
def MsgStripsCardSaid : Prop := Claim7.holds Tryd.pinned (.plain (OpenSpec.ofChange msgStripsSpec)) msgStripsCard

/-- THE SECOND FORM's CARD OF 'ostlerlaw14.MsgClean'. -/
def msgCleanUptoCard : Claim7 := { stood := { row := msgCleanUptoRow, standIns := [], harness := (true, "97a185af42c265bb9555d8a3e6b1e29fcbd519da36f6882b44868ed55955a0f1"), looks := true }, kinds := [], alts := [], laidByText := true, laidKinds := [.data, .data, .data, .data, .sentinel, .sentinel, .pinned], laidTests := true, laidLooks := .later }
def MsgCleanUptoCardSaid : Prop := Claim7.holds Tryd.pinned (.plain (OpenSpec.upto msgCleanSpec)) msgCleanUptoCard

/-- THE SECOND FORM's CARD OF 'ostlerlaw14.MsgParts'. -/
def msgPartsUptoCard : Claim7 := { stood := { row := msgPartsUptoRow, standIns := [], harness := (true, "97a185af42c265bb9555d8a3e6b1e29fcbd519da36f6882b44868ed55955a0f1"), looks := true }, kinds := [], alts := [], laidByText := true, laidKinds := [.data, .data, .data, .data, .sentinel, .sentinel, .pinned], laidTests := true, laidLooks := .later }
def MsgPartsUptoCardSaid : Prop := Claim7.holds Tryd.pinned (.plain (OpenSpec.upto msgPartsSpec)) msgPartsUptoCard

/-- THE SECOND FORM's CARD OF 'ostlerlaw14.MsgStrips'. -/
def msgStripsUptoCard : Claim7 := { stood := { row := msgStripsUptoRow, standIns := [], harness := (true, "97a185af42c265bb9555d8a3e6b1e29fcbd519da36f6882b44868ed55955a0f1"), looks := true }, kinds := [], alts := [], laidByText := true, laidKinds := [.data, .data, .data, .data, .sentinel, .sentinel, .pinned], laidTests := true, laidLooks := .later }
def MsgStripsUptoCardSaid : Prop := Claim7.holds Tryd.pinned (.plain (OpenSpec.upto msgStripsSpec)) msgStripsUptoCard
end Rows
end Go.Proofs.YtgeekchnolahhaaDoor
