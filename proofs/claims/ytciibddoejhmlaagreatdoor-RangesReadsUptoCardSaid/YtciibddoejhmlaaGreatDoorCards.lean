/-
  DERIVED. GIVEN WITH THE SEED: THE CARDS: each row of YtciibddoejhmlaaGreatDoorRows.lean that lists a variable, with what it lists TIED to the program's text (the seventh form; the later family's looks); each row that meets fmt, with fmt's text TOLD by the authors' own Lean function (tested against real Go, not proved from fmt's source: count such statements apart). THE CARD IS WHAT COUNTS. Prove the row's statement (the work); the ties are given (YtciibddoejhmlaaGreatDoorTie.lean); close each card by the builder's one call (the guide's Derived/Test/ToyasCard.lean, 'card_holds'). Laid BY PROGRAM, IN A SANDBOX (cutbox-door.mjs). By AI agents, Wed Nov 11 2026. No macro, syntax, notation, axiom, sorry.
-/
import Derived.Test.YtciibddoejhmlaaGreatDoorRows
import GoSem.ClaimSeven
namespace Go.Proofs.YtciibddoejhmlaaGreatDoor
namespace Rows

/-- THE TIED CARD OF 'ostlerlaw16.RangesReads'. -/
def rangesReadsCard : Claim7 := { stood := { row := rangesReadsRow, standIns := [], harness := (true, "6aa3d5f4ad46a7e3b7657069cd94fa01d37734a99914824ce65082c809382edf"), looks := true }, kinds := [], alts := [], laidByText := true, laidKinds := [.data, .data, .data, .data, .sentinel, .sentinel, .pinned], laidTests := true, laidLooks := .later }
def RangesReadsCardSaid : Prop := Claim7.holds Tryz.pinned (.plain (OpenSpec.ofChange rangesReadsSpec)) rangesReadsCard

/-- THE SECOND FORM's CARD OF 'ostlerlaw16.RangesReads'. -/
def rangesReadsUptoCard : Claim7 := { stood := { row := rangesReadsUptoRow, standIns := [], harness := (true, "6aa3d5f4ad46a7e3b7657069cd94fa01d37734a99914824ce65082c809382edf"), looks := true }, kinds := [], alts := [], laidByText := true, laidKinds := [.data, .data, .data, .data, .sentinel, .sentinel, .pinned], laidTests := true, laidLooks := .later }
def RangesReadsUptoCardSaid : Prop := Claim7.holds Tryz.pinned (.plain (OpenSpec.upto rangesReadsSpec)) rangesReadsUptoCard
end Rows
end Go.Proofs.YtciibddoejhmlaaGreatDoor
