/-
  DERIVED. GIVEN WITH THE SEED: THE CARDS: each row of YtciibddoejhmlaaDoorRows.lean that lists a variable, with what it lists TIED to the program's text (the seventh form; the later family's looks); each row that meets fmt, with fmt's text TOLD by the authors' own Lean function (tested against real Go, not proved from fmt's source: count such statements apart). THE CARD IS WHAT COUNTS. Prove the row's statement (the work); the ties are given (YtciibddoejhmlaaDoorTie.lean); close each card by the builder's one call (the guide's Derived/Test/ToyasCard.lean, 'card_holds'). Laid BY PROGRAM, IN A SANDBOX (cutbox-door.mjs). By AI agents, Wed Nov 11 2026. No macro, syntax, notation, axiom, sorry.
-/
import Derived.Test.YtciibddoejhmlaaDoorRows
import GoSem.ClaimSeven
namespace Go.Proofs.YtciibddoejhmlaaDoor
namespace Rows

/-- THE TIED CARD OF 'ostlerlaw16.RangesParts'. -/
def rangesPartsCard : Claim7 := { stood := { row := rangesPartsRow, standIns := [], harness := (true, "6465a91f9ef39fd7c61f0eaa9b11883f366c0ab801af99ace62c801338719f77"), looks := true }, kinds := [], alts := [], laidByText := true, laidKinds := [.data, .data, .data, .data, .sentinel, .sentinel, .pinned], laidTests := true, laidLooks := .later }
def RangesPartsCardSaid : Prop := Claim7.holds Tryd.pinned (.plain (OpenSpec.ofChange rangesPartsSpec)) rangesPartsCard

/-- THE TIED CARD OF 'ostlerlaw16.RangesLie'. -/
def rangesLieCard : Claim7 := { stood := { row := rangesLieRow, standIns := [], harness := (true, "6465a91f9ef39fd7c61f0eaa9b11883f366c0ab801af99ace62c801338719f77"), looks := true }, kinds := [], alts := [], laidByText := true, laidKinds := [.data, .data, .data, .data, .sentinel, .sentinel, .pinned], laidTests := true, laidLooks := .later }
def RangesLieCardSaid : Prop := Claim7.holds Tryd.pinned (.plain (OpenSpec.ofChange rangesLieSpec)) rangesLieCard

/-- THE TIED CARD OF 'ostlerlaw16.RangesExact'. -/
def rangesExactCard : Claim7 := { stood := { row := rangesExactRow, standIns := [], harness := (true, "6465a91f9ef39fd7c61f0eaa9b11883f366c0ab801af99ace62c801338719f77"), looks := true }, kinds := [], alts := [], laidByText := true, laidKinds := [.data, .data, .data, .data, .sentinel, .sentinel, .pinned], laidTests := true, laidLooks := .later }
def RangesExactCardSaid : Prop := Claim7.holds Tryd.pinned (.plain (OpenSpec.ofChange rangesExactSpec)) rangesExactCard

/-- THE TIED CARD OF 'ostlerlaw16.RangesCarry'. -/
def rangesCarryCard : Claim7 := { stood := { row := rangesCarryRow, standIns := [], harness := (true, "6465a91f9ef39fd7c61f0eaa9b11883f366c0ab801af99ace62c801338719f77"), looks := true }, kinds := [], alts := [], laidByText := true, laidKinds := [.data, .data, .data, .data, .sentinel, .sentinel, .pinned], laidTests := true, laidLooks := .later }
def RangesCarryCardSaid : Prop := Claim7.holds Tryd.pinned (.plain (OpenSpec.ofChange rangesCarrySpec)) rangesCarryCard

/-- THE TIED CARD OF 'ostlerlaw16.RangesWhole'. -/
def rangesWholeCard : Claim7 := { stood := { row := rangesWholeRow, standIns := [], harness := (true, "6465a91f9ef39fd7c61f0eaa9b11883f366c0ab801af99ace62c801338719f77"), looks := true }, kinds := [], alts := [], laidByText := true, laidKinds := [.data, .data, .data, .data, .sentinel, .sentinel, .pinned], laidTests := true, laidLooks := .later }
def RangesWholeCardSaid : Prop := Claim7.holds Tryd.pinned (.plain (OpenSpec.ofChange rangesWholeSpec)) rangesWholeCard

/-- THE SECOND FORM's CARD OF 'ostlerlaw16.RangesParts'. -/
def rangesPartsUptoCard : Claim7 := { stood := { row := rangesPartsUptoRow, standIns := [], harness := (true, "6465a91f9ef39fd7c61f0eaa9b11883f366c0ab801af99ace62c801338719f77"), looks := true }, kinds := [], alts := [], laidByText := true, laidKinds := [.data, .data, .data, .data, .sentinel, .sentinel, .pinned], laidTests := true, laidLooks := .later }
def RangesPartsUptoCardSaid : Prop := Claim7.holds Tryd.pinned (.plain (OpenSpec.upto rangesPartsSpec)) rangesPartsUptoCard

/-- THE SECOND FORM's CARD OF 'ostlerlaw16.RangesLie'. -/
def rangesLieUptoCard : Claim7 := { stood := { row := rangesLieUptoRow, standIns := [], harness := (true, "6465a91f9ef39fd7c61f0eaa9b11883f366c0ab801af99ace62c801338719f77"), looks := true }, kinds := [], alts := [], laidByText := true, laidKinds := [.data, .data, .data, .data, .sentinel, .sentinel, .pinned], laidTests := true, laidLooks := .later }
def RangesLieUptoCardSaid : Prop := Claim7.holds Tryd.pinned (.plain (OpenSpec.upto rangesLieSpec)) rangesLieUptoCard

/-- THE SECOND FORM's CARD OF 'ostlerlaw16.RangesExact'. -/
def rangesExactUptoCard : Claim7 := { stood := { row := rangesExactUptoRow, standIns := [], harness := (true, "6465a91f9ef39fd7c61f0eaa9b11883f366c0ab801af99ace62c801338719f77"), looks := true }, kinds := [], alts := [], laidByText := true, laidKinds := [.data, .data, .data, .data, .sentinel, .sentinel, .pinned], laidTests := true, laidLooks := .later }
def RangesExactUptoCardSaid : Prop := Claim7.holds Tryd.pinned (.plain (OpenSpec.upto rangesExactSpec)) rangesExactUptoCard

/-- THE SECOND FORM's CARD OF 'ostlerlaw16.RangesCarry'. -/
def rangesCarryUptoCard : Claim7 := { stood := { row := rangesCarryUptoRow, standIns := [], harness := (true, "6465a91f9ef39fd7c61f0eaa9b11883f366c0ab801af99ace62c801338719f77"), looks := true }, kinds := [], alts := [], laidByText := true, laidKinds := [.data, .data, .data, .data, .sentinel, .sentinel, .pinned], laidTests := true, laidLooks := .later }
def RangesCarryUptoCardSaid : Prop := Claim7.holds Tryd.pinned (.plain (OpenSpec.upto rangesCarrySpec)) rangesCarryUptoCard

/-- THE SECOND FORM's CARD OF 'ostlerlaw16.RangesWhole'. -/
def rangesWholeUptoCard : Claim7 := { stood := { row := rangesWholeUptoRow, standIns := [], harness := (true, "6465a91f9ef39fd7c61f0eaa9b11883f366c0ab801af99ace62c801338719f77"), looks := true }, kinds := [], alts := [], laidByText := true, laidKinds := [.data, .data, .data, .data, .sentinel, .sentinel, .pinned], laidTests := true, laidLooks := .later }
def RangesWholeUptoCardSaid : Prop := Claim7.holds Tryd.pinned (.plain (OpenSpec.upto rangesWholeSpec)) rangesWholeUptoCard
end Rows
end Go.Proofs.YtciibddoejhmlaaDoor
