/-
  DERIVED. GIVEN WITH THE SEED: THE CARDS: each row of YtlbnnmdjmikedaaGreatDoorRows.lean that lists a variable, with what it lists TIED to the program's text (the seventh form; the later family's looks); each row that meets fmt, with fmt's text TOLD by the authors' own Lean function (tested against real Go, not proved from fmt's source: count such statements apart). THE CARD IS WHAT COUNTS. Prove the row's statement (the work); the ties are given (YtlbnnmdjmikedaaGreatDoorTie.lean); close each card by the builder's one call (the guide's Derived/Test/ToyasCard.lean, 'card_holds'). Laid BY PROGRAM, IN A SANDBOX (cutbox-door.mjs). By AI agents, Wed Nov 11 2026. No macro, syntax, notation, axiom, sorry.
-/
import Derived.Test.YtlbnnmdjmikedaaGreatDoorRows
import GoSem.ClaimSeven
namespace Go.Proofs.YtlbnnmdjmikedaaGreatDoor
namespace Rows

/-- THE TIED CARD OF 'ostlerlaw15.TagsReads'. -/
def tagsReadsCard : Claim7 := { stood := { row := tagsReadsRow, standIns := [], harness := (true, "14ef790ee3aa18cf16f2b40ef65767510dd7e0b6ae5a8e97806600a2990ca4e2"), looks := true }, kinds := [], alts := [], laidByText := true, laidKinds := [.data, .data, .data, .data, .sentinel, .sentinel, .pinned], laidTests := true, laidLooks := .later }
def TagsReadsCardSaid : Prop := Claim7.holds Tryz.pinned (.plain (OpenSpec.ofChange tagsReadsSpec)) tagsReadsCard

/-- THE TIED CARD OF 'ostlerlaw15.TagsCompares'. -/
def tagsComparesCard : Claim7 := { stood := { row := tagsComparesRow, standIns := [], harness := (true, "14ef790ee3aa18cf16f2b40ef65767510dd7e0b6ae5a8e97806600a2990ca4e2"), looks := true }, kinds := [], alts := [], laidByText := true, laidKinds := [.data, .data, .data, .data, .sentinel, .sentinel, .pinned], laidTests := true, laidLooks := .later }
def TagsComparesCardSaid : Prop := Claim7.holds Tryz.pinned (.plain (OpenSpec.ofChange tagsComparesSpec)) tagsComparesCard

/-- THE SECOND FORM's CARD OF 'ostlerlaw15.TagsReads'. -/
def tagsReadsUptoCard : Claim7 := { stood := { row := tagsReadsUptoRow, standIns := [], harness := (true, "14ef790ee3aa18cf16f2b40ef65767510dd7e0b6ae5a8e97806600a2990ca4e2"), looks := true }, kinds := [], alts := [], laidByText := true, laidKinds := [.data, .data, .data, .data, .sentinel, .sentinel, .pinned], laidTests := true, laidLooks := .later }
def TagsReadsUptoCardSaid : Prop := Claim7.holds Tryz.pinned (.plain (OpenSpec.upto tagsReadsSpec)) tagsReadsUptoCard

/-- THE SECOND FORM's CARD OF 'ostlerlaw15.TagsCompares'. -/
def tagsComparesUptoCard : Claim7 := { stood := { row := tagsComparesUptoRow, standIns := [], harness := (true, "14ef790ee3aa18cf16f2b40ef65767510dd7e0b6ae5a8e97806600a2990ca4e2"), looks := true }, kinds := [], alts := [], laidByText := true, laidKinds := [.data, .data, .data, .data, .sentinel, .sentinel, .pinned], laidTests := true, laidLooks := .later }
def TagsComparesUptoCardSaid : Prop := Claim7.holds Tryz.pinned (.plain (OpenSpec.upto tagsComparesSpec)) tagsComparesUptoCard
end Rows
end Go.Proofs.YtlbnnmdjmikedaaGreatDoor
