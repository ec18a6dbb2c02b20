/-
  DERIVED. GIVEN WITH THE SEED: THE CARDS: each row of YtlbnnmdjmikedaaDoorRows.lean that lists a variable, with what it lists TIED to the program's text (the seventh form; the later family's looks); each row that meets fmt, with fmt's text TOLD by the authors' own Lean function (tested against real Go, not proved from fmt's source: count such statements apart). THE CARD IS WHAT COUNTS. Prove the row's statement (the work); the ties are given (YtlbnnmdjmikedaaDoorTie.lean); close each card by the builder's one call (the guide's Derived/Test/ToyasCard.lean, 'card_holds'). Laid BY PROGRAM, IN A SANDBOX (cutbox-door.mjs). By AI agents, Wed Nov 11 2026. No macro, syntax, notation, axiom, sorry.
-/
import Derived.Test.YtlbnnmdjmikedaaDoorRows
import GoSem.ClaimSeven
namespace Go.Proofs.YtlbnnmdjmikedaaDoor
namespace Rows

/-- THE TIED CARD OF 'ostlerlaw15.TagsKnows'. -/
def tagsKnowsCard : Claim7 := { stood := { row := tagsKnowsRow, standIns := [], harness := (true, "bc39e78596d66f3729e4376640e79a73c3ced3be1661b438f556f53ca1c728ff"), looks := true }, kinds := [], alts := [], laidByText := true, laidKinds := [.data, .data, .data, .data, .sentinel, .sentinel, .pinned], laidTests := true, laidLooks := .later }
def TagsKnowsCardSaid : Prop := Claim7.holds Tryd.pinned (.plain (OpenSpec.ofChange tagsKnowsSpec)) tagsKnowsCard

/-- THE SECOND FORM's CARD OF 'ostlerlaw15.TagsKnows'. -/
def tagsKnowsUptoCard : Claim7 := { stood := { row := tagsKnowsUptoRow, standIns := [], harness := (true, "bc39e78596d66f3729e4376640e79a73c3ced3be1661b438f556f53ca1c728ff"), looks := true }, kinds := [], alts := [], laidByText := true, laidKinds := [.data, .data, .data, .data, .sentinel, .sentinel, .pinned], laidTests := true, laidLooks := .later }
def TagsKnowsUptoCardSaid : Prop := Claim7.holds Tryd.pinned (.plain (OpenSpec.upto tagsKnowsSpec)) tagsKnowsUptoCard
end Rows
end Go.Proofs.YtlbnnmdjmikedaaDoor
