/-
  DERIVED. GIVEN WITH THE SEED: THE CARDS: each row of YtbbcnmdifiblfaaDoorRows.lean that lists a variable, with what it lists TIED to the program's text (the seventh form; the later family's looks); each row that meets fmt, with fmt's text TOLD by the authors' own Lean function (tested against real Go, not proved from fmt's source: count such statements apart). THE CARD IS WHAT COUNTS. Prove the row's statement (the work); the ties are given (YtbbcnmdifiblfaaDoorTie.lean); close each card by the builder's one call (the guide's Derived/Test/ToyasCard.lean, 'card_holds'). Laid BY PROGRAM, IN A SANDBOX (cutbox-door.mjs). By AI agents, Wed Nov 11 2026. No macro, syntax, notation, axiom, sorry.
-/
import Derived.Test.YtbbcnmdifiblfaaDoorRows
import GoSem.ClaimSeven
namespace Go.Proofs.YtbbcnmdifiblfaaDoor
namespace Rows

/-- THE TIED CARD OF 'ostlerlaw02.DateFormats'. -/
def dateFormatsCard : Claim7 := { stood := { row := dateFormatsRow, standIns := [], harness := (true, "0e484699c9e6f697a82f938a3c2f6137f02fda02c254139a0e08cd6c96ba482b"), looks := true }, kinds := [], alts := [], laidByText := true, laidKinds := [.data, .data, .data, .sentinel, .sentinel], laidTests := true, laidLooks := .later }
def DateFormatsCardSaid : Prop := Claim7.holds Tryd.pinned (.plain (OpenSpec.ofChange dateFormatsSpec)) dateFormatsCard

/-- THE TIED CARD OF 'ostlerlaw02.DateParses'. -/
def dateParsesCard : Claim7 := { stood := { row := dateParsesRow, standIns := [], harness := (true, "0e484699c9e6f697a82f938a3c2f6137f02fda02c254139a0e08cd6c96ba482b"), looks := true }, kinds := [], alts := [], laidByText := true, laidKinds := [.data, .data, .data, .sentinel, .sentinel], laidTests := true, laidLooks := .later }
def DateParsesCardSaid : Prop := Claim7.holds Tryd.pinned (.plain (OpenSpec.ofChange dateParsesSpec)) dateParsesCard

/-- THE TIED CARD OF 'ostlerlaw02.DateBack'. -/
def dateBackCard : Claim7 := { stood := { row := dateBackRow, standIns := [], harness := (true, "0e484699c9e6f697a82f938a3c2f6137f02fda02c254139a0e08cd6c96ba482b"), looks := true }, kinds := [], alts := [], laidByText := true, laidKinds := [.data, .data, .data, .sentinel, .sentinel], laidTests := true, laidLooks := .later }
def DateBackCardSaid : Prop := Claim7.holds Tryd.pinned (.plain (OpenSpec.ofChange dateBackSpec)) dateBackCard

/-- THE TIED CARD OF 'ostlerlaw02.DateThere'. -/
def dateThereCard : Claim7 := { stood := { row := dateThereRow, standIns := [], harness := (true, "0e484699c9e6f697a82f938a3c2f6137f02fda02c254139a0e08cd6c96ba482b"), looks := true }, kinds := [], alts := [], laidByText := true, laidKinds := [.data, .data, .data, .sentinel, .sentinel], laidTests := true, laidLooks := .later }
def DateThereCardSaid : Prop := Claim7.holds Tryd.pinned (.plain (OpenSpec.ofChange dateThereSpec)) dateThereCard

/-- THE TIED CARD OF 'ostlerlaw02.DateNext'. -/
def dateNextCard : Claim7 := { stood := { row := dateNextRow, standIns := [], harness := (true, "0e484699c9e6f697a82f938a3c2f6137f02fda02c254139a0e08cd6c96ba482b"), looks := true }, kinds := [], alts := [], laidByText := true, laidKinds := [.data, .data, .data, .sentinel, .sentinel], laidTests := true, laidLooks := .later }
def DateNextCardSaid : Prop := Claim7.holds Tryd.pinned (.plain (OpenSpec.ofChange dateNextSpec)) dateNextCard

/-- THE SECOND FORM's CARD OF 'ostlerlaw02.DateFormats'. -/
def dateFormatsUptoCard : Claim7 := { stood := { row := dateFormatsUptoRow, standIns := [], harness := (true, "0e484699c9e6f697a82f938a3c2f6137f02fda02c254139a0e08cd6c96ba482b"), looks := true }, kinds := [], alts := [], laidByText := true, laidKinds := [.data, .data, .data, .sentinel, .sentinel], laidTests := true, laidLooks := .later }
def DateFormatsUptoCardSaid : Prop := Claim7.holds Tryd.pinned (.plain (OpenSpec.upto dateFormatsSpec)) dateFormatsUptoCard

/-- THE SECOND FORM's CARD OF 'ostlerlaw02.DateParses'. -/
def dateParsesUptoCard : Claim7 := { stood := { row := dateParsesUptoRow, standIns := [], harness := (true, "0e484699c9e6f697a82f938a3c2f6137f02fda02c254139a0e08cd6c96ba482b"), looks := true }, kinds := [], alts := [], laidByText := true, laidKinds := [.data, .data, .data, .sentinel, .sentinel], laidTests := true, laidLooks := .later }
def DateParsesUptoCardSaid : Prop := Claim7.holds Tryd.pinned (.plain (OpenSpec.upto dateParsesSpec)) dateParsesUptoCard

/-- THE SECOND FORM's CARD OF 'ostlerlaw02.DateBack'. -/
def dateBackUptoCard : Claim7 := { stood := { row := dateBackUptoRow, standIns := [], harness := (true, "0e484699c9e6f697a82f938a3c2f6137f02fda02c254139a0e08cd6c96ba482b"), looks := true }, kinds := [], alts := [], laidByText := true, laidKinds := [.data, .data, .data, .sentinel, .sentinel], laidTests := true, laidLooks := .later }
def DateBackUptoCardSaid : Prop := Claim7.holds Tryd.pinned (.plain (OpenSpec.upto dateBackSpec)) dateBackUptoCard

/-- THE SECOND FORM's CARD OF 'ostlerlaw02.DateThere'. -/
def dateThereUptoCard : Claim7 := { stood := { row := dateThereUptoRow, standIns := [], harness := (true, "0e484699c9e6f697a82f938a3c2f6137f02fda02c254139a0e08cd6c96ba482b"), looks := true }, kinds := [], alts := [], laidByText := true, laidKinds := [.data, .data, .data, .sentinel, .sentinel], laidTests := true, laidLooks := .later }
def DateThereUptoCardSaid : Prop := Claim7.holds Tryd.pinned (.plain (OpenSpec.upto dateThereSpec)) dateThereUptoCard

/-- THE SECOND FORM's CARD OF 'ostlerlaw02.DateNext'. -/
def dateNextUptoCard : Claim7 := { stood := { row := dateNextUptoRow, standIns := [], harness := (true, "0e484699c9e6f697a82f938a3c2f6137f02fda02c254139a0e08cd6c96ba482b"), looks := true }, kinds := [], alts := [], laidByText := true, laidKinds := [.data, .data, .data, .sentinel, .sentinel], laidTests := true, laidLooks := .later }
def DateNextUptoCardSaid : Prop := Claim7.holds Tryd.pinned (.plain (OpenSpec.upto dateNextSpec)) dateNextUptoCard
end Rows
end Go.Proofs.YtbbcnmdifiblfaaDoor
