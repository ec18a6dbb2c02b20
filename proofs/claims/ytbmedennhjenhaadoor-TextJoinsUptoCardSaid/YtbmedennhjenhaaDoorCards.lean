/-
  DERIVED. GIVEN WITH THE SEED: THE CARDS: each row of YtbmedennhjenhaaDoorRows.lean that lists a variable, with what it lists TIED to the program's text (the seventh form; the later family's looks); each row that meets fmt, with fmt's text TOLD by the authors' own Lean function (tested against real Go, not proved from fmt's source: count such statements apart). THE CARD IS WHAT COUNTS. Prove the row's statement (the work); the ties are given (YtbmedennhjenhaaDoorTie.lean); close each card by the builder's one call (the guide's Derived/Test/ToyasCard.lean, 'card_holds'). Laid BY PROGRAM, IN A SANDBOX (cutbox-door.mjs). By AI agents, Wed Nov 11 2026. No macro, syntax, notation, axiom, sorry.
-/
import Derived.Test.YtbmedennhjenhaaDoorRows
import GoSem.ClaimSeven
namespace Go.Proofs.YtbmedennhjenhaaDoor
namespace Rows

/-- THE TIED CARD OF 'ostlerlaw01.TextTokens'. -/
def textTokensCard : Claim7 := { stood := { row := textTokensRow, standIns := [], harness := (true, "5177ae680d9bf6c9d7aac2e5861ec96160c76732d9e3c167456ea30e27022c53"), looks := true }, kinds := [], alts := [], laidByText := true, laidKinds := [.data, .data, .data, .data, .sentinel, .sentinel, .pinned], laidTests := true, laidLooks := .later }
def TextTokensCardSaid : Prop := Claim7.holds Tryd.pinned (.plain (OpenSpec.ofChange textTokensSpec)) textTokensCard

/-- THE TIED CARD OF 'ostlerlaw01.TextLowers'. -/
def textLowersCard : Claim7 := { stood := { row := textLowersRow, standIns := [], harness := (true, "5177ae680d9bf6c9d7aac2e5861ec96160c76732d9e3c167456ea30e27022c53"), looks := true }, kinds := [], alts := [], laidByText := true, laidKinds := [.data, .data, .data, .data, .sentinel, .sentinel, .pinned], laidTests := true, laidLooks := .later }
def TextLowersCardSaid : Prop := Claim7.holds Tryd.pinned (.plain (OpenSpec.ofChange textLowersSpec)) textLowersCard

/-- THE TIED CARD OF 'ostlerlaw01.TextNumbers'. -/
def textNumbersCard : Claim7 := { stood := { row := textNumbersRow, standIns := [], harness := (true, "5177ae680d9bf6c9d7aac2e5861ec96160c76732d9e3c167456ea30e27022c53"), looks := true }, kinds := [], alts := [], laidByText := true, laidKinds := [.data, .data, .data, .data, .sentinel, .sentinel, .pinned], laidTests := true, laidLooks := .later }
def TextNumbersCardSaid : Prop := Claim7.holds Tryd.pinned (.plain (OpenSpec.ofChange textNumbersSpec)) textNumbersCard

/-- THE TIED CARD OF 'ostlerlaw01.TextDecimals'. -/
def textDecimalsCard : Claim7 := { stood := { row := textDecimalsRow, standIns := [], harness := (true, "5177ae680d9bf6c9d7aac2e5861ec96160c76732d9e3c167456ea30e27022c53"), looks := true }, kinds := [], alts := [], laidByText := true, laidKinds := [.data, .data, .data, .data, .sentinel, .sentinel, .pinned], laidTests := true, laidLooks := .later }
def TextDecimalsCardSaid : Prop := Claim7.holds Tryd.pinned (.plain (OpenSpec.ofChange textDecimalsSpec)) textDecimalsCard

/-- THE TIED CARD OF 'ostlerlaw01.TextLists'. -/
def textListsCard : Claim7 := { stood := { row := textListsRow, standIns := [], harness := (true, "5177ae680d9bf6c9d7aac2e5861ec96160c76732d9e3c167456ea30e27022c53"), looks := true }, kinds := [], alts := [], laidByText := true, laidKinds := [.data, .data, .data, .data, .sentinel, .sentinel, .pinned], laidTests := true, laidLooks := .later }
def TextListsCardSaid : Prop := Claim7.holds Tryd.pinned (.plain (OpenSpec.ofChange textListsSpec)) textListsCard

/-- THE TIED CARD OF 'ostlerlaw01.TextMembers'. -/
def textMembersCard : Claim7 := { stood := { row := textMembersRow, standIns := [], harness := (true, "5177ae680d9bf6c9d7aac2e5861ec96160c76732d9e3c167456ea30e27022c53"), looks := true }, kinds := [], alts := [], laidByText := true, laidKinds := [.data, .data, .data, .data, .sentinel, .sentinel, .pinned], laidTests := true, laidLooks := .later }
def TextMembersCardSaid : Prop := Claim7.holds Tryd.pinned (.plain (OpenSpec.ofChange textMembersSpec)) textMembersCard

/-- THE TIED CARD OF 'ostlerlaw01.TextJoins'. -/
def textJoinsCard : Claim7 := { stood := { row := textJoinsRow, standIns := [], harness := (true, "5177ae680d9bf6c9d7aac2e5861ec96160c76732d9e3c167456ea30e27022c53"), looks := true }, kinds := [], alts := [], laidByText := true, laidKinds := [.data, .data, .data, .data, .sentinel, .sentinel, .pinned], laidTests := true, laidLooks := .later }
def TextJoinsCardSaid : Prop := Claim7.holds Tryd.pinned (.plain (OpenSpec.ofChange textJoinsSpec)) textJoinsCard

/-- THE TIED CARD OF 'ostlerlaw01.TextKeeps'. -/
def textKeepsCard : Claim7 := { stood := { row := textKeepsRow, standIns := [], harness := (true, "5177ae680d9bf6c9d7aac2e5861ec96160c76732d9e3c167456ea30e27022c53"), looks := true }, kinds := [], alts := [], laidByText := true, laidKinds := [.data, .data, .data, .data, .sentinel, .sentinel, .pinned], laidTests := true, laidLooks := .later }
def TextKeepsCardSaid : Prop := Claim7.holds Tryd.pinned (.plain (OpenSpec.ofChange textKeepsSpec)) textKeepsCard

/-- THE SECOND FORM's CARD OF 'ostlerlaw01.TextTokens'. -/
def textTokensUptoCard : Claim7 := { stood := { row := textTokensUptoRow, standIns := [], harness := (true, "5177ae680d9bf6c9d7aac2e5861ec96160c76732d9e3c167456ea30e27022c53"), looks := true }, kinds := [], alts := [], laidByText := true, laidKinds := [.data, .data, .data, .data, .sentinel, .sentinel, .pinned], laidTests := true, laidLooks := .later }
def TextTokensUptoCardSaid : Prop := Claim7.holds Tryd.pinned (.plain (OpenSpec.upto textTokensSpec)) textTokensUptoCard

/-- THE SECOND FORM's CARD OF 'ostlerlaw01.TextLowers'. -/
def textLowersUptoCard : Claim7 := { stood := { row := textLowersUptoRow, standIns := [], harness := (true, "5177ae680d9bf6c9d7aac2e5861ec96160c76732d9e3c167456ea30e27022c53"), looks := true }, kinds := [], alts := [], laidByText := true, laidKinds := [.data, .data, .data, .data, .sentinel, .sentinel, .pinned], laidTests := true, laidLooks := .later }
def TextLowersUptoCardSaid : Prop := Claim7.holds Tryd.pinned (.plain (OpenSpec.upto textLowersSpec)) textLowersUptoCard

/-- THE SECOND FORM's CARD OF 'ostlerlaw01.TextNumbers'. -/
def textNumbersUptoCard : Claim7 := { stood := { row := textNumbersUptoRow, standIns := [], harness := (true, "5177ae680d9bf6c9d7aac2e5861ec96160c76732d9e3c167456ea30e27022c53"), looks := true }, kinds := [], alts := [], laidByText := true, laidKinds := [.data, .data, .data, .data, .sentinel, .sentinel, .pinned], laidTests := true, laidLooks := .later }
def TextNumbersUptoCardSaid : Prop := Claim7.holds Tryd.pinned (.plain (OpenSpec.upto textNumbersSpec)) textNumbersUptoCard

/-- THE SECOND FORM's CARD OF 'ostlerlaw01.TextDecimals'. -/
def textDecimalsUptoCard : Claim7 := { stood := { row := textDecimalsUptoRow, standIns := [], harness := (true, "5177ae680d9bf6c9d7aac2e5861ec96160c76732d9e3c167456ea30e27022c53"), looks := true }, kinds := [], alts := [], laidByText := true, laidKinds := [.data, .data, .data, .data, .sentinel, .sentinel, .pinned], laidTests := true, laidLooks := .later }
def TextDecimalsUptoCardSaid : Prop := Claim7.holds Tryd.pinned (.plain (OpenSpec.upto textDecimalsSpec)) textDecimalsUptoCard

/-- THE SECOND FORM's CARD OF 'ostlerlaw01.TextLists'. -/
def textListsUptoCard : Claim7 := { stood := { row := textListsUptoRow, standIns := [], harness := (true, "5177ae680d9bf6c9d7aac2e5861ec96160c76732d9e3c167456ea30e27022c53"), looks := true }, kinds := [], alts := [], laidByText := true, laidKinds := [.data, .data, .data, .data, .sentinel, .sentinel, .pinned], laidTests := true, laidLooks := .later }
def TextListsUptoCardSaid : Prop := Claim7.holds Tryd.pinned (.plain (OpenSpec.upto textListsSpec)) textListsUptoCard

/-- THE SECOND FORM's CARD OF 'ostlerlaw01.TextMembers'. -/
def textMembersUptoCard : Claim7 := { stood := { row := textMembersUptoRow, standIns := [], harness := (true, "5177ae680d9bf6c9d7aac2e5861ec96160c76732d9e3c167456ea30e27022c53"), looks := true }, kinds := [], alts := [], laidByText := true, laidKinds := [.data, .data, .data, .data, .sentinel, .sentinel, .pinned], laidTests := true, laidLooks := .later }
def TextMembersUptoCardSaid : Prop := Claim7.holds Tryd.pinned (.plain (OpenSpec.upto textMembersSpec)) textMembersUptoCard

/-- THE SECOND FORM's CARD OF 'ostlerlaw01.TextJoins'. -/
def textJoinsUptoCard : Claim7 := { stood := { row := textJoinsUptoRow, standIns := [], harness := (true, "5177ae680d9bf6c9d7aac2e5861ec96160c76732d9e3c167456ea30e27022c53"), looks := true }, kinds := [], alts := [], laidByText := true, laidKinds := [.data, .data, .data, .data, .sentinel, .sentinel, .pinned], laidTests := true, laidLooks := .later }
def TextJoinsUptoCardSaid : Prop := Claim7.holds Tryd.pinned (.plain (OpenSpec.upto textJoinsSpec)) textJoinsUptoCard

/-- THE SECOND FORM's CARD OF 'ostlerlaw01.TextKeeps'. -/
def textKeepsUptoCard : Claim7 := { stood := { row := textKeepsUptoRow, standIns := [], harness := (true, "5177ae680d9bf6c9d7aac2e5861ec96160c76732d9e3c167456ea30e27022c53"), looks := true }, kinds := [], alts := [], laidByText := true, laidKinds := [.data, .data, .data, .data, .sentinel, .sentinel, .pinned], laidTests := true, laidLooks := .later }
def TextKeepsUptoCardSaid : Prop := Claim7.holds Tryd.pinned (.plain (OpenSpec.upto textKeepsSpec)) textKeepsUptoCard
end Rows
end Go.Proofs.YtbmedennhjenhaaDoor
