/-
  DERIVED. GIVEN WITH THE SEED: THE CARDS: each row of YtcddhfidbhcgdaaDoorRows.lean that lists a variable, with what it lists TIED to the program's text (the seventh form; the later family's looks); each row that meets fmt, with fmt's text TOLD by the authors' own Lean function (tested against real Go, not proved from fmt's source: count such statements apart). THE CARD IS WHAT COUNTS. Prove the row's statement (the work); the ties are given (YtcddhfidbhcgdaaDoorTie.lean); close each card by the builder's one call (the guide's Derived/Test/ToyasCard.lean, 'card_holds'). Laid BY PROGRAM, IN A SANDBOX (cutbox-door.mjs). By AI agents, Wed Nov 11 2026. No macro, syntax, notation, axiom, sorry.
-/
import Derived.Test.YtcddhfidbhcgdaaDoorRows
import GoSem.ClaimSeven
namespace Go.Proofs.YtcddhfidbhcgdaaDoor
namespace Rows

/-- THE TIED CARD OF 'slackwaterlaw08.TurnCalls'. -/
def turnCallsCard : Claim7 := { stood := { row := turnCallsRow, standIns := [], harness := (true, "6c723b342b6a4b34b680a77a64e61222b475fd1b3c62d9ee517add0a37e65c41"), looks := true }, kinds := [], alts := [], laidByText := true, laidKinds := [.data, .data, .data], laidTests := true, laidLooks := .later }
def TurnCallsCardSaid : Prop := Claim7.holds Tryd.pinned (.plain (OpenSpec.ofChange turnCallsSpec)) turnCallsCard

/-- THE TIED CARD OF 'slackwaterlaw08.TurnOf'. -/
def turnOfCard : Claim7 := { stood := { row := turnOfRow, standIns := [], harness := (true, "6c723b342b6a4b34b680a77a64e61222b475fd1b3c62d9ee517add0a37e65c41"), looks := true }, kinds := [], alts := [], laidByText := true, laidKinds := [.data, .data, .data, .sentinel, .sentinel], laidTests := true, laidLooks := .later }
def TurnOfCardSaid : Prop := Claim7.holds Tryd.pinned (.plain (OpenSpec.ofChange turnOfSpec)) turnOfCard

/-- THE TIED CARD OF 'slackwaterlaw08.TurnBack'. -/
def turnBackCard : Claim7 := { stood := { row := turnBackRow, standIns := [], harness := (true, "6c723b342b6a4b34b680a77a64e61222b475fd1b3c62d9ee517add0a37e65c41"), looks := true }, kinds := [], alts := [], laidByText := true, laidKinds := [.data, .data, .data, .sentinel, .sentinel], laidTests := true, laidLooks := .later }
def TurnBackCardSaid : Prop := Claim7.holds Tryd.pinned (.plain (OpenSpec.ofChange turnBackSpec)) turnBackCard

/-- THE TIED CARD OF 'slackwaterlaw08.TurnNames'. -/
def turnNamesCard : Claim7 := { stood := { row := turnNamesRow, standIns := [], harness := (true, "6c723b342b6a4b34b680a77a64e61222b475fd1b3c62d9ee517add0a37e65c41"), looks := true }, kinds := [], alts := [], laidByText := true, laidKinds := [.data, .data, .data, .sentinel, .sentinel], laidTests := true, laidLooks := .later }
def TurnNamesCardSaid : Prop := Claim7.holds Tryd.pinned (.plain (OpenSpec.ofChange turnNamesSpec)) turnNamesCard

/-- THE SECOND FORM's CARD OF 'slackwaterlaw08.TurnCalls'. -/
def turnCallsUptoCard : Claim7 := { stood := { row := turnCallsUptoRow, standIns := [], harness := (true, "6c723b342b6a4b34b680a77a64e61222b475fd1b3c62d9ee517add0a37e65c41"), looks := true }, kinds := [], alts := [], laidByText := true, laidKinds := [.data, .data, .data], laidTests := true, laidLooks := .later }
def TurnCallsUptoCardSaid : Prop := Claim7.holds Tryd.pinned (.plain (OpenSpec.upto turnCallsSpec)) turnCallsUptoCard

/-- THE SECOND FORM's CARD OF 'slackwaterlaw08.TurnOf'. -/
def turnOfUptoCard : Claim7 := { stood := { row := turnOfUptoRow, standIns := [], harness := (true, "6c723b342b6a4b34b680a77a64e61222b475fd1b3c62d9ee517add0a37e65c41"), looks := true }, kinds := [], alts := [], laidByText := true, laidKinds := [.data, .data, .data, .sentinel, .sentinel], laidTests := true, laidLooks := .later }
def TurnOfUptoCardSaid : Prop := Claim7.holds Tryd.pinned (.plain (OpenSpec.upto turnOfSpec)) turnOfUptoCard

/-- THE SECOND FORM's CARD OF 'slackwaterlaw08.TurnBack'. -/
def turnBackUptoCard : Claim7 := { stood := { row := turnBackUptoRow, standIns := [], harness := (true, "6c723b342b6a4b34b680a77a64e61222b475fd1b3c62d9ee517add0a37e65c41"), looks := true }, kinds := [], alts := [], laidByText := true, laidKinds := [.data, .data, .data, .sentinel, .sentinel], laidTests := true, laidLooks := .later }
def TurnBackUptoCardSaid : Prop := Claim7.holds Tryd.pinned (.plain (OpenSpec.upto turnBackSpec)) turnBackUptoCard

/-- THE SECOND FORM's CARD OF 'slackwaterlaw08.TurnNames'. -/
def turnNamesUptoCard : Claim7 := { stood := { row := turnNamesUptoRow, standIns := [], harness := (true, "6c723b342b6a4b34b680a77a64e61222b475fd1b3c62d9ee517add0a37e65c41"), looks := true }, kinds := [], alts := [], laidByText := true, laidKinds := [.data, .data, .data, .sentinel, .sentinel], laidTests := true, laidLooks := .later }
def TurnNamesUptoCardSaid : Prop := Claim7.holds Tryd.pinned (.plain (OpenSpec.upto turnNamesSpec)) turnNamesUptoCard
end Rows
end Go.Proofs.YtcddhfidbhcgdaaDoor
