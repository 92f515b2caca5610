/-
  DERIVED. GIVEN WITH THE SEED: THE CARDS: each row of YtipkjbfbcdadkaaDoorRows.lean that lists a variable, with what it lists TIED to the program's text (the seventh form; the later family's looks); each row that meets fmt, with fmt's text TOLD by the authors' own Lean function (tested against real Go, not proved from fmt's source: count such statements apart). THE CARD IS WHAT COUNTS. Prove the row's statement (the work); the ties are given (YtipkjbfbcdadkaaDoorTie.lean); close each card by the builder's one call (the guide's Derived/Test/ToyasCard.lean, 'card_holds'). Laid BY PROGRAM, IN A SANDBOX (cutbox-door.mjs). By AI agents, Wed Nov 11 2026. No macro, syntax, notation, axiom, sorry.
-/
import Derived.Test.YtipkjbfbcdadkaaDoorRows
import GoSem.ClaimSeven
namespace Go.Proofs.YtipkjbfbcdadkaaDoor
namespace Rows

/-- THE TIED CARD OF 'slackwaterlaw09.ClockBack'. -/
def clockBackCard : Claim7 := { stood := { row := clockBackRow, standIns := [], harness := (true, "9619f4077e6320e77fc06dc0b686aa19c160d450e367d958e07ea5a1d116346e"), looks := true }, kinds := [], alts := [], laidByText := true, laidKinds := [.data, .data, .data, .data, .sentinel, .sentinel, .pinned], laidTests := true, laidLooks := .later }
def ClockBackCardSaid : Prop := Claim7.holds Tryd.pinned (.plain (OpenSpec.ofChange clockBackSpec)) clockBackCard

/-- THE TIED CARD OF 'slackwaterlaw09.ClockRises'. -/
def clockRisesCard : Claim7 := { stood := { row := clockRisesRow, standIns := [], harness := (true, "9619f4077e6320e77fc06dc0b686aa19c160d450e367d958e07ea5a1d116346e"), looks := true }, kinds := [], alts := [], laidByText := true, laidKinds := [.data, .data, .data, .data, .sentinel, .sentinel, .pinned], laidTests := true, laidLooks := .later }
def ClockRisesCardSaid : Prop := Claim7.holds Tryd.pinned (.plain (OpenSpec.ofChange clockRisesSpec)) clockRisesCard

/-- THE TIED CARD OF 'slackwaterlaw09.ClockTells'. -/
def clockTellsCard : Claim7 := { stood := { row := clockTellsRow, standIns := [], harness := (true, "9619f4077e6320e77fc06dc0b686aa19c160d450e367d958e07ea5a1d116346e"), looks := true }, kinds := [], alts := [], laidByText := true, laidKinds := [.data, .data, .data, .data, .sentinel, .sentinel, .pinned], laidTests := true, laidLooks := .later }
def ClockTellsCardSaid : Prop := Claim7.holds Tryd.pinned (.plain (OpenSpec.ofChange clockTellsSpec)) clockTellsCard

/-- THE TIED CARD OF 'slackwaterlaw09.ClockNames'. -/
def clockNamesCard : Claim7 := { stood := { row := clockNamesRow, standIns := [], harness := (true, "9619f4077e6320e77fc06dc0b686aa19c160d450e367d958e07ea5a1d116346e"), looks := true }, kinds := [], alts := [], laidByText := true, laidKinds := [.data, .data, .data, .data, .sentinel, .sentinel, .pinned], laidTests := true, laidLooks := .later }
def ClockNamesCardSaid : Prop := Claim7.holds Tryd.pinned (.plain (OpenSpec.ofChange clockNamesSpec)) clockNamesCard

/-- THE TIED CARD OF 'slackwaterlaw09.ClockSpans'. -/
def clockSpansCard : Claim7 := { stood := { row := clockSpansRow, standIns := [], harness := (true, "9619f4077e6320e77fc06dc0b686aa19c160d450e367d958e07ea5a1d116346e"), looks := true }, kinds := [], alts := [], laidByText := true, laidKinds := [.data, .data, .data, .data, .sentinel, .sentinel, .pinned], laidTests := true, laidLooks := .later }
def ClockSpansCardSaid : Prop := Claim7.holds Tryd.pinned (.plain (OpenSpec.ofChange clockSpansSpec)) clockSpansCard

/-- THE SECOND FORM's CARD OF 'slackwaterlaw09.ClockBack'. -/
def clockBackUptoCard : Claim7 := { stood := { row := clockBackUptoRow, standIns := [], harness := (true, "9619f4077e6320e77fc06dc0b686aa19c160d450e367d958e07ea5a1d116346e"), looks := true }, kinds := [], alts := [], laidByText := true, laidKinds := [.data, .data, .data, .data, .sentinel, .sentinel, .pinned], laidTests := true, laidLooks := .later }
def ClockBackUptoCardSaid : Prop := Claim7.holds Tryd.pinned (.plain (OpenSpec.upto clockBackSpec)) clockBackUptoCard

/-- THE SECOND FORM's CARD OF 'slackwaterlaw09.ClockRises'. -/
def clockRisesUptoCard : Claim7 := { stood := { row := clockRisesUptoRow, standIns := [], harness := (true, "9619f4077e6320e77fc06dc0b686aa19c160d450e367d958e07ea5a1d116346e"), looks := true }, kinds := [], alts := [], laidByText := true, laidKinds := [.data, .data, .data, .data, .sentinel, .sentinel, .pinned], laidTests := true, laidLooks := .later }
def ClockRisesUptoCardSaid : Prop := Claim7.holds Tryd.pinned (.plain (OpenSpec.upto clockRisesSpec)) clockRisesUptoCard

/-- THE SECOND FORM's CARD OF 'slackwaterlaw09.ClockTells'. -/
def clockTellsUptoCard : Claim7 := { stood := { row := clockTellsUptoRow, standIns := [], harness := (true, "9619f4077e6320e77fc06dc0b686aa19c160d450e367d958e07ea5a1d116346e"), looks := true }, kinds := [], alts := [], laidByText := true, laidKinds := [.data, .data, .data, .data, .sentinel, .sentinel, .pinned], laidTests := true, laidLooks := .later }
def ClockTellsUptoCardSaid : Prop := Claim7.holds Tryd.pinned (.plain (OpenSpec.upto clockTellsSpec)) clockTellsUptoCard

/-- THE SECOND FORM's CARD OF 'slackwaterlaw09.ClockNames'. -/
def clockNamesUptoCard : Claim7 := { stood := { row := clockNamesUptoRow, standIns := [], harness := (true, "9619f4077e6320e77fc06dc0b686aa19c160d450e367d958e07ea5a1d116346e"), looks := true }, kinds := [], alts := [], laidByText := true, laidKinds := [.data, .data, .data, .data, .sentinel, .sentinel, .pinned], laidTests := true, laidLooks := .later }
def ClockNamesUptoCardSaid : Prop := Claim7.holds Tryd.pinned (.plain (OpenSpec.upto clockNamesSpec)) clockNamesUptoCard

/-- THE SECOND FORM's CARD OF 'slackwaterlaw09.ClockSpans'. -/
def clockSpansUptoCard : Claim7 := { stood := { row := clockSpansUptoRow, standIns := [], harness := (true, "9619f4077e6320e77fc06dc0b686aa19c160d450e367d958e07ea5a1d116346e"), looks := true }, kinds := [], alts := [], laidByText := true, laidKinds := [.data, .data, .data, .data, .sentinel, .sentinel, .pinned], laidTests := true, laidLooks := .later }
def ClockSpansUptoCardSaid : Prop := Claim7.holds Tryd.pinned (.plain (OpenSpec.upto clockSpansSpec)) clockSpansUptoCard
end Rows
end Go.Proofs.YtipkjbfbcdadkaaDoor
