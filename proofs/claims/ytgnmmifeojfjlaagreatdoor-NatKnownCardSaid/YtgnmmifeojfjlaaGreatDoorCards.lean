/-
  DERIVED. GIVEN WITH THE SEED: THE CARDS: each row of YtgnmmifeojfjlaaGreatDoorRows.lean that lists a variable, with what it lists TIED to the program's text (the seventh form; the later family's looks); each row that meets fmt, with fmt's text TOLD by the authors' own Lean function (tested against real Go, not proved from fmt's source: count such statements apart). THE CARD IS WHAT COUNTS. Prove the row's statement (the work); the ties are given (YtgnmmifeojfjlaaGreatDoorTie.lean); close each card by the builder's one call (the guide's Derived/Test/ToyasCard.lean, 'card_holds'). Laid BY PROGRAM, IN A SANDBOX (cutbox-door.mjs). By AI agents, Wed Nov 11 2026. No macro, syntax, notation, axiom, sorry.
-/
import Derived.Test.YtgnmmifeojfjlaaGreatDoorRows
import GoSem.ClaimSeven
namespace Go.Proofs.YtgnmmifeojfjlaaGreatDoor
namespace Rows

/-- THE TIED CARD OF 'slackwaterlaw01.NatTexts'. -/
def natTextsCard : Claim7 := { stood := { row := natTextsRow, standIns := [], harness := (true, "37b0365815925e5b1740ae734fec6997a45a9701e9f4b5c9ba75449fc20aa9d3"), looks := true }, kinds := [], alts := [], laidByText := true, laidKinds := [.data, .data, .data, .data, .sentinel, .sentinel, .pinned], laidTests := true, laidLooks := .later }
def NatTextsCardSaid : Prop := Claim7.holds Tryz.pinned (.plain (OpenSpec.ofChange natTextsSpec)) natTextsCard

/-- THE TIED CARD OF 'slackwaterlaw01.NatKnown'. -/
def natKnownCard : Claim7 := { stood := { row := natKnownRow, standIns := [], harness := (true, "37b0365815925e5b1740ae734fec6997a45a9701e9f4b5c9ba75449fc20aa9d3"), looks := true }, kinds := [], alts := [], laidByText := true, laidKinds := [.data, .data, .data, .data, .sentinel, .sentinel, .pinned], laidTests := true, laidLooks := .later }
def NatKnownCardSaid : Prop := Claim7.holds Tryz.pinned (.plain (OpenSpec.ofChange natKnownSpec)) natKnownCard

/-- THE SECOND FORM's CARD OF 'slackwaterlaw01.NatTexts'. -/
def natTextsUptoCard : Claim7 := { stood := { row := natTextsUptoRow, standIns := [], harness := (true, "37b0365815925e5b1740ae734fec6997a45a9701e9f4b5c9ba75449fc20aa9d3"), looks := true }, kinds := [], alts := [], laidByText := true, laidKinds := [.data, .data, .data, .data, .sentinel, .sentinel, .pinned], laidTests := true, laidLooks := .later }
def NatTextsUptoCardSaid : Prop := Claim7.holds Tryz.pinned (.plain (OpenSpec.upto natTextsSpec)) natTextsUptoCard

/-- THE SECOND FORM's CARD OF 'slackwaterlaw01.NatKnown'. -/
def natKnownUptoCard : Claim7 := { stood := { row := natKnownUptoRow, standIns := [], harness := (true, "37b0365815925e5b1740ae734fec6997a45a9701e9f4b5c9ba75449fc20aa9d3"), looks := true }, kinds := [], alts := [], laidByText := true, laidKinds := [.data, .data, .data, .data, .sentinel, .sentinel, .pinned], laidTests := true, laidLooks := .later }
def NatKnownUptoCardSaid : Prop := Claim7.holds Tryz.pinned (.plain (OpenSpec.upto natKnownSpec)) natKnownUptoCard
end Rows
end Go.Proofs.YtgnmmifeojfjlaaGreatDoor
