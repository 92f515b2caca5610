/-
  DERIVED. GIVEN WITH THE SEED: THE CARDS: each row of YtlaiginblmckoaaDoorRows.lean that lists a variable, with what it lists TIED to the program's text (the seventh form; the later family's looks); each row that meets fmt, with fmt's text TOLD by the authors' own Lean function (tested against real Go, not proved from fmt's source: count such statements apart). THE CARD IS WHAT COUNTS. Prove the row's statement (the work); the ties are given (YtlaiginblmckoaaDoorTie.lean); close each card by the builder's one call (the guide's Derived/Test/ToyasCard.lean, 'card_holds'). Laid BY PROGRAM, IN A SANDBOX (cutbox-door.mjs). By AI agents, Wed Nov 11 2026. No macro, syntax, notation, axiom, sorry.
-/
import Derived.Test.YtlaiginblmckoaaDoorRows
import GoSem.ClaimSeven
namespace Go.Proofs.YtlaiginblmckoaaDoor
namespace Rows

/-- THE TIED CARD OF 'slackwaterlaw09.ClockSpans'. -/
def clockSpansCard : Claim7 := { stood := { row := clockSpansRow, standIns := [], harness := (true, "073835097150c7f329b84ebfb7a728772ff4add593c8eea7a6ce43c9d2f3dc69"), looks := true }, kinds := [], alts := [], laidByText := true, laidKinds := [.data, .data, .data, .data, .sentinel, .sentinel, .pinned], laidTests := true, laidLooks := .later }
def ClockSpansCardSaid : Prop := Claim7.holds Tryd.pinned (.plain (OpenSpec.ofChange clockSpansSpec)) clockSpansCard

/-- THE SECOND FORM's CARD OF 'slackwaterlaw09.ClockSpans'. -/
def clockSpansUptoCard : Claim7 := { stood := { row := clockSpansUptoRow, standIns := [], harness := (true, "073835097150c7f329b84ebfb7a728772ff4add593c8eea7a6ce43c9d2f3dc69"), looks := true }, kinds := [], alts := [], laidByText := true, laidKinds := [.data, .data, .data, .data, .sentinel, .sentinel, .pinned], laidTests := true, laidLooks := .later }
def ClockSpansUptoCardSaid : Prop := Claim7.holds Tryd.pinned (.plain (OpenSpec.upto clockSpansSpec)) clockSpansUptoCard
end Rows
end Go.Proofs.YtlaiginblmckoaaDoor
