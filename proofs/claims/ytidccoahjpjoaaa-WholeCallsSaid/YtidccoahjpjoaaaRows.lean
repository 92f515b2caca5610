/-
  No cell of these rows narrows 'for every input' (looked for: loops, veiled, ifaces, maps, wideKeys, modest, calm, conditions, laid).
  DERIVED. THE GIVEN ROWS OF THIS SEAT. 4 by the template 'for every input the law returns true; each argument reads behind the call as it read before'; 0 by the template 'total and deterministic' (their statements: YtidccoahjpjoaaaTotals.lean).
  GIVEN WITH THE SEED: the statements are not yours to turn. If you find one false, say at which input.
  Laid BY PROGRAM, IN A SANDBOX (cutbox-rows.mjs): the forced cells as the released guide's own fill.sh prints them over the translation 2b3eff2a45c2f5d1… (all of the seat's roots in one cut). By AI agents, Wed Nov 11 2026. No macro, syntax, notation, axiom, sorry.
-/
import Derived.Test.YtidccoahjpjoaaaChecked
import GoSem.Claim
import GoSem.ClaimJoined
import GoSem.ClaimMapViews
import Derived.JoinedTies
import Derived.KernelRfl
namespace Go.Proofs.Ytidccoahjpjoaaa
/- THE CELL 'sum', in the pinned program and in every row, IS THE sha256 OF THE DUMP (.gsa) THAT YtidccoahjpjoaaaProg.lean LOADS. Nothing in Lean hashes anything: it is a label: what it is worth is what the hold of that sum in a sandbox is worth. -/
noncomputable def Try.pinned : Pinned := { name := "ytidccoahjpjoaaa", sum := "2b3eff2a45c2f5d1cb3d711f017095c872b5475ead60e7541c33252cbf4aedaa", checked := Try.checked }
namespace Rows
def none {H : Type} : Left H := { results := [], args := [] }

/-- 'slackwaterlaw02.WholeOf': WHATEVER THE INPUT: true; the input reads as it did. -/
def wholeOfSpec : ChangeSpec := { name := "wholeOf", fn := fun _ => fun
  | [d] => { results := [.lit (.bool true)], args := [d] }
  | _ => none }
def wholeOfRow : OpenClaim := { program := "ytidccoahjpjoaaa", sum := "2b3eff2a45c2f5d1cb3d711f017095c872b5475ead60e7541c33252cbf4aedaa", func := "slackwater/slackwaterlaw02.WholeOf", spec := "wholeOf", apart := false }
def WholeOfSaid : Prop := wholeOfRow.holds Try.pinned (OpenSpec.ofChange wholeOfSpec)

/-- ITS FALSE NEIGHBOUR: 'it returns false'. Refute it at one input. -/
def wholeOfWrong : ChangeSpec := { name := "wholeOf", fn := fun _ => fun
  | [d] => { results := [.lit (.bool false)], args := [d] }
  | _ => none }
def WholeOfWrongFalsely : Prop := wholeOfRow.holds Try.pinned (OpenSpec.ofChange wholeOfWrong)

/-- 'slackwaterlaw02.WholePower': WHATEVER THE INPUT: true; the input reads as it did. -/
def wholePowerSpec : ChangeSpec := { name := "wholePower", fn := fun _ => fun
  | [d1, d2] => { results := [.lit (.bool true)], args := [d1, d2] }
  | _ => none }
def wholePowerRow : OpenClaim := { program := "ytidccoahjpjoaaa", sum := "2b3eff2a45c2f5d1cb3d711f017095c872b5475ead60e7541c33252cbf4aedaa", func := "slackwater/slackwaterlaw02.WholePower", spec := "wholePower", apart := false }
def WholePowerSaid : Prop := wholePowerRow.holds Try.pinned (OpenSpec.ofChange wholePowerSpec)

/-- ITS FALSE NEIGHBOUR: 'it returns false'. Refute it at one input. -/
def wholePowerWrong : ChangeSpec := { name := "wholePower", fn := fun _ => fun
  | [d1, d2] => { results := [.lit (.bool false)], args := [d1, d2] }
  | _ => none }
def WholePowerWrongFalsely : Prop := wholePowerRow.holds Try.pinned (OpenSpec.ofChange wholePowerWrong)

/-- 'slackwaterlaw02.WholeRing': WHATEVER THE INPUT: true; the input reads as it did. -/
def wholeRingSpec : ChangeSpec := { name := "wholeRing", fn := fun _ => fun
  | [d1, d2, d3] => { results := [.lit (.bool true)], args := [d1, d2, d3] }
  | _ => none }
def wholeRingRow : OpenClaim := { program := "ytidccoahjpjoaaa", sum := "2b3eff2a45c2f5d1cb3d711f017095c872b5475ead60e7541c33252cbf4aedaa", func := "slackwater/slackwaterlaw02.WholeRing", spec := "wholeRing", apart := false }
def WholeRingSaid : Prop := wholeRingRow.holds Try.pinned (OpenSpec.ofChange wholeRingSpec)

/-- ITS FALSE NEIGHBOUR: 'it returns false'. Refute it at one input. -/
def wholeRingWrong : ChangeSpec := { name := "wholeRing", fn := fun _ => fun
  | [d1, d2, d3] => { results := [.lit (.bool false)], args := [d1, d2, d3] }
  | _ => none }
def WholeRingWrongFalsely : Prop := wholeRingRow.holds Try.pinned (OpenSpec.ofChange wholeRingWrong)

/-- 'slackwaterlaw02.WholeCalls': WHATEVER THE INPUT: true; the input reads as it did. -/
def wholeCallsSpec : ChangeSpec := { name := "wholeCalls", fn := fun _ => fun
  | [d1, d2] => { results := [.lit (.bool true)], args := [d1, d2] }
  | _ => none }
def wholeCallsRow : OpenClaim := { program := "ytidccoahjpjoaaa", sum := "2b3eff2a45c2f5d1cb3d711f017095c872b5475ead60e7541c33252cbf4aedaa", func := "slackwater/slackwaterlaw02.WholeCalls", spec := "wholeCalls", apart := false }
def WholeCallsSaid : Prop := wholeCallsRow.holds Try.pinned (OpenSpec.ofChange wholeCallsSpec)

/-- ITS FALSE NEIGHBOUR: 'it returns false'. Refute it at one input. -/
def wholeCallsWrong : ChangeSpec := { name := "wholeCalls", fn := fun _ => fun
  | [d1, d2] => { results := [.lit (.bool false)], args := [d1, d2] }
  | _ => none }
def WholeCallsWrongFalsely : Prop := wholeCallsRow.holds Try.pinned (OpenSpec.ofChange wholeCallsWrong)

/- THE SECOND FORM. 'bulk': how many values and letters a reading holds, each counted each time it is reached (what is shared counts as often as it is met; a slice's spare places count too). A statement '..UptoSaid' is the law's where the arguments, and the package variables that the reading takes, are together of bulk at most 1048576: NARROWER than '..Said'. Prove '..Said' where nothing that the law and all that it calls make is longer than what came in: it says more and counts as full. Else prove '..UptoSaid'. A law counts once. -/
mutual
def uptoBulk {H : Type} : DataW H → Nat
  | .lit (.string bytes) => bytes.length + 1
  | .lit _ => 1
  | .nil => 1
  | .ptr d => uptoBulk d + 1
  | .slice elems spare => uptoBulkAll elems + uptoBulkAll spare + 1
  | .agg parts => uptoBulkAll parts + 1
  | .iface _ d => uptoBulk d + 1
  | .map entries => uptoBulkEntries entries + 1
  | .held _ => 1
def uptoBulkAll {H : Type} : List (DataW H) → Nat
  | [] => 0
  | d :: r => uptoBulk d + uptoBulkAll r
def uptoBulkEntries {H : Type} : List (Lit × DataW H) → Nat
  | [] => 0
  | x :: r => uptoBulkEntry x + uptoBulkEntries r
def uptoBulkEntry {H : Type} : Lit × DataW H → Nat
  | (.string bytes, d) => bytes.length + uptoBulk d + 1
  | (_, d) => uptoBulk d + 1
 end
def uptoSmall : (H : Type) → List (DataW H) → Bool := fun _ ds => decide (uptoBulkAll ds ≤ 1048576)
def OpenSpec.upto (s : _root_.Go.ChangeSpec) : _root_.Go.OpenSpec := { _root_.Go.OpenSpec.ofChange s with cond := some uptoSmall }

/-- 'slackwaterlaw02.WholeOf', WHERE WHAT IT READS IS OF BULK AT MOST 1048576: true; the input reads as it did. -/
def wholeOfUptoRow : OpenClaim := { program := "ytidccoahjpjoaaa", sum := "2b3eff2a45c2f5d1cb3d711f017095c872b5475ead60e7541c33252cbf4aedaa", func := "slackwater/slackwaterlaw02.WholeOf", spec := "wholeOf", apart := false, narrowed := true }
def WholeOfUptoSaid : Prop := wholeOfUptoRow.holds Try.pinned (OpenSpec.upto wholeOfSpec)

/-- 'slackwaterlaw02.WholePower', WHERE WHAT IT READS IS OF BULK AT MOST 1048576: true; the input reads as it did. -/
def wholePowerUptoRow : OpenClaim := { program := "ytidccoahjpjoaaa", sum := "2b3eff2a45c2f5d1cb3d711f017095c872b5475ead60e7541c33252cbf4aedaa", func := "slackwater/slackwaterlaw02.WholePower", spec := "wholePower", apart := false, narrowed := true }
def WholePowerUptoSaid : Prop := wholePowerUptoRow.holds Try.pinned (OpenSpec.upto wholePowerSpec)

/-- 'slackwaterlaw02.WholeRing', WHERE WHAT IT READS IS OF BULK AT MOST 1048576: true; the input reads as it did. -/
def wholeRingUptoRow : OpenClaim := { program := "ytidccoahjpjoaaa", sum := "2b3eff2a45c2f5d1cb3d711f017095c872b5475ead60e7541c33252cbf4aedaa", func := "slackwater/slackwaterlaw02.WholeRing", spec := "wholeRing", apart := false, narrowed := true }
def WholeRingUptoSaid : Prop := wholeRingUptoRow.holds Try.pinned (OpenSpec.upto wholeRingSpec)

/-- 'slackwaterlaw02.WholeCalls', WHERE WHAT IT READS IS OF BULK AT MOST 1048576: true; the input reads as it did. -/
def wholeCallsUptoRow : OpenClaim := { program := "ytidccoahjpjoaaa", sum := "2b3eff2a45c2f5d1cb3d711f017095c872b5475ead60e7541c33252cbf4aedaa", func := "slackwater/slackwaterlaw02.WholeCalls", spec := "wholeCalls", apart := false, narrowed := true }
def WholeCallsUptoSaid : Prop := wholeCallsUptoRow.holds Try.pinned (OpenSpec.upto wholeCallsSpec)

end Rows
end Go.Proofs.Ytidccoahjpjoaaa
