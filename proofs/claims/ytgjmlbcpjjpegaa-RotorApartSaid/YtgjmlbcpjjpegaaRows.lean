/-
  No cell of these rows narrows 'for every input' (looked for: loops, veiled, ifaces, maps, wideKeys, modest, calm, conditions, laid).
  DERIVED. THE GIVEN ROWS OF THIS SEAT. 6 by the template 'for every input the law returns true; each argument reads behind the call as it read before'; 0 by the template 'total and deterministic' (their statements: YtgjmlbcpjjpegaaTotals.lean).
  GIVEN WITH THE SEED: the statements are not yours to turn. If you find one false, say at which input.
  Laid BY PROGRAM, IN A SANDBOX (cutbox-rows.mjs): the forced cells as the released guide's own fill.sh prints them over the translation 69b2b67c23c0393a… (all of the seat's roots in one cut). By AI agents, Wed Nov 11 2026. No macro, syntax, notation, axiom, sorry.
-/
import Derived.Test.YtgjmlbcpjjpegaaChecked
import GoSem.Claim
import GoSem.ClaimJoined
import GoSem.ClaimMapViews
import Derived.JoinedTies
import Derived.KernelRfl
namespace Go.Proofs.Ytgjmlbcpjjpegaa
/- THE CELL 'sum', in the pinned program and in every row, IS THE sha256 OF THE DUMP (.gsa) THAT YtgjmlbcpjjpegaaProg.lean LOADS. Nothing in Lean hashes anything: it is a label: what it is worth is what the hold of that sum in a sandbox is worth. -/
noncomputable def Try.pinned : Pinned := { name := "ytgjmlbcpjjpegaa", sum := "69b2b67c23c0393a38eea356dd42ffe671f71cb2f264171afc9956452f63c956", checked := Try.checked }
namespace Rows
def none {H : Type} : Left H := { results := [], args := [] }

/-- 'slackwaterlaw05.RotorLists': WHATEVER THE INPUT: true; the input reads as it did. -/
def rotorListsSpec : ChangeSpec := { name := "rotorLists", fn := fun _ => fun
  | [d] => { results := [.lit (.bool true)], args := [d] }
  | _ => none }
def rotorListsRow : OpenClaim := { program := "ytgjmlbcpjjpegaa", sum := "69b2b67c23c0393a38eea356dd42ffe671f71cb2f264171afc9956452f63c956", func := "slackwater/slackwaterlaw05.RotorLists", spec := "rotorLists", plainKeys := false, apart := false }
def RotorListsSaid : Prop := rotorListsRow.holds Try.pinned (OpenSpec.ofChange rotorListsSpec)

/-- ITS FALSE NEIGHBOUR: 'it returns false'. Refute it at one input. -/
def rotorListsWrong : ChangeSpec := { name := "rotorLists", fn := fun _ => fun
  | [d] => { results := [.lit (.bool false)], args := [d] }
  | _ => none }
def RotorListsWrongFalsely : Prop := rotorListsRow.holds Try.pinned (OpenSpec.ofChange rotorListsWrong)

/-- 'slackwaterlaw05.RotorFinds': WHATEVER THE INPUT: true; the input reads as it did. -/
def rotorFindsSpec : ChangeSpec := { name := "rotorFinds", fn := fun _ => fun
  | [d] => { results := [.lit (.bool true)], args := [d] }
  | _ => none }
def rotorFindsRow : OpenClaim := { program := "ytgjmlbcpjjpegaa", sum := "69b2b67c23c0393a38eea356dd42ffe671f71cb2f264171afc9956452f63c956", func := "slackwater/slackwaterlaw05.RotorFinds", spec := "rotorFinds", plainKeys := false, apart := false }
def RotorFindsSaid : Prop := rotorFindsRow.holds Try.pinned (OpenSpec.ofChange rotorFindsSpec)

/-- ITS FALSE NEIGHBOUR: 'it returns false'. Refute it at one input. -/
def rotorFindsWrong : ChangeSpec := { name := "rotorFinds", fn := fun _ => fun
  | [d] => { results := [.lit (.bool false)], args := [d] }
  | _ => none }
def RotorFindsWrongFalsely : Prop := rotorFindsRow.holds Try.pinned (OpenSpec.ofChange rotorFindsWrong)

/-- 'slackwaterlaw05.RotorSteps': WHATEVER THE INPUT: true; the input reads as it did. -/
def rotorStepsSpec : ChangeSpec := { name := "rotorSteps", fn := fun _ => fun
  | [d1, d2] => { results := [.lit (.bool true)], args := [d1, d2] }
  | _ => none }
def rotorStepsRow : OpenClaim := { program := "ytgjmlbcpjjpegaa", sum := "69b2b67c23c0393a38eea356dd42ffe671f71cb2f264171afc9956452f63c956", func := "slackwater/slackwaterlaw05.RotorSteps", spec := "rotorSteps", unfollowed := true, recurses := true, plainKeys := false, apart := false }
def RotorStepsSaid : Prop := rotorStepsRow.holds Try.pinned (OpenSpec.ofChange rotorStepsSpec)

/-- ITS FALSE NEIGHBOUR: 'it returns false'. Refute it at one input. -/
def rotorStepsWrong : ChangeSpec := { name := "rotorSteps", fn := fun _ => fun
  | [d1, d2] => { results := [.lit (.bool false)], args := [d1, d2] }
  | _ => none }
def RotorStepsWrongFalsely : Prop := rotorStepsRow.holds Try.pinned (OpenSpec.ofChange rotorStepsWrong)

/-- 'slackwaterlaw05.RotorApart': WHATEVER THE INPUT: true; the input reads as it did. -/
def rotorApartSpec : ChangeSpec := { name := "rotorApart", fn := fun _ => fun
  | [d1, d2, d3] => { results := [.lit (.bool true)], args := [d1, d2, d3] }
  | _ => none }
def rotorApartRow : OpenClaim := { program := "ytgjmlbcpjjpegaa", sum := "69b2b67c23c0393a38eea356dd42ffe671f71cb2f264171afc9956452f63c956", func := "slackwater/slackwaterlaw05.RotorApart", spec := "rotorApart", plainKeys := false, apart := false }
def RotorApartSaid : Prop := rotorApartRow.holds Try.pinned (OpenSpec.ofChange rotorApartSpec)

/-- ITS FALSE NEIGHBOUR: 'it returns false'. Refute it at one input. -/
def rotorApartWrong : ChangeSpec := { name := "rotorApart", fn := fun _ => fun
  | [d1, d2, d3] => { results := [.lit (.bool false)], args := [d1, d2, d3] }
  | _ => none }
def RotorApartWrongFalsely : Prop := rotorApartRow.holds Try.pinned (OpenSpec.ofChange rotorApartWrong)

/-- 'slackwaterlaw05.RotorCalls': WHATEVER THE INPUT: true; the input reads as it did. -/
def rotorCallsSpec : ChangeSpec := { name := "rotorCalls", fn := fun _ => fun
  | [d1, d2, d3] => { results := [.lit (.bool true)], args := [d1, d2, d3] }
  | _ => none }
def rotorCallsRow : OpenClaim := { program := "ytgjmlbcpjjpegaa", sum := "69b2b67c23c0393a38eea356dd42ffe671f71cb2f264171afc9956452f63c956", func := "slackwater/slackwaterlaw05.RotorCalls", spec := "rotorCalls", plainKeys := false, apart := false }
def RotorCallsSaid : Prop := rotorCallsRow.holds Try.pinned (OpenSpec.ofChange rotorCallsSpec)

/-- ITS FALSE NEIGHBOUR: 'it returns false'. Refute it at one input. -/
def rotorCallsWrong : ChangeSpec := { name := "rotorCalls", fn := fun _ => fun
  | [d1, d2, d3] => { results := [.lit (.bool false)], args := [d1, d2, d3] }
  | _ => none }
def RotorCallsWrongFalsely : Prop := rotorCallsRow.holds Try.pinned (OpenSpec.ofChange rotorCallsWrong)

/-- 'slackwaterlaw05.RotorGroup': WHATEVER THE INPUT: true; the input reads as it did. -/
def rotorGroupSpec : ChangeSpec := { name := "rotorGroup", fn := fun _ => fun
  | [d1, d2, d3] => { results := [.lit (.bool true)], args := [d1, d2, d3] }
  | _ => none }
def rotorGroupRow : OpenClaim := { program := "ytgjmlbcpjjpegaa", sum := "69b2b67c23c0393a38eea356dd42ffe671f71cb2f264171afc9956452f63c956", func := "slackwater/slackwaterlaw05.RotorGroup", spec := "rotorGroup", plainKeys := false, apart := false }
def RotorGroupSaid : Prop := rotorGroupRow.holds Try.pinned (OpenSpec.ofChange rotorGroupSpec)

/-- ITS FALSE NEIGHBOUR: 'it returns false'. Refute it at one input. -/
def rotorGroupWrong : ChangeSpec := { name := "rotorGroup", fn := fun _ => fun
  | [d1, d2, d3] => { results := [.lit (.bool false)], args := [d1, d2, d3] }
  | _ => none }
def RotorGroupWrongFalsely : Prop := rotorGroupRow.holds Try.pinned (OpenSpec.ofChange rotorGroupWrong)

/- THE SECOND FORM. 'bulk': how many values and letters a reading holds, each counted each time it is reached (what is shared counts as often as it is met; a slice's spare places count too). A statement '..UptoSaid' is the law's where the arguments, and the package variables that the reading takes, are together of bulk at most 1048576: NARROWER than '..Said'. Prove '..Said' where nothing that the law and all that it calls make is longer than what came in: it says more and counts as full. Else prove '..UptoSaid'. A law counts once. -/
mutual
def uptoBulk {H : Type} : DataW H → Nat
  | .lit (.string bytes) => bytes.length + 1
  | .lit _ => 1
  | .nil => 1
  | .ptr d => uptoBulk d + 1
  | .slice elems spare => uptoBulkAll elems + uptoBulkAll spare + 1
  | .agg parts => uptoBulkAll parts + 1
  | .iface _ d => uptoBulk d + 1
  | .map entries => uptoBulkEntries entries + 1
  | .held _ => 1
def uptoBulkAll {H : Type} : List (DataW H) → Nat
  | [] => 0
  | d :: r => uptoBulk d + uptoBulkAll r
def uptoBulkEntries {H : Type} : List (Lit × DataW H) → Nat
  | [] => 0
  | x :: r => uptoBulkEntry x + uptoBulkEntries r
def uptoBulkEntry {H : Type} : Lit × DataW H → Nat
  | (.string bytes, d) => bytes.length + uptoBulk d + 1
  | (_, d) => uptoBulk d + 1
 end
def uptoSmall : (H : Type) → List (DataW H) → Bool := fun _ ds => decide (uptoBulkAll ds ≤ 1048576)
def OpenSpec.upto (s : _root_.Go.ChangeSpec) : _root_.Go.OpenSpec := { _root_.Go.OpenSpec.ofChange s with cond := some uptoSmall }

/-- 'slackwaterlaw05.RotorLists', WHERE WHAT IT READS IS OF BULK AT MOST 1048576: true; the input reads as it did. -/
def rotorListsUptoRow : OpenClaim := { program := "ytgjmlbcpjjpegaa", sum := "69b2b67c23c0393a38eea356dd42ffe671f71cb2f264171afc9956452f63c956", func := "slackwater/slackwaterlaw05.RotorLists", spec := "rotorLists", plainKeys := false, apart := false, narrowed := true }
def RotorListsUptoSaid : Prop := rotorListsUptoRow.holds Try.pinned (OpenSpec.upto rotorListsSpec)

/-- 'slackwaterlaw05.RotorFinds', WHERE WHAT IT READS IS OF BULK AT MOST 1048576: true; the input reads as it did. -/
def rotorFindsUptoRow : OpenClaim := { program := "ytgjmlbcpjjpegaa", sum := "69b2b67c23c0393a38eea356dd42ffe671f71cb2f264171afc9956452f63c956", func := "slackwater/slackwaterlaw05.RotorFinds", spec := "rotorFinds", plainKeys := false, apart := false, narrowed := true }
def RotorFindsUptoSaid : Prop := rotorFindsUptoRow.holds Try.pinned (OpenSpec.upto rotorFindsSpec)

/-- 'slackwaterlaw05.RotorSteps', WHERE WHAT IT READS IS OF BULK AT MOST 1048576: true; the input reads as it did. -/
def rotorStepsUptoRow : OpenClaim := { program := "ytgjmlbcpjjpegaa", sum := "69b2b67c23c0393a38eea356dd42ffe671f71cb2f264171afc9956452f63c956", func := "slackwater/slackwaterlaw05.RotorSteps", spec := "rotorSteps", unfollowed := true, recurses := true, plainKeys := false, apart := false, narrowed := true }
def RotorStepsUptoSaid : Prop := rotorStepsUptoRow.holds Try.pinned (OpenSpec.upto rotorStepsSpec)

/-- 'slackwaterlaw05.RotorApart', WHERE WHAT IT READS IS OF BULK AT MOST 1048576: true; the input reads as it did. -/
def rotorApartUptoRow : OpenClaim := { program := "ytgjmlbcpjjpegaa", sum := "69b2b67c23c0393a38eea356dd42ffe671f71cb2f264171afc9956452f63c956", func := "slackwater/slackwaterlaw05.RotorApart", spec := "rotorApart", plainKeys := false, apart := false, narrowed := true }
def RotorApartUptoSaid : Prop := rotorApartUptoRow.holds Try.pinned (OpenSpec.upto rotorApartSpec)

/-- 'slackwaterlaw05.RotorCalls', WHERE WHAT IT READS IS OF BULK AT MOST 1048576: true; the input reads as it did. -/
def rotorCallsUptoRow : OpenClaim := { program := "ytgjmlbcpjjpegaa", sum := "69b2b67c23c0393a38eea356dd42ffe671f71cb2f264171afc9956452f63c956", func := "slackwater/slackwaterlaw05.RotorCalls", spec := "rotorCalls", plainKeys := false, apart := false, narrowed := true }
def RotorCallsUptoSaid : Prop := rotorCallsUptoRow.holds Try.pinned (OpenSpec.upto rotorCallsSpec)

/-- 'slackwaterlaw05.RotorGroup', WHERE WHAT IT READS IS OF BULK AT MOST 1048576: true; the input reads as it did. -/
def rotorGroupUptoRow : OpenClaim := { program := "ytgjmlbcpjjpegaa", sum := "69b2b67c23c0393a38eea356dd42ffe671f71cb2f264171afc9956452f63c956", func := "slackwater/slackwaterlaw05.RotorGroup", spec := "rotorGroup", plainKeys := false, apart := false, narrowed := true }
def RotorGroupUptoSaid : Prop := rotorGroupUptoRow.holds Try.pinned (OpenSpec.upto rotorGroupSpec)

end Rows
end Go.Proofs.Ytgjmlbcpjjpegaa
