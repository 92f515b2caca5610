import Derived.Test.YtipkjbfbcdadkaaDoorPK9x
/- The walk of ClockNames, whole: a closed law, reckoned. -/
set_option linter.unusedVariables false
namespace Go.Proofs.YtipkjbfbcdadkaaDoor
open Go Go.RowKit
theorem names_f : PK9.slackwaterlaw09_ClockNames.f 300 = some true := by decide +kernel
theorem ClockNames_walk (W : World) (hL : LW W) :
    Calls Tryd.prog 6 #[] W fun e W' => e = .returned (.bool true) ∧ Below W.heap.size W W' :=
  PK9.slackwaterlaw09_ClockNames.calls 300 true W hL names_f
end Go.Proofs.YtipkjbfbcdadkaaDoor
