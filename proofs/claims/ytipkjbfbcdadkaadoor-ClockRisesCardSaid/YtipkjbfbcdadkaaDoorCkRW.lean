import Derived.Test.YtipkjbfbcdadkaaDoorCkR
/- The walks of the clock's laws, whole. -/
set_option linter.unusedVariables false
namespace Go.Proofs.YtipkjbfbcdadkaaDoor
open Go Go.RowKit
theorem ClockRises_walk (t : Int) (W : World) (hL : LW W) (h0 : -9223372036854775808 ≤ t) (h1 : t < 9223372036854775808) :
    Calls Tryd.prog 4 #[.int .i64 t] W fun e W' => e = .returned (.bool true) ∧ Below W.heap.size W W' :=
  PK9.slackwaterlaw09_ClockRises.calls 200 t true W hL (Ck.rises 200 (Nat.le_refl _) t)
end Go.Proofs.YtipkjbfbcdadkaaDoor
