import Derived.Test.YtcddhfidbhcgdaaDoorTBq
/- The walk of TurnOf, whole. -/
set_option linter.unusedVariables false
namespace Go.Proofs.YtcddhfidbhcgdaaDoor
open Go Go.RowKit
theorem TurnOf_walk (p w : Int) (s : ByteArray) (W : World) (hL : LW W) (p0 : -9223372036854775808 ≤ p) (p1 : p < 9223372036854775808) (w0 : -9223372036854775808 ≤ w) (w1 : w < 9223372036854775808) (hs : s.size ≤ 1048576) :
    Calls Tryd.prog 4 #[.int .i64 p, .int .i64 w, .string s] W fun e W' => e = .returned (.bool true) ∧ Below W.heap.size W W' :=
  PK8.slackwaterlaw08_TurnOf.calls TG.huge p w s true W hL (TG.tells TG.huge (Nat.le_refl _) p w p0 p1 s hs)
end Go.Proofs.YtcddhfidbhcgdaaDoor
