import Derived.Test.YtcddhfidbhcgdaaDoorTBb
/- The walk of TurnBack, whole. -/
set_option linter.unusedVariables false
namespace Go.Proofs.YtcddhfidbhcgdaaDoor
open Go Go.RowKit
theorem TurnBack_walk (p u a b : Int) (s : ByteArray) (W : World) (hL : LW W) (p0 : -9223372036854775808 ≤ p) (p1 : p < 9223372036854775808) (u0 : -9223372036854775808 ≤ u) (u1 : u < 9223372036854775808) (a0 : -9223372036854775808 ≤ a) (a1 : a < 9223372036854775808) (b0 : -9223372036854775808 ≤ b) (b1 : b < 9223372036854775808) (hs : s.size ≤ 1048576) :
    Calls Tryd.prog 5 #[.agg #[.int .i64 p, .int .i64 u], .agg #[.int .i64 a, .int .i64 b], .string s] W fun e W' => e = .returned (.bool true) ∧ Below W.heap.size W W' :=
  PK8.slackwaterlaw08_TurnBack.calls (TG.big + 10) p u a b s true W hL (TG.back (TG.big + 10) (Nat.le_refl _) p u a b s hs)
end Go.Proofs.YtcddhfidbhcgdaaDoor
