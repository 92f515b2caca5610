import Derived.Test.YtipkjbfbcdadkaaDoorCkB
/- The walk of ClockBack, whole. -/
set_option linter.unusedVariables false
namespace Go.Proofs.YtipkjbfbcdadkaaDoor
open Go Go.RowKit
theorem ClockBack_walk (t y m d h : Int) (s : ByteArray) (W : World) (hL : LW W) (h0 : -9223372036854775808 ≤ t) (h1 : t < 9223372036854775808) (y0 : -9223372036854775808 ≤ y) (y1 : y < 9223372036854775808) (m0 : -9223372036854775808 ≤ m) (m1 : m < 9223372036854775808) (d0 : -9223372036854775808 ≤ d) (d1 : d < 9223372036854775808) (e0 : -9223372036854775808 ≤ h) (e1 : h < 9223372036854775808) (hs : s.size ≤ 1048576) :
    Calls Tryd.prog 3 #[.int .i64 t, .agg #[.int .i64 y, .int .i64 m, .int .i64 d, .int .i64 h], .string s] W fun e W' => e = .returned (.bool true) ∧ Below W.heap.size W W' :=
  PK9.slackwaterlaw09_ClockBack.calls 220 t y m d h s true W hL (Ck.back 220 (Nat.le_refl _) t y m d h s hs)
end Go.Proofs.YtipkjbfbcdadkaaDoor
