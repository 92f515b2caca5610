import Derived.Test.YtipkjbfbcdadkaaDoorCkV
/- The walk of ClockTells, whole. -/
set_option linter.unusedVariables false
namespace Go.Proofs.YtipkjbfbcdadkaaDoor
open Go Go.RowKit
theorem ClockTells_walk (t n h y m d e : Int) (s : ByteArray) (a b : Int) (W : World) (hL : LW W) (t0 : -9223372036854775808 ≤ t) (t1 : t < 9223372036854775808) (n0 : -9223372036854775808 ≤ n) (n1 : n < 9223372036854775808) (h0 : -9223372036854775808 ≤ h) (h1 : h < 9223372036854775808) (y0 : -9223372036854775808 ≤ y) (y1 : y < 9223372036854775808) (m0 : -9223372036854775808 ≤ m) (m1 : m < 9223372036854775808) (d0 : -9223372036854775808 ≤ d) (d1 : d < 9223372036854775808) (e0 : -9223372036854775808 ≤ e) (e1 : e < 9223372036854775808) (hs : s.size ≤ 1048576) (a0 : -9223372036854775808 ≤ a) (a1 : a < 9223372036854775808) (b0 : -9223372036854775808 ≤ b) (b1 : b < 9223372036854775808) :
    Calls Tryd.prog 5 #[.int .i64 t, .int .i64 n, .int .i64 h, .agg #[.int .i64 y, .int .i64 m, .int .i64 d, .int .i64 e], .string s, .int .i64 a, .int .i64 b] W fun e W' => e = .returned (.bool true) ∧ Below W.heap.size W W' :=
  PK9.slackwaterlaw09_ClockTells.calls 1510 t n h y m d e s a b true W hL (Ck.tells 1510 (Nat.le_refl _) t n h y m d e s a b hs)
end Go.Proofs.YtipkjbfbcdadkaaDoor
