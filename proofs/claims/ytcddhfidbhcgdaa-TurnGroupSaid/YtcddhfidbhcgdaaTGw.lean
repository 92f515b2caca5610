/- The walk of TurnGroup, whole. -/
import Derived.Test.YtcddhfidbhcgdaaTGb
set_option linter.unusedVariables false
namespace Go.Proofs.Ytcddhfidbhcgdaa
open Go Go.RowKit
theorem TurnGroup_walk (p u r v s z n : Int) (W : World) (hp0 : -9223372036854775808 ≤ p) (hp1 : p < 9223372036854775808) (hu0 : -9223372036854775808 ≤ u) (hu1 : u < 9223372036854775808) (hr0 : -9223372036854775808 ≤ r) (hr1 : r < 9223372036854775808) (hv0 : -9223372036854775808 ≤ v) (hv1 : v < 9223372036854775808) (hs0 : -9223372036854775808 ≤ s) (hs1 : s < 9223372036854775808) (hz0 : -9223372036854775808 ≤ z) (hz1 : z < 9223372036854775808) (hn0 : -9223372036854775808 ≤ n) (hn1 : n < 9223372036854775808) :
    Calls Try.prog 4 #[.agg #[.int .i64 p, .int .i64 u], .agg #[.int .i64 r, .int .i64 v], .agg #[.int .i64 s, .int .i64 z], .int .i64 n] W fun e W' => e = .returned (.bool true) ∧ Below W.heap.size W W' :=
  PTG.slackwaterlaw08_TurnGroup.calls (TG.big + 100) p u r v s z n true W (TG.group (TG.big + 100) (Nat.le_refl _) p u r v s z n)
end Go.Proofs.Ytcddhfidbhcgdaa
