import Derived.Test.YtlaiginblmckoaaDoorCkQ
/- The clock in plain words: the examples. -/
set_option linter.unusedVariables false
set_option linter.unusedSimpArgs false
namespace Go.Proofs.YtlaiginblmckoaaDoor.Ck
open Go Go.RowKit Go.Proofs.YtlaiginblmckoaaDoor.PK9 Go.Proofs.YtlaiginblmckoaaDoorW.PrintWords
theorem awake_f (k : Nat) (hk : 200 ≤ k) : slackwaterlaw09_awake.f k = some true := by
  unfold slackwaterlaw09_awake.f
  rw [at_ok (n := 1) (h := 2) (by omega) (by omega) (by omega) (by omega), Option.bind_some, date_ok (t := 1416) (by omega) (by omega), Option.bind_some]
  rw [parse_str k hk tick0 ⟨#[50, 48, 48, 48, 45, 49, 45, 49, 32, 48]⟩ (by rw [str0]; exact bs_list _), Option.bind_some, week_ok (t := 0) (by omega) (by omega), Option.bind_some]
  rw [show (1416 : Int) / 24 = 59 from rfl, show (1416 : Int) % 24 = 0 from rfl, day59.1, day59.2.1, day59.2.2]
  rfl
end Go.Proofs.YtlaiginblmckoaaDoor.Ck
