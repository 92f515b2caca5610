import Derived.Test.YtgnmmifeojfjlaaDoorNtM
/- Sums, and which is more, at numbers told by their values. -/
set_option linter.unusedVariables false
set_option linter.unusedSimpArgs false
namespace Go.Proofs.YtgnmmifeojfjlaaDoor.NT
open Go.RowKit Go.Proofs.YtgnmmifeojfjlaaDoor.PK1 Go.Proofs.YtgnmmifeojfjlaaDoorW.PrintWords Q
theorem ncmp {a b : Int} (h : Sm 400 a) (k : Sm 400 b) : nat_Compare.f (nw a) (nw b) = some (cmp a b) := by
  unfold nat_Compare.f
  rw [if_pos ⟨okw_400 h.le h.lt, okw_400 k.le k.lt⟩, cmp_nw h.le k.le]
theorem ladd {a b : Int} (h : Sm 399 a) (k : Sm 399 b) : slackwaterlaw01_add.f (nw a) (nw b) = some (nw (a + b)) := by
  unfold slackwaterlaw01_add.f
  rw [nadd h k, Option.bind_some]
  rfl
end Go.Proofs.YtgnmmifeojfjlaaDoor.NT
