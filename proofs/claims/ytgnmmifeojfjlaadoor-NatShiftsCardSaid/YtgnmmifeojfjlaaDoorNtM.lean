import Derived.Test.YtgnmmifeojfjlaaDoorNtB
/- Products, at numbers told by their values. -/
set_option linter.unusedVariables false
set_option linter.unusedSimpArgs false
namespace Go.Proofs.YtgnmmifeojfjlaaDoor.NT
open Go.RowKit Go.Proofs.YtgnmmifeojfjlaaDoor.PK1 Go.Proofs.YtgnmmifeojfjlaaDoorW.PrintWords Q
theorem nmul {a b : Int} (h : Sm 199 a) (k : Sm 199 b) : nat_Mul.f (nw a) (nw b) = some (nw (a * b), 0) := by
  have h' := h.up (show 199 ≤ 400 by omega)
  have k' := k.up (show 199 ≤ 400 by omega)
  unfold nat_Mul.f
  rw [if_pos ⟨okw_400 h.le h'.lt, okw_400 k.le k'.lt⟩, mulC_nw h.le k.le h.lt k.lt (by omega)]
theorem lmul {a b : Int} (h : Sm 199 a) (k : Sm 199 b) : slackwaterlaw01_mul.f (nw a) (nw b) = some (nw (a * b)) := by
  unfold slackwaterlaw01_mul.f
  rw [nmul h k, Option.bind_some]
  rfl
end Go.Proofs.YtgnmmifeojfjlaaDoor.NT
