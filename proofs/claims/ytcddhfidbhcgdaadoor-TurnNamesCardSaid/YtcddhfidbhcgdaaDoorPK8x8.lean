/- Written by wip/xprint.py (the kit's print over given functions). -/
import Derived.Test.YtcddhfidbhcgdaaDoorPK8x0
import Derived.Test.YtcddhfidbhcgdaaDoorPK8x2
import Derived.Test.YtcddhfidbhcgdaaDoorPK8x5
import Derived.Test.YtcddhfidbhcgdaaDoorPK8x6
import Derived.Test.YtcddhfidbhcgdaaDoorPK8x7
namespace Go.Proofs.YtcddhfidbhcgdaaDoor.PK8
open Go.RowKit Go.Proofs.YtcddhfidbhcgdaaDoorW.PrintWords Go.Proofs.YtcddhfidbhcgdaaDoorW.PrintLast Go.Proofs.YtcddhfidbhcgdaaDoorW.PrintMore
attribute [local go_sem] max2_int min2_int max_two min_two max_three min_three max_four min_four   -- for this text's walks alone
set_option linter.unusedVariables false
set_option linter.unusedSimpArgs false

/-! ### slackwaterlaw08_lives: function 11 (given) -/
theorem root34 : turn_Root.fl 6 0 4 = some (0, 13830554455654793216) := by kernel_rfl
theorem of_m14 : turn_Of.f 10 (-1) 4 = some (3, 4, 0) := by kernel_rfl
theorem chk34 : turn_Check.f 10 3 4 = some 0 := by kernel_rfl
set_option maxHeartbeats 1000000 in
theorem slackwaterlaw08_lives.calls_ (w : World) : Calls Tryd.prog 11 #[] w fun e w' => e = .returned (.bool true) ∧ Below w.heap.size w w' := by
  have hO := GB.hid of_m14
  have hs1 : (FloatKind.f64.format.order 0 0 == some .eq) = true := by kernel_rfl
  have hs2 : (FloatKind.f64.format.order 13830554455654793216 13830554455654793216 == some .eq) = true := by kernel_rfl
  have h23 := Tryd.underlying23
  have heq : ∀ w, (binOp .eql 23 (.agg #[.int .i64 3, .int .i64 4]) (.agg #[.int .i64 3, .int .i64 4])).run Tryd.prog w = .ok (.bool true) w := fun w => by kernel_rfl
  go_enter Tryd.func11, Tryd.ntmps11
  go_wp2_with fail
  refine (turn_Of.calls 10 _ _ 3 4 0 _ hO.out).mono ?_
  rintro e w1 ⟨rfl, hB⟩
  have HB := GB.hid (GB.bls (by repeat (first | exact GB.bl0 _ | apply GB.bla)) hB : Below w.heap.size w w1)
  clear hB
  go_wp2_with fail
  refine (turn_Root.fine 10 3 4 6 0 0 0 13830554455654793216 _ chk34 (by decide) (by decide) (by decide) (by decide) (by decide) (by decide) root34).mono ?_
  rintro e w2 ⟨rfl, hB⟩
  have K := GB.hid ((GB.Blk.new w1 23 [.int .i64 3, .int .i64 4]).below hB)
  have HB := GB.hid (GB.bls (by repeat (first | exact HB.out | apply GB.bla)) hB : Below w.heap.size w w2)
  clear hB
  have c0 := K.out.cell 0 rfl
  have c1 := K.out.cell 1 rfl
  go_wp2_with fail
  refine (same_number _ _ _ _ _ hs1 hs2).mono ?_
  rintro e w' ⟨rfl, rfl⟩
  go_wp2
  go_ret
  exact ⟨rfl, by repeat (first | exact HB.out | apply GB.bla)⟩
def slackwaterlaw08_lives.f : Option Bool := some true
theorem slackwaterlaw08_lives.calls (r : Bool) (w : World) (h : slackwaterlaw08_lives.f = some r) : Calls Tryd.prog 11 #[] w fun e w' => e = .returned (.bool r) ∧ Below w.heap.size w w' := by
  cases h
  exact slackwaterlaw08_lives.calls_ w


end Go.Proofs.YtcddhfidbhcgdaaDoor.PK8
