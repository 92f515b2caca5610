/- Written by wip/xprint.py (the kit's print over given functions). -/
import Derived.Test.YtcddhfidbhcgdaaDoorPK8x0
namespace Go.Proofs.YtcddhfidbhcgdaaDoor.PK8
open Go.RowKit Go.Proofs.YtcddhfidbhcgdaaDoorW.PrintWords Go.Proofs.YtcddhfidbhcgdaaDoorW.PrintLast Go.Proofs.YtcddhfidbhcgdaaDoorW.PrintMore
attribute [local go_sem] max2_int min2_int max_two min_two max_three min_three max_four min_four   -- for this text's walks alone
set_option linter.unusedVariables false
set_option linter.unusedSimpArgs false

/-! ### bits_Rem64: function 35 (given) -/
def bits_Rem64.f (a0 a1 a2 : Int) : Option Int := if a0 = 0 ∧ 0 ≤ a1 ∧ 0 < a2 then some (a1 % a2) else none
set_option maxHeartbeats 2000000 in
set_option maxRecDepth 100000 in
theorem bits_Rem64.div (a1 a2 : Int) (w : World) (h1 : 0 ≤ a1) (h2 : 0 < a2) :
    Calls Tryd.prog 34 #[.int .u64 0, .int .u64 a1, .int .u64 a2] w fun e w' => e = .returned (.tuple #[.int .u64 (IntKind.u64.wrap (a1.tdiv a2)), .int .u64 (a1 % a2)]) ∧ Drawn0 w w' := by
  have d1 : (a2 == 0) = false := beq_eq_false_iff_ne.2 (by omega)
  have d2 : decide (a2 ≤ 0) = false := decide_eq_false (by omega)
  go_enter Tryd.func34, Tryd.ntmps34
  go_wp2
  go_quiet (fail)
  go_wp2
  go_ret2
  exact ⟨rfl, by repeat (first | exact Drawn0.refl _ | apply Drawn0.step)⟩
set_option maxHeartbeats 2000000 in
set_option maxRecDepth 100000 in
theorem bits_Rem64.calls (a0 : Int) (a1 : Int) (a2 : Int) (r : Int) (w : World) (h : bits_Rem64.f a0 a1 a2 = some r) :
    Calls Tryd.prog 35 #[.int .u64 a0, .int .u64 a1, .int .u64 a2] w fun e w' => e = .returned (.int .u64 r) ∧ Drawn0 w w' := by
  unfold bits_Rem64.f at h
  split at h
  · rename_i hc
    obtain ⟨rfl, h1, h2⟩ := hc
    cases h
    have d1 : (a2 == 0) = false := beq_eq_false_iff_ne.2 (by omega)
    go_enter Tryd.func35, Tryd.ntmps35
    go_wp2_with fail
    refine (bits_Rem64.div a1 a2 _ h1 h2).mono ?_
    rintro e w' ⟨rfl, nd, rfl⟩
    go_wp2
    go_ret
    exact ⟨rfl, by repeat (first | exact Drawn0.refl _ | apply Drawn0.step)⟩
  · cases h


end Go.Proofs.YtcddhfidbhcgdaaDoor.PK8
