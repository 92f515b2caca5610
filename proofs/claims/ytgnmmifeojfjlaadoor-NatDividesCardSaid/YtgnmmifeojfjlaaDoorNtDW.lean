import Derived.Test.YtgnmmifeojfjlaaDoorNtD
import Derived.Test.YtgnmmifeojfjlaaDoorNtI
/- The walk of NatDivides, whole. -/
set_option linter.unusedVariables false
namespace Go.Proofs.YtgnmmifeojfjlaaDoor
open Go Go.RowKit Q
theorem NatDivides_walk (A0 : Option Addr) (c0 : Nat) (l0 : List Int) (A1 : Option Addr) (c1 : Nat) (l1 : List Int) (A2 : Option Addr) (c2 : Nat) (l2 : List Int) (W : World) (hL : LW W) (i0 : In W A0 c0 l0) (i1 : In W A1 c1 l1) (i2 : In W A2 c2 l2) :
    Calls Tryd.prog 5 #[.slice A0 l0.length c0, .slice A1 l1.length c1, .slice A2 l2.length c2] W fun e W' => e = .returned (.bool true) ∧ Below W.heap.size W W' :=
  PK1.slackwaterlaw01_NatDivides.calls 1000 A0 c0 l0 A1 c1 l1 A2 c2 l2 true W hL (C_of_In i0) i0.cap (C_of_In i1) i1.cap (C_of_In i2) i2.cap (NT.divides l0 l1 l2 i0.wds i1.wds i2.wds)
end Go.Proofs.YtgnmmifeojfjlaaDoor
