/- Written by wip/xprint.py (the kit's print over given functions). -/
import Derived.Test.YtgnmmifeojfjlaaDoorProg
import Derived.Below
import Derived.Deep.Draws
import Derived.Deep.AppendLies
import Derived.Maps.AppendAt
import Derived.OwnWalk
import Derived.Laws.BytesArg
import Derived.Laws.MakeOwn
import Derived.Laws.OwnMore
import Derived.Deep.OwnRows
import Derived.Tactics
import Derived.Lib.ConvBytes
import Derived.Laws.Slices
import Derived.WalkKit
import Derived.KernelRfl
import Derived.RowKit3
import Derived.Deep.LoopGhost
import Derived.Deep.QuietTactic
import Derived.BigQuiet
import Derived.WideLaws
import Derived.Deep.DeepCutAuto
import Derived.Deep.CutBlock
import Derived.Deep.RegionHeld3
import Derived.Laws.Rows
import Derived.Lib.AppendStr
import Derived.ArgAppend
import Derived.Laws.IdiomCopy
import Derived.OrdersHeld
import Derived.Laws.BitsLemmas
import Derived.RowKit
import Derived.Handy
import Derived.IntWalk
import Derived.Laws.Externs
import Derived.Lib.AppendIntMem
import Derived.Lib.ItoaMem
import Derived.LoopN
import Derived.LoopTactic
import Derived.Test.YtgnmmifeojfjlaaDoorGLaid1
import Derived.Test.YtgnmmifeojfjlaaDoorNtA
import Derived.Test.YtgnmmifeojfjlaaDoorNtPa
import Derived.Test.YtgnmmifeojfjlaaDoorShelf
import Derived.Test.YtgnmmifeojfjlaaDoorWWords
import Derived.Test.YtgnmmifeojfjlaaDoorWLast
import Derived.Test.YtgnmmifeojfjlaaDoorWTab
import Derived.Test.YtgnmmifeojfjlaaDoorWFour
import Derived.Test.YtgnmmifeojfjlaaDoorWQPut
import Derived.Test.YtgnmmifeojfjlaaDoorWApart
import Derived.Test.YtgnmmifeojfjlaaDoorWArr
import Derived.Test.YtgnmmifeojfjlaaDoorWZeros
import Derived.Test.YtgnmmifeojfjlaaDoorWFoot
import Derived.Test.YtgnmmifeojfjlaaDoorWKept
import Derived.Test.YtgnmmifeojfjlaaDoorWShare
import Derived.Test.YtgnmmifeojfjlaaDoorWN
import Derived.Test.YtgnmmifeojfjlaaDoorWFootNe
import Derived.Test.YtgnmmifeojfjlaaDoorWAt
import Derived.Test.YtgnmmifeojfjlaaDoorWEqStruct
import Derived.Test.YtgnmmifeojfjlaaDoorWRepsOne
import Derived.Test.YtgnmmifeojfjlaaDoorWInv
import Derived.Test.YtgnmmifeojfjlaaDoorWInvWords
import Derived.Test.YtgnmmifeojfjlaaDoorWGuard
import Derived.Test.YtgnmmifeojfjlaaDoorWNEv
import Derived.Test.YtgnmmifeojfjlaaDoorWMore
namespace Go.Proofs.YtgnmmifeojfjlaaDoor.PK1
open Go.RowKit Go.Proofs.YtgnmmifeojfjlaaDoorW.PrintWords Go.Proofs.YtgnmmifeojfjlaaDoorW.PrintLast Go.Proofs.YtgnmmifeojfjlaaDoorW.PrintMore
attribute [local go_sem] max2_int min2_int max_two min_two max_three min_three max_four min_four   -- for this text's walks alone
set_option linter.unusedVariables false
set_option linter.unusedSimpArgs false



def errW : Option Int → Value
  | none => .nilIface
  | some c => .iface 0 (.int .i64 c)
theorem errW_none : errW none = .nilIface := rfl
theorem errW_some (c : Int) : errW (some c) = .iface 0 (.int .i64 c) := rfl

theorem info9 : (Tryd.prog.info? 9).map (fun i => (i.zero, i.size, i.bytes)) = some (some (.string ⟨#[]⟩), 1, 16) := by kernel_rfl
theorem info34 : (Tryd.prog.info? 34).map (fun i => (i.zero, i.size, i.bytes)) = some (some (.int .u32 0), 1, 4) := by kernel_rfl
-- the values' own types

end Go.Proofs.YtgnmmifeojfjlaaDoor.PK1
