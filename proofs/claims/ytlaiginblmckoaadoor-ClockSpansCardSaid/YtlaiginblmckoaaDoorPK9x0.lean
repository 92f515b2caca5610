/- Written by wip/xprint.py (the kit's print over given functions). -/
import Derived.Test.YtlaiginblmckoaaDoorProg
import Derived.Below
import Derived.Deep.Draws
import Derived.Deep.AppendLies
import Derived.Maps.AppendAt
import Derived.OwnWalk
import Derived.Laws.BytesArg
import Derived.Laws.MakeOwn
import Derived.Laws.OwnMore
import Derived.Deep.OwnRows
import Derived.Tactics
import Derived.Lib.ConvBytes
import Derived.Laws.Slices
import Derived.WalkKit
import Derived.KernelRfl
import Derived.RowKit3
import Derived.Deep.LoopGhost
import Derived.Deep.QuietTactic
import Derived.BigQuiet
import Derived.WideLaws
import Derived.Deep.DeepCutAuto
import Derived.Deep.CutBlock
import Derived.Deep.RegionHeld3
import Derived.Laws.Rows
import Derived.Lib.AppendStr
import Derived.ArgAppend
import Derived.Laws.IdiomCopy
import Derived.OrdersHeld
import Derived.Laws.BitsLemmas
import Derived.RowKit
import Derived.Handy
import Derived.IntWalk
import Derived.Laws.AppendOwn
import Derived.Lib.ItoaLen
import Derived.LoopN
import Derived.LoopTactic
import Derived.Test.YtlaiginblmckoaaDoorCal
import Derived.Test.YtlaiginblmckoaaDoorGBox
import Derived.Test.YtlaiginblmckoaaDoorGLaid9
import Derived.Test.YtlaiginblmckoaaDoorWWords
import Derived.Test.YtlaiginblmckoaaDoorWLast
import Derived.Test.YtlaiginblmckoaaDoorWTab
import Derived.Test.YtlaiginblmckoaaDoorWFour
import Derived.Test.YtlaiginblmckoaaDoorWQPut
import Derived.Test.YtlaiginblmckoaaDoorWApart
import Derived.Test.YtlaiginblmckoaaDoorWArr
import Derived.Test.YtlaiginblmckoaaDoorWZeros
import Derived.Test.YtlaiginblmckoaaDoorWFoot
import Derived.Test.YtlaiginblmckoaaDoorWKept
import Derived.Test.YtlaiginblmckoaaDoorWShare
import Derived.Test.YtlaiginblmckoaaDoorWN
import Derived.Test.YtlaiginblmckoaaDoorWFootNe
import Derived.Test.YtlaiginblmckoaaDoorWAt
import Derived.Test.YtlaiginblmckoaaDoorWEqStruct
import Derived.Test.YtlaiginblmckoaaDoorWRepsOne
import Derived.Test.YtlaiginblmckoaaDoorWInv
import Derived.Test.YtlaiginblmckoaaDoorWInvWords
import Derived.Test.YtlaiginblmckoaaDoorWGuard
import Derived.Test.YtlaiginblmckoaaDoorWNEv
import Derived.Test.YtlaiginblmckoaaDoorWMore
namespace Go.Proofs.YtlaiginblmckoaaDoor.PK9
open Go.RowKit Go.Proofs.YtlaiginblmckoaaDoorW.PrintWords Go.Proofs.YtlaiginblmckoaaDoorW.PrintLast Go.Proofs.YtlaiginblmckoaaDoorW.PrintMore
attribute [local go_sem] max2_int min2_int max_two min_two max_three min_three max_four min_four   -- for this text's walks alone
set_option linter.unusedVariables false
set_option linter.unusedSimpArgs false



def errW : Option Int → Value
  | none => .nilIface
  | some c => .iface 0 (.int .i64 c)
theorem errW_none : errW none = .nilIface := rfl
theorem errW_some (c : Int) : errW (some c) = .iface 0 (.int .i64 c) := rfl

theorem info3 : (Tryd.prog.info? 3).map (fun i => (i.zero, i.size, i.bytes)) = some (some (.int .i64 0), 1, 8) := by kernel_rfl
-- the values' own types

end Go.Proofs.YtlaiginblmckoaaDoor.PK9
