/- Written by wip/xprint.py (the kit's print over given functions). -/
import Derived.Test.YtipkjbfbcdadkaaDoorProg
import Derived.Below
import Derived.Deep.Draws
import Derived.Deep.AppendLies
import Derived.Maps.AppendAt
import Derived.OwnWalk
import Derived.Laws.BytesArg
import Derived.Laws.MakeOwn
import Derived.Laws.OwnMore
import Derived.Deep.OwnRows
import Derived.Tactics
import Derived.Lib.ConvBytes
import Derived.Laws.Slices
import Derived.WalkKit
import Derived.KernelRfl
import Derived.RowKit3
import Derived.Deep.LoopGhost
import Derived.Deep.QuietTactic
import Derived.BigQuiet
import Derived.WideLaws
import Derived.Deep.DeepCutAuto
import Derived.Deep.CutBlock
import Derived.Deep.RegionHeld3
import Derived.Laws.Rows
import Derived.Lib.AppendStr
import Derived.ArgAppend
import Derived.Laws.IdiomCopy
import Derived.OrdersHeld
import Derived.Laws.BitsLemmas
import Derived.RowKit
import Derived.Handy
import Derived.IntWalk
import Derived.Laws.AppendOwn
import Derived.Lib.ItoaLen
import Derived.LoopN
import Derived.LoopTactic
import Derived.Test.YtipkjbfbcdadkaaDoorCal
import Derived.Test.YtipkjbfbcdadkaaDoorGBox
import Derived.Test.YtipkjbfbcdadkaaDoorGLaid9
import Derived.Test.YtipkjbfbcdadkaaDoorWWords
import Derived.Test.YtipkjbfbcdadkaaDoorWLast
import Derived.Test.YtipkjbfbcdadkaaDoorWTab
import Derived.Test.YtipkjbfbcdadkaaDoorWFour
import Derived.Test.YtipkjbfbcdadkaaDoorWQPut
import Derived.Test.YtipkjbfbcdadkaaDoorWApart
import Derived.Test.YtipkjbfbcdadkaaDoorWArr
import Derived.Test.YtipkjbfbcdadkaaDoorWZeros
import Derived.Test.YtipkjbfbcdadkaaDoorWFoot
import Derived.Test.YtipkjbfbcdadkaaDoorWKept
import Derived.Test.YtipkjbfbcdadkaaDoorWShare
import Derived.Test.YtipkjbfbcdadkaaDoorWN
import Derived.Test.YtipkjbfbcdadkaaDoorWFootNe
import Derived.Test.YtipkjbfbcdadkaaDoorWAt
import Derived.Test.YtipkjbfbcdadkaaDoorWEqStruct
import Derived.Test.YtipkjbfbcdadkaaDoorWRepsOne
import Derived.Test.YtipkjbfbcdadkaaDoorWInv
import Derived.Test.YtipkjbfbcdadkaaDoorWInvWords
import Derived.Test.YtipkjbfbcdadkaaDoorWGuard
import Derived.Test.YtipkjbfbcdadkaaDoorWNEv
import Derived.Test.YtipkjbfbcdadkaaDoorWMore
namespace Go.Proofs.YtipkjbfbcdadkaaDoor.PK9
open Go.RowKit Go.Proofs.YtipkjbfbcdadkaaDoorW.PrintWords Go.Proofs.YtipkjbfbcdadkaaDoorW.PrintLast Go.Proofs.YtipkjbfbcdadkaaDoorW.PrintMore
attribute [local go_sem] max2_int min2_int max_two min_two max_three min_three max_four min_four   -- for this text's walks alone
set_option linter.unusedVariables false
set_option linter.unusedSimpArgs false



def errW : Option Int → Value
  | none => .nilIface
  | some c => .iface 0 (.int .i64 c)
theorem errW_none : errW none = .nilIface := rfl
theorem errW_some (c : Int) : errW (some c) = .iface 0 (.int .i64 c) := rfl

theorem info5 : (Tryd.prog.info? 5).map (fun i => (i.zero, i.size, i.bytes)) = some (some (.int .u8 0), 1, 1) := by kernel_rfl
-- the values' own types

end Go.Proofs.YtipkjbfbcdadkaaDoor.PK9
