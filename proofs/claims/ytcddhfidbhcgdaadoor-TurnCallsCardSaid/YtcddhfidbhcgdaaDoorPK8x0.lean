/- Written by wip/xprint.py (the kit's print over given functions). -/
import Derived.Test.YtcddhfidbhcgdaaDoorProg
import Derived.Below
import Derived.Deep.Draws
import Derived.Deep.AppendLies
import Derived.Maps.AppendAt
import Derived.OwnWalk
import Derived.Laws.BytesArg
import Derived.Laws.MakeOwn
import Derived.Laws.OwnMore
import Derived.Deep.OwnRows
import Derived.Tactics
import Derived.Lib.ConvBytes
import Derived.Laws.Slices
import Derived.WalkKit
import Derived.KernelRfl
import Derived.RowKit3
import Derived.Deep.LoopGhost
import Derived.Deep.QuietTactic
import Derived.BigQuiet
import Derived.WideLaws
import Derived.Deep.DeepCutAuto
import Derived.Deep.CutBlock
import Derived.Deep.RegionHeld3
import Derived.Laws.Rows
import Derived.Lib.AppendStr
import Derived.ArgAppend
import Derived.Laws.IdiomCopy
import Derived.OrdersHeld
import Derived.Laws.BitsLemmas
import Derived.RowKit
import Derived.Deep.DeepCutAuto
import Derived.Deep.RegionHeld3
import Derived.Handy
import Derived.IntWalk
import Derived.Laws.AppendOwn
import Derived.Laws.BitsLemmas
import Derived.Laws.Externs
import Derived.Lib.ItoaLen
import Derived.Lib.ParseIntB
import Derived.LoopN
import Derived.LoopTactic
import Derived.Test.YtcddhfidbhcgdaaDoorGBox
import Derived.Test.YtcddhfidbhcgdaaDoorGLaidT
import Derived.Test.YtcddhfidbhcgdaaDoorGShelf
import Derived.Test.YtcddhfidbhcgdaaDoorWWords
import Derived.Test.YtcddhfidbhcgdaaDoorWLast
import Derived.Test.YtcddhfidbhcgdaaDoorWTab
import Derived.Test.YtcddhfidbhcgdaaDoorWFour
import Derived.Test.YtcddhfidbhcgdaaDoorWQPut
import Derived.Test.YtcddhfidbhcgdaaDoorWApart
import Derived.Test.YtcddhfidbhcgdaaDoorWArr
import Derived.Test.YtcddhfidbhcgdaaDoorWZeros
import Derived.Test.YtcddhfidbhcgdaaDoorWFoot
import Derived.Test.YtcddhfidbhcgdaaDoorWKept
import Derived.Test.YtcddhfidbhcgdaaDoorWShare
import Derived.Test.YtcddhfidbhcgdaaDoorWN
import Derived.Test.YtcddhfidbhcgdaaDoorWFootNe
import Derived.Test.YtcddhfidbhcgdaaDoorWAt
import Derived.Test.YtcddhfidbhcgdaaDoorWEqStruct
import Derived.Test.YtcddhfidbhcgdaaDoorWRepsOne
import Derived.Test.YtcddhfidbhcgdaaDoorWInv
import Derived.Test.YtcddhfidbhcgdaaDoorWInvWords
import Derived.Test.YtcddhfidbhcgdaaDoorWGuard
import Derived.Test.YtcddhfidbhcgdaaDoorWNEv
import Derived.Test.YtcddhfidbhcgdaaDoorWMore
namespace Go.Proofs.YtcddhfidbhcgdaaDoor.PK8
open Go.RowKit Go.Proofs.YtcddhfidbhcgdaaDoorW.PrintWords Go.Proofs.YtcddhfidbhcgdaaDoorW.PrintLast Go.Proofs.YtcddhfidbhcgdaaDoorW.PrintMore
attribute [local go_sem] max2_int min2_int max_two min_two max_three min_three max_four min_four   -- for this text's walks alone
set_option linter.unusedVariables false
set_option linter.unusedSimpArgs false



def errW : Option Int → Value
  | none => .nilIface
  | some c => .iface 0 (.int .i64 c)
theorem errW_none : errW none = .nilIface := rfl
theorem errW_some (c : Int) : errW (some c) = .iface 0 (.int .i64 c) := rfl

-- the values' own types

end Go.Proofs.YtcddhfidbhcgdaaDoor.PK8
