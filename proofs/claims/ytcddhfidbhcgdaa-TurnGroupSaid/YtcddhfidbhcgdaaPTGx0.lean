/- Written by wip/xprint.py (the kit's print over given functions). -/
import Derived.Test.YtcddhfidbhcgdaaProg
import Derived.Below
import Derived.Deep.Draws
import Derived.Deep.AppendLies
import Derived.Maps.AppendAt
import Derived.OwnWalk
import Derived.Laws.BytesArg
import Derived.Laws.MakeOwn
import Derived.Laws.OwnMore
import Derived.Deep.OwnRows
import Derived.Tactics
import Derived.Lib.ConvBytes
import Derived.Laws.Slices
import Derived.WalkKit
import Derived.KernelRfl
import Derived.RowKit3
import Derived.Deep.LoopGhost
import Derived.Deep.QuietTactic
import Derived.BigQuiet
import Derived.WideLaws
import Derived.Deep.DeepCutAuto
import Derived.Deep.CutBlock
import Derived.Deep.RegionHeld3
import Derived.Laws.Rows
import Derived.Lib.AppendStr
import Derived.ArgAppend
import Derived.Laws.IdiomCopy
import Derived.OrdersHeld
import Derived.Laws.BitsLemmas
import Derived.RowKit
import Derived.Test.YtcddhfidbhcgdaaGBox
import Derived.Handy
import Derived.IntWalk
import Derived.Laws.Externs
import Derived.LoopN
import Derived.LoopTactic
import Derived.Test.YtcddhfidbhcgdaaWWords
import Derived.Test.YtcddhfidbhcgdaaWLast
import Derived.Test.YtcddhfidbhcgdaaWTab
import Derived.Test.YtcddhfidbhcgdaaWFour
import Derived.Test.YtcddhfidbhcgdaaWQPut
import Derived.Test.YtcddhfidbhcgdaaWApart
import Derived.Test.YtcddhfidbhcgdaaWArr
import Derived.Test.YtcddhfidbhcgdaaWZeros
import Derived.Test.YtcddhfidbhcgdaaWFoot
import Derived.Test.YtcddhfidbhcgdaaWKept
import Derived.Test.YtcddhfidbhcgdaaWShare
import Derived.Test.YtcddhfidbhcgdaaWN
import Derived.Test.YtcddhfidbhcgdaaWFootNe
import Derived.Test.YtcddhfidbhcgdaaWAt
import Derived.Test.YtcddhfidbhcgdaaWEqStruct
import Derived.Test.YtcddhfidbhcgdaaWRepsOne
import Derived.Test.YtcddhfidbhcgdaaWInv
import Derived.Test.YtcddhfidbhcgdaaWInvWords
import Derived.Test.YtcddhfidbhcgdaaWGuard
import Derived.Test.YtcddhfidbhcgdaaWNEv
import Derived.Test.YtcddhfidbhcgdaaWMore
namespace Go.Proofs.Ytcddhfidbhcgdaa.PTG
open Go.RowKit Go.Proofs.YtcddhfidbhcgdaaW.PrintWords Go.Proofs.YtcddhfidbhcgdaaW.PrintLast Go.Proofs.YtcddhfidbhcgdaaW.PrintMore
attribute [local go_sem] max2_int min2_int max_two min_two max_three min_three max_four min_four   -- for this text's walks alone
set_option linter.unusedVariables false
set_option linter.unusedSimpArgs false



def errW : Option Int → Value
  | none => .nilIface
  | some c => .iface 0 (.int .i64 c)
theorem errW_none : errW none = .nilIface := rfl
theorem errW_some (c : Int) : errW (some c) = .iface 0 (.int .i64 c) := rfl

-- the values' own types

end Go.Proofs.Ytcddhfidbhcgdaa.PTG
