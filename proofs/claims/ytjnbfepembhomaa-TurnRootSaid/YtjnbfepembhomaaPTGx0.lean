/- Written by wip/xprint.py (the kit's print over given functions). -/
import Derived.Test.YtjnbfepembhomaaProg
import Derived.Below
import Derived.Deep.Draws
import Derived.Deep.AppendLies
import Derived.Maps.AppendAt
import Derived.OwnWalk
import Derived.Laws.BytesArg
import Derived.Laws.MakeOwn
import Derived.Laws.OwnMore
import Derived.Deep.OwnRows
import Derived.Tactics
import Derived.Lib.ConvBytes
import Derived.Laws.Slices
import Derived.WalkKit
import Derived.KernelRfl
import Derived.RowKit3
import Derived.Deep.LoopGhost
import Derived.Deep.QuietTactic
import Derived.BigQuiet
import Derived.WideLaws
import Derived.Deep.DeepCutAuto
import Derived.Deep.CutBlock
import Derived.Deep.RegionHeld3
import Derived.Laws.Rows
import Derived.Lib.AppendStr
import Derived.ArgAppend
import Derived.Laws.IdiomCopy
import Derived.OrdersHeld
import Derived.Laws.BitsLemmas
import Derived.RowKit
import Derived.Handy
import Derived.IntWalk
import Derived.Laws.Externs
import Derived.LoopN
import Derived.LoopTactic
import Derived.Test.YtjnbfepembhomaaGBox
import Derived.Test.YtjnbfepembhomaaWWords
import Derived.Test.YtjnbfepembhomaaWLast
import Derived.Test.YtjnbfepembhomaaWTab
import Derived.Test.YtjnbfepembhomaaWFour
import Derived.Test.YtjnbfepembhomaaWQPut
import Derived.Test.YtjnbfepembhomaaWApart
import Derived.Test.YtjnbfepembhomaaWArr
import Derived.Test.YtjnbfepembhomaaWZeros
import Derived.Test.YtjnbfepembhomaaWFoot
import Derived.Test.YtjnbfepembhomaaWKept
import Derived.Test.YtjnbfepembhomaaWShare
import Derived.Test.YtjnbfepembhomaaWN
import Derived.Test.YtjnbfepembhomaaWFootNe
import Derived.Test.YtjnbfepembhomaaWAt
import Derived.Test.YtjnbfepembhomaaWEqStruct
import Derived.Test.YtjnbfepembhomaaWRepsOne
import Derived.Test.YtjnbfepembhomaaWInv
import Derived.Test.YtjnbfepembhomaaWInvWords
import Derived.Test.YtjnbfepembhomaaWGuard
import Derived.Test.YtjnbfepembhomaaWNEv
import Derived.Test.YtjnbfepembhomaaWMore
namespace Go.Proofs.Ytjnbfepembhomaa.PTG
open Go.RowKit Go.Proofs.YtjnbfepembhomaaW.PrintWords Go.Proofs.YtjnbfepembhomaaW.PrintLast Go.Proofs.YtjnbfepembhomaaW.PrintMore
attribute [local go_sem] max2_int min2_int max_two min_two max_three min_three max_four min_four   -- for this text's walks alone
set_option linter.unusedVariables false
set_option linter.unusedSimpArgs false



def errW : Option Int → Value
  | none => .nilIface
  | some c => .iface 0 (.int .i64 c)
theorem errW_none : errW none = .nilIface := rfl
theorem errW_some (c : Int) : errW (some c) = .iface 0 (.int .i64 c) := rfl

-- the values' own types

end Go.Proofs.Ytjnbfepembhomaa.PTG
