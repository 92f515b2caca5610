/- Written by wip/xprint.py (the kit's print over given functions). -/
import Derived.Test.YtgjmlbcpjjpegaaProg
import Derived.Below
import Derived.Deep.Draws
import Derived.Deep.AppendLies
import Derived.Maps.AppendAt
import Derived.OwnWalk
import Derived.Laws.BytesArg
import Derived.Laws.MakeOwn
import Derived.Laws.OwnMore
import Derived.Deep.OwnRows
import Derived.Tactics
import Derived.Lib.ConvBytes
import Derived.Laws.Slices
import Derived.WalkKit
import Derived.KernelRfl
import Derived.RowKit3
import Derived.Deep.LoopGhost
import Derived.Deep.QuietTactic
import Derived.BigQuiet
import Derived.WideLaws
import Derived.Deep.DeepCutAuto
import Derived.Deep.CutBlock
import Derived.Deep.RegionHeld3
import Derived.Laws.Rows
import Derived.Lib.AppendStr
import Derived.ArgAppend
import Derived.Laws.IdiomCopy
import Derived.OrdersHeld
import Derived.Laws.BitsLemmas
import Derived.RowKit
import Derived.Handy
import Derived.IntWalk
import Derived.Laws.Externs
import Derived.LoopN
import Derived.LoopTactic
import Derived.Test.YtgjmlbcpjjpegaaNtA
import Derived.Test.YtgjmlbcpjjpegaaRoL
import Derived.Test.YtgjmlbcpjjpegaaRoS
import Derived.Test.YtgjmlbcpjjpegaaRtG
import Derived.Test.YtgjmlbcpjjpegaaRtM
import Derived.Test.YtgjmlbcpjjpegaaShelf
import Derived.Test.YtgjmlbcpjjpegaaWWords
import Derived.Test.YtgjmlbcpjjpegaaWLast
import Derived.Test.YtgjmlbcpjjpegaaWTab
import Derived.Test.YtgjmlbcpjjpegaaWFour
import Derived.Test.YtgjmlbcpjjpegaaWQPut
import Derived.Test.YtgjmlbcpjjpegaaWApart
import Derived.Test.YtgjmlbcpjjpegaaWArr
import Derived.Test.YtgjmlbcpjjpegaaWZeros
import Derived.Test.YtgjmlbcpjjpegaaWFoot
import Derived.Test.YtgjmlbcpjjpegaaWKept
import Derived.Test.YtgjmlbcpjjpegaaWShare
import Derived.Test.YtgjmlbcpjjpegaaWN
import Derived.Test.YtgjmlbcpjjpegaaWFootNe
import Derived.Test.YtgjmlbcpjjpegaaWAt
import Derived.Test.YtgjmlbcpjjpegaaWEqStruct
import Derived.Test.YtgjmlbcpjjpegaaWRepsOne
import Derived.Test.YtgjmlbcpjjpegaaWInv
import Derived.Test.YtgjmlbcpjjpegaaWInvWords
import Derived.Test.YtgjmlbcpjjpegaaWGuard
import Derived.Test.YtgjmlbcpjjpegaaWNEv
import Derived.Test.YtgjmlbcpjjpegaaWMore
namespace Go.Proofs.Ytgjmlbcpjjpegaa.PRB
open Go.RowKit Go.Proofs.YtgjmlbcpjjpegaaW.PrintWords Go.Proofs.YtgjmlbcpjjpegaaW.PrintLast Go.Proofs.YtgjmlbcpjjpegaaW.PrintMore
attribute [local go_sem] max2_int min2_int max_two min_two max_three min_three max_four min_four   -- for this text's walks alone
set_option linter.unusedVariables false
set_option linter.unusedSimpArgs false

def errW : Option Int → Value
  | none => .nilIface
  | some c => .iface 0 (.int .i64 c)
theorem errW_none : errW none = .nilIface := rfl
theorem errW_some (c : Int) : errW (some c) = .iface 0 (.int .i64 c) := rfl

abbrev bN := @blk_drewN
abbrev bW := @blk_drew
abbrev bA := @blk_alloc
abbrev bB := @blk_below
abbrev bF := @blk_far
abbrev bL := @blk_lt
abbrev bC := @blk_cell
abbrev bZ := @blk_frozen
abbrev wA := @below_alloc
abbrev wN := @pw_below_drewN
abbrev wD := @below_drew1
abbrev wS := @below_set
abbrev wP := @below_step
abbrev wZ := @below_size
abbrev gC := @gate_callee
abbrev gD := @gate_dst
abbrev gB := @box_event
theorem aZ {p : Prop} (h : p) : Aside0 p := ⟨h⟩
end Go.Proofs.Ytgjmlbcpjjpegaa.PRB
