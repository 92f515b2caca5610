/- Written by wip/xprint.py (the kit's print over given functions). -/
import Derived.Test.YtidccoahjpjoaaaGreatDoorProg
import Derived.Below
import Derived.Deep.Draws
import Derived.Deep.AppendLies
import Derived.Maps.AppendAt
import Derived.OwnWalk
import Derived.Laws.BytesArg
import Derived.Laws.MakeOwn
import Derived.Laws.OwnMore
import Derived.Deep.OwnRows
import Derived.Tactics
import Derived.Lib.ConvBytes
import Derived.Laws.Slices
import Derived.WalkKit
import Derived.KernelRfl
import Derived.RowKit3
import Derived.Deep.LoopGhost
import Derived.Deep.QuietTactic
import Derived.BigQuiet
import Derived.WideLaws
import Derived.Deep.DeepCutAuto
import Derived.Deep.CutBlock
import Derived.Deep.RegionHeld3
import Derived.Laws.Rows
import Derived.Lib.AppendStr
import Derived.ArgAppend
import Derived.Laws.IdiomCopy
import Derived.OrdersHeld
import Derived.Laws.BitsLemmas
import Derived.RowKit
import Derived.Handy
import Derived.IntWalk
import Derived.Laws.Externs
import Derived.Lib.AppendIntMem
import Derived.Lib.ItoaMem
import Derived.LoopN
import Derived.LoopTactic
import Derived.Test.YtidccoahjpjoaaaGreatDoorGLaid1
import Derived.Test.YtidccoahjpjoaaaGreatDoorNtA
import Derived.Test.YtidccoahjpjoaaaGreatDoorNtPa
import Derived.Test.YtidccoahjpjoaaaGreatDoorQRef5
import Derived.Test.YtidccoahjpjoaaaGreatDoorShelf
import Derived.Test.YtidccoahjpjoaaaGreatDoorWWords
import Derived.Test.YtidccoahjpjoaaaGreatDoorWLast
import Derived.Test.YtidccoahjpjoaaaGreatDoorWTab
import Derived.Test.YtidccoahjpjoaaaGreatDoorWFour
import Derived.Test.YtidccoahjpjoaaaGreatDoorWQPut
import Derived.Test.YtidccoahjpjoaaaGreatDoorWApart
import Derived.Test.YtidccoahjpjoaaaGreatDoorWArr
import Derived.Test.YtidccoahjpjoaaaGreatDoorWZeros
import Derived.Test.YtidccoahjpjoaaaGreatDoorWFoot
import Derived.Test.YtidccoahjpjoaaaGreatDoorWKept
import Derived.Test.YtidccoahjpjoaaaGreatDoorWShare
import Derived.Test.YtidccoahjpjoaaaGreatDoorWN
import Derived.Test.YtidccoahjpjoaaaGreatDoorWFootNe
import Derived.Test.YtidccoahjpjoaaaGreatDoorWAt
import Derived.Test.YtidccoahjpjoaaaGreatDoorWEqStruct
import Derived.Test.YtidccoahjpjoaaaGreatDoorWRepsOne
import Derived.Test.YtidccoahjpjoaaaGreatDoorWInv
import Derived.Test.YtidccoahjpjoaaaGreatDoorWInvWords
import Derived.Test.YtidccoahjpjoaaaGreatDoorWGuard
import Derived.Test.YtidccoahjpjoaaaGreatDoorWNEv
import Derived.Test.YtidccoahjpjoaaaGreatDoorWMore
namespace Go.Proofs.YtidccoahjpjoaaaGreatDoor.PK1
open Go.RowKit Go.Proofs.YtidccoahjpjoaaaGreatDoorW.PrintWords Go.Proofs.YtidccoahjpjoaaaGreatDoorW.PrintLast Go.Proofs.YtidccoahjpjoaaaGreatDoorW.PrintMore
attribute [local go_sem] max2_int min2_int max_two min_two max_three min_three max_four min_four   -- for this text's walks alone
set_option linter.unusedVariables false
set_option linter.unusedSimpArgs false



def errW : Option Int → Value
  | none => .nilIface
  | some c => .iface 0 (.int .i64 c)
theorem errW_none : errW none = .nilIface := rfl
theorem errW_some (c : Int) : errW (some c) = .iface 0 (.int .i64 c) := rfl

theorem info5 : (Tryz.prog.info? 5).map (fun i => (i.zero, i.size, i.bytes)) = some (some (.int .u8 0), 1, 1) := by kernel_rfl
theorem info9 : (Tryz.prog.info? 9).map (fun i => (i.zero, i.size, i.bytes)) = some (some (.string ⟨#[]⟩), 1, 16) := by kernel_rfl
theorem info50 : (Tryz.prog.info? 50).map (fun i => (i.zero, i.size, i.bytes)) = some (some (.int .u32 0), 1, 4) := by kernel_rfl
-- the values' own types

end Go.Proofs.YtidccoahjpjoaaaGreatDoor.PK1
