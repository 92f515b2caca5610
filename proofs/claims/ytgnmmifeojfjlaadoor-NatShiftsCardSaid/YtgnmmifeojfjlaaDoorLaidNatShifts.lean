import Derived.Test.YtgnmmifeojfjlaaDoorRows
import Derived.Test.YtgnmmifeojfjlaaDoorGLaid1
import Derived.WalkKit
import Derived.ProofKit
import Derived.Lib.LaidTab
import Derived.Stop.LaidErr
import Derived.Shelf.Vars
import Derived.MakeChecks
import Derived.Lay
import Derived.LaidLaws
/- What the row's list of variables gives: the library's table that the numbers' texts read. -/
set_option linter.unusedVariables false
namespace Go.Proofs.YtgnmmifeojfjlaaDoor
open Go Go.RowKit Go.Proofs
theorem gTab8 : Tryd.prog.globalNamed "internal/strconv.uint64pow10" = some 0 := by kernel_rfl
theorem gTab8Type : (Tryd.prog.globals[0]?).map (·.type) = some 114 := by kernel_rfl
theorem cells99_8 : Tryd.prog.cellsOf 114 = 20 := by kernel_rfl
theorem cells82_8 : Tryd.prog.cellsOf 51 = 1 := by kernel_rfl
theorem lw_of {W : World} (h : laidMet Tryd.prog Rows.natShiftsRow.laid W) (hsh : W.ShapedOpen Tryd.prog) : LW W := by
  have h2 : laidMet Tryd.prog (("internal/strconv.uint64pow10", Lib.tabData .u64 Lib.pow10Tab) :: Rows.natShiftsRow.laid.drop 3) W := h.tail.tail
  exact ⟨Lib.tabIs_of_head gTab8 gTab8Type Tryd.underlying114 Tryd.underlying51 cells82_8 cells99_8 h2⟩
/-- a world that holds what is listed -/
theorem laid_metn (os : Os) (args : Array Value) : laidMet Tryd.prog Rows.natShiftsRow.laid ((World.laidAll Tryd.prog os Rows.natShiftsRow.laid).forCall (fun _ _ => 0) ⟨#[], args, []⟩).memory := laidMet_laidAll _ (by kernel_rfl) (by kernel_rfl)
theorem laid_shapedn (os : Os) (args : Array Value) : ((World.laidAll Tryd.prog os Rows.natShiftsRow.laid).forCall (fun _ _ => 0) ⟨#[], args, []⟩).Shaped Tryd.prog := World.shaped_of_ZipB (by kernel_rfl) (by kernel_rfl)
end Go.Proofs.YtgnmmifeojfjlaaDoor
