import Derived.Test.YtcddhfidbhcgdaaDoorRows
import Derived.Test.YtcddhfidbhcgdaaDoorGLaid8
import Derived.WalkKit
import Derived.ProofKit
import Derived.Lib.LaidTab
import Derived.Stop.LaidErr
import Derived.Shelf.Vars
import Derived.MakeChecks
import Derived.Lay
import Derived.LaidLaws
/- What the rows' lists of variables give: the library's tables and errors that the turns' texts read. -/
set_option linter.unusedVariables false
namespace Go.Proofs.YtcddhfidbhcgdaaDoor
open Go Go.RowKit Go.Proofs
theorem gTab8 : Tryd.prog.globalNamed "internal/strconv.uint64pow10" = some 3 := by kernel_rfl
theorem gTab8Type : (Tryd.prog.globals[3]?).map (·.type) = some 95 := by kernel_rfl
theorem gES8 : Tryd.prog.globalNamed "strconv.ErrSyntax" = some 5 := by kernel_rfl
theorem gES8Type : (Tryd.prog.globals[5]?).map (·.type) = some 73 := by kernel_rfl
theorem gER8 : Tryd.prog.globalNamed "strconv.ErrRange" = some 6 := by kernel_rfl
theorem gER8Type : (Tryd.prog.globals[6]?).map (·.type) = some 73 := by kernel_rfl
theorem cells99_8 : Tryd.prog.cellsOf 95 = 20 := by kernel_rfl
theorem cells82_8 : Tryd.prog.cellsOf 49 = 1 := by kernel_rfl
theorem cells110_8 : Tryd.prog.cellsOf 113 = 1 := by kernel_rfl
theorem cells9_8 : Tryd.prog.cellsOf 9 = 1 := by kernel_rfl
theorem star8 : "*" ++ "errors.errorString" = "*errors.errorString" := by decide
theorem row108_8 (u : TypeId) (h : Tryd.prog.typeName? 3 u = some "*errors.errorString") : u = 111 :=
  typeName_ptr_named (nm := "errors.errorString") (by rw [star8]; kernel_rfl) (by kernel_rfl) (by decide) u (by rw [star8]; exact h)
theorem lw_of {W : World} (h : laidMet Tryd.prog Rows.turnBackRow.laid W) (hsh : W.ShapedOpen Tryd.prog) : LW W := by
  have h2 : laidMet Tryd.prog (("internal/strconv.uint64pow10", Lib.tabData .u64 Lib.pow10Tab) :: Rows.turnBackRow.laid.drop 3) W := h.tail.tail
  have h4 := h.tail.tail.tail
  obtain ⟨a0, s0, hv0, -, -, -⟩ := laid_sentinel h4 gER8 gER8Type Tryd.underlying73 row108_8 Tryd.underlying111 Tryd.underlying113 rfl rfl Tryd.underlying9 cells110_8 cells9_8
  obtain ⟨a1, s1, hv1, -, -, -⟩ := laid_sentinel h4.tail gES8 gES8Type Tryd.underlying73 row108_8 Tryd.underlying111 Tryd.underlying113 rfl rfl Tryd.underlying9 cells110_8 cells9_8
  have c1 : W.cell? ⟨5, 0, none⟩ = some (.iface 111 (.pointer (some a1))) := by
    have h0 := World.var?_cell gES8 hv1 0
    simpa using h0
  have c2 : W.cell? ⟨6, 0, none⟩ = some (.iface 111 (.pointer (some a0))) := by
    have h0 := World.var?_cell gER8 hv0 0
    simpa using h0
  exact ⟨Lib.tabIs_of_head gTab8 gTab8Type Tryd.underlying95 Tryd.underlying49 cells82_8 cells99_8 h2, Tryd.laysM145.s1_3 W hsh, ⟨_, _, c1⟩, ⟨_, _, c2⟩⟩
/-- a world that holds what is listed -/
theorem laid_met8 (os : Os) (args : Array Value) : laidMet Tryd.prog Rows.turnBackRow.laid ((World.laidAll Tryd.prog os Rows.turnBackRow.laid).forCall (fun _ _ => 0) ⟨#[], args, []⟩).memory := laidMet_laidAll _ (by kernel_rfl) (by kernel_rfl)
theorem laid_shaped8 (os : Os) (args : Array Value) : ((World.laidAll Tryd.prog os Rows.turnBackRow.laid).forCall (fun _ _ => 0) ⟨#[], args, []⟩).Shaped Tryd.prog := World.shaped_of_ZipB (by kernel_rfl) (by kernel_rfl)
end Go.Proofs.YtcddhfidbhcgdaaDoor
