import Derived.Test.YtlaiginblmckoaaDoorRows
import Derived.Test.YtlaiginblmckoaaDoorGLaid9
import Derived.WalkKit
import Derived.ProofKit
import Derived.Lib.LaidTab
import Derived.Stop.LaidErr
import Derived.Shelf.Vars
import Derived.MakeChecks
import Derived.Lay
import Derived.LaidLaws
/- What the rows' lists of variables give: the library's tables and errors that the clock reads. -/
set_option linter.unusedVariables false
namespace Go.Proofs.YtlaiginblmckoaaDoor
open Go Go.RowKit Go.Proofs
theorem gTab9 : Tryd.prog.globalNamed "internal/strconv.uint64pow10" = some 5 := by kernel_rfl
theorem gTab9Type : (Tryd.prog.globals[5]?).map (·.type) = some 106 := by kernel_rfl
theorem gES9 : Tryd.prog.globalNamed "strconv.ErrSyntax" = some 1 := by kernel_rfl
theorem gES9Type : (Tryd.prog.globals[1]?).map (·.type) = some 55 := by kernel_rfl
theorem gER9 : Tryd.prog.globalNamed "strconv.ErrRange" = some 2 := by kernel_rfl
theorem gER9Type : (Tryd.prog.globals[2]?).map (·.type) = some 55 := by kernel_rfl
theorem cells99_9 : Tryd.prog.cellsOf 106 = 20 := by kernel_rfl
theorem cells82_9 : Tryd.prog.cellsOf 79 = 1 := by kernel_rfl
theorem cells110_9 : Tryd.prog.cellsOf 95 = 1 := by kernel_rfl
theorem cells9_9 : Tryd.prog.cellsOf 9 = 1 := by kernel_rfl
theorem star9 : "*" ++ "errors.errorString" = "*errors.errorString" := by decide
theorem row108_9 (u : TypeId) (h : Tryd.prog.typeName? 3 u = some "*errors.errorString") : u = 93 :=
  typeName_ptr_named (nm := "errors.errorString") (by rw [star9]; kernel_rfl) (by kernel_rfl) (by decide) u (by rw [star9]; exact h)
theorem lw_of {W : World} (h : laidMet Tryd.prog Rows.clockSpansRow.laid W) (hsh : W.ShapedOpen Tryd.prog) : LW W := by
  have h2 : laidMet Tryd.prog (("internal/strconv.uint64pow10", Lib.tabData .u64 Lib.pow10Tab) :: Rows.clockSpansRow.laid.drop 3) W := h.tail.tail
  have h4 := h.tail.tail.tail.tail
  obtain ⟨a0, s0, hv0, -, -, -⟩ := laid_sentinel h4 gER9 gER9Type Tryd.underlying55 row108_9 Tryd.underlying93 Tryd.underlying95 rfl rfl Tryd.underlying9 cells110_9 cells9_9
  obtain ⟨a1, s1, hv1, -, -, -⟩ := laid_sentinel h4.tail gES9 gES9Type Tryd.underlying55 row108_9 Tryd.underlying93 Tryd.underlying95 rfl rfl Tryd.underlying9 cells110_9 cells9_9
  have c1 : W.cell? ⟨1, 0, none⟩ = some (.iface 93 (.pointer (some a1))) := by
    have h0 := World.var?_cell gES9 hv1 0
    simpa using h0
  have c2 : W.cell? ⟨2, 0, none⟩ = some (.iface 93 (.pointer (some a0))) := by
    have h0 := World.var?_cell gER9 hv0 0
    simpa using h0
  exact ⟨Lib.tabIs_of_head gTab9 gTab9Type Tryd.underlying106 Tryd.underlying79 cells82_9 cells99_9 h2, Tryd.laysM145.s1_3 W hsh, ⟨_, _, c1⟩, ⟨_, _, c2⟩⟩
/-- a world that holds what is listed -/
theorem laid_met9 (os : Os) (args : Array Value) : laidMet Tryd.prog Rows.clockSpansRow.laid ((World.laidAll Tryd.prog os Rows.clockSpansRow.laid).forCall (fun _ _ => 0) ⟨#[], args, []⟩).memory := laidMet_laidAll _ (by kernel_rfl) (by kernel_rfl)
theorem laid_shaped9 (os : Os) (args : Array Value) : ((World.laidAll Tryd.prog os Rows.clockSpansRow.laid).forCall (fun _ _ => 0) ⟨#[], args, []⟩).Shaped Tryd.prog := World.shaped_of_ZipB (by kernel_rfl) (by kernel_rfl)
end Go.Proofs.YtlaiginblmckoaaDoor
