import Derived.Test.YtidccoahjpjoaaaGreatDoorShelf
import Derived.Lib.AppendIntMem
import Derived.WalkSmall
import Derived.FnData
/- What the package-level variables of the library hold that are read, as long as nothing writes them. -/
namespace Go.Proofs.YtidccoahjpjoaaaGreatDoor
open Go Go.RowKit Go.Proofs
/-- the table of the library that is read -/
structure LW (w : World) : Prop where
  tab : Lib.TabIs Tryz.prog w "internal/strconv.uint64pow10" .u64 Lib.pow10Tab
theorem LW.below {w w' : World} (h : LW w) (hb : Below w.heap.size w w') : LW w' := by
  obtain ⟨ht⟩ := h
  refine ⟨?_⟩
  obtain ⟨g, hg, h2⟩ := Option.bind_eq_some_iff.mp ht
  have hlt : g < w.heap.size := by
    have hc := World.var?_cell (P := Tryz.prog) hg ht 0
    exact World.block_lt_of_cell? w ⟨g, 0, none⟩ (hc.trans rfl)
  exact var?_below hb hg hlt ht
theorem below_grow_ (w : World) (k : Nat) (os : Array Obj) : Below w.heap.size w (Sort.grow (w.drewN k) os) := Lib.below_grow w.heap.size w (Nat.le_refl _) k os
end Go.Proofs.YtidccoahjpjoaaaGreatDoor
