import Derived.Test.YtlaiginblmckoaaDoorGBox
import Derived.Test.YtlaiginblmckoaaDoorGShelf
import Derived.Lib.AppendIntMem
import Derived.WalkSmall
import Derived.FnData
/- What the clock's package-level variables hold, as long as nothing writes them. -/
namespace Go.Proofs.YtlaiginblmckoaaDoor
open Go Go.RowKit Go.Proofs
/-- the tables and errors of the library that are read -/
structure LW (w : World) : Prop where
  tab : Lib.TabIs Tryd.prog w "internal/strconv.uint64pow10" .u64 Lib.pow10Tab
  max : ∃ m : Int, w.cell? ⟨0, 0, none⟩ = some (.int .i64 m)
  syn : ∃ tp p, w.cell? ⟨1, 0, none⟩ = some (.iface tp p)
  rng : ∃ tp p, w.cell? ⟨2, 0, none⟩ = some (.iface tp p)
theorem LW.below {w w' : World} (h : LW w) (hb : Below w.heap.size w w') : LW w' := by
  obtain ⟨ht, ⟨m, hm⟩, ⟨t1, p1, h1⟩, ⟨t2, p2, h2⟩⟩ := h
  refine ⟨?_, ⟨m, ?_⟩, ⟨t1, p1, ?_⟩, ⟨t2, p2, ?_⟩⟩
  · obtain ⟨g, hg, h2⟩ := Option.bind_eq_some_iff.mp ht
    have hlt : g < w.heap.size := by
      have hc := World.var?_cell (P := Tryd.prog) hg ht 0
      exact World.block_lt_of_cell? w ⟨g, 0, none⟩ (hc.trans rfl)
    exact var?_below hb hg hlt ht
  · exact (hb.cell (World.block_lt_of_cell? w _ hm)).trans hm
  · exact (hb.cell (World.block_lt_of_cell? w _ h1)).trans h1
  · exact (hb.cell (World.block_lt_of_cell? w _ h2)).trans h2
theorem below_grow_ (w : World) (k : Nat) (os : Array Obj) : Below w.heap.size w (Sort.grow (w.drewN k) os) := Lib.below_grow w.heap.size w (Nat.le_refl _) k os
end Go.Proofs.YtlaiginblmckoaaDoor
