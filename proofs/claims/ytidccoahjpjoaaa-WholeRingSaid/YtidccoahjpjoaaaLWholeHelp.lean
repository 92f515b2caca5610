/- The law's helpers over numbers in their one form: sums, products, are two the same? -/
import Derived.Test.YtidccoahjpjoaaaLWholeLives
set_option linter.unusedVariables false
set_option linter.unusedSimpArgs false
namespace Go.Proofs.Ytidccoahjpjoaaa
open Go Go.RowKit Q

set_option maxHeartbeats 1000000 in
theorem ladd_calls (v u : Int) (A A' : Option Addr) (c c' : Nat) (w : World) (h : In w A c (cw v)) (h' : In w A' c' (cw u)) (hv : Sh v) (hu : Sh u) (hr : Sh (v + u)) :
    Calls Try.prog 19 #[.agg #[.bool (cn v), .slice A (cw v).length c], .agg #[.bool (cn u), .slice A' (cw u).length c']] w fun e w' => ∃ B d, e = .returned (.tuple #[.agg #[.bool (cn (v + u)), .slice B (cw (v + u)).length d], .bool true]) ∧ Ow w' 58 w.heap.size (.slice B (cw (v + u)).length d) (cw (v + u)) ∧ Below w.heap.size w w' := by
  have H := Q.hid h
  have H' := Q.hid h'
  have HC : Hid (addW (cn v) (cw v) (cn u) (cw u) = ⟨cn (v + u), cw (v + u), 0⟩) := addW_can hv hu hr
  clear h h' hv hu hr
  obtain ⟨W, hW⟩ : ∃ W, W = (((w.alloc (.cells #[.bool (cn v), .slice A (cw v).length c] 24)).alloc (.cells #[.bool (cn u), .slice A' (cw u).length c'] 24)).alloc (.cells #[.bool false, .slice none 0 0] 24)) := ⟨_, rfl⟩
  have B1 : Hid (Bx W w.heap.size (cn v) (.slice A (cw v).length c)) := by rw [hW]; exact ((Bx.new w (cn v) (.slice A (cw v).length c)).alloc _).alloc _
  have B2 : Hid (Bx W (w.heap.size + 1) (cn u) (.slice A' (cw u).length c')) := by
    have := (Bx.new (w.alloc (.cells #[.bool (cn v), .slice A (cw v).length c] 24)) (cn u) (.slice A' (cw u).length c')).alloc (.cells #[.bool false, .slice none 0 0] 24)
    simp only [World.size_alloc] at this
    rw [hW]; exact this
  have B3 : Hid (Bx W (w.heap.size + 1 + 1) false (.slice none 0 0)) := by
    have := Bx.new ((w.alloc (.cells #[.bool (cn v), .slice A (cw v).length c] 24)).alloc (.cells #[.bool (cn u), .slice A' (cw u).length c'] 24)) false (.slice none 0 0)
    simp only [World.size_alloc] at this
    rw [hW]; exact this
  have HB : Hid (Below w.heap.size w W) := by rw [hW]; exact below_alloc3 w _ _ _
  have hg3 : w.heap.size + 1 + 1 < W.heap.size := B3.out.lt
  have HX : Hid (In W A c (cw v)) := H.out.below HB.out
  have HX' : Hid (In W A' c' (cw u)) := H'.out.below HB.out
  have k10 := B1.out.c0
  have k11 := B1.out.c1
  have k20 := B2.out.c0
  have k21 := B2.out.c1
  go_enter Try.func19, Try.ntmps19
  go_wp2_with fail
  rw [← hW]
  clear hW
  refine (wAdd_calls (cn v) (cn u) A A' c c' (cw v) (cw u) _ HX.out HX'.out).mono ?_
  rintro e w2 ⟨A2, c2, rfl, ho, hb⟩
  rw [HC.out] at ho ⊢
  have B3 := Q.hid ((B3.out.below hb).alloc (.cells #[.bool (cn (v + u)), .slice A2 (cw (v + u)).length c2] 24))
  have HB := Q.hid ((bs2 HB.out hb).alloc (bs2 HB.out hb).size (.cells #[.bool (cn (v + u)), .slice A2 (cw (v + u)).length c2] 24))
  have HO := Q.hid (ho.alloc (.cells #[.bool (cn (v + u)), .slice A2 (cw (v + u)).length c2] 24))
  clear ho hb k10 k11 k20 k21
  have k30 := B3.out.c0
  have k31 := B3.out.c1
  have f30 := B3.out.f0
  have f31 := B3.out.f1
  go_wp2
  refine bodyPost_ret (by rw [results_cell_tmp rfl]; go_simp; rfl) rfl ?_
  exact ⟨A2, c2, rfl, far2 HO.out hg3 (by have := HB.out.size; omega) _ _, below_set2 HB.out (by omega) _ _⟩

set_option maxHeartbeats 1000000 in
theorem lmul_calls (v u : Int) (A A' : Option Addr) (c c' : Nat) (w : World) (h : In w A c (cw v)) (h' : In w A' c' (cw u)) (hv : Sh v) (hu : Sh u) (hr : Sh (v * u)) :
    Calls Try.prog 22 #[.agg #[.bool (cn v), .slice A (cw v).length c], .agg #[.bool (cn u), .slice A' (cw u).length c']] w fun e w' => ∃ B d, e = .returned (.tuple #[.agg #[.bool (cn (v * u)), .slice B (cw (v * u)).length d], .bool true]) ∧ Ow w' 58 w.heap.size (.slice B (cw (v * u)).length d) (cw (v * u)) ∧ Below w.heap.size w w' := by
  have H := Q.hid h
  have H' := Q.hid h'
  have HC : Hid (mulW (cn v) (cw v) (cn u) (cw u) = ⟨cn (v * u), cw (v * u), 0⟩) := mulW_can hv hu hr
  clear h h' hv hu hr
  obtain ⟨W, hW⟩ : ∃ W, W = (((w.alloc (.cells #[.bool (cn v), .slice A (cw v).length c] 24)).alloc (.cells #[.bool (cn u), .slice A' (cw u).length c'] 24)).alloc (.cells #[.bool false, .slice none 0 0] 24)) := ⟨_, rfl⟩
  have B1 : Hid (Bx W w.heap.size (cn v) (.slice A (cw v).length c)) := by rw [hW]; exact ((Bx.new w (cn v) (.slice A (cw v).length c)).alloc _).alloc _
  have B2 : Hid (Bx W (w.heap.size + 1) (cn u) (.slice A' (cw u).length c')) := by
    have := (Bx.new (w.alloc (.cells #[.bool (cn v), .slice A (cw v).length c] 24)) (cn u) (.slice A' (cw u).length c')).alloc (.cells #[.bool false, .slice none 0 0] 24)
    simp only [World.size_alloc] at this
    rw [hW]; exact this
  have B3 : Hid (Bx W (w.heap.size + 1 + 1) false (.slice none 0 0)) := by
    have := Bx.new ((w.alloc (.cells #[.bool (cn v), .slice A (cw v).length c] 24)).alloc (.cells #[.bool (cn u), .slice A' (cw u).length c'] 24)) false (.slice none 0 0)
    simp only [World.size_alloc] at this
    rw [hW]; exact this
  have HB : Hid (Below w.heap.size w W) := by rw [hW]; exact below_alloc3 w _ _ _
  have hg3 : w.heap.size + 1 + 1 < W.heap.size := B3.out.lt
  have HX : Hid (In W A c (cw v)) := H.out.below HB.out
  have HX' : Hid (In W A' c' (cw u)) := H'.out.below HB.out
  have k10 := B1.out.c0
  have k11 := B1.out.c1
  have k20 := B2.out.c0
  have k21 := B2.out.c1
  go_enter Try.func22, Try.ntmps22
  go_wp2_with fail
  rw [← hW]
  clear hW
  refine (wMul_calls (cn v) (cn u) A A' c c' (cw v) (cw u) _ HX.out HX'.out).mono ?_
  rintro e w2 ⟨A2, c2, rfl, ho, hb⟩
  rw [HC.out] at ho ⊢
  have B3 := Q.hid ((B3.out.below hb).alloc (.cells #[.bool (cn (v * u)), .slice A2 (cw (v * u)).length c2] 24))
  have HB := Q.hid ((bs2 HB.out hb).alloc (bs2 HB.out hb).size (.cells #[.bool (cn (v * u)), .slice A2 (cw (v * u)).length c2] 24))
  have HO := Q.hid (ho.alloc (.cells #[.bool (cn (v * u)), .slice A2 (cw (v * u)).length c2] 24))
  clear ho hb k10 k11 k20 k21
  have k30 := B3.out.c0
  have k31 := B3.out.c1
  have f30 := B3.out.f0
  have f31 := B3.out.f1
  go_wp2
  refine bodyPost_ret (by rw [results_cell_tmp rfl]; go_simp; rfl) rfl ?_
  exact ⟨A2, c2, rfl, far2 HO.out hg3 (by have := HB.out.size; omega) _ _, below_set2 HB.out (by omega) _ _⟩

set_option maxHeartbeats 1000000 in
theorem same_calls (v : Int) (A A' : Option Addr) (c c' : Nat) (w : World) (h : In w A c (cw v)) (h' : In w A' c' (cw v)) (hv : Sh v) :
    Calls Try.prog 20 #[.agg #[.bool (cn v), .slice A (cw v).length c], .agg #[.bool (cn v), .slice A' (cw v).length c']] w fun e w' => e = .returned (.bool true) ∧ Below w.heap.size w w' := by
  have H := Q.hid h
  have H' := Q.hid h'
  have HC : Hid (cmpW (cn v) (cw v) (cn v) (cw v) = 0) := (cmpW_can hv hv).trans (cmp_eq rfl)
  have HE : Hid (chkW2 (cn v) (cw v) (cn v) (cw v) = 0) := chkW2_can hv hv
  have hm : (cw v).length ≤ 9223372036854775807 := by have := h.small; omega
  clear h h' hv
  obtain ⟨W, hW⟩ : ∃ W, W = ((w.alloc (.cells #[.bool (cn v), .slice A (cw v).length c] 24)).alloc (.cells #[.bool (cn v), .slice A' (cw v).length c'] 24)) := ⟨_, rfl⟩
  have B1 : Hid (Bx W w.heap.size (cn v) (.slice A (cw v).length c)) := by rw [hW]; exact (Bx.new w (cn v) (.slice A (cw v).length c)).alloc _
  have B2 : Hid (Bx W (w.heap.size + 1) (cn v) (.slice A' (cw v).length c')) := by
    have := Bx.new (w.alloc (.cells #[.bool (cn v), .slice A (cw v).length c] 24)) (cn v) (.slice A' (cw v).length c')
    simp only [World.size_alloc] at this
    rw [hW]; exact this
  have HB : Hid (Below w.heap.size w W) := by rw [hW]; exact below_alloc2 w _ _
  have k10 := B1.out.c0
  have k11 := B1.out.c1
  have k20 := B2.out.c0
  have k21 := B2.out.c1
  go_enter Try.func20, Try.ntmps20
  go_wp2_with fail
  rw [← hW]
  clear hW
  refine (wCompare_calls (cn v) (cn v) A A' c c' (cw v) (cw v) _ (H.out.below HB.out) (H'.out.below HB.out)).mono ?_
  rintro e w1 ⟨rfl, hb⟩
  rw [HC.out, HE.out]
  have B1 := Q.hid (B1.out.below hb)
  have B2 := Q.hid (B2.out.below hb)
  have HB := Q.hid (bs2 HB.out hb)
  clear hb k10 k11 k20 k21
  have k10 := B1.out.c0
  have k11 := B1.out.c1
  have k20 := B2.out.c0
  have k21 := B2.out.c1
  go_wp2_with fail
  refine (SameWhole_eq (cn v) A A' c c' (cw v) _ (H.out.below HB.out).rd (H'.out.below HB.out).rd hm).mono ?_
  rintro e w2 ⟨rfl, hb⟩
  have HB := Q.hid (bs2 HB.out hb)
  clear hb
  go_wp2
  go_ret
  exact ⟨rfl, HB.out⟩
end Go.Proofs.Ytidccoahjpjoaaa
