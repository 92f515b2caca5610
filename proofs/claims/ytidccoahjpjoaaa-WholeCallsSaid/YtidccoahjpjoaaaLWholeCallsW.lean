/- The walk of WholeCalls. -/
import Derived.Test.YtidccoahjpjoaaaLWholeLives
import Derived.Test.YtidccoahjpjoaaaQWhl9
import Derived.Test.YtidccoahjpjoaaaRWhl7
import Derived.Deep.CutRange
set_option linter.unusedVariables false
set_option linter.unusedSimpArgs false
namespace Go.Proofs.Ytidccoahjpjoaaa
open Go Go.RowKit Q

theorem lent_take2 (xs : List Int) : (lent xs).take xs.length = xs := by unfold lent; exact List.take_left
theorem large_small {n : Nat} (h : largeB n = false) : n ≤ 40 ∨ 2048 < n := by
  unfold largeB at h
  simp at h
  omega

set_option maxHeartbeats 8000000 in
set_option maxRecDepth 100000 in
theorem WholeCalls_walk (n : Bool) (A : Option Addr) (c : Nat) (xs : List Int) (m : Bool) (A' : Option Addr) (c' : Nat) (ys : List Int) (w : World) (h : In w A c xs) (h' : In w A' c' ys) :
    Calls Try.prog 6 #[.agg #[.bool n, .slice A xs.length c], .agg #[.bool m, .slice A' ys.length c']] w fun e w' => e = .returned (.bool true) ∧ Below w.heap.size w w' := by
  have H := Q.hid h
  have H' := Q.hid h'
  have hm : xs.length * 4 ≤ 140737488351232 := h.small
  have hm' : ys.length * 4 ≤ 140737488351232 := h'.small
  have hwx := Q.hid h.wds
  have hwy := Q.hid h'.wds
  clear h h'
  have B1 := Q.hid ((Bx.new w n (.slice A xs.length c)).alloc (.cells #[.bool m, .slice A' ys.length c'] 24))
  have B2 : Hid (Bx ((w.alloc (.cells #[.bool n, .slice A xs.length c] 24)).alloc (.cells #[.bool m, .slice A' ys.length c'] 24)) (w.heap.size + 1) m (.slice A' ys.length c')) := by
    have := Bx.new (w.alloc (.cells #[.bool n, .slice A xs.length c] 24)) m (.slice A' ys.length c')
    rw [World.size_alloc] at this
    exact this
  have HB := Q.hid (below_alloc2 w (.cells #[.bool n, .slice A xs.length c] 24) (.cells #[.bool m, .slice A' ys.length c'] 24))
  go_enter Try.func6, Try.ntmps6
  go_wp2_with fail
  refine (lives_calls _).mono ?_
  rintro e w1 ⟨rfl, hb⟩
  have B1 := Q.hid (B1.out.below hb)
  have B2 := Q.hid (B2.out.below hb)
  have HB := Q.hid (bs2 HB.out hb)
  clear hb
  have k10 := B1.out.c0
  have k11 := B1.out.c1
  go_wp2_with fail
  refine (large_calls n A c xs _ (by omega)).mono ?_
  rintro e w2 ⟨rfl, hb⟩
  have B1 := Q.hid (B1.out.below hb)
  have B2 := Q.hid (B2.out.below hb)
  have HB := Q.hid (bs2 HB.out hb)
  clear hb k10 k11
  cases hlx : largeB xs.length with
  | true =>
    clear hlx
    go_wp2
    go_ret
    exact ⟨rfl, HB.out⟩
  | false =>
    have k20 := B2.out.c0
    have k21 := B2.out.c1
    have hx := large_small hlx
    clear hlx
    go_wp2_with fail
    refine (large_calls m A' c' ys _ (by omega)).mono ?_
    rintro e w3 ⟨rfl, hb⟩
    have B1 := Q.hid (B1.out.below hb)
    have B2 := Q.hid (B2.out.below hb)
    have HB := Q.hid (bs2 HB.out hb)
    clear hb k20 k21
    cases hly : largeB ys.length with
    | true =>
      clear hly
      go_wp2
      go_ret
      exact ⟨rfl, HB.out⟩
    | false =>
      have hy := large_small hly
      clear hly
      have k10 := B1.out.c0
      have k11 := B1.out.c1
      have k20 := B2.out.c0
      have k21 := B2.out.c1
      have ii := H.out.below HB.out
      have i00 : In w3.drew A c xs := ⟨ii.rd, ii.cap, ii.small, ii.wds⟩
      have i01 : In (w3.alloc (.cells #[.bool false, .slice none 0 0] 24)).drew A c xs := ⟨(ii.alloc (.cells #[.bool false, .slice none 0 0] 24)).rd, ii.cap, ii.small, ii.wds⟩
      have i02 : In ((w3.alloc (.cells #[.bool false, .slice none 0 0] 24)).alloc (.cells #[.bool false, .slice none 0 0] 24)).drew A c xs := ⟨((ii.alloc (.cells #[.bool false, .slice none 0 0] 24)).alloc (.cells #[.bool false, .slice none 0 0] 24)).rd, ii.cap, ii.small, ii.wds⟩
      clear ii
      have hw3 : w.heap.size + 1 < w3.heap.size := B2.out.lt
      go_upto_region 5 with fail
      have d10 : w3.drew.cell? ⟨w.heap.size, 0, none⟩ = some (.bool n) := k10
      have e10 : (w3.alloc (.cells #[.bool false, .slice none 0 0] 24)).drew.cell? ⟨w.heap.size, 0, none⟩ = some (.bool n) := alloc_cell k10
      have f10 : ((w3.alloc (.cells #[.bool false, .slice none 0 0] 24)).alloc (.cells #[.bool false, .slice none 0 0] 24)).drew.cell? ⟨w.heap.size, 0, none⟩ = some (.bool n) := alloc_cell (alloc_cell k10)
      have d11 : w3.drew.cell? ⟨w.heap.size, 1, none⟩ = some (.slice A xs.length c) := k11
      have e11 : (w3.alloc (.cells #[.bool false, .slice none 0 0] 24)).drew.cell? ⟨w.heap.size, 1, none⟩ = some (.slice A xs.length c) := alloc_cell k11
      have f11 : ((w3.alloc (.cells #[.bool false, .slice none 0 0] 24)).alloc (.cells #[.bool false, .slice none 0 0] 24)).drew.cell? ⟨w.heap.size, 1, none⟩ = some (.slice A xs.length c) := alloc_cell (alloc_cell k11)
      have d20 : w3.drew.cell? ⟨w.heap.size + 1, 0, none⟩ = some (.bool m) := k20
      have e20 : (w3.alloc (.cells #[.bool false, .slice none 0 0] 24)).drew.cell? ⟨w.heap.size + 1, 0, none⟩ = some (.bool m) := alloc_cell k20
      have f20 : ((w3.alloc (.cells #[.bool false, .slice none 0 0] 24)).alloc (.cells #[.bool false, .slice none 0 0] 24)).drew.cell? ⟨w.heap.size + 1, 0, none⟩ = some (.bool m) := alloc_cell (alloc_cell k20)
      have d21 : w3.drew.cell? ⟨w.heap.size + 1, 1, none⟩ = some (.slice A' ys.length c') := k21
      have e21 : (w3.alloc (.cells #[.bool false, .slice none 0 0] 24)).drew.cell? ⟨w.heap.size + 1, 1, none⟩ = some (.slice A' ys.length c') := alloc_cell k21
      have f21 : ((w3.alloc (.cells #[.bool false, .slice none 0 0] 24)).alloc (.cells #[.bool false, .slice none 0 0] 24)).drew.cell? ⟨w.heap.size + 1, 1, none⟩ = some (.slice A' ys.length c') := alloc_cell (alloc_cell k21)
      go_cut [5, 6] from 60 to 63 (fun v5 v6 wx => ∃ (g5 g6 : Nat) (A1 : Option Addr) (c1 : Nat) (A2 : Option Addr) (c2 : Nat), v5 = .pointer (some ⟨g5, 0, none⟩) ∧ v6 = .pointer (some ⟨g6, 0, none⟩) ∧ Hid ((lent xs).length ≤ c1 ∧ c1 ≤ maxLen) ∧ Hid ((lent ys).length ≤ c2 ∧ c2 ≤ maxLen) ∧ Hid (Sg w wx [⟨w.heap.size, n, A, c, xs⟩, ⟨w.heap.size + 1, m, A', c', ys⟩, ⟨g5, n, A1, c1, xs⟩, ⟨g6, m, A2, c2, ys⟩] [(A1, lent xs), (A2, lent ys)] [(.slice A1 xs.length c1, xs), (.slice A2 ys.length c2, ys)]))
      case first =>
        go_region_held3 (fun w' => w'.cell? ⟨w.heap.size, 0, none⟩ = some (.bool n) ∧ w'.cell? ⟨w.heap.size, 1, none⟩ = some (.slice A xs.length c) ∧ w'.cell? ⟨w.heap.size + 1, 0, none⟩ = some (.bool m) ∧ w'.cell? ⟨w.heap.size + 1, 1, none⟩ = some (.slice A' ys.length c')) (first | (with_reducible exact ⟨k10, k11, k20, k21⟩) | (with_reducible exact ⟨d10, d11, d20, d21⟩) | (with_reducible exact ⟨e10, e11, e20, e21⟩) | (with_reducible exact ⟨f10, f11, f20, f21⟩) | (with_reducible exact ⟨(alloc_cell k10), (alloc_cell k11), (alloc_cell k20), (alloc_cell k21)⟩) | (with_reducible exact ⟨(alloc_cell (alloc_cell k10)), (alloc_cell (alloc_cell k11)), (alloc_cell (alloc_cell k20)), (alloc_cell (alloc_cell k21))⟩) | (with_reducible exact ⟨(set2_cell (by omega) k10), (set2_cell (by omega) k11), (set2_cell (by omega) k20), (set2_cell (by omega) k21)⟩) | (with_reducible exact ⟨(set2_cell (by omega) (alloc_cell k10)), (set2_cell (by omega) (alloc_cell k11)), (set2_cell (by omega) (alloc_cell k20)), (set2_cell (by omega) (alloc_cell k21))⟩) | (with_reducible exact ⟨(set2_cell (by omega) (alloc_cell (alloc_cell k10))), (set2_cell (by omega) (alloc_cell (alloc_cell k11))), (set2_cell (by omega) (alloc_cell (alloc_cell k20))), (set2_cell (by omega) (alloc_cell (alloc_cell k21)))⟩) | (with_reducible exact ⟨(set2_cell (by omega) (set2_cell (by omega) k10)), (set2_cell (by omega) (set2_cell (by omega) k11)), (set2_cell (by omega) (set2_cell (by omega) k20)), (set2_cell (by omega) (set2_cell (by omega) k21))⟩) | (with_reducible exact ⟨(set2_cell (by omega) (set2_cell (by omega) (alloc_cell k10))), (set2_cell (by omega) (set2_cell (by omega) (alloc_cell k11))), (set2_cell (by omega) (set2_cell (by omega) (alloc_cell k20))), (set2_cell (by omega) (set2_cell (by omega) (alloc_cell k21)))⟩) | (with_reducible exact ⟨(set2_cell (by omega) (set2_cell (by omega) (alloc_cell (alloc_cell k10)))), (set2_cell (by omega) (set2_cell (by omega) (alloc_cell (alloc_cell k11)))), (set2_cell (by omega) (set2_cell (by omega) (alloc_cell (alloc_cell k20)))), (set2_cell (by omega) (set2_cell (by omega) (alloc_cell (alloc_cell k21))))⟩)) (first
          | (go_at_call_of 12 xs
             refine (LentWhole_calls n A c xs _ ?_).mono ?_
             (first | (with_reducible exact i00) | (with_reducible exact i01) | (with_reducible exact i02))
             rintro e w4 ⟨A1, c1, rfl, ho, hb⟩
             first
               | (have hb' : Below w3.drew.heap.size w3.drew w4 := by with_reducible exact hb
                  have hbb : Below w3.heap.size w3 w4 := ⟨hb'.os, hb'.tape, hb'.output, hb'.size, hb'.block⟩
                  have hr1 : ∀ k, (Value.slice A1 (lent xs).length c1).ownBlock = some k → w3.heap.size ≤ k ∧ k < w4.heap.size := fun k hk => ⟨(ho.base k hk).1, (ho.base k hk).2⟩
                  have hz1 : w3.heap.size ≤ w4.heap.size := hb'.size
                  have HO1 := Q.hid (ho.mono (B' := w3.heap.size) (Nat.le_refl _)))
               | (have hb' : Below (w3.alloc (.cells #[.bool false, .slice none 0 0] 24)).drew.heap.size (w3.alloc (.cells #[.bool false, .slice none 0 0] 24)).drew w4 := by with_reducible exact hb
                  have hq' : Below (w3.alloc (.cells #[.bool false, .slice none 0 0] 24)).drew.heap.size (w3.alloc (.cells #[.bool false, .slice none 0 0] 24)).drew w4 := hb'
                  have hbb : Below w3.heap.size w3 w4 := Below.trans ((below_alloc1 w3 (.cells #[.bool false, .slice none 0 0] 24)).drew : Below w3.heap.size w3 (w3.alloc (.cells #[.bool false, .slice none 0 0] 24)).drew) (Below.mono hq' (((below_alloc1 w3 (.cells #[.bool false, .slice none 0 0] 24)).drew : Below w3.heap.size w3 (w3.alloc (.cells #[.bool false, .slice none 0 0] 24)).drew).size))
                  have z11 : Hid (Bx w4 w3.heap.size false (.slice none 0 0)) := Bx.below (w := (w3.alloc (.cells #[.bool false, .slice none 0 0] 24)).drew) (Bx.new w3 false (.slice none 0 0)) hb'
                  have hs' : (w3.alloc (.cells #[.bool false, .slice none 0 0] 24)).heap.size = w3.heap.size + 1 := by rw [World.size_alloc]
                  have hr1 : ∀ k, (Value.slice A1 (lent xs).length c1).ownBlock = some k → w3.heap.size + 1 ≤ k ∧ k < w4.heap.size := fun k hk => ⟨hs' ▸ (show (w3.alloc (.cells #[.bool false, .slice none 0 0] 24)).heap.size ≤ k from (ho.base k hk).1), (ho.base k hk).2⟩
                  have hz1 : w3.heap.size + 1 ≤ w4.heap.size := hs' ▸ (show (w3.alloc (.cells #[.bool false, .slice none 0 0] 24)).heap.size ≤ w4.heap.size from hb'.size)
                  have HO1 := Q.hid (ho.mono (B' := w3.heap.size) (((below_alloc1 w3 (.cells #[.bool false, .slice none 0 0] 24)).drew : Below w3.heap.size w3 (w3.alloc (.cells #[.bool false, .slice none 0 0] 24)).drew).size)))
               | (have hb' : Below ((w3.alloc (.cells #[.bool false, .slice none 0 0] 24)).alloc (.cells #[.bool false, .slice none 0 0] 24)).drew.heap.size ((w3.alloc (.cells #[.bool false, .slice none 0 0] 24)).alloc (.cells #[.bool false, .slice none 0 0] 24)).drew w4 := by with_reducible exact hb
                  have hq' : Below ((w3.alloc (.cells #[.bool false, .slice none 0 0] 24)).alloc (.cells #[.bool false, .slice none 0 0] 24)).drew.heap.size ((w3.alloc (.cells #[.bool false, .slice none 0 0] 24)).alloc (.cells #[.bool false, .slice none 0 0] 24)).drew w4 := hb'
                  have hbb : Below w3.heap.size w3 w4 := Below.trans ((below_alloc2 w3 (.cells #[.bool false, .slice none 0 0] 24) (.cells #[.bool false, .slice none 0 0] 24)).drew : Below w3.heap.size w3 ((w3.alloc (.cells #[.bool false, .slice none 0 0] 24)).alloc (.cells #[.bool false, .slice none 0 0] 24)).drew) (Below.mono hq' (((below_alloc2 w3 (.cells #[.bool false, .slice none 0 0] 24) (.cells #[.bool false, .slice none 0 0] 24)).drew : Below w3.heap.size w3 ((w3.alloc (.cells #[.bool false, .slice none 0 0] 24)).alloc (.cells #[.bool false, .slice none 0 0] 24)).drew).size))
                  have z11 : Hid (Bx w4 w3.heap.size false (.slice none 0 0)) := Bx.below (w := ((w3.alloc (.cells #[.bool false, .slice none 0 0] 24)).alloc (.cells #[.bool false, .slice none 0 0] 24)).drew) ((Bx.new w3 false (.slice none 0 0)).alloc (.cells #[.bool false, .slice none 0 0] 24)) hb'
                  have z10 := Bx.new (w3.alloc (.cells #[.bool false, .slice none 0 0] 24)) false (.slice none 0 0)
                  rw [World.size_alloc] at z10
                  have z12 : Hid (Bx w4 (w3.heap.size + 1) false (.slice none 0 0)) := Bx.below (w := ((w3.alloc (.cells #[.bool false, .slice none 0 0] 24)).alloc (.cells #[.bool false, .slice none 0 0] 24)).drew) z10 hb'
                  clear z10
                  have hs' : ((w3.alloc (.cells #[.bool false, .slice none 0 0] 24)).alloc (.cells #[.bool false, .slice none 0 0] 24)).heap.size = w3.heap.size + 2 := by rw [World.size_alloc, World.size_alloc]
                  have hr1 : ∀ k, (Value.slice A1 (lent xs).length c1).ownBlock = some k → w3.heap.size + 2 ≤ k ∧ k < w4.heap.size := fun k hk => ⟨hs' ▸ (show ((w3.alloc (.cells #[.bool false, .slice none 0 0] 24)).alloc (.cells #[.bool false, .slice none 0 0] 24)).heap.size ≤ k from (ho.base k hk).1), (ho.base k hk).2⟩
                  have hz1 : w3.heap.size + 2 ≤ w4.heap.size := hs' ▸ (show ((w3.alloc (.cells #[.bool false, .slice none 0 0] 24)).alloc (.cells #[.bool false, .slice none 0 0] 24)).heap.size ≤ w4.heap.size from hb'.size)
                  have HO1 := Q.hid (ho.mono (B' := w3.heap.size) (((below_alloc2 w3 (.cells #[.bool false, .slice none 0 0] 24) (.cells #[.bool false, .slice none 0 0] 24)).drew : Below w3.heap.size w3 ((w3.alloc (.cells #[.bool false, .slice none 0 0] 24)).alloc (.cells #[.bool false, .slice none 0 0] 24)).drew).size)))
             have hq1 := Q.hid (⟨ho.read.2.1, ho.read.2.2.1⟩ : (lent xs).length ≤ c1 ∧ c1 ≤ maxLen)
             have B1' := Q.hid (B1.out.below hbb)
             have B2' := Q.hid (B2.out.below hbb)
             have HB' := Q.hid (bs2 HB.out hbb)
             have i10 := H'.out.below HB'.out
             have i11 := i10.alloc (.cells #[.bool false, .slice none 0 0] 24)
             have i12 := i11.alloc (.cells #[.bool false, .slice none 0 0] 24)
             clear ho hb k10 k11 k20 k21
             (try clear hq')
             (try clear hb')
             (try clear hs')
             have k10 := B1'.out.c0
             have k11 := B1'.out.c1
             have k20 := B2'.out.c0
             have k21 := B2'.out.c1
             clear hbb)
          | (go_at_call_of 12 ys
             refine (LentWhole_calls m A' c' ys _ ?_).mono ?_
             (first | (with_reducible exact i10) | (with_reducible exact i11) | (with_reducible exact i12))
             rintro e w5 ⟨A2, c2, rfl, ho, hb⟩
             first
               | (have hb' : Below w4.heap.size w4 w5 := by with_reducible exact hb
                  have hbb : Below w4.heap.size w4 w5 := ⟨hb'.os, hb'.tape, hb'.output, hb'.size, hb'.block⟩
                  have hr2 : ∀ k, (Value.slice A2 (lent ys).length c2).ownBlock = some k → w4.heap.size ≤ k ∧ k < w5.heap.size := fun k hk => ⟨(ho.base k hk).1, (ho.base k hk).2⟩
                  have hz2 : w4.heap.size ≤ w5.heap.size := hb'.size
                  have HO2 := Q.hid (ho.mono (B' := w4.heap.size) (Nat.le_refl _)))
               | (have hb' : Below (w4.alloc (.cells #[.bool false, .slice none 0 0] 24)).heap.size (w4.alloc (.cells #[.bool false, .slice none 0 0] 24)) w5 := by with_reducible exact hb
                  have hq' : Below (w4.alloc (.cells #[.bool false, .slice none 0 0] 24)).heap.size (w4.alloc (.cells #[.bool false, .slice none 0 0] 24)) w5 := hb'
                  have hbb : Below w4.heap.size w4 w5 := Below.trans ((below_alloc1 w4 (.cells #[.bool false, .slice none 0 0] 24)) : Below w4.heap.size w4 (w4.alloc (.cells #[.bool false, .slice none 0 0] 24))) (Below.mono hq' (((below_alloc1 w4 (.cells #[.bool false, .slice none 0 0] 24)) : Below w4.heap.size w4 (w4.alloc (.cells #[.bool false, .slice none 0 0] 24))).size))
                  have z21 : Hid (Bx w5 w4.heap.size false (.slice none 0 0)) := Bx.below (w := (w4.alloc (.cells #[.bool false, .slice none 0 0] 24))) (Bx.new w4 false (.slice none 0 0)) hb'
                  have hs' : (w4.alloc (.cells #[.bool false, .slice none 0 0] 24)).heap.size = w4.heap.size + 1 := by rw [World.size_alloc]
                  have hr2 : ∀ k, (Value.slice A2 (lent ys).length c2).ownBlock = some k → w4.heap.size + 1 ≤ k ∧ k < w5.heap.size := fun k hk => ⟨hs' ▸ (show (w4.alloc (.cells #[.bool false, .slice none 0 0] 24)).heap.size ≤ k from (ho.base k hk).1), (ho.base k hk).2⟩
                  have hz2 : w4.heap.size + 1 ≤ w5.heap.size := hs' ▸ (show (w4.alloc (.cells #[.bool false, .slice none 0 0] 24)).heap.size ≤ w5.heap.size from hb'.size)
                  have HO2 := Q.hid (ho.mono (B' := w4.heap.size) (((below_alloc1 w4 (.cells #[.bool false, .slice none 0 0] 24)) : Below w4.heap.size w4 (w4.alloc (.cells #[.bool false, .slice none 0 0] 24))).size)))
               | (have hb' : Below ((w4.alloc (.cells #[.bool false, .slice none 0 0] 24)).alloc (.cells #[.bool false, .slice none 0 0] 24)).heap.size ((w4.alloc (.cells #[.bool false, .slice none 0 0] 24)).alloc (.cells #[.bool false, .slice none 0 0] 24)) w5 := by with_reducible exact hb
                  have hq' : Below ((w4.alloc (.cells #[.bool false, .slice none 0 0] 24)).alloc (.cells #[.bool false, .slice none 0 0] 24)).heap.size ((w4.alloc (.cells #[.bool false, .slice none 0 0] 24)).alloc (.cells #[.bool false, .slice none 0 0] 24)) w5 := hb'
                  have hbb : Below w4.heap.size w4 w5 := Below.trans ((below_alloc2 w4 (.cells #[.bool false, .slice none 0 0] 24) (.cells #[.bool false, .slice none 0 0] 24)) : Below w4.heap.size w4 ((w4.alloc (.cells #[.bool false, .slice none 0 0] 24)).alloc (.cells #[.bool false, .slice none 0 0] 24))) (Below.mono hq' (((below_alloc2 w4 (.cells #[.bool false, .slice none 0 0] 24) (.cells #[.bool false, .slice none 0 0] 24)) : Below w4.heap.size w4 ((w4.alloc (.cells #[.bool false, .slice none 0 0] 24)).alloc (.cells #[.bool false, .slice none 0 0] 24))).size))
                  have z21 : Hid (Bx w5 w4.heap.size false (.slice none 0 0)) := Bx.below (w := ((w4.alloc (.cells #[.bool false, .slice none 0 0] 24)).alloc (.cells #[.bool false, .slice none 0 0] 24))) ((Bx.new w4 false (.slice none 0 0)).alloc (.cells #[.bool false, .slice none 0 0] 24)) hb'
                  have z20 := Bx.new (w4.alloc (.cells #[.bool false, .slice none 0 0] 24)) false (.slice none 0 0)
                  rw [World.size_alloc] at z20
                  have z22 : Hid (Bx w5 (w4.heap.size + 1) false (.slice none 0 0)) := Bx.below (w := ((w4.alloc (.cells #[.bool false, .slice none 0 0] 24)).alloc (.cells #[.bool false, .slice none 0 0] 24))) z20 hb'
                  clear z20
                  have hs' : ((w4.alloc (.cells #[.bool false, .slice none 0 0] 24)).alloc (.cells #[.bool false, .slice none 0 0] 24)).heap.size = w4.heap.size + 2 := by rw [World.size_alloc, World.size_alloc]
                  have hr2 : ∀ k, (Value.slice A2 (lent ys).length c2).ownBlock = some k → w4.heap.size + 2 ≤ k ∧ k < w5.heap.size := fun k hk => ⟨hs' ▸ (show ((w4.alloc (.cells #[.bool false, .slice none 0 0] 24)).alloc (.cells #[.bool false, .slice none 0 0] 24)).heap.size ≤ k from (ho.base k hk).1), (ho.base k hk).2⟩
                  have hz2 : w4.heap.size + 2 ≤ w5.heap.size := hs' ▸ (show ((w4.alloc (.cells #[.bool false, .slice none 0 0] 24)).alloc (.cells #[.bool false, .slice none 0 0] 24)).heap.size ≤ w5.heap.size from hb'.size)
                  have HO2 := Q.hid (ho.mono (B' := w4.heap.size) (((below_alloc2 w4 (.cells #[.bool false, .slice none 0 0] 24) (.cells #[.bool false, .slice none 0 0] 24)) : Below w4.heap.size w4 ((w4.alloc (.cells #[.bool false, .slice none 0 0] 24)).alloc (.cells #[.bool false, .slice none 0 0] 24))).size)))
             (try have z11 := Q.hid (z11.out.below hbb))
             (try have z12 := Q.hid (z12.out.below hbb))
             have hq2 := Q.hid (⟨ho.read.2.1, ho.read.2.2.1⟩ : (lent ys).length ≤ c2 ∧ c2 ≤ maxLen)
             have HO1' := Q.hid (HO1.out.below hbb)
             have B1'' := Q.hid (B1'.out.below hbb)
             have B2'' := Q.hid (B2'.out.below hbb)
             have HB'' := Q.hid (bs2 HB'.out hbb)
             clear ho hb k10 k11 k20 k21
             (try clear hq')
             (try clear hb')
             (try clear hs')
             have k10 := B1''.out.c0
             have k11 := B1''.out.c1
             have k20 := B2''.out.c0
             have k21 := B2''.out.c1
             clear hbb
             (try have qz110a := (z11.out).c0)
             (try have qz110b := (z11.out).c1)
             (try have qz110c := (z11.out).f0)
             (try have qz110d := (z11.out).f1)
             (try have qz111a := ((z11.out).alloc (.cells #[.bool false, .slice none 0 0] 24)).c0)
             (try have qz111b := ((z11.out).alloc (.cells #[.bool false, .slice none 0 0] 24)).c1)
             (try have qz111c := ((z11.out).alloc (.cells #[.bool false, .slice none 0 0] 24)).f0)
             (try have qz111d := ((z11.out).alloc (.cells #[.bool false, .slice none 0 0] 24)).f1)
             (try have qz120a := (z12.out).c0)
             (try have qz120b := (z12.out).c1)
             (try have qz120c := (z12.out).f0)
             (try have qz120d := (z12.out).f1)
             (try have qz121a := ((z12.out).alloc (.cells #[.bool false, .slice none 0 0] 24)).c0)
             (try have qz121b := ((z12.out).alloc (.cells #[.bool false, .slice none 0 0] 24)).c1)
             (try have qz121c := ((z12.out).alloc (.cells #[.bool false, .slice none 0 0] 24)).f0)
             (try have qz121d := ((z12.out).alloc (.cells #[.bool false, .slice none 0 0] 24)).f1)
             (try have qz210a := (z21.out).c0)
             (try have qz210b := (z21.out).c1)
             (try have qz210c := (z21.out).f0)
             (try have qz210d := (z21.out).f1)
             (try have qz211a := ((z21.out).alloc (.cells #[.bool false, .slice none 0 0] 24)).c0)
             (try have qz211b := ((z21.out).alloc (.cells #[.bool false, .slice none 0 0] 24)).c1)
             (try have qz211c := ((z21.out).alloc (.cells #[.bool false, .slice none 0 0] 24)).f0)
             (try have qz211d := ((z21.out).alloc (.cells #[.bool false, .slice none 0 0] 24)).f1)
             (try have qz220a := (z22.out).c0)
             (try have qz220b := (z22.out).c1)
             (try have qz220c := (z22.out).f0)
             (try have qz220d := (z22.out).f1)
             (try have qz221a := ((z22.out).alloc (.cells #[.bool false, .slice none 0 0] 24)).c0)
             (try have qz221b := ((z22.out).alloc (.cells #[.bool false, .slice none 0 0] 24)).c1)
             (try have qz221c := ((z22.out).alloc (.cells #[.bool false, .slice none 0 0] 24)).f0)
             (try have qz221d := ((z22.out).alloc (.cells #[.bool false, .slice none 0 0] 24)).f1)
             (try have qz115a := ((z11.out).alloc (.cells #[.bool n, .slice A1 xs.length c1] 24)).c0)
             (try have qz115b := ((z11.out).alloc (.cells #[.bool n, .slice A1 xs.length c1] 24)).c1)
             (try have qz115c := ((z11.out).alloc (.cells #[.bool n, .slice A1 xs.length c1] 24)).f0)
             (try have qz115d := ((z11.out).alloc (.cells #[.bool n, .slice A1 xs.length c1] 24)).f1)
             (try have qz125a := ((z12.out).alloc (.cells #[.bool n, .slice A1 xs.length c1] 24)).c0)
             (try have qz125b := ((z12.out).alloc (.cells #[.bool n, .slice A1 xs.length c1] 24)).c1)
             (try have qz125c := ((z12.out).alloc (.cells #[.bool n, .slice A1 xs.length c1] 24)).f0)
             (try have qz125d := ((z12.out).alloc (.cells #[.bool n, .slice A1 xs.length c1] 24)).f1)
             (try have qz215a := ((z21.out).alloc (.cells #[.bool n, .slice A1 xs.length c1] 24)).c0)
             (try have qz215b := ((z21.out).alloc (.cells #[.bool n, .slice A1 xs.length c1] 24)).c1)
             (try have qz215c := ((z21.out).alloc (.cells #[.bool n, .slice A1 xs.length c1] 24)).f0)
             (try have qz215d := ((z21.out).alloc (.cells #[.bool n, .slice A1 xs.length c1] 24)).f1)
             (try have qz225a := ((z22.out).alloc (.cells #[.bool n, .slice A1 xs.length c1] 24)).c0)
             (try have qz225b := ((z22.out).alloc (.cells #[.bool n, .slice A1 xs.length c1] 24)).c1)
             (try have qz225c := ((z22.out).alloc (.cells #[.bool n, .slice A1 xs.length c1] 24)).f0)
             (try have qz225d := ((z22.out).alloc (.cells #[.bool n, .slice A1 xs.length c1] 24)).f1)
             (try have qnw3w4 : w3.heap.size ≠ w4.heap.size := by omega)
             (try have qmw3w4 : w4.heap.size ≠ w3.heap.size := by omega)
             (try have qnw3w5 : w3.heap.size ≠ w5.heap.size := by omega)
             (try have qmw3w5 : w5.heap.size ≠ w3.heap.size := by omega)
             (try have qnw4w5 : w4.heap.size ≠ w5.heap.size := by omega)
             (try have qmw4w5 : w5.heap.size ≠ w4.heap.size := by omega)))
        all_goals
          go_wp2_with fail
          go_meet
          refine ⟨_, _, A1, c1, A2, c2, rfl, rfl, hq1, hq2, ?_⟩
          refine lents_fin2 (hi := w4.heap.size) H.out H'.out ?_ ?_ ?_ ?_ ?_ ?_ ?_ (fun k hk => (hr1 k hk).2) (fun k hk => by have := (hr2 k hk).1; omega)
          · repeat' first | (with_reducible exact HB''.out) | (with_reducible refine Below.drew ?_) | (with_reducible refine Below.alloc ?_ (by (try simp only [World.size_alloc, World.size_setCell]); omega) _) | (with_reducible refine Below.setCell ?_ (by (try simp only []); omega) _)
          · repeat' first | (with_reducible exact B1''.out) | (with_reducible refine Bx.alloc ?_ _) | (with_reducible refine Bx.far ?_ (by omega) _ _)
          · repeat' first | (with_reducible exact B2''.out) | (with_reducible refine Bx.alloc ?_ _) | (with_reducible refine Bx.far ?_ (by omega) _ _)
          · repeat' first | ((with_reducible refine bx_new' ?_); (first | (with_reducible rfl) | (rw [World.size_alloc]; done))) | (with_reducible refine Bx.over (n := false) (v := .slice none 0 0) ?_ _ _) | (with_reducible refine Bx.far ?_ (by omega) _ _) | (with_reducible refine Bx.alloc ?_ _) | (with_reducible exact z11.out) | (with_reducible exact z12.out) | (with_reducible exact z21.out) | (with_reducible exact z22.out)
          · repeat' first | ((with_reducible refine bx_new' ?_); (first | (with_reducible rfl) | (rw [World.size_alloc]; done))) | (with_reducible refine Bx.over (n := false) (v := .slice none 0 0) ?_ _ _) | (with_reducible refine Bx.far ?_ (by omega) _ _) | (with_reducible refine Bx.alloc ?_ _) | (with_reducible exact z11.out) | (with_reducible exact z12.out) | (with_reducible exact z21.out) | (with_reducible exact z22.out)
          · refine Ow.mono (B := w3.heap.size) ?_ (by omega)
            repeat' first | (with_reducible exact HO1'.out) | (with_reducible refine Ow.alloc ?_ _) | (with_reducible refine Ow.far ?_ (fun e => by have := hr1 _ e; omega) _ _)
          · refine Ow.mono (B := w4.heap.size) ?_ (by omega)
            repeat' first | (with_reducible exact HO2.out) | (with_reducible refine Ow.alloc ?_ _) | (with_reducible refine Ow.far ?_ (fun e => by have := hr2 _ e; omega) _ _)
      case rest =>
        obtain ⟨g5, g6, A1, c1, A2, c2, rfl, rfl, hq1, hq2, SQ⟩ := hcut
        have hc1 : xs.length + 3 ≤ c1 := by have := hq1.out.1; rw [lent_length] at this; exact this
        have hc2 : ys.length + 3 ≤ c2 := by have := hq2.out.1; rw [lent_length] at this; exact this
        have hc1' : c1 ≤ 9223372036854775807 := by simpa [maxLen] using hq1.out.2
        have hc2' : c2 ≤ 9223372036854775807 := by simpa [maxLen] using hq2.out.2
        have hca : xs.length ≤ c1 := by omega
        have hcb : ys.length ≤ c2 := by omega
        clear hq1 hq2 k10 k11 k20 k21 B1 B2 HB
        have ka0 := (SQ.out.box ⟨g5, n, A1, c1, xs⟩ (by simp)).c0
        have ka1 := (SQ.out.box ⟨g5, n, A1, c1, xs⟩ (by simp)).c1
        go_wp2_with fail
        refine (wNeg_calls n A1 c1 xs _ ⟨SQ.out.rd ⟨g5, n, A1, c1, xs⟩ (by simp), hca, hm, hwx.out⟩).mono ?_
        rintro e w10 ⟨A10, c10, rfl, ho, hb⟩
        have SQ := Q.hid (SQ.out.own1 hb ho (negW n xs).neg (wok_neg n xs).1 (wok_neg n xs).2)
        clear ho hb ka0 ka1
        have ka0 := (SQ.out.box ⟨g5, n, A1, c1, xs⟩ (by simp)).c0
        have ka1 := (SQ.out.box ⟨g5, n, A1, c1, xs⟩ (by simp)).c1
        go_wp2_with fail
        refine (wAbs_calls n A1 c1 xs _ ⟨SQ.out.rd ⟨g5, n, A1, c1, xs⟩ (by simp), hca, hm, hwx.out⟩).mono ?_
        rintro e w11 ⟨A11, c11, rfl, ho, hb⟩
        have SQ := Q.hid (SQ.out.own1 hb ho (absW n xs).neg (wok_abs n xs).1 (wok_abs n xs).2)
        clear ho hb ka0 ka1
        have ka0 := (SQ.out.box ⟨g5, n, A1, c1, xs⟩ (by simp)).c0
        have ka1 := (SQ.out.box ⟨g5, n, A1, c1, xs⟩ (by simp)).c1
        have kb0 := (SQ.out.box ⟨g6, m, A2, c2, ys⟩ (by simp)).c0
        have kb1 := (SQ.out.box ⟨g6, m, A2, c2, ys⟩ (by simp)).c1
        go_wp2_with fail
        refine (wAdd_calls n m A1 A2 c1 c2 xs ys _ ⟨SQ.out.rd ⟨g5, n, A1, c1, xs⟩ (by simp), hca, hm, hwx.out⟩ ⟨SQ.out.rd ⟨g6, m, A2, c2, ys⟩ (by simp), hcb, hm', hwy.out⟩).mono ?_
        rintro e w12 ⟨A12, c12, rfl, ho, hb⟩
        have SQ := Q.hid (SQ.out.own1 hb ho (addW n xs m ys).neg (wok_add n xs m ys).1 (wok_add n xs m ys).2)
        clear ho hb ka0 ka1 kb0 kb1
        have ka0 := (SQ.out.box ⟨g5, n, A1, c1, xs⟩ (by simp)).c0
        have ka1 := (SQ.out.box ⟨g5, n, A1, c1, xs⟩ (by simp)).c1
        have kb0 := (SQ.out.box ⟨g6, m, A2, c2, ys⟩ (by simp)).c0
        have kb1 := (SQ.out.box ⟨g6, m, A2, c2, ys⟩ (by simp)).c1
        go_wp2_with fail
        refine (wSub_calls n m A1 A2 c1 c2 xs ys _ ⟨SQ.out.rd ⟨g5, n, A1, c1, xs⟩ (by simp), hca, hm, hwx.out⟩ ⟨SQ.out.rd ⟨g6, m, A2, c2, ys⟩ (by simp), hcb, hm', hwy.out⟩).mono ?_
        rintro e w13 ⟨A13, c13, rfl, ho, hb⟩
        have SQ := Q.hid (SQ.out.own1 hb ho (subW n xs m ys).neg (wok_sub n xs m ys).1 (wok_sub n xs m ys).2)
        clear ho hb ka0 ka1 kb0 kb1
        have ka0 := (SQ.out.box ⟨g5, n, A1, c1, xs⟩ (by simp)).c0
        have ka1 := (SQ.out.box ⟨g5, n, A1, c1, xs⟩ (by simp)).c1
        have kb0 := (SQ.out.box ⟨g6, m, A2, c2, ys⟩ (by simp)).c0
        have kb1 := (SQ.out.box ⟨g6, m, A2, c2, ys⟩ (by simp)).c1
        go_wp2_with fail
        refine (wMul_calls n m A1 A2 c1 c2 xs ys _ ⟨SQ.out.rd ⟨g5, n, A1, c1, xs⟩ (by simp), hca, hm, hwx.out⟩ ⟨SQ.out.rd ⟨g6, m, A2, c2, ys⟩ (by simp), hcb, hm', hwy.out⟩).mono ?_
        rintro e w14 ⟨A14, c14, rfl, ho, hb⟩
        have SQ := Q.hid (SQ.out.own1 hb ho (mulW n xs m ys).neg (wok_mul n xs m ys).1 (wok_mul n xs m ys).2)
        clear ho hb ka0 ka1 kb0 kb1
        have ka0 := (SQ.out.box ⟨g5, n, A1, c1, xs⟩ (by simp)).c0
        have ka1 := (SQ.out.box ⟨g5, n, A1, c1, xs⟩ (by simp)).c1
        have kb0 := (SQ.out.box ⟨g6, m, A2, c2, ys⟩ (by simp)).c0
        have kb1 := (SQ.out.box ⟨g6, m, A2, c2, ys⟩ (by simp)).c1
        go_wp2_with fail
        refine (wDivMod_calls n m A1 A2 c1 c2 xs ys _ ⟨SQ.out.rd ⟨g5, n, A1, c1, xs⟩ (by simp), hca, hm, hwx.out⟩ ⟨SQ.out.rd ⟨g6, m, A2, c2, ys⟩ (by simp), hcb, hm', hwy.out⟩).mono ?_
        rintro e w15 ⟨A15, c15, D15, d15, rfl, ho, ho', ha, hb⟩
        have SQ := Q.hid (SQ.out.own2 hb ho ho' ha (quoW n xs m ys).neg (remW n xs m ys).neg (wok_quo n xs m ys).1 (wok_quo n xs m ys).2 (wok_rem n xs m ys).1 (wok_rem n xs m ys).2)
        clear ho ho' ha hb ka0 ka1 kb0 kb1
        have ka0 := (SQ.out.box ⟨g5, n, A1, c1, xs⟩ (by simp)).c0
        have ka1 := (SQ.out.box ⟨g5, n, A1, c1, xs⟩ (by simp)).c1
        have kb0 := (SQ.out.box ⟨g6, m, A2, c2, ys⟩ (by simp)).c0
        have kb1 := (SQ.out.box ⟨g6, m, A2, c2, ys⟩ (by simp)).c1
        go_wp2_with fail
        refine (wGcd_calls n m A1 A2 c1 c2 xs ys _ ⟨SQ.out.rd ⟨g5, n, A1, c1, xs⟩ (by simp), hca, hm, hwx.out⟩ ⟨SQ.out.rd ⟨g6, m, A2, c2, ys⟩ (by simp), hcb, hm', hwy.out⟩).mono ?_
        rintro e w16 ⟨A16, c16, rfl, ho, hb⟩
        have SQ := Q.hid (SQ.out.own1 hb ho (gcdW n xs m ys).neg (wok_gcd n xs m ys).1 (wok_gcd n xs m ys).2)
        clear ho hb ka0 ka1 kb0 kb1
        have ka0 := (SQ.out.box ⟨g5, n, A1, c1, xs⟩ (by simp)).c0
        have ka1 := (SQ.out.box ⟨g5, n, A1, c1, xs⟩ (by simp)).c1
        go_wp2_with fail
        refine (wSign_calls n A1 c1 xs _ ⟨SQ.out.rd ⟨g5, n, A1, c1, xs⟩ (by simp), hca, hm, hwx.out⟩).mono ?_
        rintro e w17 ⟨rfl, hb⟩
        have SQ := Q.hid (SQ.out.step hb)
        clear hb ka0 ka1
        have ka0 := (SQ.out.box ⟨g5, n, A1, c1, xs⟩ (by simp)).c0
        have ka1 := (SQ.out.box ⟨g5, n, A1, c1, xs⟩ (by simp)).c1
        have kb0 := (SQ.out.box ⟨g6, m, A2, c2, ys⟩ (by simp)).c0
        have kb1 := (SQ.out.box ⟨g6, m, A2, c2, ys⟩ (by simp)).c1
        go_wp2_with fail
        refine (wCompare_calls n m A1 A2 c1 c2 xs ys _ ⟨SQ.out.rd ⟨g5, n, A1, c1, xs⟩ (by simp), hca, hm, hwx.out⟩ ⟨SQ.out.rd ⟨g6, m, A2, c2, ys⟩ (by simp), hcb, hm', hwy.out⟩).mono ?_
        rintro e w18 ⟨rfl, hb⟩
        have SQ := Q.hid (SQ.out.step hb)
        clear hb ka0 ka1 kb0 kb1
        have ka0 := (SQ.out.box ⟨g5, n, A1, c1, xs⟩ (by simp)).c0
        have ka1 := (SQ.out.box ⟨g5, n, A1, c1, xs⟩ (by simp)).c1
        go_wp2_with fail
        refine (wInt64_calls n A1 c1 xs _ ⟨SQ.out.rd ⟨g5, n, A1, c1, xs⟩ (by simp), hca, hm, hwx.out⟩).mono ?_
        rintro e w19 ⟨rfl, hb⟩
        have SQ := Q.hid (SQ.out.step hb)
        clear hb ka0 ka1
        have ka0 := (SQ.out.box ⟨g5, n, A1, c1, xs⟩ (by simp)).c0
        have ka1 := (SQ.out.box ⟨g5, n, A1, c1, xs⟩ (by simp)).c1
        go_wp2_with fail
        refine (wCheck_calls n A1 c1 xs _ ⟨SQ.out.rd ⟨g5, n, A1, c1, xs⟩ (by simp), hca, hm, hwx.out⟩).mono ?_
        rintro e w20 ⟨rfl, hb⟩
        have SQ := Q.hid (SQ.out.step hb)
        clear hb ka0 ka1
        have ka0 := (SQ.out.box ⟨g5, n, A1, c1, xs⟩ (by simp)).c0
        have ka1 := (SQ.out.box ⟨g5, n, A1, c1, xs⟩ (by simp)).c1
        have kb0 := (SQ.out.box ⟨w.heap.size, n, A, c, xs⟩ (by simp)).c0
        have kb1 := (SQ.out.box ⟨w.heap.size, n, A, c, xs⟩ (by simp)).c1
        go_wp2_with fail
        refine (KeptWhole_calls n A A1 c c1 xs _ (H.out.below SQ.out.below) (SQ.out.more (A1, lent xs) (by simp)) hc1 hc1').mono ?_
        rintro e w21 ⟨rfl, hb⟩
        have SQ := Q.hid (SQ.out.step hb)
        clear hb ka0 ka1 kb0 kb1
        have ka0 := (SQ.out.box ⟨g6, m, A2, c2, ys⟩ (by simp)).c0
        have ka1 := (SQ.out.box ⟨g6, m, A2, c2, ys⟩ (by simp)).c1
        have kb0 := (SQ.out.box ⟨w.heap.size + 1, m, A', c', ys⟩ (by simp)).c0
        have kb1 := (SQ.out.box ⟨w.heap.size + 1, m, A', c', ys⟩ (by simp)).c1
        go_wp2_with fail
        refine (KeptWhole_calls m A' A2 c' c2 ys _ (H'.out.below SQ.out.below) (SQ.out.more (A2, lent ys) (by simp)) hc2 hc2').mono ?_
        rintro e w22 ⟨rfl, hb⟩
        have SQ := Q.hid (SQ.out.step hb)
        clear hb ka0 ka1 kb0 kb1
        have ka0 := (SQ.out.box ⟨w.heap.size, n, A, c, xs⟩ (by simp)).c0
        have ka1 := (SQ.out.box ⟨w.heap.size, n, A, c, xs⟩ (by simp)).c1
        go_wp2_with fail
        refine (rWNeg_calls n A c xs _ (H.out.below SQ.out.below)).mono ?_
        rintro e w23 ⟨A23, c23, rfl, ho, hb⟩
        have SQ := Q.hid (SQ.out.ref1 hb ho (negW n xs).neg)
        clear ho hb ka0 ka1
        have ka0 := (SQ.out.box ⟨w.heap.size, n, A, c, xs⟩ (by simp)).c0
        have ka1 := (SQ.out.box ⟨w.heap.size, n, A, c, xs⟩ (by simp)).c1
        go_wp2_with fail
        refine (rWAbs_calls n A c xs _ (H.out.below SQ.out.below)).mono ?_
        rintro e w24 ⟨A24, c24, rfl, ho, hb⟩
        have SQ := Q.hid (SQ.out.ref1 hb ho (absW n xs).neg)
        clear ho hb ka0 ka1
        have ka0 := (SQ.out.box ⟨w.heap.size, n, A, c, xs⟩ (by simp)).c0
        have ka1 := (SQ.out.box ⟨w.heap.size, n, A, c, xs⟩ (by simp)).c1
        have kb0 := (SQ.out.box ⟨w.heap.size + 1, m, A', c', ys⟩ (by simp)).c0
        have kb1 := (SQ.out.box ⟨w.heap.size + 1, m, A', c', ys⟩ (by simp)).c1
        go_wp2_with fail
        refine (rWAdd_calls n m A A' c c' xs ys _ (H.out.below SQ.out.below) (H'.out.below SQ.out.below)).mono ?_
        rintro e w25 ⟨A25, c25, rfl, ho, hb⟩
        have SQ := Q.hid (SQ.out.ref1 hb ho (addW n xs m ys).neg)
        clear ho hb ka0 ka1 kb0 kb1
        have ka0 := (SQ.out.box ⟨w.heap.size, n, A, c, xs⟩ (by simp)).c0
        have ka1 := (SQ.out.box ⟨w.heap.size, n, A, c, xs⟩ (by simp)).c1
        have kb0 := (SQ.out.box ⟨w.heap.size + 1, m, A', c', ys⟩ (by simp)).c0
        have kb1 := (SQ.out.box ⟨w.heap.size + 1, m, A', c', ys⟩ (by simp)).c1
        go_wp2_with fail
        refine (rWSub_calls n m A A' c c' xs ys _ (H.out.below SQ.out.below) (H'.out.below SQ.out.below)).mono ?_
        rintro e w26 ⟨A26, c26, rfl, ho, hb⟩
        have SQ := Q.hid (SQ.out.ref1 hb ho (subW n xs m ys).neg)
        clear ho hb ka0 ka1 kb0 kb1
        have ka0 := (SQ.out.box ⟨w.heap.size, n, A, c, xs⟩ (by simp)).c0
        have ka1 := (SQ.out.box ⟨w.heap.size, n, A, c, xs⟩ (by simp)).c1
        have kb0 := (SQ.out.box ⟨w.heap.size + 1, m, A', c', ys⟩ (by simp)).c0
        have kb1 := (SQ.out.box ⟨w.heap.size + 1, m, A', c', ys⟩ (by simp)).c1
        go_wp2_with fail
        refine (rWMul_calls n m A A' c c' xs ys _ (H.out.below SQ.out.below) (H'.out.below SQ.out.below)).mono ?_
        rintro e w27 ⟨A27, c27, rfl, ho, hb⟩
        have SQ := Q.hid (SQ.out.ref1 hb ho (mulW n xs m ys).neg)
        clear ho hb ka0 ka1 kb0 kb1
        have ka0 := (SQ.out.box ⟨w.heap.size, n, A, c, xs⟩ (by simp)).c0
        have ka1 := (SQ.out.box ⟨w.heap.size, n, A, c, xs⟩ (by simp)).c1
        have kb0 := (SQ.out.box ⟨w.heap.size + 1, m, A', c', ys⟩ (by simp)).c0
        have kb1 := (SQ.out.box ⟨w.heap.size + 1, m, A', c', ys⟩ (by simp)).c1
        go_wp2_with fail
        refine (rWDivMod_calls n m A A' c c' xs ys _ (H.out.below SQ.out.below) (H'.out.below SQ.out.below)).mono ?_
        rintro e w28 ⟨A28, c28, D28, d28, rfl, ho, ho', hb⟩
        have SQ := Q.hid (SQ.out.ref2 hb ho ho' (quoW n xs m ys).neg (remW n xs m ys).neg)
        clear ho ho' hb ka0 ka1 kb0 kb1
        have ka0 := (SQ.out.box ⟨w.heap.size, n, A, c, xs⟩ (by simp)).c0
        have ka1 := (SQ.out.box ⟨w.heap.size, n, A, c, xs⟩ (by simp)).c1
        have kb0 := (SQ.out.box ⟨w.heap.size + 1, m, A', c', ys⟩ (by simp)).c0
        have kb1 := (SQ.out.box ⟨w.heap.size + 1, m, A', c', ys⟩ (by simp)).c1
        go_wp2_with fail
        refine (rWGcd_calls n m A A' c c' xs ys _ (H.out.below SQ.out.below) (H'.out.below SQ.out.below)).mono ?_
        rintro e w29 ⟨A29, c29, rfl, ho, hb⟩
        have SQ := Q.hid (SQ.out.ref1 hb ho (gcdW n xs m ys).neg)
        clear ho hb ka0 ka1 kb0 kb1
        have ka0 := (SQ.out.box ⟨w.heap.size, n, A, c, xs⟩ (by simp)).c0
        have ka1 := (SQ.out.box ⟨w.heap.size, n, A, c, xs⟩ (by simp)).c1
        go_wp2_with fail
        refine (rWSign_calls n A c xs _ (H.out.below SQ.out.below)).mono ?_
        rintro e w30 ⟨rfl, hb⟩
        have SQ := Q.hid (SQ.out.step hb)
        clear hb ka0 ka1
        have ka0 := (SQ.out.box ⟨w.heap.size, n, A, c, xs⟩ (by simp)).c0
        have ka1 := (SQ.out.box ⟨w.heap.size, n, A, c, xs⟩ (by simp)).c1
        have kb0 := (SQ.out.box ⟨w.heap.size + 1, m, A', c', ys⟩ (by simp)).c0
        have kb1 := (SQ.out.box ⟨w.heap.size + 1, m, A', c', ys⟩ (by simp)).c1
        go_wp2_with fail
        refine (rWCompare_calls n m A A' c c' xs ys _ (H.out.below SQ.out.below) (H'.out.below SQ.out.below)).mono ?_
        rintro e w31 ⟨rfl, hb⟩
        have SQ := Q.hid (SQ.out.step hb)
        clear hb ka0 ka1 kb0 kb1
        have ka0 := (SQ.out.box ⟨w.heap.size, n, A, c, xs⟩ (by simp)).c0
        have ka1 := (SQ.out.box ⟨w.heap.size, n, A, c, xs⟩ (by simp)).c1
        go_wp2_with fail
        refine (rWInt64_calls n A c xs _ (H.out.below SQ.out.below)).mono ?_
        rintro e w32 ⟨rfl, hb⟩
        have SQ := Q.hid (SQ.out.step hb)
        clear hb ka0 ka1
        have ka0 := (SQ.out.box ⟨w10.heap.size, (negW n xs).neg, A10, c10, (negW n xs).ws⟩ (by simp)).c0
        have ka1 := (SQ.out.box ⟨w10.heap.size, (negW n xs).neg, A10, c10, (negW n xs).ws⟩ (by simp)).c1
        have kb0 := (SQ.out.box ⟨w23.heap.size, (negW n xs).neg, A23, c23, (negW n xs).ws⟩ (by simp)).c0
        have kb1 := (SQ.out.box ⟨w23.heap.size, (negW n xs).neg, A23, c23, (negW n xs).ws⟩ (by simp)).c1
        go_wp2_with fail
        refine (wone_calls (negW n xs).neg (negW n xs).neg (negW n xs).err (negW n xs).err A10 A23 c10 c23 (negW n xs).ws (negW n xs).ws _ (SQ.out.rd ⟨w10.heap.size, (negW n xs).neg, A10, c10, (negW n xs).ws⟩ (by simp)) (SQ.out.rd ⟨w23.heap.size, (negW n xs).neg, A23, c23, (negW n xs).ws⟩ (by simp)) (by have := (wok_neg n xs).2; omega) rfl rfl rfl).mono ?_
        rintro e w33 ⟨rfl, hb⟩
        have SQ := Q.hid (SQ.out.step hb)
        clear hb ka0 ka1 kb0 kb1
        have ka0 := (SQ.out.box ⟨w11.heap.size, (absW n xs).neg, A11, c11, (absW n xs).ws⟩ (by simp)).c0
        have ka1 := (SQ.out.box ⟨w11.heap.size, (absW n xs).neg, A11, c11, (absW n xs).ws⟩ (by simp)).c1
        have kb0 := (SQ.out.box ⟨w24.heap.size, (absW n xs).neg, A24, c24, (absW n xs).ws⟩ (by simp)).c0
        have kb1 := (SQ.out.box ⟨w24.heap.size, (absW n xs).neg, A24, c24, (absW n xs).ws⟩ (by simp)).c1
        go_wp2_with fail
        refine (wone_calls (absW n xs).neg (absW n xs).neg (absW n xs).err (absW n xs).err A11 A24 c11 c24 (absW n xs).ws (absW n xs).ws _ (SQ.out.rd ⟨w11.heap.size, (absW n xs).neg, A11, c11, (absW n xs).ws⟩ (by simp)) (SQ.out.rd ⟨w24.heap.size, (absW n xs).neg, A24, c24, (absW n xs).ws⟩ (by simp)) (by have := (wok_abs n xs).2; omega) rfl rfl rfl).mono ?_
        rintro e w34 ⟨rfl, hb⟩
        have SQ := Q.hid (SQ.out.step hb)
        clear hb ka0 ka1 kb0 kb1
        have ka0 := (SQ.out.box ⟨w12.heap.size, (addW n xs m ys).neg, A12, c12, (addW n xs m ys).ws⟩ (by simp)).c0
        have ka1 := (SQ.out.box ⟨w12.heap.size, (addW n xs m ys).neg, A12, c12, (addW n xs m ys).ws⟩ (by simp)).c1
        have kb0 := (SQ.out.box ⟨w25.heap.size, (addW n xs m ys).neg, A25, c25, (addW n xs m ys).ws⟩ (by simp)).c0
        have kb1 := (SQ.out.box ⟨w25.heap.size, (addW n xs m ys).neg, A25, c25, (addW n xs m ys).ws⟩ (by simp)).c1
        go_wp2_with fail
        refine (wone_calls (addW n xs m ys).neg (addW n xs m ys).neg (addW n xs m ys).err (addW n xs m ys).err A12 A25 c12 c25 (addW n xs m ys).ws (addW n xs m ys).ws _ (SQ.out.rd ⟨w12.heap.size, (addW n xs m ys).neg, A12, c12, (addW n xs m ys).ws⟩ (by simp)) (SQ.out.rd ⟨w25.heap.size, (addW n xs m ys).neg, A25, c25, (addW n xs m ys).ws⟩ (by simp)) (by have := (wok_add n xs m ys).2; omega) rfl rfl rfl).mono ?_
        rintro e w35 ⟨rfl, hb⟩
        have SQ := Q.hid (SQ.out.step hb)
        clear hb ka0 ka1 kb0 kb1
        have ka0 := (SQ.out.box ⟨w13.heap.size, (subW n xs m ys).neg, A13, c13, (subW n xs m ys).ws⟩ (by simp)).c0
        have ka1 := (SQ.out.box ⟨w13.heap.size, (subW n xs m ys).neg, A13, c13, (subW n xs m ys).ws⟩ (by simp)).c1
        have kb0 := (SQ.out.box ⟨w26.heap.size, (subW n xs m ys).neg, A26, c26, (subW n xs m ys).ws⟩ (by simp)).c0
        have kb1 := (SQ.out.box ⟨w26.heap.size, (subW n xs m ys).neg, A26, c26, (subW n xs m ys).ws⟩ (by simp)).c1
        go_wp2_with fail
        refine (wone_calls (subW n xs m ys).neg (subW n xs m ys).neg (subW n xs m ys).err (subW n xs m ys).err A13 A26 c13 c26 (subW n xs m ys).ws (subW n xs m ys).ws _ (SQ.out.rd ⟨w13.heap.size, (subW n xs m ys).neg, A13, c13, (subW n xs m ys).ws⟩ (by simp)) (SQ.out.rd ⟨w26.heap.size, (subW n xs m ys).neg, A26, c26, (subW n xs m ys).ws⟩ (by simp)) (by have := (wok_sub n xs m ys).2; omega) rfl rfl rfl).mono ?_
        rintro e w36 ⟨rfl, hb⟩
        have SQ := Q.hid (SQ.out.step hb)
        clear hb ka0 ka1 kb0 kb1
        have ka0 := (SQ.out.box ⟨w14.heap.size, (mulW n xs m ys).neg, A14, c14, (mulW n xs m ys).ws⟩ (by simp)).c0
        have ka1 := (SQ.out.box ⟨w14.heap.size, (mulW n xs m ys).neg, A14, c14, (mulW n xs m ys).ws⟩ (by simp)).c1
        have kb0 := (SQ.out.box ⟨w27.heap.size, (mulW n xs m ys).neg, A27, c27, (mulW n xs m ys).ws⟩ (by simp)).c0
        have kb1 := (SQ.out.box ⟨w27.heap.size, (mulW n xs m ys).neg, A27, c27, (mulW n xs m ys).ws⟩ (by simp)).c1
        go_wp2_with fail
        refine (wone_calls (mulW n xs m ys).neg (mulW n xs m ys).neg (mulW n xs m ys).err (mulW n xs m ys).err A14 A27 c14 c27 (mulW n xs m ys).ws (mulW n xs m ys).ws _ (SQ.out.rd ⟨w14.heap.size, (mulW n xs m ys).neg, A14, c14, (mulW n xs m ys).ws⟩ (by simp)) (SQ.out.rd ⟨w27.heap.size, (mulW n xs m ys).neg, A27, c27, (mulW n xs m ys).ws⟩ (by simp)) (by have := (wok_mul n xs m ys).2; omega) rfl rfl rfl).mono ?_
        rintro e w37 ⟨rfl, hb⟩
        have SQ := Q.hid (SQ.out.step hb)
        clear hb ka0 ka1 kb0 kb1
        have ka0 := (SQ.out.box ⟨w15.heap.size, (quoW n xs m ys).neg, A15, c15, (quoW n xs m ys).ws⟩ (by simp)).c0
        have ka1 := (SQ.out.box ⟨w15.heap.size, (quoW n xs m ys).neg, A15, c15, (quoW n xs m ys).ws⟩ (by simp)).c1
        have kb0 := (SQ.out.box ⟨w28.heap.size, (quoW n xs m ys).neg, A28, c28, (quoW n xs m ys).ws⟩ (by simp)).c0
        have kb1 := (SQ.out.box ⟨w28.heap.size, (quoW n xs m ys).neg, A28, c28, (quoW n xs m ys).ws⟩ (by simp)).c1
        go_wp2_with fail
        refine (wone_calls (quoW n xs m ys).neg (quoW n xs m ys).neg (quoW n xs m ys).err (quoW n xs m ys).err A15 A28 c15 c28 (quoW n xs m ys).ws (quoW n xs m ys).ws _ (SQ.out.rd ⟨w15.heap.size, (quoW n xs m ys).neg, A15, c15, (quoW n xs m ys).ws⟩ (by simp)) (SQ.out.rd ⟨w28.heap.size, (quoW n xs m ys).neg, A28, c28, (quoW n xs m ys).ws⟩ (by simp)) (by have := (wok_quo n xs m ys).2; omega) rfl rfl rfl).mono ?_
        rintro e w38 ⟨rfl, hb⟩
        have SQ := Q.hid (SQ.out.step hb)
        clear hb ka0 ka1 kb0 kb1
        have ka0 := (SQ.out.box ⟨w15.heap.size + 1, (remW n xs m ys).neg, D15, d15, (remW n xs m ys).ws⟩ (by simp)).c0
        have ka1 := (SQ.out.box ⟨w15.heap.size + 1, (remW n xs m ys).neg, D15, d15, (remW n xs m ys).ws⟩ (by simp)).c1
        have kb0 := (SQ.out.box ⟨w28.heap.size + 1, (remW n xs m ys).neg, D28, d28, (remW n xs m ys).ws⟩ (by simp)).c0
        have kb1 := (SQ.out.box ⟨w28.heap.size + 1, (remW n xs m ys).neg, D28, d28, (remW n xs m ys).ws⟩ (by simp)).c1
        go_wp2_with fail
        refine (SameWhole_eq (remW n xs m ys).neg D15 D28 d15 d28 (remW n xs m ys).ws _ (SQ.out.rd ⟨w15.heap.size + 1, (remW n xs m ys).neg, D15, d15, (remW n xs m ys).ws⟩ (by simp)) (SQ.out.rd ⟨w28.heap.size + 1, (remW n xs m ys).neg, D28, d28, (remW n xs m ys).ws⟩ (by simp)) (by have := (wok_rem n xs m ys).2; omega)).mono ?_
        rintro e w39 ⟨rfl, hb⟩
        have SQ := Q.hid (SQ.out.step hb)
        clear hb ka0 ka1 kb0 kb1
        have ka0 := (SQ.out.box ⟨w16.heap.size, (gcdW n xs m ys).neg, A16, c16, (gcdW n xs m ys).ws⟩ (by simp)).c0
        have ka1 := (SQ.out.box ⟨w16.heap.size, (gcdW n xs m ys).neg, A16, c16, (gcdW n xs m ys).ws⟩ (by simp)).c1
        have kb0 := (SQ.out.box ⟨w29.heap.size, (gcdW n xs m ys).neg, A29, c29, (gcdW n xs m ys).ws⟩ (by simp)).c0
        have kb1 := (SQ.out.box ⟨w29.heap.size, (gcdW n xs m ys).neg, A29, c29, (gcdW n xs m ys).ws⟩ (by simp)).c1
        go_wp2_with fail
        refine (wone_calls (gcdW n xs m ys).neg (gcdW n xs m ys).neg (gcdW n xs m ys).err (gcdW n xs m ys).err A16 A29 c16 c29 (gcdW n xs m ys).ws (gcdW n xs m ys).ws _ (SQ.out.rd ⟨w16.heap.size, (gcdW n xs m ys).neg, A16, c16, (gcdW n xs m ys).ws⟩ (by simp)) (SQ.out.rd ⟨w29.heap.size, (gcdW n xs m ys).neg, A29, c29, (gcdW n xs m ys).ws⟩ (by simp)) (by have := (wok_gcd n xs m ys).2; omega) rfl rfl rfl).mono ?_
        rintro e w40 ⟨rfl, hb⟩
        have SQ := Q.hid (SQ.out.step hb)
        clear hb ka0 ka1 kb0 kb1
        have ka0 := (SQ.out.box ⟨w.heap.size, n, A, c, xs⟩ (by simp)).c0
        have ka1 := (SQ.out.box ⟨w.heap.size, n, A, c, xs⟩ (by simp)).c1
        go_wp2_with fail
        refine (rWCheck_calls n A c xs _ (H.out.below SQ.out.below)).mono ?_
        rintro e w41 ⟨rfl, hb⟩
        have SQ := Q.hid (SQ.out.step hb)
        clear hb ka0 ka1
        have ka0 := (SQ.out.box ⟨g5, n, A1, c1, xs⟩ (by simp)).c0
        have ka1 := (SQ.out.box ⟨g5, n, A1, c1, xs⟩ (by simp)).c1
        have kb0 := (SQ.out.box ⟨g6, m, A2, c2, ys⟩ (by simp)).c0
        have kb1 := (SQ.out.box ⟨g6, m, A2, c2, ys⟩ (by simp)).c1
        have kc0 := (SQ.out.box ⟨w10.heap.size, (negW n xs).neg, A10, c10, (negW n xs).ws⟩ (by simp)).c0
        have kc1 := (SQ.out.box ⟨w10.heap.size, (negW n xs).neg, A10, c10, (negW n xs).ws⟩ (by simp)).c1
        have kd0 := (SQ.out.box ⟨w11.heap.size, (absW n xs).neg, A11, c11, (absW n xs).ws⟩ (by simp)).c0
        have kd1 := (SQ.out.box ⟨w11.heap.size, (absW n xs).neg, A11, c11, (absW n xs).ws⟩ (by simp)).c1
        have ke0 := (SQ.out.box ⟨w12.heap.size, (addW n xs m ys).neg, A12, c12, (addW n xs m ys).ws⟩ (by simp)).c0
        have ke1 := (SQ.out.box ⟨w12.heap.size, (addW n xs m ys).neg, A12, c12, (addW n xs m ys).ws⟩ (by simp)).c1
        have kf0 := (SQ.out.box ⟨w13.heap.size, (subW n xs m ys).neg, A13, c13, (subW n xs m ys).ws⟩ (by simp)).c0
        have kf1 := (SQ.out.box ⟨w13.heap.size, (subW n xs m ys).neg, A13, c13, (subW n xs m ys).ws⟩ (by simp)).c1
        have kg0 := (SQ.out.box ⟨w14.heap.size, (mulW n xs m ys).neg, A14, c14, (mulW n xs m ys).ws⟩ (by simp)).c0
        have kg1 := (SQ.out.box ⟨w14.heap.size, (mulW n xs m ys).neg, A14, c14, (mulW n xs m ys).ws⟩ (by simp)).c1
        have kh0 := (SQ.out.box ⟨w15.heap.size, (quoW n xs m ys).neg, A15, c15, (quoW n xs m ys).ws⟩ (by simp)).c0
        have kh1 := (SQ.out.box ⟨w15.heap.size, (quoW n xs m ys).neg, A15, c15, (quoW n xs m ys).ws⟩ (by simp)).c1
        have ki0 := (SQ.out.box ⟨w15.heap.size + 1, (remW n xs m ys).neg, D15, d15, (remW n xs m ys).ws⟩ (by simp)).c0
        have ki1 := (SQ.out.box ⟨w15.heap.size + 1, (remW n xs m ys).neg, D15, d15, (remW n xs m ys).ws⟩ (by simp)).c1
        have kj0 := (SQ.out.box ⟨w16.heap.size, (gcdW n xs m ys).neg, A16, c16, (gcdW n xs m ys).ws⟩ (by simp)).c0
        have kj1 := (SQ.out.box ⟨w16.heap.size, (gcdW n xs m ys).neg, A16, c16, (gcdW n xs m ys).ws⟩ (by simp)).c1
        go_wp2_with fail
        refine (ApartWords_calls _ 10 w.heap.size _ _ _ (SQ.out.apt.rows (Nat.le_refl _)) (Nat.le_trans SQ.out.below.size (by simp)) (by simp)).mono ?_
        rintro e w99 ⟨rfl, hb⟩
        have HZ := Q.hid ((SQ.out.below.alloc SQ.out.below.size _).trans hb)
        clear hb
        go_wp2
        go_ret
        exact ⟨rfl, HZ.out⟩
end Go.Proofs.Ytidccoahjpjoaaa
