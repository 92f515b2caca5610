/- Package whole: sums, products, divisors; what each call does. -/
import Derived.Test.YtidccoahjpjoaaaQWhl1
set_option linter.unusedVariables false
set_option linter.unusedSimpArgs false
namespace Go.Proofs.Ytidccoahjpjoaaa
open Go Go.RowKit Q

set_option maxHeartbeats 1000000 in
theorem wMul_calls (n m : Bool) (A A' : Option Addr) (c c' : Nat) (xs ys : List Int) (w : World) (h : In w A c xs) (h' : In w A' c' ys) :
    Calls Try.prog 28 #[.agg #[.bool n, .slice A xs.length c], .agg #[.bool m, .slice A' ys.length c']] w fun e w' => ∃ B d, e = .returned (.tuple #[.agg #[.bool (mulW n xs m ys).neg, .slice B (mulW n xs m ys).ws.length d], .int .i64 (mulW n xs m ys).err]) ∧ Ow w' 58 w.heap.size (.slice B (mulW n xs m ys).ws.length d) (mulW n xs m ys).ws ∧ Below w.heap.size w w' := by
  have H := Q.hid h
  have H' := Q.hid h'
  have hw := h.wds
  have hw' := h'.wds
  clear h h'
  by_cases h0 : chkW2 n xs m ys = 0
  · have hb0 : (chkW2 n xs m ys != 0) = false := by simp [h0]
    have HS : Hid (mulS xs ys = (nwd (val xs * val ys), 0)) := mulS_of hw hw' h0
    have HF : Hid (mulW n xs m ys = mdW (n != m) (nwd (val xs * val ys))) := by
      unfold mulW; rw [if_pos h0, mdW_sg (Int.mul_nonneg (val_nonneg hw) (val_nonneg hw')), mul_sg]; rfl
    clear h0
    go_enter Try.func28, Try.ntmps28
    go_wp2_with fail
    refine (wboth_calls n m A A' c c' xs ys _ (H.out.below (below_alloc3 _ _ _ _)) (H'.out.below (below_alloc3 _ _ _ _))).mono ?_
    rintro e w1 ⟨rfl, hb1⟩
    have B1 := Q.hid ((((Bx.new w n (.slice A xs.length c)).alloc (.cells #[.bool m, .slice A' ys.length c'] 24)).alloc (.cells #[.bool false, .slice none 0 0] 24)).below hb1)
    have B2 := Q.hid (((Bx.new (w.alloc (.cells #[.bool n, .slice A xs.length c] 24)) m (.slice A' ys.length c')).alloc (.cells #[.bool false, .slice none 0 0] 24)).below hb1)
    have B3 := Q.hid ((Bx.new ((w.alloc (.cells #[.bool n, .slice A xs.length c] 24)).alloc (.cells #[.bool m, .slice A' ys.length c'] 24)) false (.slice none 0 0)).below hb1)
    simp only [World.size_alloc] at B2 B3
    have HB := Q.hid ((below_alloc3 w _ _ _).trans (hb1.mono (by simp; omega)))
    have hg3 : w.heap.size + 1 + 1 < w1.heap.size := B3.out.lt
    clear hb1
    have k10 := B1.out.c0
    have k11 := B1.out.c1
    have k20 := B2.out.c0
    have k21 := B2.out.c1
    go_wp2_with fail
    refine (Mul_calls A A' c c' xs ys _ (H.out.below HB.out) (H'.out.below HB.out)).mono ?_
    rintro e w2 ⟨v, rfl, ho, hb⟩
    rw [HS.out] at ho
    obtain ⟨A2, c2, e2, _⟩ := ho.slice
    subst e2
    have HO := Q.hid ho
    have B1 := Q.hid (B1.out.below hb)
    have B2 := Q.hid (B2.out.below hb)
    have B3 := Q.hid (B3.out.below hb)
    have HB := Q.hid (bs2 HB.out hb)
    clear ho hb
    clear k10 k11 k20 k21
    have k10 := B1.out.c0
    have k11 := B1.out.c1
    have k20 := B2.out.c0
    have k21 := B2.out.c1
    go_wp2_with fail
    refine (wmade_calls (n != m) A2 c2 w1.heap.size (nwd (val xs * val ys)) _ HO.out).mono ?_
    rintro e w3 ⟨A3, c3, rfl, ho, hb⟩
    have HO := Q.hid ho
    have B3 := Q.hid (B3.out.below hb)
    have HB := Q.hid (bs2 HB.out hb)
    clear ho hb
    have k30 := B3.out.c0
    have k31 := B3.out.c1
    have f30 := B3.out.f0
    have f31 := B3.out.f1
    go_wp2
    refine bodyPost_ret (by rw [results_cell_tmp rfl]; go_simp; rfl) rfl ?_
    exact ⟨A3, c3, by rw [HF.out], by rw [HF.out]; exact far2 HO.out hg3 (by omega) _ _, below_set2 HB.out (by omega) _ _⟩
  · have hb0 : (chkW2 n xs m ys != 0) = true := by simp [h0]
    have HF : Hid (mulW n xs m ys = noW (chkW2 n xs m ys)) := if_neg h0
    clear h0
    go_enter Try.func28, Try.ntmps28
    go_wp2_with fail
    refine (wboth_calls n m A A' c c' xs ys _ (H.out.below (below_alloc3 _ _ _ _)) (H'.out.below (below_alloc3 _ _ _ _))).mono ?_
    rintro e w1 ⟨rfl, hb1⟩
    have B1 := Q.hid ((((Bx.new w n (.slice A xs.length c)).alloc (.cells #[.bool m, .slice A' ys.length c'] 24)).alloc (.cells #[.bool false, .slice none 0 0] 24)).below hb1)
    have B2 := Q.hid (((Bx.new (w.alloc (.cells #[.bool n, .slice A xs.length c] 24)) m (.slice A' ys.length c')).alloc (.cells #[.bool false, .slice none 0 0] 24)).below hb1)
    have B3 := Q.hid ((Bx.new ((w.alloc (.cells #[.bool n, .slice A xs.length c] 24)).alloc (.cells #[.bool m, .slice A' ys.length c'] 24)) false (.slice none 0 0)).below hb1)
    simp only [World.size_alloc] at B2 B3
    have HB := Q.hid ((below_alloc3 w _ _ _).trans (hb1.mono (by simp; omega)))
    have hg3 : w.heap.size + 1 + 1 < w1.heap.size := B3.out.lt
    clear hb1
    have k30 := B3.out.c0
    have k31 := B3.out.c1
    have f30 := B3.out.f0
    have f31 := B3.out.f1
    go_wp2
    refine bodyPost_ret (by rw [results_cell_tmp rfl]; go_simp; rfl) rfl ?_
    exact ⟨none, 0, by rw [HF.out]; rfl, by rw [HF.out]; exact Ow.nil _ _ _, below_set2 HB.out (by omega) _ _⟩

set_option maxHeartbeats 1000000 in
theorem wGcd_calls (n m : Bool) (A A' : Option Addr) (c c' : Nat) (xs ys : List Int) (w : World) (h : In w A c xs) (h' : In w A' c' ys) :
    Calls Try.prog 30 #[.agg #[.bool n, .slice A xs.length c], .agg #[.bool m, .slice A' ys.length c']] w fun e w' => ∃ B d, e = .returned (.tuple #[.agg #[.bool (gcdW n xs m ys).neg, .slice B (gcdW n xs m ys).ws.length d], .int .i64 (gcdW n xs m ys).err]) ∧ Ow w' 58 w.heap.size (.slice B (gcdW n xs m ys).ws.length d) (gcdW n xs m ys).ws ∧ Below w.heap.size w w' := by
  have H := Q.hid h
  have H' := Q.hid h'
  have hw := h.wds
  have hw' := h'.wds
  clear h h'
  by_cases h0 : chkW2 n xs m ys = 0
  · have hb0 : (chkW2 n xs m ys != 0) = false := by simp [h0]
    have HS : Hid (gcdS xs ys = (nwd (gc (val xs) (val ys)), 0)) := by unfold gcdS; rw [if_pos (chkW2_chk2 h0)]; rfl
    have HF : Hid (gcdW n xs m ys = mdW false (nwd (gc (val xs) (val ys)))) := by
      unfold gcdW; rw [if_pos h0, mdW_sg (gc_nonneg _ _)]; rfl
    clear h0
    go_enter Try.func30, Try.ntmps30
    go_wp2_with fail
    refine (wboth_calls n m A A' c c' xs ys _ (H.out.below (below_alloc3 _ _ _ _)) (H'.out.below (below_alloc3 _ _ _ _))).mono ?_
    rintro e w1 ⟨rfl, hb1⟩
    have B1 := Q.hid ((((Bx.new w n (.slice A xs.length c)).alloc (.cells #[.bool m, .slice A' ys.length c'] 24)).alloc (.cells #[.bool false, .slice none 0 0] 24)).below hb1)
    have B2 := Q.hid (((Bx.new (w.alloc (.cells #[.bool n, .slice A xs.length c] 24)) m (.slice A' ys.length c')).alloc (.cells #[.bool false, .slice none 0 0] 24)).below hb1)
    have B3 := Q.hid ((Bx.new ((w.alloc (.cells #[.bool n, .slice A xs.length c] 24)).alloc (.cells #[.bool m, .slice A' ys.length c'] 24)) false (.slice none 0 0)).below hb1)
    simp only [World.size_alloc] at B2 B3
    have HB := Q.hid ((below_alloc3 w _ _ _).trans (hb1.mono (by simp; omega)))
    have hg3 : w.heap.size + 1 + 1 < w1.heap.size := B3.out.lt
    clear hb1
    have k10 := B1.out.c0
    have k11 := B1.out.c1
    have k20 := B2.out.c0
    have k21 := B2.out.c1
    go_wp2_with fail
    refine (Gcd_calls A A' c c' xs ys _ (H.out.below HB.out) (H'.out.below HB.out)).mono ?_
    rintro e w2 ⟨v, rfl, ho, hb⟩
    rw [HS.out] at ho
    obtain ⟨A2, c2, e2, _⟩ := ho.slice
    subst e2
    have HO := Q.hid ho
    have B3 := Q.hid (B3.out.below hb)
    have HB := Q.hid (bs2 HB.out hb)
    clear ho hb
    clear k10 k11 k20 k21
    go_wp2_with fail
    refine (wmade_calls false A2 c2 w1.heap.size (nwd (gc (val xs) (val ys))) _ HO.out).mono ?_
    rintro e w3 ⟨A3, c3, rfl, ho, hb⟩
    have HO := Q.hid ho
    have B3 := Q.hid (B3.out.below hb)
    have HB := Q.hid (bs2 HB.out hb)
    clear ho hb
    have k30 := B3.out.c0
    have k31 := B3.out.c1
    have f30 := B3.out.f0
    have f31 := B3.out.f1
    go_wp2
    refine bodyPost_ret (by rw [results_cell_tmp rfl]; go_simp; rfl) rfl ?_
    exact ⟨A3, c3, by rw [HF.out], by rw [HF.out]; exact far2 HO.out hg3 (by omega) _ _, below_set2 HB.out (by omega) _ _⟩
  · have hb0 : (chkW2 n xs m ys != 0) = true := by simp [h0]
    have HF : Hid (gcdW n xs m ys = noW (chkW2 n xs m ys)) := if_neg h0
    clear h0
    go_enter Try.func30, Try.ntmps30
    go_wp2_with fail
    refine (wboth_calls n m A A' c c' xs ys _ (H.out.below (below_alloc3 _ _ _ _)) (H'.out.below (below_alloc3 _ _ _ _))).mono ?_
    rintro e w1 ⟨rfl, hb1⟩
    have B1 := Q.hid ((((Bx.new w n (.slice A xs.length c)).alloc (.cells #[.bool m, .slice A' ys.length c'] 24)).alloc (.cells #[.bool false, .slice none 0 0] 24)).below hb1)
    have B2 := Q.hid (((Bx.new (w.alloc (.cells #[.bool n, .slice A xs.length c] 24)) m (.slice A' ys.length c')).alloc (.cells #[.bool false, .slice none 0 0] 24)).below hb1)
    have B3 := Q.hid ((Bx.new ((w.alloc (.cells #[.bool n, .slice A xs.length c] 24)).alloc (.cells #[.bool m, .slice A' ys.length c'] 24)) false (.slice none 0 0)).below hb1)
    simp only [World.size_alloc] at B2 B3
    have HB := Q.hid ((below_alloc3 w _ _ _).trans (hb1.mono (by simp; omega)))
    have hg3 : w.heap.size + 1 + 1 < w1.heap.size := B3.out.lt
    clear hb1
    have k30 := B3.out.c0
    have k31 := B3.out.c1
    have f30 := B3.out.f0
    have f31 := B3.out.f1
    go_wp2
    refine bodyPost_ret (by rw [results_cell_tmp rfl]; go_simp; rfl) rfl ?_
    exact ⟨none, 0, by rw [HF.out]; rfl, by rw [HF.out]; exact Ow.nil _ _ _, below_set2 HB.out (by omega) _ _⟩

set_option maxHeartbeats 1000000 in
theorem wAdd_calls (n m : Bool) (A A' : Option Addr) (c c' : Nat) (xs ys : List Int) (w : World) (h : In w A c xs) (h' : In w A' c' ys) :
    Calls Try.prog 27 #[.agg #[.bool n, .slice A xs.length c], .agg #[.bool m, .slice A' ys.length c']] w fun e w' => ∃ B d, e = .returned (.tuple #[.agg #[.bool (addW n xs m ys).neg, .slice B (addW n xs m ys).ws.length d], .int .i64 (addW n xs m ys).err]) ∧ Ow w' 58 w.heap.size (.slice B (addW n xs m ys).ws.length d) (addW n xs m ys).ws ∧ Below w.heap.size w w' := by
  have H := Q.hid h
  have H' := Q.hid h'
  have hw := h.wds
  have hw' := h'.wds
  clear h h'
  by_cases h0 : chkW2 n xs m ys = 0
  · have hb0 : (chkW2 n xs m ys != 0) = false := by simp [h0]
    by_cases hs : n = m
    · have HS : Hid (addS xs ys = (nwd (val xs + val ys), 0)) := addS_of hw hw' h0
      have HF : Hid (addW n xs m ys = mdW n (nwd (val xs + val ys))) := by
        unfold addW; rw [if_pos h0, mdW_sg (Int.add_nonneg (val_nonneg hw) (val_nonneg hw')), add_same hs]; rfl
      have hs1 : (n == m) = true := by simp [hs]
      have hs2 : (m == n) = true := by simp [hs]
      clear h0 hs
      go_enter Try.func27, Try.ntmps27
      go_wp2_with fail
      refine (wboth_calls n m A A' c c' xs ys _ (H.out.below (below_alloc3 _ _ _ _)) (H'.out.below (below_alloc3 _ _ _ _))).mono ?_
      rintro e w1 ⟨rfl, hb1⟩
      have B1 := Q.hid ((((Bx.new w n (.slice A xs.length c)).alloc (.cells #[.bool m, .slice A' ys.length c'] 24)).alloc (.cells #[.bool false, .slice none 0 0] 24)).below hb1)
      have B2 := Q.hid (((Bx.new (w.alloc (.cells #[.bool n, .slice A xs.length c] 24)) m (.slice A' ys.length c')).alloc (.cells #[.bool false, .slice none 0 0] 24)).below hb1)
      have B3 := Q.hid ((Bx.new ((w.alloc (.cells #[.bool n, .slice A xs.length c] 24)).alloc (.cells #[.bool m, .slice A' ys.length c'] 24)) false (.slice none 0 0)).below hb1)
      simp only [World.size_alloc] at B2 B3
      have HB := Q.hid ((below_alloc3 w _ _ _).trans (hb1.mono (by simp; omega)))
      have hg3 : w.heap.size + 1 + 1 < w1.heap.size := B3.out.lt
      clear hb1
      have k10 := B1.out.c0
      have k11 := B1.out.c1
      have k20 := B2.out.c0
      have k21 := B2.out.c1
      go_wp2_with fail
      refine (Add_calls A A' c c' xs ys _ (H.out.below HB.out) (H'.out.below HB.out)).mono ?_
      rintro e w2 ⟨v, rfl, ho, hb⟩
      rw [HS.out] at ho
      obtain ⟨A2, c2, e2, _⟩ := ho.slice
      subst e2
      have HO := Q.hid ho
      have B1 := Q.hid (B1.out.below hb)
      have B2 := Q.hid (B2.out.below hb)
      have B3 := Q.hid (B3.out.below hb)
      have HB := Q.hid (bs2 HB.out hb)
      clear ho hb
      clear k10 k11 k20 k21
      have k10 := B1.out.c0
      have k11 := B1.out.c1
      have k20 := B2.out.c0
      have k21 := B2.out.c1
      go_wp2_with fail
      refine (wmade_calls n A2 c2 w1.heap.size (nwd (val xs + val ys)) _ HO.out).mono ?_
      rintro e w3 ⟨A3, c3, rfl, ho, hb⟩
      have HO := Q.hid ho
      have B3 := Q.hid (B3.out.below hb)
      have HB := Q.hid (bs2 HB.out hb)
      clear ho hb
      have k30 := B3.out.c0
      have k31 := B3.out.c1
      have f30 := B3.out.f0
      have f31 := B3.out.f1
      go_wp2
      refine bodyPost_ret (by rw [results_cell_tmp rfl]; go_simp; rfl) rfl ?_
      exact ⟨A3, c3, by rw [HF.out], by rw [HF.out]; exact far2 HO.out hg3 (by omega) _ _, below_set2 HB.out (by omega) _ _⟩
    · by_cases hv : val xs < val ys
      · have HS : Hid (subS ys xs = (nwd (val ys - val xs), 0)) := subS_of (chkW2_zero.2 ⟨(chkW2_zero.1 h0).2, (chkW2_zero.1 h0).1⟩) (by omega)
        have HF : Hid (addW n xs m ys = mdW m (nwd (val ys - val xs))) := by
          unfold addW; rw [if_pos h0, mdW_sg (by omega), add_diff (Ne.symm hs), Int.add_comm]; rfl
        have hc : cmp (val xs) (val ys) = -1 := cmp_lt hv
        have hc0 : decide (cmp (val xs) (val ys) < 0) = true := by rw [hc]; rfl
        have hs1 : (n == m) = false := by simp [hs]
        have hs2 : (m == n) = false := by simp [Ne.symm hs]
        clear h0 hs hv
        clear hc
        go_enter Try.func27, Try.ntmps27
        go_wp2_with fail
        refine (wboth_calls n m A A' c c' xs ys _ (H.out.below (below_alloc3 _ _ _ _)) (H'.out.below (below_alloc3 _ _ _ _))).mono ?_
        rintro e w1 ⟨rfl, hb1⟩
        have B1 := Q.hid ((((Bx.new w n (.slice A xs.length c)).alloc (.cells #[.bool m, .slice A' ys.length c'] 24)).alloc (.cells #[.bool false, .slice none 0 0] 24)).below hb1)
        have B2 := Q.hid (((Bx.new (w.alloc (.cells #[.bool n, .slice A xs.length c] 24)) m (.slice A' ys.length c')).alloc (.cells #[.bool false, .slice none 0 0] 24)).below hb1)
        have B3 := Q.hid ((Bx.new ((w.alloc (.cells #[.bool n, .slice A xs.length c] 24)).alloc (.cells #[.bool m, .slice A' ys.length c'] 24)) false (.slice none 0 0)).below hb1)
        simp only [World.size_alloc] at B2 B3
        have HB := Q.hid ((below_alloc3 w _ _ _).trans (hb1.mono (by simp; omega)))
        have hg3 : w.heap.size + 1 + 1 < w1.heap.size := B3.out.lt
        clear hb1
        have k10 := B1.out.c0
        have k11 := B1.out.c1
        have k20 := B2.out.c0
        have k21 := B2.out.c1
        have f10 := B1.out.f0
        have f11 := B1.out.f1
        have f20 := B2.out.f0
        have f21 := B2.out.f1
        go_wp2_with fail
        refine (Compare_calls A A' c c' xs ys _ (H.out.below HB.out) (H'.out.below HB.out)).mono ?_
        rintro e w2 ⟨rfl, ⟨q, rfl⟩⟩
        have B1 := Q.hid (B1.out.below (below_dr w1 q))
        have B2 := Q.hid (B2.out.below (below_dr w1 q))
        have B3 := Q.hid (B3.out.below (below_dr w1 q))
        have HB := Q.hid (bs2 HB.out (below_dr w1 q))
        clear k10 k11 k20 k21 f10 f11 f20 f21
        have k10 := B1.out.c0
        have k11 := B1.out.c1
        have k20 := B2.out.c0
        have k21 := B2.out.c1
        have f10 := B1.out.f0
        have f11 := B1.out.f1
        have f20 := B2.out.f0
        have f21 := B2.out.f1
        have hgq : w.heap.size + 1 + 1 < (w1.drewN q).heap.size := B3.out.lt
        have B1 := Q.hid (((B1.out.over m (.slice A' ys.length c')).far (g' := w.heap.size + 1) (by omega) 0 (.bool n)).far (g' := w.heap.size + 1) (by omega) 1 (.slice A xs.length c))
        have B2 := Q.hid (((B2.out.far (g' := w.heap.size) (by omega) 0 (.bool m)).far (g' := w.heap.size) (by omega) 1 (.slice A' ys.length c')).over n (.slice A xs.length c))
        have B3 := Q.hid ((((B3.out.far (g' := w.heap.size) (by omega) 0 (.bool m)).far (g' := w.heap.size) (by omega) 1 (.slice A' ys.length c')).far (g' := w.heap.size + 1) (by omega) 0 (.bool n)).far (g' := w.heap.size + 1) (by omega) 1 (.slice A xs.length c))
        have HB := Q.hid ((((HB.out.setCell (p := ⟨w.heap.size, 0, none⟩) (Nat.le_refl _) (.bool m)).setCell (p := ⟨w.heap.size, 1, none⟩) (Nat.le_refl _) (.slice A' ys.length c')).setCell (p := ⟨w.heap.size + 1, 0, none⟩) (Nat.le_succ _) (.bool n)).setCell (p := ⟨w.heap.size + 1, 1, none⟩) (Nat.le_succ _) (.slice A xs.length c))
        go_wp2_with fail
        refine (Sub_calls A' A c' c ys xs _ (H'.out.below HB.out) (H.out.below HB.out)).mono ?_
        rintro e w3 ⟨v, rfl, ho, hb⟩
        rw [HS.out] at ho
        obtain ⟨A3, c3, e3, _⟩ := ho.slice
        subst e3
        have ho2 : Ow w3 58 w1.heap.size (.slice A3 (nwd (val ys - val xs)).length c3) (nwd (val ys - val xs)) := by simpa [World.size_setCell] using ho
        have HO := Q.hid ho2
        clear ho2
        have B1 := Q.hid (B1.out.below hb)
        have B2 := Q.hid (B2.out.below hb)
        have B3 := Q.hid (B3.out.below hb)
        have HB := Q.hid (bs2 HB.out hb)
        clear ho hb
        clear k10 k11 k20 k21 f10 f11 f20 f21
        have k10 := B1.out.c0
        have k11 := B1.out.c1
        have k20 := B2.out.c0
        have k21 := B2.out.c1
        go_wp2_with fail
        refine (wmade_calls m A3 c3 w1.heap.size (nwd (val ys - val xs)) _ HO.out).mono ?_
        rintro e w4 ⟨A4, c4, rfl, ho, hb⟩
        have HO := Q.hid ho
        have B3 := Q.hid (B3.out.below hb)
        have HB := Q.hid (bs2 HB.out hb)
        clear ho hb
        have k30 := B3.out.c0
        have k31 := B3.out.c1
        have f30 := B3.out.f0
        have f31 := B3.out.f1
        go_wp2
        refine bodyPost_ret (by rw [results_cell_tmp rfl]; go_simp; rfl) rfl ?_
        exact ⟨A4, c4, by rw [HF.out], by rw [HF.out]; exact far2 HO.out hg3 (by omega) _ _, below_set2 HB.out (by omega) _ _⟩
      · have HS : Hid (subS xs ys = (nwd (val xs - val ys), 0)) := subS_of h0 (by omega)
        have HF : Hid (addW n xs m ys = mdW n (nwd (val xs - val ys))) := by
          unfold addW; rw [if_pos h0, mdW_sg (by omega), add_diff hs]; rfl
        have hc0 : decide (cmp (val xs) (val ys) < 0) = false := by unfold cmp; rw [if_neg hv]; split <;> rfl
        have hs1 : (n == m) = false := by simp [hs]
        have hs2 : (m == n) = false := by simp [Ne.symm hs]
        clear h0 hs hv
        go_enter Try.func27, Try.ntmps27
        go_wp2_with fail
        refine (wboth_calls n m A A' c c' xs ys _ (H.out.below (below_alloc3 _ _ _ _)) (H'.out.below (below_alloc3 _ _ _ _))).mono ?_
        rintro e w1 ⟨rfl, hb1⟩
        have B1 := Q.hid ((((Bx.new w n (.slice A xs.length c)).alloc (.cells #[.bool m, .slice A' ys.length c'] 24)).alloc (.cells #[.bool false, .slice none 0 0] 24)).below hb1)
        have B2 := Q.hid (((Bx.new (w.alloc (.cells #[.bool n, .slice A xs.length c] 24)) m (.slice A' ys.length c')).alloc (.cells #[.bool false, .slice none 0 0] 24)).below hb1)
        have B3 := Q.hid ((Bx.new ((w.alloc (.cells #[.bool n, .slice A xs.length c] 24)).alloc (.cells #[.bool m, .slice A' ys.length c'] 24)) false (.slice none 0 0)).below hb1)
        simp only [World.size_alloc] at B2 B3
        have HB := Q.hid ((below_alloc3 w _ _ _).trans (hb1.mono (by simp; omega)))
        have hg3 : w.heap.size + 1 + 1 < w1.heap.size := B3.out.lt
        clear hb1
        have k10 := B1.out.c0
        have k11 := B1.out.c1
        have k20 := B2.out.c0
        have k21 := B2.out.c1
        go_wp2_with fail
        refine (Compare_calls A A' c c' xs ys _ (H.out.below HB.out) (H'.out.below HB.out)).mono ?_
        rintro e w2 ⟨rfl, ⟨q, rfl⟩⟩
        have B1 := Q.hid (B1.out.below (below_dr w1 q))
        have B2 := Q.hid (B2.out.below (below_dr w1 q))
        have B3 := Q.hid (B3.out.below (below_dr w1 q))
        have HB := Q.hid (bs2 HB.out (below_dr w1 q))
        clear k10 k11 k20 k21
        have k10 := B1.out.c0
        have k11 := B1.out.c1
        have k20 := B2.out.c0
        have k21 := B2.out.c1
        go_wp2_with fail
        refine (Sub_calls A A' c c' xs ys _ (H.out.below HB.out) (H'.out.below HB.out)).mono ?_
        rintro e w3 ⟨v, rfl, ho, hb⟩
        rw [HS.out] at ho
        obtain ⟨A3, c3, e3, _⟩ := ho.slice
        subst e3
        have HO := Q.hid ho
        have B1 := Q.hid (B1.out.below hb)
        have B2 := Q.hid (B2.out.below hb)
        have B3 := Q.hid (B3.out.below hb)
        have HB := Q.hid (bs2 HB.out hb)
        clear ho hb
        clear k10 k11 k20 k21
        have k10 := B1.out.c0
        have k11 := B1.out.c1
        have k20 := B2.out.c0
        have k21 := B2.out.c1
        go_wp2_with fail
        refine (wmade_calls n A3 c3 w1.heap.size (nwd (val xs - val ys)) _ HO.out).mono ?_
        rintro e w4 ⟨A4, c4, rfl, ho, hb⟩
        have HO := Q.hid ho
        have B3 := Q.hid (B3.out.below hb)
        have HB := Q.hid (bs2 HB.out hb)
        clear ho hb
        have k30 := B3.out.c0
        have k31 := B3.out.c1
        have f30 := B3.out.f0
        have f31 := B3.out.f1
        go_wp2
        refine bodyPost_ret (by rw [results_cell_tmp rfl]; go_simp; rfl) rfl ?_
        exact ⟨A4, c4, by rw [HF.out], by rw [HF.out]; exact far2 HO.out hg3 (by omega) _ _, below_set2 HB.out (by omega) _ _⟩
  · have hb0 : (chkW2 n xs m ys != 0) = true := by simp [h0]
    have HF : Hid (addW n xs m ys = noW (chkW2 n xs m ys)) := if_neg h0
    clear h0
    go_enter Try.func27, Try.ntmps27
    go_wp2_with fail
    refine (wboth_calls n m A A' c c' xs ys _ (H.out.below (below_alloc3 _ _ _ _)) (H'.out.below (below_alloc3 _ _ _ _))).mono ?_
    rintro e w1 ⟨rfl, hb1⟩
    have B1 := Q.hid ((((Bx.new w n (.slice A xs.length c)).alloc (.cells #[.bool m, .slice A' ys.length c'] 24)).alloc (.cells #[.bool false, .slice none 0 0] 24)).below hb1)
    have B2 := Q.hid (((Bx.new (w.alloc (.cells #[.bool n, .slice A xs.length c] 24)) m (.slice A' ys.length c')).alloc (.cells #[.bool false, .slice none 0 0] 24)).below hb1)
    have B3 := Q.hid ((Bx.new ((w.alloc (.cells #[.bool n, .slice A xs.length c] 24)).alloc (.cells #[.bool m, .slice A' ys.length c'] 24)) false (.slice none 0 0)).below hb1)
    simp only [World.size_alloc] at B2 B3
    have HB := Q.hid ((below_alloc3 w _ _ _).trans (hb1.mono (by simp; omega)))
    have hg3 : w.heap.size + 1 + 1 < w1.heap.size := B3.out.lt
    clear hb1
    have k30 := B3.out.c0
    have k31 := B3.out.c1
    have f30 := B3.out.f0
    have f31 := B3.out.f1
    go_wp2
    refine bodyPost_ret (by rw [results_cell_tmp rfl]; go_simp; rfl) rfl ?_
    exact ⟨none, 0, by rw [HF.out]; rfl, by rw [HF.out]; exact Ow.nil _ _ _, below_set2 HB.out (by omega) _ _⟩

set_option maxHeartbeats 1000000 in
theorem wNeg_calls (n : Bool) (A : Option Addr) (c : Nat) (xs : List Int) (w : World) (h : In w A c xs) :
    Calls Try.prog 25 #[.agg #[.bool n, .slice A xs.length c]] w fun e w' => ∃ B d, e = .returned (.tuple #[.agg #[.bool (negW n xs).neg, .slice B (negW n xs).ws.length d], .int .i64 (negW n xs).err]) ∧ Ow w' 58 w.heap.size (.slice B (negW n xs).ws.length d) (negW n xs).ws ∧ Below w.heap.size w w' := by
  have H := Q.hid h
  have hw := h.wds
  clear h
  by_cases h0 : chkW n xs = 0
  · have hb0 : (chkW n xs != 0) = false := by simp [h0]
    have HF : Hid (negW n xs = mdW (!n) xs) := by
      have e : nwd (val xs) = xs := nwd_eq hw (chkW_zero.1 h0).2.1 rfl
      have k : negW n xs = mdW (!n) (nwd (val xs)) := by
        unfold negW; rw [if_pos h0, mdW_sg (val_nonneg hw)]
        rw [sg_not, wv_sg]
      rw [e] at k; exact k
    clear h0
    go_enter Try.func25, Try.ntmps25
    go_wp2_with fail
    refine (wCheck_calls n A c xs _ (H.out.below (below_alloc2 _ _ _))).mono ?_
    rintro e w1 ⟨rfl, hb1⟩
    have B1 := Q.hid (((Bx.new w n (.slice A xs.length c)).alloc (.cells #[.bool false, .slice none 0 0] 24)).below hb1)
    have B3 := Q.hid ((Bx.new (w.alloc (.cells #[.bool n, .slice A xs.length c] 24)) false (.slice none 0 0)).below hb1)
    simp only [World.size_alloc] at B3
    have HB := Q.hid ((below_alloc2 w _ _).trans (hb1.mono (by simp; omega)))
    have hg3 : w.heap.size + 1 < w1.heap.size := B3.out.lt
    clear hb1
    have k10 := B1.out.c0
    have k11 := B1.out.c1
    go_wp2
    go_region_with (first
      | (go_at_call 51
         refine (own_calls A c xs _ ?_).mono ?_
         exact ⟨(H.out.below HB.out).rd, H.out.cap, H.out.small, H.out.wds⟩
         rintro e w2 ⟨v, rfl, ho, hb⟩
         obtain ⟨A2, c2, e2, _⟩ := ho.slice
         subst e2
         have hbb : Below w1.heap.size w1 w2 := ⟨hb.os, hb.tape, hb.output, hb.size, hb.block⟩
         have HO : Hid (Ow w2 58 w1.heap.size (.slice A2 xs.length c2) xs) := ho
         have B1 := Q.hid (B1.out.below hbb)
         have B3 := Q.hid (B3.out.below hbb)
         have HB := Q.hid (bs2 HB.out hbb)
         clear ho hb hbb k10 k11
         have k10 := B1.out.c0
         have k11 := B1.out.c1)
      | (go_at_call 45
         refine (wmade_calls (!n) A2 c2 w1.heap.size xs _ ?_).mono ?_
         exact HO.out
         rintro e w3 ⟨A3, c3, rfl, ho, hb⟩
         have hbb : Below w2.heap.size w2 w3 := ⟨hb.os, hb.tape, hb.output, hb.size, hb.block⟩
         have HO := Q.hid ho
         have B3 := Q.hid (B3.out.below hbb)
         have HB := Q.hid (bs2 HB.out hbb)
         clear ho hb hbb
         have k30 := B3.out.c0
         have k31 := B3.out.c1
         have f30 := B3.out.f0
         have f31 := B3.out.f1))
    all_goals
      go_wp2
      refine bodyPost_ret (by rw [results_cell_tmp rfl]; go_simp; rfl) rfl ?_
      exact ⟨A3, c3, by rw [HF.out], by rw [HF.out]; exact far2 HO.out hg3 (by omega) _ _, below_set2 HB.out (by omega) _ _⟩
  · have hb0 : (chkW n xs != 0) = true := by simp [h0]
    have HF : Hid (negW n xs = noW (chkW n xs)) := if_neg h0
    clear h0
    go_enter Try.func25, Try.ntmps25
    go_wp2_with fail
    refine (wCheck_calls n A c xs _ (H.out.below (below_alloc2 _ _ _))).mono ?_
    rintro e w1 ⟨rfl, hb1⟩
    have B1 := Q.hid (((Bx.new w n (.slice A xs.length c)).alloc (.cells #[.bool false, .slice none 0 0] 24)).below hb1)
    have B3 := Q.hid ((Bx.new (w.alloc (.cells #[.bool n, .slice A xs.length c] 24)) false (.slice none 0 0)).below hb1)
    simp only [World.size_alloc] at B3
    have HB := Q.hid ((below_alloc2 w _ _).trans (hb1.mono (by simp; omega)))
    have hg3 : w.heap.size + 1 < w1.heap.size := B3.out.lt
    clear hb1
    have k30 := B3.out.c0
    have k31 := B3.out.c1
    have f30 := B3.out.f0
    have f31 := B3.out.f1
    go_wp2
    refine bodyPost_ret (by rw [results_cell_tmp rfl]; go_simp; rfl) rfl ?_
    exact ⟨none, 0, by rw [HF.out]; rfl, by rw [HF.out]; exact Ow.nil _ _ _, below_set2 HB.out (by omega) _ _⟩

set_option maxHeartbeats 1000000 in
theorem wAbs_calls (n : Bool) (A : Option Addr) (c : Nat) (xs : List Int) (w : World) (h : In w A c xs) :
    Calls Try.prog 26 #[.agg #[.bool n, .slice A xs.length c]] w fun e w' => ∃ B d, e = .returned (.tuple #[.agg #[.bool (absW n xs).neg, .slice B (absW n xs).ws.length d], .int .i64 (absW n xs).err]) ∧ Ow w' 58 w.heap.size (.slice B (absW n xs).ws.length d) (absW n xs).ws ∧ Below w.heap.size w w' := by
  have H := Q.hid h
  have hw := h.wds
  clear h
  by_cases h0 : chkW n xs = 0
  · have hb0 : (chkW n xs != 0) = false := by simp [h0]
    have HF : Hid (absW n xs = mdW false xs) := by
      have e : nwd (val xs) = xs := nwd_eq hw (chkW_zero.1 h0).2.1 rfl
      have k : absW n xs = mdW false (nwd (val xs)) := by
        unfold absW; rw [if_pos h0, mdW_sg (val_nonneg hw)]
        rw [wv_natAbs hw]; rfl
      rw [e] at k; exact k
    clear h0
    go_enter Try.func26, Try.ntmps26
    go_wp2_with fail
    refine (wCheck_calls n A c xs _ (H.out.below (below_alloc2 _ _ _))).mono ?_
    rintro e w1 ⟨rfl, hb1⟩
    have B1 := Q.hid (((Bx.new w n (.slice A xs.length c)).alloc (.cells #[.bool false, .slice none 0 0] 24)).below hb1)
    have B3 := Q.hid ((Bx.new (w.alloc (.cells #[.bool n, .slice A xs.length c] 24)) false (.slice none 0 0)).below hb1)
    simp only [World.size_alloc] at B3
    have HB := Q.hid ((below_alloc2 w _ _).trans (hb1.mono (by simp; omega)))
    have hg3 : w.heap.size + 1 < w1.heap.size := B3.out.lt
    clear hb1
    have k10 := B1.out.c0
    have k11 := B1.out.c1
    go_wp2_with fail
    refine (own_calls A c xs _ (H.out.below HB.out)).mono ?_
    rintro e w2 ⟨v, rfl, ho, hb⟩
    obtain ⟨A2, c2, e2, _⟩ := ho.slice
    subst e2
    have HO := Q.hid ho
    have B3 := Q.hid (B3.out.below hb)
    have HB := Q.hid (bs2 HB.out hb)
    clear ho hb k10 k11
    go_wp2_with fail
    refine (wmade_calls false A2 c2 w1.heap.size xs _ HO.out).mono ?_
    rintro e w3 ⟨A3, c3, rfl, ho, hb⟩
    have HO := Q.hid ho
    have B3 := Q.hid (B3.out.below hb)
    have HB := Q.hid (bs2 HB.out hb)
    clear ho hb
    have k30 := B3.out.c0
    have k31 := B3.out.c1
    have f30 := B3.out.f0
    have f31 := B3.out.f1
    go_wp2
    refine bodyPost_ret (by rw [results_cell_tmp rfl]; go_simp; rfl) rfl ?_
    exact ⟨A3, c3, by rw [HF.out], by rw [HF.out]; exact far2 HO.out hg3 (by omega) _ _, below_set2 HB.out (by omega) _ _⟩
  · have hb0 : (chkW n xs != 0) = true := by simp [h0]
    have HF : Hid (absW n xs = noW (chkW n xs)) := if_neg h0
    clear h0
    go_enter Try.func26, Try.ntmps26
    go_wp2_with fail
    refine (wCheck_calls n A c xs _ (H.out.below (below_alloc2 _ _ _))).mono ?_
    rintro e w1 ⟨rfl, hb1⟩
    have B1 := Q.hid (((Bx.new w n (.slice A xs.length c)).alloc (.cells #[.bool false, .slice none 0 0] 24)).below hb1)
    have B3 := Q.hid ((Bx.new (w.alloc (.cells #[.bool n, .slice A xs.length c] 24)) false (.slice none 0 0)).below hb1)
    simp only [World.size_alloc] at B3
    have HB := Q.hid ((below_alloc2 w _ _).trans (hb1.mono (by simp; omega)))
    have hg3 : w.heap.size + 1 < w1.heap.size := B3.out.lt
    clear hb1
    have k30 := B3.out.c0
    have k31 := B3.out.c1
    have f30 := B3.out.f0
    have f31 := B3.out.f1
    go_wp2
    refine bodyPost_ret (by rw [results_cell_tmp rfl]; go_simp; rfl) rfl ?_
    exact ⟨none, 0, by rw [HF.out]; rfl, by rw [HF.out]; exact Ow.nil _ _ _, below_set2 HB.out (by omega) _ _⟩

end Go.Proofs.Ytidccoahjpjoaaa
