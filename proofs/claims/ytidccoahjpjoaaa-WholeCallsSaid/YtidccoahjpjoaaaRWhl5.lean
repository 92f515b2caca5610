/- The reference of layer 2: divisors, quotients and rests; what each call does. -/
import Derived.Test.YtidccoahjpjoaaaRWhl4
set_option linter.unusedVariables false
set_option linter.unusedSimpArgs false
namespace Go.Proofs.Ytidccoahjpjoaaa
open Go Go.RowKit Q

set_option maxHeartbeats 1000000 in
theorem rWGcd_calls (n m : Bool) (A A' : Option Addr) (c c' : Nat) (xs ys : List Int) (w : World) (h : In w A c xs) (h' : In w A' c' ys) :
    Calls Try.prog 40 #[.agg #[.bool n, .slice A xs.length c], .agg #[.bool m, .slice A' ys.length c']] w fun e w' => ∃ B d, e = .returned (.tuple #[.agg #[.bool (gcdW n xs m ys).neg, .slice B (gcdW n xs m ys).ws.length d], .int .i64 (gcdW n xs m ys).err]) ∧ Ow w' 58 w.heap.size (.slice B (gcdW n xs m ys).ws.length d) (gcdW n xs m ys).ws ∧ Below w.heap.size w w' := by
  have H := Q.hid h
  have H' := Q.hid h'
  by_cases h0 : chkW2 n xs m ys = 0
  · have hb0 : (chkW2 n xs m ys != 0) = false := by simp [h0]
    have hc := chkW2_zero.1 h0
    have hcx := chkW_zero.1 hc.1
    have hcy := chkW_zero.1 hc.2
    have htx := hcx.2.1
    have hty := hcy.2.1
    have hlx : xs.length ≤ 2048 := hcx.1
    have hly : ys.length ≤ 2048 := hcy.1
    have hg0 := gc_nonneg (val xs) (val ys)
    have hg1 := gc_le (val_nonneg h.wds) (val_nonneg h'.wds) (Bp 2048 - 1) (by have := val_lt_len h.wds hlx; omega) (by have := val_lt_len h'.wds hly; omega)
    have hgl : (nwd (gc (val xs) (val ys))).length ≤ 2048 := nwd_len_le (by omega) hg0
    have HF : Hid (gcdW n xs m ys = ⟨cn (gc (val xs) (val ys)), cw (gc (val xs) (val ys)), 0⟩) := (if_pos h0).trans (toldW_can (by unfold Sh; omega))
    have HV : Hid (wv false (nwd (gc (val xs) (val ys))) = gc (val xs) (val ys)) := wv_nwd hg0 false
    have HTX := Q.hid htx
    have HTY := Q.hid hty
    clear h h' h0 hc hcx hcy htx hty hg0 hg1
    obtain ⟨W, hW⟩ : ∃ W, W = (((w.alloc (.cells #[.bool n, .slice A xs.length c] 24)).alloc (.cells #[.bool m, .slice A' ys.length c'] 24)).alloc (.cells #[.bool false, .slice none 0 0] 24)) := ⟨_, rfl⟩
    have B1 : Hid (Bx W w.heap.size n (.slice A xs.length c)) := by rw [hW]; exact (((Bx.new w n (.slice A xs.length c)).alloc _).alloc _)
    have B2 : Hid (Bx W (w.heap.size + 1) m (.slice A' ys.length c')) := by
      have := ((Bx.new (w.alloc (.cells #[.bool n, .slice A xs.length c] 24)) m (.slice A' ys.length c')).alloc (.cells #[.bool false, .slice none 0 0] 24))
      simp only [World.size_alloc] at this
      rw [hW]; exact this
    have B3 : Hid (Bx W (w.heap.size + 1 + 1) false (.slice none 0 0)) := by
      have := Bx.new ((w.alloc (.cells #[.bool n, .slice A xs.length c] 24)).alloc (.cells #[.bool m, .slice A' ys.length c'] 24)) false (.slice none 0 0)
      simp only [World.size_alloc] at this
      rw [hW]; exact this
    have HB : Hid (Below w.heap.size w W) := by rw [hW]; exact below_alloc3 w _ _ _
    have hg3 : w.heap.size + 1 + 1 < W.heap.size := B3.out.lt
    have HX : Hid (In W A c xs) := H.out.below HB.out
    have HX' : Hid (In W A' c' ys) := H'.out.below HB.out
    have k10 := B1.out.c0
    have k11 := B1.out.c1
    have k20 := B2.out.c0
    have k21 := B2.out.c1
    go_enter Try.func40, Try.ntmps40
    go_wp2_with fail
    rw [← hW]
    clear hW
    refine (rWboth_calls n m A A' c c' xs ys _ HX.out HX'.out).mono ?_
    rintro e w1 ⟨rfl, hb⟩
    have HX := Q.hid (HX.out.below hb)
    have HX' := Q.hid (HX'.out.below hb)
    have hg3 : w.heap.size + 1 + 1 < w1.heap.size := Nat.lt_of_lt_of_le hg3 hb.size
    have B1 := Q.hid (B1.out.below hb)
    have B2 := Q.hid (B2.out.below hb)
    have B3 := Q.hid (B3.out.below hb)
    have HB := Q.hid (bs2 HB.out hb)
    clear hb k10 k11 k20 k21
    have k10 := B1.out.c0
    have k11 := B1.out.c1
    have k20 := B2.out.c0
    have k21 := B2.out.c1
    go_wp2_with fail
    refine (Common_calls A A' c c' xs ys _ HX.out HX'.out HTX.out HTY.out (by omega) (by omega)).mono ?_
    rintro e w2 ⟨v, rfl, ho, hb⟩
    obtain ⟨A2, c2, e2, i2⟩ := ho.inn (nwd_wds _) (by omega)
    subst e2
    have HI := Q.hid i2
    have hg3 : w.heap.size + 1 + 1 < w2.heap.size := Nat.lt_of_lt_of_le hg3 hb.size
    have B3 := Q.hid (B3.out.below hb)
    have HB := Q.hid (bs2 HB.out hb)
    clear ho hb i2 k10 k11 k20 k21
    go_wp2_with fail
    refine (rmade_calls false A2 c2 (nwd (gc (val xs) (val ys))) _ HI.out).mono ?_
    rintro e w3 ⟨A3, c3, rfl, ho, hb⟩
    rw [HV.out] at ho ⊢
    have HO := Q.hid ho
    have B3 := Q.hid (B3.out.below hb)
    have HB := Q.hid (bs2 HB.out hb)
    clear ho hb
    have k30 := B3.out.c0
    have k31 := B3.out.c1
    have f30 := B3.out.f0
    have f31 := B3.out.f1
    go_wp2
    refine bodyPost_ret (by rw [results_cell_tmp rfl]; go_simp; rfl) rfl ?_
    exact ⟨A3, c3, by rw [HF.out], by rw [HF.out]; exact far2 HO.out hg3 (by omega) _ _, below_set2 HB.out (by omega) _ _⟩
  · have hb0 : (chkW2 n xs m ys != 0) = true := by simp [h0]
    have HF : Hid (gcdW n xs m ys = noW (chkW2 n xs m ys)) := if_neg h0
    clear h h' h0
    obtain ⟨W, hW⟩ : ∃ W, W = (((w.alloc (.cells #[.bool n, .slice A xs.length c] 24)).alloc (.cells #[.bool m, .slice A' ys.length c'] 24)).alloc (.cells #[.bool false, .slice none 0 0] 24)) := ⟨_, rfl⟩
    have B1 : Hid (Bx W w.heap.size n (.slice A xs.length c)) := by rw [hW]; exact (((Bx.new w n (.slice A xs.length c)).alloc _).alloc _)
    have B2 : Hid (Bx W (w.heap.size + 1) m (.slice A' ys.length c')) := by
      have := ((Bx.new (w.alloc (.cells #[.bool n, .slice A xs.length c] 24)) m (.slice A' ys.length c')).alloc (.cells #[.bool false, .slice none 0 0] 24))
      simp only [World.size_alloc] at this
      rw [hW]; exact this
    have B3 : Hid (Bx W (w.heap.size + 1 + 1) false (.slice none 0 0)) := by
      have := Bx.new ((w.alloc (.cells #[.bool n, .slice A xs.length c] 24)).alloc (.cells #[.bool m, .slice A' ys.length c'] 24)) false (.slice none 0 0)
      simp only [World.size_alloc] at this
      rw [hW]; exact this
    have HB : Hid (Below w.heap.size w W) := by rw [hW]; exact below_alloc3 w _ _ _
    have hg3 : w.heap.size + 1 + 1 < W.heap.size := B3.out.lt
    have HX : Hid (In W A c xs) := H.out.below HB.out
    have HX' : Hid (In W A' c' ys) := H'.out.below HB.out
    go_enter Try.func40, Try.ntmps40
    go_wp2_with fail
    rw [← hW]
    clear hW
    refine (rWboth_calls n m A A' c c' xs ys _ HX.out HX'.out).mono ?_
    rintro e w1 ⟨rfl, hb⟩
    have B3 := Q.hid (B3.out.below hb)
    have HB := Q.hid (bs2 HB.out hb)
    clear hb
    have k30 := B3.out.c0
    have k31 := B3.out.c1
    have f30 := B3.out.f0
    have f31 := B3.out.f1
    go_wp2
    refine bodyPost_ret (by rw [results_cell_tmp rfl]; go_simp; rfl) rfl ?_
    exact ⟨none, 0, by rw [HF.out]; rfl, by rw [HF.out]; exact Ow.nil _ _ _, below_set2 HB.out (by omega) _ _⟩

end Go.Proofs.Ytidccoahjpjoaaa
