/- The reference of layer 2: what is told of one and of two numbers; what each call does. -/
import Derived.Test.YtidccoahjpjoaaaRWhl2
set_option linter.unusedVariables false
set_option linter.unusedSimpArgs false
namespace Go.Proofs.Ytidccoahjpjoaaa
open Go Go.RowKit Q

theorem cw_wv_len {n : Bool} {xs : List Int} (h : Wds xs) : (cw (wv n xs)).length ≤ xs.length := cw_len (by rw [wv_natAbs h]; exact val_lt h)
theorem cw_opp_len {n : Bool} {xs : List Int} (h : Wds xs) : (cw (-wv n xs)).length ≤ xs.length := cw_len (by rw [Int.natAbs_neg, wv_natAbs h]; exact val_lt h)

set_option maxHeartbeats 2000000 in
theorem rWLess_calls (n m : Bool) (A A' : Option Addr) (c c' : Nat) (xs ys : List Int) (w : World) (h : In w A c xs) (h' : In w A' c' ys) (ht : Tr xs) (hl : xs.length ≤ 100000) (hl' : ys.length ≤ 100000) :
    Calls Try.prog 69 #[.agg #[.bool n, .slice A xs.length c], .agg #[.bool m, .slice A' ys.length c']] w fun e w' => ∃ B d, e = .returned (.agg #[.bool (cn (wv n xs - wv m ys)), .slice B (cw (wv n xs - wv m ys)).length d]) ∧ Ow w' 58 w.heap.size (.slice B (cw (wv n xs - wv m ys)).length d) (cw (wv n xs - wv m ys)) ∧ Below w.heap.size w w' := by
  have H := Q.hid h
  have H' := Q.hid h'
  have HV : Hid (wv n xs + wv (cn (-wv m ys)) (cw (-wv m ys)) = wv n xs - wv m ys) := by rw [wv_can]; exact (Int.sub_eq_add_neg).symm
  have hlo : (cw (-wv m ys)).length ≤ 100000 := Nat.le_trans (cw_opp_len h'.wds) hl'
  clear h h'
  obtain ⟨W, hW⟩ : ∃ W, W = (((w.alloc (.cells #[.bool n, .slice A xs.length c] 24)).alloc (.cells #[.bool m, .slice A' ys.length c'] 24)).alloc (.cells #[.bool false, .slice none 0 0] 24)) := ⟨_, rfl⟩
  have B1 : Hid (Bx W w.heap.size n (.slice A xs.length c)) := by rw [hW]; exact (((Bx.new w n (.slice A xs.length c)).alloc _).alloc _)
  have B2 : Hid (Bx W (w.heap.size + 1) m (.slice A' ys.length c')) := by
    have := ((Bx.new (w.alloc (.cells #[.bool n, .slice A xs.length c] 24)) m (.slice A' ys.length c')).alloc (.cells #[.bool false, .slice none 0 0] 24))
    simp only [World.size_alloc] at this
    rw [hW]; exact this
  have B3 : Hid (Bx W (w.heap.size + 1 + 1) false (.slice none 0 0)) := by
    have := Bx.new ((w.alloc (.cells #[.bool n, .slice A xs.length c] 24)).alloc (.cells #[.bool m, .slice A' ys.length c'] 24)) false (.slice none 0 0)
    simp only [World.size_alloc] at this
    rw [hW]; exact this
  have HB : Hid (Below w.heap.size w W) := by rw [hW]; exact below_alloc3 w _ _ _
  have hg3 : w.heap.size + 1 + 1 < W.heap.size := B3.out.lt
  have HX : Hid (In W A c xs) := H.out.below HB.out
  have HX' : Hid (In W A' c' ys) := H'.out.below HB.out
  have k10 := B1.out.c0
  have k11 := B1.out.c1
  have k20 := B2.out.c0
  have k21 := B2.out.c1
  go_enter Try.func69, Try.ntmps69
  go_wp2
  rw [← hW]
  clear hW
  go_region_held3 (fun w' => w'.cell? ⟨w.heap.size, 0, none⟩ = some (.bool n) ∧ w'.cell? ⟨w.heap.size, 1, none⟩ = some (.slice A xs.length c) ∧ w'.cell? ⟨w.heap.size + 1, 0, none⟩ = some (.bool m) ∧ w'.cell? ⟨w.heap.size + 1, 1, none⟩ = some (.slice A' ys.length c')) (first | exact ⟨k10, k11, k20, k21⟩ | exact ⟨set2_cell (by omega) k10, set2_cell (by omega) k11, set2_cell (by omega) k20, set2_cell (by omega) k21⟩) (first
      | (go_at_call 65
         refine (Opposite_calls m A' c' ys _ ?_).mono ?_
         exact ⟨HX'.out.rd, HX'.out.cap, HX'.out.small, HX'.out.wds⟩
         rintro e w2 ⟨A2, c2, rfl, ho, hb⟩
         have hbb : Below W.heap.size W w2 := ⟨hb.os, hb.tape, hb.output, hb.size, hb.block⟩
         have HI : Hid (In w2 A2 c2 (cw (-wv m ys))) := ⟨ho.read.2.2.2, ho.read.2.1, by omega, cw_wds _⟩
         have hsz : W.heap.size ≤ w2.heap.size := hbb.size
         have B1 := Q.hid (B1.out.below hbb)
         have B2 := Q.hid (B2.out.below hbb)
         have B3 := Q.hid (B3.out.below hbb)
         have HB := Q.hid (bs2 HB.out hbb)
         have HX := Q.hid (HX.out.below hbb)
         clear ho hb hbb k10 k11 k20 k21
         have k10 := B1.out.c0
         have k11 := B1.out.c1
         have k20 := B2.out.c0
         have k21 := B2.out.c1)
      | (go_at_call 68
         refine (rPlus_calls n (cn (-wv m ys)) A A2 c c2 xs (cw (-wv m ys)) _ ?_ ?_ ht (cw_tr _) hl hlo).mono ?_
         exact ⟨HX.out.rd, HX.out.cap, HX.out.small, HX.out.wds⟩
         exact ⟨HI.out.rd, HI.out.cap, HI.out.small, HI.out.wds⟩
         rintro e w3 ⟨A3, c3, rfl, ho, hb⟩
         rw [HV.out] at ho ⊢
         have hbb : Below w2.heap.size w2 w3 := ⟨hb.os, hb.tape, hb.output, hb.size, hb.block⟩
         have HO : Hid (Ow w3 58 w2.heap.size (.slice A3 (cw (wv n xs - wv m ys)).length c3) (cw (wv n xs - wv m ys))) := ho
         have B1 := Q.hid (B1.out.below hbb)
         have B2 := Q.hid (B2.out.below hbb)
         have B3 := Q.hid (B3.out.below hbb)
         have HB := Q.hid (bs2 HB.out hbb)
         clear ho hb hbb k10 k11 k20 k21
         have k10 := B1.out.c0
         have k11 := B1.out.c1
         have k20 := B2.out.c0
         have k21 := B2.out.c1
         have k30 := B3.out.c0
         have k31 := B3.out.c1
         have f30 := B3.out.f0
         have f31 := B3.out.f1))
  all_goals
    go_wp2
    refine bodyPost_ret (by rw [results_cell1 rfl]; go_simp; rfl) rfl ?_
    exact ⟨A3, c3, rfl, far2 HO.out (by omega) (by omega) _ _, below_set2 HB.out (by omega) _ _⟩

set_option maxHeartbeats 1000000 in
theorem rWAdd_calls (n m : Bool) (A A' : Option Addr) (c c' : Nat) (xs ys : List Int) (w : World) (h : In w A c xs) (h' : In w A' c' ys) :
    Calls Try.prog 36 #[.agg #[.bool n, .slice A xs.length c], .agg #[.bool m, .slice A' ys.length c']] w fun e w' => ∃ B d, e = .returned (.tuple #[.agg #[.bool (addW n xs m ys).neg, .slice B (addW n xs m ys).ws.length d], .int .i64 (addW n xs m ys).err]) ∧ Ow w' 58 w.heap.size (.slice B (addW n xs m ys).ws.length d) (addW n xs m ys).ws ∧ Below w.heap.size w w' := by
  have H := Q.hid h
  have H' := Q.hid h'
  by_cases h0 : chkW2 n xs m ys = 0
  · have hb0 : (chkW2 n xs m ys != 0) = false := by simp [h0]
    have HF : Hid (addW n xs m ys = toldW (wv n xs + wv m ys)) := if_pos h0
    have hc := chkW2_zero.1 h0
    have hcx := chkW_zero.1 hc.1
    have hcy := chkW_zero.1 hc.2
    have htx := hcx.2.1
    have hty := hcy.2.1
    have hlx : xs.length ≤ 2048 := hcx.1
    have hly : ys.length ≤ 2048 := hcy.1
    have HTX := Q.hid htx
    have HTY := Q.hid hty
    clear h h' h0 hc hcx hcy htx hty
    obtain ⟨W, hW⟩ : ∃ W, W = (((w.alloc (.cells #[.bool n, .slice A xs.length c] 24)).alloc (.cells #[.bool m, .slice A' ys.length c'] 24)).alloc (.cells #[.bool false, .slice none 0 0] 24)) := ⟨_, rfl⟩
    have B1 : Hid (Bx W w.heap.size n (.slice A xs.length c)) := by rw [hW]; exact (((Bx.new w n (.slice A xs.length c)).alloc _).alloc _)
    have B2 : Hid (Bx W (w.heap.size + 1) m (.slice A' ys.length c')) := by
      have := ((Bx.new (w.alloc (.cells #[.bool n, .slice A xs.length c] 24)) m (.slice A' ys.length c')).alloc (.cells #[.bool false, .slice none 0 0] 24))
      simp only [World.size_alloc] at this
      rw [hW]; exact this
    have B3 : Hid (Bx W (w.heap.size + 1 + 1) false (.slice none 0 0)) := by
      have := Bx.new ((w.alloc (.cells #[.bool n, .slice A xs.length c] 24)).alloc (.cells #[.bool m, .slice A' ys.length c'] 24)) false (.slice none 0 0)
      simp only [World.size_alloc] at this
      rw [hW]; exact this
    have HB : Hid (Below w.heap.size w W) := by rw [hW]; exact below_alloc3 w _ _ _
    have hg3 : w.heap.size + 1 + 1 < W.heap.size := B3.out.lt
    have HX : Hid (In W A c xs) := H.out.below HB.out
    have HX' : Hid (In W A' c' ys) := H'.out.below HB.out
    have k10 := B1.out.c0
    have k11 := B1.out.c1
    have k20 := B2.out.c0
    have k21 := B2.out.c1
    go_enter Try.func36, Try.ntmps36
    go_wp2_with fail
    rw [← hW]
    clear hW
    refine (rWboth_calls n m A A' c c' xs ys _ HX.out HX'.out).mono ?_
    rintro e w1 ⟨rfl, hb⟩
    have HX := Q.hid (HX.out.below hb)
    have HX' := Q.hid (HX'.out.below hb)
    have hg3 : w.heap.size + 1 + 1 < w1.heap.size := Nat.lt_of_lt_of_le hg3 hb.size
    have B1 := Q.hid (B1.out.below hb)
    have B2 := Q.hid (B2.out.below hb)
    have B3 := Q.hid (B3.out.below hb)
    have HB := Q.hid (bs2 HB.out hb)
    clear hb k10 k11 k20 k21
    have k10 := B1.out.c0
    have k11 := B1.out.c1
    have k20 := B2.out.c0
    have k21 := B2.out.c1
    go_wp2_with fail
    refine (rPlus_calls n m A A' c c' xs ys _ HX.out HX'.out HTX.out HTY.out (by omega) (by omega)).mono ?_
    rintro e w2 ⟨A2, c2, rfl, ho, hb⟩
    have HO := Q.hid ho
    have B3 := Q.hid (B3.out.below hb)
    have HB := Q.hid (bs2 HB.out hb)
    clear ho hb k10 k11 k20 k21
    go_wp2_with fail
    refine (rWtold_calls (wv n xs + wv m ys) A2 c2 w1.heap.size _ HO.out).mono ?_
    rintro e w3 ⟨A3, c3, rfl, ho, hb⟩
    have HO := Q.hid ho
    have B3 := Q.hid (B3.out.below hb)
    have HB := Q.hid (bs2 HB.out hb)
    clear ho hb
    have k30 := B3.out.c0
    have k31 := B3.out.c1
    have f30 := B3.out.f0
    have f31 := B3.out.f1
    go_wp2
    refine bodyPost_ret (by rw [results_cell_tmp rfl]; go_simp; rfl) rfl ?_
    exact ⟨A3, c3, by rw [HF.out], by rw [HF.out]; exact far2 HO.out hg3 (by omega) _ _, below_set2 HB.out (by omega) _ _⟩
  · have hb0 : (chkW2 n xs m ys != 0) = true := by simp [h0]
    have HF : Hid (addW n xs m ys = noW (chkW2 n xs m ys)) := if_neg h0
    clear h h' h0
    obtain ⟨W, hW⟩ : ∃ W, W = (((w.alloc (.cells #[.bool n, .slice A xs.length c] 24)).alloc (.cells #[.bool m, .slice A' ys.length c'] 24)).alloc (.cells #[.bool false, .slice none 0 0] 24)) := ⟨_, rfl⟩
    have B1 : Hid (Bx W w.heap.size n (.slice A xs.length c)) := by rw [hW]; exact (((Bx.new w n (.slice A xs.length c)).alloc _).alloc _)
    have B2 : Hid (Bx W (w.heap.size + 1) m (.slice A' ys.length c')) := by
      have := ((Bx.new (w.alloc (.cells #[.bool n, .slice A xs.length c] 24)) m (.slice A' ys.length c')).alloc (.cells #[.bool false, .slice none 0 0] 24))
      simp only [World.size_alloc] at this
      rw [hW]; exact this
    have B3 : Hid (Bx W (w.heap.size + 1 + 1) false (.slice none 0 0)) := by
      have := Bx.new ((w.alloc (.cells #[.bool n, .slice A xs.length c] 24)).alloc (.cells #[.bool m, .slice A' ys.length c'] 24)) false (.slice none 0 0)
      simp only [World.size_alloc] at this
      rw [hW]; exact this
    have HB : Hid (Below w.heap.size w W) := by rw [hW]; exact below_alloc3 w _ _ _
    have hg3 : w.heap.size + 1 + 1 < W.heap.size := B3.out.lt
    have HX : Hid (In W A c xs) := H.out.below HB.out
    have HX' : Hid (In W A' c' ys) := H'.out.below HB.out
    go_enter Try.func36, Try.ntmps36
    go_wp2_with fail
    rw [← hW]
    clear hW
    refine (rWboth_calls n m A A' c c' xs ys _ HX.out HX'.out).mono ?_
    rintro e w1 ⟨rfl, hb⟩
    have B3 := Q.hid (B3.out.below hb)
    have HB := Q.hid (bs2 HB.out hb)
    clear hb
    have k30 := B3.out.c0
    have k31 := B3.out.c1
    have f30 := B3.out.f0
    have f31 := B3.out.f1
    go_wp2
    refine bodyPost_ret (by rw [results_cell_tmp rfl]; go_simp; rfl) rfl ?_
    exact ⟨none, 0, by rw [HF.out]; rfl, by rw [HF.out]; exact Ow.nil _ _ _, below_set2 HB.out (by omega) _ _⟩

set_option maxHeartbeats 1000000 in
theorem rWSub_calls (n m : Bool) (A A' : Option Addr) (c c' : Nat) (xs ys : List Int) (w : World) (h : In w A c xs) (h' : In w A' c' ys) :
    Calls Try.prog 37 #[.agg #[.bool n, .slice A xs.length c], .agg #[.bool m, .slice A' ys.length c']] w fun e w' => ∃ B d, e = .returned (.tuple #[.agg #[.bool (subW n xs m ys).neg, .slice B (subW n xs m ys).ws.length d], .int .i64 (subW n xs m ys).err]) ∧ Ow w' 58 w.heap.size (.slice B (subW n xs m ys).ws.length d) (subW n xs m ys).ws ∧ Below w.heap.size w w' := by
  have H := Q.hid h
  have H' := Q.hid h'
  by_cases h0 : chkW2 n xs m ys = 0
  · have hb0 : (chkW2 n xs m ys != 0) = false := by simp [h0]
    have HF : Hid (subW n xs m ys = toldW (wv n xs - wv m ys)) := if_pos h0
    have hc := chkW2_zero.1 h0
    have hcx := chkW_zero.1 hc.1
    have hcy := chkW_zero.1 hc.2
    have htx := hcx.2.1
    have hty := hcy.2.1
    have hlx : xs.length ≤ 2048 := hcx.1
    have hly : ys.length ≤ 2048 := hcy.1
    have HTX := Q.hid htx
    have HTY := Q.hid hty
    clear h h' h0 hc hcx hcy htx hty
    obtain ⟨W, hW⟩ : ∃ W, W = (((w.alloc (.cells #[.bool n, .slice A xs.length c] 24)).alloc (.cells #[.bool m, .slice A' ys.length c'] 24)).alloc (.cells #[.bool false, .slice none 0 0] 24)) := ⟨_, rfl⟩
    have B1 : Hid (Bx W w.heap.size n (.slice A xs.length c)) := by rw [hW]; exact (((Bx.new w n (.slice A xs.length c)).alloc _).alloc _)
    have B2 : Hid (Bx W (w.heap.size + 1) m (.slice A' ys.length c')) := by
      have := ((Bx.new (w.alloc (.cells #[.bool n, .slice A xs.length c] 24)) m (.slice A' ys.length c')).alloc (.cells #[.bool false, .slice none 0 0] 24))
      simp only [World.size_alloc] at this
      rw [hW]; exact this
    have B3 : Hid (Bx W (w.heap.size + 1 + 1) false (.slice none 0 0)) := by
      have := Bx.new ((w.alloc (.cells #[.bool n, .slice A xs.length c] 24)).alloc (.cells #[.bool m, .slice A' ys.length c'] 24)) false (.slice none 0 0)
      simp only [World.size_alloc] at this
      rw [hW]; exact this
    have HB : Hid (Below w.heap.size w W) := by rw [hW]; exact below_alloc3 w _ _ _
    have hg3 : w.heap.size + 1 + 1 < W.heap.size := B3.out.lt
    have HX : Hid (In W A c xs) := H.out.below HB.out
    have HX' : Hid (In W A' c' ys) := H'.out.below HB.out
    have k10 := B1.out.c0
    have k11 := B1.out.c1
    have k20 := B2.out.c0
    have k21 := B2.out.c1
    go_enter Try.func37, Try.ntmps37
    go_wp2_with fail
    rw [← hW]
    clear hW
    refine (rWboth_calls n m A A' c c' xs ys _ HX.out HX'.out).mono ?_
    rintro e w1 ⟨rfl, hb⟩
    have HX := Q.hid (HX.out.below hb)
    have HX' := Q.hid (HX'.out.below hb)
    have hg3 : w.heap.size + 1 + 1 < w1.heap.size := Nat.lt_of_lt_of_le hg3 hb.size
    have B1 := Q.hid (B1.out.below hb)
    have B2 := Q.hid (B2.out.below hb)
    have B3 := Q.hid (B3.out.below hb)
    have HB := Q.hid (bs2 HB.out hb)
    clear hb k10 k11 k20 k21
    have k10 := B1.out.c0
    have k11 := B1.out.c1
    have k20 := B2.out.c0
    have k21 := B2.out.c1
    go_wp2_with fail
    refine (rWLess_calls n m A A' c c' xs ys _ HX.out HX'.out HTX.out (by omega) (by omega)).mono ?_
    rintro e w2 ⟨A2, c2, rfl, ho, hb⟩
    have HO := Q.hid ho
    have B3 := Q.hid (B3.out.below hb)
    have HB := Q.hid (bs2 HB.out hb)
    clear ho hb k10 k11 k20 k21
    go_wp2_with fail
    refine (rWtold_calls (wv n xs - wv m ys) A2 c2 w1.heap.size _ HO.out).mono ?_
    rintro e w3 ⟨A3, c3, rfl, ho, hb⟩
    have HO := Q.hid ho
    have B3 := Q.hid (B3.out.below hb)
    have HB := Q.hid (bs2 HB.out hb)
    clear ho hb
    have k30 := B3.out.c0
    have k31 := B3.out.c1
    have f30 := B3.out.f0
    have f31 := B3.out.f1
    go_wp2
    refine bodyPost_ret (by rw [results_cell_tmp rfl]; go_simp; rfl) rfl ?_
    exact ⟨A3, c3, by rw [HF.out], by rw [HF.out]; exact far2 HO.out hg3 (by omega) _ _, below_set2 HB.out (by omega) _ _⟩
  · have hb0 : (chkW2 n xs m ys != 0) = true := by simp [h0]
    have HF : Hid (subW n xs m ys = noW (chkW2 n xs m ys)) := if_neg h0
    clear h h' h0
    obtain ⟨W, hW⟩ : ∃ W, W = (((w.alloc (.cells #[.bool n, .slice A xs.length c] 24)).alloc (.cells #[.bool m, .slice A' ys.length c'] 24)).alloc (.cells #[.bool false, .slice none 0 0] 24)) := ⟨_, rfl⟩
    have B1 : Hid (Bx W w.heap.size n (.slice A xs.length c)) := by rw [hW]; exact (((Bx.new w n (.slice A xs.length c)).alloc _).alloc _)
    have B2 : Hid (Bx W (w.heap.size + 1) m (.slice A' ys.length c')) := by
      have := ((Bx.new (w.alloc (.cells #[.bool n, .slice A xs.length c] 24)) m (.slice A' ys.length c')).alloc (.cells #[.bool false, .slice none 0 0] 24))
      simp only [World.size_alloc] at this
      rw [hW]; exact this
    have B3 : Hid (Bx W (w.heap.size + 1 + 1) false (.slice none 0 0)) := by
      have := Bx.new ((w.alloc (.cells #[.bool n, .slice A xs.length c] 24)).alloc (.cells #[.bool m, .slice A' ys.length c'] 24)) false (.slice none 0 0)
      simp only [World.size_alloc] at this
      rw [hW]; exact this
    have HB : Hid (Below w.heap.size w W) := by rw [hW]; exact below_alloc3 w _ _ _
    have hg3 : w.heap.size + 1 + 1 < W.heap.size := B3.out.lt
    have HX : Hid (In W A c xs) := H.out.below HB.out
    have HX' : Hid (In W A' c' ys) := H'.out.below HB.out
    go_enter Try.func37, Try.ntmps37
    go_wp2_with fail
    rw [← hW]
    clear hW
    refine (rWboth_calls n m A A' c c' xs ys _ HX.out HX'.out).mono ?_
    rintro e w1 ⟨rfl, hb⟩
    have B3 := Q.hid (B3.out.below hb)
    have HB := Q.hid (bs2 HB.out hb)
    clear hb
    have k30 := B3.out.c0
    have k31 := B3.out.c1
    have f30 := B3.out.f0
    have f31 := B3.out.f1
    go_wp2
    refine bodyPost_ret (by rw [results_cell_tmp rfl]; go_simp; rfl) rfl ?_
    exact ⟨none, 0, by rw [HF.out]; rfl, by rw [HF.out]; exact Ow.nil _ _ _, below_set2 HB.out (by omega) _ _⟩

set_option maxHeartbeats 1000000 in
theorem rWMul_calls (n m : Bool) (A A' : Option Addr) (c c' : Nat) (xs ys : List Int) (w : World) (h : In w A c xs) (h' : In w A' c' ys) :
    Calls Try.prog 38 #[.agg #[.bool n, .slice A xs.length c], .agg #[.bool m, .slice A' ys.length c']] w fun e w' => ∃ B d, e = .returned (.tuple #[.agg #[.bool (mulW n xs m ys).neg, .slice B (mulW n xs m ys).ws.length d], .int .i64 (mulW n xs m ys).err]) ∧ Ow w' 58 w.heap.size (.slice B (mulW n xs m ys).ws.length d) (mulW n xs m ys).ws ∧ Below w.heap.size w w' := by
  have H := Q.hid h
  have H' := Q.hid h'
  by_cases h0 : chkW2 n xs m ys = 0
  · have hb0 : (chkW2 n xs m ys != 0) = false := by simp [h0]
    have HF : Hid (mulW n xs m ys = toldW (wv n xs * wv m ys)) := if_pos h0
    have hc := chkW2_zero.1 h0
    have hcx := chkW_zero.1 hc.1
    have hcy := chkW_zero.1 hc.2
    have htx := hcx.2.1
    have hty := hcy.2.1
    have hlx : xs.length ≤ 2048 := hcx.1
    have hly : ys.length ≤ 2048 := hcy.1
    have HTX := Q.hid htx
    have HTY := Q.hid hty
    clear h h' h0 hc hcx hcy htx hty
    obtain ⟨W, hW⟩ : ∃ W, W = (((w.alloc (.cells #[.bool n, .slice A xs.length c] 24)).alloc (.cells #[.bool m, .slice A' ys.length c'] 24)).alloc (.cells #[.bool false, .slice none 0 0] 24)) := ⟨_, rfl⟩
    have B1 : Hid (Bx W w.heap.size n (.slice A xs.length c)) := by rw [hW]; exact (((Bx.new w n (.slice A xs.length c)).alloc _).alloc _)
    have B2 : Hid (Bx W (w.heap.size + 1) m (.slice A' ys.length c')) := by
      have := ((Bx.new (w.alloc (.cells #[.bool n, .slice A xs.length c] 24)) m (.slice A' ys.length c')).alloc (.cells #[.bool false, .slice none 0 0] 24))
      simp only [World.size_alloc] at this
      rw [hW]; exact this
    have B3 : Hid (Bx W (w.heap.size + 1 + 1) false (.slice none 0 0)) := by
      have := Bx.new ((w.alloc (.cells #[.bool n, .slice A xs.length c] 24)).alloc (.cells #[.bool m, .slice A' ys.length c'] 24)) false (.slice none 0 0)
      simp only [World.size_alloc] at this
      rw [hW]; exact this
    have HB : Hid (Below w.heap.size w W) := by rw [hW]; exact below_alloc3 w _ _ _
    have hg3 : w.heap.size + 1 + 1 < W.heap.size := B3.out.lt
    have HX : Hid (In W A c xs) := H.out.below HB.out
    have HX' : Hid (In W A' c' ys) := H'.out.below HB.out
    have k10 := B1.out.c0
    have k11 := B1.out.c1
    have k20 := B2.out.c0
    have k21 := B2.out.c1
    go_enter Try.func38, Try.ntmps38
    go_wp2_with fail
    rw [← hW]
    clear hW
    refine (rWboth_calls n m A A' c c' xs ys _ HX.out HX'.out).mono ?_
    rintro e w1 ⟨rfl, hb⟩
    have HX := Q.hid (HX.out.below hb)
    have HX' := Q.hid (HX'.out.below hb)
    have hg3 : w.heap.size + 1 + 1 < w1.heap.size := Nat.lt_of_lt_of_le hg3 hb.size
    have B1 := Q.hid (B1.out.below hb)
    have B2 := Q.hid (B2.out.below hb)
    have B3 := Q.hid (B3.out.below hb)
    have HB := Q.hid (bs2 HB.out hb)
    clear hb k10 k11 k20 k21
    have k10 := B1.out.c0
    have k11 := B1.out.c1
    have k20 := B2.out.c0
    have k21 := B2.out.c1
    go_wp2_with fail
    refine (Product_calls n m A A' c c' xs ys _ HX.out HX'.out (by omega) (by omega)).mono ?_
    rintro e w2 ⟨A2, c2, rfl, ho, hb⟩
    have HO := Q.hid ho
    have B3 := Q.hid (B3.out.below hb)
    have HB := Q.hid (bs2 HB.out hb)
    clear ho hb k10 k11 k20 k21
    go_wp2_with fail
    refine (rWtold_calls (wv n xs * wv m ys) A2 c2 w1.heap.size _ HO.out).mono ?_
    rintro e w3 ⟨A3, c3, rfl, ho, hb⟩
    have HO := Q.hid ho
    have B3 := Q.hid (B3.out.below hb)
    have HB := Q.hid (bs2 HB.out hb)
    clear ho hb
    have k30 := B3.out.c0
    have k31 := B3.out.c1
    have f30 := B3.out.f0
    have f31 := B3.out.f1
    go_wp2
    refine bodyPost_ret (by rw [results_cell_tmp rfl]; go_simp; rfl) rfl ?_
    exact ⟨A3, c3, by rw [HF.out], by rw [HF.out]; exact far2 HO.out hg3 (by omega) _ _, below_set2 HB.out (by omega) _ _⟩
  · have hb0 : (chkW2 n xs m ys != 0) = true := by simp [h0]
    have HF : Hid (mulW n xs m ys = noW (chkW2 n xs m ys)) := if_neg h0
    clear h h' h0
    obtain ⟨W, hW⟩ : ∃ W, W = (((w.alloc (.cells #[.bool n, .slice A xs.length c] 24)).alloc (.cells #[.bool m, .slice A' ys.length c'] 24)).alloc (.cells #[.bool false, .slice none 0 0] 24)) := ⟨_, rfl⟩
    have B1 : Hid (Bx W w.heap.size n (.slice A xs.length c)) := by rw [hW]; exact (((Bx.new w n (.slice A xs.length c)).alloc _).alloc _)
    have B2 : Hid (Bx W (w.heap.size + 1) m (.slice A' ys.length c')) := by
      have := ((Bx.new (w.alloc (.cells #[.bool n, .slice A xs.length c] 24)) m (.slice A' ys.length c')).alloc (.cells #[.bool false, .slice none 0 0] 24))
      simp only [World.size_alloc] at this
      rw [hW]; exact this
    have B3 : Hid (Bx W (w.heap.size + 1 + 1) false (.slice none 0 0)) := by
      have := Bx.new ((w.alloc (.cells #[.bool n, .slice A xs.length c] 24)).alloc (.cells #[.bool m, .slice A' ys.length c'] 24)) false (.slice none 0 0)
      simp only [World.size_alloc] at this
      rw [hW]; exact this
    have HB : Hid (Below w.heap.size w W) := by rw [hW]; exact below_alloc3 w _ _ _
    have hg3 : w.heap.size + 1 + 1 < W.heap.size := B3.out.lt
    have HX : Hid (In W A c xs) := H.out.below HB.out
    have HX' : Hid (In W A' c' ys) := H'.out.below HB.out
    go_enter Try.func38, Try.ntmps38
    go_wp2_with fail
    rw [← hW]
    clear hW
    refine (rWboth_calls n m A A' c c' xs ys _ HX.out HX'.out).mono ?_
    rintro e w1 ⟨rfl, hb⟩
    have B3 := Q.hid (B3.out.below hb)
    have HB := Q.hid (bs2 HB.out hb)
    clear hb
    have k30 := B3.out.c0
    have k31 := B3.out.c1
    have f30 := B3.out.f0
    have f31 := B3.out.f1
    go_wp2
    refine bodyPost_ret (by rw [results_cell_tmp rfl]; go_simp; rfl) rfl ?_
    exact ⟨none, 0, by rw [HF.out]; rfl, by rw [HF.out]; exact Ow.nil _ _ _, below_set2 HB.out (by omega) _ _⟩

set_option maxHeartbeats 1000000 in
theorem rWNeg_calls (n : Bool) (A : Option Addr) (c : Nat) (xs : List Int) (w : World) (h : In w A c xs) :
    Calls Try.prog 34 #[.agg #[.bool n, .slice A xs.length c]] w fun e w' => ∃ B d, e = .returned (.tuple #[.agg #[.bool (negW n xs).neg, .slice B (negW n xs).ws.length d], .int .i64 (negW n xs).err]) ∧ Ow w' 58 w.heap.size (.slice B (negW n xs).ws.length d) (negW n xs).ws ∧ Below w.heap.size w w' := by
  have H := Q.hid h
  by_cases h0 : chkW n xs = 0
  · have hb0 : (chkW n xs != 0) = false := by simp [h0]
    have HF : Hid (negW n xs = ⟨cn (-wv n xs), cw (-wv n xs), 0⟩) := (if_pos h0).trans (toldW_can (sh_neg (wv_abs_lt h.wds h0)))
    clear h h0
    obtain ⟨W, hW⟩ : ∃ W, W = ((w.alloc (.cells #[.bool n, .slice A xs.length c] 24)).alloc (.cells #[.bool false, .slice none 0 0] 24)) := ⟨_, rfl⟩
    have B1 : Hid (Bx W w.heap.size n (.slice A xs.length c)) := by rw [hW]; exact (Bx.new w n (.slice A xs.length c)).alloc _
    have B3 : Hid (Bx W (w.heap.size + 1) false (.slice none 0 0)) := by
      have := Bx.new (w.alloc (.cells #[.bool n, .slice A xs.length c] 24)) false (.slice none 0 0)
      simp only [World.size_alloc] at this
      rw [hW]; exact this
    have HB : Hid (Below w.heap.size w W) := by rw [hW]; exact below_alloc2 w _ _
    have hg3 : w.heap.size + 1 < W.heap.size := B3.out.lt
    have HX : Hid (In W A c xs) := H.out.below HB.out
    have k10 := B1.out.c0
    have k11 := B1.out.c1
    go_enter Try.func34, Try.ntmps34
    go_wp2_with fail
    rw [← hW]
    clear hW
    refine (rWCheck_calls n A c xs _ HX.out).mono ?_
    rintro e w1 ⟨rfl, hb⟩
    have HX := Q.hid (HX.out.below hb)
    have hg3 : w.heap.size + 1 < w1.heap.size := Nat.lt_of_lt_of_le hg3 hb.size
    have B1 := Q.hid (B1.out.below hb)
    have B3 := Q.hid (B3.out.below hb)
    have HB := Q.hid (bs2 HB.out hb)
    clear hb k10 k11
    have k10 := B1.out.c0
    have k11 := B1.out.c1
    go_wp2_with fail
    refine (Opposite_calls n A c xs _ HX.out).mono ?_
    rintro e w2 ⟨A2, c2, rfl, ho, hb⟩
    have HO := Q.hid ho
    have B3 := Q.hid (B3.out.below hb)
    have HB := Q.hid (bs2 HB.out hb)
    clear ho hb k10 k11
    have k30 := B3.out.c0
    have k31 := B3.out.c1
    have f30 := B3.out.f0
    have f31 := B3.out.f1
    go_wp2
    refine bodyPost_ret (by rw [results_cell_tmp rfl]; go_simp; rfl) rfl ?_
    exact ⟨A2, c2, by rw [HF.out], by rw [HF.out]; exact far2 HO.out hg3 (by omega) _ _, below_set2 HB.out (by omega) _ _⟩
  · have hb0 : (chkW n xs != 0) = true := by simp [h0]
    have HF : Hid (negW n xs = noW (chkW n xs)) := if_neg h0
    clear h h0
    obtain ⟨W, hW⟩ : ∃ W, W = ((w.alloc (.cells #[.bool n, .slice A xs.length c] 24)).alloc (.cells #[.bool false, .slice none 0 0] 24)) := ⟨_, rfl⟩
    have B1 : Hid (Bx W w.heap.size n (.slice A xs.length c)) := by rw [hW]; exact (Bx.new w n (.slice A xs.length c)).alloc _
    have B3 : Hid (Bx W (w.heap.size + 1) false (.slice none 0 0)) := by
      have := Bx.new (w.alloc (.cells #[.bool n, .slice A xs.length c] 24)) false (.slice none 0 0)
      simp only [World.size_alloc] at this
      rw [hW]; exact this
    have HB : Hid (Below w.heap.size w W) := by rw [hW]; exact below_alloc2 w _ _
    have hg3 : w.heap.size + 1 < W.heap.size := B3.out.lt
    have HX : Hid (In W A c xs) := H.out.below HB.out
    go_enter Try.func34, Try.ntmps34
    go_wp2_with fail
    rw [← hW]
    clear hW
    refine (rWCheck_calls n A c xs _ HX.out).mono ?_
    rintro e w1 ⟨rfl, hb⟩
    have B3 := Q.hid (B3.out.below hb)
    have HB := Q.hid (bs2 HB.out hb)
    clear hb
    have k30 := B3.out.c0
    have k31 := B3.out.c1
    have f30 := B3.out.f0
    have f31 := B3.out.f1
    go_wp2
    refine bodyPost_ret (by rw [results_cell_tmp rfl]; go_simp; rfl) rfl ?_
    exact ⟨none, 0, by rw [HF.out]; rfl, by rw [HF.out]; exact Ow.nil _ _ _, below_set2 HB.out (by omega) _ _⟩

set_option maxHeartbeats 1000000 in
theorem rWAbs_calls (n : Bool) (A : Option Addr) (c : Nat) (xs : List Int) (w : World) (h : In w A c xs) :
    Calls Try.prog 35 #[.agg #[.bool n, .slice A xs.length c]] w fun e w' => ∃ B d, e = .returned (.tuple #[.agg #[.bool (absW n xs).neg, .slice B (absW n xs).ws.length d], .int .i64 (absW n xs).err]) ∧ Ow w' 58 w.heap.size (.slice B (absW n xs).ws.length d) (absW n xs).ws ∧ Below w.heap.size w w' := by
  have H := Q.hid h
  by_cases h0 : chkW n xs = 0
  · have hb0 : (chkW n xs != 0) = false := by simp [h0]
    have HF : Hid (absW n xs = ⟨cn (wv false xs), cw (wv false xs), 0⟩) := by
      have e : wv false xs = ((wv n xs).natAbs : Int) := by rw [wv_natAbs h.wds]; rfl
      unfold absW; rw [if_pos h0, e]
      exact toldW_can (sh_abs (wv_abs_lt h.wds h0))
    clear h h0
    obtain ⟨W, hW⟩ : ∃ W, W = ((w.alloc (.cells #[.bool n, .slice A xs.length c] 24)).alloc (.cells #[.bool false, .slice none 0 0] 24)) := ⟨_, rfl⟩
    have B1 : Hid (Bx W w.heap.size n (.slice A xs.length c)) := by rw [hW]; exact (Bx.new w n (.slice A xs.length c)).alloc _
    have B3 : Hid (Bx W (w.heap.size + 1) false (.slice none 0 0)) := by
      have := Bx.new (w.alloc (.cells #[.bool n, .slice A xs.length c] 24)) false (.slice none 0 0)
      simp only [World.size_alloc] at this
      rw [hW]; exact this
    have HB : Hid (Below w.heap.size w W) := by rw [hW]; exact below_alloc2 w _ _
    have hg3 : w.heap.size + 1 < W.heap.size := B3.out.lt
    have HX : Hid (In W A c xs) := H.out.below HB.out
    have k10 := B1.out.c0
    have k11 := B1.out.c1
    go_enter Try.func35, Try.ntmps35
    go_wp2_with fail
    rw [← hW]
    clear hW
    refine (rWCheck_calls n A c xs _ HX.out).mono ?_
    rintro e w1 ⟨rfl, hb⟩
    have HX := Q.hid (HX.out.below hb)
    have hg3 : w.heap.size + 1 < w1.heap.size := Nat.lt_of_lt_of_le hg3 hb.size
    have B1 := Q.hid (B1.out.below hb)
    have B3 := Q.hid (B3.out.below hb)
    have HB := Q.hid (bs2 HB.out hb)
    clear hb k10 k11
    have k10 := B1.out.c0
    have k11 := B1.out.c1
    go_wp2_with fail
    refine (rmade_calls false A c xs _ HX.out).mono ?_
    rintro e w2 ⟨A2, c2, rfl, ho, hb⟩
    have HO := Q.hid ho
    have B3 := Q.hid (B3.out.below hb)
    have HB := Q.hid (bs2 HB.out hb)
    clear ho hb k10 k11
    have k30 := B3.out.c0
    have k31 := B3.out.c1
    have f30 := B3.out.f0
    have f31 := B3.out.f1
    go_wp2
    refine bodyPost_ret (by rw [results_cell_tmp rfl]; go_simp; rfl) rfl ?_
    exact ⟨A2, c2, by rw [HF.out], by rw [HF.out]; exact far2 HO.out hg3 (by omega) _ _, below_set2 HB.out (by omega) _ _⟩
  · have hb0 : (chkW n xs != 0) = true := by simp [h0]
    have HF : Hid (absW n xs = noW (chkW n xs)) := if_neg h0
    clear h h0
    obtain ⟨W, hW⟩ : ∃ W, W = ((w.alloc (.cells #[.bool n, .slice A xs.length c] 24)).alloc (.cells #[.bool false, .slice none 0 0] 24)) := ⟨_, rfl⟩
    have B1 : Hid (Bx W w.heap.size n (.slice A xs.length c)) := by rw [hW]; exact (Bx.new w n (.slice A xs.length c)).alloc _
    have B3 : Hid (Bx W (w.heap.size + 1) false (.slice none 0 0)) := by
      have := Bx.new (w.alloc (.cells #[.bool n, .slice A xs.length c] 24)) false (.slice none 0 0)
      simp only [World.size_alloc] at this
      rw [hW]; exact this
    have HB : Hid (Below w.heap.size w W) := by rw [hW]; exact below_alloc2 w _ _
    have hg3 : w.heap.size + 1 < W.heap.size := B3.out.lt
    have HX : Hid (In W A c xs) := H.out.below HB.out
    go_enter Try.func35, Try.ntmps35
    go_wp2_with fail
    rw [← hW]
    clear hW
    refine (rWCheck_calls n A c xs _ HX.out).mono ?_
    rintro e w1 ⟨rfl, hb⟩
    have B3 := Q.hid (B3.out.below hb)
    have HB := Q.hid (bs2 HB.out hb)
    clear hb
    have k30 := B3.out.c0
    have k31 := B3.out.c1
    have f30 := B3.out.f0
    have f31 := B3.out.f1
    go_wp2
    refine bodyPost_ret (by rw [results_cell_tmp rfl]; go_simp; rfl) rfl ?_
    exact ⟨none, 0, by rw [HF.out]; rfl, by rw [HF.out]; exact Ow.nil _ _ _, below_set2 HB.out (by omega) _ _⟩

end Go.Proofs.Ytidccoahjpjoaaa
