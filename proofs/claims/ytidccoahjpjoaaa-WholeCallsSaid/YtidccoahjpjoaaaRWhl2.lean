/- The reference of layer 2: products, sums, differences of any length; what each call does. -/
import Derived.Test.YtidccoahjpjoaaaRWhl1
import Derived.Test.YtidccoahjpjoaaaQWhl5
set_option linter.unusedVariables false
set_option linter.unusedSimpArgs false
namespace Go.Proofs.Ytidccoahjpjoaaa
open Go Go.RowKit Q

theorem Ow.res {w : World} {e B : Nat} {v : Int} {u : Value} (h : Ow w e B u (nwd v)) (hs : (nwd v).length ≤ 1000000) : ∃ A c, u = .slice A (nwd v).length c ∧ In w A c (nwd v) := by
  obtain ⟨A, c, e, i⟩ := h.inn (nwd_wds v) (by omega)
  exact ⟨A, c, e, i⟩
theorem wv_nwd {k : Int} (h : 0 ≤ k) (n : Bool) : wv n (nwd k) = sg n k := by rw [wv_sg, val_nwd h]
theorem mul_len {xs ys : List Int} (hx : Wds xs) (hy : Wds ys) {a b : Nat} (ha : xs.length ≤ a) (hb : ys.length ≤ b) : (nwd (val xs * val ys)).length ≤ a + b := by
  have h3 := val_nonneg hx
  have h4 := val_nonneg hy
  have h1 := val_lt_len hx ha
  have h2 := val_lt_len hy hb
  refine nwd_len_le ?_ (Int.mul_nonneg h3 h4)
  have h6 : val xs * val ys ≤ val xs * Bp b := Int.mul_le_mul_of_nonneg_left (by omega) h3
  have h7 : val xs * Bp b < Bp a * Bp b := Int.mul_lt_mul_of_pos_right h1 (Bp_pos _)
  rw [Bp_add]
  omega
theorem add_len {xs ys : List Int} (hx : Wds xs) (hy : Wds ys) {a : Nat} (ha : xs.length ≤ a) (hb : ys.length ≤ a) : (nwd (val xs + val ys)).length ≤ a + 1 := by
  have h3 := val_nonneg hx
  have h4 := val_nonneg hy
  have h1 := val_lt_len hx ha
  have h2 := val_lt_len hy hb
  have h5 := Bp_succ a
  exact nwd_len_le (by omega) (by omega)
theorem sub_len {xs ys : List Int} (hx : Wds xs) (hy : Wds ys) {a : Nat} (ha : xs.length ≤ a) (h : val ys ≤ val xs) : (nwd (val xs - val ys)).length ≤ a := by
  have h4 := val_nonneg hy
  have h1 := val_lt_len hx ha
  exact nwd_len_le (by omega) (by omega)

set_option maxHeartbeats 1000000 in
theorem Product_calls (n m : Bool) (A A' : Option Addr) (c c' : Nat) (xs ys : List Int) (w : World) (h : In w A c xs) (h' : In w A' c' ys) (hl : xs.length ≤ 100000) (hl' : ys.length ≤ 100000) :
    Calls Try.prog 52 #[.agg #[.bool n, .slice A xs.length c], .agg #[.bool m, .slice A' ys.length c']] w fun e w' => ∃ B d, e = .returned (.agg #[.bool (cn (wv n xs * wv m ys)), .slice B (cw (wv n xs * wv m ys)).length d]) ∧ Ow w' 58 w.heap.size (.slice B (cw (wv n xs * wv m ys)).length d) (cw (wv n xs * wv m ys)) ∧ Below w.heap.size w w' := by
  have H := Q.hid h
  have H' := Q.hid h'
  have HV : Hid (wv (n != m) (nwd (val xs * val ys)) = wv n xs * wv m ys) := by
    rw [wv_nwd (Int.mul_nonneg (val_nonneg h.wds) (val_nonneg h'.wds)), mul_sg]; rfl
  have hlen := mul_len h.wds h'.wds hl hl'
  clear h h'
  obtain ⟨W, hW⟩ : ∃ W, W = (((w.alloc (.cells #[.bool n, .slice A xs.length c] 24)).alloc (.cells #[.bool m, .slice A' ys.length c'] 24)).alloc (.cells #[.bool false, .slice none 0 0] 24)) := ⟨_, rfl⟩
  have B1 : Hid (Bx W w.heap.size n (.slice A xs.length c)) := by rw [hW]; exact (((Bx.new w n (.slice A xs.length c)).alloc _).alloc _)
  have B2 : Hid (Bx W (w.heap.size + 1) m (.slice A' ys.length c')) := by
    have := ((Bx.new (w.alloc (.cells #[.bool n, .slice A xs.length c] 24)) m (.slice A' ys.length c')).alloc (.cells #[.bool false, .slice none 0 0] 24))
    simp only [World.size_alloc] at this
    rw [hW]; exact this
  have B3 : Hid (Bx W (w.heap.size + 1 + 1) false (.slice none 0 0)) := by
    have := Bx.new ((w.alloc (.cells #[.bool n, .slice A xs.length c] 24)).alloc (.cells #[.bool m, .slice A' ys.length c'] 24)) false (.slice none 0 0)
    simp only [World.size_alloc] at this
    rw [hW]; exact this
  have HB : Hid (Below w.heap.size w W) := by rw [hW]; exact below_alloc3 w _ _ _
  have hg3 : w.heap.size + 1 + 1 < W.heap.size := B3.out.lt
  have HX : Hid (In W A c xs) := H.out.below HB.out
  have HX' : Hid (In W A' c' ys) := H'.out.below HB.out
  have k10 := B1.out.c0
  have k11 := B1.out.c1
  have k20 := B2.out.c0
  have k21 := B2.out.c1
  go_enter Try.func52, Try.ntmps52
  go_wp2
  rw [← hW]
  clear hW
  go_region_held3 (fun w' => w'.cell? ⟨w.heap.size, 0, none⟩ = some (.bool n) ∧ w'.cell? ⟨w.heap.size, 1, none⟩ = some (.slice A xs.length c) ∧ w'.cell? ⟨w.heap.size + 1, 0, none⟩ = some (.bool m) ∧ w'.cell? ⟨w.heap.size + 1, 1, none⟩ = some (.slice A' ys.length c')) (first | exact ⟨k10, k11, k20, k21⟩ | exact ⟨set2_cell (by omega) k10, set2_cell (by omega) k11, set2_cell (by omega) k20, set2_cell (by omega) k21⟩) (first
    | (go_at_call 74
       refine (Times_calls A A' c c' xs ys _ ?_ ?_ (by omega) (by omega)).mono ?_
       exact ⟨HX.out.rd, HX.out.cap, HX.out.small, HX.out.wds⟩
       exact ⟨HX'.out.rd, HX'.out.cap, HX'.out.small, HX'.out.wds⟩
       rintro e w2 ⟨v, rfl, ho, hb⟩
       obtain ⟨A2, c2, e2, i2⟩ := ho.inn (nwd_wds _) (by omega)
       subst e2
       have hbb : Below W.heap.size W w2 := ⟨hb.os, hb.tape, hb.output, hb.size, hb.block⟩
       have HI := Q.hid i2
       have hsz : W.heap.size ≤ w2.heap.size := hbb.size
       have B1' := Q.hid (B1.out.below hbb)
       have B2' := Q.hid (B2.out.below hbb)
       have B3' := Q.hid (B3.out.below hbb)
       have HB' := Q.hid (bs2 HB.out hbb)
       clear ho hb hbb i2 k10 k11 k20 k21
       have k10 := B1'.out.c0
       have k11 := B1'.out.c1
       have k20 := B2'.out.c0
       have k21 := B2'.out.c1)
    | (go_at_call 48
       refine (rmade_calls (n != m) A2 c2 (nwd (val xs * val ys)) _ ?_).mono ?_
       exact ⟨HI.out.rd, HI.out.cap, HI.out.small, HI.out.wds⟩
       rintro e w3 ⟨A3, c3, rfl, ho, hb⟩
       rw [HV.out] at ho ⊢
       have hbb : Below w2.heap.size w2 w3 := ⟨hb.os, hb.tape, hb.output, hb.size, hb.block⟩
       have HO : Hid (Ow w3 58 w2.heap.size (.slice A3 (cw (wv n xs * wv m ys)).length c3) (cw (wv n xs * wv m ys))) := ho
       have B1'' := Q.hid (B1'.out.below hbb)
       have B2'' := Q.hid (B2'.out.below hbb)
       have B3'' := Q.hid (B3'.out.below hbb)
       have HB'' := Q.hid (bs2 HB'.out hbb)
       clear ho hb hbb k10 k11 k20 k21
       have k10 := B1''.out.c0
       have k11 := B1''.out.c1
       have k20 := B2''.out.c0
       have k21 := B2''.out.c1
       have k30 := B3''.out.c0
       have k31 := B3''.out.c1
       have f30 := B3''.out.f0
       have f31 := B3''.out.f1))
  all_goals
    go_wp2
    refine bodyPost_ret (by rw [results_cell1 rfl]; go_simp; rfl) rfl ?_
    exact ⟨A3, c3, rfl, far2 HO.out (by omega) (by omega) _ _, below_set2 HB''.out (by omega) _ _⟩

set_option maxHeartbeats 2000000 in
theorem rPlus_calls (n m : Bool) (A A' : Option Addr) (c c' : Nat) (xs ys : List Int) (w : World) (h : In w A c xs) (h' : In w A' c' ys) (ht : Tr xs) (ht' : Tr ys) (hl : xs.length ≤ 100000) (hl' : ys.length ≤ 100000) :
    Calls Try.prog 68 #[.agg #[.bool n, .slice A xs.length c], .agg #[.bool m, .slice A' ys.length c']] w fun e w' => ∃ B d, e = .returned (.agg #[.bool (cn (wv n xs + wv m ys)), .slice B (cw (wv n xs + wv m ys)).length d]) ∧ Ow w' 58 w.heap.size (.slice B (cw (wv n xs + wv m ys)).length d) (cw (wv n xs + wv m ys)) ∧ Below w.heap.size w w' := by
  have H := Q.hid h
  have H' := Q.hid h'
  by_cases hs : n = m
  · have HV : Hid (wv n (nwd (val xs + val ys)) = wv n xs + wv m ys) := by
      rw [wv_nwd (Int.add_nonneg (val_nonneg h.wds) (val_nonneg h'.wds)), add_same hs]; rfl
    have hlen := add_len h.wds h'.wds hl hl'
    have hs1 : (n == m) = true := by simp [hs]
    have hs2 : (m == n) = true := by simp [hs]
    clear h h' hs ht ht'
    obtain ⟨W, hW⟩ : ∃ W, W = (((w.alloc (.cells #[.bool n, .slice A xs.length c] 24)).alloc (.cells #[.bool m, .slice A' ys.length c'] 24)).alloc (.cells #[.bool false, .slice none 0 0] 24)) := ⟨_, rfl⟩
    have B1 : Hid (Bx W w.heap.size n (.slice A xs.length c)) := by rw [hW]; exact (((Bx.new w n (.slice A xs.length c)).alloc _).alloc _)
    have B2 : Hid (Bx W (w.heap.size + 1) m (.slice A' ys.length c')) := by
      have := ((Bx.new (w.alloc (.cells #[.bool n, .slice A xs.length c] 24)) m (.slice A' ys.length c')).alloc (.cells #[.bool false, .slice none 0 0] 24))
      simp only [World.size_alloc] at this
      rw [hW]; exact this
    have B3 : Hid (Bx W (w.heap.size + 1 + 1) false (.slice none 0 0)) := by
      have := Bx.new ((w.alloc (.cells #[.bool n, .slice A xs.length c] 24)).alloc (.cells #[.bool m, .slice A' ys.length c'] 24)) false (.slice none 0 0)
      simp only [World.size_alloc] at this
      rw [hW]; exact this
    have HB : Hid (Below w.heap.size w W) := by rw [hW]; exact below_alloc3 w _ _ _
    have hg3 : w.heap.size + 1 + 1 < W.heap.size := B3.out.lt
    have HX : Hid (In W A c xs) := H.out.below HB.out
    have HX' : Hid (In W A' c' ys) := H'.out.below HB.out
    have k10 := B1.out.c0
    have k11 := B1.out.c1
    have k20 := B2.out.c0
    have k21 := B2.out.c1
    go_enter Try.func68, Try.ntmps68
    go_wp2
    rw [← hW]
    clear hW
    go_region_held3 (fun w' => w'.cell? ⟨w.heap.size, 0, none⟩ = some (.bool n) ∧ w'.cell? ⟨w.heap.size, 1, none⟩ = some (.slice A xs.length c) ∧ w'.cell? ⟨w.heap.size + 1, 0, none⟩ = some (.bool m) ∧ w'.cell? ⟨w.heap.size + 1, 1, none⟩ = some (.slice A' ys.length c')) (first | exact ⟨k10, k11, k20, k21⟩ | exact ⟨set2_cell (by omega) k10, set2_cell (by omega) k11, set2_cell (by omega) k20, set2_cell (by omega) k21⟩) (first
        | (go_at_call 80
           refine (Plus_calls A A' c c' xs ys _ ?_ ?_ (by omega) (by omega)).mono ?_
           exact ⟨HX.out.rd, HX.out.cap, HX.out.small, HX.out.wds⟩
           exact ⟨HX'.out.rd, HX'.out.cap, HX'.out.small, HX'.out.wds⟩
           rintro e w2 ⟨v, rfl, ho, hb⟩
           obtain ⟨A2, c2, e2, i2⟩ := ho.inn (nwd_wds _) (by omega)
           subst e2
           have hbb : Below W.heap.size W w2 := ⟨hb.os, hb.tape, hb.output, hb.size, hb.block⟩
           have HI := Q.hid i2
           have hsz : W.heap.size ≤ w2.heap.size := hbb.size
           have B1 := Q.hid (B1.out.below hbb)
           have B2 := Q.hid (B2.out.below hbb)
           have B3 := Q.hid (B3.out.below hbb)
           have HB := Q.hid (bs2 HB.out hbb)
           clear ho hb hbb i2 k10 k11 k20 k21
           have k10 := B1.out.c0
           have k11 := B1.out.c1
           have k20 := B2.out.c0
           have k21 := B2.out.c1)
        | (go_at_call 48
           refine (rmade_calls n A2 c2 (nwd (val xs + val ys)) _ ?_).mono ?_
           exact ⟨HI.out.rd, HI.out.cap, HI.out.small, HI.out.wds⟩
           rintro e w3 ⟨A3, c3, rfl, ho, hb⟩
           rw [HV.out] at ho ⊢
           have hbb : Below w2.heap.size w2 w3 := ⟨hb.os, hb.tape, hb.output, hb.size, hb.block⟩
           have HO : Hid (Ow w3 58 w2.heap.size (.slice A3 (cw (wv n xs + wv m ys)).length c3) (cw (wv n xs + wv m ys))) := ho
           have B1 := Q.hid (B1.out.below hbb)
           have B2 := Q.hid (B2.out.below hbb)
           have B3 := Q.hid (B3.out.below hbb)
           have HB := Q.hid (bs2 HB.out hbb)
           clear ho hb hbb k10 k11 k20 k21
           have k10 := B1.out.c0
           have k11 := B1.out.c1
           have k20 := B2.out.c0
           have k21 := B2.out.c1
           have k30 := B3.out.c0
           have k31 := B3.out.c1
           have f30 := B3.out.f0
           have f31 := B3.out.f1))
    all_goals
      go_wp2
      refine bodyPost_ret (by rw [results_cell1 rfl]; go_simp; rfl) rfl ?_
      exact ⟨A3, c3, rfl, far2 HO.out (by omega) (by omega) _ _, below_set2 HB.out (by omega) _ _⟩
  · by_cases hv : val xs < val ys
    · have HV : Hid (wv m (nwd (val ys - val xs)) = wv n xs + wv m ys) := by
        rw [wv_nwd (by omega), add_diff (Ne.symm hs), Int.add_comm]; rfl
      have hlen := sub_len h'.wds h.wds hl' (show val xs ≤ val ys by omega)
      have hll : xs.length ≤ ys.length := Nat.le_of_not_lt fun hc => by have := val_lt_of_len h'.wds h.wds ht hc; omega
      have hc0 : decide (cmp (val xs) (val ys) < 0) = true := by rw [cmp_lt hv]; rfl
      have hs1 : (n == m) = false := by simp [hs]
      have hs2 : (m == n) = false := by simp [Ne.symm hs]
      have hvv : val xs ≤ val ys := by omega
      have HVV := Q.hid hvv
      clear h h' hs ht ht' hv hvv
      obtain ⟨W, hW⟩ : ∃ W, W = (((w.alloc (.cells #[.bool n, .slice A xs.length c] 24)).alloc (.cells #[.bool m, .slice A' ys.length c'] 24)).alloc (.cells #[.bool false, .slice none 0 0] 24)) := ⟨_, rfl⟩
      have B1 : Hid (Bx W w.heap.size n (.slice A xs.length c)) := by rw [hW]; exact (((Bx.new w n (.slice A xs.length c)).alloc _).alloc _)
      have B2 : Hid (Bx W (w.heap.size + 1) m (.slice A' ys.length c')) := by
        have := ((Bx.new (w.alloc (.cells #[.bool n, .slice A xs.length c] 24)) m (.slice A' ys.length c')).alloc (.cells #[.bool false, .slice none 0 0] 24))
        simp only [World.size_alloc] at this
        rw [hW]; exact this
      have B3 : Hid (Bx W (w.heap.size + 1 + 1) false (.slice none 0 0)) := by
        have := Bx.new ((w.alloc (.cells #[.bool n, .slice A xs.length c] 24)).alloc (.cells #[.bool m, .slice A' ys.length c'] 24)) false (.slice none 0 0)
        simp only [World.size_alloc] at this
        rw [hW]; exact this
      have HB : Hid (Below w.heap.size w W) := by rw [hW]; exact below_alloc3 w _ _ _
      have hg3 : w.heap.size + 1 + 1 < W.heap.size := B3.out.lt
      have HX : Hid (In W A c xs) := H.out.below HB.out
      have HX' : Hid (In W A' c' ys) := H'.out.below HB.out
      have k10 := B1.out.c0
      have k11 := B1.out.c1
      have k20 := B2.out.c0
      have k21 := B2.out.c1
      have f10 := B1.out.f0
      have f11 := B1.out.f1
      have f20 := B2.out.f0
      have f21 := B2.out.f1
      go_enter Try.func68, Try.ntmps68
      go_wp2_with fail
      rw [← hW]
      clear hW
      refine (rCompare_calls A A' c c' xs ys _ HX.out HX'.out).mono ?_
      rintro e w1 ⟨rfl, rfl⟩
      have B1 := Q.hid (((B1.out.over m (.slice A' ys.length c')).far (g' := w.heap.size + 1) (by omega) 0 (.bool n)).far (g' := w.heap.size + 1) (by omega) 1 (.slice A xs.length c))
      have B2 := Q.hid (((B2.out.far (g' := w.heap.size) (by omega) 0 (.bool m)).far (g' := w.heap.size) (by omega) 1 (.slice A' ys.length c')).over n (.slice A xs.length c))
      have B3 := Q.hid ((((B3.out.far (g' := w.heap.size) (by omega) 0 (.bool m)).far (g' := w.heap.size) (by omega) 1 (.slice A' ys.length c')).far (g' := w.heap.size + 1) (by omega) 0 (.bool n)).far (g' := w.heap.size + 1) (by omega) 1 (.slice A xs.length c))
      have HB := Q.hid ((((HB.out.setCell (p := ⟨w.heap.size, 0, none⟩) (Nat.le_refl _) (.bool m)).setCell (p := ⟨w.heap.size, 1, none⟩) (Nat.le_refl _) (.slice A' ys.length c')).setCell (p := ⟨w.heap.size + 1, 0, none⟩) (Nat.le_succ _) (.bool n)).setCell (p := ⟨w.heap.size + 1, 1, none⟩) (Nat.le_succ _) (.slice A xs.length c))
      obtain ⟨W2, hW2⟩ : ∃ W2, W2 = ((((W.setCell ⟨w.heap.size, 0, none⟩ (.bool m)).setCell ⟨w.heap.size, 1, none⟩ (.slice A' ys.length c')).setCell ⟨w.heap.size + 1, 0, none⟩ (.bool n)).setCell ⟨w.heap.size + 1, 1, none⟩ (.slice A xs.length c)) := ⟨_, rfl⟩
      have hwz : W2.heap.size = W.heap.size := by rw [hW2]; simp only [World.size_setCell]
      have HWZ := Q.hid hwz
      rw [← hW2] at B1 B2 B3 HB
      have hg3 : w.heap.size + 1 + 1 < W2.heap.size := B3.out.lt
      have HX : Hid (In W2 A c xs) := H.out.below HB.out
      have HX' : Hid (In W2 A' c' ys) := H'.out.below HB.out
      go_wp2
      rw [← hW2]
      clear hW2 hwz k10 k11 k20 k21 f10 f11 f20 f21
      have k10 := B1.out.c0
      have k11 := B1.out.c1
      have k20 := B2.out.c0
      have k21 := B2.out.c1
      go_region_held3 (fun w' => w'.cell? ⟨w.heap.size, 0, none⟩ = some (.bool m) ∧ w'.cell? ⟨w.heap.size, 1, none⟩ = some (.slice A' ys.length c') ∧ w'.cell? ⟨w.heap.size + 1, 0, none⟩ = some (.bool n) ∧ w'.cell? ⟨w.heap.size + 1, 1, none⟩ = some (.slice A xs.length c)) (first | exact ⟨k10, k11, k20, k21⟩ | exact ⟨set2_cell (by omega) k10, set2_cell (by omega) k11, set2_cell (by omega) k20, set2_cell (by omega) k21⟩) (first
          | (go_at_call 82
             refine (rLess_calls A' A c' c ys xs _ ?_ ?_ (by omega) (by omega) HVV.out).mono ?_
             exact ⟨HX'.out.rd, HX'.out.cap, HX'.out.small, HX'.out.wds⟩
             exact ⟨HX.out.rd, HX.out.cap, HX.out.small, HX.out.wds⟩
             rintro e w2 ⟨v, rfl, ho, hb⟩
             obtain ⟨A2, c2, e2, i2⟩ := ho.inn (nwd_wds _) (by omega)
             subst e2
             have hbb : Below W2.heap.size W2 w2 := ⟨hb.os, hb.tape, hb.output, hb.size, hb.block⟩
             have HI := Q.hid i2
             have hsz : W2.heap.size ≤ w2.heap.size := hbb.size
             have B1 := Q.hid (B1.out.below hbb)
             have B2 := Q.hid (B2.out.below hbb)
             have B3 := Q.hid (B3.out.below hbb)
             have HB := Q.hid (bs2 HB.out hbb)
             clear ho hb hbb i2 k10 k11 k20 k21
             have k10 := B1.out.c0
             have k11 := B1.out.c1
             have k20 := B2.out.c0
             have k21 := B2.out.c1)
          | (go_at_call 48
             refine (rmade_calls m A2 c2 (nwd (val ys - val xs)) _ ?_).mono ?_
             exact ⟨HI.out.rd, HI.out.cap, HI.out.small, HI.out.wds⟩
             rintro e w3 ⟨A3, c3, rfl, ho, hb⟩
             rw [HV.out] at ho ⊢
             have hbb : Below w2.heap.size w2 w3 := ⟨hb.os, hb.tape, hb.output, hb.size, hb.block⟩
             have HO : Hid (Ow w3 58 w2.heap.size (.slice A3 (cw (wv n xs + wv m ys)).length c3) (cw (wv n xs + wv m ys))) := ho
             have B1 := Q.hid (B1.out.below hbb)
             have B2 := Q.hid (B2.out.below hbb)
             have B3 := Q.hid (B3.out.below hbb)
             have HB := Q.hid (bs2 HB.out hbb)
             clear ho hb hbb k10 k11 k20 k21
             have k10 := B1.out.c0
             have k11 := B1.out.c1
             have k20 := B2.out.c0
             have k21 := B2.out.c1
             have k30 := B3.out.c0
             have k31 := B3.out.c1
             have f30 := B3.out.f0
             have f31 := B3.out.f1))
      all_goals
        go_wp2
        refine bodyPost_ret (by rw [results_cell1 rfl]; go_simp; rfl) rfl ?_
        exact ⟨A3, c3, rfl, far2 HO.out (by omega) (by omega) _ _, below_set2 HB.out (by omega) _ _⟩
    · have HV : Hid (wv n (nwd (val xs - val ys)) = wv n xs + wv m ys) := by
        rw [wv_nwd (by omega), add_diff hs]; rfl
      have hlen := sub_len h.wds h'.wds hl (show val ys ≤ val xs by omega)
      have hll : ys.length ≤ xs.length := Nat.le_of_not_lt fun hc => by have := val_lt_of_len h.wds h'.wds ht' hc; omega
      have hc0 : decide (cmp (val xs) (val ys) < 0) = false := by unfold cmp; rw [if_neg hv]; split <;> rfl
      have hs1 : (n == m) = false := by simp [hs]
      have hs2 : (m == n) = false := by simp [Ne.symm hs]
      have hvv : val ys ≤ val xs := by omega
      have HVV := Q.hid hvv
      clear h h' hs ht ht' hv hvv
      obtain ⟨W, hW⟩ : ∃ W, W = (((w.alloc (.cells #[.bool n, .slice A xs.length c] 24)).alloc (.cells #[.bool m, .slice A' ys.length c'] 24)).alloc (.cells #[.bool false, .slice none 0 0] 24)) := ⟨_, rfl⟩
      have B1 : Hid (Bx W w.heap.size n (.slice A xs.length c)) := by rw [hW]; exact (((Bx.new w n (.slice A xs.length c)).alloc _).alloc _)
      have B2 : Hid (Bx W (w.heap.size + 1) m (.slice A' ys.length c')) := by
        have := ((Bx.new (w.alloc (.cells #[.bool n, .slice A xs.length c] 24)) m (.slice A' ys.length c')).alloc (.cells #[.bool false, .slice none 0 0] 24))
        simp only [World.size_alloc] at this
        rw [hW]; exact this
      have B3 : Hid (Bx W (w.heap.size + 1 + 1) false (.slice none 0 0)) := by
        have := Bx.new ((w.alloc (.cells #[.bool n, .slice A xs.length c] 24)).alloc (.cells #[.bool m, .slice A' ys.length c'] 24)) false (.slice none 0 0)
        simp only [World.size_alloc] at this
        rw [hW]; exact this
      have HB : Hid (Below w.heap.size w W) := by rw [hW]; exact below_alloc3 w _ _ _
      have hg3 : w.heap.size + 1 + 1 < W.heap.size := B3.out.lt
      have HX : Hid (In W A c xs) := H.out.below HB.out
      have HX' : Hid (In W A' c' ys) := H'.out.below HB.out
      have k10 := B1.out.c0
      have k11 := B1.out.c1
      have k20 := B2.out.c0
      have k21 := B2.out.c1
      go_enter Try.func68, Try.ntmps68
      go_wp2_with fail
      rw [← hW]
      clear hW
      refine (rCompare_calls A A' c c' xs ys _ HX.out HX'.out).mono ?_
      rintro e w1 ⟨rfl, rfl⟩
      go_wp2
      go_region_held3 (fun w' => w'.cell? ⟨w.heap.size, 0, none⟩ = some (.bool n) ∧ w'.cell? ⟨w.heap.size, 1, none⟩ = some (.slice A xs.length c) ∧ w'.cell? ⟨w.heap.size + 1, 0, none⟩ = some (.bool m) ∧ w'.cell? ⟨w.heap.size + 1, 1, none⟩ = some (.slice A' ys.length c')) (first | exact ⟨k10, k11, k20, k21⟩ | exact ⟨set2_cell (by omega) k10, set2_cell (by omega) k11, set2_cell (by omega) k20, set2_cell (by omega) k21⟩) (first
          | (go_at_call 82
             refine (rLess_calls A A' c c' xs ys _ ?_ ?_ (by omega) (by omega) HVV.out).mono ?_
             exact ⟨HX.out.rd, HX.out.cap, HX.out.small, HX.out.wds⟩
             exact ⟨HX'.out.rd, HX'.out.cap, HX'.out.small, HX'.out.wds⟩
             rintro e w2 ⟨v, rfl, ho, hb⟩
             obtain ⟨A2, c2, e2, i2⟩ := ho.inn (nwd_wds _) (by omega)
             subst e2
             have hbb : Below W.heap.size W w2 := ⟨hb.os, hb.tape, hb.output, hb.size, hb.block⟩
             have HI := Q.hid i2
             have hsz : W.heap.size ≤ w2.heap.size := hbb.size
             have B1 := Q.hid (B1.out.below hbb)
             have B2 := Q.hid (B2.out.below hbb)
             have B3 := Q.hid (B3.out.below hbb)
             have HB := Q.hid (bs2 HB.out hbb)
             clear ho hb hbb i2 k10 k11 k20 k21
             have k10 := B1.out.c0
             have k11 := B1.out.c1
             have k20 := B2.out.c0
             have k21 := B2.out.c1)
          | (go_at_call 48
             refine (rmade_calls n A2 c2 (nwd (val xs - val ys)) _ ?_).mono ?_
             exact ⟨HI.out.rd, HI.out.cap, HI.out.small, HI.out.wds⟩
             rintro e w3 ⟨A3, c3, rfl, ho, hb⟩
             rw [HV.out] at ho ⊢
             have hbb : Below w2.heap.size w2 w3 := ⟨hb.os, hb.tape, hb.output, hb.size, hb.block⟩
             have HO : Hid (Ow w3 58 w2.heap.size (.slice A3 (cw (wv n xs + wv m ys)).length c3) (cw (wv n xs + wv m ys))) := ho
             have B1 := Q.hid (B1.out.below hbb)
             have B2 := Q.hid (B2.out.below hbb)
             have B3 := Q.hid (B3.out.below hbb)
             have HB := Q.hid (bs2 HB.out hbb)
             clear ho hb hbb k10 k11 k20 k21
             have k10 := B1.out.c0
             have k11 := B1.out.c1
             have k20 := B2.out.c0
             have k21 := B2.out.c1
             have k30 := B3.out.c0
             have k31 := B3.out.c1
             have f30 := B3.out.f0
             have f31 := B3.out.f1))
      all_goals
        go_wp2
        refine bodyPost_ret (by rw [results_cell1 rfl]; go_simp; rfl) rfl ?_
        exact ⟨A3, c3, rfl, far2 HO.out (by omega) (by omega) _ _, below_set2 HB.out (by omega) _ _⟩
end Go.Proofs.Ytidccoahjpjoaaa
