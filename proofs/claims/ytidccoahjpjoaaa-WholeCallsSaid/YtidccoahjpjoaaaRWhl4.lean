/- The reference of layer 2: small numbers, signs, comparing, divisors; what each call does. -/
import Derived.Test.YtidccoahjpjoaaaRWhl3
set_option linter.unusedVariables false
set_option linter.unusedSimpArgs false
namespace Go.Proofs.Ytidccoahjpjoaaa
open Go Go.RowKit Q

set_option maxHeartbeats 1000000 in
theorem rWOf_calls (x : Int) (w : World) (h0 : -9223372036854775808 ≤ x) (h1 : x < 9223372036854775808) :
    Calls Try.prog 9 #[.int .i64 x] w fun e w' => ∃ B d, e = .returned (.agg #[.bool (cn x), .slice B (cw x).length d]) ∧ Ow w' 58 w.heap.size (.slice B (cw x).length d) (cw x) ∧ Below w.heap.size w w' := by
  by_cases hx : x < 0
  · obtain ⟨k, hk⟩ : ∃ k : Int, k = (-x) := ⟨_, rfl⟩
    have hk0 : 0 ≤ k := by omega
    have hk1 : k ≤ 9223372036854775808 := by omega
    have hw1 : IntKind.u64.wrap x = x + 18446744073709551616 := by rw [IntKind.wrap_u64]; omega
    have hw2 : IntKind.u64.wrap (-(x + 18446744073709551616)) = k := by rw [IntKind.wrap_u64]; omega
    have hd : decide (x < 0) = true := decide_eq_true hx
    have HV : Hid (wv true [k % 4294967296, k / 4294967296] = x) := by
      have e : val [k % 4294967296, k / 4294967296] = k := by simp only [val]; omega
      unfold wv; rw [e]; simp [Hid]; omega
    obtain ⟨W, hW⟩ : ∃ W, W = ((w.alloc (.cells #[.bool false, .slice none 0 0] 24)).alloc (.cells (ws [k % 4294967296, k / 4294967296]).toArray 58)) := ⟨_, rfl⟩
    have HI : Hid (In W (some ⟨w.heap.size + 1, 0, none⟩) 2 [k % 4294967296, k / 4294967296]) := by
      have HO := Ow.lit (w.alloc (.cells #[.bool false, .slice none 0 0] 24)) 58 w.heap.size [k % 4294967296, k / 4294967296] (by simp) (by simp [maxLen])
      simp only [World.size_alloc] at HO
      rw [hW]
      exact ⟨HO.read.2.2.2, by simp, by simp, Wds.cons (by omega) (by omega) (Wds.cons (by omega) (by omega) Wds.nil)⟩
    have B3 : Hid (Bx W w.heap.size false (.slice none 0 0)) := by rw [hW]; exact (Bx.new w false (.slice none 0 0)).alloc _
    have HB : Hid (Below w.heap.size w W) := by rw [hW]; exact below_alloc2 w _ _
    have hg3 : w.heap.size < W.heap.size := B3.out.lt
    clear hk h0 h1
    go_enter Try.func9, Try.ntmps9
    go_wp2_with fail
    have HI2 := HI.out
    rw [hW] at HI2
    refine (rmade_calls true (some ⟨w.heap.size + 1, 0, none⟩) 2 [k % 4294967296, k / 4294967296] _ HI2).mono ?_
    rintro e w1 ⟨A1, c1, rfl, ho, hb⟩
    rw [HV.out] at ho ⊢
    have hb : Below W.heap.size W w1 := by rw [hW]; exact hb
    have ho : Ow w1 58 W.heap.size (.slice A1 (cw x).length c1) (cw x) := by rw [hW]; exact ho
    have HO := Q.hid ho
    have B3 := Q.hid (B3.out.below hb)
    have HB := Q.hid (bs2 HB.out hb)
    clear ho hb hW HI2 HI
    have k30 := B3.out.c0
    have k31 := B3.out.c1
    have f30 := B3.out.f0
    have f31 := B3.out.f1
    go_wp2
    refine bodyPost_ret (by rw [results_cell1 rfl]; go_simp; rfl) rfl ?_
    exact ⟨A1, c1, rfl, far2 HO.out hg3 (Nat.le_of_lt hg3) _ _, below_set2 HB.out (Nat.le_refl _) _ _⟩
  · obtain ⟨k, hk⟩ : ∃ k : Int, k = x := ⟨_, rfl⟩
    have hk0 : 0 ≤ k := by omega
    have hk1 : k ≤ 9223372036854775808 := by omega
    have hw1 : IntKind.u64.wrap x = k := by rw [IntKind.wrap_u64]; omega
    have hd : decide (x < 0) = false := decide_eq_false hx
    have HV : Hid (wv false [k % 4294967296, k / 4294967296] = x) := by
      have e : val [k % 4294967296, k / 4294967296] = k := by simp only [val]; omega
      unfold wv; rw [e]; simp [Hid]; omega
    obtain ⟨W, hW⟩ : ∃ W, W = ((w.alloc (.cells #[.bool false, .slice none 0 0] 24)).alloc (.cells (ws [k % 4294967296, k / 4294967296]).toArray 58)) := ⟨_, rfl⟩
    have HI : Hid (In W (some ⟨w.heap.size + 1, 0, none⟩) 2 [k % 4294967296, k / 4294967296]) := by
      have HO := Ow.lit (w.alloc (.cells #[.bool false, .slice none 0 0] 24)) 58 w.heap.size [k % 4294967296, k / 4294967296] (by simp) (by simp [maxLen])
      simp only [World.size_alloc] at HO
      rw [hW]
      exact ⟨HO.read.2.2.2, by simp, by simp, Wds.cons (by omega) (by omega) (Wds.cons (by omega) (by omega) Wds.nil)⟩
    have B3 : Hid (Bx W w.heap.size false (.slice none 0 0)) := by rw [hW]; exact (Bx.new w false (.slice none 0 0)).alloc _
    have HB : Hid (Below w.heap.size w W) := by rw [hW]; exact below_alloc2 w _ _
    have hg3 : w.heap.size < W.heap.size := B3.out.lt
    clear hk h0 h1
    go_enter Try.func9, Try.ntmps9
    go_wp2_with fail
    have HI2 := HI.out
    rw [hW] at HI2
    refine (rmade_calls false (some ⟨w.heap.size + 1, 0, none⟩) 2 [k % 4294967296, k / 4294967296] _ HI2).mono ?_
    rintro e w1 ⟨A1, c1, rfl, ho, hb⟩
    rw [HV.out] at ho ⊢
    have hb : Below W.heap.size W w1 := by rw [hW]; exact hb
    have ho : Ow w1 58 W.heap.size (.slice A1 (cw x).length c1) (cw x) := by rw [hW]; exact ho
    have HO := Q.hid ho
    have B3 := Q.hid (B3.out.below hb)
    have HB := Q.hid (bs2 HB.out hb)
    clear ho hb hW HI2 HI
    have k30 := B3.out.c0
    have k31 := B3.out.c1
    have f30 := B3.out.f0
    have f31 := B3.out.f1
    go_wp2
    refine bodyPost_ret (by rw [results_cell1 rfl]; go_simp; rfl) rfl ?_
    exact ⟨A1, c1, rfl, far2 HO.out hg3 (Nat.le_of_lt hg3) _ _, below_set2 HB.out (Nat.le_refl _) _ _⟩

set_option maxHeartbeats 1000000 in
theorem rWSign_calls (n : Bool) (A : Option Addr) (c : Nat) (xs : List Int) (w : World) (h : In w A c xs) :
    Calls Try.prog 41 #[.agg #[.bool n, .slice A xs.length c]] w fun e w' => e = .returned (.tuple #[.int .i64 (signW n xs), .int .i64 (chkW n xs)]) ∧ Below w.heap.size w w' := by
  have H := Q.hid h
  have hm : xs.length ≤ 9223372036854775807 := by have := h.small; omega
  have hw := h.wds
  clear h
  by_cases h0 : chkW n xs = 0
  · have hb0 : (chkW n xs != 0) = false := by simp [h0]
    have HF : Hid (signW n xs = sgW n xs) := by unfold signW; rw [if_pos h0, sign_val hw h0]; rfl
    have HC : Hid (chkW n xs = 0) := h0
    have hcs : (n = true ∧ Hid (sgW n xs = -1)) ∨ (n = false ∧ decide (0 < (xs.length : Int)) = true ∧ decide (0 < xs.length) = true ∧ Hid (sgW n xs = 1)) ∨ (n = false ∧ decide (0 < (xs.length : Int)) = false ∧ decide (0 < xs.length) = false ∧ Hid (sgW n xs = 0)) := by
      have h3 := (chkW_zero.1 h0).2.2
      cases xs with
      | nil =>
        have := h3 rfl
        exact .inr (.inr ⟨this, rfl, rfl, by simp [sgW, Hid]⟩)
      | cons x xs =>
        cases n with
        | true => exact .inl ⟨rfl, by simp [sgW, Hid]⟩
        | false => exact .inr (.inl ⟨rfl, decide_eq_true (by simp only [List.length_cons]; omega), decide_eq_true (by simp), by simp [sgW, Hid]⟩)
    clear h0
    rcases hcs with ⟨rfl, HS⟩ | ⟨rfl, hl1, hl2, HS⟩ | ⟨rfl, hl1, hl2, HS⟩
    all_goals
      go_enter Try.func41, Try.ntmps41
      go_wp2_with fail
      refine (rWCheck_calls _ A c xs _ (H.out.below (below_alloc1 _ _))).mono ?_
      rintro e w1 ⟨rfl, hb1⟩
      have B1 := Q.hid ((Bx.new w _ (.slice A xs.length c)).below hb1)
      have HB := Q.hid ((below_alloc1 w _).trans (hb1.mono (by simp)))
      clear hb1
      have k10 := B1.out.c0
      have k11 := B1.out.c1
      go_wp2
      go_ret2
      exact ⟨by rw [HF.out, HC.out, HS.out]; rfl, HB.out⟩
  · have hb0 : (chkW n xs != 0) = true := by simp [h0]
    have HF : Hid (signW n xs = 0) := if_neg h0
    clear h0
    go_enter Try.func41, Try.ntmps41
    go_wp2_with fail
    refine (rWCheck_calls n A c xs _ (H.out.below (below_alloc1 _ _))).mono ?_
    rintro e w1 ⟨rfl, hb1⟩
    have HB := Q.hid ((below_alloc1 w _).trans (hb1.mono (by simp)))
    clear hb1
    go_wp2
    go_ret2
    exact ⟨by rw [HF.out]; rfl, HB.out⟩

set_option maxHeartbeats 2000000 in
theorem rWInt64_calls (n : Bool) (A : Option Addr) (c : Nat) (xs : List Int) (w : World) (h : In w A c xs) :
    Calls Try.prog 43 #[.agg #[.bool n, .slice A xs.length c]] w fun e w' => e = .returned (.tuple #[.int .i64 (i64 n xs), .bool (i64ok n xs)]) ∧ Below w.heap.size w w' := by
  have H := Q.hid h
  have hw := h.wds
  have HW := Q.hid h.wds
  have hm : xs.length ≤ 9223372036854775807 := by have := h.small; omega
  clear h
  have hv0 := val_nonneg hw
  have hno : ∀ (b : chkW n xs ≠ 0 ∨ ¬ (-9223372036854775808 ≤ wv n xs ∧ wv n xs < 9223372036854775808)), i64 n xs = 0 ∧ i64ok n xs = false := fun b => by
    have : i64ok n xs = false := by
      unfold i64ok
      refine decide_eq_false fun hh => ?_
      rcases b with b | b
      · exact b hh.1
      · exact b hh.2
    exact ⟨by unfold i64; rw [this]; rfl, this⟩
  have hyes : ∀ (b : chkW n xs = 0 ∧ -9223372036854775808 ≤ wv n xs ∧ wv n xs < 9223372036854775808), i64 n xs = wv n xs ∧ i64ok n xs = true := fun b => by
    have : i64ok n xs = true := decide_eq_true b
    exact ⟨by unfold i64; rw [this]; rfl, this⟩
  by_cases h0 : chkW n xs = 0
  · have hb0 : (chkW n xs != 0) = false := by simp [h0]
    by_cases hl : 2 < xs.length
    · have hbig := val_ge hw (chkW_zero.1 h0).2.1 (by intro e; subst e; simp at hl)
      have hb2 := Bp_mono (show 2 ≤ xs.length - 1 by omega)
      rw [bp_64] at hb2
      have HF : Hid (i64 n xs = 0 ∧ i64ok n xs = false) := hno (.inr (by unfold wv; split <;> omega))
      have hl1 : decide (2 < (xs.length : Int)) = true := decide_eq_true (by omega)
      have hl2 : decide (2 < xs.length) = true := decide_eq_true hl
      clear hno hyes h0 hv0 hbig hb2
      go_enter Try.func43, Try.ntmps43
      go_wp2_with fail
      refine (rWCheck_calls n A c xs _ (H.out.below (below_alloc1 _ _))).mono ?_
      rintro e w1 ⟨rfl, hb1⟩
      have B1 := Q.hid ((Bx.new w n (.slice A xs.length c)).below hb1)
      have HB := Q.hid ((below_alloc1 w _).trans (hb1.mono (by simp)))
      clear hb1
      have k10 := B1.out.c0
      have k11 := B1.out.c1
      go_wp2
      go_ret2
      exact ⟨by rw [HF.out.1, HF.out.2]; rfl, HB.out⟩
    · have hl1 : decide (2 < (xs.length : Int)) = false := decide_eq_false (by omega)
      have hl2 : decide (2 < xs.length) = false := decide_eq_false hl
      have hl3 : xs.length ≤ 2 := by omega
      have hvl := val_lt_len hw hl3
      rw [bp_64] at hvl
      obtain ⟨X, hX⟩ : ∃ X : Int, X = val xs := ⟨_, rfl⟩
      have HXV : Hid (X = val xs) := hX
      rw [← hX] at hvl hv0
      cases n with
      | true =>
        have hwv : wv true xs = -X := by rw [hX]; rfl
        by_cases hb : X ≤ 9223372036854775808
        · have HF : Hid (i64 true xs = -X ∧ i64ok true xs = true) := by rw [← hwv]; exact hyes ⟨h0, by omega, by omega⟩
          have hd : decide (X ≤ 9223372036854775808) = true := decide_eq_true hb
          have hw1 : IntKind.i64.wrap (-(IntKind.i64.wrap X)) = -X := by rw [IntKind.wrap_i64, IntKind.wrap_i64]; omega
          have hw2 : wrap64 (-(wrap64 X)) = -X := by unfold wrap64; omega
          clear hno hyes h0 hX hwv
          go_enter Try.func43, Try.ntmps43
          go_wp2_with fail
          refine (rWCheck_calls true A c xs _ (H.out.below (below_alloc1 _ _))).mono ?_
          rintro e w1 ⟨rfl, hb1⟩
          have B1 := Q.hid ((Bx.new w true (.slice A xs.length c)).below hb1)
          have HB := Q.hid ((below_alloc1 w _).trans (hb1.mono (by simp)))
          have HX := Q.hid (H.out.below HB.out).rd
          clear hb1
          have k10 := B1.out.c0
          have k11 := B1.out.c1
          go_wp2
          go_loop [4, 5] (fun u i => ∃ (k : Nat) (U : Int), k ≤ xs.length ∧ i = .int .i64 ((k : Int) - 1) ∧ u = .int .u64 U ∧ Hid (U = val (xs.drop k))) (fun _ i => (intOf i + 1).toNat)
          case atStart => exact ⟨xs.length, 0, Nat.le_refl _, rfl, rfl, by simp [Hid, val]⟩
          case round =>
            obtain ⟨k, U, hk, rfl, rfl, HU⟩ := hrel
            cases k with
            | zero =>
              obtain rfl : U = X := by rw [HXV.out]; exact HU.out
              go_wp2
              go_ret2
              exact ⟨by rw [HF.out.1, HF.out.2]; rfl, HB.out⟩
            | succ k =>
              rw [show (((k + 1 : Nat) : Int) - 1) = (k : Int) by omega]
              obtain ⟨ad, rfl, hx⟩ := HX.out k (by omega)
              have hw := HW.out.wd k
              have p0 : 0 ≤ wd xs k := hw.1
              have p1 : wd xs k < 4294967296 := hw.2
              have hu0 : 0 ≤ U := by rw [HU.out]; exact val_nonneg (HW.out.drop _)
              have hu1 : U < 4294967296 := by
                rw [HU.out]
                have := val_lt_len (HW.out.drop (k + 1)) (k := 1) (by rw [List.length_drop]; omega)
                exact this
              have hor := hor32 U (wd xs k) hu0 hu1 p0 p1
              have HN : Hid (U * 4294967296 + wd xs k = val (xs.drop k)) := by
                rw [drop_eq (by omega), HU.out]; simp only [val, Hid]; omega
              clear hw HU
              go_wp2
              go_round
              case rel => exact ⟨k, _, by omega, rfl, rfl, HN⟩
              case measure => simp [intOf]
        · have HF : Hid (i64 true xs = 0 ∧ i64ok true xs = false) := hno (.inr (by rw [hwv]; omega))
          have hd : decide (X ≤ 9223372036854775808) = false := decide_eq_false hb
          clear hno hyes h0 hX hwv
          go_enter Try.func43, Try.ntmps43
          go_wp2_with fail
          refine (rWCheck_calls true A c xs _ (H.out.below (below_alloc1 _ _))).mono ?_
          rintro e w1 ⟨rfl, hb1⟩
          have B1 := Q.hid ((Bx.new w true (.slice A xs.length c)).below hb1)
          have HB := Q.hid ((below_alloc1 w _).trans (hb1.mono (by simp)))
          have HX := Q.hid (H.out.below HB.out).rd
          clear hb1
          have k10 := B1.out.c0
          have k11 := B1.out.c1
          go_wp2
          go_loop [4, 5] (fun u i => ∃ (k : Nat) (U : Int), k ≤ xs.length ∧ i = .int .i64 ((k : Int) - 1) ∧ u = .int .u64 U ∧ Hid (U = val (xs.drop k))) (fun _ i => (intOf i + 1).toNat)
          case atStart => exact ⟨xs.length, 0, Nat.le_refl _, rfl, rfl, by simp [Hid, val]⟩
          case round =>
            obtain ⟨k, U, hk, rfl, rfl, HU⟩ := hrel
            cases k with
            | zero =>
              obtain rfl : U = X := by rw [HXV.out]; exact HU.out
              go_wp2
              go_ret2
              exact ⟨by rw [HF.out.1, HF.out.2]; rfl, HB.out⟩
            | succ k =>
              rw [show (((k + 1 : Nat) : Int) - 1) = (k : Int) by omega]
              obtain ⟨ad, rfl, hx⟩ := HX.out k (by omega)
              have hw := HW.out.wd k
              have p0 : 0 ≤ wd xs k := hw.1
              have p1 : wd xs k < 4294967296 := hw.2
              have hu0 : 0 ≤ U := by rw [HU.out]; exact val_nonneg (HW.out.drop _)
              have hu1 : U < 4294967296 := by
                rw [HU.out]
                have := val_lt_len (HW.out.drop (k + 1)) (k := 1) (by rw [List.length_drop]; omega)
                exact this
              have hor := hor32 U (wd xs k) hu0 hu1 p0 p1
              have HN : Hid (U * 4294967296 + wd xs k = val (xs.drop k)) := by
                rw [drop_eq (by omega), HU.out]; simp only [val, Hid]; omega
              clear hw HU
              go_wp2
              go_round
              case rel => exact ⟨k, _, by omega, rfl, rfl, HN⟩
              case measure => simp [intOf]
      | false =>
        have hwv : wv false xs = X := by rw [hX]; rfl
        by_cases hb : X < 9223372036854775808
        · have HF : Hid (i64 false xs = X ∧ i64ok false xs = true) := by rw [← hwv]; exact hyes ⟨h0, by omega, by omega⟩
          have hd : decide (X < 9223372036854775808) = true := decide_eq_true hb
          have hw1 : IntKind.i64.wrap X = X := by rw [IntKind.wrap_i64]; omega
          clear hno hyes h0 hX hwv
          go_enter Try.func43, Try.ntmps43
          go_wp2_with fail
          refine (rWCheck_calls false A c xs _ (H.out.below (below_alloc1 _ _))).mono ?_
          rintro e w1 ⟨rfl, hb1⟩
          have B1 := Q.hid ((Bx.new w false (.slice A xs.length c)).below hb1)
          have HB := Q.hid ((below_alloc1 w _).trans (hb1.mono (by simp)))
          have HX := Q.hid (H.out.below HB.out).rd
          clear hb1
          have k10 := B1.out.c0
          have k11 := B1.out.c1
          go_wp2
          go_loop [4, 5] (fun u i => ∃ (k : Nat) (U : Int), k ≤ xs.length ∧ i = .int .i64 ((k : Int) - 1) ∧ u = .int .u64 U ∧ Hid (U = val (xs.drop k))) (fun _ i => (intOf i + 1).toNat)
          case atStart => exact ⟨xs.length, 0, Nat.le_refl _, rfl, rfl, by simp [Hid, val]⟩
          case round =>
            obtain ⟨k, U, hk, rfl, rfl, HU⟩ := hrel
            cases k with
            | zero =>
              obtain rfl : U = X := by rw [HXV.out]; exact HU.out
              go_wp2
              go_ret2
              exact ⟨by rw [HF.out.1, HF.out.2]; rfl, HB.out⟩
            | succ k =>
              rw [show (((k + 1 : Nat) : Int) - 1) = (k : Int) by omega]
              obtain ⟨ad, rfl, hx⟩ := HX.out k (by omega)
              have hw := HW.out.wd k
              have p0 : 0 ≤ wd xs k := hw.1
              have p1 : wd xs k < 4294967296 := hw.2
              have hu0 : 0 ≤ U := by rw [HU.out]; exact val_nonneg (HW.out.drop _)
              have hu1 : U < 4294967296 := by
                rw [HU.out]
                have := val_lt_len (HW.out.drop (k + 1)) (k := 1) (by rw [List.length_drop]; omega)
                exact this
              have hor := hor32 U (wd xs k) hu0 hu1 p0 p1
              have HN : Hid (U * 4294967296 + wd xs k = val (xs.drop k)) := by
                rw [drop_eq (by omega), HU.out]; simp only [val, Hid]; omega
              clear hw HU
              go_wp2
              go_round
              case rel => exact ⟨k, _, by omega, rfl, rfl, HN⟩
              case measure => simp [intOf]
        · have HF : Hid (i64 false xs = 0 ∧ i64ok false xs = false) := hno (.inr (by rw [hwv]; omega))
          have hd : decide (X < 9223372036854775808) = false := decide_eq_false hb
          clear hno hyes h0 hX hwv
          go_enter Try.func43, Try.ntmps43
          go_wp2_with fail
          refine (rWCheck_calls false A c xs _ (H.out.below (below_alloc1 _ _))).mono ?_
          rintro e w1 ⟨rfl, hb1⟩
          have B1 := Q.hid ((Bx.new w false (.slice A xs.length c)).below hb1)
          have HB := Q.hid ((below_alloc1 w _).trans (hb1.mono (by simp)))
          have HX := Q.hid (H.out.below HB.out).rd
          clear hb1
          have k10 := B1.out.c0
          have k11 := B1.out.c1
          go_wp2
          go_loop [4, 5] (fun u i => ∃ (k : Nat) (U : Int), k ≤ xs.length ∧ i = .int .i64 ((k : Int) - 1) ∧ u = .int .u64 U ∧ Hid (U = val (xs.drop k))) (fun _ i => (intOf i + 1).toNat)
          case atStart => exact ⟨xs.length, 0, Nat.le_refl _, rfl, rfl, by simp [Hid, val]⟩
          case round =>
            obtain ⟨k, U, hk, rfl, rfl, HU⟩ := hrel
            cases k with
            | zero =>
              obtain rfl : U = X := by rw [HXV.out]; exact HU.out
              go_wp2
              go_ret2
              exact ⟨by rw [HF.out.1, HF.out.2]; rfl, HB.out⟩
            | succ k =>
              rw [show (((k + 1 : Nat) : Int) - 1) = (k : Int) by omega]
              obtain ⟨ad, rfl, hx⟩ := HX.out k (by omega)
              have hw := HW.out.wd k
              have p0 : 0 ≤ wd xs k := hw.1
              have p1 : wd xs k < 4294967296 := hw.2
              have hu0 : 0 ≤ U := by rw [HU.out]; exact val_nonneg (HW.out.drop _)
              have hu1 : U < 4294967296 := by
                rw [HU.out]
                have := val_lt_len (HW.out.drop (k + 1)) (k := 1) (by rw [List.length_drop]; omega)
                exact this
              have hor := hor32 U (wd xs k) hu0 hu1 p0 p1
              have HN : Hid (U * 4294967296 + wd xs k = val (xs.drop k)) := by
                rw [drop_eq (by omega), HU.out]; simp only [val, Hid]; omega
              clear hw HU
              go_wp2
              go_round
              case rel => exact ⟨k, _, by omega, rfl, rfl, HN⟩
              case measure => simp [intOf]
  · have hb0 : (chkW n xs != 0) = true := by simp [h0]
    have HF : Hid (i64 n xs = 0 ∧ i64ok n xs = false) := hno (.inl h0)
    clear hno hyes h0 hv0
    go_enter Try.func43, Try.ntmps43
    go_wp2_with fail
    refine (rWCheck_calls n A c xs _ (H.out.below (below_alloc1 _ _))).mono ?_
    rintro e w1 ⟨rfl, hb1⟩
    have HB := Q.hid ((below_alloc1 w _).trans (hb1.mono (by simp)))
    clear hb1
    go_wp2
    go_ret2
    exact ⟨by rw [HF.out.1, HF.out.2]; rfl, HB.out⟩

set_option maxHeartbeats 1000000 in
theorem rWCompare_calls (n m : Bool) (A A' : Option Addr) (c c' : Nat) (xs ys : List Int) (w : World) (h : In w A c xs) (h' : In w A' c' ys) :
    Calls Try.prog 42 #[.agg #[.bool n, .slice A xs.length c], .agg #[.bool m, .slice A' ys.length c']] w fun e w' => e = .returned (.tuple #[.int .i64 (cmpW n xs m ys), .int .i64 (chkW2 n xs m ys)]) ∧ Below w.heap.size w w' := by
  have H := Q.hid h
  have H' := Q.hid h'
  obtain ⟨W, hW⟩ : ∃ W, W = ((w.alloc (.cells #[.bool n, .slice A xs.length c] 24)).alloc (.cells #[.bool m, .slice A' ys.length c'] 24)) := ⟨_, rfl⟩
  have B1 : Hid (Bx W w.heap.size n (.slice A xs.length c)) := by rw [hW]; exact (Bx.new w n (.slice A xs.length c)).alloc _
  have B2 : Hid (Bx W (w.heap.size + 1) m (.slice A' ys.length c')) := by
    have := Bx.new (w.alloc (.cells #[.bool n, .slice A xs.length c] 24)) m (.slice A' ys.length c')
    simp only [World.size_alloc] at this
    rw [hW]; exact this
  have HB : Hid (Below w.heap.size w W) := by rw [hW]; exact below_alloc2 w _ _
  have HX : Hid (In W A c xs) := H.out.below HB.out
  have HX' : Hid (In W A' c' ys) := H'.out.below HB.out
  have k10 := B1.out.c0
  have k11 := B1.out.c1
  have k20 := B2.out.c0
  have k21 := B2.out.c1
  by_cases h0 : chkW2 n xs m ys = 0
  · have hb0 : (chkW2 n xs m ys != 0) = false := by simp [h0]
    have hc := chkW2_zero.1 h0
    have hcx := chkW_zero.1 hc.1
    have hcy := chkW_zero.1 hc.2
    have HC : Hid (chkW2 n xs m ys = 0) := h0
    have HT := Q.hid hcx.2.1
    have hl : xs.length ≤ 100000 := by omega
    have hl' : ys.length ≤ 100000 := by omega
    obtain ⟨v, hv⟩ : ∃ v, v = wv n xs - wv m ys := ⟨_, rfl⟩
    have HV := Q.hid hv
    have hcw : (cw v).length ≤ 100000 := by
      refine Nat.le_trans (cw_len (k := 2049) ?_) (by omega)
      have a := wv_abs_lt h.wds hc.1
      have b := wv_abs_lt h'.wds hc.2
      have c := Bp_succ 2048
      have d := Bp_pos 2048
      rw [hv]
      have e : Bp 2049 = 4294967296 * Bp 2048 := c
      omega
    have hcs : (cn v = true ∧ Hid (cmpW n xs m ys = -1)) ∨ (cn v = false ∧ decide (0 < ((cw v).length : Int)) = true ∧ decide (0 < (cw v).length) = true ∧ Hid (cmpW n xs m ys = 1)) ∨ (cn v = false ∧ decide (0 < ((cw v).length : Int)) = false ∧ decide (0 < (cw v).length) = false ∧ Hid (cmpW n xs m ys = 0)) := by
      have hcm : cmpW n xs m ys = cmp (wv n xs) (wv m ys) := if_pos h0
      rcases Int.lt_trichotomy (wv n xs) (wv m ys) with hlt | heq | hgt
      · exact .inl ⟨decide_eq_true (by omega), hcm.trans (cmp_lt hlt)⟩
      · have hv0 : v = 0 := by omega
        have hz : cw v = [] := (cw_nil_iff v).2 hv0
        exact .inr (.inr ⟨decide_eq_false (by omega), by rw [hz]; rfl, by rw [hz]; rfl, hcm.trans (cmp_eq heq)⟩)
      · have hz : cw v ≠ [] := fun e => by have := (cw_nil_iff v).1 e; omega
        have hp := List.length_pos_iff.2 hz
        exact .inr (.inl ⟨decide_eq_false (by omega), decide_eq_true (by omega), decide_eq_true hp, hcm.trans (cmp_gt hgt)⟩)
    clear h h' h0 hc hcx hcy hv
    rcases hcs with ⟨hn1, HS⟩ | ⟨hn1, hl1, hl2, HS⟩ | ⟨hn1, hl1, hl2, HS⟩
    all_goals
      go_enter Try.func42, Try.ntmps42
      go_wp2_with fail
      rw [← hW]
      clear hW
      refine (rWboth_calls n m A A' c c' xs ys _ HX.out HX'.out).mono ?_
      rintro e w1 ⟨rfl, hb⟩
      have HX := Q.hid (HX.out.below hb)
      have HX' := Q.hid (HX'.out.below hb)
      have B1 := Q.hid (B1.out.below hb)
      have B2 := Q.hid (B2.out.below hb)
      have HB := Q.hid (bs2 HB.out hb)
      clear hb k10 k11 k20 k21
      have k10 := B1.out.c0
      have k11 := B1.out.c1
      have k20 := B2.out.c0
      have k21 := B2.out.c1
      go_wp2_with fail
      refine (rWLess_calls n m A A' c c' xs ys _ HX.out HX'.out HT.out hl hl').mono ?_
      rintro e w2 ⟨A2, c2, rfl, ho, hb⟩
      rw [← HV.out, hn1]
      have HB := Q.hid (bs2 HB.out hb)
      clear ho hb
      go_wp2
      go_ret2
      exact ⟨by rw [HS.out, HC.out]; rfl, HB.out.alloc HB.out.size _⟩
  · have hb0 : (chkW2 n xs m ys != 0) = true := by simp [h0]
    have HF : Hid (cmpW n xs m ys = 0) := if_neg h0
    clear h h' h0
    go_enter Try.func42, Try.ntmps42
    go_wp2_with fail
    rw [← hW]
    clear hW
    refine (rWboth_calls n m A A' c c' xs ys _ HX.out HX'.out).mono ?_
    rintro e w1 ⟨rfl, hb⟩
    have HB := Q.hid (bs2 HB.out hb)
    clear hb
    go_wp2
    go_ret2
    exact ⟨by rw [HF.out]; rfl, HB.out⟩
end Go.Proofs.Ytidccoahjpjoaaa
