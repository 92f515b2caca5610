/- Package whole: small numbers, signs, comparisons; what each call does. -/
import Derived.Test.YtidccoahjpjoaaaQWhl2
set_option linter.unusedVariables false
set_option linter.unusedSimpArgs false
namespace Go.Proofs.Ytidccoahjpjoaaa
open Go Go.RowKit Q

theorem results_cell1 {P : Program} {fn : Func} {p : Tmp} {ty : TypeId} (h : fn.results = #[.cell p ty]) (tmps : Array Value) (w : World) :
    (results fn tmps).run P w = ((asAddr (tmps.getD p undef)).run P w).andThen fun a w₁ => (loadVar ty a).run P w₁ := by
  simp only [results, h]
  simp [Sem.run_bind, Result.andThen]
theorem of64_nwd {x : Int} (h0 : 0 ≤ x) (h1 : x < 18446744073709551616) : of64 x = nwd x := (nwd_eq (of64_wds h0 h1) (of64_tr x) (of64_val x)).symm
theorem bp_64 : Bp 2 = 18446744073709551616 := by decide
theorem sh_64 {x : Int} (h : (x.natAbs : Int) < 18446744073709551616) : Sh x := sh_of (a := 2) (by rw [bp_64]; exact h) (by omega)

set_option maxHeartbeats 1000000 in
theorem wOf_calls (x : Int) (w : World) (h0 : -9223372036854775808 ≤ x) (h1 : x < 9223372036854775808) :
    Calls Try.prog 7 #[.int .i64 x] w fun e w' => ∃ B d, e = .returned (.agg #[.bool (cn x), .slice B (cw x).length d]) ∧ Ow w' 58 w.heap.size (.slice B (cw x).length d) (cw x) ∧ Below w.heap.size w w' := by
  obtain ⟨k, hk⟩ : ∃ k : Int, k = (x.natAbs : Int) := ⟨_, rfl⟩
  have HM : Hid (mdW (decide (x < 0)) (of64 k) = ⟨cn x, cw x, 0⟩) := by
    have hs : toldW x = ⟨cn x, cw x, 0⟩ := toldW_can (sh_64 (by omega))
    rw [of64_nwd (by omega) (by omega), hk]; exact hs
  have hk0 : 0 ≤ k := by omega
  have hk1 : k < 18446744073709551616 := by omega
  by_cases hx : x < 0
  · have hd : decide (x < 0) = true := decide_eq_true hx
    have hw1 : IntKind.u64.wrap x = x + 18446744073709551616 := by rw [IntKind.wrap_u64]; omega
    have hw2 : IntKind.u64.wrap (-(x + 18446744073709551616)) = k := by rw [IntKind.wrap_u64]; omega
    have HM : Hid (mdW true (of64 k) = ⟨cn x, cw x, 0⟩) := by rw [← hd]; exact HM.out
    clear hk
    go_enter Try.func7, Try.ntmps7
    go_wp2_with fail
    refine (Of_calls k _ hk0 hk1).mono ?_
    rintro e w1 ⟨v, rfl, ho, hb⟩
    obtain ⟨A1, c1, e1, _⟩ := ho.slice
    subst e1
    have B3 := Q.hid ((Bx.new w false (.slice none 0 0)).below hb)
    have HB := Q.hid ((below_alloc1 w _).trans (hb.mono (by simp)))
    have hg3 : w.heap.size < w1.heap.size := B3.out.lt
    have ho2 : Ow w1 58 (w.heap.size + 1) (.slice A1 (of64 k).length c1) (of64 k) := by simpa using ho
    have HO := Q.hid ho2
    clear hb ho ho2
    go_wp2_with fail
    refine (wmade_calls true A1 c1 (w.heap.size + 1) (of64 k) _ HO.out).mono ?_
    rintro e w2 ⟨A2, c2, rfl, ho, hb⟩
    rw [HM.out] at ho ⊢
    have HO := Q.hid (ho.alloc (.cells #[.bool (cn x), .slice A2 (cw x).length c2] 24))
    have B3 := Q.hid ((B3.out.below hb).alloc (.cells #[.bool (cn x), .slice A2 (cw x).length c2] 24))
    have hsz := (bs2 HB.out hb).size
    have HB := Q.hid ((bs2 HB.out hb).alloc hsz (.cells #[.bool (cn x), .slice A2 (cw x).length c2] 24))
    have hg : w1.heap.size ≤ w2.heap.size := hb.size
    clear ho hb
    have k30 := B3.out.c0
    have k31 := B3.out.c1
    have f30 := B3.out.f0
    have f31 := B3.out.f1
    go_wp2
    refine bodyPost_ret (by rw [results_cell1 rfl]; go_simp; rfl) rfl ?_
    exact ⟨A2, c2, rfl, far2 HO.out (by omega) (by omega) _ _, below_set2 HB.out (Nat.le_refl _) _ _⟩
  · have hd : decide (x < 0) = false := decide_eq_false hx
    have hk2 : x = k := by omega
    have hw1 : IntKind.u64.wrap x = x := by rw [IntKind.wrap_u64]; omega
    subst hk2
    have HM : Hid (mdW false (of64 x) = ⟨cn x, cw x, 0⟩) := by rw [← hd]; exact HM.out
    clear hk
    go_enter Try.func7, Try.ntmps7
    go_wp2_with fail
    refine (Of_calls x _ hk0 hk1).mono ?_
    rintro e w1 ⟨v, rfl, ho, hb⟩
    obtain ⟨A1, c1, e1, _⟩ := ho.slice
    subst e1
    have B3 := Q.hid ((Bx.new w false (.slice none 0 0)).below hb)
    have HB := Q.hid ((below_alloc1 w _).trans (hb.mono (by simp)))
    have hg3 : w.heap.size < w1.heap.size := B3.out.lt
    have ho2 : Ow w1 58 (w.heap.size + 1) (.slice A1 (of64 x).length c1) (of64 x) := by simpa using ho
    have HO := Q.hid ho2
    clear hb ho ho2
    go_wp2_with fail
    refine (wmade_calls false A1 c1 (w.heap.size + 1) (of64 x) _ HO.out).mono ?_
    rintro e w2 ⟨A2, c2, rfl, ho, hb⟩
    rw [HM.out] at ho ⊢
    have HO := Q.hid (ho.alloc (.cells #[.bool (cn x), .slice A2 (cw x).length c2] 24))
    have B3 := Q.hid ((B3.out.below hb).alloc (.cells #[.bool (cn x), .slice A2 (cw x).length c2] 24))
    have hsz := (bs2 HB.out hb).size
    have HB := Q.hid ((bs2 HB.out hb).alloc hsz (.cells #[.bool (cn x), .slice A2 (cw x).length c2] 24))
    have hg : w1.heap.size ≤ w2.heap.size := hb.size
    clear ho hb
    have k30 := B3.out.c0
    have k31 := B3.out.c1
    have f30 := B3.out.f0
    have f31 := B3.out.f1
    go_wp2
    refine bodyPost_ret (by rw [results_cell1 rfl]; go_simp; rfl) rfl ?_
    exact ⟨A2, c2, rfl, far2 HO.out (by omega) (by omega) _ _, below_set2 HB.out (Nat.le_refl _) _ _⟩

theorem u64_ok_iff {n : Bool} {xs : List Int} (hw : Wds xs) (h : chkW n xs = 0) : u64ok xs = decide (val xs < 18446744073709551616) := by
  have ht : tl xs = xs.length := (chkW_zero.1 h).2.1
  unfold u64ok
  rw [ht]
  by_cases h2 : 2 < xs.length
  · have h3 := val_ge hw (chkW_zero.1 h).2.1 (by intro e; subst e; simp at h2)
    have h4 := Bp_mono (show 2 ≤ xs.length - 1 by omega)
    rw [bp_64] at h4
    rw [decide_eq_true h2, decide_eq_false (by omega)]; rfl
  · have h3 := val_lt_len hw (show xs.length ≤ 2 by omega)
    rw [bp_64] at h3
    rw [decide_eq_false h2, decide_eq_true h3]; rfl
theorem u64_val {n : Bool} {xs : List Int} (hw : Wds xs) (h : chkW n xs = 0) (hv : val xs < 18446744073709551616) : u64 xs = val xs := by
  have := u64_ok_iff hw h
  rw [decide_eq_true hv] at this
  unfold u64ok at this
  unfold u64
  rw [if_neg (by simpa using this)]

set_option maxHeartbeats 1000000 in
theorem wInt64_calls (n : Bool) (A : Option Addr) (c : Nat) (xs : List Int) (w : World) (h : In w A c xs) :
    Calls Try.prog 33 #[.agg #[.bool n, .slice A xs.length c]] w fun e w' => e = .returned (.tuple #[.int .i64 (i64 n xs), .bool (i64ok n xs)]) ∧ Below w.heap.size w w' := by
  have H := Q.hid h
  have hw := h.wds
  clear h
  have hv0 := val_nonneg hw
  have hno : ∀ (b : chkW n xs ≠ 0 ∨ ¬ (-9223372036854775808 ≤ wv n xs ∧ wv n xs < 9223372036854775808)), i64 n xs = 0 ∧ i64ok n xs = false := fun b => by
    have : i64ok n xs = false := by
      unfold i64ok
      refine decide_eq_false fun hh => ?_
      rcases b with b | b
      · exact b hh.1
      · exact b hh.2
    exact ⟨by unfold i64; rw [this]; rfl, this⟩
  have hyes : ∀ (b : chkW n xs = 0 ∧ -9223372036854775808 ≤ wv n xs ∧ wv n xs < 9223372036854775808), i64 n xs = wv n xs ∧ i64ok n xs = true := fun b => by
    have : i64ok n xs = true := decide_eq_true b
    exact ⟨by unfold i64; rw [this]; rfl, this⟩
  by_cases h0 : chkW n xs = 0
  · have hb0 : (chkW n xs != 0) = false := by simp [h0]
    by_cases hv : val xs < 18446744073709551616
    · have hok : u64ok xs = true := by rw [u64_ok_iff hw h0]; exact decide_eq_true hv
      have huv := u64_val hw h0 hv
      have HU : Hid (u64 xs = val xs ∧ u64ok xs = true) := ⟨huv, hok⟩
      generalize hX : val xs = X at *
      cases n with
      | true =>
        have hwv : wv true xs = -X := by rw [← hX]; rfl
        by_cases hb : X ≤ 9223372036854775808
        · have HF : Hid (i64 true xs = -X ∧ i64ok true xs = true) := by rw [← hwv]; exact hyes ⟨h0, by omega, by omega⟩
          have hd : decide (X ≤ 9223372036854775808) = true := decide_eq_true hb
          have hw1 : IntKind.i64.wrap (IntKind.u64.wrap (-X)) = -X := by rw [IntKind.wrap_u64, IntKind.wrap_i64]; omega
          clear hno hyes h0 hok huv hX hwv
          go_enter Try.func33, Try.ntmps33
          go_wp2_with fail
          refine (Uint64_calls A c xs _ (H.out.below (below_alloc1 _ _))).mono ?_
          rintro e w1 ⟨rfl, rfl⟩
          rw [HU.out.1, HU.out.2]
          go_wp2_with fail
          refine (wCheck_calls true A c xs _ (H.out.below (below_alloc1 _ _))).mono ?_
          rintro e w1 ⟨rfl, hb1⟩
          have B1 := Q.hid ((Bx.new w true (.slice A xs.length c)).below hb1)
          have HB := Q.hid ((below_alloc1 w _).trans (hb1.mono (by simp)))
          clear hb1
          have k10 := B1.out.c0
          have k11 := B1.out.c1
          go_wp2
          go_ret2
          exact ⟨by rw [HF.out.1, HF.out.2]; rfl, HB.out⟩
        · have HF : Hid (i64 true xs = 0 ∧ i64ok true xs = false) := hno (.inr (by rw [hwv]; omega))
          have hd : decide (X ≤ 9223372036854775808) = false := decide_eq_false hb
          clear hno hyes h0 hok huv hX hwv
          go_enter Try.func33, Try.ntmps33
          go_wp2_with fail
          refine (Uint64_calls A c xs _ (H.out.below (below_alloc1 _ _))).mono ?_
          rintro e w1 ⟨rfl, rfl⟩
          rw [HU.out.1, HU.out.2]
          go_wp2_with fail
          refine (wCheck_calls true A c xs _ (H.out.below (below_alloc1 _ _))).mono ?_
          rintro e w1 ⟨rfl, hb1⟩
          have B1 := Q.hid ((Bx.new w true (.slice A xs.length c)).below hb1)
          have HB := Q.hid ((below_alloc1 w _).trans (hb1.mono (by simp)))
          clear hb1
          have k10 := B1.out.c0
          have k11 := B1.out.c1
          go_wp2
          go_ret2
          exact ⟨by rw [HF.out.1, HF.out.2]; rfl, HB.out⟩
      | false =>
        have hwv : wv false xs = X := by rw [← hX]; rfl
        by_cases hb : X < 9223372036854775808
        · have HF : Hid (i64 false xs = X ∧ i64ok false xs = true) := by rw [← hwv]; exact hyes ⟨h0, by omega, by omega⟩
          have hd : decide (X < 9223372036854775808) = true := decide_eq_true hb
          have hw1 : IntKind.i64.wrap X = X := by rw [IntKind.wrap_i64]; omega
          clear hno hyes h0 hok huv hX hwv
          go_enter Try.func33, Try.ntmps33
          go_wp2_with fail
          refine (Uint64_calls A c xs _ (H.out.below (below_alloc1 _ _))).mono ?_
          rintro e w1 ⟨rfl, rfl⟩
          rw [HU.out.1, HU.out.2]
          go_wp2_with fail
          refine (wCheck_calls false A c xs _ (H.out.below (below_alloc1 _ _))).mono ?_
          rintro e w1 ⟨rfl, hb1⟩
          have B1 := Q.hid ((Bx.new w false (.slice A xs.length c)).below hb1)
          have HB := Q.hid ((below_alloc1 w _).trans (hb1.mono (by simp)))
          clear hb1
          have k10 := B1.out.c0
          have k11 := B1.out.c1
          go_wp2
          go_ret2
          exact ⟨by rw [HF.out.1, HF.out.2]; rfl, HB.out⟩
        · have HF : Hid (i64 false xs = 0 ∧ i64ok false xs = false) := hno (.inr (by rw [hwv]; omega))
          have hd : decide (X < 9223372036854775808) = false := decide_eq_false hb
          clear hno hyes h0 hok huv hX hwv
          go_enter Try.func33, Try.ntmps33
          go_wp2_with fail
          refine (Uint64_calls A c xs _ (H.out.below (below_alloc1 _ _))).mono ?_
          rintro e w1 ⟨rfl, rfl⟩
          rw [HU.out.1, HU.out.2]
          go_wp2_with fail
          refine (wCheck_calls false A c xs _ (H.out.below (below_alloc1 _ _))).mono ?_
          rintro e w1 ⟨rfl, hb1⟩
          have B1 := Q.hid ((Bx.new w false (.slice A xs.length c)).below hb1)
          have HB := Q.hid ((below_alloc1 w _).trans (hb1.mono (by simp)))
          clear hb1
          have k10 := B1.out.c0
          have k11 := B1.out.c1
          go_wp2
          go_ret2
          exact ⟨by rw [HF.out.1, HF.out.2]; rfl, HB.out⟩
    · have hok : u64ok xs = false := by rw [u64_ok_iff hw h0]; exact decide_eq_false hv
      have HU : Hid (u64ok xs = false) := hok
      have HF : Hid (i64 n xs = 0 ∧ i64ok n xs = false) := hno (.inr (by unfold wv; split <;> omega))
      clear hno hyes h0 hok hv hv0
      go_enter Try.func33, Try.ntmps33
      go_wp2_with fail
      refine (Uint64_calls A c xs _ (H.out.below (below_alloc1 _ _))).mono ?_
      rintro e w1 ⟨rfl, rfl⟩
      rw [HU.out]
      go_wp2_with fail
      refine (wCheck_calls n A c xs _ (H.out.below (below_alloc1 _ _))).mono ?_
      rintro e w1 ⟨rfl, hb1⟩
      have HB := Q.hid ((below_alloc1 w _).trans (hb1.mono (by simp)))
      clear hb1
      go_wp2
      go_ret2
      exact ⟨by rw [HF.out.1, HF.out.2]; rfl, HB.out⟩
  · have hb0 : (chkW n xs != 0) = true := by simp [h0]
    have HF : Hid (i64 n xs = 0 ∧ i64ok n xs = false) := hno (.inl h0)
    clear hno hyes h0 hv0
    go_enter Try.func33, Try.ntmps33
    go_wp2_with fail
    refine (Uint64_calls A c xs _ (H.out.below (below_alloc1 _ _))).mono ?_
    rintro e w1 ⟨rfl, rfl⟩
    go_wp2_with fail
    refine (wCheck_calls n A c xs _ (H.out.below (below_alloc1 _ _))).mono ?_
    rintro e w1 ⟨rfl, hb1⟩
    have HB := Q.hid ((below_alloc1 w _).trans (hb1.mono (by simp)))
    clear hb1
    go_wp2
    go_ret2
    exact ⟨by rw [HF.out.1, HF.out.2]; rfl, HB.out⟩

set_option maxHeartbeats 1000000 in
theorem is_calls (n : Bool) (A : Option Addr) (c : Nat) (xs : List Int) (x : Int) (w : World) (h : In w A c xs) :
    Calls Try.prog 10 #[.agg #[.bool n, .slice A xs.length c], .int .i64 x] w fun e w' => e = .returned (.bool (i64ok n xs && decide (i64 n xs = x))) ∧ Below w.heap.size w w' := by
  have H := Q.hid h
  clear h
  cases h1 : i64ok n xs with
  | false =>
    go_enter Try.func10, Try.ntmps10
    go_wp2_with fail
    refine (wInt64_calls n A c xs _ (H.out.below (below_alloc1 _ _))).mono ?_
    rintro e w1 ⟨rfl, hb1⟩
    rw [h1]
    have HB := Q.hid ((below_alloc1 w _).trans (hb1.mono (by simp)))
    clear hb1
    go_wp2
    go_ret
    exact ⟨rfl, HB.out⟩
  | true =>
    have HE : Hid ((i64 n xs == x) = decide (i64 n xs = x)) := rfl
    go_enter Try.func10, Try.ntmps10
    go_wp2_with fail
    refine (wInt64_calls n A c xs _ (H.out.below (below_alloc1 _ _))).mono ?_
    rintro e w1 ⟨rfl, hb1⟩
    rw [h1]
    have HB := Q.hid ((below_alloc1 w _).trans (hb1.mono (by simp)))
    clear hb1
    go_wp2
    go_ret
    exact ⟨rfl, HB.out⟩

set_option maxHeartbeats 1000000 in
theorem SameWhole_calls (n m : Bool) (A A' : Option Addr) (c c' : Nat) (xs ys : List Int) (w : World) (h : Rd w A xs) (h' : Rd w A' ys) (hm : xs.length ≤ 9223372036854775807) :
    Calls Try.prog 8 #[.agg #[.bool n, .slice A xs.length c], .agg #[.bool m, .slice A' ys.length c']] w fun e w' => e = .returned (.bool (n == m && decide (xs = ys))) ∧ Below w.heap.size w w' := by
  have H := Q.hid h
  have H' := Q.hid h'
  clear h h'
  cases hnm : (n == m) with
  | false =>
    go_enter Try.func8, Try.ntmps8
    go_wp2
    go_ret
    exact ⟨rfl, below_alloc2 _ _ _⟩
  | true =>
    go_enter Try.func8, Try.ntmps8
    go_wp2_with fail
    refine (SameWords_calls A A' c c' xs ys _ (H.out.below (below_alloc2 _ _ _)) (H'.out.below (below_alloc2 _ _ _)) hm).mono ?_
    rintro e w1 ⟨rfl, ⟨q, rfl⟩⟩
    go_wp2
    go_ret
    exact ⟨rfl, below_drewN (below_alloc2 _ _ _) _⟩
end Go.Proofs.Ytidccoahjpjoaaa
