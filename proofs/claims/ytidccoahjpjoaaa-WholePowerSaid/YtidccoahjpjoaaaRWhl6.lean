/- The reference of layer 2: powers of short numbers; what the call does. -/
import Derived.Test.YtidccoahjpjoaaaRWhl5
import Derived.Test.YtidccoahjpjoaaaQWhl7
set_option linter.unusedVariables false
set_option linter.unusedSimpArgs false
namespace Go.Proofs.Ytidccoahjpjoaaa
open Go Go.RowKit Q

/-- what is answered: a power -/
noncomputable def powW (n : Bool) (xs : List Int) (k : Int) : Wn := if chkW n xs = 0 then (if k < 0 ∨ 4096 < k then noW 2 else toldW (wv n xs ^ k.toNat)) else noW (chkW n xs)
theorem pow_bnd {v : Int} (h : (v.natAbs : Int) < Bp 4) (j : Nat) : ((v ^ j).natAbs : Int) < Bp (4 * j + 1) := by
  induction j with
  | zero => rw [Int.pow_zero]; decide
  | succ j ih =>
    rw [Int.pow_succ]
    have := mul_bnd ih h
    rwa [show 4 * j + 1 + 4 = 4 * (j + 1) + 1 by omega] at this
theorem pow_sh {v : Int} (h : (v.natAbs : Int) < Bp 4) {j : Nat} (hj : j ≤ 300) : Sh (v ^ j) := sh_of (pow_bnd h j) (by omega)
theorem pow_len {v : Int} (h : (v.natAbs : Int) < Bp 4) {j : Nat} (hj : j ≤ 300) : (cw (v ^ j)).length ≤ 1201 := Nat.le_trans (cw_len (pow_bnd h j)) (by omega)
/-- the state of a power, a factor at a time -/
structure PwR (w wr : World) (g3 gp : Nat) (n : Bool) (A : Option Addr) (c : Nat) (xs : List Int) (P : Int) (A1 : Option Addr) (c1 : Nat) : Prop where
  ba : Bx wr w.heap.size n (.slice A xs.length c)
  b3 : Bx wr g3 false (.slice none 0 0)
  bp : Bx wr gp (cn P) (.slice A1 (cw P).length c1)
  own : Ow wr 58 w.heap.size (.slice A1 (cw P).length c1) (cw P)
  np : (Value.slice A1 (cw P).length c1).ownBlock ≠ some gp
  n3 : (Value.slice A1 (cw P).length c1).ownBlock ≠ some g3
  below : Below w.heap.size w wr

set_option maxHeartbeats 1000000 in
theorem rWPower_calls (n : Bool) (A : Option Addr) (c : Nat) (xs : List Int) (k : Int) (w : World) (h : In w A c xs) (h4 : chkW n xs = 0 → xs.length ≤ 4) (hk : k ≤ 300 ∨ 4096 < k) (hk0 : -9223372036854775808 ≤ k) (hk1 : k ≤ 9223372036854775807) :
    Calls Try.prog 14 #[.agg #[.bool n, .slice A xs.length c], .int .i64 k] w fun e w' => ∃ B d, e = .returned (.tuple #[.agg #[.bool (powW n xs k).neg, .slice B (powW n xs k).ws.length d], .int .i64 (powW n xs k).err]) ∧ Ow w' 58 w.heap.size (.slice B (powW n xs k).ws.length d) (powW n xs k).ws ∧ Below w.heap.size w w' := by
  have H := Q.hid h
  obtain ⟨W, hW⟩ : ∃ W, W = ((w.alloc (.cells #[.bool n, .slice A xs.length c] 24)).alloc (.cells #[.bool false, .slice none 0 0] 24)) := ⟨_, rfl⟩
  have B1 : Hid (Bx W w.heap.size n (.slice A xs.length c)) := by rw [hW]; exact (Bx.new w n (.slice A xs.length c)).alloc _
  have B3 : Hid (Bx W (w.heap.size + 1) false (.slice none 0 0)) := by
    have := Bx.new (w.alloc (.cells #[.bool n, .slice A xs.length c] 24)) false (.slice none 0 0)
    simp only [World.size_alloc] at this
    rw [hW]; exact this
  have HB : Hid (Below w.heap.size w W) := by rw [hW]; exact below_alloc2 w _ _
  have hg3 : w.heap.size + 1 < W.heap.size := B3.out.lt
  have HX : Hid (In W A c xs) := H.out.below HB.out
  by_cases h0 : chkW n xs = 0
  · have hb0 : (chkW n xs != 0) = false := by simp [h0]
    by_cases hr : k < 0 ∨ 4096 < k
    · have HF : Hid (powW n xs k = noW 2) := (if_pos h0).trans (if_pos hr)
      rcases (by omega : k < 0 ∨ (¬ k < 0 ∧ 4096 < k)) with hf | ⟨hf, hf2⟩
      · have d1 : decide (k < 0) = true := decide_eq_true hf
        clear h h0 hr h4
        go_enter Try.func14, Try.ntmps14
        go_wp2_with fail
        rw [← hW]
        clear hW
        refine (rWCheck_calls n A c xs _ HX.out).mono ?_
        rintro e w1 ⟨rfl, hb⟩
        have B3 := Q.hid (B3.out.below hb)
        have HB := Q.hid (bs2 HB.out hb)
        clear hb
        have k30 := B3.out.c0
        have k31 := B3.out.c1
        have f30 := B3.out.f0
        have f31 := B3.out.f1
        go_wp2
        refine bodyPost_ret (by rw [results_cell_tmp rfl]; go_simp; rfl) rfl ?_
        exact ⟨none, 0, by rw [HF.out]; rfl, by rw [HF.out]; exact Ow.nil _ _ _, below_set2 HB.out (by omega) _ _⟩
      · have d1 : decide (k < 0) = false := decide_eq_false hf
        have d2 : decide (4096 < k) = true := decide_eq_true hf2
        clear h h0 hr h4
        go_enter Try.func14, Try.ntmps14
        go_wp2_with fail
        rw [← hW]
        clear hW
        refine (rWCheck_calls n A c xs _ HX.out).mono ?_
        rintro e w1 ⟨rfl, hb⟩
        have B3 := Q.hid (B3.out.below hb)
        have HB := Q.hid (bs2 HB.out hb)
        clear hb
        have k30 := B3.out.c0
        have k31 := B3.out.c1
        have f30 := B3.out.f0
        have f31 := B3.out.f1
        go_wp2
        refine bodyPost_ret (by rw [results_cell_tmp rfl]; go_simp; rfl) rfl ?_
        exact ⟨none, 0, by rw [HF.out]; rfl, by rw [HF.out]; exact Ow.nil _ _ _, below_set2 HB.out (by omega) _ _⟩
    · obtain ⟨K, rfl⟩ : ∃ K : Nat, k = (K : Int) := ⟨k.toNat, by omega⟩
      have hK : K ≤ 300 := by omega
      have hx4 : xs.length ≤ 4 := h4 h0
      have hv : ((wv n xs).natAbs : Int) < Bp 4 := can_len h.wds hx4
      have HV := Q.hid hv
      have HF : Hid (powW n xs (K : Int) = ⟨cn (wv n xs ^ K), cw (wv n xs ^ K), 0⟩) := (if_pos h0).trans ((if_neg hr).trans (by rw [Int.toNat_natCast]; exact toldW_can (pow_sh hv hK)))
      have d1 : decide ((K : Int) < 0) = false := decide_eq_false (by omega)
      have d2 : decide (4096 < (K : Int)) = false := decide_eq_false (by omega)
      clear h h0 hr h4 hv hk hk0 hk1
      go_enter Try.func14, Try.ntmps14
      go_wp2_with fail
      rw [← hW]
      clear hW
      refine (rWCheck_calls n A c xs _ HX.out).mono ?_
      rintro e w1 ⟨rfl, hb⟩
      have HX := Q.hid (HX.out.below hb)
      have B1 := Q.hid (B1.out.below hb)
      have B3 := Q.hid (B3.out.below hb)
      have HB := Q.hid (bs2 HB.out hb)
      have hg3 : w.heap.size + 1 < w1.heap.size := Nat.lt_of_lt_of_le hg3 hb.size
      clear hb
      go_wp2_with fail
      refine (rWOf_calls 1 _ (by omega) (by omega)).mono ?_
      rintro e w2 ⟨A1, c1, rfl, ho, hb⟩
      have hz := hb.size
      have HP : Hid (PwR w (w2.alloc (.cells #[.bool (cn 1), .slice A1 (cw 1).length c1] 24)) (w.heap.size + 1) w2.heap.size n A c xs 1 A1 c1) :=
        ⟨(B1.out.below hb).alloc _, (B3.out.below hb).alloc _, Bx.new _ _ _, (ho.mono HB.out.size).alloc _, fun e => by have := (ho.base _ e).2; omega, fun e => by have := (ho.base _ e).1; omega, (bs2 HB.out hb).alloc (bs2 HB.out hb).size _⟩
      have hgp : w.heap.size + 1 < w2.heap.size := by omega
      have hgp1 : w1.heap.size ≤ w2.heap.size := hz
      clear ho hb hz B1 B3 HB
      go_wp2
      go_loopw [8] (fun i wr => ∃ (j : Nat) (A1 : Option Addr) (c1 : Nat), j ≤ K ∧ i = .int .i64 j ∧ Hid (PwR w wr (w.heap.size + 1) w2.heap.size n A c xs (wv n xs ^ j) A1 c1)) (fun i _ => K - (intOf i).toNat)
      case atStart => exact ⟨0, A1, c1, by omega, rfl, by rw [Int.pow_zero]; exact HP⟩
      case round =>
        clear HP
        obtain ⟨j, A1, c1, hj, rfl, HP⟩ := hrel
        have HXr : Hid (In wr A c xs) := H.out.below HP.out.below
        have ka0 := HP.out.ba.c0
        have ka1 := HP.out.ba.c1
        have kp0 := HP.out.bp.c0
        have kp1 := HP.out.bp.c1
        have fp0 := HP.out.bp.f0
        have fp1 := HP.out.bp.f1
        have k30 := HP.out.b3.c0
        have k31 := HP.out.b3.c1
        have f30 := HP.out.b3.f0
        have f31 := HP.out.b3.f1
        by_cases hlt : j < K
        · have hl1 := pow_len HV.out (show j ≤ 300 by omega)
          have hl2 := pow_len HV.out (show j + 1 ≤ 300 by omega)
          have HE : Hid (wv (cn (wv n xs ^ j)) (cw (wv n xs ^ j)) * wv n xs = wv n xs ^ (j + 1)) := by rw [wv_can, Int.pow_succ]; rfl
          have hd1 : decide (2048 < ((cw (wv n xs ^ (j + 1))).length : Int)) = false := decide_eq_false (by omega)
          have hd2 : decide (2048 < (cw (wv n xs ^ (j + 1))).length) = false := decide_eq_false (by omega)
          have HI : Hid (In wr A1 c1 (cw (wv n xs ^ j))) := inn_of HP.out.own (pow_sh HV.out (by omega))
          go_wp2_with fail
          refine (Product_calls (cn (wv n xs ^ j)) n A1 A c1 c (cw (wv n xs ^ j)) xs _ HI.out HXr.out (by omega) (by omega)).mono ?_
          rintro e w3 ⟨A4, c4, rfl, ho, hb⟩
          rw [HE.out] at ho ⊢
          have hsz := HP.out.bp.lt
          have hsz3 := HP.out.b3.lt
          have hne : (Value.slice A4 (cw (wv n xs ^ (j + 1))).length c4).ownBlock ≠ some w2.heap.size := fun e => by have := (ho.base _ e).1; omega
          have hn3 : (Value.slice A4 (cw (wv n xs ^ (j + 1))).length c4).ownBlock ≠ some (w.heap.size + 1) := fun e => by have := (ho.base _ e).1; omega
          have HP2 : Hid (PwR w ((w3.setCell ⟨w2.heap.size, 0, none⟩ (.bool (cn (wv n xs ^ (j + 1))))).setCell ⟨w2.heap.size, 1, none⟩ (.slice A4 (cw (wv n xs ^ (j + 1))).length c4)) (w.heap.size + 1) w2.heap.size n A c xs (wv n xs ^ (j + 1)) A4 c4) :=
            ⟨((HP.out.ba.below hb).far (by omega) _ _).far (by omega) _ _, ((HP.out.b3.below hb).far (by omega) _ _).far (by omega) _ _, (HP.out.bp.below hb).over _ _, (((ho.mono HP.out.below.size).far hne _ _).far hne _ _), hne, hn3, below_set2 (bs2 HP.out.below hb) (by omega) _ _⟩
          have B := HP.out.bp.below hb
          clear ho hne hn3 HP HI HXr ka0 ka1 kp0 kp1 fp0 fp1 k30 k31 f30 f31 hsz hsz3
          have kp0 := B.c0
          have kp1 := B.c1
          have fp0 := B.f0
          have fp1 := B.f1
          clear B hb
          go_wp2
          go_roundw
          case rel => exact ⟨j + 1, A4, c4, by omega, by go_num, HP2⟩
          case measure => simp [intOf]; omega
        · obtain rfl : j = K := by omega
          have HN := Q.hid HP.out.n3
          have HO := Q.hid HP.out.own
          have HB := Q.hid HP.out.below
          go_wp2
          refine bodyPost_ret (by rw [results_cell_tmp rfl]; go_simp; rfl) rfl ?_
          exact ⟨A1, c1, by rw [HF.out], by rw [HF.out]; exact (HO.out.far HN.out _ _).far HN.out _ _, below_set2 HB.out (by omega) _ _⟩
  · have hb0 : (chkW n xs != 0) = true := by simp [h0]
    have HF : Hid (powW n xs k = noW (chkW n xs)) := if_neg h0
    clear h h0 h4
    go_enter Try.func14, Try.ntmps14
    go_wp2_with fail
    rw [← hW]
    clear hW
    refine (rWCheck_calls n A c xs _ HX.out).mono ?_
    rintro e w1 ⟨rfl, hb⟩
    have B3 := Q.hid (B3.out.below hb)
    have HB := Q.hid (bs2 HB.out hb)
    clear hb
    have k30 := B3.out.c0
    have k31 := B3.out.c1
    have f30 := B3.out.f0
    have f31 := B3.out.f1
    go_wp2
    refine bodyPost_ret (by rw [results_cell_tmp rfl]; go_simp; rfl) rfl ?_
    exact ⟨none, 0, by rw [HF.out]; rfl, by rw [HF.out]; exact Ow.nil _ _ _, below_set2 HB.out (by omega) _ _⟩
end Go.Proofs.Ytidccoahjpjoaaa
