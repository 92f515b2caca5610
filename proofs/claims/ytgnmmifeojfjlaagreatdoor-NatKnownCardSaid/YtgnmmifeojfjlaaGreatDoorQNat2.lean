/- Package nat: two compared, bits counted, numbers of 64 bits; what each call does. -/
import Derived.Test.YtgnmmifeojfjlaaGreatDoorQNat1
set_option linter.unusedVariables false
set_option linter.unusedSimpArgs false
namespace Go.Proofs.YtgnmmifeojfjlaaGreatDoor
open Go Go.RowKit Q

set_option maxHeartbeats 1000000 in
theorem Compare_calls (A A' : Option Addr) (c c' : Nat) (xs ys : List Int) (w : World) (h : In w A c xs) (h' : In w A' c' ys) :
    Calls Tryz.prog 19 #[.slice A xs.length c, .slice A' ys.length c'] w fun e w' => e = .returned (.int .i64 (cmp (val xs) (val ys))) ∧ Dr w w' := by
  have H := Q.hid h
  have H' := Q.hid h'
  have R := Q.hid h.trim.rd
  have R' := Q.hid h'.trim.rd
  have WX := Q.hid h.trim.wds
  have WY := Q.hid h'.trim.wds
  have VX : Hid (val (trim xs) = val xs) := val_trim xs
  have VY : Hid (val (trim ys) = val ys) := val_trim ys
  have TX : Hid (Tr (trim xs)) := Tr_trim xs
  have TY : Hid (Tr (trim ys)) := Tr_trim ys
  have hm : (trim xs).length ≤ 9223372036854775807 := by have := h.trim.small; omega
  have hm' : (trim ys).length ≤ 9223372036854775807 := by have := h'.trim.small; omega
  clear h h'
  rcases Nat.lt_trichotomy (trim xs).length (trim ys).length with hl | hl | hl
  · have e1 : (((trim xs).length : Int) != ((trim ys).length : Int)) = true := by simp; omega
    have e2 : decide (((trim xs).length : Int) < ((trim ys).length : Int)) = true := by simp; omega
    have e3 : decide ((trim xs).length < (trim ys).length) = true := by simp; omega
    have HF : Hid (cmp (val xs) (val ys) = -1) := by
      rw [← VX.out, ← VY.out]; exact cmp_lt (val_lt_of_len WX.out WY.out TY.out hl)
    clear hl
    go_enter Tryz.func19, Tryz.ntmps19
    go_wp2_with fail
    refine (cut_calls A c xs _ H.out).mono ?_
    rintro e w1 ⟨rfl, rfl⟩
    go_wp2_with fail
    refine (cut_calls A' c' ys _ H'.out).mono ?_
    rintro e w1 ⟨rfl, rfl⟩
    go_wp2
    go_ret
    exact ⟨by rw [HF.out]; rfl, Dr.refl _⟩
  · have e1 : (((trim xs).length : Int) != ((trim ys).length : Int)) = false := by simp; omega
    have HL := Q.hid hl
    have hle : (trim xs).length ≤ (trim ys).length := by omega
    have hge : (trim ys).length ≤ (trim xs).length := by omega
    clear hl
    go_enter Tryz.func19, Tryz.ntmps19
    go_wp2_with fail
    refine (cut_calls A c xs _ H.out).mono ?_
    rintro e w1 ⟨rfl, rfl⟩
    go_wp2_with fail
    refine (cut_calls A' c' ys _ H'.out).mono ?_
    rintro e w1 ⟨rfl, rfl⟩
    go_wp2
    go_loopw [5] (fun i wr => ∃ k : Nat, k ≤ (trim xs).length ∧ i = .int .i64 ((k : Int) - 1) ∧ Hid (∀ i, k ≤ i → wd (trim xs) i = wd (trim ys) i) ∧ Dr w wr) (fun i _ => (intOf i + 1).toNat)
    case atStart =>
      exact ⟨(trim xs).length, by omega, rfl, (fun i hi => by rw [wd_ge hi, wd_ge (by rw [← HL.out]; exact hi)] : ∀ i, (trim xs).length ≤ i → wd (trim xs) i = wd (trim ys) i), Dr.refl _⟩
    case round =>
      obtain ⟨k, hk, rfl, HE, ⟨n, rfl⟩⟩ := hrel
      cases k with
      | zero =>
        have HF : Hid (cmp (val xs) (val ys) = 0) := by
          rw [← VX.out, ← VY.out]; exact cmp_eq (val_congr (fun i => HE.out i (Nat.zero_le _)))
        clear HE
        go_wp2
        go_ret
        exact ⟨by rw [HF.out]; rfl, ⟨n, rfl⟩⟩
      | succ k =>
        obtain ⟨ad, rfl, hx⟩ := R.out k (by omega)
        obtain ⟨ad', rfl, hx'⟩ := R'.out k (by omega)
        have hi : (((k + 1 : Nat) : Int) - 1) = (k : Int) := by omega
        rw [hi]
        clear hi
        rcases Int.lt_trichotomy (wd (trim xs) k) (wd (trim ys) k) with hc | hc | hc
        · have d1 : decide (wd (trim xs) k < wd (trim ys) k) = true := by simpa using hc
          have HF : Hid (cmp (val xs) (val ys) = -1) := by
            rw [← VX.out, ← VY.out]; exact cmp_lt (val_lt_at WX.out WY.out k (fun i hi => HE.out i (by omega)) hc)
          clear HE hc
          go_wp2
          go_quiet (fail)
          go_wp2
          go_ret
          exact ⟨by rw [HF.out]; rfl, Dr.step ⟨n, rfl⟩ _⟩
        · have d1 : decide (wd (trim xs) k < wd (trim ys) k) = false := by simp; omega
          have d2 : decide (wd (trim ys) k < wd (trim xs) k) = false := by simp; omega
          have HE2 : Hid (∀ i, k ≤ i → wd (trim xs) i = wd (trim ys) i) := fun i hi => by
            rcases Nat.lt_or_eq_of_le hi with h1 | h1
            · exact HE.out i h1
            · rw [← h1]; exact hc
          clear HE hc
          go_wp2
          go_quiet (fail)
          go_wp2
          go_quiet (fail)
          go_wp2
          go_roundw
          case rel => exact ⟨k, by omega, by go_num, HE2, ⟨_, rfl⟩⟩
          case measure => simp [intOf]
        · have d1 : decide (wd (trim xs) k < wd (trim ys) k) = false := by simp; omega
          have d2 : decide (wd (trim ys) k < wd (trim xs) k) = true := by simpa using hc
          have HF : Hid (cmp (val xs) (val ys) = 1) := by
            rw [← VX.out, ← VY.out]; exact cmp_gt (val_lt_at WY.out WX.out k (fun i hi => (HE.out i (by omega)).symm) hc)
          clear HE hc
          go_wp2
          go_quiet (fail)
          go_wp2
          go_quiet (fail)
          go_wp2
          go_ret
          exact ⟨by rw [HF.out]; rfl, Dr.step (Dr.step ⟨n, rfl⟩ _) _⟩
  · have e1 : (((trim xs).length : Int) != ((trim ys).length : Int)) = true := by simp; omega
    have e2 : decide (((trim xs).length : Int) < ((trim ys).length : Int)) = false := by simp; omega
    have e3 : decide ((trim xs).length < (trim ys).length) = false := by simp; omega
    have HF : Hid (cmp (val xs) (val ys) = 1) := by
      rw [← VX.out, ← VY.out]; exact cmp_gt (val_lt_of_len WY.out WX.out TX.out hl)
    clear hl
    go_enter Tryz.func19, Tryz.ntmps19
    go_wp2_with fail
    refine (cut_calls A c xs _ H.out).mono ?_
    rintro e w1 ⟨rfl, rfl⟩
    go_wp2_with fail
    refine (cut_calls A' c' ys _ H'.out).mono ?_
    rintro e w1 ⟨rfl, rfl⟩
    go_wp2
    go_ret
    exact ⟨by rw [HF.out]; rfl, Dr.refl _⟩

/-- how many bits a value has -/
def bl (xs : List Int) : Int := if tl xs = 0 then 0 else 32 * ((tl xs : Int) - 1) + (Lib.bitLen (wd xs (tl xs - 1)).toNat : Int)

set_option maxHeartbeats 400000 in
theorem Bits_calls (A : Option Addr) (c : Nat) (xs : List Int) (w : World) (h : In w A c xs) :
    Calls Tryz.prog 24 #[.slice A xs.length c] w fun e w' => e = .returned (.int .i64 (bl xs)) ∧ w = w' := by
  have H := Q.hid h
  have HT : Hid ((trim xs).length = tl xs) := len_trim xs
  have hm : (trim xs).length * 4 ≤ 140737488351232 := h.trim.small
  have HW := Q.hid (h.trim.wds.wd ((trim xs).length - 1))
  have HD : Hid (wd (trim xs) (tl xs - 1) = wd xs (tl xs - 1)) := wd_trim _ _
  have R := Q.hid h.trim.rd
  clear h
  by_cases h0 : (trim xs).length = 0
  · have e1 : (((trim xs).length : Int) == 0) = true := beq_iff_eq.2 (by omega)
    have HF : Hid (bl xs = 0) := by unfold bl; rw [if_pos (by rw [← HT.out]; exact h0)]; rfl
    clear h0
    go_enter Tryz.func24, Tryz.ntmps24
    go_wp2_with fail
    refine (cut_calls A c xs _ H.out).mono ?_
    rintro e w1 ⟨rfl, rfl⟩
    go_wp2
    go_ret
    exact ⟨by rw [HF.out]; rfl, rfl⟩
  · have e1 : (((trim xs).length : Int) == 0) = false := beq_eq_false_iff_ne.2 (by omega)
    have HF : Hid (bl xs = 32 * (((trim xs).length : Int) - 1) + (Lib.bitLen (wd (trim xs) ((trim xs).length - 1)).toNat : Int)) := by
      unfold bl; rw [if_neg (by rw [← HT.out]; exact h0), HT.out, HD.out]; rfl
    have hp : 0 < (trim xs).length := by omega
    obtain ⟨ad, rfl, hx⟩ := R.out ((trim xs).length - 1) (by omega)
    have hi : ((((trim xs).length : Int) - 1).toNat) = (trim xs).length - 1 := by omega
    have hb := Lib.bitLen_le (wd (trim xs) ((trim xs).length - 1)).toNat 32 (by omega) (by have := HW.out; omega)
    clear h0
    go_enter Tryz.func24, Tryz.ntmps24
    go_wp2_with fail
    refine (cut_calls (some ad) c xs _ H.out).mono ?_
    rintro e w1 ⟨rfl, rfl⟩
    go_wp2_with fail
    refine (Tryz.bits_Len32 (wd (trim xs) ((trim xs).length - 1)) _ HW.out.1 (by have := HW.out; omega)).mono ?_
    rintro e w1 ⟨rfl, rfl⟩
    go_wp2
    go_ret
    exact ⟨by rw [HF.out]; rfl, rfl⟩

/-- the words of a number of 64 bits -/
def of64 (x : Int) : List Int := trim [x % 4294967296, x / 4294967296]
theorem of64_wds {x : Int} (h0 : 0 ≤ x) (h1 : x < 18446744073709551616) : Wds (of64 x) := Wds.trim (Wds.cons (by omega) (by omega) (Wds.cons (by omega) (by omega) Wds.nil))
theorem of64_val (x : Int) : val (of64 x) = x := by
  unfold of64; rw [val_trim]; simp only [val]; omega
theorem of64_tr (x : Int) : Tr (of64 x) := Tr_trim _
theorem of64_len (x : Int) : (of64 x).length ≤ 2 := by unfold of64; rw [len_trim]; exact tl_le _

set_option maxHeartbeats 400000 in
theorem Of_calls (x : Int) (w : World) (h0 : 0 ≤ x) (h1 : x < 18446744073709551616) :
    Calls Tryz.prog 53 #[.int .u64 x] w fun e w' => ∃ v, e = .returned v ∧ Ow w' 36 w.heap.size v (of64 x) ∧ Below w.heap.size w w' := by
  have HO := Ow.lit w 36 w.heap.size [x % 4294967296, x / 4294967296] (Nat.le_refl _) (by simp [maxLen])
  have HI : Hid (In (w.alloc (.cells (ws [x % 4294967296, x / 4294967296]).toArray 36)) (some ⟨w.heap.size, 0, none⟩) 2 [x % 4294967296, x / 4294967296]) :=
    ⟨HO.read.2.2.2, by simp, by simp, Wds.cons (by omega) (by omega) (Wds.cons (by omega) (by omega) Wds.nil)⟩
  have HO' : Hid (Ow (w.alloc (.cells (ws [x % 4294967296, x / 4294967296]).toArray 36)) 36 w.heap.size (.slice (some ⟨w.heap.size, 0, none⟩) (trim [x % 4294967296, x / 4294967296]).length 2) (of64 x)) := HO.trim
  clear HO
  go_enter Tryz.func53, Tryz.ntmps53
  go_wp2_with fail
  refine (cut_calls _ 2 [x % 4294967296, x / 4294967296] _ HI.out).mono ?_
  rintro e w1 ⟨rfl, rfl⟩
  go_wp2
  go_ret
  exact ⟨_, rfl, HO'.out, (Below.refl _ _).alloc (Nat.le_refl _) _⟩

/-- a value of 64 bits, if it is one -/
def u64 (xs : List Int) : Int := if 2 < tl xs then 0 else val xs
def u64ok (xs : List Int) : Bool := !decide (2 < tl xs)
theorem or32 (x y : Int) (h0 : 0 ≤ x) (h1 : x < 4294967296) (h2 : 0 ≤ y) (h3 : y < 4294967296) : bits .or .u64 x (y * 4294967296) = x + 4294967296 * y := by
  rw [u64_or x (y * 4294967296) (by omega) (by omega) (by omega) (by omega), nat_join32' _ _ (by omega) (by omega)]
  omega
theorem or0 (y : Int) (h2 : 0 ≤ y) (h3 : y < 18446744073709551616) : bits .or .u64 0 y = y := by
  rw [u64_or 0 y (by omega) (by omega) (by omega) (by omega)]
  simp; omega

set_option maxHeartbeats 400000 in
theorem Uint64_calls (A : Option Addr) (c : Nat) (xs : List Int) (w : World) (h : In w A c xs) :
    Calls Tryz.prog 52 #[.slice A xs.length c] w fun e w' => e = .returned (.tuple #[.int .u64 (u64 xs), .bool (u64ok xs)]) ∧ w = w' := by
  have H := Q.hid h
  have R := Q.hid h.trim.rd
  have W := Q.hid h.trim.wds
  have hm : (trim xs).length * 4 ≤ 140737488351232 := h.trim.small
  by_cases h2 : 2 < (trim xs).length
  · have HF : Hid (u64 xs = 0 ∧ u64ok xs = false) := by unfold u64 u64ok; rw [len_trim] at h2; simp [Hid, h2]
    clear h
    go_enter Tryz.func52, Tryz.ntmps52
    go_wp2_with fail
    refine (cut_calls A c xs _ H.out).mono ?_
    rintro e w1 ⟨rfl, rfl⟩
    go_wp2
    go_ret2
    exact ⟨by rw [HF.out.1, HF.out.2]; rfl, rfl⟩
  · have HF : Hid (u64 xs = val (trim xs) ∧ u64ok xs = true) := by unfold u64 u64ok; rw [val_trim]; rw [len_trim] at h2; simp [Hid, h2]
    clear h
    go_enter Tryz.func52, Tryz.ntmps52
    go_wp2_with fail
    refine (cut_calls A c xs _ H.out).mono ?_
    rintro e w1 ⟨rfl, rfl⟩
    go_wp2
    go_loop [4, 14] (fun x i => ∃ (k : Nat) (X : Int), k ≤ (trim xs).length ∧ i = .int .i64 k ∧ x = .int .u64 X ∧ Hid (X = val ((trim xs).take k))) (fun _ i => (trim xs).length - (intOf i).toNat)
    case atStart => exact ⟨0, 0, by omega, rfl, rfl, (rfl : (0 : Int) = val ((trim xs).take 0))⟩
    case round =>
      obtain ⟨k, X, hk, rfl, rfl, HX⟩ := hrel
      by_cases hlt : k < (trim xs).length
      · obtain ⟨ad, rfl, hx⟩ := R.out k hlt
        have hw := W.out.wd k
        have h0 : 0 ≤ wd (trim xs) k := hw.1
        have h1 : wd (trim xs) k < 4294967296 := hw.2
        clear hw
        have hv := val_take_succ hlt
        rcases (by omega : k = 0 ∨ k = 1) with rfl | rfl
        · rw [add_zero'] at hx
          have HV : Hid (val ((trim xs).take 1) = wd (trim xs) 0) := by rw [hv]; simp [val, Bp_zero, Hid]
          have HB := Q.hid (or0 (wd (trim xs) 0) h0 (by omega))
          have hX0 : X = 0 := HX.out
          subst hX0
          clear hv HX
          go_wp2
          go_round
          case rel => exact ⟨1, _, by omega, rfl, rfl, by rw [HV.out]; exact HB.out⟩
          case measure => simp [intOf]; omega
        · rw [add_pos' _ _ (by omega)] at hx
          have hw0 := W.out.wd 0
          have HX1 : Hid (X = wd (trim xs) 0) := by
            rw [HX.out, val_take_succ (by omega)]; simp [val, Bp_zero, Hid]
          have HV : Hid (val ((trim xs).take 2) = X + 4294967296 * wd (trim xs) 1) := by rw [hv, HX.out]; simp [Bp, Hid]
          have HB := Q.hid (or32 X (wd (trim xs) 1) (by rw [HX1.out]; exact hw0.1) (by rw [HX1.out]; exact hw0.2) h0 h1)
          clear hv HX hw0
          go_wp2
          go_round
          case rel => exact ⟨2, _, by omega, rfl, rfl, by rw [HV.out]; exact HB.out⟩
          case measure => simp [intOf]; omega
      · go_wp2
        go_ret2
        exact ⟨by rw [HF.out.1, HF.out.2, HX.out, show k = (trim xs).length by omega, List.take_length]; rfl, rfl⟩
end Go.Proofs.YtgnmmifeojfjlaaGreatDoor
