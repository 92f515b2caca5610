import Derived.Test.YtgjmlbcpjjpegaaQKit
import Derived.Test.YtgjmlbcpjjpegaaShelf
import Derived.Test.YtgjmlbcpjjpegaaQDivP
import Derived.Deep.RegionWith
import Derived.StillTailTactics
/- Package nat, the first calls: words cut, compared, counted; what each call does. -/
set_option linter.unusedVariables false
set_option linter.unusedSimpArgs false
namespace Go.Proofs.Ytgjmlbcpjjpegaa
open Go Go.RowKit Q

set_option maxHeartbeats 400000 in
theorem cut_calls (A : Option Addr) (c : Nat) (xs : List Int) (w : World) (h : In w A c xs) :
    Calls Try.prog 122 #[.slice A xs.length c] w fun e w' => e = .returned (.slice A (trim xs).length c) ∧ w = w' := by
  have hm : xs.length ≤ 9223372036854775807 := by have := h.small; omega
  have hc : xs.length ≤ c := h.cap
  have HT : Hid ((trim xs).length = tl xs) := len_trim xs
  have H := Q.hid h.rd
  clear h
  go_enter Try.func122, Try.ntmps122
  go_wp2
  go_loop [3] (fun n => ∃ k : Nat, k ≤ xs.length ∧ n = .int .i64 k ∧ Hid (tl (xs.take k) = tl xs)) (fun n => (intOf n).toNat)
  case atStart => exact ⟨xs.length, Nat.le_refl _, rfl, (by simp : tl (xs.take xs.length) = tl xs)⟩
  case round =>
    obtain ⟨k, hk, rfl, hr⟩ := hrel
    cases k with
    | zero =>
      have HE : Hid ((0 : Nat) = tl xs) := by have := hr.out; simp only [List.take_zero, tl] at this; exact this
      go_wp2
      go_ret
      exact ⟨by rw [HT.out, ← HE.out]; rfl, rfl⟩
    | succ k =>
      obtain ⟨ad, rfl, hx⟩ := H.out k (by omega)
      have hs := tl_take_succ (xs := xs) (k := k) (by omega)
      by_cases hz : wd xs k = 0
      · have hz1 : (wd xs k == 0) = true := by simp [hz]
        have HR : Hid (tl (xs.take k) = tl xs) := by rw [if_pos hz] at hs; rw [← hs]; exact hr.out
        clear hz hs hr
        go_wp2
        go_round
        case rel => exact ⟨k, by omega, by go_num, HR⟩
        case measure => simp [intOf]
      · have hz1 : (wd xs k == 0) = false := by simp [hz]
        have HR : Hid (k + 1 = tl xs) := by rw [if_neg hz] at hs; rw [← hs]; exact hr.out
        clear hz hs hr
        go_wp2
        go_ret
        exact ⟨by rw [HT.out, ← HR.out]; rfl, rfl⟩

set_option maxHeartbeats 400000 in
theorem Clone_calls (A : Option Addr) (c : Nat) (xs : List Int) (w : World) (h : In w A c xs) :
    Calls Try.prog 119 #[.slice A xs.length c] w fun e w' => ∃ v, e = .returned v ∧ Ow w' 62 w.heap.size v xs ∧ Below w.heap.size w w' := by
  have H := Q.hid h
  have hq := fun (w : World) (a : Option Addr) (n c n' c' : Nat) => Lib.run_eql_slice_nil (P := Try.prog) w 30 62 a n c n' c' Try.underlying30
  cases A with
  | none =>
    have hx : xs = [] := by
      cases xs with
      | nil => rfl
      | cons x xs => obtain ⟨ad, e, _⟩ := h.rd 0 (by simp); cases e
    subst hx
    clear h H
    go_enter Try.func119, Try.ntmps119
    go_wp2
    go_ret
    exact ⟨_, rfl, Ow.nil _ _ _, Below.refl _ _⟩
  | some ad =>
    clear h
    go_enter Try.func119, Try.ntmps119
    go_wp2_with (at_builtin; refine wp_app rfl (.tmp 5) (.tmp 6) 30 62 rfl Try.underlying30 infoW w.heap.size _ [] rfl (Ow.lit w _ _ [] (Nat.le_refl _) (by simp)) (some ad) xs.length c xs rfl rfl (Rd.alloc H.out.rd _) (by have := H.out.small; simp; omega) (by simp) ?_; intro v1 w1 ho hg hat)
    go_ret
    exact ⟨v1, rfl, by simpa using ho, below_grown ((Below.refl _ _).alloc (Nat.le_refl _) _) hg (fun k hk => by cases hk; simp)⟩

set_option maxHeartbeats 400000 in
theorem Check_calls (A : Option Addr) (c : Nat) (xs : List Int) (w : World) (h : In w A c xs) :
    Calls Try.prog 109 #[.slice A xs.length c] w fun e w' => e = .returned (.int .i64 (chk xs)) ∧ w = w' := by
  have hm : xs.length ≤ 9223372036854775807 := by have := h.small; omega
  have H := Q.hid h.rd
  clear h
  by_cases h1 : 8192 < xs.length
  · have HE : Hid (chk xs = 3) := if_pos h1
    go_enter Try.func109, Try.ntmps109
    go_wp2
    go_ret
    exact ⟨by rw [HE.out]; rfl, rfl⟩
  · by_cases h2 : 0 < xs.length
    · obtain ⟨ad, rfl, hx⟩ := H.out (xs.length - 1) (by omega)
      have hl := tl_last h2
      by_cases hz : wd xs (xs.length - 1) = 0
      · have hz1 : (wd xs (xs.length - 1) == 0) = true := by simp [hz]
        have HE : Hid (chk xs = 11) := by unfold chk; rw [if_neg (by omega), if_neg (by rw [hl]; simp [hz])]; rfl
        have hi : (((xs.length : Int) - 1).toNat) = xs.length - 1 := by omega
        clear hz hl
        go_enter Try.func109, Try.ntmps109
        go_wp2
        go_ret
        exact ⟨by rw [HE.out]; rfl, rfl⟩
      · have hz1 : (wd xs (xs.length - 1) == 0) = false := by simp [hz]
        have HE : Hid (chk xs = 0) := by unfold chk; rw [if_neg (by omega), if_pos (by rw [hl]; exact hz)]; rfl
        have hi : (((xs.length : Int) - 1).toNat) = xs.length - 1 := by omega
        clear hz hl
        go_enter Try.func109, Try.ntmps109
        go_wp2
        go_ret
        exact ⟨by rw [HE.out]; rfl, rfl⟩
    · have hx : xs = [] := List.eq_nil_of_length_eq_zero (by omega)
      subst hx
      go_enter Try.func109, Try.ntmps109
      go_wp2
      go_ret
      exact ⟨rfl, rfl⟩
end Go.Proofs.Ytgjmlbcpjjpegaa
/- Package nat: two compared, bits counted, numbers of 64 bits; what each call does. -/
set_option linter.unusedVariables false
set_option linter.unusedSimpArgs false
namespace Go.Proofs.Ytgjmlbcpjjpegaa
open Go Go.RowKit Q

set_option maxHeartbeats 1000000 in
theorem Compare_calls (A A' : Option Addr) (c c' : Nat) (xs ys : List Int) (w : World) (h : In w A c xs) (h' : In w A' c' ys) :
    Calls Try.prog 107 #[.slice A xs.length c, .slice A' ys.length c'] w fun e w' => e = .returned (.int .i64 (cmp (val xs) (val ys))) ∧ Dr w w' := by
  have H := Q.hid h
  have H' := Q.hid h'
  have R := Q.hid h.trim.rd
  have R' := Q.hid h'.trim.rd
  have WX := Q.hid h.trim.wds
  have WY := Q.hid h'.trim.wds
  have VX : Hid (val (trim xs) = val xs) := val_trim xs
  have VY : Hid (val (trim ys) = val ys) := val_trim ys
  have TX : Hid (Tr (trim xs)) := Tr_trim xs
  have TY : Hid (Tr (trim ys)) := Tr_trim ys
  have hm : (trim xs).length ≤ 9223372036854775807 := by have := h.trim.small; omega
  have hm' : (trim ys).length ≤ 9223372036854775807 := by have := h'.trim.small; omega
  clear h h'
  rcases Nat.lt_trichotomy (trim xs).length (trim ys).length with hl | hl | hl
  · have e1 : (((trim xs).length : Int) != ((trim ys).length : Int)) = true := by simp; omega
    have e2 : decide (((trim xs).length : Int) < ((trim ys).length : Int)) = true := by simp; omega
    have e3 : decide ((trim xs).length < (trim ys).length) = true := by simp; omega
    have HF : Hid (cmp (val xs) (val ys) = -1) := by
      rw [← VX.out, ← VY.out]; exact cmp_lt (val_lt_of_len WX.out WY.out TY.out hl)
    clear hl
    go_enter Try.func107, Try.ntmps107
    go_wp2_with fail
    refine (cut_calls A c xs _ H.out).mono ?_
    rintro e w1 ⟨rfl, rfl⟩
    go_wp2_with fail
    refine (cut_calls A' c' ys _ H'.out).mono ?_
    rintro e w1 ⟨rfl, rfl⟩
    go_wp2
    go_ret
    exact ⟨by rw [HF.out]; rfl, Dr.refl _⟩
  · have e1 : (((trim xs).length : Int) != ((trim ys).length : Int)) = false := by simp; omega
    have HL := Q.hid hl
    have hle : (trim xs).length ≤ (trim ys).length := by omega
    have hge : (trim ys).length ≤ (trim xs).length := by omega
    clear hl
    go_enter Try.func107, Try.ntmps107
    go_wp2_with fail
    refine (cut_calls A c xs _ H.out).mono ?_
    rintro e w1 ⟨rfl, rfl⟩
    go_wp2_with fail
    refine (cut_calls A' c' ys _ H'.out).mono ?_
    rintro e w1 ⟨rfl, rfl⟩
    go_wp2
    go_loopw [5] (fun i wr => ∃ k : Nat, k ≤ (trim xs).length ∧ i = .int .i64 ((k : Int) - 1) ∧ Hid (∀ i, k ≤ i → wd (trim xs) i = wd (trim ys) i) ∧ Dr w wr) (fun i _ => (intOf i + 1).toNat)
    case atStart =>
      exact ⟨(trim xs).length, by omega, rfl, (fun i hi => by rw [wd_ge hi, wd_ge (by rw [← HL.out]; exact hi)] : ∀ i, (trim xs).length ≤ i → wd (trim xs) i = wd (trim ys) i), Dr.refl _⟩
    case round =>
      obtain ⟨k, hk, rfl, HE, ⟨n, rfl⟩⟩ := hrel
      cases k with
      | zero =>
        have HF : Hid (cmp (val xs) (val ys) = 0) := by
          rw [← VX.out, ← VY.out]; exact cmp_eq (val_congr (fun i => HE.out i (Nat.zero_le _)))
        clear HE
        go_wp2
        go_ret
        exact ⟨by rw [HF.out]; rfl, ⟨n, rfl⟩⟩
      | succ k =>
        obtain ⟨ad, rfl, hx⟩ := R.out k (by omega)
        obtain ⟨ad', rfl, hx'⟩ := R'.out k (by omega)
        have hi : (((k + 1 : Nat) : Int) - 1) = (k : Int) := by omega
        rw [hi]
        clear hi
        rcases Int.lt_trichotomy (wd (trim xs) k) (wd (trim ys) k) with hc | hc | hc
        · have d1 : decide (wd (trim xs) k < wd (trim ys) k) = true := by simpa using hc
          have HF : Hid (cmp (val xs) (val ys) = -1) := by
            rw [← VX.out, ← VY.out]; exact cmp_lt (val_lt_at WX.out WY.out k (fun i hi => HE.out i (by omega)) hc)
          clear HE hc
          go_wp2
          go_quiet (fail)
          go_wp2
          go_ret
          exact ⟨by rw [HF.out]; rfl, Dr.step ⟨n, rfl⟩ _⟩
        · have d1 : decide (wd (trim xs) k < wd (trim ys) k) = false := by simp; omega
          have d2 : decide (wd (trim ys) k < wd (trim xs) k) = false := by simp; omega
          have HE2 : Hid (∀ i, k ≤ i → wd (trim xs) i = wd (trim ys) i) := fun i hi => by
            rcases Nat.lt_or_eq_of_le hi with h1 | h1
            · exact HE.out i h1
            · rw [← h1]; exact hc
          clear HE hc
          go_wp2
          go_quiet (fail)
          go_wp2
          go_quiet (fail)
          go_wp2
          go_roundw
          case rel => exact ⟨k, by omega, by go_num, HE2, ⟨_, rfl⟩⟩
          case measure => simp [intOf]
        · have d1 : decide (wd (trim xs) k < wd (trim ys) k) = false := by simp; omega
          have d2 : decide (wd (trim ys) k < wd (trim xs) k) = true := by simpa using hc
          have HF : Hid (cmp (val xs) (val ys) = 1) := by
            rw [← VX.out, ← VY.out]; exact cmp_gt (val_lt_at WY.out WX.out k (fun i hi => (HE.out i (by omega)).symm) hc)
          clear HE hc
          go_wp2
          go_quiet (fail)
          go_wp2
          go_quiet (fail)
          go_wp2
          go_ret
          exact ⟨by rw [HF.out]; rfl, Dr.step (Dr.step ⟨n, rfl⟩ _) _⟩
  · have e1 : (((trim xs).length : Int) != ((trim ys).length : Int)) = true := by simp; omega
    have e2 : decide (((trim xs).length : Int) < ((trim ys).length : Int)) = false := by simp; omega
    have e3 : decide ((trim xs).length < (trim ys).length) = false := by simp; omega
    have HF : Hid (cmp (val xs) (val ys) = 1) := by
      rw [← VX.out, ← VY.out]; exact cmp_gt (val_lt_of_len WY.out WX.out TX.out hl)
    clear hl
    go_enter Try.func107, Try.ntmps107
    go_wp2_with fail
    refine (cut_calls A c xs _ H.out).mono ?_
    rintro e w1 ⟨rfl, rfl⟩
    go_wp2_with fail
    refine (cut_calls A' c' ys _ H'.out).mono ?_
    rintro e w1 ⟨rfl, rfl⟩
    go_wp2
    go_ret
    exact ⟨by rw [HF.out]; rfl, Dr.refl _⟩

/-- the words of a number of 64 bits -/
def of64 (x : Int) : List Int := trim [x % 4294967296, x / 4294967296]
theorem of64_wds {x : Int} (h0 : 0 ≤ x) (h1 : x < 18446744073709551616) : Wds (of64 x) := Wds.trim (Wds.cons (by omega) (by omega) (Wds.cons (by omega) (by omega) Wds.nil))
theorem of64_val (x : Int) : val (of64 x) = x := by
  unfold of64; rw [val_trim]; simp only [val]; omega
theorem of64_tr (x : Int) : Tr (of64 x) := Tr_trim _
set_option maxHeartbeats 400000 in
theorem Of_calls (x : Int) (w : World) (h0 : 0 ≤ x) (h1 : x < 18446744073709551616) :
    Calls Try.prog 105 #[.int .u64 x] w fun e w' => ∃ v, e = .returned v ∧ Ow w' 62 w.heap.size v (of64 x) ∧ Below w.heap.size w w' := by
  have HO := Ow.lit w 62 w.heap.size [x % 4294967296, x / 4294967296] (Nat.le_refl _) (by simp [maxLen])
  have HI : Hid (In (w.alloc (.cells (ws [x % 4294967296, x / 4294967296]).toArray 62)) (some ⟨w.heap.size, 0, none⟩) 2 [x % 4294967296, x / 4294967296]) :=
    ⟨HO.read.2.2.2, by simp, by simp, Wds.cons (by omega) (by omega) (Wds.cons (by omega) (by omega) Wds.nil)⟩
  have HO' : Hid (Ow (w.alloc (.cells (ws [x % 4294967296, x / 4294967296]).toArray 62)) 62 w.heap.size (.slice (some ⟨w.heap.size, 0, none⟩) (trim [x % 4294967296, x / 4294967296]).length 2) (of64 x)) := HO.trim
  clear HO
  go_enter Try.func105, Try.ntmps105
  go_wp2_with fail
  refine (cut_calls _ 2 [x % 4294967296, x / 4294967296] _ HI.out).mono ?_
  rintro e w1 ⟨rfl, rfl⟩
  go_wp2
  go_ret
  exact ⟨_, rfl, HO'.out, (Below.refl _ _).alloc (Nat.le_refl _) _⟩

/-- a value of 64 bits, if it is one -/
def u64 (xs : List Int) : Int := if 2 < tl xs then 0 else val xs
def u64ok (xs : List Int) : Bool := !decide (2 < tl xs)
theorem or32 (x y : Int) (h0 : 0 ≤ x) (h1 : x < 4294967296) (h2 : 0 ≤ y) (h3 : y < 4294967296) : bits .or .u64 x (y * 4294967296) = x + 4294967296 * y := by
  rw [u64_or x (y * 4294967296) (by omega) (by omega) (by omega) (by omega), nat_join32' _ _ (by omega) (by omega)]
  omega
theorem or0 (y : Int) (h2 : 0 ≤ y) (h3 : y < 18446744073709551616) : bits .or .u64 0 y = y := by
  rw [u64_or 0 y (by omega) (by omega) (by omega) (by omega)]
  simp; omega

set_option maxHeartbeats 400000 in
theorem Uint64_calls (A : Option Addr) (c : Nat) (xs : List Int) (w : World) (h : In w A c xs) :
    Calls Try.prog 121 #[.slice A xs.length c] w fun e w' => e = .returned (.tuple #[.int .u64 (u64 xs), .bool (u64ok xs)]) ∧ w = w' := by
  have H := Q.hid h
  have R := Q.hid h.trim.rd
  have W := Q.hid h.trim.wds
  have hm : (trim xs).length * 4 ≤ 140737488351232 := h.trim.small
  by_cases h2 : 2 < (trim xs).length
  · have HF : Hid (u64 xs = 0 ∧ u64ok xs = false) := by unfold u64 u64ok; rw [len_trim] at h2; simp [Hid, h2]
    clear h
    go_enter Try.func121, Try.ntmps121
    go_wp2_with fail
    refine (cut_calls A c xs _ H.out).mono ?_
    rintro e w1 ⟨rfl, rfl⟩
    go_wp2
    go_ret2
    exact ⟨by rw [HF.out.1, HF.out.2]; rfl, rfl⟩
  · have HF : Hid (u64 xs = val (trim xs) ∧ u64ok xs = true) := by unfold u64 u64ok; rw [val_trim]; rw [len_trim] at h2; simp [Hid, h2]
    clear h
    go_enter Try.func121, Try.ntmps121
    go_wp2_with fail
    refine (cut_calls A c xs _ H.out).mono ?_
    rintro e w1 ⟨rfl, rfl⟩
    go_wp2
    go_loop [4, 14] (fun x i => ∃ (k : Nat) (X : Int), k ≤ (trim xs).length ∧ i = .int .i64 k ∧ x = .int .u64 X ∧ Hid (X = val ((trim xs).take k))) (fun _ i => (trim xs).length - (intOf i).toNat)
    case atStart => exact ⟨0, 0, by omega, rfl, rfl, (rfl : (0 : Int) = val ((trim xs).take 0))⟩
    case round =>
      obtain ⟨k, X, hk, rfl, rfl, HX⟩ := hrel
      by_cases hlt : k < (trim xs).length
      · obtain ⟨ad, rfl, hx⟩ := R.out k hlt
        have hw := W.out.wd k
        have h0 : 0 ≤ wd (trim xs) k := hw.1
        have h1 : wd (trim xs) k < 4294967296 := hw.2
        clear hw
        have hv := val_take_succ hlt
        rcases (by omega : k = 0 ∨ k = 1) with rfl | rfl
        · rw [add_zero'] at hx
          have HV : Hid (val ((trim xs).take 1) = wd (trim xs) 0) := by rw [hv]; simp [val, Bp_zero, Hid]
          have HB := Q.hid (or0 (wd (trim xs) 0) h0 (by omega))
          have hX0 : X = 0 := HX.out
          subst hX0
          clear hv HX
          go_wp2
          go_round
          case rel => exact ⟨1, _, by omega, rfl, rfl, by rw [HV.out]; exact HB.out⟩
          case measure => simp [intOf]; omega
        · rw [add_pos' _ _ (by omega)] at hx
          have hw0 := W.out.wd 0
          have HX1 : Hid (X = wd (trim xs) 0) := by
            rw [HX.out, val_take_succ (by omega)]; simp [val, Bp_zero, Hid]
          have HV : Hid (val ((trim xs).take 2) = X + 4294967296 * wd (trim xs) 1) := by rw [hv, HX.out]; simp [Bp, Hid]
          have HB := Q.hid (or32 X (wd (trim xs) 1) (by rw [HX1.out]; exact hw0.1) (by rw [HX1.out]; exact hw0.2) h0 h1)
          clear hv HX hw0
          go_wp2
          go_round
          case rel => exact ⟨2, _, by omega, rfl, rfl, by rw [HV.out]; exact HB.out⟩
          case measure => simp [intOf]; omega
      · go_wp2
        go_ret2
        exact ⟨by rw [HF.out.1, HF.out.2, HX.out, show k = (trim xs).length by omega, List.take_length]; rfl, rfl⟩
end Go.Proofs.Ytgjmlbcpjjpegaa
/- Package nat: sums and differences; what each call does. -/
set_option linter.unusedVariables false
set_option linter.unusedSimpArgs false
namespace Go.Proofs.Ytgjmlbcpjjpegaa
open Go Go.RowKit Q

set_option maxHeartbeats 400000 in
theorem checked_calls (A A' : Option Addr) (c c' : Nat) (xs ys : List Int) (w : World) (h : In w A c xs) (h' : In w A' c' ys) :
    Calls Try.prog 118 #[.slice A xs.length c, .slice A' ys.length c'] w fun e w' => e = .returned (.int .i64 (chk2 xs ys)) ∧ w = w' := by
  have H := Q.hid h
  have H' := Q.hid h'
  clear h h'
  by_cases h0 : chk xs = 0
  · have hb : (chk xs != 0) = false := by simp [h0]
    have HF : Hid (chk2 xs ys = chk ys) := if_pos h0
    clear h0
    go_enter Try.func118, Try.ntmps118
    go_wp2_with fail
    refine (Check_calls A c xs _ H.out).mono ?_
    rintro e w1 ⟨rfl, rfl⟩
    go_wp2_with fail
    refine (Check_calls A' c' ys _ H'.out).mono ?_
    rintro e w1 ⟨rfl, rfl⟩
    go_wp2
    go_ret
    exact ⟨by rw [HF.out]; rfl, rfl⟩
  · have hb : (chk xs != 0) = true := by simp [h0]
    have HF : Hid (chk2 xs ys = chk xs) := if_neg h0
    clear h0
    go_enter Try.func118, Try.ntmps118
    go_wp2_with fail
    refine (Check_calls A c xs _ H.out).mono ?_
    rintro e w1 ⟨rfl, rfl⟩
    go_wp2
    go_ret
    exact ⟨by rw [HF.out]; rfl, rfl⟩

set_option maxHeartbeats 400000 in
theorem told_calls (A : Option Addr) (c B : Nat) (zs : List Int) (w : World) (ho : Ow w 62 B (.slice A zs.length c) zs) (hi : In w A c zs) :
    Calls Try.prog 123 #[.slice A zs.length c] w fun e w' => (∃ v, e = .returned (.tuple #[v, .int .i64 (told (val zs)).2]) ∧ Ow w 62 B v (told (val zs)).1) ∧ w = w' := by
  have H := Q.hid hi
  have HN : Hid (trim zs = nwd (val zs)) := nwd_trim hi.wds rfl
  have HO := Q.hid ho.trim
  have hm : (trim zs).length * 4 ≤ 140737488351232 := hi.trim.small
  clear ho hi
  by_cases h1 : 8192 < (trim zs).length
  · have HF : Hid (told (val zs) = ([], 3)) := by unfold told; rw [← HN.out]; exact if_pos h1
    go_enter Try.func123, Try.ntmps123
    go_wp2_with fail
    refine (cut_calls A c zs _ H.out).mono ?_
    rintro e w1 ⟨rfl, rfl⟩
    go_wp2
    go_ret2
    exact ⟨⟨.slice none 0 0, by rw [HF.out]; rfl, by rw [HF.out]; exact Ow.nil _ _ _⟩, rfl⟩
  · have HF : Hid (told (val zs) = (trim zs, 0)) := by unfold told; rw [← HN.out]; exact if_neg h1
    go_enter Try.func123, Try.ntmps123
    go_wp2_with fail
    refine (cut_calls A c zs _ H.out).mono ?_
    rintro e w1 ⟨rfl, rfl⟩
    go_wp2
    go_ret2
    exact ⟨⟨.slice A (trim zs).length c, by rw [HF.out]; rfl, by rw [HF.out]; exact HO.out⟩, rfl⟩

/-- the state of a sum, a word at a time -/
structure AddSt (w wr : World) (B g N : Nat) (xs ys : List Int) (k : Nat) (c : Int) (zs : List Int) : Prop where
  own : Ow wr 62 B (.slice (some ⟨g, 0, none⟩) N N) zs
  len : zs.length = N
  wds : Wds zs
  sum : val (zs.take k) + Bp k * c = val (xs.take k) + val (ys.take k)
  below : Below w.heap.size w wr
theorem AddSt.step {w wr : World} {B g N : Nat} {xs ys : List Int} {k : Nat} {c : Int} {zs : List Int} (h : AddSt w wr B g N xs ys k c zs) (hk : k < N) (hg : w.heap.size ≤ g) (s : Int) (hs : s = c + wd xs k + wd ys k) :
    AddSt w (wr.setCell ⟨g, k, none⟩ (.int .u32 (s % 4294967296))) B g N xs ys (k + 1) (s / 4294967296) (zs.set k (s % 4294967296)) := {
  own := h.own.store (by rw [h.len]; exact hk) _
  len := by rw [List.length_set]; exact h.len
  wds := h.wds.set _ (by omega) (by omega)
  sum := add_step (by rw [h.len]; exact hk) h.sum s hs
  below := h.below.setCell hg _ }

set_option maxHeartbeats 2000000 in
set_option maxRecDepth 100000 in
theorem Add_calls (A A' : Option Addr) (c c' : Nat) (xs ys : List Int) (w : World) (h : In w A c xs) (h' : In w A' c' ys) :
    Calls Try.prog 106 #[.slice A xs.length c, .slice A' ys.length c'] w fun e w' => ∃ v, e = .returned (.tuple #[v, .int .i64 (addS xs ys).2]) ∧ Ow w' 62 w.heap.size v (addS xs ys).1 ∧ Below w.heap.size w w' := by
  have H := Q.hid h
  have H' := Q.hid h'
  have hm : xs.length ≤ 35184372087808 := by have := h.small; omega
  have hm' : ys.length ≤ 35184372087808 := by have := h'.small; omega
  clear h h'
  by_cases h0 : chk2 xs ys = 0
  · have hb : (chk2 xs ys != 0) = false := by simp [h0]
    have HF : Hid (addS xs ys = told (val xs + val ys)) := if_pos h0
    have hx8 : xs.length ≤ 8192 := (chk2_zero h0).1
    have hy8 : ys.length ≤ 8192 := (chk2_zero h0).2.2.1
    clear h0
    by_cases hl : xs.length < ys.length
    · have hlb : decide (xs.length < ys.length) = true := by simpa using hl
      go_enter Try.func106, Try.ntmps106
      go_wp2_with fail
      refine (checked_calls A A' c c' xs ys _ H.out H'.out).mono ?_
      rintro e w1 ⟨rfl, rfl⟩
      go_wp2_with (at_make; refine wp_mk rfl (.tmp 26) (.tmp 26) 30 62 rfl (.int .u32 0) 4 Try.underlying30 infoW rfl _ _ (ys.length + 1) rfl rfl (by omega) (by omega) (by omega) (by simp only [maxLen]; omega) ?_)
      have HS : Hid (AddSt w (w.alloc (.cells (reps (ys.length + 1) (.int .u32 0)) 62)) w.heap.size w.heap.size (ys.length + 1) ys xs 0 0 (List.replicate (ys.length + 1) 0)) :=
        ⟨Ow.made w _ _ _ (Nat.le_refl _) (by simp only [maxLen]; omega), by simp, Wds.zeros _, by simp [val], (Below.refl _ _).alloc (Nat.le_refl _) _⟩
      go_loopw [8, 9, 10, 30] (fun cv _ _ i wr => ∃ (k : Nat) (cr : Int) (zs : List Int), k ≤ ys.length ∧ i = .int .i64 k ∧ cv = .int .u64 cr ∧ 0 ≤ cr ∧ cr ≤ 1 ∧ Hid (AddSt w wr w.heap.size w.heap.size (ys.length + 1) ys xs k cr zs)) (fun _ _ _ i _ => ys.length - (intOf i).toNat)
      case atStart => exact ⟨0, 0, _, by omega, rfl, rfl, by omega, by omega, HS⟩
      case round =>
        clear HS
        obtain ⟨k, cr, zs, hk, rfl, rfl, hc0, hc1, HS⟩ := hrel
        by_cases hlt : k < ys.length
        · obtain ⟨ad, rfl, hx⟩ := (H'.out.rd.below HS.out.below) k hlt
          have hw := H'.out.wds.wd k
          have hw' := H.out.wds.wd k
          have p1 : 0 ≤ wd ys k := hw.1
          have p2 : wd ys k < 4294967296 := hw.2
          have p3 : 0 ≤ wd xs k := hw'.1
          have p4 : wd xs k < 4294967296 := hw'.2
          have hcell := HS.out.own.cell (i := k) (by rw [HS.out.len]; omega)
          have hfree := HS.out.own.free k
          clear hw hw'
          by_cases hly : k < xs.length
          · obtain ⟨ad', rfl, hy⟩ := (H.out.rd.below HS.out.below) k hly
            have HT : Hid (∀ s, s = cr + wd ys k + wd xs k → AddSt w (wr.setCell ⟨w.heap.size, k, none⟩ (.int .u32 (s % 4294967296))) w.heap.size w.heap.size (ys.length + 1) ys xs (k + 1) (s / 4294967296) (zs.set k (s % 4294967296))) := fun s hs => HS.out.step (by omega) (Nat.le_refl _) s hs
            clear HS
            go_wp2
            go_roundw
            case rel => exact ⟨k + 1, _, _, by omega, by go_num, rfl, by omega, by omega, HT.out _ rfl⟩
            case measure => simp [intOf]; omega
          · have hz : wd xs k = 0 := wd_ge (by omega)
            have HT : Hid (∀ s, s = cr + wd ys k → AddSt w (wr.setCell ⟨w.heap.size, k, none⟩ (.int .u32 (s % 4294967296))) w.heap.size w.heap.size (ys.length + 1) ys xs (k + 1) (s / 4294967296) (zs.set k (s % 4294967296))) := fun s hs => HS.out.step (by omega) (Nat.le_refl _) s (by rw [hz, hs]; omega)
            clear HS hz
            go_wp2
            go_roundw
            case rel => exact ⟨k + 1, _, _, by omega, by go_num, rfl, by omega, by omega, HT.out _ rfl⟩
            case measure => simp [intOf]; omega
        · obtain rfl : k = ys.length := by omega
          have hcell := HS.out.own.cell (i := ys.length) (by rw [HS.out.len]; omega)
          have hfree := HS.out.own.free ys.length
          have hcm : cr % 4294967296 = cr := by omega
          have HV : Hid (val (zs.set ys.length cr) = val xs + val ys) := by
            have h1 := HS.out.sum
            have h2 := val_split (zs.set ys.length cr) (ys.length + 1)
            rw [val_take_set (by rw [HS.out.len]; omega), List.drop_of_length_le (by rw [List.length_set, HS.out.len]; omega)] at h2
            rw [List.take_of_length_le (l := ys) (by omega), List.take_of_length_le (l := xs) (by omega)] at h1
            simp only [val] at h2
            show val (zs.set ys.length cr) = val xs + val ys
            omega
          have HO2 : Hid (Ow (wr.setCell ⟨w.heap.size, ys.length, none⟩ (.int .u32 cr)) 62 w.heap.size (.slice (some ⟨w.heap.size, 0, none⟩) (zs.set ys.length cr).length (ys.length + 1)) (zs.set ys.length cr)) := by
            rw [List.length_set, HS.out.len]; exact HS.out.own.store (by rw [HS.out.len]; omega) _
          have HI2 : Hid (In (wr.setCell ⟨w.heap.size, ys.length, none⟩ (.int .u32 cr)) (some ⟨w.heap.size, 0, none⟩) (ys.length + 1) (zs.set ys.length cr)) :=
            ⟨HO2.out.read.2.2.2, by rw [List.length_set, HS.out.len]; exact Nat.le_refl _, by rw [List.length_set, HS.out.len]; omega, HS.out.wds.set _ hc0 (by omega)⟩
          have HB2 : Hid (Below w.heap.size w (wr.setCell ⟨w.heap.size, ys.length, none⟩ (.int .u32 cr))) := HS.out.below.setCell (Nat.le_refl _) _
          have HL : Hid ((zs.set ys.length cr).length = ys.length + 1) := by rw [List.length_set]; exact HS.out.len
          clear HS
          go_wp2_with fail
          have HC := told_calls _ _ w.heap.size (zs.set ys.length cr) _ HO2.out HI2.out
          rw [HL.out] at HC
          refine HC.mono ?_
          rintro e w2 ⟨⟨v, rfl, ho⟩, rfl⟩
          rw [HV.out] at ho
          go_wp2
          go_ret2
          exact ⟨v, by rw [HF.out, ← HV.out]; rfl, by rw [HF.out]; exact ho, HB2.out⟩
    · have hlb : decide (xs.length < ys.length) = false := by simpa using hl
      go_enter Try.func106, Try.ntmps106
      go_wp2_with fail
      refine (checked_calls A A' c c' xs ys _ H.out H'.out).mono ?_
      rintro e w1 ⟨rfl, rfl⟩
      go_wp2_with (at_make; refine wp_mk rfl (.tmp 26) (.tmp 26) 30 62 rfl (.int .u32 0) 4 Try.underlying30 infoW rfl _ _ (xs.length + 1) rfl rfl (by omega) (by omega) (by omega) (by simp only [maxLen]; omega) ?_)
      have HS : Hid (AddSt w (w.alloc (.cells (reps (xs.length + 1) (.int .u32 0)) 62)) w.heap.size w.heap.size (xs.length + 1) xs ys 0 0 (List.replicate (xs.length + 1) 0)) :=
        ⟨Ow.made w _ _ _ (Nat.le_refl _) (by simp only [maxLen]; omega), by simp, Wds.zeros _, by simp [val], (Below.refl _ _).alloc (Nat.le_refl _) _⟩
      go_loopw [8, 9, 10, 30] (fun cv _ _ i wr => ∃ (k : Nat) (cr : Int) (zs : List Int), k ≤ xs.length ∧ i = .int .i64 k ∧ cv = .int .u64 cr ∧ 0 ≤ cr ∧ cr ≤ 1 ∧ Hid (AddSt w wr w.heap.size w.heap.size (xs.length + 1) xs ys k cr zs)) (fun _ _ _ i _ => xs.length - (intOf i).toNat)
      case atStart => exact ⟨0, 0, _, by omega, rfl, rfl, by omega, by omega, HS⟩
      case round =>
        clear HS
        obtain ⟨k, cr, zs, hk, rfl, rfl, hc0, hc1, HS⟩ := hrel
        by_cases hlt : k < xs.length
        · obtain ⟨ad, rfl, hx⟩ := (H.out.rd.below HS.out.below) k hlt
          have hw := H.out.wds.wd k
          have hw' := H'.out.wds.wd k
          have p1 : 0 ≤ wd xs k := hw.1
          have p2 : wd xs k < 4294967296 := hw.2
          have p3 : 0 ≤ wd ys k := hw'.1
          have p4 : wd ys k < 4294967296 := hw'.2
          have hcell := HS.out.own.cell (i := k) (by rw [HS.out.len]; omega)
          have hfree := HS.out.own.free k
          clear hw hw'
          by_cases hly : k < ys.length
          · obtain ⟨ad', rfl, hy⟩ := (H'.out.rd.below HS.out.below) k hly
            have HT : Hid (∀ s, s = cr + wd xs k + wd ys k → AddSt w (wr.setCell ⟨w.heap.size, k, none⟩ (.int .u32 (s % 4294967296))) w.heap.size w.heap.size (xs.length + 1) xs ys (k + 1) (s / 4294967296) (zs.set k (s % 4294967296))) := fun s hs => HS.out.step (by omega) (Nat.le_refl _) s hs
            clear HS
            go_wp2
            go_roundw
            case rel => exact ⟨k + 1, _, _, by omega, by go_num, rfl, by omega, by omega, HT.out _ rfl⟩
            case measure => simp [intOf]; omega
          · have hz : wd ys k = 0 := wd_ge (by omega)
            have HT : Hid (∀ s, s = cr + wd xs k → AddSt w (wr.setCell ⟨w.heap.size, k, none⟩ (.int .u32 (s % 4294967296))) w.heap.size w.heap.size (xs.length + 1) xs ys (k + 1) (s / 4294967296) (zs.set k (s % 4294967296))) := fun s hs => HS.out.step (by omega) (Nat.le_refl _) s (by rw [hz, hs]; omega)
            clear HS hz
            go_wp2
            go_roundw
            case rel => exact ⟨k + 1, _, _, by omega, by go_num, rfl, by omega, by omega, HT.out _ rfl⟩
            case measure => simp [intOf]; omega
        · obtain rfl : k = xs.length := by omega
          have hcell := HS.out.own.cell (i := xs.length) (by rw [HS.out.len]; omega)
          have hfree := HS.out.own.free xs.length
          have hcm : cr % 4294967296 = cr := by omega
          have HV : Hid (val (zs.set xs.length cr) = val xs + val ys) := by
            have h1 := HS.out.sum
            have h2 := val_split (zs.set xs.length cr) (xs.length + 1)
            rw [val_take_set (by rw [HS.out.len]; omega), List.drop_of_length_le (by rw [List.length_set, HS.out.len]; omega)] at h2
            rw [List.take_of_length_le (l := xs) (by omega), List.take_of_length_le (l := ys) (by omega)] at h1
            simp only [val] at h2
            show val (zs.set xs.length cr) = val xs + val ys
            omega
          have HO2 : Hid (Ow (wr.setCell ⟨w.heap.size, xs.length, none⟩ (.int .u32 cr)) 62 w.heap.size (.slice (some ⟨w.heap.size, 0, none⟩) (zs.set xs.length cr).length (xs.length + 1)) (zs.set xs.length cr)) := by
            rw [List.length_set, HS.out.len]; exact HS.out.own.store (by rw [HS.out.len]; omega) _
          have HI2 : Hid (In (wr.setCell ⟨w.heap.size, xs.length, none⟩ (.int .u32 cr)) (some ⟨w.heap.size, 0, none⟩) (xs.length + 1) (zs.set xs.length cr)) :=
            ⟨HO2.out.read.2.2.2, by rw [List.length_set, HS.out.len]; exact Nat.le_refl _, by rw [List.length_set, HS.out.len]; omega, HS.out.wds.set _ hc0 (by omega)⟩
          have HB2 : Hid (Below w.heap.size w (wr.setCell ⟨w.heap.size, xs.length, none⟩ (.int .u32 cr))) := HS.out.below.setCell (Nat.le_refl _) _
          have HL : Hid ((zs.set xs.length cr).length = xs.length + 1) := by rw [List.length_set]; exact HS.out.len
          clear HS
          go_wp2_with fail
          have HC := told_calls _ _ w.heap.size (zs.set xs.length cr) _ HO2.out HI2.out
          rw [HL.out] at HC
          refine HC.mono ?_
          rintro e w2 ⟨⟨v, rfl, ho⟩, rfl⟩
          rw [HV.out] at ho
          go_wp2
          go_ret2
          exact ⟨v, by rw [HF.out, ← HV.out]; rfl, by rw [HF.out]; exact ho, HB2.out⟩
  · have hb : (chk2 xs ys != 0) = true := by simp [h0]
    have HF : Hid (addS xs ys = ([], chk2 xs ys)) := if_neg h0
    clear h0
    go_enter Try.func106, Try.ntmps106
    go_wp2_with fail
    refine (checked_calls A A' c c' xs ys _ H.out H'.out).mono ?_
    rintro e w1 ⟨rfl, rfl⟩
    go_wp2
    go_ret2
    exact ⟨_, by rw [HF.out]; rfl, by rw [HF.out]; exact Ow.nil _ _ _, Below.refl _ _⟩

end Go.Proofs.Ytgjmlbcpjjpegaa
/- Package nat: differences; what each call does. -/
set_option linter.unusedVariables false
set_option linter.unusedSimpArgs false
namespace Go.Proofs.Ytgjmlbcpjjpegaa
open Go Go.RowKit Q

/-- the state of a difference, a word at a time, in place -/
structure SubSt (w wr : World) (B g n cap : Nat) (xs ys : List Int) (k : Nat) (c : Int) (zs : List Int) : Prop where
  own : Ow wr 62 B (.slice (some ⟨g, 0, none⟩) n cap) zs
  len : zs.length = xs.length
  wds : Wds zs
  rest : ∀ i, k ≤ i → wd zs i = wd xs i
  sum : val (zs.take k) - Bp k * c = val (xs.take k) - val (ys.take k)
  grown : w.grownBy wr (some g)
theorem SubSt.step {w wr : World} {B g n cap : Nat} {xs ys : List Int} {k : Nat} {c : Int} {zs : List Int} (h : SubSt w wr B g n cap xs ys k c zs) (hk : k < xs.length) (t : Int) (ht : t = wd xs k - c - wd ys k) (h0 : -4294967296 ≤ t) (h1 : t < 4294967296) :
    SubSt w (wr.setCell ⟨g, k, none⟩ (.int .u32 (t % 4294967296))) B g n cap xs ys (k + 1) ((t % 18446744073709551616) / 9223372036854775808) (zs.set k (t % 4294967296)) := {
  own := h.own.store (by rw [h.len]; exact hk) _
  len := by rw [List.length_set]; exact h.len
  wds := h.wds.set _ (by omega) (by omega)
  rest := fun i hi => by rw [wd_set _ (by rw [h.len]; exact hk), if_neg (by omega)]; exact h.rest i (by omega)
  sum := less_step (by rw [h.len]; exact hk) h.sum t ht h0 h1
  grown := grown_trans h.grown (grown_set _) }
theorem SubSt.step' {w wr : World} {B g n cap : Nat} {xs ys : List Int} {k : Nat} {c : Int} {zs : List Int} (h : SubSt w wr B g n cap xs ys k c zs) (hk : k < xs.length) (t : Int) (ht : t = wd xs k - c - wd ys k) (h0 : -4294967296 ≤ t) (h1 : t < 4294967296) (d : Int) (hd : d = t % 18446744073709551616) :
    SubSt w (wr.setCell ⟨g, k, none⟩ (.int .u32 (d % 4294967296))) B g n cap xs ys (k + 1) (d / 9223372036854775808) (zs.set k (d % 4294967296)) := by
  have e : d % 4294967296 = t % 4294967296 := by omega
  rw [e, hd]
  exact h.step hk t ht h0 h1
theorem u64_sub1 (a b : Int) : IntKind.u64.wrap (a - b) = (a - b - 0) % 18446744073709551616 := by rw [IntKind.wrap_u64]; omega
theorem u64_sub2 (a b c : Int) : IntKind.u64.wrap (IntKind.u64.wrap (a - b) - c) = (a - b - c) % 18446744073709551616 := by rw [IntKind.wrap_u64, IntKind.wrap_u64]; omega

set_option maxHeartbeats 2000000 in
set_option maxRecDepth 100000 in
theorem less_calls (A A' : Option Addr) (c c' B : Nat) (xs ys : List Int) (w : World) (ho : Ow w 62 B (.slice A xs.length c) xs) (hx : In w A c xs) (hy : In w A' c' ys) (hne : ∀ ad ad', A = some ad → A' = some ad' → 0 < ys.length → ad'.block ≠ ad.block)
    (hl : ys.length ≤ xs.length) (hv : val ys ≤ val xs) :
    Calls Try.prog 124 #[.slice A xs.length c, .slice A' ys.length c'] w fun e w' => ∃ v, e = .returned v ∧ Ow w' 62 B v (nwd (val xs - val ys)) ∧ w.grownBy w' (Value.slice A xs.length c).ownBlock := by
  have hm : xs.length ≤ 35184372087808 := by have := hx.small; omega
  have hm' : ys.length ≤ 35184372087808 := by have := hy.small; omega
  have H := Q.hid hx
  have H' := Q.hid hy
  have HV := Q.hid hv
  have HL := Q.hid hl
  rcases ho.2 with ⟨e, h0⟩ | ⟨g, cap, cur, e, hb, hg, hn, hmx, hs, ht⟩
  · injection e with e1 e2 e3
    have hxe : xs = [] := List.eq_nil_of_length_eq_zero (by omega)
    subst e1 e3 hxe
    have hye : ys = [] := List.eq_nil_of_length_eq_zero (by simpa using hl)
    subst hye
    have HN : Hid (nwd (val [] - val []) = []) := nwd_zero
    clear ho hx hy hne hl hv h0
    go_enter Try.func124, Try.ntmps124
    go_wp2
    go_loop [5, 10] (fun b i => i = .int .i64 0 ∧ b = .int .u64 0) (fun _ _ => 0)
    case atStart => exact ⟨rfl, rfl⟩
    case round =>
      obtain ⟨rfl, rfl⟩ := hrel
      go_wp2_with fail
      refine (cut_calls none 0 [] _ H.out).mono ?_
      rintro e w1 ⟨rfl, rfl⟩
      go_wp2
      go_ret
      exact ⟨.slice none 0 0, rfl, by rw [HN.out]; exact Ow.nil _ _ _, grown_refl _ _⟩
  · injection e with e1 e2 e3
    subst e1 e3
    have HNE : Hid (0 < ys.length → ∀ ad', A' = some ad' → some ad'.block ≠ some g) := fun hp ad' e he => hne ⟨g, 0, none⟩ ad' rfl e hp (Option.some.inj he)
    have HS : Hid (SubSt w w B g xs.length c xs ys 0 0 xs) := ⟨ho, rfl, hx.wds, fun _ _ => rfl, by simp [val], grown_refl _ _⟩
    clear ho hx hy hne hl hv hb hg hn hmx hs ht
    go_enter Try.func124, Try.ntmps124
    go_wp2
    go_loopw [5, 6, 7, 10] (fun b _ _ i wr => ∃ (k : Nat) (br : Int) (zs : List Int), k ≤ xs.length ∧ i = .int .i64 k ∧ b = .int .u64 br ∧ 0 ≤ br ∧ br ≤ 1 ∧ Hid (SubSt w wr B g xs.length c xs ys k br zs)) (fun _ _ _ i _ => xs.length - (intOf i).toNat)
    case atStart => exact ⟨0, 0, xs, by omega, rfl, rfl, by omega, by omega, HS⟩
    case round =>
      clear HS
      obtain ⟨k, br, zs, hk, rfl, rfl, hc0, hc1, HS⟩ := hrel
      by_cases hlt : k < xs.length
      · have hw := H.out.wds.wd k
        have hw' := H'.out.wds.wd k
        have p1 : 0 ≤ wd xs k := hw.1
        have p2 : wd xs k < 4294967296 := hw.2
        have p3 : 0 ≤ wd ys k := hw'.1
        have p4 : wd ys k < 4294967296 := hw'.2
        have hcell := HS.out.own.cell (i := k) (by rw [HS.out.len]; exact hlt)
        rw [HS.out.rest k (Nat.le_refl _)] at hcell
        have hfree := HS.out.own.free k
        clear hw hw'
        by_cases hly : k < ys.length
        · obtain ⟨ad', rfl, hy⟩ := (H'.out.rd.grown HS.out.grown (HNE.out (by omega))) k hly
          have HT : Hid (∀ d, d = (wd xs k - br - wd ys k) % 18446744073709551616 → SubSt w (wr.setCell ⟨g, k, none⟩ (.int .u32 (d % 4294967296))) B g xs.length c xs ys (k + 1) (d / 9223372036854775808) (zs.set k (d % 4294967296))) := fun d hd => HS.out.step' hlt _ rfl (by omega) (by omega) d hd
          have HD := Q.hid (u64_sub2 (wd xs k) br (wd ys k))
          clear HS
          go_wp2
          go_roundw
          case rel => exact ⟨k + 1, _, _, by omega, by go_num, rfl, by rw [HD.out]; omega, by rw [HD.out]; omega, HT.out _ HD.out⟩
          case measure => simp [intOf]; omega
        · have hz : wd ys k = 0 := wd_ge (by omega)
          have HT : Hid (∀ d, d = (wd xs k - br - 0) % 18446744073709551616 → SubSt w (wr.setCell ⟨g, k, none⟩ (.int .u32 (d % 4294967296))) B g xs.length c xs ys (k + 1) (d / 9223372036854775808) (zs.set k (d % 4294967296))) := fun d hd => HS.out.step' hlt _ (by rw [hz]) (by omega) (by omega) d hd
          have HD := Q.hid (u64_sub1 (wd xs k) br)
          clear HS hz
          go_wp2
          go_roundw
          case rel => exact ⟨k + 1, _, _, by omega, by go_num, rfl, by rw [HD.out]; omega, by rw [HD.out]; omega, HT.out _ HD.out⟩
          case measure => simp [intOf]; omega
      · obtain rfl : k = xs.length := by omega
        have HN : Hid (val zs = val xs - val ys) := by
          have h1 := HS.out.sum
          have h2 := HS.out.len
          rw [List.take_of_length_le (l := zs) (by omega), List.take_of_length_le (l := xs) (by omega), List.take_of_length_le (l := ys) (by have := HL.out; omega)] at h1
          have h3 := val_lt HS.out.wds
          rw [h2] at h3
          have h4 := HV.out
          have h5 := Bp_pos xs.length
          show val zs = val xs - val ys
          rcases (by omega : br = 0 ∨ br = 1) with rfl | rfl
          · simp at h1; omega
          · rw [Int.mul_one] at h1; omega
        have HLZ : Hid (zs.length = xs.length) := HS.out.len
        have HTR : Hid (trim zs = nwd (val xs - val ys)) := nwd_trim HS.out.wds HN.out
        have HI : Hid (In wr (some ⟨g, 0, none⟩) c zs) := ⟨HS.out.own.read.2.2.2, by rw [HLZ.out]; exact H.out.cap, by rw [HLZ.out]; exact H.out.small, HS.out.wds⟩
        have HO : Hid (Ow wr 62 B (.slice (some ⟨g, 0, none⟩) (trim zs).length c) (nwd (val xs - val ys))) := by
          rw [← HTR.out]; exact HS.out.own.trim
        have HG := Q.hid HS.out.grown
        clear HS
        go_wp2_with fail
        have HC := cut_calls (some ⟨g, 0, none⟩) c zs _ HI.out
        rw [HLZ.out] at HC
        refine HC.mono ?_
        rintro e w2 ⟨rfl, rfl⟩
        go_wp2
        go_ret
        exact ⟨_, rfl, HO.out, HG.out⟩

set_option maxHeartbeats 1000000 in
theorem Sub_calls (A A' : Option Addr) (c c' : Nat) (xs ys : List Int) (w : World) (h : In w A c xs) (h' : In w A' c' ys) :
    Calls Try.prog 108 #[.slice A xs.length c, .slice A' ys.length c'] w fun e w' => ∃ v, e = .returned (.tuple #[v, .int .i64 (subS xs ys).2]) ∧ Ow w' 62 w.heap.size v (subS xs ys).1 ∧ Below w.heap.size w w' := by
  have H := Q.hid h
  have H' := Q.hid h'
  clear h h'
  by_cases h0 : chk2 xs ys = 0
  · have hb : (chk2 xs ys != 0) = false := by simp [h0]
    have HC2 := Q.hid (chk2_zero h0)
    by_cases hv : val xs < val ys
    · have HF : Hid (subS xs ys = ([], 2)) := by unfold subS; rw [if_pos h0, if_pos hv]; rfl
      have hc : cmp (val xs) (val ys) = -1 := cmp_lt hv
      clear h0 hv
      go_enter Try.func108, Try.ntmps108
      go_wp2_with fail
      refine (checked_calls A A' c c' xs ys _ H.out H'.out).mono ?_
      rintro e w1 ⟨rfl, rfl⟩
      go_wp2_with fail
      have HC := Compare_calls A A' c c' xs ys _ H.out H'.out
      rw [hc] at HC
      refine HC.mono ?_
      rintro e w1 ⟨rfl, ⟨n, rfl⟩⟩
      go_wp2
      go_ret2
      exact ⟨_, by rw [HF.out]; rfl, by rw [HF.out]; exact Ow.nil _ _ _, Dr.below ⟨n, rfl⟩ _⟩
    · have HF : Hid (subS xs ys = (nwd (val xs - val ys), 0)) := by unfold subS; rw [if_pos h0, if_neg hv]; rfl
      have hc : decide (cmp (val xs) (val ys) < 0) = false := by
        rcases Int.lt_or_eq_of_le (by omega : val ys ≤ val xs) with h1 | h1
        · rw [cmp_gt h1]; rfl
        · rw [cmp_eq h1.symm]; rfl
      have HV : Hid (val ys ≤ val xs) := by show val ys ≤ val xs; omega
      clear h0 hv
      go_enter Try.func108, Try.ntmps108
      go_wp2_with fail
      refine (checked_calls A A' c c' xs ys _ H.out H'.out).mono ?_
      rintro e w1 ⟨rfl, rfl⟩
      go_wp2_with fail
      refine (Compare_calls A A' c c' xs ys _ H.out H'.out).mono ?_
      rintro e w1 ⟨rfl, ⟨n, rfl⟩⟩
      go_wp2_with fail
      refine (Clone_calls A c xs _ (H.out.drewN _)).mono ?_
      rintro e w2 ⟨v2, rfl, ho, hb2⟩
      obtain ⟨A2, c2, e2, i2⟩ := ho.inn H.out.wds H.out.small
      subst e2
      have HO : Hid (Ow w2 62 w.heap.size (.slice A2 xs.length c2) xs) := ho
      have HI := Q.hid i2
      have HB : Hid (Below w.heap.size w w2) := below_of_drewN hb2
      have HNE : Hid (∀ ad ad', A2 = some ad → A' = some ad' → 0 < ys.length → ad'.block ≠ ad.block) := fun ad ad' e e' hp => by
        obtain ⟨ad2, e2, hx⟩ := H'.out.rd 0 hp
        rw [e'] at e2
        cases e2
        have h1 := World.block_lt_of_cell? w _ hx
        rw [add_block] at h1
        subst e
        have h2 := (HO.out.base ad.block rfl).1
        omega
      clear ho hb2 i2
      go_wp2_with fail
      refine (less_calls A2 A' c2 c' w.heap.size xs ys _ HO.out HI.out (H'.out.below HB.out) HNE.out ?_ HV.out).mono ?_
      · have h1 := HC2.out
        apply Nat.le_of_not_lt
        intro hlt
        have h2 := val_lt_of_len H.out.wds H'.out.wds h1.2.2.2 hlt
        have := HV.out
        omega
      rintro e w3 ⟨v, rfl, ho, hg⟩
      go_wp2
      go_ret2
      exact ⟨v, by rw [HF.out]; rfl, by rw [HF.out]; exact ho, below_grown HB.out hg (fun j hj => (HO.out.base j hj).1)⟩
  · have hb : (chk2 xs ys != 0) = true := by simp [h0]
    have HF : Hid (subS xs ys = ([], chk2 xs ys)) := if_neg h0
    clear h0
    go_enter Try.func108, Try.ntmps108
    go_wp2_with fail
    refine (checked_calls A A' c c' xs ys _ H.out H'.out).mono ?_
    rintro e w1 ⟨rfl, rfl⟩
    go_wp2
    go_ret2
    exact ⟨_, by rw [HF.out]; rfl, by rw [HF.out]; exact Ow.nil _ _ _, Below.refl _ _⟩
end Go.Proofs.Ytgjmlbcpjjpegaa
/- Package nat: products; what the call does. -/
set_option linter.unusedVariables false
set_option linter.unusedSimpArgs false
namespace Go.Proofs.Ytgjmlbcpjjpegaa
open Go Go.RowKit Q

/-- the state of a product ahead of a word of the first number -/
structure MulSt (w wr : World) (g N : Nat) (xs ys : List Int) (i : Nat) (zs : List Int) : Prop where
  own : Ow wr 62 w.heap.size (.slice (some ⟨g, 0, none⟩) N N) zs
  len : zs.length = N
  wds : Wds zs
  zero : ∀ j, i + ys.length ≤ j → wd zs j = 0
  sum : val zs = val (xs.take i) * val ys
  below : Below w.heap.size w wr
/-- and within it -/
structure MulIn (w wr : World) (g N : Nat) (xs ys : List Int) (i k : Nat) (c : Int) (zs : List Int) : Prop where
  own : Ow wr 62 w.heap.size (.slice (some ⟨g, 0, none⟩) N N) zs
  len : zs.length = N
  wds : Wds zs
  zero : ∀ j, i + ys.length ≤ j → wd zs j = 0
  sum : val zs + Bp (i + k) * c = val (xs.take i) * val ys + Bp i * (wd xs i * val (ys.take k))
  below : Below w.heap.size w wr
theorem MulSt.begin {w wr : World} {g N : Nat} {xs ys : List Int} {i : Nat} {zs : List Int} (h : MulSt w wr g N xs ys i zs) : MulIn w wr g N xs ys i 0 0 zs :=
  ⟨h.own, h.len, h.wds, h.zero, by rw [h.sum]; simp [val], h.below⟩
theorem MulIn.step {w wr : World} {g N : Nat} {xs ys : List Int} {i k : Nat} {c : Int} {zs : List Int} (h : MulIn w wr g N xs ys i k c zs) (hN : N = xs.length + ys.length) (hi : i < xs.length) (hk : k < ys.length) (hg : w.heap.size ≤ g) (s : Int) (hs : s = c + (wd xs i * wd ys k + wd zs (i + k))) :
    MulIn w (wr.setCell ⟨g, i + k, none⟩ (.int .u32 (s % 4294967296))) g N xs ys i (k + 1) (s / 4294967296) (zs.set (i + k) (s % 4294967296)) := {
  own := h.own.store (by rw [h.len]; omega) _
  len := by rw [List.length_set]; exact h.len
  wds := h.wds.set _ (by omega) (by omega)
  zero := fun j hj => by rw [wd_set _ (by rw [h.len]; omega), if_neg (by omega)]; exact h.zero j hj
  sum := by
    rw [val_set (by rw [h.len]; omega), val_take_step ys]
    have h1 := carry_step (i + k) s
    have h2 := h.sum
    have e : Bp (i + k) * s = Bp (i + k) * c + Bp (i + k) * (wd xs i * wd ys k) + Bp (i + k) * wd zs (i + k) := by rw [hs]; grind
    have e2 : Bp i * (wd xs i * (val (ys.take k) + Bp k * wd ys k)) = Bp i * (wd xs i * val (ys.take k)) + Bp (i + k) * (wd xs i * wd ys k) := by rw [Bp_add]; grind
    rw [e2, Int.mul_sub]
    have e3 : i + (k + 1) = i + k + 1 := by omega
    rw [e3]
    omega
  below := h.below.setCell hg _ }
theorem MulIn.done {w wr : World} {g N : Nat} {xs ys : List Int} {i : Nat} {c : Int} {zs : List Int} (h : MulIn w wr g N xs ys i ys.length c zs) (hN : N = xs.length + ys.length) (hi : i < xs.length) (hg : w.heap.size ≤ g) (h0 : 0 ≤ c) (h1 : c < 4294967296) :
    MulSt w (wr.setCell ⟨g, i + ys.length, none⟩ (.int .u32 c)) g N xs ys (i + 1) (zs.set (i + ys.length) c) := {
  own := h.own.store (by rw [h.len]; omega) _
  len := by rw [List.length_set]; exact h.len
  wds := h.wds.set _ h0 h1
  zero := fun j hj => by rw [wd_set _ (by rw [h.len]; omega), if_neg (by omega)]; exact h.zero j (by omega)
  sum := by
    rw [val_set (by rw [h.len]; omega), h.zero _ (Nat.le_refl _), val_take_step xs]
    have h2 := h.sum
    rw [List.take_length] at h2
    have e : (val (xs.take i) + Bp i * wd xs i) * val ys = val (xs.take i) * val ys + Bp i * (wd xs i * val ys) := by grind
    rw [e]
    simp only [Int.sub_zero]
    omega
  below := h.below.setCell hg _ }
theorem mul_le (x y : Int) (h0 : 0 ≤ x) (h1 : x < 4294967296) (h2 : 0 ≤ y) (h3 : y < 4294967296) : 0 ≤ x * y ∧ x * y ≤ 18446744065119617025 := by
  refine ⟨Int.mul_nonneg h0 h2, ?_⟩
  have : x * y ≤ 4294967295 * 4294967295 := Int.mul_le_mul (by omega) (by omega) h2 (by omega)
  omega

set_option maxHeartbeats 2000000 in
set_option maxRecDepth 100000 in
theorem Mul_calls (A A' : Option Addr) (c c' : Nat) (xs ys : List Int) (w : World) (h : In w A c xs) (h' : In w A' c' ys) :
    Calls Try.prog 110 #[.slice A xs.length c, .slice A' ys.length c'] w fun e w' => ∃ v, e = .returned (.tuple #[v, .int .i64 (mulS xs ys).2]) ∧ Ow w' 62 w.heap.size v (mulS xs ys).1 ∧ Below w.heap.size w w' := by
  have H := Q.hid h
  have H' := Q.hid h'
  have hm : xs.length ≤ 35184372087808 := by have := h.small; omega
  have hm' : ys.length ≤ 35184372087808 := by have := h'.small; omega
  clear h h'
  by_cases h0 : chk2 xs ys = 0
  · have hb : (chk2 xs ys != 0) = false := by simp [h0]
    by_cases hx : xs.length = 0
    · have hx1 : ((xs.length : Int) == 0) = true := beq_iff_eq.2 (by omega)
      have HF : Hid (mulS xs ys = ([], 0)) := by unfold mulS; rw [if_pos h0, if_pos (.inl (List.eq_nil_of_length_eq_zero hx))]; rfl
      clear hx h0
      go_enter Try.func110, Try.ntmps110
      go_wp2_with fail
      refine (checked_calls A A' c c' xs ys _ H.out H'.out).mono ?_
      rintro e w1 ⟨rfl, rfl⟩
      go_wp2
      go_ret2
      exact ⟨_, by rw [HF.out]; rfl, by rw [HF.out]; exact Ow.nil _ _ _, Below.refl _ _⟩
    · have hx1 : ((xs.length : Int) == 0) = false := beq_eq_false_iff_ne.2 (by omega)
      by_cases hy : ys.length = 0
      · have hy1 : ((ys.length : Int) == 0) = true := beq_iff_eq.2 (by omega)
        have HF : Hid (mulS xs ys = ([], 0)) := by unfold mulS; rw [if_pos h0, if_pos (.inr (List.eq_nil_of_length_eq_zero hy))]; rfl
        clear hx hy h0
        go_enter Try.func110, Try.ntmps110
        go_wp2_with fail
        refine (checked_calls A A' c c' xs ys _ H.out H'.out).mono ?_
        rintro e w1 ⟨rfl, rfl⟩
        go_wp2
        go_ret2
        exact ⟨_, by rw [HF.out]; rfl, by rw [HF.out]; exact Ow.nil _ _ _, Below.refl _ _⟩
      · have hy1 : ((ys.length : Int) == 0) = false := beq_eq_false_iff_ne.2 (by omega)
        have hne : ¬ (xs = [] ∨ ys = []) := by rintro (e | e) <;> simp [e] at hx hy
        by_cases hl : 8193 < xs.length + ys.length
        · have HF : Hid (mulS xs ys = ([], 3)) := by unfold mulS; rw [if_pos h0, if_neg hne, if_pos hl]; rfl
          clear hx hy h0 hne
          go_enter Try.func110, Try.ntmps110
          go_wp2_with fail
          refine (checked_calls A A' c c' xs ys _ H.out H'.out).mono ?_
          rintro e w1 ⟨rfl, rfl⟩
          go_wp2
          go_ret2
          exact ⟨_, by rw [HF.out]; rfl, by rw [HF.out]; exact Ow.nil _ _ _, Below.refl _ _⟩
        · have HF : Hid (mulS xs ys = told (val xs * val ys)) := by unfold mulS; rw [if_pos h0, if_neg hne, if_neg hl]; rfl
          clear hx hy h0 hne
          obtain ⟨N, hN⟩ : ∃ N : Nat, N = xs.length + ys.length := ⟨_, rfl⟩
          have hNi : (xs.length : Int) + (ys.length : Int) = (N : Int) := by omega
          have HN := Q.hid hN
          have HS : Hid (MulSt w (w.alloc (.cells (reps N (.int .u32 0)) 62)) w.heap.size N xs ys 0 (List.replicate N 0)) :=
            ⟨Ow.made w _ _ _ (Nat.le_refl _) (by simp only [maxLen]; omega), by simp, Wds.zeros _, fun j _ => wd_zeros _ _, by rw [val_zeros]; simp [val], (Below.refl _ _).alloc (Nat.le_refl _) _⟩
          have hN8 : N ≤ 8193 := by omega
          clear hN
          go_enter Try.func110, Try.ntmps110
          go_wp2_with fail
          refine (checked_calls A A' c c' xs ys _ H.out H'.out).mono ?_
          rintro e w1 ⟨rfl, rfl⟩
          go_wp2_with (at_make; refine wp_mk rfl (.tmp 37) (.tmp 37) 30 62 rfl (.int .u32 0) 4 Try.underlying30 infoW rfl _ _ N rfl rfl rfl rfl (by omega) (by simp only [maxLen]; omega) ?_)
          go_loopw [41] (fun i wr => ∃ (k : Nat) (zs : List Int), k ≤ xs.length ∧ i = .int .i64 k ∧ Hid (MulSt w wr w.heap.size N xs ys k zs)) (fun i _ => xs.length - (intOf i).toNat)
          case atStart => exact ⟨0, _, by omega, rfl, HS⟩
          case round =>
            clear HS
            obtain ⟨i, zs, hi, rfl, HS⟩ := hrel
            by_cases hlt : i < xs.length
            · obtain ⟨ad, rfl, hx⟩ := (H.out.rd.below HS.out.below) i hlt
              have hw := H.out.wds.wd i
              have p1 : 0 ≤ wd xs i := hw.1
              have p2 : wd xs i < 4294967296 := hw.2
              clear hw
              have HT : Hid (MulIn w wr w.heap.size N xs ys i 0 0 zs) := HS.out.begin
              clear HS
              obtain ⟨wo, hwo⟩ : ∃ wo : World, wo = wr := ⟨_, rfl⟩
              subst hwo
              go_wp2
              go_loopw [10, 48] (fun cv i2 wr => ∃ (k : Nat) (cr : Int) (zs : List Int), k ≤ ys.length ∧ i2 = .int .i64 k ∧ cv = .int .u64 cr ∧ 0 ≤ cr ∧ cr < 4294967296 ∧ Hid (MulIn w wr w.heap.size N xs ys i k cr zs)) (fun _ i2 _ => ys.length - (intOf i2).toNat)
              case atStart => exact ⟨0, 0, zs, by omega, rfl, rfl, by omega, by omega, HT⟩
              case round =>
                clear HT hx
                obtain ⟨k, cr, zs, hk, rfl, rfl, hc0, hc1, HT⟩ := hrel
                by_cases hky : k < ys.length
                · obtain ⟨ad', rfl, hy⟩ := (H'.out.rd.below HT.out.below) k hky
                  have hw := H'.out.wds.wd k
                  have p3 : 0 ≤ wd ys k := hw.1
                  have p4 : wd ys k < 4294967296 := hw.2
                  have hz := HT.out.wds.wd (i + k)
                  have p5 : 0 ≤ wd zs (i + k) := hz.1
                  have p6 : wd zs (i + k) < 4294967296 := hz.2
                  have hpm := mul_le (wd xs i) (wd ys k) p1 p2 p3 p4
                  have p7 : 0 ≤ wd xs i * wd ys k := hpm.1
                  have p8 : wd xs i * wd ys k ≤ 18446744065119617025 := hpm.2
                  have hcell := HT.out.own.cell (i := i + k) (by rw [HT.out.len, HN.out]; omega)
                  have hfree := HT.out.own.free (i + k)
                  have hik : i + k < N := by rw [HN.out]; omega
                  have hik2 : ((i : Int) + (k : Int)).toNat = i + k := by omega
                  clear hw hz hpm
                  have HT2 : Hid (∀ s, s = cr + (wd xs i * wd ys k + wd zs (i + k)) → MulIn w (wr.setCell ⟨w.heap.size, i + k, none⟩ (.int .u32 (s % 4294967296))) w.heap.size N xs ys i (k + 1) (s / 4294967296) (zs.set (i + k) (s % 4294967296))) := fun s hs => HT.out.step HN.out hlt hky (Nat.le_refl _) s hs
                  clear HT
                  go_wp2
                  go_roundw
                  case rel => exact ⟨k + 1, _, _, by omega, by go_num, rfl, by omega, by omega, HT2.out _ rfl⟩
                  case measure => simp [intOf]; omega
                · obtain rfl : k = ys.length := by omega
                  have hcell := HT.out.own.cell (i := i + ys.length) (by rw [HT.out.len, HN.out]; omega)
                  have hfree := HT.out.own.free (i + ys.length)
                  have hik : i + ys.length < N := by rw [HN.out]; omega
                  have hik2 : ((i : Int) + (ys.length : Int)).toNat = i + ys.length := by omega
                  have hcm : cr % 4294967296 = cr := by omega
                  have HT2 : Hid (MulSt w (wr.setCell ⟨w.heap.size, i + ys.length, none⟩ (.int .u32 cr)) w.heap.size N xs ys (i + 1) (zs.set (i + ys.length) cr)) := HT.out.done HN.out hlt (Nat.le_refl _) hc0 hc1
                  clear HT
                  go_wp2
                  go_roundw
                  case rel => exact ⟨i + 1, _, by omega, by go_num, HT2⟩
                  case measure => simp [intOf]; omega
            · obtain rfl : i = xs.length := by omega
              have HV : Hid (val zs = val xs * val ys) := by have := HS.out.sum; rw [List.take_length] at this; exact this
              have HL : Hid (zs.length = N) := HS.out.len
              have HO2 : Hid (Ow wr 62 w.heap.size (.slice (some ⟨w.heap.size, 0, none⟩) zs.length N) zs) := by rw [HL.out]; exact HS.out.own
              have HI2 : Hid (In wr (some ⟨w.heap.size, 0, none⟩) N zs) := ⟨HO2.out.read.2.2.2, by rw [HL.out]; exact Nat.le_refl _, by rw [HL.out]; omega, HS.out.wds⟩
              have HB2 := Q.hid HS.out.below
              clear HS
              go_wp2_with fail
              have HC := told_calls _ _ w.heap.size zs _ HO2.out HI2.out
              rw [HL.out] at HC
              refine HC.mono ?_
              rintro e w2 ⟨⟨v, rfl, ho⟩, rfl⟩
              rw [HV.out] at ho
              go_wp2
              go_ret2
              exact ⟨v, by rw [HF.out, ← HV.out]; rfl, by rw [HF.out]; exact ho, HB2.out⟩
  · have hb : (chk2 xs ys != 0) = true := by simp [h0]
    have HF : Hid (mulS xs ys = ([], chk2 xs ys)) := if_neg h0
    clear h0
    go_enter Try.func110, Try.ntmps110
    go_wp2_with fail
    refine (checked_calls A A' c c' xs ys _ H.out H'.out).mono ?_
    rintro e w1 ⟨rfl, rfl⟩
    go_wp2
    go_ret2
    exact ⟨_, by rw [HF.out]; rfl, by rw [HF.out]; exact Ow.nil _ _ _, Below.refl _ _⟩
end Go.Proofs.Ytgjmlbcpjjpegaa
/- Package nat: quotients by a word, shifts by less than a word. -/
set_option linter.unusedVariables false
set_option linter.unusedSimpArgs false
namespace Go.Proofs.Ytgjmlbcpjjpegaa
open Go Go.RowKit Q

/-- the words below a place are alike -/
def SameLt (zs xs : List Int) (k : Nat) : Prop := ∀ j, j < k → wd zs j = wd xs j
theorem hor32 (x y : Int) (h0 : 0 ≤ x) (h1 : x < 4294967296) (h2 : 0 ≤ y) (h3 : y < 4294967296) : bits .or .u64 (x * 4294967296) y = x * 4294967296 + y := by
  rw [u64_or (x * 4294967296) y (by omega) (by omega) (by omega) (by omega), nat_join32 _ _ (by omega) (by omega)]
  omega
theorem tdiv_of_nonneg {t d : Int} (h : 0 ≤ t) : t.tdiv d = t / d := Int.tdiv_eq_ediv_of_nonneg h
theorem tmod_of_nonneg {t d : Int} (h : 0 ≤ t) : t.tmod d = t % d := Int.tmod_eq_emod_of_nonneg h

set_option maxHeartbeats 1000000 in
set_option maxRecDepth 100000 in
theorem small_calls (A : Option Addr) (c B : Nat) (xs : List Int) (d : Int) (w : World) (ho : Ow w 62 B (.slice A xs.length c) xs) (hx : In w A c xs) (hd0 : 0 < d) (hd1 : d < 4294967296) :
    Calls Try.prog 125 #[.slice A xs.length c, .int .u32 d] w fun e w' => ∃ v, e = .returned (.tuple #[v, .int .u32 (val xs % d)]) ∧ Ow w' 62 B v (nwd (val xs / d)) ∧ v.ownBlock = (Value.slice A xs.length c).ownBlock ∧ w.grownBy w' (Value.slice A xs.length c).ownBlock := by
  have hm : xs.length ≤ 35184372087808 := by have := hx.small; omega
  have H := Q.hid hx
  rcases ho.2 with ⟨e, h0⟩ | ⟨g, cap, cur, e, hb, hg, hn, hmx, hs, ht⟩
  · injection e with e1 e2 e3
    have hxe : xs = [] := List.eq_nil_of_length_eq_zero (by omega)
    subst e1 e3 hxe
    have HN : Hid (nwd (val [] / d) = [] ∧ val [] % d = 0) := ⟨by show nwd (0 / d) = []; rw [Int.zero_ediv]; exact nwd_zero, by show (0 : Int) % d = 0; exact Int.zero_emod d⟩
    clear ho hx h0
    go_enter Try.func125, Try.ntmps125
    go_wp2
    go_loop [6, 7] (fun r i => i = .int .i64 (-1) ∧ r = .int .u64 0) (fun _ _ => 0)
    case atStart => exact ⟨rfl, rfl⟩
    case round =>
      obtain ⟨rfl, rfl⟩ := hrel
      go_wp2_with fail
      refine (cut_calls none 0 [] _ H.out).mono ?_
      rintro e w1 ⟨rfl, rfl⟩
      go_wp2
      go_ret2
      exact ⟨.slice none 0 0, by rw [HN.out.2]; rfl, by rw [HN.out.1]; exact Ow.nil _ _ _, rfl, grown_refl _ _⟩
  · injection e with e1 e2 e3
    subst e1 e3
    have HO : Hid (Ow w 62 B (.slice (some ⟨g, 0, none⟩) xs.length c) xs) := ho
    have HS : Hid (SmV xs d xs xs.length 0) := SmV.start rfl hx.wds hd0
    have HG : Hid (w.grownBy w (some g)) := grown_refl _ _
    have HR : Hid (SameLt xs xs xs.length) := fun _ _ => rfl
    clear ho hx hb hg hn hmx hs ht
    go_enter Try.func125, Try.ntmps125
    go_wp2
    go_loopw [6, 7] (fun rv i wr => ∃ (k : Nat) (r : Int) (zs : List Int), k ≤ xs.length ∧ i = .int .i64 ((k : Int) - 1) ∧ rv = .int .u64 r ∧ 0 ≤ r ∧ r < d ∧ Hid (Ow wr 62 B (.slice (some ⟨g, 0, none⟩) xs.length c) zs) ∧ Hid (SmV xs d zs k r) ∧ Hid (SameLt zs xs k) ∧ Hid (w.grownBy wr (some g))) (fun _ i _ => (intOf i + 1).toNat)
    case atStart => exact ⟨xs.length, 0, xs, by omega, rfl, rfl, by omega, by omega, HO, HS, HR, HG⟩
    case round =>
      clear HO HS HR HG
      obtain ⟨k, r, zs, hk, rfl, rfl, hr0, hr1, HO, HS, HR, HG⟩ := hrel
      by_cases hk0 : 0 < k
      · obtain ⟨j, rfl⟩ : ∃ j, k = j + 1 := ⟨k - 1, by omega⟩
        have hj : j < xs.length := by omega
        have hkj : ((j + 1 : Nat) : Int) - 1 = (j : Int) := by omega
        have hw := H.out.wds.wd j
        have p1 : 0 ≤ wd xs j := hw.1
        have p2 : wd xs j < 4294967296 := hw.2
        have hcell := HO.out.cell (i := j) (by rw [HS.out.len]; omega)
        rw [HR.out j (by omega)] at hcell
        have hfree := HO.out.free j
        obtain ⟨t, ht⟩ : ∃ t : Int, t = r * 4294967296 + wd xs j := ⟨_, rfl⟩
        have hor : bits BinOp.or IntKind.u64 (r * 4294967296) (wd xs j) = t := by rw [ht]; exact hor32 r _ hr0 (by omega) p1 p2
        have ht0 : 0 ≤ t := by omega
        have hbn := HS.out.bnd H.out.wds
        have HS2 := Q.hid (HS.out.step hj H.out.wds)
        rw [← ht] at hbn HS2
        obtain ⟨q, hq⟩ : ∃ q : Int, q = t / d := ⟨_, rfl⟩
        have hdv : t.tdiv d = q := by rw [hq]; exact tdiv_of_nonneg ht0
        have hmd : t.tmod d = t % d := tmod_of_nonneg ht0
        have m0 : 0 ≤ t % d := Int.emod_nonneg _ (by omega)
        have m1 : t % d < d := Int.emod_lt_of_pos _ hd0
        rw [← hq] at hbn HS2
        have q1 : 0 ≤ q := hbn.1
        have q2 : q < 4294967296 := hbn.2
        have HO2 : Hid (Ow (wr.setCell ⟨g, j, none⟩ (.int .u32 q)) 62 B (.slice (some ⟨g, 0, none⟩) xs.length c) (zs.set j q)) := HO.out.store (by rw [HS.out.len]; omega) _
        have HR2 : Hid (SameLt (zs.set j q) xs j) := fun i hi => by rw [wd_set _ (by rw [HS.out.len]; omega), if_neg (by omega)]; exact HR.out i (by omega)
        have HG2 : Hid (w.grownBy (wr.setCell ⟨g, j, none⟩ (.int .u32 q)) (some g)) := grown_trans HG.out (grown_set _)
        clear HO HS HR HG hw hbn ht hq
        generalize t % d = r2 at *
        rw [hkj]
        go_wp2
        go_roundw
        case rel => exact ⟨j, r2, _, by omega, rfl, rfl, m0, m1, HO2, HS2, HR2, HG2⟩
        case measure => simp [intOf]
      · obtain rfl : k = 0 := by omega
        have HF : Hid (val zs = val xs / d ∧ r = val xs % d) := HS.out.fin
        have HLZ : Hid (zs.length = xs.length) := HS.out.len
        have HI : Hid (In wr (some ⟨g, 0, none⟩) c zs) := ⟨HO.out.read.2.2.2, by rw [HLZ.out]; exact H.out.cap, by rw [HLZ.out]; exact H.out.small, HS.out.wds⟩
        have HT : Hid (trim zs = nwd (val xs / d)) := nwd_trim HS.out.wds HF.out.1
        have HO2 : Hid (Ow wr 62 B (.slice (some ⟨g, 0, none⟩) (trim zs).length c) (nwd (val xs / d))) := by rw [← HT.out]; exact HO.out.trim
        have h0k : ((0 : Nat) : Int) - 1 = -1 := rfl
        clear HO HS HR
        rw [h0k]
        go_wp2_with fail
        have HC := cut_calls (some ⟨g, 0, none⟩) c zs _ HI.out
        rw [HLZ.out] at HC
        refine HC.mono ?_
        rintro e w2 ⟨rfl, rfl⟩
        go_wp2
        go_ret2
        exact ⟨_, by rw [← HF.out.2]; rfl, HO2.out, rfl, HG.out⟩

set_option maxHeartbeats 1000000 in
set_option maxRecDepth 100000 in
theorem up_calls (A : Option Addr) (c s : Nat) (xs : List Int) (w : World) (h : In w A c xs) (hs : s < 32) (hl : xs.length ≤ 1000000) :
    Calls Try.prog 127 #[.slice A xs.length c, .int .u64 s] w fun e w' => ∃ zs, e = .returned (.slice (some ⟨w.heap.size, 0, none⟩) (xs.length + 1) (xs.length + 1)) ∧ Ow w' 62 w.heap.size (.slice (some ⟨w.heap.size, 0, none⟩) (xs.length + 1) (xs.length + 1)) zs ∧ Wds zs ∧ zs.length = xs.length + 1 ∧ val zs = val xs * 2 ^ s ∧ wd zs xs.length < 2 ^ s ∧ Below w.heap.size w w' := by
  have H := Q.hid h
  clear h
  have HS : Hid (UpV xs s 0 (List.replicate (xs.length + 1) 0) 0) := UpV.start xs s 0
  have HO : Hid (Ow (w.alloc (.cells (reps (xs.length + 1) (.int .u32 0)) 62)) 62 w.heap.size (.slice (some ⟨w.heap.size, 0, none⟩) (xs.length + 1) (xs.length + 1)) (List.replicate (xs.length + 1) 0)) := Ow.made w _ _ _ (Nat.le_refl _) (by simp only [maxLen]; omega)
  have HB : Hid (Below w.heap.size w (w.alloc (.cells (reps (xs.length + 1) (.int .u32 0)) 62))) := (Below.refl _ _).alloc (Nat.le_refl _) _
  go_enter Try.func127, Try.ntmps127
  go_wp2_with (at_make; refine wp_mk rfl (.tmp 11) (.tmp 11) 30 62 rfl (.int .u32 0) 4 Try.underlying30 infoW rfl _ _ (xs.length + 1) rfl rfl (by omega) (by omega) (by omega) (by simp only [maxLen]; omega) ?_)
  go_loopw [15] (fun i wr => ∃ (k : Nat) (zs : List Int), k ≤ xs.length ∧ i = .int .i64 k ∧ Hid (UpV xs s 0 zs k) ∧ Hid (Ow wr 62 w.heap.size (.slice (some ⟨w.heap.size, 0, none⟩) (xs.length + 1) (xs.length + 1)) zs) ∧ Hid (Below w.heap.size w wr)) (fun i _ => xs.length - (intOf i).toNat)
  case atStart => exact ⟨0, _, by omega, rfl, HS, HO, HB⟩
  case round =>
    clear HS HO HB
    obtain ⟨k, zs, hk, rfl, HS, HO, HB⟩ := hrel
    by_cases hlt : k < xs.length
    · obtain ⟨ad, rfl, hx⟩ := (H.out.rd.below HB.out) k hlt
      have hw := H.out.wds.wd k
      have p1 : 0 ≤ wd xs k := hw.1
      have p2 : wd xs k < 4294967296 := hw.2
      clear hw
      have hcell := HO.out.cell (i := k) (by rw [HS.out.len]; omega)
      have hfree := HO.out.free k
      obtain ⟨a0, a1, a2, a3, a4, a5, a6⟩ := up_parts hs p1 p2
      have z0 := (HS.out.wds.wd k).1
      have z1 : wd zs k < 2 ^ s := HS.out.low
      have HS2 : Hid (UpV xs s 0 ((zs.set k (wd zs k + (wd xs k * 2 ^ s) % 4294967296)).set (k + 1) (wd xs k * 2 ^ s / 4294967296)) (k + 1)) := HS.out.step hs H.out.wds hlt
      have hz2 : k + 1 < zs.length := by rw [HS.out.len]; omega
      have hor : bits BinOp.or IntKind.u32 (wd zs k) ((wd xs k * 2 ^ s) % 4294967296) = wd zs k + (wd xs k * 2 ^ s) % 4294967296 := by
        rw [u32_or _ _ (by omega) (by omega) (by omega) (by omega), Nat.or_comm, nat_join s _ _ ?_ ?_]
        · omega
        · have : (((wd xs k * 2 ^ s) % 4294967296).toNat : Int) % ((2 ^ s : Nat) : Int) = 0 := by rw [Int.toNat_of_nonneg (by omega), Int.natCast_pow]; exact a6
          omega
        · have : ((wd zs k).toNat : Int) < ((2 ^ s : Nat) : Int) := by rw [Int.toNat_of_nonneg (by omega), Int.natCast_pow]; exact z1
          omega
      generalize ht : wd xs k * 2 ^ s = t at *
      have b0 : 0 ≤ wd zs k + t % 4294967296 := by omega
      have b1 : wd zs k + t % 4294967296 < 4294967296 := by omega
      have b2 : t / 4294967296 < 4294967296 := by omega
      have hwr : IntKind.u64.wrap t = t := by rw [IntKind.wrap_u64]; omega
      obtain ⟨y, hy⟩ : ∃ y : Int, y = wd zs k + t % 4294967296 := ⟨_, rfl⟩
      rw [← hy] at b0 b1 hor HS2
      have HO2 := HO.out.store (i := k) (by omega) y
      have HO3 : Hid (Ow ((wr.setCell ⟨w.heap.size, k, none⟩ (.int .u32 y)).setCell ⟨w.heap.size, k + 1, none⟩ (.int .u32 (t / 4294967296))) 62 w.heap.size (.slice (some ⟨w.heap.size, 0, none⟩) (xs.length + 1) (xs.length + 1)) ((zs.set k y).set (k + 1) (t / 4294967296))) := HO2.store (by simp; omega) _
      have hcell2 := HO2.cell (i := k + 1) (by simp; omega)
      have hfree2 := HO2.free (k + 1)
      have HB2 : Hid (Below w.heap.size w ((wr.setCell ⟨w.heap.size, k, none⟩ (.int .u32 y)).setCell ⟨w.heap.size, k + 1, none⟩ (.int .u32 (t / 4294967296)))) := (HB.out.setCell (Nat.le_refl _) _).setCell (Nat.le_refl _) _
      clear HO2 HS HO HB z0 z1 hz2 hy a6 a5 a4 a3
      go_wp2
      go_roundw
      case rel => exact ⟨k + 1, _, by omega, by go_num, HS2, HO3, HB2⟩
      case measure => simp [intOf]; omega
    · obtain rfl : k = xs.length := by omega
      have HV := Q.hid HS.out.fin
      have HL : Hid (wd zs xs.length < 2 ^ s) := HS.out.low
      go_wp2
      go_ret
      exact ⟨zs, rfl, HO.out, HS.out.wds, HS.out.len, by rw [HV.out, Bp_zero, Int.mul_one], HL.out, HB.out⟩

/-- the words from a place on are alike -/
def SameGe (zs xs : List Int) (k : Nat) : Prop := ∀ j, k ≤ j → wd zs j = wd xs j
set_option maxHeartbeats 1000000 in
set_option maxRecDepth 100000 in
theorem down_calls (A : Option Addr) (c B s : Nat) (xs : List Int) (w : World) (ho : Ow w 62 B (.slice A xs.length c) xs) (hx : In w A c xs) (hs : s < 32) :
    Calls Try.prog 131 #[.slice A xs.length c, .int .u64 s] w fun e w' => ∃ v, e = .returned v ∧ Ow w' 62 B v (nwd (val xs / 2 ^ s)) ∧ v.ownBlock = (Value.slice A xs.length c).ownBlock ∧ w.grownBy w' (Value.slice A xs.length c).ownBlock := by
  have hm : xs.length ≤ 35184372087808 := by have := hx.small; omega
  have H := Q.hid hx
  rcases ho.2 with ⟨e, h0⟩ | ⟨g, cap, cur, e, hb, hg, hn, hmx, hsz, ht⟩
  · injection e with e1 e2 e3
    have hxe : xs = [] := List.eq_nil_of_length_eq_zero (by omega)
    subst e1 e3 hxe
    have HN : Hid (nwd (val [] / 2 ^ s) = []) := by show nwd (0 / 2 ^ s) = []; rw [Int.zero_ediv]; exact nwd_zero
    clear ho hx h0
    go_enter Try.func131, Try.ntmps131
    go_wp2
    go_loop [9] (fun i => i = .int .i64 0) (fun _ => 0)
    case atStart => exact rfl
    case round =>
      obtain rfl := hrel
      go_wp2_with fail
      refine (cut_calls none 0 [] _ H.out).mono ?_
      rintro e w1 ⟨rfl, rfl⟩
      go_wp2
      go_ret
      exact ⟨.slice none 0 0, rfl, by rw [HN.out]; exact Ow.nil _ _ _, rfl, grown_refl _ _⟩
  · injection e with e1 e2 e3
    subst e1 e3
    have HO : Hid (Ow w 62 B (.slice (some ⟨g, 0, none⟩) xs.length c) xs) := ho
    have HS : Hid (DnV xs s xs 0) := DnV.start s rfl hx.wds
    have HG : Hid (w.grownBy w (some g)) := grown_refl _ _
    have HR : Hid (SameGe xs xs 0) := fun _ _ => rfl
    clear ho hx hb hg hn hmx hsz ht
    go_enter Try.func131, Try.ntmps131
    go_wp2
    go_loopw [9] (fun i wr => ∃ (k : Nat) (zs : List Int), k ≤ xs.length ∧ i = .int .i64 k ∧ Hid (Ow wr 62 B (.slice (some ⟨g, 0, none⟩) xs.length c) zs) ∧ Hid (DnV xs s zs k) ∧ Hid (SameGe zs xs k) ∧ Hid (w.grownBy wr (some g))) (fun i _ => xs.length - (intOf i).toNat)
    case atStart => exact ⟨0, xs, by omega, rfl, HO, HS, HR, HG⟩
    case round =>
      clear HO HS HR HG
      obtain ⟨k, zs, hk, rfl, HO, HS, HR, HG⟩ := hrel
      by_cases hlt : k < xs.length
      · have hw := H.out.wds.wd k
        have hw' := H.out.wds.wd (k + 1)
        have p1 : 0 ≤ wd xs k := hw.1
        have p2 : wd xs k < 4294967296 := hw.2
        have p3 : 0 ≤ wd xs (k + 1) := hw'.1
        have p4 : wd xs (k + 1) < 4294967296 := hw'.2
        have hcell := HO.out.cell (i := k) (by rw [HS.out.len]; omega)
        rw [HR.out k (by omega)] at hcell
        have hfree := HO.out.free k
        have hdn := dn_parts hs p1 p2 p3 p4
        have HS2 := Q.hid (HS.out.step hs H.out.wds hlt)
        obtain ⟨t, ht⟩ : ∃ t : Int, t = wd xs k + wd xs (k + 1) * 4294967296 := ⟨_, rfl⟩
        rw [← ht] at hdn HS2
        have t0 : 0 ≤ t := by omega
        have t1 : t < 18446744073709551616 := by omega
        have q0 : 0 ≤ t / 2 ^ s := hdn.1
        have HO2 : Hid (Ow (wr.setCell ⟨g, k, none⟩ (.int .u32 (t / 2 ^ s % 4294967296))) 62 B (.slice (some ⟨g, 0, none⟩) xs.length c) (zs.set k (t / 2 ^ s % 4294967296))) := HO.out.store (by rw [HS.out.len]; omega) _
        have HR2 : Hid (SameGe (zs.set k (t / 2 ^ s % 4294967296)) xs (k + 1)) := fun i hi => by rw [wd_set _ (by rw [HS.out.len]; omega), if_neg (by omega)]; exact HR.out i (by omega)
        have HG2 : Hid (w.grownBy (wr.setCell ⟨g, k, none⟩ (.int .u32 (t / 2 ^ s % 4294967296))) (some g)) := grown_trans HG.out (grown_set _)
        by_cases hl2 : k + 1 < xs.length
        · have hlc : decide ((k : Int) + 1 < (xs.length : Int)) = true := decide_eq_true (by omega)
          have hcell2 := HO.out.cell (i := k + 1) (by rw [HS.out.len]; omega)
          rw [HR.out (k + 1) (by omega)] at hcell2
          have hor : bits BinOp.or IntKind.u64 (wd xs k) (wd xs (k + 1) * 4294967296) = t := by rw [ht, or32 _ _ p1 p2 p3 p4]; omega
          clear HO HS HR HG hw hw' hdn ht
          go_wp2
          go_roundw
          case rel => exact ⟨k + 1, _, by omega, by go_num, HO2, HS2, HR2, HG2⟩
          case measure => simp [intOf]; omega
        · have hlc : decide ((k : Int) + 1 < (xs.length : Int)) = false := decide_eq_false (by omega)
          have hxt : wd xs k = t := by rw [ht, wd_ge (xs := xs) (i := k + 1) (by omega)]; omega
          rw [hxt] at hcell
          clear HO HS HR HG hw hw' hdn ht hxt
          go_wp2
          go_roundw
          case rel => exact ⟨k + 1, _, by omega, by go_num, HO2, HS2, HR2, HG2⟩
          case measure => simp [intOf]; omega
      · obtain rfl : k = xs.length := by omega
        have HLZ : Hid (zs.length = xs.length) := HS.out.len
        have HI : Hid (In wr (some ⟨g, 0, none⟩) c zs) := ⟨HO.out.read.2.2.2, by rw [HLZ.out]; exact H.out.cap, by rw [HLZ.out]; exact H.out.small, HS.out.wds⟩
        have HT : Hid (trim zs = nwd (val xs / 2 ^ s)) := nwd_trim HS.out.wds HS.out.fin
        have HO2 : Hid (Ow wr 62 B (.slice (some ⟨g, 0, none⟩) (trim zs).length c) (nwd (val xs / 2 ^ s))) := by rw [← HT.out]; exact HO.out.trim
        clear HO HS HR
        go_wp2_with fail
        have HC := cut_calls (some ⟨g, 0, none⟩) c zs _ HI.out
        rw [HLZ.out] at HC
        refine HC.mono ?_
        rintro e w2 ⟨rfl, rfl⟩
        go_wp2
        go_ret
        exact ⟨_, rfl, HO2.out, rfl, HG.out⟩
end Go.Proofs.Ytgjmlbcpjjpegaa
/- Package nat: a word of a quotient: the guess, the multiple taken off, what is put back. -/
set_option linter.unusedVariables false
set_option linter.unusedSimpArgs false
namespace Go.Proofs.Ytgjmlbcpjjpegaa
open Go Go.RowKit Q

set_option maxHeartbeats 2000000 in
set_option maxRecDepth 100000 in
theorem guess_calls (A A' : Option Addr) (c c' : Nat) (us ys : List Int) (w : World) (h : In w A c us) (h' : In w A' c' ys) (hd : Dv us ys ys.length) :
    Calls Try.prog 128 #[.slice A us.length c, .slice A' ys.length c'] w fun e w' => ∃ x : Int, e = .returned (.int .u64 x) ∧ 0 ≤ x ∧ x < 4294967296 ∧ val us / val ys ≤ x ∧ x ≤ val us / val ys + 1 ∧ Dr w w' := by
  have hm' : ys.length ≤ 35184372087808 := by have := h'.small; omega
  have hN := hd.two
  have hul : ys.length < us.length := by have := hd.ul; omega
  have hg : 2147483648 ≤ wd ys (ys.length - 1) := hd.great
  have D := Q.hid hd
  have G := Q.hid hd.start
  have n1 : ((ys.length : Int) - 1).toNat = ys.length - 1 := by omega
  have n2 : ((ys.length : Int) - 2).toNat = ys.length - 2 := by omega
  obtain ⟨ad, rfl, hu0⟩ := h.rd ys.length (by omega)
  obtain ⟨ad2, e, hu1⟩ := h.rd (ys.length - 1) (by omega)
  cases e
  obtain ⟨ad2, e, hu2⟩ := h.rd (ys.length - 2) (by omega)
  cases e
  obtain ⟨ad', rfl, hv1⟩ := h'.rd (ys.length - 1) (by omega)
  obtain ⟨ad2, e, hv2⟩ := h'.rd (ys.length - 2) (by omega)
  cases e
  have a0 := (h.wds.wd ys.length).1
  have a1 := (h.wds.wd ys.length).2
  have b0 := (h.wds.wd (ys.length - 1)).1
  have b1 := (h.wds.wd (ys.length - 1)).2
  have c0 := (h.wds.wd (ys.length - 2)).1
  have c1 := (h.wds.wd (ys.length - 2)).2
  have d0 := (h'.wds.wd (ys.length - 1)).1
  have d1 := (h'.wds.wd (ys.length - 1)).2
  have e0 := (h'.wds.wd (ys.length - 2)).1
  have e1 := (h'.wds.wd (ys.length - 2)).2
  have hor := hor32 _ _ a0 a1 b0 b1
  obtain ⟨top, ht⟩ : ∃ top : Int, top = wd us ys.length * 4294967296 + wd us (ys.length - 1) := ⟨_, rfl⟩
  rw [← ht] at hor
  have t0 : 0 ≤ top := by omega
  have t1 : top < 18446744073709551616 := by omega
  have hdv : top.tdiv (wd ys (ys.length - 1)) = top / wd ys (ys.length - 1) := tdiv_of_nonneg t0
  have hmd : top.tmod (wd ys (ys.length - 1)) = top % wd ys (ys.length - 1) := tmod_of_nonneg t0
  obtain ⟨q1, hq1⟩ : ∃ q1 : Int, q1 = top / wd ys (ys.length - 1) := ⟨_, rfl⟩
  obtain ⟨r1, hr1⟩ : ∃ r1 : Int, r1 = top % wd ys (ys.length - 1) := ⟨_, rfl⟩
  rw [← ht, ← hq1, ← hr1] at G
  rw [← hq1] at hdv
  rw [← hr1] at hmd
  have q10 := G.out.q0
  have q11 := G.out.q1
  have HD : Hid (Dr w w) := Dr.refl w
  clear h h' hd hq1 hr1 ht
  go_enter Try.func128, Try.ntmps128
  go_wp2
  go_quiet (fail)
  go_wp2
  go_quiet (fail)
  go_wp2
  go_loopw [7, 8] (fun qv rv wr => ∃ (q r : Int), qv = .int .u64 q ∧ rv = .int .u64 r ∧ Hid (Gs us ys ys.length q r) ∧ Hid (Dr w wr)) (fun qv _ _ => (intOf qv).toNat)
  case atStart => exact ⟨q1, r1, rfl, rfl, G, by first | exact ⟨_, rfl⟩ | exact Dr.step ⟨_, rfl⟩ _⟩
  case round =>
    clear G HD
    obtain ⟨q, r, rfl, rfl, G, HD⟩ := hrel
    obtain ⟨n, rfl⟩ := HD.out
    clear HD
    have q0 := G.out.q0
    have q2 := G.out.q1
    have r0 := G.out.r0
    have r2 := G.out.r1
    clear q10 q11 hdv hmd
    by_cases hq : q < 4294967296
    · have hb : (q / 4294967296 != 0) = false := by rw [show q / 4294967296 = 0 by omega]; rfl
      have m0 : 0 ≤ q * wd ys (ys.length - 2) := Int.mul_nonneg q0 e0
      have m1 : q * wd ys (ys.length - 2) ≤ 4294967295 * 4294967295 := Int.mul_le_mul (by omega) (by omega) e0 (by omega)
      have hor2 := hor32 _ _ r0 r2 c0 c1
      clear hor
      by_cases htt : r * 4294967296 + wd us (ys.length - 2) < q * wd ys (ys.length - 2)
      · obtain ⟨g1, g2, g3⟩ := G.out.down D.out (.inr ⟨hq, htt⟩)
        have hb2 : decide (r * 4294967296 + wd us (ys.length - 2) < q * wd ys (ys.length - 2)) = true := decide_eq_true htt
        have HG3 := Q.hid g3
        clear g3
        by_cases hrr : r + wd ys (ys.length - 1) < 4294967296
        · have hb3 : ((r + wd ys (ys.length - 1)) / 4294967296 != 0) = false := by rw [show (r + wd ys (ys.length - 1)) / 4294967296 = 0 by omega]; rfl
          have HG4 : Hid (Gs us ys ys.length (q - 1) (r + wd ys (ys.length - 1))) := ⟨by omega, by omega, g2, by omega, hrr, HG3.out⟩
          clear G g2
          go_wp2
          go_quiet (fail)
          go_wp2
          go_roundw
          case rel => exact ⟨q - 1, _, rfl, rfl, HG4, by first | exact ⟨_, rfl⟩ | exact Dr.step ⟨_, rfl⟩ _⟩
          case measure => simp [intOf]; omega
        · have hb3 : ((r + wd ys (ys.length - 1)) / 4294967296 != 0) = true := by
            have : (r + wd ys (ys.length - 1)) / 4294967296 ≠ 0 := by omega
            simpa using this
          have HF : Hid (q - 1 < 4294967296 ∧ q - 1 ≤ val us / val ys + 1) := D.out.over (by omega) HG3.out (by omega)
          have HG2 := Q.hid g2
          clear G g2
          go_wp2
          go_quiet (fail)
          go_wp2
          go_ret
          exact ⟨q - 1, rfl, by omega, HF.out.1, HG2.out, HF.out.2, by first | exact ⟨_, rfl⟩ | exact Dr.step ⟨_, rfl⟩ _⟩
      · have hb2 : decide (r * 4294967296 + wd us (ys.length - 2) < q * wd ys (ys.length - 2)) = false := decide_eq_false htt
        have HF : Hid (val us / val ys ≤ q ∧ q ≤ val us / val ys + 1) := G.out.stay D.out hq (by omega)
        clear G
        go_wp2
        go_quiet (fail)
        go_wp2
        go_ret
        exact ⟨q, rfl, q0, hq, HF.out.1, HF.out.2, by first | exact ⟨_, rfl⟩ | exact Dr.step ⟨_, rfl⟩ _⟩
    · have hb : (q / 4294967296 != 0) = true := by
        have : q / 4294967296 ≠ 0 := by omega
        simpa using this
      clear hor
      obtain ⟨g1, g2, g3⟩ := G.out.down D.out (.inl (by omega))
      have HG3 := Q.hid g3
      clear g3
      by_cases hrr : r + wd ys (ys.length - 1) < 4294967296
      · have hb3 : ((r + wd ys (ys.length - 1)) / 4294967296 != 0) = false := by rw [show (r + wd ys (ys.length - 1)) / 4294967296 = 0 by omega]; rfl
        have HG4 : Hid (Gs us ys ys.length (q - 1) (r + wd ys (ys.length - 1))) := ⟨by omega, by omega, g2, by omega, hrr, HG3.out⟩
        clear G g2
        go_wp2
        go_quiet (fail)
        go_wp2
        go_roundw
        case rel => exact ⟨q - 1, _, rfl, rfl, HG4, by first | exact ⟨_, rfl⟩ | exact Dr.step ⟨_, rfl⟩ _⟩
        case measure => simp [intOf]; omega
      · have hb3 : ((r + wd ys (ys.length - 1)) / 4294967296 != 0) = true := by
          have : (r + wd ys (ys.length - 1)) / 4294967296 ≠ 0 := by omega
          simpa using this
        have HF : Hid (q - 1 < 4294967296 ∧ q - 1 ≤ val us / val ys + 1) := D.out.over (by omega) HG3.out (by omega)
        have HG2 := Q.hid g2
        clear G g2
        go_wp2
        go_quiet (fail)
        go_wp2
        go_ret
        exact ⟨q - 1, rfl, by omega, HF.out.1, HG2.out, HF.out.2, by first | exact ⟨_, rfl⟩ | exact Dr.step ⟨_, rfl⟩ _⟩

set_option maxHeartbeats 2000000 in
set_option maxRecDepth 100000 in
theorem off_calls (A' : Option Addr) (B g n cap cc c' : Nat) (pre us post ys : List Int) (q : Int) (w : World) (ho : Ow w 62 B (.slice (some ⟨g, 0, none⟩) n cap) (pre ++ us ++ post)) (huw : Wds us) (hul : us.length ≤ 2000000) (h' : In w A' c' ys) (hne : ∀ ad', A' = some ad' → ad'.block ≠ g) (hq0 : 0 ≤ q) (hq1 : q < 4294967296) :
    Calls Try.prog 129 #[.slice (some ⟨g, pre.length, none⟩) us.length cc, .slice A' ys.length c', .int .u64 q] w fun e w' => ∃ zs cr b, e = .returned (.bool (b != 0)) ∧ OfV us ys q zs us.length cr b ∧ Ow w' 62 B (.slice (some ⟨g, 0, none⟩) n cap) (pre ++ zs ++ post) ∧ w.grownBy w' (some g) := by
  have hm' : ys.length ≤ 35184372087808 := by have := h'.small; omega
  have H' := Q.hid h'
  have UW := Q.hid huw
  have HNE : Hid (∀ ad', A' = some ad' → some ad'.block ≠ some g) := fun ad' e he => hne ad' e (Option.some.inj he)
  have HS : Hid (OfV us ys q us 0 0 0) := OfV.start ys q huw
  have HO := Q.hid ho
  have HG : Hid (w.grownBy w (some g)) := grown_refl _ _
  obtain ⟨i0, hi0⟩ : ∃ i0 : Nat, i0 = pre.length := ⟨_, rfl⟩
  have HI := Q.hid hi0
  clear ho huw h' hne
  rw [← hi0]
  clear hi0
  go_enter Try.func129, Try.ntmps129
  go_wp2
  go_loopw [7, 8, 13] (fun cv bv i wr => ∃ (k : Nat) (cr b : Int) (zs : List Int), k ≤ us.length ∧ i = .int .i64 k ∧ cv = .int .u64 cr ∧ bv = .int .u64 b ∧ Hid (OfV us ys q zs k cr b) ∧ Hid (Ow wr 62 B (.slice (some ⟨g, 0, none⟩) n cap) (pre ++ zs ++ post)) ∧ Hid (w.grownBy wr (some g))) (fun _ _ i _ => us.length - (intOf i).toNat)
  case atStart => exact ⟨0, 0, 0, us, by omega, rfl, rfl, rfl, HS, HO, HG⟩
  case round =>
    clear HS HO HG
    obtain ⟨k, cr, b, zs, hk, rfl, rfl, rfl, HS, HO, HG⟩ := hrel
    by_cases hlt : k < us.length
    · have hzl : k < zs.length := by rw [HS.out.len]; exact hlt
      have c0 := HS.out.c0
      have c1 := HS.out.c1
      have b0 := HS.out.b0
      have b1 := HS.out.b1
      have p1 := (UW.out.wd k).1
      have p2 := (UW.out.wd k).2
      have p3 := (H'.out.wds.wd k).1
      have p4 := (H'.out.wds.wd k).2
      have hcell := HO.out.cell (i := i0 + k) (by rw [HI.out]; simp; omega)
      have hwz : wd (pre ++ zs ++ post) (i0 + k) = wd us k := by rw [HI.out, wd_mid hzl, HS.out.rest k (Nat.le_refl _)]
      rw [hwz] at hcell
      have hfree := HO.out.free (i0 + k)
      have m0 : 0 ≤ q * wd ys k := Int.mul_nonneg hq0 p3
      have m1 : q * wd ys k ≤ 4294967295 * 4294967295 := Int.mul_le_mul (by omega) (by omega) p3 (by omega)
      have HT : Hid (∀ p d, p = cr + q * wd ys k → d = (wd us k - p % 4294967296 - b) % 18446744073709551616 → OfV us ys q (zs.set k (d % 4294967296)) (k + 1) (p / 4294967296) (d / 9223372036854775808) ∧ Ow (wr.setCell ⟨g, i0 + k, none⟩ (.int .u32 (d % 4294967296))) 62 B (.slice (some ⟨g, 0, none⟩) n cap) (pre ++ zs.set k (d % 4294967296) ++ post) ∧ w.grownBy (wr.setCell ⟨g, i0 + k, none⟩ (.int .u32 (d % 4294967296))) (some g)) := fun p d hp hd => by
        have e : d % 4294967296 = (wd us k - p % 4294967296 - b) % 4294967296 := by omega
        refine ⟨by rw [e, hd]; exact HS.out.step UW.out H'.out.wds hlt hq0 hq1 p hp, ?_, grown_trans HG.out (grown_set _)⟩
        have := HO.out.store (i := i0 + k) (by rw [HI.out]; simp; omega) (d % 4294967296)
        rw [HI.out, set_mid pre zs post hzl] at this
        rw [HI.out]
        exact this
      clear HS HO hwz
      by_cases hly : k < ys.length
      · obtain ⟨ad', rfl, hy⟩ := (H'.out.rd.grown HG.out HNE.out) k hly
        clear HG
        go_wp2
        go_roundw
        case rel =>
          obtain ⟨t1, t2, t3⟩ := HT.out _ _ rfl (u64_sub2 (wd us k) ((cr + q * wd ys k) % 4294967296) b)
          exact ⟨k + 1, _, _, _, by omega, by go_num, rfl, rfl, t1, t2, t3⟩
        case measure => simp [intOf]; omega
      · have hz : cr = cr + q * wd ys k := by rw [wd_ge (xs := ys) (i := k) (by omega)]; simp
        have HT2 := Q.hid (HT.out cr (IntKind.u64.wrap (IntKind.u64.wrap (wd us k - cr) - b)) hz (by rw [u64_sub2, show cr % 4294967296 = cr by omega]))
        clear HG HT hz m0 m1
        go_wp2
        go_roundw
        case rel =>
          obtain ⟨t1, t2, t3⟩ := HT2.out
          exact ⟨k + 1, _, _, _, by omega, by go_num, rfl, rfl, t1, t2, t3⟩
        case measure => simp [intOf]; omega
    · obtain rfl : k = us.length := by omega
      go_wp2
      go_ret
      exact ⟨zs, cr, b, rfl, HS.out, HO.out, HG.out⟩

set_option maxHeartbeats 2000000 in
set_option maxRecDepth 100000 in
theorem back_calls (A' : Option Addr) (B g n cap cc c' : Nat) (pre us post ys : List Int) (w : World) (ho : Ow w 62 B (.slice (some ⟨g, 0, none⟩) n cap) (pre ++ us ++ post)) (huw : Wds us) (hul : us.length ≤ 2000000) (h' : In w A' c' ys) (hne : ∀ ad', A' = some ad' → ad'.block ≠ g) :
    Calls Try.prog 130 #[.slice (some ⟨g, pre.length, none⟩) us.length cc, .slice A' ys.length c'] w fun e w' => ∃ zs cr, e = .returned (.tuple #[]) ∧ BkV us ys zs us.length cr ∧ Ow w' 62 B (.slice (some ⟨g, 0, none⟩) n cap) (pre ++ zs ++ post) ∧ w.grownBy w' (some g) := by
  have hm' : ys.length ≤ 35184372087808 := by have := h'.small; omega
  have H' := Q.hid h'
  have UW := Q.hid huw
  have HNE : Hid (∀ ad', A' = some ad' → some ad'.block ≠ some g) := fun ad' e he => hne ad' e (Option.some.inj he)
  have HS : Hid (BkV us ys us 0 0) := BkV.start ys huw
  have HO := Q.hid ho
  have HG : Hid (w.grownBy w (some g)) := grown_refl _ _
  obtain ⟨i0, hi0⟩ : ∃ i0 : Nat, i0 = pre.length := ⟨_, rfl⟩
  have HI := Q.hid hi0
  clear ho huw h' hne
  rw [← hi0]
  clear hi0
  go_enter Try.func130, Try.ntmps130
  go_wp2
  go_loopw [4, 8] (fun cv i wr => ∃ (k : Nat) (cr : Int) (zs : List Int), k ≤ us.length ∧ i = .int .i64 k ∧ cv = .int .u64 cr ∧ Hid (BkV us ys zs k cr) ∧ Hid (Ow wr 62 B (.slice (some ⟨g, 0, none⟩) n cap) (pre ++ zs ++ post)) ∧ Hid (w.grownBy wr (some g))) (fun _ i _ => us.length - (intOf i).toNat)
  case atStart => exact ⟨0, 0, us, by omega, rfl, rfl, HS, HO, HG⟩
  case round =>
    clear HS HO HG
    obtain ⟨k, cr, zs, hk, rfl, rfl, HS, HO, HG⟩ := hrel
    by_cases hlt : k < us.length
    · have hzl : k < zs.length := by rw [HS.out.len]; exact hlt
      have c0 := HS.out.c0
      have c1 := HS.out.c1
      have p1 := (UW.out.wd k).1
      have p2 := (UW.out.wd k).2
      have p3 := (H'.out.wds.wd k).1
      have p4 := (H'.out.wds.wd k).2
      have hcell := HO.out.cell (i := i0 + k) (by rw [HI.out]; simp; omega)
      have hwz : wd (pre ++ zs ++ post) (i0 + k) = wd us k := by rw [HI.out, wd_mid hzl, HS.out.rest k (Nat.le_refl _)]
      rw [hwz] at hcell
      have hfree := HO.out.free (i0 + k)
      have HT : Hid (∀ p, p = cr + wd us k + wd ys k → BkV us ys (zs.set k (p % 4294967296)) (k + 1) (p / 4294967296) ∧ Ow (wr.setCell ⟨g, i0 + k, none⟩ (.int .u32 (p % 4294967296))) 62 B (.slice (some ⟨g, 0, none⟩) n cap) (pre ++ zs.set k (p % 4294967296) ++ post) ∧ w.grownBy (wr.setCell ⟨g, i0 + k, none⟩ (.int .u32 (p % 4294967296))) (some g)) := fun p hp => by
        refine ⟨HS.out.step UW.out H'.out.wds hlt p hp, ?_, grown_trans HG.out (grown_set _)⟩
        have := HO.out.store (i := i0 + k) (by rw [HI.out]; simp; omega) (p % 4294967296)
        rw [HI.out, set_mid pre zs post hzl] at this
        rw [HI.out]
        exact this
      clear HS HO hwz
      by_cases hly : k < ys.length
      · obtain ⟨ad', rfl, hy⟩ := (H'.out.rd.grown HG.out HNE.out) k hly
        clear HG
        go_wp2
        go_roundw
        case rel =>
          obtain ⟨t1, t2, t3⟩ := HT.out _ rfl
          exact ⟨k + 1, _, _, by omega, by go_num, rfl, t1, t2, t3⟩
        case measure => simp [intOf]; omega
      · have hz : cr + wd us k = cr + wd us k + wd ys k := by rw [wd_ge (xs := ys) (i := k) (by omega)]; simp
        have HT2 := Q.hid (HT.out (cr + wd us k) hz)
        clear HG HT hz
        go_wp2
        go_roundw
        case rel =>
          obtain ⟨t1, t2, t3⟩ := HT2.out
          exact ⟨k + 1, _, _, by omega, by go_num, rfl, t1, t2, t3⟩
        case measure => simp [intOf]; omega
    · obtain rfl : k = us.length := by omega
      go_wp2
      go_end0
      exact ⟨zs, cr, rfl, HS.out, HO.out, HG.out⟩
end Go.Proofs.Ytgjmlbcpjjpegaa
/- Package nat: quotients; what the call does. -/
set_option linter.unusedVariables false
set_option linter.unusedSimpArgs false
namespace Go.Proofs.Ytgjmlbcpjjpegaa
open Go Go.RowKit Q

theorem bits_bnd : ∀ (f x : Nat), x < 2 ^ f → x ≠ 0 → 1 ≤ Lib.bitLenAux f x ∧ 2 ^ (Lib.bitLenAux f x - 1) ≤ x ∧ x < 2 ^ Lib.bitLenAux f x := by
  intro f
  induction f with
  | zero => intro x h h0; simp at h; omega
  | succ f ih =>
    intro x h h0
    rw [Lib.bitLenAux, if_neg h0]
    by_cases h2 : x / 2 = 0
    · have hx : x = 1 := by omega
      subst hx
      have : Lib.bitLenAux f (1 / 2) = 0 := by cases f <;> simp [Lib.bitLenAux]
      rw [this]; simp
    · obtain ⟨a, b, c⟩ := ih (x / 2) (by rw [Nat.pow_succ] at h; omega) h2
      obtain ⟨k, hk⟩ : ∃ k, Lib.bitLenAux f (x / 2) = k + 1 := ⟨Lib.bitLenAux f (x / 2) - 1, by omega⟩
      rw [hk] at b c ⊢
      rw [Nat.add_sub_cancel] at b
      rw [show 1 + (k + 1) - 1 = k + 1 by omega, show 1 + (k + 1) = k + 1 + 1 by omega, Nat.pow_succ 2 k, Nat.pow_succ 2 (k + 1)]
      omega
theorem lead (t : Int) (h0 : 0 < t) (h1 : t < 4294967296) : ∃ s : Nat, 32 - (Lib.bitLen t.toNat : Int) = (s : Int) ∧ s < 32 ∧ 2147483648 ≤ t * 2 ^ s ∧ t * 2 ^ s < 4294967296 := by
  obtain ⟨x, rfl⟩ : ∃ x : Nat, t = x := ⟨t.toNat, by omega⟩
  rw [Int.toNat_natCast]
  obtain ⟨a, b, c⟩ := bits_bnd 64 x (by omega) (by omega)
  have hle : Lib.bitLen x ≤ 32 := Lib.bitLen_le x 32 (by omega) (by omega)
  have e : Lib.bitLenAux 64 x = Lib.bitLen x := rfl
  rw [e] at a b c
  obtain ⟨k, hk⟩ : ∃ k, Lib.bitLen x = k + 1 := ⟨Lib.bitLen x - 1, by omega⟩
  rw [hk] at b c hle ⊢
  rw [Nat.add_sub_cancel] at b
  refine ⟨31 - k, by omega, by omega, ?_, ?_⟩
  · have h2 : 2 ^ k * 2 ^ (31 - k) ≤ x * 2 ^ (31 - k) := Nat.mul_le_mul_right _ b
    rw [← Nat.pow_add, show k + (31 - k) = 31 by omega] at h2
    have h3 : ((2 ^ 31 : Nat) : Int) ≤ ((x * 2 ^ (31 - k) : Nat) : Int) := by exact_mod_cast h2
    rw [Int.natCast_mul, Int.natCast_pow] at h3
    exact h3
  · have h2 : x * 2 ^ (31 - k) < 2 ^ (k + 1) * 2 ^ (31 - k) := Nat.mul_lt_mul_of_pos_right c (Nat.pow_pos (by omega))
    rw [← Nat.pow_add, show k + 1 + (31 - k) = 32 by omega] at h2
    have h3 : ((x * 2 ^ (31 - k) : Nat) : Int) < ((2 ^ 32 : Nat) : Int) := by exact_mod_cast h2
    rw [Int.natCast_mul, Int.natCast_pow] at h3
    exact h3

theorem up_any (A : Option Addr) (c s : Nat) (xs : List Int) (w : World) (h : In w A c xs) (hs : s < 32) (hl : xs.length ≤ 1000000) :
    Calls Try.prog 127 #[.slice A xs.length c, .int .u64 s] w fun e w' => ∃ g zs, e = .returned (.slice (some ⟨g, 0, none⟩) (xs.length + 1) (xs.length + 1)) ∧ w.heap.size ≤ g ∧ Ow w' 62 w.heap.size (.slice (some ⟨g, 0, none⟩) (xs.length + 1) (xs.length + 1)) zs ∧ Wds zs ∧ zs.length = xs.length + 1 ∧ val zs = val xs * 2 ^ s ∧ wd zs xs.length < 2 ^ s ∧ Below w.heap.size w w' :=
  (up_calls A c s xs w h hs hl).mono fun _ _ ⟨zs, he, h1, h2⟩ => ⟨_, zs, he, Nat.le_refl _, h1, h2⟩
/-- two rows apart from each other -/
def Apart2 (u v : Value) : Prop := u.ownBlock = none ∨ u.ownBlock ≠ v.ownBlock

set_option maxHeartbeats 2000000 in
set_option maxRecDepth 100000 in
theorem divide_calls (A A' : Option Addr) (c c' : Nat) (xs ys : List Int) (w : World) (h : In w A c xs) (h' : In w A' c' ys) (ht : Tr xs) (ht' : Tr ys) (hl : xs.length ≤ 1000000) (hy0 : ys ≠ []) :
    Calls Try.prog 120 #[.slice A xs.length c, .slice A' ys.length c'] w fun e w' => ∃ u v, e = .returned (.tuple #[u, v]) ∧ Ow w' 62 w.heap.size u (nwd (val xs / val ys)) ∧ Ow w' 62 w.heap.size v (nwd (val xs % val ys)) ∧ Apart2 u v ∧ Below w.heap.size w w' := by
  have H := Q.hid h
  have H' := Q.hid h'
  have HT := Q.hid ht
  have HT' := Q.hid ht'
  have hyp : 0 < ys.length := List.length_pos_iff.2 hy0
  have HVP : Hid (0 < val ys) := val_pos h'.wds ht' hy0
  by_cases hv : val xs < val ys
  · have hc : cmp (val xs) (val ys) = -1 := cmp_lt hv
    have HQ : Hid (nwd (val xs / val ys) = [] ∧ nwd (val xs % val ys) = xs) := by
      have h1 := val_nonneg h.wds
      refine ⟨by rw [Int.ediv_eq_zero_of_lt h1 hv]; exact nwd_zero, by rw [Int.emod_eq_of_lt h1 hv]; exact nwd_eq h.wds ht rfl⟩
    clear h h' ht ht' hv hy0
    go_enter Try.func120, Try.ntmps120
    go_wp2_with fail
    have HC := Compare_calls A A' c c' xs ys _ H.out H'.out
    rw [hc] at HC
    refine HC.mono ?_
    rintro e w1 ⟨rfl, ⟨n, rfl⟩⟩
    go_wp2_with fail
    refine (Clone_calls A c xs _ (H.out.drewN _)).mono ?_
    rintro e w1 ⟨v, rfl, ho, hb⟩
    go_wp2
    go_ret2
    exact ⟨.slice none 0 0, v, rfl, by rw [HQ.out.1]; exact Ow.nil _ _ _, by rw [HQ.out.2]; exact ho, .inl rfl, below_of_drewN hb⟩
  · have hc : decide (cmp (val xs) (val ys) < 0) = false := by
      rcases Int.lt_or_eq_of_le (by omega : val ys ≤ val xs) with h1 | h1
      · rw [cmp_gt h1]; rfl
      · rw [cmp_eq h1.symm]; rfl
    have HLE : Hid (val ys ≤ val xs) := by show val ys ≤ val xs; omega
    by_cases h1 : ys.length = 1
    · have hb1 : ((ys.length : Int) == 1) = true := beq_iff_eq.2 (by omega)
      obtain ⟨ad', rfl, hy⟩ := h'.rd 0 hyp
      rw [add_zero'] at hy
      have hd0 : 0 < wd ys 0 := by
        have h2 := (Tr_iff ys).1 ht'
        rcases h2 with h2 | h2
        · exact absurd h2 hy0
        · rw [h1] at h2; have := (h'.wds.wd 0).1; simp at h2; omega
      have hd1 := (h'.wds.wd 0).2
      have HD : Hid (val ys = wd ys 0) := by
        match ys, h1 with
        | [y], _ => simp [Hid, val, wd]
      have H1 := Q.hid h1
      clear h h' ht ht' hv hy0 h1
      go_enter Try.func120, Try.ntmps120
      go_wp2_with fail
      refine (Compare_calls A (some ad') c c' xs ys _ H.out H'.out).mono ?_
      rintro e w1 ⟨rfl, ⟨n, rfl⟩⟩
      go_wp2_with fail
      go_region_with (first
        | (go_at_call 119
           refine (Clone_calls A c xs _ ?_).mono ?_
           exact ⟨H.out.rd, H.out.cap, H.out.small, H.out.wds⟩
           rintro e w2 ⟨v2, rfl, ho, hb⟩
           obtain ⟨A2, c2, e2, i2⟩ := ho.inn H.out.wds H.out.small
           subst e2
           have HO2 : Hid (Ow w2 62 w.heap.size (.slice A2 xs.length c2) xs) := ho
           have HI2 := Q.hid i2
           have HB2 : Hid (Below w.heap.size w w2) := ⟨hb.os, hb.tape, hb.output, hb.size, hb.block⟩
           have hy2 : w2.cell? ad' = some (.int .u32 (wd ys 0)) := (HB2.out.cell (World.block_lt_of_cell? w _ hy)).trans hy
           clear ho hb i2)
        | (go_at_call 125
           refine (small_calls _ _ w.heap.size xs (wd ys 0) _ ?_ ?_ hd0 hd1).mono ?_
           exact HO2.out
           exact HI2.out
           rintro e w3 ⟨v3, rfl, ho, hob, hg⟩
           have HO3 := Q.hid ho
           have HG3 := Q.hid hg
           clear ho hob hg))
      all_goals
        have m0 : 0 ≤ val xs % wd ys 0 := Int.emod_nonneg _ (by omega)
        have m1 : val xs % wd ys 0 < wd ys 0 := Int.emod_lt_of_pos _ hd0
        go_wp2_with fail
        refine (Of_calls (val xs % wd ys 0) _ m0 (by omega)).mono ?_
        rintro e w4 ⟨v4, rfl, ho, hb⟩
        have HB4 := Q.hid hb
        have HO4 := Q.hid ho
        clear ho hb
        go_wp2
        go_ret2
        have hB3 : Below w.heap.size w w3 := below_grown HB2.out HG3.out (fun j hj => (HO2.out.base j hj).1)
        refine ⟨v3, v4, rfl, by rw [HD.out]; exact HO3.out.below HB4.out, ?_, ?_, bs2 hB3 HB4.out⟩
        · rw [HD.out, nwd_eq (of64_wds m0 (by omega)) (of64_tr _) (of64_val _)]
          exact HO4.out.mono hB3.size
        · cases hv3 : v3.ownBlock with
          | none => exact .inl hv3
          | some k =>
            refine .inr fun he => ?_
            have h1 := (HO3.out.base k hv3).2
            have h2 := (HO4.out.base k (by rw [← he]; exact hv3)).1
            omega
    · have hb1 : ((ys.length : Int) == 1) = false := beq_eq_false_iff_ne.2 (by omega)
      have hN : 2 ≤ ys.length := by omega
      have hi : ((ys.length : Int) - 1).toNat = ys.length - 1 := by omega
      obtain ⟨ad', rfl, hy⟩ := h'.rd (ys.length - 1) (by omega)
      have hd1 := (h'.wds.wd (ys.length - 1)).2
      have hd0 : 0 < wd ys (ys.length - 1) := by
        have h2 := (Tr_iff ys).1 ht'
        rcases h2 with h2 | h2
        · exact absurd h2 hy0
        · have := (h'.wds.wd (ys.length - 1)).1; omega
      obtain ⟨s, hs, hs32, hg0, hg1⟩ := lead _ hd0 hd1
      have hly : ys.length ≤ xs.length := by
        apply Nat.le_of_not_lt
        intro hlt
        have h2 := val_lt_of_len h.wds h'.wds ht' hlt
        omega
      clear h h' ht ht' hv hy0 h1
      go_enter Try.func120, Try.ntmps120
      go_wp2_with fail
      refine (Compare_calls A (some ad') c c' xs ys _ H.out H'.out).mono ?_
      rintro e w1 ⟨rfl, ⟨n, rfl⟩⟩
      go_wp2_with fail
      refine (Try.bits_LeadingZeros32 (wd ys (ys.length - 1)) _ (by omega) (by omega)).mono ?_
      rintro e w1 ⟨rfl, rfl⟩
      rw [hs]
      go_wp2_with fail
      refine (up_any (some ad') c' s ys _ (H'.out.drewN _) hs32 (by omega)).mono ?_
      rintro e w2 ⟨g1, zs1, rfl, hgw1, ho1, hw1, hl1, hv1, ht1, hb1⟩
      have HB1 : Hid (Below w.heap.size w w2) := below_of_drewN hb1
      have HI1 : Hid (In w2 (some ⟨g1, 0, none⟩) (ys.length + 1) zs1) := ⟨ho1.read.2.2.2, by omega, by omega, hw1⟩
      have HG : Hid ((trim zs1).length = ys.length ∧ 2147483648 ≤ wd (trim zs1) (ys.length - 1)) := great_of rfl hyp H'.out.wds hs32 hg0 hg1 hw1.trim (Tr_trim _) (by rw [val_trim, hv1])
      have HVV : Hid (val (trim zs1) = val ys * 2 ^ s) := by show val (trim zs1) = _; rw [val_trim, hv1]
      have HV1 : Hid (In w2 (some ⟨g1, 0, none⟩) (ys.length + 1) (trim zs1)) := HI1.out.trim
      have HG1 : Hid (w.heap.size ≤ g1 ∧ g1 < w2.heap.size) := ⟨hgw1, (ho1.base g1 rfl).2⟩
      have HL1 := Q.hid hl1
      clear hb1 ho1 hw1 hl1 hv1 ht1 hgw1
      go_wp2_with fail
      have HC := cut_calls (some ⟨g1, 0, none⟩) (ys.length + 1) zs1 _ HI1.out
      rw [HL1.out] at HC
      refine HC.mono ?_
      rintro e w3 ⟨rfl, rfl⟩
      rw [HG.out.1]
      obtain ⟨vs, hvs⟩ : ∃ vs, vs = trim zs1 := ⟨_, rfl⟩
      rw [← hvs] at HG HVV HV1
      clear HI1 HL1 hvs HC
      go_wp2_with fail
      refine (up_any A c s xs _ (H.out.below HB1.out) hs32 hl).mono ?_
      rintro e w3 ⟨g2, us0, rfl, hgw2, ho2, hw2, hl2, hv2, ht2, hb2⟩
      have HB2 := Q.hid hb2
      have HO2 := Q.hid ho2
      have HV2 : Hid (In w3 (some ⟨g1, 0, none⟩) (ys.length + 1) vs) := HV1.out.below hb2
      have HG2 : Hid (w2.heap.size ≤ g2 ∧ g2 < w3.heap.size) := ⟨hgw2, (ho2.base g2 rfl).2⟩
      obtain ⟨L, hL⟩ : ∃ L : Nat, xs.length + 1 = L + ys.length := ⟨xs.length + 1 - ys.length, by omega⟩
      have hLi : (xs.length : Int) + 1 - (ys.length : Int) = (L : Int) := by omega
      have hp2 : (2 : Int) ^ s ≤ 2147483648 := (up_parts hs32 (Int.le_of_lt hd0) hd1).2.2.2.2.1
      have HS : Hid (DvV (val us0) vs (xs.length + 1) ys.length L us0 (List.replicate L 0) L) := DvV.start HG.out.1 HV2.out.wds hyp HG.out.2 hL hl2 hw2 (by rw [Nat.add_sub_cancel]; omega)
      have HU0 : Hid (val us0 = val xs * 2 ^ s) := hv2
      have HL := Q.hid hL
      have hL1 : L ≤ 1000001 := by omega
      clear ho2 hw2 hl2 hv2 ht2 hb2 hgw2 HV1 hL
      go_wp2_with (at_make; refine wp_mk rfl (.tmp 55) (.tmp 55) 30 62 rfl (.int .u32 0) 4 Try.underlying30 infoW rfl _ _ L rfl rfl (by omega) (by omega) (by omega) (by simp only [maxLen]; omega) ?_)
      have HQ3 : Hid (Ow (w3.alloc (.cells (reps L (.int .u32 0)) 62)) 62 w3.heap.size (.slice (some ⟨w3.heap.size, 0, none⟩) L L) (List.replicate L 0)) := Ow.made w3 _ _ _ (Nat.le_refl _) (by simp only [maxLen]; omega)
      have HU3 : Hid (Ow (w3.alloc (.cells (reps L (.int .u32 0)) 62)) 62 w2.heap.size (.slice (some ⟨g2, 0, none⟩) (xs.length + 1) (xs.length + 1)) us0) := HO2.out.below ((Below.refl _ _).alloc (Nat.le_refl _) _)
      have HV3 : Hid (In (w3.alloc (.cells (reps L (.int .u32 0)) 62)) (some ⟨g1, 0, none⟩) (ys.length + 1) vs) := HV2.out.alloc _
      have HB3 : Hid (Below w.heap.size w (w3.alloc (.cells (reps L (.int .u32 0)) 62))) := (bs2 HB1.out HB2.out).alloc (by have := HB1.out.size; have := HB2.out.size; omega) _
      obtain ⟨g3, hg3⟩ : ∃ g3, g3 = w3.heap.size := ⟨_, rfl⟩
      rw [← hg3] at HQ3 HG2 ⊢
      generalize w3.alloc (.cells (reps L (.int .u32 0)) 62) = w4 at *
      have HG3 : Hid (g1 < g2 ∧ g2 < g3) := ⟨by have := HG1.out; have := HG2.out; omega, HG2.out.2⟩
      have HG0 : Hid (w.heap.size ≤ g1) := HG1.out.1
      clear HO2 HV2 HB1 HB2 hg3 HG2 hLi hy
      go_loopw [11] (fun i wr => ∃ (k : Nat) (us qs : List Int), k ≤ L ∧ i = .int .i64 ((k : Int) - 1) ∧ Hid (DvV (val us0) vs (xs.length + 1) ys.length L us qs k) ∧ Hid (Ow wr 62 w.heap.size (.slice (some ⟨g3, 0, none⟩) L L) qs) ∧ Hid (Ow wr 62 w.heap.size (.slice (some ⟨g2, 0, none⟩) (xs.length + 1) (xs.length + 1)) us) ∧ Hid (In wr (some ⟨g1, 0, none⟩) (ys.length + 1) vs) ∧ Hid (Below w.heap.size w wr)) (fun i _ => (intOf i + 1).toNat)
      case atStart => exact ⟨L, us0, _, by omega, rfl, HS, HQ3.out.mono (by have := HG0.out; have := HG3.out; omega), HU3.out.mono (by have := HG1.out; omega), HV3, HB3⟩
      case round =>
        clear HS HQ3 HU3 HV3 HB3
        obtain ⟨k, us, qs, hk, rfl, HS, HQ, HU, HV, HB⟩ := hrel
        by_cases hk0 : 0 < k
        · obtain ⟨j, rfl⟩ : ∃ j, k = j + 1 := ⟨k - 1, by omega⟩
          have hj : j < L := by omega
          have hkj : ((j + 1 : Nat) : Int) - 1 = (j : Int) := by omega
          have hjb : j + ys.length + 1 ≤ xs.length + 1 := by have := HL.out; omega
          have hsl : j + ys.length + 1 - j = ys.length + 1 := by omega
          obtain ⟨hd, hse, hsz⟩ := HS.out.seg hj HG.out.1 HV.out.wds hN HG.out.2
          have hvl : vs.length = ys.length := HG.out.1
          have hul := hd.ul
          have hpre : (us.take j).length = j := by rw [List.length_take, HS.out.ul]; omega
          have hus : us = us.take j ++ seg us j ys.length ++ us.drop (j + ys.length + 1) := by
            unfold seg
            rw [List.append_assoc, show j + ys.length + 1 = j + (ys.length + 1) by omega, ← List.drop_drop, List.take_append_drop, List.take_append_drop]
          have HI : Hid (In wr (some ⟨g2, j, none⟩) (xs.length + 1 - j) (seg us j ys.length)) := ⟨HU.out.seg j _, by rw [hul]; omega, by rw [hul]; omega, hd.uw⟩
          have HU' : Hid (Ow wr 62 w.heap.size (.slice (some ⟨g2, 0, none⟩) (xs.length + 1) (xs.length + 1)) (us.take j ++ seg us j ys.length ++ us.drop (j + ys.length + 1))) := by rw [← hus]; exact HU.out
          have HVL := Q.hid hvl
          have HUL := Q.hid hul
          have HPR := Q.hid hpre
          have HD : Hid (Dv (seg us j ys.length) vs vs.length) := by rw [hvl]; exact hd
          have HD2 : Hid (Dv (seg us j ys.length) vs ys.length) := hd
          clear hd hse hsz hvl hul hpre hus HU
          rw [hkj]
          go_wp2_with fail
          rw [hsl]
          have HC := guess_calls (some ⟨g2, j, none⟩) (some ⟨g1, 0, none⟩) (xs.length + 1 - j) (ys.length + 1) (seg us j ys.length) vs wr HI.out HV.out HD.out
          rw [HUL.out, HVL.out] at HC
          refine HC.mono ?_
          rintro e w5 ⟨x, rfl, hx0, hx1, hx2, hx3, ⟨n5, rfl⟩⟩
          have HX := Q.hid (And.intro hx2 hx3)
          clear hx2 hx3 HC HI
          go_wp2_with fail
          have HC := off_calls (some ⟨g1, 0, none⟩) w.heap.size g2 (xs.length + 1) (xs.length + 1) (xs.length + 1 - j) (ys.length + 1) (us.take j) (seg us j ys.length) (us.drop (j + ys.length + 1)) vs x (wr.drewN n5) (HU'.out.drewN _) HD.out.uw (by rw [HUL.out]; omega) (HV.out.drewN _) (fun ad e => by cases e; have := HG3.out; exact Nat.ne_of_lt this.1) hx0 hx1
          rw [HUL.out, HVL.out, HPR.out] at HC
          refine HC.mono ?_
          rintro e w5 ⟨zs, cr, b, rfl, ho, hu, hg⟩
          have HGR : Hid (wr.grownBy w5 (some g2)) := grown_of_drewN hg
          have HUN := Q.hid hu
          have HOF : Hid ((x = val (seg us j ys.length) / val vs ∧ b = 0 ∧ val zs = val (seg us j ys.length) % val vs) ∨ (x = val (seg us j ys.length) / val vs + 1 ∧ b = 1 ∧ val zs = val (seg us j ys.length) % val vs - val vs + Bp (ys.length + 1))) := ho.fin HD2.out HX.out.1 HX.out.2
          have HZ : Hid (Wds zs ∧ zs.length = ys.length + 1) := ⟨ho.wds, ho.len.trans HUL.out⟩
          have HQ2 : Hid (val (seg us j ys.length) / val vs < 4294967296 ∧ 0 ≤ val (seg us j ys.length) / val vs) := ⟨HD2.out.qlt.2, HD2.out.qlt.1⟩
          clear ho hu hg HC HU'
          have HB5 : Hid (Below w.heap.size w w5) := below_grown HB.out HGR.out (fun i hi => by cases hi; have := HG0.out; have := HG3.out; omega)
          have HV5 : Hid (In w5 (some ⟨g1, 0, none⟩) (ys.length + 1) vs) := ⟨HV.out.rd.grown HGR.out (fun ad e => by cases e; exact fun h => absurd (Option.some.inj h) (Nat.ne_of_lt HG3.out.1)), HV.out.cap, HV.out.small, HV.out.wds⟩
          have HQ5 : Hid (Ow w5 62 w.heap.size (.slice (some ⟨g3, 0, none⟩) L L) qs) := HQ.out.grown HGR.out (.inr (fun h => absurd (Option.some.inj h) (Nat.ne_of_gt HG3.out.2)))
          clear HB HV HQ HGR
          rcases HOF.out with ⟨hxe, hbe, hze⟩ | ⟨hxe, hbe, hze⟩
          · subst hbe
            have HZE := Q.hid hze
            have HXE := Q.hid hxe
            clear hze hxe HOF
            have hqc := HQ5.out.cell (i := j) (by rw [HS.out.ql]; exact hj)
            have hqf := HQ5.out.free j
            have hxm : x % 4294967296 = x := by omega
            rw [show ((0 : Int) != 0) = false from rfl]
            have HS2 : Hid (DvV (val us0) vs (xs.length + 1) ys.length L (us.take j ++ zs ++ us.drop (j + ys.length + 1)) (qs.set j x) j) := by
              rw [HXE.out]
              exact HS.out.step hj HVL.out HV5.out.wds hN HG.out.2 HZ.out.2 HZ.out.1 HZE.out
            have HQ6 : Hid (Ow (w5.setCell ⟨g3, j, none⟩ (.int .u32 x)) 62 w.heap.size (.slice (some ⟨g3, 0, none⟩) L L) (qs.set j x)) := HQ5.out.store (by rw [HS.out.ql]; exact hj) _
            have HU6 : Hid (Ow (w5.setCell ⟨g3, j, none⟩ (.int .u32 x)) 62 w.heap.size (.slice (some ⟨g2, 0, none⟩) (xs.length + 1) (xs.length + 1)) (us.take j ++ zs ++ us.drop (j + ys.length + 1))) := HUN.out.far (fun h => absurd (Option.some.inj h) (Nat.ne_of_lt HG3.out.2)) _ _
            have HV6 : Hid (In (w5.setCell ⟨g3, j, none⟩ (.int .u32 x)) (some ⟨g1, 0, none⟩) (ys.length + 1) vs) := ⟨HV5.out.rd.grown (grown_set _) (fun ad e => by cases e; exact fun h => absurd (Option.some.inj h) (Nat.ne_of_lt (Nat.lt_trans HG3.out.1 HG3.out.2))), HV5.out.cap, HV5.out.small, HV5.out.wds⟩
            have HB6 : Hid (Below w.heap.size w (w5.setCell ⟨g3, j, none⟩ (.int .u32 x))) := HB5.out.setCell (show w.heap.size ≤ g3 by have := HG0.out; have := HG3.out; omega) _
            clear HS HQ5 HUN HV5 HB5
            go_wp2
            go_roundw
            case rel => exact ⟨j, _, _, by omega, rfl, HS2, HQ6, HU6, HV6, HB6⟩
            case measure => simp [intOf]
          · subst hbe
            have hqq := HQ2.out
            generalize hqv : val (seg us j ys.length) / val vs = qv at hxe hqq
            have hq1 : qv < 4294967296 := hqq.1
            have hq0 : 0 ≤ qv := hqq.2
            have HQV := Q.hid hqv
            subst hxe
            rw [show ((1 : Int) != 0) = true from rfl]
            have HZE1 := Q.hid hze
            clear hze HOF hqq hqv
            go_wp2_with fail
            have HC := back_calls (some ⟨g1, 0, none⟩) w.heap.size g2 (xs.length + 1) (xs.length + 1) (xs.length + 1 - j) (ys.length + 1) (us.take j) zs (us.drop (j + ys.length + 1)) vs w5 HUN.out HZ.out.1 (by rw [HZ.out.2]; omega) HV5.out (fun ad e => by cases e; exact Nat.ne_of_lt HG3.out.1)
            rw [HZ.out.2, HVL.out, HPR.out] at HC
            refine HC.mono ?_
            rintro e w6 ⟨zs2, cr2, rfl, ho, hu, hg⟩
            have HZE : Hid (val zs2 = val (seg us j ys.length) % val vs) := ho.fin HD2.out HZ.out.2 HZE1.out
            have HZ2 : Hid (Wds zs2 ∧ zs2.length = ys.length + 1) := ⟨ho.wds, ho.len.trans HZ.out.2⟩
            have HB7 : Hid (Below w.heap.size w w6) := below_grown HB5.out hg (fun i hi => by cases hi; have := HG0.out; have := HG3.out; omega)
            have HV7 : Hid (In w6 (some ⟨g1, 0, none⟩) (ys.length + 1) vs) := ⟨HV5.out.rd.grown hg (fun ad e => by cases e; exact fun h => absurd (Option.some.inj h) (Nat.ne_of_lt HG3.out.1)), HV5.out.cap, HV5.out.small, HV5.out.wds⟩
            have HQ7 : Hid (Ow w6 62 w.heap.size (.slice (some ⟨g3, 0, none⟩) L L) qs) := HQ5.out.grown hg (.inr (fun h => absurd (Option.some.inj h) (Nat.ne_of_gt HG3.out.2)))
            have HU7 := Q.hid hu
            clear ho hu hg HC HB5 HV5 HQ5 HUN HZ HZE1
            have hqc := HQ7.out.cell (i := j) (by rw [HS.out.ql]; exact hj)
            have hqf := HQ7.out.free j
            have HS2 : Hid (DvV (val us0) vs (xs.length + 1) ys.length L (us.take j ++ zs2 ++ us.drop (j + ys.length + 1)) (qs.set j qv) j) := by
              rw [← HQV.out]
              exact HS.out.step hj HVL.out HV7.out.wds hN HG.out.2 HZ2.out.2 HZ2.out.1 HZE.out
            have HQ6 : Hid (Ow (w6.setCell ⟨g3, j, none⟩ (.int .u32 qv)) 62 w.heap.size (.slice (some ⟨g3, 0, none⟩) L L) (qs.set j qv)) := HQ7.out.store (by rw [HS.out.ql]; exact hj) _
            have HU6 : Hid (Ow (w6.setCell ⟨g3, j, none⟩ (.int .u32 qv)) 62 w.heap.size (.slice (some ⟨g2, 0, none⟩) (xs.length + 1) (xs.length + 1)) (us.take j ++ zs2 ++ us.drop (j + ys.length + 1))) := HU7.out.far (fun h => absurd (Option.some.inj h) (Nat.ne_of_lt HG3.out.2)) _ _
            have HV6 : Hid (In (w6.setCell ⟨g3, j, none⟩ (.int .u32 qv)) (some ⟨g1, 0, none⟩) (ys.length + 1) vs) := ⟨HV7.out.rd.grown (grown_set _) (fun ad e => by cases e; exact fun h => absurd (Option.some.inj h) (Nat.ne_of_lt (Nat.lt_trans HG3.out.1 HG3.out.2))), HV7.out.cap, HV7.out.small, HV7.out.wds⟩
            have HB6 : Hid (Below w.heap.size w (w6.setCell ⟨g3, j, none⟩ (.int .u32 qv))) := HB7.out.setCell (show w.heap.size ≤ g3 by have := HG0.out; have := HG3.out; omega) _
            clear HS HQ7 HU7 HV7 HB7
            go_wp2
            go_roundw
            case rel => exact ⟨j, _, _, by omega, rfl, HS2, HQ6, HU6, HV6, HB6⟩
            case measure => simp [intOf]
        · obtain rfl : k = 0 := by omega
          have h0k : ((0 : Nat) : Int) - 1 = -1 := rfl
          rw [h0k]
          have hF := HS.out.fin HG.out.1 HV.out.wds
          rw [HU0.out, HVV.out, (shifted_quo (val xs) (val ys) s).1] at hF
          have HQT : Hid (trim qs = nwd (val xs / val ys)) := nwd_trim HS.out.qw hF.1
          have htl : (us.take ys.length).length = ys.length := by rw [List.length_take, HS.out.ul]; omega
          have HTL := Q.hid htl
          have HQL : Hid (qs.length = L) := HS.out.ql
          have HR : Hid (val (trim (us.take ys.length)) / 2 ^ s = val xs % val ys) := by
            show val (trim (us.take ys.length)) / 2 ^ s = val xs % val ys
            rw [val_trim, hF.2.1]; exact (shifted_quo (val xs) (val ys) s).2
          have HOQ : Hid (Ow wr 62 w.heap.size (.slice (some ⟨g3, 0, none⟩) (trim qs).length L) (nwd (val xs / val ys))) := by rw [← HQT.out]; exact HQ.out.trim
          have HIQ : Hid (In wr (some ⟨g3, 0, none⟩) L qs) := ⟨HQ.out.read.2.2.2, by rw [HQL.out]; exact Nat.le_refl _, by rw [HQL.out]; omega, HS.out.qw⟩
          have HIU : Hid (In wr (some ⟨g2, 0, none⟩) (xs.length + 1) (us.take ys.length)) := ⟨HU.out.read.2.2.2.take _, by rw [htl]; omega, by rw [htl]; omega, HS.out.uw.take _⟩
          have HOU : Hid (Ow wr 62 w.heap.size (.slice (some ⟨g2, 0, none⟩) (trim (us.take ys.length)).length (xs.length + 1)) (trim (us.take ys.length))) := (HU.out.cut (m := ys.length) (by rw [HS.out.ul]; omega)).trim
          have hqt : (trim qs).length ≤ L := by rw [len_trim, ← HS.out.ql]; exact tl_le _
          have hut : (trim (us.take ys.length)).length ≤ ys.length := by rw [len_trim]; have := tl_le (us.take ys.length); omega
          clear hF htl HS HQ HU
          go_wp2_with fail
          go_region_with (first
            | (go_at_call_of 122 g3
               have HC := fun w' h => cut_calls (some ⟨g3, 0, none⟩) L qs w' h
               rw [HQL.out] at HC
               refine (HC _ ?_).mono ?_
               exact ⟨HIQ.out.rd, HIQ.out.cap, HIQ.out.small, HIQ.out.wds⟩
               rintro e w6 ⟨rfl, rfl⟩)
            | (go_at_call_of 122 g2
               have HC := fun w' h => cut_calls (some ⟨g2, 0, none⟩) (xs.length + 1) (us.take ys.length) w' h
               rw [HTL.out] at HC
               refine (HC _ ?_).mono ?_
               exact ⟨HIU.out.rd, HIU.out.cap, HIU.out.small, HIU.out.wds⟩
               rintro e w6 ⟨rfl, rfl⟩)
            | (go_at_call 131
               refine (down_calls (some ⟨g2, 0, none⟩) (xs.length + 1) w.heap.size s (trim (us.take ys.length)) _ ?_ ?_ hs32).mono ?_
               exact HOU.out
               exact ⟨HIU.out.trim.rd, HIU.out.trim.cap, HIU.out.trim.small, HIU.out.trim.wds⟩
               rintro e w7 ⟨v7, rfl, ho, hob, hg⟩
               have HO7 := Q.hid ho
               have HOB7 := Q.hid hob
               have HG7 : Hid (wr.grownBy w7 (some g2)) := ⟨hg.os, hg.tape, hg.output, hg.size, hg.block⟩
               clear ho hob hg))
          all_goals
            go_wp2
            go_ret2
            have hO7 := HO7.out
            rw [HR.out] at hO7
            refine ⟨.slice (some ⟨g3, 0, none⟩) (trim qs).length L, v7, rfl, HOQ.out.grown HG7.out (.inr (fun h => absurd (Option.some.inj h) (Nat.ne_of_gt HG3.out.2))), hO7, .inr fun h => ?_, below_grown HB.out HG7.out (fun i hi => by cases hi; have := HG0.out; have := HG3.out; omega)⟩
            rw [HOB7.out] at h
            exact absurd (Option.some.inj h) (Nat.ne_of_gt HG3.out.2)
end Go.Proofs.Ytgjmlbcpjjpegaa
/- Package nat: DivMod, Gcd; what each call does. -/
set_option linter.unusedVariables false
set_option linter.unusedSimpArgs false
namespace Go.Proofs.Ytgjmlbcpjjpegaa
open Go Go.RowKit Q

set_option maxHeartbeats 1000000 in
theorem DivMod_calls (A A' : Option Addr) (c c' : Nat) (xs ys : List Int) (w : World) (h : In w A c xs) (h' : In w A' c' ys) :
    Calls Try.prog 103 #[.slice A xs.length c, .slice A' ys.length c'] w fun e w' => ∃ u v, e = .returned (.tuple #[u, v, .int .i64 (divS xs ys).2.2]) ∧ Ow w' 62 w.heap.size u (divS xs ys).1 ∧ Ow w' 62 w.heap.size v (divS xs ys).2.1 ∧ Apart2 u v ∧ Below w.heap.size w w' := by
  have H := Q.hid h
  have H' := Q.hid h'
  clear h h'
  by_cases h0 : chk2 xs ys = 0
  · have hb : (chk2 xs ys != 0) = false := by simp [h0]
    have HC2 := Q.hid (chk2_zero h0)
    by_cases hy : ys = []
    · have HF : Hid (divS xs ys = ([], [], 7)) := by unfold divS; rw [if_pos h0, if_pos hy]; rfl
      have hl : ((ys.length : Int) == 0) = true := beq_iff_eq.2 (by rw [hy]; rfl)
      clear h0 hy
      go_enter Try.func103, Try.ntmps103
      go_wp2_with fail
      refine (checked_calls A A' c c' xs ys _ H.out H'.out).mono ?_
      rintro e w1 ⟨rfl, rfl⟩
      go_wp2
      go_ret3
      exact ⟨.slice none 0 0, .slice none 0 0, by rw [HF.out]; rfl, by rw [HF.out]; exact Ow.nil _ _ _, by rw [HF.out]; exact Ow.nil _ _ _, .inl rfl, Below.refl _ _⟩
    · have HF : Hid (divS xs ys = (nwd (val xs / val ys), nwd (val xs % val ys), 0)) := by unfold divS; rw [if_pos h0, if_neg hy]; rfl
      have hp := List.length_pos_iff.2 hy
      have hl : ((ys.length : Int) == 0) = false := beq_eq_false_iff_ne.2 (by omega)
      have HY := Q.hid hy
      have hxl : xs.length ≤ 1000000 := by have := HC2.out; omega
      clear h0 hy
      go_enter Try.func103, Try.ntmps103
      go_wp2_with fail
      refine (checked_calls A A' c c' xs ys _ H.out H'.out).mono ?_
      rintro e w1 ⟨rfl, rfl⟩
      go_wp2_with fail
      refine (divide_calls A A' c c' xs ys _ H.out H'.out HC2.out.2.1 HC2.out.2.2.2 hxl HY.out).mono ?_
      rintro e w1 ⟨u, v, rfl, hu, hv, ha, hb⟩
      go_wp2
      go_ret3
      exact ⟨u, v, by rw [HF.out]; rfl, by rw [HF.out]; exact hu, by rw [HF.out]; exact hv, ha, hb⟩
  · have hb : (chk2 xs ys != 0) = true := by simp [h0]
    have HF : Hid (divS xs ys = ([], [], chk2 xs ys)) := if_neg h0
    clear h0
    go_enter Try.func103, Try.ntmps103
    go_wp2_with fail
    refine (checked_calls A A' c c' xs ys _ H.out H'.out).mono ?_
    rintro e w1 ⟨rfl, rfl⟩
    go_wp2
    go_ret3
    exact ⟨.slice none 0 0, .slice none 0 0, by rw [HF.out]; rfl, by rw [HF.out]; exact Ow.nil _ _ _, by rw [HF.out]; exact Ow.nil _ _ _, .inl rfl, Below.refl _ _⟩

/-- the words of a row, as the world has them -/
def rdw (v : Value) (w : World) : List Int :=
  match v with
  | .slice (some ad) n _ => (List.range n).map fun i => match w.cell? (ad.add i) with | some (.int _ x) => x | _ => 0
  | _ => []
theorem rdw_eq {w : World} {A : Option Addr} {xs : List Int} (c : Nat) (h : Rd w A xs) : rdw (.slice A xs.length c) w = xs := by
  cases A with
  | none =>
    match xs, h with
    | [], _ => rfl
    | x :: xs, h => obtain ⟨ad, e, _⟩ := h 0 (by simp); cases e
  | some ad =>
    unfold rdw
    apply List.ext_getElem (by simp)
    intro i h1 h2
    obtain ⟨ad2, e, hc⟩ := h i h2
    cases e
    simp [hc, wd_lt h2]
/-- what a common divisor is sought of, as it goes on -/
structure GcSt (w wr : World) (G : Int) (A1 A2 : Option Addr) (c1 c2 : Nat) (us vs : List Int) : Prop where
  o1 : Ow wr 62 w.heap.size (.slice A1 us.length c1) us
  o2 : Ow wr 62 w.heap.size (.slice A2 vs.length c2) vs
  w1 : Wds us
  w2 : Wds vs
  t1 : Tr us
  t2 : Tr vs
  l1 : us.length ≤ 8192
  l2 : vs.length ≤ 8192
  gc : gc (val us) (val vs) = G
  below : Below w.heap.size w wr
theorem GcSt.i1 {w wr : World} {G : Int} {A1 A2 : Option Addr} {c1 c2 : Nat} {us vs : List Int} (h : GcSt w wr G A1 A2 c1 c2 us vs) : In wr A1 c1 us := ⟨h.o1.read.2.2.2, h.o1.read.2.1, by have := h.l1; omega, h.w1⟩
theorem GcSt.i2 {w wr : World} {G : Int} {A1 A2 : Option Addr} {c1 c2 : Nat} {us vs : List Int} (h : GcSt w wr G A1 A2 c1 c2 us vs) : In wr A2 c2 vs := ⟨h.o2.read.2.2.2, h.o2.read.2.1, by have := h.l2; omega, h.w2⟩
theorem GcSt.step {w wr w' : World} {G : Int} {A1 A2 A3 : Option Addr} {c1 c2 c3 : Nat} {us vs : List Int} (h : GcSt w wr G A1 A2 c1 c2 us vs) (hn : vs ≠ []) (ho : Ow w' 62 wr.heap.size (.slice A3 (nwd (val us % val vs)).length c3) (nwd (val us % val vs))) (hb : Below wr.heap.size wr w') :
    GcSt w w' G A2 A3 c2 c3 vs (nwd (val us % val vs)) := by
  have hp := val_pos h.w2 h.t2 hn
  have m0 : 0 ≤ val us % val vs := Int.emod_nonneg _ (by omega)
  have m1 : val us % val vs < val vs := Int.emod_lt_of_pos _ hp
  refine ⟨h.o2.below hb, ho.mono h.below.size, h.w2, nwd_wds _, h.t2, nwd_tr _, h.l2, Nat.le_trans (nwd_len_of h.w2 m0 (by omega)) h.l2, ?_, bs2 h.below hb⟩
  rw [val_nwd m0, ← gc_step (val_nonneg h.w1) (by omega)]
  exact h.gc

set_option maxHeartbeats 2000000 in
set_option maxRecDepth 100000 in
theorem Gcd_calls (A A' : Option Addr) (c c' : Nat) (xs ys : List Int) (w : World) (h : In w A c xs) (h' : In w A' c' ys) :
    Calls Try.prog 102 #[.slice A xs.length c, .slice A' ys.length c'] w fun e w' => ∃ v, e = .returned (.tuple #[v, .int .i64 (gcdS xs ys).2]) ∧ Ow w' 62 w.heap.size v (gcdS xs ys).1 ∧ Below w.heap.size w w' := by
  have H := Q.hid h
  have H' := Q.hid h'
  clear h h'
  by_cases h0 : chk2 xs ys = 0
  · have hb : (chk2 xs ys != 0) = false := by simp [h0]
    have HC2 := Q.hid (chk2_zero h0)
    have HF : Hid (gcdS xs ys = (nwd (gc (val xs) (val ys)), 0)) := by unfold gcdS; rw [if_pos h0]; rfl
    clear h0
    go_enter Try.func102, Try.ntmps102
    go_wp2_with fail
    refine (checked_calls A A' c c' xs ys _ H.out H'.out).mono ?_
    rintro e w1 ⟨rfl, rfl⟩
    go_wp2_with fail
    refine (Clone_calls A c xs _ H.out).mono ?_
    rintro e w1 ⟨v1, rfl, ho, hb1⟩
    obtain ⟨A1, c1, e1, i1⟩ := ho.inn H.out.wds H.out.small
    subst e1
    have HB1 := Q.hid hb1
    have HO1 := Q.hid ho
    clear ho hb1 i1
    go_wp2_with fail
    refine (Clone_calls A' c' ys _ (H'.out.below HB1.out)).mono ?_
    rintro e w2 ⟨v2, rfl, ho, hb2⟩
    obtain ⟨A2, c2, e2, i2⟩ := ho.inn H'.out.wds H'.out.small
    subst e2
    have HS : Hid (GcSt w w2 (gc (val xs) (val ys)) A1 A2 c1 c2 xs ys) :=
      ⟨HO1.out.below hb2, ho.mono HB1.out.size, H.out.wds, H'.out.wds, HC2.out.2.1, HC2.out.2.2.2, HC2.out.1, HC2.out.2.2.1, rfl, bs2 HB1.out hb2⟩
    clear ho hb2 i2 HO1 HB1
    go_wp2
    go_loopw [7, 8] (fun xv yv wr => ∃ (B1 B2 : Option Addr) (d1 d2 : Nat) (us vs : List Int), xv = .slice B1 us.length d1 ∧ yv = .slice B2 vs.length d2 ∧ Hid (GcSt w wr (gc (val xs) (val ys)) B1 B2 d1 d2 us vs)) (fun _ yv wr => (val (rdw yv wr)).toNat)
    case atStart => exact ⟨A1, A2, c1, c2, xs, ys, rfl, rfl, HS⟩
    case round =>
      clear HS
      obtain ⟨B1, B2, d1, d2, us, vs, rfl, rfl, HS⟩ := hrel
      have hl1 : us.length ≤ 8192 := HS.out.l1
      have hl2 : vs.length ≤ 8192 := HS.out.l2
      by_cases h2 : 2 < vs.length
      · have HNE : Hid (vs ≠ []) := List.length_pos_iff.1 (by omega)
        go_wp2_with fail
        refine (divide_calls B1 B2 d1 d2 us vs _ HS.out.i1 HS.out.i2 HS.out.t1 HS.out.t2 (by omega) HNE.out).mono ?_
        rintro e w3 ⟨u3, v3, rfl, hu, hv, ha, hb⟩
        have hp := val_pos HS.out.w2 HS.out.t2 HNE.out
        have m0 : 0 ≤ val us % val vs := Int.emod_nonneg _ (by omega)
        have m1 : val us % val vs < val vs := Int.emod_lt_of_pos _ hp
        obtain ⟨A3, c3, e3, _⟩ := hv.slice
        subst e3
        have HS3 := Q.hid (HS.out.step HNE.out hv hb)
        have HM : Hid ((val (rdw (.slice A3 (nwd (val us % val vs)).length c3) w3)).toNat < (val (rdw (.slice B2 vs.length d2) wr)).toNat) := by
          show _ < _
          rw [rdw_eq c3 hv.read.2.2.2, rdw_eq d2 HS.out.i2.rd, val_nwd m0]
          omega
        clear hu hv ha hb hp m0 m1 HS
        go_wp2
        go_roundw
        case rel => exact ⟨B2, A3, d2, c3, _, _, rfl, rfl, HS3⟩
        case measure => exact HM.out
      · by_cases hv0 : vs.length = 0
        · have hb0 : ((vs.length : Int) == 0) = true := beq_iff_eq.2 (by omega)
          have HR : Hid (nwd (gc (val xs) (val ys)) = us) := by
            have e := HS.out.gc
            rw [List.eq_nil_of_length_eq_zero hv0] at e
            rw [← e, show val ([] : List Int) = 0 from rfl, gc_zero (val_nonneg HS.out.w1)]
            exact nwd_eq HS.out.w1 HS.out.t1 rfl
          have h2' : decide (2 < vs.length) = false := decide_eq_false h2
          clear hv0
          go_wp2
          go_ret2
          exact ⟨_, by rw [HF.out]; rfl, by rw [HF.out, HR.out]; exact HS.out.o1, HS.out.below⟩
        · have hb0 : ((vs.length : Int) == 0) = false := beq_eq_false_iff_ne.2 (by omega)
          have HNE : Hid (vs ≠ []) := List.length_pos_iff.1 (by omega)
          have h2' : decide (2 < vs.length) = false := decide_eq_false h2
          go_wp2_with fail
          refine (divide_calls B1 B2 d1 d2 us vs _ HS.out.i1 HS.out.i2 HS.out.t1 HS.out.t2 (by omega) HNE.out).mono ?_
          rintro e w3 ⟨u3, v3, rfl, hu, hv, ha, hb⟩
          obtain ⟨A3, c3, e3, _⟩ := hv.slice
          subst e3
          have HS3 := Q.hid (HS.out.step HNE.out hv hb)
          have hp := val_pos HS.out.w2 HS.out.t2 HNE.out
          have hr0 : 0 ≤ val us % val vs := Int.emod_nonneg _ (by omega)
          have hr1 : val us % val vs < val vs := Int.emod_lt_of_pos _ hp
          have hvlt : val vs < 18446744073709551616 := by
            have h1 := val_lt HS.out.w2
            have h3 := Bp_mono (show vs.length ≤ 2 by omega)
            have h4 : Bp 2 = 18446744073709551616 := by decide
            omega
          have HU1 : Hid (u64 vs = val vs) := by
            have hn : ¬ 2 < tl vs := by rw [show tl vs = vs.length from HS.out.t2]; omega
            unfold u64; rw [if_neg hn]; rfl
          have HU2 : Hid (u64 (nwd (val us % val vs)) = val us % val vs) := by
            have hn : ¬ 2 < tl (nwd (val us % val vs)) := by
              rw [show tl (nwd (val us % val vs)) = (nwd (val us % val vs)).length from nwd_tr _]
              have := nwd_len_of HS.out.w2 hr0 (by omega)
              omega
            unfold u64
            rw [if_neg hn, val_nwd hr0]; rfl
          have HG3 : Hid (gc (val vs) (val us % val vs) = gc (val xs) (val ys)) := by
            have := HS3.out.gc
            rwa [val_nwd hr0] at this
          clear hu hv ha hb hp HS hv0
          go_wp2_with fail
          refine (Uint64_calls B2 d2 vs _ HS3.out.i1).mono ?_
          rintro e w4 ⟨rfl, rfl⟩
          rw [HU1.out]
          go_wp2_with fail
          refine (Uint64_calls A3 c3 (nwd (val us % val vs)) _ HS3.out.i2).mono ?_
          rintro e w4 ⟨rfl, rfl⟩
          rw [HU2.out]
          obtain ⟨m0, hm0⟩ : ∃ m0 : Int, m0 = val vs := ⟨_, rfl⟩
          obtain ⟨n0, hn0⟩ : ∃ n0 : Int, n0 = val us % val vs := ⟨_, rfl⟩
          have HB3 := Q.hid HS3.out.below
          rw [← hn0, ← hm0] at HG3
          rw [← hn0] at hr0
          rw [← hn0, ← hm0] at hr1
          rw [← hm0] at hvlt
          rw [← hn0]
          rw [← hm0]
          clear hm0 hn0 HS3 HU1 HU2
          go_wp2
          go_loopw [13, 15] (fun mv nv wr => ∃ m n : Int, mv = .int .u64 m ∧ nv = .int .u64 n ∧ 0 ≤ m ∧ m < 18446744073709551616 ∧ 0 ≤ n ∧ n < 18446744073709551616 ∧ Hid (gc m n = gc (val xs) (val ys)) ∧ Hid (Dr w3 wr)) (fun _ nv _ => (intOf nv).toNat)
          case atStart => exact ⟨m0, n0, rfl, rfl, by omega, by omega, by omega, by omega, HG3, Dr.refl w3⟩
          case round =>
            clear HG3 hr0 hr1 hvlt
            obtain ⟨m, n, rfl, rfl, hm0, hm1, hn0, hn1, HG3, HD⟩ := hrel
            obtain ⟨k, rfl⟩ := HD.out
            by_cases hn : n = 0
            · have hbn : (n != 0) = false := by rw [hn]; rfl
              have HR : Hid (nwd (gc (val xs) (val ys)) = of64 m) := by
                have e := HG3.out
                rw [hn, gc_zero hm0] at e
                rw [← e]
                exact nwd_eq (of64_wds hm0 hm1) (of64_tr _) (of64_val _)
              clear hn HG3
              go_wp2_with fail
              refine (Of_calls m _ hm0 hm1).mono ?_
              rintro e w5 ⟨v5, rfl, ho, hb⟩
              go_wp2
              go_ret2
              refine ⟨v5, by rw [HF.out]; rfl, by rw [HF.out, HR.out]; exact ho.mono HB3.out.size, ?_⟩
              have hb5 : Below w3.heap.size w3 w5 := below_of_drewN hb
              exact bs2 HB3.out hb5
            · have hbn : (n != 0) = true := by simpa using hn
              have hmd : m.tmod n = m % n := tmod_of_nonneg hm0
              have q0 : 0 ≤ m % n := Int.emod_nonneg _ hn
              have q1 : m % n < n := Int.emod_lt_of_pos _ (by omega)
              have HG4 : Hid (gc n (m % n) = gc (val xs) (val ys)) := by
                have e := HG3.out
                rw [gc_step hm0 hn0] at e
                exact e
              clear HG3 HD
              go_wp2
              go_quiet (fail)
              go_wp2
              go_roundw
              case rel => exact ⟨n, m % n, rfl, rfl, hn0, hn1, q0, by omega, HG4, by first | exact ⟨_, rfl⟩ | exact Dr.step ⟨_, rfl⟩ _⟩
              case measure => simp [intOf]; omega
  · have hb : (chk2 xs ys != 0) = true := by simp [h0]
    have HF : Hid (gcdS xs ys = ([], chk2 xs ys)) := if_neg h0
    clear h0
    go_enter Try.func102, Try.ntmps102
    go_wp2_with fail
    refine (checked_calls A A' c c' xs ys _ H.out H'.out).mono ?_
    rintro e w1 ⟨rfl, rfl⟩
    go_wp2
    go_ret2
    exact ⟨_, by rw [HF.out]; rfl, by rw [HF.out]; exact Ow.nil _ _ _, Below.refl _ _⟩
end Go.Proofs.Ytgjmlbcpjjpegaa
