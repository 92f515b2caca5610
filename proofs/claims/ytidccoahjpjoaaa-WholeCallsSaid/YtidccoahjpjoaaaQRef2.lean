/- The reference of layer 1: numbers of 64 bits, comparing, bits; what each call does. -/
import Derived.Test.YtidccoahjpjoaaaQRef1
set_option linter.unusedVariables false
set_option linter.unusedSimpArgs false
namespace Go.Proofs.Ytidccoahjpjoaaa
open Go Go.RowKit Q

theorem val2 {xs : List Int} (h : xs.length ≤ 2) : val xs = wd xs 0 + 4294967296 * wd xs 1 := by
  match xs, h with
  | [], _ => rfl
  | [x], _ => simp [val, wd]
  | [x, y], _ => simp [val, wd]


set_option maxHeartbeats 400000 in
theorem rCompare_calls (A A' : Option Addr) (c c' : Nat) (xs ys : List Int) (w : World) (h : In w A c xs) (h' : In w A' c' ys) :
    Calls Try.prog 81 #[.slice A xs.length c, .slice A' ys.length c'] w fun e w' => e = .returned (.int .i64 (cmp (val xs) (val ys))) ∧ w = w' := by
  have R := Q.hid h.rd
  have R' := Q.hid h'.rd
  have WX := Q.hid h.wds
  have WY := Q.hid h'.wds
  have hm : xs.length ≤ 9223372036854775807 := by have := h.small; omega
  have hm' : ys.length ≤ 9223372036854775807 := by have := h'.small; omega
  clear h h'
  go_enter Try.func81, Try.ntmps81
  go_wp2
  go_loop [6, 7, 8] (fun i _ _ => ∃ k : Nat, (k : Int) ≤ 9223372036854775807 ∧ i = .int .i64 ((k : Int) - 1) ∧ Hid (∀ i, k ≤ i → wd xs i = wd ys i)) (fun i _ _ => (intOf i + 1).toNat)
  case atStart =>
    have hmx : ((max xs.length ys.length : Nat) : Int) = max (xs.length : Int) (ys.length : Int) := by omega
    exact ⟨max xs.length ys.length, by omega, by rw [hmx], (fun i hi => by rw [wd_ge (by omega), wd_ge (by omega)] : ∀ i, max xs.length ys.length ≤ i → wd xs i = wd ys i)⟩
  case round =>
    obtain ⟨k, hk, rfl, HE⟩ := hrel
    cases k with
    | zero =>
      have HF : Hid (cmp (val xs) (val ys) = 0) := cmp_eq (val_congr (fun i => HE.out i (Nat.zero_le _)))
      clear HE
      go_wp2
      go_ret
      exact ⟨by rw [HF.out]; rfl, rfl⟩
    | succ k =>
      have hi : (((k + 1 : Nat) : Int) - 1) = (k : Int) := by omega
      rw [hi]
      clear hi
      rcases Int.lt_trichotomy (wd xs k) (wd ys k) with hc | hc | hc
      · have d1 : decide (wd xs k < wd ys k) = true := by simpa using hc
        have HF : Hid (cmp (val xs) (val ys) = -1) := cmp_lt (val_lt_at WX.out WY.out k (fun i hi => HE.out i (by omega)) hc)
        clear HE hc
        go_wp2_with fail
        refine (rword_calls A c xs k _ R.out hm).mono ?_
        rintro e w2 ⟨rfl, rfl⟩
        go_wp2_with fail
        refine (rword_calls A' c' ys k _ R'.out hm').mono ?_
        rintro e w2 ⟨rfl, rfl⟩
        go_wp2
        go_ret
        exact ⟨by rw [HF.out]; rfl, rfl⟩
      · have d1 : decide (wd xs k < wd ys k) = false := by simp; omega
        have d2 : decide (wd ys k < wd xs k) = false := by simp; omega
        have HE2 : Hid (∀ i, k ≤ i → wd xs i = wd ys i) := fun i hi => by
          rcases Nat.lt_or_eq_of_le hi with h1 | h1
          · exact HE.out i h1
          · rw [← h1]; exact hc
        clear HE hc
        go_wp2_with fail
        refine (rword_calls A c xs k _ R.out hm).mono ?_
        rintro e w2 ⟨rfl, rfl⟩
        go_wp2_with fail
        refine (rword_calls A' c' ys k _ R'.out hm').mono ?_
        rintro e w2 ⟨rfl, rfl⟩
        go_wp2
        go_round
        case rel => exact ⟨k, by omega, by go_num, HE2⟩
        case measure => simp [intOf]
      · have d1 : decide (wd xs k < wd ys k) = false := by simp; omega
        have d2 : decide (wd ys k < wd xs k) = true := by simpa using hc
        have HF : Hid (cmp (val xs) (val ys) = 1) := cmp_gt (val_lt_at WY.out WX.out k (fun i hi => (HE.out i (by omega)).symm) hc)
        clear HE hc
        go_wp2_with fail
        refine (rword_calls A c xs k _ R.out hm).mono ?_
        rintro e w2 ⟨rfl, rfl⟩
        go_wp2_with fail
        refine (rword_calls A' c' ys k _ R'.out hm').mono ?_
        rintro e w2 ⟨rfl, rfl⟩
        go_wp2
        go_ret
        exact ⟨by rw [HF.out]; rfl, rfl⟩

theorem bitLen_step (x : Int) (h0 : 0 < x) (h1 : x < 4294967296) : Lib.bitLen x.toNat = 1 + Lib.bitLen (x / 2).toNat := by
  have := Lib.bitLen_half x.toNat (by omega) (by omega)
  rw [this]; congr 2; omega

set_option maxHeartbeats 400000 in
theorem rBits_calls (A : Option Addr) (c : Nat) (xs : List Int) (w : World) (h : In w A c xs) :
    Calls Try.prog 85 #[.slice A xs.length c] w fun e w' => e = .returned (.int .i64 (bl xs)) ∧ Below w.heap.size w w' := by
  have H := Q.hid h
  have HT : Hid ((trim xs).length = tl xs) := len_trim xs
  have hm : (trim xs).length * 4 ≤ 140737488351232 := h.trim.small
  have HW := Q.hid (h.trim.wds.wd ((trim xs).length - 1))
  have HD : Hid (wd (trim xs) (tl xs - 1) = wd xs (tl xs - 1)) := wd_trim _ _
  clear h
  go_enter Try.func85, Try.ntmps85
  go_wp2_with fail
  refine (rTrim_calls A c xs _ H.out).mono ?_
  rintro e w1 ⟨v, rfl, ho, hb⟩
  obtain ⟨A1, c1, e1, _, _, h3, _⟩ := ho.slice
  subst e1
  have HB := Q.hid hb
  have H3 := Q.hid h3
  clear h3 hb ho
  by_cases h0 : (trim xs).length = 0
  · have e1 : (((trim xs).length : Int) == 0) = true := beq_iff_eq.2 (by omega)
    have HF : Hid (bl xs = 0) := by unfold bl; rw [if_pos (by rw [← HT.out]; exact h0)]; rfl
    clear h0
    go_wp2
    go_ret
    exact ⟨by rw [HF.out]; rfl, HB.out⟩
  · have e1 : (((trim xs).length : Int) == 0) = false := beq_eq_false_iff_ne.2 (by omega)
    have HF : Hid (bl xs = 32 * (((trim xs).length : Int) - 1) + (Lib.bitLen (wd (trim xs) ((trim xs).length - 1)).toNat : Int)) := by
      unfold bl; rw [if_neg (by rw [← HT.out]; exact h0), HT.out, HD.out]; rfl
    have hp : 0 < (trim xs).length := by omega
    obtain ⟨ad, rfl, hx⟩ := H3.out ((trim xs).length - 1) (by omega)
    have hi : ((((trim xs).length : Int) - 1).toNat) = (trim xs).length - 1 := by omega
    have hwm : (trim xs).length - 1 ≤ 35184372088000 := by omega
    clear h0
    go_wp2
    go_loop [4, 5] (fun n x => ∃ N X : Int, n = .int .i64 N ∧ x = .int .u32 X ∧ 0 ≤ X ∧ X < 4294967296 ∧ 0 ≤ N ∧ Hid (N + (Lib.bitLen X.toNat : Int) = bl xs)) (fun _ x => (intOf x).toNat)
    case atStart => exact ⟨_, _, rfl, rfl, HW.out.1, HW.out.2, by omega, HF.out.symm⟩
    case round =>
      obtain ⟨N, X, rfl, rfl, h1, h2, h4, HN⟩ := hrel
      by_cases hp : 0 < X
      · have hb := bitLen_step X hp h2
        have HN2 : Hid (N + 1 + (Lib.bitLen (X / 2).toNat : Int) = bl xs) := by rw [← HN.out, hb]; simp only [Hid]; omega
        have hb32 := Lib.bitLen_le (X / 2).toNat 32 (by omega) (by omega)
        have hN : N ≤ 9000000000000000000 := by
          have := HF.out; have := HN.out; have := Lib.bitLen_le (wd (trim xs) ((trim xs).length - 1)).toNat 32 (by omega) (by have := HW.out; omega)
          omega
        clear hb hb32
        go_wp2
        go_round
        case rel => exact ⟨_, _, rfl, rfl, by omega, by omega, by omega, HN2⟩
        case measure => simp [intOf]; omega
      · have HN2 : Hid (N = bl xs) := by
          have hX : X = 0 := by omega
          have := HN.out; rw [hX] at this; show N = bl xs; simpa [Lib.bitLen, Lib.bitLenAux] using this
        go_wp2
        go_ret
        exact ⟨by rw [← HN2.out]; rfl, HB.out⟩
end Go.Proofs.Ytidccoahjpjoaaa
