/- Package nat, the first calls: words cut, compared, counted; what each call does. -/
import Derived.Test.YtgnmmifeojfjlaaGreatDoorQKit
import Derived.Test.YtgnmmifeojfjlaaGreatDoorShelf
set_option linter.unusedVariables false
set_option linter.unusedSimpArgs false
namespace Go.Proofs.YtgnmmifeojfjlaaGreatDoor
open Go Go.RowKit Q

set_option maxHeartbeats 400000 in
theorem cut_calls (A : Option Addr) (c : Nat) (xs : List Int) (w : World) (h : In w A c xs) :
    Calls Tryz.prog 48 #[.slice A xs.length c] w fun e w' => e = .returned (.slice A (trim xs).length c) ∧ w = w' := by
  have hm : xs.length ≤ 9223372036854775807 := by have := h.small; omega
  have hc : xs.length ≤ c := h.cap
  have HT : Hid ((trim xs).length = tl xs) := len_trim xs
  have H := Q.hid h.rd
  clear h
  go_enter Tryz.func48, Tryz.ntmps48
  go_wp2
  go_loop [3] (fun n => ∃ k : Nat, k ≤ xs.length ∧ n = .int .i64 k ∧ Hid (tl (xs.take k) = tl xs)) (fun n => (intOf n).toNat)
  case atStart => exact ⟨xs.length, Nat.le_refl _, rfl, (by simp : tl (xs.take xs.length) = tl xs)⟩
  case round =>
    obtain ⟨k, hk, rfl, hr⟩ := hrel
    cases k with
    | zero =>
      have HE : Hid ((0 : Nat) = tl xs) := by have := hr.out; simp only [List.take_zero, tl] at this; exact this
      go_wp2
      go_ret
      exact ⟨by rw [HT.out, ← HE.out]; rfl, rfl⟩
    | succ k =>
      obtain ⟨ad, rfl, hx⟩ := H.out k (by omega)
      have hs := tl_take_succ (xs := xs) (k := k) (by omega)
      by_cases hz : wd xs k = 0
      · have hz1 : (wd xs k == 0) = true := by simp [hz]
        have HR : Hid (tl (xs.take k) = tl xs) := by rw [if_pos hz] at hs; rw [← hs]; exact hr.out
        clear hz hs hr
        go_wp2
        go_round
        case rel => exact ⟨k, by omega, by go_num, HR⟩
        case measure => simp [intOf]
      · have hz1 : (wd xs k == 0) = false := by simp [hz]
        have HR : Hid (k + 1 = tl xs) := by rw [if_neg hz] at hs; rw [← hs]; exact hr.out
        clear hz hs hr
        go_wp2
        go_ret
        exact ⟨by rw [HT.out, ← HR.out]; rfl, rfl⟩

set_option maxHeartbeats 400000 in
theorem Clone_calls (A : Option Addr) (c : Nat) (xs : List Int) (w : World) (h : In w A c xs) :
    Calls Tryz.prog 29 #[.slice A xs.length c] w fun e w' => ∃ v, e = .returned v ∧ Ow w' 36 w.heap.size v xs ∧ Below w.heap.size w w' := by
  have H := Q.hid h
  have hq := fun (w : World) (a : Option Addr) (n c n' c' : Nat) => Lib.run_eql_slice_nil (P := Tryz.prog) w 22 36 a n c n' c' Tryz.underlying22
  cases A with
  | none =>
    have hx : xs = [] := by
      cases xs with
      | nil => rfl
      | cons x xs => obtain ⟨ad, e, _⟩ := h.rd 0 (by simp); cases e
    subst hx
    clear h H
    go_enter Tryz.func29, Tryz.ntmps29
    go_wp2
    go_ret
    exact ⟨_, rfl, Ow.nil _ _ _, Below.refl _ _⟩
  | some ad =>
    clear h
    go_enter Tryz.func29, Tryz.ntmps29
    go_wp2_with (at_builtin; refine wp_app rfl (.tmp 5) (.tmp 6) 22 36 rfl Tryz.underlying22 infoW w.heap.size _ [] rfl (Ow.lit w _ _ [] (Nat.le_refl _) (by simp)) (some ad) xs.length c xs rfl rfl (Rd.alloc H.out.rd _) (by have := H.out.small; simp; omega) (by simp) ?_; intro v1 w1 ho hg hat)
    go_ret
    exact ⟨v1, rfl, by simpa using ho, below_grown ((Below.refl _ _).alloc (Nat.le_refl _) _) hg (fun k hk => by cases hk; simp)⟩

set_option maxHeartbeats 400000 in
theorem Trim_calls (A : Option Addr) (c : Nat) (xs : List Int) (w : World) (h : In w A c xs) :
    Calls Tryz.prog 17 #[.slice A xs.length c] w fun e w' => ∃ v, e = .returned v ∧ Ow w' 36 w.heap.size v (trim xs) ∧ Below w.heap.size w w' := by
  have H := Q.hid h
  clear h
  go_enter Tryz.func17, Tryz.ntmps17
  go_wp2_with fail
  refine (cut_calls A c xs _ H.out).mono ?_
  rintro e w1 ⟨rfl, rfl⟩
  go_wp2_with fail
  refine (Clone_calls A c (trim xs) _ H.out.trim).mono ?_
  rintro e w1 ⟨v, rfl, ho, hb⟩
  go_wp2
  go_ret
  exact ⟨v, rfl, ho, hb⟩

set_option maxHeartbeats 400000 in
theorem Check_calls (A : Option Addr) (c : Nat) (xs : List Int) (w : World) (h : In w A c xs) :
    Calls Tryz.prog 18 #[.slice A xs.length c] w fun e w' => e = .returned (.int .i64 (chk xs)) ∧ w = w' := by
  have hm : xs.length ≤ 9223372036854775807 := by have := h.small; omega
  have H := Q.hid h.rd
  clear h
  by_cases h1 : 8192 < xs.length
  · have HE : Hid (chk xs = 3) := if_pos h1
    go_enter Tryz.func18, Tryz.ntmps18
    go_wp2
    go_ret
    exact ⟨by rw [HE.out]; rfl, rfl⟩
  · by_cases h2 : 0 < xs.length
    · obtain ⟨ad, rfl, hx⟩ := H.out (xs.length - 1) (by omega)
      have hl := tl_last h2
      by_cases hz : wd xs (xs.length - 1) = 0
      · have hz1 : (wd xs (xs.length - 1) == 0) = true := by simp [hz]
        have HE : Hid (chk xs = 11) := by unfold chk; rw [if_neg (by omega), if_neg (by rw [hl]; simp [hz])]; rfl
        have hi : (((xs.length : Int) - 1).toNat) = xs.length - 1 := by omega
        clear hz hl
        go_enter Tryz.func18, Tryz.ntmps18
        go_wp2
        go_ret
        exact ⟨by rw [HE.out]; rfl, rfl⟩
      · have hz1 : (wd xs (xs.length - 1) == 0) = false := by simp [hz]
        have HE : Hid (chk xs = 0) := by unfold chk; rw [if_neg (by omega), if_pos (by rw [hl]; exact hz)]; rfl
        have hi : (((xs.length : Int) - 1).toNat) = xs.length - 1 := by omega
        clear hz hl
        go_enter Tryz.func18, Tryz.ntmps18
        go_wp2
        go_ret
        exact ⟨by rw [HE.out]; rfl, rfl⟩
    · have hx : xs = [] := List.eq_nil_of_length_eq_zero (by omega)
      subst hx
      go_enter Tryz.func18, Tryz.ntmps18
      go_wp2
      go_ret
      exact ⟨rfl, rfl⟩
end Go.Proofs.YtgnmmifeojfjlaaGreatDoor
