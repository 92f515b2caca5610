/- The reference of layer 1, the first calls; what each call does. -/
import Derived.Test.YtidccoahjpjoaaaQNat2
set_option linter.unusedVariables false
set_option linter.unusedSimpArgs false
namespace Go.Proofs.Ytidccoahjpjoaaa
open Go Go.RowKit Q


set_option maxHeartbeats 400000 in
theorem rTrim_calls (A : Option Addr) (c : Nat) (xs : List Int) (w : World) (h : In w A c xs) :
    Calls Try.prog 73 #[.slice A xs.length c] w fun e w' => ∃ v, e = .returned v ∧ Ow w' 58 w.heap.size v (trim xs) ∧ Below w.heap.size w w' := by
  have hm : xs.length ≤ 9223372036854775807 := by have := h.small; omega
  have hc : xs.length ≤ c := h.cap
  have HT : Hid ((trim xs).length = tl xs) := len_trim xs
  have HI := Q.hid h
  have H := Q.hid h.rd
  clear h
  go_enter Try.func73, Try.ntmps73
  go_wp2
  go_loop [3] (fun n => ∃ k : Nat, k ≤ xs.length ∧ n = .int .i64 k ∧ Hid (tl (xs.take k) = tl xs)) (fun n => (intOf n).toNat)
  case atStart => exact ⟨xs.length, Nat.le_refl _, rfl, (by simp : tl (xs.take xs.length) = tl xs)⟩
  case round =>
    obtain ⟨k, hk, rfl, hr⟩ := hrel
    have fin : ∀ j : Nat, j = tl xs → Hid (∀ j2 : Nat, j2 = j → Rd w A (trim xs) ∧ j2 = (trim xs).length ∧ ((trim xs).length) * 4 ≤ 140737488355328) := fun j hj j2 hj2 => ⟨HI.out.trim.rd, by rw [HT.out]; omega, by have := HI.out.trim.small; omega⟩
    have FIN := Q.hid fin
    clear fin
    by_cases hk0 : k = 0
    · have HF := FIN.out 0 (by have := hr.out; subst hk0; simp only [List.take_zero, tl] at this; exact this)
      subst hk0
      clear hr FIN
      go_wp2_with (at_builtin; refine wp_app rfl (.tmp 19) (.tmp 22) 22 58 rfl Try.underlying22 infoW w.heap.size _ [] rfl (Ow.nil _ _ _) A 0 c (trim xs) (HF.out 0 rfl).2.1 rfl (HF.out 0 rfl).1 (by have := (HF.out 0 rfl).2.2; simp; omega) (by simp) ?_; intro v1 w1 ho hg hat)
      go_ret
      exact ⟨v1, rfl, by simpa using ho, below_grown (Below.refl _ _) hg (fun k hk => by cases hk)⟩
    · obtain ⟨k, rfl⟩ : ∃ j, k = j + 1 := ⟨k - 1, by omega⟩
      clear hk0
      obtain ⟨ad, rfl, hx⟩ := H.out k (by omega)
      have hs := tl_take_succ (xs := xs) (k := k) (by omega)
      by_cases hz : wd xs k = 0
      · have hz1 : (wd xs k == 0) = true := by simp [hz]
        have HR : Hid (tl (xs.take k) = tl xs) := by rw [if_pos hz] at hs; rw [← hs]; exact hr.out
        clear hz hs hr FIN
        go_wp2
        go_round
        case rel => exact ⟨k, by omega, by go_num, HR⟩
        case measure => simp [intOf]
      · have hz1 : (wd xs k == 0) = false := by simp [hz]
        have HF := FIN.out (k + 1) (by rw [if_neg hz] at hs; rw [← hs]; exact hr.out)
        clear hz hs hr FIN
        go_wp2_with (at_builtin; refine wp_app rfl (.tmp 19) (.tmp 22) 22 58 rfl Try.underlying22 infoW w.heap.size _ [] rfl (Ow.nil _ _ _) (some ad) (k + 1) c (trim xs) (HF.out (k + 1) rfl).2.1 rfl (HF.out (k + 1) rfl).1 (by have := (HF.out (k + 1) rfl).2.2; simp; omega) (by simp) ?_; intro v1 w1 ho hg hat)
        go_ret
        exact ⟨v1, rfl, by simpa using ho, below_grown (Below.refl _ _) hg (fun k hk => by cases hk)⟩

set_option maxHeartbeats 400000 in
theorem rword_calls (A : Option Addr) (c : Nat) (xs : List Int) (i : Nat) (w : World) (h : Rd w A xs) (hm : xs.length ≤ 9223372036854775807) :
    Calls Try.prog 97 #[.slice A xs.length c, .int .i64 i] w fun e w' => e = .returned (.int .u32 (wd xs i)) ∧ w = w' := by
  by_cases hi : i < xs.length
  · obtain ⟨ad, rfl, hx⟩ := h i hi
    clear h
    go_enter Try.func97, Try.ntmps97
    go_wp2
    go_ret
    exact ⟨rfl, rfl⟩
  · have HZ : Hid (wd xs i = 0) := wd_ge (by omega)
    clear h
    go_enter Try.func97, Try.ntmps97
    go_wp2
    go_ret
    exact ⟨by rw [HZ.out]; rfl, rfl⟩

set_option maxHeartbeats 400000 in
theorem rOf_calls (x : Int) (w : World) (h0 : 0 ≤ x) (h1 : x < 18446744073709551616) :
    Calls Try.prog 84 #[.int .u64 x] w fun e w' => ∃ v, e = .returned v ∧ Ow w' 58 w.heap.size v (of64 x) ∧ Below w.heap.size w w' := by
  have HO := Ow.lit w 58 w.heap.size [x % 4294967296, x / 4294967296] (Nat.le_refl _) (by simp [maxLen])
  have HI : Hid (In (w.alloc (.cells (ws [x % 4294967296, x / 4294967296]).toArray 58)) (some ⟨w.heap.size, 0, none⟩) 2 [x % 4294967296, x / 4294967296]) :=
    ⟨HO.read.2.2.2, by simp, by simp, Wds.cons (by omega) (by omega) (Wds.cons (by omega) (by omega) Wds.nil)⟩
  clear HO
  go_enter Try.func84, Try.ntmps84
  go_wp2_with fail
  refine (rTrim_calls _ 2 [x % 4294967296, x / 4294967296] _ HI.out).mono ?_
  rintro e w1 ⟨v, rfl, ho, hb⟩
  go_wp2
  go_ret
  exact ⟨_, rfl, ho.mono (by simp), ((Below.refl _ _).alloc (Nat.le_refl _) _).trans (hb.mono (by simp))⟩
end Go.Proofs.Ytidccoahjpjoaaa
