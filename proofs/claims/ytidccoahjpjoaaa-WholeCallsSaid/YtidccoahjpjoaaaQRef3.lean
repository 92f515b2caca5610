/- The reference of layer 1: sums, differences, products; what each call does. -/
import Derived.Test.YtidccoahjpjoaaaQRef2
import Derived.Test.YtidccoahjpjoaaaQNat5
set_option linter.unusedVariables false
set_option linter.unusedSimpArgs false
namespace Go.Proofs.Ytidccoahjpjoaaa
open Go Go.RowKit Q



theorem rword_quiet (A : Option Addr) (c : Nat) (xs : List Int) (i : Nat) (w : World) (n : Nat) (h : Rd w A xs) (hm : xs.length ≤ 9223372036854775807) :
    Calls Try.prog 97 #[.slice A xs.length c, .int .i64 i] (w.drewN n) fun e w' => e = .returned (.int .u32 (wd xs i)) ∧ ∃ m, w' = w.drewN m :=
  (rword_calls A c xs i (w.drewN n) (h.drewN n) hm).mono fun _ _ ⟨he, hw⟩ => ⟨he, n, hw.symm⟩

set_option maxHeartbeats 1000000 in
set_option maxRecDepth 100000 in
theorem Plus_calls (A A' : Option Addr) (c c' : Nat) (xs ys : List Int) (w : World) (h : In w A c xs) (h' : In w A' c' ys) (hl : xs.length ≤ 1000000) (hl' : ys.length ≤ 1000000) :
    Calls Try.prog 80 #[.slice A xs.length c, .slice A' ys.length c'] w fun e w' => ∃ v, e = .returned v ∧ Ow w' 58 w.heap.size v (nwd (val xs + val ys)) ∧ Below w.heap.size w w' := by
  have H := Q.hid h
  have H' := Q.hid h'
  have hm : xs.length ≤ 35184372087808 := by have := h.small; omega
  have hm' : ys.length ≤ 35184372087808 := by have := h'.small; omega
  have hs := h.small
  have hs' := h'.small
  obtain ⟨n, hn⟩ : ∃ n : Nat, n = max xs.length ys.length := ⟨_, rfl⟩
  have HN := Q.hid hn
  have hni : max (xs.length : Int) (ys.length : Int) = (n : Int) := by omega
  have hn2 : n ≤ 1000000 := by omega
  clear h h' hn
  have HS : Hid (AddSt w (w.alloc (.cells (reps (n + 1) (.int .u32 0)) 58)) w.heap.size w.heap.size (n + 1) xs ys 0 0 (List.replicate (n + 1) 0)) :=
    ⟨Ow.made w _ _ _ (Nat.le_refl _) (by simp only [maxLen]; omega), by simp, Wds.zeros _, by simp [val], (Below.refl _ _).alloc (Nat.le_refl _) _⟩
  go_enter Try.func80, Try.ntmps80
  go_wp2_with (at_make; refine wp_mk rfl (.tmp 16) (.tmp 16) 22 58 rfl (.int .u32 0) 4 Try.underlying22 infoW rfl _ _ (n + 1) rfl rfl (by omega) (by omega) (by omega) (by simp only [maxLen]; omega) ?_)
  go_loopw [7, 8] (fun cv i wr => ∃ (k : Nat) (cr : Int) (zs : List Int), k ≤ n + 1 ∧ i = .int .i64 k ∧ cv = .int .u64 cr ∧ 0 ≤ cr ∧ cr ≤ 1 ∧ Hid (AddSt w wr w.heap.size w.heap.size (n + 1) xs ys k cr zs)) (fun _ i _ => n + 1 - (intOf i).toNat)
  case atStart => exact ⟨0, 0, _, by omega, rfl, rfl, by omega, by omega, HS⟩
  case round =>
    clear HS
    obtain ⟨k, cr, zs, hk, rfl, rfl, hc0, hc1, HS⟩ := hrel
    by_cases hlt : k ≤ n
    · have hw := H.out.wds.wd k
      have hw' := H'.out.wds.wd k
      have p1 : 0 ≤ wd xs k := hw.1
      have p2 : wd xs k < 4294967296 := hw.2
      have p3 : 0 ≤ wd ys k := hw'.1
      have p4 : wd ys k < 4294967296 := hw'.2
      have hcell := HS.out.own.cell (i := k) (by rw [HS.out.len]; omega)
      have hfree := HS.out.own.free k
      have R := Q.hid (H.out.rd.below HS.out.below)
      have R' := Q.hid (H'.out.rd.below HS.out.below)
      have HT : Hid (∀ s, s = wd xs k + wd ys k + cr → AddSt w (wr.setCell ⟨w.heap.size, k, none⟩ (.int .u32 (s % 4294967296))) w.heap.size w.heap.size (n + 1) xs ys (k + 1) (s / 4294967296) (zs.set k (s % 4294967296))) := fun s hs => HS.out.step (by omega) (Nat.le_refl _) s (by omega)
      clear HS hw hw'
      go_wp2_with fail
      refine (rword_calls A c xs k _ R.out (by omega)).mono ?_
      rintro e w2 ⟨rfl, rfl⟩
      go_wp2_with fail
      refine (rword_calls A' c' ys k _ R'.out (by omega)).mono ?_
      rintro e w2 ⟨rfl, rfl⟩
      go_wp2
      go_roundw
      case rel => exact ⟨k + 1, _, _, by omega, by go_num, rfl, by omega, by omega, HT.out _ rfl⟩
      case measure => simp [intOf]; omega
    · obtain rfl : k = n + 1 := by omega
      have HV : Hid (val zs = val xs + val ys) := by
        have h1 := HS.out.sum
        have hzl := HS.out.len
        have hnn := HN.out
        rw [List.take_of_length_le (l := zs) (by omega), List.take_of_length_le (l := xs) (by omega), List.take_of_length_le (l := ys) (by omega)] at h1
        have h2 := val_lt H.out.wds
        have h3 := val_lt H'.out.wds
        have h4 := Bp_mono (show xs.length ≤ n by omega)
        have h5 := Bp_mono (show ys.length ≤ n by omega)
        have h6 := Bp_succ n
        have h7 := Bp_pos n
        have h8 := val_nonneg HS.out.wds
        show val zs = val xs + val ys
        rcases (by omega : cr = 0 ∨ cr = 1) with rfl | rfl
        · simp at h1; omega
        · rw [Int.mul_one] at h1; omega
      have HL : Hid (zs.length = n + 1) := HS.out.len
      have HI : Hid (In wr (some ⟨w.heap.size, 0, none⟩) (n + 1) zs) := ⟨HS.out.own.read.2.2.2, by rw [HL.out]; exact Nat.le_refl _, by rw [HL.out, HN.out]; omega, HS.out.wds⟩
      have HT : Hid (trim zs = nwd (val xs + val ys)) := nwd_trim HS.out.wds HV.out
      have HB := Q.hid HS.out.below
      clear HS
      go_wp2_with fail
      have HC := rTrim_calls (some ⟨w.heap.size, 0, none⟩) (n + 1) zs _ HI.out
      rw [HL.out, HT.out] at HC
      refine HC.mono ?_
      rintro e w2 ⟨v, rfl, ho, hb⟩
      go_wp2
      go_ret
      exact ⟨v, rfl, ho.mono HB.out.size, bs2 HB.out hb⟩

/-- the reference's answer, written as the program's -/
theorem nwd_inn {w : World} {e B : Nat} {v : Value} {x : Int} (h : Ow w e B v (nwd x)) (hs : (nwd x).length * 4 ≤ 140737488351232) : ∃ A c, v = .slice A (nwd x).length c ∧ In w A c (nwd x) := h.inn (nwd_wds x) hs


end Go.Proofs.Ytidccoahjpjoaaa
