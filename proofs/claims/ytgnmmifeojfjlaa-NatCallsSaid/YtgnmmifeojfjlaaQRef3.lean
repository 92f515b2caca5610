/- The reference of layer 1: sums, differences, products; what each call does. -/
import Derived.Test.YtgnmmifeojfjlaaQRef2
import Derived.Test.YtgnmmifeojfjlaaQNat5
set_option linter.unusedVariables false
set_option linter.unusedSimpArgs false
namespace Go.Proofs.Ytgnmmifeojfjlaa
open Go Go.RowKit Q

set_option maxHeartbeats 400000 in
theorem both_calls (A A' : Option Addr) (c c' : Nat) (xs ys : List Int) (w : World) (h : In w A c xs) (h' : In w A' c' ys) :
    Calls Try.prog 41 #[.slice A xs.length c, .slice A' ys.length c'] w fun e w' => e = .returned (.int .i64 (chk2 xs ys)) ∧ w = w' := by
  have H := Q.hid h
  have H' := Q.hid h'
  clear h h'
  by_cases h0 : chk xs = 0
  · have hb : (chk xs != 0) = false := by simp [h0]
    have HF : Hid (chk2 xs ys = chk ys) := if_pos h0
    clear h0
    go_enter Try.func41, Try.ntmps41
    go_wp2_with fail
    refine (rCheck_calls A c xs _ H.out).mono ?_
    rintro e w1 ⟨rfl, rfl⟩
    go_wp2_with fail
    refine (rCheck_calls A' c' ys _ H'.out).mono ?_
    rintro e w1 ⟨rfl, rfl⟩
    go_wp2
    go_ret
    exact ⟨by rw [HF.out]; rfl, rfl⟩
  · have hb : (chk xs != 0) = true := by simp [h0]
    have HF : Hid (chk2 xs ys = chk xs) := if_neg h0
    clear h0
    go_enter Try.func41, Try.ntmps41
    go_wp2_with fail
    refine (rCheck_calls A c xs _ H.out).mono ?_
    rintro e w1 ⟨rfl, rfl⟩
    go_wp2
    go_ret
    exact ⟨by rw [HF.out]; rfl, rfl⟩

set_option maxHeartbeats 400000 in
theorem rtold_calls (A : Option Addr) (c B : Nat) (zs : List Int) (v : Int) (w : World) (ho : Ow w 42 B (.slice A zs.length c) zs) (hm : zs.length ≤ 9223372036854775807) (hz : zs = nwd v) :
    Calls Try.prog 42 #[.slice A zs.length c] w fun e w' => (∃ u, e = .returned (.tuple #[u, .int .i64 (told v).2]) ∧ Ow w 42 B u (told v).1) ∧ w = w' := by
  have HO := Q.hid ho
  have HZ := Q.hid hz
  clear ho hz
  by_cases h1 : 8192 < zs.length
  · have HF : Hid (told v = ([], 3)) := by unfold told; rw [← HZ.out]; exact if_pos h1
    go_enter Try.func42, Try.ntmps42
    go_wp2
    go_ret2
    exact ⟨⟨.slice none 0 0, by rw [HF.out]; rfl, by rw [HF.out]; exact Ow.nil _ _ _⟩, rfl⟩
  · have HF : Hid (told v = (zs, 0)) := by unfold told; rw [← HZ.out]; exact if_neg h1
    go_enter Try.func42, Try.ntmps42
    go_wp2
    go_ret2
    exact ⟨⟨.slice A zs.length c, by rw [HF.out]; rfl, by rw [HF.out]; exact HO.out⟩, rfl⟩

theorem rword_quiet (A : Option Addr) (c : Nat) (xs : List Int) (i : Nat) (w : World) (n : Nat) (h : Rd w A xs) (hm : xs.length ≤ 9223372036854775807) :
    Calls Try.prog 36 #[.slice A xs.length c, .int .i64 i] (w.drewN n) fun e w' => e = .returned (.int .u32 (wd xs i)) ∧ ∃ m, w' = w.drewN m :=
  (rword_calls A c xs i (w.drewN n) (h.drewN n) hm).mono fun _ _ ⟨he, hw⟩ => ⟨he, n, hw.symm⟩

set_option maxHeartbeats 1000000 in
set_option maxRecDepth 100000 in
theorem Plus_calls (A A' : Option Addr) (c c' : Nat) (xs ys : List Int) (w : World) (h : In w A c xs) (h' : In w A' c' ys) (hl : xs.length ≤ 1000000) (hl' : ys.length ≤ 1000000) :
    Calls Try.prog 43 #[.slice A xs.length c, .slice A' ys.length c'] w fun e w' => ∃ v, e = .returned v ∧ Ow w' 42 w.heap.size v (nwd (val xs + val ys)) ∧ Below w.heap.size w w' := by
  have H := Q.hid h
  have H' := Q.hid h'
  have hm : xs.length ≤ 35184372087808 := by have := h.small; omega
  have hm' : ys.length ≤ 35184372087808 := by have := h'.small; omega
  have hs := h.small
  have hs' := h'.small
  obtain ⟨n, hn⟩ : ∃ n : Nat, n = max xs.length ys.length := ⟨_, rfl⟩
  have HN := Q.hid hn
  have hni : max (xs.length : Int) (ys.length : Int) = (n : Int) := by omega
  have hn2 : n ≤ 1000000 := by omega
  clear h h' hn
  have HS : Hid (AddSt w (w.alloc (.cells (reps (n + 1) (.int .u32 0)) 42)) w.heap.size w.heap.size (n + 1) xs ys 0 0 (List.replicate (n + 1) 0)) :=
    ⟨Ow.made w _ _ _ (Nat.le_refl _) (by simp only [maxLen]; omega), by simp, Wds.zeros _, by simp [val], (Below.refl _ _).alloc (Nat.le_refl _) _⟩
  go_enter Try.func43, Try.ntmps43
  go_wp2_with (at_make; refine wp_mk rfl (.tmp 16) (.tmp 16) 22 42 rfl (.int .u32 0) 4 Try.underlying22 infoW rfl _ _ (n + 1) rfl rfl (by omega) (by omega) (by omega) (by simp only [maxLen]; omega) ?_)
  go_loopw [7, 8] (fun cv i wr => ∃ (k : Nat) (cr : Int) (zs : List Int), k ≤ n + 1 ∧ i = .int .i64 k ∧ cv = .int .u64 cr ∧ 0 ≤ cr ∧ cr ≤ 1 ∧ Hid (AddSt w wr w.heap.size w.heap.size (n + 1) xs ys k cr zs)) (fun _ i _ => n + 1 - (intOf i).toNat)
  case atStart => exact ⟨0, 0, _, by omega, rfl, rfl, by omega, by omega, HS⟩
  case round =>
    clear HS
    obtain ⟨k, cr, zs, hk, rfl, rfl, hc0, hc1, HS⟩ := hrel
    by_cases hlt : k ≤ n
    · have hw := H.out.wds.wd k
      have hw' := H'.out.wds.wd k
      have p1 : 0 ≤ wd xs k := hw.1
      have p2 : wd xs k < 4294967296 := hw.2
      have p3 : 0 ≤ wd ys k := hw'.1
      have p4 : wd ys k < 4294967296 := hw'.2
      have hcell := HS.out.own.cell (i := k) (by rw [HS.out.len]; omega)
      have hfree := HS.out.own.free k
      have R := Q.hid (H.out.rd.below HS.out.below)
      have R' := Q.hid (H'.out.rd.below HS.out.below)
      have HT : Hid (∀ s, s = wd xs k + wd ys k + cr → AddSt w (wr.setCell ⟨w.heap.size, k, none⟩ (.int .u32 (s % 4294967296))) w.heap.size w.heap.size (n + 1) xs ys (k + 1) (s / 4294967296) (zs.set k (s % 4294967296))) := fun s hs => HS.out.step (by omega) (Nat.le_refl _) s (by omega)
      clear HS hw hw'
      go_wp2_with fail
      refine (rword_calls A c xs k _ R.out (by omega)).mono ?_
      rintro e w2 ⟨rfl, rfl⟩
      go_wp2_with fail
      refine (rword_calls A' c' ys k _ R'.out (by omega)).mono ?_
      rintro e w2 ⟨rfl, rfl⟩
      go_wp2
      go_roundw
      case rel => exact ⟨k + 1, _, _, by omega, by go_num, rfl, by omega, by omega, HT.out _ rfl⟩
      case measure => simp [intOf]; omega
    · obtain rfl : k = n + 1 := by omega
      have HV : Hid (val zs = val xs + val ys) := by
        have h1 := HS.out.sum
        have hzl := HS.out.len
        have hnn := HN.out
        rw [List.take_of_length_le (l := zs) (by omega), List.take_of_length_le (l := xs) (by omega), List.take_of_length_le (l := ys) (by omega)] at h1
        have h2 := val_lt H.out.wds
        have h3 := val_lt H'.out.wds
        have h4 := Bp_mono (show xs.length ≤ n by omega)
        have h5 := Bp_mono (show ys.length ≤ n by omega)
        have h6 := Bp_succ n
        have h7 := Bp_pos n
        have h8 := val_nonneg HS.out.wds
        show val zs = val xs + val ys
        rcases (by omega : cr = 0 ∨ cr = 1) with rfl | rfl
        · simp at h1; omega
        · rw [Int.mul_one] at h1; omega
      have HL : Hid (zs.length = n + 1) := HS.out.len
      have HI : Hid (In wr (some ⟨w.heap.size, 0, none⟩) (n + 1) zs) := ⟨HS.out.own.read.2.2.2, by rw [HL.out]; exact Nat.le_refl _, by rw [HL.out, HN.out]; omega, HS.out.wds⟩
      have HT : Hid (trim zs = nwd (val xs + val ys)) := nwd_trim HS.out.wds HV.out
      have HB := Q.hid HS.out.below
      clear HS
      go_wp2_with fail
      have HC := rTrim_calls (some ⟨w.heap.size, 0, none⟩) (n + 1) zs _ HI.out
      rw [HL.out, HT.out] at HC
      refine HC.mono ?_
      rintro e w2 ⟨v, rfl, ho, hb⟩
      go_wp2
      go_ret
      exact ⟨v, rfl, ho.mono HB.out.size, bs2 HB.out hb⟩

/-- the reference's answer, written as the program's -/
theorem nwd_inn {w : World} {e B : Nat} {v : Value} {x : Int} (h : Ow w e B v (nwd x)) (hs : (nwd x).length * 4 ≤ 140737488351232) : ∃ A c, v = .slice A (nwd x).length c ∧ In w A c (nwd x) := h.inn (nwd_wds x) hs

set_option maxHeartbeats 1000000 in
theorem rAdd_calls (A A' : Option Addr) (c c' : Nat) (xs ys : List Int) (w : World) (h : In w A c xs) (h' : In w A' c' ys) :
    Calls Try.prog 23 #[.slice A xs.length c, .slice A' ys.length c'] w fun e w' => ∃ v, e = .returned (.tuple #[v, .int .i64 (addS xs ys).2]) ∧ Ow w' 42 w.heap.size v (addS xs ys).1 ∧ Below w.heap.size w w' := by
  have H := Q.hid h
  have H' := Q.hid h'
  clear h h'
  by_cases h0 : chk2 xs ys = 0
  · have hb : (chk2 xs ys != 0) = false := by simp [h0]
    have HF : Hid (addS xs ys = told (val xs + val ys)) := if_pos h0
    have hc8 := chk2_zero h0
    have hlx : xs.length ≤ 1000000 := by omega
    have hly : ys.length ≤ 1000000 := by omega
    clear hc8
    have hlen : (nwd (val xs + val ys)).length ≤ 8193 := by
      have h1 := val_lt H.out.wds
      have h2 := val_lt H'.out.wds
      have h3 := val_nonneg H.out.wds
      have h4 := val_nonneg H'.out.wds
      have hc := chk2_zero h0
      have h5 := Bp_mono hc.1
      have h6 := Bp_mono hc.2.2.1
      have h7 : Bp 8193 = 4294967296 * Bp 8192 := Bp_succ 8192
      have h8 := Bp_pos 8192
      exact nwd_len_le (by omega) (by omega)
    clear h0
    go_enter Try.func23, Try.ntmps23
    go_wp2_with fail
    refine (both_calls A A' c c' xs ys _ H.out H'.out).mono ?_
    rintro e w1 ⟨rfl, rfl⟩
    go_wp2_with fail
    refine (Plus_calls A A' c c' xs ys _ H.out H'.out hlx hly).mono ?_
    rintro e w1 ⟨v, rfl, ho, hb⟩
    obtain ⟨A1, c1, e1, i1⟩ := nwd_inn ho (by omega)
    subst e1
    have HB := Q.hid hb
    have HO := Q.hid ho
    clear hb ho i1
    go_wp2_with fail
    refine (rtold_calls A1 c1 w.heap.size _ (val xs + val ys) _ HO.out (by omega) rfl).mono ?_
    rintro e w2 ⟨⟨v, rfl, ho⟩, rfl⟩
    go_wp2
    go_ret2
    exact ⟨v, by rw [HF.out]; rfl, by rw [HF.out]; exact ho, HB.out⟩
  · have hb : (chk2 xs ys != 0) = true := by simp [h0]
    have HF : Hid (addS xs ys = ([], chk2 xs ys)) := if_neg h0
    clear h0
    go_enter Try.func23, Try.ntmps23
    go_wp2_with fail
    refine (both_calls A A' c c' xs ys _ H.out H'.out).mono ?_
    rintro e w1 ⟨rfl, rfl⟩
    go_wp2
    go_ret2
    exact ⟨_, by rw [HF.out]; rfl, by rw [HF.out]; exact Ow.nil _ _ _, Below.refl _ _⟩
end Go.Proofs.Ytgnmmifeojfjlaa
