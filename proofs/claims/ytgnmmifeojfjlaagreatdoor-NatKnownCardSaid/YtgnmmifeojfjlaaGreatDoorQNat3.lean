/- Package nat: sums and differences; what each call does. -/
import Derived.Test.YtgnmmifeojfjlaaGreatDoorQNat2
set_option linter.unusedVariables false
set_option linter.unusedSimpArgs false
namespace Go.Proofs.YtgnmmifeojfjlaaGreatDoor
open Go Go.RowKit Q

set_option maxHeartbeats 400000 in
theorem checked_calls (A A' : Option Addr) (c c' : Nat) (xs ys : List Int) (w : World) (h : In w A c xs) (h' : In w A' c' ys) :
    Calls Tryz.prog 49 #[.slice A xs.length c, .slice A' ys.length c'] w fun e w' => e = .returned (.int .i64 (chk2 xs ys)) ∧ w = w' := by
  have H := Q.hid h
  have H' := Q.hid h'
  clear h h'
  by_cases h0 : chk xs = 0
  · have hb : (chk xs != 0) = false := by simp [h0]
    have HF : Hid (chk2 xs ys = chk ys) := if_pos h0
    clear h0
    go_enter Tryz.func49, Tryz.ntmps49
    go_wp2_with fail
    refine (Check_calls A c xs _ H.out).mono ?_
    rintro e w1 ⟨rfl, rfl⟩
    go_wp2_with fail
    refine (Check_calls A' c' ys _ H'.out).mono ?_
    rintro e w1 ⟨rfl, rfl⟩
    go_wp2
    go_ret
    exact ⟨by rw [HF.out]; rfl, rfl⟩
  · have hb : (chk xs != 0) = true := by simp [h0]
    have HF : Hid (chk2 xs ys = chk xs) := if_neg h0
    clear h0
    go_enter Tryz.func49, Tryz.ntmps49
    go_wp2_with fail
    refine (Check_calls A c xs _ H.out).mono ?_
    rintro e w1 ⟨rfl, rfl⟩
    go_wp2
    go_ret
    exact ⟨by rw [HF.out]; rfl, rfl⟩

set_option maxHeartbeats 400000 in
theorem told_calls (A : Option Addr) (c B : Nat) (zs : List Int) (w : World) (ho : Ow w 36 B (.slice A zs.length c) zs) (hi : In w A c zs) :
    Calls Tryz.prog 30 #[.slice A zs.length c] w fun e w' => (∃ v, e = .returned (.tuple #[v, .int .i64 (told (val zs)).2]) ∧ Ow w 36 B v (told (val zs)).1) ∧ w = w' := by
  have H := Q.hid hi
  have HN : Hid (trim zs = nwd (val zs)) := nwd_trim hi.wds rfl
  have HO := Q.hid ho.trim
  have hm : (trim zs).length * 4 ≤ 140737488351232 := hi.trim.small
  clear ho hi
  by_cases h1 : 8192 < (trim zs).length
  · have HF : Hid (told (val zs) = ([], 3)) := by unfold told; rw [← HN.out]; exact if_pos h1
    go_enter Tryz.func30, Tryz.ntmps30
    go_wp2_with fail
    refine (cut_calls A c zs _ H.out).mono ?_
    rintro e w1 ⟨rfl, rfl⟩
    go_wp2
    go_ret2
    exact ⟨⟨.slice none 0 0, by rw [HF.out]; rfl, by rw [HF.out]; exact Ow.nil _ _ _⟩, rfl⟩
  · have HF : Hid (told (val zs) = (trim zs, 0)) := by unfold told; rw [← HN.out]; exact if_neg h1
    go_enter Tryz.func30, Tryz.ntmps30
    go_wp2_with fail
    refine (cut_calls A c zs _ H.out).mono ?_
    rintro e w1 ⟨rfl, rfl⟩
    go_wp2
    go_ret2
    exact ⟨⟨.slice A (trim zs).length c, by rw [HF.out]; rfl, by rw [HF.out]; exact HO.out⟩, rfl⟩

/-- the state of a sum, a word at a time -/
structure AddSt (w wr : World) (B g N : Nat) (xs ys : List Int) (k : Nat) (c : Int) (zs : List Int) : Prop where
  own : Ow wr 36 B (.slice (some ⟨g, 0, none⟩) N N) zs
  len : zs.length = N
  wds : Wds zs
  sum : val (zs.take k) + Bp k * c = val (xs.take k) + val (ys.take k)
  below : Below w.heap.size w wr
theorem AddSt.step {w wr : World} {B g N : Nat} {xs ys : List Int} {k : Nat} {c : Int} {zs : List Int} (h : AddSt w wr B g N xs ys k c zs) (hk : k < N) (hg : w.heap.size ≤ g) (s : Int) (hs : s = c + wd xs k + wd ys k) :
    AddSt w (wr.setCell ⟨g, k, none⟩ (.int .u32 (s % 4294967296))) B g N xs ys (k + 1) (s / 4294967296) (zs.set k (s % 4294967296)) := {
  own := h.own.store (by rw [h.len]; exact hk) _
  len := by rw [List.length_set]; exact h.len
  wds := h.wds.set _ (by omega) (by omega)
  sum := add_step (by rw [h.len]; exact hk) h.sum s hs
  below := h.below.setCell hg _ }

set_option maxHeartbeats 2000000 in
set_option maxRecDepth 100000 in
theorem Add_calls (A A' : Option Addr) (c c' : Nat) (xs ys : List Int) (w : World) (h : In w A c xs) (h' : In w A' c' ys) :
    Calls Tryz.prog 25 #[.slice A xs.length c, .slice A' ys.length c'] w fun e w' => ∃ v, e = .returned (.tuple #[v, .int .i64 (addS xs ys).2]) ∧ Ow w' 36 w.heap.size v (addS xs ys).1 ∧ Below w.heap.size w w' := by
  have H := Q.hid h
  have H' := Q.hid h'
  have hm : xs.length ≤ 35184372087808 := by have := h.small; omega
  have hm' : ys.length ≤ 35184372087808 := by have := h'.small; omega
  clear h h'
  by_cases h0 : chk2 xs ys = 0
  · have hb : (chk2 xs ys != 0) = false := by simp [h0]
    have HF : Hid (addS xs ys = told (val xs + val ys)) := if_pos h0
    have hx8 : xs.length ≤ 8192 := (chk2_zero h0).1
    have hy8 : ys.length ≤ 8192 := (chk2_zero h0).2.2.1
    clear h0
    by_cases hl : xs.length < ys.length
    · have hlb : decide (xs.length < ys.length) = true := by simpa using hl
      go_enter Tryz.func25, Tryz.ntmps25
      go_wp2_with fail
      refine (checked_calls A A' c c' xs ys _ H.out H'.out).mono ?_
      rintro e w1 ⟨rfl, rfl⟩
      go_wp2_with (at_make; refine wp_mk rfl (.tmp 26) (.tmp 26) 22 36 rfl (.int .u32 0) 4 Tryz.underlying22 infoW rfl _ _ (ys.length + 1) rfl rfl (by omega) (by omega) (by omega) (by simp only [maxLen]; omega) ?_)
      have HS : Hid (AddSt w (w.alloc (.cells (reps (ys.length + 1) (.int .u32 0)) 36)) w.heap.size w.heap.size (ys.length + 1) ys xs 0 0 (List.replicate (ys.length + 1) 0)) :=
        ⟨Ow.made w _ _ _ (Nat.le_refl _) (by simp only [maxLen]; omega), by simp, Wds.zeros _, by simp [val], (Below.refl _ _).alloc (Nat.le_refl _) _⟩
      go_loopw [8, 9, 10, 30] (fun cv _ _ i wr => ∃ (k : Nat) (cr : Int) (zs : List Int), k ≤ ys.length ∧ i = .int .i64 k ∧ cv = .int .u64 cr ∧ 0 ≤ cr ∧ cr ≤ 1 ∧ Hid (AddSt w wr w.heap.size w.heap.size (ys.length + 1) ys xs k cr zs)) (fun _ _ _ i _ => ys.length - (intOf i).toNat)
      case atStart => exact ⟨0, 0, _, by omega, rfl, rfl, by omega, by omega, HS⟩
      case round =>
        clear HS
        obtain ⟨k, cr, zs, hk, rfl, rfl, hc0, hc1, HS⟩ := hrel
        by_cases hlt : k < ys.length
        · obtain ⟨ad, rfl, hx⟩ := (H'.out.rd.below HS.out.below) k hlt
          have hw := H'.out.wds.wd k
          have hw' := H.out.wds.wd k
          have p1 : 0 ≤ wd ys k := hw.1
          have p2 : wd ys k < 4294967296 := hw.2
          have p3 : 0 ≤ wd xs k := hw'.1
          have p4 : wd xs k < 4294967296 := hw'.2
          have hcell := HS.out.own.cell (i := k) (by rw [HS.out.len]; omega)
          have hfree := HS.out.own.free k
          clear hw hw'
          by_cases hly : k < xs.length
          · obtain ⟨ad', rfl, hy⟩ := (H.out.rd.below HS.out.below) k hly
            have HT : Hid (∀ s, s = cr + wd ys k + wd xs k → AddSt w (wr.setCell ⟨w.heap.size, k, none⟩ (.int .u32 (s % 4294967296))) w.heap.size w.heap.size (ys.length + 1) ys xs (k + 1) (s / 4294967296) (zs.set k (s % 4294967296))) := fun s hs => HS.out.step (by omega) (Nat.le_refl _) s hs
            clear HS
            go_wp2
            go_roundw
            case rel => exact ⟨k + 1, _, _, by omega, by go_num, rfl, by omega, by omega, HT.out _ rfl⟩
            case measure => simp [intOf]; omega
          · have hz : wd xs k = 0 := wd_ge (by omega)
            have HT : Hid (∀ s, s = cr + wd ys k → AddSt w (wr.setCell ⟨w.heap.size, k, none⟩ (.int .u32 (s % 4294967296))) w.heap.size w.heap.size (ys.length + 1) ys xs (k + 1) (s / 4294967296) (zs.set k (s % 4294967296))) := fun s hs => HS.out.step (by omega) (Nat.le_refl _) s (by rw [hz, hs]; omega)
            clear HS hz
            go_wp2
            go_roundw
            case rel => exact ⟨k + 1, _, _, by omega, by go_num, rfl, by omega, by omega, HT.out _ rfl⟩
            case measure => simp [intOf]; omega
        · obtain rfl : k = ys.length := by omega
          have hcell := HS.out.own.cell (i := ys.length) (by rw [HS.out.len]; omega)
          have hfree := HS.out.own.free ys.length
          have hcm : cr % 4294967296 = cr := by omega
          have HV : Hid (val (zs.set ys.length cr) = val xs + val ys) := by
            have h1 := HS.out.sum
            have h2 := val_split (zs.set ys.length cr) (ys.length + 1)
            rw [val_take_set (by rw [HS.out.len]; omega), List.drop_of_length_le (by rw [List.length_set, HS.out.len]; omega)] at h2
            rw [List.take_of_length_le (l := ys) (by omega), List.take_of_length_le (l := xs) (by omega)] at h1
            simp only [val] at h2
            show val (zs.set ys.length cr) = val xs + val ys
            omega
          have HO2 : Hid (Ow (wr.setCell ⟨w.heap.size, ys.length, none⟩ (.int .u32 cr)) 36 w.heap.size (.slice (some ⟨w.heap.size, 0, none⟩) (zs.set ys.length cr).length (ys.length + 1)) (zs.set ys.length cr)) := by
            rw [List.length_set, HS.out.len]; exact HS.out.own.store (by rw [HS.out.len]; omega) _
          have HI2 : Hid (In (wr.setCell ⟨w.heap.size, ys.length, none⟩ (.int .u32 cr)) (some ⟨w.heap.size, 0, none⟩) (ys.length + 1) (zs.set ys.length cr)) :=
            ⟨HO2.out.read.2.2.2, by rw [List.length_set, HS.out.len]; exact Nat.le_refl _, by rw [List.length_set, HS.out.len]; omega, HS.out.wds.set _ hc0 (by omega)⟩
          have HB2 : Hid (Below w.heap.size w (wr.setCell ⟨w.heap.size, ys.length, none⟩ (.int .u32 cr))) := HS.out.below.setCell (Nat.le_refl _) _
          have HL : Hid ((zs.set ys.length cr).length = ys.length + 1) := by rw [List.length_set]; exact HS.out.len
          clear HS
          go_wp2_with fail
          have HC := told_calls _ _ w.heap.size (zs.set ys.length cr) _ HO2.out HI2.out
          rw [HL.out] at HC
          refine HC.mono ?_
          rintro e w2 ⟨⟨v, rfl, ho⟩, rfl⟩
          rw [HV.out] at ho
          go_wp2
          go_ret2
          exact ⟨v, by rw [HF.out, ← HV.out]; rfl, by rw [HF.out]; exact ho, HB2.out⟩
    · have hlb : decide (xs.length < ys.length) = false := by simpa using hl
      go_enter Tryz.func25, Tryz.ntmps25
      go_wp2_with fail
      refine (checked_calls A A' c c' xs ys _ H.out H'.out).mono ?_
      rintro e w1 ⟨rfl, rfl⟩
      go_wp2_with (at_make; refine wp_mk rfl (.tmp 26) (.tmp 26) 22 36 rfl (.int .u32 0) 4 Tryz.underlying22 infoW rfl _ _ (xs.length + 1) rfl rfl (by omega) (by omega) (by omega) (by simp only [maxLen]; omega) ?_)
      have HS : Hid (AddSt w (w.alloc (.cells (reps (xs.length + 1) (.int .u32 0)) 36)) w.heap.size w.heap.size (xs.length + 1) xs ys 0 0 (List.replicate (xs.length + 1) 0)) :=
        ⟨Ow.made w _ _ _ (Nat.le_refl _) (by simp only [maxLen]; omega), by simp, Wds.zeros _, by simp [val], (Below.refl _ _).alloc (Nat.le_refl _) _⟩
      go_loopw [8, 9, 10, 30] (fun cv _ _ i wr => ∃ (k : Nat) (cr : Int) (zs : List Int), k ≤ xs.length ∧ i = .int .i64 k ∧ cv = .int .u64 cr ∧ 0 ≤ cr ∧ cr ≤ 1 ∧ Hid (AddSt w wr w.heap.size w.heap.size (xs.length + 1) xs ys k cr zs)) (fun _ _ _ i _ => xs.length - (intOf i).toNat)
      case atStart => exact ⟨0, 0, _, by omega, rfl, rfl, by omega, by omega, HS⟩
      case round =>
        clear HS
        obtain ⟨k, cr, zs, hk, rfl, rfl, hc0, hc1, HS⟩ := hrel
        by_cases hlt : k < xs.length
        · obtain ⟨ad, rfl, hx⟩ := (H.out.rd.below HS.out.below) k hlt
          have hw := H.out.wds.wd k
          have hw' := H'.out.wds.wd k
          have p1 : 0 ≤ wd xs k := hw.1
          have p2 : wd xs k < 4294967296 := hw.2
          have p3 : 0 ≤ wd ys k := hw'.1
          have p4 : wd ys k < 4294967296 := hw'.2
          have hcell := HS.out.own.cell (i := k) (by rw [HS.out.len]; omega)
          have hfree := HS.out.own.free k
          clear hw hw'
          by_cases hly : k < ys.length
          · obtain ⟨ad', rfl, hy⟩ := (H'.out.rd.below HS.out.below) k hly
            have HT : Hid (∀ s, s = cr + wd xs k + wd ys k → AddSt w (wr.setCell ⟨w.heap.size, k, none⟩ (.int .u32 (s % 4294967296))) w.heap.size w.heap.size (xs.length + 1) xs ys (k + 1) (s / 4294967296) (zs.set k (s % 4294967296))) := fun s hs => HS.out.step (by omega) (Nat.le_refl _) s hs
            clear HS
            go_wp2
            go_roundw
            case rel => exact ⟨k + 1, _, _, by omega, by go_num, rfl, by omega, by omega, HT.out _ rfl⟩
            case measure => simp [intOf]; omega
          · have hz : wd ys k = 0 := wd_ge (by omega)
            have HT : Hid (∀ s, s = cr + wd xs k → AddSt w (wr.setCell ⟨w.heap.size, k, none⟩ (.int .u32 (s % 4294967296))) w.heap.size w.heap.size (xs.length + 1) xs ys (k + 1) (s / 4294967296) (zs.set k (s % 4294967296))) := fun s hs => HS.out.step (by omega) (Nat.le_refl _) s (by rw [hz, hs]; omega)
            clear HS hz
            go_wp2
            go_roundw
            case rel => exact ⟨k + 1, _, _, by omega, by go_num, rfl, by omega, by omega, HT.out _ rfl⟩
            case measure => simp [intOf]; omega
        · obtain rfl : k = xs.length := by omega
          have hcell := HS.out.own.cell (i := xs.length) (by rw [HS.out.len]; omega)
          have hfree := HS.out.own.free xs.length
          have hcm : cr % 4294967296 = cr := by omega
          have HV : Hid (val (zs.set xs.length cr) = val xs + val ys) := by
            have h1 := HS.out.sum
            have h2 := val_split (zs.set xs.length cr) (xs.length + 1)
            rw [val_take_set (by rw [HS.out.len]; omega), List.drop_of_length_le (by rw [List.length_set, HS.out.len]; omega)] at h2
            rw [List.take_of_length_le (l := xs) (by omega), List.take_of_length_le (l := ys) (by omega)] at h1
            simp only [val] at h2
            show val (zs.set xs.length cr) = val xs + val ys
            omega
          have HO2 : Hid (Ow (wr.setCell ⟨w.heap.size, xs.length, none⟩ (.int .u32 cr)) 36 w.heap.size (.slice (some ⟨w.heap.size, 0, none⟩) (zs.set xs.length cr).length (xs.length + 1)) (zs.set xs.length cr)) := by
            rw [List.length_set, HS.out.len]; exact HS.out.own.store (by rw [HS.out.len]; omega) _
          have HI2 : Hid (In (wr.setCell ⟨w.heap.size, xs.length, none⟩ (.int .u32 cr)) (some ⟨w.heap.size, 0, none⟩) (xs.length + 1) (zs.set xs.length cr)) :=
            ⟨HO2.out.read.2.2.2, by rw [List.length_set, HS.out.len]; exact Nat.le_refl _, by rw [List.length_set, HS.out.len]; omega, HS.out.wds.set _ hc0 (by omega)⟩
          have HB2 : Hid (Below w.heap.size w (wr.setCell ⟨w.heap.size, xs.length, none⟩ (.int .u32 cr))) := HS.out.below.setCell (Nat.le_refl _) _
          have HL : Hid ((zs.set xs.length cr).length = xs.length + 1) := by rw [List.length_set]; exact HS.out.len
          clear HS
          go_wp2_with fail
          have HC := told_calls _ _ w.heap.size (zs.set xs.length cr) _ HO2.out HI2.out
          rw [HL.out] at HC
          refine HC.mono ?_
          rintro e w2 ⟨⟨v, rfl, ho⟩, rfl⟩
          rw [HV.out] at ho
          go_wp2
          go_ret2
          exact ⟨v, by rw [HF.out, ← HV.out]; rfl, by rw [HF.out]; exact ho, HB2.out⟩
  · have hb : (chk2 xs ys != 0) = true := by simp [h0]
    have HF : Hid (addS xs ys = ([], chk2 xs ys)) := if_neg h0
    clear h0
    go_enter Tryz.func25, Tryz.ntmps25
    go_wp2_with fail
    refine (checked_calls A A' c c' xs ys _ H.out H'.out).mono ?_
    rintro e w1 ⟨rfl, rfl⟩
    go_wp2
    go_ret2
    exact ⟨_, by rw [HF.out]; rfl, by rw [HF.out]; exact Ow.nil _ _ _, Below.refl _ _⟩

end Go.Proofs.YtgnmmifeojfjlaaGreatDoor
