/- The reference of layer 1: differences, products; what each call does. -/
import Derived.Test.YtidccoahjpjoaaaQRef3
set_option linter.unusedVariables false
set_option linter.unusedSimpArgs false
namespace Go.Proofs.Ytidccoahjpjoaaa
open Go Go.RowKit Q

/-- the state of a difference in new memory -/
structure DifSt (w wr : World) (g N : Nat) (xs ys : List Int) (k : Nat) (c : Int) (zs : List Int) : Prop where
  own : Ow wr 58 w.heap.size (.slice (some ⟨g, 0, none⟩) N N) zs
  len : zs.length = N
  wds : Wds zs
  sum : val (zs.take k) - Bp k * c = val (xs.take k) - val (ys.take k)
  below : Below w.heap.size w wr
theorem DifSt.drewN {w wr : World} {g N : Nat} {xs ys : List Int} {k : Nat} {c : Int} {zs : List Int} (h : DifSt w wr g N xs ys k c zs) (m : Nat) : DifSt w (wr.drewN m) g N xs ys k c zs := ⟨h.own.drewN m, h.len, h.wds, h.sum, below_drewN h.below m⟩
theorem DifSt.step {w wr : World} {g N : Nat} {xs ys : List Int} {k : Nat} {c : Int} {zs : List Int} (h : DifSt w wr g N xs ys k c zs) (hk : k < N) (hg : w.heap.size ≤ g) (t : Int) (ht : t = wd xs k - c - wd ys k) (h0 : -4294967296 ≤ t) (h1 : t < 4294967296) (d c' : Int) (hd : d = t % 4294967296) (hc : c' = if t < 0 then 1 else 0) :
    DifSt w (wr.setCell ⟨g, k, none⟩ (.int .u32 d)) g N xs ys (k + 1) c' (zs.set k d) := by
  have e : c' = (t % 18446744073709551616) / 9223372036854775808 := by rw [hc]; split <;> omega
  subst hd
  rw [e]
  exact {
    own := h.own.store (by rw [h.len]; exact hk) _
    len := by rw [List.length_set]; exact h.len
    wds := h.wds.set _ (by omega) (by omega)
    sum := less_step (by rw [h.len]; exact hk) h.sum t ht h0 h1
    below := h.below.setCell hg _ }

set_option maxHeartbeats 1000000 in
set_option maxRecDepth 100000 in
theorem rLess_calls (A A' : Option Addr) (c c' : Nat) (xs ys : List Int) (w : World) (h : In w A c xs) (h' : In w A' c' ys) (hl8 : xs.length ≤ 1000000) (hl : ys.length ≤ xs.length) (hv : val ys ≤ val xs) :
    Calls Try.prog 82 #[.slice A xs.length c, .slice A' ys.length c'] w fun e w' => ∃ v, e = .returned v ∧ Ow w' 58 w.heap.size v (nwd (val xs - val ys)) ∧ Below w.heap.size w w' := by
  have H := Q.hid h
  have H' := Q.hid h'
  have HL := Q.hid hl
  have HV := Q.hid hv
  have hm' : ys.length ≤ 1000000 := by omega
  have hmm : ys.length ≤ 9223372036854775807 := by omega
  clear h h' hl hv
  have HS : Hid (DifSt w (w.alloc (.cells (reps xs.length (.int .u32 0)) 58)) w.heap.size xs.length xs ys 0 0 (List.replicate xs.length 0)) :=
    ⟨Ow.made w _ _ _ (Nat.le_refl _) (by simp only [maxLen]; omega), by simp, Wds.zeros _, by simp [val], (Below.refl _ _).alloc (Nat.le_refl _) _⟩
  go_enter Try.func82, Try.ntmps82
  go_wp2_with (at_make; refine wp_mk rfl (.tmp 11) (.tmp 11) 22 58 rfl (.int .u32 0) 4 Try.underlying22 infoW rfl _ _ xs.length rfl rfl rfl rfl (by omega) (by simp only [maxLen]; omega) ?_)
  go_loopw [6, 7] (fun cv i wr => ∃ (k : Nat) (cr : Int) (zs : List Int), k ≤ xs.length ∧ i = .int .i64 k ∧ cv = .int .u64 cr ∧ 0 ≤ cr ∧ cr ≤ 1 ∧ Hid (DifSt w wr w.heap.size xs.length xs ys k cr zs)) (fun _ i _ => xs.length - (intOf i).toNat)
  case atStart => exact ⟨0, 0, _, by omega, rfl, rfl, by omega, by omega, HS⟩
  case round =>
    clear HS
    obtain ⟨k, cr, zs, hk, rfl, rfl, hc0, hc1, HS⟩ := hrel
    by_cases hlt : k < xs.length
    · have hw := H.out.wds.wd k
      have hw' := H'.out.wds.wd k
      have p1 : 0 ≤ wd xs k := hw.1
      have p2 : wd xs k < 4294967296 := hw.2
      have p3 : 0 ≤ wd ys k := hw'.1
      have p4 : wd ys k < 4294967296 := hw'.2
      have hcell := HS.out.own.cell (i := k) (by rw [HS.out.len]; omega)
      have hfree := HS.out.own.free k
      obtain ⟨ad, rfl, hx⟩ := (H.out.rd.below HS.out.below) k hlt
      have R' := Q.hid (H'.out.rd.below HS.out.below)
      clear hw hw'
      have hsum : IntKind.u64.wrap (wd ys k + cr) = wd ys k + cr := by rw [IntKind.wrap_u64]; omega
      have q1 : 0 ≤ wd ys k + cr := by omega
      by_cases hxy : wd xs k < wd ys k + cr
      · have hb : decide (wd xs k < wd ys k + cr) = true := by simpa using hxy
        have HT : Hid (∀ m, DifSt w ((wr.drewN m).setCell ⟨w.heap.size, k, none⟩ (.int .u32 (wd xs k + 4294967296 - (wd ys k + cr)))) w.heap.size xs.length xs ys (k + 1) 1 (zs.set k (wd xs k + 4294967296 - (wd ys k + cr)))) := fun m => (HS.out.drewN m).step hlt (Nat.le_refl _) (wd xs k - cr - wd ys k) rfl (by omega) (by omega) _ 1 (by omega) (by rw [if_pos (by omega)])
        clear HS
        go_wp2
        go_quiet ((go_at_call 97; exact rword_quiet A' c' ys k wr _ R'.out hmm))
        clear hsum
        go_wp2
        go_roundw
        case rel => exact ⟨k + 1, _, _, by omega, by go_num, rfl, by omega, by omega, HT.out _⟩
        case measure => simp [intOf]; omega
      · have hb : decide (wd xs k < wd ys k + cr) = false := by simpa using hxy
        have HT : Hid (∀ m, DifSt w ((wr.drewN m).setCell ⟨w.heap.size, k, none⟩ (.int .u32 (wd xs k - (wd ys k + cr)))) w.heap.size xs.length xs ys (k + 1) 0 (zs.set k (wd xs k - (wd ys k + cr)))) := fun m => (HS.out.drewN m).step hlt (Nat.le_refl _) (wd xs k - cr - wd ys k) rfl (by omega) (by omega) _ 0 (by omega) (by rw [if_neg (by omega)])
        clear HS
        go_wp2
        go_quiet ((go_at_call 97; exact rword_quiet A' c' ys k wr _ R'.out hmm))
        clear hsum
        go_wp2
        go_roundw
        case rel => exact ⟨k + 1, _, _, by omega, by go_num, rfl, by omega, by omega, HT.out _⟩
        case measure => simp [intOf]; omega
    · obtain rfl : k = xs.length := by omega
      have HN : Hid (val zs = val xs - val ys) := by
        have h1 := HS.out.sum
        have h2 := HS.out.len
        rw [List.take_of_length_le (l := zs) (by omega), List.take_of_length_le (l := xs) (by omega), List.take_of_length_le (l := ys) (by have := HL.out; omega)] at h1
        have h3 := val_lt HS.out.wds
        rw [h2] at h3
        have h4 := HV.out
        have h5 := Bp_pos xs.length
        show val zs = val xs - val ys
        rcases (by omega : cr = 0 ∨ cr = 1) with rfl | rfl
        · simp at h1; omega
        · rw [Int.mul_one] at h1; omega
      have HLZ : Hid (zs.length = xs.length) := HS.out.len
      have HI : Hid (In wr (some ⟨w.heap.size, 0, none⟩) xs.length zs) := ⟨HS.out.own.read.2.2.2, by rw [HLZ.out]; exact Nat.le_refl _, by rw [HLZ.out]; omega, HS.out.wds⟩
      have HT : Hid (trim zs = nwd (val xs - val ys)) := nwd_trim HS.out.wds HN.out
      have HB := Q.hid HS.out.below
      clear HS
      go_wp2_with fail
      have HC := rTrim_calls (some ⟨w.heap.size, 0, none⟩) xs.length zs _ HI.out
      rw [HLZ.out, HT.out] at HC
      refine HC.mono ?_
      rintro e w2 ⟨v, rfl, ho, hb⟩
      go_wp2
      go_ret
      exact ⟨v, rfl, ho.mono HB.out.size, bs2 HB.out hb⟩


theorem MulIn.drewN {w wr : World} {g N : Nat} {xs ys : List Int} {i k : Nat} {c : Int} {zs : List Int} (h : MulIn w wr g N xs ys i k c zs) (m : Nat) : MulIn w (wr.drewN m) g N xs ys i k c zs := ⟨h.own.drewN m, h.len, h.wds, h.zero, h.sum, below_drewN h.below m⟩

set_option maxHeartbeats 2000000 in
set_option maxRecDepth 100000 in
theorem Times_calls (A A' : Option Addr) (c c' : Nat) (xs ys : List Int) (w : World) (h : In w A c xs) (h' : In w A' c' ys) (hl : xs.length ≤ 1000000) (hl' : ys.length ≤ 1000000) :
    Calls Try.prog 74 #[.slice A xs.length c, .slice A' ys.length c'] w fun e w' => ∃ v, e = .returned v ∧ Ow w' 58 w.heap.size v (nwd (val xs * val ys)) ∧ Below w.heap.size w w' := by
  have H := Q.hid h
  have H' := Q.hid h'
  clear h h'
  obtain ⟨N, hN⟩ : ∃ N : Nat, N = xs.length + ys.length := ⟨_, rfl⟩
  have hNi : (xs.length : Int) + (ys.length : Int) = (N : Int) := by omega
  have HN := Q.hid hN
  have HS : Hid (MulSt w (w.alloc (.cells (reps N (.int .u32 0)) 58)) w.heap.size N xs ys 0 (List.replicate N 0)) :=
    ⟨Ow.made w _ _ _ (Nat.le_refl _) (by simp only [maxLen]; omega), by simp, Wds.zeros _, fun j _ => wd_zeros _ _, by rw [val_zeros]; simp [val], (Below.refl _ _).alloc (Nat.le_refl _) _⟩
  have hN8 : N ≤ 2000000 := by omega
  clear hN
  go_enter Try.func74, Try.ntmps74
  go_wp2_with (at_make; refine wp_mk rfl (.tmp 14) (.tmp 14) 22 58 rfl (.int .u32 0) 4 Try.underlying22 infoW rfl _ _ N rfl rfl rfl rfl (by omega) (by simp only [maxLen]; omega) ?_)
  go_loopw [6] (fun i wr => ∃ (k : Nat) (zs : List Int), k ≤ xs.length ∧ i = .int .i64 k ∧ Hid (MulSt w wr w.heap.size N xs ys k zs)) (fun i _ => xs.length - (intOf i).toNat)
  case atStart => exact ⟨0, _, by omega, rfl, HS⟩
  case round =>
    clear HS
    obtain ⟨i, zs, hi, rfl, HS⟩ := hrel
    by_cases hlt : i < xs.length
    · have hw := H.out.wds.wd i
      have p1 : 0 ≤ wd xs i := hw.1
      have p2 : wd xs i < 4294967296 := hw.2
      clear hw
      have HT : Hid (MulIn w wr w.heap.size N xs ys i 0 0 zs) := HS.out.begin
      clear HS
      obtain ⟨wo, hwo⟩ : ∃ wo : World, wo = wr := ⟨_, rfl⟩
      subst hwo
      go_wp2
      go_loopw [7, 8] (fun cv i2 wr => ∃ (k : Nat) (cr : Int) (zs : List Int), k ≤ ys.length ∧ i2 = .int .i64 k ∧ cv = .int .u64 cr ∧ 0 ≤ cr ∧ cr < 4294967296 ∧ Hid (MulIn w wr w.heap.size N xs ys i k cr zs)) (fun _ i2 _ => ys.length - (intOf i2).toNat)
      case atStart => exact ⟨0, 0, zs, by omega, rfl, rfl, by omega, by omega, HT⟩
      case round =>
        clear HT
        obtain ⟨k, cr, zs, hk, rfl, rfl, hc0, hc1, HT⟩ := hrel
        by_cases hky : k < ys.length
        · obtain ⟨ad, rfl, hx⟩ := (H.out.rd.below HT.out.below) i hlt
          obtain ⟨ad', rfl, hy⟩ := (H'.out.rd.below HT.out.below) k hky
          have hw := H'.out.wds.wd k
          have p3 : 0 ≤ wd ys k := hw.1
          have p4 : wd ys k < 4294967296 := hw.2
          have hz := HT.out.wds.wd (i + k)
          have p5 : 0 ≤ wd zs (i + k) := hz.1
          have p6 : wd zs (i + k) < 4294967296 := hz.2
          have hpm := mul_le (wd xs i) (wd ys k) p1 p2 p3 p4
          have p7 : 0 ≤ wd xs i * wd ys k := hpm.1
          have p8 : wd xs i * wd ys k ≤ 18446744065119617025 := hpm.2
          have hcell := HT.out.own.cell (i := i + k) (by rw [HT.out.len, HN.out]; omega)
          have hfree := HT.out.own.free (i + k)
          have hik : i + k < N := by rw [HN.out]; omega
          have hik2 : ((i : Int) + (k : Int)).toNat = i + k := by omega
          clear hw hz hpm
          have HT2 : Hid (∀ m s, s = wd xs i * wd ys k + wd zs (i + k) + cr → MulIn w ((wr.drewN m).setCell ⟨w.heap.size, i + k, none⟩ (.int .u32 (s % 4294967296))) w.heap.size N xs ys i (k + 1) (s / 4294967296) (zs.set (i + k) (s % 4294967296))) := fun m s hs => (HT.out.drewN m).step HN.out hlt hky (Nat.le_refl _) s (by omega)
          clear HT
          go_wp2
          go_quiet (fail)
          go_wp2
          go_roundw
          case rel => exact ⟨k + 1, _, _, by omega, by go_num, rfl, by omega, by omega, HT2.out _ _ rfl⟩
          case measure => simp [intOf]; omega
        · obtain rfl : k = ys.length := by omega
          have hcell := HT.out.own.cell (i := i + ys.length) (by rw [HT.out.len, HN.out]; omega)
          have hfree := HT.out.own.free (i + ys.length)
          have hik : i + ys.length < N := by rw [HN.out]; omega
          have hik2 : ((i : Int) + (ys.length : Int)).toNat = i + ys.length := by omega
          have hcm : cr % 4294967296 = cr := by omega
          have HT2 : Hid (MulSt w (wr.setCell ⟨w.heap.size, i + ys.length, none⟩ (.int .u32 cr)) w.heap.size N xs ys (i + 1) (zs.set (i + ys.length) cr)) := HT.out.done HN.out hlt (Nat.le_refl _) hc0 hc1
          clear HT
          go_wp2
          go_roundw
          case rel => exact ⟨i + 1, _, by omega, by go_num, HT2⟩
          case measure => simp [intOf]; omega
    · obtain rfl : i = xs.length := by omega
      have HV : Hid (val zs = val xs * val ys) := by have := HS.out.sum; rw [List.take_length] at this; exact this
      have HL : Hid (zs.length = N) := HS.out.len
      have HI : Hid (In wr (some ⟨w.heap.size, 0, none⟩) N zs) := ⟨HS.out.own.read.2.2.2, by rw [HL.out]; exact Nat.le_refl _, by rw [HL.out]; omega, HS.out.wds⟩
      have HT : Hid (trim zs = nwd (val xs * val ys)) := nwd_trim HS.out.wds HV.out
      have HB := Q.hid HS.out.below
      clear HS
      go_wp2_with fail
      have HC := rTrim_calls (some ⟨w.heap.size, 0, none⟩) N zs _ HI.out
      rw [HL.out, HT.out] at HC
      refine HC.mono ?_
      rintro e w2 ⟨v, rfl, ho, hb⟩
      go_wp2
      go_ret
      exact ⟨v, rfl, ho.mono HB.out.size, bs2 HB.out hb⟩


end Go.Proofs.Ytidccoahjpjoaaa
