/- The reference of layer 1: quotients by a word, shifts. -/
import Derived.Test.YtidccoahjpjoaaaQRef4
import Derived.Test.YtidccoahjpjoaaaQNat9
set_option linter.unusedVariables false
set_option linter.unusedSimpArgs false
namespace Go.Proofs.Ytidccoahjpjoaaa
open Go Go.RowKit Q

set_option maxHeartbeats 1000000 in
set_option maxRecDepth 100000 in
theorem rsmall_calls (A : Option Addr) (c : Nat) (xs : List Int) (d : Int) (w : World) (hx : In w A c xs) (hl : xs.length ≤ 1000000) (hd0 : 0 < d) (hd1 : d < 4294967296) :
    Calls Try.prog 83 #[.slice A xs.length c, .int .u32 d] w fun e w' => ∃ v, e = .returned (.tuple #[v, .int .u32 (val xs % d)]) ∧ Ow w' 58 w.heap.size v (nwd (val xs / d)) ∧ Below w.heap.size w w' := by
  have H := Q.hid hx
  have HS : Hid (SmV xs d (List.replicate xs.length 0) xs.length 0) := SmV.start (by simp) (Wds.zeros _) hd0
  have HO : Hid (Ow (w.alloc (.cells (reps xs.length (.int .u32 0)) 58)) 58 w.heap.size (.slice (some ⟨w.heap.size, 0, none⟩) xs.length xs.length) (List.replicate xs.length 0)) := Ow.made w _ _ _ (Nat.le_refl _) (by simp only [maxLen]; omega)
  have HB : Hid (Below w.heap.size w (w.alloc (.cells (reps xs.length (.int .u32 0)) 58))) := (Below.refl _ _).alloc (Nat.le_refl _) _
  clear hx
  go_enter Try.func83, Try.ntmps83
  go_wp2_with (at_make; refine wp_mk rfl (.tmp 11) (.tmp 11) 22 58 rfl (.int .u32 0) 4 Try.underlying22 infoW rfl _ _ xs.length rfl rfl rfl rfl (by omega) (by simp only [maxLen]; omega) ?_)
  go_loopw [7, 8] (fun rv i wr => ∃ (k : Nat) (r : Int) (zs : List Int), k ≤ xs.length ∧ i = .int .i64 ((k : Int) - 1) ∧ rv = .int .u64 r ∧ 0 ≤ r ∧ r < d ∧ Hid (Ow wr 58 w.heap.size (.slice (some ⟨w.heap.size, 0, none⟩) xs.length xs.length) zs) ∧ Hid (SmV xs d zs k r) ∧ Hid (Below w.heap.size w wr)) (fun _ i _ => (intOf i + 1).toNat)
  case atStart => exact ⟨xs.length, 0, _, by omega, rfl, rfl, by omega, by omega, HO, HS, HB⟩
  case round =>
    clear HO HS HB
    obtain ⟨k, r, zs, hk, rfl, rfl, hr0, hr1, HO, HS, HB⟩ := hrel
    by_cases hk0 : 0 < k
    · obtain ⟨j, rfl⟩ : ∃ j, k = j + 1 := ⟨k - 1, by omega⟩
      have hj : j < xs.length := by omega
      have hkj : ((j + 1 : Nat) : Int) - 1 = (j : Int) := by omega
      obtain ⟨ad, rfl, hx⟩ := (H.out.rd.below HB.out) j hj
      have p1 : 0 ≤ wd xs j := (H.out.wds.wd j).1
      have p2 : wd xs j < 4294967296 := (H.out.wds.wd j).2
      have hcell := HO.out.cell (i := j) (by rw [HS.out.len]; omega)
      have hfree := HO.out.free j
      obtain ⟨t, ht⟩ : ∃ t : Int, t = r * 4294967296 + wd xs j := ⟨_, rfl⟩
      have ht0 : 0 ≤ t := by omega
      have hbn := HS.out.bnd H.out.wds
      have HS2 := Q.hid (HS.out.step hj H.out.wds)
      have m0 : 0 ≤ (r * 4294967296 + wd xs j) % d := Int.emod_nonneg _ (by omega)
      have m1 : (r * 4294967296 + wd xs j) % d < d := Int.emod_lt_of_pos _ hd0
      have q1 := hbn.1
      have q2 := hbn.2
      have HO2 : Hid (Ow (wr.setCell ⟨w.heap.size, j, none⟩ (.int .u32 ((r * 4294967296 + wd xs j) / d))) 58 w.heap.size (.slice (some ⟨w.heap.size, 0, none⟩) xs.length xs.length) (zs.set j ((r * 4294967296 + wd xs j) / d))) := HO.out.store (by rw [HS.out.len]; omega) _
      have HB2 : Hid (Below w.heap.size w (wr.setCell ⟨w.heap.size, j, none⟩ (.int .u32 ((r * 4294967296 + wd xs j) / d)))) := HB.out.setCell (Nat.le_refl _) _
      clear HO HS HB hbn ht
      rw [hkj]
      go_wp2
      go_roundw
      case rel => exact ⟨j, _, _, by omega, rfl, rfl, m0, m1, HO2, HS2, HB2⟩
      case measure => simp [intOf]
    · obtain rfl : k = 0 := by omega
      have HF : Hid (val zs = val xs / d ∧ r = val xs % d) := HS.out.fin
      have HLZ : Hid (zs.length = xs.length) := HS.out.len
      have HI : Hid (In wr (some ⟨w.heap.size, 0, none⟩) xs.length zs) := ⟨HO.out.read.2.2.2, by rw [HLZ.out]; exact Nat.le_refl _, by rw [HLZ.out]; omega, HS.out.wds⟩
      have HT : Hid (trim zs = nwd (val xs / d)) := nwd_trim HS.out.wds HF.out.1
      have h0k : ((0 : Nat) : Int) - 1 = -1 := rfl
      clear HO HS
      rw [h0k]
      go_wp2_with fail
      have HC := rTrim_calls (some ⟨w.heap.size, 0, none⟩) xs.length zs _ HI.out
      rw [HLZ.out, HT.out] at HC
      refine HC.mono ?_
      rintro e w2 ⟨v, rfl, ho, hb⟩
      go_wp2
      go_ret2
      exact ⟨v, by rw [← HF.out.2]; rfl, ho.mono HB.out.size, bs2 HB.out hb⟩

theorem Bp_two (m : Nat) : Bp m = 2 ^ (32 * m) := by
  unfold Bp
  rw [show (4294967296 : Int) = 2 ^ 32 by rfl, ← Int.pow_mul]
theorem two_parts (n : Nat) : (2 : Int) ^ n = 2 ^ (n % 32) * Bp (n / 32) := by
  rw [Bp_two, ← Int.pow_add]
  congr 1; omega

set_option maxHeartbeats 1000000 in
set_option maxRecDepth 100000 in
theorem rUp_calls (A : Option Addr) (c n : Nat) (xs : List Int) (w : World) (h : In w A c xs) (hl : xs.length ≤ 1000000) (hn : n ≤ 1000000) :
    Calls Try.prog 86 #[.slice A xs.length c, .int .i64 n] w fun e w' => ∃ v, e = .returned v ∧ Ow w' 58 w.heap.size v (nwd (val xs * 2 ^ n)) ∧ Below w.heap.size w w' := by
  have H := Q.hid h
  clear h
  by_cases h0 : xs.length = 0
  · have hb : ((xs.length : Int) == 0) = true := beq_iff_eq.2 (by omega)
    have HR : Hid (nwd (val xs * 2 ^ n) = []) := by
      rw [List.eq_nil_of_length_eq_zero h0]; show nwd (0 * 2 ^ n) = []; rw [Int.zero_mul]; exact nwd_zero
    clear h0
    go_enter Try.func86, Try.ntmps86
    go_wp2
    go_ret
    exact ⟨_, rfl, by rw [HR.out]; exact Ow.nil _ _ _, Below.refl _ _⟩
  · have hb : ((xs.length : Int) == 0) = false := beq_eq_false_iff_ne.2 (by omega)
    obtain ⟨m, hm⟩ : ∃ m : Nat, m = n / 32 := ⟨_, rfl⟩
    obtain ⟨s, hs⟩ : ∃ s : Nat, s = n % 32 := ⟨_, rfl⟩
    have hs32 : s < 32 := by omega
    have hq1 : (n : Int) / 32 = (m : Int) := by omega
    have hq2 : (n : Int).tdiv 32 = (m : Int) := by rw [tdiv_of_nonneg (by omega)]; omega
    have hq3 : (n : Int) % 32 = (s : Int) := by omega
    have hq4 : (n : Int).tmod 32 = (s : Int) := by rw [tmod_of_nonneg (by omega)]; omega
    have hm0 : m ≤ 1000000 := by omega
    have HV : Hid ((2 : Int) ^ n = 2 ^ s * Bp m) := by rw [hs, hm]; exact two_parts n
    have HS : Hid (UpV xs s m (List.replicate (xs.length + m + 1) 0) 0) := UpV.start xs s m
    obtain ⟨N, hN⟩ : ∃ N : Nat, N = xs.length + m + 1 := ⟨_, rfl⟩
    have hNi : (xs.length : Int) + (m : Int) + 1 = (N : Int) := by omega
    have HN := Q.hid hN
    have hN1 : N ≤ 2000001 := by omega
    rw [← hN] at HS
    have HO : Hid (Ow (w.alloc (.cells (reps N (.int .u32 0)) 58)) 58 w.heap.size (.slice (some ⟨w.heap.size, 0, none⟩) N N) (List.replicate N 0)) := Ow.made w _ _ _ (Nat.le_refl _) (by simp only [maxLen]; omega)
    have HB : Hid (Below w.heap.size w (w.alloc (.cells (reps N (.int .u32 0)) 58))) := (Below.refl _ _).alloc (Nat.le_refl _) _
    clear h0 hm hs hN
    go_enter Try.func86, Try.ntmps86
    go_wp2_with (at_make; refine wp_mk rfl (.tmp 16) (.tmp 16) 22 58 rfl (.int .u32 0) 4 Try.underlying22 infoW rfl _ _ N rfl rfl (by omega) (by omega) (by omega) (by simp only [maxLen]; omega) ?_)
    go_loopw [6] (fun i wr => ∃ (k : Nat) (zs : List Int), k ≤ xs.length ∧ i = .int .i64 k ∧ Hid (UpV xs s m zs k) ∧ Hid (Ow wr 58 w.heap.size (.slice (some ⟨w.heap.size, 0, none⟩) N N) zs) ∧ Hid (Below w.heap.size w wr)) (fun i _ => xs.length - (intOf i).toNat)
    case atStart => exact ⟨0, _, by omega, rfl, HS, HO, HB⟩
    case round =>
      clear HS HO HB
      obtain ⟨k, zs, hk, rfl, HS, HO, HB⟩ := hrel
      by_cases hlt : k < xs.length
      · obtain ⟨ad, rfl, hx⟩ := (H.out.rd.below HB.out) k hlt
        have p1 : 0 ≤ wd xs k := (H.out.wds.wd k).1
        have p2 : wd xs k < 4294967296 := (H.out.wds.wd k).2
        have hzl : zs.length = N := by rw [HS.out.len, HN.out]
        have hkm : k + m + 1 < N := by rw [HN.out]; omega
        have hcell := HO.out.cell (i := k + m) (by omega)
        have hfree := HO.out.free (k + m)
        obtain ⟨a0, a1, a2, a3, a4, a5, a6⟩ := up_parts hs32 p1 p2
        have z0 := (HS.out.wds.wd (k + m)).1
        have z1 : wd zs (k + m) < 2 ^ s := HS.out.low
        have HS2 := Q.hid (HS.out.step hs32 H.out.wds hlt)
        generalize ht : wd xs k * 2 ^ s = t at *
        have b0 : 0 ≤ wd zs (k + m) + t % 4294967296 := by omega
        have b1 : wd zs (k + m) + t % 4294967296 < 4294967296 := by omega
        have b2 : t / 4294967296 < 4294967296 := by omega
        have hwr : IntKind.u64.wrap t = t := by rw [IntKind.wrap_u64]; omega
        obtain ⟨y, hy⟩ : ∃ y : Int, y = wd zs (k + m) + t % 4294967296 := ⟨_, rfl⟩
        rw [← hy] at HS2
        have hys : wd zs (k + m) + t % 4294967296 = y := hy.symm
        have HO2 := HO.out.store (i := k + m) (by omega) y
        have HO3 : Hid (Ow ((wr.setCell ⟨w.heap.size, k + m, none⟩ (.int .u32 y)).setCell ⟨w.heap.size, k + m + 1, none⟩ (.int .u32 (t / 4294967296))) 58 w.heap.size (.slice (some ⟨w.heap.size, 0, none⟩) N N) ((zs.set (k + m) y).set (k + m + 1) (t / 4294967296))) := HO2.store (by simp; omega) _
        have hcell2 := HO2.cell (i := k + m + 1) (by simp; omega)
        have hfree2 := HO2.free (k + m + 1)
        have HB2 : Hid (Below w.heap.size w ((wr.setCell ⟨w.heap.size, k + m, none⟩ (.int .u32 y)).setCell ⟨w.heap.size, k + m + 1, none⟩ (.int .u32 (t / 4294967296)))) := (HB.out.setCell (Nat.le_refl _) _).setCell (Nat.le_refl _) _
        have n1 : ((k : Int) + (m : Int)).toNat = k + m := by omega
        have n2 : ((k : Int) + (m : Int) + 1).toNat = k + m + 1 := by omega
        clear HO2 HS HO HB z0 z1 hzl hy a6 a5 a4 a3
        go_wp2
        go_roundw
        case rel => exact ⟨k + 1, _, by omega, by go_num, HS2, HO3, HB2⟩
        case measure => simp [intOf]; omega
      · obtain rfl : k = xs.length := by omega
        have HZL : Hid (zs.length = N) := by show zs.length = N; rw [HS.out.len, HN.out]
        have HI : Hid (In wr (some ⟨w.heap.size, 0, none⟩) N zs) := ⟨HO.out.read.2.2.2, by rw [HZL.out]; exact Nat.le_refl _, by rw [HZL.out]; omega, HS.out.wds⟩
        have HT : Hid (trim zs = nwd (val xs * 2 ^ n)) := by rw [HV.out]; exact nwd_trim HS.out.wds HS.out.fin
        clear HO HS
        go_wp2_with fail
        have HC := rTrim_calls (some ⟨w.heap.size, 0, none⟩) N zs _ HI.out
        rw [HZL.out, HT.out] at HC
        refine HC.mono ?_
        rintro e w2 ⟨v, rfl, ho, hb⟩
        go_wp2
        go_ret
        exact ⟨v, rfl, ho.mono HB.out.size, bs2 HB.out hb⟩

theorem add_add (a : Addr) (m i : Nat) : (a.add m).add i = a.add (m + i) := by
  rcases Nat.eq_zero_or_pos i with h | h
  · subst h; rw [add_zero', Nat.add_zero]
  · rcases Nat.eq_zero_or_pos m with h2 | h2
    · subst h2; rw [add_zero', Nat.zero_add]
    · rw [add_pos' _ i h, add_pos' a m h2, add_pos' a (m + i) (by omega), Nat.add_assoc]
theorem in_drop {w : World} {a : Addr} {c : Nat} {xs : List Int} (h : In w (some a) c xs) (m : Nat) : In w (some (a.add m)) (c - m) (xs.drop m) :=
  ⟨fun i hi => by
    rw [List.length_drop] at hi
    obtain ⟨ad, e, hc⟩ := h.rd (m + i) (by omega)
    cases e
    exact ⟨_, rfl, by rw [add_add, wd_drop]; exact hc⟩, by rw [List.length_drop]; have := h.cap; omega, by rw [List.length_drop]; have := h.small; omega, h.wds.drop m⟩
theorem shift_down (xs : List Int) (hx : Wds xs) (n : Nat) : val xs / 2 ^ n = val (xs.drop (n / 32)) / 2 ^ (n % 32) := by
  have e : val xs / Bp (n / 32) / 2 ^ (n % 32) = val xs / (Bp (n / 32) * 2 ^ (n % 32)) := by
    rw [Int.ediv_ediv, if_neg (fun h => by have := Bp_pos (n / 32); omega), Int.sub_zero]
  rw [two_parts, Int.mul_comm, ← e]
  congr 1
  have h := val_split xs (n / 32)
  have h0 := val_nonneg (hx.take (n / 32))
  have h1 := val_take_lt hx (n / 32)
  exact ((div_unique (x := val xs) (d := Bp (n / 32)) (q := val (xs.drop (n / 32))) (r := val (xs.take (n / 32))) (by omega) h0 h1).1).symm

set_option maxHeartbeats 1000000 in
set_option maxRecDepth 100000 in
theorem rDown_calls (A : Option Addr) (c n : Nat) (xs : List Int) (w : World) (h : In w A c xs) (hl : xs.length ≤ 1000000) (hn : n ≤ 1000000) :
    Calls Try.prog 88 #[.slice A xs.length c, .int .i64 n] w fun e w' => ∃ v, e = .returned v ∧ Ow w' 58 w.heap.size v (nwd (val xs / 2 ^ n)) ∧ Below w.heap.size w w' := by
  have H := Q.hid h
  obtain ⟨m, hm⟩ : ∃ m : Nat, m = n / 32 := ⟨_, rfl⟩
  obtain ⟨s, hs⟩ : ∃ s : Nat, s = n % 32 := ⟨_, rfl⟩
  have hs32 : s < 32 := by omega
  have hq1 : (n : Int) / 32 = (m : Int) := by omega
  have hq2 : (n : Int).tdiv 32 = (m : Int) := by rw [tdiv_of_nonneg (by omega)]; omega
  have hq3 : (n : Int) % 32 = (s : Int) := by omega
  have hq4 : (n : Int).tmod 32 = (s : Int) := by rw [tmod_of_nonneg (by omega)]; omega
  have HV : Hid (val xs / 2 ^ n = val (xs.drop m) / 2 ^ s) := by rw [hs, hm]; exact shift_down xs h.wds n
  by_cases h0 : xs.length ≤ m
  · have HR : Hid (nwd (val xs / 2 ^ n) = []) := by
      rw [HV.out, List.drop_of_length_le h0]; show nwd (0 / 2 ^ s) = []; rw [Int.zero_ediv]; exact nwd_zero
    have hb : decide (m ≥ xs.length) = true := decide_eq_true h0
    clear hm hs h
    go_enter Try.func88, Try.ntmps88
    go_wp2
    go_ret
    exact ⟨_, rfl, by rw [HR.out]; exact Ow.nil _ _ _, Below.refl _ _⟩
  · have hb : decide (m ≥ xs.length) = false := decide_eq_false h0
    have hmx : m < xs.length := by omega
    obtain ⟨ad, rfl, _⟩ := h.rd m hmx
    have hcap : xs.length ≤ c := h.cap
    obtain ⟨ys, hys⟩ : ∃ ys, ys = xs.drop m := ⟨_, rfl⟩
    have HI : Hid (In w (some (ad.add m)) (c - m) ys) := by rw [hys]; exact in_drop h m
    have hyl : xs.length - m = ys.length := by rw [hys, List.length_drop]
    rw [← hys] at HV
    have HS : Hid (DnV ys s (List.replicate ys.length 0) 0) := DnV.start s (by simp) (Wds.zeros _)
    have hyl2 : ys.length ≤ 1000000 := by omega
    have hyp : 0 < ys.length := by omega
    have HO : Hid (Ow (w.alloc (.cells (reps ys.length (.int .u32 0)) 58)) 58 w.heap.size (.slice (some ⟨w.heap.size, 0, none⟩) ys.length ys.length) (List.replicate ys.length 0)) := Ow.made w _ _ _ (Nat.le_refl _) (by simp only [maxLen]; omega)
    have HB : Hid (Below w.heap.size w (w.alloc (.cells (reps ys.length (.int .u32 0)) 58))) := (Below.refl _ _).alloc (Nat.le_refl _) _
    clear hm hs h h0 hys
    go_enter Try.func88, Try.ntmps88
    go_wp2_with (at_make; refine wp_mk rfl (.tmp 19) (.tmp 19) 22 58 rfl (.int .u32 0) 4 Try.underlying22 infoW rfl _ _ ys.length rfl rfl rfl rfl (by omega) (by simp only [maxLen]; omega) ?_)
    go_loopw [7] (fun i wr => ∃ (k : Nat) (zs : List Int), k ≤ ys.length ∧ i = .int .i64 k ∧ Hid (DnV ys s zs k) ∧ Hid (Ow wr 58 w.heap.size (.slice (some ⟨w.heap.size, 0, none⟩) ys.length ys.length) zs) ∧ Hid (Below w.heap.size w wr)) (fun i _ => ys.length - (intOf i).toNat)
    case atStart => exact ⟨0, _, by omega, rfl, HS, HO, HB⟩
    case round =>
      clear HS HO HB
      obtain ⟨k, zs, hk, rfl, HS, HO, HB⟩ := hrel
      by_cases hlt : k < ys.length
      · obtain ⟨ad2, e2, hx⟩ := (HI.out.rd.below HB.out) k hlt
        cases e2
        have p1 : 0 ≤ wd ys k := (HI.out.wds.wd k).1
        have p2 : wd ys k < 4294967296 := (HI.out.wds.wd k).2
        have p3 : 0 ≤ wd ys (k + 1) := (HI.out.wds.wd (k + 1)).1
        have p4 : wd ys (k + 1) < 4294967296 := (HI.out.wds.wd (k + 1)).2
        have hcell := HO.out.cell (i := k) (by rw [HS.out.len]; exact hlt)
        have hfree := HO.out.free k
        have hdn := dn_parts hs32 p1 p2 p3 p4
        have HS2 := Q.hid (HS.out.step hs32 HI.out.wds hlt)
        obtain ⟨t, ht⟩ : ∃ t : Int, t = wd ys (k + 1) * 4294967296 + wd ys k := ⟨_, rfl⟩
        have ht2 : wd ys k + wd ys (k + 1) * 4294967296 = t := by omega
        rw [ht2] at hdn HS2
        have hts : IntKind.u64.wrap (wd ys (k + 1) * 4294967296 + wd ys k) = t := by rw [IntKind.wrap_u64]; omega
        have t0 : 0 ≤ t := by omega
        have t1 : t < 18446744073709551616 := by omega
        have q0 : 0 ≤ t / 2 ^ s := hdn.1
        have HO2 : Hid (∀ q, Ow ((wr.drewN q).setCell ⟨w.heap.size, k, none⟩ (.int .u32 (t / 2 ^ s % 4294967296))) 58 w.heap.size (.slice (some ⟨w.heap.size, 0, none⟩) ys.length ys.length) (zs.set k (t / 2 ^ s % 4294967296))) := fun q => (HO.out.drewN q).store (by rw [HS.out.len]; exact hlt) _
        have HB2 : Hid (∀ q, Below w.heap.size w ((wr.drewN q).setCell ⟨w.heap.size, k, none⟩ (.int .u32 (t / 2 ^ s % 4294967296)))) := fun q => (below_drewN HB.out q).setCell (Nat.le_refl _) _
        have R := Q.hid (HI.out.rd.below HB.out)
        have k1 : IntKind.i64.wrap ((k : Int) + 1) = ((k + 1 : Nat) : Int) := by rw [IntKind.wrap_i64]; omega
        clear HS HO HB hdn ht2
        go_wp2
        go_quiet ((go_at_call 97; exact rword_quiet (some (ad.add m)) (c - m) ys (k + 1) wr _ R.out (by omega)))
        rw [← ht]
        clear ht hts
        go_wp2
        go_roundw
        case rel => exact ⟨k + 1, _, by omega, by go_num, HS2, HO2.out _, HB2.out _⟩
        case measure => simp [intOf]; omega
      · obtain rfl : k = ys.length := by omega
        have HZL : Hid (zs.length = ys.length) := HS.out.len
        have HI : Hid (In wr (some ⟨w.heap.size, 0, none⟩) ys.length zs) := ⟨HO.out.read.2.2.2, by rw [HZL.out]; exact Nat.le_refl _, by rw [HZL.out]; omega, HS.out.wds⟩
        have HT : Hid (trim zs = nwd (val xs / 2 ^ n)) := by rw [HV.out]; exact nwd_trim HS.out.wds HS.out.fin
        clear HO HS
        go_wp2_with fail
        have HC := rTrim_calls (some ⟨w.heap.size, 0, none⟩) ys.length zs _ HI.out
        rw [HZL.out, HT.out] at HC
        refine HC.mono ?_
        rintro e w2 ⟨v, rfl, ho, hb⟩
        go_wp2
        go_ret
        exact ⟨v, rfl, ho.mono HB.out.size, bs2 HB.out hb⟩
end Go.Proofs.Ytidccoahjpjoaaa
