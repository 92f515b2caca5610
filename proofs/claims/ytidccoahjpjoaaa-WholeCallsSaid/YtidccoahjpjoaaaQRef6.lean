/- The reference of layer 1: quotients by hand; what each call does. -/
import Derived.Test.YtidccoahjpjoaaaQRef5
set_option linter.unusedVariables false
set_option linter.unusedSimpArgs false
namespace Go.Proofs.Ytidccoahjpjoaaa
open Go Go.RowKit Q

theorem nwd64_len {x : Int} (hx0 : 0 ≤ x) (hx1 : x < 18446744073709551616) : (nwd x).length ≤ 2 := by
  have : Bp 2 = 18446744073709551616 := by decide
  exact nwd_len_le (by omega) hx0
theorem of64_nwd {x : Int} (hx0 : 0 ≤ x) (hx1 : x < 18446744073709551616) : of64 x = nwd x := (nwd_eq (of64_wds hx0 hx1) (of64_tr _) (of64_val _)).symm
theorem prod_len {ys : List Int} {x : Int} (hy : Wds ys) (hx0 : 0 ≤ x) (hx1 : x < 18446744073709551616) : (nwd (val ys * x)).length ≤ ys.length + 2 := by
  have h2 : Bp 2 = 18446744073709551616 := by decide
  have h0 := val_nonneg hy
  refine nwd_len_le ?_ (Int.mul_nonneg h0 hx0)
  rw [Bp_add, h2]
  have h1 := val_lt hy
  have h3 : val ys * x ≤ val ys * 18446744073709551616 := Int.mul_le_mul_of_nonneg_left (by omega) h0
  omega
theorem cmp_neg (x y : Int) : decide (cmp x y < 0) = decide (x < y) := by
  by_cases h : x < y
  · rw [cmp_lt h, decide_eq_true h]; rfl
  · rw [decide_eq_false h]
    rcases Int.lt_or_eq_of_le (Int.not_lt.1 h) with h1 | h1
    · rw [cmp_gt h1]; rfl
    · rw [cmp_eq h1.symm]; rfl

set_option maxHeartbeats 1000000 in
theorem below_calls (A A' : Option Addr) (c c' : Nat) (us ys : List Int) (x : Int) (w : World) (h : In w A c us) (h' : In w A' c' ys) (hl' : ys.length ≤ 1000000) (hx0 : 0 ≤ x) (hx1 : x < 18446744073709551616) :
    Calls Try.prog 98 #[.slice A us.length c, .slice A' ys.length c', .int .u64 x] w fun e w' => e = .returned (.bool (decide (val us < val ys * x))) ∧ Below w.heap.size w w' := by
  have H := Q.hid h
  have H' := Q.hid h'
  have hpl : (nwd (val ys * x)).length ≤ ys.length + 2 := prod_len h'.wds hx0 hx1
  have hxl : (nwd x).length ≤ 2 := nwd64_len hx0 hx1
  have HX : Hid (of64 x = nwd x) := of64_nwd hx0 hx1
  have HVX : Hid (val (nwd x) = x) := val_nwd hx0
  have HVP : Hid (val (nwd (val ys * x)) = val ys * x) := val_nwd (Int.mul_nonneg (val_nonneg h'.wds) hx0)
  clear h h'
  go_enter Try.func98, Try.ntmps98
  go_wp2_with fail
  refine (rOf_calls x _ hx0 hx1).mono ?_
  rintro e w1 ⟨v1, rfl, ho, hb⟩
  rw [HX.out] at ho
  obtain ⟨A1, c1, e1, i1⟩ := nwd_inn ho (by omega)
  subst e1
  have HB1 := Q.hid hb
  have HI1 := Q.hid i1
  clear ho hb i1
  go_wp2_with fail
  refine (Times_calls A' A1 c' c1 ys (nwd x) _ (H'.out.below HB1.out) HI1.out hl' (by omega)).mono ?_
  rintro e w2 ⟨v2, rfl, ho, hb⟩
  rw [HVX.out] at ho
  obtain ⟨A2, c2, e2, i2⟩ := nwd_inn ho (by omega)
  subst e2
  have HB2 : Hid (Below w.heap.size w w2) := bs2 HB1.out hb
  have HI2 := Q.hid i2
  clear ho hb i2
  go_wp2_with fail
  have HC := rCompare_calls A A2 c c2 us (nwd (val ys * x)) _ (H.out.below HB2.out) HI2.out
  rw [HVP.out] at HC
  refine HC.mono ?_
  rintro e w3 ⟨rfl, rfl⟩
  go_wp2
  go_ret
  exact ⟨congrArg (fun b => Ending.returned (Value.bool b)) (cmp_neg _ _), HB2.out⟩

/-- the words that stand where others stood -/
theorem val_of_words {zs out : List Int} (hl : out.length ≤ zs.length) (h : ∀ i, i < zs.length → wd zs i = wd out i) : val zs = val out :=
  val_congr fun i => by
    by_cases hi : i < zs.length
    · exact h i hi
    · rw [wd_ge (by omega), wd_ge (by omega)]

set_option maxHeartbeats 2000000 in
set_option maxRecDepth 100000 in
theorem roff_calls (A' : Option Addr) (B g n cap cc c' : Nat) (pre us post ys : List Int) (x : Int) (w : World) (ho : Ow w 58 B (.slice (some ⟨g, 0, none⟩) n cap) (pre ++ us ++ post)) (huw : Wds us) (hul : us.length ≤ 1000000) (huc : us.length ≤ cc) (h' : In w A' c' ys) (hl' : ys.length ≤ 1000000) (hx0 : 0 ≤ x) (hx1 : x < 18446744073709551616) (hle : val ys * x ≤ val us) :
    Calls Try.prog 99 #[.slice (some ⟨g, pre.length, none⟩) us.length cc, .slice A' ys.length c', .int .u64 x] w fun e w' => ∃ zs, e = .returned (.tuple #[]) ∧ zs.length = us.length ∧ Wds zs ∧ val zs = val us - val ys * x ∧ Ow w' 58 B (.slice (some ⟨g, 0, none⟩) n cap) (pre ++ zs ++ post) ∧ w.grownBy w' (some g) := by
  have H' := Q.hid h'
  have UW := Q.hid huw
  have HO := Q.hid ho
  have HLE := Q.hid hle
  have HI0 : Hid (In w (some ⟨g, pre.length, none⟩) cc us) := ⟨by
    have := ho.seg pre.length us.length
    rw [List.append_assoc, List.drop_append_of_le_length (Nat.le_refl _), List.drop_length, List.nil_append, List.take_append_of_le_length (Nat.le_refl _), List.take_length] at this
    exact this, huc, by omega, huw⟩
  have hgl : g < w.heap.size := (ho.base g rfl).2
  have hpl : (nwd (val ys * x)).length ≤ ys.length + 2 := prod_len h'.wds hx0 hx1
  have hxl : (nwd x).length ≤ 2 := nwd64_len hx0 hx1
  have HX : Hid (of64 x = nwd x) := of64_nwd hx0 hx1
  have HVX : Hid (val (nwd x) = x) := val_nwd hx0
  have hp0 := Int.mul_nonneg (val_nonneg h'.wds) hx0
  have HVP : Hid (val (nwd (val ys * x)) = val ys * x) := val_nwd hp0
  have HPL : Hid ((nwd (val ys * x)).length ≤ us.length) := nwd_len_of huw hp0 hle
  have HDL : Hid ((nwd (val us - val ys * x)).length ≤ us.length) := nwd_len_of huw (by omega) (by omega)
  have HDV : Hid (val (nwd (val us - val ys * x)) = val us - val ys * x) := val_nwd (by omega)
  obtain ⟨i0, hi0⟩ : ∃ i0 : Nat, i0 = pre.length := ⟨_, rfl⟩
  have HI := Q.hid hi0
  clear ho huw h' hle hp0
  rw [← hi0] at HI0 ⊢
  clear hi0
  go_enter Try.func99, Try.ntmps99
  go_wp2_with fail
  refine (rOf_calls x _ hx0 hx1).mono ?_
  rintro e w1 ⟨v1, rfl, ho, hb⟩
  rw [HX.out] at ho
  obtain ⟨A1, c1, e1, i1⟩ := nwd_inn ho (by omega)
  subst e1
  have HB1 := Q.hid hb
  have HI1 := Q.hid i1
  clear ho hb i1
  go_wp2_with fail
  refine (Times_calls A' A1 c' c1 ys (nwd x) _ (H'.out.below HB1.out) HI1.out hl' (by omega)).mono ?_
  rintro e w2 ⟨v2, rfl, ho, hb⟩
  rw [HVX.out] at ho
  obtain ⟨A2, c2, e2, i2⟩ := nwd_inn ho (by omega)
  subst e2
  have HB2 : Hid (Below w.heap.size w w2) := bs2 HB1.out hb
  have HI2 := Q.hid i2
  clear ho hb i2
  go_wp2_with fail
  have HC := rLess_calls (some ⟨g, i0, none⟩) A2 cc c2 us (nwd (val ys * x)) _ (HI0.out.below HB2.out) HI2.out hul HPL.out (by rw [HVP.out]; exact HLE.out)
  rw [HVP.out] at HC
  refine HC.mono ?_
  rintro e w3 ⟨v3, rfl, ho, hb⟩
  obtain ⟨A3, c3, e3, _, _, r3, ob3⟩ := ho.slice
  subst e3
  obtain ⟨out, hout⟩ : ∃ out, out = nwd (val us - val ys * x) := ⟨_, rfl⟩
  have HOW : Hid (Wds out) := by rw [hout]; exact nwd_wds _
  rw [← hout] at HDL HDV r3 ho ob3 ⊢
  have HR3 := Q.hid r3
  have hol : out.length ≤ 1000000 := by have := HDL.out; omega
  have HNE : Hid (∀ ad, A3 = some ad → some ad.block ≠ some g) := fun ad e he => by
    have h1 := (ho.base ad.block (ob3 ad e)).1
    have h2 := Option.some.inj he
    have h3 := HB2.out.size
    omega
  have HG3 : Hid (w.grownBy w3 (some g)) := grown_of_below (bs2 HB2.out hb) _
  have HO3 : Hid (Ow w3 58 B (.slice (some ⟨g, 0, none⟩) n cap) (pre ++ us ++ post)) := HO.out.grown (grown_of_below (bs2 HB2.out hb) none) (.inr (by intro h; cases h))
  clear ho hb r3 ob3 HC HPL hout
  go_wp2
  go_loopw [7] (fun i wr => ∃ (k : Nat) (zs : List Int), k ≤ us.length ∧ i = .int .i64 k ∧ Hid (zs.length = us.length ∧ Wds zs ∧ SameLt zs out k) ∧ Hid (Ow wr 58 B (.slice (some ⟨g, 0, none⟩) n cap) (pre ++ zs ++ post)) ∧ Hid (w.grownBy wr (some g)) ∧ Hid (w3.grownBy wr (some g))) (fun i _ => us.length - (intOf i).toNat)
  case atStart => exact ⟨0, us, by omega, rfl, ⟨rfl, UW.out, fun i hi => by omega⟩, HO3, HG3, grown_refl _ _⟩
  case round =>
    clear HO3 HG3
    obtain ⟨k, zs, hk, rfl, HZ, HO, HG, HG3⟩ := hrel
    by_cases hlt : k < us.length
    · have hzl : k < zs.length := by rw [HZ.out.1]; exact hlt
      have hcell := HO.out.cell (i := i0 + k) (by rw [HI.out]; simp; omega)
      have hfree := HO.out.free (i0 + k)
      have HR := Q.hid (HR3.out.grown HG3.out HNE.out)
      have hw := HOW.out.wd k
      have HZ2 : Hid ((zs.set k (wd out k)).length = us.length ∧ Wds (zs.set k (wd out k)) ∧ SameLt (zs.set k (wd out k)) out (k + 1)) := ⟨by rw [List.length_set]; exact HZ.out.1, HZ.out.2.1.set _ hw.1 hw.2, fun j hj => by
        rw [wd_set _ hzl]
        by_cases hjk : k = j
        · rw [if_pos hjk, hjk]
        · rw [if_neg hjk]; exact HZ.out.2.2 j (by omega)⟩
      have HO2 : Hid (Ow (wr.setCell ⟨g, i0 + k, none⟩ (.int .u32 (wd out k))) 58 B (.slice (some ⟨g, 0, none⟩) n cap) (pre ++ zs.set k (wd out k) ++ post)) := by
        have := HO.out.store (i := i0 + k) (by rw [HI.out]; simp; omega) (wd out k)
        rw [HI.out, set_mid pre zs post hzl] at this
        rw [HI.out]
        exact this
      have HG2 : Hid (w.grownBy (wr.setCell ⟨g, i0 + k, none⟩ (.int .u32 (wd out k))) (some g)) := grown_trans HG.out (grown_set _)
      have HG4 : Hid (w3.grownBy (wr.setCell ⟨g, i0 + k, none⟩ (.int .u32 (wd out k))) (some g)) := grown_trans HG3.out (grown_set _)
      clear HZ HO HG HG3 hw
      go_wp2_with fail
      refine (rword_calls A3 c3 out k _ HR.out (by omega)).mono ?_
      rintro e w5 ⟨rfl, rfl⟩
      go_wp2
      go_roundw
      case rel => exact ⟨k + 1, _, by omega, by go_num, HZ2, HO2, HG2, HG4⟩
      case measure => simp [intOf]; omega
    · obtain rfl : k = us.length := by omega
      go_wp2
      go_end0
      have hz := HZ.out
      exact ⟨zs, rfl, hz.1, hz.2.1, by rw [val_of_words (out := out) (by rw [hz.1]; exact HDL.out) (fun i hi => hz.2.2 i (by omega)), HDV.out], HO.out, HG.out⟩

set_option maxHeartbeats 2000000 in
set_option maxRecDepth 100000 in
theorem digit_calls (A' : Option Addr) (B g n cap cc c' : Nat) (pre us post ys : List Int) (w : World) (ho : Ow w 58 B (.slice (some ⟨g, 0, none⟩) n cap) (pre ++ us ++ post)) (huc : us.length ≤ cc) (h' : In w A' c' ys) (hl' : ys.length ≤ 100000) (hne : ∀ ad', A' = some ad' → ad'.block ≠ g) (hd : Dv us ys ys.length) :
    Calls Try.prog 87 #[.slice (some ⟨g, pre.length, none⟩) us.length cc, .slice A' ys.length c'] w fun e w' => ∃ zs, e = .returned (.int .u32 (val us / val ys)) ∧ zs.length = us.length ∧ Wds zs ∧ val zs = val us % val ys ∧ Ow w' 58 B (.slice (some ⟨g, 0, none⟩) n cap) (pre ++ zs ++ post) ∧ w.grownBy w' (some g) := by
  have H' := Q.hid h'
  have HO := Q.hid ho
  have D := Q.hid hd
  have G := Q.hid hd.start
  have hul : us.length = ys.length + 1 := hd.ul
  have HI0 : Hid (In w (some ⟨g, pre.length, none⟩) cc us) := ⟨by
    have := ho.seg pre.length us.length
    rw [List.append_assoc, List.drop_append_of_le_length (Nat.le_refl _), List.drop_length, List.nil_append, List.take_append_of_le_length (Nat.le_refl _), List.take_length] at this
    exact this, huc, by omega, hd.uw⟩
  have hgr := hd.great
  have h2 := hd.two
  have n1 : ((ys.length : Int) - 1).toNat = ys.length - 1 := by omega
  obtain ⟨ad, e, hu0⟩ := HI0.out.rd ys.length (by omega)
  cases e
  obtain ⟨ad2, e, hu1⟩ := HI0.out.rd (ys.length - 1) (by omega)
  cases e
  obtain ⟨ad', rfl, hv1⟩ := h'.rd (ys.length - 1) (by omega)
  have a0 := (hd.uw.wd ys.length).1
  have a1 := (hd.uw.wd ys.length).2
  have b0 := (hd.uw.wd (ys.length - 1)).1
  have b1 := (hd.uw.wd (ys.length - 1)).2
  have d1 := (hd.yw.wd (ys.length - 1)).2
  obtain ⟨top, ht⟩ : ∃ top : Int, top = wd us ys.length * 4294967296 + wd us (ys.length - 1) := ⟨_, rfl⟩
  have t0 : 0 ≤ top := by omega
  have t1 : top < 18446744073709551616 := by omega
  obtain ⟨q1, hq1⟩ : ∃ q1 : Int, q1 = top / wd ys (ys.length - 1) := ⟨_, rfl⟩
  have hdv : top.tdiv (wd ys (ys.length - 1)) = q1 := by rw [hq1]; exact tdiv_of_nonneg t0
  have HGE : Hid (val us / val ys ≤ q1) := by have := G.out.le; rw [← ht, ← hq1] at this; exact this
  have q10 : 0 ≤ q1 := by rw [hq1]; exact Int.ediv_nonneg t0 (by omega)
  have q11 : q1 < 18446744073709551616 := by have := G.out.q1; rw [← ht, ← hq1] at this; omega
  have HQ := Q.hid hd.qlt
  have hul' : us.length ≤ 1000000 := by omega
  have hlt1 : ys.length < us.length := by omega
  have HPR : Hid (us.length = ys.length + 1) := hul
  obtain ⟨i0, hi0⟩ : ∃ i0 : Nat, i0 = pre.length := ⟨_, rfl⟩
  have HI := Q.hid hi0
  rw [← hi0] at HI0 hu0 hu1 ⊢
  rw [add_mid] at hu0 hu1
  clear h' ho hd hi0 hul G hq1
  go_enter Try.func87, Try.ntmps87
  go_wp2
  go_quiet (fail)
  rw [← ht]
  clear ht
  go_wp2
  obtain ⟨x0, hx0⟩ : ∃ x0 : Int, x0 = min q1 4294967295 := ⟨_, rfl⟩
  rw [← hx0]
  have HX0 : Hid (val us / val ys ≤ x0 ∧ x0 ≤ 4294967295) := by
    have h1 := HGE.out
    have h2 := HQ.out.2
    rw [hx0]
    refine ⟨?_, by omega⟩
    omega
  clear hx0 hdv q10 q11 HGE
  go_loopw [7] (fun xv wr => ∃ x : Int, xv = .int .u64 x ∧ Hid (val us / val ys ≤ x ∧ x ≤ 4294967295) ∧ Hid (Below w.heap.size w wr)) (fun xv _ => (intOf xv).toNat)
  case atStart => exact ⟨x0, rfl, HX0, below_drewN (Below.refl _ _) _⟩
  case round =>
    clear HX0
    obtain ⟨x, rfl, HX, HB⟩ := hrel
    have x1 : 0 ≤ x := by have := HX.out.1; have := HQ.out.1; omega
    have x2 : x < 4294967296 := by have := HX.out.2; omega
    have hp := D.out.pos
    by_cases hlt : val us < val ys * x
    · have hb : decide (val us < val ys * x) = true := decide_eq_true hlt
      have hxq : val us / val ys < x := (Int.ediv_lt_iff_lt_mul hp).2 (by rw [Int.mul_comm]; exact hlt)
      have HX2 : Hid (val us / val ys ≤ x - 1 ∧ x - 1 ≤ 4294967295) := ⟨by omega, by omega⟩
      have hx1 : 1 ≤ x := by have := HQ.out.1; omega
      clear hxq hlt hp
      go_wp2_with fail
      have HC := below_calls (some ⟨g, i0, none⟩) (some ad') cc c' us ys x _ (HI0.out.below HB.out) (H'.out.below HB.out) (by omega) x1 (by omega)
      rw [hb] at HC
      refine HC.mono ?_
      rintro e w5 ⟨rfl, hb5⟩
      have HB5 : Hid (Below w.heap.size w w5) := bs2 HB.out hb5
      clear hb5 HC
      go_wp2
      go_roundw
      case rel => exact ⟨x - 1, rfl, HX2, HB5⟩
      case measure => simp [intOf]; omega
    · have hb : decide (val us < val ys * x) = false := decide_eq_false hlt
      have hxq : x ≤ val us / val ys := (Int.le_ediv_iff_mul_le hp).2 (by rw [Int.mul_comm]; omega)
      have HXE : Hid (x = val us / val ys) := by have := HX.out.1; show x = val us / val ys; omega
      have HLE : Hid (val ys * x ≤ val us) := by show val ys * x ≤ val us; omega
      clear hxq hlt hp
      go_wp2_with fail
      have HC := below_calls (some ⟨g, i0, none⟩) (some ad') cc c' us ys x _ (HI0.out.below HB.out) (H'.out.below HB.out) (by omega) x1 (by omega)
      rw [hb] at HC
      refine HC.mono ?_
      rintro e w5 ⟨rfl, hb5⟩
      have HB5 : Hid (Below w.heap.size w w5) := bs2 HB.out hb5
      clear hb5 HC hb
      go_wp2_with fail
      have HC := roff_calls (some ad') B g n cap cc c' pre us post ys x _ (HO.out.grown (grown_of_below HB5.out none) (.inr (by intro h; cases h))) D.out.uw hul' huc (H'.out.below HB5.out) (by omega) x1 (by omega) HLE.out
      rw [← HI.out] at HC
      refine HC.mono ?_
      rintro e w6 ⟨zs, rfl, hz1, hz2, hz3, hz4, hz5⟩
      have HZ := Q.hid (And.intro hz1 (And.intro hz2 (And.intro hz3 (And.intro hz4 hz5))))
      clear hz1 hz2 hz3 hz4 hz5 HC
      go_wp2
      go_ret
      refine ⟨zs, by rw [HXE.out]; rfl, HZ.out.1, HZ.out.2.1, ?_, HZ.out.2.2.2.1, grown_trans (grown_of_below HB5.out _) HZ.out.2.2.2.2⟩
      rw [HZ.out.2.2.1, HXE.out]
      have := Int.mul_ediv_add_emod (val us) (val ys)
      omega
end Go.Proofs.Ytidccoahjpjoaaa
