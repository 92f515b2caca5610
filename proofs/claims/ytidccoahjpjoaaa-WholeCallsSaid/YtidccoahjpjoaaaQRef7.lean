/- The reference of layer 1: quotients; what each call does. -/
import Derived.Test.YtidccoahjpjoaaaQRef6
set_option linter.unusedVariables false
set_option linter.unusedSimpArgs false
namespace Go.Proofs.Ytidccoahjpjoaaa
open Go Go.RowKit Q

/-- a longer number and a nought above it -/
theorem quo_start {xs ys : List Int} {s : Nat} (hx : Wds xs) (hy : Wds ys) (hle : val ys ≤ val xs) (hN : 0 < ys.length) (hg : (nwd (val ys * 2 ^ s)).length = ys.length) :
    ys.length ≤ (nwd (val xs * 2 ^ s)).length := by
  have hp : (0 : Int) < 2 ^ s := Int.pow_pos (by omega)
  have h0 := val_nonneg hy
  have h1 : val ys * 2 ^ s ≤ val xs * 2 ^ s := Int.mul_le_mul_of_nonneg_right hle (by omega)
  have h2 := val_nwd (v := val ys * 2 ^ s) (Int.mul_nonneg h0 (by omega))
  have h3 := val_nwd (v := val xs * 2 ^ s) (Int.mul_nonneg (by omega) (by omega))
  refine Nat.not_lt.1 fun hlt => ?_
  have := val_lt_of_len (nwd_wds (val xs * 2 ^ s)) (nwd_wds (val ys * 2 ^ s)) (nwd_tr _) (by rw [hg]; exact hlt)
  omega

set_option maxHeartbeats 2000000 in
set_option maxRecDepth 100000 in
theorem Over_calls (A A' : Option Addr) (c c' : Nat) (xs ys : List Int) (w : World) (h : In w A c xs) (h' : In w A' c' ys) (ht : Tr xs) (ht' : Tr ys) (hl : xs.length ≤ 10000) (hl' : ys.length ≤ 10000) (hy0 : ys ≠ []) :
    Calls Try.prog 70 #[.slice A xs.length c, .slice A' ys.length c'] w fun e w' => ∃ u v, e = .returned (.tuple #[u, v]) ∧ Ow w' 58 w.heap.size u (nwd (val xs / val ys)) ∧ Ow w' 58 w.heap.size v (nwd (val xs % val ys)) ∧ Below w.heap.size w w' := by
  have H := Q.hid h
  have H' := Q.hid h'
  have HT := Q.hid ht
  have HT' := Q.hid ht'
  have hyp : 0 < ys.length := List.length_pos_iff.2 hy0
  have HVP : Hid (0 < val ys) := val_pos h'.wds ht' hy0
  by_cases hv : val xs < val ys
  · have hc : cmp (val xs) (val ys) = -1 := cmp_lt hv
    have HQ : Hid (nwd (val xs / val ys) = [] ∧ nwd (val xs % val ys) = xs) := by
      have h1 := val_nonneg h.wds
      refine ⟨by rw [Int.ediv_eq_zero_of_lt h1 hv]; exact nwd_zero, by rw [Int.emod_eq_of_lt h1 hv]; exact nwd_eq h.wds ht rfl⟩
    clear h h' ht ht' hv hy0
    go_enter Try.func70, Try.ntmps70
    go_wp2_with fail
    have HC := rCompare_calls A A' c c' xs ys _ H.out H'.out
    rw [hc] at HC
    refine HC.mono ?_
    rintro e w1 ⟨rfl, rfl⟩
    go_wp2_with fail
    refine (rTrim_calls A c xs _ H.out).mono ?_
    rintro e w1 ⟨v, rfl, ho, hb⟩
    go_wp2
    go_ret2
    exact ⟨.slice none 0 0, v, rfl, by rw [HQ.out.1]; exact Ow.nil _ _ _, by rw [HQ.out.2, ← HT.out.trim]; exact ho, hb⟩
  · have hc : decide (cmp (val xs) (val ys) < 0) = false := by rw [cmp_neg]; exact decide_eq_false hv
    have HLE : Hid (val ys ≤ val xs) := by show val ys ≤ val xs; omega
    by_cases h1 : ys.length = 1
    · have hb1 : ((ys.length : Int) == 1) = true := beq_iff_eq.2 (by omega)
      obtain ⟨ad', rfl, hy⟩ := h'.rd 0 hyp
      rw [add_zero'] at hy
      have hd0 : 0 < wd ys 0 := by
        have h2 := (Tr_iff ys).1 ht'
        rcases h2 with h2 | h2
        · exact absurd h2 hy0
        · rw [h1] at h2; have := (h'.wds.wd 0).1; simp at h2; omega
      have hd1 := (h'.wds.wd 0).2
      have HD : Hid (val ys = wd ys 0) := by
        match ys, h1 with
        | [y], _ => simp [Hid, val, wd]
      clear h h' ht ht' hv hy0 h1
      go_enter Try.func70, Try.ntmps70
      go_wp2_with fail
      refine (rCompare_calls A (some ad') c c' xs ys _ H.out H'.out).mono ?_
      rintro e w1 ⟨rfl, rfl⟩
      go_wp2_with fail
      refine (rsmall_calls A c xs (wd ys 0) _ H.out (by omega) hd0 hd1).mono ?_
      rintro e w3 ⟨v3, rfl, ho, hb⟩
      have HO3 := Q.hid ho
      have HB3 := Q.hid hb
      have m0 : 0 ≤ val xs % wd ys 0 := Int.emod_nonneg _ (by omega)
      have m1 : val xs % wd ys 0 < wd ys 0 := Int.emod_lt_of_pos _ hd0
      clear ho hb
      go_wp2_with fail
      refine (rOf_calls (val xs % wd ys 0) _ m0 (by omega)).mono ?_
      rintro e w4 ⟨v4, rfl, ho, hb⟩
      have HB4 := Q.hid hb
      have HO4 := Q.hid ho
      clear ho hb
      go_wp2
      go_ret2
      refine ⟨v3, v4, rfl, by rw [HD.out]; exact HO3.out.below HB4.out, ?_, bs2 HB3.out HB4.out⟩
      rw [HD.out, ← of64_nwd m0 (by omega)]
      exact HO4.out.mono HB3.out.size
    · have hb1 : ((ys.length : Int) == 1) = false := beq_eq_false_iff_ne.2 (by omega)
      have hN : 2 ≤ ys.length := by omega
      have hd1 := (h'.wds.wd (ys.length - 1)).2
      have hd0 : 0 < wd ys (ys.length - 1) := by
        have h2 := (Tr_iff ys).1 ht'
        rcases h2 with h2 | h2
        · exact absurd h2 hy0
        · have := (h'.wds.wd (ys.length - 1)).1; omega
      obtain ⟨s, hs, hs32, hg0, hg1⟩ := lead _ hd0 hd1
      have hbl : bl ys = 32 * (ys.length : Int) - (s : Int) := by
        unfold bl
        rw [show tl ys = ys.length from ht', if_neg (by omega)]
        omega
      have hsi : 32 * (ys.length : Int) - bl ys = (s : Int) := by omega
      have HVV : Hid (val (nwd (val ys * 2 ^ s)) = val ys * 2 ^ s) := val_nwd (Int.mul_nonneg (val_nonneg h'.wds) (Int.pow_nonneg (by omega)))
      have HUU : Hid (val (nwd (val xs * 2 ^ s)) = val xs * 2 ^ s) := val_nwd (Int.mul_nonneg (val_nonneg h.wds) (Int.pow_nonneg (by omega)))
      have HG : Hid ((nwd (val ys * 2 ^ s)).length = ys.length ∧ 2147483648 ≤ wd (nwd (val ys * 2 ^ s)) (ys.length - 1)) := great_of rfl hyp h'.wds hs32 hg0 hg1 (nwd_wds _) (nwd_tr _) HVV.out
      have HGE : Hid (ys.length ≤ (nwd (val xs * 2 ^ s)).length) := quo_start h.wds h'.wds HLE.out hyp HG.out.1
      have HUL : Hid ((nwd (val xs * 2 ^ s)).length ≤ xs.length + 1) := by
        obtain ⟨cc, hcc, hp, e⟩ := two_split hs32
        have h3 := val_nonneg h.wds
        refine nwd_len_le ?_ (Int.mul_nonneg h3 (by omega))
        rw [Bp_succ, ← e]
        have h4 : val xs * 2 ^ s < Bp xs.length * 2 ^ s := Int.mul_lt_mul_of_pos_right (val_lt h.wds) hp
        have h5 : Bp xs.length * 2 ^ s * 1 ≤ Bp xs.length * 2 ^ s * cc := Int.mul_le_mul_of_nonneg_left (by omega) (Int.mul_nonneg (Int.le_of_lt (Bp_pos _)) (by omega))
        have h6 : 2 ^ s * cc * Bp xs.length = Bp xs.length * 2 ^ s * cc := by grind
        omega
      clear h h' ht ht' hv hy0 h1 hbl
      go_enter Try.func70, Try.ntmps70
      go_wp2_with fail
      refine (rCompare_calls A A' c c' xs ys _ H.out H'.out).mono ?_
      rintro e w1 ⟨rfl, rfl⟩
      go_wp2_with fail
      refine (rBits_calls A' c' ys _ H'.out).mono ?_
      rintro e w1 ⟨rfl, hb⟩
      have HB1 := Q.hid hb
      clear hb
      go_wp2_with fail
      refine (rUp_calls A' c' s ys _ (H'.out.below HB1.out) (by omega) (by omega)).mono ?_
      rintro e w2 ⟨v1, rfl, ho, hb⟩
      obtain ⟨vs, hvs⟩ : ∃ vs, vs = nwd (val ys * 2 ^ s) := ⟨_, rfl⟩
      have HVW : Hid (Wds vs) := by rw [hvs]; exact nwd_wds _
      rw [← hvs] at HVV HG ho
      have HVL : Hid (vs.length = ys.length) := HG.out.1
      obtain ⟨A1, c1, e1, i1⟩ := ho.inn HVW.out (by rw [HVL.out]; omega)
      rw [HVL.out] at e1
      subst e1
      have HB2 : Hid (Below w.heap.size w w2) := bs2 HB1.out hb
      have HI1 := Q.hid i1
      have HN1 : Hid (∀ ad, A1 = some ad → ad.block < w2.heap.size) := fun ad e => (ho.base ad.block (by rw [e]; rfl)).2
      clear ho hb i1 HB1 hvs
      go_wp2_with fail
      refine (rUp_calls A c s xs _ (H.out.below HB2.out) (by omega) (by omega)).mono ?_
      rintro e w3 ⟨v2, rfl, ho, hb⟩
      obtain ⟨u1, hu1⟩ : ∃ u1, u1 = nwd (val xs * 2 ^ s) := ⟨_, rfl⟩
      have HUW : Hid (Wds u1) := by rw [hu1]; exact nwd_wds _
      rw [← hu1] at HUU HGE HUL ho
      have hul1 : u1.length ≤ 10001 := by have := HUL.out; omega
      obtain ⟨A2, c2, e2, i2⟩ := ho.inn HUW.out (by omega)
      subst e2
      have HO3 := Q.hid ho
      have HB3 := Q.hid hb
      clear ho hb i2 hu1
      go_wp2_with (at_builtin; refine wp_app1 rfl (.tmp 45) (.tmp 46) 22 58 rfl Try.underlying22 infoW w2.heap.size _ u1 0 rfl HO3.out rfl (by omega) HB3.out.size ?_; intro v3 w4 ho hg hat)
      have HB4 : Hid (Below w.heap.size w w4) := bs2 HB2.out (below_grown HB3.out hg (fun j hj => (HO3.out.base j hj).1))
      have HI4 : Hid (In w4 A1 c1 vs) := HI1.out.below (below_grown HB3.out hg (fun j hj => (HO3.out.base j hj).1))
      clear hat hg HB3 HO3
      rcases ho.2 with ⟨_, h0⟩ | ⟨g2, cap2, cur, e, hr⟩
      · simp at h0
      subst e
      clear hr cur
      obtain ⟨us0, hus0⟩ : ∃ us0, us0 = u1 ++ [0] := ⟨_, rfl⟩
      have HUS : Hid (Wds us0 ∧ us0.length = u1.length + 1 ∧ val us0 = val xs * 2 ^ s ∧ wd us0 (us0.length - 1) < 2147483648) := by
        refine ⟨?_, by rw [hus0]; simp, ?_, ?_⟩
        · rw [hus0]; exact HUW.out.append (fun x hx => by simp at hx; omega)
        · rw [hus0, val_append, HUU.out]; simp [val]
        · rw [hus0, wd_append_right (by simp)]; simp [wd]
      rw [← hus0] at ho ⊢
      obtain ⟨M, hM⟩ : ∃ M : Nat, M = us0.length := ⟨_, rfl⟩
      have HM := Q.hid hM
      have HM1 : Hid (M = u1.length + 1) := hM.trans HUS.out.2.1
      rw [← hM] at ho ⊢
      have hMb : M ≤ 10002 := by have := HM1.out; omega
      obtain ⟨L, hL⟩ : ∃ L : Nat, M = L + ys.length := ⟨M - ys.length, by have := HM1.out; have := HGE.out; omega⟩
      have hLi : (M : Int) - (ys.length : Int) = (L : Int) := by omega
      have HL := Q.hid hL
      have hLb : L ≤ 10002 := by omega
      have HO4 : Hid (Ow w4 58 w.heap.size (.slice (some ⟨g2, 0, none⟩) M cap2) us0) := ho.mono HB2.out.size
      have HG2 : Hid (w2.heap.size ≤ g2 ∧ g2 < w4.heap.size) := ho.base g2 rfl
      have hcap : M ≤ cap2 := by have := ho.read.2.1; rw [hM]; exact this
      have HNE : Hid (∀ ad, A1 = some ad → ad.block ≠ g2) := fun ad e => Nat.ne_of_lt (Nat.lt_of_lt_of_le (HN1.out ad e) HG2.out.1)
      have HS : Hid (DvV (val us0) vs M ys.length L us0 (List.replicate L 0) L) := DvV.start HVL.out HVW.out hyp HG.out.2 hL hM.symm HUS.out.1 (by rw [hM]; exact HUS.out.2.2.2)
      clear ho hus0 hM hL HB2 HN1 HI1
      go_wp2
      go_simp
      go_wp2_with (at_make; refine wp_mk rfl (.tmp 52) (.tmp 52) 22 58 rfl (.int .u32 0) 4 Try.underlying22 infoW rfl _ _ L rfl rfl (by omega) (by omega) (by omega) (by simp only [maxLen]; omega) ?_)
      have HQ3 : Hid (Ow (w4.alloc (.cells (reps L (.int .u32 0)) 58)) 58 w.heap.size (.slice (some ⟨w4.heap.size, 0, none⟩) L L) (List.replicate L 0)) := Ow.made w4 _ _ _ HB4.out.size (by simp only [maxLen]; omega)
      have HU3 : Hid (Ow (w4.alloc (.cells (reps L (.int .u32 0)) 58)) 58 w.heap.size (.slice (some ⟨g2, 0, none⟩) M cap2) us0) := HO4.out.below ((Below.refl _ _).alloc (Nat.le_refl _) _)
      have HV3 : Hid (In (w4.alloc (.cells (reps L (.int .u32 0)) 58)) A1 c1 vs) := HI4.out.alloc _
      have HB3 : Hid (Below w.heap.size w (w4.alloc (.cells (reps L (.int .u32 0)) 58))) := HB4.out.alloc HB4.out.size _
      have HNV : Hid (∀ ad, A1 = some ad → some ad.block ≠ some w4.heap.size) := fun ad e h => by
        obtain ⟨ad2, e2, hc⟩ := HI4.out.rd 0 (by rw [HVL.out]; exact hyp)
        rw [e] at e2; cases e2
        have h1 := World.block_lt_of_cell? w4 _ hc
        rw [add_block] at h1
        have := Option.some.inj h
        omega
      have HWG : Hid (w.heap.size ≤ w4.heap.size) := HB4.out.size
      have HG0 : Hid (w.heap.size ≤ g2) := (HO4.out.base g2 rfl).1
      obtain ⟨g3, hg3⟩ : ∃ g3, g3 = w4.heap.size := ⟨_, rfl⟩
      rw [← hg3] at HQ3 HG2 HNV HWG ⊢
      generalize w4.alloc (.cells (reps L (.int .u32 0)) 58) = w5 at *
      have HG3 : Hid (g2 < g3) := HG2.out.2
      clear HO4 HI4 HB4 hg3 HG2 hLi
      go_loopw [12] (fun i wr => ∃ (k : Nat) (us qs : List Int), k ≤ L ∧ i = .int .i64 ((k : Int) - 1) ∧ Hid (DvV (val us0) vs M ys.length L us qs k) ∧ Hid (Ow wr 58 w.heap.size (.slice (some ⟨g3, 0, none⟩) L L) qs) ∧ Hid (Ow wr 58 w.heap.size (.slice (some ⟨g2, 0, none⟩) M cap2) us) ∧ Hid (In wr A1 c1 vs) ∧ Hid (Below w.heap.size w wr)) (fun i _ => (intOf i + 1).toNat)
      case atStart => exact ⟨L, us0, _, by omega, rfl, HS, HQ3, HU3, HV3, HB3⟩
      case round =>
        clear HS HQ3 HU3 HV3 HB3
        obtain ⟨k, us, qs, hk, rfl, HS, HQ, HU, HV, HB⟩ := hrel
        by_cases hk0 : 0 < k
        · obtain ⟨j, rfl⟩ : ∃ j, k = j + 1 := ⟨k - 1, by omega⟩
          have hj : j < L := by omega
          have hkj : ((j + 1 : Nat) : Int) - 1 = (j : Int) := by omega
          have hjb : j + ys.length + 1 ≤ M := by have := HL.out; omega
          have hsl : j + ys.length + 1 - j = ys.length + 1 := by omega
          obtain ⟨hd, hse, hsz⟩ := HS.out.seg hj HVL.out HVW.out hN HG.out.2
          have hul := hd.ul
          have hpre : (us.take j).length = j := by rw [List.length_take, HS.out.ul]; omega
          have hus : us = us.take j ++ seg us j ys.length ++ us.drop (j + ys.length + 1) := by
            unfold seg
            rw [List.append_assoc, show j + ys.length + 1 = j + (ys.length + 1) by omega, ← List.drop_drop, List.take_append_drop, List.take_append_drop]
          have HU' : Hid (Ow wr 58 w.heap.size (.slice (some ⟨g2, 0, none⟩) M cap2) (us.take j ++ seg us j ys.length ++ us.drop (j + ys.length + 1))) := by rw [← hus]; exact HU.out
          have HUL2 := Q.hid hul
          have HPR := Q.hid hpre
          have HD : Hid (Dv (seg us j ys.length) vs vs.length) := by rw [HVL.out]; exact hd
          have hq0 := hd.qlt.1
          have hq1 := hd.qlt.2
          clear hd hse hsz hul hpre hus HU
          rw [hkj]
          go_wp2_with fail
          rw [hsl]
          have HC := digit_calls A1 w.heap.size g2 M cap2 (cap2 - j) c1 (us.take j) (seg us j ys.length) (us.drop (j + ys.length + 1)) vs wr HU'.out (by rw [HUL2.out]; omega) HV.out (by rw [HVL.out]; omega) HNE.out HD.out
          rw [HUL2.out, HVL.out, HPR.out] at HC
          refine HC.mono ?_
          rintro e w6 ⟨zs, rfl, hz1, hz2, hz3, hz4, hg⟩
          have HB5 : Hid (Below w.heap.size w w6) := below_grown HB.out hg (fun i hi => by cases hi; exact HG0.out)
          have HV5 : Hid (In w6 A1 c1 vs) := ⟨HV.out.rd.grown hg (fun ad e h => HNE.out ad e (Option.some.inj h)), HV.out.cap, HV.out.small, HV.out.wds⟩
          have HQ5 : Hid (Ow w6 58 w.heap.size (.slice (some ⟨g3, 0, none⟩) L L) qs) := HQ.out.grown hg (.inr (fun h => absurd (Option.some.inj h) (Nat.ne_of_gt HG3.out)))
          have HU5 := Q.hid hz4
          have HS2 := Q.hid (HS.out.step hj HVL.out HVW.out hN HG.out.2 hz1 hz2 hz3)
          generalize val (seg us j ys.length) / val vs = x at *
          have hqc := HQ5.out.cell (i := j) (by rw [HS.out.ql]; exact hj)
          have hqf := HQ5.out.free j
          have HQ6 : Hid (Ow (w6.setCell ⟨g3, j, none⟩ (.int .u32 x)) 58 w.heap.size (.slice (some ⟨g3, 0, none⟩) L L) (qs.set j x)) := HQ5.out.store (by rw [HS.out.ql]; exact hj) _
          have HU6 : Hid (Ow (w6.setCell ⟨g3, j, none⟩ (.int .u32 x)) 58 w.heap.size (.slice (some ⟨g2, 0, none⟩) M cap2) (us.take j ++ zs ++ us.drop (j + ys.length + 1))) := HU5.out.far (fun h => absurd (Option.some.inj h) (Nat.ne_of_lt HG3.out)) _ _
          have HV6 : Hid (In (w6.setCell ⟨g3, j, none⟩ (.int .u32 x)) A1 c1 vs) := ⟨HV5.out.rd.grown (grown_set _) HNV.out, HV5.out.cap, HV5.out.small, HV5.out.wds⟩
          have HB6 : Hid (Below w.heap.size w (w6.setCell ⟨g3, j, none⟩ (.int .u32 x))) := HB5.out.setCell HWG.out _
          clear HS hz1 hz2 hz3 hz4 hg HC HU' HB HV HQ HB5 HV5 HQ5 HU5
          go_wp2
          go_roundw
          case rel => exact ⟨j, _, _, by omega, rfl, HS2, HQ6, HU6, HV6, HB6⟩
          case measure => simp [intOf]
        · obtain rfl : k = 0 := by omega
          have h0k : ((0 : Nat) : Int) - 1 = -1 := rfl
          rw [h0k]
          have hF := HS.out.fin HVL.out HVW.out
          rw [HUS.out.2.2.1, HVV.out, (shifted_quo (val xs) (val ys) s).1] at hF
          have HQT : Hid (trim qs = nwd (val xs / val ys)) := nwd_trim HS.out.qw hF.1
          have HUT : Hid (trim us = nwd (val xs * 2 ^ s % (val ys * 2 ^ s))) := nwd_trim HS.out.uw hF.2.2
          have hr0 : 0 ≤ val xs * 2 ^ s % (val ys * 2 ^ s) := by rw [← hF.2.2]; exact val_nonneg HS.out.uw
          have HR : Hid (val (nwd (val xs * 2 ^ s % (val ys * 2 ^ s))) / 2 ^ s = val xs % val ys) := by
            show val (nwd (val xs * 2 ^ s % (val ys * 2 ^ s))) / 2 ^ s = val xs % val ys
            rw [val_nwd hr0]; exact (shifted_quo (val xs) (val ys) s).2
          have HQL : Hid (qs.length = L) := HS.out.ql
          have HUL3 : Hid (us.length = M) := HS.out.ul
          have hrl : (nwd (val xs * 2 ^ s % (val ys * 2 ^ s))).length ≤ M := by rw [← HUT.out, len_trim, ← HS.out.ul]; exact tl_le _
          have HIQ : Hid (In wr (some ⟨g3, 0, none⟩) L qs) := ⟨HQ.out.read.2.2.2, by rw [HQL.out]; exact Nat.le_refl _, by rw [HQL.out]; omega, HS.out.qw⟩
          have HIU : Hid (In wr (some ⟨g2, 0, none⟩) cap2 us) := ⟨HU.out.read.2.2.2, by rw [HUL3.out]; exact hcap, by rw [HUL3.out]; omega, HS.out.uw⟩
          clear hF hr0 HS HQ HU
          go_wp2_with fail
          have HC := rTrim_calls (some ⟨g3, 0, none⟩) L qs _ HIQ.out
          rw [HQL.out, HQT.out] at HC
          refine HC.mono ?_
          rintro e w6 ⟨v6, rfl, ho, hb⟩
          have HO6 := Q.hid ho
          have HB6 := Q.hid hb
          clear ho hb HC
          go_wp2_with fail
          have HC := rTrim_calls (some ⟨g2, 0, none⟩) cap2 us _ (HIU.out.below HB6.out)
          rw [HUL3.out, HUT.out] at HC
          refine HC.mono ?_
          rintro e w7 ⟨v7, rfl, ho, hb⟩
          obtain ⟨A7, c7, e7, i7⟩ := nwd_inn ho (by omega)
          subst e7
          have HI7 := Q.hid i7
          have HB7 := Q.hid hb
          clear ho hb HC i7
          go_wp2_with fail
          have HC := rDown_calls A7 c7 s (nwd (val xs * 2 ^ s % (val ys * 2 ^ s))) _ HI7.out (by omega) (by omega)
          rw [HR.out] at HC
          refine HC.mono ?_
          rintro e w8 ⟨v8, rfl, ho, hb⟩
          have HO8 := Q.hid ho
          have HB8 := Q.hid hb
          clear ho hb HC
          go_wp2
          go_ret2
          have b6 : Below w.heap.size w w6 := bs2 HB.out HB6.out
          have b7 : Below w.heap.size w w7 := bs2 b6 HB7.out
          exact ⟨v6, v8, rfl, ((HO6.out.mono HB.out.size).below HB7.out).below HB8.out, HO8.out.mono b7.size, bs2 b7 HB8.out⟩
end Go.Proofs.Ytidccoahjpjoaaa
