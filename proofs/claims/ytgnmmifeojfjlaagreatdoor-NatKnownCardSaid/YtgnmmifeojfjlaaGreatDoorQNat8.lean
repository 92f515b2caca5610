/- Package nat: quotients; what the call does. -/
import Derived.Deep.RegionWith
import Derived.StillTailTactics
import Derived.Test.YtgnmmifeojfjlaaGreatDoorQNat7
set_option linter.unusedVariables false
set_option linter.unusedSimpArgs false
namespace Go.Proofs.YtgnmmifeojfjlaaGreatDoor
open Go Go.RowKit Q

theorem bits_bnd : ∀ (f x : Nat), x < 2 ^ f → x ≠ 0 → 1 ≤ Lib.bitLenAux f x ∧ 2 ^ (Lib.bitLenAux f x - 1) ≤ x ∧ x < 2 ^ Lib.bitLenAux f x := by
  intro f
  induction f with
  | zero => intro x h h0; simp at h; omega
  | succ f ih =>
    intro x h h0
    rw [Lib.bitLenAux, if_neg h0]
    by_cases h2 : x / 2 = 0
    · have hx : x = 1 := by omega
      subst hx
      have : Lib.bitLenAux f (1 / 2) = 0 := by cases f <;> simp [Lib.bitLenAux]
      rw [this]; simp
    · obtain ⟨a, b, c⟩ := ih (x / 2) (by rw [Nat.pow_succ] at h; omega) h2
      obtain ⟨k, hk⟩ : ∃ k, Lib.bitLenAux f (x / 2) = k + 1 := ⟨Lib.bitLenAux f (x / 2) - 1, by omega⟩
      rw [hk] at b c ⊢
      rw [Nat.add_sub_cancel] at b
      rw [show 1 + (k + 1) - 1 = k + 1 by omega, show 1 + (k + 1) = k + 1 + 1 by omega, Nat.pow_succ 2 k, Nat.pow_succ 2 (k + 1)]
      omega
theorem lead (t : Int) (h0 : 0 < t) (h1 : t < 4294967296) : ∃ s : Nat, 32 - (Lib.bitLen t.toNat : Int) = (s : Int) ∧ s < 32 ∧ 2147483648 ≤ t * 2 ^ s ∧ t * 2 ^ s < 4294967296 := by
  obtain ⟨x, rfl⟩ : ∃ x : Nat, t = x := ⟨t.toNat, by omega⟩
  rw [Int.toNat_natCast]
  obtain ⟨a, b, c⟩ := bits_bnd 64 x (by omega) (by omega)
  have hle : Lib.bitLen x ≤ 32 := Lib.bitLen_le x 32 (by omega) (by omega)
  have e : Lib.bitLenAux 64 x = Lib.bitLen x := rfl
  rw [e] at a b c
  obtain ⟨k, hk⟩ : ∃ k, Lib.bitLen x = k + 1 := ⟨Lib.bitLen x - 1, by omega⟩
  rw [hk] at b c hle ⊢
  rw [Nat.add_sub_cancel] at b
  refine ⟨31 - k, by omega, by omega, ?_, ?_⟩
  · have h2 : 2 ^ k * 2 ^ (31 - k) ≤ x * 2 ^ (31 - k) := Nat.mul_le_mul_right _ b
    rw [← Nat.pow_add, show k + (31 - k) = 31 by omega] at h2
    have h3 : ((2 ^ 31 : Nat) : Int) ≤ ((x * 2 ^ (31 - k) : Nat) : Int) := by exact_mod_cast h2
    rw [Int.natCast_mul, Int.natCast_pow] at h3
    exact h3
  · have h2 : x * 2 ^ (31 - k) < 2 ^ (k + 1) * 2 ^ (31 - k) := Nat.mul_lt_mul_of_pos_right c (Nat.pow_pos (by omega))
    rw [← Nat.pow_add, show k + 1 + (31 - k) = 32 by omega] at h2
    have h3 : ((x * 2 ^ (31 - k) : Nat) : Int) < ((2 ^ 32 : Nat) : Int) := by exact_mod_cast h2
    rw [Int.natCast_mul, Int.natCast_pow] at h3
    exact h3

theorem up_any (A : Option Addr) (c s : Nat) (xs : List Int) (w : World) (h : In w A c xs) (hs : s < 32) (hl : xs.length ≤ 1000000) :
    Calls Tryz.prog 31 #[.slice A xs.length c, .int .u64 s] w fun e w' => ∃ g zs, e = .returned (.slice (some ⟨g, 0, none⟩) (xs.length + 1) (xs.length + 1)) ∧ w.heap.size ≤ g ∧ Ow w' 36 w.heap.size (.slice (some ⟨g, 0, none⟩) (xs.length + 1) (xs.length + 1)) zs ∧ Wds zs ∧ zs.length = xs.length + 1 ∧ val zs = val xs * 2 ^ s ∧ wd zs xs.length < 2 ^ s ∧ Below w.heap.size w w' :=
  (up_calls A c s xs w h hs hl).mono fun _ _ ⟨zs, he, h1, h2⟩ => ⟨_, zs, he, Nat.le_refl _, h1, h2⟩
/-- two rows apart from each other -/
def Apart2 (u v : Value) : Prop := u.ownBlock = none ∨ u.ownBlock ≠ v.ownBlock

set_option maxHeartbeats 2000000 in
set_option maxRecDepth 100000 in
theorem divide_calls (A A' : Option Addr) (c c' : Nat) (xs ys : List Int) (w : World) (h : In w A c xs) (h' : In w A' c' ys) (ht : Tr xs) (ht' : Tr ys) (hl : xs.length ≤ 1000000) (hy0 : ys ≠ []) :
    Calls Tryz.prog 51 #[.slice A xs.length c, .slice A' ys.length c'] w fun e w' => ∃ u v, e = .returned (.tuple #[u, v]) ∧ Ow w' 36 w.heap.size u (nwd (val xs / val ys)) ∧ Ow w' 36 w.heap.size v (nwd (val xs % val ys)) ∧ Apart2 u v ∧ Below w.heap.size w w' := by
  have H := Q.hid h
  have H' := Q.hid h'
  have HT := Q.hid ht
  have HT' := Q.hid ht'
  have hyp : 0 < ys.length := List.length_pos_iff.2 hy0
  have HVP : Hid (0 < val ys) := val_pos h'.wds ht' hy0
  by_cases hv : val xs < val ys
  · have hc : cmp (val xs) (val ys) = -1 := cmp_lt hv
    have HQ : Hid (nwd (val xs / val ys) = [] ∧ nwd (val xs % val ys) = xs) := by
      have h1 := val_nonneg h.wds
      refine ⟨by rw [Int.ediv_eq_zero_of_lt h1 hv]; exact nwd_zero, by rw [Int.emod_eq_of_lt h1 hv]; exact nwd_eq h.wds ht rfl⟩
    clear h h' ht ht' hv hy0
    go_enter Tryz.func51, Tryz.ntmps51
    go_wp2_with fail
    have HC := Compare_calls A A' c c' xs ys _ H.out H'.out
    rw [hc] at HC
    refine HC.mono ?_
    rintro e w1 ⟨rfl, ⟨n, rfl⟩⟩
    go_wp2_with fail
    refine (Clone_calls A c xs _ (H.out.drewN _)).mono ?_
    rintro e w1 ⟨v, rfl, ho, hb⟩
    go_wp2
    go_ret2
    exact ⟨.slice none 0 0, v, rfl, by rw [HQ.out.1]; exact Ow.nil _ _ _, by rw [HQ.out.2]; exact ho, .inl rfl, below_of_drewN hb⟩
  · have hc : decide (cmp (val xs) (val ys) < 0) = false := by
      rcases Int.lt_or_eq_of_le (by omega : val ys ≤ val xs) with h1 | h1
      · rw [cmp_gt h1]; rfl
      · rw [cmp_eq h1.symm]; rfl
    have HLE : Hid (val ys ≤ val xs) := by show val ys ≤ val xs; omega
    by_cases h1 : ys.length = 1
    · have hb1 : ((ys.length : Int) == 1) = true := beq_iff_eq.2 (by omega)
      obtain ⟨ad', rfl, hy⟩ := h'.rd 0 hyp
      rw [add_zero'] at hy
      have hd0 : 0 < wd ys 0 := by
        have h2 := (Tr_iff ys).1 ht'
        rcases h2 with h2 | h2
        · exact absurd h2 hy0
        · rw [h1] at h2; have := (h'.wds.wd 0).1; simp at h2; omega
      have hd1 := (h'.wds.wd 0).2
      have HD : Hid (val ys = wd ys 0) := by
        match ys, h1 with
        | [y], _ => simp [Hid, val, wd]
      have H1 := Q.hid h1
      clear h h' ht ht' hv hy0 h1
      go_enter Tryz.func51, Tryz.ntmps51
      go_wp2_with fail
      refine (Compare_calls A (some ad') c c' xs ys _ H.out H'.out).mono ?_
      rintro e w1 ⟨rfl, ⟨n, rfl⟩⟩
      go_wp2_with fail
      go_region_with (first
        | (go_at_call 29
           refine (Clone_calls A c xs _ ?_).mono ?_
           exact ⟨H.out.rd, H.out.cap, H.out.small, H.out.wds⟩
           rintro e w2 ⟨v2, rfl, ho, hb⟩
           obtain ⟨A2, c2, e2, i2⟩ := ho.inn H.out.wds H.out.small
           subst e2
           have HO2 : Hid (Ow w2 36 w.heap.size (.slice A2 xs.length c2) xs) := ho
           have HI2 := Q.hid i2
           have HB2 : Hid (Below w.heap.size w w2) := ⟨hb.os, hb.tape, hb.output, hb.size, hb.block⟩
           have hy2 : w2.cell? ad' = some (.int .u32 (wd ys 0)) := (HB2.out.cell (World.block_lt_of_cell? w _ hy)).trans hy
           clear ho hb i2)
        | (go_at_call 37
           refine (small_calls _ _ w.heap.size xs (wd ys 0) _ ?_ ?_ hd0 hd1).mono ?_
           exact HO2.out
           exact HI2.out
           rintro e w3 ⟨v3, rfl, ho, hob, hg⟩
           have HO3 := Q.hid ho
           have HG3 := Q.hid hg
           clear ho hob hg))
      all_goals
        have m0 : 0 ≤ val xs % wd ys 0 := Int.emod_nonneg _ (by omega)
        have m1 : val xs % wd ys 0 < wd ys 0 := Int.emod_lt_of_pos _ hd0
        go_wp2_with fail
        refine (Of_calls (val xs % wd ys 0) _ m0 (by omega)).mono ?_
        rintro e w4 ⟨v4, rfl, ho, hb⟩
        have HB4 := Q.hid hb
        have HO4 := Q.hid ho
        clear ho hb
        go_wp2
        go_ret2
        have hB3 : Below w.heap.size w w3 := below_grown HB2.out HG3.out (fun j hj => (HO2.out.base j hj).1)
        refine ⟨v3, v4, rfl, by rw [HD.out]; exact HO3.out.below HB4.out, ?_, ?_, bs2 hB3 HB4.out⟩
        · rw [HD.out, nwd_eq (of64_wds m0 (by omega)) (of64_tr _) (of64_val _)]
          exact HO4.out.mono hB3.size
        · cases hv3 : v3.ownBlock with
          | none => exact .inl hv3
          | some k =>
            refine .inr fun he => ?_
            have h1 := (HO3.out.base k hv3).2
            have h2 := (HO4.out.base k (by rw [← he]; exact hv3)).1
            omega
    · have hb1 : ((ys.length : Int) == 1) = false := beq_eq_false_iff_ne.2 (by omega)
      have hN : 2 ≤ ys.length := by omega
      have hi : ((ys.length : Int) - 1).toNat = ys.length - 1 := by omega
      obtain ⟨ad', rfl, hy⟩ := h'.rd (ys.length - 1) (by omega)
      have hd1 := (h'.wds.wd (ys.length - 1)).2
      have hd0 : 0 < wd ys (ys.length - 1) := by
        have h2 := (Tr_iff ys).1 ht'
        rcases h2 with h2 | h2
        · exact absurd h2 hy0
        · have := (h'.wds.wd (ys.length - 1)).1; omega
      obtain ⟨s, hs, hs32, hg0, hg1⟩ := lead _ hd0 hd1
      have hly : ys.length ≤ xs.length := by
        apply Nat.le_of_not_lt
        intro hlt
        have h2 := val_lt_of_len h.wds h'.wds ht' hlt
        omega
      clear h h' ht ht' hv hy0 h1
      go_enter Tryz.func51, Tryz.ntmps51
      go_wp2_with fail
      refine (Compare_calls A (some ad') c c' xs ys _ H.out H'.out).mono ?_
      rintro e w1 ⟨rfl, ⟨n, rfl⟩⟩
      go_wp2_with fail
      refine (Tryz.bits_LeadingZeros32 (wd ys (ys.length - 1)) _ (by omega) (by omega)).mono ?_
      rintro e w1 ⟨rfl, rfl⟩
      rw [hs]
      go_wp2_with fail
      refine (up_any (some ad') c' s ys _ (H'.out.drewN _) hs32 (by omega)).mono ?_
      rintro e w2 ⟨g1, zs1, rfl, hgw1, ho1, hw1, hl1, hv1, ht1, hb1⟩
      have HB1 : Hid (Below w.heap.size w w2) := below_of_drewN hb1
      have HI1 : Hid (In w2 (some ⟨g1, 0, none⟩) (ys.length + 1) zs1) := ⟨ho1.read.2.2.2, by omega, by omega, hw1⟩
      have HG : Hid ((trim zs1).length = ys.length ∧ 2147483648 ≤ wd (trim zs1) (ys.length - 1)) := great_of rfl hyp H'.out.wds hs32 hg0 hg1 hw1.trim (Tr_trim _) (by rw [val_trim, hv1])
      have HVV : Hid (val (trim zs1) = val ys * 2 ^ s) := by show val (trim zs1) = _; rw [val_trim, hv1]
      have HV1 : Hid (In w2 (some ⟨g1, 0, none⟩) (ys.length + 1) (trim zs1)) := HI1.out.trim
      have HG1 : Hid (w.heap.size ≤ g1 ∧ g1 < w2.heap.size) := ⟨hgw1, (ho1.base g1 rfl).2⟩
      have HL1 := Q.hid hl1
      clear hb1 ho1 hw1 hl1 hv1 ht1 hgw1
      go_wp2_with fail
      have HC := cut_calls (some ⟨g1, 0, none⟩) (ys.length + 1) zs1 _ HI1.out
      rw [HL1.out] at HC
      refine HC.mono ?_
      rintro e w3 ⟨rfl, rfl⟩
      rw [HG.out.1]
      obtain ⟨vs, hvs⟩ : ∃ vs, vs = trim zs1 := ⟨_, rfl⟩
      rw [← hvs] at HG HVV HV1
      clear HI1 HL1 hvs HC
      go_wp2_with fail
      refine (up_any A c s xs _ (H.out.below HB1.out) hs32 hl).mono ?_
      rintro e w3 ⟨g2, us0, rfl, hgw2, ho2, hw2, hl2, hv2, ht2, hb2⟩
      have HB2 := Q.hid hb2
      have HO2 := Q.hid ho2
      have HV2 : Hid (In w3 (some ⟨g1, 0, none⟩) (ys.length + 1) vs) := HV1.out.below hb2
      have HG2 : Hid (w2.heap.size ≤ g2 ∧ g2 < w3.heap.size) := ⟨hgw2, (ho2.base g2 rfl).2⟩
      obtain ⟨L, hL⟩ : ∃ L : Nat, xs.length + 1 = L + ys.length := ⟨xs.length + 1 - ys.length, by omega⟩
      have hLi : (xs.length : Int) + 1 - (ys.length : Int) = (L : Int) := by omega
      have hp2 : (2 : Int) ^ s ≤ 2147483648 := (up_parts hs32 (Int.le_of_lt hd0) hd1).2.2.2.2.1
      have HS : Hid (DvV (val us0) vs (xs.length + 1) ys.length L us0 (List.replicate L 0) L) := DvV.start HG.out.1 HV2.out.wds hyp HG.out.2 hL hl2 hw2 (by rw [Nat.add_sub_cancel]; omega)
      have HU0 : Hid (val us0 = val xs * 2 ^ s) := hv2
      have HL := Q.hid hL
      have hL1 : L ≤ 1000001 := by omega
      clear ho2 hw2 hl2 hv2 ht2 hb2 hgw2 HV1 hL
      go_wp2_with (at_make; refine wp_mk rfl (.tmp 55) (.tmp 55) 22 36 rfl (.int .u32 0) 4 Tryz.underlying22 infoW rfl _ _ L rfl rfl (by omega) (by omega) (by omega) (by simp only [maxLen]; omega) ?_)
      have HQ3 : Hid (Ow (w3.alloc (.cells (reps L (.int .u32 0)) 36)) 36 w3.heap.size (.slice (some ⟨w3.heap.size, 0, none⟩) L L) (List.replicate L 0)) := Ow.made w3 _ _ _ (Nat.le_refl _) (by simp only [maxLen]; omega)
      have HU3 : Hid (Ow (w3.alloc (.cells (reps L (.int .u32 0)) 36)) 36 w2.heap.size (.slice (some ⟨g2, 0, none⟩) (xs.length + 1) (xs.length + 1)) us0) := HO2.out.below ((Below.refl _ _).alloc (Nat.le_refl _) _)
      have HV3 : Hid (In (w3.alloc (.cells (reps L (.int .u32 0)) 36)) (some ⟨g1, 0, none⟩) (ys.length + 1) vs) := HV2.out.alloc _
      have HB3 : Hid (Below w.heap.size w (w3.alloc (.cells (reps L (.int .u32 0)) 36))) := (bs2 HB1.out HB2.out).alloc (by have := HB1.out.size; have := HB2.out.size; omega) _
      obtain ⟨g3, hg3⟩ : ∃ g3, g3 = w3.heap.size := ⟨_, rfl⟩
      rw [← hg3] at HQ3 HG2 ⊢
      generalize w3.alloc (.cells (reps L (.int .u32 0)) 36) = w4 at *
      have HG3 : Hid (g1 < g2 ∧ g2 < g3) := ⟨by have := HG1.out; have := HG2.out; omega, HG2.out.2⟩
      have HG0 : Hid (w.heap.size ≤ g1) := HG1.out.1
      clear HO2 HV2 HB1 HB2 hg3 HG2 hLi hy
      go_loopw [11] (fun i wr => ∃ (k : Nat) (us qs : List Int), k ≤ L ∧ i = .int .i64 ((k : Int) - 1) ∧ Hid (DvV (val us0) vs (xs.length + 1) ys.length L us qs k) ∧ Hid (Ow wr 36 w.heap.size (.slice (some ⟨g3, 0, none⟩) L L) qs) ∧ Hid (Ow wr 36 w.heap.size (.slice (some ⟨g2, 0, none⟩) (xs.length + 1) (xs.length + 1)) us) ∧ Hid (In wr (some ⟨g1, 0, none⟩) (ys.length + 1) vs) ∧ Hid (Below w.heap.size w wr)) (fun i _ => (intOf i + 1).toNat)
      case atStart => exact ⟨L, us0, _, by omega, rfl, HS, HQ3.out.mono (by have := HG0.out; have := HG3.out; omega), HU3.out.mono (by have := HG1.out; omega), HV3, HB3⟩
      case round =>
        clear HS HQ3 HU3 HV3 HB3
        obtain ⟨k, us, qs, hk, rfl, HS, HQ, HU, HV, HB⟩ := hrel
        by_cases hk0 : 0 < k
        · obtain ⟨j, rfl⟩ : ∃ j, k = j + 1 := ⟨k - 1, by omega⟩
          have hj : j < L := by omega
          have hkj : ((j + 1 : Nat) : Int) - 1 = (j : Int) := by omega
          have hjb : j + ys.length + 1 ≤ xs.length + 1 := by have := HL.out; omega
          have hsl : j + ys.length + 1 - j = ys.length + 1 := by omega
          obtain ⟨hd, hse, hsz⟩ := HS.out.seg hj HG.out.1 HV.out.wds hN HG.out.2
          have hvl : vs.length = ys.length := HG.out.1
          have hul := hd.ul
          have hpre : (us.take j).length = j := by rw [List.length_take, HS.out.ul]; omega
          have hus : us = us.take j ++ seg us j ys.length ++ us.drop (j + ys.length + 1) := by
            unfold seg
            rw [List.append_assoc, show j + ys.length + 1 = j + (ys.length + 1) by omega, ← List.drop_drop, List.take_append_drop, List.take_append_drop]
          have HI : Hid (In wr (some ⟨g2, j, none⟩) (xs.length + 1 - j) (seg us j ys.length)) := ⟨HU.out.seg j _, by rw [hul]; omega, by rw [hul]; omega, hd.uw⟩
          have HU' : Hid (Ow wr 36 w.heap.size (.slice (some ⟨g2, 0, none⟩) (xs.length + 1) (xs.length + 1)) (us.take j ++ seg us j ys.length ++ us.drop (j + ys.length + 1))) := by rw [← hus]; exact HU.out
          have HVL := Q.hid hvl
          have HUL := Q.hid hul
          have HPR := Q.hid hpre
          have HD : Hid (Dv (seg us j ys.length) vs vs.length) := by rw [hvl]; exact hd
          have HD2 : Hid (Dv (seg us j ys.length) vs ys.length) := hd
          clear hd hse hsz hvl hul hpre hus HU
          rw [hkj]
          go_wp2_with fail
          rw [hsl]
          have HC := guess_calls (some ⟨g2, j, none⟩) (some ⟨g1, 0, none⟩) (xs.length + 1 - j) (ys.length + 1) (seg us j ys.length) vs wr HI.out HV.out HD.out
          rw [HUL.out, HVL.out] at HC
          refine HC.mono ?_
          rintro e w5 ⟨x, rfl, hx0, hx1, hx2, hx3, ⟨n5, rfl⟩⟩
          have HX := Q.hid (And.intro hx2 hx3)
          clear hx2 hx3 HC HI
          go_wp2_with fail
          have HC := off_calls (some ⟨g1, 0, none⟩) w.heap.size g2 (xs.length + 1) (xs.length + 1) (xs.length + 1 - j) (ys.length + 1) (us.take j) (seg us j ys.length) (us.drop (j + ys.length + 1)) vs x (wr.drewN n5) (HU'.out.drewN _) HD.out.uw (by rw [HUL.out]; omega) (HV.out.drewN _) (fun ad e => by cases e; have := HG3.out; exact Nat.ne_of_lt this.1) hx0 hx1
          rw [HUL.out, HVL.out, HPR.out] at HC
          refine HC.mono ?_
          rintro e w5 ⟨zs, cr, b, rfl, ho, hu, hg⟩
          have HGR : Hid (wr.grownBy w5 (some g2)) := grown_of_drewN hg
          have HUN := Q.hid hu
          have HOF : Hid ((x = val (seg us j ys.length) / val vs ∧ b = 0 ∧ val zs = val (seg us j ys.length) % val vs) ∨ (x = val (seg us j ys.length) / val vs + 1 ∧ b = 1 ∧ val zs = val (seg us j ys.length) % val vs - val vs + Bp (ys.length + 1))) := ho.fin HD2.out HX.out.1 HX.out.2
          have HZ : Hid (Wds zs ∧ zs.length = ys.length + 1) := ⟨ho.wds, ho.len.trans HUL.out⟩
          have HQ2 : Hid (val (seg us j ys.length) / val vs < 4294967296 ∧ 0 ≤ val (seg us j ys.length) / val vs) := ⟨HD2.out.qlt.2, HD2.out.qlt.1⟩
          clear ho hu hg HC HU'
          have HB5 : Hid (Below w.heap.size w w5) := below_grown HB.out HGR.out (fun i hi => by cases hi; have := HG0.out; have := HG3.out; omega)
          have HV5 : Hid (In w5 (some ⟨g1, 0, none⟩) (ys.length + 1) vs) := ⟨HV.out.rd.grown HGR.out (fun ad e => by cases e; exact fun h => absurd (Option.some.inj h) (Nat.ne_of_lt HG3.out.1)), HV.out.cap, HV.out.small, HV.out.wds⟩
          have HQ5 : Hid (Ow w5 36 w.heap.size (.slice (some ⟨g3, 0, none⟩) L L) qs) := HQ.out.grown HGR.out (.inr (fun h => absurd (Option.some.inj h) (Nat.ne_of_gt HG3.out.2)))
          clear HB HV HQ HGR
          rcases HOF.out with ⟨hxe, hbe, hze⟩ | ⟨hxe, hbe, hze⟩
          · subst hbe
            have HZE := Q.hid hze
            have HXE := Q.hid hxe
            clear hze hxe HOF
            have hqc := HQ5.out.cell (i := j) (by rw [HS.out.ql]; exact hj)
            have hqf := HQ5.out.free j
            have hxm : x % 4294967296 = x := by omega
            rw [show ((0 : Int) != 0) = false from rfl]
            have HS2 : Hid (DvV (val us0) vs (xs.length + 1) ys.length L (us.take j ++ zs ++ us.drop (j + ys.length + 1)) (qs.set j x) j) := by
              rw [HXE.out]
              exact HS.out.step hj HVL.out HV5.out.wds hN HG.out.2 HZ.out.2 HZ.out.1 HZE.out
            have HQ6 : Hid (Ow (w5.setCell ⟨g3, j, none⟩ (.int .u32 x)) 36 w.heap.size (.slice (some ⟨g3, 0, none⟩) L L) (qs.set j x)) := HQ5.out.store (by rw [HS.out.ql]; exact hj) _
            have HU6 : Hid (Ow (w5.setCell ⟨g3, j, none⟩ (.int .u32 x)) 36 w.heap.size (.slice (some ⟨g2, 0, none⟩) (xs.length + 1) (xs.length + 1)) (us.take j ++ zs ++ us.drop (j + ys.length + 1))) := HUN.out.far (fun h => absurd (Option.some.inj h) (Nat.ne_of_lt HG3.out.2)) _ _
            have HV6 : Hid (In (w5.setCell ⟨g3, j, none⟩ (.int .u32 x)) (some ⟨g1, 0, none⟩) (ys.length + 1) vs) := ⟨HV5.out.rd.grown (grown_set _) (fun ad e => by cases e; exact fun h => absurd (Option.some.inj h) (Nat.ne_of_lt (Nat.lt_trans HG3.out.1 HG3.out.2))), HV5.out.cap, HV5.out.small, HV5.out.wds⟩
            have HB6 : Hid (Below w.heap.size w (w5.setCell ⟨g3, j, none⟩ (.int .u32 x))) := HB5.out.setCell (show w.heap.size ≤ g3 by have := HG0.out; have := HG3.out; omega) _
            clear HS HQ5 HUN HV5 HB5
            go_wp2
            go_roundw
            case rel => exact ⟨j, _, _, by omega, rfl, HS2, HQ6, HU6, HV6, HB6⟩
            case measure => simp [intOf]
          · subst hbe
            have hqq := HQ2.out
            generalize hqv : val (seg us j ys.length) / val vs = qv at hxe hqq
            have hq1 : qv < 4294967296 := hqq.1
            have hq0 : 0 ≤ qv := hqq.2
            have HQV := Q.hid hqv
            subst hxe
            rw [show ((1 : Int) != 0) = true from rfl]
            have HZE1 := Q.hid hze
            clear hze HOF hqq hqv
            go_wp2_with fail
            have HC := back_calls (some ⟨g1, 0, none⟩) w.heap.size g2 (xs.length + 1) (xs.length + 1) (xs.length + 1 - j) (ys.length + 1) (us.take j) zs (us.drop (j + ys.length + 1)) vs w5 HUN.out HZ.out.1 (by rw [HZ.out.2]; omega) HV5.out (fun ad e => by cases e; exact Nat.ne_of_lt HG3.out.1)
            rw [HZ.out.2, HVL.out, HPR.out] at HC
            refine HC.mono ?_
            rintro e w6 ⟨zs2, cr2, rfl, ho, hu, hg⟩
            have HZE : Hid (val zs2 = val (seg us j ys.length) % val vs) := ho.fin HD2.out HZ.out.2 HZE1.out
            have HZ2 : Hid (Wds zs2 ∧ zs2.length = ys.length + 1) := ⟨ho.wds, ho.len.trans HZ.out.2⟩
            have HB7 : Hid (Below w.heap.size w w6) := below_grown HB5.out hg (fun i hi => by cases hi; have := HG0.out; have := HG3.out; omega)
            have HV7 : Hid (In w6 (some ⟨g1, 0, none⟩) (ys.length + 1) vs) := ⟨HV5.out.rd.grown hg (fun ad e => by cases e; exact fun h => absurd (Option.some.inj h) (Nat.ne_of_lt HG3.out.1)), HV5.out.cap, HV5.out.small, HV5.out.wds⟩
            have HQ7 : Hid (Ow w6 36 w.heap.size (.slice (some ⟨g3, 0, none⟩) L L) qs) := HQ5.out.grown hg (.inr (fun h => absurd (Option.some.inj h) (Nat.ne_of_gt HG3.out.2)))
            have HU7 := Q.hid hu
            clear ho hu hg HC HB5 HV5 HQ5 HUN HZ HZE1
            have hqc := HQ7.out.cell (i := j) (by rw [HS.out.ql]; exact hj)
            have hqf := HQ7.out.free j
            have HS2 : Hid (DvV (val us0) vs (xs.length + 1) ys.length L (us.take j ++ zs2 ++ us.drop (j + ys.length + 1)) (qs.set j qv) j) := by
              rw [← HQV.out]
              exact HS.out.step hj HVL.out HV7.out.wds hN HG.out.2 HZ2.out.2 HZ2.out.1 HZE.out
            have HQ6 : Hid (Ow (w6.setCell ⟨g3, j, none⟩ (.int .u32 qv)) 36 w.heap.size (.slice (some ⟨g3, 0, none⟩) L L) (qs.set j qv)) := HQ7.out.store (by rw [HS.out.ql]; exact hj) _
            have HU6 : Hid (Ow (w6.setCell ⟨g3, j, none⟩ (.int .u32 qv)) 36 w.heap.size (.slice (some ⟨g2, 0, none⟩) (xs.length + 1) (xs.length + 1)) (us.take j ++ zs2 ++ us.drop (j + ys.length + 1))) := HU7.out.far (fun h => absurd (Option.some.inj h) (Nat.ne_of_lt HG3.out.2)) _ _
            have HV6 : Hid (In (w6.setCell ⟨g3, j, none⟩ (.int .u32 qv)) (some ⟨g1, 0, none⟩) (ys.length + 1) vs) := ⟨HV7.out.rd.grown (grown_set _) (fun ad e => by cases e; exact fun h => absurd (Option.some.inj h) (Nat.ne_of_lt (Nat.lt_trans HG3.out.1 HG3.out.2))), HV7.out.cap, HV7.out.small, HV7.out.wds⟩
            have HB6 : Hid (Below w.heap.size w (w6.setCell ⟨g3, j, none⟩ (.int .u32 qv))) := HB7.out.setCell (show w.heap.size ≤ g3 by have := HG0.out; have := HG3.out; omega) _
            clear HS HQ7 HU7 HV7 HB7
            go_wp2
            go_roundw
            case rel => exact ⟨j, _, _, by omega, rfl, HS2, HQ6, HU6, HV6, HB6⟩
            case measure => simp [intOf]
        · obtain rfl : k = 0 := by omega
          have h0k : ((0 : Nat) : Int) - 1 = -1 := rfl
          rw [h0k]
          have hF := HS.out.fin HG.out.1 HV.out.wds
          rw [HU0.out, HVV.out, (shifted_quo (val xs) (val ys) s).1] at hF
          have HQT : Hid (trim qs = nwd (val xs / val ys)) := nwd_trim HS.out.qw hF.1
          have htl : (us.take ys.length).length = ys.length := by rw [List.length_take, HS.out.ul]; omega
          have HTL := Q.hid htl
          have HQL : Hid (qs.length = L) := HS.out.ql
          have HR : Hid (val (trim (us.take ys.length)) / 2 ^ s = val xs % val ys) := by
            show val (trim (us.take ys.length)) / 2 ^ s = val xs % val ys
            rw [val_trim, hF.2.1]; exact (shifted_quo (val xs) (val ys) s).2
          have HOQ : Hid (Ow wr 36 w.heap.size (.slice (some ⟨g3, 0, none⟩) (trim qs).length L) (nwd (val xs / val ys))) := by rw [← HQT.out]; exact HQ.out.trim
          have HIQ : Hid (In wr (some ⟨g3, 0, none⟩) L qs) := ⟨HQ.out.read.2.2.2, by rw [HQL.out]; exact Nat.le_refl _, by rw [HQL.out]; omega, HS.out.qw⟩
          have HIU : Hid (In wr (some ⟨g2, 0, none⟩) (xs.length + 1) (us.take ys.length)) := ⟨HU.out.read.2.2.2.take _, by rw [htl]; omega, by rw [htl]; omega, HS.out.uw.take _⟩
          have HOU : Hid (Ow wr 36 w.heap.size (.slice (some ⟨g2, 0, none⟩) (trim (us.take ys.length)).length (xs.length + 1)) (trim (us.take ys.length))) := (HU.out.cut (m := ys.length) (by rw [HS.out.ul]; omega)).trim
          have hqt : (trim qs).length ≤ L := by rw [len_trim, ← HS.out.ql]; exact tl_le _
          have hut : (trim (us.take ys.length)).length ≤ ys.length := by rw [len_trim]; have := tl_le (us.take ys.length); omega
          clear hF htl HS HQ HU
          go_wp2_with fail
          go_region_with (first
            | (go_at_call_of 48 g3
               have HC := fun w' h => cut_calls (some ⟨g3, 0, none⟩) L qs w' h
               rw [HQL.out] at HC
               refine (HC _ ?_).mono ?_
               exact ⟨HIQ.out.rd, HIQ.out.cap, HIQ.out.small, HIQ.out.wds⟩
               rintro e w6 ⟨rfl, rfl⟩)
            | (go_at_call_of 48 g2
               have HC := fun w' h => cut_calls (some ⟨g2, 0, none⟩) (xs.length + 1) (us.take ys.length) w' h
               rw [HTL.out] at HC
               refine (HC _ ?_).mono ?_
               exact ⟨HIU.out.rd, HIU.out.cap, HIU.out.small, HIU.out.wds⟩
               rintro e w6 ⟨rfl, rfl⟩)
            | (go_at_call 28
               refine (down_calls (some ⟨g2, 0, none⟩) (xs.length + 1) w.heap.size s (trim (us.take ys.length)) _ ?_ ?_ hs32).mono ?_
               exact HOU.out
               exact ⟨HIU.out.trim.rd, HIU.out.trim.cap, HIU.out.trim.small, HIU.out.trim.wds⟩
               rintro e w7 ⟨v7, rfl, ho, hob, hg⟩
               have HO7 := Q.hid ho
               have HOB7 := Q.hid hob
               have HG7 : Hid (wr.grownBy w7 (some g2)) := ⟨hg.os, hg.tape, hg.output, hg.size, hg.block⟩
               clear ho hob hg))
          all_goals
            go_wp2
            go_ret2
            have hO7 := HO7.out
            rw [HR.out] at hO7
            refine ⟨.slice (some ⟨g3, 0, none⟩) (trim qs).length L, v7, rfl, HOQ.out.grown HG7.out (.inr (fun h => absurd (Option.some.inj h) (Nat.ne_of_gt HG3.out.2))), hO7, .inr fun h => ?_, below_grown HB.out HG7.out (fun i hi => by cases hi; have := HG0.out; have := HG3.out; omega)⟩
            rw [HOB7.out] at h
            exact absurd (Option.some.inj h) (Nat.ne_of_gt HG3.out.2)
end Go.Proofs.YtgnmmifeojfjlaaGreatDoor
