/- The reference of layer 2, the first calls; what each call does. -/
import Derived.Test.YtidccoahjpjoaaaQWhl3
import Derived.Test.YtidccoahjpjoaaaQRef8
set_option linter.unusedVariables false
set_option linter.unusedSimpArgs false
namespace Go.Proofs.Ytidccoahjpjoaaa
open Go Go.RowKit Q

set_option maxHeartbeats 400000 in
theorem rWCheck_calls (n : Bool) (A : Option Addr) (c : Nat) (xs : List Int) (w : World) (h : In w A c xs) :
    Calls Try.prog 44 #[.agg #[.bool n, .slice A xs.length c]] w fun e w' => e = .returned (.int .i64 (chkW n xs)) ∧ Below w.heap.size w w' := by
  have hm : xs.length ≤ 9223372036854775807 := by have := h.small; omega
  have H := Q.hid h.rd
  clear h
  by_cases h1 : 2048 < xs.length
  · have HE : Hid (chkW n xs = 3) := if_pos h1
    go_enter Try.func44, Try.ntmps44
    go_wp2
    go_ret
    exact ⟨by rw [HE.out]; rfl, (Below.refl _ _).alloc (Nat.le_refl _) _⟩
  · by_cases h2 : 0 < xs.length
    · obtain ⟨ad, rfl, hx0⟩ := H.out (xs.length - 1) (by omega)
      have hl := tl_last h2
      have hb : ad.block < w.heap.size := by have := World.block_lt_of_cell? w _ hx0; rwa [add_block] at this
      have hx : (w.alloc (.cells #[.bool n, .slice (some ad) xs.length c] 24)).cell? (ad.add (xs.length - 1)) = some (.int .u32 (wd xs (xs.length - 1))) := by
        rw [← hx0]; exact Below.cell ((Below.refl w.heap.size w).alloc (Nat.le_refl _) _) (by rw [add_block]; exact hb)
      have hne : xs ≠ [] := List.length_pos_iff.1 h2
      have hg1 : decide (0 < (xs.length : Int)) = true := decide_eq_true (by omega)
      have hg2 : decide (0 < xs.length) = true := decide_eq_true h2
      have hi : (((xs.length : Int) - 1).toNat) = xs.length - 1 := by omega
      by_cases hz : wd xs (xs.length - 1) = 0
      · have hz1 : (wd xs (xs.length - 1) == 0) = true := by simp [hz]
        have HE : Hid (chkW n xs = 11) := by unfold chkW; rw [if_neg (by omega), if_neg (by rw [hl]; simp [hz])]; rfl
        clear hz hl hx0 hne
        go_enter Try.func44, Try.ntmps44
        go_wp2
        go_ret
        exact ⟨by rw [HE.out]; rfl, (Below.refl _ _).alloc (Nat.le_refl _) _⟩
      · have hz1 : (wd xs (xs.length - 1) == 0) = false := by simp [hz]
        have HE : Hid (chkW n xs = 0) := by unfold chkW; rw [if_neg (by omega), if_pos ⟨by rw [hl]; exact hz, fun e => absurd e hne⟩]; rfl
        have hn0 : ((xs.length : Int) == 0) = false := by simp; omega
        have hn1 : (xs.length == 0) = false := by simp; omega
        clear hz hl hx0 hne
        go_enter Try.func44, Try.ntmps44
        go_wp2
        go_ret
        exact ⟨by rw [HE.out]; rfl, (Below.refl _ _).alloc (Nat.le_refl _) _⟩
    · have hx : xs = [] := List.eq_nil_of_length_eq_zero (by omega)
      subst hx
      cases n
      all_goals
        go_enter Try.func44, Try.ntmps44
        go_wp2
        go_ret
        exact ⟨rfl, (Below.refl _ _).alloc (Nat.le_refl _) _⟩
set_option maxHeartbeats 400000 in
theorem rWboth_calls (n m : Bool) (A A' : Option Addr) (c c' : Nat) (xs ys : List Int) (w : World) (h : In w A c xs) (h' : In w A' c' ys) :
    Calls Try.prog 66 #[.agg #[.bool n, .slice A xs.length c], .agg #[.bool m, .slice A' ys.length c']] w fun e w' => e = .returned (.int .i64 (chkW2 n xs m ys)) ∧ Below w.heap.size w w' := by
  have H := Q.hid h
  have H' := Q.hid h'
  clear h h'
  by_cases h0 : chkW n xs = 0
  · have hb : (chkW n xs != 0) = false := by simp [h0]
    have HF : Hid (chkW2 n xs m ys = chkW m ys) := if_pos h0
    clear h0
    go_enter Try.func66, Try.ntmps66
    go_wp2_with fail
    refine (rWCheck_calls n A c xs _ (H.out.below (below_alloc2 _ _ _))).mono ?_
    rintro e w1 ⟨rfl, hb1⟩
    have B2 := Q.hid ((Bx.new (w.alloc (.cells #[.bool n, .slice A xs.length c] 24)) m (.slice A' ys.length c')).below hb1)
    have HB := Q.hid ((below_alloc2 w _ _).trans (hb1.mono (by simp; omega)))
    clear hb1
    have k0 := B2.out.c0
    have k1 := B2.out.c1
    simp only [World.size_alloc] at k0 k1
    go_wp2_with fail
    refine (rWCheck_calls m A' c' ys _ (H'.out.below HB.out)).mono ?_
    rintro e w2 ⟨rfl, hb2⟩
    go_wp2
    go_ret
    exact ⟨by rw [HF.out]; rfl, bs2 HB.out hb2⟩
  · have hb : (chkW n xs != 0) = true := by simp [h0]
    have HF : Hid (chkW2 n xs m ys = chkW n xs) := if_neg h0
    clear h0
    go_enter Try.func66, Try.ntmps66
    go_wp2_with fail
    refine (rWCheck_calls n A c xs _ (H.out.below (below_alloc2 _ _ _))).mono ?_
    rintro e w1 ⟨rfl, hb1⟩
    have HB := Q.hid ((below_alloc2 w _ _).trans (hb1.mono (by simp; omega)))
    clear hb1
    go_wp2
    go_ret
    exact ⟨by rw [HF.out]; rfl, HB.out⟩

set_option maxHeartbeats 400000 in
theorem rmade_calls (n : Bool) (A : Option Addr) (c : Nat) (xs : List Int) (w : World) (h : In w A c xs) :
    Calls Try.prog 48 #[.bool n, .slice A xs.length c] w fun e w' => ∃ B d, e = .returned (.agg #[.bool (cn (wv n xs)), .slice B (cw (wv n xs)).length d]) ∧ Ow w' 58 w.heap.size (.slice B (cw (wv n xs)).length d) (cw (wv n xs)) ∧ Below w.heap.size w w' := by
  obtain ⟨us, hus⟩ : ∃ us, us = cw (wv n xs) := ⟨_, rfl⟩
  obtain ⟨b, hbb⟩ : ∃ b, b = cn (wv n xs) := ⟨_, rfl⟩
  rw [← hus, ← hbb]
  have HZ : Hid (trim xs = us ∧ (n && !us.isEmpty) = b) := by
    have e : trim xs = nwd (val xs) := nwd_trim h.wds rfl
    have h0 := val_nonneg h.wds
    have e2 : us = nwd (val xs) := by rw [hus]; unfold cw; rw [wv_natAbs h.wds]
    refine ⟨by rw [e, e2], ?_⟩
    rw [e2, sg_dec h0, hbb]; rfl
  clear hus hbb
  have H := Q.hid h
  have HS := Q.hid h.trim.small
  have HW := Q.hid h.trim.wds
  have hcs : (decide (0 < (us.length : Int)) = false ∧ decide (0 < us.length) = false ∧ Hid (b = false)) ∨ (decide (0 < (us.length : Int)) = true ∧ decide (0 < us.length) = true ∧ Hid (b = n)) := by
    have hn := HZ.out.2
    cases us with
    | nil => exact .inl ⟨rfl, rfl, by simpa [Hid] using hn.symm⟩
    | cons z zs => exact .inr ⟨decide_eq_true (by simp only [List.length_cons]; omega), decide_eq_true (by simp), by simpa [Hid] using hn.symm⟩
  have HT := Q.hid HZ.out.1
  clear h HZ
  rcases hcs with ⟨hp1, hp2, HN⟩ | ⟨hp1, hp2, HN⟩
  all_goals
    cases n
    all_goals
      go_enter Try.func48, Try.ntmps48
      go_wp2_with fail
      refine (rTrim_calls A c xs _ (H.out.below (below_alloc1 _ _))).mono ?_
      rintro e w1 ⟨v, rfl, ho, hb⟩
      obtain ⟨A1, c1, e1, i1⟩ := ho.inn HW.out HS.out
      subst e1
      have B3 := Q.hid ((Bx.new w false (.slice none 0 0)).below hb)
      have HB := Q.hid ((below_alloc1 w _).trans (hb.mono (by simp)))
      have HI := Q.hid i1.rd
      have hg3 : w.heap.size < w1.heap.size := B3.out.lt
      clear ho hb i1
      go_wp2_with (at_builtin; refine wp_app rfl (.tmp 6) (.tmp 8) 22 58 rfl Try.underlying22 infoW w1.heap.size _ [] rfl (Ow.nil _ _ _) A1 (trim xs).length c1 (trim xs) rfl rfl HI.out (by have := HS.out; simp; omega) (Nat.le_refl _) ?_; intro v2 w2 ho hg hat; have ho2 : Ow w2 58 w1.heap.size v2 us := (by rw [← HT.out]; simpa using ho); obtain ⟨A2, c2, e2, _⟩ := ho2.slice; subst e2; have hbb : Below w1.heap.size w1 w2 := below_grown (Below.refl _ _) hg (fun k hk => by cases hk); have HO := Q.hid ho2; have B3 := Q.hid (B3.out.below hbb); have HB := Q.hid (bs2 HB.out hbb); clear ho hg hat ho2 hbb HI; have k30 := B3.out.c0; have k31 := B3.out.c1; have f30 := B3.out.f0; have f31 := B3.out.f1)
      refine bodyPost_ret (by rw [results_cell1 rfl]; go_simp; rfl) rfl ?_
      exact ⟨A2, c2, by rw [HN.out], far2 HO.out hg3 (Nat.le_of_lt hg3) _ _, below_set2 HB.out (Nat.le_refl _) _ _⟩

set_option maxHeartbeats 400000 in
theorem rWtold_calls (v : Int) (A : Option Addr) (c B : Nat) (w : World) (ho : Ow w 58 B (.slice A (cw v).length c) (cw v)) :
    Calls Try.prog 67 #[.agg #[.bool (cn v), .slice A (cw v).length c]] w fun e w' => ∃ A' c', e = .returned (.tuple #[.agg #[.bool (toldW v).neg, .slice A' (toldW v).ws.length c'], .int .i64 (toldW v).err]) ∧ Ow w' 58 B (.slice A' (toldW v).ws.length c') (toldW v).ws ∧ Below w.heap.size w w' := by
  have HO := Q.hid ho
  have hm : (cw v).length ≤ 9223372036854775807 := by have := ho.read; simp only [maxLen] at this; omega
  clear ho
  by_cases h1 : 2048 < (cw v).length
  · have HE : Hid (toldW v = noW 3) := by rw [toldW_eq]; exact if_pos h1
    go_enter Try.func67, Try.ntmps67
    go_wp2
    go_returns
    exact ⟨none, 0, by rw [HE.out]; rfl, by rw [HE.out]; exact Ow.nil _ _ _, below_alloc2 _ _ _⟩
  · have HE : Hid (toldW v = ⟨cn v, cw v, 0⟩) := by rw [toldW_eq]; exact if_neg h1
    go_enter Try.func67, Try.ntmps67
    go_wp2
    go_returns
    exact ⟨A, c, by rw [HE.out], by rw [HE.out]; exact HO.out.below (below_alloc2 _ _ _), below_alloc2 _ _ _⟩

set_option maxHeartbeats 400000 in
theorem Opposite_calls (n : Bool) (A : Option Addr) (c : Nat) (xs : List Int) (w : World) (h : In w A c xs) :
    Calls Try.prog 65 #[.agg #[.bool n, .slice A xs.length c]] w fun e w' => ∃ B d, e = .returned (.agg #[.bool (cn (-wv n xs)), .slice B (cw (-wv n xs)).length d]) ∧ Ow w' 58 w.heap.size (.slice B (cw (-wv n xs)).length d) (cw (-wv n xs)) ∧ Below w.heap.size w w' := by
  have H := Q.hid h
  have HV : Hid (wv (!n) xs = -wv n xs) := sg_not n (val xs)
  clear h
  go_enter Try.func65, Try.ntmps65
  go_wp2_with fail
  refine (rmade_calls (!n) A c xs _ (H.out.below (below_alloc2 _ _ _))).mono ?_
  rintro e w1 ⟨A1, c1, rfl, ho, hb⟩
  rw [HV.out] at ho ⊢
  have B3 := Q.hid ((Bx.new (w.alloc (.cells #[.bool n, .slice A xs.length c] 24)) false (.slice none 0 0)).below hb)
  simp only [World.size_alloc] at B3
  have HB := Q.hid ((below_alloc2 w _ _).trans (hb.mono (by simp; omega)))
  have ho1 := ho
  simp only [World.size_alloc] at ho1
  have HO := Q.hid ho1
  have k30 := B3.out.c0
  have k31 := B3.out.c1
  have f30 := B3.out.f0
  have f31 := B3.out.f1
  clear ho hb ho1
  go_wp2
  refine bodyPost_ret (by rw [results_cell1 rfl]; go_simp; rfl) rfl ?_
  exact ⟨A1, c1, rfl, far2 HO.out (by omega) (by omega) _ _, below_set2 HB.out (by omega) _ _⟩
end Go.Proofs.Ytidccoahjpjoaaa
