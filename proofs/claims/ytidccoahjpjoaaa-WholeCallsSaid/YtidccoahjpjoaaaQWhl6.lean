/- Package whole: quotients and rests; what the call does. -/
import Derived.Test.YtidccoahjpjoaaaQWhl5
set_option linter.unusedVariables false
set_option linter.unusedSimpArgs false
namespace Go.Proofs.Ytidccoahjpjoaaa
open Go Go.RowKit Q

theorem results_cell2_tmp {P : Program} {fn : Func} {p q u : Tmp} {ty ty2 : TypeId} (h : fn.results = #[.cell p ty, .cell q ty2, .tmp u]) (tmps : Array Value) (w : World) :
    (results fn tmps).run P w = ((asAddr (tmps.getD p undef)).run P w).andThen fun a w₁ => ((loadVar ty a).run P w₁).andThen fun v w₂ => ((asAddr (tmps.getD q undef)).run P w₂).andThen fun b w₃ => ((loadVar ty2 b).run P w₃).andThen fun v2 w₄ => .ok (.tuple #[v, v2, tmps.getD u undef]) w₄ := by
  simp only [results, h]
  simp [Sem.run_bind, Result.andThen]
/-- two rows of the call's own, as its results' cells are written -/
structure DmSt (w wk : World) (B : Nat) (v1 : Value) (xs1 : List Int) (v2 : Value) (xs2 : List Int) : Prop where
  o1 : Ow wk 58 B v1 xs1
  o2 : Ow wk 58 B v2 xs2
  below : Below w.heap.size w wk
theorem DmSt.set {w wk : World} {B g i : Nat} {v1 v2 : Value} {xs1 xs2 : List Int} (h : DmSt w wk B v1 xs1 v2 xs2) (hg : w.heap.size ≤ g) (hB : g < B) (u : Value) : DmSt w (wk.setCell ⟨g, i, none⟩ u) B v1 xs1 v2 xs2 :=
  ⟨h.o1.far (fun e => by have := (h.o1.base g e).1; omega) _ _, h.o2.far (fun e => by have := (h.o2.base g e).1; omega) _ _, h.below.setCell hg _⟩
theorem DmSt.drew {w wk : World} {B : Nat} {v1 v2 : Value} {xs1 xs2 : List Int} (h : DmSt w wk B v1 xs1 v2 xs2) : DmSt w wk.drew B v1 xs1 v2 xs2 := ⟨h.o1, h.o2, h.below.drew⟩
theorem Apart2.keep {u v u' v' : Value} (h : Apart2 u v) (hu : u'.ownBlock = u.ownBlock ∨ u'.ownBlock = none) (hv : v'.ownBlock = v.ownBlock ∨ v'.ownBlock = none) : Apart2 u' v' := by
  rcases hu with hu | hu
  · rcases h with h | h
    · exact .inl (hu.trans h)
    · by_cases hn : u.ownBlock = none
      · exact .inl (hu.trans hn)
      · rcases hv with hv | hv
        · exact .inr (by rw [hu, hv]; exact h)
        · exact .inr (by rw [hu, hv]; exact hn)
  · exact .inl hu
theorem chkW_nwd {k : Int} (hk : 0 ≤ k) (h : k < Bp 2048) : chkW false (nwd k) = 0 := chkW_zero.2 ⟨nwd_len_le h hk, nwd_tr k, fun _ => rfl⟩
theorem quo_told {n m : Bool} {xs ys : List Int} (hx : Wds xs) (h : chkW2 n xs m ys = 0) (hy : ys ≠ []) : quoW n xs m ys = ⟨cn (wv n xs / wv m ys), cw (wv n xs / wv m ys), 0⟩ := by
  unfold quoW; rw [if_pos h, if_neg hy]; exact toldW_can (quo_lt hx (chkW2_zero.1 h).1 _)
theorem rem_told {n m : Bool} {xs ys : List Int} (hw : Wds ys) (h : chkW2 n xs m ys = 0) (hy : ys ≠ []) : remW n xs m ys = ⟨cn (wv n xs % wv m ys), cw (wv n xs % wv m ys), 0⟩ := by
  unfold remW; rw [if_pos h, if_neg hy]; exact toldW_can (rem_lt hw (chkW2_zero.1 h).2 hy _).1
theorem md_can {n : Bool} {k v : Int} (hk : 0 ≤ k) (hv : sg n k = v) (hs : Sh v) : mdW n (nwd k) = ⟨cn v, cw v, 0⟩ := by
  rw [mdW_sg hk, hv]; exact toldW_can hs

set_option maxHeartbeats 4000000 in
set_option maxRecDepth 100000 in
theorem wDivMod_calls (n m : Bool) (A A' : Option Addr) (c c' : Nat) (xs ys : List Int) (w : World) (h : In w A c xs) (h' : In w A' c' ys) :
    Calls Try.prog 29 #[.agg #[.bool n, .slice A xs.length c], .agg #[.bool m, .slice A' ys.length c']] w fun e w' => ∃ B d B' d', e = .returned (.tuple #[.agg #[.bool (quoW n xs m ys).neg, .slice B (quoW n xs m ys).ws.length d], .agg #[.bool (remW n xs m ys).neg, .slice B' (remW n xs m ys).ws.length d'], .int .i64 (quoW n xs m ys).err]) ∧ Ow w' 58 w.heap.size (.slice B (quoW n xs m ys).ws.length d) (quoW n xs m ys).ws ∧ Ow w' 58 w.heap.size (.slice B' (remW n xs m ys).ws.length d') (remW n xs m ys).ws ∧ Apart2 (.slice B (quoW n xs m ys).ws.length d) (.slice B' (remW n xs m ys).ws.length d') ∧ Below w.heap.size w w' := by
  have H := Q.hid h
  have H' := Q.hid h'
  have hw := h.wds
  have hw' := h'.wds
  clear h h'
  obtain ⟨W, hW⟩ : ∃ W, W = ((((w.alloc (.cells #[.bool n, .slice A xs.length c] 24)).alloc (.cells #[.bool m, .slice A' ys.length c'] 24)).alloc (.cells #[.bool false, .slice none 0 0] 24)).alloc (.cells #[.bool false, .slice none 0 0] 24)) := ⟨_, rfl⟩
  have B1 : Hid (Bx W w.heap.size n (.slice A xs.length c)) := by rw [hW]; exact (((Bx.new w n (.slice A xs.length c)).alloc _).alloc _).alloc _
  have B2 : Hid (Bx W (w.heap.size + 1) m (.slice A' ys.length c')) := by
    have := ((Bx.new (w.alloc (.cells #[.bool n, .slice A xs.length c] 24)) m (.slice A' ys.length c')).alloc (.cells #[.bool false, .slice none 0 0] 24)).alloc (.cells #[.bool false, .slice none 0 0] 24)
    simp only [World.size_alloc] at this
    rw [hW]; exact this
  have B3 : Hid (Bx W (w.heap.size + 1 + 1) false (.slice none 0 0)) := by
    have := (Bx.new ((w.alloc (.cells #[.bool n, .slice A xs.length c] 24)).alloc (.cells #[.bool m, .slice A' ys.length c'] 24)) false (.slice none 0 0)).alloc (.cells #[.bool false, .slice none 0 0] 24)
    simp only [World.size_alloc] at this
    rw [hW]; exact this
  have B4 : Hid (Bx W (w.heap.size + 1 + 1 + 1) false (.slice none 0 0)) := by
    have := Bx.new (((w.alloc (.cells #[.bool n, .slice A xs.length c] 24)).alloc (.cells #[.bool m, .slice A' ys.length c'] 24)).alloc (.cells #[.bool false, .slice none 0 0] 24)) false (.slice none 0 0)
    simp only [World.size_alloc] at this
    rw [hW]; exact this
  have HB : Hid (Below w.heap.size w W) := by rw [hW]; exact below_alloc4 w _ _ _ _
  have hg4 : w.heap.size + 1 + 1 + 1 < W.heap.size := B4.out.lt
  have HX : Hid (In W A c xs) := H.out.below HB.out
  have HX' : Hid (In W A' c' ys) := H'.out.below HB.out
  have k10 := B1.out.c0
  have k11 := B1.out.c1
  have k20 := B2.out.c0
  have k21 := B2.out.c1
  by_cases h0 : chkW2 n xs m ys = 0
  · have hb0 : (chkW2 n xs m ys != 0) = false := by simp [h0]
    by_cases hy : ys = []
    · have HF : Hid (quoW n xs m ys = noW 7 ∧ remW n xs m ys = noW 7) := ⟨(if_pos h0).trans (if_pos hy), (if_pos h0).trans (if_pos hy)⟩
      have hl1 : ((ys.length : Int) == 0) = true := by rw [hy]; rfl
      have hl2 : (ys.length == 0) = true := by rw [hy]; rfl
      have HY := Q.hid hy
      clear h0 hy hw hw'
      go_enter Try.func29, Try.ntmps29
      go_wp2_with fail
      rw [← hW]
      clear hW
      refine (wboth_calls n m A A' c c' xs ys _ HX.out HX'.out).mono ?_
      rintro e w1 ⟨rfl, hb⟩
      have HX := Q.hid (HX.out.below hb)
      have HX' := Q.hid (HX'.out.below hb)
      have hg4 : w.heap.size + 1 + 1 + 1 < w1.heap.size := Nat.lt_of_lt_of_le hg4 hb.size
      have B1 := Q.hid (B1.out.below hb)
      have B2 := Q.hid (B2.out.below hb)
      have B3 := Q.hid (B3.out.below hb)
      have B4 := Q.hid (B4.out.below hb)
      have HB := Q.hid (bs2 HB.out hb)
      clear hb k10 k11 k20 k21
      have k10 := B1.out.c0
      have k11 := B1.out.c1
      have k20 := B2.out.c0
      have k21 := B2.out.c1
      have k30 := B3.out.c0
      have k31 := B3.out.c1
      have k40 := B4.out.c0
      have k41 := B4.out.c1
      have f30 := B3.out.f0
      have f31 := B3.out.f1
      have f40 := B4.out.f0
      have f41 := B4.out.f1
      have HB2 := HB
      go_wp2
      go_region
      all_goals
        go_wp2
        refine bodyPost_ret (by rw [results_cell2_tmp rfl]; go_simp; rfl) rfl ?_
        exact ⟨none, 0, none, 0, by rw [HF.out.1, HF.out.2]; rfl, by rw [HF.out.1]; exact Ow.nil _ _ _, by rw [HF.out.2]; exact Ow.nil _ _ _, .inl rfl, by repeat' first | exact HB.out | exact HB2.out | refine Below.drew ?_ | refine Below.setCell ?_ (by simp; omega) _⟩
    · have hc := chkW2_zero.1 h0
      have hcx := chkW_zero.1 hc.1
      have hcy := chkW_zero.1 hc.2
      have X0 := val_nonneg hw
      have Y0 := val_pos hw' hcy.2.1 hy
      have hxl := val_lt_len hw hcx.1
      have hyl := val_lt_len hw' hcy.1
      have HF : Hid (quoW n xs m ys = ⟨cn (wv n xs / wv m ys), cw (wv n xs / wv m ys), 0⟩ ∧ remW n xs m ys = ⟨cn (wv n xs % wv m ys), cw (wv n xs % wv m ys), 0⟩) := ⟨quo_told hw h0 hy, rem_told hw' h0 hy⟩
      have HS : Hid (divS xs ys = (nwd (val xs / val ys), nwd (val xs % val ys), 0)) := by unfold divS; rw [if_pos (chkW2_chk2 h0), if_neg hy]; rfl
      have hl1 : ((ys.length : Int) == 0) = false := by have := List.length_pos_iff.2 hy; simp; omega
      have hl2 : (ys.length == 0) = false := by have := List.length_pos_iff.2 hy; simp; omega
      have hq0 := Int.ediv_nonneg X0 (Int.le_of_lt Y0)
      have hq1 := Int.ediv_le_self (val ys) X0
      have hr0 := Int.emod_nonneg (val xs) (show val ys ≠ 0 by omega)
      have hr1 := Int.emod_lt_of_pos (val xs) Y0
      have hsq : Sh (wv n xs / wv m ys) := quo_lt hw hc.1 _
      have hsr : Sh (wv n xs % wv m ys) := (rem_lt hw' hc.2 hy _).1
      by_cases hQ : n = true ∧ val xs % val ys ≠ 0
      · obtain ⟨rfl, hne⟩ := hQ
        have hqp := quo_more (n := true) (m := m) Y0 rfl hne
        have hy2 : 2 ≤ val ys := by omega
        have hq2 : val xs / val ys + 1 < Bp 2048 := by
          have : val xs / val ys * 2 ≤ val xs / val ys * val ys := Int.mul_le_mul_of_nonneg_left hy2 hq0
          have e := Int.mul_ediv_add_emod (val xs) (val ys)
          rw [Int.mul_comm] at e
          have := Bp_mono (show 1 ≤ 2048 by omega)
          have e1 : Bp 1 = 4294967296 := by decide
          omega
        have hbm : (true != m) = !m := by cases m <;> rfl
        have HQ : Hid (mdW (!m) (nwd (val xs / val ys + 1)) = ⟨cn (wv true xs / wv m ys), cw (wv true xs / wv m ys), 0⟩) := by rw [← hbm]; exact md_can (by omega) hqp.1.symm hsq
        have HR : Hid (mdW false (nwd (val ys - val xs % val ys)) = ⟨cn (wv true xs % wv m ys), cw (wv true xs % wv m ys), 0⟩) := md_can (by omega) hqp.2.symm hsr
        have hnz : nwd (val xs % val ys) ≠ [] := fun e => hne ((nwd_nil_iff hr0).1 e)
        have hd1 : decide (0 < ((nwd (val xs % val ys)).length : Int)) = true := decide_eq_true (by have := List.length_pos_iff.2 hnz; omega)
        have hd2 : decide (0 < (nwd (val xs % val ys)).length) = true := decide_eq_true (List.length_pos_iff.2 hnz)
        have w1d : Wds [1] := Wds.cons (by omega) (by omega) Wds.nil
        have HS1 : Hid (addS (nwd (val xs / val ys)) [1] = (nwd (val xs / val ys + 1), 0)) := by
          have := addS_of (n := false) (m := false) (nwd_wds (val xs / val ys)) w1d (chkW2_zero.2 ⟨chkW_nwd hq0 (by omega), rfl⟩)
          rw [val_nwd hq0] at this
          simpa [val, Hid] using this
        have HS2 : Hid (subS ys (nwd (val xs % val ys)) = (nwd (val ys - val xs % val ys), 0)) := by
          have := subS_of (n := false) (m := false) (xs := ys) (ys := nwd (val xs % val ys)) (chkW2_zero.2 ⟨chkW_zero.2 ⟨hcy.1, hcy.2.1, fun _ => rfl⟩, chkW_nwd hr0 (by omega)⟩) (by rw [val_nwd hr0]; omega)
          rwa [val_nwd hr0] at this
        have hlq : (nwd (val xs / val ys)).length ≤ 2048 := nwd_len_le (by omega) hq0
        have hlr : (nwd (val xs % val ys)).length ≤ 2048 := nwd_len_le (by omega) hr0
        clear h0 hy hc hcx hcy X0 Y0 hxl hyl hq0 hq1 hr0 hr1 hsq hsr hne hqp hw hw' hy2 hq2 hnz hbm
        go_enter Try.func29, Try.ntmps29
        go_wp2_with fail
        rw [← hW]
        clear hW
        refine (wboth_calls true m A A' c c' xs ys _ HX.out HX'.out).mono ?_
        rintro e w1 ⟨rfl, hb⟩
        have HX := Q.hid (HX.out.below hb)
        have HX' := Q.hid (HX'.out.below hb)
        have hg4 : w.heap.size + 1 + 1 + 1 < w1.heap.size := Nat.lt_of_lt_of_le hg4 hb.size
        have B1 := Q.hid (B1.out.below hb)
        have B2 := Q.hid (B2.out.below hb)
        have B3 := Q.hid (B3.out.below hb)
        have B4 := Q.hid (B4.out.below hb)
        have HB := Q.hid (bs2 HB.out hb)
        clear hb k10 k11 k20 k21
        have k10 := B1.out.c0
        have k11 := B1.out.c1
        have k20 := B2.out.c0
        have k21 := B2.out.c1
        go_wp2_with fail
        refine (DivMod_calls A A' c c' xs ys _ HX.out HX'.out).mono ?_
        rintro e w2 ⟨v, v', rfl, ho, ho', ha, hb⟩
        rw [HS.out] at ho ho' ⊢
        obtain ⟨A2, c2, e2, _⟩ := ho.slice
        subst e2
        obtain ⟨A3, c3, e3, _⟩ := ho'.slice
        subst e3
        have HX := Q.hid (HX.out.below hb)
        have HX' := Q.hid (HX'.out.below hb)
        have HA := Q.hid ha
        have HD := Q.hid (⟨ho, ho', bs2 HB.out hb⟩ : DmSt w w2 w1.heap.size _ _ _ _)
        have hw12 := Q.hid hb.size
        have B1 := Q.hid (B1.out.below hb)
        have B2 := Q.hid (B2.out.below hb)
        have B3 := Q.hid (B3.out.below hb)
        have B4 := Q.hid (B4.out.below hb)
        have HB := Q.hid (bs2 HB.out hb)
        clear ho ho' ha hb k10 k11 k20 k21
        have k10 := B1.out.c0
        have k11 := B1.out.c1
        have k20 := B2.out.c0
        have k21 := B2.out.c1
        have HIq : Hid (In w2 A2 c2 (nwd (val xs / val ys))) := ⟨HD.out.o1.read.2.2.2, HD.out.o1.read.2.1, by omega, nwd_wds _⟩
        have HIr : Hid (In w2 A3 c3 (nwd (val xs % val ys))) := ⟨HD.out.o2.read.2.2.2, HD.out.o2.read.2.1, by omega, nwd_wds _⟩
        have HL1 : Hid (In (w2.alloc (.cells #[.int .u32 1] 58)) (some ⟨w2.heap.size, 0, none⟩) 1 [1]) := by
          have HO := Ow.lit w2 58 w.heap.size [1] (HD.out.below.size) (by simp [maxLen])
          exact ⟨HO.read.2.2.2, by simp, by simp, Wds.cons (by omega) (by omega) Wds.nil⟩
        go_wp2_with fail
        refine (Add_calls A2 (some ⟨w2.heap.size, 0, none⟩) c2 1 (nwd (val xs / val ys)) [1] _ (HIq.out.alloc _) HL1.out).mono ?_
        rintro e w3 ⟨v, rfl, ho, hb⟩
        rw [HS1.out] at ho ⊢
        obtain ⟨A4, c4, e4, _⟩ := ho.slice
        subst e4
        have hb2 : Below w2.heap.size w2 w3 := (below_alloc1 w2 _).trans (hb.mono (by simp))
        have HO4 := Q.hid (ho.mono (B' := w1.heap.size) (by rw [World.size_alloc]; exact Nat.le_succ_of_le hw12.out))
        have hw13 := Q.hid (Nat.le_trans hw12.out hb2.size)
        have hq4 : ∀ k, (Value.slice A4 (nwd (val xs / val ys + 1)).length c4).ownBlock = some k → k < w3.heap.size := fun k hk => (ho.base k hk).2
        have HQ4 := Q.hid hq4
        have HIr := Q.hid (HIr.out.below hb2)
        have HX' := Q.hid (HX'.out.below hb2)
        have B1 := Q.hid (B1.out.below hb2)
        have B2 := Q.hid (B2.out.below hb2)
        have B3 := Q.hid (B3.out.below hb2)
        have B4 := Q.hid (B4.out.below hb2)
        have HB := Q.hid (bs2 HB.out hb2)
        clear ho hb hb2 hq4 HIq HL1 HD HA k10 k11 k20 k21
        have k10 := B1.out.c0
        have k11 := B1.out.c1
        have k20 := B2.out.c0
        have k21 := B2.out.c1
        go_wp2_with fail
        refine (Sub_calls A' A3 c' c3 ys (nwd (val xs % val ys)) _ HX'.out HIr.out).mono ?_
        rintro e w4 ⟨v, rfl, ho, hb⟩
        rw [HS2.out] at ho ⊢
        obtain ⟨A5, c5, e5, _⟩ := ho.slice
        subst e5
        have HA : Hid (Apart2 (.slice A4 (nwd (val xs / val ys + 1)).length c4) (.slice A5 (nwd (val ys - val xs % val ys)).length c5)) := by
          by_cases hn : (Value.slice A4 (nwd (val xs / val ys + 1)).length c4).ownBlock = none
          · exact .inl hn
          · obtain ⟨k, hk⟩ := Option.ne_none_iff_exists'.1 hn
            refine .inr fun e => ?_
            have a := HQ4.out k hk
            have b := (ho.base k (by rw [← e]; exact hk)).1
            omega
        have HD := Q.hid (⟨HO4.out.below hb, ho.mono hw13.out, bs2 HB.out hb⟩ : DmSt w w4 w1.heap.size _ _ _ _)
        have B1 := Q.hid (B1.out.below hb)
        have B2 := Q.hid (B2.out.below hb)
        have B3 := Q.hid (B3.out.below hb)
        have B4 := Q.hid (B4.out.below hb)
        have HB := Q.hid (bs2 HB.out hb)
        clear ho hb HO4 HQ4 k10 k11 k20 k21
        have k10 := B1.out.c0
        have k11 := B1.out.c1
        have k20 := B2.out.c0
        have k21 := B2.out.c1
        go_wp2_with fail
        refine (wmade_calls2 (!m) A4 c4 w1.heap.size (nwd (val xs / val ys + 1)) _ HD.out.o1).mono ?_
        rintro e w6 ⟨A6, c6, rfl, ho, hb, hob⟩
        rw [HQ.out] at ho hob ⊢
        have HA := Q.hid (Apart2.keep HA.out hob (.inl rfl))
        have HD := Q.hid (⟨ho, HD.out.o2.below hb, bs2 HD.out.below hb⟩ : DmSt w w6 w1.heap.size _ _ _ _)
        have B3 := Q.hid (B3.out.below hb)
        have B4 := Q.hid (B4.out.below hb)
        have HB := Q.hid (bs2 HB.out hb)
        clear ho hb hob k10 k11 k20 k21
        have k30 := B3.out.c0
        have k31 := B3.out.c1
        have f30 := B3.out.f0
        have f31 := B3.out.f1
        obtain ⟨W6, hW6⟩ : ∃ W6, W6 = ((w6.setCell ⟨w.heap.size + 1 + 1, 0, none⟩ (.bool (cn (wv true xs / wv m ys)))).setCell ⟨w.heap.size + 1 + 1, 1, none⟩ (.slice A6 (cw (wv true xs / wv m ys)).length c6)) := ⟨_, rfl⟩
        have B3 := Q.hid (B3.out.over (cn (wv true xs / wv m ys)) (.slice A6 (cw (wv true xs / wv m ys)).length c6))
        have B4 := Q.hid ((B4.out.far (g' := w.heap.size + 1 + 1) (by omega) 0 (.bool (cn (wv true xs / wv m ys)))).far (g' := w.heap.size + 1 + 1) (by omega) 1 (.slice A6 (cw (wv true xs / wv m ys)).length c6))
        have HD := Q.hid ((HD.out.set (i := 0) (g := w.heap.size + 1 + 1) (by omega) (by omega) (.bool (cn (wv true xs / wv m ys)))).set (i := 1) (g := w.heap.size + 1 + 1) (by omega) (by omega) (.slice A6 (cw (wv true xs / wv m ys)).length c6))
        rw [← hW6] at B3 B4 HD
        go_wp2_with fail
        rw [← hW6]
        clear hW6 k30 k31 f30 f31
        refine (wmade_calls2 false A5 c5 w1.heap.size (nwd (val ys - val xs % val ys)) _ HD.out.o2).mono ?_
        rintro e w7 ⟨A7, c7, rfl, ho, hb, hob⟩
        rw [HR.out] at ho hob ⊢
        have HA := Q.hid (Apart2.keep HA.out (.inl rfl) hob)
        have HD := Q.hid (⟨HD.out.o1.below hb, ho, bs2 HD.out.below hb⟩ : DmSt w w7 w1.heap.size _ _ _ _)
        have B3 := Q.hid (B3.out.below hb)
        have B4 := Q.hid (B4.out.below hb)
        clear ho hb hob
        have k40 := B4.out.c0
        have k41 := B4.out.c1
        have f40 := B4.out.f0
        have f41 := B4.out.f1
        obtain ⟨W7, hW7⟩ : ∃ W7, W7 = ((w7.setCell ⟨w.heap.size + 1 + 1 + 1, 0, none⟩ (.bool (cn (wv true xs % wv m ys)))).setCell ⟨w.heap.size + 1 + 1 + 1, 1, none⟩ (.slice A7 (cw (wv true xs % wv m ys)).length c7)) := ⟨_, rfl⟩
        have B4 := Q.hid (B4.out.over (cn (wv true xs % wv m ys)) (.slice A7 (cw (wv true xs % wv m ys)).length c7))
        have B3 := Q.hid ((B3.out.far (g' := w.heap.size + 1 + 1 + 1) (by omega) 0 (.bool (cn (wv true xs % wv m ys)))).far (g' := w.heap.size + 1 + 1 + 1) (by omega) 1 (.slice A7 (cw (wv true xs % wv m ys)).length c7))
        have HD := Q.hid ((HD.out.set (i := 0) (g := w.heap.size + 1 + 1 + 1) (by omega) (by omega) (.bool (cn (wv true xs % wv m ys)))).set (i := 1) (g := w.heap.size + 1 + 1 + 1) (by omega) (by omega) (.slice A7 (cw (wv true xs % wv m ys)).length c7))
        rw [← hW7] at B3 B4 HD
        go_wp2
        rw [← hW7]
        clear hW7 k40 k41 f40 f41
        have k30 := B3.out.c0
        have k31 := B3.out.c1
        have k40 := B4.out.c0
        have k41 := B4.out.c1
        have f30 := B3.out.f0
        have f31 := B3.out.f1
        have f40 := B4.out.f0
        have f41 := B4.out.f1
        go_region
        all_goals
          go_wp2
          refine bodyPost_ret (by rw [results_cell2_tmp rfl]; go_simp; rfl) rfl ?_
          exact ⟨A6, c6, A7, c7, by rw [HF.out.1, HF.out.2], by rw [HF.out.1]; refine (DmSt.o1 (w := w) (B := w1.heap.size) (v2 := .slice A7 (cw (wv true xs % wv m ys)).length c7) (xs2 := cw (wv true xs % wv m ys)) ?_).mono (by omega); (repeat' first | (refine DmSt.drew ?_) | (refine DmSt.set ?_ (by omega) (by omega) _)); exact HD.out, by rw [HF.out.2]; refine (DmSt.o2 (w := w) (B := w1.heap.size) (v1 := .slice A6 (cw (wv true xs / wv m ys)).length c6) (xs1 := cw (wv true xs / wv m ys)) ?_).mono (by omega); (repeat' first | (refine DmSt.drew ?_) | (refine DmSt.set ?_ (by omega) (by omega) _)); exact HD.out, by rw [HF.out.1, HF.out.2]; exact HA.out, by refine DmSt.below (B := w1.heap.size) (v1 := .slice A6 (cw (wv true xs / wv m ys)).length c6) (xs1 := cw (wv true xs / wv m ys)) (v2 := .slice A7 (cw (wv true xs % wv m ys)).length c7) (xs2 := cw (wv true xs % wv m ys)) ?_; (repeat' first | (refine DmSt.drew ?_) | (refine DmSt.set ?_ (by omega) (by omega) _)); exact HD.out⟩
      · have hor : n = false ∨ val xs % val ys = 0 := by cases n <;> simp_all
        have hqp := quo_plain (n := n) (m := m) Y0 hor
        have HQ : Hid (mdW (n != m) (nwd (val xs / val ys)) = ⟨cn (wv n xs / wv m ys), cw (wv n xs / wv m ys), 0⟩) := md_can hq0 hqp.1.symm hsq
        have HR : Hid (mdW false (nwd (val xs % val ys)) = ⟨cn (wv n xs % wv m ys), cw (wv n xs % wv m ys), 0⟩) := md_can hr0 hqp.2.symm hsr
        have hcs : n = false ∨ (n = true ∧ decide (0 < ((nwd (val xs % val ys)).length : Int)) = false ∧ decide (0 < (nwd (val xs % val ys)).length) = false) := by
          cases n with
          | false => exact .inl rfl
          | true =>
            have h0 : val xs % val ys = 0 := by simpa using hor
            rw [h0, nwd_zero]
            exact .inr ⟨rfl, rfl, rfl⟩
        clear h0 hy hc hcx hcy X0 Y0 hxl hyl hq0 hq1 hr0 hr1 hsq hsr hQ hor hqp hw hw'
        rcases hcs with rfl | ⟨rfl, hd1, hd2⟩
        · have HQ : Hid (mdW m (nwd (val xs / val ys)) = ⟨cn (wv false xs / wv m ys), cw (wv false xs / wv m ys), 0⟩) := by have := HQ.out; rwa [show (false != m) = m by cases m <;> rfl] at this
          go_enter Try.func29, Try.ntmps29
          go_wp2_with fail
          rw [← hW]
          clear hW
          refine (wboth_calls false m A A' c c' xs ys _ HX.out HX'.out).mono ?_
          rintro e w1 ⟨rfl, hb⟩
          have HX := Q.hid (HX.out.below hb)
          have HX' := Q.hid (HX'.out.below hb)
          have hg4 : w.heap.size + 1 + 1 + 1 < w1.heap.size := Nat.lt_of_lt_of_le hg4 hb.size
          have B1 := Q.hid (B1.out.below hb)
          have B2 := Q.hid (B2.out.below hb)
          have B3 := Q.hid (B3.out.below hb)
          have B4 := Q.hid (B4.out.below hb)
          have HB := Q.hid (bs2 HB.out hb)
          clear hb k10 k11 k20 k21
          have k10 := B1.out.c0
          have k11 := B1.out.c1
          have k20 := B2.out.c0
          have k21 := B2.out.c1
          go_wp2_with fail
          refine (DivMod_calls A A' c c' xs ys _ HX.out HX'.out).mono ?_
          rintro e w2 ⟨v, v', rfl, ho, ho', ha, hb⟩
          rw [HS.out] at ho ho' ⊢
          obtain ⟨A2, c2, e2, _⟩ := ho.slice
          subst e2
          obtain ⟨A3, c3, e3, _⟩ := ho'.slice
          subst e3
          have HX := Q.hid (HX.out.below hb)
          have HX' := Q.hid (HX'.out.below hb)
          have HA := Q.hid ha
          have HD := Q.hid (⟨ho, ho', bs2 HB.out hb⟩ : DmSt w w2 w1.heap.size _ _ _ _)
          have B1 := Q.hid (B1.out.below hb)
          have B2 := Q.hid (B2.out.below hb)
          have B3 := Q.hid (B3.out.below hb)
          have B4 := Q.hid (B4.out.below hb)
          have HB := Q.hid (bs2 HB.out hb)
          clear ho ho' ha hb k10 k11 k20 k21
          have k10 := B1.out.c0
          have k11 := B1.out.c1
          have k20 := B2.out.c0
          have k21 := B2.out.c1
          go_wp2_with fail
          refine (wmade_calls2 m A2 c2 w1.heap.size (nwd (val xs / val ys)) _ HD.out.o1).mono ?_
          rintro e w6 ⟨A6, c6, rfl, ho, hb, hob⟩
          rw [HQ.out] at ho hob ⊢
          have HA := Q.hid (Apart2.keep HA.out hob (.inl rfl))
          have HD := Q.hid (⟨ho, HD.out.o2.below hb, bs2 HD.out.below hb⟩ : DmSt w w6 w1.heap.size _ _ _ _)
          have B3 := Q.hid (B3.out.below hb)
          have B4 := Q.hid (B4.out.below hb)
          have HB := Q.hid (bs2 HB.out hb)
          clear ho hb hob k10 k11 k20 k21
          have k30 := B3.out.c0
          have k31 := B3.out.c1
          have f30 := B3.out.f0
          have f31 := B3.out.f1
          obtain ⟨W6, hW6⟩ : ∃ W6, W6 = ((w6.setCell ⟨w.heap.size + 1 + 1, 0, none⟩ (.bool (cn (wv false xs / wv m ys)))).setCell ⟨w.heap.size + 1 + 1, 1, none⟩ (.slice A6 (cw (wv false xs / wv m ys)).length c6)) := ⟨_, rfl⟩
          have B3 := Q.hid (B3.out.over (cn (wv false xs / wv m ys)) (.slice A6 (cw (wv false xs / wv m ys)).length c6))
          have B4 := Q.hid ((B4.out.far (g' := w.heap.size + 1 + 1) (by omega) 0 (.bool (cn (wv false xs / wv m ys)))).far (g' := w.heap.size + 1 + 1) (by omega) 1 (.slice A6 (cw (wv false xs / wv m ys)).length c6))
          have HD := Q.hid ((HD.out.set (i := 0) (g := w.heap.size + 1 + 1) (by omega) (by omega) (.bool (cn (wv false xs / wv m ys)))).set (i := 1) (g := w.heap.size + 1 + 1) (by omega) (by omega) (.slice A6 (cw (wv false xs / wv m ys)).length c6))
          rw [← hW6] at B3 B4 HD
          go_wp2_with fail
          rw [← hW6]
          clear hW6 k30 k31 f30 f31
          refine (wmade_calls2 false A3 c3 w1.heap.size (nwd (val xs % val ys)) _ HD.out.o2).mono ?_
          rintro e w7 ⟨A7, c7, rfl, ho, hb, hob⟩
          rw [HR.out] at ho hob ⊢
          have HA := Q.hid (Apart2.keep HA.out (.inl rfl) hob)
          have HD := Q.hid (⟨HD.out.o1.below hb, ho, bs2 HD.out.below hb⟩ : DmSt w w7 w1.heap.size _ _ _ _)
          have B3 := Q.hid (B3.out.below hb)
          have B4 := Q.hid (B4.out.below hb)
          clear ho hb hob
          have k40 := B4.out.c0
          have k41 := B4.out.c1
          have f40 := B4.out.f0
          have f41 := B4.out.f1
          obtain ⟨W7, hW7⟩ : ∃ W7, W7 = ((w7.setCell ⟨w.heap.size + 1 + 1 + 1, 0, none⟩ (.bool (cn (wv false xs % wv m ys)))).setCell ⟨w.heap.size + 1 + 1 + 1, 1, none⟩ (.slice A7 (cw (wv false xs % wv m ys)).length c7)) := ⟨_, rfl⟩
          have B4 := Q.hid (B4.out.over (cn (wv false xs % wv m ys)) (.slice A7 (cw (wv false xs % wv m ys)).length c7))
          have B3 := Q.hid ((B3.out.far (g' := w.heap.size + 1 + 1 + 1) (by omega) 0 (.bool (cn (wv false xs % wv m ys)))).far (g' := w.heap.size + 1 + 1 + 1) (by omega) 1 (.slice A7 (cw (wv false xs % wv m ys)).length c7))
          have HD := Q.hid ((HD.out.set (i := 0) (g := w.heap.size + 1 + 1 + 1) (by omega) (by omega) (.bool (cn (wv false xs % wv m ys)))).set (i := 1) (g := w.heap.size + 1 + 1 + 1) (by omega) (by omega) (.slice A7 (cw (wv false xs % wv m ys)).length c7))
          rw [← hW7] at B3 B4 HD
          go_wp2
          rw [← hW7]
          clear hW7 k40 k41 f40 f41
          have k30 := B3.out.c0
          have k31 := B3.out.c1
          have k40 := B4.out.c0
          have k41 := B4.out.c1
          have f30 := B3.out.f0
          have f31 := B3.out.f1
          have f40 := B4.out.f0
          have f41 := B4.out.f1
          go_region
          all_goals
            go_wp2
            refine bodyPost_ret (by rw [results_cell2_tmp rfl]; go_simp; rfl) rfl ?_
            exact ⟨A6, c6, A7, c7, by rw [HF.out.1, HF.out.2], by rw [HF.out.1]; refine (DmSt.o1 (w := w) (B := w1.heap.size) (v2 := .slice A7 (cw (wv false xs % wv m ys)).length c7) (xs2 := cw (wv false xs % wv m ys)) ?_).mono (by omega); (repeat' first | (refine DmSt.drew ?_) | (refine DmSt.set ?_ (by omega) (by omega) _)); exact HD.out, by rw [HF.out.2]; refine (DmSt.o2 (w := w) (B := w1.heap.size) (v1 := .slice A6 (cw (wv false xs / wv m ys)).length c6) (xs1 := cw (wv false xs / wv m ys)) ?_).mono (by omega); (repeat' first | (refine DmSt.drew ?_) | (refine DmSt.set ?_ (by omega) (by omega) _)); exact HD.out, by rw [HF.out.1, HF.out.2]; exact HA.out, by refine DmSt.below (B := w1.heap.size) (v1 := .slice A6 (cw (wv false xs / wv m ys)).length c6) (xs1 := cw (wv false xs / wv m ys)) (v2 := .slice A7 (cw (wv false xs % wv m ys)).length c7) (xs2 := cw (wv false xs % wv m ys)) ?_; (repeat' first | (refine DmSt.drew ?_) | (refine DmSt.set ?_ (by omega) (by omega) _)); exact HD.out⟩
        · have HQ : Hid (mdW (!m) (nwd (val xs / val ys)) = ⟨cn (wv true xs / wv m ys), cw (wv true xs / wv m ys), 0⟩) := by have := HQ.out; rwa [show (true != m) = !m by cases m <;> rfl] at this
          go_enter Try.func29, Try.ntmps29
          go_wp2_with fail
          rw [← hW]
          clear hW
          refine (wboth_calls true m A A' c c' xs ys _ HX.out HX'.out).mono ?_
          rintro e w1 ⟨rfl, hb⟩
          have HX := Q.hid (HX.out.below hb)
          have HX' := Q.hid (HX'.out.below hb)
          have hg4 : w.heap.size + 1 + 1 + 1 < w1.heap.size := Nat.lt_of_lt_of_le hg4 hb.size
          have B1 := Q.hid (B1.out.below hb)
          have B2 := Q.hid (B2.out.below hb)
          have B3 := Q.hid (B3.out.below hb)
          have B4 := Q.hid (B4.out.below hb)
          have HB := Q.hid (bs2 HB.out hb)
          clear hb k10 k11 k20 k21
          have k10 := B1.out.c0
          have k11 := B1.out.c1
          have k20 := B2.out.c0
          have k21 := B2.out.c1
          go_wp2_with fail
          refine (DivMod_calls A A' c c' xs ys _ HX.out HX'.out).mono ?_
          rintro e w2 ⟨v, v', rfl, ho, ho', ha, hb⟩
          rw [HS.out] at ho ho' ⊢
          obtain ⟨A2, c2, e2, _⟩ := ho.slice
          subst e2
          obtain ⟨A3, c3, e3, _⟩ := ho'.slice
          subst e3
          have HX := Q.hid (HX.out.below hb)
          have HX' := Q.hid (HX'.out.below hb)
          have HA := Q.hid ha
          have HD := Q.hid (⟨ho, ho', bs2 HB.out hb⟩ : DmSt w w2 w1.heap.size _ _ _ _)
          have B1 := Q.hid (B1.out.below hb)
          have B2 := Q.hid (B2.out.below hb)
          have B3 := Q.hid (B3.out.below hb)
          have B4 := Q.hid (B4.out.below hb)
          have HB := Q.hid (bs2 HB.out hb)
          clear ho ho' ha hb k10 k11 k20 k21
          have k10 := B1.out.c0
          have k11 := B1.out.c1
          have k20 := B2.out.c0
          have k21 := B2.out.c1
          go_wp2_with fail
          refine (wmade_calls2 (!m) A2 c2 w1.heap.size (nwd (val xs / val ys)) _ HD.out.o1).mono ?_
          rintro e w6 ⟨A6, c6, rfl, ho, hb, hob⟩
          rw [HQ.out] at ho hob ⊢
          have HA := Q.hid (Apart2.keep HA.out hob (.inl rfl))
          have HD := Q.hid (⟨ho, HD.out.o2.below hb, bs2 HD.out.below hb⟩ : DmSt w w6 w1.heap.size _ _ _ _)
          have B3 := Q.hid (B3.out.below hb)
          have B4 := Q.hid (B4.out.below hb)
          have HB := Q.hid (bs2 HB.out hb)
          clear ho hb hob k10 k11 k20 k21
          have k30 := B3.out.c0
          have k31 := B3.out.c1
          have f30 := B3.out.f0
          have f31 := B3.out.f1
          obtain ⟨W6, hW6⟩ : ∃ W6, W6 = ((w6.setCell ⟨w.heap.size + 1 + 1, 0, none⟩ (.bool (cn (wv true xs / wv m ys)))).setCell ⟨w.heap.size + 1 + 1, 1, none⟩ (.slice A6 (cw (wv true xs / wv m ys)).length c6)) := ⟨_, rfl⟩
          have B3 := Q.hid (B3.out.over (cn (wv true xs / wv m ys)) (.slice A6 (cw (wv true xs / wv m ys)).length c6))
          have B4 := Q.hid ((B4.out.far (g' := w.heap.size + 1 + 1) (by omega) 0 (.bool (cn (wv true xs / wv m ys)))).far (g' := w.heap.size + 1 + 1) (by omega) 1 (.slice A6 (cw (wv true xs / wv m ys)).length c6))
          have HD := Q.hid ((HD.out.set (i := 0) (g := w.heap.size + 1 + 1) (by omega) (by omega) (.bool (cn (wv true xs / wv m ys)))).set (i := 1) (g := w.heap.size + 1 + 1) (by omega) (by omega) (.slice A6 (cw (wv true xs / wv m ys)).length c6))
          rw [← hW6] at B3 B4 HD
          go_wp2_with fail
          rw [← hW6]
          clear hW6 k30 k31 f30 f31
          refine (wmade_calls2 false A3 c3 w1.heap.size (nwd (val xs % val ys)) _ HD.out.o2).mono ?_
          rintro e w7 ⟨A7, c7, rfl, ho, hb, hob⟩
          rw [HR.out] at ho hob ⊢
          have HA := Q.hid (Apart2.keep HA.out (.inl rfl) hob)
          have HD := Q.hid (⟨HD.out.o1.below hb, ho, bs2 HD.out.below hb⟩ : DmSt w w7 w1.heap.size _ _ _ _)
          have B3 := Q.hid (B3.out.below hb)
          have B4 := Q.hid (B4.out.below hb)
          clear ho hb hob
          have k40 := B4.out.c0
          have k41 := B4.out.c1
          have f40 := B4.out.f0
          have f41 := B4.out.f1
          obtain ⟨W7, hW7⟩ : ∃ W7, W7 = ((w7.setCell ⟨w.heap.size + 1 + 1 + 1, 0, none⟩ (.bool (cn (wv true xs % wv m ys)))).setCell ⟨w.heap.size + 1 + 1 + 1, 1, none⟩ (.slice A7 (cw (wv true xs % wv m ys)).length c7)) := ⟨_, rfl⟩
          have B4 := Q.hid (B4.out.over (cn (wv true xs % wv m ys)) (.slice A7 (cw (wv true xs % wv m ys)).length c7))
          have B3 := Q.hid ((B3.out.far (g' := w.heap.size + 1 + 1 + 1) (by omega) 0 (.bool (cn (wv true xs % wv m ys)))).far (g' := w.heap.size + 1 + 1 + 1) (by omega) 1 (.slice A7 (cw (wv true xs % wv m ys)).length c7))
          have HD := Q.hid ((HD.out.set (i := 0) (g := w.heap.size + 1 + 1 + 1) (by omega) (by omega) (.bool (cn (wv true xs % wv m ys)))).set (i := 1) (g := w.heap.size + 1 + 1 + 1) (by omega) (by omega) (.slice A7 (cw (wv true xs % wv m ys)).length c7))
          rw [← hW7] at B3 B4 HD
          go_wp2
          rw [← hW7]
          clear hW7 k40 k41 f40 f41
          have k30 := B3.out.c0
          have k31 := B3.out.c1
          have k40 := B4.out.c0
          have k41 := B4.out.c1
          have f30 := B3.out.f0
          have f31 := B3.out.f1
          have f40 := B4.out.f0
          have f41 := B4.out.f1
          go_region
          all_goals
            go_wp2
            refine bodyPost_ret (by rw [results_cell2_tmp rfl]; go_simp; rfl) rfl ?_
            exact ⟨A6, c6, A7, c7, by rw [HF.out.1, HF.out.2], by rw [HF.out.1]; refine (DmSt.o1 (w := w) (B := w1.heap.size) (v2 := .slice A7 (cw (wv true xs % wv m ys)).length c7) (xs2 := cw (wv true xs % wv m ys)) ?_).mono (by omega); (repeat' first | (refine DmSt.drew ?_) | (refine DmSt.set ?_ (by omega) (by omega) _)); exact HD.out, by rw [HF.out.2]; refine (DmSt.o2 (w := w) (B := w1.heap.size) (v1 := .slice A6 (cw (wv true xs / wv m ys)).length c6) (xs1 := cw (wv true xs / wv m ys)) ?_).mono (by omega); (repeat' first | (refine DmSt.drew ?_) | (refine DmSt.set ?_ (by omega) (by omega) _)); exact HD.out, by rw [HF.out.1, HF.out.2]; exact HA.out, by refine DmSt.below (B := w1.heap.size) (v1 := .slice A6 (cw (wv true xs / wv m ys)).length c6) (xs1 := cw (wv true xs / wv m ys)) (v2 := .slice A7 (cw (wv true xs % wv m ys)).length c7) (xs2 := cw (wv true xs % wv m ys)) ?_; (repeat' first | (refine DmSt.drew ?_) | (refine DmSt.set ?_ (by omega) (by omega) _)); exact HD.out⟩
  · have hb0 : (chkW2 n xs m ys != 0) = true := by simp [h0]
    have HF : Hid (quoW n xs m ys = noW (chkW2 n xs m ys) ∧ remW n xs m ys = noW (chkW2 n xs m ys)) := ⟨if_neg h0, if_neg h0⟩
    clear h0 hw hw'
    go_enter Try.func29, Try.ntmps29
    go_wp2_with fail
    rw [← hW]
    clear hW
    refine (wboth_calls n m A A' c c' xs ys _ HX.out HX'.out).mono ?_
    rintro e w1 ⟨rfl, hb⟩
    have HX := Q.hid (HX.out.below hb)
    have HX' := Q.hid (HX'.out.below hb)
    have hg4 : w.heap.size + 1 + 1 + 1 < w1.heap.size := Nat.lt_of_lt_of_le hg4 hb.size
    have B1 := Q.hid (B1.out.below hb)
    have B2 := Q.hid (B2.out.below hb)
    have B3 := Q.hid (B3.out.below hb)
    have B4 := Q.hid (B4.out.below hb)
    have HB := Q.hid (bs2 HB.out hb)
    clear hb k10 k11 k20 k21
    have k10 := B1.out.c0
    have k11 := B1.out.c1
    have k20 := B2.out.c0
    have k21 := B2.out.c1
    have k30 := B3.out.c0
    have k31 := B3.out.c1
    have k40 := B4.out.c0
    have k41 := B4.out.c1
    have f30 := B3.out.f0
    have f31 := B3.out.f1
    have f40 := B4.out.f0
    have f41 := B4.out.f1
    have HB2 := HB
    go_wp2
    go_region
    all_goals
      go_wp2
      refine bodyPost_ret (by rw [results_cell2_tmp rfl]; go_simp; rfl) rfl ?_
      exact ⟨none, 0, none, 0, by rw [HF.out.1, HF.out.2]; rfl, by rw [HF.out.1]; exact Ow.nil _ _ _, by rw [HF.out.2]; exact Ow.nil _ _ _, .inl rfl, by repeat' first | exact HB.out | exact HB2.out | refine Below.drew ?_ | refine Below.setCell ?_ (by simp; omega) _⟩
end Go.Proofs.Ytidccoahjpjoaaa
