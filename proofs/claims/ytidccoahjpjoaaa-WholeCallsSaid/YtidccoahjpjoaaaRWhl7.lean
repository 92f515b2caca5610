/- The reference of layer 2: quotients and rests; what the call does. -/
import Derived.Test.YtidccoahjpjoaaaRWhl5
import Derived.Test.YtidccoahjpjoaaaQWhl7
import Derived.Deep.CutRange
set_option linter.unusedVariables false
set_option linter.unusedSimpArgs false
namespace Go.Proofs.Ytidccoahjpjoaaa
open Go Go.RowKit Q

/-- the state behind the division: both results' cells, the quotient's and the rest's variables -/
structure RdSt (w wt : World) (g : Nat) (n m : Bool) (A A' : Option Addr) (c c' : Nat) (xs ys : List Int) (qv rv : Int) (Aq Ar : Option Addr) (cq cr : Nat) : Prop where
  b1 : Bx wt w.heap.size n (.slice A xs.length c)
  b2 : Bx wt (w.heap.size + 1) m (.slice A' ys.length c')
  b3 : Bx wt (w.heap.size + 1 + 1) false (.slice none 0 0)
  b4 : Bx wt (w.heap.size + 1 + 1 + 1) false (.slice none 0 0)
  bq : Bx wt g (cn qv) (.slice Aq (cw qv).length cq)
  br : Bx wt (g + 1) (cn rv) (.slice Ar (cw rv).length cr)
  iq : In wt Aq cq (cw qv)
  oq : Off Aq (cw qv) (g + 1)
  ir : In wt Ar cr (cw rv)
  own : Ow wt 58 w.heap.size (.slice Ar (cw rv).length cr) (cw rv)
  nb : ∀ k, (Value.slice Ar (cw rv).length cr).ownBlock = some k → k ≠ w.heap.size + 1 + 1 ∧ k ≠ w.heap.size + 1 + 1 + 1 ∧ k ≠ g ∧ k ≠ g + 1
  orr : Off Ar (cw rv) g
  lo : w.heap.size + 1 + 1 + 1 < g
  below : Below w.heap.size w wt
theorem RdSt.step {w wt w' : World} {g : Nat} {n m : Bool} {A A' Aq Ar : Option Addr} {c c' cq cr : Nat} {xs ys : List Int} {qv rv : Int} (h : RdSt w wt g n m A A' c c' xs ys qv rv Aq Ar cq cr) (hb : Below wt.heap.size wt w') : RdSt w w' g n m A A' c c' xs ys qv rv Aq Ar cq cr :=
  ⟨h.b1.below hb, h.b2.below hb, h.b3.below hb, h.b4.below hb, h.bq.below hb, h.br.below hb, h.iq.below hb, h.oq, h.ir.below hb, h.own.below hb, h.nb, h.orr, h.lo, bs2 h.below hb⟩
theorem RdSt.setQ {w wt w' : World} {g : Nat} {n m : Bool} {A A' Aq Ar A5 : Option Addr} {c c' cq cr c5 : Nat} {xs ys : List Int} {qv rv R : Int} (h : RdSt w wt g n m A A' c c' xs ys qv rv Aq Ar cq cr) (hb : Below wt.heap.size wt w') (ho : Ow w' 58 wt.heap.size (.slice A5 (cw R).length c5) (cw R)) (hs : Sh R) :
    RdSt w ((w'.setCell ⟨g, 0, none⟩ (.bool (cn R))).setCell ⟨g, 1, none⟩ (.slice A5 (cw R).length c5)) g n m A A' c c' xs ys R rv A5 Ar c5 cr := by
  have h1 := h.lo
  have h2 := h.br.lt
  have hne : (Value.slice Ar (cw rv).length cr).ownBlock ≠ some g := fun e => (h.nb g e).2.2.1 rfl
  exact ⟨((h.b1.below hb).far (by omega) _ _).far (by omega) _ _, ((h.b2.below hb).far (by omega) _ _).far (by omega) _ _, ((h.b3.below hb).far (by omega) _ _).far (by omega) _ _, ((h.b4.below hb).far (by omega) _ _).far (by omega) _ _,
    (h.bq.below hb).over _ _, ((h.br.below hb).far (by omega) _ _).far (by omega) _ _, in_far (in_far (inn_of ho hs) (.inr fun ad e => by have := made_at ho ad e; omega) _) (.inr fun ad e => by have := made_at ho ad e; omega) _, .inr fun ad e => by have := made_at ho ad e; omega,
    in_far (in_far (h.ir.below hb) h.orr _) h.orr _, ((h.own.below hb).far hne _ _).far hne _ _, h.nb, h.orr, h1, below_set2 (bs2 h.below hb) (by omega) _ _⟩
theorem RdSt.setR {w wt w' : World} {g : Nat} {n m : Bool} {A A' Aq Ar A5 : Option Addr} {c c' cq cr c5 : Nat} {xs ys : List Int} {qv rv R : Int} (h : RdSt w wt g n m A A' c c' xs ys qv rv Aq Ar cq cr) (hb : Below wt.heap.size wt w') (ho : Ow w' 58 wt.heap.size (.slice A5 (cw R).length c5) (cw R)) (hs : Sh R) :
    RdSt w ((w'.setCell ⟨g + 1, 0, none⟩ (.bool (cn R))).setCell ⟨g + 1, 1, none⟩ (.slice A5 (cw R).length c5)) g n m A A' c c' xs ys qv R Aq A5 cq c5 := by
  have h1 := h.lo
  have h2 := h.br.lt
  have hne : (Value.slice A5 (cw R).length c5).ownBlock ≠ some (g + 1) := fun e => by have := (ho.base _ e).1; omega
  exact ⟨((h.b1.below hb).far (by omega) _ _).far (by omega) _ _, ((h.b2.below hb).far (by omega) _ _).far (by omega) _ _, ((h.b3.below hb).far (by omega) _ _).far (by omega) _ _, ((h.b4.below hb).far (by omega) _ _).far (by omega) _ _,
    ((h.bq.below hb).far (by omega) _ _).far (by omega) _ _, (h.br.below hb).over _ _, in_far (in_far (h.iq.below hb) h.oq _) h.oq _, h.oq,
    in_far (in_far (inn_of ho hs) (.inr fun ad e => by have := made_at ho ad e; omega) _) (.inr fun ad e => by have := made_at ho ad e; omega) _, ((ho.far hne _ _).far hne _ _).mono h.below.size, fun k hk => by have := (ho.base k hk).1; omega, .inr fun ad e => by have := made_at ho ad e; omega, h1, below_set2 (bs2 h.below hb) (by omega) _ _⟩

theorem dm_far {w wk : World} {g i : Nat} {v1 v2 : Value} {xs1 xs2 : List Int} (h : DmSt w wk w.heap.size v1 xs1 v2 xs2) (h1 : ∀ k, v1.ownBlock = some k → k ≠ w.heap.size + 1 + 1 ∧ k ≠ w.heap.size + 1 + 1 + 1) (h2 : ∀ k, v2.ownBlock = some k → k ≠ w.heap.size + 1 + 1 ∧ k ≠ w.heap.size + 1 + 1 + 1) (hg : g = w.heap.size + 1 + 1 ∨ g = w.heap.size + 1 + 1 + 1) (u : Value) : DmSt w (wk.setCell ⟨g, i, none⟩ u) w.heap.size v1 xs1 v2 xs2 := by
  rcases hg with rfl | rfl
  · exact ⟨h.o1.far (fun e => (h1 _ e).1 rfl) _ _, h.o2.far (fun e => (h2 _ e).1 rfl) _ _, h.below.setCell (by show w.heap.size ≤ w.heap.size + 1 + 1; omega) _⟩
  · exact ⟨h.o1.far (fun e => (h1 _ e).2 rfl) _ _, h.o2.far (fun e => (h2 _ e).2 rfl) _ _, h.below.setCell (by show w.heap.size ≤ w.heap.size + 1 + 1 + 1; omega) _⟩

set_option maxHeartbeats 16000000 in
set_option maxRecDepth 100000 in
theorem rWDivMod_calls (n m : Bool) (A A' : Option Addr) (c c' : Nat) (xs ys : List Int) (w : World) (h : In w A c xs) (h' : In w A' c' ys) :
    Calls Try.prog 39 #[.agg #[.bool n, .slice A xs.length c], .agg #[.bool m, .slice A' ys.length c']] w fun e w' => ∃ B d B' d', e = .returned (.tuple #[.agg #[.bool (quoW n xs m ys).neg, .slice B (quoW n xs m ys).ws.length d], .agg #[.bool (remW n xs m ys).neg, .slice B' (remW n xs m ys).ws.length d'], .int .i64 (quoW n xs m ys).err]) ∧ Ow w' 58 w.heap.size (.slice B (quoW n xs m ys).ws.length d) (quoW n xs m ys).ws ∧ Ow w' 58 w.heap.size (.slice B' (remW n xs m ys).ws.length d') (remW n xs m ys).ws ∧ Below w.heap.size w w' := by
  have H := Q.hid h
  have H' := Q.hid h'
  have hw := h.wds
  have hw' := h'.wds
  clear h h'
  obtain ⟨W, hW⟩ : ∃ W, W = ((((w.alloc (.cells #[.bool n, .slice A xs.length c] 24)).alloc (.cells #[.bool m, .slice A' ys.length c'] 24)).alloc (.cells #[.bool false, .slice none 0 0] 24)).alloc (.cells #[.bool false, .slice none 0 0] 24)) := ⟨_, rfl⟩
  have B1 : Hid (Bx W w.heap.size n (.slice A xs.length c)) := by rw [hW]; exact (((Bx.new w n (.slice A xs.length c)).alloc _).alloc _).alloc _
  have B2 : Hid (Bx W (w.heap.size + 1) m (.slice A' ys.length c')) := by
    have := ((Bx.new (w.alloc (.cells #[.bool n, .slice A xs.length c] 24)) m (.slice A' ys.length c')).alloc (.cells #[.bool false, .slice none 0 0] 24)).alloc (.cells #[.bool false, .slice none 0 0] 24)
    simp only [World.size_alloc] at this
    rw [hW]; exact this
  have B3 : Hid (Bx W (w.heap.size + 1 + 1) false (.slice none 0 0)) := by
    have := (Bx.new ((w.alloc (.cells #[.bool n, .slice A xs.length c] 24)).alloc (.cells #[.bool m, .slice A' ys.length c'] 24)) false (.slice none 0 0)).alloc (.cells #[.bool false, .slice none 0 0] 24)
    simp only [World.size_alloc] at this
    rw [hW]; exact this
  have B4 : Hid (Bx W (w.heap.size + 1 + 1 + 1) false (.slice none 0 0)) := by
    have := Bx.new (((w.alloc (.cells #[.bool n, .slice A xs.length c] 24)).alloc (.cells #[.bool m, .slice A' ys.length c'] 24)).alloc (.cells #[.bool false, .slice none 0 0] 24)) false (.slice none 0 0)
    simp only [World.size_alloc] at this
    rw [hW]; exact this
  have HB : Hid (Below w.heap.size w W) := by rw [hW]; exact below_alloc4 w _ _ _ _
  have hg4 : w.heap.size + 1 + 1 + 1 < W.heap.size := B4.out.lt
  have HX : Hid (In W A c xs) := H.out.below HB.out
  have HX' : Hid (In W A' c' ys) := H'.out.below HB.out
  have k10 := B1.out.c0
  have k11 := B1.out.c1
  have k20 := B2.out.c0
  have k21 := B2.out.c1
  by_cases h0 : chkW2 n xs m ys = 0
  · have hb0 : (chkW2 n xs m ys != 0) = false := by simp [h0]
    by_cases hy : ys = []
    · have HF : Hid (quoW n xs m ys = noW 7 ∧ remW n xs m ys = noW 7) := ⟨(if_pos h0).trans (if_pos hy), (if_pos h0).trans (if_pos hy)⟩
      have hl1 : ((ys.length : Int) == 0) = true := by rw [hy]; rfl
      have hl2 : (ys.length == 0) = true := by rw [hy]; rfl
      have HY := Q.hid hy
      clear h0 hy hw hw'
      go_enter Try.func39, Try.ntmps39
      go_wp2_with fail
      rw [← hW]
      clear hW
      refine (rWboth_calls n m A A' c c' xs ys _ HX.out HX'.out).mono ?_
      rintro e w1 ⟨rfl, hb⟩
      have HX := Q.hid (HX.out.below hb)
      have HX' := Q.hid (HX'.out.below hb)
      have hg4 : w.heap.size + 1 + 1 + 1 < w1.heap.size := Nat.lt_of_lt_of_le hg4 hb.size
      have B1 := Q.hid (B1.out.below hb)
      have B2 := Q.hid (B2.out.below hb)
      have B3 := Q.hid (B3.out.below hb)
      have B4 := Q.hid (B4.out.below hb)
      have HB := Q.hid (bs2 HB.out hb)
      clear hb k10 k11 k20 k21
      have k10 := B1.out.c0
      have k11 := B1.out.c1
      have k20 := B2.out.c0
      have k21 := B2.out.c1
      have k30 := B3.out.c0
      have k31 := B3.out.c1
      have k40 := B4.out.c0
      have k41 := B4.out.c1
      have f30 := B3.out.f0
      have f31 := B3.out.f1
      have f40 := B4.out.f0
      have f41 := B4.out.f1
      go_wp2
      refine bodyPost_ret (by rw [results_cell2_tmp rfl]; go_simp; rfl) rfl ?_
      exact ⟨none, 0, none, 0, by rw [HF.out.1, HF.out.2]; rfl, by rw [HF.out.1]; exact Ow.nil _ _ _, by rw [HF.out.2]; exact Ow.nil _ _ _, by repeat' first | exact HB.out | refine Below.drew ?_ | refine Below.setCell ?_ (by simp; omega) _⟩
    · have hc := chkW2_zero.1 h0
      have hcx := chkW_zero.1 hc.1
      have hcy := chkW_zero.1 hc.2
      have X0 := val_nonneg hw
      have Y0 := val_pos hw' hcy.2.1 hy
      have hxl := val_lt_len hw hcx.1
      have hyl := val_lt_len hw' hcy.1
      have HF : Hid (quoW n xs m ys = ⟨cn (wv n xs / wv m ys), cw (wv n xs / wv m ys), 0⟩ ∧ remW n xs m ys = ⟨cn (wv n xs % wv m ys), cw (wv n xs % wv m ys), 0⟩) := ⟨quo_told hw h0 hy, rem_told hw' h0 hy⟩
      have hl1 : ((ys.length : Int) == 0) = false := by have := List.length_pos_iff.2 hy; simp; omega
      have hl2 : (ys.length == 0) = false := by have := List.length_pos_iff.2 hy; simp; omega
      have hq0 := Int.ediv_nonneg X0 (Int.le_of_lt Y0)
      have hq1 := Int.ediv_le_self (val ys) X0
      have hr0 := Int.emod_nonneg (val xs) (show val ys ≠ 0 by omega)
      have hr1 := Int.emod_lt_of_pos (val xs) Y0
      have hsq : Sh (wv n xs / wv m ys) := quo_lt hw hc.1 _
      have hsr : Sh (wv n xs % wv m ys) := (rem_lt hw' hc.2 hy _).1
      have HSQ := Q.hid hsq
      have HSR := Q.hid hsr
      have HTX := Q.hid hcx.2.1
      have HTY := Q.hid hcy.2.1
      have hlx : xs.length ≤ 10000 := by have := hcx.1; omega
      have hly : ys.length ≤ 10000 := by have := hcy.1; omega
      have HNY := Q.hid hy
      have HM1 : Hid (wv false (nwd (val xs / val ys)) = val xs / val ys) := wv_nwd hq0 false
      have HM2 : Hid (wv false (nwd (val xs % val ys)) = val xs % val ys) := wv_nwd hr0 false
      have HSH1 : Hid (Sh (val xs / val ys)) := by show ((val xs / val ys).natAbs : Int) < Bp 2048; omega
      have HSH2 : Hid (Sh (val xs % val ys)) := by show ((val xs % val ys).natAbs : Int) < Bp 2048; omega
      have hdl1 : decide (2048 < ((cw (wv n xs / wv m ys)).length : Int)) = false := decide_eq_false (by have := cw_len hsq; omega)
      have hdl2 : decide (2048 < (cw (wv n xs / wv m ys)).length) = false := decide_eq_false (by have := cw_len hsq; omega)
      have hnl1 : (nwd (val xs / val ys)).length ≤ 2048 := nwd_len_le (by omega) hq0
      have hnl2 : (nwd (val xs % val ys)).length ≤ 2048 := nwd_len_le (by omega) hr0
      by_cases hQ : n = true ∧ val xs % val ys ≠ 0
      · obtain ⟨rfl, hne⟩ := hQ
        have hqp := quo_more (n := true) (m := m) Y0 rfl hne
        have hy2 : 2 ≤ val ys := by omega
        have hq2 : val xs / val ys + 1 < Bp 2048 := by
          have : val xs / val ys * 2 ≤ val xs / val ys * val ys := Int.mul_le_mul_of_nonneg_left hy2 hq0
          have e := Int.mul_ediv_add_emod (val xs) (val ys)
          rw [Int.mul_comm] at e
          have := Bp_mono (show 1 ≤ 2048 by omega)
          have e1 : Bp 1 = 4294967296 := by decide
          omega
        have hbm : (true != m) = !m := by cases m <;> rfl
        have HQ : Hid (wv (!m) (cw (val xs / val ys + 1)) = wv true xs / wv m ys) := by
          rw [wv_sg, val_cw, Int.natAbs_of_nonneg (by omega), ← hbm]; exact hqp.1.symm
        have HRV : Hid (wv true xs % wv m ys = val ys - val xs % val ys) := hqp.2
        have HP1 : Hid (wv (cn (val xs / val ys)) (cw (val xs / val ys)) + wv (cn 1) (cw 1) = val xs / val ys + 1) := by rw [wv_can, wv_can]; rfl
        have HP2 : Hid (wv false ys = val ys) := rfl
        have HP3 : Hid (wv (cn (val ys)) (cw (val ys)) - wv (cn (val xs % val ys)) (cw (val xs % val ys)) = val ys - val xs % val ys) := by rw [wv_can, wv_can]; rfl
        have HSH3 : Hid (Sh (val xs / val ys + 1)) := by show ((val xs / val ys + 1).natAbs : Int) < Bp 2048; omega
        have HSH4 : Hid (Sh (val ys - val xs % val ys)) := by show ((val ys - val xs % val ys).natAbs : Int) < Bp 2048; omega
        have HSH5 : Hid (Sh (val ys)) := by show ((val ys).natAbs : Int) < Bp 2048; omega
        have hc1 : (cw (val xs / val ys)).length ≤ 100000 := Nat.le_trans (cw_len HSH1.out) (by omega)
        have hc2 : (cw (val ys)).length ≤ 100000 := Nat.le_trans (cw_len HSH5.out) (by omega)
        have hc3 : (cw (val xs % val ys)).length ≤ 100000 := Nat.le_trans (cw_len HSH2.out) (by omega)
        have ho1 : (cw 1).length ≤ 100000 := Nat.le_trans (cw_len (v := 1) (k := 2048) (by have := sh_64 (x := 1) (by omega); exact this)) (by omega)
        have hnz : cw (val xs % val ys) ≠ [] := fun e => hne ((cw_nil_iff _).1 e)
        have hd1 : decide (0 < ((cw (val xs % val ys)).length : Int)) = true := decide_eq_true (by have := List.length_pos_iff.2 hnz; omega)
        have hd2 : decide (0 < (cw (val xs % val ys)).length) = true := decide_eq_true (List.length_pos_iff.2 hnz)
        clear h0 hy hc hcx hcy X0 Y0 hxl hyl hq0 hq1 hr0 hr1 hsq hsr hne hqp hw hw' hy2 hq2 hbm hnz
        go_enter Try.func39, Try.ntmps39
        go_wp2_with fail
        rw [← hW]
        clear hW
        refine (rWboth_calls true m A A' c c' xs ys _ HX.out HX'.out).mono ?_
        rintro e w1 ⟨rfl, hb⟩
        have HX := Q.hid (HX.out.below hb)
        have HX' := Q.hid (HX'.out.below hb)
        have hg4 : w.heap.size + 1 + 1 + 1 < w1.heap.size := Nat.lt_of_lt_of_le hg4 hb.size
        have B1 := Q.hid (B1.out.below hb)
        have B2 := Q.hid (B2.out.below hb)
        have B3 := Q.hid (B3.out.below hb)
        have B4 := Q.hid (B4.out.below hb)
        have HB := Q.hid (bs2 HB.out hb)
        clear hb k10 k11 k20 k21
        have k10 := B1.out.c0
        have k11 := B1.out.c1
        have k20 := B2.out.c0
        have k21 := B2.out.c1
        go_wp2_with fail
        refine (Over_calls A A' c c' xs ys _ HX.out HX'.out HTX.out HTY.out hlx hly HNY.out).mono ?_
        rintro e w2 ⟨v, v', rfl, ho, ho', hb⟩
        obtain ⟨A2, c2, e2, i2⟩ := ho.inn (nwd_wds _) (by omega)
        subst e2
        obtain ⟨A3, c3, e3, i3⟩ := ho'.inn (nwd_wds _) (by omega)
        subst e3
        have HI2 := Q.hid i2
        have HI3 := Q.hid i3
        have HX' := Q.hid (HX'.out.below hb)
        have hw12 := hb.size
        have B1 := Q.hid (B1.out.below hb)
        have B2 := Q.hid (B2.out.below hb)
        have B3 := Q.hid (B3.out.below hb)
        have B4 := Q.hid (B4.out.below hb)
        have HB := Q.hid (bs2 HB.out hb)
        clear ho ho' hb i2 i3 k10 k11 k20 k21
        go_wp2_with fail
        refine (rmade_calls false A2 c2 (nwd (val xs / val ys)) _ HI2.out).mono ?_
        rintro e w3 ⟨A5, c5, rfl, ho, hb⟩
        rw [HM1.out] at ho ⊢
        have HI3 := Q.hid (HI3.out.below hb)
        have HX' := Q.hid (HX'.out.below hb)
        have HIq := Q.hid (inn_of ho HSH1.out)
        have hw23 := hb.size
        have B1 := Q.hid (B1.out.below hb)
        have B2 := Q.hid (B2.out.below hb)
        have B3 := Q.hid (B3.out.below hb)
        have B4 := Q.hid (B4.out.below hb)
        have HB := Q.hid (bs2 HB.out hb)
        clear ho hb HI2
        go_wp2_with fail
        refine (rmade_calls false A3 c3 (nwd (val xs % val ys)) _ HI3.out).mono ?_
        rintro e w4 ⟨A6, c6, rfl, ho, hb⟩
        rw [HM2.out] at ho ⊢
        have HX' := Q.hid (HX'.out.below hb)
        have hw34 := hb.size
        have HIq := Q.hid (HIq.out.below hb)
        have B1 := Q.hid (B1.out.below hb)
        have B2 := Q.hid (B2.out.below hb)
        have B3 := Q.hid (B3.out.below hb)
        have B4 := Q.hid (B4.out.below hb)
        have HB := Q.hid (bs2 HB.out hb)
        have HR : Hid (RdSt w ((w4.alloc (.cells #[.bool (cn (val xs / val ys)), .slice A5 (cw (val xs / val ys)).length c5] 24)).alloc (.cells #[.bool (cn (val xs % val ys)), .slice A6 (cw (val xs % val ys)).length c6] 24)) w4.heap.size true m A A' c c' xs ys (val xs / val ys) (val xs % val ys) A5 A6 c5 c6) := by
          have bb := Bx.new (w4.alloc (.cells #[.bool (cn (val xs / val ys)), .slice A5 (cw (val xs / val ys)).length c5] 24)) (cn (val xs % val ys)) (.slice A6 (cw (val xs % val ys)).length c6)
          rw [World.size_alloc] at bb
          have hs := HB.out.size
          have off : ∀ {v : Int} {A : Option Addr} {c : Nat} (g : Nat), In w4 A c (cw v) → w4.heap.size ≤ g → Off A (cw v) g := fun g hi hg => by
            rcases in_lt hi with e | e
            · exact .inl e
            · exact .inr fun ad ha => by have := e ad ha; omega
          exact ⟨(B1.out.alloc _).alloc _, (B2.out.alloc _).alloc _, (B3.out.alloc _).alloc _, (B4.out.alloc _).alloc _, (Bx.new _ _ _).alloc _, bb, (HIq.out.alloc _).alloc _, off _ HIq.out (Nat.le_succ _), ((inn_of ho HSH2.out).alloc _).alloc _, ((ho.mono (by omega)).alloc _).alloc _,
            fun k hk => by have a := ho.base k hk; omega, off _ (inn_of ho HSH2.out) (Nat.le_refl _), by omega, (HB.out.alloc hs _).alloc (by rw [World.size_alloc]; omega) _⟩
        clear ho hb HIq HI3 B1 B2 B3 B4
        have k10 := HR.out.b1.c0
        have k11 := HR.out.b1.c1
        have k20 := HR.out.b2.c0
        have k21 := HR.out.b2.c1
        have kq0 := HR.out.bq.c0
        have kq1 := HR.out.bq.c1
        have kr0 := HR.out.br.c0
        have kr1 := HR.out.br.c1
        go_upto_region 9 with fail
        obtain ⟨W2, hW2⟩ : ∃ W2, W2 = ((w4.alloc (.cells #[.bool (cn (val xs / val ys)), .slice A5 (cw (val xs / val ys)).length c5] 24)).alloc (.cells #[.bool (cn (val xs % val ys)), .slice A6 (cw (val xs % val ys)).length c6] 24)) := ⟨_, rfl⟩
        rw [← hW2] at HR k10 k11 k20 k21 kq0 kq1 kr0 kr1
        have HB2 : Hid (Below w4.heap.size w4 W2) := by rw [hW2]; exact below_alloc2 _ _ _
        have HX' := Q.hid (HX'.out.below HB2.out)
        rw [← hW2]
        clear hW2
        go_cut [] from 46 to 48 (fun wx => Hid (Below w4.heap.size w4 wx ∧ ∃ A9 c9, RdSt w wx w4.heap.size true m A A' c c' xs ys (val xs / val ys + 1) (val xs % val ys) A9 A6 c9 c6))
        case first =>
          go_region_with (first
            | (go_at_call 9
               refine (rWOf_calls 1 _ (by omega) (by omega)).mono ?_
               rintro e w5 ⟨A8, c8, rfl, ho, hb⟩
               have hbb : Below W2.heap.size W2 w5 := ⟨hb.os, hb.tape, hb.output, hb.size, hb.block⟩
               have HI8 := Q.hid (inn_of ho (sh_64 (x := 1) (by omega)))
               have HR := Q.hid (HR.out.step hbb)
               have HB5 := Q.hid (HB2.out.trans (hbb.mono HB2.out.size))
               clear ho hb hbb kq0 kq1 kr0 kr1 k10 k11 k20 k21
               have kq0 := HR.out.bq.c0
               have kq1 := HR.out.bq.c1)
            | (go_at_call 68
               refine (rPlus_calls (cn (val xs / val ys)) (cn 1) A5 A8 c5 c8 (cw (val xs / val ys)) (cw 1) _ ?_ ?_ (cw_tr _) (cw_tr _) hc1 ho1).mono ?_
               exact ⟨HR.out.iq.rd, HR.out.iq.cap, HR.out.iq.small, HR.out.iq.wds⟩
               exact ⟨HI8.out.rd, HI8.out.cap, HI8.out.small, HI8.out.wds⟩
               rintro e w6 ⟨A9, c9, rfl, ho, hb⟩
               rw [HP1.out] at ho ⊢
               have hbb : Below w5.heap.size w5 w6 := ⟨hb.os, hb.tape, hb.output, hb.size, hb.block⟩
               have BQ := HR.out.bq.below hbb
               have HB6 := Q.hid (HB5.out.trans (hbb.mono HB5.out.size))
               have HR := Q.hid (HR.out.setQ hbb ho HSH3.out)
               clear ho hb hbb kq0 kq1
               have kq0 := BQ.c0
               have kq1 := BQ.c1
               have fq0 := BQ.f0
               have fq1 := BQ.f1
               clear BQ))
          all_goals
            go_wp2_with fail
            go_meet
            exact ⟨below_set2 HB6.out (Nat.le_refl _) _ _, A9, c9, HR.out⟩
        case rest =>
          clear k10 k11 k20 k21 kq0 kq1 kr0 kr1 HR
          obtain ⟨hbx, A9, c9, hrx⟩ := Hid.out hcut
          have HR := Q.hid hrx
          have HX' := Q.hid (H'.out.below hrx.below)
          have HB6 := Q.hid hbx
          clear hcut hrx hbx
          have k10 := HR.out.b1.c0
          have k11 := HR.out.b1.c1
          have k20 := HR.out.b2.c0
          have k21 := HR.out.b2.c1
          have kq0 := HR.out.bq.c0
          have kq1 := HR.out.bq.c1
          have kr0 := HR.out.br.c0
          have kr1 := HR.out.br.c1
          go_upto_region 10 with fail
          go_cut [] from 49 to 53 (fun wx => Hid (Below w4.heap.size w4 wx ∧ ∃ A9 c9 A10 c10, RdSt w wx w4.heap.size true m A A' c c' xs ys (val xs / val ys + 1) (val ys - val xs % val ys) A9 A10 c9 c10))
          case first =>
            go_region_with (first
              | (go_at_call 48
                 refine (rmade_calls false A' c' ys _ ?_).mono ?_
                 exact ⟨HX'.out.rd, HX'.out.cap, HX'.out.small, HX'.out.wds⟩
                 rintro e w5 ⟨A8, c8, rfl, ho, hb⟩
                 rw [HP2.out] at ho ⊢
                 have hbb : Below wc.heap.size wc w5 := ⟨hb.os, hb.tape, hb.output, hb.size, hb.block⟩
                 have HI8 := Q.hid (inn_of ho HSH5.out)
                 have HR := Q.hid (HR.out.step hbb)
                 have HB5 := Q.hid (HB6.out.trans (hbb.mono HB6.out.size))
                 clear ho hb hbb kq0 kq1 kr0 kr1 k10 k11 k20 k21
                 have kr0 := HR.out.br.c0
                 have kr1 := HR.out.br.c1)
              | (go_at_call 69
                 refine (rWLess_calls (cn (val ys)) (cn (val xs % val ys)) A8 A6 c8 c6 (cw (val ys)) (cw (val xs % val ys)) _ ?_ ?_ (cw_tr _) hc2 hc3).mono ?_
                 exact ⟨HI8.out.rd, HI8.out.cap, HI8.out.small, HI8.out.wds⟩
                 exact ⟨HR.out.ir.rd, HR.out.ir.cap, HR.out.ir.small, HR.out.ir.wds⟩
                 rintro e w6 ⟨A10, c10, rfl, ho, hb⟩
                 rw [HP3.out] at ho ⊢
                 have hbb : Below w5.heap.size w5 w6 := ⟨hb.os, hb.tape, hb.output, hb.size, hb.block⟩
                 have BR := HR.out.br.below hbb
                 have HB6 := Q.hid (HB5.out.trans (hbb.mono HB5.out.size))
                 have HR := Q.hid (HR.out.setR hbb ho HSH4.out)
                 clear ho hb hbb kr0 kr1
                 have kr0 := BR.c0
                 have kr1 := BR.c1
                 have fr0 := BR.f0
                 have fr1 := BR.f1
                 clear BR))
            all_goals
              go_wp2_with fail
              go_meet
              exact ⟨below_set2 HB6.out (Nat.le_succ _) _ _, A9, c9, A10, c10, HR.out⟩
          case rest =>
            clear k10 k11 k20 k21 kq0 kq1 kr0 kr1 HR HB6
            obtain ⟨hbx, A9, c9, A10, c10, hrx⟩ := Hid.out hcut
            have HR := Q.hid hrx
            have hw4c := hbx.size
            clear hcut hrx hbx
            have k10 := HR.out.b1.c0
            have k11 := HR.out.b1.c1
            have k20 := HR.out.b2.c0
            have k21 := HR.out.b2.c1
            have kq0 := HR.out.bq.c0
            have kq1 := HR.out.bq.c1
            have kr0 := HR.out.br.c0
            have kr1 := HR.out.br.c1
            have hgc := HR.out.br.lt
            go_wp2_with fail
            refine (rmade_calls (!m) A9 c9 (cw (val xs / val ys + 1)) _ HR.out.iq).mono ?_
            rintro e w6 ⟨A7, c7, rfl, ho, hb⟩
            rw [HQ.out] at ho ⊢
            have BQ := HR.out.bq.below hb
            have hw36 := hb.size
            have HO7 := Q.hid ho
            have HR := Q.hid (HR.out.setQ hb ho HSQ.out)
            clear hb ho
            clear k10 k11 k20 k21 kq0 kq1 kr0 kr1
            have kq0 := BQ.c0
            have kq1 := BQ.c1
            have fq0 := BQ.f0
            have fq1 := BQ.f1
            clear BQ
            obtain ⟨W6, hW6⟩ : ∃ W6, W6 = ((w6.setCell ⟨w4.heap.size, 0, none⟩ (.bool (cn (wv true xs / wv m ys)))).setCell ⟨w4.heap.size, 1, none⟩ (.slice A7 (cw (wv true xs / wv m ys)).length c7)) := ⟨_, rfl⟩
            have hlo := HR.out.lo
            have HD : Hid (DmSt w W6 w.heap.size (.slice A7 (cw (wv true xs / wv m ys)).length c7) (cw (wv true xs / wv m ys)) (.slice A10 (cw (val ys - val xs % val ys)).length c10) (cw (val ys - val xs % val ys))) := by
              have hg := HR.out.bq.lt
              simp only [World.size_setCell] at hg
              have hne : (Value.slice A7 (cw (wv true xs / wv m ys)).length c7).ownBlock ≠ some w4.heap.size := fun e => by have := (HO7.out.base _ e).1; (try simp only [World.size_alloc, World.size_setCell] at this); omega
              rw [hW6]
              exact ⟨((HO7.out.far hne _ _).far hne _ _).mono (by (try simp only [World.size_alloc, World.size_setCell]); omega), HR.out.own, HR.out.below⟩
            have hn7 : ∀ k, (Value.slice A7 (cw (wv true xs / wv m ys)).length c7).ownBlock = some k → k ≠ w.heap.size + 1 + 1 ∧ k ≠ w.heap.size + 1 + 1 + 1 := fun k hk => by have := (HO7.out.base k hk).1; (try simp only [World.size_alloc, World.size_setCell] at this); omega
            have HN7 := Q.hid hn7
            have HNR : Hid (∀ k, (Value.slice A10 (cw (val ys - val xs % val ys)).length c10).ownBlock = some k → k ≠ w.heap.size + 1 + 1 ∧ k ≠ w.heap.size + 1 + 1 + 1) := fun k hk => ⟨(HR.out.nb k hk).1, (HR.out.nb k hk).2.1⟩
            clear hn7
            rw [← hW6] at HR
            go_wp2_with fail
            rw [← hW6]
            clear hW6 kq0 kq1 fq0 fq1
            have kq0 := HR.out.bq.c0
            have kq1 := HR.out.bq.c1
            have kr0 := HR.out.br.c0
            have kr1 := HR.out.br.c1
            have k30 := HR.out.b3.c0
            have k31 := HR.out.b3.c1
            have k40 := HR.out.b4.c0
            have k41 := HR.out.b4.c1
            have f30 := HR.out.b3.f0
            have f31 := HR.out.b3.f1
            have f40 := HR.out.b4.f0
            have f41 := HR.out.b4.f1
            go_region_held3 (fun w' => w'.cell? ⟨w4.heap.size, 0, none⟩ = some (.bool (cn (wv true xs / wv m ys))) ∧ w'.cell? ⟨w4.heap.size, 1, none⟩ = some (.slice A7 (cw (wv true xs / wv m ys)).length c7) ∧ w'.cell? ⟨w4.heap.size + 1, 0, none⟩ = some (.bool (cn (val ys - val xs % val ys))) ∧ w'.cell? ⟨w4.heap.size + 1, 1, none⟩ = some (.slice A10 (cw (val ys - val xs % val ys)).length c10)) (first | exact ⟨kq0, kq1, kr0, kr1⟩ | exact ⟨set2_cell (by omega) kq0, set2_cell (by omega) kq1, set2_cell (by omega) kr0, set2_cell (by omega) kr1⟩ | exact ⟨set2_cell (by omega) (set2_cell (by omega) kq0), set2_cell (by omega) (set2_cell (by omega) kq1), set2_cell (by omega) (set2_cell (by omega) kr0), set2_cell (by omega) (set2_cell (by omega) kr1)⟩) (fail)
            all_goals
              go_wp2
              refine bodyPost_ret (by rw [results_cell2_tmp rfl]; go_simp; rfl) rfl ?_
              exact ⟨A7, c7, A10, c10, by rw [HF.out.1, HF.out.2, HRV.out], by rw [HF.out.1]; refine DmSt.o1 (w := w) (v2 := .slice A10 (cw (val ys - val xs % val ys)).length c10) (xs2 := cw (val ys - val xs % val ys)) ?_; (repeat' first | (with_reducible refine dm_far ?_ HN7.out HNR.out ?_ _) | (with_reducible refine DmSt.drew ?_)); exact HD.out; all_goals (first | exact .inl rfl | exact .inr rfl), by rw [HF.out.2, HRV.out]; refine DmSt.o2 (w := w) (v1 := .slice A7 (cw (wv true xs / wv m ys)).length c7) (xs1 := cw (wv true xs / wv m ys)) ?_; (repeat' first | (with_reducible refine dm_far ?_ HN7.out HNR.out ?_ _) | (with_reducible refine DmSt.drew ?_)); exact HD.out; all_goals (first | exact .inl rfl | exact .inr rfl), by refine DmSt.below (B := w.heap.size) (v1 := .slice A7 (cw (wv true xs / wv m ys)).length c7) (xs1 := cw (wv true xs / wv m ys)) (v2 := .slice A10 (cw (val ys - val xs % val ys)).length c10) (xs2 := cw (val ys - val xs % val ys)) ?_; (repeat' first | (with_reducible refine dm_far ?_ HN7.out HNR.out ?_ _) | (with_reducible refine DmSt.drew ?_)); exact HD.out; all_goals (first | exact .inl rfl | exact .inr rfl)⟩
      · have hor : n = false ∨ val xs % val ys = 0 := by cases n <;> simp_all
        have hqp := quo_plain (n := n) (m := m) Y0 hor
        have hrv : wv n xs % wv m ys = val xs % val ys := hqp.2
        have hqv : wv (n != m) (cw (val xs / val ys)) = wv n xs / wv m ys := by
          rw [wv_sg, val_cw, Int.natAbs_of_nonneg hq0]; exact hqp.1.symm
        have HQV := Q.hid hqv
        have HRV := Q.hid hrv
        have hcs : n = false ∨ (n = true ∧ decide (0 < ((cw (val xs % val ys)).length : Int)) = false ∧ decide (0 < (cw (val xs % val ys)).length) = false) := by
          cases n with
          | false => exact .inl rfl
          | true =>
            have h0 : val xs % val ys = 0 := by simpa using hor
            have hz : cw (val xs % val ys) = [] := (cw_nil_iff _).2 h0
            rw [hz]
            exact .inr ⟨rfl, rfl, rfl⟩
        clear h0 hy hc hcx hcy X0 Y0 hxl hyl hq0 hq1 hr0 hr1 hsq hsr hQ hor hqp hw hw' hqv hrv
        rcases hcs with rfl | ⟨rfl, hd1, hd2⟩
        · have HQ : Hid (wv m (cw (val xs / val ys)) = wv false xs / wv m ys) := by have := HQV.out; rwa [show (false != m) = m by cases m <;> rfl] at this
          go_enter Try.func39, Try.ntmps39
          go_wp2_with fail
          rw [← hW]
          clear hW
          refine (rWboth_calls false m A A' c c' xs ys _ HX.out HX'.out).mono ?_
          rintro e w1 ⟨rfl, hb⟩
          have HX := Q.hid (HX.out.below hb)
          have HX' := Q.hid (HX'.out.below hb)
          have hg4 : w.heap.size + 1 + 1 + 1 < w1.heap.size := Nat.lt_of_lt_of_le hg4 hb.size
          have B1 := Q.hid (B1.out.below hb)
          have B2 := Q.hid (B2.out.below hb)
          have B3 := Q.hid (B3.out.below hb)
          have B4 := Q.hid (B4.out.below hb)
          have HB := Q.hid (bs2 HB.out hb)
          clear hb k10 k11 k20 k21
          have k10 := B1.out.c0
          have k11 := B1.out.c1
          have k20 := B2.out.c0
          have k21 := B2.out.c1
          go_wp2_with fail
          refine (Over_calls A A' c c' xs ys _ HX.out HX'.out HTX.out HTY.out hlx hly HNY.out).mono ?_
          rintro e w2 ⟨v, v', rfl, ho, ho', hb⟩
          obtain ⟨A2, c2, e2, i2⟩ := ho.inn (nwd_wds _) (by omega)
          subst e2
          obtain ⟨A3, c3, e3, i3⟩ := ho'.inn (nwd_wds _) (by omega)
          subst e3
          have HI2 := Q.hid i2
          have HI3 := Q.hid i3
          have HX' := Q.hid (HX'.out.below hb)
          have hw12 := hb.size
          have B1 := Q.hid (B1.out.below hb)
          have B2 := Q.hid (B2.out.below hb)
          have B3 := Q.hid (B3.out.below hb)
          have B4 := Q.hid (B4.out.below hb)
          have HB := Q.hid (bs2 HB.out hb)
          clear ho ho' hb i2 i3 k10 k11 k20 k21
          go_wp2_with fail
          refine (rmade_calls false A2 c2 (nwd (val xs / val ys)) _ HI2.out).mono ?_
          rintro e w3 ⟨A5, c5, rfl, ho, hb⟩
          rw [HM1.out] at ho ⊢
          have HI3 := Q.hid (HI3.out.below hb)
          have HX' := Q.hid (HX'.out.below hb)
          have HIq := Q.hid (inn_of ho HSH1.out)
          have hw23 := hb.size
          have B1 := Q.hid (B1.out.below hb)
          have B2 := Q.hid (B2.out.below hb)
          have B3 := Q.hid (B3.out.below hb)
          have B4 := Q.hid (B4.out.below hb)
          have HB := Q.hid (bs2 HB.out hb)
          clear ho hb HI2
          go_wp2_with fail
          refine (rmade_calls false A3 c3 (nwd (val xs % val ys)) _ HI3.out).mono ?_
          rintro e w4 ⟨A6, c6, rfl, ho, hb⟩
          rw [HM2.out] at ho ⊢
          have HX' := Q.hid (HX'.out.below hb)
          have hw34 := hb.size
          have HIq := Q.hid (HIq.out.below hb)
          have B1 := Q.hid (B1.out.below hb)
          have B2 := Q.hid (B2.out.below hb)
          have B3 := Q.hid (B3.out.below hb)
          have B4 := Q.hid (B4.out.below hb)
          have HB := Q.hid (bs2 HB.out hb)
          have HR : Hid (RdSt w ((w4.alloc (.cells #[.bool (cn (val xs / val ys)), .slice A5 (cw (val xs / val ys)).length c5] 24)).alloc (.cells #[.bool (cn (val xs % val ys)), .slice A6 (cw (val xs % val ys)).length c6] 24)) w4.heap.size false m A A' c c' xs ys (val xs / val ys) (val xs % val ys) A5 A6 c5 c6) := by
            have bb := Bx.new (w4.alloc (.cells #[.bool (cn (val xs / val ys)), .slice A5 (cw (val xs / val ys)).length c5] 24)) (cn (val xs % val ys)) (.slice A6 (cw (val xs % val ys)).length c6)
            rw [World.size_alloc] at bb
            have hs := HB.out.size
            have off : ∀ {v : Int} {A : Option Addr} {c : Nat} (g : Nat), In w4 A c (cw v) → w4.heap.size ≤ g → Off A (cw v) g := fun g hi hg => by
              rcases in_lt hi with e | e
              · exact .inl e
              · exact .inr fun ad ha => by have := e ad ha; omega
            exact ⟨(B1.out.alloc _).alloc _, (B2.out.alloc _).alloc _, (B3.out.alloc _).alloc _, (B4.out.alloc _).alloc _, (Bx.new _ _ _).alloc _, bb, (HIq.out.alloc _).alloc _, off _ HIq.out (Nat.le_succ _), ((inn_of ho HSH2.out).alloc _).alloc _, ((ho.mono (by omega)).alloc _).alloc _,
              fun k hk => by have a := ho.base k hk; omega, off _ (inn_of ho HSH2.out) (Nat.le_refl _), by omega, (HB.out.alloc hs _).alloc (by rw [World.size_alloc]; omega) _⟩
          clear ho hb HIq HI3 B1 B2 B3 B4
          have k10 := HR.out.b1.c0
          have k11 := HR.out.b1.c1
          have k20 := HR.out.b2.c0
          have k21 := HR.out.b2.c1
          have kq0 := HR.out.bq.c0
          have kq1 := HR.out.bq.c1
          have kr0 := HR.out.br.c0
          have kr1 := HR.out.br.c1
          go_wp2_with fail
          refine (rmade_calls m A5 c5 (cw (val xs / val ys)) _ HR.out.iq).mono ?_
          rintro e w6 ⟨A7, c7, rfl, ho, hb⟩
          rw [HQ.out] at ho ⊢
          have BQ := HR.out.bq.below hb
          have hw36 := hb.size
          have HO7 := Q.hid ho
          have HR := Q.hid (HR.out.setQ hb ho HSQ.out)
          clear hb ho
          clear k10 k11 k20 k21 kq0 kq1 kr0 kr1
          have kq0 := BQ.c0
          have kq1 := BQ.c1
          have fq0 := BQ.f0
          have fq1 := BQ.f1
          clear BQ
          obtain ⟨W6, hW6⟩ : ∃ W6, W6 = ((w6.setCell ⟨w4.heap.size, 0, none⟩ (.bool (cn (wv false xs / wv m ys)))).setCell ⟨w4.heap.size, 1, none⟩ (.slice A7 (cw (wv false xs / wv m ys)).length c7)) := ⟨_, rfl⟩
          have hlo := HR.out.lo
          have HD : Hid (DmSt w W6 w.heap.size (.slice A7 (cw (wv false xs / wv m ys)).length c7) (cw (wv false xs / wv m ys)) (.slice A6 (cw (val xs % val ys)).length c6) (cw (val xs % val ys))) := by
            have hg := HR.out.bq.lt
            simp only [World.size_setCell] at hg
            have hne : (Value.slice A7 (cw (wv false xs / wv m ys)).length c7).ownBlock ≠ some w4.heap.size := fun e => by have := (HO7.out.base _ e).1; (try simp only [World.size_alloc, World.size_setCell] at this); omega
            rw [hW6]
            exact ⟨((HO7.out.far hne _ _).far hne _ _).mono (by (try simp only [World.size_alloc, World.size_setCell]); omega), HR.out.own, HR.out.below⟩
          have hn7 : ∀ k, (Value.slice A7 (cw (wv false xs / wv m ys)).length c7).ownBlock = some k → k ≠ w.heap.size + 1 + 1 ∧ k ≠ w.heap.size + 1 + 1 + 1 := fun k hk => by have := (HO7.out.base k hk).1; (try simp only [World.size_alloc, World.size_setCell] at this); omega
          have HN7 := Q.hid hn7
          have HNR : Hid (∀ k, (Value.slice A6 (cw (val xs % val ys)).length c6).ownBlock = some k → k ≠ w.heap.size + 1 + 1 ∧ k ≠ w.heap.size + 1 + 1 + 1) := fun k hk => ⟨(HR.out.nb k hk).1, (HR.out.nb k hk).2.1⟩
          clear hn7
          rw [← hW6] at HR
          go_wp2_with fail
          rw [← hW6]
          clear hW6 kq0 kq1 fq0 fq1
          have kq0 := HR.out.bq.c0
          have kq1 := HR.out.bq.c1
          have kr0 := HR.out.br.c0
          have kr1 := HR.out.br.c1
          have k30 := HR.out.b3.c0
          have k31 := HR.out.b3.c1
          have k40 := HR.out.b4.c0
          have k41 := HR.out.b4.c1
          have f30 := HR.out.b3.f0
          have f31 := HR.out.b3.f1
          have f40 := HR.out.b4.f0
          have f41 := HR.out.b4.f1
          go_region_held3 (fun w' => w'.cell? ⟨w4.heap.size, 0, none⟩ = some (.bool (cn (wv false xs / wv m ys))) ∧ w'.cell? ⟨w4.heap.size, 1, none⟩ = some (.slice A7 (cw (wv false xs / wv m ys)).length c7) ∧ w'.cell? ⟨w4.heap.size + 1, 0, none⟩ = some (.bool (cn (val xs % val ys))) ∧ w'.cell? ⟨w4.heap.size + 1, 1, none⟩ = some (.slice A6 (cw (val xs % val ys)).length c6)) (first | exact ⟨kq0, kq1, kr0, kr1⟩ | exact ⟨set2_cell (by omega) kq0, set2_cell (by omega) kq1, set2_cell (by omega) kr0, set2_cell (by omega) kr1⟩ | exact ⟨set2_cell (by omega) (set2_cell (by omega) kq0), set2_cell (by omega) (set2_cell (by omega) kq1), set2_cell (by omega) (set2_cell (by omega) kr0), set2_cell (by omega) (set2_cell (by omega) kr1)⟩) (fail)
          all_goals
            go_wp2
            refine bodyPost_ret (by rw [results_cell2_tmp rfl]; go_simp; rfl) rfl ?_
            exact ⟨A7, c7, A6, c6, by rw [HF.out.1, HF.out.2, HRV.out], by rw [HF.out.1]; refine DmSt.o1 (w := w) (v2 := .slice A6 (cw (val xs % val ys)).length c6) (xs2 := cw (val xs % val ys)) ?_; (repeat' first | (with_reducible refine dm_far ?_ HN7.out HNR.out ?_ _) | (with_reducible refine DmSt.drew ?_)); exact HD.out; all_goals (first | exact .inl rfl | exact .inr rfl), by rw [HF.out.2, HRV.out]; refine DmSt.o2 (w := w) (v1 := .slice A7 (cw (wv false xs / wv m ys)).length c7) (xs1 := cw (wv false xs / wv m ys)) ?_; (repeat' first | (with_reducible refine dm_far ?_ HN7.out HNR.out ?_ _) | (with_reducible refine DmSt.drew ?_)); exact HD.out; all_goals (first | exact .inl rfl | exact .inr rfl), by refine DmSt.below (B := w.heap.size) (v1 := .slice A7 (cw (wv false xs / wv m ys)).length c7) (xs1 := cw (wv false xs / wv m ys)) (v2 := .slice A6 (cw (val xs % val ys)).length c6) (xs2 := cw (val xs % val ys)) ?_; (repeat' first | (with_reducible refine dm_far ?_ HN7.out HNR.out ?_ _) | (with_reducible refine DmSt.drew ?_)); exact HD.out; all_goals (first | exact .inl rfl | exact .inr rfl)⟩
        · have HQ : Hid (wv (!m) (cw (val xs / val ys)) = wv true xs / wv m ys) := by have := HQV.out; rwa [show (true != m) = (!m) by cases m <;> rfl] at this
          go_enter Try.func39, Try.ntmps39
          go_wp2_with fail
          rw [← hW]
          clear hW
          refine (rWboth_calls true m A A' c c' xs ys _ HX.out HX'.out).mono ?_
          rintro e w1 ⟨rfl, hb⟩
          have HX := Q.hid (HX.out.below hb)
          have HX' := Q.hid (HX'.out.below hb)
          have hg4 : w.heap.size + 1 + 1 + 1 < w1.heap.size := Nat.lt_of_lt_of_le hg4 hb.size
          have B1 := Q.hid (B1.out.below hb)
          have B2 := Q.hid (B2.out.below hb)
          have B3 := Q.hid (B3.out.below hb)
          have B4 := Q.hid (B4.out.below hb)
          have HB := Q.hid (bs2 HB.out hb)
          clear hb k10 k11 k20 k21
          have k10 := B1.out.c0
          have k11 := B1.out.c1
          have k20 := B2.out.c0
          have k21 := B2.out.c1
          go_wp2_with fail
          refine (Over_calls A A' c c' xs ys _ HX.out HX'.out HTX.out HTY.out hlx hly HNY.out).mono ?_
          rintro e w2 ⟨v, v', rfl, ho, ho', hb⟩
          obtain ⟨A2, c2, e2, i2⟩ := ho.inn (nwd_wds _) (by omega)
          subst e2
          obtain ⟨A3, c3, e3, i3⟩ := ho'.inn (nwd_wds _) (by omega)
          subst e3
          have HI2 := Q.hid i2
          have HI3 := Q.hid i3
          have HX' := Q.hid (HX'.out.below hb)
          have hw12 := hb.size
          have B1 := Q.hid (B1.out.below hb)
          have B2 := Q.hid (B2.out.below hb)
          have B3 := Q.hid (B3.out.below hb)
          have B4 := Q.hid (B4.out.below hb)
          have HB := Q.hid (bs2 HB.out hb)
          clear ho ho' hb i2 i3 k10 k11 k20 k21
          go_wp2_with fail
          refine (rmade_calls false A2 c2 (nwd (val xs / val ys)) _ HI2.out).mono ?_
          rintro e w3 ⟨A5, c5, rfl, ho, hb⟩
          rw [HM1.out] at ho ⊢
          have HI3 := Q.hid (HI3.out.below hb)
          have HX' := Q.hid (HX'.out.below hb)
          have HIq := Q.hid (inn_of ho HSH1.out)
          have hw23 := hb.size
          have B1 := Q.hid (B1.out.below hb)
          have B2 := Q.hid (B2.out.below hb)
          have B3 := Q.hid (B3.out.below hb)
          have B4 := Q.hid (B4.out.below hb)
          have HB := Q.hid (bs2 HB.out hb)
          clear ho hb HI2
          go_wp2_with fail
          refine (rmade_calls false A3 c3 (nwd (val xs % val ys)) _ HI3.out).mono ?_
          rintro e w4 ⟨A6, c6, rfl, ho, hb⟩
          rw [HM2.out] at ho ⊢
          have HX' := Q.hid (HX'.out.below hb)
          have hw34 := hb.size
          have HIq := Q.hid (HIq.out.below hb)
          have B1 := Q.hid (B1.out.below hb)
          have B2 := Q.hid (B2.out.below hb)
          have B3 := Q.hid (B3.out.below hb)
          have B4 := Q.hid (B4.out.below hb)
          have HB := Q.hid (bs2 HB.out hb)
          have HR : Hid (RdSt w ((w4.alloc (.cells #[.bool (cn (val xs / val ys)), .slice A5 (cw (val xs / val ys)).length c5] 24)).alloc (.cells #[.bool (cn (val xs % val ys)), .slice A6 (cw (val xs % val ys)).length c6] 24)) w4.heap.size true m A A' c c' xs ys (val xs / val ys) (val xs % val ys) A5 A6 c5 c6) := by
            have bb := Bx.new (w4.alloc (.cells #[.bool (cn (val xs / val ys)), .slice A5 (cw (val xs / val ys)).length c5] 24)) (cn (val xs % val ys)) (.slice A6 (cw (val xs % val ys)).length c6)
            rw [World.size_alloc] at bb
            have hs := HB.out.size
            have off : ∀ {v : Int} {A : Option Addr} {c : Nat} (g : Nat), In w4 A c (cw v) → w4.heap.size ≤ g → Off A (cw v) g := fun g hi hg => by
              rcases in_lt hi with e | e
              · exact .inl e
              · exact .inr fun ad ha => by have := e ad ha; omega
            exact ⟨(B1.out.alloc _).alloc _, (B2.out.alloc _).alloc _, (B3.out.alloc _).alloc _, (B4.out.alloc _).alloc _, (Bx.new _ _ _).alloc _, bb, (HIq.out.alloc _).alloc _, off _ HIq.out (Nat.le_succ _), ((inn_of ho HSH2.out).alloc _).alloc _, ((ho.mono (by omega)).alloc _).alloc _,
              fun k hk => by have a := ho.base k hk; omega, off _ (inn_of ho HSH2.out) (Nat.le_refl _), by omega, (HB.out.alloc hs _).alloc (by rw [World.size_alloc]; omega) _⟩
          clear ho hb HIq HI3 B1 B2 B3 B4
          have k10 := HR.out.b1.c0
          have k11 := HR.out.b1.c1
          have k20 := HR.out.b2.c0
          have k21 := HR.out.b2.c1
          have kq0 := HR.out.bq.c0
          have kq1 := HR.out.bq.c1
          have kr0 := HR.out.br.c0
          have kr1 := HR.out.br.c1
          go_wp2_with fail
          refine (rmade_calls (!m) A5 c5 (cw (val xs / val ys)) _ HR.out.iq).mono ?_
          rintro e w6 ⟨A7, c7, rfl, ho, hb⟩
          rw [HQ.out] at ho ⊢
          have BQ := HR.out.bq.below hb
          have hw36 := hb.size
          have HO7 := Q.hid ho
          have HR := Q.hid (HR.out.setQ hb ho HSQ.out)
          clear hb ho
          clear k10 k11 k20 k21 kq0 kq1 kr0 kr1
          have kq0 := BQ.c0
          have kq1 := BQ.c1
          have fq0 := BQ.f0
          have fq1 := BQ.f1
          clear BQ
          obtain ⟨W6, hW6⟩ : ∃ W6, W6 = ((w6.setCell ⟨w4.heap.size, 0, none⟩ (.bool (cn (wv true xs / wv m ys)))).setCell ⟨w4.heap.size, 1, none⟩ (.slice A7 (cw (wv true xs / wv m ys)).length c7)) := ⟨_, rfl⟩
          have hlo := HR.out.lo
          have HD : Hid (DmSt w W6 w.heap.size (.slice A7 (cw (wv true xs / wv m ys)).length c7) (cw (wv true xs / wv m ys)) (.slice A6 (cw (val xs % val ys)).length c6) (cw (val xs % val ys))) := by
            have hg := HR.out.bq.lt
            simp only [World.size_setCell] at hg
            have hne : (Value.slice A7 (cw (wv true xs / wv m ys)).length c7).ownBlock ≠ some w4.heap.size := fun e => by have := (HO7.out.base _ e).1; (try simp only [World.size_alloc, World.size_setCell] at this); omega
            rw [hW6]
            exact ⟨((HO7.out.far hne _ _).far hne _ _).mono (by (try simp only [World.size_alloc, World.size_setCell]); omega), HR.out.own, HR.out.below⟩
          have hn7 : ∀ k, (Value.slice A7 (cw (wv true xs / wv m ys)).length c7).ownBlock = some k → k ≠ w.heap.size + 1 + 1 ∧ k ≠ w.heap.size + 1 + 1 + 1 := fun k hk => by have := (HO7.out.base k hk).1; (try simp only [World.size_alloc, World.size_setCell] at this); omega
          have HN7 := Q.hid hn7
          have HNR : Hid (∀ k, (Value.slice A6 (cw (val xs % val ys)).length c6).ownBlock = some k → k ≠ w.heap.size + 1 + 1 ∧ k ≠ w.heap.size + 1 + 1 + 1) := fun k hk => ⟨(HR.out.nb k hk).1, (HR.out.nb k hk).2.1⟩
          clear hn7
          rw [← hW6] at HR
          go_wp2_with fail
          rw [← hW6]
          clear hW6 kq0 kq1 fq0 fq1
          have kq0 := HR.out.bq.c0
          have kq1 := HR.out.bq.c1
          have kr0 := HR.out.br.c0
          have kr1 := HR.out.br.c1
          have k30 := HR.out.b3.c0
          have k31 := HR.out.b3.c1
          have k40 := HR.out.b4.c0
          have k41 := HR.out.b4.c1
          have f30 := HR.out.b3.f0
          have f31 := HR.out.b3.f1
          have f40 := HR.out.b4.f0
          have f41 := HR.out.b4.f1
          go_region_held3 (fun w' => w'.cell? ⟨w4.heap.size, 0, none⟩ = some (.bool (cn (wv true xs / wv m ys))) ∧ w'.cell? ⟨w4.heap.size, 1, none⟩ = some (.slice A7 (cw (wv true xs / wv m ys)).length c7) ∧ w'.cell? ⟨w4.heap.size + 1, 0, none⟩ = some (.bool (cn (val xs % val ys))) ∧ w'.cell? ⟨w4.heap.size + 1, 1, none⟩ = some (.slice A6 (cw (val xs % val ys)).length c6)) (first | exact ⟨kq0, kq1, kr0, kr1⟩ | exact ⟨set2_cell (by omega) kq0, set2_cell (by omega) kq1, set2_cell (by omega) kr0, set2_cell (by omega) kr1⟩ | exact ⟨set2_cell (by omega) (set2_cell (by omega) kq0), set2_cell (by omega) (set2_cell (by omega) kq1), set2_cell (by omega) (set2_cell (by omega) kr0), set2_cell (by omega) (set2_cell (by omega) kr1)⟩) (fail)
          all_goals
            go_wp2
            refine bodyPost_ret (by rw [results_cell2_tmp rfl]; go_simp; rfl) rfl ?_
            exact ⟨A7, c7, A6, c6, by rw [HF.out.1, HF.out.2, HRV.out], by rw [HF.out.1]; refine DmSt.o1 (w := w) (v2 := .slice A6 (cw (val xs % val ys)).length c6) (xs2 := cw (val xs % val ys)) ?_; (repeat' first | (with_reducible refine dm_far ?_ HN7.out HNR.out ?_ _) | (with_reducible refine DmSt.drew ?_)); exact HD.out; all_goals (first | exact .inl rfl | exact .inr rfl), by rw [HF.out.2, HRV.out]; refine DmSt.o2 (w := w) (v1 := .slice A7 (cw (wv true xs / wv m ys)).length c7) (xs1 := cw (wv true xs / wv m ys)) ?_; (repeat' first | (with_reducible refine dm_far ?_ HN7.out HNR.out ?_ _) | (with_reducible refine DmSt.drew ?_)); exact HD.out; all_goals (first | exact .inl rfl | exact .inr rfl), by refine DmSt.below (B := w.heap.size) (v1 := .slice A7 (cw (wv true xs / wv m ys)).length c7) (xs1 := cw (wv true xs / wv m ys)) (v2 := .slice A6 (cw (val xs % val ys)).length c6) (xs2 := cw (val xs % val ys)) ?_; (repeat' first | (with_reducible refine dm_far ?_ HN7.out HNR.out ?_ _) | (with_reducible refine DmSt.drew ?_)); exact HD.out; all_goals (first | exact .inl rfl | exact .inr rfl)⟩
  · have hb0 : (chkW2 n xs m ys != 0) = true := by simp [h0]
    have HF : Hid (quoW n xs m ys = noW (chkW2 n xs m ys) ∧ remW n xs m ys = noW (chkW2 n xs m ys)) := ⟨if_neg h0, if_neg h0⟩
    clear h0 hw hw'
    go_enter Try.func39, Try.ntmps39
    go_wp2_with fail
    rw [← hW]
    clear hW
    refine (rWboth_calls n m A A' c c' xs ys _ HX.out HX'.out).mono ?_
    rintro e w1 ⟨rfl, hb⟩
    have HX := Q.hid (HX.out.below hb)
    have HX' := Q.hid (HX'.out.below hb)
    have hg4 : w.heap.size + 1 + 1 + 1 < w1.heap.size := Nat.lt_of_lt_of_le hg4 hb.size
    have B1 := Q.hid (B1.out.below hb)
    have B2 := Q.hid (B2.out.below hb)
    have B3 := Q.hid (B3.out.below hb)
    have B4 := Q.hid (B4.out.below hb)
    have HB := Q.hid (bs2 HB.out hb)
    clear hb k10 k11 k20 k21
    have k10 := B1.out.c0
    have k11 := B1.out.c1
    have k20 := B2.out.c0
    have k21 := B2.out.c1
    have k30 := B3.out.c0
    have k31 := B3.out.c1
    have k40 := B4.out.c0
    have k41 := B4.out.c1
    have f30 := B3.out.f0
    have f31 := B3.out.f1
    have f40 := B4.out.f0
    have f41 := B4.out.f1
    go_wp2
    refine bodyPost_ret (by rw [results_cell2_tmp rfl]; go_simp; rfl) rfl ?_
    exact ⟨none, 0, none, 0, by rw [HF.out.1, HF.out.2]; rfl, by rw [HF.out.1]; exact Ow.nil _ _ _, by rw [HF.out.2]; exact Ow.nil _ _ _, by repeat' first | exact HB.out | refine Below.drew ?_ | refine Below.setCell ?_ (by simp; omega) _⟩
end Go.Proofs.Ytidccoahjpjoaaa
