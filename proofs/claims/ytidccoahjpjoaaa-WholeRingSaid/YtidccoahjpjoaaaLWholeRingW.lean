/- The walk of WholeRing. -/
import Derived.Test.YtidccoahjpjoaaaLWholeDiv
set_option linter.unusedVariables false
set_option linter.unusedSimpArgs false
namespace Go.Proofs.Ytidccoahjpjoaaa
open Go Go.RowKit Q

/-- two numbers that are written over -/
structure LR (wt : World) (gl gr : Nat) (p q : Int) (A1 : Option Addr) (c1 : Nat) (A2 : Option Addr) (c2 : Nat) : Prop where
  bl : Bx wt gl (cn p) (.slice A1 (cw p).length c1)
  br : Bx wt gr (cn q) (.slice A2 (cw q).length c2)
  il : In wt A1 c1 (cw p)
  ir : In wt A2 c2 (cw q)
  ne : gl < gr
  ol : Off A1 (cw p) gr
  orr : Off A2 (cw q) gl
theorem LR.step {wt w' : World} {gl gr : Nat} {p q : Int} {A1 A2 : Option Addr} {c1 c2 : Nat} (h : LR wt gl gr p q A1 c1 A2 c2) (hb : Below wt.heap.size wt w') : LR w' gl gr p q A1 c1 A2 c2 :=
  ⟨h.bl.below hb, h.br.below hb, h.il.below hb, h.ir.below hb, h.ne, h.ol, h.orr⟩
theorem LR.setL {wt w' : World} {gl gr : Nat} {p q R : Int} {A1 A2 A3 : Option Addr} {c1 c2 c3 : Nat} (h : LR wt gl gr p q A1 c1 A2 c2) (hb : Below wt.heap.size wt w') (ho : Ow w' 58 wt.heap.size (.slice A3 (cw R).length c3) (cw R)) (hs : Sh R) :
    LR ((w'.setCell ⟨gl, 0, none⟩ (.bool (cn R))).setCell ⟨gl, 1, none⟩ (.slice A3 (cw R).length c3)) gl gr R q A3 c3 A2 c2 := by
  have h1 := h.ne
  have h2 := h.br.lt
  exact ⟨(h.bl.below hb).over _ _, ((h.br.below hb).far (by omega) _ _).far (by omega) _ _, in_far (in_far (inn_of ho hs) (.inr fun ad e => by have := made_at ho ad e; omega) _) (.inr fun ad e => by have := made_at ho ad e; omega) _,
    in_far (in_far (h.ir.below hb) h.orr _) h.orr _, h1, .inr fun ad e => by have := made_at ho ad e; omega, h.orr⟩
theorem LR.setR {wt w' : World} {gl gr : Nat} {p q R : Int} {A1 A2 A3 : Option Addr} {c1 c2 c3 : Nat} (h : LR wt gl gr p q A1 c1 A2 c2) (hb : Below wt.heap.size wt w') (ho : Ow w' 58 wt.heap.size (.slice A3 (cw R).length c3) (cw R)) (hs : Sh R) :
    LR ((w'.setCell ⟨gr, 0, none⟩ (.bool (cn R))).setCell ⟨gr, 1, none⟩ (.slice A3 (cw R).length c3)) gl gr p R A1 c1 A3 c3 := by
  have h1 := h.ne
  have h2 := h.br.lt
  exact ⟨((h.bl.below hb).far (by omega) _ _).far (by omega) _ _, (h.br.below hb).over _ _, in_far (in_far (h.il.below hb) h.ol _) h.ol _,
    in_far (in_far (inn_of ho hs) (.inr fun ad e => by have := made_at ho ad e; omega) _) (.inr fun ad e => by have := made_at ho ad e; omega) _, h1, h.ol, .inr fun ad e => by have := made_at ho ad e; omega⟩
/-- may a number be, and is it short? -/
def Vd (n : Bool) (xs : List Int) : Prop := chkW n xs = 0 ∧ xs.length ≤ 40
/-- the state as the three are looked at -/
structure R3 (w wr : World) (g : Nat) (n m o : Bool) (A A' A'' : Option Addr) (c c' c'' : Nat) (xs ys zs : List Int) : Prop where
  b1 : Bx wr w.heap.size n (.slice A xs.length c)
  b2 : Bx wr (w.heap.size + 1) m (.slice A' ys.length c')
  b3 : Bx wr (w.heap.size + 1 + 1) o (.slice A'' zs.length c'')
  row : Blk wr g 24 [.bool n, .slice A xs.length c, .bool m, .slice A' ys.length c', .bool o, .slice A'' zs.length c'']
  below : Below w.heap.size w wr
theorem R3.step {w wr w' : World} {g : Nat} {n m o : Bool} {A A' A'' : Option Addr} {c c' c'' : Nat} {xs ys zs : List Int} (h : R3 w wr g n m o A A' A'' c c' c'' xs ys zs) (hb : Below wr.heap.size wr w') : R3 w w' g n m o A A' A'' c c' c'' xs ys zs :=
  ⟨h.b1.below hb, h.b2.below hb, h.b3.below hb, h.row.below hb, bs2 h.below hb⟩
theorem sub_can (v u : Int) (hv : Sh v) (hu : Sh u) (hr : Sh (v + u)) : subW (cn (v + u)) (cw (v + u)) (cn u) (cw u) = ⟨cn v, cw v, 0⟩ := by
  have e : v + u - u = v := by omega
  have := subW_can hr hu (by rw [e]; exact hv)
  rwa [e] at this

set_option maxHeartbeats 8000000 in
set_option maxRecDepth 100000 in
theorem WholeRing_walk (n : Bool) (A : Option Addr) (c : Nat) (xs : List Int) (m : Bool) (A' : Option Addr) (c' : Nat) (ys : List Int) (o : Bool) (A'' : Option Addr) (c'' : Nat) (zs : List Int) (w : World) (h : In w A c xs) (h' : In w A' c' ys) (h'' : In w A'' c'' zs) :
    Calls Try.prog 5 #[.agg #[.bool n, .slice A xs.length c], .agg #[.bool m, .slice A' ys.length c'], .agg #[.bool o, .slice A'' zs.length c'']] w fun e w' => e = .returned (.bool true) ∧ Below w.heap.size w w' := by
  have H := Q.hid h
  have H' := Q.hid h'
  have H'' := Q.hid h''
  clear h h' h''
  obtain ⟨W, hW⟩ : ∃ W, W = (((w.alloc (.cells #[.bool n, .slice A xs.length c] 24)).alloc (.cells #[.bool m, .slice A' ys.length c'] 24)).alloc (.cells #[.bool o, .slice A'' zs.length c''] 24)) := ⟨_, rfl⟩
  have B1 : Hid (Bx W w.heap.size n (.slice A xs.length c)) := by rw [hW]; exact ((Bx.new w n (.slice A xs.length c)).alloc _).alloc _
  have B2 : Hid (Bx W (w.heap.size + 1) m (.slice A' ys.length c')) := by
    have := (Bx.new (w.alloc (.cells #[.bool n, .slice A xs.length c] 24)) m (.slice A' ys.length c')).alloc (.cells #[.bool o, .slice A'' zs.length c''] 24)
    simp only [World.size_alloc] at this
    rw [hW]; exact this
  have B3 : Hid (Bx W (w.heap.size + 1 + 1) o (.slice A'' zs.length c'')) := by
    have := Bx.new ((w.alloc (.cells #[.bool n, .slice A xs.length c] 24)).alloc (.cells #[.bool m, .slice A' ys.length c'] 24)) o (.slice A'' zs.length c'')
    simp only [World.size_alloc] at this
    rw [hW]; exact this
  have HB : Hid (Below w.heap.size w W) := by rw [hW]; exact below_alloc3 w _ _ _
  go_enter Try.func5, Try.ntmps5
  go_wp2_with fail
  rw [← hW]
  clear hW
  refine (lives_calls _).mono ?_
  rintro e w1 ⟨rfl, hb⟩
  have HR : Hid (R3 w (w1.alloc (.cells #[.bool n, .slice A xs.length c, .bool m, .slice A' ys.length c', .bool o, .slice A'' zs.length c''] 24)) w1.heap.size n m o A A' A'' c c' c'' xs ys zs) :=
    ⟨(B1.out.below hb).alloc _, (B2.out.below hb).alloc _, (B3.out.below hb).alloc _, Blk.new w1 _ [.bool n, .slice A xs.length c, .bool m, .slice A' ys.length c', .bool o, .slice A'' zs.length c''], (bs2 HB.out hb).alloc (bs2 HB.out hb).size _⟩
  have k10 := (B1.out.below hb).c0
  have k11 := (B1.out.below hb).c1
  have k20 := (B2.out.below hb).c0
  have k21 := (B2.out.below hb).c1
  have k30 := (B3.out.below hb).c0
  have k31 := (B3.out.below hb).c1
  clear hb B1 B2 B3 HB
  go_wp2
  go_loopw [32] (fun iv wr => ∃ k : Nat, k ≤ 3 ∧ iv = .int .i64 k ∧ Hid ((0 < k → Vd n xs) ∧ (1 < k → Vd m ys) ∧ (2 < k → Vd o zs)) ∧ Hid (R3 w wr w1.heap.size n m o A A' A'' c c' c'' xs ys zs)) (fun iv _ => 3 - (intOf iv).toNat)
  case atStart => exact ⟨0, by omega, rfl, ⟨fun h => absurd h (Nat.not_lt_zero _), fun h => absurd h (by omega), fun h => absurd h (by omega)⟩, HR⟩
  case round =>
    clear HR k10 k11 k20 k21 k30 k31
    obtain ⟨k, hk, rfl, HV, HR⟩ := hrel
    rcases (by omega : k = 0 ∨ k = 1 ∨ k = 2 ∨ k = 3) with rfl | rfl | rfl | rfl
    · by_cases hv : chkW n xs = 0
      · have hb0 : (chkW n xs != 0) = false := by simp [hv]
        by_cases hl : 40 < xs.length
        · have d1 : decide (40 < (xs.length : Int)) = true := decide_eq_true (by omega)
          have d2 : decide (40 < xs.length) = true := decide_eq_true hl
          clear hv
          have kc0 := Blk.cell HR.out.row (i := 0) rfl
          have kc1 := Blk.cell HR.out.row (i := 1) rfl
          go_wp2_with fail
          refine (wCheck_calls n A c xs _ (H.out.below (HR.out.below.alloc HR.out.below.size _))).mono ?_
          rintro e w3 ⟨rfl, hb⟩
          have B8 := Q.hid ((Bx.new wr n (.slice A xs.length c)).below hb)
          have HR := Q.hid ((HR.out.step (below_alloc1 wr (.cells #[.bool n, .slice A xs.length c] 24))).step hb)
          clear hb kc0 kc1
          have k80 := B8.out.c0
          have k81 := B8.out.c1
          go_wp2
          go_ret
          exact ⟨rfl, HR.out.below⟩
        · have d1 : decide (40 < (xs.length : Int)) = false := decide_eq_false (by omega)
          have d2 : decide (40 < xs.length) = false := decide_eq_false hl
          have HV2 : Hid ((0 < 1 → Vd n xs) ∧ (1 < 1 → Vd m ys) ∧ (2 < 1 → Vd o zs)) := ⟨fun _ => ⟨hv, by omega⟩, fun h => absurd h (by omega), fun h => absurd h (by omega)⟩
          clear hv hl
          have kc0 := Blk.cell HR.out.row (i := 0) rfl
          have kc1 := Blk.cell HR.out.row (i := 1) rfl
          go_wp2_with fail
          refine (wCheck_calls n A c xs _ (H.out.below (HR.out.below.alloc HR.out.below.size _))).mono ?_
          rintro e w3 ⟨rfl, hb⟩
          have B8 := Q.hid ((Bx.new wr n (.slice A xs.length c)).below hb)
          have HR := Q.hid ((HR.out.step (below_alloc1 wr (.cells #[.bool n, .slice A xs.length c] 24))).step hb)
          clear hb kc0 kc1
          have k80 := B8.out.c0
          have k81 := B8.out.c1
          go_wp2
          go_roundw
          case rel => exact ⟨1, by omega, rfl, HV2, HR⟩
          case measure => simp [intOf]
      · have hb0 : (chkW n xs != 0) = true := by simp [hv]
        clear hv
        have kc0 := Blk.cell HR.out.row (i := 0) rfl
        have kc1 := Blk.cell HR.out.row (i := 1) rfl
        go_wp2_with fail
        refine (wCheck_calls n A c xs _ (H.out.below (HR.out.below.alloc HR.out.below.size _))).mono ?_
        rintro e w3 ⟨rfl, hb⟩
        have B8 := Q.hid ((Bx.new wr n (.slice A xs.length c)).below hb)
        have HR := Q.hid ((HR.out.step (below_alloc1 wr (.cells #[.bool n, .slice A xs.length c] 24))).step hb)
        clear hb kc0 kc1
        have k80 := B8.out.c0
        have k81 := B8.out.c1
        go_wp2
        go_ret
        exact ⟨rfl, HR.out.below⟩
    · by_cases hv : chkW m ys = 0
      · have hb0 : (chkW m ys != 0) = false := by simp [hv]
        by_cases hl : 40 < ys.length
        · have d1 : decide (40 < (ys.length : Int)) = true := decide_eq_true (by omega)
          have d2 : decide (40 < ys.length) = true := decide_eq_true hl
          clear hv
          have kc0 := Blk.cell HR.out.row (i := 2) rfl
          have kc1 := Blk.cell HR.out.row (i := 3) rfl
          go_wp2_with fail
          refine (wCheck_calls m A' c' ys _ (H'.out.below (HR.out.below.alloc HR.out.below.size _))).mono ?_
          rintro e w3 ⟨rfl, hb⟩
          have B8 := Q.hid ((Bx.new wr m (.slice A' ys.length c')).below hb)
          have HR := Q.hid ((HR.out.step (below_alloc1 wr (.cells #[.bool m, .slice A' ys.length c'] 24))).step hb)
          clear hb kc0 kc1
          have k80 := B8.out.c0
          have k81 := B8.out.c1
          go_wp2
          go_ret
          exact ⟨rfl, HR.out.below⟩
        · have d1 : decide (40 < (ys.length : Int)) = false := decide_eq_false (by omega)
          have d2 : decide (40 < ys.length) = false := decide_eq_false hl
          have HV2 : Hid ((0 < 2 → Vd n xs) ∧ (1 < 2 → Vd m ys) ∧ (2 < 2 → Vd o zs)) := ⟨fun _ => HV.out.1 (by omega), fun _ => ⟨hv, by omega⟩, fun h => absurd h (by omega)⟩
          clear hv hl
          have kc0 := Blk.cell HR.out.row (i := 2) rfl
          have kc1 := Blk.cell HR.out.row (i := 3) rfl
          go_wp2_with fail
          refine (wCheck_calls m A' c' ys _ (H'.out.below (HR.out.below.alloc HR.out.below.size _))).mono ?_
          rintro e w3 ⟨rfl, hb⟩
          have B8 := Q.hid ((Bx.new wr m (.slice A' ys.length c')).below hb)
          have HR := Q.hid ((HR.out.step (below_alloc1 wr (.cells #[.bool m, .slice A' ys.length c'] 24))).step hb)
          clear hb kc0 kc1
          have k80 := B8.out.c0
          have k81 := B8.out.c1
          go_wp2
          go_roundw
          case rel => exact ⟨2, by omega, rfl, HV2, HR⟩
          case measure => simp [intOf]
      · have hb0 : (chkW m ys != 0) = true := by simp [hv]
        clear hv
        have kc0 := Blk.cell HR.out.row (i := 2) rfl
        have kc1 := Blk.cell HR.out.row (i := 3) rfl
        go_wp2_with fail
        refine (wCheck_calls m A' c' ys _ (H'.out.below (HR.out.below.alloc HR.out.below.size _))).mono ?_
        rintro e w3 ⟨rfl, hb⟩
        have B8 := Q.hid ((Bx.new wr m (.slice A' ys.length c')).below hb)
        have HR := Q.hid ((HR.out.step (below_alloc1 wr (.cells #[.bool m, .slice A' ys.length c'] 24))).step hb)
        clear hb kc0 kc1
        have k80 := B8.out.c0
        have k81 := B8.out.c1
        go_wp2
        go_ret
        exact ⟨rfl, HR.out.below⟩
    · by_cases hv : chkW o zs = 0
      · have hb0 : (chkW o zs != 0) = false := by simp [hv]
        by_cases hl : 40 < zs.length
        · have d1 : decide (40 < (zs.length : Int)) = true := decide_eq_true (by omega)
          have d2 : decide (40 < zs.length) = true := decide_eq_true hl
          clear hv
          have kc0 := Blk.cell HR.out.row (i := 4) rfl
          have kc1 := Blk.cell HR.out.row (i := 5) rfl
          go_wp2_with fail
          refine (wCheck_calls o A'' c'' zs _ (H''.out.below (HR.out.below.alloc HR.out.below.size _))).mono ?_
          rintro e w3 ⟨rfl, hb⟩
          have B8 := Q.hid ((Bx.new wr o (.slice A'' zs.length c'')).below hb)
          have HR := Q.hid ((HR.out.step (below_alloc1 wr (.cells #[.bool o, .slice A'' zs.length c''] 24))).step hb)
          clear hb kc0 kc1
          have k80 := B8.out.c0
          have k81 := B8.out.c1
          go_wp2
          go_ret
          exact ⟨rfl, HR.out.below⟩
        · have d1 : decide (40 < (zs.length : Int)) = false := decide_eq_false (by omega)
          have d2 : decide (40 < zs.length) = false := decide_eq_false hl
          have HV2 : Hid ((0 < 3 → Vd n xs) ∧ (1 < 3 → Vd m ys) ∧ (2 < 3 → Vd o zs)) := ⟨fun _ => HV.out.1 (by omega), fun _ => HV.out.2.1 (by omega), fun _ => ⟨hv, by omega⟩⟩
          clear hv hl
          have kc0 := Blk.cell HR.out.row (i := 4) rfl
          have kc1 := Blk.cell HR.out.row (i := 5) rfl
          go_wp2_with fail
          refine (wCheck_calls o A'' c'' zs _ (H''.out.below (HR.out.below.alloc HR.out.below.size _))).mono ?_
          rintro e w3 ⟨rfl, hb⟩
          have B8 := Q.hid ((Bx.new wr o (.slice A'' zs.length c'')).below hb)
          have HR := Q.hid ((HR.out.step (below_alloc1 wr (.cells #[.bool o, .slice A'' zs.length c''] 24))).step hb)
          clear hb kc0 kc1
          have k80 := B8.out.c0
          have k81 := B8.out.c1
          go_wp2
          go_roundw
          case rel => exact ⟨3, by omega, rfl, HV2, HR⟩
          case measure => simp [intOf]
      · have hb0 : (chkW o zs != 0) = true := by simp [hv]
        clear hv
        have kc0 := Blk.cell HR.out.row (i := 4) rfl
        have kc1 := Blk.cell HR.out.row (i := 5) rfl
        go_wp2_with fail
        refine (wCheck_calls o A'' c'' zs _ (H''.out.below (HR.out.below.alloc HR.out.below.size _))).mono ?_
        rintro e w3 ⟨rfl, hb⟩
        have B8 := Q.hid ((Bx.new wr o (.slice A'' zs.length c'')).below hb)
        have HR := Q.hid ((HR.out.step (below_alloc1 wr (.cells #[.bool o, .slice A'' zs.length c''] 24))).step hb)
        clear hb kc0 kc1
        have k80 := B8.out.c0
        have k81 := B8.out.c1
        go_wp2
        go_ret
        exact ⟨rfl, HR.out.below⟩
    · have V1 := HV.out.1 (by omega)
      have V2 := HV.out.2.1 (by omega)
      have V3 := HV.out.2.2 (by omega)
      clear HV
      obtain ⟨hsv, hnv, hxv⟩ := can_of H.out.wds V1.1
      obtain ⟨hsu, hnu, hxu⟩ := can_of H'.out.wds V2.1
      obtain ⟨hst, hnt, hxt⟩ := can_of H''.out.wds V3.1
      have hv40 : ((wv n xs).natAbs : Int) < Bp 40 := can_len H.out.wds V1.2
      have hu40 : ((wv m ys).natAbs : Int) < Bp 40 := can_len H'.out.wds V2.2
      have ht40 : ((wv o zs).natAbs : Int) < Bp 40 := can_len H''.out.wds V3.2
      obtain ⟨v, hv⟩ : ∃ v, v = wv n xs := ⟨_, rfl⟩
      obtain ⟨u, hu⟩ : ∃ u, u = wv m ys := ⟨_, rfl⟩
      obtain ⟨t, ht⟩ : ∃ t, t = wv o zs := ⟨_, rfl⟩
      rw [← hv] at hsv hnv hxv hv40
      rw [← hu] at hsu hnu hxu hu40
      rw [← ht] at hst hnt hxt ht40
      clear hv hu ht V1 V2 V3
      subst hnv hxv hnu hxu hnt hxt
      have S0 : Hid (Sh (v)) := hsv
      have S1 : Hid (Sh (u)) := hsu
      have S2 : Hid (Sh (t)) := hst
      have S3 : Hid (Sh (v + u)) := sh_of (add_bnd hv40 hu40) (by omega)
      have S4 : Hid (Sh (u + t)) := sh_of (add_bnd hu40 ht40) (by omega)
      have S5 : Hid (Sh (v + u + t)) := sh_of (add_bnd (add_bnd hv40 hu40) (Int.lt_of_lt_of_le ht40 (Bp_mono (by omega)))) (by omega)
      have S6 : Hid (Sh (v * u)) := sh_of (mul_bnd hv40 hu40) (by omega)
      have S7 : Hid (Sh (u * t)) := sh_of (mul_bnd hu40 ht40) (by omega)
      have S8 : Hid (Sh (v * t)) := sh_of (mul_bnd hv40 ht40) (by omega)
      have S9 : Hid (Sh (v * u * t)) := sh_of (mul_bnd (mul_bnd hv40 hu40) ht40) (by omega)
      have S10 : Hid (Sh (v * u + v * t)) := sh_of (add_bnd (mul_bnd hv40 hu40) (mul_bnd hv40 ht40)) (by omega)
      have E1 : Hid (u + v = v + u) := Int.add_comm u v
      have E2 : Hid (v + (u + t) = v + u + t) := (Int.add_assoc v u t).symm
      have E3 : Hid (u * v = v * u) := Int.mul_comm u v
      have E4 : Hid (v * (u * t) = v * u * t) := (Int.mul_assoc v u t).symm
      have E5 : Hid (v * (u + t) = v * u + v * t) := Int.mul_add v u t
      have ES : Hid (subW (cn (v + u)) (cw (v + u)) (cn u) (cw u) = ⟨cn v, cw v, 0⟩) := sub_can v u S0.out S1.out S3.out
      have HV40 := Q.hid hv40
      have HU40 := Q.hid hu40
      clear hsv hsu hst hv40 hu40 ht40
      have SQ : Hid (Nums w wr [⟨w.heap.size, v, A, c⟩, ⟨w.heap.size + 1, u, A', c'⟩, ⟨w.heap.size + 1 + 1, t, A'', c''⟩] []) := by
        refine ⟨fun x hx => ?_, fun x hx => ?_, fun g hg => by simp at hg, HR.out.below⟩
        · simp at hx
          rcases hx with rfl | rfl | rfl
          · exact HR.out.b1
          · exact HR.out.b2
          · exact HR.out.b3
        · simp at hx
          rcases hx with rfl | rfl | rfl
          · exact H.out.below HR.out.below
          · exact H'.out.below HR.out.below
          · exact H''.out.below HR.out.below
      clear HR
      have kx0 := (SQ.out.box ⟨w.heap.size, v, A, c⟩ (by simp)).c0
      have kx1 := (SQ.out.box ⟨w.heap.size, v, A, c⟩ (by simp)).c1
      have ky0 := (SQ.out.box ⟨w.heap.size + 1, u, A', c'⟩ (by simp)).c0
      have ky1 := (SQ.out.box ⟨w.heap.size + 1, u, A', c'⟩ (by simp)).c1
      go_wp2_with fail
      refine (ladd_calls v u A A' c c' _ (SQ.out.inn ⟨w.heap.size, v, A, c⟩ (by simp)) (SQ.out.inn ⟨w.heap.size + 1, u, A', c'⟩ (by simp)) S0.out S1.out S3.out).mono ?_
      rintro e w3 ⟨A3, c3, rfl, ho, hb⟩
      have SQ := Q.hid (SQ.out.snoc hb (inn_of ho S3.out) (made_at ho))
      clear ho hb
      clear kx0 kx1 ky0 ky1
      have kx0 := (SQ.out.box ⟨w.heap.size + 1, u, A', c'⟩ (by simp)).c0
      have kx1 := (SQ.out.box ⟨w.heap.size + 1, u, A', c'⟩ (by simp)).c1
      have ky0 := (SQ.out.box ⟨w.heap.size, v, A, c⟩ (by simp)).c0
      have ky1 := (SQ.out.box ⟨w.heap.size, v, A, c⟩ (by simp)).c1
      go_wp2_with fail
      refine (ladd_calls u v A' A c' c _ (SQ.out.inn ⟨w.heap.size + 1, u, A', c'⟩ (by simp)) (SQ.out.inn ⟨w.heap.size, v, A, c⟩ (by simp)) S1.out S0.out (by rw [E1.out]; exact S3.out)).mono ?_
      rintro e w4 ⟨A4, c4, rfl, ho, hb⟩
      rw [E1.out] at ho ⊢
      have SQ := Q.hid (SQ.out.snoc hb (inn_of ho S3.out) (made_at ho))
      clear ho hb
      clear kx0 kx1 ky0 ky1
      have kx0 := (SQ.out.box ⟨w.heap.size + 1, u, A', c'⟩ (by simp)).c0
      have kx1 := (SQ.out.box ⟨w.heap.size + 1, u, A', c'⟩ (by simp)).c1
      have ky0 := (SQ.out.box ⟨w.heap.size + 1 + 1, t, A'', c''⟩ (by simp)).c0
      have ky1 := (SQ.out.box ⟨w.heap.size + 1 + 1, t, A'', c''⟩ (by simp)).c1
      go_wp2_with fail
      refine (ladd_calls u t A' A'' c' c'' _ (SQ.out.inn ⟨w.heap.size + 1, u, A', c'⟩ (by simp)) (SQ.out.inn ⟨w.heap.size + 1 + 1, t, A'', c''⟩ (by simp)) S1.out S2.out S4.out).mono ?_
      rintro e w5 ⟨A5, c5, rfl, ho, hb⟩
      have SQ := Q.hid (SQ.out.snoc hb (inn_of ho S4.out) (made_at ho))
      clear ho hb
      clear kx0 kx1 ky0 ky1
      have kx0 := (SQ.out.box ⟨w3.heap.size, v + u, A3, c3⟩ (by simp)).c0
      have kx1 := (SQ.out.box ⟨w3.heap.size, v + u, A3, c3⟩ (by simp)).c1
      have ky0 := (SQ.out.box ⟨w.heap.size + 1 + 1, t, A'', c''⟩ (by simp)).c0
      have ky1 := (SQ.out.box ⟨w.heap.size + 1 + 1, t, A'', c''⟩ (by simp)).c1
      go_wp2_with fail
      refine (ladd_calls (v + u) t A3 A'' c3 c'' _ (SQ.out.inn ⟨w3.heap.size, v + u, A3, c3⟩ (by simp)) (SQ.out.inn ⟨w.heap.size + 1 + 1, t, A'', c''⟩ (by simp)) S3.out S2.out S5.out).mono ?_
      rintro e w6 ⟨A6, c6, rfl, ho, hb⟩
      have I15 := Q.hid ((inn_of ho S5.out).alloc (.cells #[.bool (cn (v + u + t)), .slice A6 (cw (v + u + t)).length c6] 24))
      have B15 := Q.hid (Bx.new w6 (cn (v + u + t)) (.slice A6 (cw (v + u + t)).length c6))
      have hgl := hb.size
      have SQ := Q.hid (SQ.out.other hb (.bool (cn (v + u + t))) (.slice A6 (cw (v + u + t)).length c6))
      clear ho hb
      clear kx0 kx1 ky0 ky1
      have kx0 := (SQ.out.box ⟨w.heap.size, v, A, c⟩ (by simp)).c0
      have kx1 := (SQ.out.box ⟨w.heap.size, v, A, c⟩ (by simp)).c1
      have ky0 := (SQ.out.box ⟨w5.heap.size, u + t, A5, c5⟩ (by simp)).c0
      have ky1 := (SQ.out.box ⟨w5.heap.size, u + t, A5, c5⟩ (by simp)).c1
      go_wp2_with fail
      refine (ladd_calls v (u + t) A A5 c c5 _ (SQ.out.inn ⟨w.heap.size, v, A, c⟩ (by simp)) (SQ.out.inn ⟨w5.heap.size, u + t, A5, c5⟩ (by simp)) S0.out S4.out (by rw [E2.out]; exact S5.out)).mono ?_
      rintro e w7 ⟨A7, c7, rfl, ho, hb⟩
      rw [E2.out] at ho ⊢
      have hg := hb.size
      rw [World.size_alloc] at hg
      have LRS : Hid (LR (w7.alloc (.cells #[.bool (cn (v + u + t)), .slice A7 (cw (v + u + t)).length c7] 24)) w6.heap.size w7.heap.size (v + u + t) (v + u + t) A6 c6 A7 c7) := by
        refine ⟨(B15.out.below hb).alloc _, Bx.new _ _ _, (I15.out.below hb).alloc _, (inn_of ho S5.out).alloc _, by omega, ?_, .inr fun ad e => by have := made_at ho ad e; rw [World.size_alloc] at this; omega⟩
        rcases in_lt (I15.out.below hb) with e | e
        · exact .inl e
        · exact .inr fun ad ha => Nat.ne_of_lt (e ad ha)
      have SQ := Q.hid (SQ.out.other hb (.bool (cn (v + u + t))) (.slice A7 (cw (v + u + t)).length c7))
      clear ho hb hg hgl I15 B15
      clear kx0 kx1 ky0 ky1
      have kx0 := (SQ.out.box ⟨w3.heap.size, v + u, A3, c3⟩ (by simp)).c0
      have kx1 := (SQ.out.box ⟨w3.heap.size, v + u, A3, c3⟩ (by simp)).c1
      have ky0 := (SQ.out.box ⟨w4.heap.size, v + u, A4, c4⟩ (by simp)).c0
      have ky1 := (SQ.out.box ⟨w4.heap.size, v + u, A4, c4⟩ (by simp)).c1
      go_wp2_with fail
      refine (same_calls (v + u) A3 A4 c3 c4 _ (SQ.out.inn ⟨w3.heap.size, v + u, A3, c3⟩ (by simp)) (SQ.out.inn ⟨w4.heap.size, v + u, A4, c4⟩ (by simp)) S3.out).mono ?_
      rintro e w8 ⟨rfl, hb⟩
      have SQ := Q.hid (SQ.out.step hb)
      have LRS := Q.hid (LRS.out.step hb)
      clear hb
      clear kx0 kx1 ky0 ky1
      have kx0 := LRS.out.bl.c0
      have kx1 := LRS.out.bl.c1
      have ky0 := LRS.out.br.c0
      have ky1 := LRS.out.br.c1
      go_wp2_with fail
      refine (same_calls (v + u + t) A6 A7 c6 c7 _ LRS.out.il LRS.out.ir S5.out).mono ?_
      rintro e w9 ⟨rfl, hb⟩
      have SQ := Q.hid (SQ.out.step hb)
      have LRS := Q.hid (LRS.out.step hb)
      clear hb
      clear kx0 kx1 ky0 ky1
      have kx0 := (SQ.out.box ⟨w3.heap.size, v + u, A3, c3⟩ (by simp)).c0
      have kx1 := (SQ.out.box ⟨w3.heap.size, v + u, A3, c3⟩ (by simp)).c1
      have ky0 := (SQ.out.box ⟨w.heap.size + 1, u, A', c'⟩ (by simp)).c0
      have ky1 := (SQ.out.box ⟨w.heap.size + 1, u, A', c'⟩ (by simp)).c1
      go_wp2_with fail
      refine (wSub_calls (cn (v + u)) (cn u) A3 A' c3 c' (cw (v + u)) (cw u) _ (SQ.out.inn ⟨w3.heap.size, v + u, A3, c3⟩ (by simp)) (SQ.out.inn ⟨w.heap.size + 1, u, A', c'⟩ (by simp))).mono ?_
      rintro e w10 ⟨A10, c10, rfl, ho, hb⟩
      rw [ES.out] at ho ⊢
      have SQ := Q.hid (SQ.out.snoc hb (inn_of ho S0.out) (made_at ho))
      have LRS := Q.hid ((LRS.out.step hb).step (below_alloc1 w10 (.cells #[.bool (cn v), .slice A10 (cw v).length c10] 24)))
      clear ho hb
      clear kx0 kx1 ky0 ky1
      have kx0 := (SQ.out.box ⟨w.heap.size, v, A, c⟩ (by simp)).c0
      have kx1 := (SQ.out.box ⟨w.heap.size, v, A, c⟩ (by simp)).c1
      have ky0 := (SQ.out.box ⟨w.heap.size + 1, u, A', c'⟩ (by simp)).c0
      have ky1 := (SQ.out.box ⟨w.heap.size + 1, u, A', c'⟩ (by simp)).c1
      go_wp2_with fail
      refine (lmul_calls v u A A' c c' _ (SQ.out.inn ⟨w.heap.size, v, A, c⟩ (by simp)) (SQ.out.inn ⟨w.heap.size + 1, u, A', c'⟩ (by simp)) S0.out S1.out S6.out).mono ?_
      rintro e w11 ⟨A11, c11, rfl, ho, hb⟩
      have SQ := Q.hid (SQ.out.snoc hb (inn_of ho S6.out) (made_at ho))
      have LRS := Q.hid ((LRS.out.step hb).step (below_alloc1 w11 (.cells #[.bool (cn (v * u)), .slice A11 (cw (v * u)).length c11] 24)))
      clear ho hb
      clear kx0 kx1 ky0 ky1
      have kx0 := (SQ.out.box ⟨w.heap.size + 1, u, A', c'⟩ (by simp)).c0
      have kx1 := (SQ.out.box ⟨w.heap.size + 1, u, A', c'⟩ (by simp)).c1
      have ky0 := (SQ.out.box ⟨w.heap.size, v, A, c⟩ (by simp)).c0
      have ky1 := (SQ.out.box ⟨w.heap.size, v, A, c⟩ (by simp)).c1
      go_wp2_with fail
      refine (lmul_calls u v A' A c' c _ (SQ.out.inn ⟨w.heap.size + 1, u, A', c'⟩ (by simp)) (SQ.out.inn ⟨w.heap.size, v, A, c⟩ (by simp)) S1.out S0.out (by rw [E3.out]; exact S6.out)).mono ?_
      rintro e w12 ⟨A12, c12, rfl, ho, hb⟩
      rw [E3.out] at ho ⊢
      have SQ := Q.hid (SQ.out.snoc hb (inn_of ho S6.out) (made_at ho))
      have LRS := Q.hid ((LRS.out.step hb).step (below_alloc1 w12 (.cells #[.bool (cn (v * u)), .slice A12 (cw (v * u)).length c12] 24)))
      clear ho hb
      clear kx0 kx1 ky0 ky1
      have kx0 := (SQ.out.box ⟨w.heap.size + 1, u, A', c'⟩ (by simp)).c0
      have kx1 := (SQ.out.box ⟨w.heap.size + 1, u, A', c'⟩ (by simp)).c1
      have ky0 := (SQ.out.box ⟨w.heap.size + 1 + 1, t, A'', c''⟩ (by simp)).c0
      have ky1 := (SQ.out.box ⟨w.heap.size + 1 + 1, t, A'', c''⟩ (by simp)).c1
      go_wp2_with fail
      refine (lmul_calls u t A' A'' c' c'' _ (SQ.out.inn ⟨w.heap.size + 1, u, A', c'⟩ (by simp)) (SQ.out.inn ⟨w.heap.size + 1 + 1, t, A'', c''⟩ (by simp)) S1.out S2.out S7.out).mono ?_
      rintro e w13 ⟨A13, c13, rfl, ho, hb⟩
      have SQ := Q.hid (SQ.out.snoc hb (inn_of ho S7.out) (made_at ho))
      have LRS := Q.hid ((LRS.out.step hb).step (below_alloc1 w13 (.cells #[.bool (cn (u * t)), .slice A13 (cw (u * t)).length c13] 24)))
      clear ho hb
      clear kx0 kx1 ky0 ky1
      have kx0 := (SQ.out.box ⟨w11.heap.size, v * u, A11, c11⟩ (by simp)).c0
      have kx1 := (SQ.out.box ⟨w11.heap.size, v * u, A11, c11⟩ (by simp)).c1
      have ky0 := (SQ.out.box ⟨w.heap.size + 1 + 1, t, A'', c''⟩ (by simp)).c0
      have ky1 := (SQ.out.box ⟨w.heap.size + 1 + 1, t, A'', c''⟩ (by simp)).c1
      go_wp2_with fail
      refine (lmul_calls (v * u) t A11 A'' c11 c'' _ (SQ.out.inn ⟨w11.heap.size, v * u, A11, c11⟩ (by simp)) (SQ.out.inn ⟨w.heap.size + 1 + 1, t, A'', c''⟩ (by simp)) S6.out S2.out S9.out).mono ?_
      rintro e w14 ⟨A14, c14, rfl, ho, hb⟩
      have BB := LRS.out.bl.below hb
      have SQ := Q.hid ((SQ.out.step hb).over (g := w6.heap.size) (by simp) (.bool (cn (v * u * t))) (.slice A14 (cw (v * u * t)).length c14))
      have LRS := Q.hid (LRS.out.setL hb ho S9.out)
      have kg0 := BB.c0
      have kg1 := BB.c1
      have fg0 := BB.f0
      have fg1 := BB.f1
      clear BB ho hb
      clear kx0 kx1 ky0 ky1
      have kx0 := (SQ.out.box ⟨w.heap.size, v, A, c⟩ (by simp)).c0
      have kx1 := (SQ.out.box ⟨w.heap.size, v, A, c⟩ (by simp)).c1
      have ky0 := (SQ.out.box ⟨w13.heap.size, u * t, A13, c13⟩ (by simp)).c0
      have ky1 := (SQ.out.box ⟨w13.heap.size, u * t, A13, c13⟩ (by simp)).c1
      go_wp2_with fail
      refine (lmul_calls v (u * t) A A13 c c13 _ (SQ.out.inn ⟨w.heap.size, v, A, c⟩ (by simp)) (SQ.out.inn ⟨w13.heap.size, u * t, A13, c13⟩ (by simp)) S0.out S7.out (by rw [E4.out]; exact S9.out)).mono ?_
      rintro e w15 ⟨A15, c15, rfl, ho, hb⟩
      rw [E4.out] at ho ⊢
      clear kg0 kg1 fg0 fg1
      have BB := LRS.out.br.below hb
      have SQ := Q.hid ((SQ.out.step hb).over (g := w7.heap.size) (by simp) (.bool (cn (v * u * t))) (.slice A15 (cw (v * u * t)).length c15))
      have LRS := Q.hid (LRS.out.setR hb ho S9.out)
      have kg0 := BB.c0
      have kg1 := BB.c1
      have fg0 := BB.f0
      have fg1 := BB.f1
      clear BB ho hb
      clear kx0 kx1 ky0 ky1
      have kx0 := (SQ.out.box ⟨w10.heap.size, v, A10, c10⟩ (by simp)).c0
      have kx1 := (SQ.out.box ⟨w10.heap.size, v, A10, c10⟩ (by simp)).c1
      have ky0 := (SQ.out.box ⟨w.heap.size, v, A, c⟩ (by simp)).c0
      have ky1 := (SQ.out.box ⟨w.heap.size, v, A, c⟩ (by simp)).c1
      go_wp2_with fail
      refine (same_calls v A10 A c10 c _ (SQ.out.inn ⟨w10.heap.size, v, A10, c10⟩ (by simp)) (SQ.out.inn ⟨w.heap.size, v, A, c⟩ (by simp)) S0.out).mono ?_
      rintro e w16 ⟨rfl, hb⟩
      have SQ := Q.hid (SQ.out.step hb)
      have LRS := Q.hid (LRS.out.step hb)
      clear hb kg0 kg1 fg0 fg1
      clear kx0 kx1 ky0 ky1
      have kx0 := (SQ.out.box ⟨w11.heap.size, v * u, A11, c11⟩ (by simp)).c0
      have kx1 := (SQ.out.box ⟨w11.heap.size, v * u, A11, c11⟩ (by simp)).c1
      have ky0 := (SQ.out.box ⟨w12.heap.size, v * u, A12, c12⟩ (by simp)).c0
      have ky1 := (SQ.out.box ⟨w12.heap.size, v * u, A12, c12⟩ (by simp)).c1
      go_wp2_with fail
      refine (same_calls (v * u) A11 A12 c11 c12 _ (SQ.out.inn ⟨w11.heap.size, v * u, A11, c11⟩ (by simp)) (SQ.out.inn ⟨w12.heap.size, v * u, A12, c12⟩ (by simp)) S6.out).mono ?_
      rintro e w17 ⟨rfl, hb⟩
      have SQ := Q.hid (SQ.out.step hb)
      have LRS := Q.hid (LRS.out.step hb)
      clear hb
      clear kx0 kx1 ky0 ky1
      have kx0 := LRS.out.bl.c0
      have kx1 := LRS.out.bl.c1
      have ky0 := LRS.out.br.c0
      have ky1 := LRS.out.br.c1
      go_wp2_with fail
      refine (same_calls (v * u * t) A14 A15 c14 c15 _ LRS.out.il LRS.out.ir S9.out).mono ?_
      rintro e w18 ⟨rfl, hb⟩
      have SQ := Q.hid (SQ.out.step hb)
      have LRS := Q.hid (LRS.out.step hb)
      clear hb
      clear kx0 kx1 ky0 ky1
      have kx0 := (SQ.out.box ⟨w.heap.size, v, A, c⟩ (by simp)).c0
      have kx1 := (SQ.out.box ⟨w.heap.size, v, A, c⟩ (by simp)).c1
      have ky0 := (SQ.out.box ⟨w.heap.size + 1 + 1, t, A'', c''⟩ (by simp)).c0
      have ky1 := (SQ.out.box ⟨w.heap.size + 1 + 1, t, A'', c''⟩ (by simp)).c1
      go_wp2_with fail
      refine (lmul_calls v t A A'' c c'' _ (SQ.out.inn ⟨w.heap.size, v, A, c⟩ (by simp)) (SQ.out.inn ⟨w.heap.size + 1 + 1, t, A'', c''⟩ (by simp)) S0.out S2.out S8.out).mono ?_
      rintro e w19 ⟨A19, c19, rfl, ho, hb⟩
      have SQ := Q.hid (SQ.out.snoc hb (inn_of ho S8.out) (made_at ho))
      have LRS := Q.hid ((LRS.out.step hb).step (below_alloc1 w19 (.cells #[.bool (cn (v * t)), .slice A19 (cw (v * t)).length c19] 24)))
      clear ho hb
      clear kx0 kx1 ky0 ky1
      have kx0 := (SQ.out.box ⟨w.heap.size, v, A, c⟩ (by simp)).c0
      have kx1 := (SQ.out.box ⟨w.heap.size, v, A, c⟩ (by simp)).c1
      have ky0 := (SQ.out.box ⟨w5.heap.size, u + t, A5, c5⟩ (by simp)).c0
      have ky1 := (SQ.out.box ⟨w5.heap.size, u + t, A5, c5⟩ (by simp)).c1
      go_wp2_with fail
      refine (lmul_calls v (u + t) A A5 c c5 _ (SQ.out.inn ⟨w.heap.size, v, A, c⟩ (by simp)) (SQ.out.inn ⟨w5.heap.size, u + t, A5, c5⟩ (by simp)) S0.out S4.out (by rw [E5.out]; exact S10.out)).mono ?_
      rintro e w20 ⟨A20, c20, rfl, ho, hb⟩
      rw [E5.out] at ho ⊢
      have BB := LRS.out.bl.below hb
      have SQ := Q.hid ((SQ.out.step hb).over (g := w6.heap.size) (by simp) (.bool (cn (v * u + v * t))) (.slice A20 (cw (v * u + v * t)).length c20))
      have LRS := Q.hid (LRS.out.setL hb ho S10.out)
      have kg0 := BB.c0
      have kg1 := BB.c1
      have fg0 := BB.f0
      have fg1 := BB.f1
      clear BB ho hb
      clear kx0 kx1 ky0 ky1
      have kx0 := (SQ.out.box ⟨w11.heap.size, v * u, A11, c11⟩ (by simp)).c0
      have kx1 := (SQ.out.box ⟨w11.heap.size, v * u, A11, c11⟩ (by simp)).c1
      have ky0 := (SQ.out.box ⟨w19.heap.size, v * t, A19, c19⟩ (by simp)).c0
      have ky1 := (SQ.out.box ⟨w19.heap.size, v * t, A19, c19⟩ (by simp)).c1
      go_wp2_with fail
      refine (ladd_calls (v * u) (v * t) A11 A19 c11 c19 _ (SQ.out.inn ⟨w11.heap.size, v * u, A11, c11⟩ (by simp)) (SQ.out.inn ⟨w19.heap.size, v * t, A19, c19⟩ (by simp)) S6.out S8.out S10.out).mono ?_
      rintro e w21 ⟨A21, c21, rfl, ho, hb⟩
      clear kg0 kg1 fg0 fg1
      have BB := LRS.out.br.below hb
      have SQ := Q.hid ((SQ.out.step hb).over (g := w7.heap.size) (by simp) (.bool (cn (v * u + v * t))) (.slice A21 (cw (v * u + v * t)).length c21))
      have LRS := Q.hid (LRS.out.setR hb ho S10.out)
      have kg0 := BB.c0
      have kg1 := BB.c1
      have fg0 := BB.f0
      have fg1 := BB.f1
      clear BB ho hb
      clear kx0 kx1 ky0 ky1
      have kx0 := LRS.out.bl.c0
      have kx1 := LRS.out.bl.c1
      have ky0 := LRS.out.br.c0
      have ky1 := LRS.out.br.c1
      go_wp2_with fail
      refine (same_calls (v * u + v * t) A20 A21 c20 c21 _ LRS.out.il LRS.out.ir S10.out).mono ?_
      rintro e w22 ⟨rfl, hb⟩
      have SQ := Q.hid (SQ.out.step hb)
      have LRS := Q.hid (LRS.out.step hb)
      clear hb kg0 kg1 fg0 fg1
      clear kx0 kx1 ky0 ky1
      have kx0 := (SQ.out.box ⟨w.heap.size, v, A, c⟩ (by simp)).c0
      have kx1 := (SQ.out.box ⟨w.heap.size, v, A, c⟩ (by simp)).c1
      have ky0 := (SQ.out.box ⟨w.heap.size + 1, u, A', c'⟩ (by simp)).c0
      have ky1 := (SQ.out.box ⟨w.heap.size + 1, u, A', c'⟩ (by simp)).c1
      go_wp2_with fail
      refine (divides_calls v u A A' c c' _ (SQ.out.inn ⟨w.heap.size, v, A, c⟩ (by simp)) (SQ.out.inn ⟨w.heap.size + 1, u, A', c'⟩ (by simp)) HV40.out HU40.out).mono ?_
      rintro e w23 ⟨rfl, hb⟩
      have SQ := Q.hid (SQ.out.step hb)
      clear hb
      clear kx0 kx1 ky0 ky1
      go_wp2
      go_ret
      exact ⟨rfl, SQ.out.below⟩
end Go.Proofs.Ytidccoahjpjoaaa
