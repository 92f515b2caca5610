import Derived.Test.YtidccoahjpjoaaaGreatDoorQNat9
import Derived.Test.YtidccoahjpjoaaaGreatDoorQWhlR
import Derived.Handy
import Derived.Laws.ResultCell
import Derived.Deep.RegionWith
import Derived.StillTailTactics
import Derived.Deep.RegionHeld3
/- Package whole, the first calls: may a number be, a number made; what each call does. -/
set_option linter.unusedVariables false
set_option linter.unusedSimpArgs false
namespace Go.Proofs.YtidccoahjpjoaaaGreatDoor
open Go Go.RowKit Q

set_option maxHeartbeats 400000 in
theorem wCheck_calls (n : Bool) (A : Option Addr) (c : Nat) (xs : List Int) (w : World) (h : In w A c xs) :
    Calls Tryz.prog 26 #[.agg #[.bool n, .slice A xs.length c]] w fun e w' => e = .returned (.int .i64 (chkW n xs)) ∧ Below w.heap.size w w' := by
  have hm : xs.length ≤ 9223372036854775807 := by have := h.small; omega
  have H := Q.hid h.rd
  clear h
  by_cases h1 : 2048 < xs.length
  · have HE : Hid (chkW n xs = 3) := if_pos h1
    go_enter Tryz.func26, Tryz.ntmps26
    go_wp2
    go_ret
    exact ⟨by rw [HE.out]; rfl, (Below.refl _ _).alloc (Nat.le_refl _) _⟩
  · by_cases h2 : 0 < xs.length
    · obtain ⟨ad, rfl, hx0⟩ := H.out (xs.length - 1) (by omega)
      have hl := tl_last h2
      have hb : ad.block < w.heap.size := by have := World.block_lt_of_cell? w _ hx0; rwa [add_block] at this
      have hx : (w.alloc (.cells #[.bool n, .slice (some ad) xs.length c] 24)).cell? (ad.add (xs.length - 1)) = some (.int .u32 (wd xs (xs.length - 1))) := by
        rw [← hx0]; exact Below.cell ((Below.refl w.heap.size w).alloc (Nat.le_refl _) _) (by rw [add_block]; exact hb)
      have hne : xs ≠ [] := List.length_pos_iff.1 h2
      have hg1 : decide (0 < (xs.length : Int)) = true := decide_eq_true (by omega)
      have hg2 : decide (0 < xs.length) = true := decide_eq_true h2
      have hi : (((xs.length : Int) - 1).toNat) = xs.length - 1 := by omega
      by_cases hz : wd xs (xs.length - 1) = 0
      · have hz1 : (wd xs (xs.length - 1) == 0) = true := by simp [hz]
        have HE : Hid (chkW n xs = 11) := by unfold chkW; rw [if_neg (by omega), if_neg (by rw [hl]; simp [hz])]; rfl
        clear hz hl hx0 hne
        go_enter Tryz.func26, Tryz.ntmps26
        go_wp2
        go_ret
        exact ⟨by rw [HE.out]; rfl, (Below.refl _ _).alloc (Nat.le_refl _) _⟩
      · have hz1 : (wd xs (xs.length - 1) == 0) = false := by simp [hz]
        have HE : Hid (chkW n xs = 0) := by unfold chkW; rw [if_neg (by omega), if_pos ⟨by rw [hl]; exact hz, fun e => absurd e hne⟩]; rfl
        have hn0 : ((xs.length : Int) == 0) = false := by simp; omega
        have hn1 : (xs.length == 0) = false := by simp; omega
        clear hz hl hx0 hne
        go_enter Tryz.func26, Tryz.ntmps26
        go_wp2
        go_ret
        exact ⟨by rw [HE.out]; rfl, (Below.refl _ _).alloc (Nat.le_refl _) _⟩
    · have hx : xs = [] := List.eq_nil_of_length_eq_zero (by omega)
      subst hx
      cases n
      all_goals
        go_enter Tryz.func26, Tryz.ntmps26
        go_wp2
        go_ret
        exact ⟨rfl, (Below.refl _ _).alloc (Nat.le_refl _) _⟩
/-- a number in a block of its own -/
def Bx (w : World) (g : Nat) (n : Bool) (v : Value) : Prop := Blk w g 24 [.bool n, v]
theorem Bx.c0 {w : World} {g : Nat} {n : Bool} {v : Value} (h : Bx w g n v) : w.cell? ⟨g, 0, none⟩ = some (.bool n) := Blk.cell h (i := 0) rfl
theorem Bx.c1 {w : World} {g : Nat} {n : Bool} {v : Value} (h : Bx w g n v) : w.cell? ⟨g, 1, none⟩ = some v := Blk.cell h (i := 1) rfl
theorem Bx.f0 {w : World} {g : Nat} {n : Bool} {v : Value} (h : Bx w g n v) : w.frozen? ⟨g, 0, none⟩ = false := Blk.free h 0
theorem Bx.f1 {w : World} {g : Nat} {n : Bool} {v : Value} (h : Bx w g n v) : w.frozen? ⟨g, 1, none⟩ = false := Blk.free h 1
theorem Bx.below {w w' : World} {g : Nat} {n : Bool} {v : Value} (h : Bx w g n v) (hb : Below w.heap.size w w') : Bx w' g n v := Blk.below h hb
theorem Bx.new (w : World) (n : Bool) (v : Value) : Bx (w.alloc (.cells #[.bool n, v] 24)) w.heap.size n v := Blk.new w _ [.bool n, v]
theorem Bx.alloc {w : World} {g : Nat} {n : Bool} {v : Value} (h : Bx w g n v) (o : Obj) : Bx (w.alloc o) g n v := h.below ((Below.refl _ _).alloc (Nat.le_refl _) o)
theorem below_alloc1 (w : World) (o : Obj) : Below w.heap.size w (w.alloc o) := (Below.refl _ _).alloc (Nat.le_refl _) _
theorem below_alloc2 (w : World) (o p : Obj) : Below w.heap.size w ((w.alloc o).alloc p) := (below_alloc1 w o).alloc (by simp) _
theorem below_alloc3 (w : World) (o p q : Obj) : Below w.heap.size w (((w.alloc o).alloc p).alloc q) := (below_alloc2 w o p).alloc (by simp; omega) _
theorem below_alloc4 (w : World) (o p q r : Obj) : Below w.heap.size w ((((w.alloc o).alloc p).alloc q).alloc r) := (below_alloc3 w o p q).alloc (by simp; omega) _

set_option maxHeartbeats 400000 in
theorem wboth_calls (n m : Bool) (A A' : Option Addr) (c c' : Nat) (xs ys : List Int) (w : World) (h : In w A c xs) (h' : In w A' c' ys) :
    Calls Tryz.prog 43 #[.agg #[.bool n, .slice A xs.length c], .agg #[.bool m, .slice A' ys.length c']] w fun e w' => e = .returned (.int .i64 (chkW2 n xs m ys)) ∧ Below w.heap.size w w' := by
  have H := Q.hid h
  have H' := Q.hid h'
  clear h h'
  by_cases h0 : chkW n xs = 0
  · have hb : (chkW n xs != 0) = false := by simp [h0]
    have HF : Hid (chkW2 n xs m ys = chkW m ys) := if_pos h0
    clear h0
    go_enter Tryz.func43, Tryz.ntmps43
    go_wp2_with fail
    refine (wCheck_calls n A c xs _ (H.out.below (below_alloc2 _ _ _))).mono ?_
    rintro e w1 ⟨rfl, hb1⟩
    have B2 := Q.hid ((Bx.new (w.alloc (.cells #[.bool n, .slice A xs.length c] 24)) m (.slice A' ys.length c')).below hb1)
    have HB := Q.hid ((below_alloc2 w _ _).trans (hb1.mono (by simp; omega)))
    clear hb1
    have k0 := B2.out.c0
    have k1 := B2.out.c1
    simp only [World.size_alloc] at k0 k1
    go_wp2_with fail
    refine (wCheck_calls m A' c' ys _ (H'.out.below HB.out)).mono ?_
    rintro e w2 ⟨rfl, hb2⟩
    go_wp2
    go_ret
    exact ⟨by rw [HF.out]; rfl, bs2 HB.out hb2⟩
  · have hb : (chkW n xs != 0) = true := by simp [h0]
    have HF : Hid (chkW2 n xs m ys = chkW n xs) := if_neg h0
    clear h0
    go_enter Tryz.func43, Tryz.ntmps43
    go_wp2_with fail
    refine (wCheck_calls n A c xs _ (H.out.below (below_alloc2 _ _ _))).mono ?_
    rintro e w1 ⟨rfl, hb1⟩
    have HB := Q.hid ((below_alloc2 w _ _).trans (hb1.mono (by simp; omega)))
    clear hb1
    go_wp2
    go_ret
    exact ⟨by rw [HF.out]; rfl, HB.out⟩

set_option maxHeartbeats 400000 in
theorem wmade_calls2 (n : Bool) (A : Option Addr) (c B : Nat) (zs : List Int) (w : World) (ho : Ow w 50 B (.slice A zs.length c) zs) :
    Calls Tryz.prog 35 #[.bool n, .slice A zs.length c] w fun e w' => ∃ A' c', e = .returned (.tuple #[.agg #[.bool (mdW n zs).neg, .slice A' (mdW n zs).ws.length c'], .int .i64 (mdW n zs).err]) ∧ Ow w' 50 B (.slice A' (mdW n zs).ws.length c') (mdW n zs).ws ∧ Below w.heap.size w w' ∧ ((Value.slice A' (mdW n zs).ws.length c').ownBlock = (Value.slice A zs.length c).ownBlock ∨ (Value.slice A' (mdW n zs).ws.length c').ownBlock = none) := by
  have HO := Q.hid ho
  have hm : zs.length ≤ 9223372036854775807 := by have := ho.read; simp only [maxLen] at this; omega
  clear ho
  by_cases h1 : 2048 < zs.length
  · have HE : Hid (mdW n zs = ⟨false, [], 3⟩) := if_pos h1
    go_enter Tryz.func35, Tryz.ntmps35
    go_wp2
    go_returns
    exact ⟨none, 0, by rw [HE.out]; rfl, by rw [HE.out]; exact Ow.nil _ _ _, below_alloc1 _ _, .inr rfl⟩
  · have HE : Hid (mdW n zs = ⟨n && !zs.isEmpty, zs, 0⟩) := if_neg h1
    cases zs with
    | nil =>
      cases n
      all_goals
        go_enter Tryz.func35, Tryz.ntmps35
        go_wp2
        go_returns
        exact ⟨A, c, by rw [HE.out]; rfl, by rw [HE.out]; exact HO.out.below (below_alloc1 _ _), below_alloc1 _ _, by rw [HE.out]; exact .inl rfl⟩
    | cons z zs =>
      have hp : 0 < (z :: zs).length := by simp
      have hk : Hid ((z :: zs).isEmpty = false) := rfl
      generalize z :: zs = us at *
      have hp1 : decide (0 < (us.length : Int)) = true := decide_eq_true (by omega)
      have hp2 : decide (0 < us.length) = true := decide_eq_true hp
      rw [hk.out] at HE
      cases n
      all_goals
        go_enter Tryz.func35, Tryz.ntmps35
        go_wp2
        go_returns
        exact ⟨A, c, by rw [HE.out]; rfl, by rw [HE.out]; exact HO.out.below (below_alloc1 _ _), below_alloc1 _ _, by rw [HE.out]; exact .inl rfl⟩

theorem wmade_calls (n : Bool) (A : Option Addr) (c B : Nat) (zs : List Int) (w : World) (ho : Ow w 50 B (.slice A zs.length c) zs) :
    Calls Tryz.prog 35 #[.bool n, .slice A zs.length c] w fun e w' => ∃ A' c', e = .returned (.tuple #[.agg #[.bool (mdW n zs).neg, .slice A' (mdW n zs).ws.length c'], .int .i64 (mdW n zs).err]) ∧ Ow w' 50 B (.slice A' (mdW n zs).ws.length c') (mdW n zs).ws ∧ Below w.heap.size w w' :=
  (wmade_calls2 n A c B zs w ho).mono fun _ _ ⟨A', c', h1, h2, h3, _⟩ => ⟨A', c', h1, h2, h3⟩

set_option maxHeartbeats 400000 in
theorem own_calls (A : Option Addr) (c : Nat) (xs : List Int) (w : World) (h : In w A c xs) :
    Calls Tryz.prog 49 #[.slice A xs.length c] w fun e w' => ∃ v, e = .returned v ∧ Ow w' 50 w.heap.size v xs ∧ Below w.heap.size w w' := by
  have H := Q.hid h
  clear h
  go_enter Tryz.func49, Tryz.ntmps49
  go_wp2_with (at_builtin; refine wp_app rfl (.const (.slice none 0 0)) (.tmp 3) 22 50 rfl Tryz.underlying22 infoW w.heap.size _ [] rfl (Ow.nil _ _ _) A xs.length c xs rfl rfl H.out.rd (by have := H.out.small; simp; omega) (Nat.le_refl _) ?_; intro v1 w1 ho hg hat)
  go_ret
  exact ⟨v1, rfl, by simpa using ho, below_grown (Below.refl _ _) hg (fun k hk => by cases hk)⟩

/-- a result's cell is written: what else is there stays -/
theorem far2 {w3 : World} {e g B B0 : Nat} {v : Value} {xs : List Int} (h : Ow w3 e B v xs) (hg : g < B) (hw : B0 ≤ B) (u1 u2 : Value) :
    Ow ((w3.setCell ⟨g, 0, none⟩ u1).setCell ⟨g, 1, none⟩ u2) e B0 v xs := by
  have hne : v.ownBlock ≠ some g := fun e => by have := (h.base g e).1; omega
  exact ((h.far hne _ _).far hne _ _).mono hw
theorem below_set2 {w w3 : World} {g : Nat} (h : Below w.heap.size w w3) (hg : w.heap.size ≤ g) (u1 u2 : Value) :
    Below w.heap.size w ((w3.setCell ⟨g, 0, none⟩ u1).setCell ⟨g, 1, none⟩ u2) := (h.setCell hg _).setCell hg _
theorem below_dr (w : World) (q : Nat) : Below w.heap.size w (w.drewN q) := Dr.below ⟨q, rfl⟩ _
theorem Bx.over {w : World} {g : Nat} {n : Bool} {v : Value} (h : Bx w g n v) (n' : Bool) (v' : Value) : Bx ((w.setCell ⟨g, 0, none⟩ (.bool n')).setCell ⟨g, 1, none⟩ v') g n' v' := (Blk.set h 0 (.bool n')).set 1 v'
theorem Bx.far {w : World} {g g' : Nat} {n : Bool} {v : Value} (h : Bx w g n v) (hne : g ≠ g') (i : Nat) (u : Value) : Bx (w.setCell ⟨g', i, none⟩ u) g n v := Blk.grown h (grown_set u) (by simpa using hne)
theorem Bx.lt {w : World} {g : Nat} {n : Bool} {v : Value} (h : Bx w g n v) : g < w.heap.size := Blk.lt h
end Go.Proofs.YtidccoahjpjoaaaGreatDoor
/- Package whole: sums, products, divisors; what each call does. -/
set_option linter.unusedVariables false
set_option linter.unusedSimpArgs false
namespace Go.Proofs.YtidccoahjpjoaaaGreatDoor
open Go Go.RowKit Q

set_option maxHeartbeats 1000000 in
theorem wMul_calls (n m : Bool) (A A' : Option Addr) (c c' : Nat) (xs ys : List Int) (w : World) (h : In w A c xs) (h' : In w A' c' ys) :
    Calls Tryz.prog 27 #[.agg #[.bool n, .slice A xs.length c], .agg #[.bool m, .slice A' ys.length c']] w fun e w' => ∃ B d, e = .returned (.tuple #[.agg #[.bool (mulW n xs m ys).neg, .slice B (mulW n xs m ys).ws.length d], .int .i64 (mulW n xs m ys).err]) ∧ Ow w' 50 w.heap.size (.slice B (mulW n xs m ys).ws.length d) (mulW n xs m ys).ws ∧ Below w.heap.size w w' := by
  have H := Q.hid h
  have H' := Q.hid h'
  have hw := h.wds
  have hw' := h'.wds
  clear h h'
  by_cases h0 : chkW2 n xs m ys = 0
  · have hb0 : (chkW2 n xs m ys != 0) = false := by simp [h0]
    have HS : Hid (mulS xs ys = (nwd (val xs * val ys), 0)) := mulS_of hw hw' h0
    have HF : Hid (mulW n xs m ys = mdW (n != m) (nwd (val xs * val ys))) := by
      unfold mulW; rw [if_pos h0, mdW_sg (Int.mul_nonneg (val_nonneg hw) (val_nonneg hw')), mul_sg]; rfl
    clear h0
    go_enter Tryz.func27, Tryz.ntmps27
    go_wp2_with fail
    refine (wboth_calls n m A A' c c' xs ys _ (H.out.below (below_alloc3 _ _ _ _)) (H'.out.below (below_alloc3 _ _ _ _))).mono ?_
    rintro e w1 ⟨rfl, hb1⟩
    have B1 := Q.hid ((((Bx.new w n (.slice A xs.length c)).alloc (.cells #[.bool m, .slice A' ys.length c'] 24)).alloc (.cells #[.bool false, .slice none 0 0] 24)).below hb1)
    have B2 := Q.hid (((Bx.new (w.alloc (.cells #[.bool n, .slice A xs.length c] 24)) m (.slice A' ys.length c')).alloc (.cells #[.bool false, .slice none 0 0] 24)).below hb1)
    have B3 := Q.hid ((Bx.new ((w.alloc (.cells #[.bool n, .slice A xs.length c] 24)).alloc (.cells #[.bool m, .slice A' ys.length c'] 24)) false (.slice none 0 0)).below hb1)
    simp only [World.size_alloc] at B2 B3
    have HB := Q.hid ((below_alloc3 w _ _ _).trans (hb1.mono (by simp; omega)))
    have hg3 : w.heap.size + 1 + 1 < w1.heap.size := B3.out.lt
    clear hb1
    have k10 := B1.out.c0
    have k11 := B1.out.c1
    have k20 := B2.out.c0
    have k21 := B2.out.c1
    go_wp2_with fail
    refine (Mul_calls A A' c c' xs ys _ (H.out.below HB.out) (H'.out.below HB.out)).mono ?_
    rintro e w2 ⟨v, rfl, ho, hb⟩
    rw [HS.out] at ho
    obtain ⟨A2, c2, e2, _⟩ := ho.slice
    subst e2
    have HO := Q.hid ho
    have B1 := Q.hid (B1.out.below hb)
    have B2 := Q.hid (B2.out.below hb)
    have B3 := Q.hid (B3.out.below hb)
    have HB := Q.hid (bs2 HB.out hb)
    clear ho hb
    clear k10 k11 k20 k21
    have k10 := B1.out.c0
    have k11 := B1.out.c1
    have k20 := B2.out.c0
    have k21 := B2.out.c1
    go_wp2_with fail
    refine (wmade_calls (n != m) A2 c2 w1.heap.size (nwd (val xs * val ys)) _ HO.out).mono ?_
    rintro e w3 ⟨A3, c3, rfl, ho, hb⟩
    have HO := Q.hid ho
    have B3 := Q.hid (B3.out.below hb)
    have HB := Q.hid (bs2 HB.out hb)
    clear ho hb
    have k30 := B3.out.c0
    have k31 := B3.out.c1
    have f30 := B3.out.f0
    have f31 := B3.out.f1
    go_wp2
    refine bodyPost_ret (by rw [results_cell_tmp rfl]; go_simp; rfl) rfl ?_
    exact ⟨A3, c3, by rw [HF.out], by rw [HF.out]; exact far2 HO.out hg3 (by omega) _ _, below_set2 HB.out (by omega) _ _⟩
  · have hb0 : (chkW2 n xs m ys != 0) = true := by simp [h0]
    have HF : Hid (mulW n xs m ys = noW (chkW2 n xs m ys)) := if_neg h0
    clear h0
    go_enter Tryz.func27, Tryz.ntmps27
    go_wp2_with fail
    refine (wboth_calls n m A A' c c' xs ys _ (H.out.below (below_alloc3 _ _ _ _)) (H'.out.below (below_alloc3 _ _ _ _))).mono ?_
    rintro e w1 ⟨rfl, hb1⟩
    have B1 := Q.hid ((((Bx.new w n (.slice A xs.length c)).alloc (.cells #[.bool m, .slice A' ys.length c'] 24)).alloc (.cells #[.bool false, .slice none 0 0] 24)).below hb1)
    have B2 := Q.hid (((Bx.new (w.alloc (.cells #[.bool n, .slice A xs.length c] 24)) m (.slice A' ys.length c')).alloc (.cells #[.bool false, .slice none 0 0] 24)).below hb1)
    have B3 := Q.hid ((Bx.new ((w.alloc (.cells #[.bool n, .slice A xs.length c] 24)).alloc (.cells #[.bool m, .slice A' ys.length c'] 24)) false (.slice none 0 0)).below hb1)
    simp only [World.size_alloc] at B2 B3
    have HB := Q.hid ((below_alloc3 w _ _ _).trans (hb1.mono (by simp; omega)))
    have hg3 : w.heap.size + 1 + 1 < w1.heap.size := B3.out.lt
    clear hb1
    have k30 := B3.out.c0
    have k31 := B3.out.c1
    have f30 := B3.out.f0
    have f31 := B3.out.f1
    go_wp2
    refine bodyPost_ret (by rw [results_cell_tmp rfl]; go_simp; rfl) rfl ?_
    exact ⟨none, 0, by rw [HF.out]; rfl, by rw [HF.out]; exact Ow.nil _ _ _, below_set2 HB.out (by omega) _ _⟩

set_option maxHeartbeats 1000000 in
theorem wGcd_calls (n m : Bool) (A A' : Option Addr) (c c' : Nat) (xs ys : List Int) (w : World) (h : In w A c xs) (h' : In w A' c' ys) :
    Calls Tryz.prog 23 #[.agg #[.bool n, .slice A xs.length c], .agg #[.bool m, .slice A' ys.length c']] w fun e w' => ∃ B d, e = .returned (.tuple #[.agg #[.bool (gcdW n xs m ys).neg, .slice B (gcdW n xs m ys).ws.length d], .int .i64 (gcdW n xs m ys).err]) ∧ Ow w' 50 w.heap.size (.slice B (gcdW n xs m ys).ws.length d) (gcdW n xs m ys).ws ∧ Below w.heap.size w w' := by
  have H := Q.hid h
  have H' := Q.hid h'
  have hw := h.wds
  have hw' := h'.wds
  clear h h'
  by_cases h0 : chkW2 n xs m ys = 0
  · have hb0 : (chkW2 n xs m ys != 0) = false := by simp [h0]
    have HS : Hid (gcdS xs ys = (nwd (gc (val xs) (val ys)), 0)) := by unfold gcdS; rw [if_pos (chkW2_chk2 h0)]; rfl
    have HF : Hid (gcdW n xs m ys = mdW false (nwd (gc (val xs) (val ys)))) := by
      unfold gcdW; rw [if_pos h0, mdW_sg (gc_nonneg _ _)]; rfl
    clear h0
    go_enter Tryz.func23, Tryz.ntmps23
    go_wp2_with fail
    refine (wboth_calls n m A A' c c' xs ys _ (H.out.below (below_alloc3 _ _ _ _)) (H'.out.below (below_alloc3 _ _ _ _))).mono ?_
    rintro e w1 ⟨rfl, hb1⟩
    have B1 := Q.hid ((((Bx.new w n (.slice A xs.length c)).alloc (.cells #[.bool m, .slice A' ys.length c'] 24)).alloc (.cells #[.bool false, .slice none 0 0] 24)).below hb1)
    have B2 := Q.hid (((Bx.new (w.alloc (.cells #[.bool n, .slice A xs.length c] 24)) m (.slice A' ys.length c')).alloc (.cells #[.bool false, .slice none 0 0] 24)).below hb1)
    have B3 := Q.hid ((Bx.new ((w.alloc (.cells #[.bool n, .slice A xs.length c] 24)).alloc (.cells #[.bool m, .slice A' ys.length c'] 24)) false (.slice none 0 0)).below hb1)
    simp only [World.size_alloc] at B2 B3
    have HB := Q.hid ((below_alloc3 w _ _ _).trans (hb1.mono (by simp; omega)))
    have hg3 : w.heap.size + 1 + 1 < w1.heap.size := B3.out.lt
    clear hb1
    have k10 := B1.out.c0
    have k11 := B1.out.c1
    have k20 := B2.out.c0
    have k21 := B2.out.c1
    go_wp2_with fail
    refine (Gcd_calls A A' c c' xs ys _ (H.out.below HB.out) (H'.out.below HB.out)).mono ?_
    rintro e w2 ⟨v, rfl, ho, hb⟩
    rw [HS.out] at ho
    obtain ⟨A2, c2, e2, _⟩ := ho.slice
    subst e2
    have HO := Q.hid ho
    have B3 := Q.hid (B3.out.below hb)
    have HB := Q.hid (bs2 HB.out hb)
    clear ho hb
    clear k10 k11 k20 k21
    go_wp2_with fail
    refine (wmade_calls false A2 c2 w1.heap.size (nwd (gc (val xs) (val ys))) _ HO.out).mono ?_
    rintro e w3 ⟨A3, c3, rfl, ho, hb⟩
    have HO := Q.hid ho
    have B3 := Q.hid (B3.out.below hb)
    have HB := Q.hid (bs2 HB.out hb)
    clear ho hb
    have k30 := B3.out.c0
    have k31 := B3.out.c1
    have f30 := B3.out.f0
    have f31 := B3.out.f1
    go_wp2
    refine bodyPost_ret (by rw [results_cell_tmp rfl]; go_simp; rfl) rfl ?_
    exact ⟨A3, c3, by rw [HF.out], by rw [HF.out]; exact far2 HO.out hg3 (by omega) _ _, below_set2 HB.out (by omega) _ _⟩
  · have hb0 : (chkW2 n xs m ys != 0) = true := by simp [h0]
    have HF : Hid (gcdW n xs m ys = noW (chkW2 n xs m ys)) := if_neg h0
    clear h0
    go_enter Tryz.func23, Tryz.ntmps23
    go_wp2_with fail
    refine (wboth_calls n m A A' c c' xs ys _ (H.out.below (below_alloc3 _ _ _ _)) (H'.out.below (below_alloc3 _ _ _ _))).mono ?_
    rintro e w1 ⟨rfl, hb1⟩
    have B1 := Q.hid ((((Bx.new w n (.slice A xs.length c)).alloc (.cells #[.bool m, .slice A' ys.length c'] 24)).alloc (.cells #[.bool false, .slice none 0 0] 24)).below hb1)
    have B2 := Q.hid (((Bx.new (w.alloc (.cells #[.bool n, .slice A xs.length c] 24)) m (.slice A' ys.length c')).alloc (.cells #[.bool false, .slice none 0 0] 24)).below hb1)
    have B3 := Q.hid ((Bx.new ((w.alloc (.cells #[.bool n, .slice A xs.length c] 24)).alloc (.cells #[.bool m, .slice A' ys.length c'] 24)) false (.slice none 0 0)).below hb1)
    simp only [World.size_alloc] at B2 B3
    have HB := Q.hid ((below_alloc3 w _ _ _).trans (hb1.mono (by simp; omega)))
    have hg3 : w.heap.size + 1 + 1 < w1.heap.size := B3.out.lt
    clear hb1
    have k30 := B3.out.c0
    have k31 := B3.out.c1
    have f30 := B3.out.f0
    have f31 := B3.out.f1
    go_wp2
    refine bodyPost_ret (by rw [results_cell_tmp rfl]; go_simp; rfl) rfl ?_
    exact ⟨none, 0, by rw [HF.out]; rfl, by rw [HF.out]; exact Ow.nil _ _ _, below_set2 HB.out (by omega) _ _⟩

set_option maxHeartbeats 1000000 in
theorem wAdd_calls (n m : Bool) (A A' : Option Addr) (c c' : Nat) (xs ys : List Int) (w : World) (h : In w A c xs) (h' : In w A' c' ys) :
    Calls Tryz.prog 29 #[.agg #[.bool n, .slice A xs.length c], .agg #[.bool m, .slice A' ys.length c']] w fun e w' => ∃ B d, e = .returned (.tuple #[.agg #[.bool (addW n xs m ys).neg, .slice B (addW n xs m ys).ws.length d], .int .i64 (addW n xs m ys).err]) ∧ Ow w' 50 w.heap.size (.slice B (addW n xs m ys).ws.length d) (addW n xs m ys).ws ∧ Below w.heap.size w w' := by
  have H := Q.hid h
  have H' := Q.hid h'
  have hw := h.wds
  have hw' := h'.wds
  clear h h'
  by_cases h0 : chkW2 n xs m ys = 0
  · have hb0 : (chkW2 n xs m ys != 0) = false := by simp [h0]
    by_cases hs : n = m
    · have HS : Hid (addS xs ys = (nwd (val xs + val ys), 0)) := addS_of hw hw' h0
      have HF : Hid (addW n xs m ys = mdW n (nwd (val xs + val ys))) := by
        unfold addW; rw [if_pos h0, mdW_sg (Int.add_nonneg (val_nonneg hw) (val_nonneg hw')), add_same hs]; rfl
      have hs1 : (n == m) = true := by simp [hs]
      have hs2 : (m == n) = true := by simp [hs]
      clear h0 hs
      go_enter Tryz.func29, Tryz.ntmps29
      go_wp2_with fail
      refine (wboth_calls n m A A' c c' xs ys _ (H.out.below (below_alloc3 _ _ _ _)) (H'.out.below (below_alloc3 _ _ _ _))).mono ?_
      rintro e w1 ⟨rfl, hb1⟩
      have B1 := Q.hid ((((Bx.new w n (.slice A xs.length c)).alloc (.cells #[.bool m, .slice A' ys.length c'] 24)).alloc (.cells #[.bool false, .slice none 0 0] 24)).below hb1)
      have B2 := Q.hid (((Bx.new (w.alloc (.cells #[.bool n, .slice A xs.length c] 24)) m (.slice A' ys.length c')).alloc (.cells #[.bool false, .slice none 0 0] 24)).below hb1)
      have B3 := Q.hid ((Bx.new ((w.alloc (.cells #[.bool n, .slice A xs.length c] 24)).alloc (.cells #[.bool m, .slice A' ys.length c'] 24)) false (.slice none 0 0)).below hb1)
      simp only [World.size_alloc] at B2 B3
      have HB := Q.hid ((below_alloc3 w _ _ _).trans (hb1.mono (by simp; omega)))
      have hg3 : w.heap.size + 1 + 1 < w1.heap.size := B3.out.lt
      clear hb1
      have k10 := B1.out.c0
      have k11 := B1.out.c1
      have k20 := B2.out.c0
      have k21 := B2.out.c1
      go_wp2_with fail
      refine (Add_calls A A' c c' xs ys _ (H.out.below HB.out) (H'.out.below HB.out)).mono ?_
      rintro e w2 ⟨v, rfl, ho, hb⟩
      rw [HS.out] at ho
      obtain ⟨A2, c2, e2, _⟩ := ho.slice
      subst e2
      have HO := Q.hid ho
      have B1 := Q.hid (B1.out.below hb)
      have B2 := Q.hid (B2.out.below hb)
      have B3 := Q.hid (B3.out.below hb)
      have HB := Q.hid (bs2 HB.out hb)
      clear ho hb
      clear k10 k11 k20 k21
      have k10 := B1.out.c0
      have k11 := B1.out.c1
      have k20 := B2.out.c0
      have k21 := B2.out.c1
      go_wp2_with fail
      refine (wmade_calls n A2 c2 w1.heap.size (nwd (val xs + val ys)) _ HO.out).mono ?_
      rintro e w3 ⟨A3, c3, rfl, ho, hb⟩
      have HO := Q.hid ho
      have B3 := Q.hid (B3.out.below hb)
      have HB := Q.hid (bs2 HB.out hb)
      clear ho hb
      have k30 := B3.out.c0
      have k31 := B3.out.c1
      have f30 := B3.out.f0
      have f31 := B3.out.f1
      go_wp2
      refine bodyPost_ret (by rw [results_cell_tmp rfl]; go_simp; rfl) rfl ?_
      exact ⟨A3, c3, by rw [HF.out], by rw [HF.out]; exact far2 HO.out hg3 (by omega) _ _, below_set2 HB.out (by omega) _ _⟩
    · by_cases hv : val xs < val ys
      · have HS : Hid (subS ys xs = (nwd (val ys - val xs), 0)) := subS_of (chkW2_zero.2 ⟨(chkW2_zero.1 h0).2, (chkW2_zero.1 h0).1⟩) (by omega)
        have HF : Hid (addW n xs m ys = mdW m (nwd (val ys - val xs))) := by
          unfold addW; rw [if_pos h0, mdW_sg (by omega), add_diff (Ne.symm hs), Int.add_comm]; rfl
        have hc : cmp (val xs) (val ys) = -1 := cmp_lt hv
        have hc0 : decide (cmp (val xs) (val ys) < 0) = true := by rw [hc]; rfl
        have hs1 : (n == m) = false := by simp [hs]
        have hs2 : (m == n) = false := by simp [Ne.symm hs]
        clear h0 hs hv
        clear hc
        go_enter Tryz.func29, Tryz.ntmps29
        go_wp2_with fail
        refine (wboth_calls n m A A' c c' xs ys _ (H.out.below (below_alloc3 _ _ _ _)) (H'.out.below (below_alloc3 _ _ _ _))).mono ?_
        rintro e w1 ⟨rfl, hb1⟩
        have B1 := Q.hid ((((Bx.new w n (.slice A xs.length c)).alloc (.cells #[.bool m, .slice A' ys.length c'] 24)).alloc (.cells #[.bool false, .slice none 0 0] 24)).below hb1)
        have B2 := Q.hid (((Bx.new (w.alloc (.cells #[.bool n, .slice A xs.length c] 24)) m (.slice A' ys.length c')).alloc (.cells #[.bool false, .slice none 0 0] 24)).below hb1)
        have B3 := Q.hid ((Bx.new ((w.alloc (.cells #[.bool n, .slice A xs.length c] 24)).alloc (.cells #[.bool m, .slice A' ys.length c'] 24)) false (.slice none 0 0)).below hb1)
        simp only [World.size_alloc] at B2 B3
        have HB := Q.hid ((below_alloc3 w _ _ _).trans (hb1.mono (by simp; omega)))
        have hg3 : w.heap.size + 1 + 1 < w1.heap.size := B3.out.lt
        clear hb1
        have k10 := B1.out.c0
        have k11 := B1.out.c1
        have k20 := B2.out.c0
        have k21 := B2.out.c1
        have f10 := B1.out.f0
        have f11 := B1.out.f1
        have f20 := B2.out.f0
        have f21 := B2.out.f1
        go_wp2_with fail
        refine (Compare_calls A A' c c' xs ys _ (H.out.below HB.out) (H'.out.below HB.out)).mono ?_
        rintro e w2 ⟨rfl, ⟨q, rfl⟩⟩
        have B1 := Q.hid (B1.out.below (below_dr w1 q))
        have B2 := Q.hid (B2.out.below (below_dr w1 q))
        have B3 := Q.hid (B3.out.below (below_dr w1 q))
        have HB := Q.hid (bs2 HB.out (below_dr w1 q))
        clear k10 k11 k20 k21 f10 f11 f20 f21
        have k10 := B1.out.c0
        have k11 := B1.out.c1
        have k20 := B2.out.c0
        have k21 := B2.out.c1
        have f10 := B1.out.f0
        have f11 := B1.out.f1
        have f20 := B2.out.f0
        have f21 := B2.out.f1
        have hgq : w.heap.size + 1 + 1 < (w1.drewN q).heap.size := B3.out.lt
        have B1 := Q.hid (((B1.out.over m (.slice A' ys.length c')).far (g' := w.heap.size + 1) (by omega) 0 (.bool n)).far (g' := w.heap.size + 1) (by omega) 1 (.slice A xs.length c))
        have B2 := Q.hid (((B2.out.far (g' := w.heap.size) (by omega) 0 (.bool m)).far (g' := w.heap.size) (by omega) 1 (.slice A' ys.length c')).over n (.slice A xs.length c))
        have B3 := Q.hid ((((B3.out.far (g' := w.heap.size) (by omega) 0 (.bool m)).far (g' := w.heap.size) (by omega) 1 (.slice A' ys.length c')).far (g' := w.heap.size + 1) (by omega) 0 (.bool n)).far (g' := w.heap.size + 1) (by omega) 1 (.slice A xs.length c))
        have HB := Q.hid ((((HB.out.setCell (p := ⟨w.heap.size, 0, none⟩) (Nat.le_refl _) (.bool m)).setCell (p := ⟨w.heap.size, 1, none⟩) (Nat.le_refl _) (.slice A' ys.length c')).setCell (p := ⟨w.heap.size + 1, 0, none⟩) (Nat.le_succ _) (.bool n)).setCell (p := ⟨w.heap.size + 1, 1, none⟩) (Nat.le_succ _) (.slice A xs.length c))
        go_wp2_with fail
        refine (Sub_calls A' A c' c ys xs _ (H'.out.below HB.out) (H.out.below HB.out)).mono ?_
        rintro e w3 ⟨v, rfl, ho, hb⟩
        rw [HS.out] at ho
        obtain ⟨A3, c3, e3, _⟩ := ho.slice
        subst e3
        have ho2 : Ow w3 50 w1.heap.size (.slice A3 (nwd (val ys - val xs)).length c3) (nwd (val ys - val xs)) := by simpa [World.size_setCell] using ho
        have HO := Q.hid ho2
        clear ho2
        have B1 := Q.hid (B1.out.below hb)
        have B2 := Q.hid (B2.out.below hb)
        have B3 := Q.hid (B3.out.below hb)
        have HB := Q.hid (bs2 HB.out hb)
        clear ho hb
        clear k10 k11 k20 k21 f10 f11 f20 f21
        have k10 := B1.out.c0
        have k11 := B1.out.c1
        have k20 := B2.out.c0
        have k21 := B2.out.c1
        go_wp2_with fail
        refine (wmade_calls m A3 c3 w1.heap.size (nwd (val ys - val xs)) _ HO.out).mono ?_
        rintro e w4 ⟨A4, c4, rfl, ho, hb⟩
        have HO := Q.hid ho
        have B3 := Q.hid (B3.out.below hb)
        have HB := Q.hid (bs2 HB.out hb)
        clear ho hb
        have k30 := B3.out.c0
        have k31 := B3.out.c1
        have f30 := B3.out.f0
        have f31 := B3.out.f1
        go_wp2
        refine bodyPost_ret (by rw [results_cell_tmp rfl]; go_simp; rfl) rfl ?_
        exact ⟨A4, c4, by rw [HF.out], by rw [HF.out]; exact far2 HO.out hg3 (by omega) _ _, below_set2 HB.out (by omega) _ _⟩
      · have HS : Hid (subS xs ys = (nwd (val xs - val ys), 0)) := subS_of h0 (by omega)
        have HF : Hid (addW n xs m ys = mdW n (nwd (val xs - val ys))) := by
          unfold addW; rw [if_pos h0, mdW_sg (by omega), add_diff hs]; rfl
        have hc0 : decide (cmp (val xs) (val ys) < 0) = false := by unfold cmp; rw [if_neg hv]; split <;> rfl
        have hs1 : (n == m) = false := by simp [hs]
        have hs2 : (m == n) = false := by simp [Ne.symm hs]
        clear h0 hs hv
        go_enter Tryz.func29, Tryz.ntmps29
        go_wp2_with fail
        refine (wboth_calls n m A A' c c' xs ys _ (H.out.below (below_alloc3 _ _ _ _)) (H'.out.below (below_alloc3 _ _ _ _))).mono ?_
        rintro e w1 ⟨rfl, hb1⟩
        have B1 := Q.hid ((((Bx.new w n (.slice A xs.length c)).alloc (.cells #[.bool m, .slice A' ys.length c'] 24)).alloc (.cells #[.bool false, .slice none 0 0] 24)).below hb1)
        have B2 := Q.hid (((Bx.new (w.alloc (.cells #[.bool n, .slice A xs.length c] 24)) m (.slice A' ys.length c')).alloc (.cells #[.bool false, .slice none 0 0] 24)).below hb1)
        have B3 := Q.hid ((Bx.new ((w.alloc (.cells #[.bool n, .slice A xs.length c] 24)).alloc (.cells #[.bool m, .slice A' ys.length c'] 24)) false (.slice none 0 0)).below hb1)
        simp only [World.size_alloc] at B2 B3
        have HB := Q.hid ((below_alloc3 w _ _ _).trans (hb1.mono (by simp; omega)))
        have hg3 : w.heap.size + 1 + 1 < w1.heap.size := B3.out.lt
        clear hb1
        have k10 := B1.out.c0
        have k11 := B1.out.c1
        have k20 := B2.out.c0
        have k21 := B2.out.c1
        go_wp2_with fail
        refine (Compare_calls A A' c c' xs ys _ (H.out.below HB.out) (H'.out.below HB.out)).mono ?_
        rintro e w2 ⟨rfl, ⟨q, rfl⟩⟩
        have B1 := Q.hid (B1.out.below (below_dr w1 q))
        have B2 := Q.hid (B2.out.below (below_dr w1 q))
        have B3 := Q.hid (B3.out.below (below_dr w1 q))
        have HB := Q.hid (bs2 HB.out (below_dr w1 q))
        clear k10 k11 k20 k21
        have k10 := B1.out.c0
        have k11 := B1.out.c1
        have k20 := B2.out.c0
        have k21 := B2.out.c1
        go_wp2_with fail
        refine (Sub_calls A A' c c' xs ys _ (H.out.below HB.out) (H'.out.below HB.out)).mono ?_
        rintro e w3 ⟨v, rfl, ho, hb⟩
        rw [HS.out] at ho
        obtain ⟨A3, c3, e3, _⟩ := ho.slice
        subst e3
        have HO := Q.hid ho
        have B1 := Q.hid (B1.out.below hb)
        have B2 := Q.hid (B2.out.below hb)
        have B3 := Q.hid (B3.out.below hb)
        have HB := Q.hid (bs2 HB.out hb)
        clear ho hb
        clear k10 k11 k20 k21
        have k10 := B1.out.c0
        have k11 := B1.out.c1
        have k20 := B2.out.c0
        have k21 := B2.out.c1
        go_wp2_with fail
        refine (wmade_calls n A3 c3 w1.heap.size (nwd (val xs - val ys)) _ HO.out).mono ?_
        rintro e w4 ⟨A4, c4, rfl, ho, hb⟩
        have HO := Q.hid ho
        have B3 := Q.hid (B3.out.below hb)
        have HB := Q.hid (bs2 HB.out hb)
        clear ho hb
        have k30 := B3.out.c0
        have k31 := B3.out.c1
        have f30 := B3.out.f0
        have f31 := B3.out.f1
        go_wp2
        refine bodyPost_ret (by rw [results_cell_tmp rfl]; go_simp; rfl) rfl ?_
        exact ⟨A4, c4, by rw [HF.out], by rw [HF.out]; exact far2 HO.out hg3 (by omega) _ _, below_set2 HB.out (by omega) _ _⟩
  · have hb0 : (chkW2 n xs m ys != 0) = true := by simp [h0]
    have HF : Hid (addW n xs m ys = noW (chkW2 n xs m ys)) := if_neg h0
    clear h0
    go_enter Tryz.func29, Tryz.ntmps29
    go_wp2_with fail
    refine (wboth_calls n m A A' c c' xs ys _ (H.out.below (below_alloc3 _ _ _ _)) (H'.out.below (below_alloc3 _ _ _ _))).mono ?_
    rintro e w1 ⟨rfl, hb1⟩
    have B1 := Q.hid ((((Bx.new w n (.slice A xs.length c)).alloc (.cells #[.bool m, .slice A' ys.length c'] 24)).alloc (.cells #[.bool false, .slice none 0 0] 24)).below hb1)
    have B2 := Q.hid (((Bx.new (w.alloc (.cells #[.bool n, .slice A xs.length c] 24)) m (.slice A' ys.length c')).alloc (.cells #[.bool false, .slice none 0 0] 24)).below hb1)
    have B3 := Q.hid ((Bx.new ((w.alloc (.cells #[.bool n, .slice A xs.length c] 24)).alloc (.cells #[.bool m, .slice A' ys.length c'] 24)) false (.slice none 0 0)).below hb1)
    simp only [World.size_alloc] at B2 B3
    have HB := Q.hid ((below_alloc3 w _ _ _).trans (hb1.mono (by simp; omega)))
    have hg3 : w.heap.size + 1 + 1 < w1.heap.size := B3.out.lt
    clear hb1
    have k30 := B3.out.c0
    have k31 := B3.out.c1
    have f30 := B3.out.f0
    have f31 := B3.out.f1
    go_wp2
    refine bodyPost_ret (by rw [results_cell_tmp rfl]; go_simp; rfl) rfl ?_
    exact ⟨none, 0, by rw [HF.out]; rfl, by rw [HF.out]; exact Ow.nil _ _ _, below_set2 HB.out (by omega) _ _⟩

set_option maxHeartbeats 1000000 in
theorem wNeg_calls (n : Bool) (A : Option Addr) (c : Nat) (xs : List Int) (w : World) (h : In w A c xs) :
    Calls Tryz.prog 22 #[.agg #[.bool n, .slice A xs.length c]] w fun e w' => ∃ B d, e = .returned (.tuple #[.agg #[.bool (negW n xs).neg, .slice B (negW n xs).ws.length d], .int .i64 (negW n xs).err]) ∧ Ow w' 50 w.heap.size (.slice B (negW n xs).ws.length d) (negW n xs).ws ∧ Below w.heap.size w w' := by
  have H := Q.hid h
  have hw := h.wds
  clear h
  by_cases h0 : chkW n xs = 0
  · have hb0 : (chkW n xs != 0) = false := by simp [h0]
    have HF : Hid (negW n xs = mdW (!n) xs) := by
      have e : nwd (val xs) = xs := nwd_eq hw (chkW_zero.1 h0).2.1 rfl
      have k : negW n xs = mdW (!n) (nwd (val xs)) := by
        unfold negW; rw [if_pos h0, mdW_sg (val_nonneg hw)]
        rw [sg_not, wv_sg]
      rw [e] at k; exact k
    clear h0
    go_enter Tryz.func22, Tryz.ntmps22
    go_wp2_with fail
    refine (wCheck_calls n A c xs _ (H.out.below (below_alloc2 _ _ _))).mono ?_
    rintro e w1 ⟨rfl, hb1⟩
    have B1 := Q.hid (((Bx.new w n (.slice A xs.length c)).alloc (.cells #[.bool false, .slice none 0 0] 24)).below hb1)
    have B3 := Q.hid ((Bx.new (w.alloc (.cells #[.bool n, .slice A xs.length c] 24)) false (.slice none 0 0)).below hb1)
    simp only [World.size_alloc] at B3
    have HB := Q.hid ((below_alloc2 w _ _).trans (hb1.mono (by simp; omega)))
    have hg3 : w.heap.size + 1 < w1.heap.size := B3.out.lt
    clear hb1
    have k10 := B1.out.c0
    have k11 := B1.out.c1
    go_wp2
    go_region_with (first
      | (go_at_call 49
         refine (own_calls A c xs _ ?_).mono ?_
         exact ⟨(H.out.below HB.out).rd, H.out.cap, H.out.small, H.out.wds⟩
         rintro e w2 ⟨v, rfl, ho, hb⟩
         obtain ⟨A2, c2, e2, _⟩ := ho.slice
         subst e2
         have hbb : Below w1.heap.size w1 w2 := ⟨hb.os, hb.tape, hb.output, hb.size, hb.block⟩
         have HO : Hid (Ow w2 50 w1.heap.size (.slice A2 xs.length c2) xs) := ho
         have B1 := Q.hid (B1.out.below hbb)
         have B3 := Q.hid (B3.out.below hbb)
         have HB := Q.hid (bs2 HB.out hbb)
         clear ho hb hbb k10 k11
         have k10 := B1.out.c0
         have k11 := B1.out.c1)
      | (go_at_call 35
         refine (wmade_calls (!n) A2 c2 w1.heap.size xs _ ?_).mono ?_
         exact HO.out
         rintro e w3 ⟨A3, c3, rfl, ho, hb⟩
         have hbb : Below w2.heap.size w2 w3 := ⟨hb.os, hb.tape, hb.output, hb.size, hb.block⟩
         have HO := Q.hid ho
         have B3 := Q.hid (B3.out.below hbb)
         have HB := Q.hid (bs2 HB.out hbb)
         clear ho hb hbb
         have k30 := B3.out.c0
         have k31 := B3.out.c1
         have f30 := B3.out.f0
         have f31 := B3.out.f1))
    all_goals
      go_wp2
      refine bodyPost_ret (by rw [results_cell_tmp rfl]; go_simp; rfl) rfl ?_
      exact ⟨A3, c3, by rw [HF.out], by rw [HF.out]; exact far2 HO.out hg3 (by omega) _ _, below_set2 HB.out (by omega) _ _⟩
  · have hb0 : (chkW n xs != 0) = true := by simp [h0]
    have HF : Hid (negW n xs = noW (chkW n xs)) := if_neg h0
    clear h0
    go_enter Tryz.func22, Tryz.ntmps22
    go_wp2_with fail
    refine (wCheck_calls n A c xs _ (H.out.below (below_alloc2 _ _ _))).mono ?_
    rintro e w1 ⟨rfl, hb1⟩
    have B1 := Q.hid (((Bx.new w n (.slice A xs.length c)).alloc (.cells #[.bool false, .slice none 0 0] 24)).below hb1)
    have B3 := Q.hid ((Bx.new (w.alloc (.cells #[.bool n, .slice A xs.length c] 24)) false (.slice none 0 0)).below hb1)
    simp only [World.size_alloc] at B3
    have HB := Q.hid ((below_alloc2 w _ _).trans (hb1.mono (by simp; omega)))
    have hg3 : w.heap.size + 1 < w1.heap.size := B3.out.lt
    clear hb1
    have k30 := B3.out.c0
    have k31 := B3.out.c1
    have f30 := B3.out.f0
    have f31 := B3.out.f1
    go_wp2
    refine bodyPost_ret (by rw [results_cell_tmp rfl]; go_simp; rfl) rfl ?_
    exact ⟨none, 0, by rw [HF.out]; rfl, by rw [HF.out]; exact Ow.nil _ _ _, below_set2 HB.out (by omega) _ _⟩


end Go.Proofs.YtidccoahjpjoaaaGreatDoor
/- Package whole: small numbers, signs, comparisons; what each call does. -/
set_option linter.unusedVariables false
set_option linter.unusedSimpArgs false
namespace Go.Proofs.YtidccoahjpjoaaaGreatDoor
open Go Go.RowKit Q

theorem results_cell1 {P : Program} {fn : Func} {p : Tmp} {ty : TypeId} (h : fn.results = #[.cell p ty]) (tmps : Array Value) (w : World) :
    (results fn tmps).run P w = ((asAddr (tmps.getD p undef)).run P w).andThen fun a w₁ => (loadVar ty a).run P w₁ := by
  simp only [results, h]
  simp [Sem.run_bind, Result.andThen]
theorem of64_nwd {x : Int} (h0 : 0 ≤ x) (h1 : x < 18446744073709551616) : of64 x = nwd x := (nwd_eq (of64_wds h0 h1) (of64_tr x) (of64_val x)).symm
theorem bp_64 : Bp 2 = 18446744073709551616 := by decide
theorem sh_64 {x : Int} (h : (x.natAbs : Int) < 18446744073709551616) : Sh x := sh_of (a := 2) (by rw [bp_64]; exact h) (by omega)

set_option maxHeartbeats 1000000 in
theorem wOf_calls (x : Int) (w : World) (h0 : -9223372036854775808 ≤ x) (h1 : x < 9223372036854775808) :
    Calls Tryz.prog 47 #[.int .i64 x] w fun e w' => ∃ B d, e = .returned (.agg #[.bool (cn x), .slice B (cw x).length d]) ∧ Ow w' 50 w.heap.size (.slice B (cw x).length d) (cw x) ∧ Below w.heap.size w w' := by
  obtain ⟨k, hk⟩ : ∃ k : Int, k = (x.natAbs : Int) := ⟨_, rfl⟩
  have HM : Hid (mdW (decide (x < 0)) (of64 k) = ⟨cn x, cw x, 0⟩) := by
    have hs : toldW x = ⟨cn x, cw x, 0⟩ := toldW_can (sh_64 (by omega))
    rw [of64_nwd (by omega) (by omega), hk]; exact hs
  have hk0 : 0 ≤ k := by omega
  have hk1 : k < 18446744073709551616 := by omega
  by_cases hx : x < 0
  · have hd : decide (x < 0) = true := decide_eq_true hx
    have hw1 : IntKind.u64.wrap x = x + 18446744073709551616 := by rw [IntKind.wrap_u64]; omega
    have hw2 : IntKind.u64.wrap (-(x + 18446744073709551616)) = k := by rw [IntKind.wrap_u64]; omega
    have HM : Hid (mdW true (of64 k) = ⟨cn x, cw x, 0⟩) := by rw [← hd]; exact HM.out
    clear hk
    go_enter Tryz.func47, Tryz.ntmps47
    go_wp2_with fail
    refine (Of_calls k _ hk0 hk1).mono ?_
    rintro e w1 ⟨v, rfl, ho, hb⟩
    obtain ⟨A1, c1, e1, _⟩ := ho.slice
    subst e1
    have B3 := Q.hid ((Bx.new w false (.slice none 0 0)).below hb)
    have HB := Q.hid ((below_alloc1 w _).trans (hb.mono (by simp)))
    have hg3 : w.heap.size < w1.heap.size := B3.out.lt
    have ho2 : Ow w1 50 (w.heap.size + 1) (.slice A1 (of64 k).length c1) (of64 k) := by simpa using ho
    have HO := Q.hid ho2
    clear hb ho ho2
    go_wp2_with fail
    refine (wmade_calls true A1 c1 (w.heap.size + 1) (of64 k) _ HO.out).mono ?_
    rintro e w2 ⟨A2, c2, rfl, ho, hb⟩
    rw [HM.out] at ho ⊢
    have HO := Q.hid (ho.alloc (.cells #[.bool (cn x), .slice A2 (cw x).length c2] 24))
    have B3 := Q.hid ((B3.out.below hb).alloc (.cells #[.bool (cn x), .slice A2 (cw x).length c2] 24))
    have hsz := (bs2 HB.out hb).size
    have HB := Q.hid ((bs2 HB.out hb).alloc hsz (.cells #[.bool (cn x), .slice A2 (cw x).length c2] 24))
    have hg : w1.heap.size ≤ w2.heap.size := hb.size
    clear ho hb
    have k30 := B3.out.c0
    have k31 := B3.out.c1
    have f30 := B3.out.f0
    have f31 := B3.out.f1
    go_wp2
    refine bodyPost_ret (by rw [results_cell1 rfl]; go_simp; rfl) rfl ?_
    exact ⟨A2, c2, rfl, far2 HO.out (by omega) (by omega) _ _, below_set2 HB.out (Nat.le_refl _) _ _⟩
  · have hd : decide (x < 0) = false := decide_eq_false hx
    have hk2 : x = k := by omega
    have hw1 : IntKind.u64.wrap x = x := by rw [IntKind.wrap_u64]; omega
    subst hk2
    have HM : Hid (mdW false (of64 x) = ⟨cn x, cw x, 0⟩) := by rw [← hd]; exact HM.out
    clear hk
    go_enter Tryz.func47, Tryz.ntmps47
    go_wp2_with fail
    refine (Of_calls x _ hk0 hk1).mono ?_
    rintro e w1 ⟨v, rfl, ho, hb⟩
    obtain ⟨A1, c1, e1, _⟩ := ho.slice
    subst e1
    have B3 := Q.hid ((Bx.new w false (.slice none 0 0)).below hb)
    have HB := Q.hid ((below_alloc1 w _).trans (hb.mono (by simp)))
    have hg3 : w.heap.size < w1.heap.size := B3.out.lt
    have ho2 : Ow w1 50 (w.heap.size + 1) (.slice A1 (of64 x).length c1) (of64 x) := by simpa using ho
    have HO := Q.hid ho2
    clear hb ho ho2
    go_wp2_with fail
    refine (wmade_calls false A1 c1 (w.heap.size + 1) (of64 x) _ HO.out).mono ?_
    rintro e w2 ⟨A2, c2, rfl, ho, hb⟩
    rw [HM.out] at ho ⊢
    have HO := Q.hid (ho.alloc (.cells #[.bool (cn x), .slice A2 (cw x).length c2] 24))
    have B3 := Q.hid ((B3.out.below hb).alloc (.cells #[.bool (cn x), .slice A2 (cw x).length c2] 24))
    have hsz := (bs2 HB.out hb).size
    have HB := Q.hid ((bs2 HB.out hb).alloc hsz (.cells #[.bool (cn x), .slice A2 (cw x).length c2] 24))
    have hg : w1.heap.size ≤ w2.heap.size := hb.size
    clear ho hb
    have k30 := B3.out.c0
    have k31 := B3.out.c1
    have f30 := B3.out.f0
    have f31 := B3.out.f1
    go_wp2
    refine bodyPost_ret (by rw [results_cell1 rfl]; go_simp; rfl) rfl ?_
    exact ⟨A2, c2, rfl, far2 HO.out (by omega) (by omega) _ _, below_set2 HB.out (Nat.le_refl _) _ _⟩

theorem u64_ok_iff {n : Bool} {xs : List Int} (hw : Wds xs) (h : chkW n xs = 0) : u64ok xs = decide (val xs < 18446744073709551616) := by
  have ht : tl xs = xs.length := (chkW_zero.1 h).2.1
  unfold u64ok
  rw [ht]
  by_cases h2 : 2 < xs.length
  · have h3 := val_ge hw (chkW_zero.1 h).2.1 (by intro e; subst e; simp at h2)
    have h4 := Bp_mono (show 2 ≤ xs.length - 1 by omega)
    rw [bp_64] at h4
    rw [decide_eq_true h2, decide_eq_false (by omega)]; rfl
  · have h3 := val_lt_len hw (show xs.length ≤ 2 by omega)
    rw [bp_64] at h3
    rw [decide_eq_false h2, decide_eq_true h3]; rfl
theorem u64_val {n : Bool} {xs : List Int} (hw : Wds xs) (h : chkW n xs = 0) (hv : val xs < 18446744073709551616) : u64 xs = val xs := by
  have := u64_ok_iff hw h
  rw [decide_eq_true hv] at this
  unfold u64ok at this
  unfold u64
  rw [if_neg (by simpa using this)]

set_option maxHeartbeats 1000000 in
theorem wInt64_calls (n : Bool) (A : Option Addr) (c : Nat) (xs : List Int) (w : World) (h : In w A c xs) :
    Calls Tryz.prog 48 #[.agg #[.bool n, .slice A xs.length c]] w fun e w' => e = .returned (.tuple #[.int .i64 (i64 n xs), .bool (i64ok n xs)]) ∧ Below w.heap.size w w' := by
  have H := Q.hid h
  have hw := h.wds
  clear h
  have hv0 := val_nonneg hw
  have hno : ∀ (b : chkW n xs ≠ 0 ∨ ¬ (-9223372036854775808 ≤ wv n xs ∧ wv n xs < 9223372036854775808)), i64 n xs = 0 ∧ i64ok n xs = false := fun b => by
    have : i64ok n xs = false := by
      unfold i64ok
      refine decide_eq_false fun hh => ?_
      rcases b with b | b
      · exact b hh.1
      · exact b hh.2
    exact ⟨by unfold i64; rw [this]; rfl, this⟩
  have hyes : ∀ (b : chkW n xs = 0 ∧ -9223372036854775808 ≤ wv n xs ∧ wv n xs < 9223372036854775808), i64 n xs = wv n xs ∧ i64ok n xs = true := fun b => by
    have : i64ok n xs = true := decide_eq_true b
    exact ⟨by unfold i64; rw [this]; rfl, this⟩
  by_cases h0 : chkW n xs = 0
  · have hb0 : (chkW n xs != 0) = false := by simp [h0]
    by_cases hv : val xs < 18446744073709551616
    · have hok : u64ok xs = true := by rw [u64_ok_iff hw h0]; exact decide_eq_true hv
      have huv := u64_val hw h0 hv
      have HU : Hid (u64 xs = val xs ∧ u64ok xs = true) := ⟨huv, hok⟩
      generalize hX : val xs = X at *
      cases n with
      | true =>
        have hwv : wv true xs = -X := by rw [← hX]; rfl
        by_cases hb : X ≤ 9223372036854775808
        · have HF : Hid (i64 true xs = -X ∧ i64ok true xs = true) := by rw [← hwv]; exact hyes ⟨h0, by omega, by omega⟩
          have hd : decide (X ≤ 9223372036854775808) = true := decide_eq_true hb
          have hw1 : IntKind.i64.wrap (IntKind.u64.wrap (-X)) = -X := by rw [IntKind.wrap_u64, IntKind.wrap_i64]; omega
          clear hno hyes h0 hok huv hX hwv
          go_enter Tryz.func48, Tryz.ntmps48
          go_wp2_with fail
          refine (Uint64_calls A c xs _ (H.out.below (below_alloc1 _ _))).mono ?_
          rintro e w1 ⟨rfl, rfl⟩
          rw [HU.out.1, HU.out.2]
          go_wp2_with fail
          refine (wCheck_calls true A c xs _ (H.out.below (below_alloc1 _ _))).mono ?_
          rintro e w1 ⟨rfl, hb1⟩
          have B1 := Q.hid ((Bx.new w true (.slice A xs.length c)).below hb1)
          have HB := Q.hid ((below_alloc1 w _).trans (hb1.mono (by simp)))
          clear hb1
          have k10 := B1.out.c0
          have k11 := B1.out.c1
          go_wp2
          go_ret2
          exact ⟨by rw [HF.out.1, HF.out.2]; rfl, HB.out⟩
        · have HF : Hid (i64 true xs = 0 ∧ i64ok true xs = false) := hno (.inr (by rw [hwv]; omega))
          have hd : decide (X ≤ 9223372036854775808) = false := decide_eq_false hb
          clear hno hyes h0 hok huv hX hwv
          go_enter Tryz.func48, Tryz.ntmps48
          go_wp2_with fail
          refine (Uint64_calls A c xs _ (H.out.below (below_alloc1 _ _))).mono ?_
          rintro e w1 ⟨rfl, rfl⟩
          rw [HU.out.1, HU.out.2]
          go_wp2_with fail
          refine (wCheck_calls true A c xs _ (H.out.below (below_alloc1 _ _))).mono ?_
          rintro e w1 ⟨rfl, hb1⟩
          have B1 := Q.hid ((Bx.new w true (.slice A xs.length c)).below hb1)
          have HB := Q.hid ((below_alloc1 w _).trans (hb1.mono (by simp)))
          clear hb1
          have k10 := B1.out.c0
          have k11 := B1.out.c1
          go_wp2
          go_ret2
          exact ⟨by rw [HF.out.1, HF.out.2]; rfl, HB.out⟩
      | false =>
        have hwv : wv false xs = X := by rw [← hX]; rfl
        by_cases hb : X < 9223372036854775808
        · have HF : Hid (i64 false xs = X ∧ i64ok false xs = true) := by rw [← hwv]; exact hyes ⟨h0, by omega, by omega⟩
          have hd : decide (X < 9223372036854775808) = true := decide_eq_true hb
          have hw1 : IntKind.i64.wrap X = X := by rw [IntKind.wrap_i64]; omega
          clear hno hyes h0 hok huv hX hwv
          go_enter Tryz.func48, Tryz.ntmps48
          go_wp2_with fail
          refine (Uint64_calls A c xs _ (H.out.below (below_alloc1 _ _))).mono ?_
          rintro e w1 ⟨rfl, rfl⟩
          rw [HU.out.1, HU.out.2]
          go_wp2_with fail
          refine (wCheck_calls false A c xs _ (H.out.below (below_alloc1 _ _))).mono ?_
          rintro e w1 ⟨rfl, hb1⟩
          have B1 := Q.hid ((Bx.new w false (.slice A xs.length c)).below hb1)
          have HB := Q.hid ((below_alloc1 w _).trans (hb1.mono (by simp)))
          clear hb1
          have k10 := B1.out.c0
          have k11 := B1.out.c1
          go_wp2
          go_ret2
          exact ⟨by rw [HF.out.1, HF.out.2]; rfl, HB.out⟩
        · have HF : Hid (i64 false xs = 0 ∧ i64ok false xs = false) := hno (.inr (by rw [hwv]; omega))
          have hd : decide (X < 9223372036854775808) = false := decide_eq_false hb
          clear hno hyes h0 hok huv hX hwv
          go_enter Tryz.func48, Tryz.ntmps48
          go_wp2_with fail
          refine (Uint64_calls A c xs _ (H.out.below (below_alloc1 _ _))).mono ?_
          rintro e w1 ⟨rfl, rfl⟩
          rw [HU.out.1, HU.out.2]
          go_wp2_with fail
          refine (wCheck_calls false A c xs _ (H.out.below (below_alloc1 _ _))).mono ?_
          rintro e w1 ⟨rfl, hb1⟩
          have B1 := Q.hid ((Bx.new w false (.slice A xs.length c)).below hb1)
          have HB := Q.hid ((below_alloc1 w _).trans (hb1.mono (by simp)))
          clear hb1
          have k10 := B1.out.c0
          have k11 := B1.out.c1
          go_wp2
          go_ret2
          exact ⟨by rw [HF.out.1, HF.out.2]; rfl, HB.out⟩
    · have hok : u64ok xs = false := by rw [u64_ok_iff hw h0]; exact decide_eq_false hv
      have HU : Hid (u64ok xs = false) := hok
      have HF : Hid (i64 n xs = 0 ∧ i64ok n xs = false) := hno (.inr (by unfold wv; split <;> omega))
      clear hno hyes h0 hok hv hv0
      go_enter Tryz.func48, Tryz.ntmps48
      go_wp2_with fail
      refine (Uint64_calls A c xs _ (H.out.below (below_alloc1 _ _))).mono ?_
      rintro e w1 ⟨rfl, rfl⟩
      rw [HU.out]
      go_wp2_with fail
      refine (wCheck_calls n A c xs _ (H.out.below (below_alloc1 _ _))).mono ?_
      rintro e w1 ⟨rfl, hb1⟩
      have HB := Q.hid ((below_alloc1 w _).trans (hb1.mono (by simp)))
      clear hb1
      go_wp2
      go_ret2
      exact ⟨by rw [HF.out.1, HF.out.2]; rfl, HB.out⟩
  · have hb0 : (chkW n xs != 0) = true := by simp [h0]
    have HF : Hid (i64 n xs = 0 ∧ i64ok n xs = false) := hno (.inl h0)
    clear hno hyes h0 hv0
    go_enter Tryz.func48, Tryz.ntmps48
    go_wp2_with fail
    refine (Uint64_calls A c xs _ (H.out.below (below_alloc1 _ _))).mono ?_
    rintro e w1 ⟨rfl, rfl⟩
    go_wp2_with fail
    refine (wCheck_calls n A c xs _ (H.out.below (below_alloc1 _ _))).mono ?_
    rintro e w1 ⟨rfl, hb1⟩
    have HB := Q.hid ((below_alloc1 w _).trans (hb1.mono (by simp)))
    clear hb1
    go_wp2
    go_ret2
    exact ⟨by rw [HF.out.1, HF.out.2]; rfl, HB.out⟩

set_option maxHeartbeats 1000000 in
theorem is_calls (n : Bool) (A : Option Addr) (c : Nat) (xs : List Int) (x : Int) (w : World) (h : In w A c xs) :
    Calls Tryz.prog 20 #[.agg #[.bool n, .slice A xs.length c], .int .i64 x] w fun e w' => e = .returned (.bool (i64ok n xs && decide (i64 n xs = x))) ∧ Below w.heap.size w w' := by
  have H := Q.hid h
  clear h
  cases h1 : i64ok n xs with
  | false =>
    go_enter Tryz.func20, Tryz.ntmps20
    go_wp2_with fail
    refine (wInt64_calls n A c xs _ (H.out.below (below_alloc1 _ _))).mono ?_
    rintro e w1 ⟨rfl, hb1⟩
    rw [h1]
    have HB := Q.hid ((below_alloc1 w _).trans (hb1.mono (by simp)))
    clear hb1
    go_wp2
    go_ret
    exact ⟨rfl, HB.out⟩
  | true =>
    have HE : Hid ((i64 n xs == x) = decide (i64 n xs = x)) := rfl
    go_enter Tryz.func20, Tryz.ntmps20
    go_wp2_with fail
    refine (wInt64_calls n A c xs _ (H.out.below (below_alloc1 _ _))).mono ?_
    rintro e w1 ⟨rfl, hb1⟩
    rw [h1]
    have HB := Q.hid ((below_alloc1 w _).trans (hb1.mono (by simp)))
    clear hb1
    go_wp2
    go_ret
    exact ⟨rfl, HB.out⟩

set_option maxHeartbeats 1000000 in
theorem SameWhole_calls (n m : Bool) (A A' : Option Addr) (c c' : Nat) (xs ys : List Int) (w : World) (h : Rd w A xs) (h' : Rd w A' ys) (hm : xs.length ≤ 9223372036854775807) :
    Calls Tryz.prog 17 #[.agg #[.bool n, .slice A xs.length c], .agg #[.bool m, .slice A' ys.length c']] w fun e w' => e = .returned (.bool (n == m && decide (xs = ys))) ∧ Below w.heap.size w w' := by
  have H := Q.hid h
  have H' := Q.hid h'
  clear h h'
  cases hnm : (n == m) with
  | false =>
    go_enter Tryz.func17, Tryz.ntmps17
    go_wp2
    go_ret
    exact ⟨rfl, below_alloc2 _ _ _⟩
  | true =>
    go_enter Tryz.func17, Tryz.ntmps17
    go_wp2_with fail
    refine (SameWords_calls A A' c c' xs ys _ (H.out.below (below_alloc2 _ _ _)) (H'.out.below (below_alloc2 _ _ _)) hm).mono ?_
    rintro e w1 ⟨rfl, ⟨q, rfl⟩⟩
    go_wp2
    go_ret
    exact ⟨rfl, below_drewN (below_alloc2 _ _ _) _⟩
end Go.Proofs.YtidccoahjpjoaaaGreatDoor
/- Package whole: comparisons, differences; lent numbers; what each call does. -/
set_option linter.unusedVariables false
set_option linter.unusedSimpArgs false
namespace Go.Proofs.YtidccoahjpjoaaaGreatDoor
open Go Go.RowKit Q

def sgW (n : Bool) (xs : List Int) : Int := if xs = [] then 0 else if n = true then -1 else 1
theorem sign_val {n : Bool} {xs : List Int} (hw : Wds xs) (h : chkW n xs = 0) : cmp (wv n xs) 0 = sgW n xs := by
  unfold sgW
  obtain ⟨h1, h2, h3⟩ := chkW_zero.1 h
  by_cases e : xs = []
  · rw [if_pos e, e, h3 e]; rfl
  · rw [if_neg e]
    have := val_pos hw h2 e
    cases n with
    | true => rw [if_pos rfl]; exact cmp_lt (by unfold wv; rw [if_pos rfl]; omega)
    | false => rw [if_neg (by simp)]; exact cmp_gt (by unfold wv; rw [if_neg (by simp)]; omega)



theorem cmp_bnd (x y : Int) : -1 ≤ cmp x y ∧ cmp x y ≤ 1 := by
  unfold cmp
  split
  · omega
  · split <;> omega
theorem wcmp_neg (x y : Int) : cmp (-x) (-y) = - cmp x y := by
  unfold cmp
  rcases Int.lt_trichotomy x y with h | h | h
  · rw [if_neg (by omega), if_neg (by omega), if_pos h]; rfl
  · subst h; simp
  · rw [if_pos (by omega), if_neg (by omega), if_neg (by omega)]
theorem cmp_signs {n m : Bool} {xs ys : List Int} (hx : Wds xs) (hy : Wds ys) (h : chkW2 n xs m ys = 0) (hne : n ≠ m) : cmp (wv n xs) (wv m ys) = if n = true then -1 else 1 := by
  obtain ⟨h1, h2⟩ := chkW2_zero.1 h
  obtain ⟨a1, a2, a3⟩ := chkW_zero.1 h1
  obtain ⟨b1, b2, b3⟩ := chkW_zero.1 h2
  have x0 := val_nonneg hx
  have y0 := val_nonneg hy
  cases n with
  | true =>
    have : m = false := by cases m <;> simp_all
    subst this
    have hp := val_pos hx a2 (fun e => by simpa using a3 e)
    rw [if_pos rfl]; exact cmp_lt (by simp only [wv]; simp; omega)
  | false =>
    have : m = true := by cases m <;> simp_all
    subst this
    have hp := val_pos hy b2 (fun e => by simpa using b3 e)
    rw [if_neg (by simp)]; exact cmp_gt (by simp only [wv]; simp; omega)

set_option maxHeartbeats 1000000 in
theorem wCompare_calls (n m : Bool) (A A' : Option Addr) (c c' : Nat) (xs ys : List Int) (w : World) (h : In w A c xs) (h' : In w A' c' ys) :
    Calls Tryz.prog 42 #[.agg #[.bool n, .slice A xs.length c], .agg #[.bool m, .slice A' ys.length c']] w fun e w' => e = .returned (.tuple #[.int .i64 (cmpW n xs m ys), .int .i64 (chkW2 n xs m ys)]) ∧ Below w.heap.size w w' := by
  have H := Q.hid h
  have H' := Q.hid h'
  have hw := h.wds
  have hw' := h'.wds
  clear h h'
  by_cases h0 : chkW2 n xs m ys = 0
  · have hb0 : (chkW2 n xs m ys != 0) = false := by simp [h0]
    have HC : Hid (chkW2 n xs m ys = 0) := h0
    by_cases hnm : n = m
    · subst hnm
      have HF : Hid (cmpW n xs n ys = if n = true then - cmp (val xs) (val ys) else cmp (val xs) (val ys)) := by
        unfold cmpW; rw [if_pos h0]
        cases n with
        | true => rw [if_pos rfl]; exact wcmp_neg _ _
        | false => rfl
      clear h0
      have hcb := cmp_bnd (val xs) (val ys)
      have hwr : IntKind.i64.wrap (-(cmp (val xs) (val ys))) = -(cmp (val xs) (val ys)) := by rw [IntKind.wrap_i64]; omega
      cases n
      all_goals
        go_enter Tryz.func42, Tryz.ntmps42
        go_wp2_with fail
        refine (wboth_calls _ _ A A' c c' xs ys _ (H.out.below (below_alloc2 _ _ _)) (H'.out.below (below_alloc2 _ _ _))).mono ?_
        rintro e w1 ⟨rfl, hb1⟩
        have B1 := Q.hid (((Bx.new w _ (.slice A xs.length c)).alloc (.cells #[.bool _, .slice A' ys.length c'] 24)).below hb1)
        have B2 := Q.hid ((Bx.new (w.alloc (.cells #[.bool _, .slice A xs.length c] 24)) _ (.slice A' ys.length c')).below hb1)
        simp only [World.size_alloc] at B2
        have HB := Q.hid ((below_alloc2 w _ _).trans (hb1.mono (by simp; omega)))
        clear hb1
        have k10 := B1.out.c0
        have k11 := B1.out.c1
        have k20 := B2.out.c0
        have k21 := B2.out.c1
        go_wp2_with fail
        refine (Compare_calls A A' c c' xs ys _ (H.out.below HB.out) (H'.out.below HB.out)).mono ?_
        rintro e w2 ⟨rfl, ⟨q, rfl⟩⟩
        go_wp2
        go_ret2
        exact ⟨by rw [HF.out, HC.out]; rfl, below_drewN HB.out q⟩
    · have HF : Hid (cmpW n xs m ys = if n = true then -1 else 1) := by unfold cmpW; rw [if_pos h0, cmp_signs hw hw' h0 hnm]; rfl
      clear h0
      have hcs : n = true ∧ m = false ∨ n = false ∧ m = true := by cases n <;> cases m <;> simp_all
      clear hnm
      rcases hcs with ⟨rfl, rfl⟩ | ⟨rfl, rfl⟩
      all_goals
        go_enter Tryz.func42, Tryz.ntmps42
        go_wp2_with fail
        refine (wboth_calls _ _ A A' c c' xs ys _ (H.out.below (below_alloc2 _ _ _)) (H'.out.below (below_alloc2 _ _ _))).mono ?_
        rintro e w1 ⟨rfl, hb1⟩
        have B1 := Q.hid (((Bx.new w _ (.slice A xs.length c)).alloc (.cells #[.bool _, .slice A' ys.length c'] 24)).below hb1)
        have B2 := Q.hid ((Bx.new (w.alloc (.cells #[.bool _, .slice A xs.length c] 24)) _ (.slice A' ys.length c')).below hb1)
        simp only [World.size_alloc] at B2
        have HB := Q.hid ((below_alloc2 w _ _).trans (hb1.mono (by simp; omega)))
        clear hb1
        have k10 := B1.out.c0
        have k11 := B1.out.c1
        have k20 := B2.out.c0
        have k21 := B2.out.c1
        go_wp2
        go_ret2
        exact ⟨by rw [HF.out, HC.out]; rfl, HB.out⟩
  · have hb0 : (chkW2 n xs m ys != 0) = true := by simp [h0]
    have HF : Hid (cmpW n xs m ys = 0) := if_neg h0
    clear h0
    go_enter Tryz.func42, Tryz.ntmps42
    go_wp2_with fail
    refine (wboth_calls n m A A' c c' xs ys _ (H.out.below (below_alloc2 _ _ _)) (H'.out.below (below_alloc2 _ _ _))).mono ?_
    rintro e w1 ⟨rfl, hb1⟩
    have HB := Q.hid ((below_alloc2 w _ _).trans (hb1.mono (by simp; omega)))
    clear hb1
    go_wp2
    go_ret2
    exact ⟨by rw [HF.out]; rfl, HB.out⟩

theorem sub_opp {n m : Bool} {xs ys : List Int} (h : chkW2 n xs m ys = 0) (M : Bool) (hM : M = (!m && !ys.isEmpty)) : subW n xs m ys = addW n xs M ys := by
  obtain ⟨h1, h2⟩ := chkW2_zero.1 h
  obtain ⟨b1, b2, b3⟩ := chkW_zero.1 h2
  have h3 : chkW M ys = 0 := chkW_zero.2 ⟨b1, b2, fun e => by rw [hM, e]; simp⟩
  have hv : wv M ys = - wv m ys := by
    cases ys with
    | nil => rw [hM]; simp [wv, val]
    | cons y ys => rw [hM]; cases m <;> simp [wv]
  unfold subW addW
  rw [if_pos h, if_pos (chkW2_zero.2 ⟨h1, h3⟩), hv, Int.sub_eq_add_neg]

set_option maxHeartbeats 1000000 in
theorem wSub_calls (n m : Bool) (A A' : Option Addr) (c c' : Nat) (xs ys : List Int) (w : World) (h : In w A c xs) (h' : In w A' c' ys) :
    Calls Tryz.prog 21 #[.agg #[.bool n, .slice A xs.length c], .agg #[.bool m, .slice A' ys.length c']] w fun e w' => ∃ B d, e = .returned (.tuple #[.agg #[.bool (subW n xs m ys).neg, .slice B (subW n xs m ys).ws.length d], .int .i64 (subW n xs m ys).err]) ∧ Ow w' 50 w.heap.size (.slice B (subW n xs m ys).ws.length d) (subW n xs m ys).ws ∧ Below w.heap.size w w' := by
  have H := Q.hid h
  have H' := Q.hid h'
  clear h h'
  by_cases h0 : chkW2 n xs m ys = 0
  · have hb0 : (chkW2 n xs m ys != 0) = false := by simp [h0]
    obtain ⟨M, hM⟩ : ∃ M : Bool, M = (!m && !ys.isEmpty) := ⟨_, rfl⟩
    have HF : Hid (subW n xs m ys = addW n xs M ys) := sub_opp h0 M hM
    have hcs : m = true ∧ M = false ∨ (m = false ∧ M = false ∧ decide (0 < (ys.length : Int)) = false ∧ decide (0 < ys.length) = false) ∨ (m = false ∧ M = true ∧ decide (0 < (ys.length : Int)) = true ∧ decide (0 < ys.length) = true) := by
      cases m with
      | true => exact .inl ⟨rfl, by rw [hM]; rfl⟩
      | false =>
        cases ys with
        | nil => exact .inr (.inl ⟨rfl, by rw [hM]; rfl, rfl, rfl⟩)
        | cons y ys => exact .inr (.inr ⟨rfl, by rw [hM]; rfl, decide_eq_true (by simp only [List.length_cons]; omega), decide_eq_true (by simp)⟩)
    clear h0 hM
    rcases hcs with ⟨rfl, rfl⟩ | ⟨rfl, rfl, hl1, hl2⟩ | ⟨rfl, rfl, hl1, hl2⟩
    all_goals
      go_enter Tryz.func21, Tryz.ntmps21
      go_wp2_with fail
      refine (wboth_calls _ _ A A' c c' xs ys _ (H.out.below (below_alloc3 _ _ _ _)) (H'.out.below (below_alloc3 _ _ _ _))).mono ?_
      rintro e w1 ⟨rfl, hb1⟩
      have B1 := Q.hid ((((Bx.new w _ (.slice A xs.length c)).alloc (.cells #[.bool _, .slice A' ys.length c'] 24)).alloc (.cells #[.bool false, .slice none 0 0] 24)).below hb1)
      have B2 := Q.hid (((Bx.new (w.alloc (.cells #[.bool _, .slice A xs.length c] 24)) _ (.slice A' ys.length c')).alloc (.cells #[.bool false, .slice none 0 0] 24)).below hb1)
      have B3 := Q.hid ((Bx.new ((w.alloc (.cells #[.bool _, .slice A xs.length c] 24)).alloc (.cells #[.bool _, .slice A' ys.length c'] 24)) false (.slice none 0 0)).below hb1)
      simp only [World.size_alloc] at B2 B3
      have HB := Q.hid ((below_alloc3 w _ _ _).trans (hb1.mono (by simp; omega)))
      have hg3 : w.heap.size + 1 + 1 < w1.heap.size := B3.out.lt
      clear hb1
      have k10 := B1.out.c0
      have k11 := B1.out.c1
      have k20 := B2.out.c0
      have k21 := B2.out.c1
      have f20 := B2.out.f0
      go_wp2_with fail
      have HBs := Q.hid (fun b : Bool => HB.out.setCell (p := ⟨w.heap.size + 1, 0, none⟩) (Nat.le_succ _) (.bool b))
      have B3s := Q.hid (fun b : Bool => B3.out.far (g' := w.heap.size + 1) (by omega) 0 (.bool b))
      refine (wAdd_calls _ _ A A' c c' xs ys _ (H.out.below (HBs.out _)) (H'.out.below (HBs.out _))).mono ?_
      rintro e w2 ⟨A2, c2, rfl, ho, hb⟩
      have ho2 := ho
      simp only [World.size_setCell] at ho2
      have HO := Q.hid ho2
      have B3 := Q.hid ((B3s.out _).below hb)
      have HB := Q.hid (bs2 (HBs.out _) hb)
      clear ho ho2 hb k10 k11 k20 k21 f20 HBs B3s
      have k30 := B3.out.c0
      have k31 := B3.out.c1
      have f30 := B3.out.f0
      have f31 := B3.out.f1
      go_wp2
      refine bodyPost_ret (by rw [results_cell_tmp rfl]; go_simp; rfl) rfl ?_
      exact ⟨A2, c2, by rw [HF.out], by rw [HF.out]; exact far2 HO.out hg3 (by omega) _ _, below_set2 HB.out (by omega) _ _⟩
  · have hb0 : (chkW2 n xs m ys != 0) = true := by simp [h0]
    have HF : Hid (subW n xs m ys = noW (chkW2 n xs m ys)) := if_neg h0
    clear h0
    go_enter Tryz.func21, Tryz.ntmps21
    go_wp2_with fail
    refine (wboth_calls n m A A' c c' xs ys _ (H.out.below (below_alloc3 _ _ _ _)) (H'.out.below (below_alloc3 _ _ _ _))).mono ?_
    rintro e w1 ⟨rfl, hb1⟩
    have B3 := Q.hid ((Bx.new ((w.alloc (.cells #[.bool n, .slice A xs.length c] 24)).alloc (.cells #[.bool m, .slice A' ys.length c'] 24)) false (.slice none 0 0)).below hb1)
    simp only [World.size_alloc] at B3
    have HB := Q.hid ((below_alloc3 w _ _ _).trans (hb1.mono (by simp; omega)))
    clear hb1
    have k30 := B3.out.c0
    have k31 := B3.out.c1
    have f30 := B3.out.f0
    have f31 := B3.out.f1
    go_wp2
    refine bodyPost_ret (by rw [results_cell_tmp rfl]; go_simp; rfl) rfl ?_
    exact ⟨none, 0, by rw [HF.out]; rfl, by rw [HF.out]; exact Ow.nil _ _ _, below_set2 HB.out (by omega) _ _⟩

/-- is a number more than is gone through? -/
def largeB (n : Nat) : Bool := decide (40 < n) && decide (n ≤ 2048)
set_option maxHeartbeats 400000 in
theorem large_calls (n : Bool) (A : Option Addr) (c : Nat) (xs : List Int) (w : World) (hm : xs.length ≤ 9223372036854775807) :
    Calls Tryz.prog 7 #[.agg #[.bool n, .slice A xs.length c]] w fun e w' => e = .returned (.bool (largeB xs.length)) ∧ Below w.heap.size w w' := by
  by_cases h1 : 40 < xs.length
  · have d1 : decide (40 < (xs.length : Int)) = true := decide_eq_true (by omega)
    have d2 : decide (40 < xs.length) = true := decide_eq_true h1
    by_cases h2 : xs.length ≤ 2048
    · have d3 : decide ((xs.length : Int) ≤ 2048) = true := decide_eq_true (by omega)
      have d4 : decide (xs.length ≤ 2048) = true := decide_eq_true h2
      have HF : Hid (largeB xs.length = true) := by unfold largeB; rw [d2, d4]; rfl
      go_enter Tryz.func7, Tryz.ntmps7
      go_wp2
      go_ret
      exact ⟨by rw [HF.out]; rfl, below_alloc1 _ _⟩
    · have d3 : decide ((xs.length : Int) ≤ 2048) = false := decide_eq_false (by omega)
      have d4 : decide (xs.length ≤ 2048) = false := decide_eq_false h2
      have HF : Hid (largeB xs.length = false) := by unfold largeB; rw [d2, d4]; rfl
      go_enter Tryz.func7, Tryz.ntmps7
      go_wp2
      go_ret
      exact ⟨by rw [HF.out]; rfl, below_alloc1 _ _⟩
  · have d1 : decide (40 < (xs.length : Int)) = false := decide_eq_false (by omega)
    have d2 : decide (40 < xs.length) = false := decide_eq_false h1
    have HF : Hid (largeB xs.length = false) := by unfold largeB; rw [d2]; rfl
    go_enter Tryz.func7, Tryz.ntmps7
    go_wp2
    go_ret
    exact ⟨by rw [HF.out]; rfl, below_alloc1 _ _⟩

end Go.Proofs.YtidccoahjpjoaaaGreatDoor
/- Package whole: lent numbers, and that they are as they were; what each call does. -/
set_option linter.unusedVariables false
set_option linter.unusedSimpArgs false
namespace Go.Proofs.YtidccoahjpjoaaaGreatDoor
open Go Go.RowKit Q

theorem set2_cell {w : World} {g g' i : Nat} {u1 u2 v : Value} (hne : g ≠ g') (h : w.cell? ⟨g, i, none⟩ = some v) : ((w.setCell ⟨g', 0, none⟩ u1).setCell ⟨g', 1, none⟩ u2).cell? ⟨g, i, none⟩ = some v := by
  rw [← h]
  exact ((grown_set (w := w.setCell ⟨g', 0, none⟩ u1) (g := g') (i := 1) u2).cell ((grown_set (w := w) (g := g') (i := 0) u1).cell h (by simpa using hne)) (by simpa using hne)).trans h.symm

set_option maxHeartbeats 1000000 in
theorem LentWhole_calls (n : Bool) (A : Option Addr) (c : Nat) (xs : List Int) (w : World) (h : In w A c xs) :
    Calls Tryz.prog 8 #[.agg #[.bool n, .slice A xs.length c]] w fun e w' => ∃ B d, e = .returned (.agg #[.bool n, .slice B xs.length d]) ∧ Ow w' 50 w.heap.size (.slice B (lent xs).length d) (lent xs) ∧ Below w.heap.size w w' := by
  have H := Q.hid h
  have hm : xs.length ≤ 9223372036854775807 := by have := h.small; omega
  clear h
  obtain ⟨W, hW⟩ : ∃ W, W = ((w.alloc (.cells #[.bool n, .slice A xs.length c] 24)).alloc (.cells #[.bool false, .slice none 0 0] 24)) := ⟨_, rfl⟩
  have B1 : Hid (Bx W w.heap.size n (.slice A xs.length c)) := by rw [hW]; exact (Bx.new w n (.slice A xs.length c)).alloc _
  have B3 : Hid (Bx W (w.heap.size + 1) false (.slice none 0 0)) := by
    have := Bx.new (w.alloc (.cells #[.bool n, .slice A xs.length c] 24)) false (.slice none 0 0)
    simp only [World.size_alloc] at this
    rw [hW]; exact this
  have HB : Hid (Below w.heap.size w W) := by rw [hW]; exact below_alloc2 w _ _
  have hg3 : w.heap.size + 1 < W.heap.size := B3.out.lt
  have HX : Hid (Rd W A xs) := (H.out.below HB.out).rd
  have k10 := B1.out.c0
  have k11 := B1.out.c1
  go_enter Tryz.func8, Tryz.ntmps8
  go_wp2
  rw [← hW]
  clear hW
  go_region_held3 (fun w' => w'.cell? ⟨w.heap.size, 0, none⟩ = some (.bool n) ∧ w'.cell? ⟨w.heap.size, 1, none⟩ = some (.slice A xs.length c)) (first | exact ⟨k10, k11⟩ | exact ⟨set2_cell (by omega) k10, set2_cell (by omega) k11⟩) (first
    | (go_at_call 30
       refine (LentWords_calls A c xs _ ?_ H.out.small).mono ?_
       exact HX.out
       rintro e w2 ⟨v, rfl, ho, hb⟩
       obtain ⟨A2, c2, e2, hc1, hc2, _⟩ := ho.slice
       subst e2
       have hbb : Below W.heap.size W w2 := ⟨hb.os, hb.tape, hb.output, hb.size, hb.block⟩
       have HO2 : Hid (Ow w2 50 W.heap.size (.slice A2 (lent xs).length c2) (lent xs)) := ho
       have hll : (lent xs).length = xs.length + 3 := lent_length xs
       have hle : xs.length ≤ c2 := by omega
       have hcm : c2 ≤ 9223372036854775807 := by simpa [maxLen] using hc2
       have hl0 : xs.length ≤ (lent xs).length := by omega
       have B1' := Q.hid (B1.out.below hbb)
       have B3' := Q.hid (B3.out.below hbb)
       have HB' := Q.hid (bs2 HB.out hbb)
       clear ho hb hbb hc1 hc2 k10 k11 hll
       have k10 := B1'.out.c0
       have k11 := B1'.out.c1
       have k30 := B3'.out.c0
       have k31 := B3'.out.c1
       have f30 := B3'.out.f0
       have f31 := B3'.out.f1))
  all_goals
    go_wp2
    refine bodyPost_ret (by rw [results_cell1 rfl]; go_simp; rfl) rfl ?_
    exact ⟨A2, c2, rfl, far2 HO2.out (by omega) (by omega) _ _, below_set2 HB'.out (by omega) _ _⟩

theorem KeptWords_eq (A A' : Option Addr) (c c' : Nat) (ys : List Int) (w : World) (h : Rd w A (lent ys)) (h' : Rd w A' ys) (hm : ys.length * 4 ≤ 140737488351232) :
    Calls Tryz.prog 39 #[.slice A (ys.length + 3) c, .slice A' ys.length c'] w fun e w' => e = .returned (.bool true) ∧ Below w.heap.size w w' := by
  have HK := KeptWords_calls A A' c c' (lent ys) ys w h h' hm (by rw [lent_length]; omega)
  rw [lent_length] at HK
  exact HK.mono fun e w' ⟨he, hb⟩ => ⟨by rw [he]; simp, hb⟩

set_option maxHeartbeats 1000000 in
theorem KeptWhole_calls (n : Bool) (A A1 : Option Addr) (c c1 : Nat) (xs : List Int) (w : World) (h : In w A c xs) (h1 : Rd w A1 (lent xs)) (hc : xs.length + 3 ≤ c1) (hc2 : c1 ≤ 9223372036854775807) :
    Calls Tryz.prog 14 #[.agg #[.bool n, .slice A1 xs.length c1], .agg #[.bool n, .slice A xs.length c]] w fun e w' => e = .returned (.bool true) ∧ Below w.heap.size w w' := by
  have H := Q.hid h
  have H1 := Q.hid h1
  have hm : xs.length ≤ 92233720368547758 := by have := h.small; omega
  clear h h1
  have hn : (n == n) = true := by simp
  have hcI : (xs.length : Int) + 3 ≤ (c1 : Int) := by omega
  have hcZ : (0 : Int) ≤ (xs.length : Int) + 3 := by omega
  have hcT : ((xs.length : Int) + 3).toNat = xs.length + 3 := by omega
  have hcU : IntKind.i64.wrap ((xs.length : Int) + 3) = (xs.length : Int) + 3 := by rw [IntKind.wrap_i64]; omega
  have hcW : wrap64 ((xs.length : Int) + 3) = (xs.length : Int) + 3 := by unfold wrap64; omega
  have hc0 : xs.length ≤ c1 := by omega
  have hl : ((xs.length : Int) == (xs.length : Int)) = true := by simp
  have hl2 : (xs.length == xs.length) = true := by simp
  obtain ⟨W, hW⟩ : ∃ W, W = ((w.alloc (.cells #[.bool n, .slice A1 xs.length c1] 24)).alloc (.cells #[.bool n, .slice A xs.length c] 24)) := ⟨_, rfl⟩
  have B1 : Hid (Bx W w.heap.size n (.slice A1 xs.length c1)) := by rw [hW]; exact (Bx.new w n (.slice A1 xs.length c1)).alloc _
  have B2 : Hid (Bx W (w.heap.size + 1) n (.slice A xs.length c)) := by
    have := Bx.new (w.alloc (.cells #[.bool n, .slice A1 xs.length c1] 24)) n (.slice A xs.length c)
    simp only [World.size_alloc] at this
    rw [hW]; exact this
  have HB : Hid (Below w.heap.size w W) := by rw [hW]; exact below_alloc2 w _ _
  have HR1 : Hid (Rd W A1 (lent xs)) := H1.out.below HB.out
  have HR2 : Hid (Rd W A xs) := (H.out.below HB.out).rd
  have k10 := B1.out.c0
  have k11 := B1.out.c1
  have k20 := B2.out.c0
  have k21 := B2.out.c1
  go_enter Tryz.func14, Tryz.ntmps14
  go_wp2
  rw [← hW]
  clear hW
  go_region_held3 (fun w' => w'.cell? ⟨w.heap.size, 0, none⟩ = some (.bool n) ∧ w'.cell? ⟨w.heap.size, 1, none⟩ = some (.slice A1 xs.length c1) ∧ w'.cell? ⟨w.heap.size + 1, 0, none⟩ = some (.bool n) ∧ w'.cell? ⟨w.heap.size + 1, 1, none⟩ = some (.slice A xs.length c)) (exact ⟨k10, k11, k20, k21⟩) (first
    | (go_at_call 39
       refine (KeptWords_eq A1 A c1 c xs _ ?_ ?_ H.out.small).mono ?_
       exact HR1.out
       exact HR2.out
       rintro e w2 ⟨rfl, hb⟩
       have hbb : Below W.heap.size W w2 := ⟨hb.os, hb.tape, hb.output, hb.size, hb.block⟩
       have HB' := Q.hid (bs2 HB.out hbb)
       have B1' := Q.hid (B1.out.below hbb)
       have B2' := Q.hid (B2.out.below hbb)
       clear hb hbb k10 k11 k20 k21
       have k10 := B1'.out.c0
       have k11 := B1'.out.c1
       have k20 := B2'.out.c0
       have k21 := B2'.out.c1))
  all_goals
    go_wp2
    go_ret
    exact ⟨rfl, HB'.out⟩

theorem SameWhole_eq (n : Bool) (A A' : Option Addr) (c c' : Nat) (xs : List Int) (w : World) (h : Rd w A xs) (h' : Rd w A' xs) (hm : xs.length ≤ 9223372036854775807) :
    Calls Tryz.prog 17 #[.agg #[.bool n, .slice A xs.length c], .agg #[.bool n, .slice A' xs.length c']] w fun e w' => e = .returned (.bool true) ∧ Below w.heap.size w w' :=
  (SameWhole_calls n n A A' c c' xs xs w h h' hm).mono fun e w' ⟨he, hb⟩ => ⟨by rw [he]; simp, hb⟩

set_option maxHeartbeats 400000 in
theorem wone_calls (n m : Bool) (e f : Int) (A A' : Option Addr) (c c' : Nat) (xs ys : List Int) (w : World) (h : Rd w A xs) (h' : Rd w A' ys) (hm : xs.length ≤ 9223372036854775807) (he : e = f) (hn : n = m) (hx : xs = ys) :
    Calls Tryz.prog 13 #[.agg #[.bool n, .slice A xs.length c], .int .i64 e, .agg #[.bool m, .slice A' ys.length c'], .int .i64 f] w fun r w' => r = .returned (.bool true) ∧ Below w.heap.size w w' := by
  subst he hn hx
  have H := Q.hid h
  have H' := Q.hid h'
  clear h h'
  have he : (e == e) = true := by simp
  go_enter Tryz.func13, Tryz.ntmps13
  go_wp2_with fail
  refine (SameWhole_eq n A A' c c' xs _ (H.out.below (below_alloc2 _ _ _)) (H'.out.below (below_alloc2 _ _ _)) hm).mono ?_
  rintro r w1 ⟨rfl, hb⟩
  have HB := Q.hid ((below_alloc2 w _ _).trans (hb.mono (by simp; omega)))
  clear hb
  go_wp2
  go_ret
  exact ⟨rfl, HB.out⟩
end Go.Proofs.YtidccoahjpjoaaaGreatDoor
/- Package whole: quotients and rests; what the call does. -/
set_option linter.unusedVariables false
set_option linter.unusedSimpArgs false
namespace Go.Proofs.YtidccoahjpjoaaaGreatDoor
open Go Go.RowKit Q

theorem results_cell2_tmp {P : Program} {fn : Func} {p q u : Tmp} {ty ty2 : TypeId} (h : fn.results = #[.cell p ty, .cell q ty2, .tmp u]) (tmps : Array Value) (w : World) :
    (results fn tmps).run P w = ((asAddr (tmps.getD p undef)).run P w).andThen fun a w₁ => ((loadVar ty a).run P w₁).andThen fun v w₂ => ((asAddr (tmps.getD q undef)).run P w₂).andThen fun b w₃ => ((loadVar ty2 b).run P w₃).andThen fun v2 w₄ => .ok (.tuple #[v, v2, tmps.getD u undef]) w₄ := by
  simp only [results, h]
  simp [Sem.run_bind, Result.andThen]
/-- two rows of the call's own, as its results' cells are written -/
structure DmSt (w wk : World) (B : Nat) (v1 : Value) (xs1 : List Int) (v2 : Value) (xs2 : List Int) : Prop where
  o1 : Ow wk 50 B v1 xs1
  o2 : Ow wk 50 B v2 xs2
  below : Below w.heap.size w wk
theorem DmSt.set {w wk : World} {B g i : Nat} {v1 v2 : Value} {xs1 xs2 : List Int} (h : DmSt w wk B v1 xs1 v2 xs2) (hg : w.heap.size ≤ g) (hB : g < B) (u : Value) : DmSt w (wk.setCell ⟨g, i, none⟩ u) B v1 xs1 v2 xs2 :=
  ⟨h.o1.far (fun e => by have := (h.o1.base g e).1; omega) _ _, h.o2.far (fun e => by have := (h.o2.base g e).1; omega) _ _, h.below.setCell hg _⟩
theorem DmSt.drew {w wk : World} {B : Nat} {v1 v2 : Value} {xs1 xs2 : List Int} (h : DmSt w wk B v1 xs1 v2 xs2) : DmSt w wk.drew B v1 xs1 v2 xs2 := ⟨h.o1, h.o2, h.below.drew⟩
theorem Apart2.keep {u v u' v' : Value} (h : Apart2 u v) (hu : u'.ownBlock = u.ownBlock ∨ u'.ownBlock = none) (hv : v'.ownBlock = v.ownBlock ∨ v'.ownBlock = none) : Apart2 u' v' := by
  rcases hu with hu | hu
  · rcases h with h | h
    · exact .inl (hu.trans h)
    · by_cases hn : u.ownBlock = none
      · exact .inl (hu.trans hn)
      · rcases hv with hv | hv
        · exact .inr (by rw [hu, hv]; exact h)
        · exact .inr (by rw [hu, hv]; exact hn)
  · exact .inl hu
theorem chkW_nwd {k : Int} (hk : 0 ≤ k) (h : k < Bp 2048) : chkW false (nwd k) = 0 := chkW_zero.2 ⟨nwd_len_le h hk, nwd_tr k, fun _ => rfl⟩
theorem quo_told {n m : Bool} {xs ys : List Int} (hx : Wds xs) (h : chkW2 n xs m ys = 0) (hy : ys ≠ []) : quoW n xs m ys = ⟨cn (wv n xs / wv m ys), cw (wv n xs / wv m ys), 0⟩ := by
  unfold quoW; rw [if_pos h, if_neg hy]; exact toldW_can (quo_lt hx (chkW2_zero.1 h).1 _)
theorem rem_told {n m : Bool} {xs ys : List Int} (hw : Wds ys) (h : chkW2 n xs m ys = 0) (hy : ys ≠ []) : remW n xs m ys = ⟨cn (wv n xs % wv m ys), cw (wv n xs % wv m ys), 0⟩ := by
  unfold remW; rw [if_pos h, if_neg hy]; exact toldW_can (rem_lt hw (chkW2_zero.1 h).2 hy _).1
theorem md_can {n : Bool} {k v : Int} (hk : 0 ≤ k) (hv : sg n k = v) (hs : Sh v) : mdW n (nwd k) = ⟨cn v, cw v, 0⟩ := by
  rw [mdW_sg hk, hv]; exact toldW_can hs

set_option maxHeartbeats 4000000 in
set_option maxRecDepth 100000 in
theorem wDivMod_calls (n m : Bool) (A A' : Option Addr) (c c' : Nat) (xs ys : List Int) (w : World) (h : In w A c xs) (h' : In w A' c' ys) :
    Calls Tryz.prog 18 #[.agg #[.bool n, .slice A xs.length c], .agg #[.bool m, .slice A' ys.length c']] w fun e w' => ∃ B d B' d', e = .returned (.tuple #[.agg #[.bool (quoW n xs m ys).neg, .slice B (quoW n xs m ys).ws.length d], .agg #[.bool (remW n xs m ys).neg, .slice B' (remW n xs m ys).ws.length d'], .int .i64 (quoW n xs m ys).err]) ∧ Ow w' 50 w.heap.size (.slice B (quoW n xs m ys).ws.length d) (quoW n xs m ys).ws ∧ Ow w' 50 w.heap.size (.slice B' (remW n xs m ys).ws.length d') (remW n xs m ys).ws ∧ Apart2 (.slice B (quoW n xs m ys).ws.length d) (.slice B' (remW n xs m ys).ws.length d') ∧ Below w.heap.size w w' := by
  have H := Q.hid h
  have H' := Q.hid h'
  have hw := h.wds
  have hw' := h'.wds
  clear h h'
  obtain ⟨W, hW⟩ : ∃ W, W = ((((w.alloc (.cells #[.bool n, .slice A xs.length c] 24)).alloc (.cells #[.bool m, .slice A' ys.length c'] 24)).alloc (.cells #[.bool false, .slice none 0 0] 24)).alloc (.cells #[.bool false, .slice none 0 0] 24)) := ⟨_, rfl⟩
  have B1 : Hid (Bx W w.heap.size n (.slice A xs.length c)) := by rw [hW]; exact (((Bx.new w n (.slice A xs.length c)).alloc _).alloc _).alloc _
  have B2 : Hid (Bx W (w.heap.size + 1) m (.slice A' ys.length c')) := by
    have := ((Bx.new (w.alloc (.cells #[.bool n, .slice A xs.length c] 24)) m (.slice A' ys.length c')).alloc (.cells #[.bool false, .slice none 0 0] 24)).alloc (.cells #[.bool false, .slice none 0 0] 24)
    simp only [World.size_alloc] at this
    rw [hW]; exact this
  have B3 : Hid (Bx W (w.heap.size + 1 + 1) false (.slice none 0 0)) := by
    have := (Bx.new ((w.alloc (.cells #[.bool n, .slice A xs.length c] 24)).alloc (.cells #[.bool m, .slice A' ys.length c'] 24)) false (.slice none 0 0)).alloc (.cells #[.bool false, .slice none 0 0] 24)
    simp only [World.size_alloc] at this
    rw [hW]; exact this
  have B4 : Hid (Bx W (w.heap.size + 1 + 1 + 1) false (.slice none 0 0)) := by
    have := Bx.new (((w.alloc (.cells #[.bool n, .slice A xs.length c] 24)).alloc (.cells #[.bool m, .slice A' ys.length c'] 24)).alloc (.cells #[.bool false, .slice none 0 0] 24)) false (.slice none 0 0)
    simp only [World.size_alloc] at this
    rw [hW]; exact this
  have HB : Hid (Below w.heap.size w W) := by rw [hW]; exact below_alloc4 w _ _ _ _
  have hg4 : w.heap.size + 1 + 1 + 1 < W.heap.size := B4.out.lt
  have HX : Hid (In W A c xs) := H.out.below HB.out
  have HX' : Hid (In W A' c' ys) := H'.out.below HB.out
  have k10 := B1.out.c0
  have k11 := B1.out.c1
  have k20 := B2.out.c0
  have k21 := B2.out.c1
  by_cases h0 : chkW2 n xs m ys = 0
  · have hb0 : (chkW2 n xs m ys != 0) = false := by simp [h0]
    by_cases hy : ys = []
    · have HF : Hid (quoW n xs m ys = noW 7 ∧ remW n xs m ys = noW 7) := ⟨(if_pos h0).trans (if_pos hy), (if_pos h0).trans (if_pos hy)⟩
      have hl1 : ((ys.length : Int) == 0) = true := by rw [hy]; rfl
      have hl2 : (ys.length == 0) = true := by rw [hy]; rfl
      have HY := Q.hid hy
      clear h0 hy hw hw'
      go_enter Tryz.func18, Tryz.ntmps18
      go_wp2_with fail
      rw [← hW]
      clear hW
      refine (wboth_calls n m A A' c c' xs ys _ HX.out HX'.out).mono ?_
      rintro e w1 ⟨rfl, hb⟩
      have HX := Q.hid (HX.out.below hb)
      have HX' := Q.hid (HX'.out.below hb)
      have hg4 : w.heap.size + 1 + 1 + 1 < w1.heap.size := Nat.lt_of_lt_of_le hg4 hb.size
      have B1 := Q.hid (B1.out.below hb)
      have B2 := Q.hid (B2.out.below hb)
      have B3 := Q.hid (B3.out.below hb)
      have B4 := Q.hid (B4.out.below hb)
      have HB := Q.hid (bs2 HB.out hb)
      clear hb k10 k11 k20 k21
      have k10 := B1.out.c0
      have k11 := B1.out.c1
      have k20 := B2.out.c0
      have k21 := B2.out.c1
      have k30 := B3.out.c0
      have k31 := B3.out.c1
      have k40 := B4.out.c0
      have k41 := B4.out.c1
      have f30 := B3.out.f0
      have f31 := B3.out.f1
      have f40 := B4.out.f0
      have f41 := B4.out.f1
      have HB2 := HB
      go_wp2
      go_region
      all_goals
        go_wp2
        refine bodyPost_ret (by rw [results_cell2_tmp rfl]; go_simp; rfl) rfl ?_
        exact ⟨none, 0, none, 0, by rw [HF.out.1, HF.out.2]; rfl, by rw [HF.out.1]; exact Ow.nil _ _ _, by rw [HF.out.2]; exact Ow.nil _ _ _, .inl rfl, by repeat' first | exact HB.out | exact HB2.out | refine Below.drew ?_ | refine Below.setCell ?_ (by simp; omega) _⟩
    · have hc := chkW2_zero.1 h0
      have hcx := chkW_zero.1 hc.1
      have hcy := chkW_zero.1 hc.2
      have X0 := val_nonneg hw
      have Y0 := val_pos hw' hcy.2.1 hy
      have hxl := val_lt_len hw hcx.1
      have hyl := val_lt_len hw' hcy.1
      have HF : Hid (quoW n xs m ys = ⟨cn (wv n xs / wv m ys), cw (wv n xs / wv m ys), 0⟩ ∧ remW n xs m ys = ⟨cn (wv n xs % wv m ys), cw (wv n xs % wv m ys), 0⟩) := ⟨quo_told hw h0 hy, rem_told hw' h0 hy⟩
      have HS : Hid (divS xs ys = (nwd (val xs / val ys), nwd (val xs % val ys), 0)) := by unfold divS; rw [if_pos (chkW2_chk2 h0), if_neg hy]; rfl
      have hl1 : ((ys.length : Int) == 0) = false := by have := List.length_pos_iff.2 hy; simp; omega
      have hl2 : (ys.length == 0) = false := by have := List.length_pos_iff.2 hy; simp; omega
      have hq0 := Int.ediv_nonneg X0 (Int.le_of_lt Y0)
      have hq1 := Int.ediv_le_self (val ys) X0
      have hr0 := Int.emod_nonneg (val xs) (show val ys ≠ 0 by omega)
      have hr1 := Int.emod_lt_of_pos (val xs) Y0
      have hsq : Sh (wv n xs / wv m ys) := quo_lt hw hc.1 _
      have hsr : Sh (wv n xs % wv m ys) := (rem_lt hw' hc.2 hy _).1
      by_cases hQ : n = true ∧ val xs % val ys ≠ 0
      · obtain ⟨rfl, hne⟩ := hQ
        have hqp := quo_more (n := true) (m := m) Y0 rfl hne
        have hy2 : 2 ≤ val ys := by omega
        have hq2 : val xs / val ys + 1 < Bp 2048 := by
          have : val xs / val ys * 2 ≤ val xs / val ys * val ys := Int.mul_le_mul_of_nonneg_left hy2 hq0
          have e := Int.mul_ediv_add_emod (val xs) (val ys)
          rw [Int.mul_comm] at e
          have := Bp_mono (show 1 ≤ 2048 by omega)
          have e1 : Bp 1 = 4294967296 := by decide
          omega
        have hbm : (true != m) = !m := by cases m <;> rfl
        have HQ : Hid (mdW (!m) (nwd (val xs / val ys + 1)) = ⟨cn (wv true xs / wv m ys), cw (wv true xs / wv m ys), 0⟩) := by rw [← hbm]; exact md_can (by omega) hqp.1.symm hsq
        have HR : Hid (mdW false (nwd (val ys - val xs % val ys)) = ⟨cn (wv true xs % wv m ys), cw (wv true xs % wv m ys), 0⟩) := md_can (by omega) hqp.2.symm hsr
        have hnz : nwd (val xs % val ys) ≠ [] := fun e => hne ((nwd_nil_iff hr0).1 e)
        have hd1 : decide (0 < ((nwd (val xs % val ys)).length : Int)) = true := decide_eq_true (by have := List.length_pos_iff.2 hnz; omega)
        have hd2 : decide (0 < (nwd (val xs % val ys)).length) = true := decide_eq_true (List.length_pos_iff.2 hnz)
        have w1d : Wds [1] := Wds.cons (by omega) (by omega) Wds.nil
        have HS1 : Hid (addS (nwd (val xs / val ys)) [1] = (nwd (val xs / val ys + 1), 0)) := by
          have := addS_of (n := false) (m := false) (nwd_wds (val xs / val ys)) w1d (chkW2_zero.2 ⟨chkW_nwd hq0 (by omega), rfl⟩)
          rw [val_nwd hq0] at this
          simpa [val, Hid] using this
        have HS2 : Hid (subS ys (nwd (val xs % val ys)) = (nwd (val ys - val xs % val ys), 0)) := by
          have := subS_of (n := false) (m := false) (xs := ys) (ys := nwd (val xs % val ys)) (chkW2_zero.2 ⟨chkW_zero.2 ⟨hcy.1, hcy.2.1, fun _ => rfl⟩, chkW_nwd hr0 (by omega)⟩) (by rw [val_nwd hr0]; omega)
          rwa [val_nwd hr0] at this
        have hlq : (nwd (val xs / val ys)).length ≤ 2048 := nwd_len_le (by omega) hq0
        have hlr : (nwd (val xs % val ys)).length ≤ 2048 := nwd_len_le (by omega) hr0
        clear h0 hy hc hcx hcy X0 Y0 hxl hyl hq0 hq1 hr0 hr1 hsq hsr hne hqp hw hw' hy2 hq2 hnz hbm
        go_enter Tryz.func18, Tryz.ntmps18
        go_wp2_with fail
        rw [← hW]
        clear hW
        refine (wboth_calls true m A A' c c' xs ys _ HX.out HX'.out).mono ?_
        rintro e w1 ⟨rfl, hb⟩
        have HX := Q.hid (HX.out.below hb)
        have HX' := Q.hid (HX'.out.below hb)
        have hg4 : w.heap.size + 1 + 1 + 1 < w1.heap.size := Nat.lt_of_lt_of_le hg4 hb.size
        have B1 := Q.hid (B1.out.below hb)
        have B2 := Q.hid (B2.out.below hb)
        have B3 := Q.hid (B3.out.below hb)
        have B4 := Q.hid (B4.out.below hb)
        have HB := Q.hid (bs2 HB.out hb)
        clear hb k10 k11 k20 k21
        have k10 := B1.out.c0
        have k11 := B1.out.c1
        have k20 := B2.out.c0
        have k21 := B2.out.c1
        go_wp2_with fail
        refine (DivMod_calls A A' c c' xs ys _ HX.out HX'.out).mono ?_
        rintro e w2 ⟨v, v', rfl, ho, ho', ha, hb⟩
        rw [HS.out] at ho ho' ⊢
        obtain ⟨A2, c2, e2, _⟩ := ho.slice
        subst e2
        obtain ⟨A3, c3, e3, _⟩ := ho'.slice
        subst e3
        have HX := Q.hid (HX.out.below hb)
        have HX' := Q.hid (HX'.out.below hb)
        have HA := Q.hid ha
        have HD := Q.hid (⟨ho, ho', bs2 HB.out hb⟩ : DmSt w w2 w1.heap.size _ _ _ _)
        have hw12 := Q.hid hb.size
        have B1 := Q.hid (B1.out.below hb)
        have B2 := Q.hid (B2.out.below hb)
        have B3 := Q.hid (B3.out.below hb)
        have B4 := Q.hid (B4.out.below hb)
        have HB := Q.hid (bs2 HB.out hb)
        clear ho ho' ha hb k10 k11 k20 k21
        have k10 := B1.out.c0
        have k11 := B1.out.c1
        have k20 := B2.out.c0
        have k21 := B2.out.c1
        have HIq : Hid (In w2 A2 c2 (nwd (val xs / val ys))) := ⟨HD.out.o1.read.2.2.2, HD.out.o1.read.2.1, by omega, nwd_wds _⟩
        have HIr : Hid (In w2 A3 c3 (nwd (val xs % val ys))) := ⟨HD.out.o2.read.2.2.2, HD.out.o2.read.2.1, by omega, nwd_wds _⟩
        have HL1 : Hid (In (w2.alloc (.cells #[.int .u32 1] 50)) (some ⟨w2.heap.size, 0, none⟩) 1 [1]) := by
          have HO := Ow.lit w2 50 w.heap.size [1] (HD.out.below.size) (by simp [maxLen])
          exact ⟨HO.read.2.2.2, by simp, by simp, Wds.cons (by omega) (by omega) Wds.nil⟩
        go_wp2_with fail
        refine (Add_calls A2 (some ⟨w2.heap.size, 0, none⟩) c2 1 (nwd (val xs / val ys)) [1] _ (HIq.out.alloc _) HL1.out).mono ?_
        rintro e w3 ⟨v, rfl, ho, hb⟩
        rw [HS1.out] at ho ⊢
        obtain ⟨A4, c4, e4, _⟩ := ho.slice
        subst e4
        have hb2 : Below w2.heap.size w2 w3 := (below_alloc1 w2 _).trans (hb.mono (by simp))
        have HO4 := Q.hid (ho.mono (B' := w1.heap.size) (by rw [World.size_alloc]; exact Nat.le_succ_of_le hw12.out))
        have hw13 := Q.hid (Nat.le_trans hw12.out hb2.size)
        have hq4 : ∀ k, (Value.slice A4 (nwd (val xs / val ys + 1)).length c4).ownBlock = some k → k < w3.heap.size := fun k hk => (ho.base k hk).2
        have HQ4 := Q.hid hq4
        have HIr := Q.hid (HIr.out.below hb2)
        have HX' := Q.hid (HX'.out.below hb2)
        have B1 := Q.hid (B1.out.below hb2)
        have B2 := Q.hid (B2.out.below hb2)
        have B3 := Q.hid (B3.out.below hb2)
        have B4 := Q.hid (B4.out.below hb2)
        have HB := Q.hid (bs2 HB.out hb2)
        clear ho hb hb2 hq4 HIq HL1 HD HA k10 k11 k20 k21
        have k10 := B1.out.c0
        have k11 := B1.out.c1
        have k20 := B2.out.c0
        have k21 := B2.out.c1
        go_wp2_with fail
        refine (Sub_calls A' A3 c' c3 ys (nwd (val xs % val ys)) _ HX'.out HIr.out).mono ?_
        rintro e w4 ⟨v, rfl, ho, hb⟩
        rw [HS2.out] at ho ⊢
        obtain ⟨A5, c5, e5, _⟩ := ho.slice
        subst e5
        have HA : Hid (Apart2 (.slice A4 (nwd (val xs / val ys + 1)).length c4) (.slice A5 (nwd (val ys - val xs % val ys)).length c5)) := by
          by_cases hn : (Value.slice A4 (nwd (val xs / val ys + 1)).length c4).ownBlock = none
          · exact .inl hn
          · obtain ⟨k, hk⟩ := Option.ne_none_iff_exists'.1 hn
            refine .inr fun e => ?_
            have a := HQ4.out k hk
            have b := (ho.base k (by rw [← e]; exact hk)).1
            omega
        have HD := Q.hid (⟨HO4.out.below hb, ho.mono hw13.out, bs2 HB.out hb⟩ : DmSt w w4 w1.heap.size _ _ _ _)
        have B1 := Q.hid (B1.out.below hb)
        have B2 := Q.hid (B2.out.below hb)
        have B3 := Q.hid (B3.out.below hb)
        have B4 := Q.hid (B4.out.below hb)
        have HB := Q.hid (bs2 HB.out hb)
        clear ho hb HO4 HQ4 k10 k11 k20 k21
        have k10 := B1.out.c0
        have k11 := B1.out.c1
        have k20 := B2.out.c0
        have k21 := B2.out.c1
        go_wp2_with fail
        refine (wmade_calls2 (!m) A4 c4 w1.heap.size (nwd (val xs / val ys + 1)) _ HD.out.o1).mono ?_
        rintro e w6 ⟨A6, c6, rfl, ho, hb, hob⟩
        rw [HQ.out] at ho hob ⊢
        have HA := Q.hid (Apart2.keep HA.out hob (.inl rfl))
        have HD := Q.hid (⟨ho, HD.out.o2.below hb, bs2 HD.out.below hb⟩ : DmSt w w6 w1.heap.size _ _ _ _)
        have B3 := Q.hid (B3.out.below hb)
        have B4 := Q.hid (B4.out.below hb)
        have HB := Q.hid (bs2 HB.out hb)
        clear ho hb hob k10 k11 k20 k21
        have k30 := B3.out.c0
        have k31 := B3.out.c1
        have f30 := B3.out.f0
        have f31 := B3.out.f1
        obtain ⟨W6, hW6⟩ : ∃ W6, W6 = ((w6.setCell ⟨w.heap.size + 1 + 1, 0, none⟩ (.bool (cn (wv true xs / wv m ys)))).setCell ⟨w.heap.size + 1 + 1, 1, none⟩ (.slice A6 (cw (wv true xs / wv m ys)).length c6)) := ⟨_, rfl⟩
        have B3 := Q.hid (B3.out.over (cn (wv true xs / wv m ys)) (.slice A6 (cw (wv true xs / wv m ys)).length c6))
        have B4 := Q.hid ((B4.out.far (g' := w.heap.size + 1 + 1) (by omega) 0 (.bool (cn (wv true xs / wv m ys)))).far (g' := w.heap.size + 1 + 1) (by omega) 1 (.slice A6 (cw (wv true xs / wv m ys)).length c6))
        have HD := Q.hid ((HD.out.set (i := 0) (g := w.heap.size + 1 + 1) (by omega) (by omega) (.bool (cn (wv true xs / wv m ys)))).set (i := 1) (g := w.heap.size + 1 + 1) (by omega) (by omega) (.slice A6 (cw (wv true xs / wv m ys)).length c6))
        rw [← hW6] at B3 B4 HD
        go_wp2_with fail
        rw [← hW6]
        clear hW6 k30 k31 f30 f31
        refine (wmade_calls2 false A5 c5 w1.heap.size (nwd (val ys - val xs % val ys)) _ HD.out.o2).mono ?_
        rintro e w7 ⟨A7, c7, rfl, ho, hb, hob⟩
        rw [HR.out] at ho hob ⊢
        have HA := Q.hid (Apart2.keep HA.out (.inl rfl) hob)
        have HD := Q.hid (⟨HD.out.o1.below hb, ho, bs2 HD.out.below hb⟩ : DmSt w w7 w1.heap.size _ _ _ _)
        have B3 := Q.hid (B3.out.below hb)
        have B4 := Q.hid (B4.out.below hb)
        clear ho hb hob
        have k40 := B4.out.c0
        have k41 := B4.out.c1
        have f40 := B4.out.f0
        have f41 := B4.out.f1
        obtain ⟨W7, hW7⟩ : ∃ W7, W7 = ((w7.setCell ⟨w.heap.size + 1 + 1 + 1, 0, none⟩ (.bool (cn (wv true xs % wv m ys)))).setCell ⟨w.heap.size + 1 + 1 + 1, 1, none⟩ (.slice A7 (cw (wv true xs % wv m ys)).length c7)) := ⟨_, rfl⟩
        have B4 := Q.hid (B4.out.over (cn (wv true xs % wv m ys)) (.slice A7 (cw (wv true xs % wv m ys)).length c7))
        have B3 := Q.hid ((B3.out.far (g' := w.heap.size + 1 + 1 + 1) (by omega) 0 (.bool (cn (wv true xs % wv m ys)))).far (g' := w.heap.size + 1 + 1 + 1) (by omega) 1 (.slice A7 (cw (wv true xs % wv m ys)).length c7))
        have HD := Q.hid ((HD.out.set (i := 0) (g := w.heap.size + 1 + 1 + 1) (by omega) (by omega) (.bool (cn (wv true xs % wv m ys)))).set (i := 1) (g := w.heap.size + 1 + 1 + 1) (by omega) (by omega) (.slice A7 (cw (wv true xs % wv m ys)).length c7))
        rw [← hW7] at B3 B4 HD
        go_wp2
        rw [← hW7]
        clear hW7 k40 k41 f40 f41
        have k30 := B3.out.c0
        have k31 := B3.out.c1
        have k40 := B4.out.c0
        have k41 := B4.out.c1
        have f30 := B3.out.f0
        have f31 := B3.out.f1
        have f40 := B4.out.f0
        have f41 := B4.out.f1
        go_region
        all_goals
          go_wp2
          refine bodyPost_ret (by rw [results_cell2_tmp rfl]; go_simp; rfl) rfl ?_
          exact ⟨A6, c6, A7, c7, by rw [HF.out.1, HF.out.2], by rw [HF.out.1]; refine (DmSt.o1 (w := w) (B := w1.heap.size) (v2 := .slice A7 (cw (wv true xs % wv m ys)).length c7) (xs2 := cw (wv true xs % wv m ys)) ?_).mono (by omega); (repeat' first | (refine DmSt.drew ?_) | (refine DmSt.set ?_ (by omega) (by omega) _)); exact HD.out, by rw [HF.out.2]; refine (DmSt.o2 (w := w) (B := w1.heap.size) (v1 := .slice A6 (cw (wv true xs / wv m ys)).length c6) (xs1 := cw (wv true xs / wv m ys)) ?_).mono (by omega); (repeat' first | (refine DmSt.drew ?_) | (refine DmSt.set ?_ (by omega) (by omega) _)); exact HD.out, by rw [HF.out.1, HF.out.2]; exact HA.out, by refine DmSt.below (B := w1.heap.size) (v1 := .slice A6 (cw (wv true xs / wv m ys)).length c6) (xs1 := cw (wv true xs / wv m ys)) (v2 := .slice A7 (cw (wv true xs % wv m ys)).length c7) (xs2 := cw (wv true xs % wv m ys)) ?_; (repeat' first | (refine DmSt.drew ?_) | (refine DmSt.set ?_ (by omega) (by omega) _)); exact HD.out⟩
      · have hor : n = false ∨ val xs % val ys = 0 := by cases n <;> simp_all
        have hqp := quo_plain (n := n) (m := m) Y0 hor
        have HQ : Hid (mdW (n != m) (nwd (val xs / val ys)) = ⟨cn (wv n xs / wv m ys), cw (wv n xs / wv m ys), 0⟩) := md_can hq0 hqp.1.symm hsq
        have HR : Hid (mdW false (nwd (val xs % val ys)) = ⟨cn (wv n xs % wv m ys), cw (wv n xs % wv m ys), 0⟩) := md_can hr0 hqp.2.symm hsr
        have hcs : n = false ∨ (n = true ∧ decide (0 < ((nwd (val xs % val ys)).length : Int)) = false ∧ decide (0 < (nwd (val xs % val ys)).length) = false) := by
          cases n with
          | false => exact .inl rfl
          | true =>
            have h0 : val xs % val ys = 0 := by simpa using hor
            rw [h0, nwd_zero]
            exact .inr ⟨rfl, rfl, rfl⟩
        clear h0 hy hc hcx hcy X0 Y0 hxl hyl hq0 hq1 hr0 hr1 hsq hsr hQ hor hqp hw hw'
        rcases hcs with rfl | ⟨rfl, hd1, hd2⟩
        · have HQ : Hid (mdW m (nwd (val xs / val ys)) = ⟨cn (wv false xs / wv m ys), cw (wv false xs / wv m ys), 0⟩) := by have := HQ.out; rwa [show (false != m) = m by cases m <;> rfl] at this
          go_enter Tryz.func18, Tryz.ntmps18
          go_wp2_with fail
          rw [← hW]
          clear hW
          refine (wboth_calls false m A A' c c' xs ys _ HX.out HX'.out).mono ?_
          rintro e w1 ⟨rfl, hb⟩
          have HX := Q.hid (HX.out.below hb)
          have HX' := Q.hid (HX'.out.below hb)
          have hg4 : w.heap.size + 1 + 1 + 1 < w1.heap.size := Nat.lt_of_lt_of_le hg4 hb.size
          have B1 := Q.hid (B1.out.below hb)
          have B2 := Q.hid (B2.out.below hb)
          have B3 := Q.hid (B3.out.below hb)
          have B4 := Q.hid (B4.out.below hb)
          have HB := Q.hid (bs2 HB.out hb)
          clear hb k10 k11 k20 k21
          have k10 := B1.out.c0
          have k11 := B1.out.c1
          have k20 := B2.out.c0
          have k21 := B2.out.c1
          go_wp2_with fail
          refine (DivMod_calls A A' c c' xs ys _ HX.out HX'.out).mono ?_
          rintro e w2 ⟨v, v', rfl, ho, ho', ha, hb⟩
          rw [HS.out] at ho ho' ⊢
          obtain ⟨A2, c2, e2, _⟩ := ho.slice
          subst e2
          obtain ⟨A3, c3, e3, _⟩ := ho'.slice
          subst e3
          have HX := Q.hid (HX.out.below hb)
          have HX' := Q.hid (HX'.out.below hb)
          have HA := Q.hid ha
          have HD := Q.hid (⟨ho, ho', bs2 HB.out hb⟩ : DmSt w w2 w1.heap.size _ _ _ _)
          have B1 := Q.hid (B1.out.below hb)
          have B2 := Q.hid (B2.out.below hb)
          have B3 := Q.hid (B3.out.below hb)
          have B4 := Q.hid (B4.out.below hb)
          have HB := Q.hid (bs2 HB.out hb)
          clear ho ho' ha hb k10 k11 k20 k21
          have k10 := B1.out.c0
          have k11 := B1.out.c1
          have k20 := B2.out.c0
          have k21 := B2.out.c1
          go_wp2_with fail
          refine (wmade_calls2 m A2 c2 w1.heap.size (nwd (val xs / val ys)) _ HD.out.o1).mono ?_
          rintro e w6 ⟨A6, c6, rfl, ho, hb, hob⟩
          rw [HQ.out] at ho hob ⊢
          have HA := Q.hid (Apart2.keep HA.out hob (.inl rfl))
          have HD := Q.hid (⟨ho, HD.out.o2.below hb, bs2 HD.out.below hb⟩ : DmSt w w6 w1.heap.size _ _ _ _)
          have B3 := Q.hid (B3.out.below hb)
          have B4 := Q.hid (B4.out.below hb)
          have HB := Q.hid (bs2 HB.out hb)
          clear ho hb hob k10 k11 k20 k21
          have k30 := B3.out.c0
          have k31 := B3.out.c1
          have f30 := B3.out.f0
          have f31 := B3.out.f1
          obtain ⟨W6, hW6⟩ : ∃ W6, W6 = ((w6.setCell ⟨w.heap.size + 1 + 1, 0, none⟩ (.bool (cn (wv false xs / wv m ys)))).setCell ⟨w.heap.size + 1 + 1, 1, none⟩ (.slice A6 (cw (wv false xs / wv m ys)).length c6)) := ⟨_, rfl⟩
          have B3 := Q.hid (B3.out.over (cn (wv false xs / wv m ys)) (.slice A6 (cw (wv false xs / wv m ys)).length c6))
          have B4 := Q.hid ((B4.out.far (g' := w.heap.size + 1 + 1) (by omega) 0 (.bool (cn (wv false xs / wv m ys)))).far (g' := w.heap.size + 1 + 1) (by omega) 1 (.slice A6 (cw (wv false xs / wv m ys)).length c6))
          have HD := Q.hid ((HD.out.set (i := 0) (g := w.heap.size + 1 + 1) (by omega) (by omega) (.bool (cn (wv false xs / wv m ys)))).set (i := 1) (g := w.heap.size + 1 + 1) (by omega) (by omega) (.slice A6 (cw (wv false xs / wv m ys)).length c6))
          rw [← hW6] at B3 B4 HD
          go_wp2_with fail
          rw [← hW6]
          clear hW6 k30 k31 f30 f31
          refine (wmade_calls2 false A3 c3 w1.heap.size (nwd (val xs % val ys)) _ HD.out.o2).mono ?_
          rintro e w7 ⟨A7, c7, rfl, ho, hb, hob⟩
          rw [HR.out] at ho hob ⊢
          have HA := Q.hid (Apart2.keep HA.out (.inl rfl) hob)
          have HD := Q.hid (⟨HD.out.o1.below hb, ho, bs2 HD.out.below hb⟩ : DmSt w w7 w1.heap.size _ _ _ _)
          have B3 := Q.hid (B3.out.below hb)
          have B4 := Q.hid (B4.out.below hb)
          clear ho hb hob
          have k40 := B4.out.c0
          have k41 := B4.out.c1
          have f40 := B4.out.f0
          have f41 := B4.out.f1
          obtain ⟨W7, hW7⟩ : ∃ W7, W7 = ((w7.setCell ⟨w.heap.size + 1 + 1 + 1, 0, none⟩ (.bool (cn (wv false xs % wv m ys)))).setCell ⟨w.heap.size + 1 + 1 + 1, 1, none⟩ (.slice A7 (cw (wv false xs % wv m ys)).length c7)) := ⟨_, rfl⟩
          have B4 := Q.hid (B4.out.over (cn (wv false xs % wv m ys)) (.slice A7 (cw (wv false xs % wv m ys)).length c7))
          have B3 := Q.hid ((B3.out.far (g' := w.heap.size + 1 + 1 + 1) (by omega) 0 (.bool (cn (wv false xs % wv m ys)))).far (g' := w.heap.size + 1 + 1 + 1) (by omega) 1 (.slice A7 (cw (wv false xs % wv m ys)).length c7))
          have HD := Q.hid ((HD.out.set (i := 0) (g := w.heap.size + 1 + 1 + 1) (by omega) (by omega) (.bool (cn (wv false xs % wv m ys)))).set (i := 1) (g := w.heap.size + 1 + 1 + 1) (by omega) (by omega) (.slice A7 (cw (wv false xs % wv m ys)).length c7))
          rw [← hW7] at B3 B4 HD
          go_wp2
          rw [← hW7]
          clear hW7 k40 k41 f40 f41
          have k30 := B3.out.c0
          have k31 := B3.out.c1
          have k40 := B4.out.c0
          have k41 := B4.out.c1
          have f30 := B3.out.f0
          have f31 := B3.out.f1
          have f40 := B4.out.f0
          have f41 := B4.out.f1
          go_region
          all_goals
            go_wp2
            refine bodyPost_ret (by rw [results_cell2_tmp rfl]; go_simp; rfl) rfl ?_
            exact ⟨A6, c6, A7, c7, by rw [HF.out.1, HF.out.2], by rw [HF.out.1]; refine (DmSt.o1 (w := w) (B := w1.heap.size) (v2 := .slice A7 (cw (wv false xs % wv m ys)).length c7) (xs2 := cw (wv false xs % wv m ys)) ?_).mono (by omega); (repeat' first | (refine DmSt.drew ?_) | (refine DmSt.set ?_ (by omega) (by omega) _)); exact HD.out, by rw [HF.out.2]; refine (DmSt.o2 (w := w) (B := w1.heap.size) (v1 := .slice A6 (cw (wv false xs / wv m ys)).length c6) (xs1 := cw (wv false xs / wv m ys)) ?_).mono (by omega); (repeat' first | (refine DmSt.drew ?_) | (refine DmSt.set ?_ (by omega) (by omega) _)); exact HD.out, by rw [HF.out.1, HF.out.2]; exact HA.out, by refine DmSt.below (B := w1.heap.size) (v1 := .slice A6 (cw (wv false xs / wv m ys)).length c6) (xs1 := cw (wv false xs / wv m ys)) (v2 := .slice A7 (cw (wv false xs % wv m ys)).length c7) (xs2 := cw (wv false xs % wv m ys)) ?_; (repeat' first | (refine DmSt.drew ?_) | (refine DmSt.set ?_ (by omega) (by omega) _)); exact HD.out⟩
        · have HQ : Hid (mdW (!m) (nwd (val xs / val ys)) = ⟨cn (wv true xs / wv m ys), cw (wv true xs / wv m ys), 0⟩) := by have := HQ.out; rwa [show (true != m) = !m by cases m <;> rfl] at this
          go_enter Tryz.func18, Tryz.ntmps18
          go_wp2_with fail
          rw [← hW]
          clear hW
          refine (wboth_calls true m A A' c c' xs ys _ HX.out HX'.out).mono ?_
          rintro e w1 ⟨rfl, hb⟩
          have HX := Q.hid (HX.out.below hb)
          have HX' := Q.hid (HX'.out.below hb)
          have hg4 : w.heap.size + 1 + 1 + 1 < w1.heap.size := Nat.lt_of_lt_of_le hg4 hb.size
          have B1 := Q.hid (B1.out.below hb)
          have B2 := Q.hid (B2.out.below hb)
          have B3 := Q.hid (B3.out.below hb)
          have B4 := Q.hid (B4.out.below hb)
          have HB := Q.hid (bs2 HB.out hb)
          clear hb k10 k11 k20 k21
          have k10 := B1.out.c0
          have k11 := B1.out.c1
          have k20 := B2.out.c0
          have k21 := B2.out.c1
          go_wp2_with fail
          refine (DivMod_calls A A' c c' xs ys _ HX.out HX'.out).mono ?_
          rintro e w2 ⟨v, v', rfl, ho, ho', ha, hb⟩
          rw [HS.out] at ho ho' ⊢
          obtain ⟨A2, c2, e2, _⟩ := ho.slice
          subst e2
          obtain ⟨A3, c3, e3, _⟩ := ho'.slice
          subst e3
          have HX := Q.hid (HX.out.below hb)
          have HX' := Q.hid (HX'.out.below hb)
          have HA := Q.hid ha
          have HD := Q.hid (⟨ho, ho', bs2 HB.out hb⟩ : DmSt w w2 w1.heap.size _ _ _ _)
          have B1 := Q.hid (B1.out.below hb)
          have B2 := Q.hid (B2.out.below hb)
          have B3 := Q.hid (B3.out.below hb)
          have B4 := Q.hid (B4.out.below hb)
          have HB := Q.hid (bs2 HB.out hb)
          clear ho ho' ha hb k10 k11 k20 k21
          have k10 := B1.out.c0
          have k11 := B1.out.c1
          have k20 := B2.out.c0
          have k21 := B2.out.c1
          go_wp2_with fail
          refine (wmade_calls2 (!m) A2 c2 w1.heap.size (nwd (val xs / val ys)) _ HD.out.o1).mono ?_
          rintro e w6 ⟨A6, c6, rfl, ho, hb, hob⟩
          rw [HQ.out] at ho hob ⊢
          have HA := Q.hid (Apart2.keep HA.out hob (.inl rfl))
          have HD := Q.hid (⟨ho, HD.out.o2.below hb, bs2 HD.out.below hb⟩ : DmSt w w6 w1.heap.size _ _ _ _)
          have B3 := Q.hid (B3.out.below hb)
          have B4 := Q.hid (B4.out.below hb)
          have HB := Q.hid (bs2 HB.out hb)
          clear ho hb hob k10 k11 k20 k21
          have k30 := B3.out.c0
          have k31 := B3.out.c1
          have f30 := B3.out.f0
          have f31 := B3.out.f1
          obtain ⟨W6, hW6⟩ : ∃ W6, W6 = ((w6.setCell ⟨w.heap.size + 1 + 1, 0, none⟩ (.bool (cn (wv true xs / wv m ys)))).setCell ⟨w.heap.size + 1 + 1, 1, none⟩ (.slice A6 (cw (wv true xs / wv m ys)).length c6)) := ⟨_, rfl⟩
          have B3 := Q.hid (B3.out.over (cn (wv true xs / wv m ys)) (.slice A6 (cw (wv true xs / wv m ys)).length c6))
          have B4 := Q.hid ((B4.out.far (g' := w.heap.size + 1 + 1) (by omega) 0 (.bool (cn (wv true xs / wv m ys)))).far (g' := w.heap.size + 1 + 1) (by omega) 1 (.slice A6 (cw (wv true xs / wv m ys)).length c6))
          have HD := Q.hid ((HD.out.set (i := 0) (g := w.heap.size + 1 + 1) (by omega) (by omega) (.bool (cn (wv true xs / wv m ys)))).set (i := 1) (g := w.heap.size + 1 + 1) (by omega) (by omega) (.slice A6 (cw (wv true xs / wv m ys)).length c6))
          rw [← hW6] at B3 B4 HD
          go_wp2_with fail
          rw [← hW6]
          clear hW6 k30 k31 f30 f31
          refine (wmade_calls2 false A3 c3 w1.heap.size (nwd (val xs % val ys)) _ HD.out.o2).mono ?_
          rintro e w7 ⟨A7, c7, rfl, ho, hb, hob⟩
          rw [HR.out] at ho hob ⊢
          have HA := Q.hid (Apart2.keep HA.out (.inl rfl) hob)
          have HD := Q.hid (⟨HD.out.o1.below hb, ho, bs2 HD.out.below hb⟩ : DmSt w w7 w1.heap.size _ _ _ _)
          have B3 := Q.hid (B3.out.below hb)
          have B4 := Q.hid (B4.out.below hb)
          clear ho hb hob
          have k40 := B4.out.c0
          have k41 := B4.out.c1
          have f40 := B4.out.f0
          have f41 := B4.out.f1
          obtain ⟨W7, hW7⟩ : ∃ W7, W7 = ((w7.setCell ⟨w.heap.size + 1 + 1 + 1, 0, none⟩ (.bool (cn (wv true xs % wv m ys)))).setCell ⟨w.heap.size + 1 + 1 + 1, 1, none⟩ (.slice A7 (cw (wv true xs % wv m ys)).length c7)) := ⟨_, rfl⟩
          have B4 := Q.hid (B4.out.over (cn (wv true xs % wv m ys)) (.slice A7 (cw (wv true xs % wv m ys)).length c7))
          have B3 := Q.hid ((B3.out.far (g' := w.heap.size + 1 + 1 + 1) (by omega) 0 (.bool (cn (wv true xs % wv m ys)))).far (g' := w.heap.size + 1 + 1 + 1) (by omega) 1 (.slice A7 (cw (wv true xs % wv m ys)).length c7))
          have HD := Q.hid ((HD.out.set (i := 0) (g := w.heap.size + 1 + 1 + 1) (by omega) (by omega) (.bool (cn (wv true xs % wv m ys)))).set (i := 1) (g := w.heap.size + 1 + 1 + 1) (by omega) (by omega) (.slice A7 (cw (wv true xs % wv m ys)).length c7))
          rw [← hW7] at B3 B4 HD
          go_wp2
          rw [← hW7]
          clear hW7 k40 k41 f40 f41
          have k30 := B3.out.c0
          have k31 := B3.out.c1
          have k40 := B4.out.c0
          have k41 := B4.out.c1
          have f30 := B3.out.f0
          have f31 := B3.out.f1
          have f40 := B4.out.f0
          have f41 := B4.out.f1
          go_region
          all_goals
            go_wp2
            refine bodyPost_ret (by rw [results_cell2_tmp rfl]; go_simp; rfl) rfl ?_
            exact ⟨A6, c6, A7, c7, by rw [HF.out.1, HF.out.2], by rw [HF.out.1]; refine (DmSt.o1 (w := w) (B := w1.heap.size) (v2 := .slice A7 (cw (wv true xs % wv m ys)).length c7) (xs2 := cw (wv true xs % wv m ys)) ?_).mono (by omega); (repeat' first | (refine DmSt.drew ?_) | (refine DmSt.set ?_ (by omega) (by omega) _)); exact HD.out, by rw [HF.out.2]; refine (DmSt.o2 (w := w) (B := w1.heap.size) (v1 := .slice A6 (cw (wv true xs / wv m ys)).length c6) (xs1 := cw (wv true xs / wv m ys)) ?_).mono (by omega); (repeat' first | (refine DmSt.drew ?_) | (refine DmSt.set ?_ (by omega) (by omega) _)); exact HD.out, by rw [HF.out.1, HF.out.2]; exact HA.out, by refine DmSt.below (B := w1.heap.size) (v1 := .slice A6 (cw (wv true xs / wv m ys)).length c6) (xs1 := cw (wv true xs / wv m ys)) (v2 := .slice A7 (cw (wv true xs % wv m ys)).length c7) (xs2 := cw (wv true xs % wv m ys)) ?_; (repeat' first | (refine DmSt.drew ?_) | (refine DmSt.set ?_ (by omega) (by omega) _)); exact HD.out⟩
  · have hb0 : (chkW2 n xs m ys != 0) = true := by simp [h0]
    have HF : Hid (quoW n xs m ys = noW (chkW2 n xs m ys) ∧ remW n xs m ys = noW (chkW2 n xs m ys)) := ⟨if_neg h0, if_neg h0⟩
    clear h0 hw hw'
    go_enter Tryz.func18, Tryz.ntmps18
    go_wp2_with fail
    rw [← hW]
    clear hW
    refine (wboth_calls n m A A' c c' xs ys _ HX.out HX'.out).mono ?_
    rintro e w1 ⟨rfl, hb⟩
    have HX := Q.hid (HX.out.below hb)
    have HX' := Q.hid (HX'.out.below hb)
    have hg4 : w.heap.size + 1 + 1 + 1 < w1.heap.size := Nat.lt_of_lt_of_le hg4 hb.size
    have B1 := Q.hid (B1.out.below hb)
    have B2 := Q.hid (B2.out.below hb)
    have B3 := Q.hid (B3.out.below hb)
    have B4 := Q.hid (B4.out.below hb)
    have HB := Q.hid (bs2 HB.out hb)
    clear hb k10 k11 k20 k21
    have k10 := B1.out.c0
    have k11 := B1.out.c1
    have k20 := B2.out.c0
    have k21 := B2.out.c1
    have k30 := B3.out.c0
    have k31 := B3.out.c1
    have k40 := B4.out.c0
    have k41 := B4.out.c1
    have f30 := B3.out.f0
    have f31 := B3.out.f1
    have f40 := B4.out.f0
    have f41 := B4.out.f1
    have HB2 := HB
    go_wp2
    go_region
    all_goals
      go_wp2
      refine bodyPost_ret (by rw [results_cell2_tmp rfl]; go_simp; rfl) rfl ?_
      exact ⟨none, 0, none, 0, by rw [HF.out.1, HF.out.2]; rfl, by rw [HF.out.1]; exact Ow.nil _ _ _, by rw [HF.out.2]; exact Ow.nil _ _ _, .inl rfl, by repeat' first | exact HB.out | exact HB2.out | refine Below.drew ?_ | refine Below.setCell ?_ (by simp; omega) _⟩
end Go.Proofs.YtidccoahjpjoaaaGreatDoor
/- Numbers in boxes of their own: what is known of them as the calls go on. -/
set_option linter.unusedVariables false
set_option linter.unusedSimpArgs false
namespace Go.Proofs.YtidccoahjpjoaaaGreatDoor
open Go Go.RowKit Q

/-- a number in a box: the box's block, the number, where its words lie -/
structure Nm where
  g : Nat
  v : Int
  A : Option Addr
  c : Nat
/-- rows that lie in no box g -/
def Off (A : Option Addr) (xs : List Int) (g : Nat) : Prop := xs = [] ∨ ∀ ad, A = some ad → ad.block ≠ g
theorem in_lt {w : World} {A : Option Addr} {c : Nat} {xs : List Int} (h : In w A c xs) : xs = [] ∨ ∀ ad, A = some ad → ad.block < w.heap.size := by
  cases xs with
  | nil => exact .inl rfl
  | cons x xs =>
    obtain ⟨ad, e, hc⟩ := h.rd 0 (by simp)
    refine .inr fun ad' e' => ?_
    rw [e] at e'
    cases e'
    have := World.block_lt_of_cell? w _ hc
    rwa [add_block] at this
theorem in_far {w : World} {A : Option Addr} {c g i : Nat} {xs : List Int} (h : In w A c xs) (ho : Off A xs g) (u : Value) : In (w.setCell ⟨g, i, none⟩ u) A c xs := by
  rcases ho with rfl | ho
  · exact In.nil _ _ _
  · exact ⟨h.rd.grown (grown_set u) (fun ad e => by simpa using ho ad e), h.cap, h.small, h.wds⟩
structure Nums (w0 w : World) (l : List Nm) (os : List Nat) : Prop where
  box : ∀ x ∈ l, Bx w x.g (cn x.v) (.slice x.A (cw x.v).length x.c)
  inn : ∀ x ∈ l, In w x.A x.c (cw x.v)
  oth : ∀ g ∈ os, g < w.heap.size ∧ w0.heap.size ≤ g ∧ ∀ x ∈ l, x.g ≠ g ∧ Off x.A (cw x.v) g
  below : Below w0.heap.size w0 w
theorem Nums.step {w0 w w' : World} {l : List Nm} {os : List Nat} (h : Nums w0 w l os) (hb : Below w.heap.size w w') : Nums w0 w' l os :=
  ⟨fun x hx => (h.box x hx).below hb, fun x hx => (h.inn x hx).below hb, fun g hg => ⟨Nat.lt_of_lt_of_le (h.oth g hg).1 hb.size, (h.oth g hg).2⟩, bs2 h.below hb⟩
/-- a row that a call has made -/
def Made (B : Nat) (A : Option Addr) : Prop := ∀ ad, A = some ad → B ≤ ad.block
theorem made_at {w : World} {e B n c : Nat} {A : Option Addr} {xs : List Int} (h : Ow w e B (.slice A n c) xs) : Made B A := fun ad he => by
  obtain ⟨A', c', e', _, _, _, hk⟩ := h.slice
  injection e' with e1 e2 e3
  subst e1
  exact (h.base _ (hk ad he)).1
theorem Nums.snoc {w0 w w' : World} {l : List Nm} {os : List Nat} (h : Nums w0 w l os) (hb : Below w.heap.size w w') {v : Int} {A : Option Addr} {c : Nat} (hi : In w' A c (cw v)) (hm : Made w.heap.size A) :
    Nums w0 (w'.alloc (.cells #[.bool (cn v), .slice A (cw v).length c] 24)) (l ++ [⟨w'.heap.size, v, A, c⟩]) os := by
  have hs := h.step hb
  refine ⟨fun x hx => ?_, fun x hx => ?_, fun g hg => ⟨?_, (h.oth g hg).2.1, fun x hx => ?_⟩, hs.below.alloc hs.below.size _⟩
  · rcases List.mem_append.1 hx with hx | hx
    · exact (hs.box x hx).alloc _
    · simp at hx; subst hx; exact Bx.new _ _ _
  · rcases List.mem_append.1 hx with hx | hx
    · exact (hs.inn x hx).alloc _
    · simp at hx; subst hx; exact hi.alloc _
  · rw [World.size_alloc]; exact Nat.lt_succ_of_lt (hs.oth g hg).1
  · rcases List.mem_append.1 hx with hx | hx
    · exact (hs.oth g hg).2.2 x hx
    · simp at hx; subst hx
      have := (h.oth g hg).1
      exact ⟨Nat.ne_of_gt (hs.oth g hg).1, .inr fun ad e => Nat.ne_of_gt (Nat.lt_of_lt_of_le this (hm ad e))⟩
theorem Nums.snoc2 {w0 w w' : World} {l : List Nm} {os : List Nat} (h : Nums w0 w l os) (hb : Below w.heap.size w w') {v u : Int} {A A' : Option Addr} {c c' : Nat} (hi : In w' A c (cw v)) (hm : Made w.heap.size A) (hi' : In w' A' c' (cw u)) (hm' : Made w.heap.size A') :
    Nums w0 ((w'.alloc (.cells #[.bool (cn v), .slice A (cw v).length c] 24)).alloc (.cells #[.bool (cn u), .slice A' (cw u).length c'] 24)) (l ++ [⟨w'.heap.size, v, A, c⟩, ⟨w'.heap.size + 1, u, A', c'⟩]) os := by
  have h1 := h.snoc hb hi hm
  have h2 := h1.step (below_alloc1 _ (.cells #[.bool (cn u), .slice A' (cw u).length c'] 24))
  have hsz : (w'.alloc (.cells #[.bool (cn v), .slice A (cw v).length c] 24)).heap.size = w'.heap.size + 1 := World.size_alloc _ _
  have e : l ++ [⟨w'.heap.size, v, A, c⟩, ⟨w'.heap.size + 1, u, A', c'⟩] = (l ++ [⟨w'.heap.size, v, A, c⟩]) ++ [(⟨w'.heap.size + 1, u, A', c'⟩ : Nm)] := by simp
  rw [e]
  refine ⟨fun x hx => ?_, fun x hx => ?_, fun g hg => ⟨(h2.oth g hg).1, (h.oth g hg).2.1, fun x hx => ?_⟩, h2.below⟩
  · rcases List.mem_append.1 hx with hx | hx
    · exact h2.box x hx
    · simp at hx; subst hx
      have := Bx.new (w'.alloc (.cells #[.bool (cn v), .slice A (cw v).length c] 24)) (cn u) (.slice A' (cw u).length c')
      rwa [hsz] at this
  · rcases List.mem_append.1 hx with hx | hx
    · exact h2.inn x hx
    · simp at hx; subst hx; exact (hi'.alloc _).alloc _
  · rcases List.mem_append.1 hx with hx | hx
    · exact (h2.oth g hg).2.2 x hx
    · simp at hx; subst hx
      have h3 := (h.oth g hg).1
      have h4 := hb.size
      exact ⟨by show w'.heap.size + 1 ≠ g; omega, .inr fun ad e => Nat.ne_of_gt (Nat.lt_of_lt_of_le h3 (hm' ad e))⟩
/-- a box that is written over later -/
theorem Nums.other {w0 w w' : World} {l : List Nm} {os : List Nat} (h : Nums w0 w l os) (hb : Below w.heap.size w w') (u v : Value) :
    Nums w0 (w'.alloc (.cells #[u, v] 24)) l (os ++ [w'.heap.size]) := by
  have hs := h.step hb
  refine ⟨fun x hx => (hs.box x hx).alloc _, fun x hx => (hs.inn x hx).alloc _, fun g hg => ?_, hs.below.alloc hs.below.size _⟩
  rcases List.mem_append.1 hg with hg | hg
  · have := hs.oth g hg
    exact ⟨by rw [World.size_alloc]; exact Nat.lt_succ_of_lt this.1, this.2⟩
  · simp at hg; subst hg
    refine ⟨by simp, hs.below.size, fun x hx => ⟨Nat.ne_of_lt (hs.box x hx).lt, ?_⟩⟩
    rcases in_lt (hs.inn x hx) with e | e
    · exact .inl e
    · exact .inr fun ad ha => Nat.ne_of_lt (e ad ha)
theorem Nums.over {w0 w : World} {l : List Nm} {os : List Nat} {g : Nat} (h : Nums w0 w l os) (hg : g ∈ os) (u1 u2 : Value) : Nums w0 ((w.setCell ⟨g, 0, none⟩ u1).setCell ⟨g, 1, none⟩ u2) l os :=
  ⟨fun x hx => ((h.box x hx).far ((h.oth g hg).2.2 x hx).1 _ _).far ((h.oth g hg).2.2 x hx).1 _ _,
   fun x hx => in_far (in_far (h.inn x hx) ((h.oth g hg).2.2 x hx).2 _) ((h.oth g hg).2.2 x hx).2 _,
   fun y hy => ⟨by simpa using (h.oth y hy).1, (h.oth y hy).2⟩, below_set2 h.below (h.oth g hg).2.1 _ _⟩

theorem i64_can {v : Int} (h0 : -9223372036854775808 ≤ v) (h1 : v < 9223372036854775808) : i64ok (cn v) (cw v) = true ∧ i64 (cn v) (cw v) = v := by
  have hs : Sh v := sh_64 (by omega)
  have ho : i64ok (cn v) (cw v) = true := decide_eq_true ⟨chkW_can hs, by rw [wv_can]; exact ⟨h0, h1⟩⟩
  exact ⟨ho, by unfold i64; rw [if_pos ho, wv_can]⟩
theorem is_eq (A : Option Addr) (c : Nat) (x : Int) (w : World) (h : In w A c (cw x)) (h0 : -9223372036854775808 ≤ x) (h1 : x < 9223372036854775808) :
    Calls Tryz.prog 20 #[.agg #[.bool (cn x), .slice A (cw x).length c], .int .i64 x] w fun e w' => e = .returned (.bool true) ∧ Below w.heap.size w w' :=
  (is_calls (cn x) A c (cw x) x w h).mono fun e w' ⟨he, hb⟩ => ⟨by rw [he, (i64_can h0 h1).1, (i64_can h0 h1).2]; simp, hb⟩
theorem cw_small {v : Int} (h : Sh v) : (cw v).length * 4 ≤ 140737488351232 := by have := cw_len h; omega
theorem inn_of {w : World} {e B n c : Nat} {A : Option Addr} {v : Int} (h : Ow w e B (.slice A n c) (cw v)) (hs : Sh v) : In w A c (cw v) := ⟨h.read.2.2.2, h.read.2.1, cw_small hs, cw_wds v⟩

set_option maxHeartbeats 400000 in
theorem of_calls (x : Int) (w : World) (h0 : -9223372036854775808 ≤ x) (h1 : x < 9223372036854775808) :
    Calls Tryz.prog 19 #[.int .i64 x] w fun e w' => ∃ B d, e = .returned (.agg #[.bool (cn x), .slice B (cw x).length d]) ∧ Ow w' 50 w.heap.size (.slice B (cw x).length d) (cw x) ∧ Below w.heap.size w w' := by
  go_enter Tryz.func19, Tryz.ntmps19
  go_wp2_with fail
  refine (wOf_calls x _ h0 h1).mono ?_
  rintro e w1 ⟨A1, c1, rfl, ho, hb⟩
  have B3 := Q.hid ((Bx.new w false (.slice none 0 0)).below hb)
  have HB := Q.hid ((below_alloc1 w _).trans (hb.mono (by simp)))
  have ho1 := ho
  simp only [World.size_alloc] at ho1
  have HO := Q.hid ho1
  clear ho hb ho1
  have k30 := B3.out.c0
  have k31 := B3.out.c1
  have f30 := B3.out.f0
  have f31 := B3.out.f1
  go_wp2
  refine bodyPost_ret (by rw [results_cell1 rfl]; go_simp; rfl) rfl ?_
  exact ⟨A1, c1, rfl, far2 HO.out (by omega) (by omega) _ _, below_set2 HB.out (Nat.le_refl _) _ _⟩
end Go.Proofs.YtidccoahjpjoaaaGreatDoor
/- Two of chapter 2's examples: found so. -/
set_option linter.unusedVariables false
set_option linter.unusedSimpArgs false
namespace Go.Proofs.YtidccoahjpjoaaaGreatDoor
open Go Go.RowKit Q

theorem cw_lit {l : List Int} {v : Int} (hw : Wds l) (ht : Tr l) (hv : 0 ≤ v) (h : val l = v) : cw v = l := by
  unfold cw; exact nwd_eq hw ht (by omega)
theorem cw_max : cw 4294967295 = [4294967295] := cw_lit (Wds.cons (by omega) (by omega) Wds.nil) rfl (by omega) rfl
theorem cw_two32 : cw 4294967296 = [0, 1] := cw_lit (Wds.cons (by omega) (by omega) (Wds.cons (by omega) (by omega) Wds.nil)) rfl (by omega) rfl
theorem sh_small {v : Int} (h : (v.natAbs : Int) < 18446744073709551616) : Sh v := sh_64 h

theorem SameWhole_lit (n m : Bool) (A A' : Option Addr) (c c' : Nat) (xs ys : List Int) (w : World) (h : Rd w A xs) (h' : Rd w A' ys) (hm : xs.length ≤ 9223372036854775807) (hn : n = m) (hx : xs = ys) :
    Calls Tryz.prog 17 #[.agg #[.bool n, .slice A xs.length c], .agg #[.bool m, .slice A' ys.length c']] w fun e w' => e = .returned (.bool true) ∧ Below w.heap.size w w' :=
  (SameWhole_calls n m A A' c c' xs ys w h h' hm).mono fun e w' ⟨he, hb⟩ => ⟨by rw [he, hn, hx]; simp, hb⟩

set_option maxHeartbeats 2000000 in
theorem lives_calls (w : World) :
    Calls Tryz.prog 6 #[] w fun e w' => e = .returned (.bool true) ∧ Below w.heap.size w w' := by
  have HS0 : Hid (Nums w w [] []) := ⟨fun x hx => by simp at hx, fun x hx => by simp at hx, fun g hg => by simp at hg, Below.refl _ _⟩
  have HL : Hid (In (w.alloc (.cells #[.int .u32 4294967295] 50)) (some ⟨w.heap.size, 0, none⟩) 1 (cw 4294967295)) := by
    have HO := Ow.lit w 50 0 [4294967295] (Nat.zero_le _) (by simp [maxLen])
    rw [cw_max]
    exact ⟨HO.read.2.2.2, by simp, by simp, Wds.cons (by omega) (by omega) Wds.nil⟩
  have hl1 : (cw 4294967295).length = 1 := by rw [cw_max]; rfl
  have HL1 := Q.hid hl1
  have HA : Hid (addW (cn 4294967295) (cw 4294967295) (cn 1) (cw 1) = ⟨cn 4294967296, cw 4294967296, 0⟩) := addW_can (sh_small (by omega)) (sh_small (by omega)) (sh_small (by omega))
  have HQ : Hid (quoW (cn (-7)) (cw (-7)) (cn 2) (cw 2) = ⟨cn (-4), cw (-4), 0⟩) := quoW_can (v := -7) (u := 2) (sh_small (by omega)) (sh_small (by omega)) (by omega)
  have HR : Hid (remW (cn (-7)) (cw (-7)) (cn 2) (cw 2) = ⟨cn 1, cw 1, 0⟩) := remW_can (v := -7) (u := 2) (sh_small (by omega)) (sh_small (by omega)) (by omega)
  clear hl1
  go_enter Tryz.func6, Tryz.ntmps6
  go_wp2_with fail
  refine (of_calls 1 _ (by omega) (by omega)).mono ?_
  rintro e w1 ⟨A1, c1, rfl, ho, hb⟩
  have HL2 := Q.hid (HL.out.below hb)
  have HI1 := Q.hid (inn_of ho (sh_small (by omega)))
  have HS1 := Q.hid (HS0.out.step ((below_alloc1 w _).trans (hb.mono (by simp))))
  clear ho hb HL HS0
  go_wp2_with fail
  have HC := fun h => wAdd_calls (cn 4294967295) (cn 1) (some ⟨w.heap.size, 0, none⟩) A1 1 c1 (cw 4294967295) (cw 1) w1 h HI1.out
  rw [HL1.out] at HC
  refine (HC HL2.out).mono ?_
  rintro e w2 ⟨A2, c2, rfl, ho, hb⟩
  rw [HA.out] at ho ⊢
  have HS2 := Q.hid (HS1.out.snoc hb (inn_of ho (sh_small (by omega))) (made_at ho))
  clear ho hb HC HS1 HI1 HL2
  go_wp2_with fail
  refine (of_calls (-7) _ (by omega) (by omega)).mono ?_
  rintro e w3 ⟨A3, c3, rfl, ho, hb⟩
  have HI3 := Q.hid (inn_of ho (sh_small (by omega)))
  have HS3 := Q.hid (HS2.out.step hb)
  clear ho hb HS2
  go_wp2_with fail
  refine (of_calls 2 _ (by omega) (by omega)).mono ?_
  rintro e w4 ⟨A4, c4, rfl, ho, hb⟩
  have HI3 := Q.hid (HI3.out.below hb)
  have HI4 := Q.hid (inn_of ho (sh_small (by omega)))
  have HS4 := Q.hid (HS3.out.step hb)
  clear ho hb HS3
  go_wp2_with fail
  refine (wDivMod_calls (cn (-7)) (cn 2) A3 A4 c3 c4 (cw (-7)) (cw 2) _ HI3.out HI4.out).mono ?_
  rintro e w5 ⟨A5, c5, A6, c6, rfl, ho, ho', ha, hb⟩
  rw [HQ.out] at ho ⊢
  rw [HR.out] at ho' ⊢
  have HS5 := Q.hid (HS4.out.snoc2 hb (inn_of ho (sh_small (by omega))) (made_at ho) (u := 1) (inn_of ho' (sh_small (by omega))) (made_at ho'))
  clear ho ho' ha hb HS4 HI3 HI4
  have m1 := HS5.out.box ⟨w2.heap.size, 4294967296, A2, c2⟩ (by simp)
  have k10 := m1.c0
  have k11 := m1.c1
  clear m1
  have HI2 := Q.hid (HS5.out.inn ⟨w2.heap.size, 4294967296, A2, c2⟩ (by simp))
  go_wp2_with fail
  have HLW : Hid (Rd (((w5.alloc (.cells #[.bool (cn (-4)), .slice A5 (cw (-4)).length c5] 24)).alloc (.cells #[.bool (cn 1), .slice A6 (cw 1).length c6] 24)).alloc (.cells #[.int .u32 0, .int .u32 1] 50)) (some ⟨w5.heap.size + 1 + 1, 0, none⟩) [0, 1]) := by
    have HO := Ow.lit ((w5.alloc (.cells #[.bool (cn (-4)), .slice A5 (cw (-4)).length c5] 24)).alloc (.cells #[.bool (cn 1), .slice A6 (cw 1).length c6] 24)) 50 0 [0, 1] (Nat.zero_le _) (by simp [maxLen])
    simp only [World.size_alloc] at HO
    exact HO.read.2.2.2
  have HS6 := Q.hid (HS5.out.step (below_alloc1 _ (.cells #[.int .u32 0, .int .u32 1] 50)))
  refine (SameWhole_lit (cn 4294967296) false A2 (some ⟨w5.heap.size + 1 + 1, 0, none⟩) c2 2 (cw 4294967296) [0, 1] _ (HI2.out.rd.alloc _) HLW.out (by have := HI2.out.small; omega) rfl cw_two32).mono ?_
  rintro e w6 ⟨rfl, hb⟩
  have HS6 := Q.hid (HS6.out.step hb)
  clear hb HLW HS5 HI2 k10 k11
  have m2 := HS6.out.box ⟨w5.heap.size, -4, A5, c5⟩ (by simp)
  have k20 := m2.c0
  have k21 := m2.c1
  clear m2
  go_wp2_with fail
  refine (is_eq A5 c5 (-4) _ (HS6.out.inn ⟨w5.heap.size, -4, A5, c5⟩ (by simp)) (by omega) (by omega)).mono ?_
  rintro e w7 ⟨rfl, hb⟩
  have HS7 := Q.hid (HS6.out.step hb)
  clear hb HS6 k20 k21
  have m3 := HS7.out.box ⟨w5.heap.size + 1, 1, A6, c6⟩ (by simp)
  have k30 := m3.c0
  have k31 := m3.c1
  clear m3
  go_wp2_with fail
  refine (is_eq A6 c6 1 _ (HS7.out.inn ⟨w5.heap.size + 1, 1, A6, c6⟩ (by simp)) (by omega) (by omega)).mono ?_
  rintro e w8 ⟨rfl, hb⟩
  have HB := Q.hid (HS7.out.step hb).below
  clear hb HS7 k30 k31
  go_wp2
  go_ret
  exact ⟨rfl, HB.out⟩
end Go.Proofs.YtidccoahjpjoaaaGreatDoor
