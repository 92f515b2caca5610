/- Package whole, the first calls: may a number be, a number made; what each call does. -/
import Derived.Test.YtidccoahjpjoaaaQNat9
import Derived.Test.YtidccoahjpjoaaaQWhlR
import Derived.Handy
import Derived.Laws.ResultCell
import Derived.Deep.RegionWith
import Derived.StillTailTactics
set_option linter.unusedVariables false
set_option linter.unusedSimpArgs false
namespace Go.Proofs.Ytidccoahjpjoaaa
open Go Go.RowKit Q

set_option maxHeartbeats 400000 in
theorem wCheck_calls (n : Bool) (A : Option Addr) (c : Nat) (xs : List Int) (w : World) (h : In w A c xs) :
    Calls Try.prog 18 #[.agg #[.bool n, .slice A xs.length c]] w fun e w' => e = .returned (.int .i64 (chkW n xs)) ∧ Below w.heap.size w w' := by
  have hm : xs.length ≤ 9223372036854775807 := by have := h.small; omega
  have H := Q.hid h.rd
  clear h
  by_cases h1 : 2048 < xs.length
  · have HE : Hid (chkW n xs = 3) := if_pos h1
    go_enter Try.func18, Try.ntmps18
    go_wp2
    go_ret
    exact ⟨by rw [HE.out]; rfl, (Below.refl _ _).alloc (Nat.le_refl _) _⟩
  · by_cases h2 : 0 < xs.length
    · obtain ⟨ad, rfl, hx0⟩ := H.out (xs.length - 1) (by omega)
      have hl := tl_last h2
      have hb : ad.block < w.heap.size := by have := World.block_lt_of_cell? w _ hx0; rwa [add_block] at this
      have hx : (w.alloc (.cells #[.bool n, .slice (some ad) xs.length c] 24)).cell? (ad.add (xs.length - 1)) = some (.int .u32 (wd xs (xs.length - 1))) := by
        rw [← hx0]; exact Below.cell ((Below.refl w.heap.size w).alloc (Nat.le_refl _) _) (by rw [add_block]; exact hb)
      have hne : xs ≠ [] := List.length_pos_iff.1 h2
      have hg1 : decide (0 < (xs.length : Int)) = true := decide_eq_true (by omega)
      have hg2 : decide (0 < xs.length) = true := decide_eq_true h2
      have hi : (((xs.length : Int) - 1).toNat) = xs.length - 1 := by omega
      by_cases hz : wd xs (xs.length - 1) = 0
      · have hz1 : (wd xs (xs.length - 1) == 0) = true := by simp [hz]
        have HE : Hid (chkW n xs = 11) := by unfold chkW; rw [if_neg (by omega), if_neg (by rw [hl]; simp [hz])]; rfl
        clear hz hl hx0 hne
        go_enter Try.func18, Try.ntmps18
        go_wp2
        go_ret
        exact ⟨by rw [HE.out]; rfl, (Below.refl _ _).alloc (Nat.le_refl _) _⟩
      · have hz1 : (wd xs (xs.length - 1) == 0) = false := by simp [hz]
        have HE : Hid (chkW n xs = 0) := by unfold chkW; rw [if_neg (by omega), if_pos ⟨by rw [hl]; exact hz, fun e => absurd e hne⟩]; rfl
        have hn0 : ((xs.length : Int) == 0) = false := by simp; omega
        have hn1 : (xs.length == 0) = false := by simp; omega
        clear hz hl hx0 hne
        go_enter Try.func18, Try.ntmps18
        go_wp2
        go_ret
        exact ⟨by rw [HE.out]; rfl, (Below.refl _ _).alloc (Nat.le_refl _) _⟩
    · have hx : xs = [] := List.eq_nil_of_length_eq_zero (by omega)
      subst hx
      cases n
      all_goals
        go_enter Try.func18, Try.ntmps18
        go_wp2
        go_ret
        exact ⟨rfl, (Below.refl _ _).alloc (Nat.le_refl _) _⟩
/-- a number in a block of its own -/
def Bx (w : World) (g : Nat) (n : Bool) (v : Value) : Prop := Blk w g 24 [.bool n, v]
theorem Bx.c0 {w : World} {g : Nat} {n : Bool} {v : Value} (h : Bx w g n v) : w.cell? ⟨g, 0, none⟩ = some (.bool n) := Blk.cell h (i := 0) rfl
theorem Bx.c1 {w : World} {g : Nat} {n : Bool} {v : Value} (h : Bx w g n v) : w.cell? ⟨g, 1, none⟩ = some v := Blk.cell h (i := 1) rfl
theorem Bx.f0 {w : World} {g : Nat} {n : Bool} {v : Value} (h : Bx w g n v) : w.frozen? ⟨g, 0, none⟩ = false := Blk.free h 0
theorem Bx.f1 {w : World} {g : Nat} {n : Bool} {v : Value} (h : Bx w g n v) : w.frozen? ⟨g, 1, none⟩ = false := Blk.free h 1
theorem Bx.below {w w' : World} {g : Nat} {n : Bool} {v : Value} (h : Bx w g n v) (hb : Below w.heap.size w w') : Bx w' g n v := Blk.below h hb
theorem Bx.new (w : World) (n : Bool) (v : Value) : Bx (w.alloc (.cells #[.bool n, v] 24)) w.heap.size n v := Blk.new w _ [.bool n, v]
theorem Bx.alloc {w : World} {g : Nat} {n : Bool} {v : Value} (h : Bx w g n v) (o : Obj) : Bx (w.alloc o) g n v := h.below ((Below.refl _ _).alloc (Nat.le_refl _) o)
theorem below_alloc1 (w : World) (o : Obj) : Below w.heap.size w (w.alloc o) := (Below.refl _ _).alloc (Nat.le_refl _) _
theorem below_alloc2 (w : World) (o p : Obj) : Below w.heap.size w ((w.alloc o).alloc p) := (below_alloc1 w o).alloc (by simp) _
theorem below_alloc3 (w : World) (o p q : Obj) : Below w.heap.size w (((w.alloc o).alloc p).alloc q) := (below_alloc2 w o p).alloc (by simp; omega) _
theorem below_alloc4 (w : World) (o p q r : Obj) : Below w.heap.size w ((((w.alloc o).alloc p).alloc q).alloc r) := (below_alloc3 w o p q).alloc (by simp; omega) _

set_option maxHeartbeats 400000 in
theorem wboth_calls (n m : Bool) (A A' : Option Addr) (c c' : Nat) (xs ys : List Int) (w : World) (h : In w A c xs) (h' : In w A' c' ys) :
    Calls Try.prog 56 #[.agg #[.bool n, .slice A xs.length c], .agg #[.bool m, .slice A' ys.length c']] w fun e w' => e = .returned (.int .i64 (chkW2 n xs m ys)) ∧ Below w.heap.size w w' := by
  have H := Q.hid h
  have H' := Q.hid h'
  clear h h'
  by_cases h0 : chkW n xs = 0
  · have hb : (chkW n xs != 0) = false := by simp [h0]
    have HF : Hid (chkW2 n xs m ys = chkW m ys) := if_pos h0
    clear h0
    go_enter Try.func56, Try.ntmps56
    go_wp2_with fail
    refine (wCheck_calls n A c xs _ (H.out.below (below_alloc2 _ _ _))).mono ?_
    rintro e w1 ⟨rfl, hb1⟩
    have B2 := Q.hid ((Bx.new (w.alloc (.cells #[.bool n, .slice A xs.length c] 24)) m (.slice A' ys.length c')).below hb1)
    have HB := Q.hid ((below_alloc2 w _ _).trans (hb1.mono (by simp; omega)))
    clear hb1
    have k0 := B2.out.c0
    have k1 := B2.out.c1
    simp only [World.size_alloc] at k0 k1
    go_wp2_with fail
    refine (wCheck_calls m A' c' ys _ (H'.out.below HB.out)).mono ?_
    rintro e w2 ⟨rfl, hb2⟩
    go_wp2
    go_ret
    exact ⟨by rw [HF.out]; rfl, bs2 HB.out hb2⟩
  · have hb : (chkW n xs != 0) = true := by simp [h0]
    have HF : Hid (chkW2 n xs m ys = chkW n xs) := if_neg h0
    clear h0
    go_enter Try.func56, Try.ntmps56
    go_wp2_with fail
    refine (wCheck_calls n A c xs _ (H.out.below (below_alloc2 _ _ _))).mono ?_
    rintro e w1 ⟨rfl, hb1⟩
    have HB := Q.hid ((below_alloc2 w _ _).trans (hb1.mono (by simp; omega)))
    clear hb1
    go_wp2
    go_ret
    exact ⟨by rw [HF.out]; rfl, HB.out⟩

set_option maxHeartbeats 400000 in
theorem wmade_calls2 (n : Bool) (A : Option Addr) (c B : Nat) (zs : List Int) (w : World) (ho : Ow w 58 B (.slice A zs.length c) zs) :
    Calls Try.prog 45 #[.bool n, .slice A zs.length c] w fun e w' => ∃ A' c', e = .returned (.tuple #[.agg #[.bool (mdW n zs).neg, .slice A' (mdW n zs).ws.length c'], .int .i64 (mdW n zs).err]) ∧ Ow w' 58 B (.slice A' (mdW n zs).ws.length c') (mdW n zs).ws ∧ Below w.heap.size w w' ∧ ((Value.slice A' (mdW n zs).ws.length c').ownBlock = (Value.slice A zs.length c).ownBlock ∨ (Value.slice A' (mdW n zs).ws.length c').ownBlock = none) := by
  have HO := Q.hid ho
  have hm : zs.length ≤ 9223372036854775807 := by have := ho.read; simp only [maxLen] at this; omega
  clear ho
  by_cases h1 : 2048 < zs.length
  · have HE : Hid (mdW n zs = ⟨false, [], 3⟩) := if_pos h1
    go_enter Try.func45, Try.ntmps45
    go_wp2
    go_returns
    exact ⟨none, 0, by rw [HE.out]; rfl, by rw [HE.out]; exact Ow.nil _ _ _, below_alloc1 _ _, .inr rfl⟩
  · have HE : Hid (mdW n zs = ⟨n && !zs.isEmpty, zs, 0⟩) := if_neg h1
    cases zs with
    | nil =>
      cases n
      all_goals
        go_enter Try.func45, Try.ntmps45
        go_wp2
        go_returns
        exact ⟨A, c, by rw [HE.out]; rfl, by rw [HE.out]; exact HO.out.below (below_alloc1 _ _), below_alloc1 _ _, by rw [HE.out]; exact .inl rfl⟩
    | cons z zs =>
      have hp : 0 < (z :: zs).length := by simp
      have hk : Hid ((z :: zs).isEmpty = false) := rfl
      generalize z :: zs = us at *
      have hp1 : decide (0 < (us.length : Int)) = true := decide_eq_true (by omega)
      have hp2 : decide (0 < us.length) = true := decide_eq_true hp
      rw [hk.out] at HE
      cases n
      all_goals
        go_enter Try.func45, Try.ntmps45
        go_wp2
        go_returns
        exact ⟨A, c, by rw [HE.out]; rfl, by rw [HE.out]; exact HO.out.below (below_alloc1 _ _), below_alloc1 _ _, by rw [HE.out]; exact .inl rfl⟩

theorem wmade_calls (n : Bool) (A : Option Addr) (c B : Nat) (zs : List Int) (w : World) (ho : Ow w 58 B (.slice A zs.length c) zs) :
    Calls Try.prog 45 #[.bool n, .slice A zs.length c] w fun e w' => ∃ A' c', e = .returned (.tuple #[.agg #[.bool (mdW n zs).neg, .slice A' (mdW n zs).ws.length c'], .int .i64 (mdW n zs).err]) ∧ Ow w' 58 B (.slice A' (mdW n zs).ws.length c') (mdW n zs).ws ∧ Below w.heap.size w w' :=
  (wmade_calls2 n A c B zs w ho).mono fun _ _ ⟨A', c', h1, h2, h3, _⟩ => ⟨A', c', h1, h2, h3⟩

set_option maxHeartbeats 400000 in
theorem own_calls (A : Option Addr) (c : Nat) (xs : List Int) (w : World) (h : In w A c xs) :
    Calls Try.prog 51 #[.slice A xs.length c] w fun e w' => ∃ v, e = .returned v ∧ Ow w' 58 w.heap.size v xs ∧ Below w.heap.size w w' := by
  have H := Q.hid h
  clear h
  go_enter Try.func51, Try.ntmps51
  go_wp2_with (at_builtin; refine wp_app rfl (.const (.slice none 0 0)) (.tmp 3) 22 58 rfl Try.underlying22 infoW w.heap.size _ [] rfl (Ow.nil _ _ _) A xs.length c xs rfl rfl H.out.rd (by have := H.out.small; simp; omega) (Nat.le_refl _) ?_; intro v1 w1 ho hg hat)
  go_ret
  exact ⟨v1, rfl, by simpa using ho, below_grown (Below.refl _ _) hg (fun k hk => by cases hk)⟩

/-- a result's cell is written: what else is there stays -/
theorem far2 {w3 : World} {e g B B0 : Nat} {v : Value} {xs : List Int} (h : Ow w3 e B v xs) (hg : g < B) (hw : B0 ≤ B) (u1 u2 : Value) :
    Ow ((w3.setCell ⟨g, 0, none⟩ u1).setCell ⟨g, 1, none⟩ u2) e B0 v xs := by
  have hne : v.ownBlock ≠ some g := fun e => by have := (h.base g e).1; omega
  exact ((h.far hne _ _).far hne _ _).mono hw
theorem below_set2 {w w3 : World} {g : Nat} (h : Below w.heap.size w w3) (hg : w.heap.size ≤ g) (u1 u2 : Value) :
    Below w.heap.size w ((w3.setCell ⟨g, 0, none⟩ u1).setCell ⟨g, 1, none⟩ u2) := (h.setCell hg _).setCell hg _
theorem below_dr (w : World) (q : Nat) : Below w.heap.size w (w.drewN q) := Dr.below ⟨q, rfl⟩ _
theorem Bx.over {w : World} {g : Nat} {n : Bool} {v : Value} (h : Bx w g n v) (n' : Bool) (v' : Value) : Bx ((w.setCell ⟨g, 0, none⟩ (.bool n')).setCell ⟨g, 1, none⟩ v') g n' v' := (Blk.set h 0 (.bool n')).set 1 v'
theorem Bx.far {w : World} {g g' : Nat} {n : Bool} {v : Value} (h : Bx w g n v) (hne : g ≠ g') (i : Nat) (u : Value) : Bx (w.setCell ⟨g', i, none⟩ u) g n v := Blk.grown h (grown_set u) (by simpa using hne)
theorem Bx.lt {w : World} {g : Nat} {n : Bool} {v : Value} (h : Bx w g n v) : g < w.heap.size := Blk.lt h
end Go.Proofs.Ytidccoahjpjoaaa
