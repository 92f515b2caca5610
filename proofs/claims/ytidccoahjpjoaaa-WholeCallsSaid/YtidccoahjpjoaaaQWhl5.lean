/- Package whole: lent numbers, and that they are as they were; what each call does. -/
import Derived.Test.YtidccoahjpjoaaaQWhl4
import Derived.Deep.RegionHeld3
set_option linter.unusedVariables false
set_option linter.unusedSimpArgs false
namespace Go.Proofs.Ytidccoahjpjoaaa
open Go Go.RowKit Q

theorem set2_cell {w : World} {g g' i : Nat} {u1 u2 v : Value} (hne : g ≠ g') (h : w.cell? ⟨g, i, none⟩ = some v) : ((w.setCell ⟨g', 0, none⟩ u1).setCell ⟨g', 1, none⟩ u2).cell? ⟨g, i, none⟩ = some v := by
  rw [← h]
  exact ((grown_set (w := w.setCell ⟨g', 0, none⟩ u1) (g := g') (i := 1) u2).cell ((grown_set (w := w) (g := g') (i := 0) u1).cell h (by simpa using hne)) (by simpa using hne)).trans h.symm

set_option maxHeartbeats 1000000 in
theorem LentWhole_calls (n : Bool) (A : Option Addr) (c : Nat) (xs : List Int) (w : World) (h : In w A c xs) :
    Calls Try.prog 12 #[.agg #[.bool n, .slice A xs.length c]] w fun e w' => ∃ B d, e = .returned (.agg #[.bool n, .slice B xs.length d]) ∧ Ow w' 58 w.heap.size (.slice B (lent xs).length d) (lent xs) ∧ Below w.heap.size w w' := by
  have H := Q.hid h
  have hm : xs.length ≤ 9223372036854775807 := by have := h.small; omega
  clear h
  obtain ⟨W, hW⟩ : ∃ W, W = ((w.alloc (.cells #[.bool n, .slice A xs.length c] 24)).alloc (.cells #[.bool false, .slice none 0 0] 24)) := ⟨_, rfl⟩
  have B1 : Hid (Bx W w.heap.size n (.slice A xs.length c)) := by rw [hW]; exact (Bx.new w n (.slice A xs.length c)).alloc _
  have B3 : Hid (Bx W (w.heap.size + 1) false (.slice none 0 0)) := by
    have := Bx.new (w.alloc (.cells #[.bool n, .slice A xs.length c] 24)) false (.slice none 0 0)
    simp only [World.size_alloc] at this
    rw [hW]; exact this
  have HB : Hid (Below w.heap.size w W) := by rw [hW]; exact below_alloc2 w _ _
  have hg3 : w.heap.size + 1 < W.heap.size := B3.out.lt
  have HX : Hid (Rd W A xs) := (H.out.below HB.out).rd
  have k10 := B1.out.c0
  have k11 := B1.out.c1
  go_enter Try.func12, Try.ntmps12
  go_wp2
  rw [← hW]
  clear hW
  go_region_held3 (fun w' => w'.cell? ⟨w.heap.size, 0, none⟩ = some (.bool n) ∧ w'.cell? ⟨w.heap.size, 1, none⟩ = some (.slice A xs.length c)) (first | exact ⟨k10, k11⟩ | exact ⟨set2_cell (by omega) k10, set2_cell (by omega) k11⟩) (first
    | (go_at_call 50
       refine (LentWords_calls A c xs _ ?_ H.out.small).mono ?_
       exact HX.out
       rintro e w2 ⟨v, rfl, ho, hb⟩
       obtain ⟨A2, c2, e2, hc1, hc2, _⟩ := ho.slice
       subst e2
       have hbb : Below W.heap.size W w2 := ⟨hb.os, hb.tape, hb.output, hb.size, hb.block⟩
       have HO2 : Hid (Ow w2 58 W.heap.size (.slice A2 (lent xs).length c2) (lent xs)) := ho
       have hll : (lent xs).length = xs.length + 3 := lent_length xs
       have hle : xs.length ≤ c2 := by omega
       have hcm : c2 ≤ 9223372036854775807 := by simpa [maxLen] using hc2
       have hl0 : xs.length ≤ (lent xs).length := by omega
       have B1' := Q.hid (B1.out.below hbb)
       have B3' := Q.hid (B3.out.below hbb)
       have HB' := Q.hid (bs2 HB.out hbb)
       clear ho hb hbb hc1 hc2 k10 k11 hll
       have k10 := B1'.out.c0
       have k11 := B1'.out.c1
       have k30 := B3'.out.c0
       have k31 := B3'.out.c1
       have f30 := B3'.out.f0
       have f31 := B3'.out.f1))
  all_goals
    go_wp2
    refine bodyPost_ret (by rw [results_cell1 rfl]; go_simp; rfl) rfl ?_
    exact ⟨A2, c2, rfl, far2 HO2.out (by omega) (by omega) _ _, below_set2 HB'.out (by omega) _ _⟩

theorem KeptWords_eq (A A' : Option Addr) (c c' : Nat) (ys : List Int) (w : World) (h : Rd w A (lent ys)) (h' : Rd w A' ys) (hm : ys.length * 4 ≤ 140737488351232) :
    Calls Try.prog 53 #[.slice A (ys.length + 3) c, .slice A' ys.length c'] w fun e w' => e = .returned (.bool true) ∧ Below w.heap.size w w' := by
  have HK := KeptWords_calls A A' c c' (lent ys) ys w h h' hm (by rw [lent_length]; omega)
  rw [lent_length] at HK
  exact HK.mono fun e w' ⟨he, hb⟩ => ⟨by rw [he]; simp, hb⟩

set_option maxHeartbeats 1000000 in
theorem KeptWhole_calls (n : Bool) (A A1 : Option Addr) (c c1 : Nat) (xs : List Int) (w : World) (h : In w A c xs) (h1 : Rd w A1 (lent xs)) (hc : xs.length + 3 ≤ c1) (hc2 : c1 ≤ 9223372036854775807) :
    Calls Try.prog 16 #[.agg #[.bool n, .slice A1 xs.length c1], .agg #[.bool n, .slice A xs.length c]] w fun e w' => e = .returned (.bool true) ∧ Below w.heap.size w w' := by
  have H := Q.hid h
  have H1 := Q.hid h1
  have hm : xs.length ≤ 92233720368547758 := by have := h.small; omega
  clear h h1
  have hn : (n == n) = true := by simp
  have hcI : (xs.length : Int) + 3 ≤ (c1 : Int) := by omega
  have hcZ : (0 : Int) ≤ (xs.length : Int) + 3 := by omega
  have hcT : ((xs.length : Int) + 3).toNat = xs.length + 3 := by omega
  have hcU : IntKind.i64.wrap ((xs.length : Int) + 3) = (xs.length : Int) + 3 := by rw [IntKind.wrap_i64]; omega
  have hcW : wrap64 ((xs.length : Int) + 3) = (xs.length : Int) + 3 := by unfold wrap64; omega
  have hc0 : xs.length ≤ c1 := by omega
  have hl : ((xs.length : Int) == (xs.length : Int)) = true := by simp
  have hl2 : (xs.length == xs.length) = true := by simp
  obtain ⟨W, hW⟩ : ∃ W, W = ((w.alloc (.cells #[.bool n, .slice A1 xs.length c1] 24)).alloc (.cells #[.bool n, .slice A xs.length c] 24)) := ⟨_, rfl⟩
  have B1 : Hid (Bx W w.heap.size n (.slice A1 xs.length c1)) := by rw [hW]; exact (Bx.new w n (.slice A1 xs.length c1)).alloc _
  have B2 : Hid (Bx W (w.heap.size + 1) n (.slice A xs.length c)) := by
    have := Bx.new (w.alloc (.cells #[.bool n, .slice A1 xs.length c1] 24)) n (.slice A xs.length c)
    simp only [World.size_alloc] at this
    rw [hW]; exact this
  have HB : Hid (Below w.heap.size w W) := by rw [hW]; exact below_alloc2 w _ _
  have HR1 : Hid (Rd W A1 (lent xs)) := H1.out.below HB.out
  have HR2 : Hid (Rd W A xs) := (H.out.below HB.out).rd
  have k10 := B1.out.c0
  have k11 := B1.out.c1
  have k20 := B2.out.c0
  have k21 := B2.out.c1
  go_enter Try.func16, Try.ntmps16
  go_wp2
  rw [← hW]
  clear hW
  go_region_held3 (fun w' => w'.cell? ⟨w.heap.size, 0, none⟩ = some (.bool n) ∧ w'.cell? ⟨w.heap.size, 1, none⟩ = some (.slice A1 xs.length c1) ∧ w'.cell? ⟨w.heap.size + 1, 0, none⟩ = some (.bool n) ∧ w'.cell? ⟨w.heap.size + 1, 1, none⟩ = some (.slice A xs.length c)) (exact ⟨k10, k11, k20, k21⟩) (first
    | (go_at_call 53
       refine (KeptWords_eq A1 A c1 c xs _ ?_ ?_ H.out.small).mono ?_
       exact HR1.out
       exact HR2.out
       rintro e w2 ⟨rfl, hb⟩
       have hbb : Below W.heap.size W w2 := ⟨hb.os, hb.tape, hb.output, hb.size, hb.block⟩
       have HB' := Q.hid (bs2 HB.out hbb)
       have B1' := Q.hid (B1.out.below hbb)
       have B2' := Q.hid (B2.out.below hbb)
       clear hb hbb k10 k11 k20 k21
       have k10 := B1'.out.c0
       have k11 := B1'.out.c1
       have k20 := B2'.out.c0
       have k21 := B2'.out.c1))
  all_goals
    go_wp2
    go_ret
    exact ⟨rfl, HB'.out⟩

theorem SameWhole_eq (n : Bool) (A A' : Option Addr) (c c' : Nat) (xs : List Int) (w : World) (h : Rd w A xs) (h' : Rd w A' xs) (hm : xs.length ≤ 9223372036854775807) :
    Calls Try.prog 8 #[.agg #[.bool n, .slice A xs.length c], .agg #[.bool n, .slice A' xs.length c']] w fun e w' => e = .returned (.bool true) ∧ Below w.heap.size w w' :=
  (SameWhole_calls n n A A' c c' xs xs w h h' hm).mono fun e w' ⟨he, hb⟩ => ⟨by rw [he]; simp, hb⟩

set_option maxHeartbeats 400000 in
theorem wone_calls (n m : Bool) (e f : Int) (A A' : Option Addr) (c c' : Nat) (xs ys : List Int) (w : World) (h : Rd w A xs) (h' : Rd w A' ys) (hm : xs.length ≤ 9223372036854775807) (he : e = f) (hn : n = m) (hx : xs = ys) :
    Calls Try.prog 15 #[.agg #[.bool n, .slice A xs.length c], .int .i64 e, .agg #[.bool m, .slice A' ys.length c'], .int .i64 f] w fun r w' => r = .returned (.bool true) ∧ Below w.heap.size w w' := by
  subst he hn hx
  have H := Q.hid h
  have H' := Q.hid h'
  clear h h'
  have he : (e == e) = true := by simp
  go_enter Try.func15, Try.ntmps15
  go_wp2_with fail
  refine (SameWhole_eq n A A' c c' xs _ (H.out.below (below_alloc2 _ _ _)) (H'.out.below (below_alloc2 _ _ _)) hm).mono ?_
  rintro r w1 ⟨rfl, hb⟩
  have HB := Q.hid ((below_alloc2 w _ _).trans (hb.mono (by simp; omega)))
  clear hb
  go_wp2
  go_ret
  exact ⟨rfl, HB.out⟩
end Go.Proofs.Ytidccoahjpjoaaa
