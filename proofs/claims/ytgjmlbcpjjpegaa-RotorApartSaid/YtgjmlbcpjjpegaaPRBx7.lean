/- Written by wip/xprint.py (the kit's print over given functions). -/
import Derived.Test.YtgjmlbcpjjpegaaPRBx0
import Derived.Test.YtgjmlbcpjjpegaaPRBx2
import Derived.Test.YtgjmlbcpjjpegaaPRBx4
import Derived.Test.YtgjmlbcpjjpegaaPRBx6
namespace Go.Proofs.Ytgjmlbcpjjpegaa.PRB
open Go.RowKit Go.Proofs.YtgjmlbcpjjpegaaW.PrintWords Go.Proofs.YtgjmlbcpjjpegaaW.PrintLast Go.Proofs.YtgjmlbcpjjpegaaW.PrintMore
attribute [local go_sem] max2_int min2_int max_two min_two max_three min_three max_four min_four   -- for this text's walks alone
set_option linter.unusedVariables false
set_option linter.unusedSimpArgs false

/-! ### rotor_Find: function 14 -/
mutual
def rotor_Find.j0 : Nat → Bool → Bool → List Int → List Int → Bool → List Int → List Int → Option (Int × Int × Bool)
 | 0, _, _, _, _, _, _, _ => none
 | k + 1, x41, x311000, x311001, x311002, x311003, x311004, x311005 => if x41 = true then (none) else ((ratio_Small.f 1 1).bind fun bt313 => ((ratio_Add.f k bt313.1 bt313.2.1 bt313.2.2.1 x311000 x311001 x311002).bind fun bt322 => ((ratio_Sign.f k bt322.1 bt322.2.1 bt322.2.2.1).bind fun t331 => (if t331 = 0 then (none) else ((ratio_Quo.f k x311003 x311004 x311005 bt322.1 bt322.2.1 bt322.2.2.1).bind fun bt332 => (if (bt332.2.1.length : Int) = 1 then (if (bt332.2.2.1.length : Int) = 1 then (if 0 < (bt332.2.1.length : Int) then (if (rd bt332.2.1 0) > 1000 then (none) else (if 0 < (bt332.2.2.1.length : Int) then (rotor_Find.j1 k (decide ((rd bt332.2.2.1 0) > 1000)) x311000 x311001 x311002 x311003 x311004 x311005 bt332.1 bt332.2.1 bt332.2.2.1) else (none))) else (none)) else (none)) else (none)))))))
def rotor_Find.j1 : Nat → Bool → Bool → List Int → List Int → Bool → List Int → List Int → Bool → List Int → List Int → Option (Int × Int × Bool)
 | 0, _, _, _, _, _, _, _, _, _, _ => none
 | k + 1, x88, x311000, x311001, x311002, x311003, x311004, x311005, x341000, x341001, x341002 => if x88 = true then (none) else (if 0 < (x341002.length : Int) then (if 0 < (x341001.length : Int) then (if x341000 = true then (rotor_Find.j2 k x311000 x311001 x311002 x311003 x311004 x311005 (wrap32 (rd x341002 0)) (wrap32 (-(wrap32 (rd x341001 0))))) else (rotor_Find.j2 k x311000 x311001 x311002 x311003 x311004 x311005 (wrap32 (rd x341002 0)) (wrap32 (rd x341001 0)))) else (none)) else (none))
def rotor_Find.j2 : Nat → Bool → List Int → List Int → Bool → List Int → List Int → Int → Int → Option (Int × Int × Bool)
 | 0, _, _, _, _, _, _, _, _ => none
 | k + 1, x311000, x311001, x311002, x311003, x311004, x311005, x346000, x346001 => (rotor_Check.f k x346000 x346001).bind fun t346 => (if t346 = 0 then ((rotor_number.f x346000 x346001).bind fun bt347 => ((gauss_Same.f k bt347.1 bt347.2.1 bt347.2.2.1 bt347.2.2.2.1 bt347.2.2.2.2.1 bt347.2.2.2.2.2 x311000 x311001 x311002 x311003 x311004 x311005).bind fun t361 => (if t361 = true then (some (x346000, x346001, true)) else (none)))) else (none))
end
def rotor_Find.f (k : Nat) (a0_0 : Bool) (l0_1 : List Int) (l0_2 : List Int) (a0_3 : Bool) (l0_4 : List Int) (l0_5 : List Int) : Option (Int × Int × Bool) := (gauss_Check.f k a0_0 l0_1 l0_2 a0_3 l0_4 l0_5).bind fun t312 => (if t312 = 0 then (if (l0_1.length : Int) > 1 then (none) else (if (l0_4.length : Int) > 1 then (none) else (if (l0_2.length : Int) > 1 then (none) else (rotor_Find.j0 k (decide ((l0_5.length : Int) > 1)) a0_0 l0_1 l0_2 a0_3 l0_4 l0_5)))) else (none))
def rotor_Find.T10 : Bool × List (List Nat × List Nat) := (true, [([], []), ([0], [0]), ([1], [1]), ([2], [2]), ([3], [3]), ([], []), ([5], [5]), ([6], [6]), ([7], [7]), ([8], [8]), ([4, 9], [4, 9]), ([], []), ([11, 10, 0, 1, 2, 3, 4, 5, 6, 7, 8, 9, 10, 11], [10, 11])])
def rotor_Find.B10 : List Nat := [0, 1, 3, 7, 15, 0, 32, 96, 224, 480, 1023, 0, 4095]
theorem rotor_Find.tab10 : rtab .any (opsOf Try.f14 10) = rotor_Find.T10 := by kernel_rfl
theorem rotor_Find.bits10 : waitsOk rotor_Find.T10.2 rotor_Find.B10 = true := by kernel_rfl
def rotor_Find.T13 : Bool × List (List Nat × List Nat) := (true, [([], []), ([0], [0]), ([1], [1]), ([2, 1], [2]), ([3], [3]), ([4, 3, 3], [3, 4]), ([3], [3]), ([5, 6, 5, 3], [3, 5, 6]), ([7, 3], [3, 7]), ([3, 8], [3, 8])])
def rotor_Find.B13 : List Nat := [0, 1, 3, 7, 15, 31, 15, 127, 255, 511]
theorem rotor_Find.tab13 : rtab .any (opsOf Try.f14 13) = rotor_Find.T13 := by kernel_rfl
theorem rotor_Find.bits13 : waitsOk rotor_Find.T13.2 rotor_Find.B13 = true := by kernel_rfl
set_option maxHeartbeats 8000000 in
set_option maxRecDepth 100000 in
theorem rotor_Find.calls (k : Nat) (a0_0 : Bool) (A0_1 : Option Addr) (c0_1 : Nat) (l0_1 : List Int) (A0_2 : Option Addr) (c0_2 : Nat) (l0_2 : List Int) (a0_3 : Bool) (A0_4 : Option Addr) (c0_4 : Nat) (l0_4 : List Int) (A0_5 : Option Addr) (c0_5 : Nat) (l0_5 : List Int) (r1 : Int) (r2 : Int) (r3 : Bool) (w : World) (hr0_1 : Kd.C (Kd.int .u32) w A0_1 l0_1.length l0_1) (hc0_1 : l0_1.length ≤ c0_1) (hr0_2 : Kd.C (Kd.int .u32) w A0_2 l0_2.length l0_2) (hc0_2 : l0_2.length ≤ c0_2) (hr0_4 : Kd.C (Kd.int .u32) w A0_4 l0_4.length l0_4) (hc0_4 : l0_4.length ≤ c0_4) (hr0_5 : Kd.C (Kd.int .u32) w A0_5 l0_5.length l0_5) (hc0_5 : l0_5.length ≤ c0_5) (h : rotor_Find.f k a0_0 l0_1 l0_2 a0_3 l0_4 l0_5 = some (r1, r2, r3)) :
  Calls Try.prog 14 #[.agg #[.bool a0_0, .slice A0_1 l0_1.length c0_1, .slice A0_2 l0_2.length c0_2, .bool a0_3, .slice A0_4 l0_4.length c0_4, .slice A0_5 l0_5.length c0_5]] w fun e w' => e = .returned (.tuple #[.agg #[.int .i32 r1, .int .i32 r2], .bool r3]) ∧ Below w.heap.size w w' := by
 have hu34 := Try.underlying34
 have hu25 := Try.underlying25
 have hu32 := Try.underlying32
 have HR0_1 := Aside0.mk hr0_1
 have HC0_1 := Aside0.mk hc0_1
 clear hr0_1 hc0_1
 have HR0_2 := Aside0.mk hr0_2
 have HC0_2 := Aside0.mk hc0_2
 clear hr0_2 hc0_2
 have HR0_4 := Aside0.mk hr0_4
 have HC0_4 := Aside0.mk hc0_4
 clear hr0_4 hc0_4
 have HR0_5 := Aside0.mk hr0_5
 have HC0_5 := Aside0.mk hc0_5
 clear hr0_5 hc0_5
 have HB := aZ (Below.refl w.heap.size w)
 have H : ((gauss_Check.f k a0_0 l0_1 l0_2 a0_3 l0_4 l0_5).bind fun t312 => (if t312 = 0 then (if (l0_1.length : Int) > 1 then (none) else (if (l0_4.length : Int) > 1 then (none) else (if (l0_2.length : Int) > 1 then (none) else (rotor_Find.j0 k (decide ((l0_5.length : Int) > 1)) a0_0 l0_1 l0_2 a0_3 l0_4 l0_5)))) else (none))) = some (r1, r2, r3) := h
 clear h
 have HC2 := Aside0.mk H
 clear H
 go_enter Try.func14, Try.ntmps14
 go_upto_region 1 with (first | ((with_reducible refine gD (N := 1) rfl ?_); (try (refine gate_guard (by rfl) ?_; dsimp only)); refine gB ?hg (N := 1) ?hd (cs := #[.bool a0_0, .slice A0_1 l0_1.length c0_1, .slice A0_2 l0_2.length c0_2, .bool a0_3, .slice A0_4 l0_4.length c0_4, .slice A0_5 l0_5.length c0_5]) (t := 34) ?hr ?_; (case hd => rfl); (case hg => rfl); (case hr => first | (go_simp; done) | (go_simp; rfl)); intro gb310 hg w3 hbox hb; have n0_ := aZ (wP (by repeat (first | (with_reducible first | exact HB.out | apply wA | apply wN | apply wD) | exact HB.out)) hb); have n1_ := aZ (hbox); have n2_ := aZ ((by rw [hg]; exact (wZ (by repeat (first | (with_reducible first | exact HB.out | apply wA | apply wN | apply wD) | exact HB.out))) : w.heap.size ≤ gb310)); have n3_ := aZ ((by rw [hg]; exact (wZ (by repeat (first | (with_reducible first | exact HB.out | apply wA | apply wN | apply wD) | exact HB.out))) : w.heap.size ≤ gb310)); clear HB; have HB := n0_; have BK310 := n1_; have GW310 := n2_; have GE310 := n3_; clear n0_ n1_ n2_ n3_; clear hb hbox hg) | ((with_reducible refine gD (N := 2) rfl ?_); (try (refine gate_guard (by rfl) ?_; dsimp only)); refine gB ?hg (N := 2) ?hd (cs := #[.int .i32 0, .int .i32 0]) (t := 25) ?hr ?_; (case hd => rfl); (case hg => rfl); (case hr => first | (go_simp; done) | (go_simp; rfl)); intro gb311 hg w4 hbox hb; have n0_ := aZ (bB (g := gb310) (o := .cells #[.bool a0_0, .slice A0_1 l0_1.length c0_1, .slice A0_2 l0_2.length c0_2, .bool a0_3, .slice A0_4 l0_4.length c0_4, .slice A0_5 l0_5.length c0_5] 34 (0, 0)) (by (with_reducible repeat (first | refine bN ?_ _ | refine bW ?_ | refine bA ?_ _)); exact BK310.out) hb); have n1_ := aZ (wP (by repeat (first | (with_reducible first | exact HB.out | apply wA | apply wN | apply wD | refine wS ?_ GE310.out) | exact HB.out)) hb); have n2_ := aZ (hbox); have n3_ := aZ ((by rw [hg]; exact (wZ (by repeat (first | (with_reducible first | exact HB.out | apply wA | apply wN | apply wD | refine wS ?_ GE310.out) | exact HB.out))) : w.heap.size ≤ gb311)); have n4_ := aZ ((by rw [hg]; exact (wZ (by repeat (first | (with_reducible first | exact HB.out | apply wA | apply wN | apply wD | refine wS ?_ GE310.out) | exact HB.out))) : w.heap.size ≤ gb311)); have n5_ := aZ ((by rw [hg]; exact Nat.ne_of_lt (bL (g := gb310) (o := .cells #[.bool a0_0, .slice A0_1 l0_1.length c0_1, .slice A0_2 l0_2.length c0_2, .bool a0_3, .slice A0_4 l0_4.length c0_4, .slice A0_5 l0_5.length c0_5] 34 (0, 0)) (by (with_reducible repeat (first | refine bN ?_ _ | refine bW ?_ | refine bA ?_ _)); exact BK310.out)) : gb310 ≠ gb311)); have n6_ := aZ ((by rw [hg]; exact Nat.ne_of_gt (bL (g := gb310) (o := .cells #[.bool a0_0, .slice A0_1 l0_1.length c0_1, .slice A0_2 l0_2.length c0_2, .bool a0_3, .slice A0_4 l0_4.length c0_4, .slice A0_5 l0_5.length c0_5] 34 (0, 0)) (by (with_reducible repeat (first | refine bN ?_ _ | refine bW ?_ | refine bA ?_ _)); exact BK310.out)) : gb311 ≠ gb310)); clear BK310 HB; have BK310 := n0_; have HB := n1_; have BK311 := n2_; have GW311 := n3_; have GE311 := n4_; have NB310_311 := n5_; have NB311_310 := n6_; clear n0_ n1_ n2_ n3_ n4_ n5_ n6_; clear hb hbox hg))
 (try simp only [Act.put, List.setIfInBounds_toArray, List.set_cons_zero, List.set_cons_succ])
 go_cut [41] (fun v41 wc => ∃ (kq : Nat) (x41_1 : Bool), v41 = .bool x41_1 ∧ Aside0 (rotor_Find.j0 kq x41_1 a0_0 l0_1 l0_2 a0_3 l0_4 l0_5 = some (r1, r2, r3)) ∧ Aside0 (kq ≤ k) ∧ Aside0 (wc.heap[gb310]? = some (.cells #[.bool a0_0, (.slice A0_1 l0_1.length c0_1), (.slice A0_2 l0_2.length c0_2), .bool a0_3, (.slice A0_4 l0_4.length c0_4), (.slice A0_5 l0_5.length c0_5)] 34 (0, 0))) ∧ Aside0 (wc.heap[gb311]? = some (.cells #[.int .i32 0, .int .i32 0] 25 (0, 0))) ∧ Aside0 (Below w.heap.size w wc))
 case first =>
  have H := HC2.out
  clear HC2
  replace H := Option.bind_eq_some_iff.mp H
  obtain ⟨t312, A50, H⟩ := H
  replace H : (if t312 = 0 then (if (l0_1.length : Int) > 1 then (none) else (if (l0_4.length : Int) > 1 then (none) else (if (l0_2.length : Int) > 1 then (none) else (rotor_Find.j0 k (decide ((l0_5.length : Int) > 1)) a0_0 l0_1 l0_2 a0_3 l0_4 l0_5)))) else (none)) = some (r1, r2, r3) := H
  have A5 := Aside0.mk A50
  clear A50
  by_cases c6 : t312 = 0
  ·
   rw [if_pos c6] at H
   have c6b0 : (t312 == 0) = true := beq_iff_eq.mpr c6
   have c6b1 : (t312 != 0) = false := bne_eq_false_iff_eq.mpr c6
   clear c6
   (first | rw [c6b0] | (simp only [i64_w, i32_w]; rw [c6b0]) | skip)
   by_cases c7 : (l0_1.length : Int) > 1
   ·
    rw [if_pos c7] at H
    exact absurd H (by simp)
   rw [if_neg c7] at H
   have c7b0 : decide (1 < (l0_1.length : Int)) = false := decide_eq_false c7
   have c7b1 : decide (1 < l0_1.length) = false := decide_eq_false (by omega)
   clear c7
   by_cases c8 : (l0_4.length : Int) > 1
   ·
    rw [if_pos c8] at H
    exact absurd H (by simp)
   rw [if_neg c8] at H
   have c8b0 : decide (1 < (l0_4.length : Int)) = false := decide_eq_false c8
   have c8b1 : decide (1 < l0_4.length) = false := decide_eq_false (by omega)
   clear c8
   by_cases c9 : (l0_2.length : Int) > 1
   ·
    rw [if_pos c9] at H
    exact absurd H (by simp)
   rw [if_neg c9] at H
   have c9b0 : decide (1 < (l0_2.length : Int)) = false := decide_eq_false c9
   have c9b1 : decide (1 < l0_2.length) = false := decide_eq_false (by omega)
   clear c9
   have H' := Aside0.mk H
   clear H
   have hnb10 := NB310_311.out
   have hnc10 := NB311_310.out
   have hcz11_0 : w4.cell? ⟨gb310, 0, none⟩ = some (.bool a0_0) := (bC BK310.out 0).trans rfl
   have hcz11_1 : w4.cell? ⟨gb310, 1, none⟩ = some (.slice A0_1 l0_1.length c0_1) := (bC BK310.out 1).trans rfl
   have hcz11_2 : w4.cell? ⟨gb310, 2, none⟩ = some (.slice A0_2 l0_2.length c0_2) := (bC BK310.out 2).trans rfl
   have hcz11_3 : w4.cell? ⟨gb310, 3, none⟩ = some (.bool a0_3) := (bC BK310.out 3).trans rfl
   have hcz11_4 : w4.cell? ⟨gb310, 4, none⟩ = some (.slice A0_4 l0_4.length c0_4) := (bC BK310.out 4).trans rfl
   have hcz11_5 : w4.cell? ⟨gb310, 5, none⟩ = some (.slice A0_5 l0_5.length c0_5) := (bC BK310.out 5).trans rfl
   have hfz11_0 := bZ BK310.out 0
   have hfz11_1 := bZ BK310.out 1
   have hfz11_2 := bZ BK310.out 2
   have hfz11_3 := bZ BK310.out 3
   have hfz11_4 := bZ BK310.out 4
   have hfz11_5 := bZ BK310.out 5
   go_wp2_with (first | ((with_reducible refine gC (f := 38) rfl ?_); refine goesL_ (some 12) rfl rfl Try.func38 (by kernel_rfl) rfl #[.agg #[.bool a0_0, .slice A0_1 l0_1.length c0_1, .slice A0_2 l0_2.length c0_2, .bool a0_3, .slice A0_4 l0_4.length c0_4, .slice A0_5 l0_5.length c0_5]] rfl (by (try simp only [List.map_toArray, List.map_cons, List.map_nil]); first | done | rfl | (simp only [List.length_drop, List.length_take]; rfl)) ?_; (with_reducible refine (gauss_Check.calls k a0_0 _ _ l0_1 _ _ l0_2 a0_3 _ _ l0_4 _ _ l0_5 t312 _ ?side1 ?side2 ?side3 ?side4 ?side5 ?side6 ?side7 ?side8 A5.out).mono ?_); (case side1 => repeat (first | exact (Kd.C_below HR0_1.out HB.out) | (with_reducible refine Kd.C_alloc ?_ _) | (with_reducible refine Kd.C_drewN ?_ _) | (with_reducible refine Kd.C_drew ?_))); (case side2 => exact HC0_1.out); (case side3 => repeat (first | exact (Kd.C_below HR0_2.out HB.out) | (with_reducible refine Kd.C_alloc ?_ _) | (with_reducible refine Kd.C_drewN ?_ _) | (with_reducible refine Kd.C_drew ?_))); (case side4 => exact HC0_2.out); (case side5 => repeat (first | exact (Kd.C_below HR0_4.out HB.out) | (with_reducible refine Kd.C_alloc ?_ _) | (with_reducible refine Kd.C_drewN ?_ _) | (with_reducible refine Kd.C_drew ?_))); (case side6 => exact HC0_4.out); (case side7 => repeat (first | exact (Kd.C_below HR0_5.out HB.out) | (with_reducible refine Kd.C_alloc ?_ _) | (with_reducible refine Kd.C_drewN ?_ _) | (with_reducible refine Kd.C_drew ?_))); (case side8 => exact HC0_5.out); rintro e w12 ⟨rfl, hb⟩; refine ⟨_, rfl, ?_⟩; have n0_ := aZ (bB (g := gb310) (o := .cells #[.bool a0_0, .slice A0_1 l0_1.length c0_1, .slice A0_2 l0_2.length c0_2, .bool a0_3, .slice A0_4 l0_4.length c0_4, .slice A0_5 l0_5.length c0_5] 34 (0, 0)) (by (with_reducible repeat (first | refine bN ?_ _ | refine bW ?_ | refine bA ?_ _)); exact BK310.out) hb); have n1_ := aZ (bB (g := gb311) (o := .cells #[.int .i32 0, .int .i32 0] 25 (0, 0)) (by (with_reducible repeat (first | refine bN ?_ _ | refine bW ?_ | refine bA ?_ _)); exact BK311.out) hb); have n2_ := aZ (wP (by repeat (first | (with_reducible first | exact HB.out | apply wA | apply wN | apply wD | refine wS ?_ GE310.out | refine wS ?_ GE311.out) | exact HB.out)) hb); clear BK310 BK311 HB; have BK310 := n0_; have BK311 := n1_; have HB := n2_; clear n0_ n1_ n2_; (try clear hb); (try clear hb2); (try clear hk); (try clear hi); have hcz13_0 : w12.cell? ⟨gb310, 0, none⟩ = some (.bool a0_0) := (bC BK310.out 0).trans rfl; have hcz13_1 : w12.cell? ⟨gb310, 1, none⟩ = some (.slice A0_1 l0_1.length c0_1) := (bC BK310.out 1).trans rfl; have hcz13_2 : w12.cell? ⟨gb310, 2, none⟩ = some (.slice A0_2 l0_2.length c0_2) := (bC BK310.out 2).trans rfl; have hcz13_3 : w12.cell? ⟨gb310, 3, none⟩ = some (.bool a0_3) := (bC BK310.out 3).trans rfl; have hcz13_4 : w12.cell? ⟨gb310, 4, none⟩ = some (.slice A0_4 l0_4.length c0_4) := (bC BK310.out 4).trans rfl; have hcz13_5 : w12.cell? ⟨gb310, 5, none⟩ = some (.slice A0_5 l0_5.length c0_5) := (bC BK310.out 5).trans rfl; have hfz13_0 := bZ BK310.out 0; have hfz13_1 := bZ BK310.out 1; have hfz13_2 := bZ BK310.out 2; have hfz13_3 := bZ BK310.out 3; have hfz13_4 := bZ BK310.out 4; have hfz13_5 := bZ BK310.out 5))
   go_meet
   case rel => exact ⟨_, (decide ((l0_5.length : Int) > 1)), (by first | rfl | (simp; done) | (simp [*]; done)), H', ⟨by first | omega | exact Nat.le_refl _⟩, ⟨by (with_reducible repeat (first | refine bN ?_ _ | refine bW ?_ | refine bA ?_ _)); exact BK310.out⟩, ⟨by (with_reducible repeat (first | refine bN ?_ _ | refine bW ?_ | refine bA ?_ _)); exact BK311.out⟩, ⟨by repeat (first | (with_reducible first | exact HB.out | apply wA | apply wN | apply wD | refine wS ?_ GE310.out | refine wS ?_ GE311.out) | exact HB.out)⟩⟩
  rw [if_neg c6] at H
  exact absurd H (by simp)
 case' rest => skip
 clear HC2
 try clear c1
 try clear p2
 try clear c3
 try clear c6
 try clear c6b0
 try clear c6b1
 try clear c7
 try clear c7b0
 try clear c7b1
 try clear c8
 try clear c8b0
 try clear c8b1
 try clear c9
 try clear c9b0
 try clear c9b1
 try clear c10
 try clear hcz11_0
 try clear hcz11_1
 try clear hcz11_2
 try clear hcz11_3
 try clear hcz11_4
 try clear hcz11_5
 try clear hcz13_0
 try clear hcz13_1
 try clear hcz13_2
 try clear hcz13_3
 try clear hcz13_4
 try clear hcz13_5
 try clear hfz11_0
 try clear hfz11_1
 try clear hfz11_2
 try clear hfz11_3
 try clear hfz11_4
 try clear hfz11_5
 try clear hfz13_0
 try clear hfz13_1
 try clear hfz13_2
 try clear hfz13_3
 try clear hfz13_4
 try clear hfz13_5
 obtain ⟨kq, x41_1, rfl, HA, HJ1, BK310, BK311, HB⟩ := hcut
 cases kq with
 | zero => exact absurd HA.out (by simp [rotor_Find.j0])
 | succ kj1 =>
  have H := HA.out
  clear HA
  simp only [rotor_Find.j0] at H
  by_cases c14 : x41_1 = true
  ·
   subst c14
   have H1 : (none) = some (r1, r2, r3) := by rw [if_pos rfl] at H; exact H
   clear H
   have H := H1
   clear H1
   exact absurd H (by simp)
  replace c14 := Bool.eq_false_iff.mpr c14
  subst c14
  have H1 : ((ratio_Small.f 1 1).bind fun bt313 => ((ratio_Add.f kj1 bt313.1 bt313.2.1 bt313.2.2.1 a0_0 l0_1 l0_2).bind fun bt322 => ((ratio_Sign.f kj1 bt322.1 bt322.2.1 bt322.2.2.1).bind fun t331 => (if t331 = 0 then (none) else ((ratio_Quo.f kj1 a0_3 l0_4 l0_5 bt322.1 bt322.2.1 bt322.2.2.1).bind fun bt332 => (if (bt332.2.1.length : Int) = 1 then (if (bt332.2.2.1.length : Int) = 1 then (if 0 < (bt332.2.1.length : Int) then (if (rd bt332.2.1 0) > 1000 then (none) else (if 0 < (bt332.2.2.1.length : Int) then (rotor_Find.j1 kj1 (decide ((rd bt332.2.2.1 0) > 1000)) a0_0 l0_1 l0_2 a0_3 l0_4 l0_5 bt332.1 bt332.2.1 bt332.2.2.1) else (none))) else (none)) else (none)) else (none))))))) = some (r1, r2, r3) := by rw [if_neg (show ¬ (false = true) by decide)] at H; exact H
  clear H
  have H := H1
  clear H1
  replace H := Option.bind_eq_some_iff.mp H
  obtain ⟨⟨t313, t314, t317, t320⟩, A150, H⟩ := H
  replace H : ((ratio_Add.f kj1 t313 t314 t317 a0_0 l0_1 l0_2).bind fun bt322 => ((ratio_Sign.f kj1 bt322.1 bt322.2.1 bt322.2.2.1).bind fun t331 => (if t331 = 0 then (none) else ((ratio_Quo.f kj1 a0_3 l0_4 l0_5 bt322.1 bt322.2.1 bt322.2.2.1).bind fun bt332 => (if (bt332.2.1.length : Int) = 1 then (if (bt332.2.2.1.length : Int) = 1 then (if 0 < (bt332.2.1.length : Int) then (if (rd bt332.2.1 0) > 1000 then (none) else (if 0 < (bt332.2.2.1.length : Int) then (rotor_Find.j1 kj1 (decide ((rd bt332.2.2.1 0) > 1000)) a0_0 l0_1 l0_2 a0_3 l0_4 l0_5 bt332.1 bt332.2.1 bt332.2.2.1) else (none))) else (none)) else (none)) else (none)))))) = some (r1, r2, r3) := H
  have A15 := Aside0.mk A150
  clear A150
  replace H := Option.bind_eq_some_iff.mp H
  obtain ⟨⟨t322, t323, t326, t329⟩, A160, H⟩ := H
  replace H : ((ratio_Sign.f kj1 t322 t323 t326).bind fun t331 => (if t331 = 0 then (none) else ((ratio_Quo.f kj1 a0_3 l0_4 l0_5 t322 t323 t326).bind fun bt332 => (if (bt332.2.1.length : Int) = 1 then (if (bt332.2.2.1.length : Int) = 1 then (if 0 < (bt332.2.1.length : Int) then (if (rd bt332.2.1 0) > 1000 then (none) else (if 0 < (bt332.2.2.1.length : Int) then (rotor_Find.j1 kj1 (decide ((rd bt332.2.2.1 0) > 1000)) a0_0 l0_1 l0_2 a0_3 l0_4 l0_5 bt332.1 bt332.2.1 bt332.2.2.1) else (none))) else (none)) else (none)) else (none))))) = some (r1, r2, r3) := H
  have A16 := Aside0.mk A160
  clear A160
  replace H := Option.bind_eq_some_iff.mp H
  obtain ⟨t331, A170, H⟩ := H
  replace H : (if t331 = 0 then (none) else ((ratio_Quo.f kj1 a0_3 l0_4 l0_5 t322 t323 t326).bind fun bt332 => (if (bt332.2.1.length : Int) = 1 then (if (bt332.2.2.1.length : Int) = 1 then (if 0 < (bt332.2.1.length : Int) then (if (rd bt332.2.1 0) > 1000 then (none) else (if 0 < (bt332.2.2.1.length : Int) then (rotor_Find.j1 kj1 (decide ((rd bt332.2.2.1 0) > 1000)) a0_0 l0_1 l0_2 a0_3 l0_4 l0_5 bt332.1 bt332.2.1 bt332.2.2.1) else (none))) else (none)) else (none)) else (none)))) = some (r1, r2, r3) := H
  have A17 := Aside0.mk A170
  clear A170
  by_cases c18 : t331 = 0
  ·
   rw [if_pos c18] at H
   exact absurd H (by simp)
  rw [if_neg c18] at H
  have c18b0 : (t331 == 0) = false := beq_eq_false_iff_ne.mpr c18
  have c18b1 : (t331 != 0) = true := bne_iff_ne.mpr c18
  replace H := Option.bind_eq_some_iff.mp H
  obtain ⟨⟨t332, t333, t336, t339⟩, A190, H⟩ := H
  replace H : (if (t333.length : Int) = 1 then (if (t336.length : Int) = 1 then (if 0 < (t333.length : Int) then (if (rd t333 0) > 1000 then (none) else (if 0 < (t336.length : Int) then (rotor_Find.j1 kj1 (decide ((rd t336 0) > 1000)) a0_0 l0_1 l0_2 a0_3 l0_4 l0_5 t332 t333 t336) else (none))) else (none)) else (none)) else (none)) = some (r1, r2, r3) := H
  have A19 := Aside0.mk A190
  clear A190
  have HC20 := Aside0.mk H
  clear H
  go_upto_region 8 with (first | ((with_reducible refine gC (f := 39) rfl ?_); refine goesL_ (some 44) rfl rfl Try.func39 (by kernel_rfl) rfl #[.int .i64 1, .int .i64 1] rfl (by (try simp only [List.map_toArray, List.map_cons, List.map_nil]); first | done | rfl | (simp only [List.length_drop, List.length_take]; rfl)) ?_; (with_reducible refine (ratio_Small.calls 1 1 t313 t314 t317 t320 _ A15.out).mono ?_); rintro e w21 ⟨v315, v318, rfl, ho0, ho1, hb⟩; refine ⟨_, rfl, ?_⟩; have n0_ := aZ (Kd.R_lower ho0 (wZ (by repeat (first | (with_reducible first | exact HB.out | apply wA | apply wN | apply wD | refine wS ?_ GE310.out | refine wS ?_ GE311.out) | exact HB.out)))); have n1_ := aZ (Kd.R_lower ho1 (wZ (by repeat (first | (with_reducible first | exact HB.out | apply wA | apply wN | apply wD | refine wS ?_ GE310.out | refine wS ?_ GE311.out) | exact HB.out)))); have n2_ := aZ (bB (g := gb310) (o := .cells #[.bool a0_0, .slice A0_1 l0_1.length c0_1, .slice A0_2 l0_2.length c0_2, .bool a0_3, .slice A0_4 l0_4.length c0_4, .slice A0_5 l0_5.length c0_5] 34 (0, 0)) (by (with_reducible repeat (first | refine bN ?_ _ | refine bW ?_ | refine bA ?_ _)); exact BK310.out) hb); have n3_ := aZ (bB (g := gb311) (o := .cells #[.int .i32 0, .int .i32 0] 25 (0, 0)) (by (with_reducible repeat (first | refine bN ?_ _ | refine bW ?_ | refine bA ?_ _)); exact BK311.out) hb); have n4_ := aZ (wP (by repeat (first | (with_reducible first | exact HB.out | apply wA | apply wN | apply wD | refine wS ?_ GE310.out | refine wS ?_ GE311.out) | exact HB.out)) hb); clear BK310 BK311 HB; have HO316 := n0_; have HO319 := n1_; have BK310 := n2_; have BK311 := n3_; have HB := n4_; clear n0_ n1_ n2_ n3_ n4_; (try clear hb); (try clear hb2); (try clear hk); (try clear hi); (try clear ho0); (try clear ho1)) | ((with_reducible refine gD (N := 4) rfl ?_); (try (refine gate_guard (by rfl) ?_; dsimp only)); refine gB ?hg (N := 4) ?hd (cs := #[.bool false, .slice none 0 0, .slice none 0 0]) (t := 32) ?hr ?_; (case hd => rfl); (case hg => rfl); (case hr => first | (go_simp; done) | (go_simp; rfl)); intro gb321 hg w22 hbox hb; have n0_ := aZ (Kd.R_below (by (with_reducible repeat (first | apply Kd.R_alloc | apply Kd.R_drewN | apply Kd.R_drew)); exact HO316.out) hb); have n1_ := aZ (Kd.R_below (by (with_reducible repeat (first | apply Kd.R_alloc | apply Kd.R_drewN | apply Kd.R_drew)); exact HO319.out) hb); have n2_ := aZ (bB (g := gb310) (o := .cells #[.bool a0_0, .slice A0_1 l0_1.length c0_1, .slice A0_2 l0_2.length c0_2, .bool a0_3, .slice A0_4 l0_4.length c0_4, .slice A0_5 l0_5.length c0_5] 34 (0, 0)) (by (with_reducible repeat (first | refine bN ?_ _ | refine bW ?_ | refine bA ?_ _)); exact BK310.out) hb); have n3_ := aZ (bB (g := gb311) (o := .cells #[.int .i32 0, .int .i32 0] 25 (0, 0)) (by (with_reducible repeat (first | refine bN ?_ _ | refine bW ?_ | refine bA ?_ _)); exact BK311.out) hb); have n4_ := aZ (wP (by repeat (first | (with_reducible first | exact HB.out | apply wA | apply wN | apply wD | refine wS ?_ GE310.out | refine wS ?_ GE311.out) | exact HB.out)) hb); have n5_ := aZ (hbox); have n6_ := aZ ((by rw [hg]; exact (wZ (by repeat (first | (with_reducible first | exact HB.out | apply wA | apply wN | apply wD | refine wS ?_ GE310.out | refine wS ?_ GE311.out) | exact HB.out))) : w.heap.size ≤ gb321)); have n7_ := aZ ((by rw [hg]; exact (wZ (by repeat (first | (with_reducible first | exact HB.out | apply wA | apply wN | apply wD | refine wS ?_ GE310.out | refine wS ?_ GE311.out) | exact HB.out))) : w.heap.size ≤ gb321)); have n8_ := aZ ((by rw [hg]; exact Nat.ne_of_lt (bL (g := gb310) (o := .cells #[.bool a0_0, .slice A0_1 l0_1.length c0_1, .slice A0_2 l0_2.length c0_2, .bool a0_3, .slice A0_4 l0_4.length c0_4, .slice A0_5 l0_5.length c0_5] 34 (0, 0)) (by (with_reducible repeat (first | refine bN ?_ _ | refine bW ?_ | refine bA ?_ _)); exact BK310.out)) : gb310 ≠ gb321)); have n9_ := aZ ((by rw [hg]; exact Nat.ne_of_gt (bL (g := gb310) (o := .cells #[.bool a0_0, .slice A0_1 l0_1.length c0_1, .slice A0_2 l0_2.length c0_2, .bool a0_3, .slice A0_4 l0_4.length c0_4, .slice A0_5 l0_5.length c0_5] 34 (0, 0)) (by (with_reducible repeat (first | refine bN ?_ _ | refine bW ?_ | refine bA ?_ _)); exact BK310.out)) : gb321 ≠ gb310)); have n10_ := aZ ((by rw [hg]; exact Nat.ne_of_lt (bL (g := gb311) (o := .cells #[.int .i32 0, .int .i32 0] 25 (0, 0)) (by (with_reducible repeat (first | refine bN ?_ _ | refine bW ?_ | refine bA ?_ _)); exact BK311.out)) : gb311 ≠ gb321)); have n11_ := aZ ((by rw [hg]; exact Nat.ne_of_gt (bL (g := gb311) (o := .cells #[.int .i32 0, .int .i32 0] 25 (0, 0)) (by (with_reducible repeat (first | refine bN ?_ _ | refine bW ?_ | refine bA ?_ _)); exact BK311.out)) : gb321 ≠ gb311)); clear HO316 HO319 BK310 BK311 HB; have HO316 := n0_; have HO319 := n1_; have BK310 := n2_; have BK311 := n3_; have HB := n4_; have BK321 := n5_; have GW321 := n6_; have GE321 := n7_; have NB310_321 := n8_; have NB321_310 := n9_; have NB311_321 := n10_; have NB321_311 := n11_; clear n0_ n1_ n2_ n3_ n4_ n5_ n6_ n7_ n8_ n9_ n10_ n11_; clear hb hbox hg; have hnb23 := NB321_310.out; have hnc23 := NB310_321.out; have hnb24 := NB321_311.out; have hnc24 := NB311_321.out; have hcz25_0 : w22.cell? ⟨gb321, 0, none⟩ = some (.bool false) := (bC BK321.out 0).trans rfl; have hcz25_1 : w22.cell? ⟨gb321, 1, none⟩ = some (.slice none 0 0) := (bC BK321.out 1).trans rfl; have hcz25_2 : w22.cell? ⟨gb321, 2, none⟩ = some (.slice none 0 0) := (bC BK321.out 2).trans rfl; have hfz25_0 := bZ BK321.out 0; have hfz25_1 := bZ BK321.out 1; have hfz25_2 := bZ BK321.out 2; obtain ⟨Ao26, co26, eo26⟩ := Kd.R_slice HO316.out; subst eo26; obtain ⟨Ao27, co27, eo27⟩ := Kd.R_slice HO319.out; subst eo27; have hnb28 := NB310_311.out; have hnc28 := NB311_310.out; have hcz29_0 : w22.cell? ⟨gb310, 0, none⟩ = some (.bool a0_0) := (bC BK310.out 0).trans rfl; have hcz29_1 : w22.cell? ⟨gb310, 1, none⟩ = some (.slice A0_1 l0_1.length c0_1) := (bC BK310.out 1).trans rfl; have hcz29_2 : w22.cell? ⟨gb310, 2, none⟩ = some (.slice A0_2 l0_2.length c0_2) := (bC BK310.out 2).trans rfl; have hcz29_3 : w22.cell? ⟨gb310, 3, none⟩ = some (.bool a0_3) := (bC BK310.out 3).trans rfl; have hcz29_4 : w22.cell? ⟨gb310, 4, none⟩ = some (.slice A0_4 l0_4.length c0_4) := (bC BK310.out 4).trans rfl; have hcz29_5 : w22.cell? ⟨gb310, 5, none⟩ = some (.slice A0_5 l0_5.length c0_5) := (bC BK310.out 5).trans rfl; have hfz29_0 := bZ BK310.out 0; have hfz29_1 := bZ BK310.out 1; have hfz29_2 := bZ BK310.out 2; have hfz29_3 := bZ BK310.out 3; have hfz29_4 := bZ BK310.out 4; have hfz29_5 := bZ BK310.out 5) | ((with_reducible refine gC (f := 40) rfl ?_); refine goesL_ (some 51) rfl rfl Try.func40 (by kernel_rfl) rfl #[.agg #[.bool t313, .slice Ao26 t314.length co26, .slice Ao27 t317.length co27], .agg #[.bool a0_0, .slice A0_1 l0_1.length c0_1, .slice A0_2 l0_2.length c0_2]] rfl (by (try simp only [List.map_toArray, List.map_cons, List.map_nil]); first | done | rfl | (simp only [List.length_drop, List.length_take]; rfl)) ?_; (with_reducible refine (ratio_Add.calls kj1 t313 _ _ t314 _ _ t317 a0_0 _ _ l0_1 _ _ l0_2 t322 t323 t326 t329 _ ?side1 ?side2 ?side3 ?side4 ?side5 ?side6 ?side7 ?side8 A16.out).mono ?_); (case side1 => refine (Kd.R_reads' (e := 62) (base := w.heap.size) (ok := fun k_ => some k_ ≠ (.slice Ao27 t317.length co27 : Value).ownBlock) (n := t314.length) (c := co26) ?_).2.2; exact (by (with_reducible repeat (first | apply Kd.R_alloc | apply Kd.R_drewN | apply Kd.R_drew)); exact (Kd.R_mono (Kd.R_far (p := ⟨gb321, 2, none⟩) (Kd.R_far (p := ⟨gb321, 1, none⟩) (Kd.R_far (p := ⟨gb321, 0, none⟩) (Kd.R_types HO316.out BK321.out (by decide)) (fun _ hk => hk.2) (.bool t313)) (fun _ hk => hk.2) (.slice Ao26 t314.length co26)) (fun _ hk => hk.2) (.slice Ao27 t317.length co27)) (fun _ h_ => h_.1)))); (case side2 => exact (Kd.R_reads' HO316.out).2.1); (case side3 => refine (Kd.R_reads' (e := 62) (base := w.heap.size) (ok := fun k_ => some k_ ≠ (.slice Ao26 t314.length co26 : Value).ownBlock) (n := t317.length) (c := co27) ?_).2.2; exact (by (with_reducible repeat (first | apply Kd.R_alloc | apply Kd.R_drewN | apply Kd.R_drew)); exact (Kd.R_mono (Kd.R_far (p := ⟨gb321, 2, none⟩) (Kd.R_far (p := ⟨gb321, 1, none⟩) (Kd.R_far (p := ⟨gb321, 0, none⟩) (Kd.R_types HO319.out BK321.out (by decide)) (fun _ hk => hk.2) (.bool t313)) (fun _ hk => hk.2) (.slice Ao26 t314.length co26)) (fun _ hk => hk.2) (.slice Ao27 t317.length co27)) (fun _ h_ => h_.1)))); (case side4 => exact (Kd.R_reads' HO319.out).2.1); (case side5 => exact Kd.C_below HR0_1.out (by repeat (first | (with_reducible first | exact HB.out | apply wA | apply wN | apply wD | refine wS ?_ GE310.out | refine wS ?_ GE311.out | refine wS ?_ GE321.out) | exact HB.out))); (case side6 => exact HC0_1.out); (case side7 => exact Kd.C_below HR0_2.out (by repeat (first | (with_reducible first | exact HB.out | apply wA | apply wN | apply wD | refine wS ?_ GE310.out | refine wS ?_ GE311.out | refine wS ?_ GE321.out) | exact HB.out))); (case side8 => exact HC0_2.out); rintro e w30 ⟨v324, v327, rfl, ho0, ho1, hb⟩; refine ⟨_, rfl, ?_⟩; have n0_ := aZ (Kd.R_mono (Kd.R_told (Kd.R_told (Kd.R_old (by (with_reducible repeat (first | apply Kd.R_alloc | apply Kd.R_drewN | apply Kd.R_drew)); exact (Kd.R_mono (Kd.R_far (p := ⟨gb321, 2, none⟩) (Kd.R_far (p := ⟨gb321, 1, none⟩) (Kd.R_far (p := ⟨gb321, 0, none⟩) (Kd.R_types HO316.out BK321.out (by decide)) (fun _ hk => hk.2) (.bool t313)) (fun _ hk => hk.2) (.slice Ao26 t314.length co26)) (fun _ hk => hk.2) (.slice Ao27 t317.length co27)) (fun _ h_ => h_.1))) hb) (Kd.R_base ho0)) (Kd.R_base ho1)) (fun _ h_ => h_.1)); have n1_ := aZ (Kd.R_mono (Kd.R_told (Kd.R_told (Kd.R_old (by (with_reducible repeat (first | apply Kd.R_alloc | apply Kd.R_drewN | apply Kd.R_drew)); exact (Kd.R_mono (Kd.R_far (p := ⟨gb321, 2, none⟩) (Kd.R_far (p := ⟨gb321, 1, none⟩) (Kd.R_far (p := ⟨gb321, 0, none⟩) (Kd.R_types HO319.out BK321.out (by decide)) (fun _ hk => hk.2) (.bool t313)) (fun _ hk => hk.2) (.slice Ao26 t314.length co26)) (fun _ hk => hk.2) (.slice Ao27 t317.length co27)) (fun _ h_ => h_.1))) hb) (Kd.R_base ho0)) (Kd.R_base ho1)) (fun _ h_ => h_.1)); have n2_ := aZ (Kd.R_lower (Kd.R_new' (Kd.R_new' ho0 (Kd.R_lt (by (with_reducible repeat (first | apply Kd.R_alloc | apply Kd.R_drewN | apply Kd.R_drew)); exact (Kd.R_mono (Kd.R_far (p := ⟨gb321, 2, none⟩) (Kd.R_far (p := ⟨gb321, 1, none⟩) (Kd.R_far (p := ⟨gb321, 0, none⟩) (Kd.R_types HO316.out BK321.out (by decide)) (fun _ hk => hk.2) (.bool t313)) (fun _ hk => hk.2) (.slice Ao26 t314.length co26)) (fun _ hk => hk.2) (.slice Ao27 t317.length co27)) (fun _ h_ => h_.1))))) (Kd.R_lt (by (with_reducible repeat (first | apply Kd.R_alloc | apply Kd.R_drewN | apply Kd.R_drew)); exact (Kd.R_mono (Kd.R_far (p := ⟨gb321, 2, none⟩) (Kd.R_far (p := ⟨gb321, 1, none⟩) (Kd.R_far (p := ⟨gb321, 0, none⟩) (Kd.R_types HO319.out BK321.out (by decide)) (fun _ hk => hk.2) (.bool t313)) (fun _ hk => hk.2) (.slice Ao26 t314.length co26)) (fun _ hk => hk.2) (.slice Ao27 t317.length co27)) (fun _ h_ => h_.1))))) (wZ (by repeat (first | (with_reducible first | exact HB.out | apply wA | apply wN | apply wD | refine wS ?_ GE310.out | refine wS ?_ GE311.out | refine wS ?_ GE321.out) | exact HB.out)))); have n3_ := aZ (Kd.R_lower (Kd.R_new' (Kd.R_new' ho1 (Kd.R_lt (by (with_reducible repeat (first | apply Kd.R_alloc | apply Kd.R_drewN | apply Kd.R_drew)); exact (Kd.R_mono (Kd.R_far (p := ⟨gb321, 2, none⟩) (Kd.R_far (p := ⟨gb321, 1, none⟩) (Kd.R_far (p := ⟨gb321, 0, none⟩) (Kd.R_types HO316.out BK321.out (by decide)) (fun _ hk => hk.2) (.bool t313)) (fun _ hk => hk.2) (.slice Ao26 t314.length co26)) (fun _ hk => hk.2) (.slice Ao27 t317.length co27)) (fun _ h_ => h_.1))))) (Kd.R_lt (by (with_reducible repeat (first | apply Kd.R_alloc | apply Kd.R_drewN | apply Kd.R_drew)); exact (Kd.R_mono (Kd.R_far (p := ⟨gb321, 2, none⟩) (Kd.R_far (p := ⟨gb321, 1, none⟩) (Kd.R_far (p := ⟨gb321, 0, none⟩) (Kd.R_types HO319.out BK321.out (by decide)) (fun _ hk => hk.2) (.bool t313)) (fun _ hk => hk.2) (.slice Ao26 t314.length co26)) (fun _ hk => hk.2) (.slice Ao27 t317.length co27)) (fun _ h_ => h_.1))))) (wZ (by repeat (first | (with_reducible first | exact HB.out | apply wA | apply wN | apply wD | refine wS ?_ GE310.out | refine wS ?_ GE311.out | refine wS ?_ GE321.out) | exact HB.out)))); have n4_ := aZ (bB (g := gb310) (o := .cells #[.bool a0_0, .slice A0_1 l0_1.length c0_1, .slice A0_2 l0_2.length c0_2, .bool a0_3, .slice A0_4 l0_4.length c0_4, .slice A0_5 l0_5.length c0_5] 34 (0, 0)) (by (with_reducible repeat (first | refine bN ?_ _ | refine bW ?_ | refine bA ?_ _)); refine bF ?_ NB310_321.out _; (with_reducible repeat (first | refine bN ?_ _ | refine bW ?_ | refine bA ?_ _)); refine bF ?_ NB310_321.out _; (with_reducible repeat (first | refine bN ?_ _ | refine bW ?_ | refine bA ?_ _)); refine bF ?_ NB310_321.out _; (with_reducible repeat (first | refine bN ?_ _ | refine bW ?_ | refine bA ?_ _)); exact BK310.out) hb); have n5_ := aZ (bB (g := gb311) (o := .cells #[.int .i32 0, .int .i32 0] 25 (0, 0)) (by (with_reducible repeat (first | refine bN ?_ _ | refine bW ?_ | refine bA ?_ _)); refine bF ?_ NB311_321.out _; (with_reducible repeat (first | refine bN ?_ _ | refine bW ?_ | refine bA ?_ _)); refine bF ?_ NB311_321.out _; (with_reducible repeat (first | refine bN ?_ _ | refine bW ?_ | refine bA ?_ _)); refine bF ?_ NB311_321.out _; (with_reducible repeat (first | refine bN ?_ _ | refine bW ?_ | refine bA ?_ _)); exact BK311.out) hb); have n6_ := aZ (bB (g := gb321) (o := .cells #[.bool t313, .slice Ao26 t314.length co26, .slice Ao27 t317.length co27] 32 (0, 0)) (by (with_reducible repeat (first | refine bN ?_ _ | refine bW ?_ | refine bA ?_ _)); refine blk_put (cs := #[.bool t313, .slice Ao26 t314.length co26, .slice none 0 0]) ?_ 2 _ rfl; (with_reducible repeat (first | refine bN ?_ _ | refine bW ?_ | refine bA ?_ _)); refine blk_put (cs := #[.bool t313, .slice none 0 0, .slice none 0 0]) ?_ 1 _ rfl; (with_reducible repeat (first | refine bN ?_ _ | refine bW ?_ | refine bA ?_ _)); refine blk_put (cs := #[.bool false, .slice none 0 0, .slice none 0 0]) ?_ 0 _ rfl; (with_reducible repeat (first | refine bN ?_ _ | refine bW ?_ | refine bA ?_ _)); exact BK321.out) hb); have n7_ := aZ (wP (by repeat (first | (with_reducible first | exact HB.out | apply wA | apply wN | apply wD | refine wS ?_ GE310.out | refine wS ?_ GE311.out | refine wS ?_ GE321.out) | exact HB.out)) hb); clear HO316 HO319 BK310 BK311 BK321 HB; have HO316 := n0_; have HO319 := n1_; have HO325 := n2_; have HO328 := n3_; have BK310 := n4_; have BK311 := n5_; have BK321 := n6_; have HB := n7_; clear n0_ n1_ n2_ n3_ n4_ n5_ n6_ n7_; (try clear hb); (try clear hb2); (try clear hk); (try clear hi); (try clear ho0); (try clear ho1)) | ((with_reducible refine gD (N := 6) rfl ?_); (try (refine gate_guard (by rfl) ?_; dsimp only)); refine gB ?hg (N := 6) ?hd (cs := #[.bool false, .slice none 0 0, .slice none 0 0]) (t := 32) ?hr ?_; (case hd => rfl); (case hg => rfl); (case hr => first | (go_simp; done) | (go_simp; rfl)); intro gb330 hg w31 hbox hb; have n0_ := aZ (Kd.R_below (by (with_reducible repeat (first | apply Kd.R_alloc | apply Kd.R_drewN | apply Kd.R_drew)); exact HO316.out) hb); have n1_ := aZ (Kd.R_below (by (with_reducible repeat (first | apply Kd.R_alloc | apply Kd.R_drewN | apply Kd.R_drew)); exact HO319.out) hb); have n2_ := aZ (Kd.R_below (by (with_reducible repeat (first | apply Kd.R_alloc | apply Kd.R_drewN | apply Kd.R_drew)); exact HO325.out) hb); have n3_ := aZ (Kd.R_below (by (with_reducible repeat (first | apply Kd.R_alloc | apply Kd.R_drewN | apply Kd.R_drew)); exact HO328.out) hb); have n4_ := aZ (bB (g := gb310) (o := .cells #[.bool a0_0, .slice A0_1 l0_1.length c0_1, .slice A0_2 l0_2.length c0_2, .bool a0_3, .slice A0_4 l0_4.length c0_4, .slice A0_5 l0_5.length c0_5] 34 (0, 0)) (by (with_reducible repeat (first | refine bN ?_ _ | refine bW ?_ | refine bA ?_ _)); exact BK310.out) hb); have n5_ := aZ (bB (g := gb311) (o := .cells #[.int .i32 0, .int .i32 0] 25 (0, 0)) (by (with_reducible repeat (first | refine bN ?_ _ | refine bW ?_ | refine bA ?_ _)); exact BK311.out) hb); have n6_ := aZ (bB (g := gb321) (o := .cells #[.bool t313, .slice Ao26 t314.length co26, .slice Ao27 t317.length co27] 32 (0, 0)) (by (with_reducible repeat (first | refine bN ?_ _ | refine bW ?_ | refine bA ?_ _)); exact BK321.out) hb); have n7_ := aZ (wP (by repeat (first | (with_reducible first | exact HB.out | apply wA | apply wN | apply wD | refine wS ?_ GE310.out | refine wS ?_ GE311.out | refine wS ?_ GE321.out) | exact HB.out)) hb); have n8_ := aZ (hbox); have n9_ := aZ ((by rw [hg]; exact (wZ (by repeat (first | (with_reducible first | exact HB.out | apply wA | apply wN | apply wD | refine wS ?_ GE310.out | refine wS ?_ GE311.out | refine wS ?_ GE321.out) | exact HB.out))) : w.heap.size ≤ gb330)); have n10_ := aZ ((by rw [hg]; exact (wZ (by repeat (first | (with_reducible first | exact HB.out | apply wA | apply wN | apply wD | refine wS ?_ GE310.out | refine wS ?_ GE311.out | refine wS ?_ GE321.out) | exact HB.out))) : w.heap.size ≤ gb330)); have n11_ := aZ ((by rw [hg]; exact Nat.ne_of_lt (bL (g := gb310) (o := .cells #[.bool a0_0, .slice A0_1 l0_1.length c0_1, .slice A0_2 l0_2.length c0_2, .bool a0_3, .slice A0_4 l0_4.length c0_4, .slice A0_5 l0_5.length c0_5] 34 (0, 0)) (by (with_reducible repeat (first | refine bN ?_ _ | refine bW ?_ | refine bA ?_ _)); exact BK310.out)) : gb310 ≠ gb330)); have n12_ := aZ ((by rw [hg]; exact Nat.ne_of_gt (bL (g := gb310) (o := .cells #[.bool a0_0, .slice A0_1 l0_1.length c0_1, .slice A0_2 l0_2.length c0_2, .bool a0_3, .slice A0_4 l0_4.length c0_4, .slice A0_5 l0_5.length c0_5] 34 (0, 0)) (by (with_reducible repeat (first | refine bN ?_ _ | refine bW ?_ | refine bA ?_ _)); exact BK310.out)) : gb330 ≠ gb310)); have n13_ := aZ ((by rw [hg]; exact Nat.ne_of_lt (bL (g := gb311) (o := .cells #[.int .i32 0, .int .i32 0] 25 (0, 0)) (by (with_reducible repeat (first | refine bN ?_ _ | refine bW ?_ | refine bA ?_ _)); exact BK311.out)) : gb311 ≠ gb330)); have n14_ := aZ ((by rw [hg]; exact Nat.ne_of_gt (bL (g := gb311) (o := .cells #[.int .i32 0, .int .i32 0] 25 (0, 0)) (by (with_reducible repeat (first | refine bN ?_ _ | refine bW ?_ | refine bA ?_ _)); exact BK311.out)) : gb330 ≠ gb311)); have n15_ := aZ ((by rw [hg]; exact Nat.ne_of_lt (bL (g := gb321) (o := .cells #[.bool t313, .slice Ao26 t314.length co26, .slice Ao27 t317.length co27] 32 (0, 0)) (by (with_reducible repeat (first | refine bN ?_ _ | refine bW ?_ | refine bA ?_ _)); exact BK321.out)) : gb321 ≠ gb330)); have n16_ := aZ ((by rw [hg]; exact Nat.ne_of_gt (bL (g := gb321) (o := .cells #[.bool t313, .slice Ao26 t314.length co26, .slice Ao27 t317.length co27] 32 (0, 0)) (by (with_reducible repeat (first | refine bN ?_ _ | refine bW ?_ | refine bA ?_ _)); exact BK321.out)) : gb330 ≠ gb321)); clear HO316 HO319 HO325 HO328 BK310 BK311 BK321 HB; have HO316 := n0_; have HO319 := n1_; have HO325 := n2_; have HO328 := n3_; have BK310 := n4_; have BK311 := n5_; have BK321 := n6_; have HB := n7_; have BK330 := n8_; have GW330 := n9_; have GE330 := n10_; have NB310_330 := n11_; have NB330_310 := n12_; have NB311_330 := n13_; have NB330_311 := n14_; have NB321_330 := n15_; have NB330_321 := n16_; clear n0_ n1_ n2_ n3_ n4_ n5_ n6_ n7_ n8_ n9_ n10_ n11_ n12_ n13_ n14_ n15_ n16_; clear hb hbox hg; have hnb32 := NB330_310.out; have hnc32 := NB310_330.out; have hnb33 := NB330_311.out; have hnc33 := NB311_330.out; have hnb34 := NB330_321.out; have hnc34 := NB321_330.out; have hcz35_0 : w31.cell? ⟨gb330, 0, none⟩ = some (.bool false) := (bC BK330.out 0).trans rfl; have hcz35_1 : w31.cell? ⟨gb330, 1, none⟩ = some (.slice none 0 0) := (bC BK330.out 1).trans rfl; have hcz35_2 : w31.cell? ⟨gb330, 2, none⟩ = some (.slice none 0 0) := (bC BK330.out 2).trans rfl; have hfz35_0 := bZ BK330.out 0; have hfz35_1 := bZ BK330.out 1; have hfz35_2 := bZ BK330.out 2; obtain ⟨Ao36, co36, eo36⟩ := Kd.R_slice HO325.out; subst eo36; obtain ⟨Ao37, co37, eo37⟩ := Kd.R_slice HO328.out; subst eo37) | ((with_reducible refine gC (f := 41) rfl ?_); refine goesL_ (some 55) rfl rfl Try.func41 (by kernel_rfl) rfl #[.agg #[.bool t322, .slice Ao36 t323.length co36, .slice Ao37 t326.length co37]] rfl (by (try simp only [List.map_toArray, List.map_cons, List.map_nil]); first | done | rfl | (simp only [List.length_drop, List.length_take]; rfl)) ?_; (with_reducible refine (ratio_Sign.calls kj1 t322 _ _ t323 _ _ t326 t331 _ ?side1 ?side2 ?side3 ?side4 A17.out).mono ?_); (case side1 => refine (Kd.R_reads' (e := 62) (base := w.heap.size) (ok := fun k_ => ((some k_ ≠ (.slice Ao37 t326.length co37 : Value).ownBlock ∧ some k_ ≠ (.slice Ao26 t314.length co26 : Value).ownBlock) ∧ some k_ ≠ (.slice Ao27 t317.length co27 : Value).ownBlock)) (n := t323.length) (c := co36) ?_).2.2; exact (by (with_reducible repeat (first | apply Kd.R_alloc | apply Kd.R_drewN | apply Kd.R_drew)); exact (Kd.R_mono (Kd.R_far (p := ⟨gb330, 2, none⟩) (Kd.R_far (p := ⟨gb330, 1, none⟩) (Kd.R_far (p := ⟨gb330, 0, none⟩) (Kd.R_types HO325.out BK330.out (by decide)) (fun _ hk => hk.2) (.bool t322)) (fun _ hk => hk.2) (.slice Ao36 t323.length co36)) (fun _ hk => hk.2) (.slice Ao37 t326.length co37)) (fun _ h_ => h_.1)))); (case side2 => exact (Kd.R_reads' HO325.out).2.1); (case side3 => refine (Kd.R_reads' (e := 62) (base := w.heap.size) (ok := fun k_ => ((some k_ ≠ (.slice Ao36 t323.length co36 : Value).ownBlock ∧ some k_ ≠ (.slice Ao26 t314.length co26 : Value).ownBlock) ∧ some k_ ≠ (.slice Ao27 t317.length co27 : Value).ownBlock)) (n := t326.length) (c := co37) ?_).2.2; exact (by (with_reducible repeat (first | apply Kd.R_alloc | apply Kd.R_drewN | apply Kd.R_drew)); exact (Kd.R_mono (Kd.R_far (p := ⟨gb330, 2, none⟩) (Kd.R_far (p := ⟨gb330, 1, none⟩) (Kd.R_far (p := ⟨gb330, 0, none⟩) (Kd.R_types HO328.out BK330.out (by decide)) (fun _ hk => hk.2) (.bool t322)) (fun _ hk => hk.2) (.slice Ao36 t323.length co36)) (fun _ hk => hk.2) (.slice Ao37 t326.length co37)) (fun _ h_ => h_.1)))); (case side4 => exact (Kd.R_reads' HO328.out).2.1); rintro e w38 ⟨rfl, hb⟩; refine ⟨_, rfl, ?_⟩; have n0_ := aZ (Kd.R_below (by (with_reducible repeat (first | apply Kd.R_alloc | apply Kd.R_drewN | apply Kd.R_drew)); exact (Kd.R_mono (Kd.R_far (p := ⟨gb330, 2, none⟩) (Kd.R_far (p := ⟨gb330, 1, none⟩) (Kd.R_far (p := ⟨gb330, 0, none⟩) (Kd.R_types HO316.out BK330.out (by decide)) (fun _ hk => hk.2) (.bool t322)) (fun _ hk => hk.2) (.slice Ao36 t323.length co36)) (fun _ hk => hk.2) (.slice Ao37 t326.length co37)) (fun _ h_ => h_.1))) hb); have n1_ := aZ (Kd.R_below (by (with_reducible repeat (first | apply Kd.R_alloc | apply Kd.R_drewN | apply Kd.R_drew)); exact (Kd.R_mono (Kd.R_far (p := ⟨gb330, 2, none⟩) (Kd.R_far (p := ⟨gb330, 1, none⟩) (Kd.R_far (p := ⟨gb330, 0, none⟩) (Kd.R_types HO319.out BK330.out (by decide)) (fun _ hk => hk.2) (.bool t322)) (fun _ hk => hk.2) (.slice Ao36 t323.length co36)) (fun _ hk => hk.2) (.slice Ao37 t326.length co37)) (fun _ h_ => h_.1))) hb); have n2_ := aZ (Kd.R_below (by (with_reducible repeat (first | apply Kd.R_alloc | apply Kd.R_drewN | apply Kd.R_drew)); exact (Kd.R_mono (Kd.R_far (p := ⟨gb330, 2, none⟩) (Kd.R_far (p := ⟨gb330, 1, none⟩) (Kd.R_far (p := ⟨gb330, 0, none⟩) (Kd.R_types HO325.out BK330.out (by decide)) (fun _ hk => hk.2) (.bool t322)) (fun _ hk => hk.2) (.slice Ao36 t323.length co36)) (fun _ hk => hk.2) (.slice Ao37 t326.length co37)) (fun _ h_ => h_.1))) hb); have n3_ := aZ (Kd.R_below (by (with_reducible repeat (first | apply Kd.R_alloc | apply Kd.R_drewN | apply Kd.R_drew)); exact (Kd.R_mono (Kd.R_far (p := ⟨gb330, 2, none⟩) (Kd.R_far (p := ⟨gb330, 1, none⟩) (Kd.R_far (p := ⟨gb330, 0, none⟩) (Kd.R_types HO328.out BK330.out (by decide)) (fun _ hk => hk.2) (.bool t322)) (fun _ hk => hk.2) (.slice Ao36 t323.length co36)) (fun _ hk => hk.2) (.slice Ao37 t326.length co37)) (fun _ h_ => h_.1))) hb); have n4_ := aZ (bB (g := gb310) (o := .cells #[.bool a0_0, .slice A0_1 l0_1.length c0_1, .slice A0_2 l0_2.length c0_2, .bool a0_3, .slice A0_4 l0_4.length c0_4, .slice A0_5 l0_5.length c0_5] 34 (0, 0)) (by (with_reducible repeat (first | refine bN ?_ _ | refine bW ?_ | refine bA ?_ _)); refine bF ?_ NB310_330.out _; (with_reducible repeat (first | refine bN ?_ _ | refine bW ?_ | refine bA ?_ _)); refine bF ?_ NB310_330.out _; (with_reducible repeat (first | refine bN ?_ _ | refine bW ?_ | refine bA ?_ _)); refine bF ?_ NB310_330.out _; (with_reducible repeat (first | refine bN ?_ _ | refine bW ?_ | refine bA ?_ _)); exact BK310.out) hb); have n5_ := aZ (bB (g := gb311) (o := .cells #[.int .i32 0, .int .i32 0] 25 (0, 0)) (by (with_reducible repeat (first | refine bN ?_ _ | refine bW ?_ | refine bA ?_ _)); refine bF ?_ NB311_330.out _; (with_reducible repeat (first | refine bN ?_ _ | refine bW ?_ | refine bA ?_ _)); refine bF ?_ NB311_330.out _; (with_reducible repeat (first | refine bN ?_ _ | refine bW ?_ | refine bA ?_ _)); refine bF ?_ NB311_330.out _; (with_reducible repeat (first | refine bN ?_ _ | refine bW ?_ | refine bA ?_ _)); exact BK311.out) hb); have n6_ := aZ (bB (g := gb321) (o := .cells #[.bool t313, .slice Ao26 t314.length co26, .slice Ao27 t317.length co27] 32 (0, 0)) (by (with_reducible repeat (first | refine bN ?_ _ | refine bW ?_ | refine bA ?_ _)); refine bF ?_ NB321_330.out _; (with_reducible repeat (first | refine bN ?_ _ | refine bW ?_ | refine bA ?_ _)); refine bF ?_ NB321_330.out _; (with_reducible repeat (first | refine bN ?_ _ | refine bW ?_ | refine bA ?_ _)); refine bF ?_ NB321_330.out _; (with_reducible repeat (first | refine bN ?_ _ | refine bW ?_ | refine bA ?_ _)); exact BK321.out) hb); have n7_ := aZ (bB (g := gb330) (o := .cells #[.bool t322, .slice Ao36 t323.length co36, .slice Ao37 t326.length co37] 32 (0, 0)) (by (with_reducible repeat (first | refine bN ?_ _ | refine bW ?_ | refine bA ?_ _)); refine blk_put (cs := #[.bool t322, .slice Ao36 t323.length co36, .slice none 0 0]) ?_ 2 _ rfl; (with_reducible repeat (first | refine bN ?_ _ | refine bW ?_ | refine bA ?_ _)); refine blk_put (cs := #[.bool t322, .slice none 0 0, .slice none 0 0]) ?_ 1 _ rfl; (with_reducible repeat (first | refine bN ?_ _ | refine bW ?_ | refine bA ?_ _)); refine blk_put (cs := #[.bool false, .slice none 0 0, .slice none 0 0]) ?_ 0 _ rfl; (with_reducible repeat (first | refine bN ?_ _ | refine bW ?_ | refine bA ?_ _)); exact BK330.out) hb); have n8_ := aZ (wP (by repeat (first | (with_reducible first | exact HB.out | apply wA | apply wN | apply wD | refine wS ?_ GE310.out | refine wS ?_ GE311.out | refine wS ?_ GE321.out | refine wS ?_ GE330.out) | exact HB.out)) hb); clear HO316 HO319 HO325 HO328 BK310 BK311 BK321 BK330 HB; have HO316 := n0_; have HO319 := n1_; have HO325 := n2_; have HO328 := n3_; have BK310 := n4_; have BK311 := n5_; have BK321 := n6_; have BK330 := n7_; have HB := n8_; clear n0_ n1_ n2_ n3_ n4_ n5_ n6_ n7_ n8_; (try clear hb); (try clear hb2); (try clear hk); (try clear hi); have hcz39_0 : w38.cell? ⟨gb310, 0, none⟩ = some (.bool a0_0) := (bC BK310.out 0).trans rfl; have hcz39_1 : w38.cell? ⟨gb310, 1, none⟩ = some (.slice A0_1 l0_1.length c0_1) := (bC BK310.out 1).trans rfl; have hcz39_2 : w38.cell? ⟨gb310, 2, none⟩ = some (.slice A0_2 l0_2.length c0_2) := (bC BK310.out 2).trans rfl; have hcz39_3 : w38.cell? ⟨gb310, 3, none⟩ = some (.bool a0_3) := (bC BK310.out 3).trans rfl; have hcz39_4 : w38.cell? ⟨gb310, 4, none⟩ = some (.slice A0_4 l0_4.length c0_4) := (bC BK310.out 4).trans rfl; have hcz39_5 : w38.cell? ⟨gb310, 5, none⟩ = some (.slice A0_5 l0_5.length c0_5) := (bC BK310.out 5).trans rfl; have hfz39_0 := bZ BK310.out 0; have hfz39_1 := bZ BK310.out 1; have hfz39_2 := bZ BK310.out 2; have hfz39_3 := bZ BK310.out 3; have hfz39_4 := bZ BK310.out 4; have hfz39_5 := bZ BK310.out 5; have hcz40_0 : w38.cell? ⟨gb330, 0, none⟩ = some (.bool t322) := (bC BK330.out 0).trans rfl; have hcz40_1 : w38.cell? ⟨gb330, 1, none⟩ = some (.slice Ao36 t323.length co36) := (bC BK330.out 1).trans rfl; have hcz40_2 : w38.cell? ⟨gb330, 2, none⟩ = some (.slice Ao37 t326.length co37) := (bC BK330.out 2).trans rfl; have hfz40_0 := bZ BK330.out 0; have hfz40_1 := bZ BK330.out 1; have hfz40_2 := bZ BK330.out 2) | ((with_reducible refine gC (f := 42) rfl ?_); refine goesL_ (some 62) rfl rfl Try.func42 (by kernel_rfl) rfl #[.agg #[.bool a0_3, .slice A0_4 l0_4.length c0_4, .slice A0_5 l0_5.length c0_5], .agg #[.bool t322, .slice Ao36 t323.length co36, .slice Ao37 t326.length co37]] rfl (by (try simp only [List.map_toArray, List.map_cons, List.map_nil]); first | done | rfl | (simp only [List.length_drop, List.length_take]; rfl)) ?_; (with_reducible refine (ratio_Quo.calls kj1 a0_3 _ _ l0_4 _ _ l0_5 t322 _ _ t323 _ _ t326 t332 t333 t336 t339 _ ?side1 ?side2 ?side3 ?side4 ?side5 ?side6 ?side7 ?side8 A19.out).mono ?_); (case side1 => repeat (first | exact (Kd.C_below HR0_4.out HB.out) | (with_reducible refine Kd.C_alloc ?_ _) | (with_reducible refine Kd.C_drewN ?_ _) | (with_reducible refine Kd.C_drew ?_))); (case side2 => exact HC0_4.out); (case side3 => repeat (first | exact (Kd.C_below HR0_5.out HB.out) | (with_reducible refine Kd.C_alloc ?_ _) | (with_reducible refine Kd.C_drewN ?_ _) | (with_reducible refine Kd.C_drew ?_))); (case side4 => exact HC0_5.out); (case side5 => repeat (first | exact (Kd.R_reads' HO325.out).2.2 | (with_reducible refine Kd.C_alloc ?_ _) | (with_reducible refine Kd.C_drewN ?_ _) | (with_reducible refine Kd.C_drew ?_))); (case side6 => exact (Kd.R_reads' HO325.out).2.1); (case side7 => repeat (first | exact (Kd.R_reads' HO328.out).2.2 | (with_reducible refine Kd.C_alloc ?_ _) | (with_reducible refine Kd.C_drewN ?_ _) | (with_reducible refine Kd.C_drew ?_))); (case side8 => exact (Kd.R_reads' HO328.out).2.1); rintro e w41 ⟨v334, v337, rfl, ho0, ho1, hb⟩; refine ⟨_, rfl, ?_⟩; have n0_ := aZ (Kd.R_mono (Kd.R_told (Kd.R_told (Kd.R_old (by (with_reducible repeat (first | apply Kd.R_alloc | apply Kd.R_drewN | apply Kd.R_drew)); exact HO316.out) hb) (Kd.R_base ho0)) (Kd.R_base ho1)) (fun _ h_ => h_.1)); have n1_ := aZ (Kd.R_mono (Kd.R_told (Kd.R_told (Kd.R_old (by (with_reducible repeat (first | apply Kd.R_alloc | apply Kd.R_drewN | apply Kd.R_drew)); exact HO319.out) hb) (Kd.R_base ho0)) (Kd.R_base ho1)) (fun _ h_ => h_.1)); have n2_ := aZ (Kd.R_mono (Kd.R_told (Kd.R_told (Kd.R_old (by (with_reducible repeat (first | apply Kd.R_alloc | apply Kd.R_drewN | apply Kd.R_drew)); exact HO325.out) hb) (Kd.R_base ho0)) (Kd.R_base ho1)) (fun _ h_ => h_.1)); have n3_ := aZ (Kd.R_mono (Kd.R_told (Kd.R_told (Kd.R_old (by (with_reducible repeat (first | apply Kd.R_alloc | apply Kd.R_drewN | apply Kd.R_drew)); exact HO328.out) hb) (Kd.R_base ho0)) (Kd.R_base ho1)) (fun _ h_ => h_.1)); have n4_ := aZ (Kd.R_lower (Kd.R_new' (Kd.R_new' (Kd.R_new' (Kd.R_new' ho0 (Kd.R_lt (by (with_reducible repeat (first | apply Kd.R_alloc | apply Kd.R_drewN | apply Kd.R_drew)); exact HO316.out))) (Kd.R_lt (by (with_reducible repeat (first | apply Kd.R_alloc | apply Kd.R_drewN | apply Kd.R_drew)); exact HO319.out))) (Kd.R_lt (by (with_reducible repeat (first | apply Kd.R_alloc | apply Kd.R_drewN | apply Kd.R_drew)); exact HO325.out))) (Kd.R_lt (by (with_reducible repeat (first | apply Kd.R_alloc | apply Kd.R_drewN | apply Kd.R_drew)); exact HO328.out))) (wZ (by repeat (first | (with_reducible first | exact HB.out | apply wA | apply wN | apply wD | refine wS ?_ GE310.out | refine wS ?_ GE311.out | refine wS ?_ GE321.out | refine wS ?_ GE330.out) | exact HB.out)))); have n5_ := aZ (Kd.R_lower (Kd.R_new' (Kd.R_new' (Kd.R_new' (Kd.R_new' ho1 (Kd.R_lt (by (with_reducible repeat (first | apply Kd.R_alloc | apply Kd.R_drewN | apply Kd.R_drew)); exact HO316.out))) (Kd.R_lt (by (with_reducible repeat (first | apply Kd.R_alloc | apply Kd.R_drewN | apply Kd.R_drew)); exact HO319.out))) (Kd.R_lt (by (with_reducible repeat (first | apply Kd.R_alloc | apply Kd.R_drewN | apply Kd.R_drew)); exact HO325.out))) (Kd.R_lt (by (with_reducible repeat (first | apply Kd.R_alloc | apply Kd.R_drewN | apply Kd.R_drew)); exact HO328.out))) (wZ (by repeat (first | (with_reducible first | exact HB.out | apply wA | apply wN | apply wD | refine wS ?_ GE310.out | refine wS ?_ GE311.out | refine wS ?_ GE321.out | refine wS ?_ GE330.out) | exact HB.out)))); have n6_ := aZ (bB (g := gb310) (o := .cells #[.bool a0_0, .slice A0_1 l0_1.length c0_1, .slice A0_2 l0_2.length c0_2, .bool a0_3, .slice A0_4 l0_4.length c0_4, .slice A0_5 l0_5.length c0_5] 34 (0, 0)) (by (with_reducible repeat (first | refine bN ?_ _ | refine bW ?_ | refine bA ?_ _)); exact BK310.out) hb); have n7_ := aZ (bB (g := gb311) (o := .cells #[.int .i32 0, .int .i32 0] 25 (0, 0)) (by (with_reducible repeat (first | refine bN ?_ _ | refine bW ?_ | refine bA ?_ _)); exact BK311.out) hb); have n8_ := aZ (bB (g := gb321) (o := .cells #[.bool t313, .slice Ao26 t314.length co26, .slice Ao27 t317.length co27] 32 (0, 0)) (by (with_reducible repeat (first | refine bN ?_ _ | refine bW ?_ | refine bA ?_ _)); exact BK321.out) hb); have n9_ := aZ (bB (g := gb330) (o := .cells #[.bool t322, .slice Ao36 t323.length co36, .slice Ao37 t326.length co37] 32 (0, 0)) (by (with_reducible repeat (first | refine bN ?_ _ | refine bW ?_ | refine bA ?_ _)); exact BK330.out) hb); have n10_ := aZ (wP (by repeat (first | (with_reducible first | exact HB.out | apply wA | apply wN | apply wD | refine wS ?_ GE310.out | refine wS ?_ GE311.out | refine wS ?_ GE321.out | refine wS ?_ GE330.out) | exact HB.out)) hb); clear HO316 HO319 HO325 HO328 BK310 BK311 BK321 BK330 HB; have HO316 := n0_; have HO319 := n1_; have HO325 := n2_; have HO328 := n3_; have HO335 := n4_; have HO338 := n5_; have BK310 := n6_; have BK311 := n7_; have BK321 := n8_; have BK330 := n9_; have HB := n10_; clear n0_ n1_ n2_ n3_ n4_ n5_ n6_ n7_ n8_ n9_ n10_; (try clear hb); (try clear hb2); (try clear hk); (try clear hi); (try clear ho0); (try clear ho1)) | ((with_reducible refine gD (N := 8) rfl ?_); (try (refine gate_guard (by rfl) ?_; dsimp only)); refine gB ?hg (N := 8) ?hd (cs := #[.bool false, .slice none 0 0, .slice none 0 0]) (t := 32) ?hr ?_; (case hd => rfl); (case hg => rfl); (case hr => first | (go_simp; done) | (go_simp; rfl)); intro gb340 hg w42 hbox hb; have n0_ := aZ (Kd.R_below (by (with_reducible repeat (first | apply Kd.R_alloc | apply Kd.R_drewN | apply Kd.R_drew)); exact HO316.out) hb); have n1_ := aZ (Kd.R_below (by (with_reducible repeat (first | apply Kd.R_alloc | apply Kd.R_drewN | apply Kd.R_drew)); exact HO319.out) hb); have n2_ := aZ (Kd.R_below (by (with_reducible repeat (first | apply Kd.R_alloc | apply Kd.R_drewN | apply Kd.R_drew)); exact HO325.out) hb); have n3_ := aZ (Kd.R_below (by (with_reducible repeat (first | apply Kd.R_alloc | apply Kd.R_drewN | apply Kd.R_drew)); exact HO328.out) hb); have n4_ := aZ (Kd.R_below (by (with_reducible repeat (first | apply Kd.R_alloc | apply Kd.R_drewN | apply Kd.R_drew)); exact HO335.out) hb); have n5_ := aZ (Kd.R_below (by (with_reducible repeat (first | apply Kd.R_alloc | apply Kd.R_drewN | apply Kd.R_drew)); exact HO338.out) hb); have n6_ := aZ (bB (g := gb310) (o := .cells #[.bool a0_0, .slice A0_1 l0_1.length c0_1, .slice A0_2 l0_2.length c0_2, .bool a0_3, .slice A0_4 l0_4.length c0_4, .slice A0_5 l0_5.length c0_5] 34 (0, 0)) (by (with_reducible repeat (first | refine bN ?_ _ | refine bW ?_ | refine bA ?_ _)); exact BK310.out) hb); have n7_ := aZ (bB (g := gb311) (o := .cells #[.int .i32 0, .int .i32 0] 25 (0, 0)) (by (with_reducible repeat (first | refine bN ?_ _ | refine bW ?_ | refine bA ?_ _)); exact BK311.out) hb); have n8_ := aZ (bB (g := gb321) (o := .cells #[.bool t313, .slice Ao26 t314.length co26, .slice Ao27 t317.length co27] 32 (0, 0)) (by (with_reducible repeat (first | refine bN ?_ _ | refine bW ?_ | refine bA ?_ _)); exact BK321.out) hb); have n9_ := aZ (bB (g := gb330) (o := .cells #[.bool t322, .slice Ao36 t323.length co36, .slice Ao37 t326.length co37] 32 (0, 0)) (by (with_reducible repeat (first | refine bN ?_ _ | refine bW ?_ | refine bA ?_ _)); exact BK330.out) hb); have n10_ := aZ (wP (by repeat (first | (with_reducible first | exact HB.out | apply wA | apply wN | apply wD | refine wS ?_ GE310.out | refine wS ?_ GE311.out | refine wS ?_ GE321.out | refine wS ?_ GE330.out) | exact HB.out)) hb); have n11_ := aZ (hbox); have n12_ := aZ ((by rw [hg]; exact (wZ (by repeat (first | (with_reducible first | exact HB.out | apply wA | apply wN | apply wD | refine wS ?_ GE310.out | refine wS ?_ GE311.out | refine wS ?_ GE321.out | refine wS ?_ GE330.out) | exact HB.out))) : w.heap.size ≤ gb340)); have n13_ := aZ ((by rw [hg]; exact (wZ (by repeat (first | (with_reducible first | exact HB.out | apply wA | apply wN | apply wD | refine wS ?_ GE310.out | refine wS ?_ GE311.out | refine wS ?_ GE321.out | refine wS ?_ GE330.out) | exact HB.out))) : w.heap.size ≤ gb340)); have n14_ := aZ ((by rw [hg]; exact Nat.ne_of_lt (bL (g := gb310) (o := .cells #[.bool a0_0, .slice A0_1 l0_1.length c0_1, .slice A0_2 l0_2.length c0_2, .bool a0_3, .slice A0_4 l0_4.length c0_4, .slice A0_5 l0_5.length c0_5] 34 (0, 0)) (by (with_reducible repeat (first | refine bN ?_ _ | refine bW ?_ | refine bA ?_ _)); exact BK310.out)) : gb310 ≠ gb340)); have n15_ := aZ ((by rw [hg]; exact Nat.ne_of_gt (bL (g := gb310) (o := .cells #[.bool a0_0, .slice A0_1 l0_1.length c0_1, .slice A0_2 l0_2.length c0_2, .bool a0_3, .slice A0_4 l0_4.length c0_4, .slice A0_5 l0_5.length c0_5] 34 (0, 0)) (by (with_reducible repeat (first | refine bN ?_ _ | refine bW ?_ | refine bA ?_ _)); exact BK310.out)) : gb340 ≠ gb310)); have n16_ := aZ ((by rw [hg]; exact Nat.ne_of_lt (bL (g := gb311) (o := .cells #[.int .i32 0, .int .i32 0] 25 (0, 0)) (by (with_reducible repeat (first | refine bN ?_ _ | refine bW ?_ | refine bA ?_ _)); exact BK311.out)) : gb311 ≠ gb340)); have n17_ := aZ ((by rw [hg]; exact Nat.ne_of_gt (bL (g := gb311) (o := .cells #[.int .i32 0, .int .i32 0] 25 (0, 0)) (by (with_reducible repeat (first | refine bN ?_ _ | refine bW ?_ | refine bA ?_ _)); exact BK311.out)) : gb340 ≠ gb311)); have n18_ := aZ ((by rw [hg]; exact Nat.ne_of_lt (bL (g := gb321) (o := .cells #[.bool t313, .slice Ao26 t314.length co26, .slice Ao27 t317.length co27] 32 (0, 0)) (by (with_reducible repeat (first | refine bN ?_ _ | refine bW ?_ | refine bA ?_ _)); exact BK321.out)) : gb321 ≠ gb340)); have n19_ := aZ ((by rw [hg]; exact Nat.ne_of_gt (bL (g := gb321) (o := .cells #[.bool t313, .slice Ao26 t314.length co26, .slice Ao27 t317.length co27] 32 (0, 0)) (by (with_reducible repeat (first | refine bN ?_ _ | refine bW ?_ | refine bA ?_ _)); exact BK321.out)) : gb340 ≠ gb321)); have n20_ := aZ ((by rw [hg]; exact Nat.ne_of_lt (bL (g := gb330) (o := .cells #[.bool t322, .slice Ao36 t323.length co36, .slice Ao37 t326.length co37] 32 (0, 0)) (by (with_reducible repeat (first | refine bN ?_ _ | refine bW ?_ | refine bA ?_ _)); exact BK330.out)) : gb330 ≠ gb340)); have n21_ := aZ ((by rw [hg]; exact Nat.ne_of_gt (bL (g := gb330) (o := .cells #[.bool t322, .slice Ao36 t323.length co36, .slice Ao37 t326.length co37] 32 (0, 0)) (by (with_reducible repeat (first | refine bN ?_ _ | refine bW ?_ | refine bA ?_ _)); exact BK330.out)) : gb340 ≠ gb330)); clear HO316 HO319 HO325 HO328 HO335 HO338 BK310 BK311 BK321 BK330 HB; have HO316 := n0_; have HO319 := n1_; have HO325 := n2_; have HO328 := n3_; have HO335 := n4_; have HO338 := n5_; have BK310 := n6_; have BK311 := n7_; have BK321 := n8_; have BK330 := n9_; have HB := n10_; have BK340 := n11_; have GW340 := n12_; have GE340 := n13_; have NB310_340 := n14_; have NB340_310 := n15_; have NB311_340 := n16_; have NB340_311 := n17_; have NB321_340 := n18_; have NB340_321 := n19_; have NB330_340 := n20_; have NB340_330 := n21_; clear n0_ n1_ n2_ n3_ n4_ n5_ n6_ n7_ n8_ n9_ n10_ n11_ n12_ n13_ n14_ n15_ n16_ n17_ n18_ n19_ n20_ n21_; clear hb hbox hg; have hnb43 := NB340_310.out; have hnc43 := NB310_340.out; have hnb44 := NB340_311.out; have hnc44 := NB311_340.out; have hnb45 := NB340_321.out; have hnc45 := NB321_340.out; have hnb46 := NB340_330.out; have hnc46 := NB330_340.out; have hcz47_0 : w42.cell? ⟨gb340, 0, none⟩ = some (.bool false) := (bC BK340.out 0).trans rfl; have hcz47_1 : w42.cell? ⟨gb340, 1, none⟩ = some (.slice none 0 0) := (bC BK340.out 1).trans rfl; have hcz47_2 : w42.cell? ⟨gb340, 2, none⟩ = some (.slice none 0 0) := (bC BK340.out 2).trans rfl; have hfz47_0 := bZ BK340.out 0; have hfz47_1 := bZ BK340.out 1; have hfz47_2 := bZ BK340.out 2; obtain ⟨Ao48, co48, eo48⟩ := Kd.R_slice HO335.out; subst eo48; obtain ⟨Ao49, co49, eo49⟩ := Kd.R_slice HO338.out; subst eo49))
  (try simp only [Act.put, List.setIfInBounds_toArray, List.set_cons_zero, List.set_cons_succ])
  go_cut [88] (fun v88 wc => ∃ (kq : Nat) (x88_19 : Bool), v88 = .bool x88_19 ∧ Aside0 (rotor_Find.j1 kq x88_19 a0_0 l0_1 l0_2 a0_3 l0_4 l0_5 t332 t333 t336 = some (r1, r2, r3)) ∧ Aside0 (kq ≤ kj1) ∧ Aside0 (Kd.R (Kd.int .u32) 62 wc w.heap.size (fun k_ => some k_ ≠ ((.slice Ao27 t317.length co27) : Value).ownBlock ∧ some k_ ≠ ((.slice Ao36 t323.length co36) : Value).ownBlock ∧ some k_ ≠ ((.slice Ao37 t326.length co37) : Value).ownBlock ∧ some k_ ≠ ((.slice Ao48 t333.length co48) : Value).ownBlock ∧ some k_ ≠ ((.slice Ao49 t336.length co49) : Value).ownBlock) (.slice Ao26 t314.length co26) t314) ∧ Aside0 (Kd.R (Kd.int .u32) 62 wc w.heap.size (fun k_ => some k_ ≠ ((.slice Ao26 t314.length co26) : Value).ownBlock ∧ some k_ ≠ ((.slice Ao36 t323.length co36) : Value).ownBlock ∧ some k_ ≠ ((.slice Ao37 t326.length co37) : Value).ownBlock ∧ some k_ ≠ ((.slice Ao48 t333.length co48) : Value).ownBlock ∧ some k_ ≠ ((.slice Ao49 t336.length co49) : Value).ownBlock) (.slice Ao27 t317.length co27) t317) ∧ Aside0 (Kd.R (Kd.int .u32) 62 wc w.heap.size (fun k_ => some k_ ≠ ((.slice Ao26 t314.length co26) : Value).ownBlock ∧ some k_ ≠ ((.slice Ao27 t317.length co27) : Value).ownBlock ∧ some k_ ≠ ((.slice Ao37 t326.length co37) : Value).ownBlock ∧ some k_ ≠ ((.slice Ao48 t333.length co48) : Value).ownBlock ∧ some k_ ≠ ((.slice Ao49 t336.length co49) : Value).ownBlock) (.slice Ao36 t323.length co36) t323) ∧ Aside0 (Kd.R (Kd.int .u32) 62 wc w.heap.size (fun k_ => some k_ ≠ ((.slice Ao26 t314.length co26) : Value).ownBlock ∧ some k_ ≠ ((.slice Ao27 t317.length co27) : Value).ownBlock ∧ some k_ ≠ ((.slice Ao36 t323.length co36) : Value).ownBlock ∧ some k_ ≠ ((.slice Ao48 t333.length co48) : Value).ownBlock ∧ some k_ ≠ ((.slice Ao49 t336.length co49) : Value).ownBlock) (.slice Ao37 t326.length co37) t326) ∧ Aside0 (Kd.R (Kd.int .u32) 62 wc w.heap.size (fun k_ => some k_ ≠ ((.slice Ao26 t314.length co26) : Value).ownBlock ∧ some k_ ≠ ((.slice Ao27 t317.length co27) : Value).ownBlock ∧ some k_ ≠ ((.slice Ao36 t323.length co36) : Value).ownBlock ∧ some k_ ≠ ((.slice Ao37 t326.length co37) : Value).ownBlock ∧ some k_ ≠ ((.slice Ao49 t336.length co49) : Value).ownBlock) (.slice Ao48 t333.length co48) t333) ∧ Aside0 (Kd.R (Kd.int .u32) 62 wc w.heap.size (fun k_ => some k_ ≠ ((.slice Ao26 t314.length co26) : Value).ownBlock ∧ some k_ ≠ ((.slice Ao27 t317.length co27) : Value).ownBlock ∧ some k_ ≠ ((.slice Ao36 t323.length co36) : Value).ownBlock ∧ some k_ ≠ ((.slice Ao37 t326.length co37) : Value).ownBlock ∧ some k_ ≠ ((.slice Ao48 t333.length co48) : Value).ownBlock) (.slice Ao49 t336.length co49) t336) ∧ Aside0 (wc.heap[gb310]? = some (.cells #[.bool a0_0, (.slice A0_1 l0_1.length c0_1), (.slice A0_2 l0_2.length c0_2), .bool a0_3, (.slice A0_4 l0_4.length c0_4), (.slice A0_5 l0_5.length c0_5)] 34 (0, 0))) ∧ Aside0 (wc.heap[gb311]? = some (.cells #[.int .i32 0, .int .i32 0] 25 (0, 0))) ∧ Aside0 (wc.heap[gb321]? = some (.cells #[.bool t313, (.slice Ao26 t314.length co26), (.slice Ao27 t317.length co27)] 32 (0, 0))) ∧ Aside0 (wc.heap[gb330]? = some (.cells #[.bool t322, (.slice Ao36 t323.length co36), (.slice Ao37 t326.length co37)] 32 (0, 0))) ∧ Aside0 (wc.heap[gb340]? = some (.cells #[.bool t332, (.slice Ao48 t333.length co48), (.slice Ao49 t336.length co49)] 32 (0, 0))) ∧ Aside0 (Below w.heap.size w wc))
  case first =>
   have H := HC20.out
   clear HC20
   by_cases c50 : (t333.length : Int) = 1
   ·
    rw [if_pos c50] at H
    have c50b0 : ((t333.length : Int) == 1) = true := beq_iff_eq.mpr c50
    have c50b1 : ((t333.length : Int) != 1) = false := bne_eq_false_iff_eq.mpr c50
    clear c50
    (first | rw [c50b0] | (simp only [i64_w, i32_w]; rw [c50b0]) | skip)
    by_cases c51 : (t336.length : Int) = 1
    ·
     rw [if_pos c51] at H
     have c51b0 : ((t336.length : Int) == 1) = true := beq_iff_eq.mpr c51
     have c51b1 : ((t336.length : Int) != 1) = false := bne_eq_false_iff_eq.mpr c51
     clear c51
     by_cases c52 : 0 < (t333.length : Int)
     ·
      rw [if_pos c52] at H
      have c52b0 : decide (0 < (t333.length : Int)) = true := decide_eq_true c52
      have c52b1 : decide (0 < t333.length) = true := decide_eq_true (by omega)
      clear c52
      by_cases c53 : (rd t333 0) > 1000
      ·
       rw [if_pos c53] at H
       exact absurd H (by simp)
      rw [if_neg c53] at H
      have c53b0 : decide (1000 < (rd t333 0)) = false := decide_eq_false c53
      clear c53
      by_cases c54 : 0 < (t336.length : Int)
      ·
       rw [if_pos c54] at H
       have c54b0 : decide (0 < (t336.length : Int)) = true := decide_eq_true c54
       have c54b1 : decide (0 < t336.length) = true := decide_eq_true (by omega)
       clear c54
       have H' := Aside0.mk H
       clear H
       have hnb55 := NB340_310.out
       have hnc55 := NB310_340.out
       have hnb56 := NB340_311.out
       have hnc56 := NB311_340.out
       have hnb57 := NB340_321.out
       have hnc57 := NB321_340.out
       have hnb58 := NB340_330.out
       have hnc58 := NB330_340.out
       have hcz59_0 : w42.cell? ⟨gb340, 0, none⟩ = some (.bool false) := (bC BK340.out 0).trans rfl
       have hcz59_1 : w42.cell? ⟨gb340, 1, none⟩ = some (.slice none 0 0) := (bC BK340.out 1).trans rfl
       have hcz59_2 : w42.cell? ⟨gb340, 2, none⟩ = some (.slice none 0 0) := (bC BK340.out 2).trans rfl
       have hfz59_0 := bZ BK340.out 0
       have hfz59_1 := bZ BK340.out 1
       have hfz59_2 := bZ BK340.out 2
       have p341 : 0 ≤ (0 : Int) := (by omega)
       have q341 : 0 < (t333.length : Int) := of_decide_eq_true (by first | (with_reducible assumption) | assumption)
       obtain ⟨ad341, e341, hx341_0⟩ := Kd.at_int (Kd.R_reads' HO335.out).2.2 0 p341 q341
       cases e341
       have qi341 : (0 < t333.length) = True := eq_true (by omega)
       (try rw [show ((0 : Int)).toNat = 0 from rfl] at hx341_0)
       (try rw [Addr.add_zero'] at hx341_0)
       have hn341_0 : ad341.block ≠ gb340 := Kd.own_blk (Kd.R_ne HO335.out BK340.out (by decide))
       have hn341_1 : ad341.block ≠ gb340 := Kd.own_blk (Kd.R_ne HO335.out BK340.out (by decide))
       have hn341_2 : ad341.block ≠ gb340 := Kd.own_blk (Kd.R_ne HO335.out BK340.out (by decide))
       replace hx341_0 := (cell_far (p := ⟨gb340, 0, none⟩) (by first | (rw [add_block]; exact hn341_0) | (show (Addr.add _ _).block ≠ _; rw [add_block]; exact hn341_0) | exact hn341_0) (.bool t332)).trans hx341_0
       replace hx341_0 := (cell_far (p := ⟨gb340, 1, none⟩) (by first | (rw [add_block]; exact hn341_1) | (show (Addr.add _ _).block ≠ _; rw [add_block]; exact hn341_1) | exact hn341_1) (.slice (some ad341) t333.length co48)).trans hx341_0
       replace hx341_0 := (cell_far (p := ⟨gb340, 2, none⟩) (by first | (rw [add_block]; exact hn341_2) | (show (Addr.add _ _).block ≠ _; rw [add_block]; exact hn341_2) | exact hn341_2) (.slice Ao49 t336.length co49)).trans hx341_0
       clear hn341_0
       clear hn341_1
       clear hn341_2
       replace p341 := eq_true p341
       replace q341 := eq_true q341
       have p342 : 0 ≤ (0 : Int) := (by omega)
       have q342 : 0 < (t336.length : Int) := of_decide_eq_true (by first | (with_reducible assumption) | assumption)
       obtain ⟨ad342, e342, hx342_0⟩ := Kd.at_int (Kd.R_reads' HO338.out).2.2 0 p342 q342
       cases e342
       have qi342 : (0 < t336.length) = True := eq_true (by omega)
       (try rw [show ((0 : Int)).toNat = 0 from rfl] at hx342_0)
       (try rw [Addr.add_zero'] at hx342_0)
       have hn342_0 : ad342.block ≠ gb340 := Kd.own_blk (Kd.R_ne HO338.out BK340.out (by decide))
       have hn342_1 : ad342.block ≠ gb340 := Kd.own_blk (Kd.R_ne HO338.out BK340.out (by decide))
       have hn342_2 : ad342.block ≠ gb340 := Kd.own_blk (Kd.R_ne HO338.out BK340.out (by decide))
       replace hx342_0 := (cell_far (p := ⟨gb340, 0, none⟩) (by first | (rw [add_block]; exact hn342_0) | (show (Addr.add _ _).block ≠ _; rw [add_block]; exact hn342_0) | exact hn342_0) (.bool t332)).trans hx342_0
       replace hx342_0 := (cell_far (p := ⟨gb340, 1, none⟩) (by first | (rw [add_block]; exact hn342_1) | (show (Addr.add _ _).block ≠ _; rw [add_block]; exact hn342_1) | exact hn342_1) (.slice (some ad341) t333.length co48)).trans hx342_0
       replace hx342_0 := (cell_far (p := ⟨gb340, 2, none⟩) (by first | (rw [add_block]; exact hn342_2) | (show (Addr.add _ _).block ≠ _; rw [add_block]; exact hn342_2) | exact hn342_2) (.slice (some ad342) t336.length co49)).trans hx342_0
       clear hn342_0
       clear hn342_1
       clear hn342_2
       replace p342 := eq_true p342
       replace q342 := eq_true q342
       go_wp2
       go_meet
       case rel => exact ⟨_, (decide ((rd t336 0) > 1000)), (by first | rfl | (simp; done) | (simp [*]; done)), H', ⟨by have := HJ1.out; first | omega | exact Nat.le_refl _⟩, ⟨by (with_reducible repeat (first | apply Kd.R_alloc | apply Kd.R_drewN | apply Kd.R_drew)); exact Kd.R_mono (Kd.R_far (p := ⟨gb340, 2, none⟩) (Kd.R_far (p := ⟨gb340, 1, none⟩) (Kd.R_far (p := ⟨gb340, 0, none⟩) (Kd.R_types HO316.out BK340.out (by decide)) (fun _ hk => hk.2) (.bool t332)) (fun _ hk => hk.2) (.slice (some ad341) t333.length co48)) (fun _ hk => hk.2) (.slice (some ad342) t336.length co49)) (fun _ hk => ⟨hk.1.1.1.1.1, ⟨hk.1.1.1.1.2, ⟨hk.1.1.1.2, ⟨hk.1.1.2, hk.1.2⟩⟩⟩⟩)⟩, ⟨by (with_reducible repeat (first | apply Kd.R_alloc | apply Kd.R_drewN | apply Kd.R_drew)); exact Kd.R_mono (Kd.R_far (p := ⟨gb340, 2, none⟩) (Kd.R_far (p := ⟨gb340, 1, none⟩) (Kd.R_far (p := ⟨gb340, 0, none⟩) (Kd.R_types HO319.out BK340.out (by decide)) (fun _ hk => hk.2) (.bool t332)) (fun _ hk => hk.2) (.slice (some ad341) t333.length co48)) (fun _ hk => hk.2) (.slice (some ad342) t336.length co49)) (fun _ hk => ⟨hk.1.1.1.1.1, ⟨hk.1.1.1.1.2, ⟨hk.1.1.1.2, ⟨hk.1.1.2, hk.1.2⟩⟩⟩⟩)⟩, ⟨by (with_reducible repeat (first | apply Kd.R_alloc | apply Kd.R_drewN | apply Kd.R_drew)); exact Kd.R_mono (Kd.R_far (p := ⟨gb340, 2, none⟩) (Kd.R_far (p := ⟨gb340, 1, none⟩) (Kd.R_far (p := ⟨gb340, 0, none⟩) (Kd.R_types HO325.out BK340.out (by decide)) (fun _ hk => hk.2) (.bool t332)) (fun _ hk => hk.2) (.slice (some ad341) t333.length co48)) (fun _ hk => hk.2) (.slice (some ad342) t336.length co49)) (fun _ hk => ⟨hk.1.1.1.1.2, ⟨hk.1.1.1.2, ⟨hk.1.1.1.1.1, ⟨hk.1.1.2, hk.1.2⟩⟩⟩⟩)⟩, ⟨by (with_reducible repeat (first | apply Kd.R_alloc | apply Kd.R_drewN | apply Kd.R_drew)); exact Kd.R_mono (Kd.R_far (p := ⟨gb340, 2, none⟩) (Kd.R_far (p := ⟨gb340, 1, none⟩) (Kd.R_far (p := ⟨gb340, 0, none⟩) (Kd.R_types HO328.out BK340.out (by decide)) (fun _ hk => hk.2) (.bool t332)) (fun _ hk => hk.2) (.slice (some ad341) t333.length co48)) (fun _ hk => hk.2) (.slice (some ad342) t336.length co49)) (fun _ hk => ⟨hk.1.1.1.1.2, ⟨hk.1.1.1.2, ⟨hk.1.1.1.1.1, ⟨hk.1.1.2, hk.1.2⟩⟩⟩⟩)⟩, ⟨by (with_reducible repeat (first | apply Kd.R_alloc | apply Kd.R_drewN | apply Kd.R_drew)); exact Kd.R_mono (Kd.R_far (p := ⟨gb340, 2, none⟩) (Kd.R_far (p := ⟨gb340, 1, none⟩) (Kd.R_far (p := ⟨gb340, 0, none⟩) (Kd.R_types HO335.out BK340.out (by decide)) (fun _ hk => hk.2) (.bool t332)) (fun _ hk => hk.2) (.slice (some ad341) t333.length co48)) (fun _ hk => hk.2) (.slice (some ad342) t336.length co49)) (fun _ hk => ⟨hk.1.1.1.1.2, ⟨hk.1.1.1.2, ⟨hk.1.1.2, ⟨hk.1.2, hk.1.1.1.1.1⟩⟩⟩⟩)⟩, ⟨by (with_reducible repeat (first | apply Kd.R_alloc | apply Kd.R_drewN | apply Kd.R_drew)); exact Kd.R_mono (Kd.R_far (p := ⟨gb340, 2, none⟩) (Kd.R_far (p := ⟨gb340, 1, none⟩) (Kd.R_far (p := ⟨gb340, 0, none⟩) (Kd.R_types HO338.out BK340.out (by decide)) (fun _ hk => hk.2) (.bool t332)) (fun _ hk => hk.2) (.slice (some ad341) t333.length co48)) (fun _ hk => hk.2) (.slice (some ad342) t336.length co49)) (fun _ hk => ⟨hk.1.1.1.1.2, ⟨hk.1.1.1.2, ⟨hk.1.1.2, ⟨hk.1.2, hk.1.1.1.1.1⟩⟩⟩⟩)⟩, ⟨by (with_reducible repeat (first | refine bN ?_ _ | refine bW ?_ | refine bA ?_ _)); refine bF ?_ NB310_340.out _; (with_reducible repeat (first | refine bN ?_ _ | refine bW ?_ | refine bA ?_ _)); refine bF ?_ NB310_340.out _; (with_reducible repeat (first | refine bN ?_ _ | refine bW ?_ | refine bA ?_ _)); refine bF ?_ NB310_340.out _; (with_reducible repeat (first | refine bN ?_ _ | refine bW ?_ | refine bA ?_ _)); exact BK310.out⟩, ⟨by (with_reducible repeat (first | refine bN ?_ _ | refine bW ?_ | refine bA ?_ _)); refine bF ?_ NB311_340.out _; (with_reducible repeat (first | refine bN ?_ _ | refine bW ?_ | refine bA ?_ _)); refine bF ?_ NB311_340.out _; (with_reducible repeat (first | refine bN ?_ _ | refine bW ?_ | refine bA ?_ _)); refine bF ?_ NB311_340.out _; (with_reducible repeat (first | refine bN ?_ _ | refine bW ?_ | refine bA ?_ _)); exact BK311.out⟩, ⟨by (with_reducible repeat (first | refine bN ?_ _ | refine bW ?_ | refine bA ?_ _)); refine bF ?_ NB321_340.out _; (with_reducible repeat (first | refine bN ?_ _ | refine bW ?_ | refine bA ?_ _)); refine bF ?_ NB321_340.out _; (with_reducible repeat (first | refine bN ?_ _ | refine bW ?_ | refine bA ?_ _)); refine bF ?_ NB321_340.out _; (with_reducible repeat (first | refine bN ?_ _ | refine bW ?_ | refine bA ?_ _)); exact BK321.out⟩, ⟨by (with_reducible repeat (first | refine bN ?_ _ | refine bW ?_ | refine bA ?_ _)); refine bF ?_ NB330_340.out _; (with_reducible repeat (first | refine bN ?_ _ | refine bW ?_ | refine bA ?_ _)); refine bF ?_ NB330_340.out _; (with_reducible repeat (first | refine bN ?_ _ | refine bW ?_ | refine bA ?_ _)); refine bF ?_ NB330_340.out _; (with_reducible repeat (first | refine bN ?_ _ | refine bW ?_ | refine bA ?_ _)); exact BK330.out⟩, ⟨by (with_reducible repeat (first | refine bN ?_ _ | refine bW ?_ | refine bA ?_ _)); refine blk_put (cs := #[.bool t332, .slice (some ad341) t333.length co48, .slice none 0 0]) ?_ 2 _ rfl; (with_reducible repeat (first | refine bN ?_ _ | refine bW ?_ | refine bA ?_ _)); refine blk_put (cs := #[.bool t332, .slice none 0 0, .slice none 0 0]) ?_ 1 _ rfl; (with_reducible repeat (first | refine bN ?_ _ | refine bW ?_ | refine bA ?_ _)); refine blk_put (cs := #[.bool false, .slice none 0 0, .slice none 0 0]) ?_ 0 _ rfl; (with_reducible repeat (first | refine bN ?_ _ | refine bW ?_ | refine bA ?_ _)); exact BK340.out⟩, ⟨by repeat (first | (with_reducible first | exact HB.out | apply wA | apply wN | apply wD | refine wS ?_ GE310.out | refine wS ?_ GE311.out | refine wS ?_ GE321.out | refine wS ?_ GE330.out | refine wS ?_ GE340.out) | exact HB.out)⟩⟩
      rw [if_neg c54] at H
      exact absurd H (by simp)
     rw [if_neg c52] at H
     exact absurd H (by simp)
    rw [if_neg c51] at H
    exact absurd H (by simp)
   rw [if_neg c50] at H
   exact absurd H (by simp)
  case' rest => skip
  clear HC20
  try clear c1
  try clear c2
  try clear p2
  try clear c3
  try clear p3
  try clear q3
  try clear hx3
  try clear qi3
  try clear c4
  try clear c5
  try clear c6
  try clear c6b0
  try clear c6b1
  try clear c7
  try clear c7b0
  try clear c7b1
  try clear c8
  try clear c8b0
  try clear c8b1
  try clear c9
  try clear c9b0
  try clear c9b1
  try clear c10
  try clear c14
  try clear c18
  try clear c18b0
  try clear c18b1
  try clear c23
  try clear c24
  try clear c28
  try clear c32
  try clear c33
  try clear c34
  try clear p34
  try clear q34
  try clear hx34
  try clear qi34
  try clear c38
  try clear c39
  try clear c40
  try clear c41
  try clear c42
  try clear c43
  try clear c44
  try clear c45
  try clear c46
  try clear c50
  try clear c50b0
  try clear c50b1
  try clear c51
  try clear c51b0
  try clear c51b1
  try clear c52
  try clear c52b0
  try clear c52b1
  try clear c53
  try clear c53b0
  try clear c54
  try clear c54b0
  try clear c54b1
  try clear c55
  try clear c56
  try clear c57
  try clear c58
  try clear hcz11_0
  try clear hcz11_1
  try clear hcz11_2
  try clear hcz11_3
  try clear hcz11_4
  try clear hcz11_5
  try clear hcz13_0
  try clear hcz13_1
  try clear hcz13_2
  try clear hcz13_3
  try clear hcz13_4
  try clear hcz13_5
  try clear hcz25_0
  try clear hcz25_1
  try clear hcz25_2
  try clear hcz29_0
  try clear hcz29_1
  try clear hcz29_2
  try clear hcz29_3
  try clear hcz29_4
  try clear hcz29_5
  try clear hcz35_0
  try clear hcz35_1
  try clear hcz35_2
  try clear hcz39_0
  try clear hcz39_1
  try clear hcz39_2
  try clear hcz39_3
  try clear hcz39_4
  try clear hcz39_5
  try clear hcz40_0
  try clear hcz40_1
  try clear hcz40_2
  try clear hcz47_0
  try clear hcz47_1
  try clear hcz47_2
  try clear hcz59_0
  try clear hcz59_1
  try clear hcz59_2
  try clear hfz11_0
  try clear hfz11_1
  try clear hfz11_2
  try clear hfz11_3
  try clear hfz11_4
  try clear hfz11_5
  try clear hfz13_0
  try clear hfz13_1
  try clear hfz13_2
  try clear hfz13_3
  try clear hfz13_4
  try clear hfz13_5
  try clear hfz25_0
  try clear hfz25_1
  try clear hfz25_2
  try clear hfz29_0
  try clear hfz29_1
  try clear hfz29_2
  try clear hfz29_3
  try clear hfz29_4
  try clear hfz29_5
  try clear hfz35_0
  try clear hfz35_1
  try clear hfz35_2
  try clear hfz39_0
  try clear hfz39_1
  try clear hfz39_2
  try clear hfz39_3
  try clear hfz39_4
  try clear hfz39_5
  try clear hfz40_0
  try clear hfz40_1
  try clear hfz40_2
  try clear hfz47_0
  try clear hfz47_1
  try clear hfz47_2
  try clear hfz59_0
  try clear hfz59_1
  try clear hfz59_2
  try clear hx341_0
  try clear hx342_0
  try clear p2
  try clear p341
  try clear p342
  try clear q341
  try clear q342
  obtain ⟨kq, x88_19, rfl, HA, HJ19, HO_322001, HO_322002, HO_331001, HO_331002, HO_341001, HO_341002, BK310, BK311, BK321, BK330, BK340, HB⟩ := hcut
  cases kq with
  | zero => exact absurd HA.out (by simp [rotor_Find.j1])
  | succ kj19 =>
   have H := HA.out
   clear HA
   simp only [rotor_Find.j1] at H
   by_cases c60 : x88_19 = true
   ·
    subst c60
    have H1 : (none) = some (r1, r2, r3) := by rw [if_pos rfl] at H; exact H
    clear H
    have H := H1
    clear H1
    exact absurd H (by simp)
   replace c60 := Bool.eq_false_iff.mpr c60
   subst c60
   have H1 : (if 0 < (t336.length : Int) then (if 0 < (t333.length : Int) then (if t332 = true then (rotor_Find.j2 kj19 a0_0 l0_1 l0_2 a0_3 l0_4 l0_5 (wrap32 (rd t336 0)) (wrap32 (-(wrap32 (rd t333 0))))) else (rotor_Find.j2 kj19 a0_0 l0_1 l0_2 a0_3 l0_4 l0_5 (wrap32 (rd t336 0)) (wrap32 (rd t333 0)))) else (none)) else (none)) = some (r1, r2, r3) := by rw [if_neg (show ¬ (false = true) by decide)] at H; exact H
   clear H
   have H := H1
   clear H1
   by_cases c61 : 0 < (t336.length : Int)
   ·
    rw [if_pos c61] at H
    have c61b0 : decide (0 < (t336.length : Int)) = true := decide_eq_true c61
    have c61b1 : decide (0 < t336.length) = true := decide_eq_true (by omega)
    clear c61
    by_cases c62 : 0 < (t333.length : Int)
    ·
     rw [if_pos c62] at H
     have c62b0 : decide (0 < (t333.length : Int)) = true := decide_eq_true c62
     have c62b1 : decide (0 < t333.length) = true := decide_eq_true (by omega)
     clear c62
     have HC63 := Aside0.mk H
     clear H
     try go_wp2
     have n0_ := aZ (Kd.R_drew HO_322001.out)
     have n1_ := aZ (Kd.R_drew HO_322002.out)
     have n2_ := aZ (Kd.R_drew HO_331001.out)
     have n3_ := aZ (Kd.R_drew HO_331002.out)
     have n4_ := aZ (Kd.R_drew HO_341001.out)
     have n5_ := aZ (Kd.R_drew HO_341002.out)
     have n6_ := aZ (bW BK310.out)
     have n7_ := aZ (bW BK311.out)
     have n8_ := aZ (bW BK321.out)
     have n9_ := aZ (bW BK330.out)
     have n10_ := aZ (bW BK340.out)
     have n11_ := aZ (wD HB.out)
     clear HO_322001
     clear HO_322002
     clear HO_331001
     clear HO_331002
     clear HO_341001
     clear HO_341002
     clear BK310
     clear BK311
     clear BK321
     clear BK330
     clear BK340
     clear HB
     have HO_322001 := n0_
     have HO_322002 := n1_
     have HO_331001 := n2_
     have HO_331002 := n3_
     have HO_341001 := n4_
     have HO_341002 := n5_
     have BK310 := n6_
     have BK311 := n7_
     have BK321 := n8_
     have BK330 := n9_
     have BK340 := n10_
     have HB := n11_
     clear n0_ n1_ n2_ n3_ n4_ n5_ n6_ n7_ n8_ n9_ n10_ n11_
     have p343 : 0 ≤ (0 : Int) := (by omega)
     have q343 : 0 < (t336.length : Int) := of_decide_eq_true (by first | (with_reducible assumption) | assumption)
     obtain ⟨ad343, e343, hx343_0⟩ := Kd.at_int (Kd.R_reads' HO_341002.out).2.2 0 p343 q343
     cases e343
     have qi343 : (0 < t336.length) = True := eq_true (by omega)
     (try rw [show ((0 : Int)).toNat = 0 from rfl] at hx343_0)
     (try rw [Addr.add_zero'] at hx343_0)
     replace p343 := eq_true p343
     replace q343 := eq_true q343
     have p344 : 0 ≤ (0 : Int) := (by omega)
     have q344 : 0 < (t333.length : Int) := of_decide_eq_true (by first | (with_reducible assumption) | assumption)
     obtain ⟨ad344, e344, hx344_0⟩ := Kd.at_int (Kd.R_reads' HO_341001.out).2.2 0 p344 q344
     cases e344
     have qi344 : (0 < t333.length) = True := eq_true (by omega)
     (try rw [show ((0 : Int)).toNat = 0 from rfl] at hx344_0)
     (try rw [Addr.add_zero'] at hx344_0)
     replace p344 := eq_true p344
     replace q344 := eq_true q344
     refine start_ (n := 13) (S := fun w' => w'.cell? ⟨gb340, 0, none⟩ = some (.bool t332) ∧ w'.cell? ⟨gb340, 1, none⟩ = some (.slice (some ad344) t333.length co48) ∧ w'.cell? ⟨gb340, 2, none⟩ = some (.slice (some ad343) t336.length co49) ∧ w'.cell? ad343 = some (.int .u32 (rd t336 0)) ∧ w'.cell? ad344 = some (.int .u32 (rd t333 0))) (ds := []) #[false, false, false, false, false, false, false, false, false, false, false, false, false] (by kernel_rfl) rfl rfl ⟨(bC BK340.out 0).trans rfl, (bC BK340.out 1).trans rfl, (bC BK340.out 2).trans rfl, hx343_0, hx344_0⟩ (fun hHeld => ?_); refine with_tabW rotor_Find.tab10 rotor_Find.bits10 (fun HT_ HW_ => ?_)
     generalize wc.drew = w64 at HO_322001 HO_322002 HO_331001 HO_331002 HO_341001 HO_341002 BK310 BK311 BK321 BK330 BK340 HB hx343_0 hx344_0 hHeld ⊢
     refine pure_ (i := 0) (N := some 90) (v := ?_) (a' := ?_) #[true, false, false, false, false, false, false, false, false, false, false, false, false] rfl rfl (any_of HT_.out (by kernel_rfl)) (fun _ _ _ h => h) (Or.inl ⟨by rfl, ?_⟩) ?_ ?_
     rotate_left
     ·
      intro w'
      go_simp
      with_reducible rfl
     rotate_left
     ·
      simp only [Act.put, List.setIfInBounds_toArray, List.set_cons_zero, List.set_cons_succ, i64_w, i32_w]
      rfl
     refine pure_ (i := 5) (N := some 95) (v := ?_) (a' := ?_) #[true, false, false, false, false, true, false, false, false, false, false, false, false] rfl rfl (any_of HT_.out (by kernel_rfl)) (fun _ _ _ h => h) (Or.inl ⟨by rfl, ?_⟩) ?_ ?_
     rotate_left
     ·
      intro w'
      go_simp
      with_reducible rfl
     rotate_left
     ·
      simp only [Act.put, List.setIfInBounds_toArray, List.set_cons_zero, List.set_cons_succ, i64_w, i32_w]
      rfl
     refine take_ (i := 1) (N := some 91) (v := ?_) (a' := ?_) #[true, true, false, false, false, true, false, false, false, false, false, false, false] rfl rfl (take_ofW HT_.out HW_.out (by kernel_rfl)) (fun _ _ _ h => h) (Or.inl ⟨by rfl, ?_⟩) hHeld ?_ ?_
     rotate_left
     ·
      rintro w' ⟨s0, s1, s2, s3, s4⟩
      go_simp
      with_reducible rfl
     rotate_left
     ·
      simp only [Act.put, List.setIfInBounds_toArray, List.set_cons_zero, List.set_cons_succ, i64_w, i32_w]
      rfl
     refine pure_ (i := 2) (N := some 92) (v := ?_) (a' := ?_) #[true, true, true, false, false, true, false, false, false, false, false, false, false] rfl rfl (any_of HT_.out (by kernel_rfl)) (fun _ _ _ h => h) (Or.inl ⟨by rfl, ?_⟩) ?_ ?_
     rotate_left
     ·
      intro w'
      go_simp
      with_reducible rfl
     rotate_left
     ·
      simp only [Act.put, List.setIfInBounds_toArray, List.set_cons_zero, List.set_cons_succ, i64_w, i32_w]
      rfl
     refine take_ (i := 3) (N := some 93) (v := ?_) (a' := ?_) #[true, true, true, true, false, true, false, false, false, false, false, false, false] rfl rfl (take_ofW HT_.out HW_.out (by kernel_rfl)) (fun _ _ _ h => h) (Or.inl ⟨by rfl, ?_⟩) hHeld ?_ ?_
     rotate_left
     ·
      rintro w' ⟨s0, s1, s2, s3, s4⟩
      go_simp
      with_reducible rfl
     rotate_left
     ·
      simp only [Act.put, List.setIfInBounds_toArray, List.set_cons_zero, List.set_cons_succ, i64_w, i32_w]
      rfl
     refine pure_ (i := 4) (N := some 94) (v := ?_) (a' := ?_) #[true, true, true, true, true, true, false, false, false, false, false, false, false] rfl rfl (any_of HT_.out (by kernel_rfl)) (fun _ _ _ h => h) (Or.inl ⟨by rfl, ?_⟩) ?_ ?_
     rotate_left
     ·
      intro w'
      go_simp
      with_reducible rfl
     rotate_left
     ·
      simp only [Act.put, List.setIfInBounds_toArray, List.set_cons_zero, List.set_cons_succ, i64_w, i32_w]
      rfl
     refine take_ (i := 6) (N := some 96) (v := ?_) (a' := ?_) #[true, true, true, true, true, true, true, false, false, false, false, false, false] rfl rfl (take_ofW HT_.out HW_.out (by kernel_rfl)) (fun _ _ _ h => h) (Or.inl ⟨by rfl, ?_⟩) hHeld ?_ ?_
     rotate_left
     ·
      rintro w' ⟨s0, s1, s2, s3, s4⟩
      go_simp
      with_reducible rfl
     rotate_left
     ·
      simp only [Act.put, List.setIfInBounds_toArray, List.set_cons_zero, List.set_cons_succ, i64_w, i32_w]
      rfl
     refine pure_ (i := 7) (N := some 97) (v := ?_) (a' := ?_) #[true, true, true, true, true, true, true, true, false, false, false, false, false] rfl rfl (any_of HT_.out (by kernel_rfl)) (fun _ _ _ h => h) (Or.inl ⟨by rfl, ?_⟩) ?_ ?_
     rotate_left
     ·
      intro w'
      go_simp
      with_reducible rfl
     rotate_left
     ·
      simp only [Act.put, List.setIfInBounds_toArray, List.set_cons_zero, List.set_cons_succ, i64_w, i32_w]
      rfl
     refine take_ (i := 8) (N := some 98) (v := ?_) (a' := ?_) #[true, true, true, true, true, true, true, true, true, false, false, false, false] rfl rfl (take_ofW HT_.out HW_.out (by kernel_rfl)) (fun _ _ _ h => h) (Or.inl ⟨by rfl, ?_⟩) hHeld ?_ ?_
     rotate_left
     ·
      rintro w' ⟨s0, s1, s2, s3, s4⟩
      go_simp
      with_reducible rfl
     rotate_left
     ·
      simp only [Act.put, List.setIfInBounds_toArray, List.set_cons_zero, List.set_cons_succ, i64_w, i32_w]
      rfl
     refine pure_ (i := 9) (N := some 99) (v := ?_) (a' := ?_) #[true, true, true, true, true, true, true, true, true, true, false, false, false] rfl rfl (any_of HT_.out (by kernel_rfl)) (fun _ _ _ h => h) (Or.inl ⟨by rfl, ?_⟩) ?_ ?_
     rotate_left
     ·
      intro w'
      go_simp
      with_reducible rfl
     rotate_left
     ·
      simp only [Act.put, List.setIfInBounds_toArray, List.set_cons_zero, List.set_cons_succ, i64_w, i32_w]
      rfl
     refine pure_ (i := 10) (N := some 100) (v := ?_) (a' := ?_) #[true, true, true, true, true, true, true, true, true, true, true, false, false] rfl rfl (any_of HT_.out (by kernel_rfl)) (fun _ _ _ h => h) (Or.inl ⟨by rfl, ?_⟩) ?_ ?_
     rotate_left
     ·
      intro w'
      go_simp
      with_reducible rfl
     rotate_left
     ·
      simp only [Act.put, List.setIfInBounds_toArray, List.set_cons_zero, List.set_cons_succ, i64_w, i32_w]
      rfl
     refine one_ (i := 11) (N := some 10) #[true, true, true, true, true, true, true, true, true, true, true, true, false] rfl rfl (one_of HT_.out (by kernel_rfl)) (by decide) (fun K hK => ?_)
     refine box_step ?hg (N := 10) ?hd (cs := #[.int .i32 0, .int .i32 0]) (t := 25) ?hr ?_; (case hd => rfl); (case hg => rfl); (case hr => first | (go_simp; done) | (go_simp; rfl))
     intro gb345 hg w65 hbox hb
     have HS3_ := (hb.cell (World.block_lt_of_cell? _ _ (hHeld.2.2.2.1))).trans (hHeld.2.2.2.1)
     have HS4_ := (hb.cell (World.block_lt_of_cell? _ _ (hHeld.2.2.2.2))).trans (hHeld.2.2.2.2)
     have n0_ := aZ (Kd.R_below (by (with_reducible repeat (first | apply Kd.R_alloc | apply Kd.R_drewN | apply Kd.R_drew)); exact HO_322001.out) hb)
     have n1_ := aZ (Kd.R_below (by (with_reducible repeat (first | apply Kd.R_alloc | apply Kd.R_drewN | apply Kd.R_drew)); exact HO_322002.out) hb)
     have n2_ := aZ (Kd.R_below (by (with_reducible repeat (first | apply Kd.R_alloc | apply Kd.R_drewN | apply Kd.R_drew)); exact HO_331001.out) hb)
     have n3_ := aZ (Kd.R_below (by (with_reducible repeat (first | apply Kd.R_alloc | apply Kd.R_drewN | apply Kd.R_drew)); exact HO_331002.out) hb)
     have n4_ := aZ (Kd.R_below (by (with_reducible repeat (first | apply Kd.R_alloc | apply Kd.R_drewN | apply Kd.R_drew)); exact HO_341001.out) hb)
     have n5_ := aZ (Kd.R_below (by (with_reducible repeat (first | apply Kd.R_alloc | apply Kd.R_drewN | apply Kd.R_drew)); exact HO_341002.out) hb)
     have n6_ := aZ (bB (g := gb310) (o := .cells #[.bool a0_0, .slice A0_1 l0_1.length c0_1, .slice A0_2 l0_2.length c0_2, .bool a0_3, .slice A0_4 l0_4.length c0_4, .slice A0_5 l0_5.length c0_5] 34 (0, 0)) (by (with_reducible repeat (first | refine bN ?_ _ | refine bW ?_ | refine bA ?_ _)); exact BK310.out) hb)
     have n7_ := aZ (bB (g := gb311) (o := .cells #[.int .i32 0, .int .i32 0] 25 (0, 0)) (by (with_reducible repeat (first | refine bN ?_ _ | refine bW ?_ | refine bA ?_ _)); exact BK311.out) hb)
     have n8_ := aZ (bB (g := gb321) (o := .cells #[.bool t313, .slice Ao26 t314.length co26, .slice Ao27 t317.length co27] 32 (0, 0)) (by (with_reducible repeat (first | refine bN ?_ _ | refine bW ?_ | refine bA ?_ _)); exact BK321.out) hb)
     have n9_ := aZ (bB (g := gb330) (o := .cells #[.bool t322, .slice Ao36 t323.length co36, .slice Ao37 t326.length co37] 32 (0, 0)) (by (with_reducible repeat (first | refine bN ?_ _ | refine bW ?_ | refine bA ?_ _)); exact BK330.out) hb)
     have n10_ := aZ (bB (g := gb340) (o := .cells #[.bool t332, .slice (some ad344) t333.length co48, .slice (some ad343) t336.length co49] 32 (0, 0)) (by (with_reducible repeat (first | refine bN ?_ _ | refine bW ?_ | refine bA ?_ _)); exact BK340.out) hb)
     have n11_ := aZ (wP (by repeat (first | (with_reducible first | exact HB.out | apply wA | apply wN | apply wD | refine wS ?_ GE310.out | refine wS ?_ GE311.out | refine wS ?_ GE321.out | refine wS ?_ GE330.out | refine wS ?_ GE340.out) | exact HB.out)) hb)
     have n12_ := aZ (hbox)
     have n13_ := aZ ((by rw [hg]; exact (wZ (by repeat (first | (with_reducible first | exact HB.out | apply wA | apply wN | apply wD | refine wS ?_ GE310.out | refine wS ?_ GE311.out | refine wS ?_ GE321.out | refine wS ?_ GE330.out | refine wS ?_ GE340.out) | exact HB.out))) : w.heap.size ≤ gb345))
     have n14_ := aZ ((by rw [hg]; exact (wZ (by repeat (first | (with_reducible first | exact HB.out | apply wA | apply wN | apply wD | refine wS ?_ GE310.out | refine wS ?_ GE311.out | refine wS ?_ GE321.out | refine wS ?_ GE330.out | refine wS ?_ GE340.out) | exact HB.out))) : w.heap.size ≤ gb345))
     have n15_ := aZ ((by rw [hg]; exact Nat.ne_of_lt (bL (g := gb310) (o := .cells #[.bool a0_0, .slice A0_1 l0_1.length c0_1, .slice A0_2 l0_2.length c0_2, .bool a0_3, .slice A0_4 l0_4.length c0_4, .slice A0_5 l0_5.length c0_5] 34 (0, 0)) (by (with_reducible repeat (first | refine bN ?_ _ | refine bW ?_ | refine bA ?_ _)); exact BK310.out)) : gb310 ≠ gb345))
     have n16_ := aZ ((by rw [hg]; exact Nat.ne_of_gt (bL (g := gb310) (o := .cells #[.bool a0_0, .slice A0_1 l0_1.length c0_1, .slice A0_2 l0_2.length c0_2, .bool a0_3, .slice A0_4 l0_4.length c0_4, .slice A0_5 l0_5.length c0_5] 34 (0, 0)) (by (with_reducible repeat (first | refine bN ?_ _ | refine bW ?_ | refine bA ?_ _)); exact BK310.out)) : gb345 ≠ gb310))
     have n17_ := aZ ((by rw [hg]; exact Nat.ne_of_lt (bL (g := gb311) (o := .cells #[.int .i32 0, .int .i32 0] 25 (0, 0)) (by (with_reducible repeat (first | refine bN ?_ _ | refine bW ?_ | refine bA ?_ _)); exact BK311.out)) : gb311 ≠ gb345))
     have n18_ := aZ ((by rw [hg]; exact Nat.ne_of_gt (bL (g := gb311) (o := .cells #[.int .i32 0, .int .i32 0] 25 (0, 0)) (by (with_reducible repeat (first | refine bN ?_ _ | refine bW ?_ | refine bA ?_ _)); exact BK311.out)) : gb345 ≠ gb311))
     have n19_ := aZ ((by rw [hg]; exact Nat.ne_of_lt (bL (g := gb321) (o := .cells #[.bool t313, .slice Ao26 t314.length co26, .slice Ao27 t317.length co27] 32 (0, 0)) (by (with_reducible repeat (first | refine bN ?_ _ | refine bW ?_ | refine bA ?_ _)); exact BK321.out)) : gb321 ≠ gb345))
     have n20_ := aZ ((by rw [hg]; exact Nat.ne_of_gt (bL (g := gb321) (o := .cells #[.bool t313, .slice Ao26 t314.length co26, .slice Ao27 t317.length co27] 32 (0, 0)) (by (with_reducible repeat (first | refine bN ?_ _ | refine bW ?_ | refine bA ?_ _)); exact BK321.out)) : gb345 ≠ gb321))
     have n21_ := aZ ((by rw [hg]; exact Nat.ne_of_lt (bL (g := gb330) (o := .cells #[.bool t322, .slice Ao36 t323.length co36, .slice Ao37 t326.length co37] 32 (0, 0)) (by (with_reducible repeat (first | refine bN ?_ _ | refine bW ?_ | refine bA ?_ _)); exact BK330.out)) : gb330 ≠ gb345))
     have n22_ := aZ ((by rw [hg]; exact Nat.ne_of_gt (bL (g := gb330) (o := .cells #[.bool t322, .slice Ao36 t323.length co36, .slice Ao37 t326.length co37] 32 (0, 0)) (by (with_reducible repeat (first | refine bN ?_ _ | refine bW ?_ | refine bA ?_ _)); exact BK330.out)) : gb345 ≠ gb330))
     have n23_ := aZ ((by rw [hg]; exact Nat.ne_of_lt (bL (g := gb340) (o := .cells #[.bool t332, .slice (some ad344) t333.length co48, .slice (some ad343) t336.length co49] 32 (0, 0)) (by (with_reducible repeat (first | refine bN ?_ _ | refine bW ?_ | refine bA ?_ _)); exact BK340.out)) : gb340 ≠ gb345))
     have n24_ := aZ ((by rw [hg]; exact Nat.ne_of_gt (bL (g := gb340) (o := .cells #[.bool t332, .slice (some ad344) t333.length co48, .slice (some ad343) t336.length co49] 32 (0, 0)) (by (with_reducible repeat (first | refine bN ?_ _ | refine bW ?_ | refine bA ?_ _)); exact BK340.out)) : gb345 ≠ gb340))
     clear HO_322001
     clear HO_322002
     clear HO_331001
     clear HO_331002
     clear HO_341001
     clear HO_341002
     clear BK310
     clear BK311
     clear BK321
     clear BK330
     clear BK340
     clear HB
     have HO_322001 := n0_
     have HO_322002 := n1_
     have HO_331001 := n2_
     have HO_331002 := n3_
     have HO_341001 := n4_
     have HO_341002 := n5_
     have BK310 := n6_
     have BK311 := n7_
     have BK321 := n8_
     have BK330 := n9_
     have BK340 := n10_
     have HB := n11_
     have BK345 := n12_
     have GW345 := n13_
     have GE345 := n14_
     have NB310_345 := n15_
     have NB345_310 := n16_
     have NB311_345 := n17_
     have NB345_311 := n18_
     have NB321_345 := n19_
     have NB345_321 := n20_
     have NB330_345 := n21_
     have NB345_330 := n22_
     have NB340_345 := n23_
     have NB345_340 := n24_
     clear n0_ n1_ n2_ n3_ n4_ n5_ n6_ n7_ n8_ n9_ n10_ n11_ n12_ n13_ n14_ n15_ n16_ n17_ n18_ n19_ n20_ n21_ n22_ n23_ n24_
     clear hb hbox hg
     refine hK.out _ _ ⟨(bC BK340.out 0).trans rfl, (bC BK340.out 1).trans rfl, (bC BK340.out 2).trans rfl, HS3_, HS4_⟩ (fun hHeld => ?_)
     clear hK K
     refine norm_ (a' := ?_) ?_ ?_
     rotate_left
     ·
      show Act.put _ (some 10) _ = _
      simp only [Act.put, List.setIfInBounds_toArray, List.set_cons_zero, List.set_cons_succ, i64_w, i32_w]
      rfl
     refine one_ (i := 12) (N := none) #[true, true, true, true, true, true, true, true, true, true, true, true, true] rfl rfl (one_of HT_.out (by kernel_rfl)) (by decide) (fun K hK => ?_)
     have hs66 : w65.cell? ⟨gb345, 0, none⟩ = some (.int .i32 0) := (bC BK345.out 0).trans rfl
     have hfs66 := bZ BK345.out 0
     have hns66_0 := NB310_345.out
     have hns66_1 := NB311_345.out
     have hns66_2 := NB321_345.out
     have hns66_3 := NB330_345.out
     have hns66_4 := NB340_345.out
     have hms66_0 := NB345_310.out
     have hms66_1 := NB345_311.out
     have hms66_2 := NB345_321.out
     have hms66_3 := NB345_330.out
     have hms66_4 := NB345_340.out
     have hs67 : w65.cell? ⟨gb345, 1, none⟩ = some (.int .i32 0) := (bC BK345.out 1).trans rfl
     have hfs67 := bZ BK345.out 1
     have hns67_0 := NB310_345.out
     have hns67_1 := NB311_345.out
     have hns67_2 := NB321_345.out
     have hns67_3 := NB330_345.out
     have hns67_4 := NB340_345.out
     have hms67_0 := NB345_310.out
     have hms67_1 := NB345_311.out
     have hms67_2 := NB345_321.out
     have hms67_3 := NB345_330.out
     have hms67_4 := NB345_340.out
     refine skip_ (w1 := ?_) (by rfl) rfl ?_ ?_
     rotate_left
     ·
      go_simp
      rfl
     refine hK.out _ _ ⟨((cell_far (p := ⟨gb345, _, none⟩) NB340_345.out _).trans (((cell_far (p := ⟨gb345, _, none⟩) NB340_345.out _).trans (hHeld.1)))), ((cell_far (p := ⟨gb345, _, none⟩) NB340_345.out _).trans (((cell_far (p := ⟨gb345, _, none⟩) NB340_345.out _).trans (hHeld.2.1)))), ((cell_far (p := ⟨gb345, _, none⟩) NB340_345.out _).trans (((cell_far (p := ⟨gb345, _, none⟩) NB340_345.out _).trans (hHeld.2.2.1)))), ((cell_far (p := ⟨gb345, _, none⟩) (by first | exact Kd.own_blk (Kd.R_ne HO_341002.out BK345.out (by decide)) | (rw [add_block]; exact Kd.own_blk (Kd.R_ne HO_341002.out BK345.out (by decide))) | (show (Addr.add _ _).block ≠ _; rw [add_block]; exact Kd.own_blk (Kd.R_ne HO_341002.out BK345.out (by decide))) | (dsimp only; exact Kd.own_blk (Kd.R_ne HO_341002.out BK345.out (by decide)))) _).trans (((cell_far (p := ⟨gb345, _, none⟩) (by first | exact Kd.own_blk (Kd.R_ne HO_341002.out BK345.out (by decide)) | (rw [add_block]; exact Kd.own_blk (Kd.R_ne HO_341002.out BK345.out (by decide))) | (show (Addr.add _ _).block ≠ _; rw [add_block]; exact Kd.own_blk (Kd.R_ne HO_341002.out BK345.out (by decide))) | (dsimp only; exact Kd.own_blk (Kd.R_ne HO_341002.out BK345.out (by decide)))) _).trans (hHeld.2.2.2.1)))), ((cell_far (p := ⟨gb345, _, none⟩) (by first | exact Kd.own_blk (Kd.R_ne HO_341001.out BK345.out (by decide)) | (rw [add_block]; exact Kd.own_blk (Kd.R_ne HO_341001.out BK345.out (by decide))) | (show (Addr.add _ _).block ≠ _; rw [add_block]; exact Kd.own_blk (Kd.R_ne HO_341001.out BK345.out (by decide))) | (dsimp only; exact Kd.own_blk (Kd.R_ne HO_341001.out BK345.out (by decide)))) _).trans (((cell_far (p := ⟨gb345, _, none⟩) (by first | exact Kd.own_blk (Kd.R_ne HO_341001.out BK345.out (by decide)) | (rw [add_block]; exact Kd.own_blk (Kd.R_ne HO_341001.out BK345.out (by decide))) | (show (Addr.add _ _).block ≠ _; rw [add_block]; exact Kd.own_blk (Kd.R_ne HO_341001.out BK345.out (by decide))) | (dsimp only; exact Kd.own_blk (Kd.R_ne HO_341001.out BK345.out (by decide)))) _).trans (hHeld.2.2.2.2))))⟩ (fun hHeld => ?_)
     clear hK K
     refine done_ (done_of HT_.out (by kernel_rfl)) ?_
     have hnb68 := NB340_310.out
     have hnc68 := NB310_340.out
     have hnb69 := NB340_311.out
     have hnc69 := NB311_340.out
     have hnb70 := NB340_321.out
     have hnc70 := NB321_340.out
     have hnb71 := NB340_330.out
     have hnc71 := NB330_340.out
     have hnb72 := NB340_345.out
     have hnc72 := NB345_340.out
     have hcz73_0 : w65.cell? ⟨gb340, 0, none⟩ = some (.bool t332) := (bC BK340.out 0).trans rfl
     have hcz73_1 : w65.cell? ⟨gb340, 1, none⟩ = some (.slice (some ad344) t333.length co48) := (bC BK340.out 1).trans rfl
     have hcz73_2 : w65.cell? ⟨gb340, 2, none⟩ = some (.slice (some ad343) t336.length co49) := (bC BK340.out 2).trans rfl
     have hfz73_0 := bZ BK340.out 0
     have hfz73_1 := bZ BK340.out 1
     have hfz73_2 := bZ BK340.out 2
     go_upto_if 102 with (fail)
     go_cut [] (fun wc => ∃ (kq : Nat) (x346001_62 : Int), Aside0 (rotor_Find.j2 kq a0_0 l0_1 l0_2 a0_3 l0_4 l0_5 (wrap32 (rd t336 0)) x346001_62 = some (r1, r2, r3)) ∧ Aside0 (kq ≤ kj19) ∧ Aside0 (Kd.R (Kd.int .u32) 62 wc w.heap.size (fun k_ => some k_ ≠ ((.slice Ao27 t317.length co27) : Value).ownBlock ∧ some k_ ≠ ((.slice Ao36 t323.length co36) : Value).ownBlock ∧ some k_ ≠ ((.slice Ao37 t326.length co37) : Value).ownBlock ∧ some k_ ≠ ((.slice (some ad344) t333.length co48) : Value).ownBlock ∧ some k_ ≠ ((.slice (some ad343) t336.length co49) : Value).ownBlock) (.slice Ao26 t314.length co26) t314) ∧ Aside0 (Kd.R (Kd.int .u32) 62 wc w.heap.size (fun k_ => some k_ ≠ ((.slice Ao26 t314.length co26) : Value).ownBlock ∧ some k_ ≠ ((.slice Ao36 t323.length co36) : Value).ownBlock ∧ some k_ ≠ ((.slice Ao37 t326.length co37) : Value).ownBlock ∧ some k_ ≠ ((.slice (some ad344) t333.length co48) : Value).ownBlock ∧ some k_ ≠ ((.slice (some ad343) t336.length co49) : Value).ownBlock) (.slice Ao27 t317.length co27) t317) ∧ Aside0 (Kd.R (Kd.int .u32) 62 wc w.heap.size (fun k_ => some k_ ≠ ((.slice Ao26 t314.length co26) : Value).ownBlock ∧ some k_ ≠ ((.slice Ao27 t317.length co27) : Value).ownBlock ∧ some k_ ≠ ((.slice Ao37 t326.length co37) : Value).ownBlock ∧ some k_ ≠ ((.slice (some ad344) t333.length co48) : Value).ownBlock ∧ some k_ ≠ ((.slice (some ad343) t336.length co49) : Value).ownBlock) (.slice Ao36 t323.length co36) t323) ∧ Aside0 (Kd.R (Kd.int .u32) 62 wc w.heap.size (fun k_ => some k_ ≠ ((.slice Ao26 t314.length co26) : Value).ownBlock ∧ some k_ ≠ ((.slice Ao27 t317.length co27) : Value).ownBlock ∧ some k_ ≠ ((.slice Ao36 t323.length co36) : Value).ownBlock ∧ some k_ ≠ ((.slice (some ad344) t333.length co48) : Value).ownBlock ∧ some k_ ≠ ((.slice (some ad343) t336.length co49) : Value).ownBlock) (.slice Ao37 t326.length co37) t326) ∧ Aside0 (Kd.R (Kd.int .u32) 62 wc w.heap.size (fun k_ => some k_ ≠ ((.slice Ao26 t314.length co26) : Value).ownBlock ∧ some k_ ≠ ((.slice Ao27 t317.length co27) : Value).ownBlock ∧ some k_ ≠ ((.slice Ao36 t323.length co36) : Value).ownBlock ∧ some k_ ≠ ((.slice Ao37 t326.length co37) : Value).ownBlock ∧ some k_ ≠ ((.slice (some ad343) t336.length co49) : Value).ownBlock) (.slice (some ad344) t333.length co48) t333) ∧ Aside0 (Kd.R (Kd.int .u32) 62 wc w.heap.size (fun k_ => some k_ ≠ ((.slice Ao26 t314.length co26) : Value).ownBlock ∧ some k_ ≠ ((.slice Ao27 t317.length co27) : Value).ownBlock ∧ some k_ ≠ ((.slice Ao36 t323.length co36) : Value).ownBlock ∧ some k_ ≠ ((.slice Ao37 t326.length co37) : Value).ownBlock ∧ some k_ ≠ ((.slice (some ad344) t333.length co48) : Value).ownBlock) (.slice (some ad343) t336.length co49) t336) ∧ Aside0 (wc.heap[gb310]? = some (.cells #[.bool a0_0, (.slice A0_1 l0_1.length c0_1), (.slice A0_2 l0_2.length c0_2), .bool a0_3, (.slice A0_4 l0_4.length c0_4), (.slice A0_5 l0_5.length c0_5)] 34 (0, 0))) ∧ Aside0 (wc.heap[gb311]? = some (.cells #[.int .i32 0, .int .i32 0] 25 (0, 0))) ∧ Aside0 (wc.heap[gb321]? = some (.cells #[.bool t313, (.slice Ao26 t314.length co26), (.slice Ao27 t317.length co27)] 32 (0, 0))) ∧ Aside0 (wc.heap[gb330]? = some (.cells #[.bool t322, (.slice Ao36 t323.length co36), (.slice Ao37 t326.length co37)] 32 (0, 0))) ∧ Aside0 (wc.heap[gb340]? = some (.cells #[.bool t332, (.slice (some ad344) t333.length co48), (.slice (some ad343) t336.length co49)] 32 (0, 0))) ∧ Aside0 (wc.heap[gb345]? = some (.cells #[.int .i32 (wrap32 (rd t336 0)), .int .i32 x346001_62] 25 (0, 0))) ∧ Aside0 (Below w.heap.size w wc))
     case first =>
      have H := HC63.out
      clear HC63
      by_cases c74 : t332 = true
      ·
       subst c74
       have H1 : (rotor_Find.j2 kj19 a0_0 l0_1 l0_2 a0_3 l0_4 l0_5 (wrap32 (rd t336 0)) (wrap32 (-(wrap32 (rd t333 0))))) = some (r1, r2, r3) := by rw [if_pos rfl] at H; exact H
       clear H
       have H := H1
       clear H1
       have H' := Aside0.mk H
       clear H
       have hnb75 := NB345_310.out
       have hnc75 := NB310_345.out
       have hnb76 := NB345_311.out
       have hnc76 := NB311_345.out
       have hnb77 := NB345_321.out
       have hnc77 := NB321_345.out
       have hnb78 := NB345_330.out
       have hnc78 := NB330_345.out
       have hnb79 := NB345_340.out
       have hnc79 := NB340_345.out
       have hcz80_0 : w65.cell? ⟨gb345, 0, none⟩ = some (.int .i32 0) := (bC BK345.out 0).trans rfl
       have hcz80_1 : w65.cell? ⟨gb345, 1, none⟩ = some (.int .i32 0) := (bC BK345.out 1).trans rfl
       have hfz80_0 := bZ BK345.out 0
       have hfz80_1 := bZ BK345.out 1
       go_wp2
       go_meet
       case rel => exact ⟨_, (wrap32 (-(wrap32 (rd t333 0)))), H', ⟨by have := HJ1.out; have := HJ19.out; first | omega | exact Nat.le_refl _⟩, ⟨by (with_reducible repeat (first | apply Kd.R_alloc | apply Kd.R_drewN | apply Kd.R_drew)); exact Kd.R_mono (Kd.R_far (p := ⟨gb345, 1, none⟩) (Kd.R_far (p := ⟨gb345, 1, none⟩) (Kd.R_far (p := ⟨gb345, 0, none⟩) (Kd.R_types HO_322001.out BK345.out (by decide)) (fun _ hk => hk.2) (.int .i32 (wrap32 (rd t336 0)))) (fun _ hk => hk.2) (.int .i32 (wrap32 (rd t333 0)))) (fun _ hk => hk.2) (.int .i32 (wrap32 (-(wrap32 (rd t333 0)))))) (fun _ hk => ⟨hk.1.1, ⟨hk.1.2.1, ⟨hk.1.2.2.1, ⟨hk.1.2.2.2.1, hk.1.2.2.2.2⟩⟩⟩⟩)⟩, ⟨by (with_reducible repeat (first | apply Kd.R_alloc | apply Kd.R_drewN | apply Kd.R_drew)); exact Kd.R_mono (Kd.R_far (p := ⟨gb345, 1, none⟩) (Kd.R_far (p := ⟨gb345, 1, none⟩) (Kd.R_far (p := ⟨gb345, 0, none⟩) (Kd.R_types HO_322002.out BK345.out (by decide)) (fun _ hk => hk.2) (.int .i32 (wrap32 (rd t336 0)))) (fun _ hk => hk.2) (.int .i32 (wrap32 (rd t333 0)))) (fun _ hk => hk.2) (.int .i32 (wrap32 (-(wrap32 (rd t333 0)))))) (fun _ hk => ⟨hk.1.1, ⟨hk.1.2.1, ⟨hk.1.2.2.1, ⟨hk.1.2.2.2.1, hk.1.2.2.2.2⟩⟩⟩⟩)⟩, ⟨by (with_reducible repeat (first | apply Kd.R_alloc | apply Kd.R_drewN | apply Kd.R_drew)); exact Kd.R_mono (Kd.R_far (p := ⟨gb345, 1, none⟩) (Kd.R_far (p := ⟨gb345, 1, none⟩) (Kd.R_far (p := ⟨gb345, 0, none⟩) (Kd.R_types HO_331001.out BK345.out (by decide)) (fun _ hk => hk.2) (.int .i32 (wrap32 (rd t336 0)))) (fun _ hk => hk.2) (.int .i32 (wrap32 (rd t333 0)))) (fun _ hk => hk.2) (.int .i32 (wrap32 (-(wrap32 (rd t333 0)))))) (fun _ hk => ⟨hk.1.1, ⟨hk.1.2.1, ⟨hk.1.2.2.1, ⟨hk.1.2.2.2.1, hk.1.2.2.2.2⟩⟩⟩⟩)⟩, ⟨by (with_reducible repeat (first | apply Kd.R_alloc | apply Kd.R_drewN | apply Kd.R_drew)); exact Kd.R_mono (Kd.R_far (p := ⟨gb345, 1, none⟩) (Kd.R_far (p := ⟨gb345, 1, none⟩) (Kd.R_far (p := ⟨gb345, 0, none⟩) (Kd.R_types HO_331002.out BK345.out (by decide)) (fun _ hk => hk.2) (.int .i32 (wrap32 (rd t336 0)))) (fun _ hk => hk.2) (.int .i32 (wrap32 (rd t333 0)))) (fun _ hk => hk.2) (.int .i32 (wrap32 (-(wrap32 (rd t333 0)))))) (fun _ hk => ⟨hk.1.1, ⟨hk.1.2.1, ⟨hk.1.2.2.1, ⟨hk.1.2.2.2.1, hk.1.2.2.2.2⟩⟩⟩⟩)⟩, ⟨by (with_reducible repeat (first | apply Kd.R_alloc | apply Kd.R_drewN | apply Kd.R_drew)); exact Kd.R_mono (Kd.R_far (p := ⟨gb345, 1, none⟩) (Kd.R_far (p := ⟨gb345, 1, none⟩) (Kd.R_far (p := ⟨gb345, 0, none⟩) (Kd.R_types HO_341001.out BK345.out (by decide)) (fun _ hk => hk.2) (.int .i32 (wrap32 (rd t336 0)))) (fun _ hk => hk.2) (.int .i32 (wrap32 (rd t333 0)))) (fun _ hk => hk.2) (.int .i32 (wrap32 (-(wrap32 (rd t333 0)))))) (fun _ hk => ⟨hk.1.1, ⟨hk.1.2.1, ⟨hk.1.2.2.1, ⟨hk.1.2.2.2.1, hk.1.2.2.2.2⟩⟩⟩⟩)⟩, ⟨by (with_reducible repeat (first | apply Kd.R_alloc | apply Kd.R_drewN | apply Kd.R_drew)); exact Kd.R_mono (Kd.R_far (p := ⟨gb345, 1, none⟩) (Kd.R_far (p := ⟨gb345, 1, none⟩) (Kd.R_far (p := ⟨gb345, 0, none⟩) (Kd.R_types HO_341002.out BK345.out (by decide)) (fun _ hk => hk.2) (.int .i32 (wrap32 (rd t336 0)))) (fun _ hk => hk.2) (.int .i32 (wrap32 (rd t333 0)))) (fun _ hk => hk.2) (.int .i32 (wrap32 (-(wrap32 (rd t333 0)))))) (fun _ hk => ⟨hk.1.1, ⟨hk.1.2.1, ⟨hk.1.2.2.1, ⟨hk.1.2.2.2.1, hk.1.2.2.2.2⟩⟩⟩⟩)⟩, ⟨by (with_reducible repeat (first | refine bN ?_ _ | refine bW ?_ | refine bA ?_ _)); refine bF ?_ NB310_345.out _; (with_reducible repeat (first | refine bN ?_ _ | refine bW ?_ | refine bA ?_ _)); refine bF ?_ NB310_345.out _; (with_reducible repeat (first | refine bN ?_ _ | refine bW ?_ | refine bA ?_ _)); refine bF ?_ NB310_345.out _; (with_reducible repeat (first | refine bN ?_ _ | refine bW ?_ | refine bA ?_ _)); exact BK310.out⟩, ⟨by (with_reducible repeat (first | refine bN ?_ _ | refine bW ?_ | refine bA ?_ _)); refine bF ?_ NB311_345.out _; (with_reducible repeat (first | refine bN ?_ _ | refine bW ?_ | refine bA ?_ _)); refine bF ?_ NB311_345.out _; (with_reducible repeat (first | refine bN ?_ _ | refine bW ?_ | refine bA ?_ _)); refine bF ?_ NB311_345.out _; (with_reducible repeat (first | refine bN ?_ _ | refine bW ?_ | refine bA ?_ _)); exact BK311.out⟩, ⟨by (with_reducible repeat (first | refine bN ?_ _ | refine bW ?_ | refine bA ?_ _)); refine bF ?_ NB321_345.out _; (with_reducible repeat (first | refine bN ?_ _ | refine bW ?_ | refine bA ?_ _)); refine bF ?_ NB321_345.out _; (with_reducible repeat (first | refine bN ?_ _ | refine bW ?_ | refine bA ?_ _)); refine bF ?_ NB321_345.out _; (with_reducible repeat (first | refine bN ?_ _ | refine bW ?_ | refine bA ?_ _)); exact BK321.out⟩, ⟨by (with_reducible repeat (first | refine bN ?_ _ | refine bW ?_ | refine bA ?_ _)); refine bF ?_ NB330_345.out _; (with_reducible repeat (first | refine bN ?_ _ | refine bW ?_ | refine bA ?_ _)); refine bF ?_ NB330_345.out _; (with_reducible repeat (first | refine bN ?_ _ | refine bW ?_ | refine bA ?_ _)); refine bF ?_ NB330_345.out _; (with_reducible repeat (first | refine bN ?_ _ | refine bW ?_ | refine bA ?_ _)); exact BK330.out⟩, ⟨by (with_reducible repeat (first | refine bN ?_ _ | refine bW ?_ | refine bA ?_ _)); refine bF ?_ NB340_345.out _; (with_reducible repeat (first | refine bN ?_ _ | refine bW ?_ | refine bA ?_ _)); refine bF ?_ NB340_345.out _; (with_reducible repeat (first | refine bN ?_ _ | refine bW ?_ | refine bA ?_ _)); refine bF ?_ NB340_345.out _; (with_reducible repeat (first | refine bN ?_ _ | refine bW ?_ | refine bA ?_ _)); exact BK340.out⟩, ⟨by (with_reducible repeat (first | refine bN ?_ _ | refine bW ?_ | refine bA ?_ _)); refine blk_put (cs := #[.int .i32 (wrap32 (rd t336 0)), .int .i32 (wrap32 (rd t333 0))]) ?_ 1 _ rfl; (with_reducible repeat (first | refine bN ?_ _ | refine bW ?_ | refine bA ?_ _)); refine blk_put (cs := #[.int .i32 (wrap32 (rd t336 0)), .int .i32 0]) ?_ 1 _ rfl; (with_reducible repeat (first | refine bN ?_ _ | refine bW ?_ | refine bA ?_ _)); refine blk_put (cs := #[.int .i32 0, .int .i32 0]) ?_ 0 _ rfl; (with_reducible repeat (first | refine bN ?_ _ | refine bW ?_ | refine bA ?_ _)); exact BK345.out⟩, ⟨by repeat (first | (with_reducible first | exact HB.out | apply wA | apply wN | apply wD | refine wS ?_ GE310.out | refine wS ?_ GE311.out | refine wS ?_ GE321.out | refine wS ?_ GE330.out | refine wS ?_ GE340.out | refine wS ?_ GE345.out) | exact HB.out)⟩⟩
      replace c74 := Bool.eq_false_iff.mpr c74
      subst c74
      have H1 : (rotor_Find.j2 kj19 a0_0 l0_1 l0_2 a0_3 l0_4 l0_5 (wrap32 (rd t336 0)) (wrap32 (rd t333 0))) = some (r1, r2, r3) := by rw [if_neg (show ¬ (false = true) by decide)] at H; exact H
      clear H
      have H := H1
      clear H1
      have H' := Aside0.mk H
      clear H
      go_wp2
      go_meet
      case rel => exact ⟨_, (wrap32 (rd t333 0)), H', ⟨by have := HJ1.out; have := HJ19.out; first | omega | exact Nat.le_refl _⟩, ⟨by (with_reducible repeat (first | apply Kd.R_alloc | apply Kd.R_drewN | apply Kd.R_drew)); exact Kd.R_mono (Kd.R_far (p := ⟨gb345, 1, none⟩) (Kd.R_far (p := ⟨gb345, 0, none⟩) (Kd.R_types HO_322001.out BK345.out (by decide)) (fun _ hk => hk.2) (.int .i32 (wrap32 (rd t336 0)))) (fun _ hk => hk.2) (.int .i32 (wrap32 (rd t333 0)))) (fun _ hk => ⟨hk.1.1, ⟨hk.1.2.1, ⟨hk.1.2.2.1, ⟨hk.1.2.2.2.1, hk.1.2.2.2.2⟩⟩⟩⟩)⟩, ⟨by (with_reducible repeat (first | apply Kd.R_alloc | apply Kd.R_drewN | apply Kd.R_drew)); exact Kd.R_mono (Kd.R_far (p := ⟨gb345, 1, none⟩) (Kd.R_far (p := ⟨gb345, 0, none⟩) (Kd.R_types HO_322002.out BK345.out (by decide)) (fun _ hk => hk.2) (.int .i32 (wrap32 (rd t336 0)))) (fun _ hk => hk.2) (.int .i32 (wrap32 (rd t333 0)))) (fun _ hk => ⟨hk.1.1, ⟨hk.1.2.1, ⟨hk.1.2.2.1, ⟨hk.1.2.2.2.1, hk.1.2.2.2.2⟩⟩⟩⟩)⟩, ⟨by (with_reducible repeat (first | apply Kd.R_alloc | apply Kd.R_drewN | apply Kd.R_drew)); exact Kd.R_mono (Kd.R_far (p := ⟨gb345, 1, none⟩) (Kd.R_far (p := ⟨gb345, 0, none⟩) (Kd.R_types HO_331001.out BK345.out (by decide)) (fun _ hk => hk.2) (.int .i32 (wrap32 (rd t336 0)))) (fun _ hk => hk.2) (.int .i32 (wrap32 (rd t333 0)))) (fun _ hk => ⟨hk.1.1, ⟨hk.1.2.1, ⟨hk.1.2.2.1, ⟨hk.1.2.2.2.1, hk.1.2.2.2.2⟩⟩⟩⟩)⟩, ⟨by (with_reducible repeat (first | apply Kd.R_alloc | apply Kd.R_drewN | apply Kd.R_drew)); exact Kd.R_mono (Kd.R_far (p := ⟨gb345, 1, none⟩) (Kd.R_far (p := ⟨gb345, 0, none⟩) (Kd.R_types HO_331002.out BK345.out (by decide)) (fun _ hk => hk.2) (.int .i32 (wrap32 (rd t336 0)))) (fun _ hk => hk.2) (.int .i32 (wrap32 (rd t333 0)))) (fun _ hk => ⟨hk.1.1, ⟨hk.1.2.1, ⟨hk.1.2.2.1, ⟨hk.1.2.2.2.1, hk.1.2.2.2.2⟩⟩⟩⟩)⟩, ⟨by (with_reducible repeat (first | apply Kd.R_alloc | apply Kd.R_drewN | apply Kd.R_drew)); exact Kd.R_mono (Kd.R_far (p := ⟨gb345, 1, none⟩) (Kd.R_far (p := ⟨gb345, 0, none⟩) (Kd.R_types HO_341001.out BK345.out (by decide)) (fun _ hk => hk.2) (.int .i32 (wrap32 (rd t336 0)))) (fun _ hk => hk.2) (.int .i32 (wrap32 (rd t333 0)))) (fun _ hk => ⟨hk.1.1, ⟨hk.1.2.1, ⟨hk.1.2.2.1, ⟨hk.1.2.2.2.1, hk.1.2.2.2.2⟩⟩⟩⟩)⟩, ⟨by (with_reducible repeat (first | apply Kd.R_alloc | apply Kd.R_drewN | apply Kd.R_drew)); exact Kd.R_mono (Kd.R_far (p := ⟨gb345, 1, none⟩) (Kd.R_far (p := ⟨gb345, 0, none⟩) (Kd.R_types HO_341002.out BK345.out (by decide)) (fun _ hk => hk.2) (.int .i32 (wrap32 (rd t336 0)))) (fun _ hk => hk.2) (.int .i32 (wrap32 (rd t333 0)))) (fun _ hk => ⟨hk.1.1, ⟨hk.1.2.1, ⟨hk.1.2.2.1, ⟨hk.1.2.2.2.1, hk.1.2.2.2.2⟩⟩⟩⟩)⟩, ⟨by (with_reducible repeat (first | refine bN ?_ _ | refine bW ?_ | refine bA ?_ _)); refine bF ?_ NB310_345.out _; (with_reducible repeat (first | refine bN ?_ _ | refine bW ?_ | refine bA ?_ _)); refine bF ?_ NB310_345.out _; (with_reducible repeat (first | refine bN ?_ _ | refine bW ?_ | refine bA ?_ _)); exact BK310.out⟩, ⟨by (with_reducible repeat (first | refine bN ?_ _ | refine bW ?_ | refine bA ?_ _)); refine bF ?_ NB311_345.out _; (with_reducible repeat (first | refine bN ?_ _ | refine bW ?_ | refine bA ?_ _)); refine bF ?_ NB311_345.out _; (with_reducible repeat (first | refine bN ?_ _ | refine bW ?_ | refine bA ?_ _)); exact BK311.out⟩, ⟨by (with_reducible repeat (first | refine bN ?_ _ | refine bW ?_ | refine bA ?_ _)); refine bF ?_ NB321_345.out _; (with_reducible repeat (first | refine bN ?_ _ | refine bW ?_ | refine bA ?_ _)); refine bF ?_ NB321_345.out _; (with_reducible repeat (first | refine bN ?_ _ | refine bW ?_ | refine bA ?_ _)); exact BK321.out⟩, ⟨by (with_reducible repeat (first | refine bN ?_ _ | refine bW ?_ | refine bA ?_ _)); refine bF ?_ NB330_345.out _; (with_reducible repeat (first | refine bN ?_ _ | refine bW ?_ | refine bA ?_ _)); refine bF ?_ NB330_345.out _; (with_reducible repeat (first | refine bN ?_ _ | refine bW ?_ | refine bA ?_ _)); exact BK330.out⟩, ⟨by (with_reducible repeat (first | refine bN ?_ _ | refine bW ?_ | refine bA ?_ _)); refine bF ?_ NB340_345.out _; (with_reducible repeat (first | refine bN ?_ _ | refine bW ?_ | refine bA ?_ _)); refine bF ?_ NB340_345.out _; (with_reducible repeat (first | refine bN ?_ _ | refine bW ?_ | refine bA ?_ _)); exact BK340.out⟩, ⟨by (with_reducible repeat (first | refine bN ?_ _ | refine bW ?_ | refine bA ?_ _)); refine blk_put (cs := #[.int .i32 (wrap32 (rd t336 0)), .int .i32 0]) ?_ 1 _ rfl; (with_reducible repeat (first | refine bN ?_ _ | refine bW ?_ | refine bA ?_ _)); refine blk_put (cs := #[.int .i32 0, .int .i32 0]) ?_ 0 _ rfl; (with_reducible repeat (first | refine bN ?_ _ | refine bW ?_ | refine bA ?_ _)); exact BK345.out⟩, ⟨by repeat (first | (with_reducible first | exact HB.out | apply wA | apply wN | apply wD | refine wS ?_ GE310.out | refine wS ?_ GE311.out | refine wS ?_ GE321.out | refine wS ?_ GE330.out | refine wS ?_ GE340.out | refine wS ?_ GE345.out) | exact HB.out)⟩⟩
     case' rest => skip
     clear HC63
     try clear c1
     try clear c2
     try clear p2
     try clear c3
     try clear p3
     try clear q3
     try clear hx3
     try clear qi3
     try clear c4
     try clear c5
     try clear c6
     try clear c6b0
     try clear c6b1
     try clear c7
     try clear c7b0
     try clear c7b1
     try clear c8
     try clear c8b0
     try clear c8b1
     try clear c9
     try clear c9b0
     try clear c9b1
     try clear c10
     try clear c14
     try clear c18
     try clear c18b0
     try clear c18b1
     try clear c23
     try clear c24
     try clear c28
     try clear c32
     try clear p32
     try clear c33
     try clear c34
     try clear p34
     try clear q34
     try clear hx34
     try clear qi34
     try clear c38
     try clear c39
     try clear c40
     try clear c41
     try clear c42
     try clear c43
     try clear c44
     try clear c45
     try clear c46
     try clear c50
     try clear c50b0
     try clear c50b1
     try clear c51
     try clear c51b0
     try clear c51b1
     try clear c52
     try clear c52b0
     try clear c52b1
     try clear c53
     try clear c53b0
     try clear c54
     try clear c54b0
     try clear c54b1
     try clear c55
     try clear c56
     try clear c57
     try clear c58
     try clear c60
     try clear c61
     try clear c61b0
     try clear c61b1
     try clear c62
     try clear c62b0
     try clear c62b1
     try clear c68
     try clear c69
     try clear c70
     try clear c71
     try clear c72
     try clear c74
     try clear c75
     try clear c76
     try clear c77
     try clear c78
     try clear c79
     try clear hcz11_0
     try clear hcz11_1
     try clear hcz11_2
     try clear hcz11_3
     try clear hcz11_4
     try clear hcz11_5
     try clear hcz13_0
     try clear hcz13_1
     try clear hcz13_2
     try clear hcz13_3
     try clear hcz13_4
     try clear hcz13_5
     try clear hcz25_0
     try clear hcz25_1
     try clear hcz25_2
     try clear hcz29_0
     try clear hcz29_1
     try clear hcz29_2
     try clear hcz29_3
     try clear hcz29_4
     try clear hcz29_5
     try clear hcz35_0
     try clear hcz35_1
     try clear hcz35_2
     try clear hcz39_0
     try clear hcz39_1
     try clear hcz39_2
     try clear hcz39_3
     try clear hcz39_4
     try clear hcz39_5
     try clear hcz40_0
     try clear hcz40_1
     try clear hcz40_2
     try clear hcz47_0
     try clear hcz47_1
     try clear hcz47_2
     try clear hcz59_0
     try clear hcz59_1
     try clear hcz59_2
     try clear hcz73_0
     try clear hcz73_1
     try clear hcz73_2
     try clear hcz80_0
     try clear hcz80_1
     try clear hfz11_0
     try clear hfz11_1
     try clear hfz11_2
     try clear hfz11_3
     try clear hfz11_4
     try clear hfz11_5
     try clear hfz13_0
     try clear hfz13_1
     try clear hfz13_2
     try clear hfz13_3
     try clear hfz13_4
     try clear hfz13_5
     try clear hfz25_0
     try clear hfz25_1
     try clear hfz25_2
     try clear hfz29_0
     try clear hfz29_1
     try clear hfz29_2
     try clear hfz29_3
     try clear hfz29_4
     try clear hfz29_5
     try clear hfz35_0
     try clear hfz35_1
     try clear hfz35_2
     try clear hfz39_0
     try clear hfz39_1
     try clear hfz39_2
     try clear hfz39_3
     try clear hfz39_4
     try clear hfz39_5
     try clear hfz40_0
     try clear hfz40_1
     try clear hfz40_2
     try clear hfz47_0
     try clear hfz47_1
     try clear hfz47_2
     try clear hfz59_0
     try clear hfz59_1
     try clear hfz59_2
     try clear hfz73_0
     try clear hfz73_1
     try clear hfz73_2
     try clear hfz80_0
     try clear hfz80_1
     try clear hx341_0
     try clear hx342_0
     try clear hx343_0
     try clear hx344_0
     try clear p2
     try clear p3
     try clear p34
     try clear p341
     try clear p342
     try clear p343
     try clear p344
     try clear q3
     try clear q34
     try clear q341
     try clear q342
     try clear q343
     try clear q344
     obtain ⟨kq, x346001_62, HA, HJ62, HO_322001, HO_322002, HO_331001, HO_331002, HO_341001, HO_341002, BK310, BK311, BK321, BK330, BK340, BK345, HB⟩ := hcut
     cases kq with
     | zero => exact absurd HA.out (by simp [rotor_Find.j2])
     | succ kj62 =>
      have H := HA.out
      clear HA
      simp only [rotor_Find.j2] at H
      replace H := Option.bind_eq_some_iff.mp H
      obtain ⟨t346, A810, H⟩ := H
      replace H : (if t346 = 0 then ((rotor_number.f (wrap32 (rd t336 0)) x346001_62).bind fun bt347 => ((gauss_Same.f kj62 bt347.1 bt347.2.1 bt347.2.2.1 bt347.2.2.2.1 bt347.2.2.2.2.1 bt347.2.2.2.2.2 a0_0 l0_1 l0_2 a0_3 l0_4 l0_5).bind fun t361 => (if t361 = true then (some ((wrap32 (rd t336 0)), x346001_62, true)) else (none)))) else (none)) = some (r1, r2, r3) := H
      have A81 := Aside0.mk A810
      clear A810
      by_cases c82 : t346 = 0
      ·
       rw [if_pos c82] at H
       have c82b0 : (t346 == 0) = true := beq_iff_eq.mpr c82
       have c82b1 : (t346 != 0) = false := bne_eq_false_iff_eq.mpr c82
       clear c82
       replace H := Option.bind_eq_some_iff.mp H
       obtain ⟨⟨t347, t348, t351, t354, t355, t358⟩, A830, H⟩ := H
       replace H : ((gauss_Same.f kj62 t347 t348 t351 t354 t355 t358 a0_0 l0_1 l0_2 a0_3 l0_4 l0_5).bind fun t361 => (if t361 = true then (some ((wrap32 (rd t336 0)), x346001_62, true)) else (none))) = some (r1, r2, r3) := H
       have A83 := Aside0.mk A830
       clear A830
       replace H := Option.bind_eq_some_iff.mp H
       obtain ⟨t361, A840, H⟩ := H
       replace H : (if t361 = true then (some ((wrap32 (rd t336 0)), x346001_62, true)) else (none)) = some (r1, r2, r3) := H
       have A84 := Aside0.mk A840
       clear A840
       by_cases c85 : t361 = true
       ·
        subst c85
        have H1 : (some ((wrap32 (rd t336 0)), x346001_62, true)) = some (r1, r2, r3) := by rw [if_pos rfl] at H; exact H
        clear H
        have H := H1
        clear H1
        simp only [Option.some.injEq, Prod.mk.injEq] at H
        obtain ⟨rfl, rfl, rfl⟩ := H
        try go_wp2
        have n0_ := aZ (Kd.R_drew HO_322001.out)
        have n1_ := aZ (Kd.R_drew HO_322002.out)
        have n2_ := aZ (Kd.R_drew HO_331001.out)
        have n3_ := aZ (Kd.R_drew HO_331002.out)
        have n4_ := aZ (Kd.R_drew HO_341001.out)
        have n5_ := aZ (Kd.R_drew HO_341002.out)
        have n6_ := aZ (bW BK310.out)
        have n7_ := aZ (bW BK311.out)
        have n8_ := aZ (bW BK321.out)
        have n9_ := aZ (bW BK330.out)
        have n10_ := aZ (bW BK340.out)
        have n11_ := aZ (bW BK345.out)
        have n12_ := aZ (wD HB.out)
        clear HO_322001
        clear HO_322002
        clear HO_331001
        clear HO_331002
        clear HO_341001
        clear HO_341002
        clear BK310
        clear BK311
        clear BK321
        clear BK330
        clear BK340
        clear BK345
        clear HB
        have HO_322001 := n0_
        have HO_322002 := n1_
        have HO_331001 := n2_
        have HO_331002 := n3_
        have HO_341001 := n4_
        have HO_341002 := n5_
        have BK310 := n6_
        have BK311 := n7_
        have BK321 := n8_
        have BK330 := n9_
        have BK340 := n10_
        have BK345 := n11_
        have HB := n12_
        clear n0_ n1_ n2_ n3_ n4_ n5_ n6_ n7_ n8_ n9_ n10_ n11_ n12_
        refine start_ (n := 10) (S := fun w' => w'.cell? ⟨gb345, 0, none⟩ = some (.int .i32 (wrap32 (rd t336 0))) ∧ w'.cell? ⟨gb345, 1, none⟩ = some (.int .i32 x346001_62) ∧ w'.cell? ⟨gb310, 0, none⟩ = some (.bool a0_0) ∧ w'.cell? ⟨gb310, 1, none⟩ = some (.slice A0_1 l0_1.length c0_1) ∧ w'.cell? ⟨gb310, 2, none⟩ = some (.slice A0_2 l0_2.length c0_2) ∧ w'.cell? ⟨gb310, 3, none⟩ = some (.bool a0_3) ∧ w'.cell? ⟨gb310, 4, none⟩ = some (.slice A0_4 l0_4.length c0_4) ∧ w'.cell? ⟨gb310, 5, none⟩ = some (.slice A0_5 l0_5.length c0_5)) (ds := []) #[false, false, false, false, false, false, false, false, false, false] (by kernel_rfl) rfl rfl ⟨(bC BK345.out 0).trans rfl, (bC BK345.out 1).trans rfl, (bC BK310.out 0).trans rfl, (bC BK310.out 1).trans rfl, (bC BK310.out 2).trans rfl, (bC BK310.out 3).trans rfl, (bC BK310.out 4).trans rfl, (bC BK310.out 5).trans rfl⟩ (fun hHeld => ?_); refine with_tabW rotor_Find.tab13 rotor_Find.bits13 (fun HT_ HW_ => ?_)
        generalize wc.drew = w86 at HO_322001 HO_322002 HO_331001 HO_331002 HO_341001 HO_341002 BK310 BK311 BK321 BK330 BK340 BK345 HB hHeld ⊢
        refine take_ (i := 0) (N := some 107) (v := ?_) (a' := ?_) #[true, false, false, false, false, false, false, false, false, false] rfl rfl (take_ofW HT_.out HW_.out (by kernel_rfl)) (fun _ _ _ h => h) (Or.inl ⟨by rfl, ?_⟩) hHeld ?_ ?_
        rotate_left
        ·
         rintro w' ⟨s0, s1, s2, s3, s4, s5, s6, s7⟩
         go_simp
         with_reducible rfl
        rotate_left
        ·
         simp only [Act.put, List.setIfInBounds_toArray, List.set_cons_zero, List.set_cons_succ, i64_w, i32_w]
         rfl
        refine one_ (i := 1) (N := some 108) #[true, true, false, false, false, false, false, false, false, false] rfl rfl (one_of HT_.out (by kernel_rfl)) (by decide) (fun K hK => ?_)
        refine goes_ Try.func23 (by kernel_rfl) rfl #[.agg #[.int .i32 (wrap32 (rd t336 0)), .int .i32 x346001_62]] (by rfl) rfl rfl (by (try simp only [List.map_toArray, List.map_cons, List.map_nil]); first | done | rfl | (simp only [List.length_drop, List.length_take]; rfl)) ?_
        with_reducible refine (rotor_Check.calls kj62 (wrap32 (rd t336 0)) x346001_62 t346 _ A81.out).mono ?_
        rintro e w87 ⟨rfl, hb⟩
        refine ⟨_, rfl, ?_⟩
        have n0_ := aZ (Kd.R_below (by (with_reducible repeat (first | apply Kd.R_alloc | apply Kd.R_drewN | apply Kd.R_drew)); exact HO_322001.out) hb)
        have n1_ := aZ (Kd.R_below (by (with_reducible repeat (first | apply Kd.R_alloc | apply Kd.R_drewN | apply Kd.R_drew)); exact HO_322002.out) hb)
        have n2_ := aZ (Kd.R_below (by (with_reducible repeat (first | apply Kd.R_alloc | apply Kd.R_drewN | apply Kd.R_drew)); exact HO_331001.out) hb)
        have n3_ := aZ (Kd.R_below (by (with_reducible repeat (first | apply Kd.R_alloc | apply Kd.R_drewN | apply Kd.R_drew)); exact HO_331002.out) hb)
        have n4_ := aZ (Kd.R_below (by (with_reducible repeat (first | apply Kd.R_alloc | apply Kd.R_drewN | apply Kd.R_drew)); exact HO_341001.out) hb)
        have n5_ := aZ (Kd.R_below (by (with_reducible repeat (first | apply Kd.R_alloc | apply Kd.R_drewN | apply Kd.R_drew)); exact HO_341002.out) hb)
        have n6_ := aZ (bB (g := gb310) (o := .cells #[.bool a0_0, .slice A0_1 l0_1.length c0_1, .slice A0_2 l0_2.length c0_2, .bool a0_3, .slice A0_4 l0_4.length c0_4, .slice A0_5 l0_5.length c0_5] 34 (0, 0)) (by (with_reducible repeat (first | refine bN ?_ _ | refine bW ?_ | refine bA ?_ _)); exact BK310.out) hb)
        have n7_ := aZ (bB (g := gb311) (o := .cells #[.int .i32 0, .int .i32 0] 25 (0, 0)) (by (with_reducible repeat (first | refine bN ?_ _ | refine bW ?_ | refine bA ?_ _)); exact BK311.out) hb)
        have n8_ := aZ (bB (g := gb321) (o := .cells #[.bool t313, .slice Ao26 t314.length co26, .slice Ao27 t317.length co27] 32 (0, 0)) (by (with_reducible repeat (first | refine bN ?_ _ | refine bW ?_ | refine bA ?_ _)); exact BK321.out) hb)
        have n9_ := aZ (bB (g := gb330) (o := .cells #[.bool t322, .slice Ao36 t323.length co36, .slice Ao37 t326.length co37] 32 (0, 0)) (by (with_reducible repeat (first | refine bN ?_ _ | refine bW ?_ | refine bA ?_ _)); exact BK330.out) hb)
        have n10_ := aZ (bB (g := gb340) (o := .cells #[.bool t332, .slice (some ad344) t333.length co48, .slice (some ad343) t336.length co49] 32 (0, 0)) (by (with_reducible repeat (first | refine bN ?_ _ | refine bW ?_ | refine bA ?_ _)); exact BK340.out) hb)
        have n11_ := aZ (bB (g := gb345) (o := .cells #[.int .i32 (wrap32 (rd t336 0)), .int .i32 x346001_62] 25 (0, 0)) (by (with_reducible repeat (first | refine bN ?_ _ | refine bW ?_ | refine bA ?_ _)); exact BK345.out) hb)
        have n12_ := aZ (wP (by repeat (first | (with_reducible first | exact HB.out | apply wA | apply wN | apply wD | refine wS ?_ GE310.out | refine wS ?_ GE311.out | refine wS ?_ GE321.out | refine wS ?_ GE330.out | refine wS ?_ GE340.out | refine wS ?_ GE345.out) | exact HB.out)) hb)
        clear HO_322001
        clear HO_322002
        clear HO_331001
        clear HO_331002
        clear HO_341001
        clear HO_341002
        clear BK310
        clear BK311
        clear BK321
        clear BK330
        clear BK340
        clear BK345
        clear HB
        have HO_322001 := n0_
        have HO_322002 := n1_
        have HO_331001 := n2_
        have HO_331002 := n3_
        have HO_341001 := n4_
        have HO_341002 := n5_
        have BK310 := n6_
        have BK311 := n7_
        have BK321 := n8_
        have BK330 := n9_
        have BK340 := n10_
        have BK345 := n11_
        have HB := n12_
        clear n0_ n1_ n2_ n3_ n4_ n5_ n6_ n7_ n8_ n9_ n10_ n11_ n12_
        (try clear hb)
        (try clear hb2)
        (try clear hk)
        (try clear hi)
        refine hK.out _ _ ⟨(bC BK345.out 0).trans rfl, (bC BK345.out 1).trans rfl, (bC BK310.out 0).trans rfl, (bC BK310.out 1).trans rfl, (bC BK310.out 2).trans rfl, (bC BK310.out 3).trans rfl, (bC BK310.out 4).trans rfl, (bC BK310.out 5).trans rfl⟩ (fun hHeld => ?_)
        clear hK K
        refine norm_ (a' := ?_) ?_ ?_
        rotate_left
        ·
         show Act.put _ (some 108) _ = _
         simp only [Act.put, List.setIfInBounds_toArray, List.set_cons_zero, List.set_cons_succ, i64_w, i32_w]
         rfl
        refine pure_ (i := 2) (N := some 109) (v := ?_) (a' := ?_) #[true, true, true, false, false, false, false, false, false, false] rfl rfl (any_of HT_.out (by kernel_rfl)) (fun _ _ _ h => h) (Or.inl ⟨by rfl, ?_⟩) ?_ ?_
        rotate_left
        ·
         intro w'
         go_simp
         with_reducible rfl
        rotate_left
        ·
         simp only [Act.put, List.setIfInBounds_toArray, List.set_cons_zero, List.set_cons_succ, i64_w, i32_w]
         rfl
        refine pure_ (i := 3) (N := some 110) (v := ?_) (a' := ?_) #[true, true, true, true, false, false, false, false, false, false] rfl rfl (any_of HT_.out (by kernel_rfl)) (fun _ _ _ h => h) (Or.inl ⟨by rfl, ?_⟩) ?_ ?_
        rotate_left
        ·
         intro w'
         go_simp
         with_reducible rfl
        rotate_left
        ·
         simp only [Act.put, List.setIfInBounds_toArray, List.set_cons_zero, List.set_cons_succ, i64_w, i32_w]
         rfl
        refine take_ (i := 4) (N := some 111) (v := ?_) (a' := ?_) #[true, true, true, true, true, false, false, false, false, false] rfl rfl (take_ofW HT_.out HW_.out (by kernel_rfl)) (fun _ _ _ h => h) (Or.inl ⟨by rfl, ?_⟩) hHeld ?_ ?_
        rotate_left
        ·
         rintro w' ⟨s0, s1, s2, s3, s4, s5, s6, s7⟩
         go_simp
         with_reducible rfl
        rotate_left
        ·
         simp only [Act.put, List.setIfInBounds_toArray, List.set_cons_zero, List.set_cons_succ, i64_w, i32_w]
         rfl
        refine take_ (i := 6) (N := some 113) (v := ?_) (a' := ?_) #[true, true, true, true, true, false, true, false, false, false] rfl rfl (take_ofW HT_.out HW_.out (by kernel_rfl)) (fun _ _ _ h => h) (Or.inl ⟨by rfl, ?_⟩) hHeld ?_ ?_
        rotate_left
        ·
         rintro w' ⟨s0, s1, s2, s3, s4, s5, s6, s7⟩
         go_simp
         with_reducible rfl
        rotate_left
        ·
         simp only [Act.put, List.setIfInBounds_toArray, List.set_cons_zero, List.set_cons_succ, i64_w, i32_w]
         rfl
        refine one_ (i := 5) (N := some 112) #[true, true, true, true, true, true, true, false, false, false] rfl rfl (one_of HT_.out (by kernel_rfl)) (by decide) (fun K hK => ?_)
        refine goes_ Try.func43 (by kernel_rfl) rfl #[.agg #[.int .i32 (wrap32 (rd t336 0)), .int .i32 x346001_62]] (by rfl) rfl rfl (by (try simp only [List.map_toArray, List.map_cons, List.map_nil]); first | done | rfl | (simp only [List.length_drop, List.length_take]; rfl)) ?_
        with_reducible refine (rotor_number.calls (wrap32 (rd t336 0)) x346001_62 t347 t348 t351 t354 t355 t358 _ A83.out).mono ?_
        rintro e w88 ⟨v349, v352, v356, v359, rfl, ho0, ho1, ho2, ho3, hb⟩
        refine ⟨_, rfl, ?_⟩
        have n0_ := aZ (Kd.R_mono (Kd.R_told (Kd.R_told (Kd.R_told (Kd.R_told (Kd.R_old (by (with_reducible repeat (first | apply Kd.R_alloc | apply Kd.R_drewN | apply Kd.R_drew)); exact HO_322001.out) hb) (Kd.R_base ho0)) (Kd.R_base ho1)) (Kd.R_base ho2)) (Kd.R_base ho3)) (fun _ h_ => h_.1))
        have n1_ := aZ (Kd.R_mono (Kd.R_told (Kd.R_told (Kd.R_told (Kd.R_told (Kd.R_old (by (with_reducible repeat (first | apply Kd.R_alloc | apply Kd.R_drewN | apply Kd.R_drew)); exact HO_322002.out) hb) (Kd.R_base ho0)) (Kd.R_base ho1)) (Kd.R_base ho2)) (Kd.R_base ho3)) (fun _ h_ => h_.1))
        have n2_ := aZ (Kd.R_mono (Kd.R_told (Kd.R_told (Kd.R_told (Kd.R_told (Kd.R_old (by (with_reducible repeat (first | apply Kd.R_alloc | apply Kd.R_drewN | apply Kd.R_drew)); exact HO_331001.out) hb) (Kd.R_base ho0)) (Kd.R_base ho1)) (Kd.R_base ho2)) (Kd.R_base ho3)) (fun _ h_ => h_.1))
        have n3_ := aZ (Kd.R_mono (Kd.R_told (Kd.R_told (Kd.R_told (Kd.R_told (Kd.R_old (by (with_reducible repeat (first | apply Kd.R_alloc | apply Kd.R_drewN | apply Kd.R_drew)); exact HO_331002.out) hb) (Kd.R_base ho0)) (Kd.R_base ho1)) (Kd.R_base ho2)) (Kd.R_base ho3)) (fun _ h_ => h_.1))
        have n4_ := aZ (Kd.R_mono (Kd.R_told (Kd.R_told (Kd.R_told (Kd.R_told (Kd.R_old (by (with_reducible repeat (first | apply Kd.R_alloc | apply Kd.R_drewN | apply Kd.R_drew)); exact HO_341001.out) hb) (Kd.R_base ho0)) (Kd.R_base ho1)) (Kd.R_base ho2)) (Kd.R_base ho3)) (fun _ h_ => h_.1))
        have n5_ := aZ (Kd.R_mono (Kd.R_told (Kd.R_told (Kd.R_told (Kd.R_told (Kd.R_old (by (with_reducible repeat (first | apply Kd.R_alloc | apply Kd.R_drewN | apply Kd.R_drew)); exact HO_341002.out) hb) (Kd.R_base ho0)) (Kd.R_base ho1)) (Kd.R_base ho2)) (Kd.R_base ho3)) (fun _ h_ => h_.1))
        have n6_ := aZ (Kd.R_lower (Kd.R_new' (Kd.R_new' (Kd.R_new' (Kd.R_new' (Kd.R_new' (Kd.R_new' ho0 (Kd.R_lt (by (with_reducible repeat (first | apply Kd.R_alloc | apply Kd.R_drewN | apply Kd.R_drew)); exact HO_322001.out))) (Kd.R_lt (by (with_reducible repeat (first | apply Kd.R_alloc | apply Kd.R_drewN | apply Kd.R_drew)); exact HO_322002.out))) (Kd.R_lt (by (with_reducible repeat (first | apply Kd.R_alloc | apply Kd.R_drewN | apply Kd.R_drew)); exact HO_331001.out))) (Kd.R_lt (by (with_reducible repeat (first | apply Kd.R_alloc | apply Kd.R_drewN | apply Kd.R_drew)); exact HO_331002.out))) (Kd.R_lt (by (with_reducible repeat (first | apply Kd.R_alloc | apply Kd.R_drewN | apply Kd.R_drew)); exact HO_341001.out))) (Kd.R_lt (by (with_reducible repeat (first | apply Kd.R_alloc | apply Kd.R_drewN | apply Kd.R_drew)); exact HO_341002.out))) (wZ (by repeat (first | (with_reducible first | exact HB.out | apply wA | apply wN | apply wD | refine wS ?_ GE310.out | refine wS ?_ GE311.out | refine wS ?_ GE321.out | refine wS ?_ GE330.out | refine wS ?_ GE340.out | refine wS ?_ GE345.out) | exact HB.out))))
        have n7_ := aZ (Kd.R_lower (Kd.R_new' (Kd.R_new' (Kd.R_new' (Kd.R_new' (Kd.R_new' (Kd.R_new' ho1 (Kd.R_lt (by (with_reducible repeat (first | apply Kd.R_alloc | apply Kd.R_drewN | apply Kd.R_drew)); exact HO_322001.out))) (Kd.R_lt (by (with_reducible repeat (first | apply Kd.R_alloc | apply Kd.R_drewN | apply Kd.R_drew)); exact HO_322002.out))) (Kd.R_lt (by (with_reducible repeat (first | apply Kd.R_alloc | apply Kd.R_drewN | apply Kd.R_drew)); exact HO_331001.out))) (Kd.R_lt (by (with_reducible repeat (first | apply Kd.R_alloc | apply Kd.R_drewN | apply Kd.R_drew)); exact HO_331002.out))) (Kd.R_lt (by (with_reducible repeat (first | apply Kd.R_alloc | apply Kd.R_drewN | apply Kd.R_drew)); exact HO_341001.out))) (Kd.R_lt (by (with_reducible repeat (first | apply Kd.R_alloc | apply Kd.R_drewN | apply Kd.R_drew)); exact HO_341002.out))) (wZ (by repeat (first | (with_reducible first | exact HB.out | apply wA | apply wN | apply wD | refine wS ?_ GE310.out | refine wS ?_ GE311.out | refine wS ?_ GE321.out | refine wS ?_ GE330.out | refine wS ?_ GE340.out | refine wS ?_ GE345.out) | exact HB.out))))
        have n8_ := aZ (Kd.R_lower (Kd.R_new' (Kd.R_new' (Kd.R_new' (Kd.R_new' (Kd.R_new' (Kd.R_new' ho2 (Kd.R_lt (by (with_reducible repeat (first | apply Kd.R_alloc | apply Kd.R_drewN | apply Kd.R_drew)); exact HO_322001.out))) (Kd.R_lt (by (with_reducible repeat (first | apply Kd.R_alloc | apply Kd.R_drewN | apply Kd.R_drew)); exact HO_322002.out))) (Kd.R_lt (by (with_reducible repeat (first | apply Kd.R_alloc | apply Kd.R_drewN | apply Kd.R_drew)); exact HO_331001.out))) (Kd.R_lt (by (with_reducible repeat (first | apply Kd.R_alloc | apply Kd.R_drewN | apply Kd.R_drew)); exact HO_331002.out))) (Kd.R_lt (by (with_reducible repeat (first | apply Kd.R_alloc | apply Kd.R_drewN | apply Kd.R_drew)); exact HO_341001.out))) (Kd.R_lt (by (with_reducible repeat (first | apply Kd.R_alloc | apply Kd.R_drewN | apply Kd.R_drew)); exact HO_341002.out))) (wZ (by repeat (first | (with_reducible first | exact HB.out | apply wA | apply wN | apply wD | refine wS ?_ GE310.out | refine wS ?_ GE311.out | refine wS ?_ GE321.out | refine wS ?_ GE330.out | refine wS ?_ GE340.out | refine wS ?_ GE345.out) | exact HB.out))))
        have n9_ := aZ (Kd.R_lower (Kd.R_new' (Kd.R_new' (Kd.R_new' (Kd.R_new' (Kd.R_new' (Kd.R_new' ho3 (Kd.R_lt (by (with_reducible repeat (first | apply Kd.R_alloc | apply Kd.R_drewN | apply Kd.R_drew)); exact HO_322001.out))) (Kd.R_lt (by (with_reducible repeat (first | apply Kd.R_alloc | apply Kd.R_drewN | apply Kd.R_drew)); exact HO_322002.out))) (Kd.R_lt (by (with_reducible repeat (first | apply Kd.R_alloc | apply Kd.R_drewN | apply Kd.R_drew)); exact HO_331001.out))) (Kd.R_lt (by (with_reducible repeat (first | apply Kd.R_alloc | apply Kd.R_drewN | apply Kd.R_drew)); exact HO_331002.out))) (Kd.R_lt (by (with_reducible repeat (first | apply Kd.R_alloc | apply Kd.R_drewN | apply Kd.R_drew)); exact HO_341001.out))) (Kd.R_lt (by (with_reducible repeat (first | apply Kd.R_alloc | apply Kd.R_drewN | apply Kd.R_drew)); exact HO_341002.out))) (wZ (by repeat (first | (with_reducible first | exact HB.out | apply wA | apply wN | apply wD | refine wS ?_ GE310.out | refine wS ?_ GE311.out | refine wS ?_ GE321.out | refine wS ?_ GE330.out | refine wS ?_ GE340.out | refine wS ?_ GE345.out) | exact HB.out))))
        have n10_ := aZ (bB (g := gb310) (o := .cells #[.bool a0_0, .slice A0_1 l0_1.length c0_1, .slice A0_2 l0_2.length c0_2, .bool a0_3, .slice A0_4 l0_4.length c0_4, .slice A0_5 l0_5.length c0_5] 34 (0, 0)) (by (with_reducible repeat (first | refine bN ?_ _ | refine bW ?_ | refine bA ?_ _)); exact BK310.out) hb)
        have n11_ := aZ (bB (g := gb311) (o := .cells #[.int .i32 0, .int .i32 0] 25 (0, 0)) (by (with_reducible repeat (first | refine bN ?_ _ | refine bW ?_ | refine bA ?_ _)); exact BK311.out) hb)
        have n12_ := aZ (bB (g := gb321) (o := .cells #[.bool t313, .slice Ao26 t314.length co26, .slice Ao27 t317.length co27] 32 (0, 0)) (by (with_reducible repeat (first | refine bN ?_ _ | refine bW ?_ | refine bA ?_ _)); exact BK321.out) hb)
        have n13_ := aZ (bB (g := gb330) (o := .cells #[.bool t322, .slice Ao36 t323.length co36, .slice Ao37 t326.length co37] 32 (0, 0)) (by (with_reducible repeat (first | refine bN ?_ _ | refine bW ?_ | refine bA ?_ _)); exact BK330.out) hb)
        have n14_ := aZ (bB (g := gb340) (o := .cells #[.bool t332, .slice (some ad344) t333.length co48, .slice (some ad343) t336.length co49] 32 (0, 0)) (by (with_reducible repeat (first | refine bN ?_ _ | refine bW ?_ | refine bA ?_ _)); exact BK340.out) hb)
        have n15_ := aZ (bB (g := gb345) (o := .cells #[.int .i32 (wrap32 (rd t336 0)), .int .i32 x346001_62] 25 (0, 0)) (by (with_reducible repeat (first | refine bN ?_ _ | refine bW ?_ | refine bA ?_ _)); exact BK345.out) hb)
        have n16_ := aZ (wP (by repeat (first | (with_reducible first | exact HB.out | apply wA | apply wN | apply wD | refine wS ?_ GE310.out | refine wS ?_ GE311.out | refine wS ?_ GE321.out | refine wS ?_ GE330.out | refine wS ?_ GE340.out | refine wS ?_ GE345.out) | exact HB.out)) hb)
        clear HO_322001
        clear HO_322002
        clear HO_331001
        clear HO_331002
        clear HO_341001
        clear HO_341002
        clear BK310
        clear BK311
        clear BK321
        clear BK330
        clear BK340
        clear BK345
        clear HB
        have HO_322001 := n0_
        have HO_322002 := n1_
        have HO_331001 := n2_
        have HO_331002 := n3_
        have HO_341001 := n4_
        have HO_341002 := n5_
        have HO350 := n6_
        have HO353 := n7_
        have HO357 := n8_
        have HO360 := n9_
        have BK310 := n10_
        have BK311 := n11_
        have BK321 := n12_
        have BK330 := n13_
        have BK340 := n14_
        have BK345 := n15_
        have HB := n16_
        clear n0_ n1_ n2_ n3_ n4_ n5_ n6_ n7_ n8_ n9_ n10_ n11_ n12_ n13_ n14_ n15_ n16_
        (try clear hb)
        (try clear hb2)
        (try clear hk)
        (try clear hi)
        (try clear ho0)
        (try clear ho1)
        (try clear ho2)
        (try clear ho3)
        obtain ⟨Ao89, co89, eo89⟩ := Kd.R_slice HO350.out
        (first | subst eo89 | (injection eo89 with f1_ f2_ f3_; have f4_ := f1_.symm; have f5_ := f3_.symm; clear f1_ f2_ f3_; subst f4_; subst f5_))
        obtain ⟨Ao90, co90, eo90⟩ := Kd.R_slice HO353.out
        (first | subst eo90 | (injection eo90 with f1_ f2_ f3_; have f4_ := f1_.symm; have f5_ := f3_.symm; clear f1_ f2_ f3_; subst f4_; subst f5_))
        obtain ⟨Ao91, co91, eo91⟩ := Kd.R_slice HO357.out
        (first | subst eo91 | (injection eo91 with f1_ f2_ f3_; have f4_ := f1_.symm; have f5_ := f3_.symm; clear f1_ f2_ f3_; subst f4_; subst f5_))
        obtain ⟨Ao92, co92, eo92⟩ := Kd.R_slice HO360.out
        (first | subst eo92 | (injection eo92 with f1_ f2_ f3_; have f4_ := f1_.symm; have f5_ := f3_.symm; clear f1_ f2_ f3_; subst f4_; subst f5_))
        refine hK.out _ _ ⟨(bC BK345.out 0).trans rfl, (bC BK345.out 1).trans rfl, (bC BK310.out 0).trans rfl, (bC BK310.out 1).trans rfl, (bC BK310.out 2).trans rfl, (bC BK310.out 3).trans rfl, (bC BK310.out 4).trans rfl, (bC BK310.out 5).trans rfl⟩ (fun hHeld => ?_)
        clear hK K
        refine norm_ (a' := ?_) ?_ ?_
        rotate_left
        ·
         show Act.put _ (some 112) _ = _
         simp only [Act.put, List.setIfInBounds_toArray, List.set_cons_zero, List.set_cons_succ, i64_w, i32_w]
         rfl
        refine one_ (i := 7) (N := some 114) #[true, true, true, true, true, true, true, true, false, false] rfl rfl (one_of HT_.out (by kernel_rfl)) (by decide) (fun K hK => ?_)
        refine goes_ Try.func25 (by kernel_rfl) rfl #[.agg #[.bool t347, .slice Ao89 t348.length co89, .slice Ao90 t351.length co90, .bool t354, .slice Ao91 t355.length co91, .slice Ao92 t358.length co92], .agg #[.bool a0_0, .slice A0_1 l0_1.length c0_1, .slice A0_2 l0_2.length c0_2, .bool a0_3, .slice A0_4 l0_4.length c0_4, .slice A0_5 l0_5.length c0_5]] (by rfl) rfl rfl (by (try simp only [List.map_toArray, List.map_cons, List.map_nil]); first | done | rfl | (simp only [List.length_drop, List.length_take]; rfl)) ?_
        with_reducible refine (gauss_Same.calls kj62 t347 _ _ t348 _ _ t351 t354 _ _ t355 _ _ t358 a0_0 _ _ l0_1 _ _ l0_2 a0_3 _ _ l0_4 _ _ l0_5 true _ ?side1 ?side2 ?side3 ?side4 ?side5 ?side6 ?side7 ?side8 ?side9 ?side10 ?side11 ?side12 ?side13 ?side14 ?side15 ?side16 A84.out).mono ?_
        (case side1 => repeat (first | exact (Kd.R_reads' HO350.out).2.2 | (with_reducible refine Kd.C_alloc ?_ _) | (with_reducible refine Kd.C_drewN ?_ _) | (with_reducible refine Kd.C_drew ?_)))
        (case side2 => exact (Kd.R_reads' HO350.out).2.1)
        (case side3 => repeat (first | exact (Kd.R_reads' HO353.out).2.2 | (with_reducible refine Kd.C_alloc ?_ _) | (with_reducible refine Kd.C_drewN ?_ _) | (with_reducible refine Kd.C_drew ?_)))
        (case side4 => exact (Kd.R_reads' HO353.out).2.1)
        (case side5 => repeat (first | exact (Kd.R_reads' HO357.out).2.2 | (with_reducible refine Kd.C_alloc ?_ _) | (with_reducible refine Kd.C_drewN ?_ _) | (with_reducible refine Kd.C_drew ?_)))
        (case side6 => exact (Kd.R_reads' HO357.out).2.1)
        (case side7 => repeat (first | exact (Kd.R_reads' HO360.out).2.2 | (with_reducible refine Kd.C_alloc ?_ _) | (with_reducible refine Kd.C_drewN ?_ _) | (with_reducible refine Kd.C_drew ?_)))
        (case side8 => exact (Kd.R_reads' HO360.out).2.1)
        (case side9 => repeat (first | exact (Kd.C_below HR0_1.out HB.out) | (with_reducible refine Kd.C_alloc ?_ _) | (with_reducible refine Kd.C_drewN ?_ _) | (with_reducible refine Kd.C_drew ?_)))
        (case side10 => exact HC0_1.out)
        (case side11 => repeat (first | exact (Kd.C_below HR0_2.out HB.out) | (with_reducible refine Kd.C_alloc ?_ _) | (with_reducible refine Kd.C_drewN ?_ _) | (with_reducible refine Kd.C_drew ?_)))
        (case side12 => exact HC0_2.out)
        (case side13 => repeat (first | exact (Kd.C_below HR0_4.out HB.out) | (with_reducible refine Kd.C_alloc ?_ _) | (with_reducible refine Kd.C_drewN ?_ _) | (with_reducible refine Kd.C_drew ?_)))
        (case side14 => exact HC0_4.out)
        (case side15 => repeat (first | exact (Kd.C_below HR0_5.out HB.out) | (with_reducible refine Kd.C_alloc ?_ _) | (with_reducible refine Kd.C_drewN ?_ _) | (with_reducible refine Kd.C_drew ?_)))
        (case side16 => exact HC0_5.out)
        rintro e w93 ⟨rfl, hb⟩
        refine ⟨_, rfl, ?_⟩
        have n0_ := aZ (Kd.R_below (by (with_reducible repeat (first | apply Kd.R_alloc | apply Kd.R_drewN | apply Kd.R_drew)); exact HO_322001.out) hb)
        have n1_ := aZ (Kd.R_below (by (with_reducible repeat (first | apply Kd.R_alloc | apply Kd.R_drewN | apply Kd.R_drew)); exact HO_322002.out) hb)
        have n2_ := aZ (Kd.R_below (by (with_reducible repeat (first | apply Kd.R_alloc | apply Kd.R_drewN | apply Kd.R_drew)); exact HO_331001.out) hb)
        have n3_ := aZ (Kd.R_below (by (with_reducible repeat (first | apply Kd.R_alloc | apply Kd.R_drewN | apply Kd.R_drew)); exact HO_331002.out) hb)
        have n4_ := aZ (Kd.R_below (by (with_reducible repeat (first | apply Kd.R_alloc | apply Kd.R_drewN | apply Kd.R_drew)); exact HO_341001.out) hb)
        have n5_ := aZ (Kd.R_below (by (with_reducible repeat (first | apply Kd.R_alloc | apply Kd.R_drewN | apply Kd.R_drew)); exact HO_341002.out) hb)
        have n6_ := aZ (Kd.R_below (by (with_reducible repeat (first | apply Kd.R_alloc | apply Kd.R_drewN | apply Kd.R_drew)); exact HO350.out) hb)
        have n7_ := aZ (Kd.R_below (by (with_reducible repeat (first | apply Kd.R_alloc | apply Kd.R_drewN | apply Kd.R_drew)); exact HO353.out) hb)
        have n8_ := aZ (Kd.R_below (by (with_reducible repeat (first | apply Kd.R_alloc | apply Kd.R_drewN | apply Kd.R_drew)); exact HO357.out) hb)
        have n9_ := aZ (Kd.R_below (by (with_reducible repeat (first | apply Kd.R_alloc | apply Kd.R_drewN | apply Kd.R_drew)); exact HO360.out) hb)
        have n10_ := aZ (bB (g := gb310) (o := .cells #[.bool a0_0, .slice A0_1 l0_1.length c0_1, .slice A0_2 l0_2.length c0_2, .bool a0_3, .slice A0_4 l0_4.length c0_4, .slice A0_5 l0_5.length c0_5] 34 (0, 0)) (by (with_reducible repeat (first | refine bN ?_ _ | refine bW ?_ | refine bA ?_ _)); exact BK310.out) hb)
        have n11_ := aZ (bB (g := gb311) (o := .cells #[.int .i32 0, .int .i32 0] 25 (0, 0)) (by (with_reducible repeat (first | refine bN ?_ _ | refine bW ?_ | refine bA ?_ _)); exact BK311.out) hb)
        have n12_ := aZ (bB (g := gb321) (o := .cells #[.bool t313, .slice Ao26 t314.length co26, .slice Ao27 t317.length co27] 32 (0, 0)) (by (with_reducible repeat (first | refine bN ?_ _ | refine bW ?_ | refine bA ?_ _)); exact BK321.out) hb)
        have n13_ := aZ (bB (g := gb330) (o := .cells #[.bool t322, .slice Ao36 t323.length co36, .slice Ao37 t326.length co37] 32 (0, 0)) (by (with_reducible repeat (first | refine bN ?_ _ | refine bW ?_ | refine bA ?_ _)); exact BK330.out) hb)
        have n14_ := aZ (bB (g := gb340) (o := .cells #[.bool t332, .slice (some ad344) t333.length co48, .slice (some ad343) t336.length co49] 32 (0, 0)) (by (with_reducible repeat (first | refine bN ?_ _ | refine bW ?_ | refine bA ?_ _)); exact BK340.out) hb)
        have n15_ := aZ (bB (g := gb345) (o := .cells #[.int .i32 (wrap32 (rd t336 0)), .int .i32 x346001_62] 25 (0, 0)) (by (with_reducible repeat (first | refine bN ?_ _ | refine bW ?_ | refine bA ?_ _)); exact BK345.out) hb)
        have n16_ := aZ (wP (by repeat (first | (with_reducible first | exact HB.out | apply wA | apply wN | apply wD | refine wS ?_ GE310.out | refine wS ?_ GE311.out | refine wS ?_ GE321.out | refine wS ?_ GE330.out | refine wS ?_ GE340.out | refine wS ?_ GE345.out) | exact HB.out)) hb)
        clear HO_322001
        clear HO_322002
        clear HO_331001
        clear HO_331002
        clear HO_341001
        clear HO_341002
        clear HO350
        clear HO353
        clear HO357
        clear HO360
        clear BK310
        clear BK311
        clear BK321
        clear BK330
        clear BK340
        clear BK345
        clear HB
        have HO_322001 := n0_
        have HO_322002 := n1_
        have HO_331001 := n2_
        have HO_331002 := n3_
        have HO_341001 := n4_
        have HO_341002 := n5_
        have HO350 := n6_
        have HO353 := n7_
        have HO357 := n8_
        have HO360 := n9_
        have BK310 := n10_
        have BK311 := n11_
        have BK321 := n12_
        have BK330 := n13_
        have BK340 := n14_
        have BK345 := n15_
        have HB := n16_
        clear n0_ n1_ n2_ n3_ n4_ n5_ n6_ n7_ n8_ n9_ n10_ n11_ n12_ n13_ n14_ n15_ n16_
        (try clear hb)
        (try clear hb2)
        (try clear hk)
        (try clear hi)
        refine hK.out _ _ ⟨(bC BK345.out 0).trans rfl, (bC BK345.out 1).trans rfl, (bC BK310.out 0).trans rfl, (bC BK310.out 1).trans rfl, (bC BK310.out 2).trans rfl, (bC BK310.out 3).trans rfl, (bC BK310.out 4).trans rfl, (bC BK310.out 5).trans rfl⟩ (fun hHeld => ?_)
        clear hK K
        refine norm_ (a' := ?_) ?_ ?_
        rotate_left
        ·
         show Act.put _ (some 114) _ = _
         simp only [Act.put, List.setIfInBounds_toArray, List.set_cons_zero, List.set_cons_succ, i64_w, i32_w]
         rfl
        refine pure_ (i := 8) (N := some 115) (v := ?_) (a' := ?_) #[true, true, true, true, true, true, true, true, true, false] rfl rfl (any_of HT_.out (by kernel_rfl)) (fun _ _ _ h => h) (Or.inl ⟨by rfl, ?_⟩) ?_ ?_
        rotate_left
        ·
         intro w'
         go_simp
         with_reducible rfl
        rotate_left
        ·
         simp only [Act.put, List.setIfInBounds_toArray, List.set_cons_zero, List.set_cons_succ, i64_w, i32_w]
         rfl
        refine pure_ (i := 9) (N := some 116) (v := ?_) (a' := ?_) #[true, true, true, true, true, true, true, true, true, true] rfl rfl (any_of HT_.out (by kernel_rfl)) (fun _ _ _ h => h) (Or.inl ⟨by rfl, ?_⟩) ?_ ?_
        rotate_left
        ·
         intro w'
         go_simp
         with_reducible rfl
        rotate_left
        ·
         simp only [Act.put, List.setIfInBounds_toArray, List.set_cons_zero, List.set_cons_succ, i64_w, i32_w]
         rfl
        refine done_ (done_of HT_.out (by kernel_rfl)) ?_
        have hnb94 := NB345_310.out
        have hnc94 := NB310_345.out
        have hnb95 := NB345_311.out
        have hnc95 := NB311_345.out
        have hnb96 := NB345_321.out
        have hnc96 := NB321_345.out
        have hnb97 := NB345_330.out
        have hnc97 := NB330_345.out
        have hnb98 := NB345_340.out
        have hnc98 := NB340_345.out
        have hcz99_0 : w93.cell? ⟨gb345, 0, none⟩ = some (.int .i32 (wrap32 (rd t336 0))) := (bC BK345.out 0).trans rfl
        have hcz99_1 : w93.cell? ⟨gb345, 1, none⟩ = some (.int .i32 x346001_62) := (bC BK345.out 1).trans rfl
        have hfz99_0 := bZ BK345.out 0
        have hfz99_1 := bZ BK345.out 1
        have hnb100 := NB311_310.out
        have hnc100 := NB310_311.out
        have hnb101 := NB311_321.out
        have hnc101 := NB321_311.out
        have hnb102 := NB311_330.out
        have hnc102 := NB330_311.out
        have hnb103 := NB311_340.out
        have hnc103 := NB340_311.out
        have hcz104_0 : w93.cell? ⟨gb311, 0, none⟩ = some (.int .i32 0) := (bC BK311.out 0).trans rfl
        have hcz104_1 : w93.cell? ⟨gb311, 1, none⟩ = some (.int .i32 0) := (bC BK311.out 1).trans rfl
        have hfz104_0 := bZ BK311.out 0
        have hfz104_1 := bZ BK311.out 1
        go_upto_if 116 with (fail)
        repeat (first | go_skip | go_guarded | go_step)
        refine bodyPost_ret (results_ct rfl _ _ gb311 25 #[.int .i32 (wrap32 (rd t336 0)), .int .i32 x346001_62] (0, 0) _ rfl (by (with_reducible repeat (first | refine bN ?_ _ | refine bW ?_ | refine bA ?_ _)); refine blk_put (cs := #[.int .i32 (wrap32 (rd t336 0)), .int .i32 0]) ?_ 1 _ rfl; (with_reducible repeat (first | refine bN ?_ _ | refine bW ?_ | refine bA ?_ _)); refine blk_put (cs := #[.int .i32 0, .int .i32 0]) ?_ 0 _ rfl; (with_reducible repeat (first | refine bN ?_ _ | refine bW ?_ | refine bA ?_ _)); exact BK311.out) Try.underlying25 rfl (by kernel_rfl)) rfl ?_
        exact ⟨by first | rfl | (simp [errW_none, errW_some] <;> rfl) | (simp [*, errW_none, errW_some] <;> rfl), by repeat (first | (with_reducible first | exact HB.out | apply wA | apply wN | apply wD | refine wS ?_ GE310.out | refine wS ?_ GE311.out | refine wS ?_ GE321.out | refine wS ?_ GE330.out | refine wS ?_ GE340.out | refine wS ?_ GE345.out) | exact HB.out)⟩
       replace c85 := Bool.eq_false_iff.mpr c85
       subst c85
       have H1 : (none) = some (r1, r2, r3) := by rw [if_neg (show ¬ (false = true) by decide)] at H; exact H
       clear H
       have H := H1
       clear H1
       exact absurd H (by simp)
      rw [if_neg c82] at H
      have c82b0 : (t346 == 0) = false := beq_eq_false_iff_ne.mpr c82
      have c82b1 : (t346 != 0) = true := bne_iff_ne.mpr c82
      exact absurd H (by simp)
    rw [if_neg c62] at H
    exact absurd H (by simp)
   rw [if_neg c61] at H
   exact absurd H (by simp)

end Go.Proofs.Ytgjmlbcpjjpegaa.PRB
