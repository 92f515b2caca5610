/- Written by wip/xprint.py (the kit's print over given functions). -/
import Derived.Test.YtgjmlbcpjjpegaaPRBx0
import Derived.Test.YtgjmlbcpjjpegaaPRBx2
namespace Go.Proofs.Ytgjmlbcpjjpegaa.PRB
open Go.RowKit Go.Proofs.YtgjmlbcpjjpegaaW.PrintWords Go.Proofs.YtgjmlbcpjjpegaaW.PrintLast Go.Proofs.YtgjmlbcpjjpegaaW.PrintMore
attribute [local go_sem] max2_int min2_int max_two min_two max_three min_three max_four min_four   -- for this text's walks alone
set_option linter.unusedVariables false
set_option linter.unusedSimpArgs false

/-! ### rotor_Conj: function 26 -/
def rotor_Conj.f (k : Nat) (a0_0 : Int) (a0_1 : Int) : Option (Int × Int × Int) := (rotor_Check.f k a0_0 a0_1).bind fun t364 => (if t364 = 0 then (some (a0_0, wrap32 (-a0_1), 0)) else (some (0, 0, t364)))
set_option maxHeartbeats 8000000 in
set_option maxRecDepth 100000 in
theorem rotor_Conj.calls (k : Nat) (a0_0 : Int) (a0_1 : Int) (r1 : Int) (r2 : Int) (r3 : Int) (w : World) (h : rotor_Conj.f k a0_0 a0_1 = some (r1, r2, r3)) :
  Calls Try.prog 26 #[.agg #[.int .i32 a0_0, .int .i32 a0_1]] w fun e w' => e = .returned (.tuple #[.agg #[.int .i32 r1, .int .i32 r2], .int .i64 r3]) ∧ Below w.heap.size w w' := by
 have hu25 := Try.underlying25
 have HB := aZ (Below.refl w.heap.size w)
 have H : ((rotor_Check.f k a0_0 a0_1).bind fun t364 => (if t364 = 0 then (some (a0_0, wrap32 (-a0_1), 0)) else (some (0, 0, t364)))) = some (r1, r2, r3) := h
 clear h
 replace H := Option.bind_eq_some_iff.mp H
 obtain ⟨t364, A20, H⟩ := H
 replace H : (if t364 = 0 then (some (a0_0, wrap32 (-a0_1), 0)) else (some (0, 0, t364))) = some (r1, r2, r3) := H
 have A2 := Aside0.mk A20
 clear A20
 by_cases c3 : t364 = 0
 ·
  rw [if_pos c3] at H
  have c3b0 : (t364 == 0) = true := beq_iff_eq.mpr c3
  have c3b1 : (t364 != 0) = false := bne_eq_false_iff_eq.mpr c3
  clear c3
  simp only [Option.some.injEq, Prod.mk.injEq] at H
  obtain ⟨rfl, rfl, rfl⟩ := H
  go_enter Try.func26, Try.ntmps26
  go_wp2_with (first | ((with_reducible refine gD (N := 1) rfl ?_); refine gB ?hg (N := 1) ?hd (cs := #[.int .i32 a0_0, .int .i32 a0_1]) (t := 25) ?hr ?_; (case hd => rfl); (case hg => rfl); (case hr => first | (go_simp; done) | (go_simp; rfl)); intro gb362 hg w4 hbox hb; have n0_ := aZ (wP (by repeat (first | (with_reducible first | exact HB.out | apply wA | apply wN | apply wD) | exact HB.out)) hb); have n1_ := aZ (hbox); have n2_ := aZ ((by rw [hg]; exact (wZ (by repeat (first | (with_reducible first | exact HB.out | apply wA | apply wN | apply wD) | exact HB.out))) : w.heap.size ≤ gb362)); have n3_ := aZ ((by rw [hg]; exact (wZ (by repeat (first | (with_reducible first | exact HB.out | apply wA | apply wN | apply wD) | exact HB.out))) : w.heap.size ≤ gb362)); clear HB; have HB := n0_; have BK362 := n1_; have GW362 := n2_; have GE362 := n3_; clear n0_ n1_ n2_ n3_; clear hb hbox hg) | ((with_reducible refine gD (N := 2) rfl ?_); refine gB ?hg (N := 2) ?hd (cs := #[.int .i32 0, .int .i32 0]) (t := 25) ?hr ?_; (case hd => rfl); (case hg => rfl); (case hr => first | (go_simp; done) | (go_simp; rfl)); intro gb363 hg w5 hbox hb; have n0_ := aZ (bB (g := gb362) (o := .cells #[.int .i32 a0_0, .int .i32 a0_1] 25 (0, 0)) (by (with_reducible repeat (first | refine bN ?_ _ | refine bW ?_ | refine bA ?_ _)); exact BK362.out) hb); have n1_ := aZ (wP (by repeat (first | (with_reducible first | exact HB.out | apply wA | apply wN | apply wD | refine wS ?_ GE362.out) | exact HB.out)) hb); have n2_ := aZ (hbox); have n3_ := aZ ((by rw [hg]; exact (wZ (by repeat (first | (with_reducible first | exact HB.out | apply wA | apply wN | apply wD | refine wS ?_ GE362.out) | exact HB.out))) : w.heap.size ≤ gb363)); have n4_ := aZ ((by rw [hg]; exact (wZ (by repeat (first | (with_reducible first | exact HB.out | apply wA | apply wN | apply wD | refine wS ?_ GE362.out) | exact HB.out))) : w.heap.size ≤ gb363)); have n5_ := aZ ((by rw [hg]; exact Nat.ne_of_lt (bL (g := gb362) (o := .cells #[.int .i32 a0_0, .int .i32 a0_1] 25 (0, 0)) (by (with_reducible repeat (first | refine bN ?_ _ | refine bW ?_ | refine bA ?_ _)); exact BK362.out)) : gb362 ≠ gb363)); have n6_ := aZ ((by rw [hg]; exact Nat.ne_of_gt (bL (g := gb362) (o := .cells #[.int .i32 a0_0, .int .i32 a0_1] 25 (0, 0)) (by (with_reducible repeat (first | refine bN ?_ _ | refine bW ?_ | refine bA ?_ _)); exact BK362.out)) : gb363 ≠ gb362)); clear BK362 HB; have BK362 := n0_; have HB := n1_; have BK363 := n2_; have GW363 := n3_; have GE363 := n4_; have NB362_363 := n5_; have NB363_362 := n6_; clear n0_ n1_ n2_ n3_ n4_ n5_ n6_; clear hb hbox hg; have hnb6 := NB362_363.out; have hnc6 := NB363_362.out; have hcz7_0 : w5.cell? ⟨gb362, 0, none⟩ = some (.int .i32 a0_0) := (bC BK362.out 0).trans rfl; have hcz7_1 : w5.cell? ⟨gb362, 1, none⟩ = some (.int .i32 a0_1) := (bC BK362.out 1).trans rfl; have hfz7_0 := bZ BK362.out 0; have hfz7_1 := bZ BK362.out 1) | ((with_reducible refine gC (f := 23) rfl ?_); refine goesL_ (some 6) rfl rfl Try.func23 (by kernel_rfl) rfl #[.agg #[.int .i32 a0_0, .int .i32 a0_1]] rfl (by (try simp only [List.map_toArray, List.map_cons, List.map_nil]); first | done | rfl | (simp only [List.length_drop, List.length_take]; rfl)) ?_; (with_reducible refine (rotor_Check.calls k a0_0 a0_1 t364 _ A2.out).mono ?_); rintro e w8 ⟨rfl, hb⟩; refine ⟨_, rfl, ?_⟩; have n0_ := aZ (bB (g := gb362) (o := .cells #[.int .i32 a0_0, .int .i32 a0_1] 25 (0, 0)) (by (with_reducible repeat (first | refine bN ?_ _ | refine bW ?_ | refine bA ?_ _)); exact BK362.out) hb); have n1_ := aZ (bB (g := gb363) (o := .cells #[.int .i32 0, .int .i32 0] 25 (0, 0)) (by (with_reducible repeat (first | refine bN ?_ _ | refine bW ?_ | refine bA ?_ _)); exact BK363.out) hb); have n2_ := aZ (wP (by repeat (first | (with_reducible first | exact HB.out | apply wA | apply wN | apply wD | refine wS ?_ GE362.out | refine wS ?_ GE363.out) | exact HB.out)) hb); clear BK362 BK363 HB; have BK362 := n0_; have BK363 := n1_; have HB := n2_; clear n0_ n1_ n2_; (try clear hb); (try clear hb2); (try clear hk); (try clear hi); have hcz9_0 : w8.cell? ⟨gb362, 0, none⟩ = some (.int .i32 a0_0) := (bC BK362.out 0).trans rfl; have hcz9_1 : w8.cell? ⟨gb362, 1, none⟩ = some (.int .i32 a0_1) := (bC BK362.out 1).trans rfl; have hfz9_0 := bZ BK362.out 0; have hfz9_1 := bZ BK362.out 1; have hcz10_0 : w8.cell? ⟨gb363, 0, none⟩ = some (.int .i32 0) := (bC BK363.out 0).trans rfl; have hcz10_1 : w8.cell? ⟨gb363, 1, none⟩ = some (.int .i32 0) := (bC BK363.out 1).trans rfl; have hfz10_0 := bZ BK363.out 0; have hfz10_1 := bZ BK363.out 1))
  refine bodyPost_ret (results_ct rfl _ _ gb363 25 #[.int .i32 a0_0, .int .i32 (wrap32 (-a0_1))] (0, 0) _ rfl (by (with_reducible repeat (first | refine bN ?_ _ | refine bW ?_ | refine bA ?_ _)); refine blk_put (cs := #[.int .i32 a0_0, .int .i32 0]) ?_ 1 _ rfl; (with_reducible repeat (first | refine bN ?_ _ | refine bW ?_ | refine bA ?_ _)); refine blk_put (cs := #[.int .i32 0, .int .i32 0]) ?_ 0 _ rfl; (with_reducible repeat (first | refine bN ?_ _ | refine bW ?_ | refine bA ?_ _)); refine bF ?_ NB363_362.out _; (with_reducible repeat (first | refine bN ?_ _ | refine bW ?_ | refine bA ?_ _)); exact BK363.out) Try.underlying25 rfl (by kernel_rfl)) rfl ?_
  exact ⟨by first | rfl | (simp [errW_none, errW_some] <;> rfl) | (simp [*, errW_none, errW_some] <;> rfl), by repeat (first | (with_reducible first | exact HB.out | apply wA | apply wN | apply wD | refine wS ?_ GE362.out | refine wS ?_ GE363.out) | exact HB.out)⟩
 rw [if_neg c3] at H
 have c3b0 : (t364 == 0) = false := beq_eq_false_iff_ne.mpr c3
 have c3b1 : (t364 != 0) = true := bne_iff_ne.mpr c3
 simp only [Option.some.injEq, Prod.mk.injEq] at H
 obtain ⟨rfl, rfl, rfl⟩ := H
 go_enter Try.func26, Try.ntmps26
 go_wp2_with (first | ((with_reducible refine gD (N := 1) rfl ?_); refine gB ?hg (N := 1) ?hd (cs := #[.int .i32 a0_0, .int .i32 a0_1]) (t := 25) ?hr ?_; (case hd => rfl); (case hg => rfl); (case hr => first | (go_simp; done) | (go_simp; rfl)); intro gb362 hg w11 hbox hb; have n0_ := aZ (wP (by repeat (first | (with_reducible first | exact HB.out | apply wA | apply wN | apply wD) | exact HB.out)) hb); have n1_ := aZ (hbox); have n2_ := aZ ((by rw [hg]; exact (wZ (by repeat (first | (with_reducible first | exact HB.out | apply wA | apply wN | apply wD) | exact HB.out))) : w.heap.size ≤ gb362)); have n3_ := aZ ((by rw [hg]; exact (wZ (by repeat (first | (with_reducible first | exact HB.out | apply wA | apply wN | apply wD) | exact HB.out))) : w.heap.size ≤ gb362)); clear HB; have HB := n0_; have BK362 := n1_; have GW362 := n2_; have GE362 := n3_; clear n0_ n1_ n2_ n3_; clear hb hbox hg) | ((with_reducible refine gD (N := 2) rfl ?_); refine gB ?hg (N := 2) ?hd (cs := #[.int .i32 0, .int .i32 0]) (t := 25) ?hr ?_; (case hd => rfl); (case hg => rfl); (case hr => first | (go_simp; done) | (go_simp; rfl)); intro gb363 hg w12 hbox hb; have n0_ := aZ (bB (g := gb362) (o := .cells #[.int .i32 a0_0, .int .i32 a0_1] 25 (0, 0)) (by (with_reducible repeat (first | refine bN ?_ _ | refine bW ?_ | refine bA ?_ _)); exact BK362.out) hb); have n1_ := aZ (wP (by repeat (first | (with_reducible first | exact HB.out | apply wA | apply wN | apply wD | refine wS ?_ GE362.out) | exact HB.out)) hb); have n2_ := aZ (hbox); have n3_ := aZ ((by rw [hg]; exact (wZ (by repeat (first | (with_reducible first | exact HB.out | apply wA | apply wN | apply wD | refine wS ?_ GE362.out) | exact HB.out))) : w.heap.size ≤ gb363)); have n4_ := aZ ((by rw [hg]; exact (wZ (by repeat (first | (with_reducible first | exact HB.out | apply wA | apply wN | apply wD | refine wS ?_ GE362.out) | exact HB.out))) : w.heap.size ≤ gb363)); have n5_ := aZ ((by rw [hg]; exact Nat.ne_of_lt (bL (g := gb362) (o := .cells #[.int .i32 a0_0, .int .i32 a0_1] 25 (0, 0)) (by (with_reducible repeat (first | refine bN ?_ _ | refine bW ?_ | refine bA ?_ _)); exact BK362.out)) : gb362 ≠ gb363)); have n6_ := aZ ((by rw [hg]; exact Nat.ne_of_gt (bL (g := gb362) (o := .cells #[.int .i32 a0_0, .int .i32 a0_1] 25 (0, 0)) (by (with_reducible repeat (first | refine bN ?_ _ | refine bW ?_ | refine bA ?_ _)); exact BK362.out)) : gb363 ≠ gb362)); clear BK362 HB; have BK362 := n0_; have HB := n1_; have BK363 := n2_; have GW363 := n3_; have GE363 := n4_; have NB362_363 := n5_; have NB363_362 := n6_; clear n0_ n1_ n2_ n3_ n4_ n5_ n6_; clear hb hbox hg; have hnb13 := NB362_363.out; have hnc13 := NB363_362.out; have hcz14_0 : w12.cell? ⟨gb362, 0, none⟩ = some (.int .i32 a0_0) := (bC BK362.out 0).trans rfl; have hcz14_1 : w12.cell? ⟨gb362, 1, none⟩ = some (.int .i32 a0_1) := (bC BK362.out 1).trans rfl; have hfz14_0 := bZ BK362.out 0; have hfz14_1 := bZ BK362.out 1) | ((with_reducible refine gC (f := 23) rfl ?_); refine goesL_ (some 6) rfl rfl Try.func23 (by kernel_rfl) rfl #[.agg #[.int .i32 a0_0, .int .i32 a0_1]] rfl (by (try simp only [List.map_toArray, List.map_cons, List.map_nil]); first | done | rfl | (simp only [List.length_drop, List.length_take]; rfl)) ?_; (with_reducible refine (rotor_Check.calls k a0_0 a0_1 t364 _ A2.out).mono ?_); rintro e w15 ⟨rfl, hb⟩; refine ⟨_, rfl, ?_⟩; have n0_ := aZ (bB (g := gb362) (o := .cells #[.int .i32 a0_0, .int .i32 a0_1] 25 (0, 0)) (by (with_reducible repeat (first | refine bN ?_ _ | refine bW ?_ | refine bA ?_ _)); exact BK362.out) hb); have n1_ := aZ (bB (g := gb363) (o := .cells #[.int .i32 0, .int .i32 0] 25 (0, 0)) (by (with_reducible repeat (first | refine bN ?_ _ | refine bW ?_ | refine bA ?_ _)); exact BK363.out) hb); have n2_ := aZ (wP (by repeat (first | (with_reducible first | exact HB.out | apply wA | apply wN | apply wD | refine wS ?_ GE362.out | refine wS ?_ GE363.out) | exact HB.out)) hb); clear BK362 BK363 HB; have BK362 := n0_; have BK363 := n1_; have HB := n2_; clear n0_ n1_ n2_; (try clear hb); (try clear hb2); (try clear hk); (try clear hi); have hcz16_0 : w15.cell? ⟨gb363, 0, none⟩ = some (.int .i32 0) := (bC BK363.out 0).trans rfl; have hcz16_1 : w15.cell? ⟨gb363, 1, none⟩ = some (.int .i32 0) := (bC BK363.out 1).trans rfl; have hfz16_0 := bZ BK363.out 0; have hfz16_1 := bZ BK363.out 1))
 refine bodyPost_ret (results_ct rfl _ _ gb363 25 #[.int .i32 0, .int .i32 0] (0, 0) _ rfl (by (with_reducible repeat (first | refine bN ?_ _ | refine bW ?_ | refine bA ?_ _)); refine blk_put (cs := #[.int .i32 0, .int .i32 0]) ?_ 1 _ rfl; (with_reducible repeat (first | refine bN ?_ _ | refine bW ?_ | refine bA ?_ _)); refine blk_put (cs := #[.int .i32 0, .int .i32 0]) ?_ 0 _ rfl; (with_reducible repeat (first | refine bN ?_ _ | refine bW ?_ | refine bA ?_ _)); exact BK363.out) Try.underlying25 rfl (by kernel_rfl)) rfl ?_
 exact ⟨by first | rfl | (simp [errW_none, errW_some] <;> rfl) | (simp [*, errW_none, errW_some] <;> rfl), by repeat (first | (with_reducible first | exact HB.out | apply wA | apply wN | apply wD | refine wS ?_ GE362.out | refine wS ?_ GE363.out) | exact HB.out)⟩

/-! ### rotor_quarter: function 65 -/
mutual
def rotor_quarter.j0 : Nat → Int → Int → Bool → Option (Int)
 | 0, _, _, _ => none
 | k + 1, x0, x1, x5 => if x5 = true then (some 0) else (if x0 ≤ 0 then (rotor_quarter.j1 k x0 (decide (x1 > 0))) else (rotor_quarter.j1 k x0 false))
def rotor_quarter.j1 : Nat → Int → Bool → Option (Int)
 | 0, _, _ => none
 | k + 1, x0, x12 => if x12 = true then (some 1) else (if x0 < 0 then (some 2) else (some 3))
end
def rotor_quarter.f (k : Nat) (a0 : Int) (a1 : Int) : Option (Int) := if a0 > 0 then (rotor_quarter.j0 k a0 a1 (decide (a1 ≥ 0))) else (rotor_quarter.j0 k a0 a1 false)
set_option maxHeartbeats 8000000 in
set_option maxRecDepth 100000 in
theorem rotor_quarter.calls (k : Nat) (a0 : Int) (a1 : Int) (r : Int) (w : World) (h : rotor_quarter.f k a0 a1 = some r) :
  Calls Try.prog 65 #[.int .i64 a0, .int .i64 a1] w fun e w' => e = .returned (.int .i64 r) ∧ Drawn0 w w' := by
 have H : (if a0 > 0 then (rotor_quarter.j0 k a0 a1 (decide (a1 ≥ 0))) else (rotor_quarter.j0 k a0 a1 false)) = some r := h
 clear h
 have HC3 := Aside0.mk H
 clear H
 go_enter Try.func65, Try.ntmps65
 go_upto_region 1 with (fail)
 go_cut [5] (fun v5 wc => ∃ (kq : Nat) (x5_2 : Bool), v5 = .bool x5_2 ∧ Aside0 (rotor_quarter.j0 kq a0 a1 x5_2 = some r) ∧ Aside0 (kq ≤ k) ∧ Drawn0 w wc)
 case first =>
  have H := HC3.out
  clear HC3
  by_cases c4 : a0 > 0
  ·
   rw [if_pos c4] at H
   have c4b0 : decide (0 < a0) = true := decide_eq_true c4
   clear c4
   (first | rw [c4b0] | (simp only [i64_w, i32_w]; rw [c4b0]) | skip)
   have H' := Aside0.mk H
   clear H
   go_wp2
   go_meet
   case rel => exact ⟨_, (decide (a1 ≥ 0)), (by first | rfl | (simp; done) | (simp [*]; done)), H', ⟨by first | omega | exact Nat.le_refl _⟩, by repeat (first | exact Drawn0.refl _ | apply Drawn0.step)⟩
  rw [if_neg c4] at H
  have c4b0 : decide (0 < a0) = false := decide_eq_false c4
  clear c4
  (first | rw [c4b0] | (simp only [i64_w, i32_w]; rw [c4b0]) | skip)
  have H' := Aside0.mk H
  clear H
  go_wp2
  go_meet
  case rel => exact ⟨_, (false), (by first | rfl | (simp; done) | (simp [*]; done)), H', ⟨by first | omega | exact Nat.le_refl _⟩, by repeat (first | exact Drawn0.refl _ | apply Drawn0.step)⟩
 case' rest => skip
 clear HC3
 try clear p2
 try clear c4
 try clear c4b0
 obtain ⟨kq, x5_2, rfl, HA, HJ2, ⟨mc2, rfl⟩⟩ := hcut
 cases kq with
 | zero => exact absurd HA.out (by simp [rotor_quarter.j0])
 | succ kj2 =>
  have H := HA.out
  clear HA
  simp only [rotor_quarter.j0] at H
  by_cases c5 : x5_2 = true
  ·
   subst c5
   have H1 : (some 0) = some r := by rw [if_pos rfl] at H; exact H
   clear H
   have H := H1
   clear H1
   obtain rfl := Option.some.inj H
   go_wp2
   go_ret
   exact ⟨by first | rfl | (simp; done) | (simp [*]; done), by repeat (first | exact Drawn0.refl _ | apply Drawn0.step)⟩
  replace c5 := Bool.eq_false_iff.mpr c5
  subst c5
  have H1 : (if a0 ≤ 0 then (rotor_quarter.j1 kj2 a0 (decide (a1 > 0))) else (rotor_quarter.j1 kj2 a0 false)) = some r := by rw [if_neg (show ¬ (false = true) by decide)] at H; exact H
  clear H
  have H := H1
  clear H1
  have HC6 := Aside0.mk H
  clear H
  go_upto_region 3 with (fail)
  go_cut [12] (fun v12 wc => ∃ (kq : Nat) (x12_5 : Bool), v12 = .bool x12_5 ∧ Aside0 (rotor_quarter.j1 kq a0 x12_5 = some r) ∧ Aside0 (kq ≤ kj2) ∧ Drawn0 w wc)
  case first =>
   have H := HC6.out
   clear HC6
   by_cases c7 : a0 ≤ 0
   ·
    rw [if_pos c7] at H
    have c7b0 : decide (a0 ≤ 0) = true := decide_eq_true c7
    clear c7
    (first | rw [c7b0] | (simp only [i64_w, i32_w]; rw [c7b0]) | skip)
    have H' := Aside0.mk H
    clear H
    go_wp2
    go_meet
    case rel => exact ⟨_, (decide (a1 > 0)), (by first | rfl | (simp; done) | (simp [*]; done)), H', ⟨by have := HJ2.out; first | omega | exact Nat.le_refl _⟩, by repeat (first | exact Drawn0.refl _ | apply Drawn0.step)⟩
   rw [if_neg c7] at H
   have c7b0 : decide (a0 ≤ 0) = false := decide_eq_false c7
   clear c7
   (first | rw [c7b0] | (simp only [i64_w, i32_w]; rw [c7b0]) | skip)
   have H' := Aside0.mk H
   clear H
   go_wp2
   go_meet
   case rel => exact ⟨_, (false), (by first | rfl | (simp; done) | (simp [*]; done)), H', ⟨by have := HJ2.out; first | omega | exact Nat.le_refl _⟩, by repeat (first | exact Drawn0.refl _ | apply Drawn0.step)⟩
  case' rest => skip
  clear HC6
  try clear c2
  try clear p2
  try clear c4
  try clear c4b0
  try clear c5
  try clear c6
  try clear c7
  try clear c7b0
  try clear p2
  obtain ⟨kq, x12_5, rfl, HA, HJ5, ⟨mc5, rfl⟩⟩ := hcut
  cases kq with
  | zero => exact absurd HA.out (by simp [rotor_quarter.j1])
  | succ kj5 =>
   have H := HA.out
   clear HA
   simp only [rotor_quarter.j1] at H
   by_cases c8 : x12_5 = true
   ·
    subst c8
    have H1 : (some 1) = some r := by rw [if_pos rfl] at H; exact H
    clear H
    have H := H1
    clear H1
    obtain rfl := Option.some.inj H
    go_wp2
    go_ret
    exact ⟨by first | rfl | (simp; done) | (simp [*]; done), by repeat (first | exact Drawn0.refl _ | apply Drawn0.step)⟩
   replace c8 := Bool.eq_false_iff.mpr c8
   subst c8
   have H1 : (if a0 < 0 then (some 2) else (some 3)) = some r := by rw [if_neg (show ¬ (false = true) by decide)] at H; exact H
   clear H
   have H := H1
   clear H1
   by_cases c9 : a0 < 0
   ·
    rw [if_pos c9] at H
    have c9b0 : decide (a0 < 0) = true := decide_eq_true c9
    clear c9
    obtain rfl := Option.some.inj H
    go_wp2
    go_ret
    exact ⟨by first | rfl | (simp; done) | (simp [*]; done), by repeat (first | exact Drawn0.refl _ | apply Drawn0.step)⟩
   rw [if_neg c9] at H
   have c9b0 : decide (a0 < 0) = false := decide_eq_false c9
   clear c9
   obtain rfl := Option.some.inj H
   go_wp2
   go_ret
   exact ⟨by first | rfl | (simp; done) | (simp [*]; done), by repeat (first | exact Drawn0.refl _ | apply Drawn0.step)⟩

/-! ### rotor_Order: function 27 (given) -/
/-- numbers that the law of the order is told of -/
def rotor_Order.okB (f n g m : Int) : Bool := decide (1 ≤ f ∧ f ≤ 1000 ∧ -1000 ≤ n ∧ n ≤ 1000 ∧ 1 ≤ g ∧ g ≤ 1000 ∧ -1000 ≤ m ∧ m ≤ 1000)
def rotor_Order.f (k : Nat) (a0_0 : Int) (a0_1 : Int) (a1_0 : Int) (a1_1 : Int) : Option (Int × Int) :=
 (rotor_Check.f k a0_0 a0_1).bind fun e => if e = 0 then ((rotor_Check.f k a1_0 a1_1).bind fun e1 => if e1 = 0 then (if rotor_Order.okB a0_0 a0_1 a1_0 a1_1 = true then some (RO.ordC a0_0 a0_1 a1_0 a1_1, 0) else none) else some (0, e1)) else some (0, e)
theorem rotor_Order.prod {x v a b : Int} (x0 : -a ≤ x) (x1 : x ≤ a) (v0 : -b ≤ v) (v1 : v ≤ b) (ha : 0 ≤ a) (hb : 0 ≤ b) : -(a * b) ≤ x * v ∧ x * v ≤ a * b := by
 have h1 : (x * v).natAbs ≤ (a * b).natAbs := by
  rw [Int.natAbs_mul, Int.natAbs_mul]
  exact Nat.mul_le_mul (by omega) (by omega)
 have h2 : 0 ≤ a * b := Int.mul_nonneg ha hb
 omega
theorem rotor_Order.parts {f n : Int} (f0 : 1 ≤ f) (f1 : f ≤ 1000) (n0 : -1000 ≤ n) (n1 : n ≤ 1000) : rotor_parts.f f n = some (f * f - n * n, 2 * f * n, f * f + n * n) ∧ (-2000000 ≤ f * f - n * n ∧ f * f - n * n ≤ 2000000) ∧ (-2000000 ≤ 2 * f * n ∧ 2 * f * n ≤ 2000000) := by
 have b1 := rotor_Order.prod (x := f) (v := f) (a := 1000) (b := 1000) (by omega) f1 (by omega) f1 (by omega) (by omega)
 have b2 := rotor_Order.prod (x := n) (v := n) (a := 1000) (b := 1000) n0 n1 n0 n1 (by omega) (by omega)
 have b3 := rotor_Order.prod (x := 2 * f) (v := n) (a := 2000) (b := 1000) (by omega) (by omega) n0 n1 (by omega) (by omega)
 have w : ∀ x : Int, -9000000000000000000 ≤ x → x ≤ 9000000000000000000 → wrap64 x = x := fun x _ _ => by unfold wrap64; omega
 refine ⟨?_, by omega, by omega⟩
 unfold rotor_parts.f
 rw [w f (by omega) (by omega), w n (by omega) (by omega), w (f * f) (by omega) (by omega), w (n * n) (by omega) (by omega), w (2 * f) (by omega) (by omega), w (2 * f * n) (by omega) (by omega), w (f * f - n * n) (by omega) (by omega), w (f * f + n * n) (by omega) (by omega)]
theorem rotor_Order.quarter (k : Nat) (hk : 2 ≤ k) (x y : Int) : rotor_quarter.f k x y = some (RO.qtr x y) := by
 obtain ⟨k, rfl⟩ : ∃ j, k = j + 1 + 1 := ⟨k - 2, by omega⟩
 have hx : x < 0 ∨ x = 0 ∨ 0 < x := by omega
 have hy : y < 0 ∨ y = 0 ∨ 0 < y := by omega
 rcases hx with hx | hx | hx <;> rcases hy with hy | hy | hy <;>
  simp only [rotor_quarter.f, rotor_quarter.j0, rotor_quarter.j1, RO.qtr] <;>
  (have a1 : (0 < x) = (0 < x) := rfl; repeat' split) <;> simp_all <;> omega
/-- which of two, by their quarters and what stands between -/
def rotor_Order.ordV (P Q C : Int) : Int := if P < Q ∨ P = Q ∧ 0 < C then -1 else if Q < P ∨ C < 0 then 1 else 0
set_option maxHeartbeats 4000000 in
set_option maxRecDepth 100000 in
theorem rotor_Order.e1 (k : Nat) (p u q v e : Int) (w : World) (h : rotor_Check.f k p u = some e) (he : e ≠ 0) :
  Calls Try.prog 27 #[.agg #[.int .i32 p, .int .i32 u], .agg #[.int .i32 q, .int .i32 v]] w fun e' w' => e' = .returned (.tuple #[.int .i64 0, .int .i64 e]) ∧ Below w.heap.size w w' := by
 have h57 := Try.underlying90
 have i0 : ∀ w, (Instr.index 90 (.agg #[.int .i32 p, .int .i32 u, .int .i32 q, .int .i32 v]) (.int .i64 0)).run Try.prog w = .ok (.agg #[.int .i32 p, .int .i32 u]) w := fun _ => by kernel_rfl
 have hb : (e != 0) = true := bne_iff_ne.2 he
 have H := GB.hid h
 clear h
 go_enter Try.func27, Try.ntmps27
 go_wp2
 refine wp_loop_rounds 3 ?_
 rw [rounds_succ]
 go_wp2_with fail
 refine (rotor_Check.calls k _ _ _ _ H.out).mono ?_
 rintro e' w1 ⟨rfl, hB⟩
 have HB := GB.hid (GB.bls (by repeat (first | exact GB.bl0 _ | apply GB.bla)) hB : Below w.heap.size w w1)
 clear hB
 go_wp2
 go_ret2
 exact ⟨rfl, by repeat (first | exact HB.out | apply GB.bla | refine GB.blset ?_ (by omega) _ _)⟩
set_option maxHeartbeats 4000000 in
set_option maxRecDepth 100000 in
theorem rotor_Order.e2 (k : Nat) (p u q v e : Int) (w : World) (h0 : rotor_Check.f k p u = some 0) (h : rotor_Check.f k q v = some e) (he : e ≠ 0) :
  Calls Try.prog 27 #[.agg #[.int .i32 p, .int .i32 u], .agg #[.int .i32 q, .int .i32 v]] w fun e' w' => e' = .returned (.tuple #[.int .i64 0, .int .i64 e]) ∧ Below w.heap.size w w' := by
 have h57 := Try.underlying90
 have i0 : ∀ w, (Instr.index 90 (.agg #[.int .i32 p, .int .i32 u, .int .i32 q, .int .i32 v]) (.int .i64 0)).run Try.prog w = .ok (.agg #[.int .i32 p, .int .i32 u]) w := fun _ => by kernel_rfl
 have i1 : ∀ w, (Instr.index 90 (.agg #[.int .i32 p, .int .i32 u, .int .i32 q, .int .i32 v]) (.int .i64 1)).run Try.prog w = .ok (.agg #[.int .i32 q, .int .i32 v]) w := fun _ => by kernel_rfl
 have hb : (e != 0) = true := bne_iff_ne.2 he
 have H0 := GB.hid h0
 have H := GB.hid h
 clear h h0
 go_enter Try.func27, Try.ntmps27
 go_wp2
 refine wp_loop_rounds 3 ?_
 rw [rounds_succ]
 go_wp2_with fail
 refine (rotor_Check.calls k _ _ _ _ H0.out).mono ?_
 rintro e' w1 ⟨rfl, hB⟩
 have HB := GB.hid (GB.bls (by repeat (first | exact GB.bl0 _ | apply GB.bla)) hB : Below w.heap.size w w1)
 clear hB
 go_wp2
 rw [rounds_succ]
 go_wp2_with fail
 refine (rotor_Check.calls k _ _ _ _ H.out).mono ?_
 rintro e' w2 ⟨rfl, hB⟩
 have HB := GB.hid (GB.bls (by repeat (first | exact HB.out | apply GB.bla)) hB : Below w.heap.size w w2)
 clear hB
 go_wp2
 go_ret2
 exact ⟨rfl, by repeat (first | exact HB.out | apply GB.bla | refine GB.blset ?_ (by omega) _ _)⟩
set_option maxHeartbeats 4000000 in
set_option maxRecDepth 100000 in
theorem rotor_Order.e3 (k : Nat) (p u q v X Y O U V R P Q r : Int) (w : World) (h0 : rotor_Check.f k p u = some 0) (h1 : rotor_Check.f k q v = some 0)
  (hx : rotor_parts.f p u = some (X, Y, O)) (hu : rotor_parts.f q v = some (U, V, R)) (hp : rotor_quarter.f 2 X Y = some P) (hq : rotor_quarter.f 2 U V = some Q)
  (E1 : IntKind.i64.wrap (X * V) = X * V) (E2 : IntKind.i64.wrap (Y * U) = Y * U) (E3 : IntKind.i64.wrap (X * V - Y * U) = X * V - Y * U) (hr : rotor_Order.ordV P Q (X * V - Y * U) = r) :
  Calls Try.prog 27 #[.agg #[.int .i32 p, .int .i32 u], .agg #[.int .i32 q, .int .i32 v]] w fun e' w' => e' = .returned (.tuple #[.int .i64 r, .int .i64 0]) ∧ Below w.heap.size w w' := by
 have h57 := Try.underlying90
 have i0 : ∀ w, (Instr.index 90 (.agg #[.int .i32 p, .int .i32 u, .int .i32 q, .int .i32 v]) (.int .i64 0)).run Try.prog w = .ok (.agg #[.int .i32 p, .int .i32 u]) w := fun _ => by kernel_rfl
 have i1 : ∀ w, (Instr.index 90 (.agg #[.int .i32 p, .int .i32 u, .int .i32 q, .int .i32 v]) (.int .i64 1)).run Try.prog w = .ok (.agg #[.int .i32 q, .int .i32 v]) w := fun _ => by kernel_rfl
 have H0 := GB.hid h0
 have H1 := GB.hid h1
 have HX := GB.hid hx
 have HU := GB.hid hu
 have HP := GB.hid hp
 have HQ := GB.hid hq
 have HR := GB.hid hr
 clear h0 h1 hx hu hp hq hr
 go_enter Try.func27, Try.ntmps27
 go_wp2
 refine wp_loop_rounds 3 ?_
 rw [rounds_succ]
 go_wp2_with fail
 refine (rotor_Check.calls k _ _ _ _ H0.out).mono ?_
 rintro e' w1 ⟨rfl, hB⟩
 have KB := GB.hid (((GB.Blk.new (w.alloc (.cells #[.int .i32 p, .int .i32 u] 25)) 25 [.int .i32 q, .int .i32 v]).alloc (.cells #[.int .i32 p, .int .i32 u] 25)).below hB)
 have KA := GB.hid ((((GB.Blk.new w 25 [.int .i32 p, .int .i32 u]).alloc (.cells #[.int .i32 q, .int .i32 v] 25)).alloc (.cells #[.int .i32 p, .int .i32 u] 25)).below hB)
 have HB := GB.hid (GB.bls (by repeat (first | exact GB.bl0 _ | apply GB.bla)) hB : Below w.heap.size w w1)
 clear hB
 go_wp2
 rw [rounds_succ]
 go_wp2_with fail
 refine (rotor_Check.calls k _ _ _ _ H1.out).mono ?_
 rintro e' w2 ⟨rfl, hB⟩
 have KA := GB.hid ((KA.out.alloc (.cells #[.int .i32 q, .int .i32 v] 25)).below hB)
 have KB := GB.hid ((KB.out.alloc (.cells #[.int .i32 q, .int .i32 v] 25)).below hB)
 have HB := GB.hid (GB.bls (by repeat (first | exact HB.out | apply GB.bla)) hB : Below w.heap.size w w2)
 clear hB
 have a0 := KA.out.cell 0 rfl
 have a1 := KA.out.cell 1 rfl
 try simp only [World.size_alloc] at a0 a1
 go_wp2
 rw [rounds_succ]
 go_wp2_with fail
 refine (rotor_parts.calls p u X Y O _ HX.out).mono ?_
 rintro e' w3 ⟨rfl, hB⟩
 have KB := GB.hid (KB.out.below hB)
 have HB := GB.hid (GB.bls HB.out hB)
 clear hB a0 a1
 have b0 := KB.out.cell 0 rfl
 have b1 := KB.out.cell 1 rfl
 try simp only [World.size_alloc] at b0 b1
 go_wp2_with fail
 refine (rotor_parts.calls q v U V R _ HU.out).mono ?_
 rintro e' w4 ⟨rfl, hB⟩
 have HB := GB.hid (GB.bls HB.out hB)
 clear hB b0 b1
 go_wp2_with fail
 refine (rotor_quarter.calls 2 X Y P _ HP.out).mono ?_
 rintro e' w5 ⟨rfl, ⟨⟨nd, rfl⟩⟩⟩
 go_wp2_with fail
 refine (rotor_quarter.calls 2 U V Q _ HQ.out).mono ?_
 rintro e' w6 ⟨rfl, ⟨⟨ne, rfl⟩⟩⟩
 have R0 := HR.out
 unfold rotor_Order.ordV at R0
 clear HR
 obtain ⟨C, hC⟩ : ∃ C, C = X * V - Y * U := ⟨_, rfl⟩
 rw [← hC] at R0
 rcases (by omega : P < Q ∨ (¬ P < Q ∧ P = Q) ∨ (¬ P < Q ∧ ¬ P = Q ∧ Q < P)) with c | ⟨c1, c2⟩ | ⟨c1, c2, c3⟩
 ·
  rw [if_pos (.inl c)] at R0
  have d1 : decide (P < Q) = true := decide_eq_true c
  subst R0
  clear c hC
  go_wp2
  go_ret2
  exact ⟨rfl, by repeat (first | exact HB.out | apply GB.bla | apply GB.bldN)⟩
 ·
  have d1 : decide (P < Q) = false := decide_eq_false c1
  have d2 : (P == Q) = true := beq_iff_eq.2 c2
  have d4 : decide (Q < P) = false := decide_eq_false (by omega)
  rcases (by omega : 0 < C ∨ (¬ 0 < C ∧ C < 0) ∨ (¬ 0 < C ∧ ¬ C < 0)) with s | ⟨s1, s2⟩ | ⟨s1, s2⟩
  ·
   rw [if_pos (.inr ⟨c2, s⟩)] at R0
   have d3 : decide (Y * U < X * V) = true := decide_eq_true (by omega)
   subst R0
   clear c1 c2 s hC
   go_wp2
   go_ret2
   exact ⟨rfl, by repeat (first | exact HB.out | apply GB.bla | apply GB.bldN)⟩
  ·
   rw [if_neg (fun h => by rcases h with h | h; exact c1 h; exact s1 h.2), if_pos (.inr s2)] at R0
   have d3 : decide (Y * U < X * V) = false := decide_eq_false (by omega)
   have d5 : decide (X * V < Y * U) = true := decide_eq_true (by omega)
   have d6 : decide (X * V - Y * U < 0) = true := decide_eq_true (by omega)
   subst R0
   clear c1 c2 s1 s2 hC
   go_wp2
   go_ret2
   exact ⟨rfl, by repeat (first | exact HB.out | apply GB.bla | apply GB.bldN)⟩
  rw [if_neg (fun h => by rcases h with h | h; exact c1 h; exact s1 h.2), if_neg (fun h => by rcases h with h | h; omega; exact s2 h)] at R0
  have d3 : decide (Y * U < X * V) = false := decide_eq_false (by omega)
  have d5 : decide (X * V < Y * U) = false := decide_eq_false (by omega)
  have d6 : decide (X * V - Y * U < 0) = false := decide_eq_false (by omega)
  subst R0
  clear c1 c2 s1 s2 hC
  go_wp2
  go_ret2
  exact ⟨rfl, by repeat (first | exact HB.out | apply GB.bla | apply GB.bldN)⟩
 rw [if_neg (fun h => by rcases h with h | h; exact c1 h; exact c2 h.1), if_pos (.inl c3)] at R0
 have d1 : decide (P < Q) = false := decide_eq_false c1
 have d2 : (P == Q) = false := beq_eq_false_iff_ne.2 c2
 have d4 : decide (Q < P) = true := decide_eq_true c3
 subst R0
 clear c1 c2 c3 hC
 go_wp2
 go_ret2
 exact ⟨rfl, by repeat (first | exact HB.out | apply GB.bla | apply GB.bldN)⟩
theorem rotor_Order.calls (k : Nat) (a0_0 : Int) (a0_1 : Int) (a1_0 : Int) (a1_1 : Int) (r1 : Int) (r2 : Int) (w : World) (h : rotor_Order.f k a0_0 a0_1 a1_0 a1_1 = some (r1, r2)) :
  Calls Try.prog 27 #[.agg #[.int .i32 a0_0, .int .i32 a0_1], .agg #[.int .i32 a1_0, .int .i32 a1_1]] w fun e w' => e = .returned (.tuple #[.int .i64 r1, .int .i64 r2]) ∧ Below w.heap.size w w' := by
 unfold rotor_Order.f at h
 obtain ⟨e, h0, h⟩ := Option.bind_eq_some_iff.mp h
 by_cases he : e = 0
 ·
  subst he
  rw [if_pos rfl] at h
  obtain ⟨e1, h1, h⟩ := Option.bind_eq_some_iff.mp h
  by_cases he1 : e1 = 0
  ·
   subst he1
   rw [if_pos rfl] at h
   split at h
   ·
    rename_i hc
    obtain ⟨f0, f1, n0, n1, g0, g1, m0, m1⟩ := of_decide_eq_true hc
    obtain ⟨hx, bx, by_⟩ := rotor_Order.parts f0 f1 n0 n1
    obtain ⟨hu, bu, bv⟩ := rotor_Order.parts g0 g1 m0 m1
    have p1 := rotor_Order.prod (a := 2000000) (b := 2000000) bx.1 bx.2 bv.1 bv.2 (by omega) (by omega)
    have p2 := rotor_Order.prod (a := 2000000) (b := 2000000) by_.1 by_.2 bu.1 bu.2 (by omega) (by omega)
    cases h
    exact rotor_Order.e3 k _ _ _ _ _ _ _ _ _ _ _ _ _ w h0 h1 hx hu (rotor_Order.quarter 2 (by omega) _ _) (rotor_Order.quarter 2 (by omega) _ _) (IntWalk.i64_in _ (by omega)) (IntWalk.i64_in _ (by omega)) (IntWalk.i64_in _ (by omega)) rfl
   cases h
  rw [if_neg he1] at h
  cases h
  exact rotor_Order.e2 k _ _ _ _ _ w h0 h1 he1
 rw [if_neg he] at h
 cases h
 exact rotor_Order.e1 k _ _ _ _ _ w h0 he

end Go.Proofs.Ytgjmlbcpjjpegaa.PRB
