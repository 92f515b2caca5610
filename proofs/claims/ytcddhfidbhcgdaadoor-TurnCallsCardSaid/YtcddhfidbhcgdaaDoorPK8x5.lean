/- Written by wip/xprint.py (the kit's print over given functions). -/
import Derived.Test.YtcddhfidbhcgdaaDoorPK8x0
import Derived.Test.YtcddhfidbhcgdaaDoorPK8x2
import Derived.Test.YtcddhfidbhcgdaaDoorPK8x3
import Derived.Test.YtcddhfidbhcgdaaDoorPK8x4
namespace Go.Proofs.YtcddhfidbhcgdaaDoor.PK8
open Go.RowKit Go.Proofs.YtcddhfidbhcgdaaDoorW.PrintWords Go.Proofs.YtcddhfidbhcgdaaDoorW.PrintLast Go.Proofs.YtcddhfidbhcgdaaDoorW.PrintMore
attribute [local go_sem] max2_int min2_int max_two min_two max_three min_three max_four min_four   -- for this text's walks alone
set_option linter.unusedVariables false
set_option linter.unusedSimpArgs false

/-! ### slackwaterref08_Add: function 8 (given) -/
def slackwaterref08_Add.tail (k : Nat) (p u q v g : Int) : Option (Int × Int × Int) :=
  if 1 ≤ g ∧ 0 ≤ p ∧ 1 ≤ u ∧ p < u ∧ 0 ≤ q ∧ 1 ≤ v ∧ q < v ∧ u ≤ 4294967296 ∧ v ≤ 4294967296 ∧ u / g * v < 18446744073709551616 ∧ p * (v / g) + q * (u / g) < 2 * (u / g * v) ∧ p * (v / g) < 18446744073709551616 ∧ q * (u / g) < 18446744073709551616 ∧ bits_Mul64.f p (v / g) = some (0, p * (v / g)) ∧ bits_Mul64.f q (u / g) = some (0, q * (u / g)) then
    (slackwaterref08_gcd.f k ((p * (v / g) + q * (u / g)) % (u / g * v)) (u / g * v)).bind fun h => if 1 ≤ h then (if u / g * v / h > 4294967296 then some (0, 0, 3) else some ((p * (v / g) + q * (u / g)) % (u / g * v) / h, u / g * v / h, 0)) else none
  else none
def slackwaterref08_Add.f (k : Nat) (a0_0 : Int) (a0_1 : Int) (a1_0 : Int) (a1_1 : Int) : Option (Int × Int × Int) :=
  (slackwaterref08_Check.f k a0_0 a0_1).bind fun e => if e = 0 then ((slackwaterref08_Check.f k a1_0 a1_1).bind fun e1 => if e1 = 0 then ((slackwaterref08_gcd.f k a0_1 a1_1).bind fun g => slackwaterref08_Add.tail k a0_0 a0_1 a1_0 a1_1 g) else some (0, 0, e1)) else some (0, 0, e)
theorem slackwaterref08_Add.mono : ∀ a0 a1 a2 a3 k, LeO (slackwaterref08_Add.f k a0 a1 a2 a3) (slackwaterref08_Add.f (k + 1) a0 a1 a2 a3) := by
  intro a0 a1 a2 a3 k
  unfold slackwaterref08_Add.f slackwaterref08_Add.tail
  repeat' first
      | exact slackwaterref08_Check.mono _ _ _
      | exact slackwaterref08_gcd.mono _ _ _
      | exact LeO.none _
      | exact LeO.refl _
      | refine LeO.ite ?_ ?_
      | refine LeO.bind ?_ (fun _ => ?_)
/-! ### the divisions -/
set_option maxHeartbeats 2000000 in
set_option maxRecDepth 100000 in
theorem slackwaterref08_Add.div0 (a1 a2 : Int) (w : World) (h1 : 0 ≤ a1) (h2 : 0 < a2) :
    Calls Tryd.prog 34 #[.int .u64 0, .int .u64 a1, .int .u64 a2] w fun e w' => e = .returned (.tuple #[.int .u64 (IntKind.u64.wrap (a1.tdiv a2)), .int .u64 (a1 % a2)]) ∧ Drawn0 w w' := by
  have d1 : (a2 == 0) = false := beq_eq_false_iff_ne.2 (by omega)
  have d2 : decide (a2 ≤ 0) = false := decide_eq_false (by omega)
  go_enter Tryd.func34, Tryd.ntmps34
  go_wp2
  go_quiet (fail)
  go_wp2
  go_ret2
  exact ⟨rfl, by repeat (first | exact Drawn0.refl _ | apply Drawn0.step)⟩
theorem slackwaterref08_Add.bl64 {y : Int} (h0 : 9223372036854775808 ≤ y) (h1 : y < 18446744073709551616) : (64 : Int) - (Lib.bitLen y.toNat : Int) = 0 := by
  have e1 := Lib.bitLen_shift 63 y.toNat (by omega) (by omega)
  rw [show y.toNat / 2 ^ 63 = 1 by omega, show Lib.bitLen 1 = 1 by decide] at e1
  omega
theorem slackwaterref08_Add.mask {x : Int} (h0 : 0 ≤ x) (h1 : x < 18446744073709551616) : bits .and .u64 x 4294967295 = x % 4294967296 :=
  bits_mask .u64 64 (by decide) (fun n h0 h1 => IntWalk.u64_in _ ⟨h0, by have : (2 : Int) ^ 64 = 18446744073709551616 := by decide
                                                                         omega⟩) 32 (by decide) x h0 h1
theorem slackwaterref08_Add.wr {x : Int} (h0 : 0 ≤ x) (h1 : x < 18446744073709551616) : IntKind.u64.wrap x = x := IntWalk.u64_in _ ⟨h0, by omega⟩
theorem slackwaterref08_Add.fin (T U0 a1 a2 : Int) (h : T * 4294967296 + U0 = 18446744073709551616 + a1) (h0 : 0 ≤ U0 ∧ U0 < 4294967296) (h1 : 0 ≤ a1 ∧ a1 < 18446744073709551616 ∧ 18446744073709551616 + a1 < 2 * a2 ∧ a2 < 18446744073709551616) :
    IntKind.u64.wrap (IntKind.u64.wrap (IntKind.u64.wrap (T * 4294967296) + U0) - a2) = 18446744073709551616 + a1 - a2 := by
  rw [IntKind.wrap_u64, IntKind.wrap_u64, IntKind.wrap_u64]
  omega
set_option maxHeartbeats 4000000 in
set_option maxRecDepth 100000 in
theorem slackwaterref08_Add.div1 (a1 a2 : Int) (w : World) (h1 : 0 ≤ a1) (h1b : a1 < 18446744073709551616) (h2 : 18446744073709551616 + a1 < 2 * a2) (h3 : a2 < 18446744073709551616) :
    Calls Tryd.prog 34 #[.int .u64 1, .int .u64 a1, .int .u64 a2] w fun e w' => e = .returned (.tuple #[.int .u64 1, .int .u64 (18446744073709551616 + a1 - a2)]) ∧ Drawn0 w w' := by
  have d1 : (a2 == 0) = false := beq_eq_false_iff_ne.2 (by omega)
  have d2 : decide (a2 ≤ 1) = false := decide_eq_false (by omega)
  have HZ := slackwaterref08_Add.bl64 (y := a2) (by omega) h3
  obtain ⟨Y1, hY1⟩ : ∃ Y1, a2 / 4294967296 = Y1 := ⟨_, rfl⟩
  obtain ⟨Y0, hY0⟩ : ∃ Y0, a2 % 4294967296 = Y0 := ⟨_, rfl⟩
  obtain ⟨U1, hU1⟩ : ∃ U1, a1 / 4294967296 = U1 := ⟨_, rfl⟩
  obtain ⟨U0, hU0⟩ : ∃ U0, a1 % 4294967296 = U0 := ⟨_, rfl⟩
  have m1 : bits .and .u64 a2 4294967295 = Y0 := (slackwaterref08_Add.mask (by omega) h3).trans hY0
  have m2 : bits .and .u64 a1 4294967295 = U0 := (slackwaterref08_Add.mask h1 h1b).trans hU0
  have z1 : a1 / 18446744073709551616 = 0 := by omega
  have o1 : bits .or .u64 1 0 = 1 := by decide
  have y1 : 2147483648 ≤ Y1 := by omega
  have y1b : Y1 < 4294967296 := by omega
  have y0 : 0 ≤ Y0 ∧ Y0 < 4294967296 := by omega
  have u1 : 0 ≤ U1 ∧ U1 < 4294967296 := by omega
  have u0 : 0 ≤ U0 ∧ U0 < 4294967296 := by omega
  have ea1 : a1 = 4294967296 * U1 + U0 := by omega
  have ea2 : a2 = 4294967296 * Y1 + Y0 := by omega
  have t1 : Int.tdiv 1 Y1 = 0 := by rw [Int.tdiv_eq_ediv_of_nonneg (by omega)]; exact Int.ediv_eq_zero_of_lt (by omega) (by omega)
  have w0 : IntKind.u64.wrap 0 = 0 := by decide
  have w1 : IntKind.u64.wrap 1 = 1 := by decide
  have w3 : IntKind.u64.wrap (4294967296 + U1) = 4294967296 + U1 := slackwaterref08_Add.wr (by omega) (by omega)
  have c1 : decide (4294967296 + U1 < 0) = false := decide_eq_false (by omega)
  have HH : Hid (18446744073709551616 + a1 < 2 * a2 ∧ a1 = 4294967296 * U1 + U0 ∧ a2 = 4294967296 * Y1 + Y0) := ⟨h2, ea1, ea2⟩
  have HU := Aside0.mk hU1
  clear h2 ea1 ea2 hY0 hU0
  go_enter Tryd.func34, Tryd.ntmps34
  go_wp2_with fail
  refine (Tryd.bits_LeadingZeros64 a2 _ (by omega) (by omega)).mono ?_
  rintro e w' ⟨rfl, rfl⟩
  rw [HZ]
  obtain ⟨H1, H2, H3⟩ := HH
  obtain ⟨T, hT⟩ : ∃ T, 4294967296 + U1 = T := ⟨_, rfl⟩
  rw [hT] at w3 c1
  have T0 : 4294967296 ≤ T ∧ T < 8589934592 := by omega
  by_cases hc : T < 2 * Y1
  · have tA : Int.tdiv T Y1 = 1 := by
      rw [Int.tdiv_eq_ediv_of_nonneg (by omega)]
      have e : T = (T - Y1) + 1 * Y1 := by omega
      rw [e, Int.add_mul_ediv_right _ _ (by omega), Int.ediv_eq_zero_of_lt (by omega) (by omega)]; rfl
    have wY : IntKind.u64.wrap Y1 = Y1 := slackwaterref08_Add.wr (by omega) (by omega)
    have wT : IntKind.u64.wrap (T - Y1) = T - Y1 := slackwaterref08_Add.wr (by omega) (by omega)
    have hfin : IntKind.u64.wrap (IntKind.u64.wrap (IntKind.u64.wrap (T * 4294967296) + U0) - a2) = 18446744073709551616 + a1 - a2 := slackwaterref08_Add.fin T U0 a1 a2 (by omega) (by omega) (by omega)
    have HF := Aside0.mk hfin
    clear H1 H2 H3 hfin
    go_wp2
    refine wp_loop_rounds 3 ?_
    rw [rounds_succ]
    go_wp2
    refine wp_loop_rounds 3 ?_
    rw [rounds_succ]
    go_wp2
    go_ret2
    exact ⟨by rw [HF.out]; rfl, by repeat (first | exact Drawn0.refl _ | apply Drawn0.step)⟩
  · have e2 : T - 2 * Y1 = 0 ∨ T - 2 * Y1 = 1 := by omega
    obtain ⟨D, hD⟩ : ∃ D, T - 2 * Y1 = D := ⟨_, rfl⟩
    rw [hD] at e2
    have tB : Int.tdiv T Y1 = 2 := by
      rw [Int.tdiv_eq_ediv_of_nonneg (by omega)]
      have e : T = D + 2 * Y1 := by omega
      rw [e, Int.add_mul_ediv_right _ _ (by omega), Int.ediv_eq_zero_of_lt (by omega) (by omega)]; rfl
    have w2 : IntKind.u64.wrap 2 = 2 := by decide
    have wY : IntKind.u64.wrap (2 * Y1) = 2 * Y1 := slackwaterref08_Add.wr (by omega) (by omega)
    have wT : IntKind.u64.wrap (T - 2 * Y1) = D := by rw [hD]; exact slackwaterref08_Add.wr (by omega) (by omega)
    have wD : IntKind.u64.wrap (4294967296 * D) = 4294967296 * D := slackwaterref08_Add.wr (by omega) (by omega)
    have wDU : IntKind.u64.wrap (4294967296 * D + U0) = 4294967296 * D + U0 := slackwaterref08_Add.wr (by omega) (by omega)
    have w2Y : IntKind.u64.wrap (2 * Y0) = 2 * Y0 := slackwaterref08_Add.wr (by omega) (by omega)
    have wDY : IntKind.u64.wrap (D + Y1) = D + Y1 := slackwaterref08_Add.wr (by omega) (by omega)
    have cB : decide (4294967296 * D + U0 < 2 * Y0) = true := decide_eq_true (by omega)
    have hfin : IntKind.u64.wrap (IntKind.u64.wrap (IntKind.u64.wrap (T * 4294967296) + U0) - a2) = 18446744073709551616 + a1 - a2 := slackwaterref08_Add.fin T U0 a1 a2 (by omega) (by omega) (by omega)
    have HF := Aside0.mk hfin
    have HE := Aside0.mk (show D = 0 ∨ D = 1 from e2)
    clear H1 H2 H3 hfin hD e2
    by_cases hb : 4294967296 ≤ D + Y1
    · go_wp2
      refine wp_loop_rounds 3 ?_
      rw [rounds_succ]
      go_wp2
      refine wp_loop_rounds 3 ?_
      rw [rounds_succ]
      go_wp2
      go_ret2
      exact ⟨by rw [HF.out]; rfl, by repeat (first | exact Drawn0.refl _ | apply Drawn0.step)⟩
    · have wE : IntKind.u64.wrap (4294967296 * (D + Y1)) = 4294967296 * (D + Y1) := slackwaterref08_Add.wr (by have := HE.out; omega) (by omega)
      have wEU : IntKind.u64.wrap (4294967296 * (D + Y1) + U0) = 4294967296 * (D + Y1) + U0 := slackwaterref08_Add.wr (by have := HE.out; omega) (by omega)
      have cC : decide (4294967296 * (D + Y1) + U0 < Y0) = false := decide_eq_false (by have := HE.out; omega)
      go_wp2
      refine wp_loop_rounds 3 ?_
      rw [rounds_succ]
      go_wp2
      refine wp_loop_rounds 3 ?_
      rw [rounds_succ]
      go_wp2
      rw [rounds_succ]
      go_wp2
      go_ret2
      exact ⟨by rw [HF.out]; rfl, by repeat (first | exact Drawn0.refl _ | apply Drawn0.step)⟩
def slackwaterref08_Add.qv (S W : Int) : Int := if S < 18446744073709551616 then IntKind.u64.wrap (S.tdiv W) else 1
theorem slackwaterref08_Add.divS (S W C R : Int) (w : World) (S0 : 0 ≤ S) (S2 : S < 2 * W) (W0 : 0 < W) (W1 : W < 18446744073709551616) (hC : S / 18446744073709551616 = C) (hR : S % 18446744073709551616 = R) :
    Calls Tryd.prog 34 #[.int .u64 C, .int .u64 R, .int .u64 W] w fun e w' => e = .returned (.tuple #[.int .u64 (slackwaterref08_Add.qv S W), .int .u64 (S % W)]) ∧ Drawn0 w w' := by
  unfold slackwaterref08_Add.qv
  by_cases h : S < 18446744073709551616
  · obtain rfl : C = 0 := by omega
    obtain rfl : R = S := by omega
    rw [if_pos h]
    exact slackwaterref08_Add.div0 R W w (by omega) W0
  · obtain rfl : C = 1 := by omega
    rw [if_neg h]
    have e : S % W = 18446744073709551616 + R - W := by
      rw [← Int.sub_emod_right S W, Int.emod_eq_of_lt (by omega) (by omega)]; omega
    rw [e]
    exact slackwaterref08_Add.div1 R W w (by omega) (by omega) (by omega) W1
theorem slackwaterref08_Add.add64 (x y : Int) (z : Int) (hx : 0 ≤ x) (hy : 0 ≤ y) (hz : 0 ≤ z ∧ z ≤ 1) (w : World) :
    (callFunc 30 #[.int .u64 x, .int .u64 y, .int .u64 z]).run Tryd.prog w = .ok (.value (.tuple #[.int .u64 ((x + y + z) % 18446744073709551616), .int .u64 ((x + y + z) / 18446744073709551616)])) w := by
  rw [run_callFunc_extern (fn := Tryd.f30) (by kernel_rfl) (by kernel_rfl) (by kernel_rfl) (by kernel_rfl) (e := add64Entry) (by kernel_rfl), run_add64 x y z hx hy hz.1 (by omega)]
  rfl
set_option maxHeartbeats 4000000 in
set_option maxRecDepth 100000 in
theorem slackwaterref08_Add.e1 (k : Nat) (p u q v e : Int) (w : World) (h : slackwaterref08_Check.f k p u = some e) (he : e ≠ 0) :
    Calls Tryd.prog 8 #[.agg #[.int .i64 p, .int .i64 u], .agg #[.int .i64 q, .int .i64 v]] w fun e' w' => e' = .returned (.tuple #[.agg #[.int .i64 0, .int .i64 0], .int .i64 e]) ∧ Below w.heap.size w w' := by
  have hb : (e != 0) = true := bne_iff_ne.2 he
  have H := GB.hid h
  clear h
  go_enter Tryd.func8, Tryd.ntmps8
  go_wp2_with fail
  refine (slackwaterref08_Check.calls k _ _ _ _ H.out).mono ?_
  rintro e' w1 ⟨rfl, hB⟩
  have K := GB.hid ((GB.Blk.new ((w.alloc (.cells #[.int .i64 p, .int .i64 u] 23)).alloc (.cells #[.int .i64 q, .int .i64 v] 23)) 23 [.int .i64 0, .int .i64 0]).below hB)
  have HB := GB.hid (GB.bls (by repeat (first | exact GB.bl0 _ | apply GB.bla)) hB : Below w.heap.size w w1)
  clear hB
  have c0 := K.out.cell 0 rfl
  have c1 := K.out.cell 1 rfl
  have f0 := K.out.free 0
  have f1 := K.out.free 1
  simp only [World.size_alloc] at c0 c1 f0 f1
  go_wp2
  refine bodyPost_ret (v := .tuple #[.agg #[.int .i64 0, .int .i64 0], .int .i64 e]) (by simp [results, Tryd.results8, go_sem, c0, c1]) rfl ⟨rfl, ?_⟩
  repeat (first | exact HB.out | apply GB.bla | refine GB.blset ?_ (by omega) _ _)
set_option maxHeartbeats 4000000 in
set_option maxRecDepth 100000 in
theorem slackwaterref08_Add.e2 (k : Nat) (p u q v e : Int) (w : World) (h0 : slackwaterref08_Check.f k p u = some 0) (h : slackwaterref08_Check.f k q v = some e) (he : e ≠ 0) :
    Calls Tryd.prog 8 #[.agg #[.int .i64 p, .int .i64 u], .agg #[.int .i64 q, .int .i64 v]] w fun e' w' => e' = .returned (.tuple #[.agg #[.int .i64 0, .int .i64 0], .int .i64 e]) ∧ Below w.heap.size w w' := by
  have hb : (e != 0) = true := bne_iff_ne.2 he
  have H0 := GB.hid h0
  have H := GB.hid h
  clear h h0
  go_enter Tryd.func8, Tryd.ntmps8
  go_wp2_with fail
  refine (slackwaterref08_Check.calls k _ _ _ _ H0.out).mono ?_
  rintro e' w1 ⟨rfl, hB⟩
  have K := GB.hid ((GB.Blk.new ((w.alloc (.cells #[.int .i64 p, .int .i64 u] 23)).alloc (.cells #[.int .i64 q, .int .i64 v] 23)) 23 [.int .i64 0, .int .i64 0]).below hB)
  have KB := GB.hid ((((GB.Blk.new (w.alloc (.cells #[.int .i64 p, .int .i64 u] 23)) 23 [.int .i64 q, .int .i64 v]).alloc (.cells #[.int .i64 0, .int .i64 0] 23))).below hB)
  have HB := GB.hid (GB.bls (by repeat (first | exact GB.bl0 _ | apply GB.bla)) hB : Below w.heap.size w w1)
  clear hB
  have b0 := KB.out.cell 0 rfl
  have b1 := KB.out.cell 1 rfl
  simp only [World.size_alloc] at b0 b1
  go_wp2_with fail
  refine (slackwaterref08_Check.calls k _ _ _ _ H.out).mono ?_
  rintro e' w2 ⟨rfl, hB⟩
  have K := GB.hid (K.out.below hB)
  have HB := GB.hid (GB.bls HB.out hB : Below w.heap.size w w2)
  clear hB
  have c0 := K.out.cell 0 rfl
  have c1 := K.out.cell 1 rfl
  have f0 := K.out.free 0
  have f1 := K.out.free 1
  simp only [World.size_alloc] at c0 c1 f0 f1
  go_wp2
  refine bodyPost_ret (v := .tuple #[.agg #[.int .i64 0, .int .i64 0], .int .i64 e]) (by simp [results, Tryd.results8, go_sem, c0, c1]) rfl ⟨rfl, ?_⟩
  repeat (first | exact HB.out | apply GB.bla | refine GB.blset ?_ (by omega) _ _)
set_option maxHeartbeats 4000000 in
set_option maxRecDepth 100000 in
theorem slackwaterref08_Add.e3 (k : Nat) (p u q v g h : Int) (w : World) (h0 : slackwaterref08_Check.f k p u = some 0) (h1 : slackwaterref08_Check.f k q v = some 0) (h2 : slackwaterref08_gcd.f k u v = some g)
    (g1 : 1 ≤ g) (p0 : 0 ≤ p) (p1 : p < u) (u1 : u ≤ 4294967296) (q0 : 0 ≤ q) (q1 : q < v) (v1 : v ≤ 4294967296) (V U S W : Int) (hV : v / g = V) (hU : u / g = U) (V0 : 0 ≤ V) (V1 : V ≤ 4294967296) (U0 : 0 ≤ U) (U1 : U ≤ 4294967296) (hW : U * v = W) (W1 : W < 18446744073709551616) (W0 : 0 ≤ W)
    (X Y : Int) (hX : bits_Mul64.f p V = some (0, X)) (hY : bits_Mul64.f q U = some (0, Y)) (X0 : 0 ≤ X) (X1 : X < 18446744073709551616) (Y0 : 0 ≤ Y) (Y1 : Y < 18446744073709551616) (hS : X + Y < 2 * W)
    (P : Int) (hP : (X + Y) % W = P) (hh1 : 1 ≤ h) (hh : slackwaterref08_gcd.f k P W = some h) (r1 r2 r3 : Int) (hr : (if W / h > 4294967296 then ((0 : Int), (0 : Int), (3 : Int)) else (P / h, W / h, 0)) = (r1, r2, r3)) :
    Calls Tryd.prog 8 #[.agg #[.int .i64 p, .int .i64 u], .agg #[.int .i64 q, .int .i64 v]] w fun e' w' => e' = .returned (.tuple #[.agg #[.int .i64 r1, .int .i64 r2], .int .i64 r3]) ∧ Below w.heap.size w w' := by
  have H0 := GB.hid h0
  have H1 := GB.hid h1
  have H2 := GB.hid h2
  have HX := GB.hid hX
  have HY := GB.hid hY
  have HH := GB.hid hh
  have HV := GB.hid hV
  have HU := GB.hid hU
  have HW := GB.hid hW
  have HP := GB.hid hP
  have HR := GB.hid hr
  clear hr hP h0 h1 h2 hX hY hh hV hU hW
  have E0 : IntKind.u64.wrap u = u := slackwaterref08_Add.wr (by omega) (by omega)
  have E1 : IntKind.u64.wrap v = v := slackwaterref08_Add.wr (by omega) (by omega)
  have E2 : IntKind.u64.wrap p = p := slackwaterref08_Add.wr (by omega) (by omega)
  have E3 : IntKind.u64.wrap q = q := slackwaterref08_Add.wr (by omega) (by omega)
  go_enter Tryd.func8, Tryd.ntmps8
  go_wp2_with fail
  refine (slackwaterref08_Check.calls k _ _ _ _ H0.out).mono ?_
  rintro e' w1 ⟨rfl, hB⟩
  have K := GB.hid ((GB.Blk.new ((w.alloc (.cells #[.int .i64 p, .int .i64 u] 23)).alloc (.cells #[.int .i64 q, .int .i64 v] 23)) 23 [.int .i64 0, .int .i64 0]).below hB)
  have KA := GB.hid (((((GB.Blk.new w 23 [.int .i64 p, .int .i64 u]).alloc (.cells #[.int .i64 q, .int .i64 v] 23)).alloc (.cells #[.int .i64 0, .int .i64 0] 23))).below hB)
  have KB := GB.hid ((((GB.Blk.new (w.alloc (.cells #[.int .i64 p, .int .i64 u] 23)) 23 [.int .i64 q, .int .i64 v]).alloc (.cells #[.int .i64 0, .int .i64 0] 23))).below hB)
  have HB := GB.hid (GB.bls (by repeat (first | exact GB.bl0 _ | apply GB.bla)) hB : Below w.heap.size w w1)
  clear hB
  have b0 := KB.out.cell 0 rfl
  have b1 := KB.out.cell 1 rfl
  simp only [World.size_alloc] at b0 b1
  go_wp2_with fail
  refine (slackwaterref08_Check.calls k _ _ _ _ H1.out).mono ?_
  rintro e' w2 ⟨rfl, hB⟩
  have K := GB.hid (K.out.below hB)
  have KA := GB.hid (KA.out.below hB)
  have KB := GB.hid (KB.out.below hB)
  have HB := GB.hid (GB.bls HB.out hB : Below w.heap.size w w2)
  clear hB b0 b1
  have a0 := KA.out.cell 0 rfl
  have a1 := KA.out.cell 1 rfl
  have b0 := KB.out.cell 0 rfl
  have b1 := KB.out.cell 1 rfl
  simp only [World.size_alloc] at a0 a1 b0 b1
  go_wp2_with fail
  refine (slackwaterref08_gcd.calls k u v g _ H2.out).mono ?_
  rintro e' w3 ⟨rfl, nd, rfl⟩
  have E4 : IntKind.u64.wrap (Int.tdiv u g) = U := by rw [Int.tdiv_eq_ediv_of_nonneg (by omega), HU.out]; exact slackwaterref08_Add.wr (by omega) (by omega)
  have E5 : IntKind.u64.wrap (Int.tdiv v g) = V := by rw [Int.tdiv_eq_ediv_of_nonneg (by omega), HV.out]; exact slackwaterref08_Add.wr (by omega) (by omega)
  have E6 : IntKind.u64.wrap (U * v) = W := by rw [HW.out]; exact slackwaterref08_Add.wr (by omega) (by omega)
  go_upto_region 9 with (go_quiet (fail))
  go_cut [9, 10] from 45 to 57 (fun hi lo wx => hi = .int .u64 0 ∧ lo = .int .u64 X ∧ ∃ n, wx = w2.drewN n)
  case first =>
    go_region_with (first | (go_at_call 33; refine (bits_Mul64.calls p V 0 X _ HX.out).mono ?_; rintro e' w3 ⟨rfl, ne, rfl⟩))
    all_goals
      go_wp2_with fail
      go_meet
      exact ⟨rfl, rfl, _, rfl⟩
  case rest =>
    obtain ⟨rfl, rfl, n1, rfl⟩ := hcut
    go_upto_region 10 with fail
    go_cut [11, 12] from 57 to 69 (fun hi lo wx => hi = .int .u64 0 ∧ lo = .int .u64 Y ∧ ∃ n, wx = w2.drewN n)
    case first =>
      go_region_with (first | (go_at_call 33; refine (bits_Mul64.calls q U 0 Y _ HY.out).mono ?_; rintro e' w3 ⟨rfl, ne, rfl⟩))
      all_goals
        go_wp2_with fail
        go_meet
        exact ⟨rfl, rfl, _, rfl⟩
    case rest =>
      obtain ⟨rfl, rfl, n2, rfl⟩ := hcut
      have hadd := slackwaterref08_Add.add64 X Y 0 X0 Y0 (by omega)
      simp only [Int.add_zero] at hadd
      obtain ⟨C, hC⟩ : ∃ C, (X + Y) / 18446744073709551616 = C := ⟨_, rfl⟩
      obtain ⟨R, hR⟩ : ∃ R, (X + Y) % 18446744073709551616 = R := ⟨_, rfl⟩
      have C01 : 0 ≤ C ∧ C ≤ 1 := by omega
      have hadd2 := slackwaterref08_Add.add64 0 0 C (by omega) (by omega) C01
      rw [show (0 + 0 + C) % 18446744073709551616 = C by omega, show (0 + 0 + C) / 18446744073709551616 = 0 by omega] at hadd2
      rw [hC, hR] at hadd
      have E7 : Int.tmod C W = C := by rw [Int.tmod_eq_emod_of_nonneg (by omega)]; exact Int.emod_eq_of_lt (by omega) (by omega)
      have HD := GB.hid (fun w => slackwaterref08_Add.divS (X + Y) W C R w (by omega) (by omega) (by omega) W1 hC hR)
      have hP := HP.out
      have P0 : 0 ≤ P := by rw [← hP]; exact Int.emod_nonneg _ (by omega)
      have P1 : P < W := by rw [← hP]; exact Int.emod_lt_of_pos _ (by omega)
      rw [hP] at HD
      have E8 : IntKind.u64.wrap (Int.tdiv W h) = W / h := by rw [Int.tdiv_eq_ediv_of_nonneg (by omega)]; exact slackwaterref08_Add.wr (Int.ediv_nonneg (by omega) (by omega)) (by have := Int.ediv_le_self h W0; omega)
      have E9 : IntKind.u64.wrap (Int.tdiv P h) = P / h := by rw [Int.tdiv_eq_ediv_of_nonneg (by omega)]; exact slackwaterref08_Add.wr (Int.ediv_nonneg (by omega) (by omega)) (by have := Int.ediv_le_self h P0; omega)
      clear hC hR hP hS
      have P1b : P / h ≤ P := Int.ediv_le_self h P0
      have W1b : W / h ≤ W := Int.ediv_le_self h W0
      have P2 : 0 ≤ P / h := Int.ediv_nonneg P0 (by omega)
      have W2 : 0 ≤ W / h := Int.ediv_nonneg W0 (by omega)
      have hz : (W == 0) = false := beq_eq_false_iff_ne.2 (by omega)
      have hz2 : (h == 0) = false := beq_eq_false_iff_ne.2 (by omega)
      go_wp2_with fail
      refine (HD.out _).mono ?_
      rintro e' w3 ⟨rfl, nd2, rfl⟩
      go_wp2_with fail
      refine (slackwaterref08_gcd.calls k P W h _ HH.out).mono ?_
      rintro e' w3 ⟨rfl, nd3, rfl⟩
      have c0 := K.out.cell 0 rfl
      have c1 := K.out.cell 1 rfl
      have f0 := K.out.free 0
      have f1 := K.out.free 1
      simp only [World.size_alloc] at c0 c1 f0 f1
      have P3 : P / h ≤ W / h := Int.ediv_le_ediv (by omega) (by omega)
      by_cases hbig : 4294967296 < W / h
      · have d1 : decide (4294967296 < W / h) = true := decide_eq_true hbig
        have hr := HR.out
        rw [if_pos hbig] at hr
        cases hr
        clear HR
        go_wp2
        refine bodyPost_ret (v := .tuple #[.agg #[.int .i64 0, .int .i64 0], .int .i64 3]) (by simp [results, Tryd.results8, go_sem, c0, c1]) rfl ⟨rfl, ?_⟩
        repeat (first | exact HB.out | apply GB.bla | refine GB.blset ?_ (by omega) _ _ | apply GB.bldN)
      · have d1 : decide (4294967296 < W / h) = false := decide_eq_false hbig
        have hr := HR.out
        rw [if_neg hbig] at hr
        cases hr
        clear HR
        have E10 : IntKind.i64.wrap (P / h) = P / h := IntWalk.i64_in _ (by omega)
        have E11 : IntKind.i64.wrap (W / h) = W / h := IntWalk.i64_in _ (by omega)
        go_wp2
        go_region_with (fail)
        all_goals
          go_wp2
          refine bodyPost_ret (v := .tuple #[.agg #[.int .i64 (P / h), .int .i64 (W / h)], .int .i64 0]) (by simp [results, Tryd.results8, go_sem, c0, c1]) rfl ⟨rfl, ?_⟩
          repeat (first | exact HB.out | apply GB.bla | refine GB.blset ?_ (by omega) _ _ | apply GB.bldN | apply GB.bld)
theorem slackwaterref08_Add.calls (k : Nat) (a0_0 : Int) (a0_1 : Int) (a1_0 : Int) (a1_1 : Int) (r1 : Int) (r2 : Int) (r3 : Int) (w : World) (h : slackwaterref08_Add.f k a0_0 a0_1 a1_0 a1_1 = some (r1, r2, r3)) :
    Calls Tryd.prog 8 #[.agg #[.int .i64 a0_0, .int .i64 a0_1], .agg #[.int .i64 a1_0, .int .i64 a1_1]] w fun e w' => e = .returned (.tuple #[.agg #[.int .i64 r1, .int .i64 r2], .int .i64 r3]) ∧ Below w.heap.size w w' := by
  unfold slackwaterref08_Add.f at h
  obtain ⟨e, h0, h⟩ := Option.bind_eq_some_iff.mp h
  by_cases he : e = 0
  · subst he
    rw [if_pos rfl] at h
    obtain ⟨e1, h1, h⟩ := Option.bind_eq_some_iff.mp h
    by_cases he1 : e1 = 0
    · subst he1
      rw [if_pos rfl] at h
      obtain ⟨g, h2, h⟩ := Option.bind_eq_some_iff.mp h
      unfold slackwaterref08_Add.tail at h
      split at h
      · rename_i hc
        obtain ⟨g1, p0, u0, pu, q0, v0, qv, u1, v1, W1, hS, X1, Y1, m1, m2⟩ := hc
        obtain ⟨d, hd, h⟩ := Option.bind_eq_some_iff.mp h
        split at h
        · rename_i hd1
          have V0 : 0 ≤ a1_1 / g := Int.ediv_nonneg (by omega) (by omega)
          have U0 : 0 ≤ a0_1 / g := Int.ediv_nonneg (by omega) (by omega)
          have V1 : a1_1 / g ≤ a1_1 := Int.ediv_le_self _ (by omega)
          have U1 : a0_1 / g ≤ a0_1 := Int.ediv_le_self _ (by omega)
          refine slackwaterref08_Add.e3 k a0_0 a0_1 a1_0 a1_1 g d w h0 h1 h2 g1 p0 pu u1 q0 qv v1 _ _ 0 _ rfl rfl V0 (by omega) U0 (by omega) rfl W1 (Int.mul_nonneg U0 (by omega)) _ _ m1 m2 (Int.mul_nonneg p0 V0) X1 (Int.mul_nonneg q0 U0) Y1 hS _ rfl hd1 hd r1 r2 r3 ?_
          split at h
          · rename_i hb; rw [if_pos hb]; exact Option.some.inj h
          · rename_i hb; rw [if_neg hb]; exact Option.some.inj h
        · cases h
      · cases h
    · rw [if_neg he1] at h
      cases h
      exact slackwaterref08_Add.e2 k _ _ _ _ _ w h0 h1 he1
  · rw [if_neg he] at h
    cases h
    exact slackwaterref08_Add.e1 k _ _ _ _ _ w h0 he


/-! ### slackwaterref08_Sub: function 10 -/
def slackwaterref08_Sub.f (k : Nat) (a0_0 : Int) (a0_1 : Int) (a1_0 : Int) (a1_1 : Int) : Option (Int × Int × Int) := (slackwaterref08_Check.f k a0_0 a0_1).bind fun t165 => (if t165 = 0 then ((slackwaterref08_Neg.f k a1_0 a1_1).bind fun bt166 => (if bt166.2.2 = 0 then ((slackwaterref08_Add.f k a0_0 a0_1 bt166.1 bt166.2.1).bind fun bt169 => (some (bt169.1, bt169.2.1, bt169.2.2))) else (some (0, 0, bt166.2.2)))) else (some (0, 0, t165)))
theorem slackwaterref08_Sub.mono : ∀ a0 a1 a2 a3 k, LeO (slackwaterref08_Sub.f k a0 a1 a2 a3) (slackwaterref08_Sub.f (k + 1) a0 a1 a2 a3) := by
  intro a0 a1 a2 a3 k
  unfold slackwaterref08_Sub.f
  repeat' first
      | (with_reducible exact slackwaterref08_Add.mono _ _ _ _ _)
      | (with_reducible exact slackwaterref08_Check.mono _ _ _)
      | (with_reducible exact slackwaterref08_Neg.mono _ _ _)
      | (with_reducible exact LeO.refl _)
      | (with_reducible exact LeO.none _)
      | (with_reducible refine LeO.ite ?_ ?_)
      | (with_reducible refine LeO.bind ?_ (fun _ => ?_))
      | exact slackwaterref08_Add.mono _ _ _ _ _
      | exact slackwaterref08_Check.mono _ _ _
      | exact slackwaterref08_Neg.mono _ _ _
      | exact LeO.none _
      | refine LeO.ite ?_ ?_
      | refine LeO.bind ?_ (fun _ => ?_)
set_option maxHeartbeats 8000000 in
set_option maxRecDepth 100000 in
theorem slackwaterref08_Sub.calls (k : Nat) (a0_0 : Int) (a0_1 : Int) (a1_0 : Int) (a1_1 : Int) (r1 : Int) (r2 : Int) (r3 : Int) (w : World) (h : slackwaterref08_Sub.f k a0_0 a0_1 a1_0 a1_1 = some (r1, r2, r3)) :
    Calls Tryd.prog 10 #[.agg #[.int .i64 a0_0, .int .i64 a0_1], .agg #[.int .i64 a1_0, .int .i64 a1_1]] w fun e w' => e = .returned (.tuple #[.agg #[.int .i64 r1, .int .i64 r2], .int .i64 r3]) ∧ Below w.heap.size w w' := by
  have hu23 := Tryd.underlying23
  have HB := Aside0.mk (Below.refl w.heap.size w)
  have H : ((slackwaterref08_Check.f k a0_0 a0_1).bind fun t165 => (if t165 = 0 then ((slackwaterref08_Neg.f k a1_0 a1_1).bind fun bt166 => (if bt166.2.2 = 0 then ((slackwaterref08_Add.f k a0_0 a0_1 bt166.1 bt166.2.1).bind fun bt169 => (some (bt169.1, bt169.2.1, bt169.2.2))) else (some (0, 0, bt166.2.2)))) else (some (0, 0, t165)))) = some (r1, r2, r3) := h
  clear h
  replace H := Option.bind_eq_some_iff.mp H
  obtain ⟨t165, A30, H⟩ := H
  replace H : (if t165 = 0 then ((slackwaterref08_Neg.f k a1_0 a1_1).bind fun bt166 => (if bt166.2.2 = 0 then ((slackwaterref08_Add.f k a0_0 a0_1 bt166.1 bt166.2.1).bind fun bt169 => (some (bt169.1, bt169.2.1, bt169.2.2))) else (some (0, 0, bt166.2.2)))) else (some (0, 0, t165))) = some (r1, r2, r3) := H
  have A3 := Aside0.mk A30
  clear A30
  by_cases c4 : t165 = 0
  · rw [if_pos c4] at H
    have c4b0 : (t165 == 0) = true := beq_iff_eq.mpr c4
    have c4b1 : (t165 != 0) = false := bne_eq_false_iff_eq.mpr c4
    clear c4
    replace H := Option.bind_eq_some_iff.mp H
    obtain ⟨⟨t166, t167, t168⟩, A50, H⟩ := H
    replace H : (if t168 = 0 then ((slackwaterref08_Add.f k a0_0 a0_1 t166 t167).bind fun bt169 => (some (bt169.1, bt169.2.1, bt169.2.2))) else (some (0, 0, t168))) = some (r1, r2, r3) := H
    have A5 := Aside0.mk A50
    clear A50
    by_cases c6 : t168 = 0
    · rw [if_pos c6] at H
      have c6b0 : (t168 == 0) = true := beq_iff_eq.mpr c6
      have c6b1 : (t168 != 0) = false := bne_eq_false_iff_eq.mpr c6
      clear c6
      replace H := Option.bind_eq_some_iff.mp H
      obtain ⟨⟨t169, t170, t171⟩, A70, H⟩ := H
      replace H : (some (t169, t170, t171)) = some (r1, r2, r3) := H
      have A7 := Aside0.mk A70
      clear A70
      simp only [Option.some.injEq, Prod.mk.injEq] at H
      obtain ⟨rfl, rfl, rfl⟩ := H
      go_enter Tryd.func10, Tryd.ntmps10
      go_wp2_with (first | ((with_reducible refine gate_dst (N := 2) rfl ?_); refine box_event ?hg (N := 2) ?hd (cs := #[.int .i64 a0_0, .int .i64 a0_1]) (t := 23) ?hr ?_; (case hd => rfl); (case hg => rfl); (case hr => first | (go_simp; done) | (go_simp; rfl)); intro gb162 hg w8 hbox hb; have n0_ := Aside0.mk (below_step (by repeat (first | (with_reducible first | exact HB.out | apply below_alloc | apply pw_below_drewN | apply below_drew1) | exact HB.out)) hb); have n1_ := Aside0.mk (hbox); have n2_ := Aside0.mk ((by rw [hg]; exact (below_size (by repeat (first | (with_reducible first | exact HB.out | apply below_alloc | apply pw_below_drewN | apply below_drew1) | exact HB.out))) : w.heap.size ≤ gb162)); have n3_ := Aside0.mk ((by rw [hg]; exact (below_size (by repeat (first | (with_reducible first | exact HB.out | apply below_alloc | apply pw_below_drewN | apply below_drew1) | exact HB.out))) : w.heap.size ≤ gb162)); clear HB; have HB := n0_; have BK162 := n1_; have GW162 := n2_; have GE162 := n3_; clear n0_ n1_ n2_ n3_; clear hb hbox hg) | ((with_reducible refine gate_dst (N := 3) rfl ?_); refine box_event ?hg (N := 3) ?hd (cs := #[.int .i64 a1_0, .int .i64 a1_1]) (t := 23) ?hr ?_; (case hd => rfl); (case hg => rfl); (case hr => first | (go_simp; done) | (go_simp; rfl)); intro gb163 hg w9 hbox hb; have n0_ := Aside0.mk (blk_below (g := gb162) (o := .cells #[.int .i64 a0_0, .int .i64 a0_1] 23 (0, 0)) (by (with_reducible repeat (first | refine blk_drewN ?_ _ | refine blk_drew ?_ | refine blk_alloc ?_ _)); exact BK162.out) hb); have n1_ := Aside0.mk (below_step (by repeat (first | (with_reducible first | exact HB.out | apply below_alloc | apply pw_below_drewN | apply below_drew1 | refine below_set ?_ GE162.out) | exact HB.out)) hb); have n2_ := Aside0.mk (hbox); have n3_ := Aside0.mk ((by rw [hg]; exact (below_size (by repeat (first | (with_reducible first | exact HB.out | apply below_alloc | apply pw_below_drewN | apply below_drew1 | refine below_set ?_ GE162.out) | exact HB.out))) : w.heap.size ≤ gb163)); have n4_ := Aside0.mk ((by rw [hg]; exact (below_size (by repeat (first | (with_reducible first | exact HB.out | apply below_alloc | apply pw_below_drewN | apply below_drew1 | refine below_set ?_ GE162.out) | exact HB.out))) : w.heap.size ≤ gb163)); have n5_ := Aside0.mk ((by rw [hg]; exact Nat.ne_of_lt (blk_lt (g := gb162) (o := .cells #[.int .i64 a0_0, .int .i64 a0_1] 23 (0, 0)) (by (with_reducible repeat (first | refine blk_drewN ?_ _ | refine blk_drew ?_ | refine blk_alloc ?_ _)); exact BK162.out)) : gb162 ≠ gb163)); have n6_ := Aside0.mk ((by rw [hg]; exact Nat.ne_of_gt (blk_lt (g := gb162) (o := .cells #[.int .i64 a0_0, .int .i64 a0_1] 23 (0, 0)) (by (with_reducible repeat (first | refine blk_drewN ?_ _ | refine blk_drew ?_ | refine blk_alloc ?_ _)); exact BK162.out)) : gb163 ≠ gb162)); clear BK162; clear HB; have BK162 := n0_; have HB := n1_; have BK163 := n2_; have GW163 := n3_; have GE163 := n4_; have NB162_163 := n5_; have NB163_162 := n6_; clear n0_ n1_ n2_ n3_ n4_ n5_ n6_; clear hb hbox hg) | ((with_reducible refine gate_dst (N := 4) rfl ?_); refine box_event ?hg (N := 4) ?hd (cs := #[.int .i64 0, .int .i64 0]) (t := 23) ?hr ?_; (case hd => rfl); (case hg => rfl); (case hr => first | (go_simp; done) | (go_simp; rfl)); intro gb164 hg w10 hbox hb; have n0_ := Aside0.mk (blk_below (g := gb162) (o := .cells #[.int .i64 a0_0, .int .i64 a0_1] 23 (0, 0)) (by (with_reducible repeat (first | refine blk_drewN ?_ _ | refine blk_drew ?_ | refine blk_alloc ?_ _)); exact BK162.out) hb); have n1_ := Aside0.mk (blk_below (g := gb163) (o := .cells #[.int .i64 a1_0, .int .i64 a1_1] 23 (0, 0)) (by (with_reducible repeat (first | refine blk_drewN ?_ _ | refine blk_drew ?_ | refine blk_alloc ?_ _)); exact BK163.out) hb); have n2_ := Aside0.mk (below_step (by repeat (first | (with_reducible first | exact HB.out | apply below_alloc | apply pw_below_drewN | apply below_drew1 | refine below_set ?_ GE162.out | refine below_set ?_ GE163.out) | exact HB.out)) hb); have n3_ := Aside0.mk (hbox); have n4_ := Aside0.mk ((by rw [hg]; exact (below_size (by repeat (first | (with_reducible first | exact HB.out | apply below_alloc | apply pw_below_drewN | apply below_drew1 | refine below_set ?_ GE162.out | refine below_set ?_ GE163.out) | exact HB.out))) : w.heap.size ≤ gb164)); have n5_ := Aside0.mk ((by rw [hg]; exact (below_size (by repeat (first | (with_reducible first | exact HB.out | apply below_alloc | apply pw_below_drewN | apply below_drew1 | refine below_set ?_ GE162.out | refine below_set ?_ GE163.out) | exact HB.out))) : w.heap.size ≤ gb164)); have n6_ := Aside0.mk ((by rw [hg]; exact Nat.ne_of_lt (blk_lt (g := gb162) (o := .cells #[.int .i64 a0_0, .int .i64 a0_1] 23 (0, 0)) (by (with_reducible repeat (first | refine blk_drewN ?_ _ | refine blk_drew ?_ | refine blk_alloc ?_ _)); exact BK162.out)) : gb162 ≠ gb164)); have n7_ := Aside0.mk ((by rw [hg]; exact Nat.ne_of_gt (blk_lt (g := gb162) (o := .cells #[.int .i64 a0_0, .int .i64 a0_1] 23 (0, 0)) (by (with_reducible repeat (first | refine blk_drewN ?_ _ | refine blk_drew ?_ | refine blk_alloc ?_ _)); exact BK162.out)) : gb164 ≠ gb162)); have n8_ := Aside0.mk ((by rw [hg]; exact Nat.ne_of_lt (blk_lt (g := gb163) (o := .cells #[.int .i64 a1_0, .int .i64 a1_1] 23 (0, 0)) (by (with_reducible repeat (first | refine blk_drewN ?_ _ | refine blk_drew ?_ | refine blk_alloc ?_ _)); exact BK163.out)) : gb163 ≠ gb164)); have n9_ := Aside0.mk ((by rw [hg]; exact Nat.ne_of_gt (blk_lt (g := gb163) (o := .cells #[.int .i64 a1_0, .int .i64 a1_1] 23 (0, 0)) (by (with_reducible repeat (first | refine blk_drewN ?_ _ | refine blk_drew ?_ | refine blk_alloc ?_ _)); exact BK163.out)) : gb164 ≠ gb163)); clear BK162; clear BK163; clear HB; have BK162 := n0_; have BK163 := n1_; have HB := n2_; have BK164 := n3_; have GW164 := n4_; have GE164 := n5_; have NB162_164 := n6_; have NB164_162 := n7_; have NB163_164 := n8_; have NB164_163 := n9_; clear n0_ n1_ n2_ n3_ n4_ n5_ n6_ n7_ n8_ n9_; clear hb hbox hg; have hnb11 := NB162_163.out; have hnc11 := NB163_162.out; have hnb12 := NB162_164.out; have hnc12 := NB164_162.out; have hcz13_0 : w10.cell? ⟨gb162, 0, none⟩ = some (.int .i64 a0_0) := (blk_cell BK162.out 0).trans rfl; have hcz13_1 : w10.cell? ⟨gb162, 1, none⟩ = some (.int .i64 a0_1) := (blk_cell BK162.out 1).trans rfl; have hfz13_0 := blk_frozen BK162.out 0; have hfz13_1 := blk_frozen BK162.out 1) | ((with_reducible refine gate_callee (f := 24) rfl ?_); refine goesL_ (some 8) rfl rfl Tryd.func24 (by kernel_rfl) rfl #[.agg #[.int .i64 a0_0, .int .i64 a0_1]] rfl (by (try simp only [List.map_toArray, List.map_cons, List.map_nil]); first | done | rfl | (simp only [List.length_drop, List.length_take]; rfl)) ?_; (with_reducible refine (slackwaterref08_Check.calls k a0_0 a0_1 t165 _ A3.out).mono ?_); rintro e w14 ⟨rfl, hb⟩; refine ⟨_, rfl, ?_⟩; have n0_ := Aside0.mk (blk_below (g := gb162) (o := .cells #[.int .i64 a0_0, .int .i64 a0_1] 23 (0, 0)) (by (with_reducible repeat (first | refine blk_drewN ?_ _ | refine blk_drew ?_ | refine blk_alloc ?_ _)); exact BK162.out) hb); have n1_ := Aside0.mk (blk_below (g := gb163) (o := .cells #[.int .i64 a1_0, .int .i64 a1_1] 23 (0, 0)) (by (with_reducible repeat (first | refine blk_drewN ?_ _ | refine blk_drew ?_ | refine blk_alloc ?_ _)); exact BK163.out) hb); have n2_ := Aside0.mk (blk_below (g := gb164) (o := .cells #[.int .i64 0, .int .i64 0] 23 (0, 0)) (by (with_reducible repeat (first | refine blk_drewN ?_ _ | refine blk_drew ?_ | refine blk_alloc ?_ _)); exact BK164.out) hb); have n3_ := Aside0.mk (below_step (by repeat (first | (with_reducible first | exact HB.out | apply below_alloc | apply pw_below_drewN | apply below_drew1 | refine below_set ?_ GE162.out | refine below_set ?_ GE163.out | refine below_set ?_ GE164.out) | exact HB.out)) hb); clear BK162; clear BK163; clear BK164; clear HB; have BK162 := n0_; have BK163 := n1_; have BK164 := n2_; have HB := n3_; clear n0_ n1_ n2_ n3_; (try clear hb); (try clear hb2); (try clear hk); (try clear hi); have hnb15 := NB163_164.out; have hnc15 := NB164_163.out; have hcz16_0 : w14.cell? ⟨gb163, 0, none⟩ = some (.int .i64 a1_0) := (blk_cell BK163.out 0).trans rfl; have hcz16_1 : w14.cell? ⟨gb163, 1, none⟩ = some (.int .i64 a1_1) := (blk_cell BK163.out 1).trans rfl; have hfz16_0 := blk_frozen BK163.out 0; have hfz16_1 := blk_frozen BK163.out 1) | ((with_reducible refine gate_callee (f := 13) rfl ?_); refine goesL_ (some 15) rfl rfl Tryd.func13 (by kernel_rfl) rfl #[.agg #[.int .i64 a1_0, .int .i64 a1_1]] rfl (by (try simp only [List.map_toArray, List.map_cons, List.map_nil]); first | done | rfl | (simp only [List.length_drop, List.length_take]; rfl)) ?_; (with_reducible refine (slackwaterref08_Neg.calls k a1_0 a1_1 t166 t167 t168 _ A5.out).mono ?_); rintro e w17 ⟨rfl, hb⟩; refine ⟨_, rfl, ?_⟩; have n0_ := Aside0.mk (blk_below (g := gb162) (o := .cells #[.int .i64 a0_0, .int .i64 a0_1] 23 (0, 0)) (by (with_reducible repeat (first | refine blk_drewN ?_ _ | refine blk_drew ?_ | refine blk_alloc ?_ _)); exact BK162.out) hb); have n1_ := Aside0.mk (blk_below (g := gb163) (o := .cells #[.int .i64 a1_0, .int .i64 a1_1] 23 (0, 0)) (by (with_reducible repeat (first | refine blk_drewN ?_ _ | refine blk_drew ?_ | refine blk_alloc ?_ _)); exact BK163.out) hb); have n2_ := Aside0.mk (blk_below (g := gb164) (o := .cells #[.int .i64 0, .int .i64 0] 23 (0, 0)) (by (with_reducible repeat (first | refine blk_drewN ?_ _ | refine blk_drew ?_ | refine blk_alloc ?_ _)); exact BK164.out) hb); have n3_ := Aside0.mk (below_step (by repeat (first | (with_reducible first | exact HB.out | apply below_alloc | apply pw_below_drewN | apply below_drew1 | refine below_set ?_ GE162.out | refine below_set ?_ GE163.out | refine below_set ?_ GE164.out) | exact HB.out)) hb); clear BK162; clear BK163; clear BK164; clear HB; have BK162 := n0_; have BK163 := n1_; have BK164 := n2_; have HB := n3_; clear n0_ n1_ n2_ n3_; (try clear hb); (try clear hb2); (try clear hk); (try clear hi); have hcz18_0 : w17.cell? ⟨gb163, 0, none⟩ = some (.int .i64 a1_0) := (blk_cell BK163.out 0).trans rfl; have hcz18_1 : w17.cell? ⟨gb163, 1, none⟩ = some (.int .i64 a1_1) := (blk_cell BK163.out 1).trans rfl; have hfz18_0 := blk_frozen BK163.out 0; have hfz18_1 := blk_frozen BK163.out 1; have hcz19_0 : w17.cell? ⟨gb162, 0, none⟩ = some (.int .i64 a0_0) := (blk_cell BK162.out 0).trans rfl; have hcz19_1 : w17.cell? ⟨gb162, 1, none⟩ = some (.int .i64 a0_1) := (blk_cell BK162.out 1).trans rfl; have hfz19_0 := blk_frozen BK162.out 0; have hfz19_1 := blk_frozen BK162.out 1) | ((with_reducible refine gate_callee (f := 8) rfl ?_); refine goesL_ (some 24) rfl rfl Tryd.func8 (by kernel_rfl) rfl #[.agg #[.int .i64 a0_0, .int .i64 a0_1], .agg #[.int .i64 t166, .int .i64 t167]] rfl (by (try simp only [List.map_toArray, List.map_cons, List.map_nil]); first | done | rfl | (simp only [List.length_drop, List.length_take]; rfl)) ?_; (with_reducible refine (slackwaterref08_Add.calls k a0_0 a0_1 t166 t167 t169 t170 t171 _ A7.out).mono ?_); rintro e w20 ⟨rfl, hb⟩; refine ⟨_, rfl, ?_⟩; have n0_ := Aside0.mk (blk_below (g := gb162) (o := .cells #[.int .i64 a0_0, .int .i64 a0_1] 23 (0, 0)) (by (with_reducible repeat (first | refine blk_drewN ?_ _ | refine blk_drew ?_ | refine blk_alloc ?_ _)); refine blk_far ?_ NB162_163.out _; (with_reducible repeat (first | refine blk_drewN ?_ _ | refine blk_drew ?_ | refine blk_alloc ?_ _)); refine blk_far ?_ NB162_163.out _; (with_reducible repeat (first | refine blk_drewN ?_ _ | refine blk_drew ?_ | refine blk_alloc ?_ _)); exact BK162.out) hb); have n1_ := Aside0.mk (blk_below (g := gb163) (o := .cells #[.int .i64 t166, .int .i64 t167] 23 (0, 0)) (by (with_reducible repeat (first | refine blk_drewN ?_ _ | refine blk_drew ?_ | refine blk_alloc ?_ _)); refine blk_put (cs := #[.int .i64 t166, .int .i64 a1_1]) ?_ 1 _ rfl; (with_reducible repeat (first | refine blk_drewN ?_ _ | refine blk_drew ?_ | refine blk_alloc ?_ _)); refine blk_put (cs := #[.int .i64 a1_0, .int .i64 a1_1]) ?_ 0 _ rfl; (with_reducible repeat (first | refine blk_drewN ?_ _ | refine blk_drew ?_ | refine blk_alloc ?_ _)); exact BK163.out) hb); have n2_ := Aside0.mk (blk_below (g := gb164) (o := .cells #[.int .i64 0, .int .i64 0] 23 (0, 0)) (by (with_reducible repeat (first | refine blk_drewN ?_ _ | refine blk_drew ?_ | refine blk_alloc ?_ _)); refine blk_far ?_ NB164_163.out _; (with_reducible repeat (first | refine blk_drewN ?_ _ | refine blk_drew ?_ | refine blk_alloc ?_ _)); refine blk_far ?_ NB164_163.out _; (with_reducible repeat (first | refine blk_drewN ?_ _ | refine blk_drew ?_ | refine blk_alloc ?_ _)); exact BK164.out) hb); have n3_ := Aside0.mk (below_step (by repeat (first | (with_reducible first | exact HB.out | apply below_alloc | apply pw_below_drewN | apply below_drew1 | refine below_set ?_ GE162.out | refine below_set ?_ GE163.out | refine below_set ?_ GE164.out) | exact HB.out)) hb); clear BK162; clear BK163; clear BK164; clear HB; have BK162 := n0_; have BK163 := n1_; have BK164 := n2_; have HB := n3_; clear n0_ n1_ n2_ n3_; (try clear hb); (try clear hb2); (try clear hk); (try clear hi); have hcz21_0 : w20.cell? ⟨gb164, 0, none⟩ = some (.int .i64 0) := (blk_cell BK164.out 0).trans rfl; have hcz21_1 : w20.cell? ⟨gb164, 1, none⟩ = some (.int .i64 0) := (blk_cell BK164.out 1).trans rfl; have hfz21_0 := blk_frozen BK164.out 0; have hfz21_1 := blk_frozen BK164.out 1))
      refine bodyPost_ret (results_ct rfl _ _ gb164 23 #[.int .i64 t169, .int .i64 t170] (0, 0) _ rfl (by (with_reducible repeat (first | refine blk_drewN ?_ _ | refine blk_drew ?_ | refine blk_alloc ?_ _)); refine blk_put (cs := #[.int .i64 t169, .int .i64 0]) ?_ 1 _ rfl; (with_reducible repeat (first | refine blk_drewN ?_ _ | refine blk_drew ?_ | refine blk_alloc ?_ _)); refine blk_put (cs := #[.int .i64 0, .int .i64 0]) ?_ 0 _ rfl; (with_reducible repeat (first | refine blk_drewN ?_ _ | refine blk_drew ?_ | refine blk_alloc ?_ _)); exact BK164.out) Tryd.underlying23 rfl (by kernel_rfl)) rfl ?_
      exact ⟨by first | rfl | (simp [errW_none, errW_some] <;> rfl) | (simp [*, errW_none, errW_some] <;> rfl), by repeat (first | (with_reducible first | exact HB.out | apply below_alloc | apply pw_below_drewN | apply below_drew1 | refine below_set ?_ GE162.out | refine below_set ?_ GE163.out | refine below_set ?_ GE164.out) | exact HB.out)⟩
    · rw [if_neg c6] at H
      have c6b0 : (t168 == 0) = false := beq_eq_false_iff_ne.mpr c6
      have c6b1 : (t168 != 0) = true := bne_iff_ne.mpr c6
      simp only [Option.some.injEq, Prod.mk.injEq] at H
      obtain ⟨rfl, rfl, rfl⟩ := H
      go_enter Tryd.func10, Tryd.ntmps10
      go_wp2_with (first | ((with_reducible refine gate_dst (N := 2) rfl ?_); refine box_event ?hg (N := 2) ?hd (cs := #[.int .i64 a0_0, .int .i64 a0_1]) (t := 23) ?hr ?_; (case hd => rfl); (case hg => rfl); (case hr => first | (go_simp; done) | (go_simp; rfl)); intro gb162 hg w22 hbox hb; have n0_ := Aside0.mk (below_step (by repeat (first | (with_reducible first | exact HB.out | apply below_alloc | apply pw_below_drewN | apply below_drew1) | exact HB.out)) hb); have n1_ := Aside0.mk (hbox); have n2_ := Aside0.mk ((by rw [hg]; exact (below_size (by repeat (first | (with_reducible first | exact HB.out | apply below_alloc | apply pw_below_drewN | apply below_drew1) | exact HB.out))) : w.heap.size ≤ gb162)); have n3_ := Aside0.mk ((by rw [hg]; exact (below_size (by repeat (first | (with_reducible first | exact HB.out | apply below_alloc | apply pw_below_drewN | apply below_drew1) | exact HB.out))) : w.heap.size ≤ gb162)); clear HB; have HB := n0_; have BK162 := n1_; have GW162 := n2_; have GE162 := n3_; clear n0_ n1_ n2_ n3_; clear hb hbox hg) | ((with_reducible refine gate_dst (N := 3) rfl ?_); refine box_event ?hg (N := 3) ?hd (cs := #[.int .i64 a1_0, .int .i64 a1_1]) (t := 23) ?hr ?_; (case hd => rfl); (case hg => rfl); (case hr => first | (go_simp; done) | (go_simp; rfl)); intro gb163 hg w23 hbox hb; have n0_ := Aside0.mk (blk_below (g := gb162) (o := .cells #[.int .i64 a0_0, .int .i64 a0_1] 23 (0, 0)) (by (with_reducible repeat (first | refine blk_drewN ?_ _ | refine blk_drew ?_ | refine blk_alloc ?_ _)); exact BK162.out) hb); have n1_ := Aside0.mk (below_step (by repeat (first | (with_reducible first | exact HB.out | apply below_alloc | apply pw_below_drewN | apply below_drew1 | refine below_set ?_ GE162.out) | exact HB.out)) hb); have n2_ := Aside0.mk (hbox); have n3_ := Aside0.mk ((by rw [hg]; exact (below_size (by repeat (first | (with_reducible first | exact HB.out | apply below_alloc | apply pw_below_drewN | apply below_drew1 | refine below_set ?_ GE162.out) | exact HB.out))) : w.heap.size ≤ gb163)); have n4_ := Aside0.mk ((by rw [hg]; exact (below_size (by repeat (first | (with_reducible first | exact HB.out | apply below_alloc | apply pw_below_drewN | apply below_drew1 | refine below_set ?_ GE162.out) | exact HB.out))) : w.heap.size ≤ gb163)); have n5_ := Aside0.mk ((by rw [hg]; exact Nat.ne_of_lt (blk_lt (g := gb162) (o := .cells #[.int .i64 a0_0, .int .i64 a0_1] 23 (0, 0)) (by (with_reducible repeat (first | refine blk_drewN ?_ _ | refine blk_drew ?_ | refine blk_alloc ?_ _)); exact BK162.out)) : gb162 ≠ gb163)); have n6_ := Aside0.mk ((by rw [hg]; exact Nat.ne_of_gt (blk_lt (g := gb162) (o := .cells #[.int .i64 a0_0, .int .i64 a0_1] 23 (0, 0)) (by (with_reducible repeat (first | refine blk_drewN ?_ _ | refine blk_drew ?_ | refine blk_alloc ?_ _)); exact BK162.out)) : gb163 ≠ gb162)); clear BK162; clear HB; have BK162 := n0_; have HB := n1_; have BK163 := n2_; have GW163 := n3_; have GE163 := n4_; have NB162_163 := n5_; have NB163_162 := n6_; clear n0_ n1_ n2_ n3_ n4_ n5_ n6_; clear hb hbox hg) | ((with_reducible refine gate_dst (N := 4) rfl ?_); refine box_event ?hg (N := 4) ?hd (cs := #[.int .i64 0, .int .i64 0]) (t := 23) ?hr ?_; (case hd => rfl); (case hg => rfl); (case hr => first | (go_simp; done) | (go_simp; rfl)); intro gb164 hg w24 hbox hb; have n0_ := Aside0.mk (blk_below (g := gb162) (o := .cells #[.int .i64 a0_0, .int .i64 a0_1] 23 (0, 0)) (by (with_reducible repeat (first | refine blk_drewN ?_ _ | refine blk_drew ?_ | refine blk_alloc ?_ _)); exact BK162.out) hb); have n1_ := Aside0.mk (blk_below (g := gb163) (o := .cells #[.int .i64 a1_0, .int .i64 a1_1] 23 (0, 0)) (by (with_reducible repeat (first | refine blk_drewN ?_ _ | refine blk_drew ?_ | refine blk_alloc ?_ _)); exact BK163.out) hb); have n2_ := Aside0.mk (below_step (by repeat (first | (with_reducible first | exact HB.out | apply below_alloc | apply pw_below_drewN | apply below_drew1 | refine below_set ?_ GE162.out | refine below_set ?_ GE163.out) | exact HB.out)) hb); have n3_ := Aside0.mk (hbox); have n4_ := Aside0.mk ((by rw [hg]; exact (below_size (by repeat (first | (with_reducible first | exact HB.out | apply below_alloc | apply pw_below_drewN | apply below_drew1 | refine below_set ?_ GE162.out | refine below_set ?_ GE163.out) | exact HB.out))) : w.heap.size ≤ gb164)); have n5_ := Aside0.mk ((by rw [hg]; exact (below_size (by repeat (first | (with_reducible first | exact HB.out | apply below_alloc | apply pw_below_drewN | apply below_drew1 | refine below_set ?_ GE162.out | refine below_set ?_ GE163.out) | exact HB.out))) : w.heap.size ≤ gb164)); have n6_ := Aside0.mk ((by rw [hg]; exact Nat.ne_of_lt (blk_lt (g := gb162) (o := .cells #[.int .i64 a0_0, .int .i64 a0_1] 23 (0, 0)) (by (with_reducible repeat (first | refine blk_drewN ?_ _ | refine blk_drew ?_ | refine blk_alloc ?_ _)); exact BK162.out)) : gb162 ≠ gb164)); have n7_ := Aside0.mk ((by rw [hg]; exact Nat.ne_of_gt (blk_lt (g := gb162) (o := .cells #[.int .i64 a0_0, .int .i64 a0_1] 23 (0, 0)) (by (with_reducible repeat (first | refine blk_drewN ?_ _ | refine blk_drew ?_ | refine blk_alloc ?_ _)); exact BK162.out)) : gb164 ≠ gb162)); have n8_ := Aside0.mk ((by rw [hg]; exact Nat.ne_of_lt (blk_lt (g := gb163) (o := .cells #[.int .i64 a1_0, .int .i64 a1_1] 23 (0, 0)) (by (with_reducible repeat (first | refine blk_drewN ?_ _ | refine blk_drew ?_ | refine blk_alloc ?_ _)); exact BK163.out)) : gb163 ≠ gb164)); have n9_ := Aside0.mk ((by rw [hg]; exact Nat.ne_of_gt (blk_lt (g := gb163) (o := .cells #[.int .i64 a1_0, .int .i64 a1_1] 23 (0, 0)) (by (with_reducible repeat (first | refine blk_drewN ?_ _ | refine blk_drew ?_ | refine blk_alloc ?_ _)); exact BK163.out)) : gb164 ≠ gb163)); clear BK162; clear BK163; clear HB; have BK162 := n0_; have BK163 := n1_; have HB := n2_; have BK164 := n3_; have GW164 := n4_; have GE164 := n5_; have NB162_164 := n6_; have NB164_162 := n7_; have NB163_164 := n8_; have NB164_163 := n9_; clear n0_ n1_ n2_ n3_ n4_ n5_ n6_ n7_ n8_ n9_; clear hb hbox hg; have hnb25 := NB162_163.out; have hnc25 := NB163_162.out; have hnb26 := NB162_164.out; have hnc26 := NB164_162.out; have hcz27_0 : w24.cell? ⟨gb162, 0, none⟩ = some (.int .i64 a0_0) := (blk_cell BK162.out 0).trans rfl; have hcz27_1 : w24.cell? ⟨gb162, 1, none⟩ = some (.int .i64 a0_1) := (blk_cell BK162.out 1).trans rfl; have hfz27_0 := blk_frozen BK162.out 0; have hfz27_1 := blk_frozen BK162.out 1) | ((with_reducible refine gate_callee (f := 24) rfl ?_); refine goesL_ (some 8) rfl rfl Tryd.func24 (by kernel_rfl) rfl #[.agg #[.int .i64 a0_0, .int .i64 a0_1]] rfl (by (try simp only [List.map_toArray, List.map_cons, List.map_nil]); first | done | rfl | (simp only [List.length_drop, List.length_take]; rfl)) ?_; (with_reducible refine (slackwaterref08_Check.calls k a0_0 a0_1 t165 _ A3.out).mono ?_); rintro e w28 ⟨rfl, hb⟩; refine ⟨_, rfl, ?_⟩; have n0_ := Aside0.mk (blk_below (g := gb162) (o := .cells #[.int .i64 a0_0, .int .i64 a0_1] 23 (0, 0)) (by (with_reducible repeat (first | refine blk_drewN ?_ _ | refine blk_drew ?_ | refine blk_alloc ?_ _)); exact BK162.out) hb); have n1_ := Aside0.mk (blk_below (g := gb163) (o := .cells #[.int .i64 a1_0, .int .i64 a1_1] 23 (0, 0)) (by (with_reducible repeat (first | refine blk_drewN ?_ _ | refine blk_drew ?_ | refine blk_alloc ?_ _)); exact BK163.out) hb); have n2_ := Aside0.mk (blk_below (g := gb164) (o := .cells #[.int .i64 0, .int .i64 0] 23 (0, 0)) (by (with_reducible repeat (first | refine blk_drewN ?_ _ | refine blk_drew ?_ | refine blk_alloc ?_ _)); exact BK164.out) hb); have n3_ := Aside0.mk (below_step (by repeat (first | (with_reducible first | exact HB.out | apply below_alloc | apply pw_below_drewN | apply below_drew1 | refine below_set ?_ GE162.out | refine below_set ?_ GE163.out | refine below_set ?_ GE164.out) | exact HB.out)) hb); clear BK162; clear BK163; clear BK164; clear HB; have BK162 := n0_; have BK163 := n1_; have BK164 := n2_; have HB := n3_; clear n0_ n1_ n2_ n3_; (try clear hb); (try clear hb2); (try clear hk); (try clear hi); have hnb29 := NB163_164.out; have hnc29 := NB164_163.out; have hcz30_0 : w28.cell? ⟨gb163, 0, none⟩ = some (.int .i64 a1_0) := (blk_cell BK163.out 0).trans rfl; have hcz30_1 : w28.cell? ⟨gb163, 1, none⟩ = some (.int .i64 a1_1) := (blk_cell BK163.out 1).trans rfl; have hfz30_0 := blk_frozen BK163.out 0; have hfz30_1 := blk_frozen BK163.out 1) | ((with_reducible refine gate_callee (f := 13) rfl ?_); refine goesL_ (some 15) rfl rfl Tryd.func13 (by kernel_rfl) rfl #[.agg #[.int .i64 a1_0, .int .i64 a1_1]] rfl (by (try simp only [List.map_toArray, List.map_cons, List.map_nil]); first | done | rfl | (simp only [List.length_drop, List.length_take]; rfl)) ?_; (with_reducible refine (slackwaterref08_Neg.calls k a1_0 a1_1 t166 t167 t168 _ A5.out).mono ?_); rintro e w31 ⟨rfl, hb⟩; refine ⟨_, rfl, ?_⟩; have n0_ := Aside0.mk (blk_below (g := gb162) (o := .cells #[.int .i64 a0_0, .int .i64 a0_1] 23 (0, 0)) (by (with_reducible repeat (first | refine blk_drewN ?_ _ | refine blk_drew ?_ | refine blk_alloc ?_ _)); exact BK162.out) hb); have n1_ := Aside0.mk (blk_below (g := gb163) (o := .cells #[.int .i64 a1_0, .int .i64 a1_1] 23 (0, 0)) (by (with_reducible repeat (first | refine blk_drewN ?_ _ | refine blk_drew ?_ | refine blk_alloc ?_ _)); exact BK163.out) hb); have n2_ := Aside0.mk (blk_below (g := gb164) (o := .cells #[.int .i64 0, .int .i64 0] 23 (0, 0)) (by (with_reducible repeat (first | refine blk_drewN ?_ _ | refine blk_drew ?_ | refine blk_alloc ?_ _)); exact BK164.out) hb); have n3_ := Aside0.mk (below_step (by repeat (first | (with_reducible first | exact HB.out | apply below_alloc | apply pw_below_drewN | apply below_drew1 | refine below_set ?_ GE162.out | refine below_set ?_ GE163.out | refine below_set ?_ GE164.out) | exact HB.out)) hb); clear BK162; clear BK163; clear BK164; clear HB; have BK162 := n0_; have BK163 := n1_; have BK164 := n2_; have HB := n3_; clear n0_ n1_ n2_ n3_; (try clear hb); (try clear hb2); (try clear hk); (try clear hi); have hcz32_0 : w31.cell? ⟨gb163, 0, none⟩ = some (.int .i64 a1_0) := (blk_cell BK163.out 0).trans rfl; have hcz32_1 : w31.cell? ⟨gb163, 1, none⟩ = some (.int .i64 a1_1) := (blk_cell BK163.out 1).trans rfl; have hfz32_0 := blk_frozen BK163.out 0; have hfz32_1 := blk_frozen BK163.out 1; have hcz33_0 : w31.cell? ⟨gb164, 0, none⟩ = some (.int .i64 0) := (blk_cell BK164.out 0).trans rfl; have hcz33_1 : w31.cell? ⟨gb164, 1, none⟩ = some (.int .i64 0) := (blk_cell BK164.out 1).trans rfl; have hfz33_0 := blk_frozen BK164.out 0; have hfz33_1 := blk_frozen BK164.out 1))
      refine bodyPost_ret (results_ct rfl _ _ gb164 23 #[.int .i64 0, .int .i64 0] (0, 0) _ rfl (by (with_reducible repeat (first | refine blk_drewN ?_ _ | refine blk_drew ?_ | refine blk_alloc ?_ _)); refine blk_put (cs := #[.int .i64 0, .int .i64 0]) ?_ 1 _ rfl; (with_reducible repeat (first | refine blk_drewN ?_ _ | refine blk_drew ?_ | refine blk_alloc ?_ _)); refine blk_put (cs := #[.int .i64 0, .int .i64 0]) ?_ 0 _ rfl; (with_reducible repeat (first | refine blk_drewN ?_ _ | refine blk_drew ?_ | refine blk_alloc ?_ _)); refine blk_far ?_ NB164_163.out _; (with_reducible repeat (first | refine blk_drewN ?_ _ | refine blk_drew ?_ | refine blk_alloc ?_ _)); refine blk_far ?_ NB164_163.out _; (with_reducible repeat (first | refine blk_drewN ?_ _ | refine blk_drew ?_ | refine blk_alloc ?_ _)); exact BK164.out) Tryd.underlying23 rfl (by kernel_rfl)) rfl ?_
      exact ⟨by first | rfl | (simp [errW_none, errW_some] <;> rfl) | (simp [*, errW_none, errW_some] <;> rfl), by repeat (first | (with_reducible first | exact HB.out | apply below_alloc | apply pw_below_drewN | apply below_drew1 | refine below_set ?_ GE162.out | refine below_set ?_ GE163.out | refine below_set ?_ GE164.out) | exact HB.out)⟩
  · rw [if_neg c4] at H
    have c4b0 : (t165 == 0) = false := beq_eq_false_iff_ne.mpr c4
    have c4b1 : (t165 != 0) = true := bne_iff_ne.mpr c4
    simp only [Option.some.injEq, Prod.mk.injEq] at H
    obtain ⟨rfl, rfl, rfl⟩ := H
    go_enter Tryd.func10, Tryd.ntmps10
    go_wp2_with (first | ((with_reducible refine gate_dst (N := 2) rfl ?_); refine box_event ?hg (N := 2) ?hd (cs := #[.int .i64 a0_0, .int .i64 a0_1]) (t := 23) ?hr ?_; (case hd => rfl); (case hg => rfl); (case hr => first | (go_simp; done) | (go_simp; rfl)); intro gb162 hg w34 hbox hb; have n0_ := Aside0.mk (below_step (by repeat (first | (with_reducible first | exact HB.out | apply below_alloc | apply pw_below_drewN | apply below_drew1) | exact HB.out)) hb); have n1_ := Aside0.mk (hbox); have n2_ := Aside0.mk ((by rw [hg]; exact (below_size (by repeat (first | (with_reducible first | exact HB.out | apply below_alloc | apply pw_below_drewN | apply below_drew1) | exact HB.out))) : w.heap.size ≤ gb162)); have n3_ := Aside0.mk ((by rw [hg]; exact (below_size (by repeat (first | (with_reducible first | exact HB.out | apply below_alloc | apply pw_below_drewN | apply below_drew1) | exact HB.out))) : w.heap.size ≤ gb162)); clear HB; have HB := n0_; have BK162 := n1_; have GW162 := n2_; have GE162 := n3_; clear n0_ n1_ n2_ n3_; clear hb hbox hg) | ((with_reducible refine gate_dst (N := 3) rfl ?_); refine box_event ?hg (N := 3) ?hd (cs := #[.int .i64 a1_0, .int .i64 a1_1]) (t := 23) ?hr ?_; (case hd => rfl); (case hg => rfl); (case hr => first | (go_simp; done) | (go_simp; rfl)); intro gb163 hg w35 hbox hb; have n0_ := Aside0.mk (blk_below (g := gb162) (o := .cells #[.int .i64 a0_0, .int .i64 a0_1] 23 (0, 0)) (by (with_reducible repeat (first | refine blk_drewN ?_ _ | refine blk_drew ?_ | refine blk_alloc ?_ _)); exact BK162.out) hb); have n1_ := Aside0.mk (below_step (by repeat (first | (with_reducible first | exact HB.out | apply below_alloc | apply pw_below_drewN | apply below_drew1 | refine below_set ?_ GE162.out) | exact HB.out)) hb); have n2_ := Aside0.mk (hbox); have n3_ := Aside0.mk ((by rw [hg]; exact (below_size (by repeat (first | (with_reducible first | exact HB.out | apply below_alloc | apply pw_below_drewN | apply below_drew1 | refine below_set ?_ GE162.out) | exact HB.out))) : w.heap.size ≤ gb163)); have n4_ := Aside0.mk ((by rw [hg]; exact (below_size (by repeat (first | (with_reducible first | exact HB.out | apply below_alloc | apply pw_below_drewN | apply below_drew1 | refine below_set ?_ GE162.out) | exact HB.out))) : w.heap.size ≤ gb163)); have n5_ := Aside0.mk ((by rw [hg]; exact Nat.ne_of_lt (blk_lt (g := gb162) (o := .cells #[.int .i64 a0_0, .int .i64 a0_1] 23 (0, 0)) (by (with_reducible repeat (first | refine blk_drewN ?_ _ | refine blk_drew ?_ | refine blk_alloc ?_ _)); exact BK162.out)) : gb162 ≠ gb163)); have n6_ := Aside0.mk ((by rw [hg]; exact Nat.ne_of_gt (blk_lt (g := gb162) (o := .cells #[.int .i64 a0_0, .int .i64 a0_1] 23 (0, 0)) (by (with_reducible repeat (first | refine blk_drewN ?_ _ | refine blk_drew ?_ | refine blk_alloc ?_ _)); exact BK162.out)) : gb163 ≠ gb162)); clear BK162; clear HB; have BK162 := n0_; have HB := n1_; have BK163 := n2_; have GW163 := n3_; have GE163 := n4_; have NB162_163 := n5_; have NB163_162 := n6_; clear n0_ n1_ n2_ n3_ n4_ n5_ n6_; clear hb hbox hg) | ((with_reducible refine gate_dst (N := 4) rfl ?_); refine box_event ?hg (N := 4) ?hd (cs := #[.int .i64 0, .int .i64 0]) (t := 23) ?hr ?_; (case hd => rfl); (case hg => rfl); (case hr => first | (go_simp; done) | (go_simp; rfl)); intro gb164 hg w36 hbox hb; have n0_ := Aside0.mk (blk_below (g := gb162) (o := .cells #[.int .i64 a0_0, .int .i64 a0_1] 23 (0, 0)) (by (with_reducible repeat (first | refine blk_drewN ?_ _ | refine blk_drew ?_ | refine blk_alloc ?_ _)); exact BK162.out) hb); have n1_ := Aside0.mk (blk_below (g := gb163) (o := .cells #[.int .i64 a1_0, .int .i64 a1_1] 23 (0, 0)) (by (with_reducible repeat (first | refine blk_drewN ?_ _ | refine blk_drew ?_ | refine blk_alloc ?_ _)); exact BK163.out) hb); have n2_ := Aside0.mk (below_step (by repeat (first | (with_reducible first | exact HB.out | apply below_alloc | apply pw_below_drewN | apply below_drew1 | refine below_set ?_ GE162.out | refine below_set ?_ GE163.out) | exact HB.out)) hb); have n3_ := Aside0.mk (hbox); have n4_ := Aside0.mk ((by rw [hg]; exact (below_size (by repeat (first | (with_reducible first | exact HB.out | apply below_alloc | apply pw_below_drewN | apply below_drew1 | refine below_set ?_ GE162.out | refine below_set ?_ GE163.out) | exact HB.out))) : w.heap.size ≤ gb164)); have n5_ := Aside0.mk ((by rw [hg]; exact (below_size (by repeat (first | (with_reducible first | exact HB.out | apply below_alloc | apply pw_below_drewN | apply below_drew1 | refine below_set ?_ GE162.out | refine below_set ?_ GE163.out) | exact HB.out))) : w.heap.size ≤ gb164)); have n6_ := Aside0.mk ((by rw [hg]; exact Nat.ne_of_lt (blk_lt (g := gb162) (o := .cells #[.int .i64 a0_0, .int .i64 a0_1] 23 (0, 0)) (by (with_reducible repeat (first | refine blk_drewN ?_ _ | refine blk_drew ?_ | refine blk_alloc ?_ _)); exact BK162.out)) : gb162 ≠ gb164)); have n7_ := Aside0.mk ((by rw [hg]; exact Nat.ne_of_gt (blk_lt (g := gb162) (o := .cells #[.int .i64 a0_0, .int .i64 a0_1] 23 (0, 0)) (by (with_reducible repeat (first | refine blk_drewN ?_ _ | refine blk_drew ?_ | refine blk_alloc ?_ _)); exact BK162.out)) : gb164 ≠ gb162)); have n8_ := Aside0.mk ((by rw [hg]; exact Nat.ne_of_lt (blk_lt (g := gb163) (o := .cells #[.int .i64 a1_0, .int .i64 a1_1] 23 (0, 0)) (by (with_reducible repeat (first | refine blk_drewN ?_ _ | refine blk_drew ?_ | refine blk_alloc ?_ _)); exact BK163.out)) : gb163 ≠ gb164)); have n9_ := Aside0.mk ((by rw [hg]; exact Nat.ne_of_gt (blk_lt (g := gb163) (o := .cells #[.int .i64 a1_0, .int .i64 a1_1] 23 (0, 0)) (by (with_reducible repeat (first | refine blk_drewN ?_ _ | refine blk_drew ?_ | refine blk_alloc ?_ _)); exact BK163.out)) : gb164 ≠ gb163)); clear BK162; clear BK163; clear HB; have BK162 := n0_; have BK163 := n1_; have HB := n2_; have BK164 := n3_; have GW164 := n4_; have GE164 := n5_; have NB162_164 := n6_; have NB164_162 := n7_; have NB163_164 := n8_; have NB164_163 := n9_; clear n0_ n1_ n2_ n3_ n4_ n5_ n6_ n7_ n8_ n9_; clear hb hbox hg; have hnb37 := NB162_163.out; have hnc37 := NB163_162.out; have hnb38 := NB162_164.out; have hnc38 := NB164_162.out; have hcz39_0 : w36.cell? ⟨gb162, 0, none⟩ = some (.int .i64 a0_0) := (blk_cell BK162.out 0).trans rfl; have hcz39_1 : w36.cell? ⟨gb162, 1, none⟩ = some (.int .i64 a0_1) := (blk_cell BK162.out 1).trans rfl; have hfz39_0 := blk_frozen BK162.out 0; have hfz39_1 := blk_frozen BK162.out 1) | ((with_reducible refine gate_callee (f := 24) rfl ?_); refine goesL_ (some 8) rfl rfl Tryd.func24 (by kernel_rfl) rfl #[.agg #[.int .i64 a0_0, .int .i64 a0_1]] rfl (by (try simp only [List.map_toArray, List.map_cons, List.map_nil]); first | done | rfl | (simp only [List.length_drop, List.length_take]; rfl)) ?_; (with_reducible refine (slackwaterref08_Check.calls k a0_0 a0_1 t165 _ A3.out).mono ?_); rintro e w40 ⟨rfl, hb⟩; refine ⟨_, rfl, ?_⟩; have n0_ := Aside0.mk (blk_below (g := gb162) (o := .cells #[.int .i64 a0_0, .int .i64 a0_1] 23 (0, 0)) (by (with_reducible repeat (first | refine blk_drewN ?_ _ | refine blk_drew ?_ | refine blk_alloc ?_ _)); exact BK162.out) hb); have n1_ := Aside0.mk (blk_below (g := gb163) (o := .cells #[.int .i64 a1_0, .int .i64 a1_1] 23 (0, 0)) (by (with_reducible repeat (first | refine blk_drewN ?_ _ | refine blk_drew ?_ | refine blk_alloc ?_ _)); exact BK163.out) hb); have n2_ := Aside0.mk (blk_below (g := gb164) (o := .cells #[.int .i64 0, .int .i64 0] 23 (0, 0)) (by (with_reducible repeat (first | refine blk_drewN ?_ _ | refine blk_drew ?_ | refine blk_alloc ?_ _)); exact BK164.out) hb); have n3_ := Aside0.mk (below_step (by repeat (first | (with_reducible first | exact HB.out | apply below_alloc | apply pw_below_drewN | apply below_drew1 | refine below_set ?_ GE162.out | refine below_set ?_ GE163.out | refine below_set ?_ GE164.out) | exact HB.out)) hb); clear BK162; clear BK163; clear BK164; clear HB; have BK162 := n0_; have BK163 := n1_; have BK164 := n2_; have HB := n3_; clear n0_ n1_ n2_ n3_; (try clear hb); (try clear hb2); (try clear hk); (try clear hi); have hnb41 := NB164_163.out; have hnc41 := NB163_164.out; have hcz42_0 : w40.cell? ⟨gb164, 0, none⟩ = some (.int .i64 0) := (blk_cell BK164.out 0).trans rfl; have hcz42_1 : w40.cell? ⟨gb164, 1, none⟩ = some (.int .i64 0) := (blk_cell BK164.out 1).trans rfl; have hfz42_0 := blk_frozen BK164.out 0; have hfz42_1 := blk_frozen BK164.out 1))
    refine bodyPost_ret (results_ct rfl _ _ gb164 23 #[.int .i64 0, .int .i64 0] (0, 0) _ rfl (by (with_reducible repeat (first | refine blk_drewN ?_ _ | refine blk_drew ?_ | refine blk_alloc ?_ _)); refine blk_put (cs := #[.int .i64 0, .int .i64 0]) ?_ 1 _ rfl; (with_reducible repeat (first | refine blk_drewN ?_ _ | refine blk_drew ?_ | refine blk_alloc ?_ _)); refine blk_put (cs := #[.int .i64 0, .int .i64 0]) ?_ 0 _ rfl; (with_reducible repeat (first | refine blk_drewN ?_ _ | refine blk_drew ?_ | refine blk_alloc ?_ _)); exact BK164.out) Tryd.underlying23 rfl (by kernel_rfl)) rfl ?_
    exact ⟨by first | rfl | (simp [errW_none, errW_some] <;> rfl) | (simp [*, errW_none, errW_some] <;> rfl), by repeat (first | (with_reducible first | exact HB.out | apply below_alloc | apply pw_below_drewN | apply below_drew1 | refine below_set ?_ GE162.out | refine below_set ?_ GE163.out | refine below_set ?_ GE164.out) | exact HB.out)⟩

end Go.Proofs.YtcddhfidbhcgdaaDoor.PK8
