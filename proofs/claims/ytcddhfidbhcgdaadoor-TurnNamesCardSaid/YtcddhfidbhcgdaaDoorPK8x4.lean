/- Written by wip/xprint.py (the kit's print over given functions). -/
import Derived.Test.YtcddhfidbhcgdaaDoorPK8x0
import Derived.Test.YtcddhfidbhcgdaaDoorPK8x1
import Derived.Test.YtcddhfidbhcgdaaDoorPK8x2
import Derived.Test.YtcddhfidbhcgdaaDoorPK8x3
namespace Go.Proofs.YtcddhfidbhcgdaaDoor.PK8
open Go.RowKit Go.Proofs.YtcddhfidbhcgdaaDoorW.PrintWords Go.Proofs.YtcddhfidbhcgdaaDoorW.PrintLast Go.Proofs.YtcddhfidbhcgdaaDoorW.PrintMore
attribute [local go_sem] max2_int min2_int max_two min_two max_three min_three max_four min_four   -- for this text's walks alone
set_option linter.unusedVariables false
set_option linter.unusedSimpArgs false

/-! ### turn_Add: function 7 (given) -/
def turn_Add.tail (k : Nat) (p u q v g : Int) : Option (Int × Int × Int) :=
  if 1 ≤ g ∧ 0 ≤ p ∧ 1 ≤ u ∧ p < u ∧ 0 ≤ q ∧ 1 ≤ v ∧ q < v ∧ u ≤ 4294967296 ∧ v ≤ 4294967296 ∧ u * (v / g) < 18446744073709551616 ∧ p * (v / g) + q * (u / g) < 2 * (u * (v / g)) ∧ p * (v / g) < 18446744073709551616 ∧ q * (u / g) < 18446744073709551616 then
    turn_lowest.f k (if u * (v / g) ≤ p * (v / g) + q * (u / g) then p * (v / g) + q * (u / g) - u * (v / g) else p * (v / g) + q * (u / g)) (u * (v / g))
  else none
def turn_Add.f (k : Nat) (a0_0 : Int) (a0_1 : Int) (a1_0 : Int) (a1_1 : Int) : Option (Int × Int × Int) :=
  (turn_Check.f k a0_0 a0_1).bind fun e => if e = 0 then ((turn_Check.f k a1_0 a1_1).bind fun e1 => if e1 = 0 then ((turn_common.f k a0_1 a1_1).bind fun g => turn_Add.tail k a0_0 a0_1 a1_0 a1_1 g) else some (0, 0, e1)) else some (0, 0, e)
theorem turn_Add.mono : ∀ a0 a1 a2 a3 k, LeO (turn_Add.f k a0 a1 a2 a3) (turn_Add.f (k + 1) a0 a1 a2 a3) := by
  intro a0 a1 a2 a3 k
  unfold turn_Add.f turn_Add.tail
  repeat' first
      | exact turn_Check.mono _ _ _
      | exact turn_common.mono _ _ _
      | exact turn_lowest.mono _ _ _
      | exact LeO.none _
      | exact LeO.refl _
      | refine LeO.ite ?_ ?_
      | refine LeO.bind ?_ (fun _ => ?_)
set_option maxHeartbeats 4000000 in
set_option maxRecDepth 100000 in
theorem turn_Add.e1 (k : Nat) (p u q v e : Int) (w : World) (h : turn_Check.f k p u = some e) (he : e ≠ 0) :
    Calls Tryd.prog 7 #[.agg #[.int .i64 p, .int .i64 u], .agg #[.int .i64 q, .int .i64 v]] w fun e' w' => e' = .returned (.tuple #[.agg #[.int .i64 0, .int .i64 0], .int .i64 e]) ∧ Below w.heap.size w w' := by
  have h57 := Tryd.underlying47
  have i0 : ∀ w, (Instr.index 47 (.agg #[.int .i64 p, .int .i64 u, .int .i64 q, .int .i64 v]) (.int .i64 0)).run Tryd.prog w = .ok (.agg #[.int .i64 p, .int .i64 u]) w := fun _ => by kernel_rfl
  have hb : (e != 0) = true := bne_iff_ne.2 he
  have H := GB.hid h
  clear h
  go_enter Tryd.func7, Tryd.ntmps7
  go_wp2
  refine wp_loop_rounds 3 ?_
  rw [rounds_succ]
  go_wp2_with fail
  refine (turn_Check.calls k _ _ _ _ H.out).mono ?_
  rintro e' w1 ⟨rfl, hB⟩
  have K := GB.hid (((GB.Blk.new ((w.alloc (.cells #[.int .i64 p, .int .i64 u] 23)).alloc (.cells #[.int .i64 q, .int .i64 v] 23)) 23 [.int .i64 0, .int .i64 0]).alloc (.cells #[.int .i64 p, .int .i64 u] 23)).below hB)
  have HB := GB.hid (GB.bls (by repeat (first | exact GB.bl0 _ | apply GB.bla)) hB : Below w.heap.size w w1)
  clear hB
  have c0 := K.out.cell 0 rfl
  have c1 := K.out.cell 1 rfl
  have f0 := K.out.free 0
  have f1 := K.out.free 1
  simp only [World.size_alloc] at c0 c1 f0 f1
  go_wp2
  refine bodyPost_ret (v := .tuple #[.agg #[.int .i64 0, .int .i64 0], .int .i64 e]) (by simp [results, Tryd.results7, go_sem, c0, c1]) rfl ⟨rfl, ?_⟩
  repeat (first | exact HB.out | apply GB.bla | refine GB.blset ?_ (by omega) _ _)
set_option maxHeartbeats 4000000 in
set_option maxRecDepth 100000 in
theorem turn_Add.e2 (k : Nat) (p u q v e : Int) (w : World) (h0 : turn_Check.f k p u = some 0) (h : turn_Check.f k q v = some e) (he : e ≠ 0) :
    Calls Tryd.prog 7 #[.agg #[.int .i64 p, .int .i64 u], .agg #[.int .i64 q, .int .i64 v]] w fun e' w' => e' = .returned (.tuple #[.agg #[.int .i64 0, .int .i64 0], .int .i64 e]) ∧ Below w.heap.size w w' := by
  have h57 := Tryd.underlying47
  have i0 : ∀ w, (Instr.index 47 (.agg #[.int .i64 p, .int .i64 u, .int .i64 q, .int .i64 v]) (.int .i64 0)).run Tryd.prog w = .ok (.agg #[.int .i64 p, .int .i64 u]) w := fun _ => by kernel_rfl
  have i1 : ∀ w, (Instr.index 47 (.agg #[.int .i64 p, .int .i64 u, .int .i64 q, .int .i64 v]) (.int .i64 1)).run Tryd.prog w = .ok (.agg #[.int .i64 q, .int .i64 v]) w := fun _ => by kernel_rfl
  have hb : (e != 0) = true := bne_iff_ne.2 he
  have H0 := GB.hid h0
  have H := GB.hid h
  clear h h0
  go_enter Tryd.func7, Tryd.ntmps7
  go_wp2
  refine wp_loop_rounds 3 ?_
  rw [rounds_succ]
  go_wp2_with fail
  refine (turn_Check.calls k _ _ _ _ H0.out).mono ?_
  rintro e' w1 ⟨rfl, hB⟩
  have K := GB.hid (((GB.Blk.new ((w.alloc (.cells #[.int .i64 p, .int .i64 u] 23)).alloc (.cells #[.int .i64 q, .int .i64 v] 23)) 23 [.int .i64 0, .int .i64 0]).alloc (.cells #[.int .i64 p, .int .i64 u] 23)).below hB)
  have HB := GB.hid (GB.bls (by repeat (first | exact GB.bl0 _ | apply GB.bla)) hB : Below w.heap.size w w1)
  clear hB
  go_wp2
  rw [rounds_succ]
  go_wp2_with fail
  refine (turn_Check.calls k _ _ _ _ H.out).mono ?_
  rintro e' w2 ⟨rfl, hB⟩
  have K := GB.hid ((K.out.alloc (.cells #[.int .i64 q, .int .i64 v] 23)).below hB)
  have HB := GB.hid (GB.bls (by repeat (first | exact HB.out | apply GB.bla)) hB : Below w.heap.size w w2)
  clear hB
  have c0 := K.out.cell 0 rfl
  have c1 := K.out.cell 1 rfl
  have f0 := K.out.free 0
  have f1 := K.out.free 1
  simp only [World.size_alloc] at c0 c1 f0 f1
  go_wp2
  refine bodyPost_ret (v := .tuple #[.agg #[.int .i64 0, .int .i64 0], .int .i64 e]) (by simp [results, Tryd.results7, go_sem, c0, c1]) rfl ⟨rfl, ?_⟩
  repeat (first | exact HB.out | apply GB.bla | refine GB.blset ?_ (by omega) _ _)
theorem turn_Add.wrap_less {x : Int} (h0 : 0 ≤ x) (h1 : x < 18446744073709551616) : IntKind.u64.wrap (x - 18446744073709551616) = x := by
  simp [IntKind.wrap, IntKind.bits, IntKind.signed]; omega
theorem turn_Add.add64 (x y : Int) (hx : 0 ≤ x) (hy : 0 ≤ y) (w : World) :
    (callFunc 30 #[.int .u64 x, .int .u64 y, .int .u64 0]).run Tryd.prog w = .ok (.value (.tuple #[.int .u64 ((x + y) % 18446744073709551616), .int .u64 ((x + y) / 18446744073709551616)])) w := by
  rw [run_callFunc_extern (fn := Tryd.f30) (by kernel_rfl) (by kernel_rfl) (by kernel_rfl) (by kernel_rfl) (e := add64Entry) (by kernel_rfl), run_add64 x y 0 hx hy (Int.le_refl _) (by decide), Int.add_zero]
  rfl
set_option maxHeartbeats 4000000 in
set_option maxRecDepth 100000 in
theorem turn_Add.e3 (k : Nat) (p u q v g s : Int) (r1 r2 r3 : Int) (w : World) (h0 : turn_Check.f k p u = some 0) (h1 : turn_Check.f k q v = some 0) (h2 : turn_common.f k u v = some g)
    (g1 : 1 ≤ g) (p0 : 0 ≤ p) (p1 : p < u) (u1 : u ≤ 4294967296) (q0 : 0 ≤ q) (q1 : q < v) (v1 : v ≤ 4294967296) (V U S W : Int) (hV : v / g = V) (hU : u / g = U) (V0 : 0 ≤ V) (V1 : V ≤ 4294967296) (U0 : 0 ≤ U) (U1 : U ≤ 4294967296) (hW : u * V = W) (W1 : W < 18446744073709551616) (W0 : 0 ≤ W)
    (X Y : Int) (hX : p * V = X) (hY : q * U = Y) (X0 : 0 ≤ X) (X1 : X < 18446744073709551616) (Y0 : 0 ≤ Y) (Y1 : Y < 18446744073709551616) (hS : X + Y < 2 * W)
    (h : turn_lowest.f k (if W ≤ X + Y then X + Y - W else X + Y) W = some (r1, r2, r3)) :
    Calls Tryd.prog 7 #[.agg #[.int .i64 p, .int .i64 u], .agg #[.int .i64 q, .int .i64 v]] w fun e' w' => e' = .returned (.tuple #[.agg #[.int .i64 r1, .int .i64 r2], .int .i64 r3]) ∧ Below w.heap.size w w' := by
  have h57 := Tryd.underlying47
  have i0 : ∀ w, (Instr.index 47 (.agg #[.int .i64 p, .int .i64 u, .int .i64 q, .int .i64 v]) (.int .i64 0)).run Tryd.prog w = .ok (.agg #[.int .i64 p, .int .i64 u]) w := fun _ => by kernel_rfl
  have i1 : ∀ w, (Instr.index 47 (.agg #[.int .i64 p, .int .i64 u, .int .i64 q, .int .i64 v]) (.int .i64 1)).run Tryd.prog w = .ok (.agg #[.int .i64 q, .int .i64 v]) w := fun _ => by kernel_rfl
  have H0 := GB.hid h0
  have H1 := GB.hid h1
  have H2 := GB.hid h2
  have H := GB.hid h
  have HV := GB.hid hV
  have HU := GB.hid hU
  have HW := GB.hid hW
  have HX := GB.hid hX
  have HY := GB.hid hY
  clear h h0 h1 h2 hV hU hW hX hY
  go_enter Tryd.func7, Tryd.ntmps7
  go_wp2
  refine wp_loop_rounds 3 ?_
  rw [rounds_succ]
  go_wp2_with fail
  refine (turn_Check.calls k _ _ _ _ H0.out).mono ?_
  rintro e' w1 ⟨rfl, hB⟩
  have K := GB.hid (((GB.Blk.new ((w.alloc (.cells #[.int .i64 p, .int .i64 u] 23)).alloc (.cells #[.int .i64 q, .int .i64 v] 23)) 23 [.int .i64 0, .int .i64 0]).alloc (.cells #[.int .i64 p, .int .i64 u] 23)).below hB)
  have KB := GB.hid ((((GB.Blk.new (w.alloc (.cells #[.int .i64 p, .int .i64 u] 23)) 23 [.int .i64 q, .int .i64 v]).alloc (.cells #[.int .i64 0, .int .i64 0] 23)).alloc (.cells #[.int .i64 p, .int .i64 u] 23)).below hB)
  have KA := GB.hid (((((GB.Blk.new w 23 [.int .i64 p, .int .i64 u]).alloc (.cells #[.int .i64 q, .int .i64 v] 23)).alloc (.cells #[.int .i64 0, .int .i64 0] 23)).alloc (.cells #[.int .i64 p, .int .i64 u] 23)).below hB)
  have HB := GB.hid (GB.bls (by repeat (first | exact GB.bl0 _ | apply GB.bla)) hB : Below w.heap.size w w1)
  clear hB
  go_wp2
  rw [rounds_succ]
  go_wp2_with fail
  refine (turn_Check.calls k _ _ _ _ H1.out).mono ?_
  rintro e' w2 ⟨rfl, hB⟩
  have K := GB.hid ((K.out.alloc (.cells #[.int .i64 q, .int .i64 v] 23)).below hB)
  have KA := GB.hid ((KA.out.alloc (.cells #[.int .i64 q, .int .i64 v] 23)).below hB)
  have KB := GB.hid ((KB.out.alloc (.cells #[.int .i64 q, .int .i64 v] 23)).below hB)
  have HB := GB.hid (GB.bls (by repeat (first | exact HB.out | apply GB.bla)) hB : Below w.heap.size w w2)
  clear hB
  have c0 := K.out.cell 0 rfl
  have c1 := K.out.cell 1 rfl
  have f0 := K.out.free 0
  have f1 := K.out.free 1
  have a0 := KA.out.cell 0 rfl
  have a1 := KA.out.cell 1 rfl
  have b0 := KB.out.cell 0 rfl
  have b1 := KB.out.cell 1 rfl
  simp only [World.size_alloc] at c0 c1 f0 f1 a0 a1 b0 b1
  go_wp2
  rw [rounds_succ]
  go_wp2_with fail
  refine (turn_common.calls k u v g _ H2.out).mono ?_
  rintro e' w3 ⟨rfl, nd, rfl⟩
  have E1 : IntKind.u64.wrap (v / g) = V := by rw [HV.out]; exact IntWalk.u64_in _ (by omega)
  have E2 : IntKind.u64.wrap (u * V) = W := by rw [HW.out]; exact IntWalk.u64_in _ (by omega)
  have E3 : IntKind.u64.wrap (p * V) = X := by rw [HX.out]; exact IntWalk.u64_in _ (by omega)
  have E4 : IntKind.u64.wrap (u / g) = U := by rw [HU.out]; exact IntWalk.u64_in _ (by omega)
  have E5 : IntKind.u64.wrap (q * U) = Y := by rw [HY.out]; exact IntWalk.u64_in _ (by omega)
  have hadd := turn_Add.add64 X Y X0 Y0
  go_wp2
  go_quiet (simp only [hadd])
  clear hadd
  clear c0 c1 f0 f1
  by_cases hc : X + Y < 18446744073709551616
  · have d1 : (X + Y) % 18446744073709551616 = X + Y := Int.emod_eq_of_lt (by omega) hc
    have d2 : (X + Y) / 18446744073709551616 = 0 := Int.ediv_eq_zero_of_lt (by omega) hc
    simp only [d1, d2]
    clear d1 d2
    by_cases hs : W ≤ X + Y
    · have H' := H.out
      rw [if_pos hs] at H'
      have H := GB.hid H'
      clear H'
      have E6 : IntKind.u64.wrap (X + Y - W) = X + Y - W := IntWalk.u64_in _ (by omega)
      have hd : decide (W ≤ X + Y) = true := decide_eq_true hs
      go_wp2_with fail
      refine (turn_lowest.calls k _ _ r1 r2 r3 _ H.out).mono ?_
      rintro e' w4 ⟨rfl, hB⟩
      have K := GB.hid ((K.out.drewN _).below hB)
      have HB := GB.hid (GB.bls (GB.bldN HB.out _) hB : Below w.heap.size w w4)
      clear hB H
      have c0 := K.out.cell 0 rfl
      have c1 := K.out.cell 1 rfl
      have f0 := K.out.free 0
      have f1 := K.out.free 1
      simp only [World.size_alloc] at c0 c1 f0 f1
      go_wp2
      refine bodyPost_ret (v := .tuple #[.agg #[.int .i64 r1, .int .i64 r2], .int .i64 r3]) (by simp [results, Tryd.results7, go_sem, c0, c1]) rfl ⟨rfl, ?_⟩
      repeat (first | exact HB.out | apply GB.bla | refine GB.blset ?_ (by omega) _ _)
    · have H' := H.out
      rw [if_neg hs] at H'
      have H := GB.hid H'
      clear H'
      have hd : decide (W ≤ X + Y) = false := decide_eq_false hs
      go_wp2_with fail
      refine (turn_lowest.calls k _ _ r1 r2 r3 _ H.out).mono ?_
      rintro e' w4 ⟨rfl, hB⟩
      have K := GB.hid ((K.out.drewN _).below hB)
      have HB := GB.hid (GB.bls (GB.bldN HB.out _) hB : Below w.heap.size w w4)
      clear hB H
      have c0 := K.out.cell 0 rfl
      have c1 := K.out.cell 1 rfl
      have f0 := K.out.free 0
      have f1 := K.out.free 1
      simp only [World.size_alloc] at c0 c1 f0 f1
      go_wp2
      refine bodyPost_ret (v := .tuple #[.agg #[.int .i64 r1, .int .i64 r2], .int .i64 r3]) (by simp [results, Tryd.results7, go_sem, c0, c1]) rfl ⟨rfl, ?_⟩
      repeat (first | exact HB.out | apply GB.bla | refine GB.blset ?_ (by omega) _ _)
  · have hs : W ≤ X + Y := by omega
    have H' := H.out
    rw [if_pos hs] at H'
    have H := GB.hid H'
    clear H'
    have d1 : (X + Y) % 18446744073709551616 = X + Y - 18446744073709551616 := by omega
    have d2 : (X + Y) / 18446744073709551616 = 1 := by omega
    simp only [d1, d2]
    clear d1 d2
    have E6 : IntKind.u64.wrap (X + Y - 18446744073709551616 - W) = X + Y - W := by rw [show X + Y - 18446744073709551616 - W = X + Y - W - 18446744073709551616 by omega]; exact turn_Add.wrap_less (by omega) (by omega)
    go_wp2_with fail
    refine (turn_lowest.calls k _ _ r1 r2 r3 _ H.out).mono ?_
    rintro e' w4 ⟨rfl, hB⟩
    have K := GB.hid ((K.out.drewN _).below hB)
    have HB := GB.hid (GB.bls (GB.bldN HB.out _) hB : Below w.heap.size w w4)
    clear hB H
    have c0 := K.out.cell 0 rfl
    have c1 := K.out.cell 1 rfl
    have f0 := K.out.free 0
    have f1 := K.out.free 1
    simp only [World.size_alloc] at c0 c1 f0 f1
    go_wp2
    refine bodyPost_ret (v := .tuple #[.agg #[.int .i64 r1, .int .i64 r2], .int .i64 r3]) (by simp [results, Tryd.results7, go_sem, c0, c1]) rfl ⟨rfl, ?_⟩
    repeat (first | exact HB.out | apply GB.bla | refine GB.blset ?_ (by omega) _ _)
theorem turn_Add.calls (k : Nat) (a0_0 : Int) (a0_1 : Int) (a1_0 : Int) (a1_1 : Int) (r1 : Int) (r2 : Int) (r3 : Int) (w : World) (h : turn_Add.f k a0_0 a0_1 a1_0 a1_1 = some (r1, r2, r3)) :
    Calls Tryd.prog 7 #[.agg #[.int .i64 a0_0, .int .i64 a0_1], .agg #[.int .i64 a1_0, .int .i64 a1_1]] w fun e w' => e = .returned (.tuple #[.agg #[.int .i64 r1, .int .i64 r2], .int .i64 r3]) ∧ Below w.heap.size w w' := by
  unfold turn_Add.f at h
  obtain ⟨e, h0, h⟩ := Option.bind_eq_some_iff.mp h
  by_cases he : e = 0
  · subst he
    rw [if_pos rfl] at h
    obtain ⟨e1, h1, h⟩ := Option.bind_eq_some_iff.mp h
    by_cases he1 : e1 = 0
    · subst he1
      rw [if_pos rfl] at h
      obtain ⟨g, h2, h⟩ := Option.bind_eq_some_iff.mp h
      unfold turn_Add.tail at h
      split at h
      · rename_i hc
        obtain ⟨g1, p0, u0, pu, q0, v0, qv, u1, v1, W1, hS, X1, Y1⟩ := hc
        have V0 : 0 ≤ a1_1 / g := Int.ediv_nonneg (by omega) (by omega)
        have U0 : 0 ≤ a0_1 / g := Int.ediv_nonneg (by omega) (by omega)
        have V1 : a1_1 / g ≤ a1_1 := Int.ediv_le_self _ (by omega)
        have U1 : a0_1 / g ≤ a0_1 := Int.ediv_le_self _ (by omega)
        exact turn_Add.e3 k a0_0 a0_1 a1_0 a1_1 g 0 r1 r2 r3 w h0 h1 h2 g1 p0 pu u1 q0 qv v1 _ _ 0 _ rfl rfl V0 (by omega) U0 (by omega) rfl W1 (Int.mul_nonneg (by omega) V0) _ _ rfl rfl (Int.mul_nonneg p0 V0) X1 (Int.mul_nonneg q0 U0) Y1 hS h
      · cases h
    · rw [if_neg he1] at h
      cases h
      exact turn_Add.e2 k _ _ _ _ _ w h0 h1 he1
  · rw [if_neg he] at h
    cases h
    exact turn_Add.e1 k _ _ _ _ _ w h0 he


end Go.Proofs.YtcddhfidbhcgdaaDoor.PK8
