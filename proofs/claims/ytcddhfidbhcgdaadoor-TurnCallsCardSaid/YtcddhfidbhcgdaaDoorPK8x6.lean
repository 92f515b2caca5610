/- Written by wip/xprint.py (the kit's print over given functions). -/
import Derived.Test.YtcddhfidbhcgdaaDoorPK8x0
import Derived.Test.YtcddhfidbhcgdaaDoorPK8x3
namespace Go.Proofs.YtcddhfidbhcgdaaDoor.PK8
open Go.RowKit Go.Proofs.YtcddhfidbhcgdaaDoorW.PrintWords Go.Proofs.YtcddhfidbhcgdaaDoorW.PrintLast Go.Proofs.YtcddhfidbhcgdaaDoorW.PrintMore
attribute [local go_sem] max2_int min2_int max_two min_two max_three min_three max_four min_four   -- for this text's walks alone
set_option linter.unusedVariables false
set_option linter.unusedSimpArgs false

/-! ### slackwaterref08_Root: function 19 (given) -/
section
attribute [local go_sem] unary_negf run_store_float
theorem ref_over.calls (x r : Nat) (w : World) (h : turn_over.v x = some r) : Calls Tryd.prog 54 #[.float .f64 x] w fun e w' => e = .returned (.float .f64 r) ∧ w = w' := by
  unfold turn_over.v at h
  by_cases h0 : (FloatKind.f64.format.order x 0 == some .lt) = true
  · rw [if_pos h0] at h
    have H : ∀ w, (binOp BinOp.quo 56 (Value.float FloatKind.f64 13830554455654793216) (Value.float FloatKind.f64 (Op.negFloat .f64 x))).run Tryd.prog w = .ok (.float .f64 r) w := fun w => run_float_arith w _ _ _ _ _ _ h
    clear h
    go_enter Tryd.func54, Tryd.ntmps54
    go_wp2
    go_ret
    exact ⟨rfl, rfl⟩
  · have h0 : (FloatKind.f64.format.order x 0 == some .lt) = false := by simpa using h0
    rw [if_neg (by simp [h0])] at h
    have H : ∀ w, (binOp BinOp.quo 56 (Value.float FloatKind.f64 4607182418800017408) (Value.float FloatKind.f64 x)).run Tryd.prog w = .ok (.float .f64 r) w := fun w => run_float_arith w _ _ _ _ _ _ h
    clear h
    go_enter Tryd.func54, Tryd.ntmps54
    go_wp2
    go_ret
    exact ⟨rfl, rfl⟩
theorem ref_plus.calls (x : Nat) (w : World) : Calls Tryd.prog 43 #[.float .f64 x] w fun e w' => e = .returned (.float .f64 (turn_plus.v x)) ∧ w = w' := by
  unfold turn_plus.v
  by_cases h0 : (FloatKind.f64.format.order x 0 == some .eq) = true
  · rw [if_pos h0]
    go_enter Tryd.func43, Tryd.ntmps43
    go_wp2
    go_ret
    exact ⟨rfl, rfl⟩
  · rw [if_neg h0]
    have h1 : (FloatKind.f64.format.order x 0 == some .eq) = false := by simpa using h0
    clear h0
    go_enter Tryd.func43, Tryd.ntmps43
    go_wp2
    go_ret
    exact ⟨rfl, rfl⟩
set_option maxHeartbeats 1000000 in
theorem ref_sines.calls (w : World) : Calls Tryd.prog 53 #[] w fun e w' => e = .returned (.agg #[.float .f64 13841813454723219456, .float .f64 4638144666238189568, .float .f64 13885635590159859712, .float .f64 4689977843394805760, .float .f64 13943998388916715520, .float .f64 4753323511810883584, .float .f64 14011551075333570560]) ∧ Below w.heap.size w w' := by
  have h43 := Tryd.underlying58
  go_enter Tryd.func53, Tryd.ntmps53
  go_wp2
  refine bodyPost_ret (v := .agg #[.float .f64 13841813454723219456, .float .f64 4638144666238189568, .float .f64 13885635590159859712, .float .f64 4689977843394805760, .float .f64 13943998388916715520, .float .f64 4753323511810883584, .float .f64 14011551075333570560]) (by simp [results, Tryd.results53, go_sem]) rfl ⟨rfl, ?_⟩
  repeat (first | exact GB.bl0 _ | apply GB.bla | refine GB.blset ?_ (by omega) _ _)
set_option maxHeartbeats 1000000 in
theorem ref_cosines.calls (w : World) : Calls Tryd.prog 55 #[] w fun e w' => e = .returned (.agg #[.float .f64 13835058055282163712, .float .f64 4627448617123184640, .float .f64 13872916439649746944, .float .f64 4675774352187195392, .float .f64 13928419236864065536, .float .f64 4736815922046566400, .float .f64 13993893759104843776, .float .f64 4806193436988276736]) ∧ Below w.heap.size w w' := by
  have h43 := Tryd.underlying60
  go_enter Tryd.func55, Tryd.ntmps55
  go_wp2
  refine bodyPost_ret (v := .agg #[.float .f64 13835058055282163712, .float .f64 4627448617123184640, .float .f64 13872916439649746944, .float .f64 4675774352187195392, .float .f64 13928419236864065536, .float .f64 4736815922046566400, .float .f64 13993893759104843776, .float .f64 4806193436988276736]) (by simp [results, Tryd.results55, go_sem]) rfl ⟨rfl, ?_⟩
  repeat (first | exact GB.bl0 _ | apply GB.bla | refine GB.blset ?_ (by omega) _ _)
set_option maxHeartbeats 4000000 in
set_option maxRecDepth 100000 in
theorem ref_sine.calls (y q V yq t s : Nat) (w : World) (hV : turn_series.v turn_sines.l q = some V) (hFa : floatBits .mul .f64 y q = some yq) (hFb : floatBits .mul .f64 yq V = some t) (hFc : floatBits .add .f64 y t = some s) :
    Calls Tryd.prog 41 #[.float .f64 y, .float .f64 q] w fun e w' => e = .returned (.float .f64 s) ∧ Below w.heap.size w w' := by
  have h43 := Tryd.underlying58
  have h29 := Tryd.underlying56
  have Fa : ∀ w, (binOp BinOp.mul 56 (Value.float FloatKind.f64 y) (Value.float FloatKind.f64 q)).run Tryd.prog w = .ok (.float .f64 yq) w := fun w => run_float_arith w _ _ _ _ _ _ hFa
  have Fb : ∀ w, (binOp BinOp.mul 56 (Value.float FloatKind.f64 yq) (Value.float FloatKind.f64 V)).run Tryd.prog w = .ok (.float .f64 t) w := fun w => run_float_arith w _ _ _ _ _ _ hFb
  have Fc : ∀ w, (binOp BinOp.add 56 (Value.float FloatKind.f64 y) (Value.float FloatKind.f64 t)).run Tryd.prog w = .ok (.float .f64 s) w := fun w => run_float_arith w _ _ _ _ _ _ hFc
  clear hFa hFb hFc
  unfold turn_series.v turn_sines.l at hV
  obtain ⟨s0, ho0, hV⟩ := Option.bind_eq_some_iff.mp hV
  have HO0 := GB.hid ho0
  clear ho0
  unfold turn_series.go at hV
  obtain ⟨m1, hm1, hV⟩ := Option.bind_eq_some_iff.mp hV
  obtain ⟨o1, ho1, hV⟩ := Option.bind_eq_some_iff.mp hV
  obtain ⟨s1, hs1, hV⟩ := Option.bind_eq_some_iff.mp hV
  have HO1 := GB.hid ho1
  have hM1 := hm1
  have hA1 := hs1
  have M1 : ∀ w, (binOp BinOp.mul 56 (Value.float FloatKind.f64 s0) (Value.float FloatKind.f64 q)).run Tryd.prog w = .ok (.float .f64 m1) w := fun w => run_float_arith w _ _ _ _ _ _ hM1
  have A1 : ∀ w, (binOp BinOp.add 56 (Value.float FloatKind.f64 m1) (Value.float FloatKind.f64 o1)).run Tryd.prog w = .ok (.float .f64 s1) w := fun w => run_float_arith w _ _ _ _ _ _ hA1
  clear ho1 hm1 hs1 hM1 hA1
  unfold turn_series.go at hV
  obtain ⟨m2, hm2, hV⟩ := Option.bind_eq_some_iff.mp hV
  obtain ⟨o2, ho2, hV⟩ := Option.bind_eq_some_iff.mp hV
  obtain ⟨s2, hs2, hV⟩ := Option.bind_eq_some_iff.mp hV
  have HO2 := GB.hid ho2
  have hM2 := hm2
  have hA2 := hs2
  have M2 : ∀ w, (binOp BinOp.mul 56 (Value.float FloatKind.f64 s1) (Value.float FloatKind.f64 q)).run Tryd.prog w = .ok (.float .f64 m2) w := fun w => run_float_arith w _ _ _ _ _ _ hM2
  have A2 : ∀ w, (binOp BinOp.add 56 (Value.float FloatKind.f64 m2) (Value.float FloatKind.f64 o2)).run Tryd.prog w = .ok (.float .f64 s2) w := fun w => run_float_arith w _ _ _ _ _ _ hA2
  clear ho2 hm2 hs2 hM2 hA2
  unfold turn_series.go at hV
  obtain ⟨m3, hm3, hV⟩ := Option.bind_eq_some_iff.mp hV
  obtain ⟨o3, ho3, hV⟩ := Option.bind_eq_some_iff.mp hV
  obtain ⟨s3, hs3, hV⟩ := Option.bind_eq_some_iff.mp hV
  have HO3 := GB.hid ho3
  have hM3 := hm3
  have hA3 := hs3
  have M3 : ∀ w, (binOp BinOp.mul 56 (Value.float FloatKind.f64 s2) (Value.float FloatKind.f64 q)).run Tryd.prog w = .ok (.float .f64 m3) w := fun w => run_float_arith w _ _ _ _ _ _ hM3
  have A3 : ∀ w, (binOp BinOp.add 56 (Value.float FloatKind.f64 m3) (Value.float FloatKind.f64 o3)).run Tryd.prog w = .ok (.float .f64 s3) w := fun w => run_float_arith w _ _ _ _ _ _ hA3
  clear ho3 hm3 hs3 hM3 hA3
  unfold turn_series.go at hV
  obtain ⟨m4, hm4, hV⟩ := Option.bind_eq_some_iff.mp hV
  obtain ⟨o4, ho4, hV⟩ := Option.bind_eq_some_iff.mp hV
  obtain ⟨s4, hs4, hV⟩ := Option.bind_eq_some_iff.mp hV
  have HO4 := GB.hid ho4
  have hM4 := hm4
  have hA4 := hs4
  have M4 : ∀ w, (binOp BinOp.mul 56 (Value.float FloatKind.f64 s3) (Value.float FloatKind.f64 q)).run Tryd.prog w = .ok (.float .f64 m4) w := fun w => run_float_arith w _ _ _ _ _ _ hM4
  have A4 : ∀ w, (binOp BinOp.add 56 (Value.float FloatKind.f64 m4) (Value.float FloatKind.f64 o4)).run Tryd.prog w = .ok (.float .f64 s4) w := fun w => run_float_arith w _ _ _ _ _ _ hA4
  clear ho4 hm4 hs4 hM4 hA4
  unfold turn_series.go at hV
  obtain ⟨m5, hm5, hV⟩ := Option.bind_eq_some_iff.mp hV
  obtain ⟨o5, ho5, hV⟩ := Option.bind_eq_some_iff.mp hV
  obtain ⟨s5, hs5, hV⟩ := Option.bind_eq_some_iff.mp hV
  have HO5 := GB.hid ho5
  have hM5 := hm5
  have hA5 := hs5
  have M5 : ∀ w, (binOp BinOp.mul 56 (Value.float FloatKind.f64 s4) (Value.float FloatKind.f64 q)).run Tryd.prog w = .ok (.float .f64 m5) w := fun w => run_float_arith w _ _ _ _ _ _ hM5
  have A5 : ∀ w, (binOp BinOp.add 56 (Value.float FloatKind.f64 m5) (Value.float FloatKind.f64 o5)).run Tryd.prog w = .ok (.float .f64 s5) w := fun w => run_float_arith w _ _ _ _ _ _ hA5
  clear ho5 hm5 hs5 hM5 hA5
  unfold turn_series.go at hV
  obtain ⟨m6, hm6, hV⟩ := Option.bind_eq_some_iff.mp hV
  obtain ⟨o6, ho6, hV⟩ := Option.bind_eq_some_iff.mp hV
  obtain ⟨s6, hs6, hV⟩ := Option.bind_eq_some_iff.mp hV
  have HO6 := GB.hid ho6
  have hM6 := hm6
  have hA6 := hs6
  have M6 : ∀ w, (binOp BinOp.mul 56 (Value.float FloatKind.f64 s5) (Value.float FloatKind.f64 q)).run Tryd.prog w = .ok (.float .f64 m6) w := fun w => run_float_arith w _ _ _ _ _ _ hM6
  have A6 : ∀ w, (binOp BinOp.add 56 (Value.float FloatKind.f64 m6) (Value.float FloatKind.f64 o6)).run Tryd.prog w = .ok (.float .f64 s6) w := fun w => run_float_arith w _ _ _ _ _ _ hA6
  clear ho6 hm6 hs6 hM6 hA6
  unfold turn_series.go at hV
  obtain rfl := Option.some.inj hV
  clear hV
  go_enter Tryd.func41, Tryd.ntmps41
  go_wp2_with fail
  refine (ref_sines.calls _).mono ?_
  rintro e w1 ⟨rfl, hB⟩
  have K := GB.hid (GB.Blk.new w1 58 [.float .f64 13841813454723219456, .float .f64 4638144666238189568, .float .f64 13885635590159859712, .float .f64 4689977843394805760, .float .f64 13943998388916715520, .float .f64 4753323511810883584, .float .f64 14011551075333570560])
  have HB := GB.hid (GB.bla hB (.cells #[.float .f64 13841813454723219456, .float .f64 4638144666238189568, .float .f64 13885635590159859712, .float .f64 4689977843394805760, .float .f64 13943998388916715520, .float .f64 4753323511810883584, .float .f64 14011551075333570560] 58))
  clear hB
  have c0 := K.out.cell 0 rfl
  have c1 := K.out.cell 1 rfl
  have c2 := K.out.cell 2 rfl
  have c3 := K.out.cell 3 rfl
  have c4 := K.out.cell 4 rfl
  have c5 := K.out.cell 5 rfl
  have c6 := K.out.cell 6 rfl
  go_wp2_with fail
  refine (ref_over.calls 14011551075333570560 s0 _ HO0.out).mono ?_
  rintro e w2 ⟨rfl, rfl⟩
  go_wp2
  refine wp_loop_rounds 7 ?_
  rw [rounds_succ]
  go_wp2_with fail
  refine (ref_over.calls 4753323511810883584 o1 _ HO1.out).mono ?_
  rintro e w2 ⟨rfl, rfl⟩
  go_wp2
  rw [rounds_succ]
  go_wp2_with fail
  refine (ref_over.calls 13943998388916715520 o2 _ HO2.out).mono ?_
  rintro e w2 ⟨rfl, rfl⟩
  go_wp2
  rw [rounds_succ]
  go_wp2_with fail
  refine (ref_over.calls 4689977843394805760 o3 _ HO3.out).mono ?_
  rintro e w2 ⟨rfl, rfl⟩
  go_wp2
  rw [rounds_succ]
  go_wp2_with fail
  refine (ref_over.calls 13885635590159859712 o4 _ HO4.out).mono ?_
  rintro e w2 ⟨rfl, rfl⟩
  go_wp2
  rw [rounds_succ]
  go_wp2_with fail
  refine (ref_over.calls 4638144666238189568 o5 _ HO5.out).mono ?_
  rintro e w2 ⟨rfl, rfl⟩
  go_wp2
  rw [rounds_succ]
  go_wp2_with fail
  refine (ref_over.calls 13841813454723219456 o6 _ HO6.out).mono ?_
  rintro e w2 ⟨rfl, rfl⟩
  go_wp2
  rw [rounds_succ]
  go_wp2
  go_ret
  exact ⟨rfl, HB.out⟩
set_option maxHeartbeats 4000000 in
set_option maxRecDepth 100000 in
theorem ref_cosine.calls (q V t s : Nat) (w : World) (hV : turn_series.v turn_cosines.l q = some V) (hFb : floatBits .mul .f64 q V = some t) (hFc : floatBits .add .f64 4607182418800017408 t = some s) :
    Calls Tryd.prog 42 #[.float .f64 q] w fun e w' => e = .returned (.float .f64 s) ∧ Below w.heap.size w w' := by
  have h43 := Tryd.underlying60
  have h29 := Tryd.underlying56
  have Fb : ∀ w, (binOp BinOp.mul 56 (Value.float FloatKind.f64 q) (Value.float FloatKind.f64 V)).run Tryd.prog w = .ok (.float .f64 t) w := fun w => run_float_arith w _ _ _ _ _ _ hFb
  have Fc : ∀ w, (binOp BinOp.add 56 (Value.float FloatKind.f64 4607182418800017408) (Value.float FloatKind.f64 t)).run Tryd.prog w = .ok (.float .f64 s) w := fun w => run_float_arith w _ _ _ _ _ _ hFc
  clear hFb hFc
  unfold turn_series.v turn_cosines.l at hV
  obtain ⟨s0, ho0, hV⟩ := Option.bind_eq_some_iff.mp hV
  have HO0 := GB.hid ho0
  clear ho0
  unfold turn_series.go at hV
  obtain ⟨m1, hm1, hV⟩ := Option.bind_eq_some_iff.mp hV
  obtain ⟨o1, ho1, hV⟩ := Option.bind_eq_some_iff.mp hV
  obtain ⟨s1, hs1, hV⟩ := Option.bind_eq_some_iff.mp hV
  have HO1 := GB.hid ho1
  have hM1 := hm1
  have hA1 := hs1
  have M1 : ∀ w, (binOp BinOp.mul 56 (Value.float FloatKind.f64 s0) (Value.float FloatKind.f64 q)).run Tryd.prog w = .ok (.float .f64 m1) w := fun w => run_float_arith w _ _ _ _ _ _ hM1
  have A1 : ∀ w, (binOp BinOp.add 56 (Value.float FloatKind.f64 m1) (Value.float FloatKind.f64 o1)).run Tryd.prog w = .ok (.float .f64 s1) w := fun w => run_float_arith w _ _ _ _ _ _ hA1
  clear ho1 hm1 hs1 hM1 hA1
  unfold turn_series.go at hV
  obtain ⟨m2, hm2, hV⟩ := Option.bind_eq_some_iff.mp hV
  obtain ⟨o2, ho2, hV⟩ := Option.bind_eq_some_iff.mp hV
  obtain ⟨s2, hs2, hV⟩ := Option.bind_eq_some_iff.mp hV
  have HO2 := GB.hid ho2
  have hM2 := hm2
  have hA2 := hs2
  have M2 : ∀ w, (binOp BinOp.mul 56 (Value.float FloatKind.f64 s1) (Value.float FloatKind.f64 q)).run Tryd.prog w = .ok (.float .f64 m2) w := fun w => run_float_arith w _ _ _ _ _ _ hM2
  have A2 : ∀ w, (binOp BinOp.add 56 (Value.float FloatKind.f64 m2) (Value.float FloatKind.f64 o2)).run Tryd.prog w = .ok (.float .f64 s2) w := fun w => run_float_arith w _ _ _ _ _ _ hA2
  clear ho2 hm2 hs2 hM2 hA2
  unfold turn_series.go at hV
  obtain ⟨m3, hm3, hV⟩ := Option.bind_eq_some_iff.mp hV
  obtain ⟨o3, ho3, hV⟩ := Option.bind_eq_some_iff.mp hV
  obtain ⟨s3, hs3, hV⟩ := Option.bind_eq_some_iff.mp hV
  have HO3 := GB.hid ho3
  have hM3 := hm3
  have hA3 := hs3
  have M3 : ∀ w, (binOp BinOp.mul 56 (Value.float FloatKind.f64 s2) (Value.float FloatKind.f64 q)).run Tryd.prog w = .ok (.float .f64 m3) w := fun w => run_float_arith w _ _ _ _ _ _ hM3
  have A3 : ∀ w, (binOp BinOp.add 56 (Value.float FloatKind.f64 m3) (Value.float FloatKind.f64 o3)).run Tryd.prog w = .ok (.float .f64 s3) w := fun w => run_float_arith w _ _ _ _ _ _ hA3
  clear ho3 hm3 hs3 hM3 hA3
  unfold turn_series.go at hV
  obtain ⟨m4, hm4, hV⟩ := Option.bind_eq_some_iff.mp hV
  obtain ⟨o4, ho4, hV⟩ := Option.bind_eq_some_iff.mp hV
  obtain ⟨s4, hs4, hV⟩ := Option.bind_eq_some_iff.mp hV
  have HO4 := GB.hid ho4
  have hM4 := hm4
  have hA4 := hs4
  have M4 : ∀ w, (binOp BinOp.mul 56 (Value.float FloatKind.f64 s3) (Value.float FloatKind.f64 q)).run Tryd.prog w = .ok (.float .f64 m4) w := fun w => run_float_arith w _ _ _ _ _ _ hM4
  have A4 : ∀ w, (binOp BinOp.add 56 (Value.float FloatKind.f64 m4) (Value.float FloatKind.f64 o4)).run Tryd.prog w = .ok (.float .f64 s4) w := fun w => run_float_arith w _ _ _ _ _ _ hA4
  clear ho4 hm4 hs4 hM4 hA4
  unfold turn_series.go at hV
  obtain ⟨m5, hm5, hV⟩ := Option.bind_eq_some_iff.mp hV
  obtain ⟨o5, ho5, hV⟩ := Option.bind_eq_some_iff.mp hV
  obtain ⟨s5, hs5, hV⟩ := Option.bind_eq_some_iff.mp hV
  have HO5 := GB.hid ho5
  have hM5 := hm5
  have hA5 := hs5
  have M5 : ∀ w, (binOp BinOp.mul 56 (Value.float FloatKind.f64 s4) (Value.float FloatKind.f64 q)).run Tryd.prog w = .ok (.float .f64 m5) w := fun w => run_float_arith w _ _ _ _ _ _ hM5
  have A5 : ∀ w, (binOp BinOp.add 56 (Value.float FloatKind.f64 m5) (Value.float FloatKind.f64 o5)).run Tryd.prog w = .ok (.float .f64 s5) w := fun w => run_float_arith w _ _ _ _ _ _ hA5
  clear ho5 hm5 hs5 hM5 hA5
  unfold turn_series.go at hV
  obtain ⟨m6, hm6, hV⟩ := Option.bind_eq_some_iff.mp hV
  obtain ⟨o6, ho6, hV⟩ := Option.bind_eq_some_iff.mp hV
  obtain ⟨s6, hs6, hV⟩ := Option.bind_eq_some_iff.mp hV
  have HO6 := GB.hid ho6
  have hM6 := hm6
  have hA6 := hs6
  have M6 : ∀ w, (binOp BinOp.mul 56 (Value.float FloatKind.f64 s5) (Value.float FloatKind.f64 q)).run Tryd.prog w = .ok (.float .f64 m6) w := fun w => run_float_arith w _ _ _ _ _ _ hM6
  have A6 : ∀ w, (binOp BinOp.add 56 (Value.float FloatKind.f64 m6) (Value.float FloatKind.f64 o6)).run Tryd.prog w = .ok (.float .f64 s6) w := fun w => run_float_arith w _ _ _ _ _ _ hA6
  clear ho6 hm6 hs6 hM6 hA6
  unfold turn_series.go at hV
  obtain ⟨m7, hm7, hV⟩ := Option.bind_eq_some_iff.mp hV
  obtain ⟨o7, ho7, hV⟩ := Option.bind_eq_some_iff.mp hV
  obtain ⟨s7, hs7, hV⟩ := Option.bind_eq_some_iff.mp hV
  have HO7 := GB.hid ho7
  have hM7 := hm7
  have hA7 := hs7
  have M7 : ∀ w, (binOp BinOp.mul 56 (Value.float FloatKind.f64 s6) (Value.float FloatKind.f64 q)).run Tryd.prog w = .ok (.float .f64 m7) w := fun w => run_float_arith w _ _ _ _ _ _ hM7
  have A7 : ∀ w, (binOp BinOp.add 56 (Value.float FloatKind.f64 m7) (Value.float FloatKind.f64 o7)).run Tryd.prog w = .ok (.float .f64 s7) w := fun w => run_float_arith w _ _ _ _ _ _ hA7
  clear ho7 hm7 hs7 hM7 hA7
  unfold turn_series.go at hV
  obtain rfl := Option.some.inj hV
  clear hV
  go_enter Tryd.func42, Tryd.ntmps42
  go_wp2_with fail
  refine (ref_cosines.calls _).mono ?_
  rintro e w1 ⟨rfl, hB⟩
  have K := GB.hid (GB.Blk.new w1 60 [.float .f64 13835058055282163712, .float .f64 4627448617123184640, .float .f64 13872916439649746944, .float .f64 4675774352187195392, .float .f64 13928419236864065536, .float .f64 4736815922046566400, .float .f64 13993893759104843776, .float .f64 4806193436988276736])
  have HB := GB.hid (GB.bla hB (.cells #[.float .f64 13835058055282163712, .float .f64 4627448617123184640, .float .f64 13872916439649746944, .float .f64 4675774352187195392, .float .f64 13928419236864065536, .float .f64 4736815922046566400, .float .f64 13993893759104843776, .float .f64 4806193436988276736] 60))
  clear hB
  have c0 := K.out.cell 0 rfl
  have c1 := K.out.cell 1 rfl
  have c2 := K.out.cell 2 rfl
  have c3 := K.out.cell 3 rfl
  have c4 := K.out.cell 4 rfl
  have c5 := K.out.cell 5 rfl
  have c6 := K.out.cell 6 rfl
  have c7 := K.out.cell 7 rfl
  go_wp2_with fail
  refine (ref_over.calls 4806193436988276736 s0 _ HO0.out).mono ?_
  rintro e w2 ⟨rfl, rfl⟩
  go_wp2
  refine wp_loop_rounds 8 ?_
  rw [rounds_succ]
  go_wp2_with fail
  refine (ref_over.calls 13993893759104843776 o1 _ HO1.out).mono ?_
  rintro e w2 ⟨rfl, rfl⟩
  go_wp2
  rw [rounds_succ]
  go_wp2_with fail
  refine (ref_over.calls 4736815922046566400 o2 _ HO2.out).mono ?_
  rintro e w2 ⟨rfl, rfl⟩
  go_wp2
  rw [rounds_succ]
  go_wp2_with fail
  refine (ref_over.calls 13928419236864065536 o3 _ HO3.out).mono ?_
  rintro e w2 ⟨rfl, rfl⟩
  go_wp2
  rw [rounds_succ]
  go_wp2_with fail
  refine (ref_over.calls 4675774352187195392 o4 _ HO4.out).mono ?_
  rintro e w2 ⟨rfl, rfl⟩
  go_wp2
  rw [rounds_succ]
  go_wp2_with fail
  refine (ref_over.calls 13872916439649746944 o5 _ HO5.out).mono ?_
  rintro e w2 ⟨rfl, rfl⟩
  go_wp2
  rw [rounds_succ]
  go_wp2_with fail
  refine (ref_over.calls 4627448617123184640 o6 _ HO6.out).mono ?_
  rintro e w2 ⟨rfl, rfl⟩
  go_wp2
  rw [rounds_succ]
  go_wp2_with fail
  refine (ref_over.calls 13835058055282163712 o7 _ HO7.out).mono ?_
  rintro e w2 ⟨rfl, rfl⟩
  go_wp2
  rw [rounds_succ]
  go_wp2
  go_ret
  exact ⟨rfl, HB.out⟩
set_option maxHeartbeats 4000000 in
set_option maxRecDepth 100000 in
theorem ref_Root.fine (p u e a a0 : Int) (x y : Nat) (w : World) (hchk : ∀ w, Calls Tryd.prog 24 #[.agg #[.int .i64 p, .int .i64 u]] w fun e' w' => e' = .returned (.int .i64 0) ∧ Below w.heap.size w w') (p0 : 0 ≤ p) (p1 : p < u) (u1 : u ≤ 4294967296)
    (he : 8 * p / u = e) (ha0 : 8 * p % u = a0) (ha : a = if e % 2 = 1 then u - a0 else a0) (h : turn_Root.fl e a u = some (x, y)) :
    Calls Tryd.prog 19 #[.agg #[.int .i64 p, .int .i64 u]] w fun e' w' => e' = .returned (.tuple #[.complex .f64 x y, .int .i64 0]) ∧ Below w.heap.size w w' := by
  have e0 : 0 ≤ e := by rw [← he]; exact Int.ediv_nonneg (by omega) (by omega)
  have e7 : e ≤ 7 := by
    rw [← he]
    have : 8 * p / u < 8 := Int.ediv_lt_of_lt_mul (by omega) (by omega)
    omega
  have a00 : 0 ≤ a0 := by rw [← ha0]; exact Int.emod_nonneg _ (by omega)
  have a01 : a0 < u := by rw [← ha0]; exact Int.emod_lt_of_pos _ (by omega)
  have h29 := Tryd.underlying56
  have h2 := Tryd.underlying2
  have h45 := Tryd.underlying60
  unfold turn_Root.fl at h
  obtain ⟨f, hf, h⟩ := Option.bind_eq_some_iff.mp h
  obtain ⟨y', hy, h⟩ := Option.bind_eq_some_iff.mp h
  obtain ⟨q, hq, h⟩ := Option.bind_eq_some_iff.mp h
  obtain ⟨yq, hyq, h⟩ := Option.bind_eq_some_iff.mp h
  obtain ⟨S, hS, h⟩ := Option.bind_eq_some_iff.mp h
  obtain ⟨t, ht, h⟩ := Option.bind_eq_some_iff.mp h
  obtain ⟨s, hs, h⟩ := Option.bind_eq_some_iff.mp h
  obtain ⟨C, hC, h⟩ := Option.bind_eq_some_iff.mp h
  obtain ⟨m, hm, h⟩ := Option.bind_eq_some_iff.mp h
  obtain ⟨c, hc, h⟩ := Option.bind_eq_some_iff.mp h
  injection h with h
  injection h with hx hy2
  have F1 : ∀ w, (binOp BinOp.quo 56 (Value.float FloatKind.f64 (floatOfInt .f64 a)) (Value.float FloatKind.f64 (floatOfInt .f64 u))).run Tryd.prog w = .ok (.float .f64 f) w := fun w => run_float_arith w _ _ _ _ _ _ hf
  have F2 : ∀ w, (binOp BinOp.mul 56 (Value.float FloatKind.f64 f) (Value.float FloatKind.f64 4605249457297304856)).run Tryd.prog w = .ok (.float .f64 y') w := fun w => run_float_arith w _ _ _ _ _ _ hy
  have F3 : ∀ w, (binOp BinOp.mul 56 (Value.float FloatKind.f64 y') (Value.float FloatKind.f64 y')).run Tryd.prog w = .ok (.float .f64 q) w := fun w => run_float_arith w _ _ _ _ _ _ hq
  have HSI := GB.hid (fun w => ref_sine.calls y' q S yq t s w hS hyq ht hs)
  have HCO := GB.hid (fun w => ref_cosine.calls q C m c w hC hm hc)
  have HE := GB.hid he
  have HA0 := GB.hid ha0
  have HA := GB.hid ha
  have HX := GB.hid hx
  have HY := GB.hid hy2
  have H0 := GB.hid hchk
  clear hchk hf hy hq hyq hS ht hs hC hm hc he ha0 ha hx hy2
  have E1 : IntKind.i64.wrap (8 * p) = 8 * p := IntWalk.i64_in _ (by omega)
  have E2 : IntKind.i64.wrap (Int.tdiv (8 * p) u) = e := by rw [Int.tdiv_eq_ediv_of_nonneg (by omega), HE.out]; exact IntWalk.i64_in _ (by omega)
  have E3 : Int.tmod (8 * p) u = a0 := by rw [Int.tmod_eq_emod_of_nonneg (by omega), HA0.out]
  have E5 : Int.tmod e 2 = e % 2 := Int.tmod_eq_emod_of_nonneg e0
  have hfb : ∀ w, (callFunc 36 #[.int .u64 4605249457297304856]).run Tryd.prog w = .ok (.value (.float .f64 4605249457297304856)) w := fun w => by have := fl_frombits 4605249457297304856 w; simpa using this
  go_enter Tryd.func19, Tryd.ntmps19
  go_wp2_with fail
  refine (H0.out _).mono ?_
  rintro e' w1 ⟨rfl, hB⟩
  have K := GB.hid ((GB.Blk.new w 23 [.int .i64 p, .int .i64 u]).below hB)
  have HB := GB.hid (GB.bls (by repeat (first | exact GB.bl0 _ | apply GB.bla)) hB : Below w.heap.size w w1)
  clear hB
  have c0 := K.out.cell 0 rfl
  have c1 := K.out.cell 1 rfl
  have E4 : e % 2 = 1 → IntKind.i64.wrap (u - a0) = a := fun h => by
    have := HA.out
    rw [if_pos h] at this
    rw [← this]; exact IntWalk.i64_in _ (by omega)
  have E6 : e % 2 ≠ 1 → a0 = a := fun h => by
    have := HA.out
    rw [if_neg h] at this
    exact this.symm
  by_cases h2e : e % 2 = 1
  · have b1 : (e % 2 == 1) = true := beq_iff_eq.2 h2e
    have E4 := E4 h2e
    clear h2e E6
    go_wp2_with fail
    refine (HSI.out _).mono ?_
    rintro e' w2 ⟨rfl, hB⟩
    have HB := GB.hid (GB.bls HB.out hB : Below w.heap.size w w2)
    clear hB
    go_wp2_with fail
    refine (HCO.out _).mono ?_
    rintro e' w3 ⟨rfl, hB⟩
    have HB := GB.hid (GB.bls HB.out hB : Below w.heap.size w w3)
    clear hB
    go_wp2_with fail
    have HE3 := GB.hid (GB.bla (GB.bla HB.out (.cells #[.float .f64 c, .float .f64 s, .float .f64 (Op.negFloat .f64 s), .float .f64 (Op.negFloat .f64 c), .float .f64 (Op.negFloat .f64 c), .float .f64 (Op.negFloat .f64 s), .float .f64 s, .float .f64 c] 60)) (.cells #[.float .f64 s, .float .f64 c, .float .f64 c, .float .f64 s, .float .f64 (Op.negFloat .f64 s), .float .f64 (Op.negFloat .f64 c), .float .f64 (Op.negFloat .f64 c), .float .f64 (Op.negFloat .f64 s)] 60))
    have KR := GB.hid ((GB.Blk.new w3 60 [.float .f64 c, .float .f64 s, .float .f64 (Op.negFloat .f64 s), .float .f64 (Op.negFloat .f64 c), .float .f64 (Op.negFloat .f64 c), .float .f64 (Op.negFloat .f64 s), .float .f64 s, .float .f64 c]).alloc (.cells #[.float .f64 s, .float .f64 c, .float .f64 c, .float .f64 s, .float .f64 (Op.negFloat .f64 s), .float .f64 (Op.negFloat .f64 c), .float .f64 (Op.negFloat .f64 c), .float .f64 (Op.negFloat .f64 s)] 60))
    have KI : Hid (GB.Blk ((w3.alloc (.cells #[.float .f64 c, .float .f64 s, .float .f64 (Op.negFloat .f64 s), .float .f64 (Op.negFloat .f64 c), .float .f64 (Op.negFloat .f64 c), .float .f64 (Op.negFloat .f64 s), .float .f64 s, .float .f64 c] 60)).alloc (.cells #[.float .f64 s, .float .f64 c, .float .f64 c, .float .f64 s, .float .f64 (Op.negFloat .f64 s), .float .f64 (Op.negFloat .f64 c), .float .f64 (Op.negFloat .f64 c), .float .f64 (Op.negFloat .f64 s)] 60)) (w3.heap.size + 1) 60 [.float .f64 s, .float .f64 c, .float .f64 c, .float .f64 s, .float .f64 (Op.negFloat .f64 s), .float .f64 (Op.negFloat .f64 c), .float .f64 (Op.negFloat .f64 c), .float .f64 (Op.negFloat .f64 s)]) := by
      have h := GB.Blk.new (w3.alloc (.cells #[.float .f64 c, .float .f64 s, .float .f64 (Op.negFloat .f64 s), .float .f64 (Op.negFloat .f64 c), .float .f64 (Op.negFloat .f64 c), .float .f64 (Op.negFloat .f64 s), .float .f64 s, .float .f64 c] 60)) 60 [.float .f64 s, .float .f64 c, .float .f64 c, .float .f64 s, .float .f64 (Op.negFloat .f64 s), .float .f64 (Op.negFloat .f64 c), .float .f64 (Op.negFloat .f64 c), .float .f64 (Op.negFloat .f64 s)]
      rw [World.size_alloc] at h
      exact h
    have he : e = 0 ∨ e = 1 ∨ e = 2 ∨ e = 3 ∨ e = 4 ∨ e = 5 ∨ e = 6 ∨ e = 7 := by omega
    have X := HX.out
    have Y := HY.out
    rcases he with rfl | rfl | rfl | rfl | rfl | rfl | rfl | rfl
    · simp (config := {decide := true}) only [turn_placed.v, if_true, if_false] at X Y
      subst X Y
      have d0 := KR.out.cell 0 rfl
      have d1 := KI.out.cell 0 rfl
      generalize hW : (w3.alloc _).alloc _ = W4 at *
      go_region_held3 (fun w' => w'.cell? ⟨w3.heap.size, 0, none⟩ = some (.float .f64 c) ∧ w'.cell? ⟨w3.heap.size + 1, 0, none⟩ = some (.float .f64 s)) (first | exact ⟨d0, d1⟩) (first | (go_at_call 43; refine (ref_plus.calls _ _).mono ?_; rintro e' w' ⟨rfl, rfl⟩))
      all_goals go_wp2
      all_goals go_ret2
      all_goals exact ⟨rfl, by repeat (first | exact HE3.out | apply GB.bld | apply GB.bldN)⟩
    · simp (config := {decide := true}) only [turn_placed.v, if_true, if_false] at X Y
      subst X Y
      have d0 := KR.out.cell 1 rfl
      have d1 := KI.out.cell 1 rfl
      generalize hW : (w3.alloc _).alloc _ = W4 at *
      go_region_held3 (fun w' => w'.cell? ⟨w3.heap.size, 1, none⟩ = some (.float .f64 s) ∧ w'.cell? ⟨w3.heap.size + 1, 1, none⟩ = some (.float .f64 c)) (first | exact ⟨d0, d1⟩) (first | (go_at_call 43; refine (ref_plus.calls _ _).mono ?_; rintro e' w' ⟨rfl, rfl⟩))
      all_goals go_wp2
      all_goals go_ret2
      all_goals exact ⟨rfl, by repeat (first | exact HE3.out | apply GB.bld | apply GB.bldN)⟩
    · simp (config := {decide := true}) only [turn_placed.v, if_true, if_false] at X Y
      subst X Y
      have d0 := KR.out.cell 2 rfl
      have d1 := KI.out.cell 2 rfl
      generalize hW : (w3.alloc _).alloc _ = W4 at *
      go_region_held3 (fun w' => w'.cell? ⟨w3.heap.size, 2, none⟩ = some (.float .f64 (Op.negFloat .f64 s)) ∧ w'.cell? ⟨w3.heap.size + 1, 2, none⟩ = some (.float .f64 c)) (first | exact ⟨d0, d1⟩) (first | (go_at_call 43; refine (ref_plus.calls _ _).mono ?_; rintro e' w' ⟨rfl, rfl⟩))
      all_goals go_wp2
      all_goals go_ret2
      all_goals exact ⟨rfl, by repeat (first | exact HE3.out | apply GB.bld | apply GB.bldN)⟩
    · simp (config := {decide := true}) only [turn_placed.v, if_true, if_false] at X Y
      subst X Y
      have d0 := KR.out.cell 3 rfl
      have d1 := KI.out.cell 3 rfl
      generalize hW : (w3.alloc _).alloc _ = W4 at *
      go_region_held3 (fun w' => w'.cell? ⟨w3.heap.size, 3, none⟩ = some (.float .f64 (Op.negFloat .f64 c)) ∧ w'.cell? ⟨w3.heap.size + 1, 3, none⟩ = some (.float .f64 s)) (first | exact ⟨d0, d1⟩) (first | (go_at_call 43; refine (ref_plus.calls _ _).mono ?_; rintro e' w' ⟨rfl, rfl⟩))
      all_goals go_wp2
      all_goals go_ret2
      all_goals exact ⟨rfl, by repeat (first | exact HE3.out | apply GB.bld | apply GB.bldN)⟩
    · simp (config := {decide := true}) only [turn_placed.v, if_true, if_false] at X Y
      subst X Y
      have d0 := KR.out.cell 4 rfl
      have d1 := KI.out.cell 4 rfl
      generalize hW : (w3.alloc _).alloc _ = W4 at *
      go_region_held3 (fun w' => w'.cell? ⟨w3.heap.size, 4, none⟩ = some (.float .f64 (Op.negFloat .f64 c)) ∧ w'.cell? ⟨w3.heap.size + 1, 4, none⟩ = some (.float .f64 (Op.negFloat .f64 s))) (first | exact ⟨d0, d1⟩) (first | (go_at_call 43; refine (ref_plus.calls _ _).mono ?_; rintro e' w' ⟨rfl, rfl⟩))
      all_goals go_wp2
      all_goals go_ret2
      all_goals exact ⟨rfl, by repeat (first | exact HE3.out | apply GB.bld | apply GB.bldN)⟩
    · simp (config := {decide := true}) only [turn_placed.v, if_true, if_false] at X Y
      subst X Y
      have d0 := KR.out.cell 5 rfl
      have d1 := KI.out.cell 5 rfl
      generalize hW : (w3.alloc _).alloc _ = W4 at *
      go_region_held3 (fun w' => w'.cell? ⟨w3.heap.size, 5, none⟩ = some (.float .f64 (Op.negFloat .f64 s)) ∧ w'.cell? ⟨w3.heap.size + 1, 5, none⟩ = some (.float .f64 (Op.negFloat .f64 c))) (first | exact ⟨d0, d1⟩) (first | (go_at_call 43; refine (ref_plus.calls _ _).mono ?_; rintro e' w' ⟨rfl, rfl⟩))
      all_goals go_wp2
      all_goals go_ret2
      all_goals exact ⟨rfl, by repeat (first | exact HE3.out | apply GB.bld | apply GB.bldN)⟩
    · simp (config := {decide := true}) only [turn_placed.v, if_true, if_false] at X Y
      subst X Y
      have d0 := KR.out.cell 6 rfl
      have d1 := KI.out.cell 6 rfl
      generalize hW : (w3.alloc _).alloc _ = W4 at *
      go_region_held3 (fun w' => w'.cell? ⟨w3.heap.size, 6, none⟩ = some (.float .f64 s) ∧ w'.cell? ⟨w3.heap.size + 1, 6, none⟩ = some (.float .f64 (Op.negFloat .f64 c))) (first | exact ⟨d0, d1⟩) (first | (go_at_call 43; refine (ref_plus.calls _ _).mono ?_; rintro e' w' ⟨rfl, rfl⟩))
      all_goals go_wp2
      all_goals go_ret2
      all_goals exact ⟨rfl, by repeat (first | exact HE3.out | apply GB.bld | apply GB.bldN)⟩
    · simp (config := {decide := true}) only [turn_placed.v, if_true, if_false] at X Y
      subst X Y
      have d0 := KR.out.cell 7 rfl
      have d1 := KI.out.cell 7 rfl
      generalize hW : (w3.alloc _).alloc _ = W4 at *
      go_region_held3 (fun w' => w'.cell? ⟨w3.heap.size, 7, none⟩ = some (.float .f64 c) ∧ w'.cell? ⟨w3.heap.size + 1, 7, none⟩ = some (.float .f64 (Op.negFloat .f64 s))) (first | exact ⟨d0, d1⟩) (first | (go_at_call 43; refine (ref_plus.calls _ _).mono ?_; rintro e' w' ⟨rfl, rfl⟩))
      all_goals go_wp2
      all_goals go_ret2
      all_goals exact ⟨rfl, by repeat (first | exact HE3.out | apply GB.bld | apply GB.bldN)⟩
  · have b1 : (e % 2 == 1) = false := beq_eq_false_iff_ne.2 h2e
    have E6 := E6 h2e
    subst E6
    clear h2e E4
    go_wp2_with fail
    refine (HSI.out _).mono ?_
    rintro e' w2 ⟨rfl, hB⟩
    have HB := GB.hid (GB.bls HB.out hB : Below w.heap.size w w2)
    clear hB
    go_wp2_with fail
    refine (HCO.out _).mono ?_
    rintro e' w3 ⟨rfl, hB⟩
    have HB := GB.hid (GB.bls HB.out hB : Below w.heap.size w w3)
    clear hB
    go_wp2_with fail
    have HE3 := GB.hid (GB.bla (GB.bla HB.out (.cells #[.float .f64 c, .float .f64 s, .float .f64 (Op.negFloat .f64 s), .float .f64 (Op.negFloat .f64 c), .float .f64 (Op.negFloat .f64 c), .float .f64 (Op.negFloat .f64 s), .float .f64 s, .float .f64 c] 60)) (.cells #[.float .f64 s, .float .f64 c, .float .f64 c, .float .f64 s, .float .f64 (Op.negFloat .f64 s), .float .f64 (Op.negFloat .f64 c), .float .f64 (Op.negFloat .f64 c), .float .f64 (Op.negFloat .f64 s)] 60))
    have KR := GB.hid ((GB.Blk.new w3 60 [.float .f64 c, .float .f64 s, .float .f64 (Op.negFloat .f64 s), .float .f64 (Op.negFloat .f64 c), .float .f64 (Op.negFloat .f64 c), .float .f64 (Op.negFloat .f64 s), .float .f64 s, .float .f64 c]).alloc (.cells #[.float .f64 s, .float .f64 c, .float .f64 c, .float .f64 s, .float .f64 (Op.negFloat .f64 s), .float .f64 (Op.negFloat .f64 c), .float .f64 (Op.negFloat .f64 c), .float .f64 (Op.negFloat .f64 s)] 60))
    have KI : Hid (GB.Blk ((w3.alloc (.cells #[.float .f64 c, .float .f64 s, .float .f64 (Op.negFloat .f64 s), .float .f64 (Op.negFloat .f64 c), .float .f64 (Op.negFloat .f64 c), .float .f64 (Op.negFloat .f64 s), .float .f64 s, .float .f64 c] 60)).alloc (.cells #[.float .f64 s, .float .f64 c, .float .f64 c, .float .f64 s, .float .f64 (Op.negFloat .f64 s), .float .f64 (Op.negFloat .f64 c), .float .f64 (Op.negFloat .f64 c), .float .f64 (Op.negFloat .f64 s)] 60)) (w3.heap.size + 1) 60 [.float .f64 s, .float .f64 c, .float .f64 c, .float .f64 s, .float .f64 (Op.negFloat .f64 s), .float .f64 (Op.negFloat .f64 c), .float .f64 (Op.negFloat .f64 c), .float .f64 (Op.negFloat .f64 s)]) := by
      have h := GB.Blk.new (w3.alloc (.cells #[.float .f64 c, .float .f64 s, .float .f64 (Op.negFloat .f64 s), .float .f64 (Op.negFloat .f64 c), .float .f64 (Op.negFloat .f64 c), .float .f64 (Op.negFloat .f64 s), .float .f64 s, .float .f64 c] 60)) 60 [.float .f64 s, .float .f64 c, .float .f64 c, .float .f64 s, .float .f64 (Op.negFloat .f64 s), .float .f64 (Op.negFloat .f64 c), .float .f64 (Op.negFloat .f64 c), .float .f64 (Op.negFloat .f64 s)]
      rw [World.size_alloc] at h
      exact h
    have he : e = 0 ∨ e = 1 ∨ e = 2 ∨ e = 3 ∨ e = 4 ∨ e = 5 ∨ e = 6 ∨ e = 7 := by omega
    have X := HX.out
    have Y := HY.out
    rcases he with rfl | rfl | rfl | rfl | rfl | rfl | rfl | rfl
    · simp (config := {decide := true}) only [turn_placed.v, if_true, if_false] at X Y
      subst X Y
      have d0 := KR.out.cell 0 rfl
      have d1 := KI.out.cell 0 rfl
      generalize hW : (w3.alloc _).alloc _ = W4 at *
      go_region_held3 (fun w' => w'.cell? ⟨w3.heap.size, 0, none⟩ = some (.float .f64 c) ∧ w'.cell? ⟨w3.heap.size + 1, 0, none⟩ = some (.float .f64 s)) (first | exact ⟨d0, d1⟩) (first | (go_at_call 43; refine (ref_plus.calls _ _).mono ?_; rintro e' w' ⟨rfl, rfl⟩))
      all_goals go_wp2
      all_goals go_ret2
      all_goals exact ⟨rfl, by repeat (first | exact HE3.out | apply GB.bld | apply GB.bldN)⟩
    · simp (config := {decide := true}) only [turn_placed.v, if_true, if_false] at X Y
      subst X Y
      have d0 := KR.out.cell 1 rfl
      have d1 := KI.out.cell 1 rfl
      generalize hW : (w3.alloc _).alloc _ = W4 at *
      go_region_held3 (fun w' => w'.cell? ⟨w3.heap.size, 1, none⟩ = some (.float .f64 s) ∧ w'.cell? ⟨w3.heap.size + 1, 1, none⟩ = some (.float .f64 c)) (first | exact ⟨d0, d1⟩) (first | (go_at_call 43; refine (ref_plus.calls _ _).mono ?_; rintro e' w' ⟨rfl, rfl⟩))
      all_goals go_wp2
      all_goals go_ret2
      all_goals exact ⟨rfl, by repeat (first | exact HE3.out | apply GB.bld | apply GB.bldN)⟩
    · simp (config := {decide := true}) only [turn_placed.v, if_true, if_false] at X Y
      subst X Y
      have d0 := KR.out.cell 2 rfl
      have d1 := KI.out.cell 2 rfl
      generalize hW : (w3.alloc _).alloc _ = W4 at *
      go_region_held3 (fun w' => w'.cell? ⟨w3.heap.size, 2, none⟩ = some (.float .f64 (Op.negFloat .f64 s)) ∧ w'.cell? ⟨w3.heap.size + 1, 2, none⟩ = some (.float .f64 c)) (first | exact ⟨d0, d1⟩) (first | (go_at_call 43; refine (ref_plus.calls _ _).mono ?_; rintro e' w' ⟨rfl, rfl⟩))
      all_goals go_wp2
      all_goals go_ret2
      all_goals exact ⟨rfl, by repeat (first | exact HE3.out | apply GB.bld | apply GB.bldN)⟩
    · simp (config := {decide := true}) only [turn_placed.v, if_true, if_false] at X Y
      subst X Y
      have d0 := KR.out.cell 3 rfl
      have d1 := KI.out.cell 3 rfl
      generalize hW : (w3.alloc _).alloc _ = W4 at *
      go_region_held3 (fun w' => w'.cell? ⟨w3.heap.size, 3, none⟩ = some (.float .f64 (Op.negFloat .f64 c)) ∧ w'.cell? ⟨w3.heap.size + 1, 3, none⟩ = some (.float .f64 s)) (first | exact ⟨d0, d1⟩) (first | (go_at_call 43; refine (ref_plus.calls _ _).mono ?_; rintro e' w' ⟨rfl, rfl⟩))
      all_goals go_wp2
      all_goals go_ret2
      all_goals exact ⟨rfl, by repeat (first | exact HE3.out | apply GB.bld | apply GB.bldN)⟩
    · simp (config := {decide := true}) only [turn_placed.v, if_true, if_false] at X Y
      subst X Y
      have d0 := KR.out.cell 4 rfl
      have d1 := KI.out.cell 4 rfl
      generalize hW : (w3.alloc _).alloc _ = W4 at *
      go_region_held3 (fun w' => w'.cell? ⟨w3.heap.size, 4, none⟩ = some (.float .f64 (Op.negFloat .f64 c)) ∧ w'.cell? ⟨w3.heap.size + 1, 4, none⟩ = some (.float .f64 (Op.negFloat .f64 s))) (first | exact ⟨d0, d1⟩) (first | (go_at_call 43; refine (ref_plus.calls _ _).mono ?_; rintro e' w' ⟨rfl, rfl⟩))
      all_goals go_wp2
      all_goals go_ret2
      all_goals exact ⟨rfl, by repeat (first | exact HE3.out | apply GB.bld | apply GB.bldN)⟩
    · simp (config := {decide := true}) only [turn_placed.v, if_true, if_false] at X Y
      subst X Y
      have d0 := KR.out.cell 5 rfl
      have d1 := KI.out.cell 5 rfl
      generalize hW : (w3.alloc _).alloc _ = W4 at *
      go_region_held3 (fun w' => w'.cell? ⟨w3.heap.size, 5, none⟩ = some (.float .f64 (Op.negFloat .f64 s)) ∧ w'.cell? ⟨w3.heap.size + 1, 5, none⟩ = some (.float .f64 (Op.negFloat .f64 c))) (first | exact ⟨d0, d1⟩) (first | (go_at_call 43; refine (ref_plus.calls _ _).mono ?_; rintro e' w' ⟨rfl, rfl⟩))
      all_goals go_wp2
      all_goals go_ret2
      all_goals exact ⟨rfl, by repeat (first | exact HE3.out | apply GB.bld | apply GB.bldN)⟩
    · simp (config := {decide := true}) only [turn_placed.v, if_true, if_false] at X Y
      subst X Y
      have d0 := KR.out.cell 6 rfl
      have d1 := KI.out.cell 6 rfl
      generalize hW : (w3.alloc _).alloc _ = W4 at *
      go_region_held3 (fun w' => w'.cell? ⟨w3.heap.size, 6, none⟩ = some (.float .f64 s) ∧ w'.cell? ⟨w3.heap.size + 1, 6, none⟩ = some (.float .f64 (Op.negFloat .f64 c))) (first | exact ⟨d0, d1⟩) (first | (go_at_call 43; refine (ref_plus.calls _ _).mono ?_; rintro e' w' ⟨rfl, rfl⟩))
      all_goals go_wp2
      all_goals go_ret2
      all_goals exact ⟨rfl, by repeat (first | exact HE3.out | apply GB.bld | apply GB.bldN)⟩
    · simp (config := {decide := true}) only [turn_placed.v, if_true, if_false] at X Y
      subst X Y
      have d0 := KR.out.cell 7 rfl
      have d1 := KI.out.cell 7 rfl
      generalize hW : (w3.alloc _).alloc _ = W4 at *
      go_region_held3 (fun w' => w'.cell? ⟨w3.heap.size, 7, none⟩ = some (.float .f64 c) ∧ w'.cell? ⟨w3.heap.size + 1, 7, none⟩ = some (.float .f64 (Op.negFloat .f64 s))) (first | exact ⟨d0, d1⟩) (first | (go_at_call 43; refine (ref_plus.calls _ _).mono ?_; rintro e' w' ⟨rfl, rfl⟩))
      all_goals go_wp2
      all_goals go_ret2
      all_goals exact ⟨rfl, by repeat (first | exact HE3.out | apply GB.bld | apply GB.bldN)⟩

set_option maxHeartbeats 1000000 in
theorem ref_Root.err (k : Nat) (p u e : Int) (w : World) (h0 : slackwaterref08_Check.f k p u = some e) (he : e ≠ 0) :
    Calls Tryd.prog 19 #[.agg #[.int .i64 p, .int .i64 u]] w fun e' w' => e' = .returned (.tuple #[.complex .f64 0 0, .int .i64 e]) ∧ Below w.heap.size w w' := by
  have H0 := GB.hid h0
  have hb : (e != 0) = true := bne_iff_ne.2 he
  clear h0
  go_enter Tryd.func19, Tryd.ntmps19
  go_wp2_with fail
  refine (slackwaterref08_Check.calls k _ _ _ _ H0.out).mono ?_
  rintro e' w1 ⟨rfl, hB⟩
  have HB := GB.hid (GB.bls (by repeat (first | exact GB.bl0 _ | apply GB.bla)) hB : Below w.heap.size w w1)
  clear hB
  go_wp2
  go_ret2
  exact ⟨rfl, by repeat (first | exact HB.out | apply GB.bla)⟩
end


end Go.Proofs.YtcddhfidbhcgdaaDoor.PK8
