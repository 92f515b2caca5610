import Derived.Test.YtcddhfidbhcgdaaDoorPK8x
import Derived.Outline
import Derived.Handy
import Derived.IntWalk
import Derived.LoopTactic
import Derived.LoopN
import Derived.Deep.QuietTactic
import Derived.BigQuiet
/- The walk of TurnNames, whole (printed by wip/gen_names.py): a closed law, call by call. -/
namespace Go.Proofs.YtcddhfidbhcgdaaDoor.PK8
open Go.RowKit Go.Proofs.YtcddhfidbhcgdaaDoorW.PrintWords Go.Proofs.YtcddhfidbhcgdaaDoorW.PrintLast Go.Proofs.YtcddhfidbhcgdaaDoorW.PrintMore
set_option linter.unusedVariables false
set_option linter.unusedSimpArgs false
theorem nm_of3 : turn_Of.f 50 3 12 = some (1, 4, 0) := by decide +kernel
theorem nm_of8 : turn_Of.f 50 8 4 = some (0, 1, 0) := by decide +kernel
theorem nm_of10 : turn_Of.f 50 1 0 = some (0, 0, 7) := by decide +kernel
theorem nm_ofm2 : turn_Of.f 50 1 (-2) = some (0, 0, 2) := by decide +kernel
theorem nm_ofbig : turn_Of.f 50 1 4294967297 = some (0, 0, 2) := by decide +kernel
theorem nm_add36 : turn_Add.f 50 1 3 1 6 = some (1, 2, 0) := by decide +kernel
theorem nm_tim3 : turn_Times.f 50 1 3 3 = some (0, 1, 0) := by decide +kernel
theorem nm_addlong : turn_Add.f 100 1 4294967295 1 4294967296 = some (0, 0, 3) := by decide +kernel
theorem nm_cmp : turn_Compare.f 50 1 3 2 5 = some (-1, 0) := by decide +kernel
theorem nm_k0 : turn_Check.f 50 2 4 = some 180 := by decide +kernel
theorem nm_k1 : turn_Check.f 50 1 1 = some 180 := by decide +kernel
theorem nm_k2 : turn_Check.f 50 0 2 = some 180 := by decide +kernel
theorem nm_k3 : turn_Check.f 50 0 0 = some 180 := by decide +kernel
theorem nm_k4 : turn_Check.f 50 (-1) 3 = some 180 := by decide +kernel
theorem nm_k5 : turn_Check.f 50 3 2 = some 180 := by decide +kernel
theorem nm_k6 : turn_Check.f 50 0 1 = some 0 := by decide +kernel
theorem nm_o0 : turn_Of.f 50 0 4 = some (0, 1, 0) := by decide +kernel
theorem nm_o1 : turn_Of.f 50 1 4 = some (1, 4, 0) := by decide +kernel
theorem nm_o2 : turn_Of.f 50 2 4 = some (1, 2, 0) := by decide +kernel
theorem nm_o3 : turn_Of.f 50 3 4 = some (3, 4, 0) := by decide +kernel
theorem nm_kk0 : turn_Check.f 50 0 1 = some 0 := by decide +kernel
theorem nm_kk1 : turn_Check.f 50 1 4 = some 0 := by decide +kernel
theorem nm_kk2 : turn_Check.f 50 1 2 = some 0 := by decide +kernel
theorem nm_kk3 : turn_Check.f 50 3 4 = some 0 := by decide +kernel
theorem nm_p14 : turn_Parse.f 50 ⟨#[49, 47, 52]⟩ = some (1, 4, 0) := by decide +kernel
theorem nm_p0 : turn_Parse.f 50 ⟨#[50, 47, 56]⟩ = some (0, 0, 180) := by decide +kernel
theorem nm_p1 : turn_Parse.f 50 ⟨#[49, 32, 47, 32, 52]⟩ = some (0, 0, 180) := by decide +kernel
theorem nm_p2 : turn_Parse.f 50 ⟨#[48, 49, 47, 52]⟩ = some (0, 0, 180) := by decide +kernel
theorem nm_p3 : turn_Parse.f 50 ⟨#[]⟩ = some (0, 0, 180) := by decide +kernel
theorem nm_p4 : turn_Parse.f 50 ⟨#[47]⟩ = some (0, 0, 180) := by decide +kernel
theorem nm_p5 : turn_Parse.f 50 ⟨#[49, 47]⟩ = some (0, 0, 180) := by decide +kernel
theorem nm_p6 : turn_Parse.f 50 ⟨#[49]⟩ = some (0, 0, 180) := by decide +kernel
theorem nm_p7 : turn_Parse.f 50 ⟨#[45, 49, 47, 52]⟩ = some (0, 0, 180) := by decide +kernel
theorem nm_p8 : turn_Parse.f 50 ⟨#[49, 47, 52, 32]⟩ = some (0, 0, 180) := by decide +kernel
theorem nm_r0 : turn_Root.fl 0 0 1 = some (4607182418800017408, 0) := by kernel_rfl
theorem nm_r1 : turn_Root.fl 2 0 4 = some (0, 4607182418800017408) := by kernel_rfl
theorem nm_r2 : turn_Root.fl 4 0 2 = some (13830554455654793216, 0) := by kernel_rfl
theorem nm_r3 : turn_Root.fl 6 0 4 = some (0, 13830554455654793216) := by kernel_rfl
set_option maxHeartbeats 8000000 in
set_option maxRecDepth 100000 in
theorem names_walk (w : World) (hL : LW w) : Calls Tryd.prog 6 #[] w fun e w' => e = .returned (.bool true) ∧ Below w.heap.size w w' := by
  have HL := GB.hid hL
  clear hL
  have HB : Hid (Below w.heap.size w w) := GB.hid (GB.bl0 w)
  have Hof3 := GB.hid nm_of3
  have Hof8 := GB.hid nm_of8
  have Hof10 := GB.hid nm_of10
  have Hofm2 := GB.hid nm_ofm2
  have Hofbig := GB.hid nm_ofbig
  have Hadd36 := GB.hid nm_add36
  have Htim3 := GB.hid nm_tim3
  have Haddlong := GB.hid nm_addlong
  have Hcmp := GB.hid nm_cmp
  have Hk0 := GB.hid nm_k0
  have Hk1 := GB.hid nm_k1
  have Hk2 := GB.hid nm_k2
  have Hk3 := GB.hid nm_k3
  have Hk4 := GB.hid nm_k4
  have Hk5 := GB.hid nm_k5
  have Hk6 := GB.hid nm_k6
  have Ho0 := GB.hid nm_o0
  have Ho1 := GB.hid nm_o1
  have Ho2 := GB.hid nm_o2
  have Ho3 := GB.hid nm_o3
  have Hkk0 := GB.hid nm_kk0
  have Hkk1 := GB.hid nm_kk1
  have Hkk2 := GB.hid nm_kk2
  have Hkk3 := GB.hid nm_kk3
  have Hp14 := GB.hid nm_p14
  have Hp0 := GB.hid nm_p0
  have Hp1 := GB.hid nm_p1
  have Hp2 := GB.hid nm_p2
  have Hp3 := GB.hid nm_p3
  have Hp4 := GB.hid nm_p4
  have Hp5 := GB.hid nm_p5
  have Hp6 := GB.hid nm_p6
  have Hp7 := GB.hid nm_p7
  have Hp8 := GB.hid nm_p8
  have h23 := Tryd.underlying23
  have q0 : ∀ w, (binOp .eql 23 (.agg #[.int .i64 1, .int .i64 4]) (.agg #[.int .i64 1, .int .i64 4])).run Tryd.prog w = .ok (.bool true) w := fun w => by kernel_rfl
  have q1 : ∀ w, (binOp .eql 23 (.agg #[.int .i64 0, .int .i64 1]) (.agg #[.int .i64 0, .int .i64 1])).run Tryd.prog w = .ok (.bool true) w := fun w => by kernel_rfl
  have q2 : ∀ w, (binOp .eql 23 (.agg #[.int .i64 1, .int .i64 2]) (.agg #[.int .i64 1, .int .i64 2])).run Tryd.prog w = .ok (.bool true) w := fun w => by kernel_rfl
  have hs0 : (FloatKind.f64.format.order 0 0 == some .eq) = true := by kernel_rfl
  have hs4607182418800017408 : (FloatKind.f64.format.order 4607182418800017408 4607182418800017408 == some .eq) = true := by kernel_rfl
  have hs13830554455654793216 : (FloatKind.f64.format.order 13830554455654793216 13830554455654793216 == some .eq) = true := by kernel_rfl
  go_enter Tryd.func6, Tryd.ntmps6
  go_wp2_with fail
  refine (turn_Of.calls 50 _ _ 1 4 0 _ Hof3.out).mono ?_
  rintro e1 w1 ⟨rfl, hB⟩
  have n_ := GB.hid ((GB.bls (by repeat (first | exact HB.out | apply GB.bla | apply GB.bld | apply GB.bldN)) hB : Below w.heap.size w w1))
  clear HB
  have HB := n_
  clear n_
  clear hB
  have KA : Hid (GB.Blk (w1.alloc (.cells #[.int .i64 1, .int .i64 4] 23)) w1.heap.size 23 [.int .i64 1, .int .i64 4]) := by
    have h := GB.Blk.new w1 23 [.int .i64 1, .int .i64 4]
    exact h
  go_wp2_with fail
  refine (turn_Of.calls 50 _ _ 0 1 0 _ Hof8.out).mono ?_
  rintro e2 w2 ⟨rfl, hB⟩
  have n_ := GB.hid (KA.out.below hB)
  clear KA
  have KA := n_
  clear n_
  have n_ := GB.hid ((GB.bls (by repeat (first | exact HB.out | apply GB.bla | apply GB.bld | apply GB.bldN)) hB : Below w.heap.size w w2))
  clear HB
  have HB := n_
  clear n_
  clear hB
  have KB : Hid (GB.Blk (w2.alloc (.cells #[.int .i64 0, .int .i64 1] 23)) w2.heap.size 23 [.int .i64 0, .int .i64 1]) := by
    have h := GB.Blk.new w2 23 [.int .i64 0, .int .i64 1]
    exact h
  have n_ := GB.hid (KA.out.alloc (.cells #[.int .i64 0, .int .i64 1] 23))
  clear KA
  have KA := n_
  clear n_
  go_wp2_with fail
  refine (turn_Of.calls 50 _ _ 0 0 7 _ Hof10.out).mono ?_
  rintro e3 w3 ⟨rfl, hB⟩
  have n_ := GB.hid (KA.out.below hB)
  clear KA
  have KA := n_
  clear n_
  have n_ := GB.hid (KB.out.below hB)
  clear KB
  have KB := n_
  clear n_
  have n_ := GB.hid ((GB.bls (by repeat (first | exact HB.out | apply GB.bla | apply GB.bld | apply GB.bldN)) hB : Below w.heap.size w w3))
  clear HB
  have HB := n_
  clear n_
  clear hB
  have n_ := GB.hid (KA.out.alloc (.cells #[.int .i64 0, .int .i64 0] 23))
  clear KA
  have KA := n_
  clear n_
  have n_ := GB.hid (KB.out.alloc (.cells #[.int .i64 0, .int .i64 0] 23))
  clear KB
  have KB := n_
  clear n_
  go_wp2_with fail
  refine (turn_Of.calls 50 _ _ 0 0 2 _ Hofm2.out).mono ?_
  rintro e4 w4 ⟨rfl, hB⟩
  have n_ := GB.hid (KA.out.below hB)
  clear KA
  have KA := n_
  clear n_
  have n_ := GB.hid (KB.out.below hB)
  clear KB
  have KB := n_
  clear n_
  have n_ := GB.hid ((GB.bls (by repeat (first | exact HB.out | apply GB.bla | apply GB.bld | apply GB.bldN)) hB : Below w.heap.size w w4))
  clear HB
  have HB := n_
  clear n_
  clear hB
  have n_ := GB.hid (KA.out.alloc (.cells #[.int .i64 0, .int .i64 0] 23))
  clear KA
  have KA := n_
  clear n_
  have n_ := GB.hid (KB.out.alloc (.cells #[.int .i64 0, .int .i64 0] 23))
  clear KB
  have KB := n_
  clear n_
  go_wp2_with fail
  refine (turn_Of.calls 50 _ _ 0 0 2 _ Hofbig.out).mono ?_
  rintro e5 w5 ⟨rfl, hB⟩
  have n_ := GB.hid (KA.out.below hB)
  clear KA
  have KA := n_
  clear n_
  have n_ := GB.hid (KB.out.below hB)
  clear KB
  have KB := n_
  clear n_
  have n_ := GB.hid ((GB.bls (by repeat (first | exact HB.out | apply GB.bla | apply GB.bld | apply GB.bldN)) hB : Below w.heap.size w w5))
  clear HB
  have HB := n_
  clear n_
  clear hB
  have KJ : Hid (GB.Blk (w5.alloc (.cells #[.int .i64 0, .int .i64 0] 23)) w5.heap.size 23 [.int .i64 0, .int .i64 0]) := by
    have h := GB.Blk.new w5 23 [.int .i64 0, .int .i64 0]
    exact h
  have n_ := GB.hid (KA.out.alloc (.cells #[.int .i64 0, .int .i64 0] 23))
  clear KA
  have KA := n_
  clear n_
  have n_ := GB.hid (KB.out.alloc (.cells #[.int .i64 0, .int .i64 0] 23))
  clear KB
  have KB := n_
  clear n_
  have cA0 := KA.out.cell 0 rfl
  have cA1 := KA.out.cell 1 rfl
  have cB0 := KB.out.cell 0 rfl
  have cB1 := KB.out.cell 1 rfl
  have KT : Hid (GB.Blk ((w5.alloc (.cells #[.int .i64 0, .int .i64 0] 23)).alloc (.cells #[.int .i64 1, .int .i64 3] 23)) (w5.heap.size + 1) 23 [.int .i64 1, .int .i64 3]) := by
    have h := GB.Blk.new (w5.alloc (.cells #[.int .i64 0, .int .i64 0] 23)) 23 [.int .i64 1, .int .i64 3]
    simp only [World.size_alloc] at h
    exact h
  have n_ := GB.hid (KA.out.alloc (.cells #[.int .i64 1, .int .i64 3] 23))
  clear KA
  have KA := n_
  clear n_
  have n_ := GB.hid (KB.out.alloc (.cells #[.int .i64 1, .int .i64 3] 23))
  clear KB
  have KB := n_
  clear n_
  have n_ := GB.hid (KJ.out.alloc (.cells #[.int .i64 1, .int .i64 3] 23))
  clear KJ
  have KJ := n_
  clear n_
  have KS : Hid (GB.Blk (((w5.alloc (.cells #[.int .i64 0, .int .i64 0] 23)).alloc (.cells #[.int .i64 1, .int .i64 3] 23)).alloc (.cells #[.int .i64 1, .int .i64 6] 23)) (w5.heap.size + 1 + 1) 23 [.int .i64 1, .int .i64 6]) := by
    have h := GB.Blk.new ((w5.alloc (.cells #[.int .i64 0, .int .i64 0] 23)).alloc (.cells #[.int .i64 1, .int .i64 3] 23)) 23 [.int .i64 1, .int .i64 6]
    simp only [World.size_alloc] at h
    exact h
  have n_ := GB.hid (KA.out.alloc (.cells #[.int .i64 1, .int .i64 6] 23))
  clear KA
  have KA := n_
  clear n_
  have n_ := GB.hid (KB.out.alloc (.cells #[.int .i64 1, .int .i64 6] 23))
  clear KB
  have KB := n_
  clear n_
  have n_ := GB.hid (KJ.out.alloc (.cells #[.int .i64 1, .int .i64 6] 23))
  clear KJ
  have KJ := n_
  clear n_
  have n_ := GB.hid (KT.out.alloc (.cells #[.int .i64 1, .int .i64 6] 23))
  clear KT
  have KT := n_
  clear n_
  have cA0 := KA.out.cell 0 rfl
  have cA1 := KA.out.cell 1 rfl
  have cB0 := KB.out.cell 0 rfl
  have cB1 := KB.out.cell 1 rfl
  have cT0 := KT.out.cell 0 rfl
  have cT1 := KT.out.cell 1 rfl
  have cS0 := KS.out.cell 0 rfl
  have cS1 := KS.out.cell 1 rfl
  go_wp2_with fail
  refine (turn_Add.calls 50 1 3 1 6 1 2 0 _ Hadd36.out).mono ?_
  rintro e6 w6 ⟨rfl, hB⟩
  clear cS1
  clear cS0
  clear cT1
  clear cT0
  clear cB1
  clear cB0
  clear cA1
  clear cA0
  clear cB1
  clear cB0
  clear cA1
  clear cA0
  have n_ := GB.hid (KA.out.below hB)
  clear KA
  have KA := n_
  clear n_
  have n_ := GB.hid (KB.out.below hB)
  clear KB
  have KB := n_
  clear n_
  have n_ := GB.hid (KJ.out.below hB)
  clear KJ
  have KJ := n_
  clear n_
  have n_ := GB.hid (KT.out.below hB)
  clear KT
  have KT := n_
  clear n_
  have n_ := GB.hid (KS.out.below hB)
  clear KS
  have KS := n_
  clear n_
  have n_ := GB.hid ((GB.bls (by repeat (first | exact HB.out | apply GB.bla | apply GB.bld | apply GB.bldN)) hB : Below w.heap.size w w6))
  clear HB
  have HB := n_
  clear n_
  clear hB
  clear KB KJ KS
  have KC : Hid (GB.Blk (w6.alloc (.cells #[.int .i64 1, .int .i64 2] 23)) w6.heap.size 23 [.int .i64 1, .int .i64 2]) := by
    have h := GB.Blk.new w6 23 [.int .i64 1, .int .i64 2]
    exact h
  have n_ := GB.hid (KA.out.alloc (.cells #[.int .i64 1, .int .i64 2] 23))
  clear KA
  have KA := n_
  clear n_
  have n_ := GB.hid (KT.out.alloc (.cells #[.int .i64 1, .int .i64 2] 23))
  clear KT
  have KT := n_
  clear n_
  have cT0 := KT.out.cell 0 rfl
  have cT1 := KT.out.cell 1 rfl
  go_wp2_with fail
  refine (turn_Times.calls 50 1 3 3 0 1 0 _ Htim3.out).mono ?_
  rintro e7 w7 ⟨rfl, hB⟩
  clear cT1
  clear cT0
  have n_ := GB.hid (KA.out.below hB)
  clear KA
  have KA := n_
  clear n_
  have n_ := GB.hid (KT.out.below hB)
  clear KT
  have KT := n_
  clear n_
  have n_ := GB.hid (KC.out.below hB)
  clear KC
  have KC := n_
  clear n_
  have n_ := GB.hid ((GB.bls (by repeat (first | exact HB.out | apply GB.bla | apply GB.bld | apply GB.bldN)) hB : Below w.heap.size w w7))
  clear HB
  have HB := n_
  clear n_
  clear hB
  have KD : Hid (GB.Blk (w7.alloc (.cells #[.int .i64 0, .int .i64 1] 23)) w7.heap.size 23 [.int .i64 0, .int .i64 1]) := by
    have h := GB.Blk.new w7 23 [.int .i64 0, .int .i64 1]
    exact h
  have n_ := GB.hid (KA.out.alloc (.cells #[.int .i64 0, .int .i64 1] 23))
  clear KA
  have KA := n_
  clear n_
  have n_ := GB.hid (KT.out.alloc (.cells #[.int .i64 0, .int .i64 1] 23))
  clear KT
  have KT := n_
  clear n_
  have n_ := GB.hid (KC.out.alloc (.cells #[.int .i64 0, .int .i64 1] 23))
  clear KC
  have KC := n_
  clear n_
  go_wp2_with fail
  refine (turn_Add.calls 100 1 4294967295 1 4294967296 0 0 3 _ Haddlong.out).mono ?_
  rintro e8 w8 ⟨rfl, hB⟩
  have n_ := GB.hid (KA.out.below hB)
  clear KA
  have KA := n_
  clear n_
  have n_ := GB.hid (KT.out.below hB)
  clear KT
  have KT := n_
  clear n_
  have n_ := GB.hid (KC.out.below hB)
  clear KC
  have KC := n_
  clear n_
  have n_ := GB.hid (KD.out.below hB)
  clear KD
  have KD := n_
  clear n_
  have n_ := GB.hid ((GB.bls (by repeat (first | exact HB.out | apply GB.bla | apply GB.bld | apply GB.bldN)) hB : Below w.heap.size w w8))
  clear HB
  have HB := n_
  clear n_
  clear hB
  have cT0 := KT.out.cell 0 rfl
  have cT1 := KT.out.cell 1 rfl
  go_wp2_with fail
  refine (turn_Compare.calls 50 1 3 2 5 (-1) 0 _ Hcmp.out).mono ?_
  rintro e9 w9 ⟨rfl, hB⟩
  clear cT1
  clear cT0
  have n_ := GB.hid (KA.out.below hB)
  clear KA
  have KA := n_
  clear n_
  have n_ := GB.hid (KT.out.below hB)
  clear KT
  have KT := n_
  clear n_
  have n_ := GB.hid (KC.out.below hB)
  clear KC
  have KC := n_
  clear n_
  have n_ := GB.hid (KD.out.below hB)
  clear KD
  have KD := n_
  clear n_
  have n_ := GB.hid ((GB.bls (by repeat (first | exact HB.out | apply GB.bla | apply GB.bld | apply GB.bldN)) hB : Below w.heap.size w w9))
  clear HB
  have HB := n_
  clear n_
  clear hB
  have cC0 := KC.out.cell 0 rfl
  have cC1 := KC.out.cell 1 rfl
  have cD0 := KD.out.cell 0 rfl
  have cD1 := KD.out.cell 1 rfl
  go_wp2
  refine wp_loop_rounds 7 ?_
  rw [rounds_succ]
  clear Hof3 Hof8 Hof10 Hofm2 Hofbig Hadd36 Htim3 Haddlong Hcmp
  clear KT
  have KBAD : Hid (GB.Blk (w9.alloc (.cells #[.int .i64 2, .int .i64 4, .int .i64 1, .int .i64 1, .int .i64 0, .int .i64 2, .int .i64 0, .int .i64 0, .int .i64 (-1), .int .i64 3, .int .i64 3, .int .i64 2] 23)) w9.heap.size 23 [.int .i64 2, .int .i64 4, .int .i64 1, .int .i64 1, .int .i64 0, .int .i64 2, .int .i64 0, .int .i64 0, .int .i64 (-1), .int .i64 3, .int .i64 3, .int .i64 2]) := by
    have h := GB.Blk.new w9 23 [.int .i64 2, .int .i64 4, .int .i64 1, .int .i64 1, .int .i64 0, .int .i64 2, .int .i64 0, .int .i64 0, .int .i64 (-1), .int .i64 3, .int .i64 3, .int .i64 2]
    exact h
  have n_ := GB.hid (KA.out.alloc (.cells #[.int .i64 2, .int .i64 4, .int .i64 1, .int .i64 1, .int .i64 0, .int .i64 2, .int .i64 0, .int .i64 0, .int .i64 (-1), .int .i64 3, .int .i64 3, .int .i64 2] 23))
  clear KA
  have KA := n_
  clear n_
  have n_ := GB.hid (KC.out.alloc (.cells #[.int .i64 2, .int .i64 4, .int .i64 1, .int .i64 1, .int .i64 0, .int .i64 2, .int .i64 0, .int .i64 0, .int .i64 (-1), .int .i64 3, .int .i64 3, .int .i64 2] 23))
  clear KC
  have KC := n_
  clear n_
  have n_ := GB.hid (KD.out.alloc (.cells #[.int .i64 2, .int .i64 4, .int .i64 1, .int .i64 1, .int .i64 0, .int .i64 2, .int .i64 0, .int .i64 0, .int .i64 (-1), .int .i64 3, .int .i64 3, .int .i64 2] 23))
  clear KD
  have KD := n_
  clear n_
  have cBAD0 := KBAD.out.cell 0 rfl
  have cBAD1 := KBAD.out.cell 1 rfl
  go_wp2_with fail
  refine (turn_Check.calls 50 2 4 180 _ Hk0.out).mono ?_
  rintro e10 w10 ⟨rfl, hB⟩
  clear cBAD1
  clear cBAD0
  clear cD1
  clear cD0
  clear cC1
  clear cC0
  have n_ := GB.hid (KA.out.below hB)
  clear KA
  have KA := n_
  clear n_
  have n_ := GB.hid (KC.out.below hB)
  clear KC
  have KC := n_
  clear n_
  have n_ := GB.hid (KD.out.below hB)
  clear KD
  have KD := n_
  clear n_
  have n_ := GB.hid (KBAD.out.below hB)
  clear KBAD
  have KBAD := n_
  clear n_
  have n_ := GB.hid ((GB.bls (by repeat (first | exact HB.out | apply GB.bla | apply GB.bld | apply GB.bldN)) hB : Below w.heap.size w w10))
  clear HB
  have HB := n_
  clear n_
  clear hB
  clear KC KD
  go_wp2
  rw [rounds_succ]
  have cBAD2 := KBAD.out.cell 2 rfl
  have cBAD3 := KBAD.out.cell 3 rfl
  go_wp2_with fail
  refine (turn_Check.calls 50 1 1 180 _ Hk1.out).mono ?_
  rintro e11 w11 ⟨rfl, hB⟩
  clear cBAD3
  clear cBAD2
  have n_ := GB.hid (KA.out.below hB)
  clear KA
  have KA := n_
  clear n_
  have n_ := GB.hid (KBAD.out.below hB)
  clear KBAD
  have KBAD := n_
  clear n_
  have n_ := GB.hid ((GB.bls (by repeat (first | exact HB.out | apply GB.bla | apply GB.bld | apply GB.bldN)) hB : Below w.heap.size w w11))
  clear HB
  have HB := n_
  clear n_
  clear hB
  go_wp2
  rw [rounds_succ]
  have cBAD4 := KBAD.out.cell 4 rfl
  have cBAD5 := KBAD.out.cell 5 rfl
  go_wp2_with fail
  refine (turn_Check.calls 50 0 2 180 _ Hk2.out).mono ?_
  rintro e12 w12 ⟨rfl, hB⟩
  clear cBAD5
  clear cBAD4
  have n_ := GB.hid (KA.out.below hB)
  clear KA
  have KA := n_
  clear n_
  have n_ := GB.hid (KBAD.out.below hB)
  clear KBAD
  have KBAD := n_
  clear n_
  have n_ := GB.hid ((GB.bls (by repeat (first | exact HB.out | apply GB.bla | apply GB.bld | apply GB.bldN)) hB : Below w.heap.size w w12))
  clear HB
  have HB := n_
  clear n_
  clear hB
  go_wp2
  rw [rounds_succ]
  have cBAD6 := KBAD.out.cell 6 rfl
  have cBAD7 := KBAD.out.cell 7 rfl
  go_wp2_with fail
  refine (turn_Check.calls 50 0 0 180 _ Hk3.out).mono ?_
  rintro e13 w13 ⟨rfl, hB⟩
  clear cBAD7
  clear cBAD6
  have n_ := GB.hid (KA.out.below hB)
  clear KA
  have KA := n_
  clear n_
  have n_ := GB.hid (KBAD.out.below hB)
  clear KBAD
  have KBAD := n_
  clear n_
  have n_ := GB.hid ((GB.bls (by repeat (first | exact HB.out | apply GB.bla | apply GB.bld | apply GB.bldN)) hB : Below w.heap.size w w13))
  clear HB
  have HB := n_
  clear n_
  clear hB
  go_wp2
  rw [rounds_succ]
  have cBAD8 := KBAD.out.cell 8 rfl
  have cBAD9 := KBAD.out.cell 9 rfl
  go_wp2_with fail
  refine (turn_Check.calls 50 (-1) 3 180 _ Hk4.out).mono ?_
  rintro e14 w14 ⟨rfl, hB⟩
  clear cBAD9
  clear cBAD8
  have n_ := GB.hid (KA.out.below hB)
  clear KA
  have KA := n_
  clear n_
  have n_ := GB.hid (KBAD.out.below hB)
  clear KBAD
  have KBAD := n_
  clear n_
  have n_ := GB.hid ((GB.bls (by repeat (first | exact HB.out | apply GB.bla | apply GB.bld | apply GB.bldN)) hB : Below w.heap.size w w14))
  clear HB
  have HB := n_
  clear n_
  clear hB
  go_wp2
  rw [rounds_succ]
  have cBAD10 := KBAD.out.cell 10 rfl
  have cBAD11 := KBAD.out.cell 11 rfl
  go_wp2_with fail
  refine (turn_Check.calls 50 3 2 180 _ Hk5.out).mono ?_
  rintro e15 w15 ⟨rfl, hB⟩
  clear cBAD11
  clear cBAD10
  have n_ := GB.hid (KA.out.below hB)
  clear KA
  have KA := n_
  clear n_
  have n_ := GB.hid (KBAD.out.below hB)
  clear KBAD
  have KBAD := n_
  clear n_
  have n_ := GB.hid ((GB.bls (by repeat (first | exact HB.out | apply GB.bla | apply GB.bld | apply GB.bldN)) hB : Below w.heap.size w w15))
  clear HB
  have HB := n_
  clear n_
  clear hB
  clear KBAD
  go_wp2
  rw [rounds_succ]
  go_wp2
  refine wp_loop_rounds 5 ?_
  rw [rounds_succ]
  have KWANT : Hid (GB.Blk (w15.alloc (.cells #[.complex .f64 4607182418800017408 0, .complex .f64 0 4607182418800017408, .complex .f64 13830554455654793216 0, .complex .f64 0 13830554455654793216] 32)) w15.heap.size 32 [.complex .f64 4607182418800017408 0, .complex .f64 0 4607182418800017408, .complex .f64 13830554455654793216 0, .complex .f64 0 13830554455654793216]) := by
    have h := GB.Blk.new w15 32 [.complex .f64 4607182418800017408 0, .complex .f64 0 4607182418800017408, .complex .f64 13830554455654793216 0, .complex .f64 0 13830554455654793216]
    exact h
  have n_ := GB.hid (KA.out.alloc (.cells #[.complex .f64 4607182418800017408 0, .complex .f64 0 4607182418800017408, .complex .f64 13830554455654793216 0, .complex .f64 0 13830554455654793216] 32))
  clear KA
  have KA := n_
  clear n_
  go_wp2_with fail
  refine (turn_Of.calls 50 _ _ 0 1 0 _ Ho0.out).mono ?_
  rintro e16 w16 ⟨rfl, hB⟩
  have n_ := GB.hid (KA.out.below hB)
  clear KA
  have KA := n_
  clear n_
  have n_ := GB.hid (KWANT.out.below hB)
  clear KWANT
  have KWANT := n_
  clear n_
  have n_ := GB.hid ((GB.bls (by repeat (first | exact HB.out | apply GB.bla | apply GB.bld | apply GB.bldN)) hB : Below w.heap.size w w16))
  clear HB
  have HB := n_
  clear n_
  clear hB
  have n_ := GB.hid (KA.out.alloc (.cells #[.int .i64 0, .int .i64 1] 23))
  clear KA
  have KA := n_
  clear n_
  have n_ := GB.hid (KWANT.out.alloc (.cells #[.int .i64 0, .int .i64 1] 23))
  clear KWANT
  have KWANT := n_
  clear n_
  go_wp2_with fail
  refine (turn_Root.fine 50 0 1 0 0 0 4607182418800017408 0 _ Hkk0.out (by decide) (by decide) (by decide) (by decide) (by decide) (by decide) nm_r0).mono ?_
  rintro e17 w17 ⟨rfl, hB⟩
  have n_ := GB.hid (KA.out.below hB)
  clear KA
  have KA := n_
  clear n_
  have n_ := GB.hid (KWANT.out.below hB)
  clear KWANT
  have KWANT := n_
  clear n_
  have n_ := GB.hid ((GB.bls (by repeat (first | exact HB.out | apply GB.bla | apply GB.bld | apply GB.bldN)) hB : Below w.heap.size w w17))
  clear HB
  have HB := n_
  clear n_
  clear hB
  have cWANT0 := KWANT.out.cell 0 rfl
  go_wp2_with fail
  refine (same_number _ _ _ _ _ hs4607182418800017408 hs0).mono ?_
  rintro e18 z18 ⟨rfl, rfl⟩
  go_wp2
  rw [rounds_succ]
  go_wp2_with fail
  refine (turn_Of.calls 50 _ _ 1 4 0 _ Ho1.out).mono ?_
  rintro e19 w19 ⟨rfl, hB⟩
  clear cWANT0
  have n_ := GB.hid (KA.out.below hB)
  clear KA
  have KA := n_
  clear n_
  have n_ := GB.hid (KWANT.out.below hB)
  clear KWANT
  have KWANT := n_
  clear n_
  have n_ := GB.hid ((GB.bls (by repeat (first | exact HB.out | apply GB.bla | apply GB.bld | apply GB.bldN)) hB : Below w.heap.size w w19))
  clear HB
  have HB := n_
  clear n_
  clear hB
  have n_ := GB.hid (KA.out.alloc (.cells #[.int .i64 1, .int .i64 4] 23))
  clear KA
  have KA := n_
  clear n_
  have n_ := GB.hid (KWANT.out.alloc (.cells #[.int .i64 1, .int .i64 4] 23))
  clear KWANT
  have KWANT := n_
  clear n_
  go_wp2_with fail
  refine (turn_Root.fine 50 1 4 2 0 0 0 4607182418800017408 _ Hkk1.out (by decide) (by decide) (by decide) (by decide) (by decide) (by decide) nm_r1).mono ?_
  rintro e20 w20 ⟨rfl, hB⟩
  have n_ := GB.hid (KA.out.below hB)
  clear KA
  have KA := n_
  clear n_
  have n_ := GB.hid (KWANT.out.below hB)
  clear KWANT
  have KWANT := n_
  clear n_
  have n_ := GB.hid ((GB.bls (by repeat (first | exact HB.out | apply GB.bla | apply GB.bld | apply GB.bldN)) hB : Below w.heap.size w w20))
  clear HB
  have HB := n_
  clear n_
  clear hB
  have cWANT1 := KWANT.out.cell 1 rfl
  go_wp2_with fail
  refine (same_number _ _ _ _ _ hs0 hs4607182418800017408).mono ?_
  rintro e21 z21 ⟨rfl, rfl⟩
  go_wp2
  rw [rounds_succ]
  go_wp2_with fail
  refine (turn_Of.calls 50 _ _ 1 2 0 _ Ho2.out).mono ?_
  rintro e22 w22 ⟨rfl, hB⟩
  clear cWANT1
  have n_ := GB.hid (KA.out.below hB)
  clear KA
  have KA := n_
  clear n_
  have n_ := GB.hid (KWANT.out.below hB)
  clear KWANT
  have KWANT := n_
  clear n_
  have n_ := GB.hid ((GB.bls (by repeat (first | exact HB.out | apply GB.bla | apply GB.bld | apply GB.bldN)) hB : Below w.heap.size w w22))
  clear HB
  have HB := n_
  clear n_
  clear hB
  have n_ := GB.hid (KA.out.alloc (.cells #[.int .i64 1, .int .i64 2] 23))
  clear KA
  have KA := n_
  clear n_
  have n_ := GB.hid (KWANT.out.alloc (.cells #[.int .i64 1, .int .i64 2] 23))
  clear KWANT
  have KWANT := n_
  clear n_
  go_wp2_with fail
  refine (turn_Root.fine 50 1 2 4 0 0 13830554455654793216 0 _ Hkk2.out (by decide) (by decide) (by decide) (by decide) (by decide) (by decide) nm_r2).mono ?_
  rintro e23 w23 ⟨rfl, hB⟩
  have n_ := GB.hid (KA.out.below hB)
  clear KA
  have KA := n_
  clear n_
  have n_ := GB.hid (KWANT.out.below hB)
  clear KWANT
  have KWANT := n_
  clear n_
  have n_ := GB.hid ((GB.bls (by repeat (first | exact HB.out | apply GB.bla | apply GB.bld | apply GB.bldN)) hB : Below w.heap.size w w23))
  clear HB
  have HB := n_
  clear n_
  clear hB
  have cWANT2 := KWANT.out.cell 2 rfl
  go_wp2_with fail
  refine (same_number _ _ _ _ _ hs13830554455654793216 hs0).mono ?_
  rintro e24 z24 ⟨rfl, rfl⟩
  go_wp2
  rw [rounds_succ]
  go_wp2_with fail
  refine (turn_Of.calls 50 _ _ 3 4 0 _ Ho3.out).mono ?_
  rintro e25 w25 ⟨rfl, hB⟩
  clear cWANT2
  have n_ := GB.hid (KA.out.below hB)
  clear KA
  have KA := n_
  clear n_
  have n_ := GB.hid (KWANT.out.below hB)
  clear KWANT
  have KWANT := n_
  clear n_
  have n_ := GB.hid ((GB.bls (by repeat (first | exact HB.out | apply GB.bla | apply GB.bld | apply GB.bldN)) hB : Below w.heap.size w w25))
  clear HB
  have HB := n_
  clear n_
  clear hB
  have n_ := GB.hid (KA.out.alloc (.cells #[.int .i64 3, .int .i64 4] 23))
  clear KA
  have KA := n_
  clear n_
  have n_ := GB.hid (KWANT.out.alloc (.cells #[.int .i64 3, .int .i64 4] 23))
  clear KWANT
  have KWANT := n_
  clear n_
  go_wp2_with fail
  refine (turn_Root.fine 50 3 4 6 0 0 0 13830554455654793216 _ Hkk3.out (by decide) (by decide) (by decide) (by decide) (by decide) (by decide) nm_r3).mono ?_
  rintro e26 w26 ⟨rfl, hB⟩
  have n_ := GB.hid (KA.out.below hB)
  clear KA
  have KA := n_
  clear n_
  have n_ := GB.hid (KWANT.out.below hB)
  clear KWANT
  have KWANT := n_
  clear n_
  have n_ := GB.hid ((GB.bls (by repeat (first | exact HB.out | apply GB.bla | apply GB.bld | apply GB.bldN)) hB : Below w.heap.size w w26))
  clear HB
  have HB := n_
  clear n_
  clear hB
  have cWANT3 := KWANT.out.cell 3 rfl
  go_wp2_with fail
  refine (same_number _ _ _ _ _ hs0 hs13830554455654793216).mono ?_
  rintro e27 z27 ⟨rfl, rfl⟩
  clear KWANT
  go_wp2
  rw [rounds_succ]
  go_wp2_with fail
  refine (turn_Parse.calls 50 ⟨#[49, 47, 52]⟩ 1 4 0 _ (HL.out.below (by repeat (first | exact HB.out | apply GB.bla | apply GB.bld | apply GB.bldN))) Hp14.out).mono ?_
  rintro e28 w28 ⟨rfl, hB⟩
  clear cWANT3
  have n_ := GB.hid (KA.out.below hB)
  clear KA
  have KA := n_
  clear n_
  have n_ := GB.hid ((GB.bls (by repeat (first | exact HB.out | apply GB.bla | apply GB.bld | apply GB.bldN)) hB : Below w.heap.size w w28))
  clear HB
  have HB := n_
  clear n_
  clear hB
  have KP : Hid (GB.Blk (w28.alloc (.cells #[.int .i64 1, .int .i64 4] 23)) w28.heap.size 23 [.int .i64 1, .int .i64 4]) := by
    have h := GB.Blk.new w28 23 [.int .i64 1, .int .i64 4]
    exact h
  have n_ := GB.hid (KA.out.alloc (.cells #[.int .i64 1, .int .i64 4] 23))
  clear KA
  have KA := n_
  clear n_
  have cP0 := KP.out.cell 0 rfl
  have cP1 := KP.out.cell 1 rfl
  have cA0 := KA.out.cell 0 rfl
  have cA1 := KA.out.cell 1 rfl
  go_wp2
  refine wp_loop_rounds 10 ?_
  rw [rounds_succ]
  clear KP KA
  have KTX : Hid (GB.Blk ((w28.alloc (.cells #[.int .i64 1, .int .i64 4] 23)).alloc (.cells #[.string ⟨#[50, 47, 56]⟩, .string ⟨#[49, 32, 47, 32, 52]⟩, .string ⟨#[48, 49, 47, 52]⟩, .string ⟨#[]⟩, .string ⟨#[47]⟩, .string ⟨#[49, 47]⟩, .string ⟨#[49]⟩, .string ⟨#[45, 49, 47, 52]⟩, .string ⟨#[49, 47, 52, 32]⟩] 9)) (w28.heap.size + 1) 9 [.string ⟨#[50, 47, 56]⟩, .string ⟨#[49, 32, 47, 32, 52]⟩, .string ⟨#[48, 49, 47, 52]⟩, .string ⟨#[]⟩, .string ⟨#[47]⟩, .string ⟨#[49, 47]⟩, .string ⟨#[49]⟩, .string ⟨#[45, 49, 47, 52]⟩, .string ⟨#[49, 47, 52, 32]⟩]) := by
    have h := GB.Blk.new (w28.alloc (.cells #[.int .i64 1, .int .i64 4] 23)) 9 [.string ⟨#[50, 47, 56]⟩, .string ⟨#[49, 32, 47, 32, 52]⟩, .string ⟨#[48, 49, 47, 52]⟩, .string ⟨#[]⟩, .string ⟨#[47]⟩, .string ⟨#[49, 47]⟩, .string ⟨#[49]⟩, .string ⟨#[45, 49, 47, 52]⟩, .string ⟨#[49, 47, 52, 32]⟩]
    simp only [World.size_alloc] at h
    exact h
  have cTX0 := KTX.out.cell 0 rfl
  go_wp2_with fail
  refine (turn_Parse.calls 50 ⟨#[50, 47, 56]⟩ 0 0 180 _ (HL.out.below (by repeat (first | exact HB.out | apply GB.bla | apply GB.bld | apply GB.bldN))) Hp0.out).mono ?_
  rintro e29 w29 ⟨rfl, hB⟩
  clear cTX0
  clear cA1
  clear cA0
  clear cP1
  clear cP0
  have n_ := GB.hid (KTX.out.below hB)
  clear KTX
  have KTX := n_
  clear n_
  have n_ := GB.hid ((GB.bls (by repeat (first | exact HB.out | apply GB.bla | apply GB.bld | apply GB.bldN)) hB : Below w.heap.size w w29))
  clear HB
  have HB := n_
  clear n_
  clear hB
  go_wp2
  rw [rounds_succ]
  have cTX1 := KTX.out.cell 1 rfl
  go_wp2_with fail
  refine (turn_Parse.calls 50 ⟨#[49, 32, 47, 32, 52]⟩ 0 0 180 _ (HL.out.below (by repeat (first | exact HB.out | apply GB.bla | apply GB.bld | apply GB.bldN))) Hp1.out).mono ?_
  rintro e30 w30 ⟨rfl, hB⟩
  clear cTX1
  have n_ := GB.hid (KTX.out.below hB)
  clear KTX
  have KTX := n_
  clear n_
  have n_ := GB.hid ((GB.bls (by repeat (first | exact HB.out | apply GB.bla | apply GB.bld | apply GB.bldN)) hB : Below w.heap.size w w30))
  clear HB
  have HB := n_
  clear n_
  clear hB
  go_wp2
  rw [rounds_succ]
  have cTX2 := KTX.out.cell 2 rfl
  go_wp2_with fail
  refine (turn_Parse.calls 50 ⟨#[48, 49, 47, 52]⟩ 0 0 180 _ (HL.out.below (by repeat (first | exact HB.out | apply GB.bla | apply GB.bld | apply GB.bldN))) Hp2.out).mono ?_
  rintro e31 w31 ⟨rfl, hB⟩
  clear cTX2
  have n_ := GB.hid (KTX.out.below hB)
  clear KTX
  have KTX := n_
  clear n_
  have n_ := GB.hid ((GB.bls (by repeat (first | exact HB.out | apply GB.bla | apply GB.bld | apply GB.bldN)) hB : Below w.heap.size w w31))
  clear HB
  have HB := n_
  clear n_
  clear hB
  go_wp2
  rw [rounds_succ]
  have cTX3 := KTX.out.cell 3 rfl
  go_wp2_with fail
  refine (turn_Parse.calls 50 ⟨#[]⟩ 0 0 180 _ (HL.out.below (by repeat (first | exact HB.out | apply GB.bla | apply GB.bld | apply GB.bldN))) Hp3.out).mono ?_
  rintro e32 w32 ⟨rfl, hB⟩
  clear cTX3
  have n_ := GB.hid (KTX.out.below hB)
  clear KTX
  have KTX := n_
  clear n_
  have n_ := GB.hid ((GB.bls (by repeat (first | exact HB.out | apply GB.bla | apply GB.bld | apply GB.bldN)) hB : Below w.heap.size w w32))
  clear HB
  have HB := n_
  clear n_
  clear hB
  go_wp2
  rw [rounds_succ]
  have cTX4 := KTX.out.cell 4 rfl
  go_wp2_with fail
  refine (turn_Parse.calls 50 ⟨#[47]⟩ 0 0 180 _ (HL.out.below (by repeat (first | exact HB.out | apply GB.bla | apply GB.bld | apply GB.bldN))) Hp4.out).mono ?_
  rintro e33 w33 ⟨rfl, hB⟩
  clear cTX4
  have n_ := GB.hid (KTX.out.below hB)
  clear KTX
  have KTX := n_
  clear n_
  have n_ := GB.hid ((GB.bls (by repeat (first | exact HB.out | apply GB.bla | apply GB.bld | apply GB.bldN)) hB : Below w.heap.size w w33))
  clear HB
  have HB := n_
  clear n_
  clear hB
  go_wp2
  rw [rounds_succ]
  have cTX5 := KTX.out.cell 5 rfl
  go_wp2_with fail
  refine (turn_Parse.calls 50 ⟨#[49, 47]⟩ 0 0 180 _ (HL.out.below (by repeat (first | exact HB.out | apply GB.bla | apply GB.bld | apply GB.bldN))) Hp5.out).mono ?_
  rintro e34 w34 ⟨rfl, hB⟩
  clear cTX5
  have n_ := GB.hid (KTX.out.below hB)
  clear KTX
  have KTX := n_
  clear n_
  have n_ := GB.hid ((GB.bls (by repeat (first | exact HB.out | apply GB.bla | apply GB.bld | apply GB.bldN)) hB : Below w.heap.size w w34))
  clear HB
  have HB := n_
  clear n_
  clear hB
  go_wp2
  rw [rounds_succ]
  have cTX6 := KTX.out.cell 6 rfl
  go_wp2_with fail
  refine (turn_Parse.calls 50 ⟨#[49]⟩ 0 0 180 _ (HL.out.below (by repeat (first | exact HB.out | apply GB.bla | apply GB.bld | apply GB.bldN))) Hp6.out).mono ?_
  rintro e35 w35 ⟨rfl, hB⟩
  clear cTX6
  have n_ := GB.hid (KTX.out.below hB)
  clear KTX
  have KTX := n_
  clear n_
  have n_ := GB.hid ((GB.bls (by repeat (first | exact HB.out | apply GB.bla | apply GB.bld | apply GB.bldN)) hB : Below w.heap.size w w35))
  clear HB
  have HB := n_
  clear n_
  clear hB
  go_wp2
  rw [rounds_succ]
  have cTX7 := KTX.out.cell 7 rfl
  go_wp2_with fail
  refine (turn_Parse.calls 50 ⟨#[45, 49, 47, 52]⟩ 0 0 180 _ (HL.out.below (by repeat (first | exact HB.out | apply GB.bla | apply GB.bld | apply GB.bldN))) Hp7.out).mono ?_
  rintro e36 w36 ⟨rfl, hB⟩
  clear cTX7
  have n_ := GB.hid (KTX.out.below hB)
  clear KTX
  have KTX := n_
  clear n_
  have n_ := GB.hid ((GB.bls (by repeat (first | exact HB.out | apply GB.bla | apply GB.bld | apply GB.bldN)) hB : Below w.heap.size w w36))
  clear HB
  have HB := n_
  clear n_
  clear hB
  go_wp2
  rw [rounds_succ]
  have cTX8 := KTX.out.cell 8 rfl
  go_wp2_with fail
  refine (turn_Parse.calls 50 ⟨#[49, 47, 52, 32]⟩ 0 0 180 _ (HL.out.below (by repeat (first | exact HB.out | apply GB.bla | apply GB.bld | apply GB.bldN))) Hp8.out).mono ?_
  rintro e37 w37 ⟨rfl, hB⟩
  clear cTX8
  have n_ := GB.hid (KTX.out.below hB)
  clear KTX
  have KTX := n_
  clear n_
  have n_ := GB.hid ((GB.bls (by repeat (first | exact HB.out | apply GB.bla | apply GB.bld | apply GB.bldN)) hB : Below w.heap.size w w37))
  clear HB
  have HB := n_
  clear n_
  clear hB
  clear KTX
  go_wp2
  rw [rounds_succ]
  go_wp2_with fail
  refine (slackwaterlaw08_lives.calls true _ rfl).mono ?_
  rintro e38 w38 ⟨rfl, hB⟩
  have n_ := GB.hid ((GB.bls (by repeat (first | exact HB.out | apply GB.bla | apply GB.bld | apply GB.bldN)) hB : Below w.heap.size w w38))
  clear HB
  have HB := n_
  clear n_
  clear hB
  go_wp2_with fail
  refine (turn_Check.calls 50 0 1 0 _ Hk6.out).mono ?_
  rintro e39 w39 ⟨rfl, hB⟩
  have n_ := GB.hid ((GB.bls (by repeat (first | exact HB.out | apply GB.bla | apply GB.bld | apply GB.bldN)) hB : Below w.heap.size w w39))
  clear HB
  have HB := n_
  clear n_
  clear hB
  go_wp2
  go_ret
  exact ⟨rfl, by repeat (first | exact HB.out | apply GB.bla | apply GB.bld | apply GB.bldN)⟩
end Go.Proofs.YtcddhfidbhcgdaaDoor.PK8
namespace Go.Proofs.YtcddhfidbhcgdaaDoor
open Go Go.RowKit
theorem TurnNames_walk (W : World) (hL : LW W) :
    Calls Tryd.prog 6 #[] W fun e W' => e = .returned (.bool true) ∧ Below W.heap.size W W' := PK8.names_walk W hL
end Go.Proofs.YtcddhfidbhcgdaaDoor
