import Derived.Test.YtjnbfepembhomaaTRp
/- TurnRoot, walked. Printed by wip/gen_troot.py. -/
set_option linter.unusedVariables false
set_option linter.unusedSimpArgs false
namespace Go.Proofs.Ytjnbfepembhomaa
open Go Go.RowKit Go.Proofs.Ytjnbfepembhomaa.PTG Go.Proofs.YtjnbfepembhomaaW.PrintWords TG
section
theorem unary_negf2 (k : FloatKind) (n : Nat) : Op.unary .neg (.float k n) = pure (.float k (Op.negFloat k n)) := rfl
attribute [local go_sem] unary_negf2
set_option maxHeartbeats 8000000 in
set_option maxRecDepth 100000 in
theorem TurnRoot_bad (p u e : Int) (w : World) (he : e ≠ 0) (hR : ∀ w : World, Calls Try.prog 5 #[.agg #[.int .i64 p, .int .i64 u]] w fun e' w' => e' = .returned (.tuple #[.complex .f64 0 0, .int .i64 e]) ∧ Below w.heap.size w w') :
    Calls Try.prog 3 #[.agg #[.int .i64 p, .int .i64 u]] w fun e' w' => e' = .returned (.bool true) ∧ Below w.heap.size w w' := by
  have HR := GB.hid hR
  clear hR
  have hb_ : (e != 0) = true := bne_iff_ne.2 he
  have hz : (binOp .eql 25 (.complex .f64 0 0) (.complex .f64 0 0)).run Try.prog = (fun w => .ok (.bool true) w) := by funext w; kernel_rfl
  have HB := GB.hid (GB.bl0 w)
  have KX : Hid (GB.Blk (w.alloc (.cells #[.int .i64 p, .int .i64 u] 23)) w.heap.size 23 [.int .i64 p, .int .i64 u]) := by
    have h := GB.Blk.new w 23 [.int .i64 p, .int .i64 u]
    exact h
  have n_ := GB.hid (GB.bla HB.out (.cells #[.int .i64 p, .int .i64 u] 23))
  clear HB
  have HB := n_
  clear n_
  go_enter Try.func3, Try.ntmps3
  go_wp2_with fail
  refine (slackwaterlaw08_lives.calls_ _).mono ?_
  rintro r1 w1 ⟨rfl, hb⟩
  have z1 := hb.size
  (try simp only [World.size_alloc, World.size_setCell] at z1)
  have n_ := GB.hid (KX.out.below hb)
  clear KX
  have KX := n_
  clear n_
  have n_ := GB.hid (GB.bls HB.out hb)
  clear HB
  have HB := n_
  clear n_
  clear hb
  have xX0 := KX.out.cell 0 rfl
  have xX1 := KX.out.cell 1 rfl
  go_wp2_with fail
  refine (HR.out _).mono ?_
  rintro r2 w2 ⟨rfl, hb⟩
  clear xX1 xX0
  have z2 := hb.size
  (try simp only [World.size_alloc, World.size_setCell] at z2)
  have n_ := GB.hid (KX.out.below hb)
  clear KX
  have KX := n_
  clear n_
  have n_ := GB.hid (GB.bls HB.out hb)
  clear HB
  have HB := n_
  clear n_
  clear hb
  go_wp2
  go_ret
  exact ⟨rfl, by repeat (first | exact HB.out | apply GB.bla | apply GB.bld | apply GB.bldN)⟩
set_option maxHeartbeats 8000000 in
set_option maxRecDepth 100000 in
theorem TurnRoot_good (k : Nat) (p u : Int) (x y r1 r2 r3 r4 : Nat) (qp qu hp hu np nu : Int) (qo ho : Bool) (w : World) (hR : RootAt p u x y)
    (f1 : floatBits .mul .f64 x x = some r1) (f2 : floatBits .mul .f64 y y = some r2) (f3 : floatBits .add .f64 r1 r2 = some r3) (f4 : floatBits .sub .f64 r3 4607182418800017408 = some r4)
    (c1 : (FloatKind.f64.format.order x 4607182418800017408 == some .gt) = false) (c2 : (FloatKind.f64.format.order x 13830554455654793216 == some .lt) = false) (c3 : (FloatKind.f64.format.order y 4607182418800017408 == some .gt) = false) (c4 : (FloatKind.f64.format.order y 13830554455654793216 == some .lt) = false)
    (c5 : (FloatKind.f64.format.order r4 4386506037058863104 == some .gt) = false) (c6 : (FloatKind.f64.format.order r4 13609878073913638912 == some .lt) = false)
    (hq : slackwaterlaw08_add.f k p u 1 4 = some (qp, qu, qo)) (hh : slackwaterlaw08_add.f k p u 1 2 = some (hp, hu, ho)) (hn : turn_Neg.f k p u = some (np, nu, 0))
    (hrq : qo = true → ∃ a b, RootAt qp qu a b ∧ (FloatKind.f64.format.order a (Op.negFloat .f64 y) == some .eq) = true ∧ (FloatKind.f64.format.order b x == some .eq) = true)
    (hrh : ho = true → ∃ a b, RootAt hp hu a b ∧ (FloatKind.f64.format.order a (Op.negFloat .f64 x) == some .eq) = true ∧ (FloatKind.f64.format.order b (Op.negFloat .f64 y) == some .eq) = true)
    (hrn : ∃ a b, RootAt np nu a b ∧ (u ≠ 8 → (FloatKind.f64.format.order a x == some .eq) = true ∧ (FloatKind.f64.format.order b (Op.negFloat .f64 y) == some .eq) = true)) :
    Calls Try.prog 3 #[.agg #[.int .i64 p, .int .i64 u]] w fun e' w' => e' = .returned (.bool true) ∧ Below w.heap.size w w' := by
  have HR := GB.hid hR
  have HQ := GB.hid hq
  have HH := GB.hid hh
  have HN := GB.hid hn
  have HRQ := GB.hid hrq
  have HRH := GB.hid hrh
  have HRN := GB.hid hrn
  clear hR hq hh hn hrq hrh hrn
  have F1 : ∀ w, (binOp BinOp.mul 29 (Value.float FloatKind.f64 x) (Value.float FloatKind.f64 x)).run Try.prog w = .ok (.float .f64 r1) w := fun w => run_float_arith w _ _ _ _ _ _ f1
  have F2 : ∀ w, (binOp BinOp.mul 29 (Value.float FloatKind.f64 y) (Value.float FloatKind.f64 y)).run Try.prog w = .ok (.float .f64 r2) w := fun w => run_float_arith w _ _ _ _ _ _ f2
  have F3 : ∀ w, (binOp BinOp.add 29 (Value.float FloatKind.f64 r1) (Value.float FloatKind.f64 r2)).run Try.prog w = .ok (.float .f64 r3) w := fun w => run_float_arith w _ _ _ _ _ _ f3
  have F4 : ∀ w, (binOp BinOp.sub 29 (Value.float FloatKind.f64 r3) (Value.float FloatKind.f64 4607182418800017408)).run Try.prog w = .ok (.float .f64 r4) w := fun w => run_float_arith w _ _ _ _ _ _ f4
  clear f1 f2 f3 f4
  have HB := GB.hid (GB.bl0 w)
  have KX : Hid (GB.Blk (w.alloc (.cells #[.int .i64 p, .int .i64 u] 23)) w.heap.size 23 [.int .i64 p, .int .i64 u]) := by
    have h := GB.Blk.new w 23 [.int .i64 p, .int .i64 u]
    exact h
  have n_ := GB.hid (GB.bla HB.out (.cells #[.int .i64 p, .int .i64 u] 23))
  clear HB
  have HB := n_
  clear n_
  go_enter Try.func3, Try.ntmps3
  go_wp2_with fail
  refine (slackwaterlaw08_lives.calls_ _).mono ?_
  rintro r1 w1 ⟨rfl, hb⟩
  have z1 := hb.size
  (try simp only [World.size_alloc, World.size_setCell] at z1)
  have n_ := GB.hid (KX.out.below hb)
  clear KX
  have KX := n_
  clear n_
  have n_ := GB.hid (GB.bls HB.out hb)
  clear HB
  have HB := n_
  clear n_
  clear hb
  have xX0 := KX.out.cell 0 rfl
  have xX1 := KX.out.cell 1 rfl
  go_wp2_with fail
  refine (HR.out _).mono ?_
  rintro r2 w2 ⟨rfl, hb⟩
  clear xX1 xX0
  have z2 := hb.size
  (try simp only [World.size_alloc, World.size_setCell] at z2)
  have n_ := GB.hid (KX.out.below hb)
  clear KX
  have KX := n_
  clear n_
  have n_ := GB.hid (GB.bls HB.out hb)
  clear HB
  have HB := n_
  clear n_
  clear hb
  have xX0 := KX.out.cell 0 rfl
  have xX1 := KX.out.cell 1 rfl
  go_wp2_with fail
  refine (slackwaterlaw08_add.calls k p u 1 4 qp qu qo _ HQ.out).mono ?_
  rintro r3 w3 ⟨rfl, hb⟩
  clear xX1 xX0
  have z3 := hb.size
  (try simp only [World.size_alloc, World.size_setCell] at z3)
  have n_ := GB.hid (KX.out.below hb)
  clear KX
  have KX := n_
  clear n_
  have n_ := GB.hid (GB.bls HB.out hb)
  clear HB
  have HB := n_
  clear n_
  clear hb
  have n_ := GB.hid (KX.out.alloc (.cells #[.int .i64 qp, .int .i64 qu] 23))
  clear KX
  have KX := n_
  clear n_
  have KQ : Hid (GB.Blk (w3.alloc (.cells #[.int .i64 qp, .int .i64 qu] 23)) w3.heap.size 23 [.int .i64 qp, .int .i64 qu]) := by
    have h := GB.Blk.new w3 23 [.int .i64 qp, .int .i64 qu]
    exact h
  have n_ := GB.hid (GB.bla HB.out (.cells #[.int .i64 qp, .int .i64 qu] 23))
  clear HB
  have HB := n_
  clear n_
  have xX0 := KX.out.cell 0 rfl
  have xX1 := KX.out.cell 1 rfl
  go_wp2_with fail
  refine (slackwaterlaw08_add.calls k p u 1 2 hp hu ho _ HH.out).mono ?_
  rintro r4 w4 ⟨rfl, hb⟩
  clear xX1 xX0
  have z4 := hb.size
  (try simp only [World.size_alloc, World.size_setCell] at z4)
  have n_ := GB.hid (KX.out.below hb)
  clear KX
  have KX := n_
  clear n_
  have n_ := GB.hid (KQ.out.below hb)
  clear KQ
  have KQ := n_
  clear n_
  have n_ := GB.hid (GB.bls HB.out hb)
  clear HB
  have HB := n_
  clear n_
  clear hb
  have n_ := GB.hid (KX.out.alloc (.cells #[.int .i64 hp, .int .i64 hu] 23))
  clear KX
  have KX := n_
  clear n_
  have n_ := GB.hid (KQ.out.alloc (.cells #[.int .i64 hp, .int .i64 hu] 23))
  clear KQ
  have KQ := n_
  clear n_
  have KH : Hid (GB.Blk (w4.alloc (.cells #[.int .i64 hp, .int .i64 hu] 23)) w4.heap.size 23 [.int .i64 hp, .int .i64 hu]) := by
    have h := GB.Blk.new w4 23 [.int .i64 hp, .int .i64 hu]
    exact h
  have n_ := GB.hid (GB.bla HB.out (.cells #[.int .i64 hp, .int .i64 hu] 23))
  clear HB
  have HB := n_
  clear n_
  cases qo with
  | false =>
    clear HRQ
    cases ho with
    | false =>
      clear HRH
      have xX0 := KX.out.cell 0 rfl
      have xX1 := KX.out.cell 1 rfl
      go_wp2_with fail
      refine (turn_Neg.calls k p u np nu 0 _ HN.out).mono ?_
      rintro r5 w5 ⟨rfl, hb⟩
      clear xX1 xX0
      have z5 := hb.size
      (try simp only [World.size_alloc, World.size_setCell] at z5)
      have n_ := GB.hid (KX.out.below hb)
      clear KX
      have KX := n_
      clear n_
      have n_ := GB.hid (KQ.out.below hb)
      clear KQ
      have KQ := n_
      clear n_
      have n_ := GB.hid (KH.out.below hb)
      clear KH
      have KH := n_
      clear n_
      have n_ := GB.hid (GB.bls HB.out hb)
      clear HB
      have HB := n_
      clear n_
      clear hb
      have n_ := GB.hid (KX.out.alloc (.cells #[.int .i64 np, .int .i64 nu] 23))
      clear KX
      have KX := n_
      clear n_
      have n_ := GB.hid (KQ.out.alloc (.cells #[.int .i64 np, .int .i64 nu] 23))
      clear KQ
      have KQ := n_
      clear n_
      have n_ := GB.hid (KH.out.alloc (.cells #[.int .i64 np, .int .i64 nu] 23))
      clear KH
      have KH := n_
      clear n_
      have KN : Hid (GB.Blk (w5.alloc (.cells #[.int .i64 np, .int .i64 nu] 23)) w5.heap.size 23 [.int .i64 np, .int .i64 nu]) := by
        have h := GB.Blk.new w5 23 [.int .i64 np, .int .i64 nu]
        exact h
      have n_ := GB.hid (GB.bla HB.out (.cells #[.int .i64 np, .int .i64 nu] 23))
      clear HB
      have HB := n_
      clear n_
      obtain ⟨na, nb, hra, hrb⟩ := HRN.out
      clear HRN
      have HNA := GB.hid hra
      have HNB := GB.hid hrb
      clear hra hrb
      have xN0 := KN.out.cell 0 rfl
      have xN1 := KN.out.cell 1 rfl
      go_wp2_with fail
      refine (HNA.out _).mono ?_
      rintro r6 w6 ⟨rfl, hb⟩
      clear xN1 xN0
      have z6 := hb.size
      (try simp only [World.size_alloc, World.size_setCell] at z6)
      have n_ := GB.hid (KX.out.below hb)
      clear KX
      have KX := n_
      clear n_
      have n_ := GB.hid (KQ.out.below hb)
      clear KQ
      have KQ := n_
      clear n_
      have n_ := GB.hid (KH.out.below hb)
      clear KH
      have KH := n_
      clear n_
      have n_ := GB.hid (KN.out.below hb)
      clear KN
      have KN := n_
      clear n_
      have n_ := GB.hid (GB.bls HB.out hb)
      clear HB
      have HB := n_
      clear n_
      clear hb
      have xX0 := KX.out.cell 0 rfl
      have xX1 := KX.out.cell 1 rfl
      by_cases h8 : u = 8
      · have g8 : (u == 8) = true := beq_iff_eq.2 h8
        clear HNB
        clear h8
        go_wp2
        go_ret
        exact ⟨rfl, by repeat (first | exact HB.out | apply GB.bla | apply GB.bld | apply GB.bldN)⟩
      · have g8 : (u == 8) = false := beq_eq_false_iff_ne.2 h8
        obtain ⟨n1, n2⟩ := HNB.out h8
        clear HNB
        clear h8
        go_wp2_with fail
        refine (same_number _ _ _ _ _ n1 n2).mono ?_
        rintro e_ w_ ⟨rfl, rfl⟩
        go_wp2
        go_ret
        exact ⟨rfl, by repeat (first | exact HB.out | apply GB.bla | apply GB.bld | apply GB.bldN)⟩
    | true =>
      obtain ⟨ha, hb', hra, h1, h2⟩ := HRH.out rfl
      clear HRH
      have HHA := GB.hid hra
      clear hra
      have xH0 := KH.out.cell 0 rfl
      have xH1 := KH.out.cell 1 rfl
      go_wp2_with fail
      refine (HHA.out _).mono ?_
      rintro r5 w5 ⟨rfl, hb⟩
      clear xH1 xH0
      have z5 := hb.size
      (try simp only [World.size_alloc, World.size_setCell] at z5)
      have n_ := GB.hid (KX.out.below hb)
      clear KX
      have KX := n_
      clear n_
      have n_ := GB.hid (KQ.out.below hb)
      clear KQ
      have KQ := n_
      clear n_
      have n_ := GB.hid (KH.out.below hb)
      clear KH
      have KH := n_
      clear n_
      have n_ := GB.hid (GB.bls HB.out hb)
      clear HB
      have HB := n_
      clear n_
      clear hb
      go_wp2_with fail
      refine (same_number _ _ _ _ _ h1 h2).mono ?_
      rintro e_ w_ ⟨rfl, rfl⟩
      clear h1 h2 HHA
      have xX0 := KX.out.cell 0 rfl
      have xX1 := KX.out.cell 1 rfl
      go_wp2_with fail
      refine (turn_Neg.calls k p u np nu 0 _ HN.out).mono ?_
      rintro r6 w6 ⟨rfl, hb⟩
      clear xX1 xX0
      have z6 := hb.size
      (try simp only [World.size_alloc, World.size_setCell] at z6)
      have n_ := GB.hid (KX.out.below hb)
      clear KX
      have KX := n_
      clear n_
      have n_ := GB.hid (KQ.out.below hb)
      clear KQ
      have KQ := n_
      clear n_
      have n_ := GB.hid (KH.out.below hb)
      clear KH
      have KH := n_
      clear n_
      have n_ := GB.hid (GB.bls HB.out hb)
      clear HB
      have HB := n_
      clear n_
      clear hb
      have n_ := GB.hid (KX.out.alloc (.cells #[.int .i64 np, .int .i64 nu] 23))
      clear KX
      have KX := n_
      clear n_
      have n_ := GB.hid (KQ.out.alloc (.cells #[.int .i64 np, .int .i64 nu] 23))
      clear KQ
      have KQ := n_
      clear n_
      have n_ := GB.hid (KH.out.alloc (.cells #[.int .i64 np, .int .i64 nu] 23))
      clear KH
      have KH := n_
      clear n_
      have KN : Hid (GB.Blk (w6.alloc (.cells #[.int .i64 np, .int .i64 nu] 23)) w6.heap.size 23 [.int .i64 np, .int .i64 nu]) := by
        have h := GB.Blk.new w6 23 [.int .i64 np, .int .i64 nu]
        exact h
      have n_ := GB.hid (GB.bla HB.out (.cells #[.int .i64 np, .int .i64 nu] 23))
      clear HB
      have HB := n_
      clear n_
      obtain ⟨na, nb, hra, hrb⟩ := HRN.out
      clear HRN
      have HNA := GB.hid hra
      have HNB := GB.hid hrb
      clear hra hrb
      have xN0 := KN.out.cell 0 rfl
      have xN1 := KN.out.cell 1 rfl
      go_wp2_with fail
      refine (HNA.out _).mono ?_
      rintro r7 w7 ⟨rfl, hb⟩
      clear xN1 xN0
      have z7 := hb.size
      (try simp only [World.size_alloc, World.size_setCell] at z7)
      have n_ := GB.hid (KX.out.below hb)
      clear KX
      have KX := n_
      clear n_
      have n_ := GB.hid (KQ.out.below hb)
      clear KQ
      have KQ := n_
      clear n_
      have n_ := GB.hid (KH.out.below hb)
      clear KH
      have KH := n_
      clear n_
      have n_ := GB.hid (KN.out.below hb)
      clear KN
      have KN := n_
      clear n_
      have n_ := GB.hid (GB.bls HB.out hb)
      clear HB
      have HB := n_
      clear n_
      clear hb
      have xX0 := KX.out.cell 0 rfl
      have xX1 := KX.out.cell 1 rfl
      by_cases h8 : u = 8
      · have g8 : (u == 8) = true := beq_iff_eq.2 h8
        clear HNB
        clear h8
        go_wp2
        go_ret
        exact ⟨rfl, by repeat (first | exact HB.out | apply GB.bla | apply GB.bld | apply GB.bldN)⟩
      · have g8 : (u == 8) = false := beq_eq_false_iff_ne.2 h8
        obtain ⟨n1, n2⟩ := HNB.out h8
        clear HNB
        clear h8
        go_wp2_with fail
        refine (same_number _ _ _ _ _ n1 n2).mono ?_
        rintro e_ w_ ⟨rfl, rfl⟩
        go_wp2
        go_ret
        exact ⟨rfl, by repeat (first | exact HB.out | apply GB.bla | apply GB.bld | apply GB.bldN)⟩
  | true =>
    obtain ⟨qa, qb, hra, h1, h2⟩ := HRQ.out rfl
    clear HRQ
    have HQA := GB.hid hra
    clear hra
    have xQ0 := KQ.out.cell 0 rfl
    have xQ1 := KQ.out.cell 1 rfl
    go_wp2_with fail
    refine (HQA.out _).mono ?_
    rintro r5 w5 ⟨rfl, hb⟩
    clear xQ1 xQ0
    have z5 := hb.size
    (try simp only [World.size_alloc, World.size_setCell] at z5)
    have n_ := GB.hid (KX.out.below hb)
    clear KX
    have KX := n_
    clear n_
    have n_ := GB.hid (KQ.out.below hb)
    clear KQ
    have KQ := n_
    clear n_
    have n_ := GB.hid (KH.out.below hb)
    clear KH
    have KH := n_
    clear n_
    have n_ := GB.hid (GB.bls HB.out hb)
    clear HB
    have HB := n_
    clear n_
    clear hb
    go_wp2_with fail
    refine (same_number _ _ _ _ _ h1 h2).mono ?_
    rintro e_ w_ ⟨rfl, rfl⟩
    clear h1 h2 HQA
    cases ho with
    | false =>
      clear HRH
      have xX0 := KX.out.cell 0 rfl
      have xX1 := KX.out.cell 1 rfl
      go_wp2_with fail
      refine (turn_Neg.calls k p u np nu 0 _ HN.out).mono ?_
      rintro r6 w6 ⟨rfl, hb⟩
      clear xX1 xX0
      have z6 := hb.size
      (try simp only [World.size_alloc, World.size_setCell] at z6)
      have n_ := GB.hid (KX.out.below hb)
      clear KX
      have KX := n_
      clear n_
      have n_ := GB.hid (KQ.out.below hb)
      clear KQ
      have KQ := n_
      clear n_
      have n_ := GB.hid (KH.out.below hb)
      clear KH
      have KH := n_
      clear n_
      have n_ := GB.hid (GB.bls HB.out hb)
      clear HB
      have HB := n_
      clear n_
      clear hb
      have n_ := GB.hid (KX.out.alloc (.cells #[.int .i64 np, .int .i64 nu] 23))
      clear KX
      have KX := n_
      clear n_
      have n_ := GB.hid (KQ.out.alloc (.cells #[.int .i64 np, .int .i64 nu] 23))
      clear KQ
      have KQ := n_
      clear n_
      have n_ := GB.hid (KH.out.alloc (.cells #[.int .i64 np, .int .i64 nu] 23))
      clear KH
      have KH := n_
      clear n_
      have KN : Hid (GB.Blk (w6.alloc (.cells #[.int .i64 np, .int .i64 nu] 23)) w6.heap.size 23 [.int .i64 np, .int .i64 nu]) := by
        have h := GB.Blk.new w6 23 [.int .i64 np, .int .i64 nu]
        exact h
      have n_ := GB.hid (GB.bla HB.out (.cells #[.int .i64 np, .int .i64 nu] 23))
      clear HB
      have HB := n_
      clear n_
      obtain ⟨na, nb, hra, hrb⟩ := HRN.out
      clear HRN
      have HNA := GB.hid hra
      have HNB := GB.hid hrb
      clear hra hrb
      have xN0 := KN.out.cell 0 rfl
      have xN1 := KN.out.cell 1 rfl
      go_wp2_with fail
      refine (HNA.out _).mono ?_
      rintro r7 w7 ⟨rfl, hb⟩
      clear xN1 xN0
      have z7 := hb.size
      (try simp only [World.size_alloc, World.size_setCell] at z7)
      have n_ := GB.hid (KX.out.below hb)
      clear KX
      have KX := n_
      clear n_
      have n_ := GB.hid (KQ.out.below hb)
      clear KQ
      have KQ := n_
      clear n_
      have n_ := GB.hid (KH.out.below hb)
      clear KH
      have KH := n_
      clear n_
      have n_ := GB.hid (KN.out.below hb)
      clear KN
      have KN := n_
      clear n_
      have n_ := GB.hid (GB.bls HB.out hb)
      clear HB
      have HB := n_
      clear n_
      clear hb
      have xX0 := KX.out.cell 0 rfl
      have xX1 := KX.out.cell 1 rfl
      by_cases h8 : u = 8
      · have g8 : (u == 8) = true := beq_iff_eq.2 h8
        clear HNB
        clear h8
        go_wp2
        go_ret
        exact ⟨rfl, by repeat (first | exact HB.out | apply GB.bla | apply GB.bld | apply GB.bldN)⟩
      · have g8 : (u == 8) = false := beq_eq_false_iff_ne.2 h8
        obtain ⟨n1, n2⟩ := HNB.out h8
        clear HNB
        clear h8
        go_wp2_with fail
        refine (same_number _ _ _ _ _ n1 n2).mono ?_
        rintro e_ w_ ⟨rfl, rfl⟩
        go_wp2
        go_ret
        exact ⟨rfl, by repeat (first | exact HB.out | apply GB.bla | apply GB.bld | apply GB.bldN)⟩
    | true =>
      obtain ⟨ha, hb', hra, h1, h2⟩ := HRH.out rfl
      clear HRH
      have HHA := GB.hid hra
      clear hra
      have xH0 := KH.out.cell 0 rfl
      have xH1 := KH.out.cell 1 rfl
      go_wp2_with fail
      refine (HHA.out _).mono ?_
      rintro r6 w6 ⟨rfl, hb⟩
      clear xH1 xH0
      have z6 := hb.size
      (try simp only [World.size_alloc, World.size_setCell] at z6)
      have n_ := GB.hid (KX.out.below hb)
      clear KX
      have KX := n_
      clear n_
      have n_ := GB.hid (KQ.out.below hb)
      clear KQ
      have KQ := n_
      clear n_
      have n_ := GB.hid (KH.out.below hb)
      clear KH
      have KH := n_
      clear n_
      have n_ := GB.hid (GB.bls HB.out hb)
      clear HB
      have HB := n_
      clear n_
      clear hb
      go_wp2_with fail
      refine (same_number _ _ _ _ _ h1 h2).mono ?_
      rintro e_ w_ ⟨rfl, rfl⟩
      clear h1 h2 HHA
      have xX0 := KX.out.cell 0 rfl
      have xX1 := KX.out.cell 1 rfl
      go_wp2_with fail
      refine (turn_Neg.calls k p u np nu 0 _ HN.out).mono ?_
      rintro r7 w7 ⟨rfl, hb⟩
      clear xX1 xX0
      have z7 := hb.size
      (try simp only [World.size_alloc, World.size_setCell] at z7)
      have n_ := GB.hid (KX.out.below hb)
      clear KX
      have KX := n_
      clear n_
      have n_ := GB.hid (KQ.out.below hb)
      clear KQ
      have KQ := n_
      clear n_
      have n_ := GB.hid (KH.out.below hb)
      clear KH
      have KH := n_
      clear n_
      have n_ := GB.hid (GB.bls HB.out hb)
      clear HB
      have HB := n_
      clear n_
      clear hb
      have n_ := GB.hid (KX.out.alloc (.cells #[.int .i64 np, .int .i64 nu] 23))
      clear KX
      have KX := n_
      clear n_
      have n_ := GB.hid (KQ.out.alloc (.cells #[.int .i64 np, .int .i64 nu] 23))
      clear KQ
      have KQ := n_
      clear n_
      have n_ := GB.hid (KH.out.alloc (.cells #[.int .i64 np, .int .i64 nu] 23))
      clear KH
      have KH := n_
      clear n_
      have KN : Hid (GB.Blk (w7.alloc (.cells #[.int .i64 np, .int .i64 nu] 23)) w7.heap.size 23 [.int .i64 np, .int .i64 nu]) := by
        have h := GB.Blk.new w7 23 [.int .i64 np, .int .i64 nu]
        exact h
      have n_ := GB.hid (GB.bla HB.out (.cells #[.int .i64 np, .int .i64 nu] 23))
      clear HB
      have HB := n_
      clear n_
      obtain ⟨na, nb, hra, hrb⟩ := HRN.out
      clear HRN
      have HNA := GB.hid hra
      have HNB := GB.hid hrb
      clear hra hrb
      have xN0 := KN.out.cell 0 rfl
      have xN1 := KN.out.cell 1 rfl
      go_wp2_with fail
      refine (HNA.out _).mono ?_
      rintro r8 w8 ⟨rfl, hb⟩
      clear xN1 xN0
      have z8 := hb.size
      (try simp only [World.size_alloc, World.size_setCell] at z8)
      have n_ := GB.hid (KX.out.below hb)
      clear KX
      have KX := n_
      clear n_
      have n_ := GB.hid (KQ.out.below hb)
      clear KQ
      have KQ := n_
      clear n_
      have n_ := GB.hid (KH.out.below hb)
      clear KH
      have KH := n_
      clear n_
      have n_ := GB.hid (KN.out.below hb)
      clear KN
      have KN := n_
      clear n_
      have n_ := GB.hid (GB.bls HB.out hb)
      clear HB
      have HB := n_
      clear n_
      clear hb
      have xX0 := KX.out.cell 0 rfl
      have xX1 := KX.out.cell 1 rfl
      by_cases h8 : u = 8
      · have g8 : (u == 8) = true := beq_iff_eq.2 h8
        clear HNB
        clear h8
        go_wp2
        go_ret
        exact ⟨rfl, by repeat (first | exact HB.out | apply GB.bla | apply GB.bld | apply GB.bldN)⟩
      · have g8 : (u == 8) = false := beq_eq_false_iff_ne.2 h8
        obtain ⟨n1, n2⟩ := HNB.out h8
        clear HNB
        clear h8
        go_wp2_with fail
        refine (same_number _ _ _ _ _ n1 n2).mono ?_
        rintro e_ w_ ⟨rfl, rfl⟩
        go_wp2
        go_ret
        exact ⟨rfl, by repeat (first | exact HB.out | apply GB.bla | apply GB.bld | apply GB.bldN)⟩
end
end Go.Proofs.Ytjnbfepembhomaa
