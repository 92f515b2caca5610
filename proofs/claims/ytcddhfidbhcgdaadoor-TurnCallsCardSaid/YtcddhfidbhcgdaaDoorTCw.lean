import Derived.Test.YtcddhfidbhcgdaaDoorTCq
import Derived.Test.YtcddhfidbhcgdaaDoorTCf
import Derived.Deep.RegionHeld3
/- TurnCalls: the walk: each call of the program beside the reference's. -/
set_option linter.unusedVariables false
set_option linter.unusedSimpArgs false
namespace Go.Proofs.YtcddhfidbhcgdaaDoor
open Go Go.RowKit Go.Proofs.YtcddhfidbhcgdaaDoor.PK8 Go.Proofs.YtcddhfidbhcgdaaDoorW.PrintWords
theorem eq_turn (x y : Int) (w : World) : (Op.equalIn 10000 23 (.agg #[.int .i64 x, .int .i64 y]) (.agg #[.int .i64 x, .int .i64 y])).run Tryd.prog w = .ok ((x == x) && (y == y)) w := by
  refine Go.Proofs.YtcddhfidbhcgdaaDoorW.PrintWords.eqA_of Tryd.underlying23 (by kernel_rfl) ?_
  refine Go.Proofs.YtcddhfidbhcgdaaDoorW.PrintWords.eqf_cons (by rfl) (by go_simp; rfl) (by go_simp; rfl) (by go_simp) ?_
  exact Go.Proofs.YtcddhfidbhcgdaaDoorW.PrintWords.eqf_last (by rfl) (by go_simp; rfl) (by go_simp; rfl) (by go_simp)
theorem neq_turn (x y : Int) (w : World) : (binOp .neq 23 (.agg #[.int .i64 x, .int .i64 y]) (.agg #[.int .i64 x, .int .i64 y])).run Tryd.prog w = .ok (.bool false) w := by
  rw [run_neq_struct, eq_turn, beq_self_eq_true, beq_self_eq_true]
  rfl
theorem same_float_self (a : Nat) (w : World) : Calls Tryd.prog 46 #[.float .f64 a, .float .f64 a] w fun e w' => e = .returned (.bool true) ∧ w = w' := by
  by_cases h : (FloatKind.f64.format.order a a == some .eq) = true
  · exact same_float a a w h
  · have h1 : (FloatKind.f64.format.order a a == some .eq) = false := by simpa using h
    have h2 : (FloatKind.f64.format.order a a != some .eq) = true := by simp only [bne, h1]; rfl
    clear h
    go_enter Tryd.func46, Tryd.ntmps46
    go_wp2
    go_ret
    exact ⟨rfl, rfl⟩
theorem same_self (a b : Nat) (w : World) : Calls Tryd.prog 22 #[.complex .f64 a b, .complex .f64 a b] w fun e w' => e = .returned (.bool true) ∧ w = w' := by
  go_enter Tryd.func22, Tryd.ntmps22
  go_wp2_with fail
  refine (same_float_self a _).mono ?_
  rintro e w' ⟨rfl, rfl⟩
  go_wp2_with fail
  refine (same_float_self b _).mono ?_
  rintro e w' ⟨rfl, rfl⟩
  go_wp2
  go_ret
  exact ⟨rfl, rfl⟩
set_option maxHeartbeats 8000000 in
set_option maxRecDepth 100000 in
theorem TurnCalls_core (k : Nat) (p u q v n : Int) (w : World) (hL : LW w)
    (a1 a2 a3 s1 s2 s3 g1 g2 g3 t1 t2 t3 c1 c2 : Int) (re : Int) (rx ry : Nat) (tx : ByteArray) (te ch : Int)
    (ha : turn_Add.f k p u q v = some (a1, a2, a3)) (ha' : slackwaterref08_Add.f k p u q v = some (a1, a2, a3)) (hs : turn_Sub.f k p u q v = some (s1, s2, s3)) (hs' : slackwaterref08_Sub.f k p u q v = some (s1, s2, s3))
    (hg : turn_Neg.f k p u = some (g1, g2, g3)) (hg' : slackwaterref08_Neg.f k p u = some (g1, g2, g3)) (ht : turn_Times.f k p u n = some (t1, t2, t3)) (ht' : slackwaterref08_Times.f k p u n = some (t1, t2, t3))
    (hc : turn_Compare.f k p u q v = some (c1, c2)) (hc' : slackwaterref08_Compare.f k p u q v = some (c1, c2))
    (hr : ∀ w, Calls Tryd.prog 18 #[.agg #[.int .i64 p, .int .i64 u]] w fun e' w' => e' = .returned (.tuple #[.complex .f64 rx ry, .int .i64 re]) ∧ Below w.heap.size w w')
    (hr' : ∀ w, Calls Tryd.prog 19 #[.agg #[.int .i64 p, .int .i64 u]] w fun e' w' => e' = .returned (.tuple #[.complex .f64 rx ry, .int .i64 re]) ∧ Below w.heap.size w w')
    (hp : turn_Print.f k p u = some (tx, te)) (hp' : slackwaterref08_Print.f k p u = some (tx, te)) (hk : turn_Check.f k p u = some ch) (hk' : slackwaterref08_Check.f k p u = some ch) :
    Calls Tryd.prog 3 #[.agg #[.int .i64 p, .int .i64 u], .agg #[.int .i64 q, .int .i64 v], .int .i32 n] w fun e w' => e = .returned (.bool true) ∧ Below w.heap.size w w' := by
  have Ha := GB.hid ha
  have Ha' := GB.hid ha'
  have Hs := GB.hid hs
  have Hs' := GB.hid hs'
  have Hg := GB.hid hg
  have Hg' := GB.hid hg'
  have Ht := GB.hid ht
  have Ht' := GB.hid ht'
  have Hc := GB.hid hc
  have Hc' := GB.hid hc'
  have Hr := GB.hid hr
  have Hr' := GB.hid hr'
  have Hp := GB.hid hp
  have Hp' := GB.hid hp'
  have Hk := GB.hid hk
  have Hk' := GB.hid hk'
  clear ha ha' hs hs' hg hg' ht ht' hc hc' hr hr' hp hp' hk hk'
  have HL := GB.hid hL
  clear hL
  have HB : Hid (Below w.heap.size w w) := GB.hid (GB.bl0 w)
  have h23 := Tryd.underlying23
  have q0 : ∀ w, (binOp .neq 23 (.agg #[.int .i64 a1, .int .i64 a2]) (.agg #[.int .i64 a1, .int .i64 a2])).run Tryd.prog w = .ok (.bool false) w := fun w => neq_turn a1 a2 w
  have q1 : ∀ w, (binOp .neq 23 (.agg #[.int .i64 s1, .int .i64 s2]) (.agg #[.int .i64 s1, .int .i64 s2])).run Tryd.prog w = .ok (.bool false) w := fun w => neq_turn s1 s2 w
  have q2 : ∀ w, (binOp .neq 23 (.agg #[.int .i64 g1, .int .i64 g2]) (.agg #[.int .i64 g1, .int .i64 g2])).run Tryd.prog w = .ok (.bool false) w := fun w => neq_turn g1 g2 w
  have q3 : ∀ w, (binOp .neq 23 (.agg #[.int .i64 t1, .int .i64 t2]) (.agg #[.int .i64 t1, .int .i64 t2])).run Tryd.prog w = .ok (.bool false) w := fun w => neq_turn t1 t2 w
  go_enter Tryd.func3, Tryd.ntmps3
  have KA : Hid (GB.Blk (w.alloc (.cells #[.int .i64 p, .int .i64 u] 23)) w.heap.size 23 [.int .i64 p, .int .i64 u]) := by
    have h := GB.Blk.new w 23 [.int .i64 p, .int .i64 u]
    exact h
  have KB : Hid (GB.Blk ((w.alloc (.cells #[.int .i64 p, .int .i64 u] 23)).alloc (.cells #[.int .i64 q, .int .i64 v] 23)) (w.heap.size + 1) 23 [.int .i64 q, .int .i64 v]) := by
    have h := GB.Blk.new (w.alloc (.cells #[.int .i64 p, .int .i64 u] 23)) 23 [.int .i64 q, .int .i64 v]
    simp only [World.size_alloc] at h
    exact h
  have n_ := GB.hid (KA.out.alloc (.cells #[.int .i64 q, .int .i64 v] 23))
  clear KA
  have KA := n_
  clear n_
  have cA0 := KA.out.cell 0 rfl
  have cA1 := KA.out.cell 1 rfl
  have cB0 := KB.out.cell 0 rfl
  have cB1 := KB.out.cell 1 rfl
  go_wp2_with fail
  refine (turn_Add.calls k p u q v a1 a2 a3 _ Ha.out).mono ?_
  rintro e1 w1 ⟨rfl, hB⟩
  clear cB1
  clear cB0
  clear cA1
  clear cA0
  have n_ := GB.hid (KA.out.below hB)
  clear KA
  have KA := n_
  clear n_
  have n_ := GB.hid (KB.out.below hB)
  clear KB
  have KB := n_
  clear n_
  have n_ := GB.hid ((GB.bls (by repeat (first | exact HB.out | apply GB.bla | apply GB.bld | apply GB.bldN | refine GB.blset ?_ (by first | omega | (have := HG.out; omega)) _ _)) hB : Below w.heap.size w w1))
  clear HB
  have HB := n_
  clear n_
  have hs1 := hB.size
  try simp only [World.size_alloc, World.size_setCell] at hs1
  clear hB
  have KX : Hid (GB.Blk (w1.alloc (.cells #[.int .i64 a1, .int .i64 a2] 23)) w1.heap.size 23 [.int .i64 a1, .int .i64 a2]) := by
    have h := GB.Blk.new w1 23 [.int .i64 a1, .int .i64 a2]
    exact h
  have n_ := GB.hid (KA.out.alloc (.cells #[.int .i64 a1, .int .i64 a2] 23))
  clear KA
  have KA := n_
  clear n_
  have n_ := GB.hid (KB.out.alloc (.cells #[.int .i64 a1, .int .i64 a2] 23))
  clear KB
  have KB := n_
  clear n_
  have cA0 := KA.out.cell 0 rfl
  have cA1 := KA.out.cell 1 rfl
  have cB0 := KB.out.cell 0 rfl
  have cB1 := KB.out.cell 1 rfl
  go_wp2_with fail
  refine (slackwaterref08_Add.calls k p u q v a1 a2 a3 _ Ha'.out).mono ?_
  rintro e2 w2 ⟨rfl, hB⟩
  clear cB1
  clear cB0
  clear cA1
  clear cA0
  have n_ := GB.hid (KA.out.below hB)
  clear KA
  have KA := n_
  clear n_
  have n_ := GB.hid (KB.out.below hB)
  clear KB
  have KB := n_
  clear n_
  have n_ := GB.hid (KX.out.below hB)
  clear KX
  have KX := n_
  clear n_
  have n_ := GB.hid ((GB.bls (by repeat (first | exact HB.out | apply GB.bla | apply GB.bld | apply GB.bldN | refine GB.blset ?_ (by first | omega | (have := HG.out; omega)) _ _)) hB : Below w.heap.size w w2))
  clear HB
  have HB := n_
  clear n_
  have hs2 := hB.size
  try simp only [World.size_alloc, World.size_setCell] at hs2
  clear hB
  have KY : Hid (GB.Blk (w2.alloc (.cells #[.int .i64 a1, .int .i64 a2] 23)) w2.heap.size 23 [.int .i64 a1, .int .i64 a2]) := by
    have h := GB.Blk.new w2 23 [.int .i64 a1, .int .i64 a2]
    exact h
  have n_ := GB.hid (KA.out.alloc (.cells #[.int .i64 a1, .int .i64 a2] 23))
  clear KA
  have KA := n_
  clear n_
  have n_ := GB.hid (KB.out.alloc (.cells #[.int .i64 a1, .int .i64 a2] 23))
  clear KB
  have KB := n_
  clear n_
  have n_ := GB.hid (KX.out.alloc (.cells #[.int .i64 a1, .int .i64 a2] 23))
  clear KX
  have KX := n_
  clear n_
  have cA0 := KA.out.cell 0 rfl
  have cA1 := KA.out.cell 1 rfl
  have cB0 := KB.out.cell 0 rfl
  have cB1 := KB.out.cell 1 rfl
  go_wp2_with fail
  refine (turn_Sub.calls k p u q v s1 s2 s3 _ Hs.out).mono ?_
  rintro e3 w3 ⟨rfl, hB⟩
  clear cB1
  clear cB0
  clear cA1
  clear cA0
  have n_ := GB.hid (KA.out.below hB)
  clear KA
  have KA := n_
  clear n_
  have n_ := GB.hid (KB.out.below hB)
  clear KB
  have KB := n_
  clear n_
  have n_ := GB.hid (KX.out.below hB)
  clear KX
  have KX := n_
  clear n_
  have n_ := GB.hid (KY.out.below hB)
  clear KY
  have KY := n_
  clear n_
  have n_ := GB.hid ((GB.bls (by repeat (first | exact HB.out | apply GB.bla | apply GB.bld | apply GB.bldN | refine GB.blset ?_ (by first | omega | (have := HG.out; omega)) _ _)) hB : Below w.heap.size w w3))
  clear HB
  have HB := n_
  clear n_
  have hs3 := hB.size
  try simp only [World.size_alloc, World.size_setCell] at hs3
  clear hB
  have KZ : Hid (GB.Blk (w3.alloc (.cells #[.int .i64 s1, .int .i64 s2] 23)) w3.heap.size 23 [.int .i64 s1, .int .i64 s2]) := by
    have h := GB.Blk.new w3 23 [.int .i64 s1, .int .i64 s2]
    exact h
  have n_ := GB.hid (KA.out.alloc (.cells #[.int .i64 s1, .int .i64 s2] 23))
  clear KA
  have KA := n_
  clear n_
  have n_ := GB.hid (KB.out.alloc (.cells #[.int .i64 s1, .int .i64 s2] 23))
  clear KB
  have KB := n_
  clear n_
  have n_ := GB.hid (KX.out.alloc (.cells #[.int .i64 s1, .int .i64 s2] 23))
  clear KX
  have KX := n_
  clear n_
  have n_ := GB.hid (KY.out.alloc (.cells #[.int .i64 s1, .int .i64 s2] 23))
  clear KY
  have KY := n_
  clear n_
  have cA0 := KA.out.cell 0 rfl
  have cA1 := KA.out.cell 1 rfl
  have cB0 := KB.out.cell 0 rfl
  have cB1 := KB.out.cell 1 rfl
  go_wp2_with fail
  refine (slackwaterref08_Sub.calls k p u q v s1 s2 s3 _ Hs'.out).mono ?_
  rintro e4 w4 ⟨rfl, hB⟩
  clear cB1
  clear cB0
  clear cA1
  clear cA0
  have n_ := GB.hid (KA.out.below hB)
  clear KA
  have KA := n_
  clear n_
  have n_ := GB.hid (KB.out.below hB)
  clear KB
  have KB := n_
  clear n_
  have n_ := GB.hid (KX.out.below hB)
  clear KX
  have KX := n_
  clear n_
  have n_ := GB.hid (KY.out.below hB)
  clear KY
  have KY := n_
  clear n_
  have n_ := GB.hid (KZ.out.below hB)
  clear KZ
  have KZ := n_
  clear n_
  have n_ := GB.hid ((GB.bls (by repeat (first | exact HB.out | apply GB.bla | apply GB.bld | apply GB.bldN | refine GB.blset ?_ (by first | omega | (have := HG.out; omega)) _ _)) hB : Below w.heap.size w w4))
  clear HB
  have HB := n_
  clear n_
  have hs4 := hB.size
  try simp only [World.size_alloc, World.size_setCell] at hs4
  clear hB
  have KU : Hid (GB.Blk (w4.alloc (.cells #[.int .i64 s1, .int .i64 s2] 23)) w4.heap.size 23 [.int .i64 s1, .int .i64 s2]) := by
    have h := GB.Blk.new w4 23 [.int .i64 s1, .int .i64 s2]
    exact h
  have n_ := GB.hid (KA.out.alloc (.cells #[.int .i64 s1, .int .i64 s2] 23))
  clear KA
  have KA := n_
  clear n_
  have n_ := GB.hid (KB.out.alloc (.cells #[.int .i64 s1, .int .i64 s2] 23))
  clear KB
  have KB := n_
  clear n_
  have n_ := GB.hid (KX.out.alloc (.cells #[.int .i64 s1, .int .i64 s2] 23))
  clear KX
  have KX := n_
  clear n_
  have n_ := GB.hid (KY.out.alloc (.cells #[.int .i64 s1, .int .i64 s2] 23))
  clear KY
  have KY := n_
  clear n_
  have n_ := GB.hid (KZ.out.alloc (.cells #[.int .i64 s1, .int .i64 s2] 23))
  clear KZ
  have KZ := n_
  clear n_
  go_wp2_with fail
  refine (slackwaterlaw08_lives.calls true _ rfl).mono ?_
  rintro e5 w5 ⟨rfl, hB⟩
  have n_ := GB.hid (KA.out.below hB)
  clear KA
  have KA := n_
  clear n_
  have n_ := GB.hid (KB.out.below hB)
  clear KB
  have KB := n_
  clear n_
  have n_ := GB.hid (KX.out.below hB)
  clear KX
  have KX := n_
  clear n_
  have n_ := GB.hid (KY.out.below hB)
  clear KY
  have KY := n_
  clear n_
  have n_ := GB.hid (KZ.out.below hB)
  clear KZ
  have KZ := n_
  clear n_
  have n_ := GB.hid (KU.out.below hB)
  clear KU
  have KU := n_
  clear n_
  have n_ := GB.hid ((GB.bls (by repeat (first | exact HB.out | apply GB.bla | apply GB.bld | apply GB.bldN | refine GB.blset ?_ (by first | omega | (have := HG.out; omega)) _ _)) hB : Below w.heap.size w w5))
  clear HB
  have HB := n_
  clear n_
  have hs5 := hB.size
  try simp only [World.size_alloc, World.size_setCell] at hs5
  clear hB
  have cA0 := KA.out.cell 0 rfl
  have cA1 := KA.out.cell 1 rfl
  have cX0 := KX.out.cell 0 rfl
  have cX1 := KX.out.cell 1 rfl
  have cY0 := KY.out.cell 0 rfl
  have cY1 := KY.out.cell 1 rfl
  have cZ0 := KZ.out.cell 0 rfl
  have cZ1 := KZ.out.cell 1 rfl
  have cU0 := KU.out.cell 0 rfl
  have cU1 := KU.out.cell 1 rfl
  go_wp2_with fail
  refine (turn_Neg.calls k p u g1 g2 g3 _ Hg.out).mono ?_
  rintro e6 w6 ⟨rfl, hB⟩
  clear cU1
  clear cU0
  clear cZ1
  clear cZ0
  clear cY1
  clear cY0
  clear cX1
  clear cX0
  clear cA1
  clear cA0
  have n_ := GB.hid (KA.out.below hB)
  clear KA
  have KA := n_
  clear n_
  have n_ := GB.hid (KB.out.below hB)
  clear KB
  have KB := n_
  clear n_
  have n_ := GB.hid (KX.out.below hB)
  clear KX
  have KX := n_
  clear n_
  have n_ := GB.hid (KY.out.below hB)
  clear KY
  have KY := n_
  clear n_
  have n_ := GB.hid (KZ.out.below hB)
  clear KZ
  have KZ := n_
  clear n_
  have n_ := GB.hid (KU.out.below hB)
  clear KU
  have KU := n_
  clear n_
  have n_ := GB.hid ((GB.bls (by repeat (first | exact HB.out | apply GB.bla | apply GB.bld | apply GB.bldN | refine GB.blset ?_ (by first | omega | (have := HG.out; omega)) _ _)) hB : Below w.heap.size w w6))
  clear HB
  have HB := n_
  clear n_
  have hs6 := hB.size
  try simp only [World.size_alloc, World.size_setCell] at hs6
  clear hB
  have cX0 := KX.out.cell 0 rfl
  have cX1 := KX.out.cell 1 rfl
  have fX0 := KX.out.free 0
  have fX1 := KX.out.free 1
  have n_ := GB.hid ((KA.out.far (g' := w1.heap.size) (by omega) 0 (.int .i64 g1)).far (g' := w1.heap.size) (by omega) 1 (.int .i64 g2))
  clear KA
  have KA := n_
  clear n_
  have n_ := GB.hid ((KB.out.far (g' := w1.heap.size) (by omega) 0 (.int .i64 g1)).far (g' := w1.heap.size) (by omega) 1 (.int .i64 g2))
  clear KB
  have KB := n_
  clear n_
  have n_ := GB.hid ((KX.out.set 0 (.int .i64 g1)).set 1 (.int .i64 g2))
  clear KX
  have KX := n_
  clear n_
  have n_ := GB.hid ((KY.out.far (g' := w1.heap.size) (by omega) 0 (.int .i64 g1)).far (g' := w1.heap.size) (by omega) 1 (.int .i64 g2))
  clear KY
  have KY := n_
  clear n_
  have n_ := GB.hid ((KZ.out.far (g' := w1.heap.size) (by omega) 0 (.int .i64 g1)).far (g' := w1.heap.size) (by omega) 1 (.int .i64 g2))
  clear KZ
  have KZ := n_
  clear n_
  have n_ := GB.hid ((KU.out.far (g' := w1.heap.size) (by omega) 0 (.int .i64 g1)).far (g' := w1.heap.size) (by omega) 1 (.int .i64 g2))
  clear KU
  have KU := n_
  clear n_
  have cA0 := KA.out.cell 0 rfl
  have cA1 := KA.out.cell 1 rfl
  go_wp2_with fail
  refine (slackwaterref08_Neg.calls k p u g1 g2 g3 _ Hg'.out).mono ?_
  rintro e7 w7 ⟨rfl, hB⟩
  clear cA1
  clear cA0
  clear fX1
  clear fX0
  clear cX1
  clear cX0
  have n_ := GB.hid (KA.out.below hB)
  clear KA
  have KA := n_
  clear n_
  have n_ := GB.hid (KB.out.below hB)
  clear KB
  have KB := n_
  clear n_
  have n_ := GB.hid (KX.out.below hB)
  clear KX
  have KX := n_
  clear n_
  have n_ := GB.hid (KY.out.below hB)
  clear KY
  have KY := n_
  clear n_
  have n_ := GB.hid (KZ.out.below hB)
  clear KZ
  have KZ := n_
  clear n_
  have n_ := GB.hid (KU.out.below hB)
  clear KU
  have KU := n_
  clear n_
  have n_ := GB.hid ((GB.bls (by repeat (first | exact HB.out | apply GB.bla | apply GB.bld | apply GB.bldN | refine GB.blset ?_ (by first | omega | (have := HG.out; omega)) _ _)) hB : Below w.heap.size w w7))
  clear HB
  have HB := n_
  clear n_
  have hs7 := hB.size
  try simp only [World.size_alloc, World.size_setCell] at hs7
  clear hB
  have cY0 := KY.out.cell 0 rfl
  have cY1 := KY.out.cell 1 rfl
  have fY0 := KY.out.free 0
  have fY1 := KY.out.free 1
  have n_ := GB.hid ((KA.out.far (g' := w2.heap.size) (by omega) 0 (.int .i64 g1)).far (g' := w2.heap.size) (by omega) 1 (.int .i64 g2))
  clear KA
  have KA := n_
  clear n_
  have n_ := GB.hid ((KB.out.far (g' := w2.heap.size) (by omega) 0 (.int .i64 g1)).far (g' := w2.heap.size) (by omega) 1 (.int .i64 g2))
  clear KB
  have KB := n_
  clear n_
  have n_ := GB.hid ((KX.out.far (g' := w2.heap.size) (by omega) 0 (.int .i64 g1)).far (g' := w2.heap.size) (by omega) 1 (.int .i64 g2))
  clear KX
  have KX := n_
  clear n_
  have n_ := GB.hid ((KY.out.set 0 (.int .i64 g1)).set 1 (.int .i64 g2))
  clear KY
  have KY := n_
  clear n_
  have n_ := GB.hid ((KZ.out.far (g' := w2.heap.size) (by omega) 0 (.int .i64 g1)).far (g' := w2.heap.size) (by omega) 1 (.int .i64 g2))
  clear KZ
  have KZ := n_
  clear n_
  have n_ := GB.hid ((KU.out.far (g' := w2.heap.size) (by omega) 0 (.int .i64 g1)).far (g' := w2.heap.size) (by omega) 1 (.int .i64 g2))
  clear KU
  have KU := n_
  clear n_
  have cA0 := KA.out.cell 0 rfl
  have cA1 := KA.out.cell 1 rfl
  go_wp2_with fail
  refine (turn_Times.calls k p u n t1 t2 t3 _ Ht.out).mono ?_
  rintro e8 w8 ⟨rfl, hB⟩
  clear cA1
  clear cA0
  clear fY1
  clear fY0
  clear cY1
  clear cY0
  have n_ := GB.hid (KA.out.below hB)
  clear KA
  have KA := n_
  clear n_
  have n_ := GB.hid (KB.out.below hB)
  clear KB
  have KB := n_
  clear n_
  have n_ := GB.hid (KX.out.below hB)
  clear KX
  have KX := n_
  clear n_
  have n_ := GB.hid (KY.out.below hB)
  clear KY
  have KY := n_
  clear n_
  have n_ := GB.hid (KZ.out.below hB)
  clear KZ
  have KZ := n_
  clear n_
  have n_ := GB.hid (KU.out.below hB)
  clear KU
  have KU := n_
  clear n_
  have n_ := GB.hid ((GB.bls (by repeat (first | exact HB.out | apply GB.bla | apply GB.bld | apply GB.bldN | refine GB.blset ?_ (by first | omega | (have := HG.out; omega)) _ _)) hB : Below w.heap.size w w8))
  clear HB
  have HB := n_
  clear n_
  have hs8 := hB.size
  try simp only [World.size_alloc, World.size_setCell] at hs8
  clear hB
  have cZ0 := KZ.out.cell 0 rfl
  have cZ1 := KZ.out.cell 1 rfl
  have fZ0 := KZ.out.free 0
  have fZ1 := KZ.out.free 1
  have n_ := GB.hid ((KA.out.far (g' := w3.heap.size) (by omega) 0 (.int .i64 t1)).far (g' := w3.heap.size) (by omega) 1 (.int .i64 t2))
  clear KA
  have KA := n_
  clear n_
  have n_ := GB.hid ((KB.out.far (g' := w3.heap.size) (by omega) 0 (.int .i64 t1)).far (g' := w3.heap.size) (by omega) 1 (.int .i64 t2))
  clear KB
  have KB := n_
  clear n_
  have n_ := GB.hid ((KX.out.far (g' := w3.heap.size) (by omega) 0 (.int .i64 t1)).far (g' := w3.heap.size) (by omega) 1 (.int .i64 t2))
  clear KX
  have KX := n_
  clear n_
  have n_ := GB.hid ((KY.out.far (g' := w3.heap.size) (by omega) 0 (.int .i64 t1)).far (g' := w3.heap.size) (by omega) 1 (.int .i64 t2))
  clear KY
  have KY := n_
  clear n_
  have n_ := GB.hid ((KZ.out.set 0 (.int .i64 t1)).set 1 (.int .i64 t2))
  clear KZ
  have KZ := n_
  clear n_
  have n_ := GB.hid ((KU.out.far (g' := w3.heap.size) (by omega) 0 (.int .i64 t1)).far (g' := w3.heap.size) (by omega) 1 (.int .i64 t2))
  clear KU
  have KU := n_
  clear n_
  have cA0 := KA.out.cell 0 rfl
  have cA1 := KA.out.cell 1 rfl
  go_wp2_with fail
  refine (slackwaterref08_Times.calls k p u n t1 t2 t3 _ Ht'.out).mono ?_
  rintro e9 w9 ⟨rfl, hB⟩
  clear cA1
  clear cA0
  clear fZ1
  clear fZ0
  clear cZ1
  clear cZ0
  have n_ := GB.hid (KA.out.below hB)
  clear KA
  have KA := n_
  clear n_
  have n_ := GB.hid (KB.out.below hB)
  clear KB
  have KB := n_
  clear n_
  have n_ := GB.hid (KX.out.below hB)
  clear KX
  have KX := n_
  clear n_
  have n_ := GB.hid (KY.out.below hB)
  clear KY
  have KY := n_
  clear n_
  have n_ := GB.hid (KZ.out.below hB)
  clear KZ
  have KZ := n_
  clear n_
  have n_ := GB.hid (KU.out.below hB)
  clear KU
  have KU := n_
  clear n_
  have n_ := GB.hid ((GB.bls (by repeat (first | exact HB.out | apply GB.bla | apply GB.bld | apply GB.bldN | refine GB.blset ?_ (by first | omega | (have := HG.out; omega)) _ _)) hB : Below w.heap.size w w9))
  clear HB
  have HB := n_
  clear n_
  have hs9 := hB.size
  try simp only [World.size_alloc, World.size_setCell] at hs9
  clear hB
  have cU0 := KU.out.cell 0 rfl
  have cU1 := KU.out.cell 1 rfl
  have fU0 := KU.out.free 0
  have fU1 := KU.out.free 1
  have n_ := GB.hid ((KA.out.far (g' := w4.heap.size) (by omega) 0 (.int .i64 t1)).far (g' := w4.heap.size) (by omega) 1 (.int .i64 t2))
  clear KA
  have KA := n_
  clear n_
  have n_ := GB.hid ((KB.out.far (g' := w4.heap.size) (by omega) 0 (.int .i64 t1)).far (g' := w4.heap.size) (by omega) 1 (.int .i64 t2))
  clear KB
  have KB := n_
  clear n_
  have n_ := GB.hid ((KX.out.far (g' := w4.heap.size) (by omega) 0 (.int .i64 t1)).far (g' := w4.heap.size) (by omega) 1 (.int .i64 t2))
  clear KX
  have KX := n_
  clear n_
  have n_ := GB.hid ((KY.out.far (g' := w4.heap.size) (by omega) 0 (.int .i64 t1)).far (g' := w4.heap.size) (by omega) 1 (.int .i64 t2))
  clear KY
  have KY := n_
  clear n_
  have n_ := GB.hid ((KZ.out.far (g' := w4.heap.size) (by omega) 0 (.int .i64 t1)).far (g' := w4.heap.size) (by omega) 1 (.int .i64 t2))
  clear KZ
  have KZ := n_
  clear n_
  have n_ := GB.hid ((KU.out.set 0 (.int .i64 t1)).set 1 (.int .i64 t2))
  clear KU
  have KU := n_
  clear n_
  have cA0 := KA.out.cell 0 rfl
  have cA1 := KA.out.cell 1 rfl
  have cB0 := KB.out.cell 0 rfl
  have cB1 := KB.out.cell 1 rfl
  go_wp2_with fail
  refine (turn_Compare.calls k p u q v c1 c2 _ Hc.out).mono ?_
  rintro e10 w10 ⟨rfl, hB⟩
  clear cB1
  clear cB0
  clear cA1
  clear cA0
  clear fU1
  clear fU0
  clear cU1
  clear cU0
  have n_ := GB.hid (KA.out.below hB)
  clear KA
  have KA := n_
  clear n_
  have n_ := GB.hid (KB.out.below hB)
  clear KB
  have KB := n_
  clear n_
  have n_ := GB.hid (KX.out.below hB)
  clear KX
  have KX := n_
  clear n_
  have n_ := GB.hid (KY.out.below hB)
  clear KY
  have KY := n_
  clear n_
  have n_ := GB.hid (KZ.out.below hB)
  clear KZ
  have KZ := n_
  clear n_
  have n_ := GB.hid (KU.out.below hB)
  clear KU
  have KU := n_
  clear n_
  have n_ := GB.hid ((GB.bls (by repeat (first | exact HB.out | apply GB.bla | apply GB.bld | apply GB.bldN | refine GB.blset ?_ (by first | omega | (have := HG.out; omega)) _ _)) hB : Below w.heap.size w w10))
  clear HB
  have HB := n_
  clear n_
  have hs10 := hB.size
  try simp only [World.size_alloc, World.size_setCell] at hs10
  clear hB
  have cA0 := KA.out.cell 0 rfl
  have cA1 := KA.out.cell 1 rfl
  have cB0 := KB.out.cell 0 rfl
  have cB1 := KB.out.cell 1 rfl
  go_wp2_with fail
  refine (slackwaterref08_Compare.calls k p u q v c1 c2 _ Hc'.out).mono ?_
  rintro e11 w11 ⟨rfl, hB⟩
  clear cB1
  clear cB0
  clear cA1
  clear cA0
  have n_ := GB.hid (KA.out.below hB)
  clear KA
  have KA := n_
  clear n_
  have n_ := GB.hid (KB.out.below hB)
  clear KB
  have KB := n_
  clear n_
  have n_ := GB.hid (KX.out.below hB)
  clear KX
  have KX := n_
  clear n_
  have n_ := GB.hid (KY.out.below hB)
  clear KY
  have KY := n_
  clear n_
  have n_ := GB.hid (KZ.out.below hB)
  clear KZ
  have KZ := n_
  clear n_
  have n_ := GB.hid (KU.out.below hB)
  clear KU
  have KU := n_
  clear n_
  have n_ := GB.hid ((GB.bls (by repeat (first | exact HB.out | apply GB.bla | apply GB.bld | apply GB.bldN | refine GB.blset ?_ (by first | omega | (have := HG.out; omega)) _ _)) hB : Below w.heap.size w w11))
  clear HB
  have HB := n_
  clear n_
  have hs11 := hB.size
  try simp only [World.size_alloc, World.size_setCell] at hs11
  clear hB
  have cX0 := KX.out.cell 0 rfl
  have cX1 := KX.out.cell 1 rfl
  have cY0 := KY.out.cell 0 rfl
  have cY1 := KY.out.cell 1 rfl
  have cZ0 := KZ.out.cell 0 rfl
  have cZ1 := KZ.out.cell 1 rfl
  have cU0 := KU.out.cell 0 rfl
  have cU1 := KU.out.cell 1 rfl
  have cA0 := KA.out.cell 0 rfl
  have cA1 := KA.out.cell 1 rfl
  go_wp2_with fail
  refine (Hr.out _).mono ?_
  rintro e12 w12 ⟨rfl, hB⟩
  clear cA1
  clear cA0
  clear cU1
  clear cU0
  clear cZ1
  clear cZ0
  clear cY1
  clear cY0
  clear cX1
  clear cX0
  have n_ := GB.hid (KA.out.below hB)
  clear KA
  have KA := n_
  clear n_
  have n_ := GB.hid (KB.out.below hB)
  clear KB
  have KB := n_
  clear n_
  have n_ := GB.hid (KX.out.below hB)
  clear KX
  have KX := n_
  clear n_
  have n_ := GB.hid (KY.out.below hB)
  clear KY
  have KY := n_
  clear n_
  have n_ := GB.hid (KZ.out.below hB)
  clear KZ
  have KZ := n_
  clear n_
  have n_ := GB.hid (KU.out.below hB)
  clear KU
  have KU := n_
  clear n_
  have n_ := GB.hid ((GB.bls (by repeat (first | exact HB.out | apply GB.bla | apply GB.bld | apply GB.bldN | refine GB.blset ?_ (by first | omega | (have := HG.out; omega)) _ _)) hB : Below w.heap.size w w12))
  clear HB
  have HB := n_
  clear n_
  have hs12 := hB.size
  try simp only [World.size_alloc, World.size_setCell] at hs12
  clear hB
  have cA0 := KA.out.cell 0 rfl
  have cA1 := KA.out.cell 1 rfl
  go_wp2_with fail
  refine (Hr'.out _).mono ?_
  rintro e13 w13 ⟨rfl, hB⟩
  clear cA1
  clear cA0
  have n_ := GB.hid (KA.out.below hB)
  clear KA
  have KA := n_
  clear n_
  have n_ := GB.hid (KB.out.below hB)
  clear KB
  have KB := n_
  clear n_
  have n_ := GB.hid (KX.out.below hB)
  clear KX
  have KX := n_
  clear n_
  have n_ := GB.hid (KY.out.below hB)
  clear KY
  have KY := n_
  clear n_
  have n_ := GB.hid (KZ.out.below hB)
  clear KZ
  have KZ := n_
  clear n_
  have n_ := GB.hid (KU.out.below hB)
  clear KU
  have KU := n_
  clear n_
  have n_ := GB.hid ((GB.bls (by repeat (first | exact HB.out | apply GB.bla | apply GB.bld | apply GB.bldN | refine GB.blset ?_ (by first | omega | (have := HG.out; omega)) _ _)) hB : Below w.heap.size w w13))
  clear HB
  have HB := n_
  clear n_
  have hs13 := hB.size
  try simp only [World.size_alloc, World.size_setCell] at hs13
  clear hB
  have cA0 := KA.out.cell 0 rfl
  have cA1 := KA.out.cell 1 rfl
  have HL2 := GB.hid (HL.out.below HB.out)
  go_wp2_with fail
  refine (turn_Print.calls k p u tx te _ HL2.out Hp.out).mono ?_
  rintro e14 w14 ⟨rfl, hB⟩
  clear cA1
  clear cA0
  have n_ := GB.hid (KA.out.below hB)
  clear KA
  have KA := n_
  clear n_
  have n_ := GB.hid (KB.out.below hB)
  clear KB
  have KB := n_
  clear n_
  have n_ := GB.hid (KX.out.below hB)
  clear KX
  have KX := n_
  clear n_
  have n_ := GB.hid (KY.out.below hB)
  clear KY
  have KY := n_
  clear n_
  have n_ := GB.hid (KZ.out.below hB)
  clear KZ
  have KZ := n_
  clear n_
  have n_ := GB.hid (KU.out.below hB)
  clear KU
  have KU := n_
  clear n_
  have n_ := GB.hid ((GB.bls (by repeat (first | exact HB.out | apply GB.bla | apply GB.bld | apply GB.bldN | refine GB.blset ?_ (by first | omega | (have := HG.out; omega)) _ _)) hB : Below w.heap.size w w14))
  clear HB
  have HB := n_
  clear n_
  have hs14 := hB.size
  try simp only [World.size_alloc, World.size_setCell] at hs14
  clear hB
  have cA0 := KA.out.cell 0 rfl
  have cA1 := KA.out.cell 1 rfl
  go_wp2_with fail
  refine (slackwaterref08_Print.calls k p u tx te _ Hp'.out).mono ?_
  rintro e15 w15 ⟨rfl, hB⟩
  clear cA1
  clear cA0
  have n_ := GB.hid (KA.out.below hB)
  clear KA
  have KA := n_
  clear n_
  have n_ := GB.hid (KB.out.below hB)
  clear KB
  have KB := n_
  clear n_
  have n_ := GB.hid (KX.out.below hB)
  clear KX
  have KX := n_
  clear n_
  have n_ := GB.hid (KY.out.below hB)
  clear KY
  have KY := n_
  clear n_
  have n_ := GB.hid (KZ.out.below hB)
  clear KZ
  have KZ := n_
  clear n_
  have n_ := GB.hid (KU.out.below hB)
  clear KU
  have KU := n_
  clear n_
  have n_ := GB.hid ((GB.bls (by repeat (first | exact HB.out | apply GB.bla | apply GB.bld | apply GB.bldN | refine GB.blset ?_ (by first | omega | (have := HG.out; omega)) _ _)) hB : Below w.heap.size w w15))
  clear HB
  have HB := n_
  clear n_
  have hs15 := hB.size
  try simp only [World.size_alloc, World.size_setCell] at hs15
  clear hB
  have cA0 := KA.out.cell 0 rfl
  have cA1 := KA.out.cell 1 rfl
  have hsn := GB.hid (same_self rx ry)
  have hb1 : (re == re) = true := beq_self_eq_true re
  have hb3 : (te == te) = true := beq_self_eq_true te
  have hb4 : (ch == ch) = true := beq_self_eq_true ch
  clear Ha Ha' Hs Hs' Hg Hg' Ht Ht' Hc Hc' Hr Hr' Hp Hp' q0 q1 q2 q3 KB KX KY KZ KU
  go_wp2_with fail
  go_region_held3 (fun w' => w'.cell? ⟨w.heap.size, 0, none⟩ = some (.int .i64 p) ∧ w'.cell? ⟨w.heap.size, 1, none⟩ = some (.int .i64 u)) (exact ⟨cA0, cA1⟩) (first
    | (go_at_call 22
       refine (hsn.out _).mono ?_
       rintro e z ⟨rfl, rfl⟩)
    | (go_at_call 23
       refine (turn_Check.calls k p u ch _ Hk.out).mono ?_
       rintro e w16 ⟨rfl, hB⟩
       have KA := GB.hid (KA.out.below ⟨hB.os, hB.tape, hB.output, hB.size, hB.block⟩)
       have HB := GB.hid (GB.bls HB.out ⟨hB.os, hB.tape, hB.output, hB.size, hB.block⟩ : Below w.heap.size w w16)
       clear hB cA0 cA1
       have cA0 := KA.out.cell 0 rfl
       have cA1 := KA.out.cell 1 rfl)
    | (go_at_call 24
       refine (slackwaterref08_Check.calls k p u ch _ Hk'.out).mono ?_
       rintro e w16 ⟨rfl, hB⟩
       have KA := GB.hid (KA.out.below ⟨hB.os, hB.tape, hB.output, hB.size, hB.block⟩)
       have HB := GB.hid (GB.bls HB.out ⟨hB.os, hB.tape, hB.output, hB.size, hB.block⟩ : Below w.heap.size w w16)
       clear hB cA0 cA1
       have cA0 := KA.out.cell 0 rfl
       have cA1 := KA.out.cell 1 rfl))
  all_goals
    go_wp2
    go_ret
    exact ⟨rfl, by repeat (first | exact HB.out | apply GB.bld | apply GB.bldN)⟩
end Go.Proofs.YtcddhfidbhcgdaaDoor
