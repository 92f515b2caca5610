/- Written by wip/xprint.py (the kit's print over given functions). -/
import Derived.Test.YtcddhfidbhcgdaaDoorPK8x0
import Derived.Test.YtcddhfidbhcgdaaDoorPK8x2
import Derived.Test.YtcddhfidbhcgdaaDoorPK8x9
namespace Go.Proofs.YtcddhfidbhcgdaaDoor.PK8
open Go.RowKit Go.Proofs.YtcddhfidbhcgdaaDoorW.PrintWords Go.Proofs.YtcddhfidbhcgdaaDoorW.PrintLast Go.Proofs.YtcddhfidbhcgdaaDoorW.PrintMore
attribute [local go_sem] max2_int min2_int max_two min_two max_three min_three max_four min_four   -- for this text's walks alone
set_option linter.unusedVariables false
set_option linter.unusedSimpArgs false

/-! ### turn_Compare: function 16 (given) -/
/-- which of two products of two words is more -/
def turn_Compare.cmp (m n : Int × Int) : Int := if m.1 < n.1 then -1 else if m.1 = n.1 then (if m.2 < n.2 then -1 else if m.2 = n.2 then 0 else 1) else 1
def turn_Compare.tail (p u q v : Int) : Option (Int × Int) :=
  if 0 ≤ p ∧ p < 9223372036854775808 ∧ 0 ≤ u ∧ u < 9223372036854775808 ∧ 0 ≤ q ∧ q < 9223372036854775808 ∧ 0 ≤ v ∧ v < 9223372036854775808 then
    (bits_Mul64.f p v).bind fun m => (bits_Mul64.f q u).bind fun n => some (turn_Compare.cmp m n, 0)
  else none
def turn_Compare.f (k : Nat) (a0_0 : Int) (a0_1 : Int) (a1_0 : Int) (a1_1 : Int) : Option (Int × Int) :=
  (turn_Check.f k a0_0 a0_1).bind fun e => if e = 0 then ((turn_Check.f k a1_0 a1_1).bind fun e1 => if e1 = 0 then turn_Compare.tail a0_0 a0_1 a1_0 a1_1 else some (0, e1)) else some (0, e)
theorem turn_Compare.mono : ∀ a0 a1 a2 a3 k, LeO (turn_Compare.f k a0 a1 a2 a3) (turn_Compare.f (k + 1) a0 a1 a2 a3) := by
  intro a0 a1 a2 a3 k
  unfold turn_Compare.f
  repeat' first
      | exact turn_Check.mono _ _ _
      | exact LeO.none _
      | exact LeO.refl _
      | refine LeO.ite ?_ ?_
      | refine LeO.bind ?_ (fun _ => ?_)
set_option maxHeartbeats 4000000 in
set_option maxRecDepth 100000 in
theorem turn_Compare.e1 (k : Nat) (p u q v e : Int) (w : World) (h : turn_Check.f k p u = some e) (he : e ≠ 0) :
    Calls Tryd.prog 16 #[.agg #[.int .i64 p, .int .i64 u], .agg #[.int .i64 q, .int .i64 v]] w fun e' w' => e' = .returned (.tuple #[.int .i64 0, .int .i64 e]) ∧ Below w.heap.size w w' := by
  have h57 := Tryd.underlying47
  have i0 : ∀ w, (Instr.index 47 (.agg #[.int .i64 p, .int .i64 u, .int .i64 q, .int .i64 v]) (.int .i64 0)).run Tryd.prog w = .ok (.agg #[.int .i64 p, .int .i64 u]) w := fun _ => by kernel_rfl
  have hb : (e != 0) = true := bne_iff_ne.2 he
  have H := GB.hid h
  clear h
  go_enter Tryd.func16, Tryd.ntmps16
  go_wp2
  refine wp_loop_rounds 3 ?_
  rw [rounds_succ]
  go_wp2_with fail
  refine (turn_Check.calls k _ _ _ _ H.out).mono ?_
  rintro e' w1 ⟨rfl, hB⟩
  have HB := GB.hid (GB.bls (by repeat (first | exact GB.bl0 _ | apply GB.bla)) hB : Below w.heap.size w w1)
  clear hB
  go_wp2
  go_ret2
  exact ⟨rfl, by repeat (first | exact HB.out | apply GB.bla | refine GB.blset ?_ (by omega) _ _)⟩
set_option maxHeartbeats 4000000 in
set_option maxRecDepth 100000 in
theorem turn_Compare.e2 (k : Nat) (p u q v e : Int) (w : World) (h0 : turn_Check.f k p u = some 0) (h : turn_Check.f k q v = some e) (he : e ≠ 0) :
    Calls Tryd.prog 16 #[.agg #[.int .i64 p, .int .i64 u], .agg #[.int .i64 q, .int .i64 v]] w fun e' w' => e' = .returned (.tuple #[.int .i64 0, .int .i64 e]) ∧ Below w.heap.size w w' := by
  have h57 := Tryd.underlying47
  have i0 : ∀ w, (Instr.index 47 (.agg #[.int .i64 p, .int .i64 u, .int .i64 q, .int .i64 v]) (.int .i64 0)).run Tryd.prog w = .ok (.agg #[.int .i64 p, .int .i64 u]) w := fun _ => by kernel_rfl
  have i1 : ∀ w, (Instr.index 47 (.agg #[.int .i64 p, .int .i64 u, .int .i64 q, .int .i64 v]) (.int .i64 1)).run Tryd.prog w = .ok (.agg #[.int .i64 q, .int .i64 v]) w := fun _ => by kernel_rfl
  have hb : (e != 0) = true := bne_iff_ne.2 he
  have H0 := GB.hid h0
  have H := GB.hid h
  clear h h0
  go_enter Tryd.func16, Tryd.ntmps16
  go_wp2
  refine wp_loop_rounds 3 ?_
  rw [rounds_succ]
  go_wp2_with fail
  refine (turn_Check.calls k _ _ _ _ H0.out).mono ?_
  rintro e' w1 ⟨rfl, hB⟩
  have HB := GB.hid (GB.bls (by repeat (first | exact GB.bl0 _ | apply GB.bla)) hB : Below w.heap.size w w1)
  clear hB
  go_wp2
  rw [rounds_succ]
  go_wp2_with fail
  refine (turn_Check.calls k _ _ _ _ H.out).mono ?_
  rintro e' w2 ⟨rfl, hB⟩
  have HB := GB.hid (GB.bls (by repeat (first | exact HB.out | apply GB.bla)) hB : Below w.heap.size w w2)
  clear hB
  go_wp2
  go_ret2
  exact ⟨rfl, by repeat (first | exact HB.out | apply GB.bla | refine GB.blset ?_ (by omega) _ _)⟩
set_option maxHeartbeats 4000000 in
set_option maxRecDepth 100000 in
theorem turn_Compare.e3 (k : Nat) (p u q v m0 m1 n0 n1 : Int) (w : World) (h0 : turn_Check.f k p u = some 0) (h1 : turn_Check.f k q v = some 0)
    (p0 : 0 ≤ p) (p1 : p < 9223372036854775808) (u0 : 0 ≤ u) (u1 : u < 9223372036854775808) (q0 : 0 ≤ q) (q1 : q < 9223372036854775808) (v0 : 0 ≤ v) (v1 : v < 9223372036854775808) (hm : bits_Mul64.f p v = some (m0, m1)) (hn : bits_Mul64.f q u = some (n0, n1)) (r : Int) (hr : turn_Compare.cmp (m0, m1) (n0, n1) = r) :
    Calls Tryd.prog 16 #[.agg #[.int .i64 p, .int .i64 u], .agg #[.int .i64 q, .int .i64 v]] w fun e' w' => e' = .returned (.tuple #[.int .i64 r, .int .i64 0]) ∧ Below w.heap.size w w' := by
  have h57 := Tryd.underlying47
  have i0 : ∀ w, (Instr.index 47 (.agg #[.int .i64 p, .int .i64 u, .int .i64 q, .int .i64 v]) (.int .i64 0)).run Tryd.prog w = .ok (.agg #[.int .i64 p, .int .i64 u]) w := fun _ => by kernel_rfl
  have i1 : ∀ w, (Instr.index 47 (.agg #[.int .i64 p, .int .i64 u, .int .i64 q, .int .i64 v]) (.int .i64 1)).run Tryd.prog w = .ok (.agg #[.int .i64 q, .int .i64 v]) w := fun _ => by kernel_rfl
  have H0 := GB.hid h0
  have H1 := GB.hid h1
  have HM := GB.hid hm
  have HN := GB.hid hn
  have HR := GB.hid hr
  clear h0 h1 hm hn hr
  have E1 : IntKind.u64.wrap p = p := IntWalk.u64_in _ (by omega)
  have E2 : IntKind.u64.wrap v = v := IntWalk.u64_in _ (by omega)
  have E3 : IntKind.u64.wrap q = q := IntWalk.u64_in _ (by omega)
  have E4 : IntKind.u64.wrap u = u := IntWalk.u64_in _ (by omega)
  go_enter Tryd.func16, Tryd.ntmps16
  go_wp2
  refine wp_loop_rounds 3 ?_
  rw [rounds_succ]
  go_wp2_with fail
  refine (turn_Check.calls k _ _ _ _ H0.out).mono ?_
  rintro e' w1 ⟨rfl, hB⟩
  have KB := GB.hid (((GB.Blk.new (w.alloc (.cells #[.int .i64 p, .int .i64 u] 23)) 23 [.int .i64 q, .int .i64 v]).alloc (.cells #[.int .i64 p, .int .i64 u] 23)).below hB)
  have KA := GB.hid ((((GB.Blk.new w 23 [.int .i64 p, .int .i64 u]).alloc (.cells #[.int .i64 q, .int .i64 v] 23)).alloc (.cells #[.int .i64 p, .int .i64 u] 23)).below hB)
  have HB := GB.hid (GB.bls (by repeat (first | exact GB.bl0 _ | apply GB.bla)) hB : Below w.heap.size w w1)
  clear hB
  go_wp2
  rw [rounds_succ]
  go_wp2_with fail
  refine (turn_Check.calls k _ _ _ _ H1.out).mono ?_
  rintro e' w2 ⟨rfl, hB⟩
  have KA := GB.hid ((KA.out.alloc (.cells #[.int .i64 q, .int .i64 v] 23)).below hB)
  have KB := GB.hid ((KB.out.alloc (.cells #[.int .i64 q, .int .i64 v] 23)).below hB)
  have HB := GB.hid (GB.bls (by repeat (first | exact HB.out | apply GB.bla)) hB : Below w.heap.size w w2)
  clear hB
  have a0 := KA.out.cell 0 rfl
  have a1 := KA.out.cell 1 rfl
  have b0 := KB.out.cell 0 rfl
  have b1 := KB.out.cell 1 rfl
  simp only [World.size_alloc] at a0 a1 b0 b1
  go_wp2
  rw [rounds_succ]
  go_wp2_with fail
  refine (bits_Mul64.calls p v m0 m1 _ HM.out).mono ?_
  rintro e' w3 ⟨rfl, nd, rfl⟩
  go_wp2_with fail
  refine (bits_Mul64.calls q u n0 n1 _ HN.out).mono ?_
  rintro e' w4 ⟨rfl, ne, rfl⟩
  have R := HR.out
  unfold turn_Compare.cmp at R
  simp only at R
  by_cases c1 : m0 < n0
  · rw [if_pos c1] at R
    have d1 : decide (m0 < n0) = true := decide_eq_true c1
    subst R
    go_wp2
    go_ret2
    exact ⟨rfl, by repeat (first | exact HB.out | apply GB.bla | apply GB.bldN)⟩
  · rw [if_neg c1] at R
    have d1 : decide (m0 < n0) = false := decide_eq_false c1
    by_cases c2 : m0 = n0
    · rw [if_pos c2] at R
      have d2 : (m0 == n0) = true := beq_iff_eq.2 c2
      by_cases c3 : m1 < n1
      · rw [if_pos c3] at R
        have d3 : decide (m1 < n1) = true := decide_eq_true c3
        subst R
        go_wp2
        go_ret2
        exact ⟨rfl, by repeat (first | exact HB.out | apply GB.bla | apply GB.bldN)⟩
      · rw [if_neg c3] at R
        have d3 : decide (m1 < n1) = false := decide_eq_false c3
        by_cases c4 : m1 = n1
        · rw [if_pos c4] at R
          have d4 : (m1 == n1) = true := beq_iff_eq.2 c4
          subst R
          clear c1 c2 c3 c4
          go_wp2
          go_ret2
          exact ⟨rfl, by repeat (first | exact HB.out | apply GB.bla | apply GB.bldN)⟩
        · rw [if_neg c4] at R
          have d4 : (m1 == n1) = false := beq_eq_false_iff_ne.2 c4
          subst R
          clear c1 c2 c3 c4
          go_wp2
          go_ret2
          exact ⟨rfl, by repeat (first | exact HB.out | apply GB.bla | apply GB.bldN)⟩
    · rw [if_neg c2] at R
      have d2 : (m0 == n0) = false := beq_eq_false_iff_ne.2 c2
      subst R
      clear c1 c2
      go_wp2
      go_ret2
      exact ⟨rfl, by repeat (first | exact HB.out | apply GB.bla | apply GB.bldN)⟩
theorem turn_Compare.calls (k : Nat) (a0_0 : Int) (a0_1 : Int) (a1_0 : Int) (a1_1 : Int) (r1 : Int) (r2 : Int) (w : World) (h : turn_Compare.f k a0_0 a0_1 a1_0 a1_1 = some (r1, r2)) :
    Calls Tryd.prog 16 #[.agg #[.int .i64 a0_0, .int .i64 a0_1], .agg #[.int .i64 a1_0, .int .i64 a1_1]] w fun e w' => e = .returned (.tuple #[.int .i64 r1, .int .i64 r2]) ∧ Below w.heap.size w w' := by
  unfold turn_Compare.f at h
  obtain ⟨e, h0, h⟩ := Option.bind_eq_some_iff.mp h
  by_cases he : e = 0
  · subst he
    rw [if_pos rfl] at h
    obtain ⟨e1, h1, h⟩ := Option.bind_eq_some_iff.mp h
    by_cases he1 : e1 = 0
    · subst he1
      rw [if_pos rfl] at h
      unfold turn_Compare.tail at h
      split at h
      · rename_i hc
        obtain ⟨p0, p1, u0, u1, q0, q1, v0, v1⟩ := hc
        obtain ⟨⟨m0, m1⟩, hm, h⟩ := Option.bind_eq_some_iff.mp h
        obtain ⟨⟨n0, n1⟩, hn, h⟩ := Option.bind_eq_some_iff.mp h
        cases h
        exact turn_Compare.e3 k _ _ _ _ m0 m1 n0 n1 w h0 h1 p0 p1 u0 u1 q0 q1 v0 v1 hm hn _ rfl
      · cases h
    · rw [if_neg he1] at h
      cases h
      exact turn_Compare.e2 k _ _ _ _ _ w h0 h1 he1
  · rw [if_neg he] at h
    cases h
    exact turn_Compare.e1 k _ _ _ _ _ w h0 he


end Go.Proofs.YtcddhfidbhcgdaaDoor.PK8
