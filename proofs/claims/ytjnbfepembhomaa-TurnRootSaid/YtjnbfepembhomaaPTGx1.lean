/- Written by wip/xprint.py (the kit's print over given functions). -/
import Derived.Test.YtjnbfepembhomaaPTGx0
namespace Go.Proofs.Ytjnbfepembhomaa.PTG
open Go.RowKit Go.Proofs.YtjnbfepembhomaaW.PrintWords Go.Proofs.YtjnbfepembhomaaW.PrintLast Go.Proofs.YtjnbfepembhomaaW.PrintMore
attribute [local go_sem] max2_int min2_int max_two min_two max_three min_three max_four min_four   -- for this text's walks alone
set_option linter.unusedVariables false
set_option linter.unusedSimpArgs false

/-! ### turn_common: function 19 -/
def turn_common.l0 : Nat → Int → Int → Option (Int)
  | 0, _, _ => none
  | k + 1, x0, x1 => if x1 = 0 then (some x0) else (turn_common.l0 k x1 (Int.tmod x0 x1))
def turn_common.f (k : Nat) (a0 : Int) (a1 : Int) : Option (Int) := turn_common.l0 k a0 a1
theorem turn_common.mono_l : ∀ k, (∀ y0 y1, LeO (turn_common.l0 k y0 y1) (turn_common.l0 (k + 1) y0 y1))
  | 0 => fun _ _ r h => by simp [turn_common.l0] at h
  | k + 1 => by
    have ih0 := turn_common.mono_l k
    · intro y0 y1
      unfold turn_common.l0
      repeat' first
      | (with_reducible exact ih0 _ _)
      | (with_reducible exact LeO.refl _)
      | (with_reducible exact LeO.none _)
      | (with_reducible refine LeO.ite ?_ ?_)
      | (with_reducible refine LeO.bind ?_ (fun _ => ?_))
      | exact ih0 _ _
      | exact LeO.none _
      | refine LeO.ite ?_ ?_
      | refine LeO.bind ?_ (fun _ => ?_)
theorem turn_common.mono : ∀ a0 a1 k, LeO (turn_common.f k a0 a1) (turn_common.f (k + 1) a0 a1) := by
  intro a0 a1 k
  have ih0 := turn_common.mono_l k
  unfold turn_common.f
  repeat' first
      | (with_reducible exact ih0 _ _)
      | (with_reducible exact LeO.refl _)
      | (with_reducible exact LeO.none _)
      | (with_reducible refine LeO.ite ?_ ?_)
      | (with_reducible refine LeO.bind ?_ (fun _ => ?_))
      | exact ih0 _ _
      | exact LeO.none _
      | refine LeO.ite ?_ ?_
      | refine LeO.bind ?_ (fun _ => ?_)
set_option maxHeartbeats 8000000 in
set_option maxRecDepth 100000 in
theorem turn_common.calls (k : Nat) (a0 : Int) (a1 : Int) (r : Int) (w : World) (h : turn_common.f k a0 a1 = some r) :
    Calls Try.prog 19 #[.int .i64 a0, .int .i64 a1] w fun e w' => e = .returned (.int .i64 r) ∧ Drawn0 w w' := by
  have H : (turn_common.l0 k a0 a1) = some r := h
  clear h
  have H' := Aside0.mk H
  clear H
  go_enter Try.func19, Try.ntmps19
  go_wp2
  repeat (go_quiet (fail); try go_wp2)
  go_loopg [0, 1] k (fun kq v0 v1 w' => ∃ (x0_1 : Int) (x1_1 : Int), v0 = .int .i64 x0_1 ∧ v1 = .int .i64 x1_1 ∧ Aside0 (turn_common.l0 kq x0_1 x1_1 = some r) ∧ Aside0 (kq ≤ k) ∧ Drawn0 w w')
  case atStart => exact ⟨(a0), (a1), (by first | rfl | (simp; done) | (simp [*]; done)), (by first | rfl | (simp; done) | (simp [*]; done)), H', ⟨Nat.le_refl _⟩, by repeat (first | exact Drawn0.refl _ | apply Drawn0.step)⟩
  case round =>
    clear H'
    try clear c1
    try clear p2
    obtain ⟨x0_1, x1_1, rfl, rfl, HA, HK1, ⟨m1, rfl⟩⟩ := hrel
    cases gk with
    | zero => exact absurd HA.out (by simp [turn_common.l0])
    | succ k1 =>
      have H := HA.out
      clear HA
      simp only [turn_common.l0] at H
      by_cases c3 : x1_1 = 0
      · rw [if_pos c3] at H
        have c3b0 : (x1_1 == 0) = true := beq_iff_eq.mpr c3
        have c3b1 : (x1_1 != 0) = false := bne_eq_false_iff_eq.mpr c3
        clear c3
        obtain rfl := Option.some.inj H
        go_wp2
        repeat (go_quiet (fail); try go_wp2)
        go_ret
        exact ⟨by first | rfl | (simp; done) | (simp [*]; done), by repeat (first | exact Drawn0.refl _ | apply Drawn0.step)⟩
      · rw [if_neg c3] at H
        have c3b0 : (x1_1 == 0) = false := beq_eq_false_iff_ne.mpr c3
        have c3b1 : (x1_1 != 0) = true := bne_iff_ne.mpr c3
        have H' := Aside0.mk H
        clear H
        go_wp2
        repeat (go_quiet (fail); try go_wp2)
        go_roundg k1
        case measure => have := HK1.out; omega
        case rel => exact ⟨(x1_1), (Int.tmod x0_1 x1_1), (by first | rfl | (simp; done) | (simp [*]; done)), (by first | rfl | (simp; done) | (simp [*]; done)), H', ⟨by have := HK1.out; omega⟩, by repeat (first | exact Drawn0.refl _ | apply Drawn0.step)⟩

/-! ### turn_Check: function 10 -/
def turn_Check.f (k : Nat) (a0_0 : Int) (a0_1 : Int) : Option (Int) := if a0_1 < 1 then (some 180) else (if a0_1 > 4294967296 then (some 180) else (if a0_0 < 0 then (some 180) else (if a0_0 ≥ a0_1 then (some 180) else ((turn_common.f k a0_1 a0_0).bind fun t102 => (if t102 = 1 then (some 0) else (some 180))))))
theorem turn_Check.mono : ∀ a0 a1 k, LeO (turn_Check.f k a0 a1) (turn_Check.f (k + 1) a0 a1) := by
  intro a0 a1 k
  unfold turn_Check.f
  repeat' first
      | (with_reducible exact turn_common.mono _ _ _)
      | (with_reducible exact LeO.refl _)
      | (with_reducible exact LeO.none _)
      | (with_reducible refine LeO.ite ?_ ?_)
      | (with_reducible refine LeO.bind ?_ (fun _ => ?_))
      | exact turn_common.mono _ _ _
      | exact LeO.none _
      | refine LeO.ite ?_ ?_
      | refine LeO.bind ?_ (fun _ => ?_)
set_option maxHeartbeats 8000000 in
set_option maxRecDepth 100000 in
theorem turn_Check.calls (k : Nat) (a0_0 : Int) (a0_1 : Int) (r : Int) (w : World) (h : turn_Check.f k a0_0 a0_1 = some r) :
    Calls Try.prog 10 #[.agg #[.int .i64 a0_0, .int .i64 a0_1]] w fun e w' => e = .returned (.int .i64 r) ∧ Below w.heap.size w w' := by
  have hu23 := Try.underlying23
  have HB := Aside0.mk (Below.refl w.heap.size w)
  have H : (if a0_1 < 1 then (some 180) else (if a0_1 > 4294967296 then (some 180) else (if a0_0 < 0 then (some 180) else (if a0_0 ≥ a0_1 then (some 180) else ((turn_common.f k a0_1 a0_0).bind fun t102 => (if t102 = 1 then (some 0) else (some 180))))))) = some r := h
  clear h
  by_cases c2 : a0_1 < 1
  · rw [if_pos c2] at H
    have c2b0 : decide (a0_1 < 1) = true := decide_eq_true c2
    clear c2
    obtain rfl := Option.some.inj H
    go_enter Try.func10, Try.ntmps10
    go_wp2_with (first | ((with_reducible refine gate_dst (N := 1) rfl ?_); refine box_event ?hg (N := 1) ?hd (cs := #[.int .i64 a0_0, .int .i64 a0_1]) (t := 23) ?hr ?_; (case hd => rfl); (case hg => rfl); (case hr => first | (go_simp; done) | (go_simp; rfl)); intro gb101 hg w3 hbox hb; have n0_ := Aside0.mk (below_step (by repeat (first | (with_reducible first | exact HB.out | apply below_alloc | apply pw_below_drewN | apply below_drew1) | exact HB.out)) hb); have n1_ := Aside0.mk (hbox); have n2_ := Aside0.mk ((by rw [hg]; exact (below_size (by repeat (first | (with_reducible first | exact HB.out | apply below_alloc | apply pw_below_drewN | apply below_drew1) | exact HB.out))) : w.heap.size ≤ gb101)); have n3_ := Aside0.mk ((by rw [hg]; exact (below_size (by repeat (first | (with_reducible first | exact HB.out | apply below_alloc | apply pw_below_drewN | apply below_drew1) | exact HB.out))) : w.heap.size ≤ gb101)); clear HB; have HB := n0_; have BK101 := n1_; have GW101 := n2_; have GE101 := n3_; clear n0_ n1_ n2_ n3_; clear hb hbox hg; have hcz4_0 : w3.cell? ⟨gb101, 0, none⟩ = some (.int .i64 a0_0) := (blk_cell BK101.out 0).trans rfl; have hcz4_1 : w3.cell? ⟨gb101, 1, none⟩ = some (.int .i64 a0_1) := (blk_cell BK101.out 1).trans rfl; have hfz4_0 := blk_frozen BK101.out 0; have hfz4_1 := blk_frozen BK101.out 1))
    go_ret
    exact ⟨by first | rfl | (simp [errW_none, errW_some] <;> rfl) | (simp [*, errW_none, errW_some] <;> rfl), by repeat (first | (with_reducible first | exact HB.out | apply below_alloc | apply pw_below_drewN | apply below_drew1 | refine below_set ?_ GE101.out) | exact HB.out)⟩
  · rw [if_neg c2] at H
    have c2b0 : decide (a0_1 < 1) = false := decide_eq_false c2
    clear c2
    by_cases c5 : a0_1 > 4294967296
    · rw [if_pos c5] at H
      have c5b0 : decide (4294967296 < a0_1) = true := decide_eq_true c5
      clear c5
      obtain rfl := Option.some.inj H
      go_enter Try.func10, Try.ntmps10
      go_wp2_with (first | ((with_reducible refine gate_dst (N := 1) rfl ?_); refine box_event ?hg (N := 1) ?hd (cs := #[.int .i64 a0_0, .int .i64 a0_1]) (t := 23) ?hr ?_; (case hd => rfl); (case hg => rfl); (case hr => first | (go_simp; done) | (go_simp; rfl)); intro gb101 hg w6 hbox hb; have n0_ := Aside0.mk (below_step (by repeat (first | (with_reducible first | exact HB.out | apply below_alloc | apply pw_below_drewN | apply below_drew1) | exact HB.out)) hb); have n1_ := Aside0.mk (hbox); have n2_ := Aside0.mk ((by rw [hg]; exact (below_size (by repeat (first | (with_reducible first | exact HB.out | apply below_alloc | apply pw_below_drewN | apply below_drew1) | exact HB.out))) : w.heap.size ≤ gb101)); have n3_ := Aside0.mk ((by rw [hg]; exact (below_size (by repeat (first | (with_reducible first | exact HB.out | apply below_alloc | apply pw_below_drewN | apply below_drew1) | exact HB.out))) : w.heap.size ≤ gb101)); clear HB; have HB := n0_; have BK101 := n1_; have GW101 := n2_; have GE101 := n3_; clear n0_ n1_ n2_ n3_; clear hb hbox hg; have hcz7_0 : w6.cell? ⟨gb101, 0, none⟩ = some (.int .i64 a0_0) := (blk_cell BK101.out 0).trans rfl; have hcz7_1 : w6.cell? ⟨gb101, 1, none⟩ = some (.int .i64 a0_1) := (blk_cell BK101.out 1).trans rfl; have hfz7_0 := blk_frozen BK101.out 0; have hfz7_1 := blk_frozen BK101.out 1))
      go_ret
      exact ⟨by first | rfl | (simp [errW_none, errW_some] <;> rfl) | (simp [*, errW_none, errW_some] <;> rfl), by repeat (first | (with_reducible first | exact HB.out | apply below_alloc | apply pw_below_drewN | apply below_drew1 | refine below_set ?_ GE101.out) | exact HB.out)⟩
    · rw [if_neg c5] at H
      have c5b0 : decide (4294967296 < a0_1) = false := decide_eq_false c5
      clear c5
      by_cases c8 : a0_0 < 0
      · rw [if_pos c8] at H
        have c8b0 : decide (a0_0 < 0) = true := decide_eq_true c8
        clear c8
        obtain rfl := Option.some.inj H
        go_enter Try.func10, Try.ntmps10
        go_wp2_with (first | ((with_reducible refine gate_dst (N := 1) rfl ?_); refine box_event ?hg (N := 1) ?hd (cs := #[.int .i64 a0_0, .int .i64 a0_1]) (t := 23) ?hr ?_; (case hd => rfl); (case hg => rfl); (case hr => first | (go_simp; done) | (go_simp; rfl)); intro gb101 hg w9 hbox hb; have n0_ := Aside0.mk (below_step (by repeat (first | (with_reducible first | exact HB.out | apply below_alloc | apply pw_below_drewN | apply below_drew1) | exact HB.out)) hb); have n1_ := Aside0.mk (hbox); have n2_ := Aside0.mk ((by rw [hg]; exact (below_size (by repeat (first | (with_reducible first | exact HB.out | apply below_alloc | apply pw_below_drewN | apply below_drew1) | exact HB.out))) : w.heap.size ≤ gb101)); have n3_ := Aside0.mk ((by rw [hg]; exact (below_size (by repeat (first | (with_reducible first | exact HB.out | apply below_alloc | apply pw_below_drewN | apply below_drew1) | exact HB.out))) : w.heap.size ≤ gb101)); clear HB; have HB := n0_; have BK101 := n1_; have GW101 := n2_; have GE101 := n3_; clear n0_ n1_ n2_ n3_; clear hb hbox hg; have hcz10_0 : w9.cell? ⟨gb101, 0, none⟩ = some (.int .i64 a0_0) := (blk_cell BK101.out 0).trans rfl; have hcz10_1 : w9.cell? ⟨gb101, 1, none⟩ = some (.int .i64 a0_1) := (blk_cell BK101.out 1).trans rfl; have hfz10_0 := blk_frozen BK101.out 0; have hfz10_1 := blk_frozen BK101.out 1))
        go_ret
        exact ⟨by first | rfl | (simp [errW_none, errW_some] <;> rfl) | (simp [*, errW_none, errW_some] <;> rfl), by repeat (first | (with_reducible first | exact HB.out | apply below_alloc | apply pw_below_drewN | apply below_drew1 | refine below_set ?_ GE101.out) | exact HB.out)⟩
      · rw [if_neg c8] at H
        have c8b0 : decide (a0_0 < 0) = false := decide_eq_false c8
        clear c8
        by_cases c11 : a0_0 ≥ a0_1
        · rw [if_pos c11] at H
          have c11b0 : decide (a0_1 ≤ a0_0) = true := decide_eq_true c11
          clear c11
          obtain rfl := Option.some.inj H
          go_enter Try.func10, Try.ntmps10
          go_wp2_with (first | ((with_reducible refine gate_dst (N := 1) rfl ?_); refine box_event ?hg (N := 1) ?hd (cs := #[.int .i64 a0_0, .int .i64 a0_1]) (t := 23) ?hr ?_; (case hd => rfl); (case hg => rfl); (case hr => first | (go_simp; done) | (go_simp; rfl)); intro gb101 hg w12 hbox hb; have n0_ := Aside0.mk (below_step (by repeat (first | (with_reducible first | exact HB.out | apply below_alloc | apply pw_below_drewN | apply below_drew1) | exact HB.out)) hb); have n1_ := Aside0.mk (hbox); have n2_ := Aside0.mk ((by rw [hg]; exact (below_size (by repeat (first | (with_reducible first | exact HB.out | apply below_alloc | apply pw_below_drewN | apply below_drew1) | exact HB.out))) : w.heap.size ≤ gb101)); have n3_ := Aside0.mk ((by rw [hg]; exact (below_size (by repeat (first | (with_reducible first | exact HB.out | apply below_alloc | apply pw_below_drewN | apply below_drew1) | exact HB.out))) : w.heap.size ≤ gb101)); clear HB; have HB := n0_; have BK101 := n1_; have GW101 := n2_; have GE101 := n3_; clear n0_ n1_ n2_ n3_; clear hb hbox hg; have hcz13_0 : w12.cell? ⟨gb101, 0, none⟩ = some (.int .i64 a0_0) := (blk_cell BK101.out 0).trans rfl; have hcz13_1 : w12.cell? ⟨gb101, 1, none⟩ = some (.int .i64 a0_1) := (blk_cell BK101.out 1).trans rfl; have hfz13_0 := blk_frozen BK101.out 0; have hfz13_1 := blk_frozen BK101.out 1))
          go_ret
          exact ⟨by first | rfl | (simp [errW_none, errW_some] <;> rfl) | (simp [*, errW_none, errW_some] <;> rfl), by repeat (first | (with_reducible first | exact HB.out | apply below_alloc | apply pw_below_drewN | apply below_drew1 | refine below_set ?_ GE101.out) | exact HB.out)⟩
        · rw [if_neg c11] at H
          have c11b0 : decide (a0_1 ≤ a0_0) = false := decide_eq_false c11
          clear c11
          replace H := Option.bind_eq_some_iff.mp H
          obtain ⟨t102, A140, H⟩ := H
          replace H : (if t102 = 1 then (some 0) else (some 180)) = some r := H
          have A14 := Aside0.mk A140
          clear A140
          by_cases c15 : t102 = 1
          · rw [if_pos c15] at H
            have c15b0 : (t102 == 1) = true := beq_iff_eq.mpr c15
            have c15b1 : (t102 != 1) = false := bne_eq_false_iff_eq.mpr c15
            clear c15
            obtain rfl := Option.some.inj H
            go_enter Try.func10, Try.ntmps10
            go_wp2_with (first | ((with_reducible refine gate_dst (N := 1) rfl ?_); refine box_event ?hg (N := 1) ?hd (cs := #[.int .i64 a0_0, .int .i64 a0_1]) (t := 23) ?hr ?_; (case hd => rfl); (case hg => rfl); (case hr => first | (go_simp; done) | (go_simp; rfl)); intro gb101 hg w16 hbox hb; have n0_ := Aside0.mk (below_step (by repeat (first | (with_reducible first | exact HB.out | apply below_alloc | apply pw_below_drewN | apply below_drew1) | exact HB.out)) hb); have n1_ := Aside0.mk (hbox); have n2_ := Aside0.mk ((by rw [hg]; exact (below_size (by repeat (first | (with_reducible first | exact HB.out | apply below_alloc | apply pw_below_drewN | apply below_drew1) | exact HB.out))) : w.heap.size ≤ gb101)); have n3_ := Aside0.mk ((by rw [hg]; exact (below_size (by repeat (first | (with_reducible first | exact HB.out | apply below_alloc | apply pw_below_drewN | apply below_drew1) | exact HB.out))) : w.heap.size ≤ gb101)); clear HB; have HB := n0_; have BK101 := n1_; have GW101 := n2_; have GE101 := n3_; clear n0_ n1_ n2_ n3_; clear hb hbox hg; have hcz17_0 : w16.cell? ⟨gb101, 0, none⟩ = some (.int .i64 a0_0) := (blk_cell BK101.out 0).trans rfl; have hcz17_1 : w16.cell? ⟨gb101, 1, none⟩ = some (.int .i64 a0_1) := (blk_cell BK101.out 1).trans rfl; have hfz17_0 := blk_frozen BK101.out 0; have hfz17_1 := blk_frozen BK101.out 1) | (go_at_call 19; (with_reducible refine (turn_common.calls k a0_1 a0_0 t102 _ A14.out).mono ?_); rintro e w' ⟨rfl, ⟨nd, rfl⟩⟩))
            go_ret
            exact ⟨by first | rfl | (simp [errW_none, errW_some] <;> rfl) | (simp [*, errW_none, errW_some] <;> rfl), by repeat (first | (with_reducible first | exact HB.out | apply below_alloc | apply pw_below_drewN | apply below_drew1 | refine below_set ?_ GE101.out) | exact HB.out)⟩
          · rw [if_neg c15] at H
            have c15b0 : (t102 == 1) = false := beq_eq_false_iff_ne.mpr c15
            have c15b1 : (t102 != 1) = true := bne_iff_ne.mpr c15
            obtain rfl := Option.some.inj H
            go_enter Try.func10, Try.ntmps10
            go_wp2_with (first | ((with_reducible refine gate_dst (N := 1) rfl ?_); refine box_event ?hg (N := 1) ?hd (cs := #[.int .i64 a0_0, .int .i64 a0_1]) (t := 23) ?hr ?_; (case hd => rfl); (case hg => rfl); (case hr => first | (go_simp; done) | (go_simp; rfl)); intro gb101 hg w18 hbox hb; have n0_ := Aside0.mk (below_step (by repeat (first | (with_reducible first | exact HB.out | apply below_alloc | apply pw_below_drewN | apply below_drew1) | exact HB.out)) hb); have n1_ := Aside0.mk (hbox); have n2_ := Aside0.mk ((by rw [hg]; exact (below_size (by repeat (first | (with_reducible first | exact HB.out | apply below_alloc | apply pw_below_drewN | apply below_drew1) | exact HB.out))) : w.heap.size ≤ gb101)); have n3_ := Aside0.mk ((by rw [hg]; exact (below_size (by repeat (first | (with_reducible first | exact HB.out | apply below_alloc | apply pw_below_drewN | apply below_drew1) | exact HB.out))) : w.heap.size ≤ gb101)); clear HB; have HB := n0_; have BK101 := n1_; have GW101 := n2_; have GE101 := n3_; clear n0_ n1_ n2_ n3_; clear hb hbox hg; have hcz19_0 : w18.cell? ⟨gb101, 0, none⟩ = some (.int .i64 a0_0) := (blk_cell BK101.out 0).trans rfl; have hcz19_1 : w18.cell? ⟨gb101, 1, none⟩ = some (.int .i64 a0_1) := (blk_cell BK101.out 1).trans rfl; have hfz19_0 := blk_frozen BK101.out 0; have hfz19_1 := blk_frozen BK101.out 1) | (go_at_call 19; (with_reducible refine (turn_common.calls k a0_1 a0_0 t102 _ A14.out).mono ?_); rintro e w' ⟨rfl, ⟨nd, rfl⟩⟩))
            go_ret
            exact ⟨by first | rfl | (simp [errW_none, errW_some] <;> rfl) | (simp [*, errW_none, errW_some] <;> rfl), by repeat (first | (with_reducible first | exact HB.out | apply below_alloc | apply pw_below_drewN | apply below_drew1 | refine below_set ?_ GE101.out) | exact HB.out)⟩

/-! ### turn_Root: function 5 (given) -/
section
theorem unary_negf (k : FloatKind) (n : Nat) : Op.unary .neg (.float k n) = pure (.float k (Op.negFloat k n)) := rfl
attribute [local go_sem] unary_negf
def turn_over.v (x : Nat) : Option Nat := if (FloatKind.f64.format.order x 0 == some .lt) = true then floatBits .quo .f64 13830554455654793216 (Op.negFloat .f64 x) else floatBits .quo .f64 4607182418800017408 x
theorem turn_over.calls (x r : Nat) (w : World) (h : turn_over.v x = some r) : Calls Try.prog 20 #[.float .f64 x] w fun e w' => e = .returned (.float .f64 r) ∧ w = w' := by
  unfold turn_over.v at h
  by_cases h0 : (FloatKind.f64.format.order x 0 == some .lt) = true
  · rw [if_pos h0] at h
    have H : ∀ w, (binOp BinOp.quo 29 (Value.float FloatKind.f64 13830554455654793216) (Value.float FloatKind.f64 (Op.negFloat .f64 x))).run Try.prog w = .ok (.float .f64 r) w := fun w => run_float_arith w _ _ _ _ _ _ h
    clear h
    go_enter Try.func20, Try.ntmps20
    go_wp2
    go_ret
    exact ⟨rfl, rfl⟩
  · have h0 : (FloatKind.f64.format.order x 0 == some .lt) = false := by simpa using h0
    rw [if_neg (by simp [h0])] at h
    have H : ∀ w, (binOp BinOp.quo 29 (Value.float FloatKind.f64 4607182418800017408) (Value.float FloatKind.f64 x)).run Try.prog w = .ok (.float .f64 r) w := fun w => run_float_arith w _ _ _ _ _ _ h
    clear h
    go_enter Try.func20, Try.ntmps20
    go_wp2
    go_ret
    exact ⟨rfl, rfl⟩
/-- from a place on: the rest of the series -/
def turn_series.go (q : Nat) : List Nat → Nat → Option Nat
  | [], h => some h
  | x :: t, h => (floatBits .mul .f64 h q).bind fun m => (turn_over.v x).bind fun o => (floatBits .add .f64 m o).bind fun s => turn_series.go q t s
def turn_series.v (l : List Nat) (q : Nat) : Option Nat := match l with
  | [] => none
  | a :: t => (turn_over.v a).bind fun h => turn_series.go q t h
theorem turn_series.go_at (q : Nat) (l : List Nat) (k h r : Nat) (hk : k < l.length) (H : turn_series.go q (l.drop k) h = some r) :
    ∃ m o s, floatBits .mul .f64 h q = some m ∧ turn_over.v (l.getD k 0) = some o ∧ floatBits .add .f64 m o = some s ∧ turn_series.go q (l.drop (k + 1)) s = some r := by
  rw [List.drop_eq_getElem_cons hk] at H
  unfold turn_series.go at H
  obtain ⟨m, hm, H⟩ := Option.bind_eq_some_iff.mp H
  obtain ⟨o, ho, H⟩ := Option.bind_eq_some_iff.mp H
  obtain ⟨s, hs, H⟩ := Option.bind_eq_some_iff.mp H
  refine ⟨m, o, s, hm, ?_, hs, H⟩
  rw [List.getD_eq_getElem?_getD, List.getElem?_eq_getElem hk]; exact ho
set_option maxHeartbeats 1000000 in
theorem turn_series.calls (l : List Nat) (q r b : Nat) (w : World) (hl : l.length ≤ 100) (hl2 : 2 ≤ l.length) (hc : ∀ i, i < l.length → w.cell? ⟨b, i, none⟩ = some (.float .f64 (l.getD i 0))) (h : turn_series.v l q = some r) :
    Calls Try.prog 14 #[.slice (some ⟨b, 0, none⟩) l.length l.length, .float .f64 q] w fun e w' => e = .returned (.float .f64 r) ∧ w = w' := by
  cases l with
  | nil => cases h
  | cons a t =>
    unfold turn_series.v at h
    obtain ⟨h0, ho, h⟩ := Option.bind_eq_some_iff.mp h
    have c0 : w.cell? ⟨b, 0, none⟩ = some (.float .f64 a) := hc 0 (by simp)
    have HC := GB.hid hc
    have HO := GB.hid ho
    have H := GB.hid h
    simp only [List.length_cons] at hl hl2 ⊢
    obtain ⟨n, hn⟩ : ∃ n, n = t.length := ⟨_, rfl⟩
    rw [← hn] at hl hl2 ⊢
    have n1 : 0 < n := by omega
    have n2 : (n = 0) = False := eq_false (by omega)
    have HN := GB.hid hn
    clear hc ho h hn
    go_enter Try.func14, Try.ntmps14
    go_wp2_with fail
    refine (turn_over.calls a h0 _ HO.out).mono ?_
    rintro e w' ⟨rfl, rfl⟩
    go_wp2
    go_loop [5, 15] (fun hv i => ∃ (k s : Nat), k ≤ n ∧ i = .int .i64 k ∧ hv = .float .f64 s ∧ Hid (turn_series.go q (t.drop k) s = some r)) (fun _ i => n - (intOf i).toNat)
    case atStart => exact ⟨0, h0, by omega, rfl, rfl, by simpa using H⟩
    case round =>
      obtain ⟨k, s, hk, rfl, rfl, HS⟩ := hrel
      by_cases hlt : k < n
      · obtain ⟨m, o, s', hm, ho, hs, hgo⟩ := turn_series.go_at q t k s r (by rw [← HN.out]; exact hlt) HS.out
        have c1 : w.cell? ⟨b, 1 + k, none⟩ = some (.float .f64 (t.getD k 0)) := by
          have := HC.out (k + 1) (by simp; rw [← HN.out]; omega)
          rw [Nat.add_comm 1 k, this]; simp
        have HM : ∀ w, (binOp BinOp.mul 29 (Value.float FloatKind.f64 s) (Value.float FloatKind.f64 q)).run Try.prog w = .ok (.float .f64 m) w := fun w => run_float_arith w _ _ _ _ _ _ hm
        have HA : ∀ w, (binOp BinOp.add 29 (Value.float FloatKind.f64 m) (Value.float FloatKind.f64 o)).run Try.prog w = .ok (.float .f64 s') w := fun w => run_float_arith w _ _ _ _ _ _ hs
        have HO2 := GB.hid ho
        have HG := GB.hid hgo
        clear hm ho hs hgo
        go_wp2_with fail
        refine (turn_over.calls _ o _ HO2.out).mono ?_
        rintro e w' ⟨rfl, rfl⟩
        go_wp2
        go_round
        case rel => exact ⟨k + 1, s', by omega, by go_num, rfl, HG⟩
        case measure => simp [intOf]; omega
      · have hk' : k = n := by omega
        subst hk'
        have HS' : turn_series.go q (t.drop k) s = some r := HS.out
        rw [HN.out, List.drop_length] at HS'
        have e1 : s = r := by simpa [turn_series.go] using HS'
        subst e1
        clear HS' HS
        go_wp2
        go_ret
        exact ⟨rfl, rfl⟩
theorem run_store_float {P : Program} {w : World} {m : Mode} (a : Addr) (k : FloatKind) (n : Nat) : (store a (.float k n) m).run P w = stored P w a (.float k n) m := run_store P w a _ m rfl
attribute [local go_sem] run_store_float
theorem fl_frombits (n : Nat) (w : World) : (callFunc 11 #[.int .u64 n]).run Try.prog w = .ok (.value (.float .f64 n)) w := by
  rw [run_callFunc_extern (fn := Try.f11) (by kernel_rfl) (by kernel_rfl) (by kernel_rfl) (by kernel_rfl) (e := Extern.MathFloatBits.float64frombits) (by kernel_rfl)]
  rfl
def turn_sines.l : List Nat := [14011551075333570560, 4753323511810883584, 13943998388916715520, 4689977843394805760, 13885635590159859712, 4638144666238189568, 13841813454723219456]
def turn_cosines.l : List Nat := [4806193436988276736, 13993893759104843776, 4736815922046566400, 13928419236864065536, 4675774352187195392, 13872916439649746944, 4627448617123184640, 13835058055282163712]
set_option maxHeartbeats 1000000 in
theorem turn_sines.calls (w : World) : Calls Try.prog 12 #[] w fun e w' => e = .returned (.agg #[.float .f64 14011551075333570560, .float .f64 4753323511810883584, .float .f64 13943998388916715520, .float .f64 4689977843394805760, .float .f64 13885635590159859712, .float .f64 4638144666238189568, .float .f64 13841813454723219456]) ∧ Below w.heap.size w w' := by
  have h43 := Try.underlying40
  go_enter Try.func12, Try.ntmps12
  go_wp2
  refine bodyPost_ret (v := .agg #[.float .f64 14011551075333570560, .float .f64 4753323511810883584, .float .f64 13943998388916715520, .float .f64 4689977843394805760, .float .f64 13885635590159859712, .float .f64 4638144666238189568, .float .f64 13841813454723219456]) (by simp [results, Try.results12, go_sem, h43]) rfl ⟨rfl, ?_⟩
  repeat (first | exact GB.bl0 _ | apply GB.bla | refine GB.blset ?_ (by omega) _ _)
set_option maxHeartbeats 1000000 in
theorem turn_cosines.calls (w : World) : Calls Try.prog 13 #[] w fun e w' => e = .returned (.agg #[.float .f64 4806193436988276736, .float .f64 13993893759104843776, .float .f64 4736815922046566400, .float .f64 13928419236864065536, .float .f64 4675774352187195392, .float .f64 13872916439649746944, .float .f64 4627448617123184640, .float .f64 13835058055282163712]) ∧ Below w.heap.size w w' := by
  have h45 := Try.underlying42
  go_enter Try.func13, Try.ntmps13
  go_wp2
  refine bodyPost_ret (v := .agg #[.float .f64 4806193436988276736, .float .f64 13993893759104843776, .float .f64 4736815922046566400, .float .f64 13928419236864065536, .float .f64 4675774352187195392, .float .f64 13872916439649746944, .float .f64 4627448617123184640, .float .f64 13835058055282163712]) (by simp [results, Try.results13, go_sem, h45]) rfl ⟨rfl, ?_⟩
  repeat (first | exact GB.bl0 _ | apply GB.bla | refine GB.blset ?_ (by omega) _ _)
def turn_plus.v (x : Nat) : Nat := if (FloatKind.f64.format.order x 0 == some .eq) = true then 0 else x
theorem turn_plus.calls (x : Nat) (w : World) : Calls Try.prog 21 #[.float .f64 x] w fun e w' => e = .returned (.float .f64 (turn_plus.v x)) ∧ w = w' := by
  unfold turn_plus.v
  by_cases h0 : (FloatKind.f64.format.order x 0 == some .eq) = true
  · rw [if_pos h0]
    go_enter Try.func21, Try.ntmps21
    go_wp2
    go_ret
    exact ⟨rfl, rfl⟩
  · rw [if_neg h0]
    have h1 : (FloatKind.f64.format.order x 0 == some .eq) = false := by simpa using h0
    clear h0
    go_enter Try.func21, Try.ntmps21
    go_wp2
    go_ret
    exact ⟨rfl, rfl⟩
def turn_placed.v (e : Int) (s c : Nat) : Nat × Nat :=
  if e = 1 then (s, c) else if e = 2 then (Op.negFloat .f64 s, c) else if e = 3 then (Op.negFloat .f64 c, s) else if e = 4 then (Op.negFloat .f64 c, Op.negFloat .f64 s)
  else if e = 5 then (Op.negFloat .f64 s, Op.negFloat .f64 c) else if e = 6 then (s, Op.negFloat .f64 c) else if e = 7 then (c, Op.negFloat .f64 s) else (c, s)
set_option maxHeartbeats 2000000 in
theorem turn_placed.calls (e : Int) (s c : Nat) (w : World) (h0 : 0 ≤ e) (h7 : e ≤ 7) : Calls Try.prog 15 #[.int .i64 e, .float .f64 s, .float .f64 c] w fun e' w' => e' = .returned (.complex .f64 (turn_plus.v (turn_placed.v e s c).1) (turn_plus.v (turn_placed.v e s c).2)) ∧ w = w' := by
  have he : e = 0 ∨ e = 1 ∨ e = 2 ∨ e = 3 ∨ e = 4 ∨ e = 5 ∨ e = 6 ∨ e = 7 := by omega
  rcases he with rfl | rfl | rfl | rfl | rfl | rfl | rfl | rfl
  all_goals
    clear h0 h7
    simp (config := {decide := true}) only [turn_placed.v, if_true, if_false]
    go_enter Try.func15, Try.ntmps15
    go_wp2_with fail
    refine (turn_plus.calls _ _).mono ?_
    rintro e' w' ⟨rfl, rfl⟩
    go_wp2_with fail
    refine (turn_plus.calls _ _).mono ?_
    rintro e' w' ⟨rfl, rfl⟩
    go_wp2
    go_ret
    exact ⟨rfl, rfl⟩
theorem fl_cells {w : World} {g t : Nat} {l : List Nat} (h : GB.Blk w g t (l.map (Value.float .f64))) : ∀ i, i < l.length → w.cell? ⟨g, i, none⟩ = some (.float .f64 (l.getD i 0)) := fun i hi =>
  h.cell i (by simp [List.getElem?_eq_getElem hi, List.getD_eq_getElem?_getD])
def turn_Root.fl (e a u : Int) : Option (Nat × Nat) :=
  (floatBits .quo .f64 (floatOfInt .f64 a) (floatOfInt .f64 u)).bind fun f =>
  (floatBits .mul .f64 f 4605249457297304856).bind fun y =>
  (floatBits .mul .f64 y y).bind fun q =>
  (floatBits .mul .f64 y q).bind fun yq =>
  (turn_series.v turn_sines.l q).bind fun S =>
  (floatBits .mul .f64 yq S).bind fun t =>
  (floatBits .add .f64 y t).bind fun s =>
  (turn_series.v turn_cosines.l q).bind fun C =>
  (floatBits .mul .f64 q C).bind fun m =>
  (floatBits .add .f64 4607182418800017408 m).bind fun c => some (turn_plus.v (turn_placed.v e s c).1, turn_plus.v (turn_placed.v e s c).2)
set_option maxHeartbeats 4000000 in
set_option maxRecDepth 100000 in
theorem turn_Root.fine (k : Nat) (p u e a a0 : Int) (x y : Nat) (w : World) (h0 : turn_Check.f k p u = some 0) (p0 : 0 ≤ p) (p1 : p < u) (u1 : u ≤ 4294967296)
    (he : 8 * p / u = e) (ha0 : 8 * p % u = a0) (ha : a = if e % 2 = 1 then u - a0 else a0) (h : turn_Root.fl e a u = some (x, y)) :
    Calls Try.prog 5 #[.agg #[.int .i64 p, .int .i64 u]] w fun e' w' => e' = .returned (.tuple #[.complex .f64 x y, .int .i64 0]) ∧ Below w.heap.size w w' := by
  have e0 : 0 ≤ e := by rw [← he]; exact Int.ediv_nonneg (by omega) (by omega)
  have e7 : e ≤ 7 := by
    rw [← he]
    have : 8 * p / u < 8 := Int.ediv_lt_of_lt_mul (by omega) (by omega)
    omega
  have a00 : 0 ≤ a0 := by rw [← ha0]; exact Int.emod_nonneg _ (by omega)
  have a01 : a0 < u := by rw [← ha0]; exact Int.emod_lt_of_pos _ (by omega)
  have h29 := Try.underlying29
  have h2 := Try.underlying2
  have h43 := Try.underlying40
  have h45 := Try.underlying42
  unfold turn_Root.fl at h
  obtain ⟨f, hf, h⟩ := Option.bind_eq_some_iff.mp h
  obtain ⟨y', hy, h⟩ := Option.bind_eq_some_iff.mp h
  obtain ⟨q, hq, h⟩ := Option.bind_eq_some_iff.mp h
  obtain ⟨yq, hyq, h⟩ := Option.bind_eq_some_iff.mp h
  obtain ⟨S, hS, h⟩ := Option.bind_eq_some_iff.mp h
  obtain ⟨t, ht, h⟩ := Option.bind_eq_some_iff.mp h
  obtain ⟨s, hs, h⟩ := Option.bind_eq_some_iff.mp h
  obtain ⟨C, hC, h⟩ := Option.bind_eq_some_iff.mp h
  obtain ⟨m, hm, h⟩ := Option.bind_eq_some_iff.mp h
  obtain ⟨c, hc, h⟩ := Option.bind_eq_some_iff.mp h
  injection h with h
  injection h with hx hy2
  have F1 : ∀ w, (binOp BinOp.quo 29 (Value.float FloatKind.f64 (floatOfInt .f64 a)) (Value.float FloatKind.f64 (floatOfInt .f64 u))).run Try.prog w = .ok (.float .f64 f) w := fun w => run_float_arith w _ _ _ _ _ _ hf
  have F2 : ∀ w, (binOp BinOp.mul 29 (Value.float FloatKind.f64 f) (Value.float FloatKind.f64 4605249457297304856)).run Try.prog w = .ok (.float .f64 y') w := fun w => run_float_arith w _ _ _ _ _ _ hy
  have F3 : ∀ w, (binOp BinOp.mul 29 (Value.float FloatKind.f64 y') (Value.float FloatKind.f64 y')).run Try.prog w = .ok (.float .f64 q) w := fun w => run_float_arith w _ _ _ _ _ _ hq
  have F4 : ∀ w, (binOp BinOp.mul 29 (Value.float FloatKind.f64 y') (Value.float FloatKind.f64 q)).run Try.prog w = .ok (.float .f64 yq) w := fun w => run_float_arith w _ _ _ _ _ _ hyq
  have F5 : ∀ w, (binOp BinOp.mul 29 (Value.float FloatKind.f64 yq) (Value.float FloatKind.f64 S)).run Try.prog w = .ok (.float .f64 t) w := fun w => run_float_arith w _ _ _ _ _ _ ht
  have F6 : ∀ w, (binOp BinOp.add 29 (Value.float FloatKind.f64 y') (Value.float FloatKind.f64 t)).run Try.prog w = .ok (.float .f64 s) w := fun w => run_float_arith w _ _ _ _ _ _ hs
  have F7 : ∀ w, (binOp BinOp.mul 29 (Value.float FloatKind.f64 q) (Value.float FloatKind.f64 C)).run Try.prog w = .ok (.float .f64 m) w := fun w => run_float_arith w _ _ _ _ _ _ hm
  have F8 : ∀ w, (binOp BinOp.add 29 (Value.float FloatKind.f64 4607182418800017408) (Value.float FloatKind.f64 m)).run Try.prog w = .ok (.float .f64 c) w := fun w => run_float_arith w _ _ _ _ _ _ hc
  have HS := GB.hid hS
  have HC := GB.hid hC
  have HE := GB.hid he
  have HA0 := GB.hid ha0
  have HA := GB.hid ha
  have HX := GB.hid hx
  have HY := GB.hid hy2
  have H0 := GB.hid h0
  clear h0 hf hy hq hyq hS ht hs hC hm hc he ha0 ha hx hy2
  have E1 : IntKind.i64.wrap (8 * p) = 8 * p := IntWalk.i64_in _ (by omega)
  have E2 : IntKind.i64.wrap (Int.tdiv (8 * p) u) = e := by rw [Int.tdiv_eq_ediv_of_nonneg (by omega), HE.out]; exact IntWalk.i64_in _ (by omega)
  have E3 : Int.tmod (8 * p) u = a0 := by rw [Int.tmod_eq_emod_of_nonneg (by omega), HA0.out]
  have hfb : ∀ w, (callFunc 11 #[.int .u64 4605249457297304856]).run Try.prog w = .ok (.value (.float .f64 4605249457297304856)) w := fun w => by have := fl_frombits 4605249457297304856 w; simpa using this
  go_enter Try.func5, Try.ntmps5
  go_wp2_with fail
  refine (turn_Check.calls k _ _ _ _ H0.out).mono ?_
  rintro e' w1 ⟨rfl, hB⟩
  have K := GB.hid ((GB.Blk.new w 23 [.int .i64 p, .int .i64 u]).below hB)
  have HB := GB.hid (GB.bls (by repeat (first | exact GB.bl0 _ | apply GB.bla)) hB : Below w.heap.size w w1)
  clear hB
  have c0 := K.out.cell 0 rfl
  have c1 := K.out.cell 1 rfl
  go_wp2
  go_quiet (fail)
  by_cases h2e : e % 2 = 1
  · have b1 : (e % 2 == 1) = true := beq_iff_eq.2 h2e
    have HA' := HA.out
    rw [if_pos h2e] at HA'
    clear h2e
    have E4 : IntKind.i64.wrap (u - a0) = a := by rw [← HA']; exact IntWalk.i64_in _ (by omega)
    have a2 : 0 ≤ a := by omega
    have HA2 := GB.hid HA'
    clear HA'
    go_wp2_with fail
    refine (turn_sines.calls _).mono ?_
    rintro e' w2 ⟨rfl, hB⟩
    have HB := GB.hid (GB.bls (GB.bldN HB.out _) hB : Below w.heap.size w w2)
    clear hB
    go_wp2_with fail
    refine (turn_cosines.calls _).mono ?_
    rintro e' w3 ⟨rfl, hB⟩
    have HB := GB.hid (GB.bls HB.out hB : Below w.heap.size w w3)
    clear hB
    go_wp2_with fail
    have hs1 : ∀ i, i < turn_sines.l.length → ((w3.alloc (.cells (turn_sines.l.map (Value.float .f64)).toArray 40)).alloc (.cells (turn_cosines.l.map (Value.float .f64)).toArray 42)).cell? ⟨w3.heap.size, i, none⟩ = some (.float .f64 (turn_sines.l.getD i 0)) := fl_cells ((GB.Blk.new w3 40 (turn_sines.l.map (Value.float .f64))).alloc _)
    have hs2 : ∀ i, i < turn_cosines.l.length → ((w3.alloc (.cells (turn_sines.l.map (Value.float .f64)).toArray 40)).alloc (.cells (turn_cosines.l.map (Value.float .f64)).toArray 42)).cell? ⟨w3.heap.size + 1, i, none⟩ = some (.float .f64 (turn_cosines.l.getD i 0)) := by
      have := fl_cells (GB.Blk.new (w3.alloc (.cells (turn_sines.l.map (Value.float .f64)).toArray 40)) 42 (turn_cosines.l.map (Value.float .f64)))
      rw [World.size_alloc] at this
      exact this
    have HS1 := GB.hid hs1
    have HS2 := GB.hid hs2
    clear hs1 hs2
    refine (turn_series.calls turn_sines.l q S w3.heap.size _ (by decide) (by decide) HS1.out HS.out).mono ?_
    rintro e' w4 ⟨rfl, rfl⟩
    go_wp2_with fail
    refine (turn_series.calls turn_cosines.l q C (w3.heap.size + 1) _ (by decide) (by decide) HS2.out HC.out).mono ?_
    rintro e' w4 ⟨rfl, rfl⟩
    go_wp2_with fail
    refine (turn_placed.calls e s c _ e0 e7).mono ?_
    rintro e' w4 ⟨rfl, rfl⟩
    go_wp2
    go_ret2
    exact ⟨by rw [HX.out, HY.out]; rfl, by repeat (first | exact HB.out | apply GB.bla)⟩
  · have b1 : (e % 2 == 1) = false := beq_eq_false_iff_ne.2 h2e
    have HA' := HA.out
    rw [if_neg h2e] at HA'
    clear h2e
    clear HA
    subst HA'
    go_wp2_with fail
    refine (turn_sines.calls _).mono ?_
    rintro e' w2 ⟨rfl, hB⟩
    have HB := GB.hid (GB.bls (GB.bldN HB.out _) hB : Below w.heap.size w w2)
    clear hB
    go_wp2_with fail
    refine (turn_cosines.calls _).mono ?_
    rintro e' w3 ⟨rfl, hB⟩
    have HB := GB.hid (GB.bls HB.out hB : Below w.heap.size w w3)
    clear hB
    go_wp2_with fail
    have hs1 : ∀ i, i < turn_sines.l.length → ((w3.alloc (.cells (turn_sines.l.map (Value.float .f64)).toArray 40)).alloc (.cells (turn_cosines.l.map (Value.float .f64)).toArray 42)).cell? ⟨w3.heap.size, i, none⟩ = some (.float .f64 (turn_sines.l.getD i 0)) := fl_cells ((GB.Blk.new w3 40 (turn_sines.l.map (Value.float .f64))).alloc _)
    have hs2 : ∀ i, i < turn_cosines.l.length → ((w3.alloc (.cells (turn_sines.l.map (Value.float .f64)).toArray 40)).alloc (.cells (turn_cosines.l.map (Value.float .f64)).toArray 42)).cell? ⟨w3.heap.size + 1, i, none⟩ = some (.float .f64 (turn_cosines.l.getD i 0)) := by
      have := fl_cells (GB.Blk.new (w3.alloc (.cells (turn_sines.l.map (Value.float .f64)).toArray 40)) 42 (turn_cosines.l.map (Value.float .f64)))
      rw [World.size_alloc] at this
      exact this
    have HS1 := GB.hid hs1
    have HS2 := GB.hid hs2
    clear hs1 hs2
    refine (turn_series.calls turn_sines.l q S w3.heap.size _ (by decide) (by decide) HS1.out HS.out).mono ?_
    rintro e' w4 ⟨rfl, rfl⟩
    go_wp2_with fail
    refine (turn_series.calls turn_cosines.l q C (w3.heap.size + 1) _ (by decide) (by decide) HS2.out HC.out).mono ?_
    rintro e' w4 ⟨rfl, rfl⟩
    go_wp2_with fail
    refine (turn_placed.calls e s c _ e0 e7).mono ?_
    rintro e' w4 ⟨rfl, rfl⟩
    go_wp2
    go_ret2
    exact ⟨by rw [HX.out, HY.out]; rfl, by repeat (first | exact HB.out | apply GB.bla)⟩
set_option maxHeartbeats 1000000 in
theorem turn_Root.err (k : Nat) (p u e : Int) (w : World) (h0 : turn_Check.f k p u = some e) (he : e ≠ 0) :
    Calls Try.prog 5 #[.agg #[.int .i64 p, .int .i64 u]] w fun e' w' => e' = .returned (.tuple #[.complex .f64 0 0, .int .i64 e]) ∧ Below w.heap.size w w' := by
  have H0 := GB.hid h0
  have hb : (e != 0) = true := bne_iff_ne.2 he
  clear h0
  go_enter Try.func5, Try.ntmps5
  go_wp2_with fail
  refine (turn_Check.calls k _ _ _ _ H0.out).mono ?_
  rintro e' w1 ⟨rfl, hB⟩
  have HB := GB.hid (GB.bls (by repeat (first | exact GB.bl0 _ | apply GB.bla)) hB : Below w.heap.size w w1)
  clear hB
  go_wp2
  go_ret2
  exact ⟨rfl, by repeat (first | exact HB.out | apply GB.bla)⟩
end


/-! ### slackwaterkit_SameNumber: function 7 (given) -/
theorem same_float (a b : Nat) (w : World) (h : (FloatKind.f64.format.order a b == some .eq) = true) : Calls Try.prog 17 #[.float .f64 a, .float .f64 b] w fun e w' => e = .returned (.bool true) ∧ w = w' := by
  go_enter Try.func17, Try.ntmps17
  go_wp2
  go_ret
  exact ⟨rfl, rfl⟩
theorem same_number (a b c d : Nat) (w : World) (h : (FloatKind.f64.format.order a c == some .eq) = true) (h' : (FloatKind.f64.format.order b d == some .eq) = true) : Calls Try.prog 7 #[.complex .f64 a b, .complex .f64 c d] w fun e w' => e = .returned (.bool true) ∧ w = w' := by
  go_enter Try.func7, Try.ntmps7
  go_wp2_with fail
  refine (same_float a c _ h).mono ?_
  rintro e w' ⟨rfl, rfl⟩
  go_wp2_with fail
  refine (same_float b d _ h').mono ?_
  rintro e w' ⟨rfl, rfl⟩
  go_wp2
  go_ret
  exact ⟨rfl, rfl⟩


/-! ### turn_lowest: function 18 -/
def turn_lowest.l0 : Nat → Int → Int → Int → Int → Option (Int × Int × Int)
  | 0, _, _, _, _ => none
  | k + 1, x0, x1, x6, x7 => if x7 = 0 then (if x6 = 0 then (none) else (if (IntKind.u64.wrap (Int.tdiv x1 x6)) > 4294967296 then (some (0, 0, 3)) else (some (wrap64 (IntKind.u64.wrap (Int.tdiv x0 x6)), wrap64 (IntKind.u64.wrap (Int.tdiv x1 x6)), 0)))) else (turn_lowest.l0 k x0 x1 x7 (Int.tmod x6 x7))
def turn_lowest.f (k : Nat) (a0 : Int) (a1 : Int) : Option (Int × Int × Int) := turn_lowest.l0 k a0 a1 a1 a0
theorem turn_lowest.mono_l : ∀ k, (∀ y0 y1 y2 y3, LeO (turn_lowest.l0 k y0 y1 y2 y3) (turn_lowest.l0 (k + 1) y0 y1 y2 y3))
  | 0 => fun _ _ _ _ r h => by simp [turn_lowest.l0] at h
  | k + 1 => by
    have ih0 := turn_lowest.mono_l k
    · intro y0 y1 y2 y3
      unfold turn_lowest.l0
      repeat' first
      | (with_reducible exact ih0 _ _ _ _)
      | (with_reducible exact LeO.refl _)
      | (with_reducible exact LeO.none _)
      | (with_reducible refine LeO.ite ?_ ?_)
      | (with_reducible refine LeO.bind ?_ (fun _ => ?_))
      | exact ih0 _ _ _ _
      | exact LeO.none _
      | refine LeO.ite ?_ ?_
      | refine LeO.bind ?_ (fun _ => ?_)
theorem turn_lowest.mono : ∀ a0 a1 k, LeO (turn_lowest.f k a0 a1) (turn_lowest.f (k + 1) a0 a1) := by
  intro a0 a1 k
  have ih0 := turn_lowest.mono_l k
  unfold turn_lowest.f
  repeat' first
      | (with_reducible exact ih0 _ _ _ _)
      | (with_reducible exact LeO.refl _)
      | (with_reducible exact LeO.none _)
      | (with_reducible refine LeO.ite ?_ ?_)
      | (with_reducible refine LeO.bind ?_ (fun _ => ?_))
      | exact ih0 _ _ _ _
      | exact LeO.none _
      | refine LeO.ite ?_ ?_
      | refine LeO.bind ?_ (fun _ => ?_)
def turn_lowest.T6 : Bool × List (List Nat × List Nat) := (true, [([], []), ([], []), ([0, 1], [0, 1]), ([2], [2]), ([], []), ([], []), ([4, 5], [4, 5]), ([6], [6]), ([3, 7], [3, 7]), ([8, 0, 1, 2, 3, 4, 5, 6, 7, 8], [8]), ([9, 0, 1, 2, 3, 4, 5, 6, 7, 8, 9], [])])
def turn_lowest.B6 : List Nat := [0, 0, 3, 7, 0, 0, 48, 112, 255, 511, 1023]
theorem turn_lowest.tab6 : rtab .any (opsOf Try.f18 6) = turn_lowest.T6 := by kernel_rfl
theorem turn_lowest.bits6 : waitsOk turn_lowest.T6.2 turn_lowest.B6 = true := by kernel_rfl
set_option maxHeartbeats 8000000 in
set_option maxRecDepth 100000 in
theorem turn_lowest.calls (k : Nat) (a0 : Int) (a1 : Int) (r1 : Int) (r2 : Int) (r3 : Int) (w : World) (h : turn_lowest.f k a0 a1 = some (r1, r2, r3)) :
    Calls Try.prog 18 #[.int .u64 a0, .int .u64 a1] w fun e w' => e = .returned (.tuple #[.agg #[.int .i64 r1, .int .i64 r2], .int .i64 r3]) ∧ Below w.heap.size w w' := by
  have hu23 := Try.underlying23
  have HB := Aside0.mk (Below.refl w.heap.size w)
  have H : (turn_lowest.l0 k a0 a1 a1 a0) = some (r1, r2, r3) := h
  clear h
  have H' := Aside0.mk H
  clear H
  go_enter Try.func18, Try.ntmps18
  go_wp2_with (first | ((with_reducible refine gate_dst (N := 4) rfl ?_); refine box_event ?hg (N := 4) ?hd (cs := #[.int .i64 0, .int .i64 0]) (t := 23) ?hr ?_; (case hd => rfl); (case hg => rfl); (case hr => first | (go_simp; done) | (go_simp; rfl)); intro gb103 hg w3 hbox hb; have n0_ := Aside0.mk (below_step (by repeat (first | (with_reducible first | exact HB.out | apply below_alloc | apply pw_below_drewN | apply below_drew1) | exact HB.out)) hb); have n1_ := Aside0.mk (hbox); have n2_ := Aside0.mk ((by rw [hg]; exact (below_size (by repeat (first | (with_reducible first | exact HB.out | apply below_alloc | apply pw_below_drewN | apply below_drew1) | exact HB.out))) : w.heap.size ≤ gb103)); have n3_ := Aside0.mk ((by rw [hg]; exact (below_size (by repeat (first | (with_reducible first | exact HB.out | apply below_alloc | apply pw_below_drewN | apply below_drew1) | exact HB.out))) : w.heap.size ≤ gb103)); clear HB; have HB := n0_; have BK103 := n1_; have GW103 := n2_; have GE103 := n3_; clear n0_ n1_ n2_ n3_; clear hb hbox hg))
  go_loopg [6, 7] k (fun kq v6 v7 w' => ∃ (x6_1 : Int) (x7_1 : Int), v6 = .int .u64 x6_1 ∧ v7 = .int .u64 x7_1 ∧ Aside0 (turn_lowest.l0 kq a0 a1 x6_1 x7_1 = some (r1, r2, r3)) ∧ Aside0 (kq ≤ k) ∧ Aside0 (w'.heap[gb103]? = some (.cells #[.int .i64 0, .int .i64 0] 23 (0, 0))) ∧ Aside0 (Below w.heap.size w w'))
  case atStart => exact ⟨(a1), (a0), (by first | rfl | (simp; done) | (simp [*]; done)), (by first | rfl | (simp; done) | (simp [*]; done)), H', ⟨Nat.le_refl _⟩, ⟨by (with_reducible repeat (first | refine blk_drewN ?_ _ | refine blk_drew ?_ | refine blk_alloc ?_ _)); exact BK103.out⟩, ⟨by repeat (first | (with_reducible first | exact HB.out | apply below_alloc | apply pw_below_drewN | apply below_drew1 | refine below_set ?_ GE103.out) | exact HB.out)⟩⟩
  case round =>
    clear H'
    try clear c1
    try clear p2
    obtain ⟨x6_1, x7_1, rfl, rfl, HA, HK1, BK103, HB⟩ := hrel
    cases gk with
    | zero => exact absurd HA.out (by simp [turn_lowest.l0])
    | succ k1 =>
      have H := HA.out
      clear HA
      simp only [turn_lowest.l0] at H
      by_cases c4 : x7_1 = 0
      · rw [if_pos c4] at H
        have c4b0 : (x7_1 == 0) = true := beq_iff_eq.mpr c4
        have c4b1 : (x7_1 != 0) = false := bne_eq_false_iff_eq.mpr c4
        clear c4
        by_cases c5 : x6_1 = 0
        · rw [if_pos c5] at H
          exact absurd H (by simp)
        · rw [if_neg c5] at H
          have c5b0 : (x6_1 == 0) = false := beq_eq_false_iff_ne.mpr c5
          have c5b1 : (x6_1 != 0) = true := bne_iff_ne.mpr c5
          by_cases c6 : (IntKind.u64.wrap (Int.tdiv a1 x6_1)) > 4294967296
          · rw [if_pos c6] at H
            have c6b0 : decide (4294967296 < (IntKind.u64.wrap (Int.tdiv a1 x6_1))) = true := decide_eq_true c6
            clear c6
            simp only [Option.some.injEq, Prod.mk.injEq] at H
            obtain ⟨rfl, rfl, rfl⟩ := H
            have hcz7_0 : wr.cell? ⟨gb103, 0, none⟩ = some (.int .i64 0) := (blk_cell BK103.out 0).trans rfl
            have hcz7_1 : wr.cell? ⟨gb103, 1, none⟩ = some (.int .i64 0) := (blk_cell BK103.out 1).trans rfl
            have hfz7_0 := blk_frozen BK103.out 0
            have hfz7_1 := blk_frozen BK103.out 1
            go_wp2
            refine bodyPost_ret (results_ct rfl _ _ gb103 23 #[.int .i64 0, .int .i64 0] (0, 0) _ rfl (by (with_reducible repeat (first | refine blk_drewN ?_ _ | refine blk_drew ?_ | refine blk_alloc ?_ _)); refine blk_put (cs := #[.int .i64 0, .int .i64 0]) ?_ 1 _ rfl; (with_reducible repeat (first | refine blk_drewN ?_ _ | refine blk_drew ?_ | refine blk_alloc ?_ _)); refine blk_put (cs := #[.int .i64 0, .int .i64 0]) ?_ 0 _ rfl; (with_reducible repeat (first | refine blk_drewN ?_ _ | refine blk_drew ?_ | refine blk_alloc ?_ _)); exact BK103.out) Try.underlying23 rfl (by kernel_rfl)) rfl ?_
            exact ⟨by first | rfl | (simp [errW_none, errW_some] <;> rfl) | (simp [*, errW_none, errW_some] <;> rfl), by repeat (first | (with_reducible first | exact HB.out | apply below_alloc | apply pw_below_drewN | apply below_drew1 | refine below_set ?_ GE103.out) | exact HB.out)⟩
          · rw [if_neg c6] at H
            have c6b0 : decide (4294967296 < (IntKind.u64.wrap (Int.tdiv a1 x6_1))) = false := decide_eq_false c6
            clear c6
            simp only [Option.some.injEq, Prod.mk.injEq] at H
            obtain ⟨rfl, rfl, rfl⟩ := H
            try go_wp2
            have n0_ := Aside0.mk (blk_drew BK103.out)
            have n1_ := Aside0.mk (below_drew1 HB.out)
            clear BK103
            clear HB
            have BK103 := n0_
            have HB := n1_
            clear n0_ n1_
            refine start_ (n := 11) (S := fun w' => True) (ds := []) #[false, false, false, false, false, false, false, false, false, false, false] (by kernel_rfl) rfl rfl trivial (fun hHeld => ?_); refine with_tabW turn_lowest.tab6 turn_lowest.bits6 (fun HT_ HW_ => ?_)
            generalize wr.drew = w8 at BK103 HB hHeld ⊢
            refine pure_ (i := 0) (N := some 21) (v := ?_) (a' := ?_) #[true, false, false, false, false, false, false, false, false, false, false] rfl rfl (any_of HT_.out (by kernel_rfl)) (fun _ _ _ h => h) (Or.inl ⟨by rfl, ?_⟩) ?_ ?_
            rotate_left
            · intro w'
              go_simp
              with_reducible rfl
            rotate_left
            · simp only [Act.put, List.setIfInBounds_toArray, List.set_cons_zero, List.set_cons_succ, i64_w, i32_w]
              rfl
            refine pure_ (i := 1) (N := some 22) (v := ?_) (a' := ?_) #[true, true, false, false, false, false, false, false, false, false, false] rfl rfl (any_of HT_.out (by kernel_rfl)) (fun _ _ _ h => h) (Or.inl ⟨by rfl, ?_⟩) ?_ ?_
            rotate_left
            · intro w'
              go_simp
              with_reducible rfl
            rotate_left
            · simp only [Act.put, List.setIfInBounds_toArray, List.set_cons_zero, List.set_cons_succ, i64_w, i32_w]
              rfl
            refine pure_ (i := 2) (N := some 23) (v := ?_) (a' := ?_) #[true, true, true, false, false, false, false, false, false, false, false] rfl rfl (any_of HT_.out (by kernel_rfl)) (fun _ _ _ h => h) (Or.inl ⟨by rfl, ?_⟩) ?_ ?_
            rotate_left
            · intro w'
              go_simp
              with_reducible rfl
            rotate_left
            · simp only [Act.put, List.setIfInBounds_toArray, List.set_cons_zero, List.set_cons_succ, i64_w, i32_w]
              rfl
            refine pure_ (i := 3) (N := some 24) (v := ?_) (a' := ?_) #[true, true, true, true, false, false, false, false, false, false, false] rfl rfl (any_of HT_.out (by kernel_rfl)) (fun _ _ _ h => h) (Or.inl ⟨by rfl, ?_⟩) ?_ ?_
            rotate_left
            · intro w'
              go_simp
              with_reducible rfl
            rotate_left
            · simp only [Act.put, List.setIfInBounds_toArray, List.set_cons_zero, List.set_cons_succ, i64_w, i32_w]
              rfl
            refine pure_ (i := 4) (N := some 25) (v := ?_) (a' := ?_) #[true, true, true, true, true, false, false, false, false, false, false] rfl rfl (any_of HT_.out (by kernel_rfl)) (fun _ _ _ h => h) (Or.inl ⟨by rfl, ?_⟩) ?_ ?_
            rotate_left
            · intro w'
              go_simp
              with_reducible rfl
            rotate_left
            · simp only [Act.put, List.setIfInBounds_toArray, List.set_cons_zero, List.set_cons_succ, i64_w, i32_w]
              rfl
            refine pure_ (i := 5) (N := some 26) (v := ?_) (a' := ?_) #[true, true, true, true, true, true, false, false, false, false, false] rfl rfl (any_of HT_.out (by kernel_rfl)) (fun _ _ _ h => h) (Or.inl ⟨by rfl, ?_⟩) ?_ ?_
            rotate_left
            · intro w'
              go_simp
              with_reducible rfl
            rotate_left
            · simp only [Act.put, List.setIfInBounds_toArray, List.set_cons_zero, List.set_cons_succ, i64_w, i32_w]
              rfl
            refine pure_ (i := 6) (N := some 27) (v := ?_) (a' := ?_) #[true, true, true, true, true, true, true, false, false, false, false] rfl rfl (any_of HT_.out (by kernel_rfl)) (fun _ _ _ h => h) (Or.inl ⟨by rfl, ?_⟩) ?_ ?_
            rotate_left
            · intro w'
              go_simp
              with_reducible rfl
            rotate_left
            · simp only [Act.put, List.setIfInBounds_toArray, List.set_cons_zero, List.set_cons_succ, i64_w, i32_w]
              rfl
            refine pure_ (i := 7) (N := some 28) (v := ?_) (a' := ?_) #[true, true, true, true, true, true, true, true, false, false, false] rfl rfl (any_of HT_.out (by kernel_rfl)) (fun _ _ _ h => h) (Or.inl ⟨by rfl, ?_⟩) ?_ ?_
            rotate_left
            · intro w'
              go_simp
              with_reducible rfl
            rotate_left
            · simp only [Act.put, List.setIfInBounds_toArray, List.set_cons_zero, List.set_cons_succ, i64_w, i32_w]
              rfl
            refine pure_ (i := 8) (N := some 29) (v := ?_) (a' := ?_) #[true, true, true, true, true, true, true, true, true, false, false] rfl rfl (any_of HT_.out (by kernel_rfl)) (fun _ _ _ h => h) (Or.inl ⟨by rfl, ?_⟩) ?_ ?_
            rotate_left
            · intro w'
              go_simp
              with_reducible rfl
            rotate_left
            · simp only [Act.put, List.setIfInBounds_toArray, List.set_cons_zero, List.set_cons_succ, i64_w, i32_w]
              rfl
            refine one_ (i := 9) (N := none) #[true, true, true, true, true, true, true, true, true, true, false] rfl rfl (one_of HT_.out (by kernel_rfl)) (by decide) (fun K hK => ?_)
            have hs9 : w8.cell? ⟨gb103, 0, none⟩ = some (.int .i64 0) := (blk_cell BK103.out 0).trans rfl
            have hfs9 := blk_frozen BK103.out 0
            have hs10 : w8.cell? ⟨gb103, 1, none⟩ = some (.int .i64 0) := (blk_cell BK103.out 1).trans rfl
            have hfs10 := blk_frozen BK103.out 1
            refine skip_ (w1 := ?_) (by rfl) rfl ?_ ?_
            rotate_left
            · go_simp
              rfl
            refine hK.out _ _ trivial (fun hHeld => ?_)
            clear hK K
            refine pure_ (i := 10) (N := some 5) (v := ?_) (a' := ?_) #[true, true, true, true, true, true, true, true, true, true, true] rfl rfl (any_of HT_.out (by kernel_rfl)) (fun _ _ _ h => h) (Or.inl ⟨by rfl, ?_⟩) ?_ ?_
            rotate_left
            · intro w'
              go_simp
              with_reducible rfl
            rotate_left
            · simp only [Act.put, List.setIfInBounds_toArray, List.set_cons_zero, List.set_cons_succ, i64_w, i32_w]
              rfl
            refine done_ (done_of HT_.out (by kernel_rfl)) ?_
            try go_wp2
            refine bodyPost_ret (results_ct rfl _ _ gb103 23 #[.int .i64 (wrap64 (IntKind.u64.wrap (Int.tdiv a0 x6_1))), .int .i64 (wrap64 (IntKind.u64.wrap (Int.tdiv a1 x6_1)))] (0, 0) _ rfl (by (with_reducible repeat (first | refine blk_drewN ?_ _ | refine blk_drew ?_ | refine blk_alloc ?_ _)); refine blk_put (cs := #[.int .i64 (wrap64 (IntKind.u64.wrap (Int.tdiv a0 x6_1))), .int .i64 0]) ?_ 1 _ rfl; (with_reducible repeat (first | refine blk_drewN ?_ _ | refine blk_drew ?_ | refine blk_alloc ?_ _)); refine blk_put (cs := #[.int .i64 0, .int .i64 0]) ?_ 0 _ rfl; (with_reducible repeat (first | refine blk_drewN ?_ _ | refine blk_drew ?_ | refine blk_alloc ?_ _)); exact BK103.out) Try.underlying23 rfl (by kernel_rfl)) rfl ?_
            exact ⟨by first | rfl | (simp [errW_none, errW_some] <;> rfl) | (simp [*, errW_none, errW_some] <;> rfl), by repeat (first | (with_reducible first | exact HB.out | apply below_alloc | apply pw_below_drewN | apply below_drew1 | refine below_set ?_ GE103.out) | exact HB.out)⟩
      · rw [if_neg c4] at H
        have c4b0 : (x7_1 == 0) = false := beq_eq_false_iff_ne.mpr c4
        have c4b1 : (x7_1 != 0) = true := bne_iff_ne.mpr c4
        have H' := Aside0.mk H
        clear H
        try go_wp2
        have n0_ := Aside0.mk (blk_drew BK103.out)
        have n1_ := Aside0.mk (below_drew1 HB.out)
        clear BK103
        clear HB
        have BK103 := n0_
        have HB := n1_
        clear n0_ n1_
        refine start_ (n := 6) (S := fun w' => True) (ds := []) #[false, false, false, false, false, false] (by kernel_rfl) rfl rfl trivial (fun hHeld => ?_)
        generalize wr.drew = w11 at BK103 HB hHeld ⊢
        refine pure_ (i := 0) (N := some 12) (v := ?_) (a' := ?_) #[true, false, false, false, false, false] rfl rfl (by kernel_rfl) (fun _ _ _ h => h) (Or.inl ⟨by rfl, ?_⟩) ?_ ?_
        rotate_left
        · intro w'
          go_simp
          with_reducible rfl
        rotate_left
        · simp only [Act.put, List.setIfInBounds_toArray, List.set_cons_zero, List.set_cons_succ, i64_w, i32_w]
          rfl
        refine pure_ (i := 1) (N := some 13) (v := ?_) (a' := ?_) #[true, true, false, false, false, false] rfl rfl (by kernel_rfl) (fun _ _ _ h => h) (Or.inl ⟨by rfl, ?_⟩) ?_ ?_
        rotate_left
        · intro w'
          go_simp
          with_reducible rfl
        rotate_left
        · simp only [Act.put, List.setIfInBounds_toArray, List.set_cons_zero, List.set_cons_succ, i64_w, i32_w]
          rfl
        refine pure_ (i := 2) (N := some 14) (v := ?_) (a' := ?_) #[true, true, true, false, false, false] rfl rfl (by kernel_rfl) (fun _ _ _ h => h) (Or.inl ⟨by rfl, ?_⟩) ?_ ?_
        rotate_left
        · intro w'
          go_simp
          with_reducible rfl
        rotate_left
        · simp only [Act.put, List.setIfInBounds_toArray, List.set_cons_zero, List.set_cons_succ, i64_w, i32_w]
          rfl
        refine pure_ (i := 3) (N := some 15) (v := ?_) (a' := ?_) #[true, true, true, true, false, false] rfl rfl (by kernel_rfl) (fun _ _ _ h => h) (Or.inl ⟨by rfl, ?_⟩) ?_ ?_
        rotate_left
        · intro w'
          go_simp
          with_reducible rfl
        rotate_left
        · simp only [Act.put, List.setIfInBounds_toArray, List.set_cons_zero, List.set_cons_succ, i64_w, i32_w]
          rfl
        refine pure_ (i := 4) (N := some 6) (v := ?_) (a' := ?_) #[true, true, true, true, true, false] rfl rfl (by kernel_rfl) (fun _ _ _ h => h) (Or.inl ⟨by rfl, ?_⟩) ?_ ?_
        rotate_left
        · intro w'
          go_simp
          with_reducible rfl
        rotate_left
        · simp only [Act.put, List.setIfInBounds_toArray, List.set_cons_zero, List.set_cons_succ, i64_w, i32_w]
          rfl
        refine pure_ (i := 5) (N := some 7) (v := ?_) (a' := ?_) #[true, true, true, true, true, true] rfl rfl (by kernel_rfl) (fun _ _ _ h => h) (Or.inl ⟨by rfl, ?_⟩) ?_ ?_
        rotate_left
        · intro w'
          go_simp
          with_reducible rfl
        rotate_left
        · simp only [Act.put, List.setIfInBounds_toArray, List.set_cons_zero, List.set_cons_succ, i64_w, i32_w]
          rfl
        refine done_ (by kernel_rfl) ?_
        try go_wp2
        go_roundg k1
        case measure => have := HK1.out; omega
        case rel => exact ⟨(x7_1), (Int.tmod x6_1 x7_1), (by first | rfl | (simp; done) | (simp [*]; done)), (by first | rfl | (simp; done) | (simp [*]; done)), H', ⟨by have := HK1.out; omega⟩, ⟨by (with_reducible repeat (first | refine blk_drewN ?_ _ | refine blk_drew ?_ | refine blk_alloc ?_ _)); exact BK103.out⟩, ⟨by repeat (first | (with_reducible first | exact HB.out | apply below_alloc | apply pw_below_drewN | apply below_drew1 | refine below_set ?_ GE103.out) | exact HB.out)⟩⟩

/-! ### turn_Of: function 9 -/
def turn_Of.f (k : Nat) (a0 : Int) (a1 : Int) : Option (Int × Int × Int) := if a1 = 0 then (some (0, 0, 7)) else (if a1 < 0 then (some (0, 0, 2)) else (if a1 > 4294967296 then (some (0, 0, 2)) else ((turn_lowest.f k (IntKind.u64.wrap (Int.tmod (wrap64 ((Int.tmod a0 a1) + a1)) a1)) (IntKind.u64.wrap (a1))).bind fun bt105 => (some (bt105.1, bt105.2.1, bt105.2.2)))))
theorem turn_Of.mono : ∀ a0 a1 k, LeO (turn_Of.f k a0 a1) (turn_Of.f (k + 1) a0 a1) := by
  intro a0 a1 k
  unfold turn_Of.f
  repeat' first
      | (with_reducible exact turn_lowest.mono _ _ _)
      | (with_reducible exact LeO.refl _)
      | (with_reducible exact LeO.none _)
      | (with_reducible refine LeO.ite ?_ ?_)
      | (with_reducible refine LeO.bind ?_ (fun _ => ?_))
      | exact turn_lowest.mono _ _ _
      | exact LeO.none _
      | refine LeO.ite ?_ ?_
      | refine LeO.bind ?_ (fun _ => ?_)
set_option maxHeartbeats 8000000 in
set_option maxRecDepth 100000 in
theorem turn_Of.calls (k : Nat) (a0 : Int) (a1 : Int) (r1 : Int) (r2 : Int) (r3 : Int) (w : World) (h : turn_Of.f k a0 a1 = some (r1, r2, r3)) :
    Calls Try.prog 9 #[.int .i64 a0, .int .i64 a1] w fun e w' => e = .returned (.tuple #[.agg #[.int .i64 r1, .int .i64 r2], .int .i64 r3]) ∧ Below w.heap.size w w' := by
  have hu23 := Try.underlying23
  have HB := Aside0.mk (Below.refl w.heap.size w)
  have H : (if a1 = 0 then (some (0, 0, 7)) else (if a1 < 0 then (some (0, 0, 2)) else (if a1 > 4294967296 then (some (0, 0, 2)) else ((turn_lowest.f k (IntKind.u64.wrap (Int.tmod (wrap64 ((Int.tmod a0 a1) + a1)) a1)) (IntKind.u64.wrap (a1))).bind fun bt105 => (some (bt105.1, bt105.2.1, bt105.2.2)))))) = some (r1, r2, r3) := h
  clear h
  by_cases c3 : a1 = 0
  · rw [if_pos c3] at H
    have c3b0 : (a1 == 0) = true := beq_iff_eq.mpr c3
    have c3b1 : (a1 != 0) = false := bne_eq_false_iff_eq.mpr c3
    clear c3
    simp only [Option.some.injEq, Prod.mk.injEq] at H
    obtain ⟨rfl, rfl, rfl⟩ := H
    go_enter Try.func9, Try.ntmps9
    go_wp2_with (first | ((with_reducible refine gate_dst (N := 4) rfl ?_); refine box_event ?hg (N := 4) ?hd (cs := #[.int .i64 0, .int .i64 0]) (t := 23) ?hr ?_; (case hd => rfl); (case hg => rfl); (case hr => first | (go_simp; done) | (go_simp; rfl)); intro gb104 hg w4 hbox hb; have n0_ := Aside0.mk (below_step (by repeat (first | (with_reducible first | exact HB.out | apply below_alloc | apply pw_below_drewN | apply below_drew1) | exact HB.out)) hb); have n1_ := Aside0.mk (hbox); have n2_ := Aside0.mk ((by rw [hg]; exact (below_size (by repeat (first | (with_reducible first | exact HB.out | apply below_alloc | apply pw_below_drewN | apply below_drew1) | exact HB.out))) : w.heap.size ≤ gb104)); have n3_ := Aside0.mk ((by rw [hg]; exact (below_size (by repeat (first | (with_reducible first | exact HB.out | apply below_alloc | apply pw_below_drewN | apply below_drew1) | exact HB.out))) : w.heap.size ≤ gb104)); clear HB; have HB := n0_; have BK104 := n1_; have GW104 := n2_; have GE104 := n3_; clear n0_ n1_ n2_ n3_; clear hb hbox hg; have hcz5_0 : w4.cell? ⟨gb104, 0, none⟩ = some (.int .i64 0) := (blk_cell BK104.out 0).trans rfl; have hcz5_1 : w4.cell? ⟨gb104, 1, none⟩ = some (.int .i64 0) := (blk_cell BK104.out 1).trans rfl; have hfz5_0 := blk_frozen BK104.out 0; have hfz5_1 := blk_frozen BK104.out 1))
    refine bodyPost_ret (results_ct rfl _ _ gb104 23 #[.int .i64 0, .int .i64 0] (0, 0) _ rfl (by (with_reducible repeat (first | refine blk_drewN ?_ _ | refine blk_drew ?_ | refine blk_alloc ?_ _)); refine blk_put (cs := #[.int .i64 0, .int .i64 0]) ?_ 1 _ rfl; (with_reducible repeat (first | refine blk_drewN ?_ _ | refine blk_drew ?_ | refine blk_alloc ?_ _)); refine blk_put (cs := #[.int .i64 0, .int .i64 0]) ?_ 0 _ rfl; (with_reducible repeat (first | refine blk_drewN ?_ _ | refine blk_drew ?_ | refine blk_alloc ?_ _)); exact BK104.out) Try.underlying23 rfl (by kernel_rfl)) rfl ?_
    exact ⟨by first | rfl | (simp [errW_none, errW_some] <;> rfl) | (simp [*, errW_none, errW_some] <;> rfl), by repeat (first | (with_reducible first | exact HB.out | apply below_alloc | apply pw_below_drewN | apply below_drew1 | refine below_set ?_ GE104.out) | exact HB.out)⟩
  · rw [if_neg c3] at H
    have c3b0 : (a1 == 0) = false := beq_eq_false_iff_ne.mpr c3
    have c3b1 : (a1 != 0) = true := bne_iff_ne.mpr c3
    by_cases c6 : a1 < 0
    · rw [if_pos c6] at H
      have c6b0 : decide (a1 < 0) = true := decide_eq_true c6
      clear c6
      simp only [Option.some.injEq, Prod.mk.injEq] at H
      obtain ⟨rfl, rfl, rfl⟩ := H
      go_enter Try.func9, Try.ntmps9
      go_wp2_with (first | ((with_reducible refine gate_dst (N := 4) rfl ?_); refine box_event ?hg (N := 4) ?hd (cs := #[.int .i64 0, .int .i64 0]) (t := 23) ?hr ?_; (case hd => rfl); (case hg => rfl); (case hr => first | (go_simp; done) | (go_simp; rfl)); intro gb104 hg w7 hbox hb; have n0_ := Aside0.mk (below_step (by repeat (first | (with_reducible first | exact HB.out | apply below_alloc | apply pw_below_drewN | apply below_drew1) | exact HB.out)) hb); have n1_ := Aside0.mk (hbox); have n2_ := Aside0.mk ((by rw [hg]; exact (below_size (by repeat (first | (with_reducible first | exact HB.out | apply below_alloc | apply pw_below_drewN | apply below_drew1) | exact HB.out))) : w.heap.size ≤ gb104)); have n3_ := Aside0.mk ((by rw [hg]; exact (below_size (by repeat (first | (with_reducible first | exact HB.out | apply below_alloc | apply pw_below_drewN | apply below_drew1) | exact HB.out))) : w.heap.size ≤ gb104)); clear HB; have HB := n0_; have BK104 := n1_; have GW104 := n2_; have GE104 := n3_; clear n0_ n1_ n2_ n3_; clear hb hbox hg; have hcz8_0 : w7.cell? ⟨gb104, 0, none⟩ = some (.int .i64 0) := (blk_cell BK104.out 0).trans rfl; have hcz8_1 : w7.cell? ⟨gb104, 1, none⟩ = some (.int .i64 0) := (blk_cell BK104.out 1).trans rfl; have hfz8_0 := blk_frozen BK104.out 0; have hfz8_1 := blk_frozen BK104.out 1))
      refine bodyPost_ret (results_ct rfl _ _ gb104 23 #[.int .i64 0, .int .i64 0] (0, 0) _ rfl (by (with_reducible repeat (first | refine blk_drewN ?_ _ | refine blk_drew ?_ | refine blk_alloc ?_ _)); refine blk_put (cs := #[.int .i64 0, .int .i64 0]) ?_ 1 _ rfl; (with_reducible repeat (first | refine blk_drewN ?_ _ | refine blk_drew ?_ | refine blk_alloc ?_ _)); refine blk_put (cs := #[.int .i64 0, .int .i64 0]) ?_ 0 _ rfl; (with_reducible repeat (first | refine blk_drewN ?_ _ | refine blk_drew ?_ | refine blk_alloc ?_ _)); exact BK104.out) Try.underlying23 rfl (by kernel_rfl)) rfl ?_
      exact ⟨by first | rfl | (simp [errW_none, errW_some] <;> rfl) | (simp [*, errW_none, errW_some] <;> rfl), by repeat (first | (with_reducible first | exact HB.out | apply below_alloc | apply pw_below_drewN | apply below_drew1 | refine below_set ?_ GE104.out) | exact HB.out)⟩
    · rw [if_neg c6] at H
      have c6b0 : decide (a1 < 0) = false := decide_eq_false c6
      clear c6
      by_cases c9 : a1 > 4294967296
      · rw [if_pos c9] at H
        have c9b0 : decide (4294967296 < a1) = true := decide_eq_true c9
        clear c9
        simp only [Option.some.injEq, Prod.mk.injEq] at H
        obtain ⟨rfl, rfl, rfl⟩ := H
        go_enter Try.func9, Try.ntmps9
        go_wp2_with (first | ((with_reducible refine gate_dst (N := 4) rfl ?_); refine box_event ?hg (N := 4) ?hd (cs := #[.int .i64 0, .int .i64 0]) (t := 23) ?hr ?_; (case hd => rfl); (case hg => rfl); (case hr => first | (go_simp; done) | (go_simp; rfl)); intro gb104 hg w10 hbox hb; have n0_ := Aside0.mk (below_step (by repeat (first | (with_reducible first | exact HB.out | apply below_alloc | apply pw_below_drewN | apply below_drew1) | exact HB.out)) hb); have n1_ := Aside0.mk (hbox); have n2_ := Aside0.mk ((by rw [hg]; exact (below_size (by repeat (first | (with_reducible first | exact HB.out | apply below_alloc | apply pw_below_drewN | apply below_drew1) | exact HB.out))) : w.heap.size ≤ gb104)); have n3_ := Aside0.mk ((by rw [hg]; exact (below_size (by repeat (first | (with_reducible first | exact HB.out | apply below_alloc | apply pw_below_drewN | apply below_drew1) | exact HB.out))) : w.heap.size ≤ gb104)); clear HB; have HB := n0_; have BK104 := n1_; have GW104 := n2_; have GE104 := n3_; clear n0_ n1_ n2_ n3_; clear hb hbox hg; have hcz11_0 : w10.cell? ⟨gb104, 0, none⟩ = some (.int .i64 0) := (blk_cell BK104.out 0).trans rfl; have hcz11_1 : w10.cell? ⟨gb104, 1, none⟩ = some (.int .i64 0) := (blk_cell BK104.out 1).trans rfl; have hfz11_0 := blk_frozen BK104.out 0; have hfz11_1 := blk_frozen BK104.out 1))
        refine bodyPost_ret (results_ct rfl _ _ gb104 23 #[.int .i64 0, .int .i64 0] (0, 0) _ rfl (by (with_reducible repeat (first | refine blk_drewN ?_ _ | refine blk_drew ?_ | refine blk_alloc ?_ _)); refine blk_put (cs := #[.int .i64 0, .int .i64 0]) ?_ 1 _ rfl; (with_reducible repeat (first | refine blk_drewN ?_ _ | refine blk_drew ?_ | refine blk_alloc ?_ _)); refine blk_put (cs := #[.int .i64 0, .int .i64 0]) ?_ 0 _ rfl; (with_reducible repeat (first | refine blk_drewN ?_ _ | refine blk_drew ?_ | refine blk_alloc ?_ _)); exact BK104.out) Try.underlying23 rfl (by kernel_rfl)) rfl ?_
        exact ⟨by first | rfl | (simp [errW_none, errW_some] <;> rfl) | (simp [*, errW_none, errW_some] <;> rfl), by repeat (first | (with_reducible first | exact HB.out | apply below_alloc | apply pw_below_drewN | apply below_drew1 | refine below_set ?_ GE104.out) | exact HB.out)⟩
      · rw [if_neg c9] at H
        have c9b0 : decide (4294967296 < a1) = false := decide_eq_false c9
        clear c9
        replace H := Option.bind_eq_some_iff.mp H
        obtain ⟨⟨t105, t106, t107⟩, A120, H⟩ := H
        replace H : (some (t105, t106, t107)) = some (r1, r2, r3) := H
        have A12 := Aside0.mk A120
        clear A120
        simp only [Option.some.injEq, Prod.mk.injEq] at H
        obtain ⟨rfl, rfl, rfl⟩ := H
        go_enter Try.func9, Try.ntmps9
        go_wp2_with (first | ((with_reducible refine gate_dst (N := 4) rfl ?_); refine box_event ?hg (N := 4) ?hd (cs := #[.int .i64 0, .int .i64 0]) (t := 23) ?hr ?_; (case hd => rfl); (case hg => rfl); (case hr => first | (go_simp; done) | (go_simp; rfl)); intro gb104 hg w13 hbox hb; have n0_ := Aside0.mk (below_step (by repeat (first | (with_reducible first | exact HB.out | apply below_alloc | apply pw_below_drewN | apply below_drew1) | exact HB.out)) hb); have n1_ := Aside0.mk (hbox); have n2_ := Aside0.mk ((by rw [hg]; exact (below_size (by repeat (first | (with_reducible first | exact HB.out | apply below_alloc | apply pw_below_drewN | apply below_drew1) | exact HB.out))) : w.heap.size ≤ gb104)); have n3_ := Aside0.mk ((by rw [hg]; exact (below_size (by repeat (first | (with_reducible first | exact HB.out | apply below_alloc | apply pw_below_drewN | apply below_drew1) | exact HB.out))) : w.heap.size ≤ gb104)); clear HB; have HB := n0_; have BK104 := n1_; have GW104 := n2_; have GE104 := n3_; clear n0_ n1_ n2_ n3_; clear hb hbox hg) | ((with_reducible refine gate_callee (f := 18) rfl ?_); refine goesL_ (some 28) rfl rfl Try.func18 (by kernel_rfl) rfl #[.int .u64 (IntKind.u64.wrap (Int.tmod (wrap64 ((Int.tmod a0 a1) + a1)) a1)), .int .u64 (IntKind.u64.wrap (a1))] rfl (by (try simp only [List.map_toArray, List.map_cons, List.map_nil]); first | done | rfl | (simp only [List.length_drop, List.length_take]; rfl)) ?_; (with_reducible refine (turn_lowest.calls k (IntKind.u64.wrap (Int.tmod (wrap64 ((Int.tmod a0 a1) + a1)) a1)) (IntKind.u64.wrap (a1)) t105 t106 t107 _ A12.out).mono ?_); rintro e w14 ⟨rfl, hb⟩; refine ⟨_, rfl, ?_⟩; have n0_ := Aside0.mk (blk_below (g := gb104) (o := .cells #[.int .i64 0, .int .i64 0] 23 (0, 0)) (by (with_reducible repeat (first | refine blk_drewN ?_ _ | refine blk_drew ?_ | refine blk_alloc ?_ _)); exact BK104.out) hb); have n1_ := Aside0.mk (below_step (by repeat (first | (with_reducible first | exact HB.out | apply below_alloc | apply pw_below_drewN | apply below_drew1 | refine below_set ?_ GE104.out) | exact HB.out)) hb); clear BK104; clear HB; have BK104 := n0_; have HB := n1_; clear n0_ n1_; (try clear hb); (try clear hb2); (try clear hk); (try clear hi); have hcz15_0 : w14.cell? ⟨gb104, 0, none⟩ = some (.int .i64 0) := (blk_cell BK104.out 0).trans rfl; have hcz15_1 : w14.cell? ⟨gb104, 1, none⟩ = some (.int .i64 0) := (blk_cell BK104.out 1).trans rfl; have hfz15_0 := blk_frozen BK104.out 0; have hfz15_1 := blk_frozen BK104.out 1))
        refine bodyPost_ret (results_ct rfl _ _ gb104 23 #[.int .i64 t105, .int .i64 t106] (0, 0) _ rfl (by (with_reducible repeat (first | refine blk_drewN ?_ _ | refine blk_drew ?_ | refine blk_alloc ?_ _)); refine blk_put (cs := #[.int .i64 t105, .int .i64 0]) ?_ 1 _ rfl; (with_reducible repeat (first | refine blk_drewN ?_ _ | refine blk_drew ?_ | refine blk_alloc ?_ _)); refine blk_put (cs := #[.int .i64 0, .int .i64 0]) ?_ 0 _ rfl; (with_reducible repeat (first | refine blk_drewN ?_ _ | refine blk_drew ?_ | refine blk_alloc ?_ _)); exact BK104.out) Try.underlying23 rfl (by kernel_rfl)) rfl ?_
        exact ⟨by first | rfl | (simp [errW_none, errW_some] <;> rfl) | (simp [*, errW_none, errW_some] <;> rfl), by repeat (first | (with_reducible first | exact HB.out | apply below_alloc | apply pw_below_drewN | apply below_drew1 | refine below_set ?_ GE104.out) | exact HB.out)⟩

/-! ### slackwaterlaw08_lives: function 4 (given) -/
theorem root34 : turn_Root.fl 6 0 4 = some (0, 13830554455654793216) := by kernel_rfl
theorem of_m14 : turn_Of.f 10 (-1) 4 = some (3, 4, 0) := by kernel_rfl
theorem chk34 : turn_Check.f 10 3 4 = some 0 := by kernel_rfl
set_option maxHeartbeats 1000000 in
theorem slackwaterlaw08_lives.calls_ (w : World) : Calls Try.prog 4 #[] w fun e w' => e = .returned (.bool true) ∧ Below w.heap.size w w' := by
  have hO := GB.hid of_m14
  have hs1 : (FloatKind.f64.format.order 0 0 == some .eq) = true := by kernel_rfl
  have hs2 : (FloatKind.f64.format.order 13830554455654793216 13830554455654793216 == some .eq) = true := by kernel_rfl
  have h23 := Try.underlying23
  have heq : ∀ w, (binOp .eql 23 (.agg #[.int .i64 3, .int .i64 4]) (.agg #[.int .i64 3, .int .i64 4])).run Try.prog w = .ok (.bool true) w := fun w => by kernel_rfl
  go_enter Try.func4, Try.ntmps4
  go_wp2_with fail
  refine (turn_Of.calls 10 _ _ 3 4 0 _ hO.out).mono ?_
  rintro e w1 ⟨rfl, hB⟩
  have HB := GB.hid (GB.bls (by repeat (first | exact GB.bl0 _ | apply GB.bla)) hB : Below w.heap.size w w1)
  clear hB
  go_wp2_with fail
  refine (turn_Root.fine 10 3 4 6 0 0 0 13830554455654793216 _ chk34 (by decide) (by decide) (by decide) (by decide) (by decide) (by decide) root34).mono ?_
  rintro e w2 ⟨rfl, hB⟩
  have K := GB.hid ((GB.Blk.new w1 23 [.int .i64 3, .int .i64 4]).below hB)
  have HB := GB.hid (GB.bls (by repeat (first | exact HB.out | apply GB.bla)) hB : Below w.heap.size w w2)
  clear hB
  have c0 := K.out.cell 0 rfl
  have c1 := K.out.cell 1 rfl
  go_wp2_with fail
  refine (same_number _ _ _ _ _ hs1 hs2).mono ?_
  rintro e w' ⟨rfl, rfl⟩
  go_wp2
  go_ret
  exact ⟨rfl, by repeat (first | exact HB.out | apply GB.bla)⟩
def slackwaterlaw08_lives.f : Option Bool := some true
theorem slackwaterlaw08_lives.calls (r : Bool) (w : World) (h : slackwaterlaw08_lives.f = some r) : Calls Try.prog 4 #[] w fun e w' => e = .returned (.bool r) ∧ Below w.heap.size w w' := by
  cases h
  exact slackwaterlaw08_lives.calls_ w


end Go.Proofs.Ytjnbfepembhomaa.PTG
