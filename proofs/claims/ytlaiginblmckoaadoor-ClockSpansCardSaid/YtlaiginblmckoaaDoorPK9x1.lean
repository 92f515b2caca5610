/- Written by wip/xprint.py (the kit's print over given functions). -/
import Derived.Test.YtlaiginblmckoaaDoorPK9x0
namespace Go.Proofs.YtlaiginblmckoaaDoor.PK9
open Go.RowKit Go.Proofs.YtlaiginblmckoaaDoorW.PrintWords Go.Proofs.YtlaiginblmckoaaDoorW.PrintLast Go.Proofs.YtlaiginblmckoaaDoorW.PrintMore
attribute [local go_sem] max2_int min2_int max_two min_two max_three min_three max_four min_four   -- for this text's walks alone
set_option linter.unusedVariables false
set_option linter.unusedSimpArgs false

/-! ### clock_At: function 15 -/
def clock_At.f (a0 : Int) (a1 : Int) : Option (Int × Int) := if a1 < 0 then (some (0, 2)) else (if a1 ≥ 24 then (some (0, 2)) else (if a0 < 0 then (some (0, 2)) else (if a0 > 43690 then (some (0, 2)) else (if (wrap64 ((wrap64 (a0 * 24)) + a1)) > 1048576 then (some (0, 2)) else (some (wrap64 ((wrap64 (a0 * 24)) + a1), 0))))))
set_option maxHeartbeats 8000000 in
set_option maxRecDepth 100000 in
theorem clock_At.calls (a0 : Int) (a1 : Int) (r1 : Int) (r2 : Int) (w : World) (h : clock_At.f a0 a1 = some (r1, r2)) :
    Calls Tryd.prog 15 #[.int .i64 a0, .int .i64 a1] w fun e w' => e = .returned (.tuple #[.int .i64 r1, .int .i64 r2]) ∧ Drawn0 w w' := by
  have H : (if a1 < 0 then (some (0, 2)) else (if a1 ≥ 24 then (some (0, 2)) else (if a0 < 0 then (some (0, 2)) else (if a0 > 43690 then (some (0, 2)) else (if (wrap64 ((wrap64 (a0 * 24)) + a1)) > 1048576 then (some (0, 2)) else (some (wrap64 ((wrap64 (a0 * 24)) + a1), 0))))))) = some (r1, r2) := h
  clear h
  by_cases c3 : a1 < 0
  · rw [if_pos c3] at H
    have c3b0 : decide (a1 < 0) = true := decide_eq_true c3
    clear c3
    simp only [Option.some.injEq, Prod.mk.injEq] at H
    obtain ⟨rfl, rfl⟩ := H
    go_enter Tryd.func15, Tryd.ntmps15
    go_wp2
    go_ret2
    exact ⟨by first | rfl | (simp; done) | (simp [*]; done), by repeat (first | exact Drawn0.refl _ | apply Drawn0.step)⟩
  · rw [if_neg c3] at H
    have c3b0 : decide (a1 < 0) = false := decide_eq_false c3
    clear c3
    by_cases c4 : a1 ≥ 24
    · rw [if_pos c4] at H
      have c4b0 : decide (24 ≤ a1) = true := decide_eq_true c4
      clear c4
      simp only [Option.some.injEq, Prod.mk.injEq] at H
      obtain ⟨rfl, rfl⟩ := H
      go_enter Tryd.func15, Tryd.ntmps15
      go_wp2
      go_ret2
      exact ⟨by first | rfl | (simp; done) | (simp [*]; done), by repeat (first | exact Drawn0.refl _ | apply Drawn0.step)⟩
    · rw [if_neg c4] at H
      have c4b0 : decide (24 ≤ a1) = false := decide_eq_false c4
      clear c4
      by_cases c5 : a0 < 0
      · rw [if_pos c5] at H
        have c5b0 : decide (a0 < 0) = true := decide_eq_true c5
        clear c5
        simp only [Option.some.injEq, Prod.mk.injEq] at H
        obtain ⟨rfl, rfl⟩ := H
        go_enter Tryd.func15, Tryd.ntmps15
        go_wp2
        go_ret2
        exact ⟨by first | rfl | (simp; done) | (simp [*]; done), by repeat (first | exact Drawn0.refl _ | apply Drawn0.step)⟩
      · rw [if_neg c5] at H
        have c5b0 : decide (a0 < 0) = false := decide_eq_false c5
        clear c5
        by_cases c6 : a0 > 43690
        · rw [if_pos c6] at H
          have c6b0 : decide (43690 < a0) = true := decide_eq_true c6
          clear c6
          simp only [Option.some.injEq, Prod.mk.injEq] at H
          obtain ⟨rfl, rfl⟩ := H
          go_enter Tryd.func15, Tryd.ntmps15
          go_wp2
          go_ret2
          exact ⟨by first | rfl | (simp; done) | (simp [*]; done), by repeat (first | exact Drawn0.refl _ | apply Drawn0.step)⟩
        · rw [if_neg c6] at H
          have c6b0 : decide (43690 < a0) = false := decide_eq_false c6
          clear c6
          by_cases c7 : (wrap64 ((wrap64 (a0 * 24)) + a1)) > 1048576
          · rw [if_pos c7] at H
            have c7b0 : decide (1048576 < (wrap64 ((wrap64 (a0 * 24)) + a1))) = true := decide_eq_true c7
            clear c7
            simp only [Option.some.injEq, Prod.mk.injEq] at H
            obtain ⟨rfl, rfl⟩ := H
            go_enter Tryd.func15, Tryd.ntmps15
            go_wp2
            go_ret2
            exact ⟨by first | rfl | (simp; done) | (simp [*]; done), by repeat (first | exact Drawn0.refl _ | apply Drawn0.step)⟩
          · rw [if_neg c7] at H
            have c7b0 : decide (1048576 < (wrap64 ((wrap64 (a0 * 24)) + a1))) = false := decide_eq_false c7
            clear c7
            simp only [Option.some.injEq, Prod.mk.injEq] at H
            obtain ⟨rfl, rfl⟩ := H
            go_enter Tryd.func15, Tryd.ntmps15
            go_wp2
            go_ret2
            exact ⟨by first | rfl | (simp; done) | (simp [*]; done), by repeat (first | exact Drawn0.refl _ | apply Drawn0.step)⟩

/-! ### clock_Check: function 28 -/
def clock_Check.f (a0 : Int) : Option (Int) := if a0 < 0 then (some 2) else (if a0 > 1048576 then (some 2) else (some 0))
set_option maxHeartbeats 8000000 in
set_option maxRecDepth 100000 in
theorem clock_Check.calls (a0 : Int) (r : Int) (w : World) (h : clock_Check.f a0 = some r) :
    Calls Tryd.prog 28 #[.int .i64 a0] w fun e w' => e = .returned (.int .i64 r) ∧ Drawn0 w w' := by
  have H : (if a0 < 0 then (some 2) else (if a0 > 1048576 then (some 2) else (some 0))) = some r := h
  clear h
  by_cases c2 : a0 < 0
  · rw [if_pos c2] at H
    have c2b0 : decide (a0 < 0) = true := decide_eq_true c2
    clear c2
    obtain rfl := Option.some.inj H
    go_enter Tryd.func28, Tryd.ntmps28
    go_wp2
    go_ret
    exact ⟨by first | rfl | (simp; done) | (simp [*]; done), by repeat (first | exact Drawn0.refl _ | apply Drawn0.step)⟩
  · rw [if_neg c2] at H
    have c2b0 : decide (a0 < 0) = false := decide_eq_false c2
    clear c2
    by_cases c3 : a0 > 1048576
    · rw [if_pos c3] at H
      have c3b0 : decide (1048576 < a0) = true := decide_eq_true c3
      clear c3
      obtain rfl := Option.some.inj H
      go_enter Tryd.func28, Tryd.ntmps28
      go_wp2
      go_ret
      exact ⟨by first | rfl | (simp; done) | (simp [*]; done), by repeat (first | exact Drawn0.refl _ | apply Drawn0.step)⟩
    · rw [if_neg c3] at H
      have c3b0 : decide (1048576 < a0) = false := decide_eq_false c3
      clear c3
      obtain rfl := Option.some.inj H
      go_enter Tryd.func28, Tryd.ntmps28
      go_wp2
      go_ret
      exact ⟨by first | rfl | (simp; done) | (simp [*]; done), by repeat (first | exact Drawn0.refl _ | apply Drawn0.step)⟩

/-! ### clock_Of: function 20 -/
def clock_Of.f (a0 : Int) : Option (Int × Int × Int) := (clock_Check.f a0).bind fun t101 => (if t101 = 0 then (some (wrap64 (Int.tdiv a0 24), Int.tmod a0 24, 0)) else (some (0, 0, t101)))
set_option maxHeartbeats 8000000 in
set_option maxRecDepth 100000 in
theorem clock_Of.calls (a0 : Int) (r1 : Int) (r2 : Int) (r3 : Int) (w : World) (h : clock_Of.f a0 = some (r1, r2, r3)) :
    Calls Tryd.prog 20 #[.int .i64 a0] w fun e w' => e = .returned (.tuple #[.int .i64 r1, .int .i64 r2, .int .i64 r3]) ∧ Drawn0 w w' := by
  have H : ((clock_Check.f a0).bind fun t101 => (if t101 = 0 then (some (wrap64 (Int.tdiv a0 24), Int.tmod a0 24, 0)) else (some (0, 0, t101)))) = some (r1, r2, r3) := h
  clear h
  replace H := Option.bind_eq_some_iff.mp H
  obtain ⟨t101, A20, H⟩ := H
  replace H : (if t101 = 0 then (some (wrap64 (Int.tdiv a0 24), Int.tmod a0 24, 0)) else (some (0, 0, t101))) = some (r1, r2, r3) := H
  have A2 := Aside0.mk A20
  clear A20
  by_cases c3 : t101 = 0
  · rw [if_pos c3] at H
    have c3b0 : (t101 == 0) = true := beq_iff_eq.mpr c3
    have c3b1 : (t101 != 0) = false := bne_eq_false_iff_eq.mpr c3
    clear c3
    simp only [Option.some.injEq, Prod.mk.injEq] at H
    obtain ⟨rfl, rfl, rfl⟩ := H
    go_enter Tryd.func20, Tryd.ntmps20
    go_wp2_with (first | ((with_reducible refine gate_callee (f := 28) rfl ?_); refine goesL_ (some 6) rfl rfl Tryd.func28 (by kernel_rfl) rfl #[.int .i64 a0] rfl (by (try simp only [List.map_toArray, List.map_cons, List.map_nil]); first | done | rfl | (simp only [List.length_drop, List.length_take]; rfl)) ?_; (with_reducible refine (clock_Check.calls a0 t101 _ A2.out).mono ?_); rintro e w' ⟨rfl, ⟨nd, rfl⟩⟩; refine ⟨_, rfl, ?_⟩))
    go_ret3
    exact ⟨by first | rfl | (simp; done) | (simp [*]; done), by repeat (first | exact Drawn0.refl _ | apply Drawn0.step)⟩
  · rw [if_neg c3] at H
    have c3b0 : (t101 == 0) = false := beq_eq_false_iff_ne.mpr c3
    have c3b1 : (t101 != 0) = true := bne_iff_ne.mpr c3
    simp only [Option.some.injEq, Prod.mk.injEq] at H
    obtain ⟨rfl, rfl, rfl⟩ := H
    go_enter Tryd.func20, Tryd.ntmps20
    go_wp2_with (first | ((with_reducible refine gate_callee (f := 28) rfl ?_); refine goesL_ (some 6) rfl rfl Tryd.func28 (by kernel_rfl) rfl #[.int .i64 a0] rfl (by (try simp only [List.map_toArray, List.map_cons, List.map_nil]); first | done | rfl | (simp only [List.length_drop, List.length_take]; rfl)) ?_; (with_reducible refine (clock_Check.calls a0 t101 _ A2.out).mono ?_); rintro e w' ⟨rfl, ⟨nd, rfl⟩⟩; refine ⟨_, rfl, ?_⟩))
    go_ret3
    exact ⟨by first | rfl | (simp; done) | (simp [*]; done), by repeat (first | exact Drawn0.refl _ | apply Drawn0.step)⟩

/-! ### clock_leap: function 29 -/
def clock_leap.f (a0 : Int) : Option (Bool) := if (Int.tmod a0 4) = 0 then (if (Int.tmod a0 100) = 0 then (some ((Int.tmod a0 400) == 0)) else (some true)) else (some ((Int.tmod a0 400) == 0))
set_option maxHeartbeats 8000000 in
set_option maxRecDepth 100000 in
theorem clock_leap.calls (a0 : Int) (r : Bool) (w : World) (h : clock_leap.f a0 = some r) :
    Calls Tryd.prog 29 #[.int .i64 a0] w fun e w' => e = .returned (.bool r) ∧ Drawn0 w w' := by
  have H : (if (Int.tmod a0 4) = 0 then (if (Int.tmod a0 100) = 0 then (some ((Int.tmod a0 400) == 0)) else (some true)) else (some ((Int.tmod a0 400) == 0))) = some r := h
  clear h
  by_cases c2 : (Int.tmod a0 4) = 0
  · rw [if_pos c2] at H
    have c2b0 : ((Int.tmod a0 4) == 0) = true := beq_iff_eq.mpr c2
    have c2b1 : ((Int.tmod a0 4) != 0) = false := bne_eq_false_iff_eq.mpr c2
    clear c2
    by_cases c3 : (Int.tmod a0 100) = 0
    · rw [if_pos c3] at H
      have c3b0 : ((Int.tmod a0 100) == 0) = true := beq_iff_eq.mpr c3
      have c3b1 : ((Int.tmod a0 100) != 0) = false := bne_eq_false_iff_eq.mpr c3
      clear c3
      obtain rfl := Option.some.inj H
      go_enter Tryd.func29, Tryd.ntmps29
      go_wp2
      go_ret
      exact ⟨by first | rfl | (simp; done) | (simp [*]; done), by repeat (first | exact Drawn0.refl _ | apply Drawn0.step)⟩
    · rw [if_neg c3] at H
      have c3b0 : ((Int.tmod a0 100) == 0) = false := beq_eq_false_iff_ne.mpr c3
      have c3b1 : ((Int.tmod a0 100) != 0) = true := bne_iff_ne.mpr c3
      obtain rfl := Option.some.inj H
      go_enter Tryd.func29, Tryd.ntmps29
      go_wp2
      go_ret
      exact ⟨by first | rfl | (simp; done) | (simp [*]; done), by repeat (first | exact Drawn0.refl _ | apply Drawn0.step)⟩
  · rw [if_neg c2] at H
    have c2b0 : ((Int.tmod a0 4) == 0) = false := beq_eq_false_iff_ne.mpr c2
    have c2b1 : ((Int.tmod a0 4) != 0) = true := bne_iff_ne.mpr c2
    obtain rfl := Option.some.inj H
    go_enter Tryd.func29, Tryd.ntmps29
    go_wp2
    go_ret
    exact ⟨by first | rfl | (simp; done) | (simp [*]; done), by repeat (first | exact Drawn0.refl _ | apply Drawn0.step)⟩

/-! ### clock_all: function 21 -/
def clock_all.f (a0 : Int) : Option (Int) := (clock_leap.f a0).bind fun t102 => (if t102 = true then (some 366) else (some 365))
set_option maxHeartbeats 8000000 in
set_option maxRecDepth 100000 in
theorem clock_all.calls (a0 : Int) (r : Int) (w : World) (h : clock_all.f a0 = some r) :
    Calls Tryd.prog 21 #[.int .i64 a0] w fun e w' => e = .returned (.int .i64 r) ∧ Drawn0 w w' := by
  have H : ((clock_leap.f a0).bind fun t102 => (if t102 = true then (some 366) else (some 365))) = some r := h
  clear h
  replace H := Option.bind_eq_some_iff.mp H
  obtain ⟨t102, A20, H⟩ := H
  replace H : (if t102 = true then (some 366) else (some 365)) = some r := H
  have A2 := Aside0.mk A20
  clear A20
  by_cases c3 : t102 = true
  · subst c3
    have H1 : (some 366) = some r := by rw [if_pos rfl] at H; exact H
    clear H
    have H := H1
    clear H1
    obtain rfl := Option.some.inj H
    go_enter Tryd.func21, Tryd.ntmps21
    go_wp2_with (first | ((with_reducible refine gate_callee (f := 29) rfl ?_); refine goesL_ (some 4) rfl rfl Tryd.func29 (by kernel_rfl) rfl #[.int .i64 a0] rfl (by (try simp only [List.map_toArray, List.map_cons, List.map_nil]); first | done | rfl | (simp only [List.length_drop, List.length_take]; rfl)) ?_; (with_reducible refine (clock_leap.calls a0 true _ A2.out).mono ?_); rintro e w' ⟨rfl, ⟨nd, rfl⟩⟩; refine ⟨_, rfl, ?_⟩))
    go_ret
    exact ⟨by first | rfl | (simp; done) | (simp [*]; done), by repeat (first | exact Drawn0.refl _ | apply Drawn0.step)⟩
  · replace c3 := Bool.eq_false_iff.mpr c3
    subst c3
    have H1 : (some 365) = some r := by rw [if_neg (show ¬ (false = true) by decide)] at H; exact H
    clear H
    have H := H1
    clear H1
    obtain rfl := Option.some.inj H
    go_enter Tryd.func21, Tryd.ntmps21
    go_wp2_with (first | ((with_reducible refine gate_callee (f := 29) rfl ?_); refine goesL_ (some 4) rfl rfl Tryd.func29 (by kernel_rfl) rfl #[.int .i64 a0] rfl (by (try simp only [List.map_toArray, List.map_cons, List.map_nil]); first | done | rfl | (simp only [List.length_drop, List.length_take]; rfl)) ?_; (with_reducible refine (clock_leap.calls a0 false _ A2.out).mono ?_); rintro e w' ⟨rfl, ⟨nd, rfl⟩⟩; refine ⟨_, rfl, ?_⟩))
    go_ret
    exact ⟨by first | rfl | (simp; done) | (simp [*]; done), by repeat (first | exact Drawn0.refl _ | apply Drawn0.step)⟩

/-! ### clock_days: function 22 -/
mutual
def clock_days.j0 : Nat → Int → Int → Bool → Option (Int)
  | 0, _, _, _ => none
  | k + 1, x0, x5, x6 => if x6 = true then (some 31) else (if x5 = 4 then (clock_days.j1 k x0 x5 (x5 == 4)) else (if x5 = 6 then (clock_days.j1 k x0 x5 (x5 == 6)) else (if x5 = 9 then (clock_days.j1 k x0 x5 (x5 == 9)) else (clock_days.j1 k x0 x5 (x5 == 11)))))
def clock_days.j1 : Nat → Int → Int → Bool → Option (Int)
  | 0, _, _, _ => none
  | k + 1, x0, x5, x14 => if x14 = true then (some 30) else (if x5 = 2 then ((clock_leap.f x0).bind fun t103 => (if t103 = true then (some 29) else (some 28))) else (some 0))
end
def clock_days.f (k : Nat) (a0 : Int) (a1 : Int) : Option (Int) := if a1 = 1 then (clock_days.j0 k a0 a1 (a1 == 1)) else (if a1 = 3 then (clock_days.j0 k a0 a1 (a1 == 3)) else (if a1 = 5 then (clock_days.j0 k a0 a1 (a1 == 5)) else (if a1 = 7 then (clock_days.j0 k a0 a1 (a1 == 7)) else (if a1 = 8 then (clock_days.j0 k a0 a1 (a1 == 8)) else (if a1 = 10 then (clock_days.j0 k a0 a1 (a1 == 10)) else (clock_days.j0 k a0 a1 (a1 == 12)))))))
theorem clock_days.mono_l : ∀ k, (∀ y0 y1 y2, LeO (clock_days.j0 k y0 y1 y2) (clock_days.j0 (k + 1) y0 y1 y2)) ∧ (∀ y0 y1 y2, LeO (clock_days.j1 k y0 y1 y2) (clock_days.j1 (k + 1) y0 y1 y2))
  | 0 => ⟨fun _ _ _ r h => by simp [clock_days.j0] at h, fun _ _ _ r h => by simp [clock_days.j1] at h⟩
  | k + 1 => by
    obtain ⟨ih0, ih1⟩ := clock_days.mono_l k
    refine ⟨?_, ?_⟩
    · intro y0 y1 y2
      unfold clock_days.j0
      repeat' first
      | (with_reducible exact ih0 _ _ _)
      | (with_reducible exact ih1 _ _ _)
      | (with_reducible exact LeO.refl _)
      | (with_reducible exact LeO.none _)
      | (with_reducible refine LeO.ite ?_ ?_)
      | (with_reducible refine LeO.bind ?_ (fun _ => ?_))
      | exact ih0 _ _ _
      | exact ih1 _ _ _
      | exact LeO.none _
      | refine LeO.ite ?_ ?_
      | refine LeO.bind ?_ (fun _ => ?_)
    · intro y0 y1 y2
      unfold clock_days.j1
      repeat' first
      | (with_reducible exact ih0 _ _ _)
      | (with_reducible exact ih1 _ _ _)
      | (with_reducible exact LeO.refl _)
      | (with_reducible exact LeO.none _)
      | (with_reducible refine LeO.ite ?_ ?_)
      | (with_reducible refine LeO.bind ?_ (fun _ => ?_))
      | exact ih0 _ _ _
      | exact ih1 _ _ _
      | exact LeO.none _
      | refine LeO.ite ?_ ?_
      | refine LeO.bind ?_ (fun _ => ?_)
theorem clock_days.mono : ∀ a0 a1 k, LeO (clock_days.f k a0 a1) (clock_days.f (k + 1) a0 a1) := by
  intro a0 a1 k
  obtain ⟨ih0, ih1⟩ := clock_days.mono_l k
  unfold clock_days.f
  repeat' first
      | (with_reducible exact ih0 _ _ _)
      | (with_reducible exact ih1 _ _ _)
      | (with_reducible exact LeO.refl _)
      | (with_reducible exact LeO.none _)
      | (with_reducible refine LeO.ite ?_ ?_)
      | (with_reducible refine LeO.bind ?_ (fun _ => ?_))
      | exact ih0 _ _ _
      | exact ih1 _ _ _
      | exact LeO.none _
      | refine LeO.ite ?_ ?_
      | refine LeO.bind ?_ (fun _ => ?_)
set_option maxHeartbeats 8000000 in
set_option maxRecDepth 100000 in
theorem clock_days.calls (k : Nat) (a0 : Int) (a1 : Int) (r : Int) (w : World) (h : clock_days.f k a0 a1 = some r) :
    Calls Tryd.prog 22 #[.int .i64 a0, .int .i64 a1] w fun e w' => e = .returned (.int .i64 r) ∧ Drawn0 w w' := by
  have H : (if a1 = 1 then (clock_days.j0 k a0 a1 (a1 == 1)) else (if a1 = 3 then (clock_days.j0 k a0 a1 (a1 == 3)) else (if a1 = 5 then (clock_days.j0 k a0 a1 (a1 == 5)) else (if a1 = 7 then (clock_days.j0 k a0 a1 (a1 == 7)) else (if a1 = 8 then (clock_days.j0 k a0 a1 (a1 == 8)) else (if a1 = 10 then (clock_days.j0 k a0 a1 (a1 == 10)) else (clock_days.j0 k a0 a1 (a1 == 12)))))))) = some r := h
  clear h
  have HC3 := Aside0.mk H
  clear H
  go_enter Tryd.func22, Tryd.ntmps22
  go_upto_if 6 with (fail)
  go_cut [6] (fun v6 wc => ∃ (kq : Nat) (x6_2 : Bool), v6 = .bool x6_2 ∧ Aside0 (clock_days.j0 kq a0 a1 x6_2 = some r) ∧ Aside0 (kq ≤ k) ∧ Drawn0 w wc)
  case first =>
    have H := HC3.out
    clear HC3
    by_cases c4 : a1 = 1
    · rw [if_pos c4] at H
      have c4b0 : (a1 == 1) = true := beq_iff_eq.mpr c4
      have c4b1 : (a1 != 1) = false := bne_eq_false_iff_eq.mpr c4
      clear c4
      (first | rw [c4b0] | (simp only [i64_w, i32_w]; rw [c4b0]) | skip)
      have H' := Aside0.mk H
      clear H
      go_wp2
      go_meet
      case rel => exact ⟨_, ((a1 == 1)), (by first | rfl | (simp; done) | (simp [*]; done)), H', ⟨by first | omega | exact Nat.le_refl _⟩, by repeat (first | exact Drawn0.refl _ | apply Drawn0.step)⟩
    · rw [if_neg c4] at H
      have c4b0 : (a1 == 1) = false := beq_eq_false_iff_ne.mpr c4
      have c4b1 : (a1 != 1) = true := bne_iff_ne.mpr c4
      (first | rw [c4b0] | (simp only [i64_w, i32_w]; rw [c4b0]) | skip)
      by_cases c5 : a1 = 3
      · rw [if_pos c5] at H
        have c5b0 : (a1 == 3) = true := beq_iff_eq.mpr c5
        have c5b1 : (a1 != 3) = false := bne_eq_false_iff_eq.mpr c5
        clear c5
        have H' := Aside0.mk H
        clear H
        go_wp2
        go_meet
        case rel => exact ⟨_, ((a1 == 3)), (by first | rfl | (simp; done) | (simp [*]; done)), H', ⟨by first | omega | exact Nat.le_refl _⟩, by repeat (first | exact Drawn0.refl _ | apply Drawn0.step)⟩
      · rw [if_neg c5] at H
        have c5b0 : (a1 == 3) = false := beq_eq_false_iff_ne.mpr c5
        have c5b1 : (a1 != 3) = true := bne_iff_ne.mpr c5
        by_cases c6 : a1 = 5
        · rw [if_pos c6] at H
          have c6b0 : (a1 == 5) = true := beq_iff_eq.mpr c6
          have c6b1 : (a1 != 5) = false := bne_eq_false_iff_eq.mpr c6
          clear c6
          have H' := Aside0.mk H
          clear H
          go_wp2
          go_meet
          case rel => exact ⟨_, ((a1 == 5)), (by first | rfl | (simp; done) | (simp [*]; done)), H', ⟨by first | omega | exact Nat.le_refl _⟩, by repeat (first | exact Drawn0.refl _ | apply Drawn0.step)⟩
        · rw [if_neg c6] at H
          have c6b0 : (a1 == 5) = false := beq_eq_false_iff_ne.mpr c6
          have c6b1 : (a1 != 5) = true := bne_iff_ne.mpr c6
          by_cases c7 : a1 = 7
          · rw [if_pos c7] at H
            have c7b0 : (a1 == 7) = true := beq_iff_eq.mpr c7
            have c7b1 : (a1 != 7) = false := bne_eq_false_iff_eq.mpr c7
            clear c7
            have H' := Aside0.mk H
            clear H
            go_wp2
            go_meet
            case rel => exact ⟨_, ((a1 == 7)), (by first | rfl | (simp; done) | (simp [*]; done)), H', ⟨by first | omega | exact Nat.le_refl _⟩, by repeat (first | exact Drawn0.refl _ | apply Drawn0.step)⟩
          · rw [if_neg c7] at H
            have c7b0 : (a1 == 7) = false := beq_eq_false_iff_ne.mpr c7
            have c7b1 : (a1 != 7) = true := bne_iff_ne.mpr c7
            by_cases c8 : a1 = 8
            · rw [if_pos c8] at H
              have c8b0 : (a1 == 8) = true := beq_iff_eq.mpr c8
              have c8b1 : (a1 != 8) = false := bne_eq_false_iff_eq.mpr c8
              clear c8
              have H' := Aside0.mk H
              clear H
              go_wp2
              go_meet
              case rel => exact ⟨_, ((a1 == 8)), (by first | rfl | (simp; done) | (simp [*]; done)), H', ⟨by first | omega | exact Nat.le_refl _⟩, by repeat (first | exact Drawn0.refl _ | apply Drawn0.step)⟩
            · rw [if_neg c8] at H
              have c8b0 : (a1 == 8) = false := beq_eq_false_iff_ne.mpr c8
              have c8b1 : (a1 != 8) = true := bne_iff_ne.mpr c8
              by_cases c9 : a1 = 10
              · rw [if_pos c9] at H
                have c9b0 : (a1 == 10) = true := beq_iff_eq.mpr c9
                have c9b1 : (a1 != 10) = false := bne_eq_false_iff_eq.mpr c9
                clear c9
                have H' := Aside0.mk H
                clear H
                go_wp2
                go_meet
                case rel => exact ⟨_, ((a1 == 10)), (by first | rfl | (simp; done) | (simp [*]; done)), H', ⟨by first | omega | exact Nat.le_refl _⟩, by repeat (first | exact Drawn0.refl _ | apply Drawn0.step)⟩
              · rw [if_neg c9] at H
                have c9b0 : (a1 == 10) = false := beq_eq_false_iff_ne.mpr c9
                have c9b1 : (a1 != 10) = true := bne_iff_ne.mpr c9
                have H' := Aside0.mk H
                clear H
                go_wp2
                go_meet
                case rel => exact ⟨_, ((a1 == 12)), (by first | rfl | (simp; done) | (simp [*]; done)), H', ⟨by first | omega | exact Nat.le_refl _⟩, by repeat (first | exact Drawn0.refl _ | apply Drawn0.step)⟩
  case rest =>
    clear HC3
    try clear c2
    try clear p2
    try clear c4
    try clear c4b0
    try clear c4b1
    try clear c5
    try clear c5b0
    try clear c5b1
    try clear c6
    try clear c6b0
    try clear c6b1
    try clear c7
    try clear c7b0
    try clear c7b1
    try clear c8
    try clear c8b0
    try clear c8b1
    try clear c9
    try clear c9b0
    try clear c9b1
    obtain ⟨kq, x6_2, rfl, HA, HJ2, ⟨mc2, rfl⟩⟩ := hcut
    cases kq with
    | zero => exact absurd HA.out (by simp [clock_days.j0])
    | succ kj2 =>
      have H := HA.out
      clear HA
      simp only [clock_days.j0] at H
      by_cases c10 : x6_2 = true
      · subst c10
        have H1 : (some 31) = some r := by rw [if_pos rfl] at H; exact H
        clear H
        have H := H1
        clear H1
        obtain rfl := Option.some.inj H
        go_wp2
        go_ret
        exact ⟨by first | rfl | (simp; done) | (simp [*]; done), by repeat (first | exact Drawn0.refl _ | apply Drawn0.step)⟩
      · replace c10 := Bool.eq_false_iff.mpr c10
        subst c10
        have H1 : (if a1 = 4 then (clock_days.j1 kj2 a0 a1 (a1 == 4)) else (if a1 = 6 then (clock_days.j1 kj2 a0 a1 (a1 == 6)) else (if a1 = 9 then (clock_days.j1 kj2 a0 a1 (a1 == 9)) else (clock_days.j1 kj2 a0 a1 (a1 == 11))))) = some r := by rw [if_neg (show ¬ (false = true) by decide)] at H; exact H
        clear H
        have H := H1
        clear H1
        have HC11 := Aside0.mk H
        clear H
        go_upto_if 14 with (fail)
        go_cut [14] (fun v14 wc => ∃ (kq : Nat) (x14_10 : Bool), v14 = .bool x14_10 ∧ Aside0 (clock_days.j1 kq a0 a1 x14_10 = some r) ∧ Aside0 (kq ≤ kj2) ∧ Drawn0 w wc)
        case first =>
          have H := HC11.out
          clear HC11
          by_cases c12 : a1 = 4
          · rw [if_pos c12] at H
            have c12b0 : (a1 == 4) = true := beq_iff_eq.mpr c12
            have c12b1 : (a1 != 4) = false := bne_eq_false_iff_eq.mpr c12
            clear c12
            (first | rw [c12b0] | (simp only [i64_w, i32_w]; rw [c12b0]) | skip)
            have H' := Aside0.mk H
            clear H
            go_wp2
            go_meet
            case rel => exact ⟨_, ((a1 == 4)), (by first | rfl | (simp; done) | (simp [*]; done)), H', ⟨by have := HJ2.out; first | omega | exact Nat.le_refl _⟩, by repeat (first | exact Drawn0.refl _ | apply Drawn0.step)⟩
          · rw [if_neg c12] at H
            have c12b0 : (a1 == 4) = false := beq_eq_false_iff_ne.mpr c12
            have c12b1 : (a1 != 4) = true := bne_iff_ne.mpr c12
            (first | rw [c12b0] | (simp only [i64_w, i32_w]; rw [c12b0]) | skip)
            by_cases c13 : a1 = 6
            · rw [if_pos c13] at H
              have c13b0 : (a1 == 6) = true := beq_iff_eq.mpr c13
              have c13b1 : (a1 != 6) = false := bne_eq_false_iff_eq.mpr c13
              clear c13
              have H' := Aside0.mk H
              clear H
              go_wp2
              go_meet
              case rel => exact ⟨_, ((a1 == 6)), (by first | rfl | (simp; done) | (simp [*]; done)), H', ⟨by have := HJ2.out; first | omega | exact Nat.le_refl _⟩, by repeat (first | exact Drawn0.refl _ | apply Drawn0.step)⟩
            · rw [if_neg c13] at H
              have c13b0 : (a1 == 6) = false := beq_eq_false_iff_ne.mpr c13
              have c13b1 : (a1 != 6) = true := bne_iff_ne.mpr c13
              by_cases c14 : a1 = 9
              · rw [if_pos c14] at H
                have c14b0 : (a1 == 9) = true := beq_iff_eq.mpr c14
                have c14b1 : (a1 != 9) = false := bne_eq_false_iff_eq.mpr c14
                clear c14
                have H' := Aside0.mk H
                clear H
                go_wp2
                go_meet
                case rel => exact ⟨_, ((a1 == 9)), (by first | rfl | (simp; done) | (simp [*]; done)), H', ⟨by have := HJ2.out; first | omega | exact Nat.le_refl _⟩, by repeat (first | exact Drawn0.refl _ | apply Drawn0.step)⟩
              · rw [if_neg c14] at H
                have c14b0 : (a1 == 9) = false := beq_eq_false_iff_ne.mpr c14
                have c14b1 : (a1 != 9) = true := bne_iff_ne.mpr c14
                have H' := Aside0.mk H
                clear H
                go_wp2
                go_meet
                case rel => exact ⟨_, ((a1 == 11)), (by first | rfl | (simp; done) | (simp [*]; done)), H', ⟨by have := HJ2.out; first | omega | exact Nat.le_refl _⟩, by repeat (first | exact Drawn0.refl _ | apply Drawn0.step)⟩
        case rest =>
          clear HC11
          try clear c1
          try clear c2
          try clear p2
          try clear c4
          try clear c4b0
          try clear c4b1
          try clear c5
          try clear c5b0
          try clear c5b1
          try clear c6
          try clear c6b0
          try clear c6b1
          try clear c7
          try clear c7b0
          try clear c7b1
          try clear c8
          try clear c8b0
          try clear c8b1
          try clear c9
          try clear c9b0
          try clear c9b1
          try clear c10
          try clear c12
          try clear c12b0
          try clear c12b1
          try clear c13
          try clear c13b0
          try clear c13b1
          try clear c14
          try clear c14b0
          try clear c14b1
          try clear p2
          obtain ⟨kq, x14_10, rfl, HA, HJ10, ⟨mc10, rfl⟩⟩ := hcut
          cases kq with
          | zero => exact absurd HA.out (by simp [clock_days.j1])
          | succ kj10 =>
            have H := HA.out
            clear HA
            simp only [clock_days.j1] at H
            by_cases c15 : x14_10 = true
            · subst c15
              have H1 : (some 30) = some r := by rw [if_pos rfl] at H; exact H
              clear H
              have H := H1
              clear H1
              obtain rfl := Option.some.inj H
              go_wp2
              go_ret
              exact ⟨by first | rfl | (simp; done) | (simp [*]; done), by repeat (first | exact Drawn0.refl _ | apply Drawn0.step)⟩
            · replace c15 := Bool.eq_false_iff.mpr c15
              subst c15
              have H1 : (if a1 = 2 then ((clock_leap.f a0).bind fun t103 => (if t103 = true then (some 29) else (some 28))) else (some 0)) = some r := by rw [if_neg (show ¬ (false = true) by decide)] at H; exact H
              clear H
              have H := H1
              clear H1
              by_cases c16 : a1 = 2
              · rw [if_pos c16] at H
                have c16b0 : (a1 == 2) = true := beq_iff_eq.mpr c16
                have c16b1 : (a1 != 2) = false := bne_eq_false_iff_eq.mpr c16
                clear c16
                replace H := Option.bind_eq_some_iff.mp H
                obtain ⟨t103, A170, H⟩ := H
                replace H : (if t103 = true then (some 29) else (some 28)) = some r := H
                have A17 := Aside0.mk A170
                clear A170
                by_cases c18 : t103 = true
                · subst c18
                  have H1 : (some 29) = some r := by rw [if_pos rfl] at H; exact H
                  clear H
                  have H := H1
                  clear H1
                  obtain rfl := Option.some.inj H
                  go_wp2_with (first | ((with_reducible refine gate_callee (f := 29) rfl ?_); refine goesL_ (some 22) rfl rfl Tryd.func29 (by kernel_rfl) rfl #[.int .i64 a0] rfl (by (try simp only [List.map_toArray, List.map_cons, List.map_nil]); first | done | rfl | (simp only [List.length_drop, List.length_take]; rfl)) ?_; (with_reducible refine (clock_leap.calls a0 true _ A17.out).mono ?_); rintro e w' ⟨rfl, ⟨nd, rfl⟩⟩; refine ⟨_, rfl, ?_⟩))
                  go_ret
                  exact ⟨by first | rfl | (simp; done) | (simp [*]; done), by repeat (first | exact Drawn0.refl _ | apply Drawn0.step)⟩
                · replace c18 := Bool.eq_false_iff.mpr c18
                  subst c18
                  have H1 : (some 28) = some r := by rw [if_neg (show ¬ (false = true) by decide)] at H; exact H
                  clear H
                  have H := H1
                  clear H1
                  obtain rfl := Option.some.inj H
                  go_wp2_with (first | ((with_reducible refine gate_callee (f := 29) rfl ?_); refine goesL_ (some 22) rfl rfl Tryd.func29 (by kernel_rfl) rfl #[.int .i64 a0] rfl (by (try simp only [List.map_toArray, List.map_cons, List.map_nil]); first | done | rfl | (simp only [List.length_drop, List.length_take]; rfl)) ?_; (with_reducible refine (clock_leap.calls a0 false _ A17.out).mono ?_); rintro e w' ⟨rfl, ⟨nd, rfl⟩⟩; refine ⟨_, rfl, ?_⟩))
                  go_ret
                  exact ⟨by first | rfl | (simp; done) | (simp [*]; done), by repeat (first | exact Drawn0.refl _ | apply Drawn0.step)⟩
              · rw [if_neg c16] at H
                have c16b0 : (a1 == 2) = false := beq_eq_false_iff_ne.mpr c16
                have c16b1 : (a1 != 2) = true := bne_iff_ne.mpr c16
                obtain rfl := Option.some.inj H
                go_wp2
                go_ret
                exact ⟨by first | rfl | (simp; done) | (simp [*]; done), by repeat (first | exact Drawn0.refl _ | apply Drawn0.step)⟩

/-! ### clock_Date: function 16 (given) -/
theorem lp_f (y : Int) (h : 0 ≤ y) : clock_leap.f y = some (decide (Cal.lp y = 1)) := by
  unfold clock_leap.f Cal.lp
  rw [Int.tmod_eq_emod_of_nonneg h, Int.tmod_eq_emod_of_nonneg h, Int.tmod_eq_emod_of_nonneg h]
  by_cases h4 : y % 4 = 0
  · rw [if_pos h4]
    by_cases h1 : y % 100 = 0
    · rw [if_pos h1]
      by_cases h5 : y % 400 = 0
      · rw [if_pos (Or.inr h5)]; simp [h5]
      · rw [if_neg (by omega)]; simp [h5]
    · rw [if_neg h1, if_pos (Or.inl ⟨h4, h1⟩)]; simp
  · rw [if_neg h4]
    by_cases h5 : y % 400 = 0
    · exact absurd h5 (by omega)
    · rw [if_neg (by omega)]; simp [h5]
theorem all_f (y : Int) (h : 0 ≤ y) : clock_all.f y = some (Cal.all y) := by
  unfold clock_all.f Cal.all
  rw [lp_f y h, Option.bind_some]
  have := Cal.lp_01 y
  by_cases hl : Cal.lp y = 1
  · rw [decide_eq_true hl, if_pos rfl, hl]; rfl
  · rw [decide_eq_false hl, if_neg (by simp), show Cal.lp y = 0 by omega]; rfl
theorem days_f (k : Nat) (y m : Int) (h : 0 ≤ y) : clock_days.f (k + 2) y m = some (Cal.dim y m) := by
  have hl := Cal.lp_01 y
  unfold clock_days.f
  by_cases h1 : 1 ≤ m ∧ m ≤ 12
  · rcases Cal.twelve h1.1 h1.2 with rfl | rfl | rfl | rfl | rfl | rfl | rfl | rfl | rfl | rfl | rfl | rfl <;> simp [clock_days.j0, clock_days.j1, Cal.dim, lp_f y h]
    by_cases hl : Cal.lp y = 1
    · rw [if_pos hl, hl]; rfl
    · rw [if_neg hl, show Cal.lp y = 0 by omega]; rfl
  · rw [Cal.dim_0 y m (by omega)]
    have b1 : ∀ j : Int, 1 ≤ j → j ≤ 12 → (m == j) = false := fun j a b => beq_eq_false_iff_ne.2 (by omega)
    rw [if_neg (by omega), if_neg (by omega), if_neg (by omega), if_neg (by omega), if_neg (by omega), if_neg (by omega), b1 12 (by omega) (by omega)]
    simp only [clock_days.j0]
    rw [if_neg (by simp), if_neg (by omega), if_neg (by omega), if_neg (by omega), b1 11 (by omega) (by omega)]
    simp only [clock_days.j1]
    rw [if_neg (by simp), if_neg (by omega)]
theorem of_f (t : Int) (h0 : 0 ≤ t) (h1 : t ≤ 1048576) : clock_Of.f t = some (t / 24, t % 24, 0) := by
  unfold clock_Of.f clock_Check.f
  rw [if_neg (by omega), if_neg (by omega), Option.bind_some, if_pos rfl, Int.tdiv_eq_ediv_of_nonneg h0, Int.tmod_eq_emod_of_nonneg h0]
  congr 2; unfold wrap64; omega
theorem of_bad (t : Int) (h : t < 0 ∨ 1048576 < t) : clock_Of.f t = some (0, 0, 2) := by
  unfold clock_Of.f clock_Check.f
  by_cases h0 : t < 0
  · rw [if_pos h0, Option.bind_some, if_neg (by omega)]
  · rw [if_neg h0, if_pos (by omega), Option.bind_some, if_neg (by omega)]
def clock_Date.f (a0 : Int) : Option (Int × Int × Int × Int × Int) := if a0 < 0 ∨ 1048576 < a0 then some (0, 0, 0, 0, 2) else some (Cal.yr (a0 / 24), Cal.mo (a0 / 24), Cal.da (a0 / 24), a0 % 24, 0)
set_option maxHeartbeats 1000000 in
set_option maxRecDepth 100000 in
theorem clock_Date.bad (t : Int) (w : World) (h : t < 0 ∨ 1048576 < t) :
    Calls Tryd.prog 16 #[.int .i64 t] w fun e w' => e = .returned (.tuple #[.agg #[.int .i64 0, .int .i64 0, .int .i64 0, .int .i64 0], .int .i64 2]) ∧ Below w.heap.size w w' := by
  have ho := GB.hid (of_bad t h)
  go_enter Tryd.func16, Tryd.ntmps16
  go_wp2_with fail
  refine (clock_Of.calls t 0 0 2 _ ho.out).mono ?_
  rintro e w1 ⟨rfl, nd, rfl⟩
  have K := GB.hid ((GB.Blk.new w 39 [.int .i64 0, .int .i64 0, .int .i64 0, .int .i64 0]).drewN nd)
  have c0 := K.out.cell 0 rfl
  have c1 := K.out.cell 1 rfl
  have c2 := K.out.cell 2 rfl
  have c3 := K.out.cell 3 rfl
  go_wp2
  refine bodyPost_ret (v := .tuple #[.agg #[.int .i64 0, .int .i64 0, .int .i64 0, .int .i64 0], .int .i64 2]) (by simp [results, Tryd.results16, go_sem, c0, c1, c2, c3]) rfl ⟨rfl, ?_⟩
  repeat (first | exact GB.bl0 _ | apply GB.bla | apply GB.bldN | apply GB.bld | refine GB.blset ?_ (by omega) _ _)
set_option maxHeartbeats 4000000 in
set_option maxRecDepth 100000 in
theorem clock_Date.fine (t : Int) (w : World) (h0 : 0 ≤ t) (h1 : t ≤ 1048576) (n y m d hr : Int) (hn : n = t / 24) (hy : y = Cal.yr n) (hm : m = Cal.mo n) (hd : d = Cal.da n) (hh : hr = t % 24) :
    Calls Tryd.prog 16 #[.int .i64 t] w fun e w' => e = .returned (.tuple #[.agg #[.int .i64 y, .int .i64 m, .int .i64 d, .int .i64 hr], .int .i64 0]) ∧ Below w.heap.size w w' := by
  have hn0 : 0 ≤ n := by omega
  have hn1 : n ≤ 43690 := by omega
  have hr0 : 0 ≤ hr := by omega
  have hr1 : hr < 24 := by omega
  have HF : Hid (clock_Of.f t = some (n, hr, 0)) := by rw [hn, hh]; exact of_f t h0 h1
  obtain ⟨y0, y1, yb0, yb1⟩ := Cal.yr_is n hn0 hn1
  have hday := Cal.day_is n hn0 hn1
  rw [← hy] at y0 y1 yb0 yb1 hday
  rw [← hm, ← hd] at hday
  have HD := GB.hid hday
  have hm1 := hday.m1
  have hm12 := hday.m12
  clear hn hy hm hd hh hday
  go_enter Tryd.func16, Tryd.ntmps16
  go_wp2_with fail
  refine (clock_Of.calls t n hr 0 _ HF.out).mono ?_
  rintro e w1 ⟨rfl, nd, rfl⟩
  have K := GB.hid ((GB.Blk.new w 39 [.int .i64 0, .int .i64 0, .int .i64 0, .int .i64 0]).drewN nd)
  have HB : Hid (Below w.heap.size w ((w.alloc (.cells #[.int .i64 0, .int .i64 0, .int .i64 0, .int .i64 0] 39)).drewN nd)) := by repeat (first | exact GB.bl0 _ | apply GB.bla | apply GB.bldN)
  go_wp2
  go_loopw [4] (fun r wr => ∃ x : Int, 2000 ≤ x ∧ x ≤ y ∧ r = .int .i64 (n - Cal.yb x) ∧ Hid (GB.Blk wr (w.heap.size + 1) 39 [.int .i64 x, .int .i64 1, .int .i64 0, .int .i64 hr]) ∧ Hid (GB.Blk wr w.heap.size 39 [.int .i64 0, .int .i64 0, .int .i64 0, .int .i64 0]) ∧ Hid (Below w.heap.size w wr)) (fun r wr => (intOf r).toNat)
  case atStart =>
    refine ⟨2000, by omega, y0, by rw [Cal.yb_2000]; simp, ?_, ?_, ?_⟩
    · have hz := GB.Blk.new ((w.alloc (.cells #[.int .i64 0, .int .i64 0, .int .i64 0, .int .i64 0] 39)).drewN nd) 39 [.int .i64 2000, .int .i64 1, .int .i64 0, .int .i64 hr]
      have hs : ((w.alloc (.cells #[.int .i64 0, .int .i64 0, .int .i64 0, .int .i64 0] 39)).drewN nd).heap.size = w.heap.size + 1 := World.size_alloc w _
      rw [hs] at hz
      exact hz
    · exact ((GB.Blk.new w 39 [.int .i64 0, .int .i64 0, .int .i64 0, .int .i64 0]).drewN nd).alloc _
    · repeat (first | exact GB.bl0 _ | apply GB.bla | apply GB.bldN)
  case round =>
    obtain ⟨x, x0, x1, rfl, HK, HZ, HB⟩ := hrel
    have c0 := HK.out.cell 0 rfl
    have c1 := HK.out.cell 1 rfl
    have c2 := HK.out.cell 2 rfl
    have c3 := HK.out.cell 3 rfl
    have f0 := HK.out.free 0
    have f1 := HK.out.free 1
    have f2 := HK.out.free 2
    have HA := GB.hid (all_f x (by omega))
    have ab := Cal.all_bd x
    have bs := Cal.yb_succ x
    have b2000 := Cal.yb_le x0
    rw [Cal.yb_2000] at b2000
    have bm := Cal.yb_le x1
    by_cases hlt : x < y
    · have b3 := Cal.yb_le (show x + 1 ≤ y by omega)
      have BS := GB.hid bs
      have hp : Cal.all x ≤ n - Cal.yb x := by omega
      have hge : decide (Cal.all x ≤ n - Cal.yb x) = true := decide_eq_true hp
      have w1 : IntKind.i64.wrap (n - Cal.yb x - Cal.all x) = n - Cal.yb x - Cal.all x := IntWalk.i64_in _ (by omega)
      have w2 : IntKind.i64.wrap (x + 1) = x + 1 := IntWalk.i64_in _ (by omega)
      clear bs
      go_wp2_with fail
      refine (clock_all.calls x _ _ HA.out).mono ?_
      rintro e w2 ⟨rfl, nd1, rfl⟩
      go_wp2_with fail
      refine (clock_all.calls x _ _ HA.out).mono ?_
      rintro e w2 ⟨rfl, nd2, rfl⟩
      go_wp2
      go_roundw
      case rel =>
        refine ⟨x + 1, by omega, by omega, by rw [BS.out]; congr 1; omega, ?_, ?_, ?_⟩
        · exact (HK.out.drewN _).set 0 (.int .i64 (x + 1))
        · exact (HZ.out.drewN _).far (by omega) 0 _
        · exact GB.blset (GB.bldN HB.out _) (by omega) _ _
      case measure => simp [intOf]; omega
    · have hxy : x = y := by omega
      subst hxy
      have hge : decide (Cal.all x ≤ n - Cal.yb x) = false := decide_eq_false (by omega)
      clear bs
      go_wp2_with fail
      refine (clock_all.calls x _ _ HA.out).mono ?_
      rintro e w2 ⟨rfl, nd1, rfl⟩
      go_wp2
      clear c0 c1 c2 c3 f0 f1 f2
      go_loopw [4] (fun r wr2 => ∃ z : Int, 1 ≤ z ∧ z ≤ m ∧ r = .int .i64 (n - Cal.yb x - Cal.cum x z) ∧ Hid (GB.Blk wr2 (w.heap.size + 1) 39 [.int .i64 x, .int .i64 z, .int .i64 0, .int .i64 hr]) ∧ Hid (GB.Blk wr2 w.heap.size 39 [.int .i64 0, .int .i64 0, .int .i64 0, .int .i64 0]) ∧ Hid (Below w.heap.size w wr2)) (fun r wr2 => (intOf r).toNat)
      case atStart => exact ⟨1, by omega, hm1, by rw [Cal.cum_1]; simp, HK.out.drewN _, HZ.out.drewN _, GB.bldN HB.out _⟩
      case round =>
        clear HK HZ HB
        obtain ⟨z, z0, z1, rfl, HK, HZ, HB⟩ := hrel
        have c0 := HK.out.cell 0 rfl
        have c1 := HK.out.cell 1 rfl
        have c2 := HK.out.cell 2 rfl
        have c3 := HK.out.cell 3 rfl
        have f1 := HK.out.free 1
        have f2 := HK.out.free 2
        have s0 := HZ.out.free 0
        have s1 := HZ.out.free 1
        have s2 := HZ.out.free 2
        have s3 := HZ.out.free 3
        have z0c := HZ.out.cell 0 rfl
        have z1c := HZ.out.cell 1 rfl
        have z2c := HZ.out.cell 2 rfl
        have z3c := HZ.out.cell 3 rfl
        have HA2 := GB.hid (days_f 3 x z (by omega))
        have db := Cal.dim_bd x z (by omega) (by omega)
        have cs := Cal.cum_succ x z (by omega) (by omega)
        have cb := Cal.cum_bd x z (by omega) (by omega)
        have he := HD.out.eq
        have hd1 := HD.out.d1
        have hdd := HD.out.dd
        by_cases hlt : z < m
        · have b3 := Cal.cum_le (y := x) (show 1 ≤ z + 1 by omega) (show z + 1 ≤ m by omega) (by omega)
          have hp : Cal.dim x z ≤ n - Cal.yb x - Cal.cum x z := by omega
          have CS := GB.hid cs
          have HE := GB.hid he
          have hge : decide (Cal.dim x z ≤ n - Cal.yb x - Cal.cum x z) = true := decide_eq_true hp
          have w1 : IntKind.i64.wrap (n - Cal.yb x - Cal.cum x z - Cal.dim x z) = n - Cal.yb x - Cal.cum x z - Cal.dim x z := IntWalk.i64_in _ (by omega)
          have w2 : IntKind.i64.wrap (z + 1) = z + 1 := IntWalk.i64_in _ (by omega)
          clear cs he
          go_wp2_with fail
          refine (clock_days.calls 5 x z _ _ HA2.out).mono ?_
          rintro e w2 ⟨rfl, nd1, rfl⟩
          go_wp2_with fail
          refine (clock_days.calls 5 x z _ _ HA2.out).mono ?_
          rintro e w2 ⟨rfl, nd2, rfl⟩
          go_wp2
          go_roundw
          case rel =>
            refine ⟨z + 1, by omega, by omega, by rw [CS.out]; congr 1; omega, ?_, ?_, ?_⟩
            · exact (HK.out.drewN _).set 1 (.int .i64 (z + 1))
            · exact (HZ.out.drewN _).far (by omega) 1 _
            · exact GB.blset (GB.bldN HB.out _) (by omega) _ _
          case measure => simp [intOf]; omega
        · have hzm : z = m := by omega
          subst hzm
          have hge : decide (Cal.dim x z ≤ n - Cal.yb x - Cal.cum x z) = false := decide_eq_false (by omega)
          have w1 : IntKind.i64.wrap (n - Cal.yb x - Cal.cum x z + 1) = d := by rw [IntWalk.i64_in _ (by omega)]; omega
          clear cs he
          go_wp2_with fail
          refine (clock_days.calls 5 x z _ _ HA2.out).mono ?_
          rintro e w2 ⟨rfl, nd1, rfl⟩
          go_wp2
          refine bodyPost_ret (v := .tuple #[.agg #[.int .i64 x, .int .i64 z, .int .i64 d, .int .i64 hr], .int .i64 0]) (by simp [results, Tryd.results16, go_sem, z0c, z1c, z2c, z3c]) rfl ⟨rfl, ?_⟩
          repeat (first | exact HB.out | apply GB.bla | apply GB.bldN | apply GB.bld | refine GB.blset ?_ (by omega) _ _)
theorem clock_Date.calls (a0 : Int) (r1 : Int) (r2 : Int) (r3 : Int) (r4 : Int) (r5 : Int) (w : World) (h : clock_Date.f a0 = some (r1, r2, r3, r4, r5)) :
    Calls Tryd.prog 16 #[.int .i64 a0] w fun e w' => e = .returned (.tuple #[.agg #[.int .i64 r1, .int .i64 r2, .int .i64 r3, .int .i64 r4], .int .i64 r5]) ∧ Below w.heap.size w w' := by
  unfold clock_Date.f at h
  by_cases hc : a0 < 0 ∨ 1048576 < a0
  · rw [if_pos hc] at h
    cases h
    exact clock_Date.bad a0 w hc
  · rw [if_neg hc] at h
    cases h
    exact clock_Date.fine a0 w (by omega) (by omega) _ _ _ _ _ rfl rfl rfl rfl rfl


end Go.Proofs.YtlaiginblmckoaaDoor.PK9
