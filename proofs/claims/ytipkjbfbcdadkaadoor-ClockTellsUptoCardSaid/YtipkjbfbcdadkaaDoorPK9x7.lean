/- Written by wip/xprint.py (the kit's print over given functions). -/
import Derived.Test.YtipkjbfbcdadkaaDoorPK9x0
import Derived.Test.YtipkjbfbcdadkaaDoorPK9x1
import Derived.Test.YtipkjbfbcdadkaaDoorPK9x2
import Derived.Test.YtipkjbfbcdadkaaDoorPK9x3
import Derived.Test.YtipkjbfbcdadkaaDoorPK9x4
import Derived.Test.YtipkjbfbcdadkaaDoorPK9x5
import Derived.Test.YtipkjbfbcdadkaaDoorPK9x6
namespace Go.Proofs.YtipkjbfbcdadkaaDoor.PK9
open Go.RowKit Go.Proofs.YtipkjbfbcdadkaaDoorW.PrintWords Go.Proofs.YtipkjbfbcdadkaaDoorW.PrintLast Go.Proofs.YtipkjbfbcdadkaaDoorW.PrintMore
attribute [local go_sem] max2_int min2_int max_two min_two max_three min_three max_four min_four   -- for this text's walks alone
set_option linter.unusedVariables false
set_option linter.unusedSimpArgs false

/-! ### slackwaterref09_Span: function 29 -/
def slackwaterref09_Span.j0 : Nat → Int → Int → Bool → Option (Int)
  | 0, _, _, _ => none
  | k + 1, x0, x1, x15 => if x15 = true then (some 2) else (if (wrap64 (x1 - x0)) > 4096 then (some 3) else (some 0))
def slackwaterref09_Span.f (k : Nat) (a0 : Int) (a1 : Int) : Option (Int) := if a0 < 0 then (slackwaterref09_Span.j0 k a0 a1 true) else (if a1 > 1048577 then (slackwaterref09_Span.j0 k a0 a1 true) else (slackwaterref09_Span.j0 k a0 a1 (decide (a0 > a1))))
theorem slackwaterref09_Span.mono_l : ∀ k, (∀ y0 y1 y2, LeO (slackwaterref09_Span.j0 k y0 y1 y2) (slackwaterref09_Span.j0 (k + 1) y0 y1 y2))
  | 0 => fun _ _ _ r h => by simp [slackwaterref09_Span.j0] at h
  | k + 1 => by
    have ih0 := slackwaterref09_Span.mono_l k
    · intro y0 y1 y2
      unfold slackwaterref09_Span.j0
      repeat' first
      | (with_reducible exact ih0 _ _ _)
      | (with_reducible exact LeO.refl _)
      | (with_reducible exact LeO.none _)
      | (with_reducible refine LeO.ite ?_ ?_)
      | (with_reducible refine LeO.bind ?_ (fun _ => ?_))
      | exact ih0 _ _ _
      | exact LeO.none _
      | refine LeO.ite ?_ ?_
      | refine LeO.bind ?_ (fun _ => ?_)
theorem slackwaterref09_Span.mono : ∀ a0 a1 k, LeO (slackwaterref09_Span.f k a0 a1) (slackwaterref09_Span.f (k + 1) a0 a1) := by
  intro a0 a1 k
  have ih0 := slackwaterref09_Span.mono_l k
  unfold slackwaterref09_Span.f
  repeat' first
      | (with_reducible exact ih0 _ _ _)
      | (with_reducible exact LeO.refl _)
      | (with_reducible exact LeO.none _)
      | (with_reducible refine LeO.ite ?_ ?_)
      | (with_reducible refine LeO.bind ?_ (fun _ => ?_))
      | exact ih0 _ _ _
      | exact LeO.none _
      | refine LeO.ite ?_ ?_
      | refine LeO.bind ?_ (fun _ => ?_)
set_option maxHeartbeats 8000000 in
set_option maxRecDepth 100000 in
theorem slackwaterref09_Span.calls (k : Nat) (a0 : Int) (a1 : Int) (r : Int) (w : World) (h : slackwaterref09_Span.f k a0 a1 = some r) :
    Calls Tryd.prog 29 #[.int .i64 a0, .int .i64 a1] w fun e w' => e = .returned (.int .i64 r) ∧ Drawn0 w w' := by
  have H : (if a0 < 0 then (slackwaterref09_Span.j0 k a0 a1 true) else (if a1 > 1048577 then (slackwaterref09_Span.j0 k a0 a1 true) else (slackwaterref09_Span.j0 k a0 a1 (decide (a0 > a1))))) = some r := h
  clear h
  have HC3 := Aside0.mk H
  clear H
  go_enter Tryd.func29, Tryd.ntmps29
  go_upto_region 1 with (fail)
  go_cut [15] (fun v15 wc => ∃ (kq : Nat) (x15_2 : Bool), v15 = .bool x15_2 ∧ Aside0 (slackwaterref09_Span.j0 kq a0 a1 x15_2 = some r) ∧ Aside0 (kq ≤ k) ∧ Drawn0 w wc)
  case first =>
    have H := HC3.out
    clear HC3
    by_cases c4 : a0 < 0
    · rw [if_pos c4] at H
      have c4b0 : decide (a0 < 0) = true := decide_eq_true c4
      clear c4
      (first | rw [c4b0] | (simp only [i64_w, i32_w]; rw [c4b0]) | skip)
      have H' := Aside0.mk H
      clear H
      go_wp2
      go_meet
      case rel => exact ⟨_, (true), (by first | rfl | (simp; done) | (simp [*]; done)), H', ⟨by first | omega | exact Nat.le_refl _⟩, by repeat (first | exact Drawn0.refl _ | apply Drawn0.step)⟩
    · rw [if_neg c4] at H
      have c4b0 : decide (a0 < 0) = false := decide_eq_false c4
      clear c4
      (first | rw [c4b0] | (simp only [i64_w, i32_w]; rw [c4b0]) | skip)
      by_cases c5 : a1 > 1048577
      · rw [if_pos c5] at H
        have c5b0 : decide (1048577 < a1) = true := decide_eq_true c5
        clear c5
        have H' := Aside0.mk H
        clear H
        go_wp2
        go_meet
        case rel => exact ⟨_, (true), (by first | rfl | (simp; done) | (simp [*]; done)), H', ⟨by first | omega | exact Nat.le_refl _⟩, by repeat (first | exact Drawn0.refl _ | apply Drawn0.step)⟩
      · rw [if_neg c5] at H
        have c5b0 : decide (1048577 < a1) = false := decide_eq_false c5
        clear c5
        have H' := Aside0.mk H
        clear H
        go_wp2
        go_meet
        case rel => exact ⟨_, (decide (a0 > a1)), (by first | rfl | (simp; done) | (simp [*]; done)), H', ⟨by first | omega | exact Nat.le_refl _⟩, by repeat (first | exact Drawn0.refl _ | apply Drawn0.step)⟩
  case rest =>
    clear HC3
    try clear c2
    try clear p2
    try clear c4
    try clear c4b0
    try clear c5
    try clear c5b0
    obtain ⟨kq, x15_2, rfl, HA, HJ2, ⟨mc2, rfl⟩⟩ := hcut
    cases kq with
    | zero => exact absurd HA.out (by simp [slackwaterref09_Span.j0])
    | succ kj2 =>
      have H := HA.out
      clear HA
      simp only [slackwaterref09_Span.j0] at H
      by_cases c6 : x15_2 = true
      · subst c6
        have H1 : (some 2) = some r := by rw [if_pos rfl] at H; exact H
        clear H
        have H := H1
        clear H1
        obtain rfl := Option.some.inj H
        go_wp2
        go_ret
        exact ⟨by first | rfl | (simp; done) | (simp [*]; done), by repeat (first | exact Drawn0.refl _ | apply Drawn0.step)⟩
      · replace c6 := Bool.eq_false_iff.mpr c6
        subst c6
        have H1 : (if (wrap64 (a1 - a0)) > 4096 then (some 3) else (some 0)) = some r := by rw [if_neg (show ¬ (false = true) by decide)] at H; exact H
        clear H
        have H := H1
        clear H1
        by_cases c7 : (wrap64 (a1 - a0)) > 4096
        · rw [if_pos c7] at H
          have c7b0 : decide (4096 < (wrap64 (a1 - a0))) = true := decide_eq_true c7
          clear c7
          obtain rfl := Option.some.inj H
          go_wp2
          go_ret
          exact ⟨by first | rfl | (simp; done) | (simp [*]; done), by repeat (first | exact Drawn0.refl _ | apply Drawn0.step)⟩
        · rw [if_neg c7] at H
          have c7b0 : decide (4096 < (wrap64 (a1 - a0))) = false := decide_eq_false c7
          clear c7
          obtain rfl := Option.some.inj H
          go_wp2
          go_ret
          exact ⟨by first | rfl | (simp; done) | (simp [*]; done), by repeat (first | exact Drawn0.refl _ | apply Drawn0.step)⟩

/-! ### slackwaterlaw09_ClockTells: function 5 -/
mutual
def slackwaterlaw09_ClockTells.j0 : Nat → Int → Int → Int → Int → Int → Int → Int → Int → Int → Int → Int → Int → Int → ByteArray → ByteArray → Int → Int → Bool → Int → Int → Int → Int → Int → Int → Int → Int → Option (Bool)
  | 0, _, _, _, _, _, _, _, _, _, _, _, _, _, _, _, _, _, _, _, _, _, _, _, _, _, _ => none
  | k + 1, x0, x5, x6, x15, x17, x19, x20, x22, x23, x29, x31, x33, x35, x37, x39, x41, x43, x153, x181000, x181001, x181002, x181003, x187000, x187001, x187002, x187003 => if x153 = true then (none) else (if x181000 = x187000 then (if x181001 = x187001 then (if x181002 = x187002 then (slackwaterlaw09_ClockTells.j1 k x0 x5 x6 x15 x17 x19 x20 x22 x23 x29 x31 x33 x35 x37 x39 x41 x43 (x181003 == x187003)) else (slackwaterlaw09_ClockTells.j1 k x0 x5 x6 x15 x17 x19 x20 x22 x23 x29 x31 x33 x35 x37 x39 x41 x43 false)) else (slackwaterlaw09_ClockTells.j1 k x0 x5 x6 x15 x17 x19 x20 x22 x23 x29 x31 x33 x35 x37 x39 x41 x43 false)) else (slackwaterlaw09_ClockTells.j1 k x0 x5 x6 x15 x17 x19 x20 x22 x23 x29 x31 x33 x35 x37 x39 x41 x43 false))
def slackwaterlaw09_ClockTells.j1 : Nat → Int → Int → Int → Int → Int → Int → Int → Int → Int → Int → Int → Int → Int → ByteArray → ByteArray → Int → Int → Bool → Option (Bool)
  | 0, _, _, _, _, _, _, _, _, _, _, _, _, _, _, _, _, _, _ => none
  | k + 1, x0, x5, x6, x15, x17, x19, x20, x22, x23, x29, x31, x33, x35, x37, x39, x41, x43, x45 => (clock_Check.f x0).bind fun t203 => ((slackwaterref09_Check.f x0).bind fun t204 => (if t203 = t204 then ((clock_Span.f k x5 x6).bind fun t205 => ((slackwaterref09_Span.f k x5 x6).bind fun t206 => (if x45 = true then (if t205 = t206 then (if x15 = x17 then (if x19 = x22 then (if x20 = x23 then (if x29 = x31 then (if x33 = x35 then (if x37.toList = x39.toList then (some (x41 == x43)) else (none)) else (none)) else (none)) else (none)) else (none)) else (none)) else (none)) else (none)))) else (if x45 = true then (none) else (none))))
end
def slackwaterlaw09_ClockTells.f (k : Nat) (a0 : Int) (a1 : Int) (a2 : Int) (a3_0 : Int) (a3_1 : Int) (a3_2 : Int) (a3_3 : Int) (a4 : ByteArray) (a5 : Int) (a6 : Int) : Option (Bool) := (clock_At.f a1 a2).bind fun bt165 => ((slackwaterref09_At.f a1 a2).bind fun bt167 => ((clock_Of.f a0).bind fun bt169 => ((slackwaterref09_Of.f a0).bind fun bt172 => ((clock_Date.f a0).bind fun bt175 => ((slackwaterref09_Date.f k a0).bind fun bt181 => ((clock_From.f k a3_0 a3_1 a3_2 a3_3).bind fun bt187 => ((slackwaterref09_From.f k a3_0 a3_1 a3_2 a3_3).bind fun bt189 => ((clock_Week.f a0).bind fun bt191 => ((slackwaterref09_Week.f a0).bind fun bt193 => ((clock_Text.f a0).bind fun bt195 => ((slackwaterref09_Text.f k a0).bind fun bt197 => ((clock_Parse.f k a4).bind fun bt199 => ((slackwaterref09_Parse.f k a4).bind fun bt201 => (if bt165.2 = bt167.2 then (if bt169.2.2 = bt172.2.2 then (if bt175.2.2.2.2 = bt181.2.2.2.2 then (if bt187.2 = bt189.2 then (if bt191.2 = bt193.2 then (if bt195.2 = bt197.2 then (slackwaterlaw09_ClockTells.j0 k a0 a5 a6 bt165.1 bt167.1 bt169.1 bt169.2.1 bt172.1 bt172.2.1 bt187.1 bt189.1 bt191.1 bt193.1 bt195.1 bt197.1 bt199.1 bt201.1 (bt199.2 != bt201.2) bt175.1 bt175.2.1 bt175.2.2.1 bt175.2.2.2.1 bt181.1 bt181.2.1 bt181.2.2.1 bt181.2.2.2.1) else (none)) else (none)) else (none)) else (none)) else (none)) else (none)))))))))))))))
theorem slackwaterlaw09_ClockTells.mono_l : ∀ k, (∀ y0 y1 y2 y3 y4 y5 y6 y7 y8 y9 y10 y11 y12 y13 y14 y15 y16 y17 y18 y19 y20 y21 y22 y23 y24 y25, LeO (slackwaterlaw09_ClockTells.j0 k y0 y1 y2 y3 y4 y5 y6 y7 y8 y9 y10 y11 y12 y13 y14 y15 y16 y17 y18 y19 y20 y21 y22 y23 y24 y25) (slackwaterlaw09_ClockTells.j0 (k + 1) y0 y1 y2 y3 y4 y5 y6 y7 y8 y9 y10 y11 y12 y13 y14 y15 y16 y17 y18 y19 y20 y21 y22 y23 y24 y25)) ∧ (∀ y0 y1 y2 y3 y4 y5 y6 y7 y8 y9 y10 y11 y12 y13 y14 y15 y16 y17, LeO (slackwaterlaw09_ClockTells.j1 k y0 y1 y2 y3 y4 y5 y6 y7 y8 y9 y10 y11 y12 y13 y14 y15 y16 y17) (slackwaterlaw09_ClockTells.j1 (k + 1) y0 y1 y2 y3 y4 y5 y6 y7 y8 y9 y10 y11 y12 y13 y14 y15 y16 y17))
  | 0 => ⟨fun _ _ _ _ _ _ _ _ _ _ _ _ _ _ _ _ _ _ _ _ _ _ _ _ _ _ r h => by simp [slackwaterlaw09_ClockTells.j0] at h, fun _ _ _ _ _ _ _ _ _ _ _ _ _ _ _ _ _ _ r h => by simp [slackwaterlaw09_ClockTells.j1] at h⟩
  | k + 1 => by
    obtain ⟨ih0, ih1⟩ := slackwaterlaw09_ClockTells.mono_l k
    refine ⟨?_, ?_⟩
    · intro y0 y1 y2 y3 y4 y5 y6 y7 y8 y9 y10 y11 y12 y13 y14 y15 y16 y17 y18 y19 y20 y21 y22 y23 y24 y25
      unfold slackwaterlaw09_ClockTells.j0
      repeat' first
      | (with_reducible exact ih0 _ _ _ _ _ _ _ _ _ _ _ _ _ _ _ _ _ _ _ _ _ _ _ _ _ _)
      | (with_reducible exact ih1 _ _ _ _ _ _ _ _ _ _ _ _ _ _ _ _ _ _)
      | (with_reducible exact clock_From.mono _ _ _ _ _)
      | (with_reducible exact clock_Parse.mono _ _)
      | (with_reducible exact clock_Span.mono _ _ _)
      | (with_reducible exact slackwaterref09_Date.mono _ _)
      | (with_reducible exact slackwaterref09_From.mono _ _ _ _ _)
      | (with_reducible exact slackwaterref09_Parse.mono _ _)
      | (with_reducible exact slackwaterref09_Span.mono _ _ _)
      | (with_reducible exact slackwaterref09_Text.mono _ _)
      | (with_reducible exact LeO.refl _)
      | (with_reducible exact LeO.none _)
      | (with_reducible refine LeO.ite ?_ ?_)
      | (with_reducible refine LeO.bind ?_ (fun _ => ?_))
      | exact ih0 _ _ _ _ _ _ _ _ _ _ _ _ _ _ _ _ _ _ _ _ _ _ _ _ _ _
      | exact ih1 _ _ _ _ _ _ _ _ _ _ _ _ _ _ _ _ _ _
      | exact clock_From.mono _ _ _ _ _
      | exact clock_Parse.mono _ _
      | exact clock_Span.mono _ _ _
      | exact slackwaterref09_Date.mono _ _
      | exact slackwaterref09_From.mono _ _ _ _ _
      | exact slackwaterref09_Parse.mono _ _
      | exact slackwaterref09_Span.mono _ _ _
      | exact slackwaterref09_Text.mono _ _
      | exact LeO.none _
      | refine LeO.ite ?_ ?_
      | refine LeO.bind ?_ (fun _ => ?_)
    · intro y0 y1 y2 y3 y4 y5 y6 y7 y8 y9 y10 y11 y12 y13 y14 y15 y16 y17
      unfold slackwaterlaw09_ClockTells.j1
      repeat' first
      | (with_reducible exact ih0 _ _ _ _ _ _ _ _ _ _ _ _ _ _ _ _ _ _ _ _ _ _ _ _ _ _)
      | (with_reducible exact ih1 _ _ _ _ _ _ _ _ _ _ _ _ _ _ _ _ _ _)
      | (with_reducible exact clock_From.mono _ _ _ _ _)
      | (with_reducible exact clock_Parse.mono _ _)
      | (with_reducible exact clock_Span.mono _ _ _)
      | (with_reducible exact slackwaterref09_Date.mono _ _)
      | (with_reducible exact slackwaterref09_From.mono _ _ _ _ _)
      | (with_reducible exact slackwaterref09_Parse.mono _ _)
      | (with_reducible exact slackwaterref09_Span.mono _ _ _)
      | (with_reducible exact slackwaterref09_Text.mono _ _)
      | (with_reducible exact LeO.refl _)
      | (with_reducible exact LeO.none _)
      | (with_reducible refine LeO.ite ?_ ?_)
      | (with_reducible refine LeO.bind ?_ (fun _ => ?_))
      | exact ih0 _ _ _ _ _ _ _ _ _ _ _ _ _ _ _ _ _ _ _ _ _ _ _ _ _ _
      | exact ih1 _ _ _ _ _ _ _ _ _ _ _ _ _ _ _ _ _ _
      | exact clock_From.mono _ _ _ _ _
      | exact clock_Parse.mono _ _
      | exact clock_Span.mono _ _ _
      | exact slackwaterref09_Date.mono _ _
      | exact slackwaterref09_From.mono _ _ _ _ _
      | exact slackwaterref09_Parse.mono _ _
      | exact slackwaterref09_Span.mono _ _ _
      | exact slackwaterref09_Text.mono _ _
      | exact LeO.none _
      | refine LeO.ite ?_ ?_
      | refine LeO.bind ?_ (fun _ => ?_)
theorem slackwaterlaw09_ClockTells.mono : ∀ a0 a1 a2 a3 a4 a5 a6 a7 a8 a9 k, LeO (slackwaterlaw09_ClockTells.f k a0 a1 a2 a3 a4 a5 a6 a7 a8 a9) (slackwaterlaw09_ClockTells.f (k + 1) a0 a1 a2 a3 a4 a5 a6 a7 a8 a9) := by
  intro a0 a1 a2 a3 a4 a5 a6 a7 a8 a9 k
  obtain ⟨ih0, ih1⟩ := slackwaterlaw09_ClockTells.mono_l k
  unfold slackwaterlaw09_ClockTells.f
  repeat' first
      | (with_reducible exact ih0 _ _ _ _ _ _ _ _ _ _ _ _ _ _ _ _ _ _ _ _ _ _ _ _ _ _)
      | (with_reducible exact ih1 _ _ _ _ _ _ _ _ _ _ _ _ _ _ _ _ _ _)
      | (with_reducible exact clock_From.mono _ _ _ _ _)
      | (with_reducible exact clock_Parse.mono _ _)
      | (with_reducible exact clock_Span.mono _ _ _)
      | (with_reducible exact slackwaterref09_Date.mono _ _)
      | (with_reducible exact slackwaterref09_From.mono _ _ _ _ _)
      | (with_reducible exact slackwaterref09_Parse.mono _ _)
      | (with_reducible exact slackwaterref09_Span.mono _ _ _)
      | (with_reducible exact slackwaterref09_Text.mono _ _)
      | (with_reducible exact LeO.refl _)
      | (with_reducible exact LeO.none _)
      | (with_reducible refine LeO.ite ?_ ?_)
      | (with_reducible refine LeO.bind ?_ (fun _ => ?_))
      | exact ih0 _ _ _ _ _ _ _ _ _ _ _ _ _ _ _ _ _ _ _ _ _ _ _ _ _ _
      | exact ih1 _ _ _ _ _ _ _ _ _ _ _ _ _ _ _ _ _ _
      | exact clock_From.mono _ _ _ _ _
      | exact clock_Parse.mono _ _
      | exact clock_Span.mono _ _ _
      | exact slackwaterref09_Date.mono _ _
      | exact slackwaterref09_From.mono _ _ _ _ _
      | exact slackwaterref09_Parse.mono _ _
      | exact slackwaterref09_Span.mono _ _ _
      | exact slackwaterref09_Text.mono _ _
      | exact LeO.none _
      | refine LeO.ite ?_ ?_
      | refine LeO.bind ?_ (fun _ => ?_)
set_option maxHeartbeats 8000000 in
set_option maxRecDepth 100000 in
theorem slackwaterlaw09_ClockTells.calls (k : Nat) (a0 : Int) (a1 : Int) (a2 : Int) (a3_0 : Int) (a3_1 : Int) (a3_2 : Int) (a3_3 : Int) (a4 : ByteArray) (a5 : Int) (a6 : Int) (r : Bool) (w : World) (hL : LW w) (h : slackwaterlaw09_ClockTells.f k a0 a1 a2 a3_0 a3_1 a3_2 a3_3 a4 a5 a6 = some r) :
    Calls Tryd.prog 5 #[.int .i64 a0, .int .i64 a1, .int .i64 a2, .agg #[.int .i64 a3_0, .int .i64 a3_1, .int .i64 a3_2, .int .i64 a3_3], .string a4, .int .i64 a5, .int .i64 a6] w fun e w' => e = .returned (.bool r) ∧ Below w.heap.size w w' := by
  have hu23 := Tryd.underlying23
  have HB := Aside0.mk (Below.refl w.heap.size w)
  have H : ((clock_At.f a1 a2).bind fun bt165 => ((slackwaterref09_At.f a1 a2).bind fun bt167 => ((clock_Of.f a0).bind fun bt169 => ((slackwaterref09_Of.f a0).bind fun bt172 => ((clock_Date.f a0).bind fun bt175 => ((slackwaterref09_Date.f k a0).bind fun bt181 => ((clock_From.f k a3_0 a3_1 a3_2 a3_3).bind fun bt187 => ((slackwaterref09_From.f k a3_0 a3_1 a3_2 a3_3).bind fun bt189 => ((clock_Week.f a0).bind fun bt191 => ((slackwaterref09_Week.f a0).bind fun bt193 => ((clock_Text.f a0).bind fun bt195 => ((slackwaterref09_Text.f k a0).bind fun bt197 => ((clock_Parse.f k a4).bind fun bt199 => ((slackwaterref09_Parse.f k a4).bind fun bt201 => (if bt165.2 = bt167.2 then (if bt169.2.2 = bt172.2.2 then (if bt175.2.2.2.2 = bt181.2.2.2.2 then (if bt187.2 = bt189.2 then (if bt191.2 = bt193.2 then (if bt195.2 = bt197.2 then (slackwaterlaw09_ClockTells.j0 k a0 a5 a6 bt165.1 bt167.1 bt169.1 bt169.2.1 bt172.1 bt172.2.1 bt187.1 bt189.1 bt191.1 bt193.1 bt195.1 bt197.1 bt199.1 bt201.1 (bt199.2 != bt201.2) bt175.1 bt175.2.1 bt175.2.2.1 bt175.2.2.2.1 bt181.1 bt181.2.1 bt181.2.2.1 bt181.2.2.2.1) else (none)) else (none)) else (none)) else (none)) else (none)) else (none)))))))))))))))) = some r := h
  clear h
  replace H := Option.bind_eq_some_iff.mp H
  obtain ⟨⟨t165, t166⟩, A80, H⟩ := H
  replace H : ((slackwaterref09_At.f a1 a2).bind fun bt167 => ((clock_Of.f a0).bind fun bt169 => ((slackwaterref09_Of.f a0).bind fun bt172 => ((clock_Date.f a0).bind fun bt175 => ((slackwaterref09_Date.f k a0).bind fun bt181 => ((clock_From.f k a3_0 a3_1 a3_2 a3_3).bind fun bt187 => ((slackwaterref09_From.f k a3_0 a3_1 a3_2 a3_3).bind fun bt189 => ((clock_Week.f a0).bind fun bt191 => ((slackwaterref09_Week.f a0).bind fun bt193 => ((clock_Text.f a0).bind fun bt195 => ((slackwaterref09_Text.f k a0).bind fun bt197 => ((clock_Parse.f k a4).bind fun bt199 => ((slackwaterref09_Parse.f k a4).bind fun bt201 => (if t166 = bt167.2 then (if bt169.2.2 = bt172.2.2 then (if bt175.2.2.2.2 = bt181.2.2.2.2 then (if bt187.2 = bt189.2 then (if bt191.2 = bt193.2 then (if bt195.2 = bt197.2 then (slackwaterlaw09_ClockTells.j0 k a0 a5 a6 t165 bt167.1 bt169.1 bt169.2.1 bt172.1 bt172.2.1 bt187.1 bt189.1 bt191.1 bt193.1 bt195.1 bt197.1 bt199.1 bt201.1 (bt199.2 != bt201.2) bt175.1 bt175.2.1 bt175.2.2.1 bt175.2.2.2.1 bt181.1 bt181.2.1 bt181.2.2.1 bt181.2.2.2.1) else (none)) else (none)) else (none)) else (none)) else (none)) else (none))))))))))))))) = some r := H
  have A8 := Aside0.mk A80
  clear A80
  replace H := Option.bind_eq_some_iff.mp H
  obtain ⟨⟨t167, t168⟩, A90, H⟩ := H
  replace H : ((clock_Of.f a0).bind fun bt169 => ((slackwaterref09_Of.f a0).bind fun bt172 => ((clock_Date.f a0).bind fun bt175 => ((slackwaterref09_Date.f k a0).bind fun bt181 => ((clock_From.f k a3_0 a3_1 a3_2 a3_3).bind fun bt187 => ((slackwaterref09_From.f k a3_0 a3_1 a3_2 a3_3).bind fun bt189 => ((clock_Week.f a0).bind fun bt191 => ((slackwaterref09_Week.f a0).bind fun bt193 => ((clock_Text.f a0).bind fun bt195 => ((slackwaterref09_Text.f k a0).bind fun bt197 => ((clock_Parse.f k a4).bind fun bt199 => ((slackwaterref09_Parse.f k a4).bind fun bt201 => (if t166 = t168 then (if bt169.2.2 = bt172.2.2 then (if bt175.2.2.2.2 = bt181.2.2.2.2 then (if bt187.2 = bt189.2 then (if bt191.2 = bt193.2 then (if bt195.2 = bt197.2 then (slackwaterlaw09_ClockTells.j0 k a0 a5 a6 t165 t167 bt169.1 bt169.2.1 bt172.1 bt172.2.1 bt187.1 bt189.1 bt191.1 bt193.1 bt195.1 bt197.1 bt199.1 bt201.1 (bt199.2 != bt201.2) bt175.1 bt175.2.1 bt175.2.2.1 bt175.2.2.2.1 bt181.1 bt181.2.1 bt181.2.2.1 bt181.2.2.2.1) else (none)) else (none)) else (none)) else (none)) else (none)) else (none)))))))))))))) = some r := H
  have A9 := Aside0.mk A90
  clear A90
  replace H := Option.bind_eq_some_iff.mp H
  obtain ⟨⟨t169, t170, t171⟩, A100, H⟩ := H
  replace H : ((slackwaterref09_Of.f a0).bind fun bt172 => ((clock_Date.f a0).bind fun bt175 => ((slackwaterref09_Date.f k a0).bind fun bt181 => ((clock_From.f k a3_0 a3_1 a3_2 a3_3).bind fun bt187 => ((slackwaterref09_From.f k a3_0 a3_1 a3_2 a3_3).bind fun bt189 => ((clock_Week.f a0).bind fun bt191 => ((slackwaterref09_Week.f a0).bind fun bt193 => ((clock_Text.f a0).bind fun bt195 => ((slackwaterref09_Text.f k a0).bind fun bt197 => ((clock_Parse.f k a4).bind fun bt199 => ((slackwaterref09_Parse.f k a4).bind fun bt201 => (if t166 = t168 then (if t171 = bt172.2.2 then (if bt175.2.2.2.2 = bt181.2.2.2.2 then (if bt187.2 = bt189.2 then (if bt191.2 = bt193.2 then (if bt195.2 = bt197.2 then (slackwaterlaw09_ClockTells.j0 k a0 a5 a6 t165 t167 t169 t170 bt172.1 bt172.2.1 bt187.1 bt189.1 bt191.1 bt193.1 bt195.1 bt197.1 bt199.1 bt201.1 (bt199.2 != bt201.2) bt175.1 bt175.2.1 bt175.2.2.1 bt175.2.2.2.1 bt181.1 bt181.2.1 bt181.2.2.1 bt181.2.2.2.1) else (none)) else (none)) else (none)) else (none)) else (none)) else (none))))))))))))) = some r := H
  have A10 := Aside0.mk A100
  clear A100
  replace H := Option.bind_eq_some_iff.mp H
  obtain ⟨⟨t172, t173, t174⟩, A110, H⟩ := H
  replace H : ((clock_Date.f a0).bind fun bt175 => ((slackwaterref09_Date.f k a0).bind fun bt181 => ((clock_From.f k a3_0 a3_1 a3_2 a3_3).bind fun bt187 => ((slackwaterref09_From.f k a3_0 a3_1 a3_2 a3_3).bind fun bt189 => ((clock_Week.f a0).bind fun bt191 => ((slackwaterref09_Week.f a0).bind fun bt193 => ((clock_Text.f a0).bind fun bt195 => ((slackwaterref09_Text.f k a0).bind fun bt197 => ((clock_Parse.f k a4).bind fun bt199 => ((slackwaterref09_Parse.f k a4).bind fun bt201 => (if t166 = t168 then (if t171 = t174 then (if bt175.2.2.2.2 = bt181.2.2.2.2 then (if bt187.2 = bt189.2 then (if bt191.2 = bt193.2 then (if bt195.2 = bt197.2 then (slackwaterlaw09_ClockTells.j0 k a0 a5 a6 t165 t167 t169 t170 t172 t173 bt187.1 bt189.1 bt191.1 bt193.1 bt195.1 bt197.1 bt199.1 bt201.1 (bt199.2 != bt201.2) bt175.1 bt175.2.1 bt175.2.2.1 bt175.2.2.2.1 bt181.1 bt181.2.1 bt181.2.2.1 bt181.2.2.2.1) else (none)) else (none)) else (none)) else (none)) else (none)) else (none)))))))))))) = some r := H
  have A11 := Aside0.mk A110
  clear A110
  replace H := Option.bind_eq_some_iff.mp H
  obtain ⟨⟨t175, t176, t177, t178, t179⟩, A120, H⟩ := H
  replace H : ((slackwaterref09_Date.f k a0).bind fun bt181 => ((clock_From.f k a3_0 a3_1 a3_2 a3_3).bind fun bt187 => ((slackwaterref09_From.f k a3_0 a3_1 a3_2 a3_3).bind fun bt189 => ((clock_Week.f a0).bind fun bt191 => ((slackwaterref09_Week.f a0).bind fun bt193 => ((clock_Text.f a0).bind fun bt195 => ((slackwaterref09_Text.f k a0).bind fun bt197 => ((clock_Parse.f k a4).bind fun bt199 => ((slackwaterref09_Parse.f k a4).bind fun bt201 => (if t166 = t168 then (if t171 = t174 then (if t179 = bt181.2.2.2.2 then (if bt187.2 = bt189.2 then (if bt191.2 = bt193.2 then (if bt195.2 = bt197.2 then (slackwaterlaw09_ClockTells.j0 k a0 a5 a6 t165 t167 t169 t170 t172 t173 bt187.1 bt189.1 bt191.1 bt193.1 bt195.1 bt197.1 bt199.1 bt201.1 (bt199.2 != bt201.2) t175 t176 t177 t178 bt181.1 bt181.2.1 bt181.2.2.1 bt181.2.2.2.1) else (none)) else (none)) else (none)) else (none)) else (none)) else (none))))))))))) = some r := H
  have A12 := Aside0.mk A120
  clear A120
  replace H := Option.bind_eq_some_iff.mp H
  obtain ⟨⟨t181, t182, t183, t184, t185⟩, A130, H⟩ := H
  replace H : ((clock_From.f k a3_0 a3_1 a3_2 a3_3).bind fun bt187 => ((slackwaterref09_From.f k a3_0 a3_1 a3_2 a3_3).bind fun bt189 => ((clock_Week.f a0).bind fun bt191 => ((slackwaterref09_Week.f a0).bind fun bt193 => ((clock_Text.f a0).bind fun bt195 => ((slackwaterref09_Text.f k a0).bind fun bt197 => ((clock_Parse.f k a4).bind fun bt199 => ((slackwaterref09_Parse.f k a4).bind fun bt201 => (if t166 = t168 then (if t171 = t174 then (if t179 = t185 then (if bt187.2 = bt189.2 then (if bt191.2 = bt193.2 then (if bt195.2 = bt197.2 then (slackwaterlaw09_ClockTells.j0 k a0 a5 a6 t165 t167 t169 t170 t172 t173 bt187.1 bt189.1 bt191.1 bt193.1 bt195.1 bt197.1 bt199.1 bt201.1 (bt199.2 != bt201.2) t175 t176 t177 t178 t181 t182 t183 t184) else (none)) else (none)) else (none)) else (none)) else (none)) else (none)))))))))) = some r := H
  have A13 := Aside0.mk A130
  clear A130
  replace H := Option.bind_eq_some_iff.mp H
  obtain ⟨⟨t187, t188⟩, A140, H⟩ := H
  replace H : ((slackwaterref09_From.f k a3_0 a3_1 a3_2 a3_3).bind fun bt189 => ((clock_Week.f a0).bind fun bt191 => ((slackwaterref09_Week.f a0).bind fun bt193 => ((clock_Text.f a0).bind fun bt195 => ((slackwaterref09_Text.f k a0).bind fun bt197 => ((clock_Parse.f k a4).bind fun bt199 => ((slackwaterref09_Parse.f k a4).bind fun bt201 => (if t166 = t168 then (if t171 = t174 then (if t179 = t185 then (if t188 = bt189.2 then (if bt191.2 = bt193.2 then (if bt195.2 = bt197.2 then (slackwaterlaw09_ClockTells.j0 k a0 a5 a6 t165 t167 t169 t170 t172 t173 t187 bt189.1 bt191.1 bt193.1 bt195.1 bt197.1 bt199.1 bt201.1 (bt199.2 != bt201.2) t175 t176 t177 t178 t181 t182 t183 t184) else (none)) else (none)) else (none)) else (none)) else (none)) else (none))))))))) = some r := H
  have A14 := Aside0.mk A140
  clear A140
  replace H := Option.bind_eq_some_iff.mp H
  obtain ⟨⟨t189, t190⟩, A150, H⟩ := H
  replace H : ((clock_Week.f a0).bind fun bt191 => ((slackwaterref09_Week.f a0).bind fun bt193 => ((clock_Text.f a0).bind fun bt195 => ((slackwaterref09_Text.f k a0).bind fun bt197 => ((clock_Parse.f k a4).bind fun bt199 => ((slackwaterref09_Parse.f k a4).bind fun bt201 => (if t166 = t168 then (if t171 = t174 then (if t179 = t185 then (if t188 = t190 then (if bt191.2 = bt193.2 then (if bt195.2 = bt197.2 then (slackwaterlaw09_ClockTells.j0 k a0 a5 a6 t165 t167 t169 t170 t172 t173 t187 t189 bt191.1 bt193.1 bt195.1 bt197.1 bt199.1 bt201.1 (bt199.2 != bt201.2) t175 t176 t177 t178 t181 t182 t183 t184) else (none)) else (none)) else (none)) else (none)) else (none)) else (none)))))))) = some r := H
  have A15 := Aside0.mk A150
  clear A150
  replace H := Option.bind_eq_some_iff.mp H
  obtain ⟨⟨t191, t192⟩, A160, H⟩ := H
  replace H : ((slackwaterref09_Week.f a0).bind fun bt193 => ((clock_Text.f a0).bind fun bt195 => ((slackwaterref09_Text.f k a0).bind fun bt197 => ((clock_Parse.f k a4).bind fun bt199 => ((slackwaterref09_Parse.f k a4).bind fun bt201 => (if t166 = t168 then (if t171 = t174 then (if t179 = t185 then (if t188 = t190 then (if t192 = bt193.2 then (if bt195.2 = bt197.2 then (slackwaterlaw09_ClockTells.j0 k a0 a5 a6 t165 t167 t169 t170 t172 t173 t187 t189 t191 bt193.1 bt195.1 bt197.1 bt199.1 bt201.1 (bt199.2 != bt201.2) t175 t176 t177 t178 t181 t182 t183 t184) else (none)) else (none)) else (none)) else (none)) else (none)) else (none))))))) = some r := H
  have A16 := Aside0.mk A160
  clear A160
  replace H := Option.bind_eq_some_iff.mp H
  obtain ⟨⟨t193, t194⟩, A170, H⟩ := H
  replace H : ((clock_Text.f a0).bind fun bt195 => ((slackwaterref09_Text.f k a0).bind fun bt197 => ((clock_Parse.f k a4).bind fun bt199 => ((slackwaterref09_Parse.f k a4).bind fun bt201 => (if t166 = t168 then (if t171 = t174 then (if t179 = t185 then (if t188 = t190 then (if t192 = t194 then (if bt195.2 = bt197.2 then (slackwaterlaw09_ClockTells.j0 k a0 a5 a6 t165 t167 t169 t170 t172 t173 t187 t189 t191 t193 bt195.1 bt197.1 bt199.1 bt201.1 (bt199.2 != bt201.2) t175 t176 t177 t178 t181 t182 t183 t184) else (none)) else (none)) else (none)) else (none)) else (none)) else (none)))))) = some r := H
  have A17 := Aside0.mk A170
  clear A170
  replace H := Option.bind_eq_some_iff.mp H
  obtain ⟨⟨t195, t196⟩, A180, H⟩ := H
  replace H : ((slackwaterref09_Text.f k a0).bind fun bt197 => ((clock_Parse.f k a4).bind fun bt199 => ((slackwaterref09_Parse.f k a4).bind fun bt201 => (if t166 = t168 then (if t171 = t174 then (if t179 = t185 then (if t188 = t190 then (if t192 = t194 then (if t196 = bt197.2 then (slackwaterlaw09_ClockTells.j0 k a0 a5 a6 t165 t167 t169 t170 t172 t173 t187 t189 t191 t193 t195 bt197.1 bt199.1 bt201.1 (bt199.2 != bt201.2) t175 t176 t177 t178 t181 t182 t183 t184) else (none)) else (none)) else (none)) else (none)) else (none)) else (none))))) = some r := H
  have A18 := Aside0.mk A180
  clear A180
  replace H := Option.bind_eq_some_iff.mp H
  obtain ⟨⟨t197, t198⟩, A190, H⟩ := H
  replace H : ((clock_Parse.f k a4).bind fun bt199 => ((slackwaterref09_Parse.f k a4).bind fun bt201 => (if t166 = t168 then (if t171 = t174 then (if t179 = t185 then (if t188 = t190 then (if t192 = t194 then (if t196 = t198 then (slackwaterlaw09_ClockTells.j0 k a0 a5 a6 t165 t167 t169 t170 t172 t173 t187 t189 t191 t193 t195 t197 bt199.1 bt201.1 (bt199.2 != bt201.2) t175 t176 t177 t178 t181 t182 t183 t184) else (none)) else (none)) else (none)) else (none)) else (none)) else (none)))) = some r := H
  have A19 := Aside0.mk A190
  clear A190
  replace H := Option.bind_eq_some_iff.mp H
  obtain ⟨⟨t199, t200⟩, A200, H⟩ := H
  replace H : ((slackwaterref09_Parse.f k a4).bind fun bt201 => (if t166 = t168 then (if t171 = t174 then (if t179 = t185 then (if t188 = t190 then (if t192 = t194 then (if t196 = t198 then (slackwaterlaw09_ClockTells.j0 k a0 a5 a6 t165 t167 t169 t170 t172 t173 t187 t189 t191 t193 t195 t197 t199 bt201.1 (t200 != bt201.2) t175 t176 t177 t178 t181 t182 t183 t184) else (none)) else (none)) else (none)) else (none)) else (none)) else (none))) = some r := H
  have A20 := Aside0.mk A200
  clear A200
  replace H := Option.bind_eq_some_iff.mp H
  obtain ⟨⟨t201, t202⟩, A210, H⟩ := H
  replace H : (if t166 = t168 then (if t171 = t174 then (if t179 = t185 then (if t188 = t190 then (if t192 = t194 then (if t196 = t198 then (slackwaterlaw09_ClockTells.j0 k a0 a5 a6 t165 t167 t169 t170 t172 t173 t187 t189 t191 t193 t195 t197 t199 t201 (t200 != t202) t175 t176 t177 t178 t181 t182 t183 t184) else (none)) else (none)) else (none)) else (none)) else (none)) else (none)) = some r := H
  have A21 := Aside0.mk A210
  clear A210
  have HC22 := Aside0.mk H
  clear H
  go_enter Tryd.func5, Tryd.ntmps5
  go_upto_region 15 with (first | ((with_reducible refine gate_dst (N := 10) rfl ?_); refine box_event ?hg (N := 10) ?hd (cs := #[.int .i64 a3_0, .int .i64 a3_1, .int .i64 a3_2, .int .i64 a3_3]) (t := 23) ?hr ?_; (case hd => rfl); (case hg => rfl); (case hr => first | (go_simp; done) | (go_simp; rfl)); intro gb164 hg w23 hbox hb; have n0_ := Aside0.mk (below_step (by repeat (first | (with_reducible first | exact HB.out | apply below_alloc | apply pw_below_drewN | apply below_drew1) | exact HB.out)) hb); have n1_ := Aside0.mk (hbox); have n2_ := Aside0.mk ((by rw [hg]; exact (below_size (by repeat (first | (with_reducible first | exact HB.out | apply below_alloc | apply pw_below_drewN | apply below_drew1) | exact HB.out))) : w.heap.size ≤ gb164)); have n3_ := Aside0.mk ((by rw [hg]; exact (below_size (by repeat (first | (with_reducible first | exact HB.out | apply below_alloc | apply pw_below_drewN | apply below_drew1) | exact HB.out))) : w.heap.size ≤ gb164)); clear HB; have HB := n0_; have BK164 := n1_; have GW164 := n2_; have GE164 := n3_; clear n0_ n1_ n2_ n3_; clear hb hbox hg) | ((with_reducible refine gate_callee (f := 14) rfl ?_); refine goesL_ (some 50) rfl rfl Tryd.func14 (by kernel_rfl) rfl #[.int .i64 a1, .int .i64 a2] rfl (by (try simp only [List.map_toArray, List.map_cons, List.map_nil]); first | done | rfl | (simp only [List.length_drop, List.length_take]; rfl)) ?_; (with_reducible refine (clock_At.calls a1 a2 t165 t166 _ A8.out).mono ?_); rintro e w' ⟨rfl, ⟨nd, rfl⟩⟩; refine ⟨_, rfl, ?_⟩; (try (rw [drewN_self w23]; generalize hq_ : World.drewN w23 _ = w23; have n0_ : Aside0 (w23.heap[gb164]? = some (.cells #[.int .i64 a3_0, .int .i64 a3_1, .int .i64 a3_2, .int .i64 a3_3] 23 (0, 0))) := ⟨by rw [← hq_]; exact (by (with_reducible repeat (first | refine blk_drewN ?_ _ | refine blk_drew ?_ | refine blk_alloc ?_ _)); exact BK164.out)⟩; have n1_ : Aside0 (Below w.heap.size w w23) := ⟨by rw [← hq_]; exact (by repeat (first | (with_reducible first | exact HB.out | apply below_alloc | apply pw_below_drewN | apply below_drew1 | refine below_set ?_ GE164.out) | exact HB.out))⟩; clear BK164 HB hq_; have BK164 := n0_; have HB := n1_; clear n0_ n1_))) | ((with_reducible refine gate_callee (f := 20) rfl ?_); refine goesL_ (some 56) rfl rfl Tryd.func20 (by kernel_rfl) rfl #[.int .i64 a1, .int .i64 a2] rfl (by (try simp only [List.map_toArray, List.map_cons, List.map_nil]); first | done | rfl | (simp only [List.length_drop, List.length_take]; rfl)) ?_; (with_reducible refine (slackwaterref09_At.calls a1 a2 t167 t168 _ A9.out).mono ?_); rintro e w' ⟨rfl, ⟨nd, rfl⟩⟩; refine ⟨_, rfl, ?_⟩; (try (rw [drewN_self w23]; generalize hq_ : World.drewN w23 _ = w23; have n0_ : Aside0 (w23.heap[gb164]? = some (.cells #[.int .i64 a3_0, .int .i64 a3_1, .int .i64 a3_2, .int .i64 a3_3] 23 (0, 0))) := ⟨by rw [← hq_]; exact (by (with_reducible repeat (first | refine blk_drewN ?_ _ | refine blk_drew ?_ | refine blk_alloc ?_ _)); exact BK164.out)⟩; have n1_ : Aside0 (Below w.heap.size w w23) := ⟨by rw [← hq_]; exact (by repeat (first | (with_reducible first | exact HB.out | apply below_alloc | apply pw_below_drewN | apply below_drew1 | refine below_set ?_ GE164.out) | exact HB.out))⟩; clear BK164 HB hq_; have BK164 := n0_; have HB := n1_; clear n0_ n1_))) | ((with_reducible refine gate_callee (f := 9) rfl ?_); refine goesL_ (some 61) rfl rfl Tryd.func9 (by kernel_rfl) rfl #[.int .i64 a0] rfl (by (try simp only [List.map_toArray, List.map_cons, List.map_nil]); first | done | rfl | (simp only [List.length_drop, List.length_take]; rfl)) ?_; (with_reducible refine (clock_Of.calls a0 t169 t170 t171 _ A10.out).mono ?_); rintro e w' ⟨rfl, ⟨nd, rfl⟩⟩; refine ⟨_, rfl, ?_⟩; (try (rw [drewN_self w23]; generalize hq_ : World.drewN w23 _ = w23; have n0_ : Aside0 (w23.heap[gb164]? = some (.cells #[.int .i64 a3_0, .int .i64 a3_1, .int .i64 a3_2, .int .i64 a3_3] 23 (0, 0))) := ⟨by rw [← hq_]; exact (by (with_reducible repeat (first | refine blk_drewN ?_ _ | refine blk_drew ?_ | refine blk_alloc ?_ _)); exact BK164.out)⟩; have n1_ : Aside0 (Below w.heap.size w w23) := ⟨by rw [← hq_]; exact (by repeat (first | (with_reducible first | exact HB.out | apply below_alloc | apply pw_below_drewN | apply below_drew1 | refine below_set ?_ GE164.out) | exact HB.out))⟩; clear BK164 HB hq_; have BK164 := n0_; have HB := n1_; clear n0_ n1_))) | ((with_reducible refine gate_callee (f := 21) rfl ?_); refine goesL_ (some 67) rfl rfl Tryd.func21 (by kernel_rfl) rfl #[.int .i64 a0] rfl (by (try simp only [List.map_toArray, List.map_cons, List.map_nil]); first | done | rfl | (simp only [List.length_drop, List.length_take]; rfl)) ?_; (with_reducible refine (slackwaterref09_Of.calls a0 t172 t173 t174 _ A11.out).mono ?_); rintro e w' ⟨rfl, ⟨nd, rfl⟩⟩; refine ⟨_, rfl, ?_⟩; (try (rw [drewN_self w23]; generalize hq_ : World.drewN w23 _ = w23; have n0_ : Aside0 (w23.heap[gb164]? = some (.cells #[.int .i64 a3_0, .int .i64 a3_1, .int .i64 a3_2, .int .i64 a3_3] 23 (0, 0))) := ⟨by rw [← hq_]; exact (by (with_reducible repeat (first | refine blk_drewN ?_ _ | refine blk_drew ?_ | refine blk_alloc ?_ _)); exact BK164.out)⟩; have n1_ : Aside0 (Below w.heap.size w w23) := ⟨by rw [← hq_]; exact (by repeat (first | (with_reducible first | exact HB.out | apply below_alloc | apply pw_below_drewN | apply below_drew1 | refine below_set ?_ GE164.out) | exact HB.out))⟩; clear BK164 HB hq_; have BK164 := n0_; have HB := n1_; clear n0_ n1_))) | ((with_reducible refine gate_callee (f := 10) rfl ?_); refine goesL_ (some 73) rfl rfl Tryd.func10 (by kernel_rfl) rfl #[.int .i64 a0] rfl (by (try simp only [List.map_toArray, List.map_cons, List.map_nil]); first | done | rfl | (simp only [List.length_drop, List.length_take]; rfl)) ?_; (with_reducible refine (clock_Date.calls a0 t175 t176 t177 t178 t179 _ A12.out).mono ?_); rintro e w24 ⟨rfl, hb⟩; refine ⟨_, rfl, ?_⟩; have n0_ := Aside0.mk (blk_below (g := gb164) (o := .cells #[.int .i64 a3_0, .int .i64 a3_1, .int .i64 a3_2, .int .i64 a3_3] 23 (0, 0)) (by (with_reducible repeat (first | refine blk_drewN ?_ _ | refine blk_drew ?_ | refine blk_alloc ?_ _)); exact BK164.out) hb); have n1_ := Aside0.mk (below_step (by repeat (first | (with_reducible first | exact HB.out | apply below_alloc | apply pw_below_drewN | apply below_drew1 | refine below_set ?_ GE164.out) | exact HB.out)) hb); clear BK164; clear HB; have BK164 := n0_; have HB := n1_; clear n0_ n1_; (try clear hb); (try clear hb2); (try clear hk); (try clear hi)) | ((with_reducible refine gate_dst (N := 25) rfl ?_); refine box_event ?hg (N := 25) ?hd (cs := #[.int .i64 0, .int .i64 0, .int .i64 0, .int .i64 0]) (t := 23) ?hr ?_; (case hd => rfl); (case hg => rfl); (case hr => first | (go_simp; done) | (go_simp; rfl)); intro gb180 hg w25 hbox hb; have n0_ := Aside0.mk (blk_below (g := gb164) (o := .cells #[.int .i64 a3_0, .int .i64 a3_1, .int .i64 a3_2, .int .i64 a3_3] 23 (0, 0)) (by (with_reducible repeat (first | refine blk_drewN ?_ _ | refine blk_drew ?_ | refine blk_alloc ?_ _)); exact BK164.out) hb); have n1_ := Aside0.mk (below_step (by repeat (first | (with_reducible first | exact HB.out | apply below_alloc | apply pw_below_drewN | apply below_drew1 | refine below_set ?_ GE164.out) | exact HB.out)) hb); have n2_ := Aside0.mk (hbox); have n3_ := Aside0.mk ((by rw [hg]; exact (below_size (by repeat (first | (with_reducible first | exact HB.out | apply below_alloc | apply pw_below_drewN | apply below_drew1 | refine below_set ?_ GE164.out) | exact HB.out))) : w.heap.size ≤ gb180)); have n4_ := Aside0.mk ((by rw [hg]; exact (below_size (by repeat (first | (with_reducible first | exact HB.out | apply below_alloc | apply pw_below_drewN | apply below_drew1 | refine below_set ?_ GE164.out) | exact HB.out))) : w.heap.size ≤ gb180)); have n5_ := Aside0.mk ((by rw [hg]; exact Nat.ne_of_lt (blk_lt (g := gb164) (o := .cells #[.int .i64 a3_0, .int .i64 a3_1, .int .i64 a3_2, .int .i64 a3_3] 23 (0, 0)) (by (with_reducible repeat (first | refine blk_drewN ?_ _ | refine blk_drew ?_ | refine blk_alloc ?_ _)); exact BK164.out)) : gb164 ≠ gb180)); have n6_ := Aside0.mk ((by rw [hg]; exact Nat.ne_of_gt (blk_lt (g := gb164) (o := .cells #[.int .i64 a3_0, .int .i64 a3_1, .int .i64 a3_2, .int .i64 a3_3] 23 (0, 0)) (by (with_reducible repeat (first | refine blk_drewN ?_ _ | refine blk_drew ?_ | refine blk_alloc ?_ _)); exact BK164.out)) : gb180 ≠ gb164)); clear BK164; clear HB; have BK164 := n0_; have HB := n1_; have BK180 := n2_; have GW180 := n3_; have GE180 := n4_; have NB164_180 := n5_; have NB180_164 := n6_; clear n0_ n1_ n2_ n3_ n4_ n5_ n6_; clear hb hbox hg; have hnb26 := NB180_164.out; have hnc26 := NB164_180.out; have hcz27_0 : w25.cell? ⟨gb180, 0, none⟩ = some (.int .i64 0) := (blk_cell BK180.out 0).trans rfl; have hcz27_1 : w25.cell? ⟨gb180, 1, none⟩ = some (.int .i64 0) := (blk_cell BK180.out 1).trans rfl; have hcz27_2 : w25.cell? ⟨gb180, 2, none⟩ = some (.int .i64 0) := (blk_cell BK180.out 2).trans rfl; have hcz27_3 : w25.cell? ⟨gb180, 3, none⟩ = some (.int .i64 0) := (blk_cell BK180.out 3).trans rfl; have hfz27_0 := blk_frozen BK180.out 0; have hfz27_1 := blk_frozen BK180.out 1; have hfz27_2 := blk_frozen BK180.out 2; have hfz27_3 := blk_frozen BK180.out 3) | ((with_reducible refine gate_callee (f := 22) rfl ?_); refine goesL_ (some 78) rfl rfl Tryd.func22 (by kernel_rfl) rfl #[.int .i64 a0] rfl (by (try simp only [List.map_toArray, List.map_cons, List.map_nil]); first | done | rfl | (simp only [List.length_drop, List.length_take]; rfl)) ?_; (with_reducible refine (slackwaterref09_Date.calls k a0 t181 t182 t183 t184 t185 _ A13.out).mono ?_); rintro e w28 ⟨rfl, hb⟩; refine ⟨_, rfl, ?_⟩; have n0_ := Aside0.mk (blk_below (g := gb164) (o := .cells #[.int .i64 a3_0, .int .i64 a3_1, .int .i64 a3_2, .int .i64 a3_3] 23 (0, 0)) (by (with_reducible repeat (first | refine blk_drewN ?_ _ | refine blk_drew ?_ | refine blk_alloc ?_ _)); refine blk_far ?_ NB164_180.out _; (with_reducible repeat (first | refine blk_drewN ?_ _ | refine blk_drew ?_ | refine blk_alloc ?_ _)); refine blk_far ?_ NB164_180.out _; (with_reducible repeat (first | refine blk_drewN ?_ _ | refine blk_drew ?_ | refine blk_alloc ?_ _)); refine blk_far ?_ NB164_180.out _; (with_reducible repeat (first | refine blk_drewN ?_ _ | refine blk_drew ?_ | refine blk_alloc ?_ _)); refine blk_far ?_ NB164_180.out _; (with_reducible repeat (first | refine blk_drewN ?_ _ | refine blk_drew ?_ | refine blk_alloc ?_ _)); exact BK164.out) hb); have n1_ := Aside0.mk (blk_below (g := gb180) (o := .cells #[.int .i64 t175, .int .i64 t176, .int .i64 t177, .int .i64 t178] 23 (0, 0)) (by (with_reducible repeat (first | refine blk_drewN ?_ _ | refine blk_drew ?_ | refine blk_alloc ?_ _)); refine blk_put (cs := #[.int .i64 t175, .int .i64 t176, .int .i64 t177, .int .i64 0]) ?_ 3 _ rfl; (with_reducible repeat (first | refine blk_drewN ?_ _ | refine blk_drew ?_ | refine blk_alloc ?_ _)); refine blk_put (cs := #[.int .i64 t175, .int .i64 t176, .int .i64 0, .int .i64 0]) ?_ 2 _ rfl; (with_reducible repeat (first | refine blk_drewN ?_ _ | refine blk_drew ?_ | refine blk_alloc ?_ _)); refine blk_put (cs := #[.int .i64 t175, .int .i64 0, .int .i64 0, .int .i64 0]) ?_ 1 _ rfl; (with_reducible repeat (first | refine blk_drewN ?_ _ | refine blk_drew ?_ | refine blk_alloc ?_ _)); refine blk_put (cs := #[.int .i64 0, .int .i64 0, .int .i64 0, .int .i64 0]) ?_ 0 _ rfl; (with_reducible repeat (first | refine blk_drewN ?_ _ | refine blk_drew ?_ | refine blk_alloc ?_ _)); exact BK180.out) hb); have n2_ := Aside0.mk (below_step (by repeat (first | (with_reducible first | exact HB.out | apply below_alloc | apply pw_below_drewN | apply below_drew1 | refine below_set ?_ GE164.out | refine below_set ?_ GE180.out) | exact HB.out)) hb); clear BK164; clear BK180; clear HB; have BK164 := n0_; have BK180 := n1_; have HB := n2_; clear n0_ n1_ n2_; (try clear hb); (try clear hb2); (try clear hk); (try clear hi)) | ((with_reducible refine gate_dst (N := 27) rfl ?_); refine box_event ?hg (N := 27) ?hd (cs := #[.int .i64 0, .int .i64 0, .int .i64 0, .int .i64 0]) (t := 23) ?hr ?_; (case hd => rfl); (case hg => rfl); (case hr => first | (go_simp; done) | (go_simp; rfl)); intro gb186 hg w29 hbox hb; have n0_ := Aside0.mk (blk_below (g := gb164) (o := .cells #[.int .i64 a3_0, .int .i64 a3_1, .int .i64 a3_2, .int .i64 a3_3] 23 (0, 0)) (by (with_reducible repeat (first | refine blk_drewN ?_ _ | refine blk_drew ?_ | refine blk_alloc ?_ _)); exact BK164.out) hb); have n1_ := Aside0.mk (blk_below (g := gb180) (o := .cells #[.int .i64 t175, .int .i64 t176, .int .i64 t177, .int .i64 t178] 23 (0, 0)) (by (with_reducible repeat (first | refine blk_drewN ?_ _ | refine blk_drew ?_ | refine blk_alloc ?_ _)); exact BK180.out) hb); have n2_ := Aside0.mk (below_step (by repeat (first | (with_reducible first | exact HB.out | apply below_alloc | apply pw_below_drewN | apply below_drew1 | refine below_set ?_ GE164.out | refine below_set ?_ GE180.out) | exact HB.out)) hb); have n3_ := Aside0.mk (hbox); have n4_ := Aside0.mk ((by rw [hg]; exact (below_size (by repeat (first | (with_reducible first | exact HB.out | apply below_alloc | apply pw_below_drewN | apply below_drew1 | refine below_set ?_ GE164.out | refine below_set ?_ GE180.out) | exact HB.out))) : w.heap.size ≤ gb186)); have n5_ := Aside0.mk ((by rw [hg]; exact (below_size (by repeat (first | (with_reducible first | exact HB.out | apply below_alloc | apply pw_below_drewN | apply below_drew1 | refine below_set ?_ GE164.out | refine below_set ?_ GE180.out) | exact HB.out))) : w.heap.size ≤ gb186)); have n6_ := Aside0.mk ((by rw [hg]; exact Nat.ne_of_lt (blk_lt (g := gb164) (o := .cells #[.int .i64 a3_0, .int .i64 a3_1, .int .i64 a3_2, .int .i64 a3_3] 23 (0, 0)) (by (with_reducible repeat (first | refine blk_drewN ?_ _ | refine blk_drew ?_ | refine blk_alloc ?_ _)); exact BK164.out)) : gb164 ≠ gb186)); have n7_ := Aside0.mk ((by rw [hg]; exact Nat.ne_of_gt (blk_lt (g := gb164) (o := .cells #[.int .i64 a3_0, .int .i64 a3_1, .int .i64 a3_2, .int .i64 a3_3] 23 (0, 0)) (by (with_reducible repeat (first | refine blk_drewN ?_ _ | refine blk_drew ?_ | refine blk_alloc ?_ _)); exact BK164.out)) : gb186 ≠ gb164)); have n8_ := Aside0.mk ((by rw [hg]; exact Nat.ne_of_lt (blk_lt (g := gb180) (o := .cells #[.int .i64 t175, .int .i64 t176, .int .i64 t177, .int .i64 t178] 23 (0, 0)) (by (with_reducible repeat (first | refine blk_drewN ?_ _ | refine blk_drew ?_ | refine blk_alloc ?_ _)); exact BK180.out)) : gb180 ≠ gb186)); have n9_ := Aside0.mk ((by rw [hg]; exact Nat.ne_of_gt (blk_lt (g := gb180) (o := .cells #[.int .i64 t175, .int .i64 t176, .int .i64 t177, .int .i64 t178] 23 (0, 0)) (by (with_reducible repeat (first | refine blk_drewN ?_ _ | refine blk_drew ?_ | refine blk_alloc ?_ _)); exact BK180.out)) : gb186 ≠ gb180)); clear BK164; clear BK180; clear HB; have BK164 := n0_; have BK180 := n1_; have HB := n2_; have BK186 := n3_; have GW186 := n4_; have GE186 := n5_; have NB164_186 := n6_; have NB186_164 := n7_; have NB180_186 := n8_; have NB186_180 := n9_; clear n0_ n1_ n2_ n3_ n4_ n5_ n6_ n7_ n8_ n9_; clear hb hbox hg; have hnb30 := NB186_164.out; have hnc30 := NB164_186.out; have hnb31 := NB186_180.out; have hnc31 := NB180_186.out; have hcz32_0 : w29.cell? ⟨gb186, 0, none⟩ = some (.int .i64 0) := (blk_cell BK186.out 0).trans rfl; have hcz32_1 : w29.cell? ⟨gb186, 1, none⟩ = some (.int .i64 0) := (blk_cell BK186.out 1).trans rfl; have hcz32_2 : w29.cell? ⟨gb186, 2, none⟩ = some (.int .i64 0) := (blk_cell BK186.out 2).trans rfl; have hcz32_3 : w29.cell? ⟨gb186, 3, none⟩ = some (.int .i64 0) := (blk_cell BK186.out 3).trans rfl; have hfz32_0 := blk_frozen BK186.out 0; have hfz32_1 := blk_frozen BK186.out 1; have hfz32_2 := blk_frozen BK186.out 2; have hfz32_3 := blk_frozen BK186.out 3; have hcz33_0 : w29.cell? ⟨gb164, 0, none⟩ = some (.int .i64 a3_0) := (blk_cell BK164.out 0).trans rfl; have hcz33_1 : w29.cell? ⟨gb164, 1, none⟩ = some (.int .i64 a3_1) := (blk_cell BK164.out 1).trans rfl; have hcz33_2 : w29.cell? ⟨gb164, 2, none⟩ = some (.int .i64 a3_2) := (blk_cell BK164.out 2).trans rfl; have hcz33_3 : w29.cell? ⟨gb164, 3, none⟩ = some (.int .i64 a3_3) := (blk_cell BK164.out 3).trans rfl; have hfz33_0 := blk_frozen BK164.out 0; have hfz33_1 := blk_frozen BK164.out 1; have hfz33_2 := blk_frozen BK164.out 2; have hfz33_3 := blk_frozen BK164.out 3) | ((with_reducible refine gate_callee (f := 15) rfl ?_); refine goesL_ (some 83) rfl rfl Tryd.func15 (by kernel_rfl) rfl #[.agg #[.int .i64 a3_0, .int .i64 a3_1, .int .i64 a3_2, .int .i64 a3_3]] rfl (by (try simp only [List.map_toArray, List.map_cons, List.map_nil]); first | done | rfl | (simp only [List.length_drop, List.length_take]; rfl)) ?_; (with_reducible refine (clock_From.calls k a3_0 a3_1 a3_2 a3_3 t187 t188 _ A14.out).mono ?_); rintro e w34 ⟨rfl, hb⟩; refine ⟨_, rfl, ?_⟩; have n0_ := Aside0.mk (blk_below (g := gb164) (o := .cells #[.int .i64 a3_0, .int .i64 a3_1, .int .i64 a3_2, .int .i64 a3_3] 23 (0, 0)) (by (with_reducible repeat (first | refine blk_drewN ?_ _ | refine blk_drew ?_ | refine blk_alloc ?_ _)); refine blk_far ?_ NB164_186.out _; (with_reducible repeat (first | refine blk_drewN ?_ _ | refine blk_drew ?_ | refine blk_alloc ?_ _)); refine blk_far ?_ NB164_186.out _; (with_reducible repeat (first | refine blk_drewN ?_ _ | refine blk_drew ?_ | refine blk_alloc ?_ _)); refine blk_far ?_ NB164_186.out _; (with_reducible repeat (first | refine blk_drewN ?_ _ | refine blk_drew ?_ | refine blk_alloc ?_ _)); refine blk_far ?_ NB164_186.out _; (with_reducible repeat (first | refine blk_drewN ?_ _ | refine blk_drew ?_ | refine blk_alloc ?_ _)); exact BK164.out) hb); have n1_ := Aside0.mk (blk_below (g := gb180) (o := .cells #[.int .i64 t175, .int .i64 t176, .int .i64 t177, .int .i64 t178] 23 (0, 0)) (by (with_reducible repeat (first | refine blk_drewN ?_ _ | refine blk_drew ?_ | refine blk_alloc ?_ _)); refine blk_far ?_ NB180_186.out _; (with_reducible repeat (first | refine blk_drewN ?_ _ | refine blk_drew ?_ | refine blk_alloc ?_ _)); refine blk_far ?_ NB180_186.out _; (with_reducible repeat (first | refine blk_drewN ?_ _ | refine blk_drew ?_ | refine blk_alloc ?_ _)); refine blk_far ?_ NB180_186.out _; (with_reducible repeat (first | refine blk_drewN ?_ _ | refine blk_drew ?_ | refine blk_alloc ?_ _)); refine blk_far ?_ NB180_186.out _; (with_reducible repeat (first | refine blk_drewN ?_ _ | refine blk_drew ?_ | refine blk_alloc ?_ _)); exact BK180.out) hb); have n2_ := Aside0.mk (blk_below (g := gb186) (o := .cells #[.int .i64 t181, .int .i64 t182, .int .i64 t183, .int .i64 t184] 23 (0, 0)) (by (with_reducible repeat (first | refine blk_drewN ?_ _ | refine blk_drew ?_ | refine blk_alloc ?_ _)); refine blk_put (cs := #[.int .i64 t181, .int .i64 t182, .int .i64 t183, .int .i64 0]) ?_ 3 _ rfl; (with_reducible repeat (first | refine blk_drewN ?_ _ | refine blk_drew ?_ | refine blk_alloc ?_ _)); refine blk_put (cs := #[.int .i64 t181, .int .i64 t182, .int .i64 0, .int .i64 0]) ?_ 2 _ rfl; (with_reducible repeat (first | refine blk_drewN ?_ _ | refine blk_drew ?_ | refine blk_alloc ?_ _)); refine blk_put (cs := #[.int .i64 t181, .int .i64 0, .int .i64 0, .int .i64 0]) ?_ 1 _ rfl; (with_reducible repeat (first | refine blk_drewN ?_ _ | refine blk_drew ?_ | refine blk_alloc ?_ _)); refine blk_put (cs := #[.int .i64 0, .int .i64 0, .int .i64 0, .int .i64 0]) ?_ 0 _ rfl; (with_reducible repeat (first | refine blk_drewN ?_ _ | refine blk_drew ?_ | refine blk_alloc ?_ _)); exact BK186.out) hb); have n3_ := Aside0.mk (below_step (by repeat (first | (with_reducible first | exact HB.out | apply below_alloc | apply pw_below_drewN | apply below_drew1 | refine below_set ?_ GE164.out | refine below_set ?_ GE180.out | refine below_set ?_ GE186.out) | exact HB.out)) hb); clear BK164; clear BK180; clear BK186; clear HB; have BK164 := n0_; have BK180 := n1_; have BK186 := n2_; have HB := n3_; clear n0_ n1_ n2_ n3_; (try clear hb); (try clear hb2); (try clear hk); (try clear hi); have hcz35_0 : w34.cell? ⟨gb164, 0, none⟩ = some (.int .i64 a3_0) := (blk_cell BK164.out 0).trans rfl; have hcz35_1 : w34.cell? ⟨gb164, 1, none⟩ = some (.int .i64 a3_1) := (blk_cell BK164.out 1).trans rfl; have hcz35_2 : w34.cell? ⟨gb164, 2, none⟩ = some (.int .i64 a3_2) := (blk_cell BK164.out 2).trans rfl; have hcz35_3 : w34.cell? ⟨gb164, 3, none⟩ = some (.int .i64 a3_3) := (blk_cell BK164.out 3).trans rfl; have hfz35_0 := blk_frozen BK164.out 0; have hfz35_1 := blk_frozen BK164.out 1; have hfz35_2 := blk_frozen BK164.out 2; have hfz35_3 := blk_frozen BK164.out 3) | ((with_reducible refine gate_callee (f := 23) rfl ?_); refine goesL_ (some 88) rfl rfl Tryd.func23 (by kernel_rfl) rfl #[.agg #[.int .i64 a3_0, .int .i64 a3_1, .int .i64 a3_2, .int .i64 a3_3]] rfl (by (try simp only [List.map_toArray, List.map_cons, List.map_nil]); first | done | rfl | (simp only [List.length_drop, List.length_take]; rfl)) ?_; (with_reducible refine (slackwaterref09_From.calls k a3_0 a3_1 a3_2 a3_3 t189 t190 _ A15.out).mono ?_); rintro e w36 ⟨rfl, hb⟩; refine ⟨_, rfl, ?_⟩; have n0_ := Aside0.mk (blk_below (g := gb164) (o := .cells #[.int .i64 a3_0, .int .i64 a3_1, .int .i64 a3_2, .int .i64 a3_3] 23 (0, 0)) (by (with_reducible repeat (first | refine blk_drewN ?_ _ | refine blk_drew ?_ | refine blk_alloc ?_ _)); exact BK164.out) hb); have n1_ := Aside0.mk (blk_below (g := gb180) (o := .cells #[.int .i64 t175, .int .i64 t176, .int .i64 t177, .int .i64 t178] 23 (0, 0)) (by (with_reducible repeat (first | refine blk_drewN ?_ _ | refine blk_drew ?_ | refine blk_alloc ?_ _)); exact BK180.out) hb); have n2_ := Aside0.mk (blk_below (g := gb186) (o := .cells #[.int .i64 t181, .int .i64 t182, .int .i64 t183, .int .i64 t184] 23 (0, 0)) (by (with_reducible repeat (first | refine blk_drewN ?_ _ | refine blk_drew ?_ | refine blk_alloc ?_ _)); exact BK186.out) hb); have n3_ := Aside0.mk (below_step (by repeat (first | (with_reducible first | exact HB.out | apply below_alloc | apply pw_below_drewN | apply below_drew1 | refine below_set ?_ GE164.out | refine below_set ?_ GE180.out | refine below_set ?_ GE186.out) | exact HB.out)) hb); clear BK164; clear BK180; clear BK186; clear HB; have BK164 := n0_; have BK180 := n1_; have BK186 := n2_; have HB := n3_; clear n0_ n1_ n2_ n3_; (try clear hb); (try clear hb2); (try clear hk); (try clear hi)) | ((with_reducible refine gate_callee (f := 18) rfl ?_); refine goesL_ (some 93) rfl rfl Tryd.func18 (by kernel_rfl) rfl #[.int .i64 a0] rfl (by (try simp only [List.map_toArray, List.map_cons, List.map_nil]); first | done | rfl | (simp only [List.length_drop, List.length_take]; rfl)) ?_; (with_reducible refine (clock_Week.calls a0 t191 t192 _ A16.out).mono ?_); rintro e w' ⟨rfl, ⟨nd, rfl⟩⟩; refine ⟨_, rfl, ?_⟩) | ((with_reducible refine gate_callee (f := 24) rfl ?_); refine goesL_ (some 98) rfl rfl Tryd.func24 (by kernel_rfl) rfl #[.int .i64 a0] rfl (by (try simp only [List.map_toArray, List.map_cons, List.map_nil]); first | done | rfl | (simp only [List.length_drop, List.length_take]; rfl)) ?_; (with_reducible refine (slackwaterref09_Week.calls a0 t193 t194 _ A17.out).mono ?_); rintro e w' ⟨rfl, ⟨nd, rfl⟩⟩; refine ⟨_, rfl, ?_⟩) | ((with_reducible refine gate_callee (f := 11) rfl ?_); refine goesL_ (some 103) rfl rfl Tryd.func11 (by kernel_rfl) rfl #[.int .i64 a0] rfl (by (try simp only [List.map_toArray, List.map_cons, List.map_nil]); first | done | rfl | (simp only [List.length_drop, List.length_take]; rfl)) ?_; (with_reducible refine (clock_Text.calls a0 t195 t196 _ (hL.below (by repeat (first | (with_reducible first | exact HB.out | apply below_alloc | apply pw_below_drewN | apply below_drew1 | refine below_set ?_ GE164.out | refine below_set ?_ GE180.out | refine below_set ?_ GE186.out) | exact HB.out))) A18.out).mono ?_); rintro e w37 ⟨rfl, hb⟩; refine ⟨_, rfl, ?_⟩; have n0_ := Aside0.mk (blk_below (g := gb164) (o := .cells #[.int .i64 a3_0, .int .i64 a3_1, .int .i64 a3_2, .int .i64 a3_3] 23 (0, 0)) (by (with_reducible repeat (first | refine blk_drewN ?_ _ | refine blk_drew ?_ | refine blk_alloc ?_ _)); exact BK164.out) hb); have n1_ := Aside0.mk (blk_below (g := gb180) (o := .cells #[.int .i64 t175, .int .i64 t176, .int .i64 t177, .int .i64 t178] 23 (0, 0)) (by (with_reducible repeat (first | refine blk_drewN ?_ _ | refine blk_drew ?_ | refine blk_alloc ?_ _)); exact BK180.out) hb); have n2_ := Aside0.mk (blk_below (g := gb186) (o := .cells #[.int .i64 t181, .int .i64 t182, .int .i64 t183, .int .i64 t184] 23 (0, 0)) (by (with_reducible repeat (first | refine blk_drewN ?_ _ | refine blk_drew ?_ | refine blk_alloc ?_ _)); exact BK186.out) hb); have n3_ := Aside0.mk (below_step (by repeat (first | (with_reducible first | exact HB.out | apply below_alloc | apply pw_below_drewN | apply below_drew1 | refine below_set ?_ GE164.out | refine below_set ?_ GE180.out | refine below_set ?_ GE186.out) | exact HB.out)) hb); clear BK164; clear BK180; clear BK186; clear HB; have BK164 := n0_; have BK180 := n1_; have BK186 := n2_; have HB := n3_; clear n0_ n1_ n2_ n3_; (try clear hb); (try clear hb2); (try clear hk); (try clear hi)) | ((with_reducible refine gate_callee (f := 25) rfl ?_); refine goesL_ (some 108) rfl rfl Tryd.func25 (by kernel_rfl) rfl #[.int .i64 a0] rfl (by (try simp only [List.map_toArray, List.map_cons, List.map_nil]); first | done | rfl | (simp only [List.length_drop, List.length_take]; rfl)) ?_; (with_reducible refine (slackwaterref09_Text.calls k a0 t197 t198 _ A19.out).mono ?_); rintro e w38 ⟨rfl, hb⟩; refine ⟨_, rfl, ?_⟩; have n0_ := Aside0.mk (blk_below (g := gb164) (o := .cells #[.int .i64 a3_0, .int .i64 a3_1, .int .i64 a3_2, .int .i64 a3_3] 23 (0, 0)) (by (with_reducible repeat (first | refine blk_drewN ?_ _ | refine blk_drew ?_ | refine blk_alloc ?_ _)); exact BK164.out) hb); have n1_ := Aside0.mk (blk_below (g := gb180) (o := .cells #[.int .i64 t175, .int .i64 t176, .int .i64 t177, .int .i64 t178] 23 (0, 0)) (by (with_reducible repeat (first | refine blk_drewN ?_ _ | refine blk_drew ?_ | refine blk_alloc ?_ _)); exact BK180.out) hb); have n2_ := Aside0.mk (blk_below (g := gb186) (o := .cells #[.int .i64 t181, .int .i64 t182, .int .i64 t183, .int .i64 t184] 23 (0, 0)) (by (with_reducible repeat (first | refine blk_drewN ?_ _ | refine blk_drew ?_ | refine blk_alloc ?_ _)); exact BK186.out) hb); have n3_ := Aside0.mk (below_step (by repeat (first | (with_reducible first | exact HB.out | apply below_alloc | apply pw_below_drewN | apply below_drew1 | refine below_set ?_ GE164.out | refine below_set ?_ GE180.out | refine below_set ?_ GE186.out) | exact HB.out)) hb); clear BK164; clear BK180; clear BK186; clear HB; have BK164 := n0_; have BK180 := n1_; have BK186 := n2_; have HB := n3_; clear n0_ n1_ n2_ n3_; (try clear hb); (try clear hb2); (try clear hk); (try clear hi)) | ((with_reducible refine gate_callee (f := 16) rfl ?_); refine goesL_ (some 113) rfl rfl Tryd.func16 (by kernel_rfl) rfl #[.string a4] rfl (by (try simp only [List.map_toArray, List.map_cons, List.map_nil]); first | done | rfl | (simp only [List.length_drop, List.length_take]; rfl)) ?_; (with_reducible refine (clock_Parse.calls k a4 t199 t200 _ (hL.below (by repeat (first | (with_reducible first | exact HB.out | apply below_alloc | apply pw_below_drewN | apply below_drew1 | refine below_set ?_ GE164.out | refine below_set ?_ GE180.out | refine below_set ?_ GE186.out) | exact HB.out))) A20.out).mono ?_); rintro e w39 ⟨rfl, hb⟩; refine ⟨_, rfl, ?_⟩; have n0_ := Aside0.mk (blk_below (g := gb164) (o := .cells #[.int .i64 a3_0, .int .i64 a3_1, .int .i64 a3_2, .int .i64 a3_3] 23 (0, 0)) (by (with_reducible repeat (first | refine blk_drewN ?_ _ | refine blk_drew ?_ | refine blk_alloc ?_ _)); exact BK164.out) hb); have n1_ := Aside0.mk (blk_below (g := gb180) (o := .cells #[.int .i64 t175, .int .i64 t176, .int .i64 t177, .int .i64 t178] 23 (0, 0)) (by (with_reducible repeat (first | refine blk_drewN ?_ _ | refine blk_drew ?_ | refine blk_alloc ?_ _)); exact BK180.out) hb); have n2_ := Aside0.mk (blk_below (g := gb186) (o := .cells #[.int .i64 t181, .int .i64 t182, .int .i64 t183, .int .i64 t184] 23 (0, 0)) (by (with_reducible repeat (first | refine blk_drewN ?_ _ | refine blk_drew ?_ | refine blk_alloc ?_ _)); exact BK186.out) hb); have n3_ := Aside0.mk (below_step (by repeat (first | (with_reducible first | exact HB.out | apply below_alloc | apply pw_below_drewN | apply below_drew1 | refine below_set ?_ GE164.out | refine below_set ?_ GE180.out | refine below_set ?_ GE186.out) | exact HB.out)) hb); clear BK164; clear BK180; clear BK186; clear HB; have BK164 := n0_; have BK180 := n1_; have BK186 := n2_; have HB := n3_; clear n0_ n1_ n2_ n3_; (try clear hb); (try clear hb2); (try clear hk); (try clear hi)) | ((with_reducible refine gate_callee (f := 26) rfl ?_); refine goesL_ (some 118) rfl rfl Tryd.func26 (by kernel_rfl) rfl #[.string a4] rfl (by (try simp only [List.map_toArray, List.map_cons, List.map_nil]); first | done | rfl | (simp only [List.length_drop, List.length_take]; rfl)) ?_; (with_reducible refine (slackwaterref09_Parse.calls k a4 t201 t202 _ A21.out).mono ?_); rintro e w40 ⟨rfl, hb⟩; refine ⟨_, rfl, ?_⟩; have n0_ := Aside0.mk (blk_below (g := gb164) (o := .cells #[.int .i64 a3_0, .int .i64 a3_1, .int .i64 a3_2, .int .i64 a3_3] 23 (0, 0)) (by (with_reducible repeat (first | refine blk_drewN ?_ _ | refine blk_drew ?_ | refine blk_alloc ?_ _)); exact BK164.out) hb); have n1_ := Aside0.mk (blk_below (g := gb180) (o := .cells #[.int .i64 t175, .int .i64 t176, .int .i64 t177, .int .i64 t178] 23 (0, 0)) (by (with_reducible repeat (first | refine blk_drewN ?_ _ | refine blk_drew ?_ | refine blk_alloc ?_ _)); exact BK180.out) hb); have n2_ := Aside0.mk (blk_below (g := gb186) (o := .cells #[.int .i64 t181, .int .i64 t182, .int .i64 t183, .int .i64 t184] 23 (0, 0)) (by (with_reducible repeat (first | refine blk_drewN ?_ _ | refine blk_drew ?_ | refine blk_alloc ?_ _)); exact BK186.out) hb); have n3_ := Aside0.mk (below_step (by repeat (first | (with_reducible first | exact HB.out | apply below_alloc | apply pw_below_drewN | apply below_drew1 | refine below_set ?_ GE164.out | refine below_set ?_ GE180.out | refine below_set ?_ GE186.out) | exact HB.out)) hb); clear BK164; clear BK180; clear BK186; clear HB; have BK164 := n0_; have BK180 := n1_; have BK186 := n2_; have HB := n3_; clear n0_ n1_ n2_ n3_; (try clear hb); (try clear hb2); (try clear hk); (try clear hi)))
  (try simp only [Act.put, List.setIfInBounds_toArray, List.set_cons_zero, List.set_cons_succ])
  go_cut [153] (fun v153 wc => ∃ (kq : Nat) (x153_21 : Bool), v153 = .bool x153_21 ∧ Aside0 (slackwaterlaw09_ClockTells.j0 kq a0 a5 a6 t165 t167 t169 t170 t172 t173 t187 t189 t191 t193 t195 t197 t199 t201 x153_21 t175 t176 t177 t178 t181 t182 t183 t184 = some r) ∧ Aside0 (kq ≤ k) ∧ Aside0 (wc.heap[gb164]? = some (.cells #[.int .i64 a3_0, .int .i64 a3_1, .int .i64 a3_2, .int .i64 a3_3] 23 (0, 0))) ∧ Aside0 (wc.heap[gb180]? = some (.cells #[.int .i64 t175, .int .i64 t176, .int .i64 t177, .int .i64 t178] 23 (0, 0))) ∧ Aside0 (wc.heap[gb186]? = some (.cells #[.int .i64 t181, .int .i64 t182, .int .i64 t183, .int .i64 t184] 23 (0, 0))) ∧ Aside0 (Below w.heap.size w wc))
  case first =>
    have H := HC22.out
    clear HC22
    by_cases c41 : t166 = t168
    · rw [if_pos c41] at H
      have c41b0 : (t166 == t168) = true := beq_iff_eq.mpr c41
      have c41b1 : (t166 != t168) = false := bne_eq_false_iff_eq.mpr c41
      clear c41
      (first | rw [c41b0] | (simp only [i64_w, i32_w]; rw [c41b0]) | skip)
      by_cases c42 : t171 = t174
      · rw [if_pos c42] at H
        have c42b0 : (t171 == t174) = true := beq_iff_eq.mpr c42
        have c42b1 : (t171 != t174) = false := bne_eq_false_iff_eq.mpr c42
        clear c42
        by_cases c43 : t179 = t185
        · rw [if_pos c43] at H
          have c43b0 : (t179 == t185) = true := beq_iff_eq.mpr c43
          have c43b1 : (t179 != t185) = false := bne_eq_false_iff_eq.mpr c43
          clear c43
          by_cases c44 : t188 = t190
          · rw [if_pos c44] at H
            have c44b0 : (t188 == t190) = true := beq_iff_eq.mpr c44
            have c44b1 : (t188 != t190) = false := bne_eq_false_iff_eq.mpr c44
            clear c44
            by_cases c45 : t192 = t194
            · rw [if_pos c45] at H
              have c45b0 : (t192 == t194) = true := beq_iff_eq.mpr c45
              have c45b1 : (t192 != t194) = false := bne_eq_false_iff_eq.mpr c45
              clear c45
              by_cases c46 : t196 = t198
              · rw [if_pos c46] at H
                have c46b0 : (t196 == t198) = true := beq_iff_eq.mpr c46
                have c46b1 : (t196 != t198) = false := bne_eq_false_iff_eq.mpr c46
                clear c46
                have H' := Aside0.mk H
                clear H
                go_wp2
                go_meet
                case rel => exact ⟨_, ((t200 != t202)), (by first | rfl | (simp; done) | (simp [*]; done)), H', ⟨by first | omega | exact Nat.le_refl _⟩, ⟨by (with_reducible repeat (first | refine blk_drewN ?_ _ | refine blk_drew ?_ | refine blk_alloc ?_ _)); exact BK164.out⟩, ⟨by (with_reducible repeat (first | refine blk_drewN ?_ _ | refine blk_drew ?_ | refine blk_alloc ?_ _)); exact BK180.out⟩, ⟨by (with_reducible repeat (first | refine blk_drewN ?_ _ | refine blk_drew ?_ | refine blk_alloc ?_ _)); exact BK186.out⟩, ⟨by repeat (first | (with_reducible first | exact HB.out | apply below_alloc | apply pw_below_drewN | apply below_drew1 | refine below_set ?_ GE164.out | refine below_set ?_ GE180.out | refine below_set ?_ GE186.out) | exact HB.out)⟩⟩
              · rw [if_neg c46] at H
                exact absurd H (by simp)
            · rw [if_neg c45] at H
              exact absurd H (by simp)
          · rw [if_neg c44] at H
            exact absurd H (by simp)
        · rw [if_neg c43] at H
          exact absurd H (by simp)
      · rw [if_neg c42] at H
        exact absurd H (by simp)
    · rw [if_neg c41] at H
      exact absurd H (by simp)
  case rest =>
    clear HC22
    try clear c1
    try clear c2
    try clear p2
    try clear c3
    try clear c4
    try clear c5
    try clear c9
    try clear c10
    try clear c11
    try clear c14
    try clear c15
    try clear c16
    try clear c18
    try clear c20
    try clear c21
    try clear c22
    try clear c23
    try clear c24
    try clear c25
    try clear c26
    try clear c30
    try clear c31
    try clear c41
    try clear c41b0
    try clear c41b1
    try clear c42
    try clear c42b0
    try clear c42b1
    try clear c43
    try clear c43b0
    try clear c43b1
    try clear c44
    try clear c44b0
    try clear c44b1
    try clear c45
    try clear c45b0
    try clear c45b1
    try clear c46
    try clear c46b0
    try clear c46b1
    try clear hcz27_0
    try clear hcz27_1
    try clear hcz27_2
    try clear hcz27_3
    try clear hcz32_0
    try clear hcz32_1
    try clear hcz32_2
    try clear hcz32_3
    try clear hcz33_0
    try clear hcz33_1
    try clear hcz33_2
    try clear hcz33_3
    try clear hcz35_0
    try clear hcz35_1
    try clear hcz35_2
    try clear hcz35_3
    try clear hfz27_0
    try clear hfz27_1
    try clear hfz27_2
    try clear hfz27_3
    try clear hfz32_0
    try clear hfz32_1
    try clear hfz32_2
    try clear hfz32_3
    try clear hfz33_0
    try clear hfz33_1
    try clear hfz33_2
    try clear hfz33_3
    try clear hfz35_0
    try clear hfz35_1
    try clear hfz35_2
    try clear hfz35_3
    obtain ⟨kq, x153_21, rfl, HA, HJ21, BK164, BK180, BK186, HB⟩ := hcut
    cases kq with
    | zero => exact absurd HA.out (by simp [slackwaterlaw09_ClockTells.j0])
    | succ kj21 =>
      have H := HA.out
      clear HA
      simp only [slackwaterlaw09_ClockTells.j0] at H
      by_cases c47 : x153_21 = true
      · subst c47
        have H1 : (none) = some r := by rw [if_pos rfl] at H; exact H
        clear H
        have H := H1
        clear H1
        exact absurd H (by simp)
      · replace c47 := Bool.eq_false_iff.mpr c47
        subst c47
        have H1 : (if t175 = t181 then (if t176 = t182 then (if t177 = t183 then (slackwaterlaw09_ClockTells.j1 kj21 a0 a5 a6 t165 t167 t169 t170 t172 t173 t187 t189 t191 t193 t195 t197 t199 t201 (t178 == t184)) else (slackwaterlaw09_ClockTells.j1 kj21 a0 a5 a6 t165 t167 t169 t170 t172 t173 t187 t189 t191 t193 t195 t197 t199 t201 false)) else (slackwaterlaw09_ClockTells.j1 kj21 a0 a5 a6 t165 t167 t169 t170 t172 t173 t187 t189 t191 t193 t195 t197 t199 t201 false)) else (slackwaterlaw09_ClockTells.j1 kj21 a0 a5 a6 t165 t167 t169 t170 t172 t173 t187 t189 t191 t193 t195 t197 t199 t201 false)) = some r := by rw [if_neg (show ¬ (false = true) by decide)] at H; exact H
        clear H
        have H := H1
        clear H1
        have HC48 := Aside0.mk H
        clear H
        go_upto_region 17 with (fail)
        go_cut [45] (fun v45 wc => ∃ (kq : Nat) (x45_47 : Bool), v45 = .bool x45_47 ∧ Aside0 (slackwaterlaw09_ClockTells.j1 kq a0 a5 a6 t165 t167 t169 t170 t172 t173 t187 t189 t191 t193 t195 t197 t199 t201 x45_47 = some r) ∧ Aside0 (kq ≤ kj21) ∧ Aside0 (wc.heap[gb164]? = some (.cells #[.int .i64 a3_0, .int .i64 a3_1, .int .i64 a3_2, .int .i64 a3_3] 23 (0, 0))) ∧ Aside0 (wc.heap[gb180]? = some (.cells #[.int .i64 t175, .int .i64 t176, .int .i64 t177, .int .i64 t178] 23 (0, 0))) ∧ Aside0 (wc.heap[gb186]? = some (.cells #[.int .i64 t181, .int .i64 t182, .int .i64 t183, .int .i64 t184] 23 (0, 0))) ∧ Aside0 (Below w.heap.size w wc))
        case first =>
          have H := HC48.out
          clear HC48
          by_cases c49 : t175 = t181
          · rw [if_pos c49] at H
            have c49b0 : (t175 == t181) = true := beq_iff_eq.mpr c49
            have c49b1 : (t175 != t181) = false := bne_eq_false_iff_eq.mpr c49
            clear c49
            (first | rw [c49b0] | (simp only [i64_w, i32_w]; rw [c49b0]) | skip)
            by_cases c50 : t176 = t182
            · rw [if_pos c50] at H
              have c50b0 : (t176 == t182) = true := beq_iff_eq.mpr c50
              have c50b1 : (t176 != t182) = false := bne_eq_false_iff_eq.mpr c50
              clear c50
              by_cases c51 : t177 = t183
              · rw [if_pos c51] at H
                have c51b0 : (t177 == t183) = true := beq_iff_eq.mpr c51
                have c51b1 : (t177 != t183) = false := bne_eq_false_iff_eq.mpr c51
                clear c51
                have H' := Aside0.mk H
                clear H
                have hnb52 := NB180_164.out
                have hnc52 := NB164_180.out
                have hnb53 := NB180_186.out
                have hnc53 := NB186_180.out
                have hcz54_0 : wc.cell? ⟨gb180, 0, none⟩ = some (.int .i64 t175) := (blk_cell BK180.out 0).trans rfl
                have hcz54_1 : wc.cell? ⟨gb180, 1, none⟩ = some (.int .i64 t176) := (blk_cell BK180.out 1).trans rfl
                have hcz54_2 : wc.cell? ⟨gb180, 2, none⟩ = some (.int .i64 t177) := (blk_cell BK180.out 2).trans rfl
                have hcz54_3 : wc.cell? ⟨gb180, 3, none⟩ = some (.int .i64 t178) := (blk_cell BK180.out 3).trans rfl
                have hfz54_0 := blk_frozen BK180.out 0
                have hfz54_1 := blk_frozen BK180.out 1
                have hfz54_2 := blk_frozen BK180.out 2
                have hfz54_3 := blk_frozen BK180.out 3
                have hnb55 := NB186_164.out
                have hnc55 := NB164_186.out
                have hcz56_0 : wc.cell? ⟨gb186, 0, none⟩ = some (.int .i64 t181) := (blk_cell BK186.out 0).trans rfl
                have hcz56_1 : wc.cell? ⟨gb186, 1, none⟩ = some (.int .i64 t182) := (blk_cell BK186.out 1).trans rfl
                have hcz56_2 : wc.cell? ⟨gb186, 2, none⟩ = some (.int .i64 t183) := (blk_cell BK186.out 2).trans rfl
                have hcz56_3 : wc.cell? ⟨gb186, 3, none⟩ = some (.int .i64 t184) := (blk_cell BK186.out 3).trans rfl
                have hfz56_0 := blk_frozen BK186.out 0
                have hfz56_1 := blk_frozen BK186.out 1
                have hfz56_2 := blk_frozen BK186.out 2
                have hfz56_3 := blk_frozen BK186.out 3
                go_wp2
                go_meet
                case rel => exact ⟨_, ((t178 == t184)), (by first | rfl | (simp; done) | (simp [*]; done)), H', ⟨by have := HJ21.out; first | omega | exact Nat.le_refl _⟩, ⟨by (with_reducible repeat (first | refine blk_drewN ?_ _ | refine blk_drew ?_ | refine blk_alloc ?_ _)); exact BK164.out⟩, ⟨by (with_reducible repeat (first | refine blk_drewN ?_ _ | refine blk_drew ?_ | refine blk_alloc ?_ _)); exact BK180.out⟩, ⟨by (with_reducible repeat (first | refine blk_drewN ?_ _ | refine blk_drew ?_ | refine blk_alloc ?_ _)); exact BK186.out⟩, ⟨by repeat (first | (with_reducible first | exact HB.out | apply below_alloc | apply pw_below_drewN | apply below_drew1 | refine below_set ?_ GE164.out | refine below_set ?_ GE180.out | refine below_set ?_ GE186.out) | exact HB.out)⟩⟩
              · rw [if_neg c51] at H
                have c51b0 : (t177 == t183) = false := beq_eq_false_iff_ne.mpr c51
                have c51b1 : (t177 != t183) = true := bne_iff_ne.mpr c51
                have H' := Aside0.mk H
                clear H
                have hnb57 := NB180_164.out
                have hnc57 := NB164_180.out
                have hnb58 := NB180_186.out
                have hnc58 := NB186_180.out
                have hcz59_0 : wc.cell? ⟨gb180, 0, none⟩ = some (.int .i64 t175) := (blk_cell BK180.out 0).trans rfl
                have hcz59_1 : wc.cell? ⟨gb180, 1, none⟩ = some (.int .i64 t176) := (blk_cell BK180.out 1).trans rfl
                have hcz59_2 : wc.cell? ⟨gb180, 2, none⟩ = some (.int .i64 t177) := (blk_cell BK180.out 2).trans rfl
                have hcz59_3 : wc.cell? ⟨gb180, 3, none⟩ = some (.int .i64 t178) := (blk_cell BK180.out 3).trans rfl
                have hfz59_0 := blk_frozen BK180.out 0
                have hfz59_1 := blk_frozen BK180.out 1
                have hfz59_2 := blk_frozen BK180.out 2
                have hfz59_3 := blk_frozen BK180.out 3
                have hnb60 := NB186_164.out
                have hnc60 := NB164_186.out
                have hcz61_0 : wc.cell? ⟨gb186, 0, none⟩ = some (.int .i64 t181) := (blk_cell BK186.out 0).trans rfl
                have hcz61_1 : wc.cell? ⟨gb186, 1, none⟩ = some (.int .i64 t182) := (blk_cell BK186.out 1).trans rfl
                have hcz61_2 : wc.cell? ⟨gb186, 2, none⟩ = some (.int .i64 t183) := (blk_cell BK186.out 2).trans rfl
                have hcz61_3 : wc.cell? ⟨gb186, 3, none⟩ = some (.int .i64 t184) := (blk_cell BK186.out 3).trans rfl
                have hfz61_0 := blk_frozen BK186.out 0
                have hfz61_1 := blk_frozen BK186.out 1
                have hfz61_2 := blk_frozen BK186.out 2
                have hfz61_3 := blk_frozen BK186.out 3
                go_wp2
                go_meet
                case rel => exact ⟨_, (false), (by first | rfl | (simp; done) | (simp [*]; done)), H', ⟨by have := HJ21.out; first | omega | exact Nat.le_refl _⟩, ⟨by (with_reducible repeat (first | refine blk_drewN ?_ _ | refine blk_drew ?_ | refine blk_alloc ?_ _)); exact BK164.out⟩, ⟨by (with_reducible repeat (first | refine blk_drewN ?_ _ | refine blk_drew ?_ | refine blk_alloc ?_ _)); exact BK180.out⟩, ⟨by (with_reducible repeat (first | refine blk_drewN ?_ _ | refine blk_drew ?_ | refine blk_alloc ?_ _)); exact BK186.out⟩, ⟨by repeat (first | (with_reducible first | exact HB.out | apply below_alloc | apply pw_below_drewN | apply below_drew1 | refine below_set ?_ GE164.out | refine below_set ?_ GE180.out | refine below_set ?_ GE186.out) | exact HB.out)⟩⟩
            · rw [if_neg c50] at H
              have c50b0 : (t176 == t182) = false := beq_eq_false_iff_ne.mpr c50
              have c50b1 : (t176 != t182) = true := bne_iff_ne.mpr c50
              have H' := Aside0.mk H
              clear H
              have hnb62 := NB180_164.out
              have hnc62 := NB164_180.out
              have hnb63 := NB180_186.out
              have hnc63 := NB186_180.out
              have hcz64_0 : wc.cell? ⟨gb180, 0, none⟩ = some (.int .i64 t175) := (blk_cell BK180.out 0).trans rfl
              have hcz64_1 : wc.cell? ⟨gb180, 1, none⟩ = some (.int .i64 t176) := (blk_cell BK180.out 1).trans rfl
              have hcz64_2 : wc.cell? ⟨gb180, 2, none⟩ = some (.int .i64 t177) := (blk_cell BK180.out 2).trans rfl
              have hcz64_3 : wc.cell? ⟨gb180, 3, none⟩ = some (.int .i64 t178) := (blk_cell BK180.out 3).trans rfl
              have hfz64_0 := blk_frozen BK180.out 0
              have hfz64_1 := blk_frozen BK180.out 1
              have hfz64_2 := blk_frozen BK180.out 2
              have hfz64_3 := blk_frozen BK180.out 3
              have hnb65 := NB186_164.out
              have hnc65 := NB164_186.out
              have hcz66_0 : wc.cell? ⟨gb186, 0, none⟩ = some (.int .i64 t181) := (blk_cell BK186.out 0).trans rfl
              have hcz66_1 : wc.cell? ⟨gb186, 1, none⟩ = some (.int .i64 t182) := (blk_cell BK186.out 1).trans rfl
              have hcz66_2 : wc.cell? ⟨gb186, 2, none⟩ = some (.int .i64 t183) := (blk_cell BK186.out 2).trans rfl
              have hcz66_3 : wc.cell? ⟨gb186, 3, none⟩ = some (.int .i64 t184) := (blk_cell BK186.out 3).trans rfl
              have hfz66_0 := blk_frozen BK186.out 0
              have hfz66_1 := blk_frozen BK186.out 1
              have hfz66_2 := blk_frozen BK186.out 2
              have hfz66_3 := blk_frozen BK186.out 3
              go_wp2
              go_meet
              case rel => exact ⟨_, (false), (by first | rfl | (simp; done) | (simp [*]; done)), H', ⟨by have := HJ21.out; first | omega | exact Nat.le_refl _⟩, ⟨by (with_reducible repeat (first | refine blk_drewN ?_ _ | refine blk_drew ?_ | refine blk_alloc ?_ _)); exact BK164.out⟩, ⟨by (with_reducible repeat (first | refine blk_drewN ?_ _ | refine blk_drew ?_ | refine blk_alloc ?_ _)); exact BK180.out⟩, ⟨by (with_reducible repeat (first | refine blk_drewN ?_ _ | refine blk_drew ?_ | refine blk_alloc ?_ _)); exact BK186.out⟩, ⟨by repeat (first | (with_reducible first | exact HB.out | apply below_alloc | apply pw_below_drewN | apply below_drew1 | refine below_set ?_ GE164.out | refine below_set ?_ GE180.out | refine below_set ?_ GE186.out) | exact HB.out)⟩⟩
          · rw [if_neg c49] at H
            have c49b0 : (t175 == t181) = false := beq_eq_false_iff_ne.mpr c49
            have c49b1 : (t175 != t181) = true := bne_iff_ne.mpr c49
            (first | rw [c49b0] | (simp only [i64_w, i32_w]; rw [c49b0]) | skip)
            have H' := Aside0.mk H
            clear H
            have hnb67 := NB180_164.out
            have hnc67 := NB164_180.out
            have hnb68 := NB180_186.out
            have hnc68 := NB186_180.out
            have hcz69_0 : wc.cell? ⟨gb180, 0, none⟩ = some (.int .i64 t175) := (blk_cell BK180.out 0).trans rfl
            have hcz69_1 : wc.cell? ⟨gb180, 1, none⟩ = some (.int .i64 t176) := (blk_cell BK180.out 1).trans rfl
            have hcz69_2 : wc.cell? ⟨gb180, 2, none⟩ = some (.int .i64 t177) := (blk_cell BK180.out 2).trans rfl
            have hcz69_3 : wc.cell? ⟨gb180, 3, none⟩ = some (.int .i64 t178) := (blk_cell BK180.out 3).trans rfl
            have hfz69_0 := blk_frozen BK180.out 0
            have hfz69_1 := blk_frozen BK180.out 1
            have hfz69_2 := blk_frozen BK180.out 2
            have hfz69_3 := blk_frozen BK180.out 3
            have hnb70 := NB186_164.out
            have hnc70 := NB164_186.out
            have hcz71_0 : wc.cell? ⟨gb186, 0, none⟩ = some (.int .i64 t181) := (blk_cell BK186.out 0).trans rfl
            have hcz71_1 : wc.cell? ⟨gb186, 1, none⟩ = some (.int .i64 t182) := (blk_cell BK186.out 1).trans rfl
            have hcz71_2 : wc.cell? ⟨gb186, 2, none⟩ = some (.int .i64 t183) := (blk_cell BK186.out 2).trans rfl
            have hcz71_3 : wc.cell? ⟨gb186, 3, none⟩ = some (.int .i64 t184) := (blk_cell BK186.out 3).trans rfl
            have hfz71_0 := blk_frozen BK186.out 0
            have hfz71_1 := blk_frozen BK186.out 1
            have hfz71_2 := blk_frozen BK186.out 2
            have hfz71_3 := blk_frozen BK186.out 3
            go_wp2
            go_meet
            case rel => exact ⟨_, (false), (by first | rfl | (simp; done) | (simp [*]; done)), H', ⟨by have := HJ21.out; first | omega | exact Nat.le_refl _⟩, ⟨by (with_reducible repeat (first | refine blk_drewN ?_ _ | refine blk_drew ?_ | refine blk_alloc ?_ _)); exact BK164.out⟩, ⟨by (with_reducible repeat (first | refine blk_drewN ?_ _ | refine blk_drew ?_ | refine blk_alloc ?_ _)); exact BK180.out⟩, ⟨by (with_reducible repeat (first | refine blk_drewN ?_ _ | refine blk_drew ?_ | refine blk_alloc ?_ _)); exact BK186.out⟩, ⟨by repeat (first | (with_reducible first | exact HB.out | apply below_alloc | apply pw_below_drewN | apply below_drew1 | refine below_set ?_ GE164.out | refine below_set ?_ GE180.out | refine below_set ?_ GE186.out) | exact HB.out)⟩⟩
        case rest =>
          clear HC48
          try clear c1
          try clear c2
          try clear p2
          try clear c3
          try clear c4
          try clear c5
          try clear c6
          try clear c7
          try clear c9
          try clear c10
          try clear c11
          try clear c14
          try clear c15
          try clear c16
          try clear c18
          try clear c20
          try clear c21
          try clear c22
          try clear c23
          try clear c24
          try clear c25
          try clear c26
          try clear c30
          try clear c31
          try clear c41
          try clear c41b0
          try clear c41b1
          try clear c42
          try clear c42b0
          try clear c42b1
          try clear c43
          try clear c43b0
          try clear c43b1
          try clear c44
          try clear c44b0
          try clear c44b1
          try clear c45
          try clear c45b0
          try clear c45b1
          try clear c46
          try clear c46b0
          try clear c46b1
          try clear c47
          try clear c49
          try clear c49b0
          try clear c49b1
          try clear c50
          try clear c50b0
          try clear c50b1
          try clear c51
          try clear c51b0
          try clear c51b1
          try clear c52
          try clear c53
          try clear c55
          try clear c57
          try clear c58
          try clear c60
          try clear c62
          try clear c63
          try clear c65
          try clear c67
          try clear c68
          try clear c70
          try clear hcz27_0
          try clear hcz27_1
          try clear hcz27_2
          try clear hcz27_3
          try clear hcz32_0
          try clear hcz32_1
          try clear hcz32_2
          try clear hcz32_3
          try clear hcz33_0
          try clear hcz33_1
          try clear hcz33_2
          try clear hcz33_3
          try clear hcz35_0
          try clear hcz35_1
          try clear hcz35_2
          try clear hcz35_3
          try clear hcz54_0
          try clear hcz54_1
          try clear hcz54_2
          try clear hcz54_3
          try clear hcz56_0
          try clear hcz56_1
          try clear hcz56_2
          try clear hcz56_3
          try clear hcz59_0
          try clear hcz59_1
          try clear hcz59_2
          try clear hcz59_3
          try clear hcz61_0
          try clear hcz61_1
          try clear hcz61_2
          try clear hcz61_3
          try clear hcz64_0
          try clear hcz64_1
          try clear hcz64_2
          try clear hcz64_3
          try clear hcz66_0
          try clear hcz66_1
          try clear hcz66_2
          try clear hcz66_3
          try clear hcz69_0
          try clear hcz69_1
          try clear hcz69_2
          try clear hcz69_3
          try clear hcz71_0
          try clear hcz71_1
          try clear hcz71_2
          try clear hcz71_3
          try clear hfz27_0
          try clear hfz27_1
          try clear hfz27_2
          try clear hfz27_3
          try clear hfz32_0
          try clear hfz32_1
          try clear hfz32_2
          try clear hfz32_3
          try clear hfz33_0
          try clear hfz33_1
          try clear hfz33_2
          try clear hfz33_3
          try clear hfz35_0
          try clear hfz35_1
          try clear hfz35_2
          try clear hfz35_3
          try clear hfz54_0
          try clear hfz54_1
          try clear hfz54_2
          try clear hfz54_3
          try clear hfz56_0
          try clear hfz56_1
          try clear hfz56_2
          try clear hfz56_3
          try clear hfz59_0
          try clear hfz59_1
          try clear hfz59_2
          try clear hfz59_3
          try clear hfz61_0
          try clear hfz61_1
          try clear hfz61_2
          try clear hfz61_3
          try clear hfz64_0
          try clear hfz64_1
          try clear hfz64_2
          try clear hfz64_3
          try clear hfz66_0
          try clear hfz66_1
          try clear hfz66_2
          try clear hfz66_3
          try clear hfz69_0
          try clear hfz69_1
          try clear hfz69_2
          try clear hfz69_3
          try clear hfz71_0
          try clear hfz71_1
          try clear hfz71_2
          try clear hfz71_3
          try clear p2
          obtain ⟨kq, x45_47, rfl, HA, HJ47, BK164, BK180, BK186, HB⟩ := hcut
          cases kq with
          | zero => exact absurd HA.out (by simp [slackwaterlaw09_ClockTells.j1])
          | succ kj47 =>
            have H := HA.out
            clear HA
            simp only [slackwaterlaw09_ClockTells.j1] at H
            replace H := Option.bind_eq_some_iff.mp H
            obtain ⟨t203, A720, H⟩ := H
            replace H : ((slackwaterref09_Check.f a0).bind fun t204 => (if t203 = t204 then ((clock_Span.f kj47 a5 a6).bind fun t205 => ((slackwaterref09_Span.f kj47 a5 a6).bind fun t206 => (if x45_47 = true then (if t205 = t206 then (if t165 = t167 then (if t169 = t172 then (if t170 = t173 then (if t187 = t189 then (if t191 = t193 then (if t195.toList = t197.toList then (some (t199 == t201)) else (none)) else (none)) else (none)) else (none)) else (none)) else (none)) else (none)) else (none)))) else (if x45_47 = true then (none) else (none)))) = some r := H
            have A72 := Aside0.mk A720
            clear A720
            replace H := Option.bind_eq_some_iff.mp H
            obtain ⟨t204, A730, H⟩ := H
            replace H : (if t203 = t204 then ((clock_Span.f kj47 a5 a6).bind fun t205 => ((slackwaterref09_Span.f kj47 a5 a6).bind fun t206 => (if x45_47 = true then (if t205 = t206 then (if t165 = t167 then (if t169 = t172 then (if t170 = t173 then (if t187 = t189 then (if t191 = t193 then (if t195.toList = t197.toList then (some (t199 == t201)) else (none)) else (none)) else (none)) else (none)) else (none)) else (none)) else (none)) else (none)))) else (if x45_47 = true then (none) else (none))) = some r := H
            have A73 := Aside0.mk A730
            clear A730
            by_cases c74 : t203 = t204
            · rw [if_pos c74] at H
              have c74b0 : (t203 == t204) = true := beq_iff_eq.mpr c74
              have c74b1 : (t203 != t204) = false := bne_eq_false_iff_eq.mpr c74
              clear c74
              replace H := Option.bind_eq_some_iff.mp H
              obtain ⟨t205, A750, H⟩ := H
              replace H : ((slackwaterref09_Span.f kj47 a5 a6).bind fun t206 => (if x45_47 = true then (if t205 = t206 then (if t165 = t167 then (if t169 = t172 then (if t170 = t173 then (if t187 = t189 then (if t191 = t193 then (if t195.toList = t197.toList then (some (t199 == t201)) else (none)) else (none)) else (none)) else (none)) else (none)) else (none)) else (none)) else (none))) = some r := H
              have A75 := Aside0.mk A750
              clear A750
              replace H := Option.bind_eq_some_iff.mp H
              obtain ⟨t206, A760, H⟩ := H
              replace H : (if x45_47 = true then (if t205 = t206 then (if t165 = t167 then (if t169 = t172 then (if t170 = t173 then (if t187 = t189 then (if t191 = t193 then (if t195.toList = t197.toList then (some (t199 == t201)) else (none)) else (none)) else (none)) else (none)) else (none)) else (none)) else (none)) else (none)) = some r := H
              have A76 := Aside0.mk A760
              clear A760
              by_cases c77 : x45_47 = true
              · subst c77
                have H1 : (if t205 = t206 then (if t165 = t167 then (if t169 = t172 then (if t170 = t173 then (if t187 = t189 then (if t191 = t193 then (if t195.toList = t197.toList then (some (t199 == t201)) else (none)) else (none)) else (none)) else (none)) else (none)) else (none)) else (none)) = some r := by rw [if_pos rfl] at H; exact H
                clear H
                have H := H1
                clear H1
                by_cases c78 : t205 = t206
                · rw [if_pos c78] at H
                  have c78b0 : (t205 == t206) = true := beq_iff_eq.mpr c78
                  have c78b1 : (t205 != t206) = false := bne_eq_false_iff_eq.mpr c78
                  clear c78
                  by_cases c79 : t165 = t167
                  · rw [if_pos c79] at H
                    have c79b0 : (t165 == t167) = true := beq_iff_eq.mpr c79
                    have c79b1 : (t165 != t167) = false := bne_eq_false_iff_eq.mpr c79
                    clear c79
                    by_cases c80 : t169 = t172
                    · rw [if_pos c80] at H
                      have c80b0 : (t169 == t172) = true := beq_iff_eq.mpr c80
                      have c80b1 : (t169 != t172) = false := bne_eq_false_iff_eq.mpr c80
                      clear c80
                      by_cases c81 : t170 = t173
                      · rw [if_pos c81] at H
                        have c81b0 : (t170 == t173) = true := beq_iff_eq.mpr c81
                        have c81b1 : (t170 != t173) = false := bne_eq_false_iff_eq.mpr c81
                        clear c81
                        by_cases c82 : t187 = t189
                        · rw [if_pos c82] at H
                          have c82b0 : (t187 == t189) = true := beq_iff_eq.mpr c82
                          have c82b1 : (t187 != t189) = false := bne_eq_false_iff_eq.mpr c82
                          clear c82
                          by_cases c83 : t191 = t193
                          · rw [if_pos c83] at H
                            have c83b0 : (t191 == t193) = true := beq_iff_eq.mpr c83
                            have c83b1 : (t191 != t193) = false := bne_eq_false_iff_eq.mpr c83
                            clear c83
                            by_cases c84 : t195.toList = t197.toList
                            · rw [if_pos c84] at H
                              have c84b0 : (t195.toList == t197.toList) = true := beq_iff_eq.mpr c84
                              have c84b1 : (t195.toList != t197.toList) = false := bne_eq_false_iff_eq.mpr c84
                              clear c84
                              obtain rfl := Option.some.inj H
                              go_wp2_with (first | ((with_reducible refine gate_callee (f := 12) rfl ?_); refine goesL_ (some 181) rfl rfl Tryd.func12 (by kernel_rfl) rfl #[.int .i64 a0] rfl (by (try simp only [List.map_toArray, List.map_cons, List.map_nil]); first | done | rfl | (simp only [List.length_drop, List.length_take]; rfl)) ?_; (with_reducible refine (clock_Check.calls a0 t203 _ A72.out).mono ?_); rintro e w' ⟨rfl, ⟨nd, rfl⟩⟩; refine ⟨_, rfl, ?_⟩) | ((with_reducible refine gate_callee (f := 27) rfl ?_); refine goesL_ (some 183) rfl rfl Tryd.func27 (by kernel_rfl) rfl #[.int .i64 a0] rfl (by (try simp only [List.map_toArray, List.map_cons, List.map_nil]); first | done | rfl | (simp only [List.length_drop, List.length_take]; rfl)) ?_; (with_reducible refine (slackwaterref09_Check.calls a0 t204 _ A73.out).mono ?_); rintro e w' ⟨rfl, ⟨nd, rfl⟩⟩; refine ⟨_, rfl, ?_⟩) | (go_at_call 28; (with_reducible refine (clock_Span.calls kj47 a5 a6 t205 _ A75.out).mono ?_); rintro e w' ⟨rfl, ⟨nd, rfl⟩⟩) | (go_at_call 29; (with_reducible refine (slackwaterref09_Span.calls kj47 a5 a6 t206 _ A76.out).mono ?_); rintro e w' ⟨rfl, ⟨nd, rfl⟩⟩))
                              go_ret
                              exact ⟨by first | rfl | (simp [errW_none, errW_some] <;> rfl) | (simp [*, errW_none, errW_some] <;> rfl), by repeat (first | (with_reducible first | exact HB.out | apply below_alloc | apply pw_below_drewN | apply below_drew1 | refine below_set ?_ GE164.out | refine below_set ?_ GE180.out | refine below_set ?_ GE186.out) | exact HB.out)⟩
                            · rw [if_neg c84] at H
                              exact absurd H (by simp)
                          · rw [if_neg c83] at H
                            exact absurd H (by simp)
                        · rw [if_neg c82] at H
                          exact absurd H (by simp)
                      · rw [if_neg c81] at H
                        exact absurd H (by simp)
                    · rw [if_neg c80] at H
                      exact absurd H (by simp)
                  · rw [if_neg c79] at H
                    exact absurd H (by simp)
                · rw [if_neg c78] at H
                  exact absurd H (by simp)
              · replace c77 := Bool.eq_false_iff.mpr c77
                subst c77
                have H1 : (none) = some r := by rw [if_neg (show ¬ (false = true) by decide)] at H; exact H
                clear H
                have H := H1
                clear H1
                exact absurd H (by simp)
            · rw [if_neg c74] at H
              have c74b0 : (t203 == t204) = false := beq_eq_false_iff_ne.mpr c74
              have c74b1 : (t203 != t204) = true := bne_iff_ne.mpr c74
              by_cases c85 : x45_47 = true
              · subst c85
                have H1 : (none) = some r := by rw [if_pos rfl] at H; exact H
                clear H
                have H := H1
                clear H1
                exact absurd H (by simp)
              · replace c85 := Bool.eq_false_iff.mpr c85
                subst c85
                have H1 : (none) = some r := by rw [if_neg (show ¬ (false = true) by decide)] at H; exact H
                clear H
                have H := H1
                clear H1
                exact absurd H (by simp)

end Go.Proofs.YtipkjbfbcdadkaaDoor.PK9
