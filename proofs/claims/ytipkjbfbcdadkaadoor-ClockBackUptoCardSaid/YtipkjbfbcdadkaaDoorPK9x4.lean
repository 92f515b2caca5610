/- Written by wip/xprint.py (the kit's print over given functions). -/
import Derived.Test.YtipkjbfbcdadkaaDoorPK9x0
import Derived.Test.YtipkjbfbcdadkaaDoorPK9x1
import Derived.Test.YtipkjbfbcdadkaaDoorPK9x2
import Derived.Test.YtipkjbfbcdadkaaDoorPK9x3
namespace Go.Proofs.YtipkjbfbcdadkaaDoor.PK9
open Go.RowKit Go.Proofs.YtipkjbfbcdadkaaDoorW.PrintWords Go.Proofs.YtipkjbfbcdadkaaDoorW.PrintLast Go.Proofs.YtipkjbfbcdadkaaDoorW.PrintMore
attribute [local go_sem] max2_int min2_int max_two min_two max_three min_three max_four min_four   -- for this text's walks alone
set_option linter.unusedVariables false
set_option linter.unusedSimpArgs false

/-! ### slackwaterlaw09_ClockBack: function 3 -/
mutual
def slackwaterlaw09_ClockBack.j0 : Nat → ByteArray → Bool → Int → Int → Int → Int → Option (Bool)
  | 0, _, _, _, _, _, _ => none
  | k + 1, x2, x7, x138000, x138001, x138002, x138003 => (clock_From.f k x138000 x138001 x138002 x138003).bind fun bt158 => (if bt158.2 = 0 then ((clock_Date.f bt158.1).bind fun bt160 => (if bt160.2.2.2.2 = 0 then ((slackwaterlaw09_is.f bt160.1 bt160.2.1 bt160.2.2.1 bt160.2.2.2.1 x138000 x138001 x138002 x138003).bind fun t166 => (if t166 = true then (slackwaterlaw09_ClockBack.j1 k x2 x7 bt158.1 bt158.2) else (none))) else (none))) else (slackwaterlaw09_ClockBack.j1 k x2 x7 bt158.1 bt158.2))
def slackwaterlaw09_ClockBack.j1 : Nat → ByteArray → Bool → Int → Int → Option (Bool)
  | 0, _, _, _, _ => none
  | k + 1, x2, x7, x21, x22 => (clock_Parse.f k x2).bind fun bt167 => (if bt167.2 = 0 then ((clock_Text.f bt167.1).bind fun bt169 => (if x7 = true then (if bt169.2 = 0 then (some (bt169.1.toList == x2.toList)) else (none)) else (none))) else (if x7 = true then (if bt167.1 = 0 then (if x22 = 0 then (some true) else (some (x21 == 0))) else (none)) else (none)))
end
def slackwaterlaw09_ClockBack.f (k : Nat) (a0 : Int) (a1_0 : Int) (a1_1 : Int) (a1_2 : Int) (a1_3 : Int) (a2 : ByteArray) : Option (Bool) := (slackwaterlaw09_awake.f k).bind fun t138 => ((clock_Of.f a0).bind fun bt139 => ((clock_Date.f a0).bind fun bt142 => ((clock_Text.f a0).bind fun bt148 => ((clock_Check.f a0).bind fun t150 => (if t150 = 0 then ((clock_At.f bt139.1 bt139.2.1).bind fun bt151 => ((clock_From.f k bt142.1 bt142.2.1 bt142.2.2.1 bt142.2.2.2.1).bind fun bt153 => ((clock_Parse.f k bt148.1).bind fun bt155 => (if bt139.2.2 = 0 then (if bt142.2.2.2.2 = 0 then (if bt148.2 = 0 then (if bt151.2 = 0 then (if bt153.2 = 0 then (if bt155.2 = 0 then (if bt151.1 = a0 then (if bt153.1 = a0 then (if bt155.1 = a0 then (if bt142.2.2.2.1 = bt139.2.1 then (slackwaterlaw09_ClockBack.j0 k a2 t138 a1_0 a1_1 a1_2 a1_3) else (none)) else (none)) else (none)) else (none)) else (none)) else (none)) else (none)) else (none)) else (none)) else (none))))) else (if t138 = true then (if bt139.2.2 = 2 then (if bt142.2.2.2.2 = 2 then (if bt148.2 = 2 then (if bt139.1 = 0 then (if bt139.2.1 = 0 then (if bt148.1.toList = ([] : List UInt8) then ((slackwaterlaw09_is.f bt142.1 bt142.2.1 bt142.2.2.1 bt142.2.2.2.1 0 0 0 0).bind fun t157 => (slackwaterlaw09_ClockBack.j0 k a2 t157 a1_0 a1_1 a1_2 a1_3)) else (slackwaterlaw09_ClockBack.j0 k a2 false a1_0 a1_1 a1_2 a1_3)) else (slackwaterlaw09_ClockBack.j0 k a2 false a1_0 a1_1 a1_2 a1_3)) else (slackwaterlaw09_ClockBack.j0 k a2 false a1_0 a1_1 a1_2 a1_3)) else (slackwaterlaw09_ClockBack.j0 k a2 false a1_0 a1_1 a1_2 a1_3)) else (slackwaterlaw09_ClockBack.j0 k a2 false a1_0 a1_1 a1_2 a1_3)) else (slackwaterlaw09_ClockBack.j0 k a2 false a1_0 a1_1 a1_2 a1_3)) else (slackwaterlaw09_ClockBack.j0 k a2 false a1_0 a1_1 a1_2 a1_3)))))))
theorem slackwaterlaw09_ClockBack.mono_l : ∀ k, (∀ y0 y1 y2 y3 y4 y5, LeO (slackwaterlaw09_ClockBack.j0 k y0 y1 y2 y3 y4 y5) (slackwaterlaw09_ClockBack.j0 (k + 1) y0 y1 y2 y3 y4 y5)) ∧ (∀ y0 y1 y2 y3, LeO (slackwaterlaw09_ClockBack.j1 k y0 y1 y2 y3) (slackwaterlaw09_ClockBack.j1 (k + 1) y0 y1 y2 y3))
  | 0 => ⟨fun _ _ _ _ _ _ r h => by simp [slackwaterlaw09_ClockBack.j0] at h, fun _ _ _ _ r h => by simp [slackwaterlaw09_ClockBack.j1] at h⟩
  | k + 1 => by
    obtain ⟨ih0, ih1⟩ := slackwaterlaw09_ClockBack.mono_l k
    refine ⟨?_, ?_⟩
    · intro y0 y1 y2 y3 y4 y5
      unfold slackwaterlaw09_ClockBack.j0
      repeat' first
      | (with_reducible exact ih0 _ _ _ _ _ _)
      | (with_reducible exact ih1 _ _ _ _)
      | (with_reducible exact clock_From.mono _ _ _ _ _)
      | (with_reducible exact clock_Parse.mono _ _)
      | (with_reducible exact slackwaterlaw09_awake.mono _)
      | (with_reducible exact LeO.refl _)
      | (with_reducible exact LeO.none _)
      | (with_reducible refine LeO.ite ?_ ?_)
      | (with_reducible refine LeO.bind ?_ (fun _ => ?_))
      | exact ih0 _ _ _ _ _ _
      | exact ih1 _ _ _ _
      | exact clock_From.mono _ _ _ _ _
      | exact clock_Parse.mono _ _
      | exact slackwaterlaw09_awake.mono _
      | exact LeO.none _
      | refine LeO.ite ?_ ?_
      | refine LeO.bind ?_ (fun _ => ?_)
    · intro y0 y1 y2 y3
      unfold slackwaterlaw09_ClockBack.j1
      repeat' first
      | (with_reducible exact ih0 _ _ _ _ _ _)
      | (with_reducible exact ih1 _ _ _ _)
      | (with_reducible exact clock_From.mono _ _ _ _ _)
      | (with_reducible exact clock_Parse.mono _ _)
      | (with_reducible exact slackwaterlaw09_awake.mono _)
      | (with_reducible exact LeO.refl _)
      | (with_reducible exact LeO.none _)
      | (with_reducible refine LeO.ite ?_ ?_)
      | (with_reducible refine LeO.bind ?_ (fun _ => ?_))
      | exact ih0 _ _ _ _ _ _
      | exact ih1 _ _ _ _
      | exact clock_From.mono _ _ _ _ _
      | exact clock_Parse.mono _ _
      | exact slackwaterlaw09_awake.mono _
      | exact LeO.none _
      | refine LeO.ite ?_ ?_
      | refine LeO.bind ?_ (fun _ => ?_)
theorem slackwaterlaw09_ClockBack.mono : ∀ a0 a1 a2 a3 a4 a5 k, LeO (slackwaterlaw09_ClockBack.f k a0 a1 a2 a3 a4 a5) (slackwaterlaw09_ClockBack.f (k + 1) a0 a1 a2 a3 a4 a5) := by
  intro a0 a1 a2 a3 a4 a5 k
  obtain ⟨ih0, ih1⟩ := slackwaterlaw09_ClockBack.mono_l k
  unfold slackwaterlaw09_ClockBack.f
  repeat' first
      | (with_reducible exact ih0 _ _ _ _ _ _)
      | (with_reducible exact ih1 _ _ _ _)
      | (with_reducible exact clock_From.mono _ _ _ _ _)
      | (with_reducible exact clock_Parse.mono _ _)
      | (with_reducible exact slackwaterlaw09_awake.mono _)
      | (with_reducible exact LeO.refl _)
      | (with_reducible exact LeO.none _)
      | (with_reducible refine LeO.ite ?_ ?_)
      | (with_reducible refine LeO.bind ?_ (fun _ => ?_))
      | exact ih0 _ _ _ _ _ _
      | exact ih1 _ _ _ _
      | exact clock_From.mono _ _ _ _ _
      | exact clock_Parse.mono _ _
      | exact slackwaterlaw09_awake.mono _
      | exact LeO.none _
      | refine LeO.ite ?_ ?_
      | refine LeO.bind ?_ (fun _ => ?_)
set_option maxHeartbeats 8000000 in
set_option maxRecDepth 100000 in
theorem slackwaterlaw09_ClockBack.calls (k : Nat) (a0 : Int) (a1_0 : Int) (a1_1 : Int) (a1_2 : Int) (a1_3 : Int) (a2 : ByteArray) (r : Bool) (w : World) (hL : LW w) (h : slackwaterlaw09_ClockBack.f k a0 a1_0 a1_1 a1_2 a1_3 a2 = some r) :
    Calls Tryd.prog 3 #[.int .i64 a0, .agg #[.int .i64 a1_0, .int .i64 a1_1, .int .i64 a1_2, .int .i64 a1_3], .string a2] w fun e w' => e = .returned (.bool r) ∧ Below w.heap.size w w' := by
  have hu23 := Tryd.underlying23
  have HB := Aside0.mk (Below.refl w.heap.size w)
  have H : ((slackwaterlaw09_awake.f k).bind fun t138 => ((clock_Of.f a0).bind fun bt139 => ((clock_Date.f a0).bind fun bt142 => ((clock_Text.f a0).bind fun bt148 => ((clock_Check.f a0).bind fun t150 => (if t150 = 0 then ((clock_At.f bt139.1 bt139.2.1).bind fun bt151 => ((clock_From.f k bt142.1 bt142.2.1 bt142.2.2.1 bt142.2.2.2.1).bind fun bt153 => ((clock_Parse.f k bt148.1).bind fun bt155 => (if bt139.2.2 = 0 then (if bt142.2.2.2.2 = 0 then (if bt148.2 = 0 then (if bt151.2 = 0 then (if bt153.2 = 0 then (if bt155.2 = 0 then (if bt151.1 = a0 then (if bt153.1 = a0 then (if bt155.1 = a0 then (if bt142.2.2.2.1 = bt139.2.1 then (slackwaterlaw09_ClockBack.j0 k a2 t138 a1_0 a1_1 a1_2 a1_3) else (none)) else (none)) else (none)) else (none)) else (none)) else (none)) else (none)) else (none)) else (none)) else (none))))) else (if t138 = true then (if bt139.2.2 = 2 then (if bt142.2.2.2.2 = 2 then (if bt148.2 = 2 then (if bt139.1 = 0 then (if bt139.2.1 = 0 then (if bt148.1.toList = ([] : List UInt8) then ((slackwaterlaw09_is.f bt142.1 bt142.2.1 bt142.2.2.1 bt142.2.2.2.1 0 0 0 0).bind fun t157 => (slackwaterlaw09_ClockBack.j0 k a2 t157 a1_0 a1_1 a1_2 a1_3)) else (slackwaterlaw09_ClockBack.j0 k a2 false a1_0 a1_1 a1_2 a1_3)) else (slackwaterlaw09_ClockBack.j0 k a2 false a1_0 a1_1 a1_2 a1_3)) else (slackwaterlaw09_ClockBack.j0 k a2 false a1_0 a1_1 a1_2 a1_3)) else (slackwaterlaw09_ClockBack.j0 k a2 false a1_0 a1_1 a1_2 a1_3)) else (slackwaterlaw09_ClockBack.j0 k a2 false a1_0 a1_1 a1_2 a1_3)) else (slackwaterlaw09_ClockBack.j0 k a2 false a1_0 a1_1 a1_2 a1_3)) else (slackwaterlaw09_ClockBack.j0 k a2 false a1_0 a1_1 a1_2 a1_3)))))))) = some r := h
  clear h
  replace H := Option.bind_eq_some_iff.mp H
  obtain ⟨t138, A40, H⟩ := H
  replace H : ((clock_Of.f a0).bind fun bt139 => ((clock_Date.f a0).bind fun bt142 => ((clock_Text.f a0).bind fun bt148 => ((clock_Check.f a0).bind fun t150 => (if t150 = 0 then ((clock_At.f bt139.1 bt139.2.1).bind fun bt151 => ((clock_From.f k bt142.1 bt142.2.1 bt142.2.2.1 bt142.2.2.2.1).bind fun bt153 => ((clock_Parse.f k bt148.1).bind fun bt155 => (if bt139.2.2 = 0 then (if bt142.2.2.2.2 = 0 then (if bt148.2 = 0 then (if bt151.2 = 0 then (if bt153.2 = 0 then (if bt155.2 = 0 then (if bt151.1 = a0 then (if bt153.1 = a0 then (if bt155.1 = a0 then (if bt142.2.2.2.1 = bt139.2.1 then (slackwaterlaw09_ClockBack.j0 k a2 t138 a1_0 a1_1 a1_2 a1_3) else (none)) else (none)) else (none)) else (none)) else (none)) else (none)) else (none)) else (none)) else (none)) else (none))))) else (if t138 = true then (if bt139.2.2 = 2 then (if bt142.2.2.2.2 = 2 then (if bt148.2 = 2 then (if bt139.1 = 0 then (if bt139.2.1 = 0 then (if bt148.1.toList = ([] : List UInt8) then ((slackwaterlaw09_is.f bt142.1 bt142.2.1 bt142.2.2.1 bt142.2.2.2.1 0 0 0 0).bind fun t157 => (slackwaterlaw09_ClockBack.j0 k a2 t157 a1_0 a1_1 a1_2 a1_3)) else (slackwaterlaw09_ClockBack.j0 k a2 false a1_0 a1_1 a1_2 a1_3)) else (slackwaterlaw09_ClockBack.j0 k a2 false a1_0 a1_1 a1_2 a1_3)) else (slackwaterlaw09_ClockBack.j0 k a2 false a1_0 a1_1 a1_2 a1_3)) else (slackwaterlaw09_ClockBack.j0 k a2 false a1_0 a1_1 a1_2 a1_3)) else (slackwaterlaw09_ClockBack.j0 k a2 false a1_0 a1_1 a1_2 a1_3)) else (slackwaterlaw09_ClockBack.j0 k a2 false a1_0 a1_1 a1_2 a1_3)) else (slackwaterlaw09_ClockBack.j0 k a2 false a1_0 a1_1 a1_2 a1_3))))))) = some r := H
  have A4 := Aside0.mk A40
  clear A40
  replace H := Option.bind_eq_some_iff.mp H
  obtain ⟨⟨t139, t140, t141⟩, A50, H⟩ := H
  replace H : ((clock_Date.f a0).bind fun bt142 => ((clock_Text.f a0).bind fun bt148 => ((clock_Check.f a0).bind fun t150 => (if t150 = 0 then ((clock_At.f t139 t140).bind fun bt151 => ((clock_From.f k bt142.1 bt142.2.1 bt142.2.2.1 bt142.2.2.2.1).bind fun bt153 => ((clock_Parse.f k bt148.1).bind fun bt155 => (if t141 = 0 then (if bt142.2.2.2.2 = 0 then (if bt148.2 = 0 then (if bt151.2 = 0 then (if bt153.2 = 0 then (if bt155.2 = 0 then (if bt151.1 = a0 then (if bt153.1 = a0 then (if bt155.1 = a0 then (if bt142.2.2.2.1 = t140 then (slackwaterlaw09_ClockBack.j0 k a2 t138 a1_0 a1_1 a1_2 a1_3) else (none)) else (none)) else (none)) else (none)) else (none)) else (none)) else (none)) else (none)) else (none)) else (none))))) else (if t138 = true then (if t141 = 2 then (if bt142.2.2.2.2 = 2 then (if bt148.2 = 2 then (if t139 = 0 then (if t140 = 0 then (if bt148.1.toList = ([] : List UInt8) then ((slackwaterlaw09_is.f bt142.1 bt142.2.1 bt142.2.2.1 bt142.2.2.2.1 0 0 0 0).bind fun t157 => (slackwaterlaw09_ClockBack.j0 k a2 t157 a1_0 a1_1 a1_2 a1_3)) else (slackwaterlaw09_ClockBack.j0 k a2 false a1_0 a1_1 a1_2 a1_3)) else (slackwaterlaw09_ClockBack.j0 k a2 false a1_0 a1_1 a1_2 a1_3)) else (slackwaterlaw09_ClockBack.j0 k a2 false a1_0 a1_1 a1_2 a1_3)) else (slackwaterlaw09_ClockBack.j0 k a2 false a1_0 a1_1 a1_2 a1_3)) else (slackwaterlaw09_ClockBack.j0 k a2 false a1_0 a1_1 a1_2 a1_3)) else (slackwaterlaw09_ClockBack.j0 k a2 false a1_0 a1_1 a1_2 a1_3)) else (slackwaterlaw09_ClockBack.j0 k a2 false a1_0 a1_1 a1_2 a1_3)))))) = some r := H
  have A5 := Aside0.mk A50
  clear A50
  replace H := Option.bind_eq_some_iff.mp H
  obtain ⟨⟨t142, t143, t144, t145, t146⟩, A60, H⟩ := H
  replace H : ((clock_Text.f a0).bind fun bt148 => ((clock_Check.f a0).bind fun t150 => (if t150 = 0 then ((clock_At.f t139 t140).bind fun bt151 => ((clock_From.f k t142 t143 t144 t145).bind fun bt153 => ((clock_Parse.f k bt148.1).bind fun bt155 => (if t141 = 0 then (if t146 = 0 then (if bt148.2 = 0 then (if bt151.2 = 0 then (if bt153.2 = 0 then (if bt155.2 = 0 then (if bt151.1 = a0 then (if bt153.1 = a0 then (if bt155.1 = a0 then (if t145 = t140 then (slackwaterlaw09_ClockBack.j0 k a2 t138 a1_0 a1_1 a1_2 a1_3) else (none)) else (none)) else (none)) else (none)) else (none)) else (none)) else (none)) else (none)) else (none)) else (none))))) else (if t138 = true then (if t141 = 2 then (if t146 = 2 then (if bt148.2 = 2 then (if t139 = 0 then (if t140 = 0 then (if bt148.1.toList = ([] : List UInt8) then ((slackwaterlaw09_is.f t142 t143 t144 t145 0 0 0 0).bind fun t157 => (slackwaterlaw09_ClockBack.j0 k a2 t157 a1_0 a1_1 a1_2 a1_3)) else (slackwaterlaw09_ClockBack.j0 k a2 false a1_0 a1_1 a1_2 a1_3)) else (slackwaterlaw09_ClockBack.j0 k a2 false a1_0 a1_1 a1_2 a1_3)) else (slackwaterlaw09_ClockBack.j0 k a2 false a1_0 a1_1 a1_2 a1_3)) else (slackwaterlaw09_ClockBack.j0 k a2 false a1_0 a1_1 a1_2 a1_3)) else (slackwaterlaw09_ClockBack.j0 k a2 false a1_0 a1_1 a1_2 a1_3)) else (slackwaterlaw09_ClockBack.j0 k a2 false a1_0 a1_1 a1_2 a1_3)) else (slackwaterlaw09_ClockBack.j0 k a2 false a1_0 a1_1 a1_2 a1_3))))) = some r := H
  have A6 := Aside0.mk A60
  clear A60
  replace H := Option.bind_eq_some_iff.mp H
  obtain ⟨⟨t148, t149⟩, A70, H⟩ := H
  replace H : ((clock_Check.f a0).bind fun t150 => (if t150 = 0 then ((clock_At.f t139 t140).bind fun bt151 => ((clock_From.f k t142 t143 t144 t145).bind fun bt153 => ((clock_Parse.f k t148).bind fun bt155 => (if t141 = 0 then (if t146 = 0 then (if t149 = 0 then (if bt151.2 = 0 then (if bt153.2 = 0 then (if bt155.2 = 0 then (if bt151.1 = a0 then (if bt153.1 = a0 then (if bt155.1 = a0 then (if t145 = t140 then (slackwaterlaw09_ClockBack.j0 k a2 t138 a1_0 a1_1 a1_2 a1_3) else (none)) else (none)) else (none)) else (none)) else (none)) else (none)) else (none)) else (none)) else (none)) else (none))))) else (if t138 = true then (if t141 = 2 then (if t146 = 2 then (if t149 = 2 then (if t139 = 0 then (if t140 = 0 then (if t148.toList = ([] : List UInt8) then ((slackwaterlaw09_is.f t142 t143 t144 t145 0 0 0 0).bind fun t157 => (slackwaterlaw09_ClockBack.j0 k a2 t157 a1_0 a1_1 a1_2 a1_3)) else (slackwaterlaw09_ClockBack.j0 k a2 false a1_0 a1_1 a1_2 a1_3)) else (slackwaterlaw09_ClockBack.j0 k a2 false a1_0 a1_1 a1_2 a1_3)) else (slackwaterlaw09_ClockBack.j0 k a2 false a1_0 a1_1 a1_2 a1_3)) else (slackwaterlaw09_ClockBack.j0 k a2 false a1_0 a1_1 a1_2 a1_3)) else (slackwaterlaw09_ClockBack.j0 k a2 false a1_0 a1_1 a1_2 a1_3)) else (slackwaterlaw09_ClockBack.j0 k a2 false a1_0 a1_1 a1_2 a1_3)) else (slackwaterlaw09_ClockBack.j0 k a2 false a1_0 a1_1 a1_2 a1_3)))) = some r := H
  have A7 := Aside0.mk A70
  clear A70
  replace H := Option.bind_eq_some_iff.mp H
  obtain ⟨t150, A80, H⟩ := H
  replace H : (if t150 = 0 then ((clock_At.f t139 t140).bind fun bt151 => ((clock_From.f k t142 t143 t144 t145).bind fun bt153 => ((clock_Parse.f k t148).bind fun bt155 => (if t141 = 0 then (if t146 = 0 then (if t149 = 0 then (if bt151.2 = 0 then (if bt153.2 = 0 then (if bt155.2 = 0 then (if bt151.1 = a0 then (if bt153.1 = a0 then (if bt155.1 = a0 then (if t145 = t140 then (slackwaterlaw09_ClockBack.j0 k a2 t138 a1_0 a1_1 a1_2 a1_3) else (none)) else (none)) else (none)) else (none)) else (none)) else (none)) else (none)) else (none)) else (none)) else (none))))) else (if t138 = true then (if t141 = 2 then (if t146 = 2 then (if t149 = 2 then (if t139 = 0 then (if t140 = 0 then (if t148.toList = ([] : List UInt8) then ((slackwaterlaw09_is.f t142 t143 t144 t145 0 0 0 0).bind fun t157 => (slackwaterlaw09_ClockBack.j0 k a2 t157 a1_0 a1_1 a1_2 a1_3)) else (slackwaterlaw09_ClockBack.j0 k a2 false a1_0 a1_1 a1_2 a1_3)) else (slackwaterlaw09_ClockBack.j0 k a2 false a1_0 a1_1 a1_2 a1_3)) else (slackwaterlaw09_ClockBack.j0 k a2 false a1_0 a1_1 a1_2 a1_3)) else (slackwaterlaw09_ClockBack.j0 k a2 false a1_0 a1_1 a1_2 a1_3)) else (slackwaterlaw09_ClockBack.j0 k a2 false a1_0 a1_1 a1_2 a1_3)) else (slackwaterlaw09_ClockBack.j0 k a2 false a1_0 a1_1 a1_2 a1_3)) else (slackwaterlaw09_ClockBack.j0 k a2 false a1_0 a1_1 a1_2 a1_3))) = some r := H
  have A8 := Aside0.mk A80
  clear A80
  have HC9 := Aside0.mk H
  clear H
  go_enter Tryd.func3, Tryd.ntmps3
  go_upto_if 48 with (first | ((with_reducible refine gate_dst (N := 4) rfl ?_); refine box_event ?hg (N := 4) ?hd (cs := #[.int .i64 a1_0, .int .i64 a1_1, .int .i64 a1_2, .int .i64 a1_3]) (t := 23) ?hr ?_; (case hd => rfl); (case hg => rfl); (case hr => first | (go_simp; done) | (go_simp; rfl)); intro gb137 hg w10 hbox hb; have n0_ := Aside0.mk (below_step (by repeat (first | (with_reducible first | exact HB.out | apply below_alloc | apply pw_below_drewN | apply below_drew1) | exact HB.out)) hb); have n1_ := Aside0.mk (hbox); have n2_ := Aside0.mk ((by rw [hg]; exact (below_size (by repeat (first | (with_reducible first | exact HB.out | apply below_alloc | apply pw_below_drewN | apply below_drew1) | exact HB.out))) : w.heap.size ≤ gb137)); have n3_ := Aside0.mk ((by rw [hg]; exact (below_size (by repeat (first | (with_reducible first | exact HB.out | apply below_alloc | apply pw_below_drewN | apply below_drew1) | exact HB.out))) : w.heap.size ≤ gb137)); clear HB; have HB := n0_; have BK137 := n1_; have GW137 := n2_; have GE137 := n3_; clear n0_ n1_ n2_ n3_; clear hb hbox hg) | ((with_reducible refine gate_callee (f := 8) rfl ?_); refine goesL_ (some 29) rfl rfl Tryd.func8 (by kernel_rfl) rfl #[] rfl (by (try simp only [List.map_toArray, List.map_cons, List.map_nil]); first | done | rfl | (simp only [List.length_drop, List.length_take]; rfl)) ?_; (with_reducible refine (slackwaterlaw09_awake.calls k  t138 _ (hL.below (by repeat (first | (with_reducible first | exact HB.out | apply below_alloc | apply pw_below_drewN | apply below_drew1 | refine below_set ?_ GE137.out) | exact HB.out))) A4.out).mono ?_); rintro e w11 ⟨rfl, hb⟩; refine ⟨_, rfl, ?_⟩; have n0_ := Aside0.mk (blk_below (g := gb137) (o := .cells #[.int .i64 a1_0, .int .i64 a1_1, .int .i64 a1_2, .int .i64 a1_3] 23 (0, 0)) (by (with_reducible repeat (first | refine blk_drewN ?_ _ | refine blk_drew ?_ | refine blk_alloc ?_ _)); exact BK137.out) hb); have n1_ := Aside0.mk (below_step (by repeat (first | (with_reducible first | exact HB.out | apply below_alloc | apply pw_below_drewN | apply below_drew1 | refine below_set ?_ GE137.out) | exact HB.out)) hb); clear BK137; clear HB; have BK137 := n0_; have HB := n1_; clear n0_ n1_; (try clear hb); (try clear hb2); (try clear hk); (try clear hi)) | ((with_reducible refine gate_callee (f := 9) rfl ?_); refine goesL_ (some 32) rfl rfl Tryd.func9 (by kernel_rfl) rfl #[.int .i64 a0] rfl (by (try simp only [List.map_toArray, List.map_cons, List.map_nil]); first | done | rfl | (simp only [List.length_drop, List.length_take]; rfl)) ?_; (with_reducible refine (clock_Of.calls a0 t139 t140 t141 _ A5.out).mono ?_); rintro e w' ⟨rfl, ⟨nd, rfl⟩⟩; refine ⟨_, rfl, ?_⟩; (try (rw [drewN_self w11]; generalize hq_ : World.drewN w11 _ = w11; have n0_ : Aside0 (w11.heap[gb137]? = some (.cells #[.int .i64 a1_0, .int .i64 a1_1, .int .i64 a1_2, .int .i64 a1_3] 23 (0, 0))) := ⟨by rw [← hq_]; exact (by (with_reducible repeat (first | refine blk_drewN ?_ _ | refine blk_drew ?_ | refine blk_alloc ?_ _)); exact BK137.out)⟩; have n1_ : Aside0 (Below w.heap.size w w11) := ⟨by rw [← hq_]; exact (by repeat (first | (with_reducible first | exact HB.out | apply below_alloc | apply pw_below_drewN | apply below_drew1 | refine below_set ?_ GE137.out) | exact HB.out))⟩; clear BK137 HB hq_; have BK137 := n0_; have HB := n1_; clear n0_ n1_))) | ((with_reducible refine gate_callee (f := 10) rfl ?_); refine goesL_ (some 38) rfl rfl Tryd.func10 (by kernel_rfl) rfl #[.int .i64 a0] rfl (by (try simp only [List.map_toArray, List.map_cons, List.map_nil]); first | done | rfl | (simp only [List.length_drop, List.length_take]; rfl)) ?_; (with_reducible refine (clock_Date.calls a0 t142 t143 t144 t145 t146 _ A6.out).mono ?_); rintro e w12 ⟨rfl, hb⟩; refine ⟨_, rfl, ?_⟩; have n0_ := Aside0.mk (blk_below (g := gb137) (o := .cells #[.int .i64 a1_0, .int .i64 a1_1, .int .i64 a1_2, .int .i64 a1_3] 23 (0, 0)) (by (with_reducible repeat (first | refine blk_drewN ?_ _ | refine blk_drew ?_ | refine blk_alloc ?_ _)); exact BK137.out) hb); have n1_ := Aside0.mk (below_step (by repeat (first | (with_reducible first | exact HB.out | apply below_alloc | apply pw_below_drewN | apply below_drew1 | refine below_set ?_ GE137.out) | exact HB.out)) hb); clear BK137; clear HB; have BK137 := n0_; have HB := n1_; clear n0_ n1_; (try clear hb); (try clear hb2); (try clear hk); (try clear hi)) | ((with_reducible refine gate_dst (N := 11) rfl ?_); refine box_event ?hg (N := 11) ?hd (cs := #[.int .i64 0, .int .i64 0, .int .i64 0, .int .i64 0]) (t := 23) ?hr ?_; (case hd => rfl); (case hg => rfl); (case hr => first | (go_simp; done) | (go_simp; rfl)); intro gb147 hg w13 hbox hb; have n0_ := Aside0.mk (blk_below (g := gb137) (o := .cells #[.int .i64 a1_0, .int .i64 a1_1, .int .i64 a1_2, .int .i64 a1_3] 23 (0, 0)) (by (with_reducible repeat (first | refine blk_drewN ?_ _ | refine blk_drew ?_ | refine blk_alloc ?_ _)); exact BK137.out) hb); have n1_ := Aside0.mk (below_step (by repeat (first | (with_reducible first | exact HB.out | apply below_alloc | apply pw_below_drewN | apply below_drew1 | refine below_set ?_ GE137.out) | exact HB.out)) hb); have n2_ := Aside0.mk (hbox); have n3_ := Aside0.mk ((by rw [hg]; exact (below_size (by repeat (first | (with_reducible first | exact HB.out | apply below_alloc | apply pw_below_drewN | apply below_drew1 | refine below_set ?_ GE137.out) | exact HB.out))) : w.heap.size ≤ gb147)); have n4_ := Aside0.mk ((by rw [hg]; exact (below_size (by repeat (first | (with_reducible first | exact HB.out | apply below_alloc | apply pw_below_drewN | apply below_drew1 | refine below_set ?_ GE137.out) | exact HB.out))) : w.heap.size ≤ gb147)); have n5_ := Aside0.mk ((by rw [hg]; exact Nat.ne_of_lt (blk_lt (g := gb137) (o := .cells #[.int .i64 a1_0, .int .i64 a1_1, .int .i64 a1_2, .int .i64 a1_3] 23 (0, 0)) (by (with_reducible repeat (first | refine blk_drewN ?_ _ | refine blk_drew ?_ | refine blk_alloc ?_ _)); exact BK137.out)) : gb137 ≠ gb147)); have n6_ := Aside0.mk ((by rw [hg]; exact Nat.ne_of_gt (blk_lt (g := gb137) (o := .cells #[.int .i64 a1_0, .int .i64 a1_1, .int .i64 a1_2, .int .i64 a1_3] 23 (0, 0)) (by (with_reducible repeat (first | refine blk_drewN ?_ _ | refine blk_drew ?_ | refine blk_alloc ?_ _)); exact BK137.out)) : gb147 ≠ gb137)); clear BK137; clear HB; have BK137 := n0_; have HB := n1_; have BK147 := n2_; have GW147 := n3_; have GE147 := n4_; have NB137_147 := n5_; have NB147_137 := n6_; clear n0_ n1_ n2_ n3_ n4_ n5_ n6_; clear hb hbox hg; have hnb14 := NB147_137.out; have hnc14 := NB137_147.out; have hcz15_0 : w13.cell? ⟨gb147, 0, none⟩ = some (.int .i64 0) := (blk_cell BK147.out 0).trans rfl; have hcz15_1 : w13.cell? ⟨gb147, 1, none⟩ = some (.int .i64 0) := (blk_cell BK147.out 1).trans rfl; have hcz15_2 : w13.cell? ⟨gb147, 2, none⟩ = some (.int .i64 0) := (blk_cell BK147.out 2).trans rfl; have hcz15_3 : w13.cell? ⟨gb147, 3, none⟩ = some (.int .i64 0) := (blk_cell BK147.out 3).trans rfl; have hfz15_0 := blk_frozen BK147.out 0; have hfz15_1 := blk_frozen BK147.out 1; have hfz15_2 := blk_frozen BK147.out 2; have hfz15_3 := blk_frozen BK147.out 3) | ((with_reducible refine gate_callee (f := 11) rfl ?_); refine goesL_ (some 43) rfl rfl Tryd.func11 (by kernel_rfl) rfl #[.int .i64 a0] rfl (by (try simp only [List.map_toArray, List.map_cons, List.map_nil]); first | done | rfl | (simp only [List.length_drop, List.length_take]; rfl)) ?_; (with_reducible refine (clock_Text.calls a0 t148 t149 _ (hL.below (by repeat (first | (with_reducible first | exact HB.out | apply below_alloc | apply pw_below_drewN | apply below_drew1 | refine below_set ?_ GE137.out | refine below_set ?_ GE147.out) | exact HB.out))) A7.out).mono ?_); rintro e w16 ⟨rfl, hb⟩; refine ⟨_, rfl, ?_⟩; have n0_ := Aside0.mk (blk_below (g := gb137) (o := .cells #[.int .i64 a1_0, .int .i64 a1_1, .int .i64 a1_2, .int .i64 a1_3] 23 (0, 0)) (by (with_reducible repeat (first | refine blk_drewN ?_ _ | refine blk_drew ?_ | refine blk_alloc ?_ _)); refine blk_far ?_ NB137_147.out _; (with_reducible repeat (first | refine blk_drewN ?_ _ | refine blk_drew ?_ | refine blk_alloc ?_ _)); refine blk_far ?_ NB137_147.out _; (with_reducible repeat (first | refine blk_drewN ?_ _ | refine blk_drew ?_ | refine blk_alloc ?_ _)); refine blk_far ?_ NB137_147.out _; (with_reducible repeat (first | refine blk_drewN ?_ _ | refine blk_drew ?_ | refine blk_alloc ?_ _)); refine blk_far ?_ NB137_147.out _; (with_reducible repeat (first | refine blk_drewN ?_ _ | refine blk_drew ?_ | refine blk_alloc ?_ _)); exact BK137.out) hb); have n1_ := Aside0.mk (blk_below (g := gb147) (o := .cells #[.int .i64 t142, .int .i64 t143, .int .i64 t144, .int .i64 t145] 23 (0, 0)) (by (with_reducible repeat (first | refine blk_drewN ?_ _ | refine blk_drew ?_ | refine blk_alloc ?_ _)); refine blk_put (cs := #[.int .i64 t142, .int .i64 t143, .int .i64 t144, .int .i64 0]) ?_ 3 _ rfl; (with_reducible repeat (first | refine blk_drewN ?_ _ | refine blk_drew ?_ | refine blk_alloc ?_ _)); refine blk_put (cs := #[.int .i64 t142, .int .i64 t143, .int .i64 0, .int .i64 0]) ?_ 2 _ rfl; (with_reducible repeat (first | refine blk_drewN ?_ _ | refine blk_drew ?_ | refine blk_alloc ?_ _)); refine blk_put (cs := #[.int .i64 t142, .int .i64 0, .int .i64 0, .int .i64 0]) ?_ 1 _ rfl; (with_reducible repeat (first | refine blk_drewN ?_ _ | refine blk_drew ?_ | refine blk_alloc ?_ _)); refine blk_put (cs := #[.int .i64 0, .int .i64 0, .int .i64 0, .int .i64 0]) ?_ 0 _ rfl; (with_reducible repeat (first | refine blk_drewN ?_ _ | refine blk_drew ?_ | refine blk_alloc ?_ _)); exact BK147.out) hb); have n2_ := Aside0.mk (below_step (by repeat (first | (with_reducible first | exact HB.out | apply below_alloc | apply pw_below_drewN | apply below_drew1 | refine below_set ?_ GE137.out | refine below_set ?_ GE147.out) | exact HB.out)) hb); clear BK137; clear BK147; clear HB; have BK137 := n0_; have BK147 := n1_; have HB := n2_; clear n0_ n1_ n2_; (try clear hb); (try clear hb2); (try clear hk); (try clear hi)) | ((with_reducible refine gate_callee (f := 12) rfl ?_); refine goesL_ (some 47) rfl rfl Tryd.func12 (by kernel_rfl) rfl #[.int .i64 a0] rfl (by (try simp only [List.map_toArray, List.map_cons, List.map_nil]); first | done | rfl | (simp only [List.length_drop, List.length_take]; rfl)) ?_; (with_reducible refine (clock_Check.calls a0 t150 _ A8.out).mono ?_); rintro e w' ⟨rfl, ⟨nd, rfl⟩⟩; refine ⟨_, rfl, ?_⟩))
  (try simp only [Act.put, List.setIfInBounds_toArray, List.set_cons_zero, List.set_cons_succ])
  go_cut [7] (fun v7 wc => ∃ (kq : Nat) (x7_8 : Bool), v7 = .bool x7_8 ∧ Aside0 (slackwaterlaw09_ClockBack.j0 kq a2 x7_8 a1_0 a1_1 a1_2 a1_3 = some r) ∧ Aside0 (kq ≤ k) ∧ Aside0 (wc.heap[gb137]? = some (.cells #[.int .i64 a1_0, .int .i64 a1_1, .int .i64 a1_2, .int .i64 a1_3] 23 (0, 0))) ∧ Aside0 (wc.heap[gb147]? = some (.cells #[.int .i64 t142, .int .i64 t143, .int .i64 t144, .int .i64 t145] 23 (0, 0))) ∧ Aside0 (Below w.heap.size w wc))
  case first =>
    have H := HC9.out
    clear HC9
    by_cases c17 : t150 = 0
    · rw [if_pos c17] at H
      have c17b0 : (t150 == 0) = true := beq_iff_eq.mpr c17
      have c17b1 : (t150 != 0) = false := bne_eq_false_iff_eq.mpr c17
      clear c17
      (first | rw [c17b0] | (simp only [i64_w, i32_w]; rw [c17b0]) | skip)
      replace H := Option.bind_eq_some_iff.mp H
      obtain ⟨⟨t151, t152⟩, A180, H⟩ := H
      replace H : ((clock_From.f k t142 t143 t144 t145).bind fun bt153 => ((clock_Parse.f k t148).bind fun bt155 => (if t141 = 0 then (if t146 = 0 then (if t149 = 0 then (if t152 = 0 then (if bt153.2 = 0 then (if bt155.2 = 0 then (if t151 = a0 then (if bt153.1 = a0 then (if bt155.1 = a0 then (if t145 = t140 then (slackwaterlaw09_ClockBack.j0 k a2 t138 a1_0 a1_1 a1_2 a1_3) else (none)) else (none)) else (none)) else (none)) else (none)) else (none)) else (none)) else (none)) else (none)) else (none)))) = some r := H
      have A18 := Aside0.mk A180
      clear A180
      replace H := Option.bind_eq_some_iff.mp H
      obtain ⟨⟨t153, t154⟩, A190, H⟩ := H
      replace H : ((clock_Parse.f k t148).bind fun bt155 => (if t141 = 0 then (if t146 = 0 then (if t149 = 0 then (if t152 = 0 then (if t154 = 0 then (if bt155.2 = 0 then (if t151 = a0 then (if t153 = a0 then (if bt155.1 = a0 then (if t145 = t140 then (slackwaterlaw09_ClockBack.j0 k a2 t138 a1_0 a1_1 a1_2 a1_3) else (none)) else (none)) else (none)) else (none)) else (none)) else (none)) else (none)) else (none)) else (none)) else (none))) = some r := H
      have A19 := Aside0.mk A190
      clear A190
      replace H := Option.bind_eq_some_iff.mp H
      obtain ⟨⟨t155, t156⟩, A200, H⟩ := H
      replace H : (if t141 = 0 then (if t146 = 0 then (if t149 = 0 then (if t152 = 0 then (if t154 = 0 then (if t156 = 0 then (if t151 = a0 then (if t153 = a0 then (if t155 = a0 then (if t145 = t140 then (slackwaterlaw09_ClockBack.j0 k a2 t138 a1_0 a1_1 a1_2 a1_3) else (none)) else (none)) else (none)) else (none)) else (none)) else (none)) else (none)) else (none)) else (none)) else (none)) = some r := H
      have A20 := Aside0.mk A200
      clear A200
      by_cases c21 : t141 = 0
      · rw [if_pos c21] at H
        have c21b0 : (t141 == 0) = true := beq_iff_eq.mpr c21
        have c21b1 : (t141 != 0) = false := bne_eq_false_iff_eq.mpr c21
        clear c21
        by_cases c22 : t146 = 0
        · rw [if_pos c22] at H
          have c22b0 : (t146 == 0) = true := beq_iff_eq.mpr c22
          have c22b1 : (t146 != 0) = false := bne_eq_false_iff_eq.mpr c22
          clear c22
          by_cases c23 : t149 = 0
          · rw [if_pos c23] at H
            have c23b0 : (t149 == 0) = true := beq_iff_eq.mpr c23
            have c23b1 : (t149 != 0) = false := bne_eq_false_iff_eq.mpr c23
            clear c23
            by_cases c24 : t152 = 0
            · rw [if_pos c24] at H
              have c24b0 : (t152 == 0) = true := beq_iff_eq.mpr c24
              have c24b1 : (t152 != 0) = false := bne_eq_false_iff_eq.mpr c24
              clear c24
              by_cases c25 : t154 = 0
              · rw [if_pos c25] at H
                have c25b0 : (t154 == 0) = true := beq_iff_eq.mpr c25
                have c25b1 : (t154 != 0) = false := bne_eq_false_iff_eq.mpr c25
                clear c25
                by_cases c26 : t156 = 0
                · rw [if_pos c26] at H
                  have c26b0 : (t156 == 0) = true := beq_iff_eq.mpr c26
                  have c26b1 : (t156 != 0) = false := bne_eq_false_iff_eq.mpr c26
                  clear c26
                  by_cases c27 : t151 = a0
                  · rw [if_pos c27] at H
                    have c27b0 : (t151 == a0) = true := beq_iff_eq.mpr c27
                    have c27b1 : (t151 != a0) = false := bne_eq_false_iff_eq.mpr c27
                    clear c27
                    by_cases c28 : t153 = a0
                    · rw [if_pos c28] at H
                      have c28b0 : (t153 == a0) = true := beq_iff_eq.mpr c28
                      have c28b1 : (t153 != a0) = false := bne_eq_false_iff_eq.mpr c28
                      clear c28
                      by_cases c29 : t155 = a0
                      · rw [if_pos c29] at H
                        have c29b0 : (t155 == a0) = true := beq_iff_eq.mpr c29
                        have c29b1 : (t155 != a0) = false := bne_eq_false_iff_eq.mpr c29
                        clear c29
                        by_cases c30 : t145 = t140
                        · rw [if_pos c30] at H
                          have c30b0 : (t145 == t140) = true := beq_iff_eq.mpr c30
                          have c30b1 : (t145 != t140) = false := bne_eq_false_iff_eq.mpr c30
                          clear c30
                          have H' := Aside0.mk H
                          clear H
                          go_wp2_with (first | ((with_reducible refine gate_callee (f := 14) rfl ?_); refine goesL_ (some 81) rfl rfl Tryd.func14 (by kernel_rfl) rfl #[.int .i64 t139, .int .i64 t140] rfl (by (try simp only [List.map_toArray, List.map_cons, List.map_nil]); first | done | rfl | (simp only [List.length_drop, List.length_take]; rfl)) ?_; (with_reducible refine (clock_At.calls t139 t140 t151 t152 _ A18.out).mono ?_); rintro e w' ⟨rfl, ⟨nd, rfl⟩⟩; refine ⟨_, rfl, ?_⟩; have hnb31 := NB147_137.out; have hnc31 := NB137_147.out; have hcz32_0 : w16.cell? ⟨gb147, 0, none⟩ = some (.int .i64 t142) := (blk_cell BK147.out 0).trans rfl; have hcz32_1 : w16.cell? ⟨gb147, 1, none⟩ = some (.int .i64 t143) := (blk_cell BK147.out 1).trans rfl; have hcz32_2 : w16.cell? ⟨gb147, 2, none⟩ = some (.int .i64 t144) := (blk_cell BK147.out 2).trans rfl; have hcz32_3 : w16.cell? ⟨gb147, 3, none⟩ = some (.int .i64 t145) := (blk_cell BK147.out 3).trans rfl; have hfz32_0 := blk_frozen BK147.out 0; have hfz32_1 := blk_frozen BK147.out 1; have hfz32_2 := blk_frozen BK147.out 2; have hfz32_3 := blk_frozen BK147.out 3) | ((with_reducible refine gate_callee (f := 15) rfl ?_); refine goesL_ (some 86) rfl rfl Tryd.func15 (by kernel_rfl) rfl #[.agg #[.int .i64 t142, .int .i64 t143, .int .i64 t144, .int .i64 t145]] rfl (by (try simp only [List.map_toArray, List.map_cons, List.map_nil]); first | done | rfl | (simp only [List.length_drop, List.length_take]; rfl)) ?_; (with_reducible refine (clock_From.calls k t142 t143 t144 t145 t153 t154 _ A19.out).mono ?_); rintro e w33 ⟨rfl, hb⟩; refine ⟨_, rfl, ?_⟩; have n0_ := Aside0.mk (blk_below (g := gb137) (o := .cells #[.int .i64 a1_0, .int .i64 a1_1, .int .i64 a1_2, .int .i64 a1_3] 23 (0, 0)) (by (with_reducible repeat (first | refine blk_drewN ?_ _ | refine blk_drew ?_ | refine blk_alloc ?_ _)); exact BK137.out) hb); have n1_ := Aside0.mk (blk_below (g := gb147) (o := .cells #[.int .i64 t142, .int .i64 t143, .int .i64 t144, .int .i64 t145] 23 (0, 0)) (by (with_reducible repeat (first | refine blk_drewN ?_ _ | refine blk_drew ?_ | refine blk_alloc ?_ _)); exact BK147.out) hb); have n2_ := Aside0.mk (below_step (by repeat (first | (with_reducible first | exact HB.out | apply below_alloc | apply pw_below_drewN | apply below_drew1 | refine below_set ?_ GE137.out | refine below_set ?_ GE147.out) | exact HB.out)) hb); clear BK137; clear BK147; clear HB; have BK137 := n0_; have BK147 := n1_; have HB := n2_; clear n0_ n1_ n2_; (try clear hb); (try clear hb2); (try clear hk); (try clear hi)) | ((with_reducible refine gate_callee (f := 16) rfl ?_); refine goesL_ (some 91) rfl rfl Tryd.func16 (by kernel_rfl) rfl #[.string t148] rfl (by (try simp only [List.map_toArray, List.map_cons, List.map_nil]); first | done | rfl | (simp only [List.length_drop, List.length_take]; rfl)) ?_; (with_reducible refine (clock_Parse.calls k t148 t155 t156 _ (hL.below (by repeat (first | (with_reducible first | exact HB.out | apply below_alloc | apply pw_below_drewN | apply below_drew1 | refine below_set ?_ GE137.out | refine below_set ?_ GE147.out) | exact HB.out))) A20.out).mono ?_); rintro e w34 ⟨rfl, hb⟩; refine ⟨_, rfl, ?_⟩; have n0_ := Aside0.mk (blk_below (g := gb137) (o := .cells #[.int .i64 a1_0, .int .i64 a1_1, .int .i64 a1_2, .int .i64 a1_3] 23 (0, 0)) (by (with_reducible repeat (first | refine blk_drewN ?_ _ | refine blk_drew ?_ | refine blk_alloc ?_ _)); exact BK137.out) hb); have n1_ := Aside0.mk (blk_below (g := gb147) (o := .cells #[.int .i64 t142, .int .i64 t143, .int .i64 t144, .int .i64 t145] 23 (0, 0)) (by (with_reducible repeat (first | refine blk_drewN ?_ _ | refine blk_drew ?_ | refine blk_alloc ?_ _)); exact BK147.out) hb); have n2_ := Aside0.mk (below_step (by repeat (first | (with_reducible first | exact HB.out | apply below_alloc | apply pw_below_drewN | apply below_drew1 | refine below_set ?_ GE137.out | refine below_set ?_ GE147.out) | exact HB.out)) hb); clear BK137; clear BK147; clear HB; have BK137 := n0_; have BK147 := n1_; have HB := n2_; clear n0_ n1_ n2_; (try clear hb); (try clear hb2); (try clear hk); (try clear hi); have hcz35_0 : w34.cell? ⟨gb147, 0, none⟩ = some (.int .i64 t142) := (blk_cell BK147.out 0).trans rfl; have hcz35_1 : w34.cell? ⟨gb147, 1, none⟩ = some (.int .i64 t143) := (blk_cell BK147.out 1).trans rfl; have hcz35_2 : w34.cell? ⟨gb147, 2, none⟩ = some (.int .i64 t144) := (blk_cell BK147.out 2).trans rfl; have hcz35_3 : w34.cell? ⟨gb147, 3, none⟩ = some (.int .i64 t145) := (blk_cell BK147.out 3).trans rfl; have hfz35_0 := blk_frozen BK147.out 0; have hfz35_1 := blk_frozen BK147.out 1; have hfz35_2 := blk_frozen BK147.out 2; have hfz35_3 := blk_frozen BK147.out 3))
                          go_meet
                          case rel => exact ⟨_, (t138), (by first | rfl | (simp; done) | (simp [*]; done)), H', ⟨by first | omega | exact Nat.le_refl _⟩, ⟨by (with_reducible repeat (first | refine blk_drewN ?_ _ | refine blk_drew ?_ | refine blk_alloc ?_ _)); exact BK137.out⟩, ⟨by (with_reducible repeat (first | refine blk_drewN ?_ _ | refine blk_drew ?_ | refine blk_alloc ?_ _)); exact BK147.out⟩, ⟨by repeat (first | (with_reducible first | exact HB.out | apply below_alloc | apply pw_below_drewN | apply below_drew1 | refine below_set ?_ GE137.out | refine below_set ?_ GE147.out) | exact HB.out)⟩⟩
                        · rw [if_neg c30] at H
                          exact absurd H (by simp)
                      · rw [if_neg c29] at H
                        exact absurd H (by simp)
                    · rw [if_neg c28] at H
                      exact absurd H (by simp)
                  · rw [if_neg c27] at H
                    exact absurd H (by simp)
                · rw [if_neg c26] at H
                  exact absurd H (by simp)
              · rw [if_neg c25] at H
                exact absurd H (by simp)
            · rw [if_neg c24] at H
              exact absurd H (by simp)
          · rw [if_neg c23] at H
            exact absurd H (by simp)
        · rw [if_neg c22] at H
          exact absurd H (by simp)
      · rw [if_neg c21] at H
        exact absurd H (by simp)
    · rw [if_neg c17] at H
      have c17b0 : (t150 == 0) = false := beq_eq_false_iff_ne.mpr c17
      have c17b1 : (t150 != 0) = true := bne_iff_ne.mpr c17
      (first | rw [c17b0] | (simp only [i64_w, i32_w]; rw [c17b0]) | skip)
      by_cases c36 : t138 = true
      · subst c36
        have H1 : (if t141 = 2 then (if t146 = 2 then (if t149 = 2 then (if t139 = 0 then (if t140 = 0 then (if t148.toList = ([] : List UInt8) then ((slackwaterlaw09_is.f t142 t143 t144 t145 0 0 0 0).bind fun t157 => (slackwaterlaw09_ClockBack.j0 k a2 t157 a1_0 a1_1 a1_2 a1_3)) else (slackwaterlaw09_ClockBack.j0 k a2 false a1_0 a1_1 a1_2 a1_3)) else (slackwaterlaw09_ClockBack.j0 k a2 false a1_0 a1_1 a1_2 a1_3)) else (slackwaterlaw09_ClockBack.j0 k a2 false a1_0 a1_1 a1_2 a1_3)) else (slackwaterlaw09_ClockBack.j0 k a2 false a1_0 a1_1 a1_2 a1_3)) else (slackwaterlaw09_ClockBack.j0 k a2 false a1_0 a1_1 a1_2 a1_3)) else (slackwaterlaw09_ClockBack.j0 k a2 false a1_0 a1_1 a1_2 a1_3)) = some r := by rw [if_pos rfl] at H; exact H
        clear H
        have H := H1
        clear H1
        by_cases c37 : t141 = 2
        · rw [if_pos c37] at H
          have c37b0 : (t141 == 2) = true := beq_iff_eq.mpr c37
          have c37b1 : (t141 != 2) = false := bne_eq_false_iff_eq.mpr c37
          clear c37
          by_cases c38 : t146 = 2
          · rw [if_pos c38] at H
            have c38b0 : (t146 == 2) = true := beq_iff_eq.mpr c38
            have c38b1 : (t146 != 2) = false := bne_eq_false_iff_eq.mpr c38
            clear c38
            by_cases c39 : t149 = 2
            · rw [if_pos c39] at H
              have c39b0 : (t149 == 2) = true := beq_iff_eq.mpr c39
              have c39b1 : (t149 != 2) = false := bne_eq_false_iff_eq.mpr c39
              clear c39
              by_cases c40 : t139 = 0
              · rw [if_pos c40] at H
                have c40b0 : (t139 == 0) = true := beq_iff_eq.mpr c40
                have c40b1 : (t139 != 0) = false := bne_eq_false_iff_eq.mpr c40
                clear c40
                by_cases c41 : t140 = 0
                · rw [if_pos c41] at H
                  have c41b0 : (t140 == 0) = true := beq_iff_eq.mpr c41
                  have c41b1 : (t140 != 0) = false := bne_eq_false_iff_eq.mpr c41
                  clear c41
                  by_cases c42 : t148.toList = ([] : List UInt8)
                  · rw [if_pos c42] at H
                    have c42b0 : (t148.toList == ([] : List UInt8)) = true := beq_iff_eq.mpr c42
                    have c42b1 : (t148.toList != ([] : List UInt8)) = false := bne_eq_false_iff_eq.mpr c42
                    clear c42
                    replace H := Option.bind_eq_some_iff.mp H
                    obtain ⟨t157, A430, H⟩ := H
                    replace H : (slackwaterlaw09_ClockBack.j0 k a2 t157 a1_0 a1_1 a1_2 a1_3) = some r := H
                    have A43 := Aside0.mk A430
                    clear A430
                    have H' := Aside0.mk H
                    clear H
                    have hnb44 := NB147_137.out
                    have hnc44 := NB137_147.out
                    have hcz45_0 : w16.cell? ⟨gb147, 0, none⟩ = some (.int .i64 t142) := (blk_cell BK147.out 0).trans rfl
                    have hcz45_1 : w16.cell? ⟨gb147, 1, none⟩ = some (.int .i64 t143) := (blk_cell BK147.out 1).trans rfl
                    have hcz45_2 : w16.cell? ⟨gb147, 2, none⟩ = some (.int .i64 t144) := (blk_cell BK147.out 2).trans rfl
                    have hcz45_3 : w16.cell? ⟨gb147, 3, none⟩ = some (.int .i64 t145) := (blk_cell BK147.out 3).trans rfl
                    have hfz45_0 := blk_frozen BK147.out 0
                    have hfz45_1 := blk_frozen BK147.out 1
                    have hfz45_2 := blk_frozen BK147.out 2
                    have hfz45_3 := blk_frozen BK147.out 3
                    go_wp2_with (first | (go_at_call 13; (with_reducible refine (slackwaterlaw09_is.calls t142 t143 t144 t145 0 0 0 0 t157 _ A43.out).mono ?_); rintro e w46 ⟨rfl, hb⟩; have n0_ := Aside0.mk (blk_below (g := gb137) (o := .cells #[.int .i64 a1_0, .int .i64 a1_1, .int .i64 a1_2, .int .i64 a1_3] 23 (0, 0)) (by (with_reducible repeat (first | refine blk_drewN ?_ _ | refine blk_drew ?_ | refine blk_alloc ?_ _)); exact BK137.out) hb); have n1_ := Aside0.mk (blk_below (g := gb147) (o := .cells #[.int .i64 t142, .int .i64 t143, .int .i64 t144, .int .i64 t145] 23 (0, 0)) (by (with_reducible repeat (first | refine blk_drewN ?_ _ | refine blk_drew ?_ | refine blk_alloc ?_ _)); exact BK147.out) hb); have n2_ := Aside0.mk (below_step (by repeat (first | (with_reducible first | exact HB.out | apply below_alloc | apply pw_below_drewN | apply below_drew1 | refine below_set ?_ GE137.out | refine below_set ?_ GE147.out) | exact HB.out)) hb); clear BK137; clear BK147; clear HB; have BK137 := n0_; have BK147 := n1_; have HB := n2_; clear n0_ n1_ n2_; (try clear hb); (try clear hb2); (try clear hk); (try clear hi)))
                    go_meet
                    case rel => exact ⟨_, (t157), (by first | rfl | (simp; done) | (simp [*]; done)), H', ⟨by first | omega | exact Nat.le_refl _⟩, ⟨by (with_reducible repeat (first | refine blk_drewN ?_ _ | refine blk_drew ?_ | refine blk_alloc ?_ _)); exact BK137.out⟩, ⟨by (with_reducible repeat (first | refine blk_drewN ?_ _ | refine blk_drew ?_ | refine blk_alloc ?_ _)); exact BK147.out⟩, ⟨by repeat (first | (with_reducible first | exact HB.out | apply below_alloc | apply pw_below_drewN | apply below_drew1 | refine below_set ?_ GE137.out | refine below_set ?_ GE147.out) | exact HB.out)⟩⟩
                  · rw [if_neg c42] at H
                    have c42b0 : (t148.toList == ([] : List UInt8)) = false := beq_eq_false_iff_ne.mpr c42
                    have c42b1 : (t148.toList != ([] : List UInt8)) = true := bne_iff_ne.mpr c42
                    have H' := Aside0.mk H
                    clear H
                    go_wp2
                    go_meet
                    case rel => exact ⟨_, (false), (by first | rfl | (simp; done) | (simp [*]; done)), H', ⟨by first | omega | exact Nat.le_refl _⟩, ⟨by (with_reducible repeat (first | refine blk_drewN ?_ _ | refine blk_drew ?_ | refine blk_alloc ?_ _)); exact BK137.out⟩, ⟨by (with_reducible repeat (first | refine blk_drewN ?_ _ | refine blk_drew ?_ | refine blk_alloc ?_ _)); exact BK147.out⟩, ⟨by repeat (first | (with_reducible first | exact HB.out | apply below_alloc | apply pw_below_drewN | apply below_drew1 | refine below_set ?_ GE137.out | refine below_set ?_ GE147.out) | exact HB.out)⟩⟩
                · rw [if_neg c41] at H
                  have c41b0 : (t140 == 0) = false := beq_eq_false_iff_ne.mpr c41
                  have c41b1 : (t140 != 0) = true := bne_iff_ne.mpr c41
                  have H' := Aside0.mk H
                  clear H
                  go_wp2
                  go_meet
                  case rel => exact ⟨_, (false), (by first | rfl | (simp; done) | (simp [*]; done)), H', ⟨by first | omega | exact Nat.le_refl _⟩, ⟨by (with_reducible repeat (first | refine blk_drewN ?_ _ | refine blk_drew ?_ | refine blk_alloc ?_ _)); exact BK137.out⟩, ⟨by (with_reducible repeat (first | refine blk_drewN ?_ _ | refine blk_drew ?_ | refine blk_alloc ?_ _)); exact BK147.out⟩, ⟨by repeat (first | (with_reducible first | exact HB.out | apply below_alloc | apply pw_below_drewN | apply below_drew1 | refine below_set ?_ GE137.out | refine below_set ?_ GE147.out) | exact HB.out)⟩⟩
              · rw [if_neg c40] at H
                have c40b0 : (t139 == 0) = false := beq_eq_false_iff_ne.mpr c40
                have c40b1 : (t139 != 0) = true := bne_iff_ne.mpr c40
                have H' := Aside0.mk H
                clear H
                go_wp2
                go_meet
                case rel => exact ⟨_, (false), (by first | rfl | (simp; done) | (simp [*]; done)), H', ⟨by first | omega | exact Nat.le_refl _⟩, ⟨by (with_reducible repeat (first | refine blk_drewN ?_ _ | refine blk_drew ?_ | refine blk_alloc ?_ _)); exact BK137.out⟩, ⟨by (with_reducible repeat (first | refine blk_drewN ?_ _ | refine blk_drew ?_ | refine blk_alloc ?_ _)); exact BK147.out⟩, ⟨by repeat (first | (with_reducible first | exact HB.out | apply below_alloc | apply pw_below_drewN | apply below_drew1 | refine below_set ?_ GE137.out | refine below_set ?_ GE147.out) | exact HB.out)⟩⟩
            · rw [if_neg c39] at H
              have c39b0 : (t149 == 2) = false := beq_eq_false_iff_ne.mpr c39
              have c39b1 : (t149 != 2) = true := bne_iff_ne.mpr c39
              have H' := Aside0.mk H
              clear H
              go_wp2
              go_meet
              case rel => exact ⟨_, (false), (by first | rfl | (simp; done) | (simp [*]; done)), H', ⟨by first | omega | exact Nat.le_refl _⟩, ⟨by (with_reducible repeat (first | refine blk_drewN ?_ _ | refine blk_drew ?_ | refine blk_alloc ?_ _)); exact BK137.out⟩, ⟨by (with_reducible repeat (first | refine blk_drewN ?_ _ | refine blk_drew ?_ | refine blk_alloc ?_ _)); exact BK147.out⟩, ⟨by repeat (first | (with_reducible first | exact HB.out | apply below_alloc | apply pw_below_drewN | apply below_drew1 | refine below_set ?_ GE137.out | refine below_set ?_ GE147.out) | exact HB.out)⟩⟩
          · rw [if_neg c38] at H
            have c38b0 : (t146 == 2) = false := beq_eq_false_iff_ne.mpr c38
            have c38b1 : (t146 != 2) = true := bne_iff_ne.mpr c38
            have H' := Aside0.mk H
            clear H
            go_wp2
            go_meet
            case rel => exact ⟨_, (false), (by first | rfl | (simp; done) | (simp [*]; done)), H', ⟨by first | omega | exact Nat.le_refl _⟩, ⟨by (with_reducible repeat (first | refine blk_drewN ?_ _ | refine blk_drew ?_ | refine blk_alloc ?_ _)); exact BK137.out⟩, ⟨by (with_reducible repeat (first | refine blk_drewN ?_ _ | refine blk_drew ?_ | refine blk_alloc ?_ _)); exact BK147.out⟩, ⟨by repeat (first | (with_reducible first | exact HB.out | apply below_alloc | apply pw_below_drewN | apply below_drew1 | refine below_set ?_ GE137.out | refine below_set ?_ GE147.out) | exact HB.out)⟩⟩
        · rw [if_neg c37] at H
          have c37b0 : (t141 == 2) = false := beq_eq_false_iff_ne.mpr c37
          have c37b1 : (t141 != 2) = true := bne_iff_ne.mpr c37
          have H' := Aside0.mk H
          clear H
          go_wp2
          go_meet
          case rel => exact ⟨_, (false), (by first | rfl | (simp; done) | (simp [*]; done)), H', ⟨by first | omega | exact Nat.le_refl _⟩, ⟨by (with_reducible repeat (first | refine blk_drewN ?_ _ | refine blk_drew ?_ | refine blk_alloc ?_ _)); exact BK137.out⟩, ⟨by (with_reducible repeat (first | refine blk_drewN ?_ _ | refine blk_drew ?_ | refine blk_alloc ?_ _)); exact BK147.out⟩, ⟨by repeat (first | (with_reducible first | exact HB.out | apply below_alloc | apply pw_below_drewN | apply below_drew1 | refine below_set ?_ GE137.out | refine below_set ?_ GE147.out) | exact HB.out)⟩⟩
      · replace c36 := Bool.eq_false_iff.mpr c36
        subst c36
        have H1 : (slackwaterlaw09_ClockBack.j0 k a2 false a1_0 a1_1 a1_2 a1_3) = some r := by rw [if_neg (show ¬ (false = true) by decide)] at H; exact H
        clear H
        have H := H1
        clear H1
        have H' := Aside0.mk H
        clear H
        go_wp2
        go_meet
        case rel => exact ⟨_, (false), (by first | rfl | (simp; done) | (simp [*]; done)), H', ⟨by first | omega | exact Nat.le_refl _⟩, ⟨by (with_reducible repeat (first | refine blk_drewN ?_ _ | refine blk_drew ?_ | refine blk_alloc ?_ _)); exact BK137.out⟩, ⟨by (with_reducible repeat (first | refine blk_drewN ?_ _ | refine blk_drew ?_ | refine blk_alloc ?_ _)); exact BK147.out⟩, ⟨by repeat (first | (with_reducible first | exact HB.out | apply below_alloc | apply pw_below_drewN | apply below_drew1 | refine below_set ?_ GE137.out | refine below_set ?_ GE147.out) | exact HB.out)⟩⟩
  case rest =>
    clear HC9
    try clear c1
    try clear c2
    try clear p2
    try clear c3
    try clear c4
    try clear c8
    try clear c9
    try clear c10
    try clear c11
    try clear c12
    try clear c14
    try clear c15
    try clear c16
    try clear c17
    try clear c17b0
    try clear c17b1
    try clear c21
    try clear c21b0
    try clear c21b1
    try clear c22
    try clear c22b0
    try clear c22b1
    try clear c23
    try clear c23b0
    try clear c23b1
    try clear c24
    try clear c24b0
    try clear c24b1
    try clear c25
    try clear c25b0
    try clear c25b1
    try clear c26
    try clear c26b0
    try clear c26b1
    try clear c27
    try clear c27b0
    try clear c27b1
    try clear c28
    try clear c28b0
    try clear c28b1
    try clear c29
    try clear c29b0
    try clear c29b1
    try clear c30
    try clear c30b0
    try clear c30b1
    try clear c31
    try clear c36
    try clear c37
    try clear c37b0
    try clear c37b1
    try clear c38
    try clear c38b0
    try clear c38b1
    try clear c39
    try clear c39b0
    try clear c39b1
    try clear c40
    try clear c40b0
    try clear c40b1
    try clear c41
    try clear c41b0
    try clear c41b1
    try clear c42
    try clear c42b0
    try clear c42b1
    try clear c44
    try clear hcz15_0
    try clear hcz15_1
    try clear hcz15_2
    try clear hcz15_3
    try clear hcz32_0
    try clear hcz32_1
    try clear hcz32_2
    try clear hcz32_3
    try clear hcz35_0
    try clear hcz35_1
    try clear hcz35_2
    try clear hcz35_3
    try clear hcz45_0
    try clear hcz45_1
    try clear hcz45_2
    try clear hcz45_3
    try clear hfz15_0
    try clear hfz15_1
    try clear hfz15_2
    try clear hfz15_3
    try clear hfz32_0
    try clear hfz32_1
    try clear hfz32_2
    try clear hfz32_3
    try clear hfz35_0
    try clear hfz35_1
    try clear hfz35_2
    try clear hfz35_3
    try clear hfz45_0
    try clear hfz45_1
    try clear hfz45_2
    try clear hfz45_3
    obtain ⟨kq, x7_8, rfl, HA, HJ8, BK137, BK147, HB⟩ := hcut
    cases kq with
    | zero => exact absurd HA.out (by simp [slackwaterlaw09_ClockBack.j0])
    | succ kj8 =>
      have H := HA.out
      clear HA
      simp only [slackwaterlaw09_ClockBack.j0] at H
      replace H := Option.bind_eq_some_iff.mp H
      obtain ⟨⟨t158, t159⟩, A470, H⟩ := H
      replace H : (if t159 = 0 then ((clock_Date.f t158).bind fun bt160 => (if bt160.2.2.2.2 = 0 then ((slackwaterlaw09_is.f bt160.1 bt160.2.1 bt160.2.2.1 bt160.2.2.2.1 a1_0 a1_1 a1_2 a1_3).bind fun t166 => (if t166 = true then (slackwaterlaw09_ClockBack.j1 kj8 a2 x7_8 t158 t159) else (none))) else (none))) else (slackwaterlaw09_ClockBack.j1 kj8 a2 x7_8 t158 t159)) = some r := H
      have A47 := Aside0.mk A470
      clear A470
      have HC48 := Aside0.mk H
      clear H
      have hnb49 := NB137_147.out
      have hnc49 := NB147_137.out
      have hcz50_0 : wc.cell? ⟨gb137, 0, none⟩ = some (.int .i64 a1_0) := (blk_cell BK137.out 0).trans rfl
      have hcz50_1 : wc.cell? ⟨gb137, 1, none⟩ = some (.int .i64 a1_1) := (blk_cell BK137.out 1).trans rfl
      have hcz50_2 : wc.cell? ⟨gb137, 2, none⟩ = some (.int .i64 a1_2) := (blk_cell BK137.out 2).trans rfl
      have hcz50_3 : wc.cell? ⟨gb137, 3, none⟩ = some (.int .i64 a1_3) := (blk_cell BK137.out 3).trans rfl
      have hfz50_0 := blk_frozen BK137.out 0
      have hfz50_1 := blk_frozen BK137.out 1
      have hfz50_2 := blk_frozen BK137.out 2
      have hfz50_3 := blk_frozen BK137.out 3
      go_upto_if 143 with (first | ((with_reducible refine gate_callee (f := 15) rfl ?_); refine goesL_ (some 139) rfl rfl Tryd.func15 (by kernel_rfl) rfl #[.agg #[.int .i64 a1_0, .int .i64 a1_1, .int .i64 a1_2, .int .i64 a1_3]] rfl (by (try simp only [List.map_toArray, List.map_cons, List.map_nil]); first | done | rfl | (simp only [List.length_drop, List.length_take]; rfl)) ?_; (with_reducible refine (clock_From.calls kj8 a1_0 a1_1 a1_2 a1_3 t158 t159 _ A47.out).mono ?_); rintro e w51 ⟨rfl, hb⟩; refine ⟨_, rfl, ?_⟩; have n0_ := Aside0.mk (blk_below (g := gb137) (o := .cells #[.int .i64 a1_0, .int .i64 a1_1, .int .i64 a1_2, .int .i64 a1_3] 23 (0, 0)) (by (with_reducible repeat (first | refine blk_drewN ?_ _ | refine blk_drew ?_ | refine blk_alloc ?_ _)); exact BK137.out) hb); have n1_ := Aside0.mk (blk_below (g := gb147) (o := .cells #[.int .i64 t142, .int .i64 t143, .int .i64 t144, .int .i64 t145] 23 (0, 0)) (by (with_reducible repeat (first | refine blk_drewN ?_ _ | refine blk_drew ?_ | refine blk_alloc ?_ _)); exact BK147.out) hb); have n2_ := Aside0.mk (below_step (by repeat (first | (with_reducible first | exact HB.out | apply below_alloc | apply pw_below_drewN | apply below_drew1 | refine below_set ?_ GE137.out | refine below_set ?_ GE147.out) | exact HB.out)) hb); clear BK137; clear BK147; clear HB; have BK137 := n0_; have BK147 := n1_; have HB := n2_; clear n0_ n1_ n2_; (try clear hb); (try clear hb2); (try clear hk); (try clear hi)))
      (try simp only [Act.put, List.setIfInBounds_toArray, List.set_cons_zero, List.set_cons_succ])
      go_cut [] (fun wc => ∃ (kq : Nat), Aside0 (slackwaterlaw09_ClockBack.j1 kq a2 x7_8 t158 t159 = some r) ∧ Aside0 (kq ≤ kj8) ∧ Aside0 (wc.heap[gb137]? = some (.cells #[.int .i64 a1_0, .int .i64 a1_1, .int .i64 a1_2, .int .i64 a1_3] 23 (0, 0))) ∧ Aside0 (wc.heap[gb147]? = some (.cells #[.int .i64 t142, .int .i64 t143, .int .i64 t144, .int .i64 t145] 23 (0, 0))) ∧ Aside0 (Below w.heap.size w wc))
      case first =>
        have H := HC48.out
        clear HC48
        by_cases c52 : t159 = 0
        · rw [if_pos c52] at H
          have c52b0 : (t159 == 0) = true := beq_iff_eq.mpr c52
          have c52b1 : (t159 != 0) = false := bne_eq_false_iff_eq.mpr c52
          clear c52
          (first | rw [c52b0] | (simp only [i64_w, i32_w]; rw [c52b0]) | skip)
          replace H := Option.bind_eq_some_iff.mp H
          obtain ⟨⟨t160, t161, t162, t163, t164⟩, A530, H⟩ := H
          replace H : (if t164 = 0 then ((slackwaterlaw09_is.f t160 t161 t162 t163 a1_0 a1_1 a1_2 a1_3).bind fun t166 => (if t166 = true then (slackwaterlaw09_ClockBack.j1 kj8 a2 x7_8 t158 t159) else (none))) else (none)) = some r := H
          have A53 := Aside0.mk A530
          clear A530
          by_cases c54 : t164 = 0
          · rw [if_pos c54] at H
            have c54b0 : (t164 == 0) = true := beq_iff_eq.mpr c54
            have c54b1 : (t164 != 0) = false := bne_eq_false_iff_eq.mpr c54
            clear c54
            replace H := Option.bind_eq_some_iff.mp H
            obtain ⟨t166, A550, H⟩ := H
            replace H : (if t166 = true then (slackwaterlaw09_ClockBack.j1 kj8 a2 x7_8 t158 t159) else (none)) = some r := H
            have A55 := Aside0.mk A550
            clear A550
            by_cases c56 : t166 = true
            · subst c56
              have H1 : (slackwaterlaw09_ClockBack.j1 kj8 a2 x7_8 t158 t159) = some r := by rw [if_pos rfl] at H; exact H
              clear H
              have H := H1
              clear H1
              have H' := Aside0.mk H
              clear H
              go_wp2_with (first | ((with_reducible refine gate_callee (f := 10) rfl ?_); refine goesL_ (some 146) rfl rfl Tryd.func10 (by kernel_rfl) rfl #[.int .i64 t158] rfl (by (try simp only [List.map_toArray, List.map_cons, List.map_nil]); first | done | rfl | (simp only [List.length_drop, List.length_take]; rfl)) ?_; (with_reducible refine (clock_Date.calls t158 t160 t161 t162 t163 t164 _ A53.out).mono ?_); rintro e w57 ⟨rfl, hb⟩; refine ⟨_, rfl, ?_⟩; have n0_ := Aside0.mk (blk_below (g := gb137) (o := .cells #[.int .i64 a1_0, .int .i64 a1_1, .int .i64 a1_2, .int .i64 a1_3] 23 (0, 0)) (by (with_reducible repeat (first | refine blk_drewN ?_ _ | refine blk_drew ?_ | refine blk_alloc ?_ _)); exact BK137.out) hb); have n1_ := Aside0.mk (blk_below (g := gb147) (o := .cells #[.int .i64 t142, .int .i64 t143, .int .i64 t144, .int .i64 t145] 23 (0, 0)) (by (with_reducible repeat (first | refine blk_drewN ?_ _ | refine blk_drew ?_ | refine blk_alloc ?_ _)); exact BK147.out) hb); have n2_ := Aside0.mk (below_step (by repeat (first | (with_reducible first | exact HB.out | apply below_alloc | apply pw_below_drewN | apply below_drew1 | refine below_set ?_ GE137.out | refine below_set ?_ GE147.out) | exact HB.out)) hb); clear BK137; clear BK147; clear HB; have BK137 := n0_; have BK147 := n1_; have HB := n2_; clear n0_ n1_ n2_; (try clear hb); (try clear hb2); (try clear hk); (try clear hi)) | ((with_reducible refine gate_dst (N := 23) rfl ?_); refine box_event ?hg (N := 23) ?hd (cs := #[.int .i64 0, .int .i64 0, .int .i64 0, .int .i64 0]) (t := 23) ?hr ?_; (case hd => rfl); (case hg => rfl); (case hr => first | (go_simp; done) | (go_simp; rfl)); intro gb165 hg w58 hbox hb; have n0_ := Aside0.mk (blk_below (g := gb137) (o := .cells #[.int .i64 a1_0, .int .i64 a1_1, .int .i64 a1_2, .int .i64 a1_3] 23 (0, 0)) (by (with_reducible repeat (first | refine blk_drewN ?_ _ | refine blk_drew ?_ | refine blk_alloc ?_ _)); exact BK137.out) hb); have n1_ := Aside0.mk (blk_below (g := gb147) (o := .cells #[.int .i64 t142, .int .i64 t143, .int .i64 t144, .int .i64 t145] 23 (0, 0)) (by (with_reducible repeat (first | refine blk_drewN ?_ _ | refine blk_drew ?_ | refine blk_alloc ?_ _)); exact BK147.out) hb); have n2_ := Aside0.mk (below_step (by repeat (first | (with_reducible first | exact HB.out | apply below_alloc | apply pw_below_drewN | apply below_drew1 | refine below_set ?_ GE137.out | refine below_set ?_ GE147.out) | exact HB.out)) hb); have n3_ := Aside0.mk (hbox); have n4_ := Aside0.mk ((by rw [hg]; exact (below_size (by repeat (first | (with_reducible first | exact HB.out | apply below_alloc | apply pw_below_drewN | apply below_drew1 | refine below_set ?_ GE137.out | refine below_set ?_ GE147.out) | exact HB.out))) : w.heap.size ≤ gb165)); have n5_ := Aside0.mk ((by rw [hg]; exact (below_size (by repeat (first | (with_reducible first | exact HB.out | apply below_alloc | apply pw_below_drewN | apply below_drew1 | refine below_set ?_ GE137.out | refine below_set ?_ GE147.out) | exact HB.out))) : w.heap.size ≤ gb165)); have n6_ := Aside0.mk ((by rw [hg]; exact Nat.ne_of_lt (blk_lt (g := gb137) (o := .cells #[.int .i64 a1_0, .int .i64 a1_1, .int .i64 a1_2, .int .i64 a1_3] 23 (0, 0)) (by (with_reducible repeat (first | refine blk_drewN ?_ _ | refine blk_drew ?_ | refine blk_alloc ?_ _)); exact BK137.out)) : gb137 ≠ gb165)); have n7_ := Aside0.mk ((by rw [hg]; exact Nat.ne_of_gt (blk_lt (g := gb137) (o := .cells #[.int .i64 a1_0, .int .i64 a1_1, .int .i64 a1_2, .int .i64 a1_3] 23 (0, 0)) (by (with_reducible repeat (first | refine blk_drewN ?_ _ | refine blk_drew ?_ | refine blk_alloc ?_ _)); exact BK137.out)) : gb165 ≠ gb137)); have n8_ := Aside0.mk ((by rw [hg]; exact Nat.ne_of_lt (blk_lt (g := gb147) (o := .cells #[.int .i64 t142, .int .i64 t143, .int .i64 t144, .int .i64 t145] 23 (0, 0)) (by (with_reducible repeat (first | refine blk_drewN ?_ _ | refine blk_drew ?_ | refine blk_alloc ?_ _)); exact BK147.out)) : gb147 ≠ gb165)); have n9_ := Aside0.mk ((by rw [hg]; exact Nat.ne_of_gt (blk_lt (g := gb147) (o := .cells #[.int .i64 t142, .int .i64 t143, .int .i64 t144, .int .i64 t145] 23 (0, 0)) (by (with_reducible repeat (first | refine blk_drewN ?_ _ | refine blk_drew ?_ | refine blk_alloc ?_ _)); exact BK147.out)) : gb165 ≠ gb147)); clear BK137; clear BK147; clear HB; have BK137 := n0_; have BK147 := n1_; have HB := n2_; have BK165 := n3_; have GW165 := n4_; have GE165 := n5_; have NB137_165 := n6_; have NB165_137 := n7_; have NB147_165 := n8_; have NB165_147 := n9_; clear n0_ n1_ n2_ n3_ n4_ n5_ n6_ n7_ n8_ n9_; clear hb hbox hg; have hnb59 := NB165_137.out; have hnc59 := NB137_165.out; have hnb60 := NB165_147.out; have hnc60 := NB147_165.out; have hcz61_0 : w58.cell? ⟨gb165, 0, none⟩ = some (.int .i64 0) := (blk_cell BK165.out 0).trans rfl; have hcz61_1 : w58.cell? ⟨gb165, 1, none⟩ = some (.int .i64 0) := (blk_cell BK165.out 1).trans rfl; have hcz61_2 : w58.cell? ⟨gb165, 2, none⟩ = some (.int .i64 0) := (blk_cell BK165.out 2).trans rfl; have hcz61_3 : w58.cell? ⟨gb165, 3, none⟩ = some (.int .i64 0) := (blk_cell BK165.out 3).trans rfl; have hfz61_0 := blk_frozen BK165.out 0; have hfz61_1 := blk_frozen BK165.out 1; have hfz61_2 := blk_frozen BK165.out 2; have hfz61_3 := blk_frozen BK165.out 3; have hnb62 := NB137_147.out; have hnc62 := NB147_137.out; have hcz63_0 : w58.cell? ⟨gb137, 0, none⟩ = some (.int .i64 a1_0) := (blk_cell BK137.out 0).trans rfl; have hcz63_1 : w58.cell? ⟨gb137, 1, none⟩ = some (.int .i64 a1_1) := (blk_cell BK137.out 1).trans rfl; have hcz63_2 : w58.cell? ⟨gb137, 2, none⟩ = some (.int .i64 a1_2) := (blk_cell BK137.out 2).trans rfl; have hcz63_3 : w58.cell? ⟨gb137, 3, none⟩ = some (.int .i64 a1_3) := (blk_cell BK137.out 3).trans rfl; have hfz63_0 := blk_frozen BK137.out 0; have hfz63_1 := blk_frozen BK137.out 1; have hfz63_2 := blk_frozen BK137.out 2; have hfz63_3 := blk_frozen BK137.out 3) | (go_at_call 13; (with_reducible refine (slackwaterlaw09_is.calls t160 t161 t162 t163 a1_0 a1_1 a1_2 a1_3 true _ A55.out).mono ?_); rintro e w64 ⟨rfl, hb⟩; have n0_ := Aside0.mk (blk_below (g := gb137) (o := .cells #[.int .i64 a1_0, .int .i64 a1_1, .int .i64 a1_2, .int .i64 a1_3] 23 (0, 0)) (by (with_reducible repeat (first | refine blk_drewN ?_ _ | refine blk_drew ?_ | refine blk_alloc ?_ _)); refine blk_far ?_ NB137_165.out _; (with_reducible repeat (first | refine blk_drewN ?_ _ | refine blk_drew ?_ | refine blk_alloc ?_ _)); refine blk_far ?_ NB137_165.out _; (with_reducible repeat (first | refine blk_drewN ?_ _ | refine blk_drew ?_ | refine blk_alloc ?_ _)); refine blk_far ?_ NB137_165.out _; (with_reducible repeat (first | refine blk_drewN ?_ _ | refine blk_drew ?_ | refine blk_alloc ?_ _)); refine blk_far ?_ NB137_165.out _; (with_reducible repeat (first | refine blk_drewN ?_ _ | refine blk_drew ?_ | refine blk_alloc ?_ _)); exact BK137.out) hb); have n1_ := Aside0.mk (blk_below (g := gb147) (o := .cells #[.int .i64 t142, .int .i64 t143, .int .i64 t144, .int .i64 t145] 23 (0, 0)) (by (with_reducible repeat (first | refine blk_drewN ?_ _ | refine blk_drew ?_ | refine blk_alloc ?_ _)); refine blk_far ?_ NB147_165.out _; (with_reducible repeat (first | refine blk_drewN ?_ _ | refine blk_drew ?_ | refine blk_alloc ?_ _)); refine blk_far ?_ NB147_165.out _; (with_reducible repeat (first | refine blk_drewN ?_ _ | refine blk_drew ?_ | refine blk_alloc ?_ _)); refine blk_far ?_ NB147_165.out _; (with_reducible repeat (first | refine blk_drewN ?_ _ | refine blk_drew ?_ | refine blk_alloc ?_ _)); refine blk_far ?_ NB147_165.out _; (with_reducible repeat (first | refine blk_drewN ?_ _ | refine blk_drew ?_ | refine blk_alloc ?_ _)); exact BK147.out) hb); have n2_ := Aside0.mk (blk_below (g := gb165) (o := .cells #[.int .i64 t160, .int .i64 t161, .int .i64 t162, .int .i64 t163] 23 (0, 0)) (by (with_reducible repeat (first | refine blk_drewN ?_ _ | refine blk_drew ?_ | refine blk_alloc ?_ _)); refine blk_put (cs := #[.int .i64 t160, .int .i64 t161, .int .i64 t162, .int .i64 0]) ?_ 3 _ rfl; (with_reducible repeat (first | refine blk_drewN ?_ _ | refine blk_drew ?_ | refine blk_alloc ?_ _)); refine blk_put (cs := #[.int .i64 t160, .int .i64 t161, .int .i64 0, .int .i64 0]) ?_ 2 _ rfl; (with_reducible repeat (first | refine blk_drewN ?_ _ | refine blk_drew ?_ | refine blk_alloc ?_ _)); refine blk_put (cs := #[.int .i64 t160, .int .i64 0, .int .i64 0, .int .i64 0]) ?_ 1 _ rfl; (with_reducible repeat (first | refine blk_drewN ?_ _ | refine blk_drew ?_ | refine blk_alloc ?_ _)); refine blk_put (cs := #[.int .i64 0, .int .i64 0, .int .i64 0, .int .i64 0]) ?_ 0 _ rfl; (with_reducible repeat (first | refine blk_drewN ?_ _ | refine blk_drew ?_ | refine blk_alloc ?_ _)); exact BK165.out) hb); have n3_ := Aside0.mk (below_step (by repeat (first | (with_reducible first | exact HB.out | apply below_alloc | apply pw_below_drewN | apply below_drew1 | refine below_set ?_ GE137.out | refine below_set ?_ GE147.out | refine below_set ?_ GE165.out) | exact HB.out)) hb); clear BK137; clear BK147; clear BK165; clear HB; have BK137 := n0_; have BK147 := n1_; have BK165 := n2_; have HB := n3_; clear n0_ n1_ n2_ n3_; (try clear hb); (try clear hb2); (try clear hk); (try clear hi)))
              go_meet
              case rel => exact ⟨_, H', ⟨by have := HJ8.out; first | omega | exact Nat.le_refl _⟩, ⟨by (with_reducible repeat (first | refine blk_drewN ?_ _ | refine blk_drew ?_ | refine blk_alloc ?_ _)); exact BK137.out⟩, ⟨by (with_reducible repeat (first | refine blk_drewN ?_ _ | refine blk_drew ?_ | refine blk_alloc ?_ _)); exact BK147.out⟩, ⟨by repeat (first | (with_reducible first | exact HB.out | apply below_alloc | apply pw_below_drewN | apply below_drew1 | refine below_set ?_ GE137.out | refine below_set ?_ GE147.out | refine below_set ?_ GE165.out) | exact HB.out)⟩⟩
            · replace c56 := Bool.eq_false_iff.mpr c56
              subst c56
              have H1 : (none) = some r := by rw [if_neg (show ¬ (false = true) by decide)] at H; exact H
              clear H
              have H := H1
              clear H1
              exact absurd H (by simp)
          · rw [if_neg c54] at H
            exact absurd H (by simp)
        · rw [if_neg c52] at H
          have c52b0 : (t159 == 0) = false := beq_eq_false_iff_ne.mpr c52
          have c52b1 : (t159 != 0) = true := bne_iff_ne.mpr c52
          (first | rw [c52b0] | (simp only [i64_w, i32_w]; rw [c52b0]) | skip)
          have H' := Aside0.mk H
          clear H
          go_wp2
          go_meet
          case rel => exact ⟨_, H', ⟨by have := HJ8.out; first | omega | exact Nat.le_refl _⟩, ⟨by (with_reducible repeat (first | refine blk_drewN ?_ _ | refine blk_drew ?_ | refine blk_alloc ?_ _)); exact BK137.out⟩, ⟨by (with_reducible repeat (first | refine blk_drewN ?_ _ | refine blk_drew ?_ | refine blk_alloc ?_ _)); exact BK147.out⟩, ⟨by repeat (first | (with_reducible first | exact HB.out | apply below_alloc | apply pw_below_drewN | apply below_drew1 | refine below_set ?_ GE137.out | refine below_set ?_ GE147.out) | exact HB.out)⟩⟩
      case rest =>
        clear HC48
        try clear c1
        try clear c2
        try clear p2
        try clear c3
        try clear c4
        try clear c5
        try clear c6
        try clear c8
        try clear c9
        try clear c10
        try clear c11
        try clear c12
        try clear c14
        try clear c15
        try clear c16
        try clear c17
        try clear c17b0
        try clear c17b1
        try clear c21
        try clear c21b0
        try clear c21b1
        try clear c22
        try clear c22b0
        try clear c22b1
        try clear c23
        try clear c23b0
        try clear c23b1
        try clear c24
        try clear c24b0
        try clear c24b1
        try clear c25
        try clear c25b0
        try clear c25b1
        try clear c26
        try clear c26b0
        try clear c26b1
        try clear c27
        try clear c27b0
        try clear c27b1
        try clear c28
        try clear c28b0
        try clear c28b1
        try clear c29
        try clear c29b0
        try clear c29b1
        try clear c30
        try clear c30b0
        try clear c30b1
        try clear c31
        try clear c36
        try clear c37
        try clear c37b0
        try clear c37b1
        try clear c38
        try clear c38b0
        try clear c38b1
        try clear c39
        try clear c39b0
        try clear c39b1
        try clear c40
        try clear c40b0
        try clear c40b1
        try clear c41
        try clear c41b0
        try clear c41b1
        try clear c42
        try clear c42b0
        try clear c42b1
        try clear c44
        try clear c49
        try clear c52
        try clear c52b0
        try clear c52b1
        try clear c54
        try clear c54b0
        try clear c54b1
        try clear c56
        try clear c59
        try clear c60
        try clear c62
        try clear hcz15_0
        try clear hcz15_1
        try clear hcz15_2
        try clear hcz15_3
        try clear hcz32_0
        try clear hcz32_1
        try clear hcz32_2
        try clear hcz32_3
        try clear hcz35_0
        try clear hcz35_1
        try clear hcz35_2
        try clear hcz35_3
        try clear hcz45_0
        try clear hcz45_1
        try clear hcz45_2
        try clear hcz45_3
        try clear hcz50_0
        try clear hcz50_1
        try clear hcz50_2
        try clear hcz50_3
        try clear hcz61_0
        try clear hcz61_1
        try clear hcz61_2
        try clear hcz61_3
        try clear hcz63_0
        try clear hcz63_1
        try clear hcz63_2
        try clear hcz63_3
        try clear hfz15_0
        try clear hfz15_1
        try clear hfz15_2
        try clear hfz15_3
        try clear hfz32_0
        try clear hfz32_1
        try clear hfz32_2
        try clear hfz32_3
        try clear hfz35_0
        try clear hfz35_1
        try clear hfz35_2
        try clear hfz35_3
        try clear hfz45_0
        try clear hfz45_1
        try clear hfz45_2
        try clear hfz45_3
        try clear hfz50_0
        try clear hfz50_1
        try clear hfz50_2
        try clear hfz50_3
        try clear hfz61_0
        try clear hfz61_1
        try clear hfz61_2
        try clear hfz61_3
        try clear hfz63_0
        try clear hfz63_1
        try clear hfz63_2
        try clear hfz63_3
        try clear p2
        obtain ⟨kq, HA, HJ47, BK137, BK147, HB⟩ := hcut
        cases kq with
        | zero => exact absurd HA.out (by simp [slackwaterlaw09_ClockBack.j1])
        | succ kj47 =>
          have H := HA.out
          clear HA
          simp only [slackwaterlaw09_ClockBack.j1] at H
          replace H := Option.bind_eq_some_iff.mp H
          obtain ⟨⟨t167, t168⟩, A650, H⟩ := H
          replace H : (if t168 = 0 then ((clock_Text.f t167).bind fun bt169 => (if x7_8 = true then (if bt169.2 = 0 then (some (bt169.1.toList == a2.toList)) else (none)) else (none))) else (if x7_8 = true then (if t167 = 0 then (if t159 = 0 then (some true) else (some (t158 == 0))) else (none)) else (none))) = some r := H
          have A65 := Aside0.mk A650
          clear A650
          by_cases c66 : t168 = 0
          · rw [if_pos c66] at H
            have c66b0 : (t168 == 0) = true := beq_iff_eq.mpr c66
            have c66b1 : (t168 != 0) = false := bne_eq_false_iff_eq.mpr c66
            clear c66
            replace H := Option.bind_eq_some_iff.mp H
            obtain ⟨⟨t169, t170⟩, A670, H⟩ := H
            replace H : (if x7_8 = true then (if t170 = 0 then (some (t169.toList == a2.toList)) else (none)) else (none)) = some r := H
            have A67 := Aside0.mk A670
            clear A670
            by_cases c68 : x7_8 = true
            · subst c68
              have H1 : (if t170 = 0 then (some (t169.toList == a2.toList)) else (none)) = some r := by rw [if_pos rfl] at H; exact H
              clear H
              have H := H1
              clear H1
              by_cases c69 : t170 = 0
              · rw [if_pos c69] at H
                have c69b0 : (t170 == 0) = true := beq_iff_eq.mpr c69
                have c69b1 : (t170 != 0) = false := bne_eq_false_iff_eq.mpr c69
                clear c69
                obtain rfl := Option.some.inj H
                go_wp2_with (first | ((with_reducible refine gate_callee (f := 16) rfl ?_); refine goesL_ (some 166) rfl rfl Tryd.func16 (by kernel_rfl) rfl #[.string a2] rfl (by (try simp only [List.map_toArray, List.map_cons, List.map_nil]); first | done | rfl | (simp only [List.length_drop, List.length_take]; rfl)) ?_; (with_reducible refine (clock_Parse.calls kj47 a2 t167 t168 _ (hL.below (by repeat (first | (with_reducible first | exact HB.out | apply below_alloc | apply pw_below_drewN | apply below_drew1 | refine below_set ?_ GE137.out | refine below_set ?_ GE147.out) | exact HB.out))) A65.out).mono ?_); rintro e w70 ⟨rfl, hb⟩; refine ⟨_, rfl, ?_⟩; have n0_ := Aside0.mk (blk_below (g := gb137) (o := .cells #[.int .i64 a1_0, .int .i64 a1_1, .int .i64 a1_2, .int .i64 a1_3] 23 (0, 0)) (by (with_reducible repeat (first | refine blk_drewN ?_ _ | refine blk_drew ?_ | refine blk_alloc ?_ _)); exact BK137.out) hb); have n1_ := Aside0.mk (blk_below (g := gb147) (o := .cells #[.int .i64 t142, .int .i64 t143, .int .i64 t144, .int .i64 t145] 23 (0, 0)) (by (with_reducible repeat (first | refine blk_drewN ?_ _ | refine blk_drew ?_ | refine blk_alloc ?_ _)); exact BK147.out) hb); have n2_ := Aside0.mk (below_step (by repeat (first | (with_reducible first | exact HB.out | apply below_alloc | apply pw_below_drewN | apply below_drew1 | refine below_set ?_ GE137.out | refine below_set ?_ GE147.out) | exact HB.out)) hb); clear BK137; clear BK147; clear HB; have BK137 := n0_; have BK147 := n1_; have HB := n2_; clear n0_ n1_ n2_; (try clear hb); (try clear hb2); (try clear hk); (try clear hi)) | ((with_reducible refine gate_callee (f := 11) rfl ?_); refine goesL_ (some 173) rfl rfl Tryd.func11 (by kernel_rfl) rfl #[.int .i64 t167] rfl (by (try simp only [List.map_toArray, List.map_cons, List.map_nil]); first | done | rfl | (simp only [List.length_drop, List.length_take]; rfl)) ?_; (with_reducible refine (clock_Text.calls t167 t169 t170 _ (hL.below (by repeat (first | (with_reducible first | exact HB.out | apply below_alloc | apply pw_below_drewN | apply below_drew1 | refine below_set ?_ GE137.out | refine below_set ?_ GE147.out) | exact HB.out))) A67.out).mono ?_); rintro e w71 ⟨rfl, hb⟩; refine ⟨_, rfl, ?_⟩; have n0_ := Aside0.mk (blk_below (g := gb137) (o := .cells #[.int .i64 a1_0, .int .i64 a1_1, .int .i64 a1_2, .int .i64 a1_3] 23 (0, 0)) (by (with_reducible repeat (first | refine blk_drewN ?_ _ | refine blk_drew ?_ | refine blk_alloc ?_ _)); exact BK137.out) hb); have n1_ := Aside0.mk (blk_below (g := gb147) (o := .cells #[.int .i64 t142, .int .i64 t143, .int .i64 t144, .int .i64 t145] 23 (0, 0)) (by (with_reducible repeat (first | refine blk_drewN ?_ _ | refine blk_drew ?_ | refine blk_alloc ?_ _)); exact BK147.out) hb); have n2_ := Aside0.mk (below_step (by repeat (first | (with_reducible first | exact HB.out | apply below_alloc | apply pw_below_drewN | apply below_drew1 | refine below_set ?_ GE137.out | refine below_set ?_ GE147.out) | exact HB.out)) hb); clear BK137; clear BK147; clear HB; have BK137 := n0_; have BK147 := n1_; have HB := n2_; clear n0_ n1_ n2_; (try clear hb); (try clear hb2); (try clear hk); (try clear hi)))
                go_ret
                exact ⟨by first | rfl | (simp [errW_none, errW_some] <;> rfl) | (simp [*, errW_none, errW_some] <;> rfl), by repeat (first | (with_reducible first | exact HB.out | apply below_alloc | apply pw_below_drewN | apply below_drew1 | refine below_set ?_ GE137.out | refine below_set ?_ GE147.out) | exact HB.out)⟩
              · rw [if_neg c69] at H
                exact absurd H (by simp)
            · replace c68 := Bool.eq_false_iff.mpr c68
              subst c68
              have H1 : (none) = some r := by rw [if_neg (show ¬ (false = true) by decide)] at H; exact H
              clear H
              have H := H1
              clear H1
              exact absurd H (by simp)
          · rw [if_neg c66] at H
            have c66b0 : (t168 == 0) = false := beq_eq_false_iff_ne.mpr c66
            have c66b1 : (t168 != 0) = true := bne_iff_ne.mpr c66
            by_cases c72 : x7_8 = true
            · subst c72
              have H1 : (if t167 = 0 then (if t159 = 0 then (some true) else (some (t158 == 0))) else (none)) = some r := by rw [if_pos rfl] at H; exact H
              clear H
              have H := H1
              clear H1
              by_cases c73 : t167 = 0
              · rw [if_pos c73] at H
                have c73b0 : (t167 == 0) = true := beq_iff_eq.mpr c73
                have c73b1 : (t167 != 0) = false := bne_eq_false_iff_eq.mpr c73
                clear c73
                by_cases c74 : t159 = 0
                · rw [if_pos c74] at H
                  have c74b0 : (t159 == 0) = true := beq_iff_eq.mpr c74
                  have c74b1 : (t159 != 0) = false := bne_eq_false_iff_eq.mpr c74
                  clear c74
                  obtain rfl := Option.some.inj H
                  go_wp2_with (first | ((with_reducible refine gate_callee (f := 16) rfl ?_); refine goesL_ (some 166) rfl rfl Tryd.func16 (by kernel_rfl) rfl #[.string a2] rfl (by (try simp only [List.map_toArray, List.map_cons, List.map_nil]); first | done | rfl | (simp only [List.length_drop, List.length_take]; rfl)) ?_; (with_reducible refine (clock_Parse.calls kj47 a2 t167 t168 _ (hL.below (by repeat (first | (with_reducible first | exact HB.out | apply below_alloc | apply pw_below_drewN | apply below_drew1 | refine below_set ?_ GE137.out | refine below_set ?_ GE147.out) | exact HB.out))) A65.out).mono ?_); rintro e w75 ⟨rfl, hb⟩; refine ⟨_, rfl, ?_⟩; have n0_ := Aside0.mk (blk_below (g := gb137) (o := .cells #[.int .i64 a1_0, .int .i64 a1_1, .int .i64 a1_2, .int .i64 a1_3] 23 (0, 0)) (by (with_reducible repeat (first | refine blk_drewN ?_ _ | refine blk_drew ?_ | refine blk_alloc ?_ _)); exact BK137.out) hb); have n1_ := Aside0.mk (blk_below (g := gb147) (o := .cells #[.int .i64 t142, .int .i64 t143, .int .i64 t144, .int .i64 t145] 23 (0, 0)) (by (with_reducible repeat (first | refine blk_drewN ?_ _ | refine blk_drew ?_ | refine blk_alloc ?_ _)); exact BK147.out) hb); have n2_ := Aside0.mk (below_step (by repeat (first | (with_reducible first | exact HB.out | apply below_alloc | apply pw_below_drewN | apply below_drew1 | refine below_set ?_ GE137.out | refine below_set ?_ GE147.out) | exact HB.out)) hb); clear BK137; clear BK147; clear HB; have BK137 := n0_; have BK147 := n1_; have HB := n2_; clear n0_ n1_ n2_; (try clear hb); (try clear hb2); (try clear hk); (try clear hi)))
                  go_ret
                  exact ⟨by first | rfl | (simp [errW_none, errW_some] <;> rfl) | (simp [*, errW_none, errW_some] <;> rfl), by repeat (first | (with_reducible first | exact HB.out | apply below_alloc | apply pw_below_drewN | apply below_drew1 | refine below_set ?_ GE137.out | refine below_set ?_ GE147.out) | exact HB.out)⟩
                · rw [if_neg c74] at H
                  have c74b0 : (t159 == 0) = false := beq_eq_false_iff_ne.mpr c74
                  have c74b1 : (t159 != 0) = true := bne_iff_ne.mpr c74
                  obtain rfl := Option.some.inj H
                  go_wp2_with (first | ((with_reducible refine gate_callee (f := 16) rfl ?_); refine goesL_ (some 166) rfl rfl Tryd.func16 (by kernel_rfl) rfl #[.string a2] rfl (by (try simp only [List.map_toArray, List.map_cons, List.map_nil]); first | done | rfl | (simp only [List.length_drop, List.length_take]; rfl)) ?_; (with_reducible refine (clock_Parse.calls kj47 a2 t167 t168 _ (hL.below (by repeat (first | (with_reducible first | exact HB.out | apply below_alloc | apply pw_below_drewN | apply below_drew1 | refine below_set ?_ GE137.out | refine below_set ?_ GE147.out) | exact HB.out))) A65.out).mono ?_); rintro e w76 ⟨rfl, hb⟩; refine ⟨_, rfl, ?_⟩; have n0_ := Aside0.mk (blk_below (g := gb137) (o := .cells #[.int .i64 a1_0, .int .i64 a1_1, .int .i64 a1_2, .int .i64 a1_3] 23 (0, 0)) (by (with_reducible repeat (first | refine blk_drewN ?_ _ | refine blk_drew ?_ | refine blk_alloc ?_ _)); exact BK137.out) hb); have n1_ := Aside0.mk (blk_below (g := gb147) (o := .cells #[.int .i64 t142, .int .i64 t143, .int .i64 t144, .int .i64 t145] 23 (0, 0)) (by (with_reducible repeat (first | refine blk_drewN ?_ _ | refine blk_drew ?_ | refine blk_alloc ?_ _)); exact BK147.out) hb); have n2_ := Aside0.mk (below_step (by repeat (first | (with_reducible first | exact HB.out | apply below_alloc | apply pw_below_drewN | apply below_drew1 | refine below_set ?_ GE137.out | refine below_set ?_ GE147.out) | exact HB.out)) hb); clear BK137; clear BK147; clear HB; have BK137 := n0_; have BK147 := n1_; have HB := n2_; clear n0_ n1_ n2_; (try clear hb); (try clear hb2); (try clear hk); (try clear hi)))
                  go_ret
                  exact ⟨by first | rfl | (simp [errW_none, errW_some] <;> rfl) | (simp [*, errW_none, errW_some] <;> rfl), by repeat (first | (with_reducible first | exact HB.out | apply below_alloc | apply pw_below_drewN | apply below_drew1 | refine below_set ?_ GE137.out | refine below_set ?_ GE147.out) | exact HB.out)⟩
              · rw [if_neg c73] at H
                exact absurd H (by simp)
            · replace c72 := Bool.eq_false_iff.mpr c72
              subst c72
              have H1 : (none) = some r := by rw [if_neg (show ¬ (false = true) by decide)] at H; exact H
              clear H
              have H := H1
              clear H1
              exact absurd H (by simp)

/-! ### clock_Span: function 28 -/
def clock_Span.j0 : Nat → Int → Int → Bool → Option (Int)
  | 0, _, _, _ => none
  | k + 1, x0, x1, x5 => if x5 = true then (some 2) else (if (wrap64 (x1 - x0)) > 4096 then (some 3) else (some 0))
def clock_Span.f (k : Nat) (a0 : Int) (a1 : Int) : Option (Int) := if a0 < 0 then (clock_Span.j0 k a0 a1 true) else (if a1 > 1048577 then (clock_Span.j0 k a0 a1 true) else (clock_Span.j0 k a0 a1 (decide (a0 > a1))))
theorem clock_Span.mono_l : ∀ k, (∀ y0 y1 y2, LeO (clock_Span.j0 k y0 y1 y2) (clock_Span.j0 (k + 1) y0 y1 y2))
  | 0 => fun _ _ _ r h => by simp [clock_Span.j0] at h
  | k + 1 => by
    have ih0 := clock_Span.mono_l k
    · intro y0 y1 y2
      unfold clock_Span.j0
      repeat' first
      | (with_reducible exact ih0 _ _ _)
      | (with_reducible exact LeO.refl _)
      | (with_reducible exact LeO.none _)
      | (with_reducible refine LeO.ite ?_ ?_)
      | (with_reducible refine LeO.bind ?_ (fun _ => ?_))
      | exact ih0 _ _ _
      | exact LeO.none _
      | refine LeO.ite ?_ ?_
      | refine LeO.bind ?_ (fun _ => ?_)
theorem clock_Span.mono : ∀ a0 a1 k, LeO (clock_Span.f k a0 a1) (clock_Span.f (k + 1) a0 a1) := by
  intro a0 a1 k
  have ih0 := clock_Span.mono_l k
  unfold clock_Span.f
  repeat' first
      | (with_reducible exact ih0 _ _ _)
      | (with_reducible exact LeO.refl _)
      | (with_reducible exact LeO.none _)
      | (with_reducible refine LeO.ite ?_ ?_)
      | (with_reducible refine LeO.bind ?_ (fun _ => ?_))
      | exact ih0 _ _ _
      | exact LeO.none _
      | refine LeO.ite ?_ ?_
      | refine LeO.bind ?_ (fun _ => ?_)
set_option maxHeartbeats 8000000 in
set_option maxRecDepth 100000 in
theorem clock_Span.calls (k : Nat) (a0 : Int) (a1 : Int) (r : Int) (w : World) (h : clock_Span.f k a0 a1 = some r) :
    Calls Tryd.prog 28 #[.int .i64 a0, .int .i64 a1] w fun e w' => e = .returned (.int .i64 r) ∧ Drawn0 w w' := by
  have H : (if a0 < 0 then (clock_Span.j0 k a0 a1 true) else (if a1 > 1048577 then (clock_Span.j0 k a0 a1 true) else (clock_Span.j0 k a0 a1 (decide (a0 > a1))))) = some r := h
  clear h
  have HC3 := Aside0.mk H
  clear H
  go_enter Tryd.func28, Tryd.ntmps28
  go_upto_region 1 with (fail)
  go_cut [5] (fun v5 wc => ∃ (kq : Nat) (x5_2 : Bool), v5 = .bool x5_2 ∧ Aside0 (clock_Span.j0 kq a0 a1 x5_2 = some r) ∧ Aside0 (kq ≤ k) ∧ Drawn0 w wc)
  case first =>
    have H := HC3.out
    clear HC3
    by_cases c4 : a0 < 0
    · rw [if_pos c4] at H
      have c4b0 : decide (a0 < 0) = true := decide_eq_true c4
      clear c4
      (first | rw [c4b0] | (simp only [i64_w, i32_w]; rw [c4b0]) | skip)
      have H' := Aside0.mk H
      clear H
      go_wp2
      go_meet
      case rel => exact ⟨_, (true), (by first | rfl | (simp; done) | (simp [*]; done)), H', ⟨by first | omega | exact Nat.le_refl _⟩, by repeat (first | exact Drawn0.refl _ | apply Drawn0.step)⟩
    · rw [if_neg c4] at H
      have c4b0 : decide (a0 < 0) = false := decide_eq_false c4
      clear c4
      (first | rw [c4b0] | (simp only [i64_w, i32_w]; rw [c4b0]) | skip)
      by_cases c5 : a1 > 1048577
      · rw [if_pos c5] at H
        have c5b0 : decide (1048577 < a1) = true := decide_eq_true c5
        clear c5
        have H' := Aside0.mk H
        clear H
        go_wp2
        go_meet
        case rel => exact ⟨_, (true), (by first | rfl | (simp; done) | (simp [*]; done)), H', ⟨by first | omega | exact Nat.le_refl _⟩, by repeat (first | exact Drawn0.refl _ | apply Drawn0.step)⟩
      · rw [if_neg c5] at H
        have c5b0 : decide (1048577 < a1) = false := decide_eq_false c5
        clear c5
        have H' := Aside0.mk H
        clear H
        go_wp2
        go_meet
        case rel => exact ⟨_, (decide (a0 > a1)), (by first | rfl | (simp; done) | (simp [*]; done)), H', ⟨by first | omega | exact Nat.le_refl _⟩, by repeat (first | exact Drawn0.refl _ | apply Drawn0.step)⟩
  case rest =>
    clear HC3
    try clear c2
    try clear p2
    try clear c4
    try clear c4b0
    try clear c5
    try clear c5b0
    obtain ⟨kq, x5_2, rfl, HA, HJ2, ⟨mc2, rfl⟩⟩ := hcut
    cases kq with
    | zero => exact absurd HA.out (by simp [clock_Span.j0])
    | succ kj2 =>
      have H := HA.out
      clear HA
      simp only [clock_Span.j0] at H
      by_cases c6 : x5_2 = true
      · subst c6
        have H1 : (some 2) = some r := by rw [if_pos rfl] at H; exact H
        clear H
        have H := H1
        clear H1
        obtain rfl := Option.some.inj H
        go_wp2
        go_ret
        exact ⟨by first | rfl | (simp; done) | (simp [*]; done), by repeat (first | exact Drawn0.refl _ | apply Drawn0.step)⟩
      · replace c6 := Bool.eq_false_iff.mpr c6
        subst c6
        have H1 : (if (wrap64 (a1 - a0)) > 4096 then (some 3) else (some 0)) = some r := by rw [if_neg (show ¬ (false = true) by decide)] at H; exact H
        clear H
        have H := H1
        clear H1
        by_cases c7 : (wrap64 (a1 - a0)) > 4096
        · rw [if_pos c7] at H
          have c7b0 : decide (4096 < (wrap64 (a1 - a0))) = true := decide_eq_true c7
          clear c7
          obtain rfl := Option.some.inj H
          go_wp2
          go_ret
          exact ⟨by first | rfl | (simp; done) | (simp [*]; done), by repeat (first | exact Drawn0.refl _ | apply Drawn0.step)⟩
        · rw [if_neg c7] at H
          have c7b0 : decide (4096 < (wrap64 (a1 - a0))) = false := decide_eq_false c7
          clear c7
          obtain rfl := Option.some.inj H
          go_wp2
          go_ret
          exact ⟨by first | rfl | (simp; done) | (simp [*]; done), by repeat (first | exact Drawn0.refl _ | apply Drawn0.step)⟩

end Go.Proofs.YtipkjbfbcdadkaaDoor.PK9
