/- Written by wip/xprint.py (the kit's print over given functions). -/
import Derived.Test.YtcddhfidbhcgdaaPTGx0
import Derived.Test.YtcddhfidbhcgdaaPTGx1
import Derived.Test.YtcddhfidbhcgdaaPTGx3
import Derived.Test.YtcddhfidbhcgdaaPTGx8
import Derived.Test.YtcddhfidbhcgdaaPTGx10
import Derived.Test.YtcddhfidbhcgdaaPTGx11
import Derived.Test.YtcddhfidbhcgdaaPTGx12
import Derived.Test.YtcddhfidbhcgdaaPTGx15
namespace Go.Proofs.Ytcddhfidbhcgdaa.PTG
open Go.RowKit Go.Proofs.YtcddhfidbhcgdaaW.PrintWords Go.Proofs.YtcddhfidbhcgdaaW.PrintLast Go.Proofs.YtcddhfidbhcgdaaW.PrintMore
attribute [local go_sem] max2_int min2_int max_two min_two max_three min_three max_four min_four   -- for this text's walks alone
set_option linter.unusedVariables false
set_option linter.unusedSimpArgs false

attribute [local go_sem high] eqA23
abbrev bN := @blk_drewN
abbrev bW := @blk_drew
abbrev bA := @blk_alloc
abbrev bB := @blk_below
abbrev bF := @blk_far
abbrev bL := @blk_lt
abbrev bC := @blk_cell
abbrev bZ := @blk_frozen
abbrev wA := @below_alloc
abbrev wN := @pw_below_drewN
abbrev wD := @below_drew1
abbrev wS := @below_set
abbrev wP := @below_step
abbrev wZ := @below_size
abbrev gC := @gate_callee
abbrev gD := @gate_dst
abbrev gB := @box_event
theorem aZ {p : Prop} (h : p) : Aside0 p := ⟨h⟩
/-! ### slackwaterlaw08_TurnGroup: function 4 -/
mutual
def slackwaterlaw08_TurnGroup.j0 : Nat → Int → Bool → Int → Int → Int → Int → Int → Int → Option (Bool)
 | 0, _, _, _, _, _, _, _, _ => none
 | k + 1, x3, x51, x139000, x139001, x140000, x140001, x141000, x141001 => if x51 = true then (some true) else ((slackwaterlaw08_add.f k x139000 x139001 x140000 x140001).bind fun bt145 => ((slackwaterlaw08_add.f k x140000 x140001 x139000 x139001).bind fun bt149 => ((slackwaterlaw08_add.f k x140000 x140001 x141000 x141001).bind fun bt153 => (if (bt145.2.2 != bt149.2.2) = true then (none) else (if (!(bt145.1 == bt149.1) || (!(bt145.2.1 == bt149.2.1))) = true then (none) else (if bt145.2.2 = true then ((turn_Check.f k bt145.1 bt145.2.1).bind fun t157 => (slackwaterlaw08_TurnGroup.j1 k x3 bt145.2.2 bt153.2.2 (t157 != 0) x139000 x139001 x140000 x140001 x141000 x141001 bt145.1 bt145.2.1 bt153.1 bt153.2.1)) else (slackwaterlaw08_TurnGroup.j1 k x3 bt145.2.2 bt153.2.2 false x139000 x139001 x140000 x140001 x141000 x141001 bt145.1 bt145.2.1 bt153.1 bt153.2.1)))))))
def slackwaterlaw08_TurnGroup.j1 : Nat → Int → Bool → Bool → Bool → Int → Int → Int → Int → Int → Int → Int → Int → Int → Int → Option (Bool)
 | 0, _, _, _, _, _, _, _, _, _, _, _, _, _, _ => none
 | k + 1, x3, x10, x14, x85, x139000, x139001, x140000, x140001, x141000, x141001, x149000, x149001, x157000, x157001 => if x85 = true then (none) else ((slackwaterlaw08_add.f k x149000 x149001 x141000 x141001).bind fun bt158 => ((slackwaterlaw08_add.f k x139000 x139001 x157000 x157001).bind fun bt162 => (if x10 = true then (if x14 = true then (if bt158.2.2 = true then (if bt162.2.2 = true then (slackwaterlaw08_TurnGroup.j2 k x3 x10 (!(bt158.1 == bt162.1) || (!(bt158.2.1 == bt162.2.1))) x139000 x139001 x140000 x140001 x149000 x149001) else (slackwaterlaw08_TurnGroup.j2 k x3 x10 false x139000 x139001 x140000 x140001 x149000 x149001)) else (slackwaterlaw08_TurnGroup.j2 k x3 x10 false x139000 x139001 x140000 x140001 x149000 x149001)) else (slackwaterlaw08_TurnGroup.j2 k x3 x10 false x139000 x139001 x140000 x140001 x149000 x149001)) else (slackwaterlaw08_TurnGroup.j2 k x3 x10 false x139000 x139001 x140000 x140001 x149000 x149001))))
def slackwaterlaw08_TurnGroup.j2 : Nat → Int → Bool → Bool → Int → Int → Int → Int → Int → Int → Option (Bool)
 | 0, _, _, _, _, _, _, _, _, _ => none
 | k + 1, x3, x10, x112, x139000, x139001, x140000, x140001, x149000, x149001 => if x112 = true then (none) else ((turn_Sub.f k x149000 x149001 x140000 x140001).bind fun bt166 => (if x10 = true then (if bt166.2.2 = 0 then (slackwaterlaw08_TurnGroup.j3 k x3 (!(bt166.1 == x139000) || (!(bt166.2.1 == x139001))) x139000 x139001) else (none)) else (slackwaterlaw08_TurnGroup.j3 k x3 false x139000 x139001)))
def slackwaterlaw08_TurnGroup.j3 : Nat → Int → Bool → Int → Int → Option (Bool)
 | 0, _, _, _, _ => none
 | k + 1, x3, x128, x139000, x139001 => if x128 = true then (none) else ((turn_Neg.f k x139000 x139001).bind fun bt170 => ((slackwaterlaw08_add.f k x139000 x139001 bt170.1 bt170.2.1).bind fun bt174 => (if bt170.2.2 = 0 then (if bt174.2.2 = true then (slackwaterlaw08_TurnGroup.j4 k x3 (!(bt174.1 == 0) || (!(bt174.2.1 == 1))) x139000 x139001) else (none)) else (none))))
def slackwaterlaw08_TurnGroup.j4 : Nat → Int → Bool → Int → Int → Option (Bool)
 | 0, _, _, _, _ => none
 | k + 1, x3, x150, x139000, x139001 => if x150 = true then (none) else (slackwaterlaw08_TurnGroup.l0 k x3 0 x139000 x139001 0 1)
def slackwaterlaw08_TurnGroup.l0 : Nat → Int → Int → Int → Int → Int → Int → Option (Bool)
 | 0, _, _, _, _, _, _ => none
 | k + 1, x3, x26, x139000, x139001, x179000, x179001 => if x26 < x3 then ((slackwaterlaw08_add.f k x179000 x179001 x139000 x139001).bind fun bt179 => (if bt179.2.2 = true then (slackwaterlaw08_TurnGroup.l0 k x3 (wrap64 (x26 + 1)) x139000 x139001 bt179.1 bt179.2.1) else (none))) else ((turn_Times.f k x139000 x139001 (wrap32 (x3))).bind fun bt182 => (if bt182.2.2 = 0 then (some (bt182.1 == x179000 && (bt182.2.1 == x179001))) else (none)))
end
def slackwaterlaw08_TurnGroup.f (k : Nat) (a0_0 : Int) (a0_1 : Int) (a1_0 : Int) (a1_1 : Int) (a2_0 : Int) (a2_1 : Int) (a3 : Int) : Option (Bool) := (slackwaterlaw08_lives.f).bind fun t141 => (if t141 = true then ((turn_Check.f k a0_0 a0_1).bind fun t142 => (if t142 = 0 then ((turn_Check.f k a1_0 a1_1).bind fun t143 => (if t143 = 0 then ((turn_Check.f k a2_0 a2_1).bind fun t144 => (if t144 = 0 then (if a3 < 0 then (slackwaterlaw08_TurnGroup.j0 k a3 true a0_0 a0_1 a1_0 a1_1 a2_0 a2_1) else (slackwaterlaw08_TurnGroup.j0 k a3 (decide (a3 > 20)) a0_0 a0_1 a1_0 a1_1 a2_0 a2_1)) else (slackwaterlaw08_TurnGroup.j0 k a3 true a0_0 a0_1 a1_0 a1_1 a2_0 a2_1))) else (slackwaterlaw08_TurnGroup.j0 k a3 true a0_0 a0_1 a1_0 a1_1 a2_0 a2_1))) else (slackwaterlaw08_TurnGroup.j0 k a3 true a0_0 a0_1 a1_0 a1_1 a2_0 a2_1))) else (none))
theorem slackwaterlaw08_TurnGroup.mono_l : ∀ k, (∀ y0 y1 y2 y3 y4 y5 y6 y7, LeO (slackwaterlaw08_TurnGroup.j0 k y0 y1 y2 y3 y4 y5 y6 y7) (slackwaterlaw08_TurnGroup.j0 (k + 1) y0 y1 y2 y3 y4 y5 y6 y7)) ∧ (∀ y0 y1 y2 y3 y4 y5 y6 y7 y8 y9 y10 y11 y12 y13, LeO (slackwaterlaw08_TurnGroup.j1 k y0 y1 y2 y3 y4 y5 y6 y7 y8 y9 y10 y11 y12 y13) (slackwaterlaw08_TurnGroup.j1 (k + 1) y0 y1 y2 y3 y4 y5 y6 y7 y8 y9 y10 y11 y12 y13)) ∧ (∀ y0 y1 y2 y3 y4 y5 y6 y7 y8, LeO (slackwaterlaw08_TurnGroup.j2 k y0 y1 y2 y3 y4 y5 y6 y7 y8) (slackwaterlaw08_TurnGroup.j2 (k + 1) y0 y1 y2 y3 y4 y5 y6 y7 y8)) ∧ (∀ y0 y1 y2 y3, LeO (slackwaterlaw08_TurnGroup.j3 k y0 y1 y2 y3) (slackwaterlaw08_TurnGroup.j3 (k + 1) y0 y1 y2 y3)) ∧ (∀ y0 y1 y2 y3, LeO (slackwaterlaw08_TurnGroup.j4 k y0 y1 y2 y3) (slackwaterlaw08_TurnGroup.j4 (k + 1) y0 y1 y2 y3)) ∧ (∀ y0 y1 y2 y3 y4 y5, LeO (slackwaterlaw08_TurnGroup.l0 k y0 y1 y2 y3 y4 y5) (slackwaterlaw08_TurnGroup.l0 (k + 1) y0 y1 y2 y3 y4 y5))
 | 0 => ⟨fun _ _ _ _ _ _ _ _ r h => by simp [slackwaterlaw08_TurnGroup.j0] at h, fun _ _ _ _ _ _ _ _ _ _ _ _ _ _ r h => by simp [slackwaterlaw08_TurnGroup.j1] at h, fun _ _ _ _ _ _ _ _ _ r h => by simp [slackwaterlaw08_TurnGroup.j2] at h, fun _ _ _ _ r h => by simp [slackwaterlaw08_TurnGroup.j3] at h, fun _ _ _ _ r h => by simp [slackwaterlaw08_TurnGroup.j4] at h, fun _ _ _ _ _ _ r h => by simp [slackwaterlaw08_TurnGroup.l0] at h⟩
 | k + 1 => by
  obtain ⟨ih0, ih1, ih2, ih3, ih4, ih5⟩ := slackwaterlaw08_TurnGroup.mono_l k
  refine ⟨?_, ?_, ?_, ?_, ?_, ?_⟩
  ·
   intro y0 y1 y2 y3 y4 y5 y6 y7
   unfold slackwaterlaw08_TurnGroup.j0
   repeat' first
   | (with_reducible exact ih0 _ _ _ _ _ _ _ _)
   | (with_reducible exact ih1 _ _ _ _ _ _ _ _ _ _ _ _ _ _)
   | (with_reducible exact ih2 _ _ _ _ _ _ _ _ _)
   | (with_reducible exact ih3 _ _ _ _)
   | (with_reducible exact ih4 _ _ _ _)
   | (with_reducible exact ih5 _ _ _ _ _ _)
   | (with_reducible exact slackwaterlaw08_add.mono _ _ _ _ _)
   | (with_reducible exact turn_Check.mono _ _ _)
   | (with_reducible exact turn_Neg.mono _ _ _)
   | (with_reducible exact turn_Sub.mono _ _ _ _ _)
   | (with_reducible exact turn_Times.mono _ _ _ _)
   | (with_reducible exact LeO.refl _)
   | (with_reducible exact LeO.none _)
   | (with_reducible refine LeO.ite ?_ ?_)
   | (with_reducible refine LeO.bind ?_ (fun _ => ?_))
   | exact ih0 _ _ _ _ _ _ _ _
   | exact ih1 _ _ _ _ _ _ _ _ _ _ _ _ _ _
   | exact ih2 _ _ _ _ _ _ _ _ _
   | exact ih3 _ _ _ _
   | exact ih4 _ _ _ _
   | exact ih5 _ _ _ _ _ _
   | exact slackwaterlaw08_add.mono _ _ _ _ _
   | exact turn_Check.mono _ _ _
   | exact turn_Neg.mono _ _ _
   | exact turn_Sub.mono _ _ _ _ _
   | exact turn_Times.mono _ _ _ _
   | exact LeO.none _
   | refine LeO.ite ?_ ?_
   | refine LeO.bind ?_ (fun _ => ?_)
  ·
   intro y0 y1 y2 y3 y4 y5 y6 y7 y8 y9 y10 y11 y12 y13
   unfold slackwaterlaw08_TurnGroup.j1
   repeat' first
   | (with_reducible exact ih0 _ _ _ _ _ _ _ _)
   | (with_reducible exact ih1 _ _ _ _ _ _ _ _ _ _ _ _ _ _)
   | (with_reducible exact ih2 _ _ _ _ _ _ _ _ _)
   | (with_reducible exact ih3 _ _ _ _)
   | (with_reducible exact ih4 _ _ _ _)
   | (with_reducible exact ih5 _ _ _ _ _ _)
   | (with_reducible exact slackwaterlaw08_add.mono _ _ _ _ _)
   | (with_reducible exact turn_Check.mono _ _ _)
   | (with_reducible exact turn_Neg.mono _ _ _)
   | (with_reducible exact turn_Sub.mono _ _ _ _ _)
   | (with_reducible exact turn_Times.mono _ _ _ _)
   | (with_reducible exact LeO.refl _)
   | (with_reducible exact LeO.none _)
   | (with_reducible refine LeO.ite ?_ ?_)
   | (with_reducible refine LeO.bind ?_ (fun _ => ?_))
   | exact ih0 _ _ _ _ _ _ _ _
   | exact ih1 _ _ _ _ _ _ _ _ _ _ _ _ _ _
   | exact ih2 _ _ _ _ _ _ _ _ _
   | exact ih3 _ _ _ _
   | exact ih4 _ _ _ _
   | exact ih5 _ _ _ _ _ _
   | exact slackwaterlaw08_add.mono _ _ _ _ _
   | exact turn_Check.mono _ _ _
   | exact turn_Neg.mono _ _ _
   | exact turn_Sub.mono _ _ _ _ _
   | exact turn_Times.mono _ _ _ _
   | exact LeO.none _
   | refine LeO.ite ?_ ?_
   | refine LeO.bind ?_ (fun _ => ?_)
  ·
   intro y0 y1 y2 y3 y4 y5 y6 y7 y8
   unfold slackwaterlaw08_TurnGroup.j2
   repeat' first
   | (with_reducible exact ih0 _ _ _ _ _ _ _ _)
   | (with_reducible exact ih1 _ _ _ _ _ _ _ _ _ _ _ _ _ _)
   | (with_reducible exact ih2 _ _ _ _ _ _ _ _ _)
   | (with_reducible exact ih3 _ _ _ _)
   | (with_reducible exact ih4 _ _ _ _)
   | (with_reducible exact ih5 _ _ _ _ _ _)
   | (with_reducible exact slackwaterlaw08_add.mono _ _ _ _ _)
   | (with_reducible exact turn_Check.mono _ _ _)
   | (with_reducible exact turn_Neg.mono _ _ _)
   | (with_reducible exact turn_Sub.mono _ _ _ _ _)
   | (with_reducible exact turn_Times.mono _ _ _ _)
   | (with_reducible exact LeO.refl _)
   | (with_reducible exact LeO.none _)
   | (with_reducible refine LeO.ite ?_ ?_)
   | (with_reducible refine LeO.bind ?_ (fun _ => ?_))
   | exact ih0 _ _ _ _ _ _ _ _
   | exact ih1 _ _ _ _ _ _ _ _ _ _ _ _ _ _
   | exact ih2 _ _ _ _ _ _ _ _ _
   | exact ih3 _ _ _ _
   | exact ih4 _ _ _ _
   | exact ih5 _ _ _ _ _ _
   | exact slackwaterlaw08_add.mono _ _ _ _ _
   | exact turn_Check.mono _ _ _
   | exact turn_Neg.mono _ _ _
   | exact turn_Sub.mono _ _ _ _ _
   | exact turn_Times.mono _ _ _ _
   | exact LeO.none _
   | refine LeO.ite ?_ ?_
   | refine LeO.bind ?_ (fun _ => ?_)
  ·
   intro y0 y1 y2 y3
   unfold slackwaterlaw08_TurnGroup.j3
   repeat' first
   | (with_reducible exact ih0 _ _ _ _ _ _ _ _)
   | (with_reducible exact ih1 _ _ _ _ _ _ _ _ _ _ _ _ _ _)
   | (with_reducible exact ih2 _ _ _ _ _ _ _ _ _)
   | (with_reducible exact ih3 _ _ _ _)
   | (with_reducible exact ih4 _ _ _ _)
   | (with_reducible exact ih5 _ _ _ _ _ _)
   | (with_reducible exact slackwaterlaw08_add.mono _ _ _ _ _)
   | (with_reducible exact turn_Check.mono _ _ _)
   | (with_reducible exact turn_Neg.mono _ _ _)
   | (with_reducible exact turn_Sub.mono _ _ _ _ _)
   | (with_reducible exact turn_Times.mono _ _ _ _)
   | (with_reducible exact LeO.refl _)
   | (with_reducible exact LeO.none _)
   | (with_reducible refine LeO.ite ?_ ?_)
   | (with_reducible refine LeO.bind ?_ (fun _ => ?_))
   | exact ih0 _ _ _ _ _ _ _ _
   | exact ih1 _ _ _ _ _ _ _ _ _ _ _ _ _ _
   | exact ih2 _ _ _ _ _ _ _ _ _
   | exact ih3 _ _ _ _
   | exact ih4 _ _ _ _
   | exact ih5 _ _ _ _ _ _
   | exact slackwaterlaw08_add.mono _ _ _ _ _
   | exact turn_Check.mono _ _ _
   | exact turn_Neg.mono _ _ _
   | exact turn_Sub.mono _ _ _ _ _
   | exact turn_Times.mono _ _ _ _
   | exact LeO.none _
   | refine LeO.ite ?_ ?_
   | refine LeO.bind ?_ (fun _ => ?_)
  ·
   intro y0 y1 y2 y3
   unfold slackwaterlaw08_TurnGroup.j4
   repeat' first
   | (with_reducible exact ih0 _ _ _ _ _ _ _ _)
   | (with_reducible exact ih1 _ _ _ _ _ _ _ _ _ _ _ _ _ _)
   | (with_reducible exact ih2 _ _ _ _ _ _ _ _ _)
   | (with_reducible exact ih3 _ _ _ _)
   | (with_reducible exact ih4 _ _ _ _)
   | (with_reducible exact ih5 _ _ _ _ _ _)
   | (with_reducible exact slackwaterlaw08_add.mono _ _ _ _ _)
   | (with_reducible exact turn_Check.mono _ _ _)
   | (with_reducible exact turn_Neg.mono _ _ _)
   | (with_reducible exact turn_Sub.mono _ _ _ _ _)
   | (with_reducible exact turn_Times.mono _ _ _ _)
   | (with_reducible exact LeO.refl _)
   | (with_reducible exact LeO.none _)
   | (with_reducible refine LeO.ite ?_ ?_)
   | (with_reducible refine LeO.bind ?_ (fun _ => ?_))
   | exact ih0 _ _ _ _ _ _ _ _
   | exact ih1 _ _ _ _ _ _ _ _ _ _ _ _ _ _
   | exact ih2 _ _ _ _ _ _ _ _ _
   | exact ih3 _ _ _ _
   | exact ih4 _ _ _ _
   | exact ih5 _ _ _ _ _ _
   | exact slackwaterlaw08_add.mono _ _ _ _ _
   | exact turn_Check.mono _ _ _
   | exact turn_Neg.mono _ _ _
   | exact turn_Sub.mono _ _ _ _ _
   | exact turn_Times.mono _ _ _ _
   | exact LeO.none _
   | refine LeO.ite ?_ ?_
   | refine LeO.bind ?_ (fun _ => ?_)
  intro y0 y1 y2 y3 y4 y5
  unfold slackwaterlaw08_TurnGroup.l0
  repeat' first
  | (with_reducible exact ih0 _ _ _ _ _ _ _ _)
  | (with_reducible exact ih1 _ _ _ _ _ _ _ _ _ _ _ _ _ _)
  | (with_reducible exact ih2 _ _ _ _ _ _ _ _ _)
  | (with_reducible exact ih3 _ _ _ _)
  | (with_reducible exact ih4 _ _ _ _)
  | (with_reducible exact ih5 _ _ _ _ _ _)
  | (with_reducible exact slackwaterlaw08_add.mono _ _ _ _ _)
  | (with_reducible exact turn_Check.mono _ _ _)
  | (with_reducible exact turn_Neg.mono _ _ _)
  | (with_reducible exact turn_Sub.mono _ _ _ _ _)
  | (with_reducible exact turn_Times.mono _ _ _ _)
  | (with_reducible exact LeO.refl _)
  | (with_reducible exact LeO.none _)
  | (with_reducible refine LeO.ite ?_ ?_)
  | (with_reducible refine LeO.bind ?_ (fun _ => ?_))
  | exact ih0 _ _ _ _ _ _ _ _
  | exact ih1 _ _ _ _ _ _ _ _ _ _ _ _ _ _
  | exact ih2 _ _ _ _ _ _ _ _ _
  | exact ih3 _ _ _ _
  | exact ih4 _ _ _ _
  | exact ih5 _ _ _ _ _ _
  | exact slackwaterlaw08_add.mono _ _ _ _ _
  | exact turn_Check.mono _ _ _
  | exact turn_Neg.mono _ _ _
  | exact turn_Sub.mono _ _ _ _ _
  | exact turn_Times.mono _ _ _ _
  | exact LeO.none _
  | refine LeO.ite ?_ ?_
  | refine LeO.bind ?_ (fun _ => ?_)
theorem slackwaterlaw08_TurnGroup.mono : ∀ a0 a1 a2 a3 a4 a5 a6 k, LeO (slackwaterlaw08_TurnGroup.f k a0 a1 a2 a3 a4 a5 a6) (slackwaterlaw08_TurnGroup.f (k + 1) a0 a1 a2 a3 a4 a5 a6) := by
 intro a0 a1 a2 a3 a4 a5 a6 k
 obtain ⟨ih0, ih1, ih2, ih3, ih4, ih5⟩ := slackwaterlaw08_TurnGroup.mono_l k
 unfold slackwaterlaw08_TurnGroup.f
 repeat' first
   | (with_reducible exact ih0 _ _ _ _ _ _ _ _)
   | (with_reducible exact ih1 _ _ _ _ _ _ _ _ _ _ _ _ _ _)
   | (with_reducible exact ih2 _ _ _ _ _ _ _ _ _)
   | (with_reducible exact ih3 _ _ _ _)
   | (with_reducible exact ih4 _ _ _ _)
   | (with_reducible exact ih5 _ _ _ _ _ _)
   | (with_reducible exact slackwaterlaw08_add.mono _ _ _ _ _)
   | (with_reducible exact turn_Check.mono _ _ _)
   | (with_reducible exact turn_Neg.mono _ _ _)
   | (with_reducible exact turn_Sub.mono _ _ _ _ _)
   | (with_reducible exact turn_Times.mono _ _ _ _)
   | (with_reducible exact LeO.refl _)
   | (with_reducible exact LeO.none _)
   | (with_reducible refine LeO.ite ?_ ?_)
   | (with_reducible refine LeO.bind ?_ (fun _ => ?_))
   | exact ih0 _ _ _ _ _ _ _ _
   | exact ih1 _ _ _ _ _ _ _ _ _ _ _ _ _ _
   | exact ih2 _ _ _ _ _ _ _ _ _
   | exact ih3 _ _ _ _
   | exact ih4 _ _ _ _
   | exact ih5 _ _ _ _ _ _
   | exact slackwaterlaw08_add.mono _ _ _ _ _
   | exact turn_Check.mono _ _ _
   | exact turn_Neg.mono _ _ _
   | exact turn_Sub.mono _ _ _ _ _
   | exact turn_Times.mono _ _ _ _
   | exact LeO.none _
   | refine LeO.ite ?_ ?_
   | refine LeO.bind ?_ (fun _ => ?_)
set_option maxHeartbeats 8000000 in
set_option maxRecDepth 100000 in
theorem slackwaterlaw08_TurnGroup.calls (k : Nat) (a0_0 : Int) (a0_1 : Int) (a1_0 : Int) (a1_1 : Int) (a2_0 : Int) (a2_1 : Int) (a3 : Int) (r : Bool) (w : World) (h : slackwaterlaw08_TurnGroup.f k a0_0 a0_1 a1_0 a1_1 a2_0 a2_1 a3 = some r) :
  Calls Try.prog 4 #[.agg #[.int .i64 a0_0, .int .i64 a0_1], .agg #[.int .i64 a1_0, .int .i64 a1_1], .agg #[.int .i64 a2_0, .int .i64 a2_1], .int .i64 a3] w fun e w' => e = .returned (.bool r) ∧ Below w.heap.size w w' := by
 have hu23 := Try.underlying23
 have HB := aZ (Below.refl w.heap.size w)
 have H : ((slackwaterlaw08_lives.f).bind fun t141 => (if t141 = true then ((turn_Check.f k a0_0 a0_1).bind fun t142 => (if t142 = 0 then ((turn_Check.f k a1_0 a1_1).bind fun t143 => (if t143 = 0 then ((turn_Check.f k a2_0 a2_1).bind fun t144 => (if t144 = 0 then (if a3 < 0 then (slackwaterlaw08_TurnGroup.j0 k a3 true a0_0 a0_1 a1_0 a1_1 a2_0 a2_1) else (slackwaterlaw08_TurnGroup.j0 k a3 (decide (a3 > 20)) a0_0 a0_1 a1_0 a1_1 a2_0 a2_1)) else (slackwaterlaw08_TurnGroup.j0 k a3 true a0_0 a0_1 a1_0 a1_1 a2_0 a2_1))) else (slackwaterlaw08_TurnGroup.j0 k a3 true a0_0 a0_1 a1_0 a1_1 a2_0 a2_1))) else (slackwaterlaw08_TurnGroup.j0 k a3 true a0_0 a0_1 a1_0 a1_1 a2_0 a2_1))) else (none))) = some r := h
 clear h
 replace H := Option.bind_eq_some_iff.mp H
 obtain ⟨t141, A50, H⟩ := H
 replace H : (if t141 = true then ((turn_Check.f k a0_0 a0_1).bind fun t142 => (if t142 = 0 then ((turn_Check.f k a1_0 a1_1).bind fun t143 => (if t143 = 0 then ((turn_Check.f k a2_0 a2_1).bind fun t144 => (if t144 = 0 then (if a3 < 0 then (slackwaterlaw08_TurnGroup.j0 k a3 true a0_0 a0_1 a1_0 a1_1 a2_0 a2_1) else (slackwaterlaw08_TurnGroup.j0 k a3 (decide (a3 > 20)) a0_0 a0_1 a1_0 a1_1 a2_0 a2_1)) else (slackwaterlaw08_TurnGroup.j0 k a3 true a0_0 a0_1 a1_0 a1_1 a2_0 a2_1))) else (slackwaterlaw08_TurnGroup.j0 k a3 true a0_0 a0_1 a1_0 a1_1 a2_0 a2_1))) else (slackwaterlaw08_TurnGroup.j0 k a3 true a0_0 a0_1 a1_0 a1_1 a2_0 a2_1))) else (none)) = some r := H
 have A5 := Aside0.mk A50
 clear A50
 by_cases c6 : t141 = true
 ·
  subst c6
  have H1 : ((turn_Check.f k a0_0 a0_1).bind fun t142 => (if t142 = 0 then ((turn_Check.f k a1_0 a1_1).bind fun t143 => (if t143 = 0 then ((turn_Check.f k a2_0 a2_1).bind fun t144 => (if t144 = 0 then (if a3 < 0 then (slackwaterlaw08_TurnGroup.j0 k a3 true a0_0 a0_1 a1_0 a1_1 a2_0 a2_1) else (slackwaterlaw08_TurnGroup.j0 k a3 (decide (a3 > 20)) a0_0 a0_1 a1_0 a1_1 a2_0 a2_1)) else (slackwaterlaw08_TurnGroup.j0 k a3 true a0_0 a0_1 a1_0 a1_1 a2_0 a2_1))) else (slackwaterlaw08_TurnGroup.j0 k a3 true a0_0 a0_1 a1_0 a1_1 a2_0 a2_1))) else (slackwaterlaw08_TurnGroup.j0 k a3 true a0_0 a0_1 a1_0 a1_1 a2_0 a2_1))) = some r := by rw [if_pos rfl] at H; exact H
  clear H
  have H := H1
  clear H1
  have HC7 := Aside0.mk H
  clear H
  go_enter Try.func4, Try.ntmps4
  go_upto_region 3 with (first | ((with_reducible refine gD (N := 4) rfl ?_); refine gB ?hg (N := 4) ?hd (cs := #[.int .i64 a0_0, .int .i64 a0_1]) (t := 23) ?hr ?_; (case hd => rfl); (case hg => rfl); (case hr => first | (go_simp; done) | (go_simp; rfl)); intro gb138 hg w8 hbox hb; have n0_ := aZ (wP (by repeat (first | (with_reducible first | exact HB.out | apply wA | apply wN | apply wD) | exact HB.out)) hb); have n1_ := aZ (hbox); have n2_ := aZ ((by rw [hg]; exact (wZ (by repeat (first | (with_reducible first | exact HB.out | apply wA | apply wN | apply wD) | exact HB.out))) : w.heap.size ≤ gb138)); have n3_ := aZ ((by rw [hg]; exact (wZ (by repeat (first | (with_reducible first | exact HB.out | apply wA | apply wN | apply wD) | exact HB.out))) : w.heap.size ≤ gb138)); clear HB; have HB := n0_; have BK138 := n1_; have GW138 := n2_; have GE138 := n3_; clear n0_ n1_ n2_ n3_; clear hb hbox hg) | ((with_reducible refine gD (N := 5) rfl ?_); refine gB ?hg (N := 5) ?hd (cs := #[.int .i64 a1_0, .int .i64 a1_1]) (t := 23) ?hr ?_; (case hd => rfl); (case hg => rfl); (case hr => first | (go_simp; done) | (go_simp; rfl)); intro gb139 hg w9 hbox hb; have n0_ := aZ (bB (g := gb138) (o := .cells #[.int .i64 a0_0, .int .i64 a0_1] 23 (0, 0)) (by (with_reducible repeat (first | refine bN ?_ _ | refine bW ?_ | refine bA ?_ _)); exact BK138.out) hb); have n1_ := aZ (wP (by repeat (first | (with_reducible first | exact HB.out | apply wA | apply wN | apply wD | refine wS ?_ GE138.out) | exact HB.out)) hb); have n2_ := aZ (hbox); have n3_ := aZ ((by rw [hg]; exact (wZ (by repeat (first | (with_reducible first | exact HB.out | apply wA | apply wN | apply wD | refine wS ?_ GE138.out) | exact HB.out))) : w.heap.size ≤ gb139)); have n4_ := aZ ((by rw [hg]; exact (wZ (by repeat (first | (with_reducible first | exact HB.out | apply wA | apply wN | apply wD | refine wS ?_ GE138.out) | exact HB.out))) : w.heap.size ≤ gb139)); have n5_ := aZ ((by rw [hg]; exact Nat.ne_of_lt (bL (g := gb138) (o := .cells #[.int .i64 a0_0, .int .i64 a0_1] 23 (0, 0)) (by (with_reducible repeat (first | refine bN ?_ _ | refine bW ?_ | refine bA ?_ _)); exact BK138.out)) : gb138 ≠ gb139)); have n6_ := aZ ((by rw [hg]; exact Nat.ne_of_gt (bL (g := gb138) (o := .cells #[.int .i64 a0_0, .int .i64 a0_1] 23 (0, 0)) (by (with_reducible repeat (first | refine bN ?_ _ | refine bW ?_ | refine bA ?_ _)); exact BK138.out)) : gb139 ≠ gb138)); clear BK138; clear HB; have BK138 := n0_; have HB := n1_; have BK139 := n2_; have GW139 := n3_; have GE139 := n4_; have NB138_139 := n5_; have NB139_138 := n6_; clear n0_ n1_ n2_ n3_ n4_ n5_ n6_; clear hb hbox hg) | ((with_reducible refine gD (N := 6) rfl ?_); refine gB ?hg (N := 6) ?hd (cs := #[.int .i64 a2_0, .int .i64 a2_1]) (t := 23) ?hr ?_; (case hd => rfl); (case hg => rfl); (case hr => first | (go_simp; done) | (go_simp; rfl)); intro gb140 hg w10 hbox hb; have n0_ := aZ (bB (g := gb138) (o := .cells #[.int .i64 a0_0, .int .i64 a0_1] 23 (0, 0)) (by (with_reducible repeat (first | refine bN ?_ _ | refine bW ?_ | refine bA ?_ _)); exact BK138.out) hb); have n1_ := aZ (bB (g := gb139) (o := .cells #[.int .i64 a1_0, .int .i64 a1_1] 23 (0, 0)) (by (with_reducible repeat (first | refine bN ?_ _ | refine bW ?_ | refine bA ?_ _)); exact BK139.out) hb); have n2_ := aZ (wP (by repeat (first | (with_reducible first | exact HB.out | apply wA | apply wN | apply wD | refine wS ?_ GE138.out | refine wS ?_ GE139.out) | exact HB.out)) hb); have n3_ := aZ (hbox); have n4_ := aZ ((by rw [hg]; exact (wZ (by repeat (first | (with_reducible first | exact HB.out | apply wA | apply wN | apply wD | refine wS ?_ GE138.out | refine wS ?_ GE139.out) | exact HB.out))) : w.heap.size ≤ gb140)); have n5_ := aZ ((by rw [hg]; exact (wZ (by repeat (first | (with_reducible first | exact HB.out | apply wA | apply wN | apply wD | refine wS ?_ GE138.out | refine wS ?_ GE139.out) | exact HB.out))) : w.heap.size ≤ gb140)); have n6_ := aZ ((by rw [hg]; exact Nat.ne_of_lt (bL (g := gb138) (o := .cells #[.int .i64 a0_0, .int .i64 a0_1] 23 (0, 0)) (by (with_reducible repeat (first | refine bN ?_ _ | refine bW ?_ | refine bA ?_ _)); exact BK138.out)) : gb138 ≠ gb140)); have n7_ := aZ ((by rw [hg]; exact Nat.ne_of_gt (bL (g := gb138) (o := .cells #[.int .i64 a0_0, .int .i64 a0_1] 23 (0, 0)) (by (with_reducible repeat (first | refine bN ?_ _ | refine bW ?_ | refine bA ?_ _)); exact BK138.out)) : gb140 ≠ gb138)); have n8_ := aZ ((by rw [hg]; exact Nat.ne_of_lt (bL (g := gb139) (o := .cells #[.int .i64 a1_0, .int .i64 a1_1] 23 (0, 0)) (by (with_reducible repeat (first | refine bN ?_ _ | refine bW ?_ | refine bA ?_ _)); exact BK139.out)) : gb139 ≠ gb140)); have n9_ := aZ ((by rw [hg]; exact Nat.ne_of_gt (bL (g := gb139) (o := .cells #[.int .i64 a1_0, .int .i64 a1_1] 23 (0, 0)) (by (with_reducible repeat (first | refine bN ?_ _ | refine bW ?_ | refine bA ?_ _)); exact BK139.out)) : gb140 ≠ gb139)); clear BK138; clear BK139; clear HB; have BK138 := n0_; have BK139 := n1_; have HB := n2_; have BK140 := n3_; have GW140 := n4_; have GE140 := n5_; have NB138_140 := n6_; have NB140_138 := n7_; have NB139_140 := n8_; have NB140_139 := n9_; clear n0_ n1_ n2_ n3_ n4_ n5_ n6_ n7_ n8_ n9_; clear hb hbox hg) | ((with_reducible refine gC (f := 5) rfl ?_); refine goesL_ (some 29) rfl rfl Try.func5 (by kernel_rfl) rfl #[] rfl (by (try simp only [List.map_toArray, List.map_cons, List.map_nil]); first | done | rfl | (simp only [List.length_drop, List.length_take]; rfl)) ?_; (with_reducible refine (slackwaterlaw08_lives.calls  true _ A5.out).mono ?_); rintro e w11 ⟨rfl, hb⟩; refine ⟨_, rfl, ?_⟩; have n0_ := aZ (bB (g := gb138) (o := .cells #[.int .i64 a0_0, .int .i64 a0_1] 23 (0, 0)) (by (with_reducible repeat (first | refine bN ?_ _ | refine bW ?_ | refine bA ?_ _)); exact BK138.out) hb); have n1_ := aZ (bB (g := gb139) (o := .cells #[.int .i64 a1_0, .int .i64 a1_1] 23 (0, 0)) (by (with_reducible repeat (first | refine bN ?_ _ | refine bW ?_ | refine bA ?_ _)); exact BK139.out) hb); have n2_ := aZ (bB (g := gb140) (o := .cells #[.int .i64 a2_0, .int .i64 a2_1] 23 (0, 0)) (by (with_reducible repeat (first | refine bN ?_ _ | refine bW ?_ | refine bA ?_ _)); exact BK140.out) hb); have n3_ := aZ (wP (by repeat (first | (with_reducible first | exact HB.out | apply wA | apply wN | apply wD | refine wS ?_ GE138.out | refine wS ?_ GE139.out | refine wS ?_ GE140.out) | exact HB.out)) hb); clear BK138; clear BK139; clear BK140; clear HB; have BK138 := n0_; have BK139 := n1_; have BK140 := n2_; have HB := n3_; clear n0_ n1_ n2_ n3_; (try clear hb); (try clear hb2); (try clear hk); (try clear hi)))
  (try simp only [Act.put, List.setIfInBounds_toArray, List.set_cons_zero, List.set_cons_succ])
  go_cut [51] (fun v51 wc => ∃ (kq : Nat) (x51_6 : Bool), v51 = .bool x51_6 ∧ Aside0 (slackwaterlaw08_TurnGroup.j0 kq a3 x51_6 a0_0 a0_1 a1_0 a1_1 a2_0 a2_1 = some r) ∧ Aside0 (kq ≤ k) ∧ Aside0 (wc.heap[gb138]? = some (.cells #[.int .i64 a0_0, .int .i64 a0_1] 23 (0, 0))) ∧ Aside0 (wc.heap[gb139]? = some (.cells #[.int .i64 a1_0, .int .i64 a1_1] 23 (0, 0))) ∧ Aside0 (wc.heap[gb140]? = some (.cells #[.int .i64 a2_0, .int .i64 a2_1] 23 (0, 0))) ∧ Aside0 (Below w.heap.size w wc))
  case first =>
   have H := HC7.out
   clear HC7
   replace H := Option.bind_eq_some_iff.mp H
   obtain ⟨t142, A120, H⟩ := H
   replace H : (if t142 = 0 then ((turn_Check.f k a1_0 a1_1).bind fun t143 => (if t143 = 0 then ((turn_Check.f k a2_0 a2_1).bind fun t144 => (if t144 = 0 then (if a3 < 0 then (slackwaterlaw08_TurnGroup.j0 k a3 true a0_0 a0_1 a1_0 a1_1 a2_0 a2_1) else (slackwaterlaw08_TurnGroup.j0 k a3 (decide (a3 > 20)) a0_0 a0_1 a1_0 a1_1 a2_0 a2_1)) else (slackwaterlaw08_TurnGroup.j0 k a3 true a0_0 a0_1 a1_0 a1_1 a2_0 a2_1))) else (slackwaterlaw08_TurnGroup.j0 k a3 true a0_0 a0_1 a1_0 a1_1 a2_0 a2_1))) else (slackwaterlaw08_TurnGroup.j0 k a3 true a0_0 a0_1 a1_0 a1_1 a2_0 a2_1)) = some r := H
   have A12 := Aside0.mk A120
   clear A120
   by_cases c13 : t142 = 0
   ·
    rw [if_pos c13] at H
    have c13b0 : (t142 == 0) = true := beq_iff_eq.mpr c13
    have c13b1 : (t142 != 0) = false := bne_eq_false_iff_eq.mpr c13
    clear c13
    (first | rw [c13b0] | (simp only [i64_w, i32_w]; rw [c13b0]) | skip)
    replace H := Option.bind_eq_some_iff.mp H
    obtain ⟨t143, A140, H⟩ := H
    replace H : (if t143 = 0 then ((turn_Check.f k a2_0 a2_1).bind fun t144 => (if t144 = 0 then (if a3 < 0 then (slackwaterlaw08_TurnGroup.j0 k a3 true a0_0 a0_1 a1_0 a1_1 a2_0 a2_1) else (slackwaterlaw08_TurnGroup.j0 k a3 (decide (a3 > 20)) a0_0 a0_1 a1_0 a1_1 a2_0 a2_1)) else (slackwaterlaw08_TurnGroup.j0 k a3 true a0_0 a0_1 a1_0 a1_1 a2_0 a2_1))) else (slackwaterlaw08_TurnGroup.j0 k a3 true a0_0 a0_1 a1_0 a1_1 a2_0 a2_1)) = some r := H
    have A14 := Aside0.mk A140
    clear A140
    by_cases c15 : t143 = 0
    ·
     rw [if_pos c15] at H
     have c15b0 : (t143 == 0) = true := beq_iff_eq.mpr c15
     have c15b1 : (t143 != 0) = false := bne_eq_false_iff_eq.mpr c15
     clear c15
     replace H := Option.bind_eq_some_iff.mp H
     obtain ⟨t144, A160, H⟩ := H
     replace H : (if t144 = 0 then (if a3 < 0 then (slackwaterlaw08_TurnGroup.j0 k a3 true a0_0 a0_1 a1_0 a1_1 a2_0 a2_1) else (slackwaterlaw08_TurnGroup.j0 k a3 (decide (a3 > 20)) a0_0 a0_1 a1_0 a1_1 a2_0 a2_1)) else (slackwaterlaw08_TurnGroup.j0 k a3 true a0_0 a0_1 a1_0 a1_1 a2_0 a2_1)) = some r := H
     have A16 := Aside0.mk A160
     clear A160
     by_cases c17 : t144 = 0
     ·
      rw [if_pos c17] at H
      have c17b0 : (t144 == 0) = true := beq_iff_eq.mpr c17
      have c17b1 : (t144 != 0) = false := bne_eq_false_iff_eq.mpr c17
      clear c17
      by_cases c18 : a3 < 0
      ·
       rw [if_pos c18] at H
       have c18b0 : decide (a3 < 0) = true := decide_eq_true c18
       clear c18
       have H' := Aside0.mk H
       clear H
       have hnb19 := NB138_139.out
       have hnc19 := NB139_138.out
       have hnb20 := NB138_140.out
       have hnc20 := NB140_138.out
       have hcz21_0 : w11.cell? ⟨gb138, 0, none⟩ = some (.int .i64 a0_0) := (bC BK138.out 0).trans rfl
       have hcz21_1 : w11.cell? ⟨gb138, 1, none⟩ = some (.int .i64 a0_1) := (bC BK138.out 1).trans rfl
       have hfz21_0 := bZ BK138.out 0
       have hfz21_1 := bZ BK138.out 1
       go_wp2_with (first | ((with_reducible refine gC (f := 10) rfl ?_); refine goesL_ (some 32) rfl rfl Try.func10 (by kernel_rfl) rfl #[.agg #[.int .i64 a0_0, .int .i64 a0_1]] rfl (by (try simp only [List.map_toArray, List.map_cons, List.map_nil]); first | done | rfl | (simp only [List.length_drop, List.length_take]; rfl)) ?_; (with_reducible refine (turn_Check.calls k a0_0 a0_1 t142 _ A12.out).mono ?_); rintro e w22 ⟨rfl, hb⟩; refine ⟨_, rfl, ?_⟩; have n0_ := aZ (bB (g := gb138) (o := .cells #[.int .i64 a0_0, .int .i64 a0_1] 23 (0, 0)) (by (with_reducible repeat (first | refine bN ?_ _ | refine bW ?_ | refine bA ?_ _)); exact BK138.out) hb); have n1_ := aZ (bB (g := gb139) (o := .cells #[.int .i64 a1_0, .int .i64 a1_1] 23 (0, 0)) (by (with_reducible repeat (first | refine bN ?_ _ | refine bW ?_ | refine bA ?_ _)); exact BK139.out) hb); have n2_ := aZ (bB (g := gb140) (o := .cells #[.int .i64 a2_0, .int .i64 a2_1] 23 (0, 0)) (by (with_reducible repeat (first | refine bN ?_ _ | refine bW ?_ | refine bA ?_ _)); exact BK140.out) hb); have n3_ := aZ (wP (by repeat (first | (with_reducible first | exact HB.out | apply wA | apply wN | apply wD | refine wS ?_ GE138.out | refine wS ?_ GE139.out | refine wS ?_ GE140.out) | exact HB.out)) hb); clear BK138; clear BK139; clear BK140; clear HB; have BK138 := n0_; have BK139 := n1_; have BK140 := n2_; have HB := n3_; clear n0_ n1_ n2_ n3_; (try clear hb); (try clear hb2); (try clear hk); (try clear hi); have hnb23 := NB139_140.out; have hnc23 := NB140_139.out; have hcz24_0 : w22.cell? ⟨gb139, 0, none⟩ = some (.int .i64 a1_0) := (bC BK139.out 0).trans rfl; have hcz24_1 : w22.cell? ⟨gb139, 1, none⟩ = some (.int .i64 a1_1) := (bC BK139.out 1).trans rfl; have hfz24_0 := bZ BK139.out 0; have hfz24_1 := bZ BK139.out 1) | (go_at_call 10; (with_reducible refine (turn_Check.calls k a1_0 a1_1 t143 _ A14.out).mono ?_); rintro e w25 ⟨rfl, hb⟩; have n0_ := aZ (bB (g := gb138) (o := .cells #[.int .i64 a0_0, .int .i64 a0_1] 23 (0, 0)) (by (with_reducible repeat (first | refine bN ?_ _ | refine bW ?_ | refine bA ?_ _)); exact BK138.out) hb); have n1_ := aZ (bB (g := gb139) (o := .cells #[.int .i64 a1_0, .int .i64 a1_1] 23 (0, 0)) (by (with_reducible repeat (first | refine bN ?_ _ | refine bW ?_ | refine bA ?_ _)); exact BK139.out) hb); have n2_ := aZ (bB (g := gb140) (o := .cells #[.int .i64 a2_0, .int .i64 a2_1] 23 (0, 0)) (by (with_reducible repeat (first | refine bN ?_ _ | refine bW ?_ | refine bA ?_ _)); exact BK140.out) hb); have n3_ := aZ (wP (by repeat (first | (with_reducible first | exact HB.out | apply wA | apply wN | apply wD | refine wS ?_ GE138.out | refine wS ?_ GE139.out | refine wS ?_ GE140.out) | exact HB.out)) hb); clear BK138; clear BK139; clear BK140; clear HB; have BK138 := n0_; have BK139 := n1_; have BK140 := n2_; have HB := n3_; clear n0_ n1_ n2_ n3_; (try clear hb); (try clear hb2); (try clear hk); (try clear hi); have hcz26_0 : w25.cell? ⟨gb140, 0, none⟩ = some (.int .i64 a2_0) := (bC BK140.out 0).trans rfl; have hcz26_1 : w25.cell? ⟨gb140, 1, none⟩ = some (.int .i64 a2_1) := (bC BK140.out 1).trans rfl; have hfz26_0 := bZ BK140.out 0; have hfz26_1 := bZ BK140.out 1) | (go_at_call 10; (with_reducible refine (turn_Check.calls k a2_0 a2_1 t144 _ A16.out).mono ?_); rintro e w27 ⟨rfl, hb⟩; have n0_ := aZ (bB (g := gb138) (o := .cells #[.int .i64 a0_0, .int .i64 a0_1] 23 (0, 0)) (by (with_reducible repeat (first | refine bN ?_ _ | refine bW ?_ | refine bA ?_ _)); exact BK138.out) hb); have n1_ := aZ (bB (g := gb139) (o := .cells #[.int .i64 a1_0, .int .i64 a1_1] 23 (0, 0)) (by (with_reducible repeat (first | refine bN ?_ _ | refine bW ?_ | refine bA ?_ _)); exact BK139.out) hb); have n2_ := aZ (bB (g := gb140) (o := .cells #[.int .i64 a2_0, .int .i64 a2_1] 23 (0, 0)) (by (with_reducible repeat (first | refine bN ?_ _ | refine bW ?_ | refine bA ?_ _)); exact BK140.out) hb); have n3_ := aZ (wP (by repeat (first | (with_reducible first | exact HB.out | apply wA | apply wN | apply wD | refine wS ?_ GE138.out | refine wS ?_ GE139.out | refine wS ?_ GE140.out) | exact HB.out)) hb); clear BK138; clear BK139; clear BK140; clear HB; have BK138 := n0_; have BK139 := n1_; have BK140 := n2_; have HB := n3_; clear n0_ n1_ n2_ n3_; (try clear hb); (try clear hb2); (try clear hk); (try clear hi)))
       go_meet
       case rel => exact ⟨_, (true), (by first | rfl | (simp; done) | (simp [*]; done)), H', ⟨by first | omega | exact Nat.le_refl _⟩, ⟨by (with_reducible repeat (first | refine bN ?_ _ | refine bW ?_ | refine bA ?_ _)); exact BK138.out⟩, ⟨by (with_reducible repeat (first | refine bN ?_ _ | refine bW ?_ | refine bA ?_ _)); exact BK139.out⟩, ⟨by (with_reducible repeat (first | refine bN ?_ _ | refine bW ?_ | refine bA ?_ _)); exact BK140.out⟩, ⟨by repeat (first | (with_reducible first | exact HB.out | apply wA | apply wN | apply wD | refine wS ?_ GE138.out | refine wS ?_ GE139.out | refine wS ?_ GE140.out) | exact HB.out)⟩⟩
      rw [if_neg c18] at H
      have c18b0 : decide (a3 < 0) = false := decide_eq_false c18
      clear c18
      have H' := Aside0.mk H
      clear H
      have hnb28 := NB138_139.out
      have hnc28 := NB139_138.out
      have hnb29 := NB138_140.out
      have hnc29 := NB140_138.out
      have hcz30_0 : w11.cell? ⟨gb138, 0, none⟩ = some (.int .i64 a0_0) := (bC BK138.out 0).trans rfl
      have hcz30_1 : w11.cell? ⟨gb138, 1, none⟩ = some (.int .i64 a0_1) := (bC BK138.out 1).trans rfl
      have hfz30_0 := bZ BK138.out 0
      have hfz30_1 := bZ BK138.out 1
      go_wp2_with (first | ((with_reducible refine gC (f := 10) rfl ?_); refine goesL_ (some 32) rfl rfl Try.func10 (by kernel_rfl) rfl #[.agg #[.int .i64 a0_0, .int .i64 a0_1]] rfl (by (try simp only [List.map_toArray, List.map_cons, List.map_nil]); first | done | rfl | (simp only [List.length_drop, List.length_take]; rfl)) ?_; (with_reducible refine (turn_Check.calls k a0_0 a0_1 t142 _ A12.out).mono ?_); rintro e w31 ⟨rfl, hb⟩; refine ⟨_, rfl, ?_⟩; have n0_ := aZ (bB (g := gb138) (o := .cells #[.int .i64 a0_0, .int .i64 a0_1] 23 (0, 0)) (by (with_reducible repeat (first | refine bN ?_ _ | refine bW ?_ | refine bA ?_ _)); exact BK138.out) hb); have n1_ := aZ (bB (g := gb139) (o := .cells #[.int .i64 a1_0, .int .i64 a1_1] 23 (0, 0)) (by (with_reducible repeat (first | refine bN ?_ _ | refine bW ?_ | refine bA ?_ _)); exact BK139.out) hb); have n2_ := aZ (bB (g := gb140) (o := .cells #[.int .i64 a2_0, .int .i64 a2_1] 23 (0, 0)) (by (with_reducible repeat (first | refine bN ?_ _ | refine bW ?_ | refine bA ?_ _)); exact BK140.out) hb); have n3_ := aZ (wP (by repeat (first | (with_reducible first | exact HB.out | apply wA | apply wN | apply wD | refine wS ?_ GE138.out | refine wS ?_ GE139.out | refine wS ?_ GE140.out) | exact HB.out)) hb); clear BK138; clear BK139; clear BK140; clear HB; have BK138 := n0_; have BK139 := n1_; have BK140 := n2_; have HB := n3_; clear n0_ n1_ n2_ n3_; (try clear hb); (try clear hb2); (try clear hk); (try clear hi); have hnb32 := NB139_140.out; have hnc32 := NB140_139.out; have hcz33_0 : w31.cell? ⟨gb139, 0, none⟩ = some (.int .i64 a1_0) := (bC BK139.out 0).trans rfl; have hcz33_1 : w31.cell? ⟨gb139, 1, none⟩ = some (.int .i64 a1_1) := (bC BK139.out 1).trans rfl; have hfz33_0 := bZ BK139.out 0; have hfz33_1 := bZ BK139.out 1) | (go_at_call 10; (with_reducible refine (turn_Check.calls k a1_0 a1_1 t143 _ A14.out).mono ?_); rintro e w34 ⟨rfl, hb⟩; have n0_ := aZ (bB (g := gb138) (o := .cells #[.int .i64 a0_0, .int .i64 a0_1] 23 (0, 0)) (by (with_reducible repeat (first | refine bN ?_ _ | refine bW ?_ | refine bA ?_ _)); exact BK138.out) hb); have n1_ := aZ (bB (g := gb139) (o := .cells #[.int .i64 a1_0, .int .i64 a1_1] 23 (0, 0)) (by (with_reducible repeat (first | refine bN ?_ _ | refine bW ?_ | refine bA ?_ _)); exact BK139.out) hb); have n2_ := aZ (bB (g := gb140) (o := .cells #[.int .i64 a2_0, .int .i64 a2_1] 23 (0, 0)) (by (with_reducible repeat (first | refine bN ?_ _ | refine bW ?_ | refine bA ?_ _)); exact BK140.out) hb); have n3_ := aZ (wP (by repeat (first | (with_reducible first | exact HB.out | apply wA | apply wN | apply wD | refine wS ?_ GE138.out | refine wS ?_ GE139.out | refine wS ?_ GE140.out) | exact HB.out)) hb); clear BK138; clear BK139; clear BK140; clear HB; have BK138 := n0_; have BK139 := n1_; have BK140 := n2_; have HB := n3_; clear n0_ n1_ n2_ n3_; (try clear hb); (try clear hb2); (try clear hk); (try clear hi); have hcz35_0 : w34.cell? ⟨gb140, 0, none⟩ = some (.int .i64 a2_0) := (bC BK140.out 0).trans rfl; have hcz35_1 : w34.cell? ⟨gb140, 1, none⟩ = some (.int .i64 a2_1) := (bC BK140.out 1).trans rfl; have hfz35_0 := bZ BK140.out 0; have hfz35_1 := bZ BK140.out 1) | (go_at_call 10; (with_reducible refine (turn_Check.calls k a2_0 a2_1 t144 _ A16.out).mono ?_); rintro e w36 ⟨rfl, hb⟩; have n0_ := aZ (bB (g := gb138) (o := .cells #[.int .i64 a0_0, .int .i64 a0_1] 23 (0, 0)) (by (with_reducible repeat (first | refine bN ?_ _ | refine bW ?_ | refine bA ?_ _)); exact BK138.out) hb); have n1_ := aZ (bB (g := gb139) (o := .cells #[.int .i64 a1_0, .int .i64 a1_1] 23 (0, 0)) (by (with_reducible repeat (first | refine bN ?_ _ | refine bW ?_ | refine bA ?_ _)); exact BK139.out) hb); have n2_ := aZ (bB (g := gb140) (o := .cells #[.int .i64 a2_0, .int .i64 a2_1] 23 (0, 0)) (by (with_reducible repeat (first | refine bN ?_ _ | refine bW ?_ | refine bA ?_ _)); exact BK140.out) hb); have n3_ := aZ (wP (by repeat (first | (with_reducible first | exact HB.out | apply wA | apply wN | apply wD | refine wS ?_ GE138.out | refine wS ?_ GE139.out | refine wS ?_ GE140.out) | exact HB.out)) hb); clear BK138; clear BK139; clear BK140; clear HB; have BK138 := n0_; have BK139 := n1_; have BK140 := n2_; have HB := n3_; clear n0_ n1_ n2_ n3_; (try clear hb); (try clear hb2); (try clear hk); (try clear hi)))
      go_meet
      case rel => exact ⟨_, (decide (a3 > 20)), (by first | rfl | (simp; done) | (simp [*]; done)), H', ⟨by first | omega | exact Nat.le_refl _⟩, ⟨by (with_reducible repeat (first | refine bN ?_ _ | refine bW ?_ | refine bA ?_ _)); exact BK138.out⟩, ⟨by (with_reducible repeat (first | refine bN ?_ _ | refine bW ?_ | refine bA ?_ _)); exact BK139.out⟩, ⟨by (with_reducible repeat (first | refine bN ?_ _ | refine bW ?_ | refine bA ?_ _)); exact BK140.out⟩, ⟨by repeat (first | (with_reducible first | exact HB.out | apply wA | apply wN | apply wD | refine wS ?_ GE138.out | refine wS ?_ GE139.out | refine wS ?_ GE140.out) | exact HB.out)⟩⟩
     rw [if_neg c17] at H
     have c17b0 : (t144 == 0) = false := beq_eq_false_iff_ne.mpr c17
     have c17b1 : (t144 != 0) = true := bne_iff_ne.mpr c17
     have H' := Aside0.mk H
     clear H
     have hnb37 := NB138_139.out
     have hnc37 := NB139_138.out
     have hnb38 := NB138_140.out
     have hnc38 := NB140_138.out
     have hcz39_0 : w11.cell? ⟨gb138, 0, none⟩ = some (.int .i64 a0_0) := (bC BK138.out 0).trans rfl
     have hcz39_1 : w11.cell? ⟨gb138, 1, none⟩ = some (.int .i64 a0_1) := (bC BK138.out 1).trans rfl
     have hfz39_0 := bZ BK138.out 0
     have hfz39_1 := bZ BK138.out 1
     go_wp2_with (first | ((with_reducible refine gC (f := 10) rfl ?_); refine goesL_ (some 32) rfl rfl Try.func10 (by kernel_rfl) rfl #[.agg #[.int .i64 a0_0, .int .i64 a0_1]] rfl (by (try simp only [List.map_toArray, List.map_cons, List.map_nil]); first | done | rfl | (simp only [List.length_drop, List.length_take]; rfl)) ?_; (with_reducible refine (turn_Check.calls k a0_0 a0_1 t142 _ A12.out).mono ?_); rintro e w40 ⟨rfl, hb⟩; refine ⟨_, rfl, ?_⟩; have n0_ := aZ (bB (g := gb138) (o := .cells #[.int .i64 a0_0, .int .i64 a0_1] 23 (0, 0)) (by (with_reducible repeat (first | refine bN ?_ _ | refine bW ?_ | refine bA ?_ _)); exact BK138.out) hb); have n1_ := aZ (bB (g := gb139) (o := .cells #[.int .i64 a1_0, .int .i64 a1_1] 23 (0, 0)) (by (with_reducible repeat (first | refine bN ?_ _ | refine bW ?_ | refine bA ?_ _)); exact BK139.out) hb); have n2_ := aZ (bB (g := gb140) (o := .cells #[.int .i64 a2_0, .int .i64 a2_1] 23 (0, 0)) (by (with_reducible repeat (first | refine bN ?_ _ | refine bW ?_ | refine bA ?_ _)); exact BK140.out) hb); have n3_ := aZ (wP (by repeat (first | (with_reducible first | exact HB.out | apply wA | apply wN | apply wD | refine wS ?_ GE138.out | refine wS ?_ GE139.out | refine wS ?_ GE140.out) | exact HB.out)) hb); clear BK138; clear BK139; clear BK140; clear HB; have BK138 := n0_; have BK139 := n1_; have BK140 := n2_; have HB := n3_; clear n0_ n1_ n2_ n3_; (try clear hb); (try clear hb2); (try clear hk); (try clear hi); have hnb41 := NB139_140.out; have hnc41 := NB140_139.out; have hcz42_0 : w40.cell? ⟨gb139, 0, none⟩ = some (.int .i64 a1_0) := (bC BK139.out 0).trans rfl; have hcz42_1 : w40.cell? ⟨gb139, 1, none⟩ = some (.int .i64 a1_1) := (bC BK139.out 1).trans rfl; have hfz42_0 := bZ BK139.out 0; have hfz42_1 := bZ BK139.out 1) | (go_at_call 10; (with_reducible refine (turn_Check.calls k a1_0 a1_1 t143 _ A14.out).mono ?_); rintro e w43 ⟨rfl, hb⟩; have n0_ := aZ (bB (g := gb138) (o := .cells #[.int .i64 a0_0, .int .i64 a0_1] 23 (0, 0)) (by (with_reducible repeat (first | refine bN ?_ _ | refine bW ?_ | refine bA ?_ _)); exact BK138.out) hb); have n1_ := aZ (bB (g := gb139) (o := .cells #[.int .i64 a1_0, .int .i64 a1_1] 23 (0, 0)) (by (with_reducible repeat (first | refine bN ?_ _ | refine bW ?_ | refine bA ?_ _)); exact BK139.out) hb); have n2_ := aZ (bB (g := gb140) (o := .cells #[.int .i64 a2_0, .int .i64 a2_1] 23 (0, 0)) (by (with_reducible repeat (first | refine bN ?_ _ | refine bW ?_ | refine bA ?_ _)); exact BK140.out) hb); have n3_ := aZ (wP (by repeat (first | (with_reducible first | exact HB.out | apply wA | apply wN | apply wD | refine wS ?_ GE138.out | refine wS ?_ GE139.out | refine wS ?_ GE140.out) | exact HB.out)) hb); clear BK138; clear BK139; clear BK140; clear HB; have BK138 := n0_; have BK139 := n1_; have BK140 := n2_; have HB := n3_; clear n0_ n1_ n2_ n3_; (try clear hb); (try clear hb2); (try clear hk); (try clear hi); have hcz44_0 : w43.cell? ⟨gb140, 0, none⟩ = some (.int .i64 a2_0) := (bC BK140.out 0).trans rfl; have hcz44_1 : w43.cell? ⟨gb140, 1, none⟩ = some (.int .i64 a2_1) := (bC BK140.out 1).trans rfl; have hfz44_0 := bZ BK140.out 0; have hfz44_1 := bZ BK140.out 1) | (go_at_call 10; (with_reducible refine (turn_Check.calls k a2_0 a2_1 t144 _ A16.out).mono ?_); rintro e w45 ⟨rfl, hb⟩; have n0_ := aZ (bB (g := gb138) (o := .cells #[.int .i64 a0_0, .int .i64 a0_1] 23 (0, 0)) (by (with_reducible repeat (first | refine bN ?_ _ | refine bW ?_ | refine bA ?_ _)); exact BK138.out) hb); have n1_ := aZ (bB (g := gb139) (o := .cells #[.int .i64 a1_0, .int .i64 a1_1] 23 (0, 0)) (by (with_reducible repeat (first | refine bN ?_ _ | refine bW ?_ | refine bA ?_ _)); exact BK139.out) hb); have n2_ := aZ (bB (g := gb140) (o := .cells #[.int .i64 a2_0, .int .i64 a2_1] 23 (0, 0)) (by (with_reducible repeat (first | refine bN ?_ _ | refine bW ?_ | refine bA ?_ _)); exact BK140.out) hb); have n3_ := aZ (wP (by repeat (first | (with_reducible first | exact HB.out | apply wA | apply wN | apply wD | refine wS ?_ GE138.out | refine wS ?_ GE139.out | refine wS ?_ GE140.out) | exact HB.out)) hb); clear BK138; clear BK139; clear BK140; clear HB; have BK138 := n0_; have BK139 := n1_; have BK140 := n2_; have HB := n3_; clear n0_ n1_ n2_ n3_; (try clear hb); (try clear hb2); (try clear hk); (try clear hi)))
     go_meet
     case rel => exact ⟨_, (true), (by first | rfl | (simp; done) | (simp [*]; done)), H', ⟨by first | omega | exact Nat.le_refl _⟩, ⟨by (with_reducible repeat (first | refine bN ?_ _ | refine bW ?_ | refine bA ?_ _)); exact BK138.out⟩, ⟨by (with_reducible repeat (first | refine bN ?_ _ | refine bW ?_ | refine bA ?_ _)); exact BK139.out⟩, ⟨by (with_reducible repeat (first | refine bN ?_ _ | refine bW ?_ | refine bA ?_ _)); exact BK140.out⟩, ⟨by repeat (first | (with_reducible first | exact HB.out | apply wA | apply wN | apply wD | refine wS ?_ GE138.out | refine wS ?_ GE139.out | refine wS ?_ GE140.out) | exact HB.out)⟩⟩
    rw [if_neg c15] at H
    have c15b0 : (t143 == 0) = false := beq_eq_false_iff_ne.mpr c15
    have c15b1 : (t143 != 0) = true := bne_iff_ne.mpr c15
    have H' := Aside0.mk H
    clear H
    have hnb46 := NB138_139.out
    have hnc46 := NB139_138.out
    have hnb47 := NB138_140.out
    have hnc47 := NB140_138.out
    have hcz48_0 : w11.cell? ⟨gb138, 0, none⟩ = some (.int .i64 a0_0) := (bC BK138.out 0).trans rfl
    have hcz48_1 : w11.cell? ⟨gb138, 1, none⟩ = some (.int .i64 a0_1) := (bC BK138.out 1).trans rfl
    have hfz48_0 := bZ BK138.out 0
    have hfz48_1 := bZ BK138.out 1
    go_wp2_with (first | ((with_reducible refine gC (f := 10) rfl ?_); refine goesL_ (some 32) rfl rfl Try.func10 (by kernel_rfl) rfl #[.agg #[.int .i64 a0_0, .int .i64 a0_1]] rfl (by (try simp only [List.map_toArray, List.map_cons, List.map_nil]); first | done | rfl | (simp only [List.length_drop, List.length_take]; rfl)) ?_; (with_reducible refine (turn_Check.calls k a0_0 a0_1 t142 _ A12.out).mono ?_); rintro e w49 ⟨rfl, hb⟩; refine ⟨_, rfl, ?_⟩; have n0_ := aZ (bB (g := gb138) (o := .cells #[.int .i64 a0_0, .int .i64 a0_1] 23 (0, 0)) (by (with_reducible repeat (first | refine bN ?_ _ | refine bW ?_ | refine bA ?_ _)); exact BK138.out) hb); have n1_ := aZ (bB (g := gb139) (o := .cells #[.int .i64 a1_0, .int .i64 a1_1] 23 (0, 0)) (by (with_reducible repeat (first | refine bN ?_ _ | refine bW ?_ | refine bA ?_ _)); exact BK139.out) hb); have n2_ := aZ (bB (g := gb140) (o := .cells #[.int .i64 a2_0, .int .i64 a2_1] 23 (0, 0)) (by (with_reducible repeat (first | refine bN ?_ _ | refine bW ?_ | refine bA ?_ _)); exact BK140.out) hb); have n3_ := aZ (wP (by repeat (first | (with_reducible first | exact HB.out | apply wA | apply wN | apply wD | refine wS ?_ GE138.out | refine wS ?_ GE139.out | refine wS ?_ GE140.out) | exact HB.out)) hb); clear BK138; clear BK139; clear BK140; clear HB; have BK138 := n0_; have BK139 := n1_; have BK140 := n2_; have HB := n3_; clear n0_ n1_ n2_ n3_; (try clear hb); (try clear hb2); (try clear hk); (try clear hi); have hnb50 := NB139_140.out; have hnc50 := NB140_139.out; have hcz51_0 : w49.cell? ⟨gb139, 0, none⟩ = some (.int .i64 a1_0) := (bC BK139.out 0).trans rfl; have hcz51_1 : w49.cell? ⟨gb139, 1, none⟩ = some (.int .i64 a1_1) := (bC BK139.out 1).trans rfl; have hfz51_0 := bZ BK139.out 0; have hfz51_1 := bZ BK139.out 1) | (go_at_call 10; (with_reducible refine (turn_Check.calls k a1_0 a1_1 t143 _ A14.out).mono ?_); rintro e w52 ⟨rfl, hb⟩; have n0_ := aZ (bB (g := gb138) (o := .cells #[.int .i64 a0_0, .int .i64 a0_1] 23 (0, 0)) (by (with_reducible repeat (first | refine bN ?_ _ | refine bW ?_ | refine bA ?_ _)); exact BK138.out) hb); have n1_ := aZ (bB (g := gb139) (o := .cells #[.int .i64 a1_0, .int .i64 a1_1] 23 (0, 0)) (by (with_reducible repeat (first | refine bN ?_ _ | refine bW ?_ | refine bA ?_ _)); exact BK139.out) hb); have n2_ := aZ (bB (g := gb140) (o := .cells #[.int .i64 a2_0, .int .i64 a2_1] 23 (0, 0)) (by (with_reducible repeat (first | refine bN ?_ _ | refine bW ?_ | refine bA ?_ _)); exact BK140.out) hb); have n3_ := aZ (wP (by repeat (first | (with_reducible first | exact HB.out | apply wA | apply wN | apply wD | refine wS ?_ GE138.out | refine wS ?_ GE139.out | refine wS ?_ GE140.out) | exact HB.out)) hb); clear BK138; clear BK139; clear BK140; clear HB; have BK138 := n0_; have BK139 := n1_; have BK140 := n2_; have HB := n3_; clear n0_ n1_ n2_ n3_; (try clear hb); (try clear hb2); (try clear hk); (try clear hi)))
    go_meet
    case rel => exact ⟨_, (true), (by first | rfl | (simp; done) | (simp [*]; done)), H', ⟨by first | omega | exact Nat.le_refl _⟩, ⟨by (with_reducible repeat (first | refine bN ?_ _ | refine bW ?_ | refine bA ?_ _)); exact BK138.out⟩, ⟨by (with_reducible repeat (first | refine bN ?_ _ | refine bW ?_ | refine bA ?_ _)); exact BK139.out⟩, ⟨by (with_reducible repeat (first | refine bN ?_ _ | refine bW ?_ | refine bA ?_ _)); exact BK140.out⟩, ⟨by repeat (first | (with_reducible first | exact HB.out | apply wA | apply wN | apply wD | refine wS ?_ GE138.out | refine wS ?_ GE139.out | refine wS ?_ GE140.out) | exact HB.out)⟩⟩
   rw [if_neg c13] at H
   have c13b0 : (t142 == 0) = false := beq_eq_false_iff_ne.mpr c13
   have c13b1 : (t142 != 0) = true := bne_iff_ne.mpr c13
   (first | rw [c13b0] | (simp only [i64_w, i32_w]; rw [c13b0]) | skip)
   have H' := Aside0.mk H
   clear H
   have hnb53 := NB138_139.out
   have hnc53 := NB139_138.out
   have hnb54 := NB138_140.out
   have hnc54 := NB140_138.out
   have hcz55_0 : w11.cell? ⟨gb138, 0, none⟩ = some (.int .i64 a0_0) := (bC BK138.out 0).trans rfl
   have hcz55_1 : w11.cell? ⟨gb138, 1, none⟩ = some (.int .i64 a0_1) := (bC BK138.out 1).trans rfl
   have hfz55_0 := bZ BK138.out 0
   have hfz55_1 := bZ BK138.out 1
   go_wp2_with (first | ((with_reducible refine gC (f := 10) rfl ?_); refine goesL_ (some 32) rfl rfl Try.func10 (by kernel_rfl) rfl #[.agg #[.int .i64 a0_0, .int .i64 a0_1]] rfl (by (try simp only [List.map_toArray, List.map_cons, List.map_nil]); first | done | rfl | (simp only [List.length_drop, List.length_take]; rfl)) ?_; (with_reducible refine (turn_Check.calls k a0_0 a0_1 t142 _ A12.out).mono ?_); rintro e w56 ⟨rfl, hb⟩; refine ⟨_, rfl, ?_⟩; have n0_ := aZ (bB (g := gb138) (o := .cells #[.int .i64 a0_0, .int .i64 a0_1] 23 (0, 0)) (by (with_reducible repeat (first | refine bN ?_ _ | refine bW ?_ | refine bA ?_ _)); exact BK138.out) hb); have n1_ := aZ (bB (g := gb139) (o := .cells #[.int .i64 a1_0, .int .i64 a1_1] 23 (0, 0)) (by (with_reducible repeat (first | refine bN ?_ _ | refine bW ?_ | refine bA ?_ _)); exact BK139.out) hb); have n2_ := aZ (bB (g := gb140) (o := .cells #[.int .i64 a2_0, .int .i64 a2_1] 23 (0, 0)) (by (with_reducible repeat (first | refine bN ?_ _ | refine bW ?_ | refine bA ?_ _)); exact BK140.out) hb); have n3_ := aZ (wP (by repeat (first | (with_reducible first | exact HB.out | apply wA | apply wN | apply wD | refine wS ?_ GE138.out | refine wS ?_ GE139.out | refine wS ?_ GE140.out) | exact HB.out)) hb); clear BK138; clear BK139; clear BK140; clear HB; have BK138 := n0_; have BK139 := n1_; have BK140 := n2_; have HB := n3_; clear n0_ n1_ n2_ n3_; (try clear hb); (try clear hb2); (try clear hk); (try clear hi)))
   go_meet
   case rel => exact ⟨_, (true), (by first | rfl | (simp; done) | (simp [*]; done)), H', ⟨by first | omega | exact Nat.le_refl _⟩, ⟨by (with_reducible repeat (first | refine bN ?_ _ | refine bW ?_ | refine bA ?_ _)); exact BK138.out⟩, ⟨by (with_reducible repeat (first | refine bN ?_ _ | refine bW ?_ | refine bA ?_ _)); exact BK139.out⟩, ⟨by (with_reducible repeat (first | refine bN ?_ _ | refine bW ?_ | refine bA ?_ _)); exact BK140.out⟩, ⟨by repeat (first | (with_reducible first | exact HB.out | apply wA | apply wN | apply wD | refine wS ?_ GE138.out | refine wS ?_ GE139.out | refine wS ?_ GE140.out) | exact HB.out)⟩⟩
  case' rest => skip
  clear HC7
  try clear c1
  try clear c2
  try clear p2
  try clear c3
  try clear c4
  try clear c5
  try clear c6
  try clear c10
  try clear c13
  try clear c13b0
  try clear c13b1
  try clear c15
  try clear c15b0
  try clear c15b1
  try clear c17
  try clear c17b0
  try clear c17b1
  try clear c18
  try clear c18b0
  try clear c19
  try clear c20
  try clear c23
  try clear c28
  try clear c29
  try clear c32
  try clear c37
  try clear c38
  try clear c41
  try clear c46
  try clear c47
  try clear c50
  try clear c53
  try clear c54
  try clear hcz21_0
  try clear hcz21_1
  try clear hcz24_0
  try clear hcz24_1
  try clear hcz26_0
  try clear hcz26_1
  try clear hcz30_0
  try clear hcz30_1
  try clear hcz33_0
  try clear hcz33_1
  try clear hcz35_0
  try clear hcz35_1
  try clear hcz39_0
  try clear hcz39_1
  try clear hcz42_0
  try clear hcz42_1
  try clear hcz44_0
  try clear hcz44_1
  try clear hcz48_0
  try clear hcz48_1
  try clear hcz51_0
  try clear hcz51_1
  try clear hcz55_0
  try clear hcz55_1
  try clear hfz21_0
  try clear hfz21_1
  try clear hfz24_0
  try clear hfz24_1
  try clear hfz26_0
  try clear hfz26_1
  try clear hfz30_0
  try clear hfz30_1
  try clear hfz33_0
  try clear hfz33_1
  try clear hfz35_0
  try clear hfz35_1
  try clear hfz39_0
  try clear hfz39_1
  try clear hfz42_0
  try clear hfz42_1
  try clear hfz44_0
  try clear hfz44_1
  try clear hfz48_0
  try clear hfz48_1
  try clear hfz51_0
  try clear hfz51_1
  try clear hfz55_0
  try clear hfz55_1
  obtain ⟨kq, x51_6, rfl, HA, HJ6, BK138, BK139, BK140, HB⟩ := hcut
  cases kq with
  | zero => exact absurd HA.out (by simp [slackwaterlaw08_TurnGroup.j0])
  | succ kj6 =>
   have H := HA.out
   clear HA
   simp only [slackwaterlaw08_TurnGroup.j0] at H
   by_cases c57 : x51_6 = true
   ·
    subst c57
    have H1 : (some true) = some r := by rw [if_pos rfl] at H; exact H
    clear H
    have H := H1
    clear H1
    obtain rfl := Option.some.inj H
    go_wp2
    go_ret
    exact ⟨by first | rfl | (simp [errW_none, errW_some] <;> rfl) | (simp [*, errW_none, errW_some] <;> rfl), by repeat (first | (with_reducible first | exact HB.out | apply wA | apply wN | apply wD | refine wS ?_ GE138.out | refine wS ?_ GE139.out | refine wS ?_ GE140.out) | exact HB.out)⟩
   replace c57 := Bool.eq_false_iff.mpr c57
   subst c57
   have H1 : ((slackwaterlaw08_add.f kj6 a0_0 a0_1 a1_0 a1_1).bind fun bt145 => ((slackwaterlaw08_add.f kj6 a1_0 a1_1 a0_0 a0_1).bind fun bt149 => ((slackwaterlaw08_add.f kj6 a1_0 a1_1 a2_0 a2_1).bind fun bt153 => (if (bt145.2.2 != bt149.2.2) = true then (none) else (if (!(bt145.1 == bt149.1) || (!(bt145.2.1 == bt149.2.1))) = true then (none) else (if bt145.2.2 = true then ((turn_Check.f kj6 bt145.1 bt145.2.1).bind fun t157 => (slackwaterlaw08_TurnGroup.j1 kj6 a3 bt145.2.2 bt153.2.2 (t157 != 0) a0_0 a0_1 a1_0 a1_1 a2_0 a2_1 bt145.1 bt145.2.1 bt153.1 bt153.2.1)) else (slackwaterlaw08_TurnGroup.j1 kj6 a3 bt145.2.2 bt153.2.2 false a0_0 a0_1 a1_0 a1_1 a2_0 a2_1 bt145.1 bt145.2.1 bt153.1 bt153.2.1))))))) = some r := by rw [if_neg (show ¬ (false = true) by decide)] at H; exact H
   clear H
   have H := H1
   clear H1
   replace H := Option.bind_eq_some_iff.mp H
   obtain ⟨⟨t145, t146, t147⟩, A580, H⟩ := H
   replace H : ((slackwaterlaw08_add.f kj6 a1_0 a1_1 a0_0 a0_1).bind fun bt149 => ((slackwaterlaw08_add.f kj6 a1_0 a1_1 a2_0 a2_1).bind fun bt153 => (if (t147 != bt149.2.2) = true then (none) else (if (!(t145 == bt149.1) || (!(t146 == bt149.2.1))) = true then (none) else (if t147 = true then ((turn_Check.f kj6 t145 t146).bind fun t157 => (slackwaterlaw08_TurnGroup.j1 kj6 a3 t147 bt153.2.2 (t157 != 0) a0_0 a0_1 a1_0 a1_1 a2_0 a2_1 t145 t146 bt153.1 bt153.2.1)) else (slackwaterlaw08_TurnGroup.j1 kj6 a3 t147 bt153.2.2 false a0_0 a0_1 a1_0 a1_1 a2_0 a2_1 t145 t146 bt153.1 bt153.2.1)))))) = some r := H
   have A58 := Aside0.mk A580
   clear A580
   replace H := Option.bind_eq_some_iff.mp H
   obtain ⟨⟨t149, t150, t151⟩, A590, H⟩ := H
   replace H : ((slackwaterlaw08_add.f kj6 a1_0 a1_1 a2_0 a2_1).bind fun bt153 => (if (t147 != t151) = true then (none) else (if (!(t145 == t149) || (!(t146 == t150))) = true then (none) else (if t147 = true then ((turn_Check.f kj6 t145 t146).bind fun t157 => (slackwaterlaw08_TurnGroup.j1 kj6 a3 t147 bt153.2.2 (t157 != 0) a0_0 a0_1 a1_0 a1_1 a2_0 a2_1 t145 t146 bt153.1 bt153.2.1)) else (slackwaterlaw08_TurnGroup.j1 kj6 a3 t147 bt153.2.2 false a0_0 a0_1 a1_0 a1_1 a2_0 a2_1 t145 t146 bt153.1 bt153.2.1))))) = some r := H
   have A59 := Aside0.mk A590
   clear A590
   replace H := Option.bind_eq_some_iff.mp H
   obtain ⟨⟨t153, t154, t155⟩, A600, H⟩ := H
   replace H : (if (t147 != t151) = true then (none) else (if (!(t145 == t149) || (!(t146 == t150))) = true then (none) else (if t147 = true then ((turn_Check.f kj6 t145 t146).bind fun t157 => (slackwaterlaw08_TurnGroup.j1 kj6 a3 t147 t155 (t157 != 0) a0_0 a0_1 a1_0 a1_1 a2_0 a2_1 t145 t146 t153 t154)) else (slackwaterlaw08_TurnGroup.j1 kj6 a3 t147 t155 false a0_0 a0_1 a1_0 a1_1 a2_0 a2_1 t145 t146 t153 t154)))) = some r := H
   have A60 := Aside0.mk A600
   clear A600
   have HC61 := Aside0.mk H
   clear H
   have hnb62 := NB138_139.out
   have hnc62 := NB139_138.out
   have hnb63 := NB138_140.out
   have hnc63 := NB140_138.out
   have hcz64_0 : wc.cell? ⟨gb138, 0, none⟩ = some (.int .i64 a0_0) := (bC BK138.out 0).trans rfl
   have hcz64_1 : wc.cell? ⟨gb138, 1, none⟩ = some (.int .i64 a0_1) := (bC BK138.out 1).trans rfl
   have hfz64_0 := bZ BK138.out 0
   have hfz64_1 := bZ BK138.out 1
   have hnb65 := NB139_140.out
   have hnc65 := NB140_139.out
   have hcz66_0 : wc.cell? ⟨gb139, 0, none⟩ = some (.int .i64 a1_0) := (bC BK139.out 0).trans rfl
   have hcz66_1 : wc.cell? ⟨gb139, 1, none⟩ = some (.int .i64 a1_1) := (bC BK139.out 1).trans rfl
   have hfz66_0 := bZ BK139.out 0
   have hfz66_1 := bZ BK139.out 1
   go_upto_region 8 with (first | ((with_reducible refine gC (f := 7) rfl ?_); refine goesL_ (some 55) rfl rfl Try.func7 (by kernel_rfl) rfl #[.agg #[.int .i64 a0_0, .int .i64 a0_1], .agg #[.int .i64 a1_0, .int .i64 a1_1]] rfl (by (try simp only [List.map_toArray, List.map_cons, List.map_nil]); first | done | rfl | (simp only [List.length_drop, List.length_take]; rfl)) ?_; (with_reducible refine (slackwaterlaw08_add.calls kj6 a0_0 a0_1 a1_0 a1_1 t145 t146 t147 _ A58.out).mono ?_); rintro e w67 ⟨rfl, hb⟩; refine ⟨_, rfl, ?_⟩; have n0_ := aZ (bB (g := gb138) (o := .cells #[.int .i64 a0_0, .int .i64 a0_1] 23 (0, 0)) (by (with_reducible repeat (first | refine bN ?_ _ | refine bW ?_ | refine bA ?_ _)); exact BK138.out) hb); have n1_ := aZ (bB (g := gb139) (o := .cells #[.int .i64 a1_0, .int .i64 a1_1] 23 (0, 0)) (by (with_reducible repeat (first | refine bN ?_ _ | refine bW ?_ | refine bA ?_ _)); exact BK139.out) hb); have n2_ := aZ (bB (g := gb140) (o := .cells #[.int .i64 a2_0, .int .i64 a2_1] 23 (0, 0)) (by (with_reducible repeat (first | refine bN ?_ _ | refine bW ?_ | refine bA ?_ _)); exact BK140.out) hb); have n3_ := aZ (wP (by repeat (first | (with_reducible first | exact HB.out | apply wA | apply wN | apply wD | refine wS ?_ GE138.out | refine wS ?_ GE139.out | refine wS ?_ GE140.out) | exact HB.out)) hb); clear BK138; clear BK139; clear BK140; clear HB; have BK138 := n0_; have BK139 := n1_; have BK140 := n2_; have HB := n3_; clear n0_ n1_ n2_ n3_; (try clear hb); (try clear hb2); (try clear hk); (try clear hi)) | ((with_reducible refine gD (N := 9) rfl ?_); refine gB ?hg (N := 9) ?hd (cs := #[.int .i64 0, .int .i64 0]) (t := 23) ?hr ?_; (case hd => rfl); (case hg => rfl); (case hr => first | (go_simp; done) | (go_simp; rfl)); intro gb148 hg w68 hbox hb; have n0_ := aZ (bB (g := gb138) (o := .cells #[.int .i64 a0_0, .int .i64 a0_1] 23 (0, 0)) (by (with_reducible repeat (first | refine bN ?_ _ | refine bW ?_ | refine bA ?_ _)); exact BK138.out) hb); have n1_ := aZ (bB (g := gb139) (o := .cells #[.int .i64 a1_0, .int .i64 a1_1] 23 (0, 0)) (by (with_reducible repeat (first | refine bN ?_ _ | refine bW ?_ | refine bA ?_ _)); exact BK139.out) hb); have n2_ := aZ (bB (g := gb140) (o := .cells #[.int .i64 a2_0, .int .i64 a2_1] 23 (0, 0)) (by (with_reducible repeat (first | refine bN ?_ _ | refine bW ?_ | refine bA ?_ _)); exact BK140.out) hb); have n3_ := aZ (wP (by repeat (first | (with_reducible first | exact HB.out | apply wA | apply wN | apply wD | refine wS ?_ GE138.out | refine wS ?_ GE139.out | refine wS ?_ GE140.out) | exact HB.out)) hb); have n4_ := aZ (hbox); have n5_ := aZ ((by rw [hg]; exact (wZ (by repeat (first | (with_reducible first | exact HB.out | apply wA | apply wN | apply wD | refine wS ?_ GE138.out | refine wS ?_ GE139.out | refine wS ?_ GE140.out) | exact HB.out))) : w.heap.size ≤ gb148)); have n6_ := aZ ((by rw [hg]; exact (wZ (by repeat (first | (with_reducible first | exact HB.out | apply wA | apply wN | apply wD | refine wS ?_ GE138.out | refine wS ?_ GE139.out | refine wS ?_ GE140.out) | exact HB.out))) : w.heap.size ≤ gb148)); have n7_ := aZ ((by rw [hg]; exact Nat.ne_of_lt (bL (g := gb138) (o := .cells #[.int .i64 a0_0, .int .i64 a0_1] 23 (0, 0)) (by (with_reducible repeat (first | refine bN ?_ _ | refine bW ?_ | refine bA ?_ _)); exact BK138.out)) : gb138 ≠ gb148)); have n8_ := aZ ((by rw [hg]; exact Nat.ne_of_gt (bL (g := gb138) (o := .cells #[.int .i64 a0_0, .int .i64 a0_1] 23 (0, 0)) (by (with_reducible repeat (first | refine bN ?_ _ | refine bW ?_ | refine bA ?_ _)); exact BK138.out)) : gb148 ≠ gb138)); have n9_ := aZ ((by rw [hg]; exact Nat.ne_of_lt (bL (g := gb139) (o := .cells #[.int .i64 a1_0, .int .i64 a1_1] 23 (0, 0)) (by (with_reducible repeat (first | refine bN ?_ _ | refine bW ?_ | refine bA ?_ _)); exact BK139.out)) : gb139 ≠ gb148)); have n10_ := aZ ((by rw [hg]; exact Nat.ne_of_gt (bL (g := gb139) (o := .cells #[.int .i64 a1_0, .int .i64 a1_1] 23 (0, 0)) (by (with_reducible repeat (first | refine bN ?_ _ | refine bW ?_ | refine bA ?_ _)); exact BK139.out)) : gb148 ≠ gb139)); have n11_ := aZ ((by rw [hg]; exact Nat.ne_of_lt (bL (g := gb140) (o := .cells #[.int .i64 a2_0, .int .i64 a2_1] 23 (0, 0)) (by (with_reducible repeat (first | refine bN ?_ _ | refine bW ?_ | refine bA ?_ _)); exact BK140.out)) : gb140 ≠ gb148)); have n12_ := aZ ((by rw [hg]; exact Nat.ne_of_gt (bL (g := gb140) (o := .cells #[.int .i64 a2_0, .int .i64 a2_1] 23 (0, 0)) (by (with_reducible repeat (first | refine bN ?_ _ | refine bW ?_ | refine bA ?_ _)); exact BK140.out)) : gb148 ≠ gb140)); clear BK138; clear BK139; clear BK140; clear HB; have BK138 := n0_; have BK139 := n1_; have BK140 := n2_; have HB := n3_; have BK148 := n4_; have GW148 := n5_; have GE148 := n6_; have NB138_148 := n7_; have NB148_138 := n8_; have NB139_148 := n9_; have NB148_139 := n10_; have NB140_148 := n11_; have NB148_140 := n12_; clear n0_ n1_ n2_ n3_ n4_ n5_ n6_ n7_ n8_ n9_ n10_ n11_ n12_; clear hb hbox hg; have hnb69 := NB148_138.out; have hnc69 := NB138_148.out; have hnb70 := NB148_139.out; have hnc70 := NB139_148.out; have hnb71 := NB148_140.out; have hnc71 := NB140_148.out; have hcz72_0 : w68.cell? ⟨gb148, 0, none⟩ = some (.int .i64 0) := (bC BK148.out 0).trans rfl; have hcz72_1 : w68.cell? ⟨gb148, 1, none⟩ = some (.int .i64 0) := (bC BK148.out 1).trans rfl; have hfz72_0 := bZ BK148.out 0; have hfz72_1 := bZ BK148.out 1; have hcz73_0 : w68.cell? ⟨gb139, 0, none⟩ = some (.int .i64 a1_0) := (bC BK139.out 0).trans rfl; have hcz73_1 : w68.cell? ⟨gb139, 1, none⟩ = some (.int .i64 a1_1) := (bC BK139.out 1).trans rfl; have hfz73_0 := bZ BK139.out 0; have hfz73_1 := bZ BK139.out 1; have hcz74_0 : w68.cell? ⟨gb138, 0, none⟩ = some (.int .i64 a0_0) := (bC BK138.out 0).trans rfl; have hcz74_1 : w68.cell? ⟨gb138, 1, none⟩ = some (.int .i64 a0_1) := (bC BK138.out 1).trans rfl; have hfz74_0 := bZ BK138.out 0; have hfz74_1 := bZ BK138.out 1) | ((with_reducible refine gC (f := 7) rfl ?_); refine goesL_ (some 61) rfl rfl Try.func7 (by kernel_rfl) rfl #[.agg #[.int .i64 a1_0, .int .i64 a1_1], .agg #[.int .i64 a0_0, .int .i64 a0_1]] rfl (by (try simp only [List.map_toArray, List.map_cons, List.map_nil]); first | done | rfl | (simp only [List.length_drop, List.length_take]; rfl)) ?_; (with_reducible refine (slackwaterlaw08_add.calls kj6 a1_0 a1_1 a0_0 a0_1 t149 t150 t151 _ A59.out).mono ?_); rintro e w75 ⟨rfl, hb⟩; refine ⟨_, rfl, ?_⟩; have n0_ := aZ (bB (g := gb138) (o := .cells #[.int .i64 a0_0, .int .i64 a0_1] 23 (0, 0)) (by (with_reducible repeat (first | refine bN ?_ _ | refine bW ?_ | refine bA ?_ _)); refine bF ?_ NB138_148.out _; (with_reducible repeat (first | refine bN ?_ _ | refine bW ?_ | refine bA ?_ _)); refine bF ?_ NB138_148.out _; (with_reducible repeat (first | refine bN ?_ _ | refine bW ?_ | refine bA ?_ _)); exact BK138.out) hb); have n1_ := aZ (bB (g := gb139) (o := .cells #[.int .i64 a1_0, .int .i64 a1_1] 23 (0, 0)) (by (with_reducible repeat (first | refine bN ?_ _ | refine bW ?_ | refine bA ?_ _)); refine bF ?_ NB139_148.out _; (with_reducible repeat (first | refine bN ?_ _ | refine bW ?_ | refine bA ?_ _)); refine bF ?_ NB139_148.out _; (with_reducible repeat (first | refine bN ?_ _ | refine bW ?_ | refine bA ?_ _)); exact BK139.out) hb); have n2_ := aZ (bB (g := gb140) (o := .cells #[.int .i64 a2_0, .int .i64 a2_1] 23 (0, 0)) (by (with_reducible repeat (first | refine bN ?_ _ | refine bW ?_ | refine bA ?_ _)); refine bF ?_ NB140_148.out _; (with_reducible repeat (first | refine bN ?_ _ | refine bW ?_ | refine bA ?_ _)); refine bF ?_ NB140_148.out _; (with_reducible repeat (first | refine bN ?_ _ | refine bW ?_ | refine bA ?_ _)); exact BK140.out) hb); have n3_ := aZ (bB (g := gb148) (o := .cells #[.int .i64 t145, .int .i64 t146] 23 (0, 0)) (by (with_reducible repeat (first | refine bN ?_ _ | refine bW ?_ | refine bA ?_ _)); refine blk_put (cs := #[.int .i64 t145, .int .i64 0]) ?_ 1 _ rfl; (with_reducible repeat (first | refine bN ?_ _ | refine bW ?_ | refine bA ?_ _)); refine blk_put (cs := #[.int .i64 0, .int .i64 0]) ?_ 0 _ rfl; (with_reducible repeat (first | refine bN ?_ _ | refine bW ?_ | refine bA ?_ _)); exact BK148.out) hb); have n4_ := aZ (wP (by repeat (first | (with_reducible first | exact HB.out | apply wA | apply wN | apply wD | refine wS ?_ GE138.out | refine wS ?_ GE139.out | refine wS ?_ GE140.out | refine wS ?_ GE148.out) | exact HB.out)) hb); clear BK138; clear BK139; clear BK140; clear BK148; clear HB; have BK138 := n0_; have BK139 := n1_; have BK140 := n2_; have BK148 := n3_; have HB := n4_; clear n0_ n1_ n2_ n3_ n4_; (try clear hb); (try clear hb2); (try clear hk); (try clear hi)) | ((with_reducible refine gD (N := 11) rfl ?_); refine gB ?hg (N := 11) ?hd (cs := #[.int .i64 0, .int .i64 0]) (t := 23) ?hr ?_; (case hd => rfl); (case hg => rfl); (case hr => first | (go_simp; done) | (go_simp; rfl)); intro gb152 hg w76 hbox hb; have n0_ := aZ (bB (g := gb138) (o := .cells #[.int .i64 a0_0, .int .i64 a0_1] 23 (0, 0)) (by (with_reducible repeat (first | refine bN ?_ _ | refine bW ?_ | refine bA ?_ _)); exact BK138.out) hb); have n1_ := aZ (bB (g := gb139) (o := .cells #[.int .i64 a1_0, .int .i64 a1_1] 23 (0, 0)) (by (with_reducible repeat (first | refine bN ?_ _ | refine bW ?_ | refine bA ?_ _)); exact BK139.out) hb); have n2_ := aZ (bB (g := gb140) (o := .cells #[.int .i64 a2_0, .int .i64 a2_1] 23 (0, 0)) (by (with_reducible repeat (first | refine bN ?_ _ | refine bW ?_ | refine bA ?_ _)); exact BK140.out) hb); have n3_ := aZ (bB (g := gb148) (o := .cells #[.int .i64 t145, .int .i64 t146] 23 (0, 0)) (by (with_reducible repeat (first | refine bN ?_ _ | refine bW ?_ | refine bA ?_ _)); exact BK148.out) hb); have n4_ := aZ (wP (by repeat (first | (with_reducible first | exact HB.out | apply wA | apply wN | apply wD | refine wS ?_ GE138.out | refine wS ?_ GE139.out | refine wS ?_ GE140.out | refine wS ?_ GE148.out) | exact HB.out)) hb); have n5_ := aZ (hbox); have n6_ := aZ ((by rw [hg]; exact (wZ (by repeat (first | (with_reducible first | exact HB.out | apply wA | apply wN | apply wD | refine wS ?_ GE138.out | refine wS ?_ GE139.out | refine wS ?_ GE140.out | refine wS ?_ GE148.out) | exact HB.out))) : w.heap.size ≤ gb152)); have n7_ := aZ ((by rw [hg]; exact (wZ (by repeat (first | (with_reducible first | exact HB.out | apply wA | apply wN | apply wD | refine wS ?_ GE138.out | refine wS ?_ GE139.out | refine wS ?_ GE140.out | refine wS ?_ GE148.out) | exact HB.out))) : w.heap.size ≤ gb152)); have n8_ := aZ ((by rw [hg]; exact Nat.ne_of_lt (bL (g := gb138) (o := .cells #[.int .i64 a0_0, .int .i64 a0_1] 23 (0, 0)) (by (with_reducible repeat (first | refine bN ?_ _ | refine bW ?_ | refine bA ?_ _)); exact BK138.out)) : gb138 ≠ gb152)); have n9_ := aZ ((by rw [hg]; exact Nat.ne_of_gt (bL (g := gb138) (o := .cells #[.int .i64 a0_0, .int .i64 a0_1] 23 (0, 0)) (by (with_reducible repeat (first | refine bN ?_ _ | refine bW ?_ | refine bA ?_ _)); exact BK138.out)) : gb152 ≠ gb138)); have n10_ := aZ ((by rw [hg]; exact Nat.ne_of_lt (bL (g := gb139) (o := .cells #[.int .i64 a1_0, .int .i64 a1_1] 23 (0, 0)) (by (with_reducible repeat (first | refine bN ?_ _ | refine bW ?_ | refine bA ?_ _)); exact BK139.out)) : gb139 ≠ gb152)); have n11_ := aZ ((by rw [hg]; exact Nat.ne_of_gt (bL (g := gb139) (o := .cells #[.int .i64 a1_0, .int .i64 a1_1] 23 (0, 0)) (by (with_reducible repeat (first | refine bN ?_ _ | refine bW ?_ | refine bA ?_ _)); exact BK139.out)) : gb152 ≠ gb139)); have n12_ := aZ ((by rw [hg]; exact Nat.ne_of_lt (bL (g := gb140) (o := .cells #[.int .i64 a2_0, .int .i64 a2_1] 23 (0, 0)) (by (with_reducible repeat (first | refine bN ?_ _ | refine bW ?_ | refine bA ?_ _)); exact BK140.out)) : gb140 ≠ gb152)); have n13_ := aZ ((by rw [hg]; exact Nat.ne_of_gt (bL (g := gb140) (o := .cells #[.int .i64 a2_0, .int .i64 a2_1] 23 (0, 0)) (by (with_reducible repeat (first | refine bN ?_ _ | refine bW ?_ | refine bA ?_ _)); exact BK140.out)) : gb152 ≠ gb140)); have n14_ := aZ ((by rw [hg]; exact Nat.ne_of_lt (bL (g := gb148) (o := .cells #[.int .i64 t145, .int .i64 t146] 23 (0, 0)) (by (with_reducible repeat (first | refine bN ?_ _ | refine bW ?_ | refine bA ?_ _)); exact BK148.out)) : gb148 ≠ gb152)); have n15_ := aZ ((by rw [hg]; exact Nat.ne_of_gt (bL (g := gb148) (o := .cells #[.int .i64 t145, .int .i64 t146] 23 (0, 0)) (by (with_reducible repeat (first | refine bN ?_ _ | refine bW ?_ | refine bA ?_ _)); exact BK148.out)) : gb152 ≠ gb148)); clear BK138; clear BK139; clear BK140; clear BK148; clear HB; have BK138 := n0_; have BK139 := n1_; have BK140 := n2_; have BK148 := n3_; have HB := n4_; have BK152 := n5_; have GW152 := n6_; have GE152 := n7_; have NB138_152 := n8_; have NB152_138 := n9_; have NB139_152 := n10_; have NB152_139 := n11_; have NB140_152 := n12_; have NB152_140 := n13_; have NB148_152 := n14_; have NB152_148 := n15_; clear n0_ n1_ n2_ n3_ n4_ n5_ n6_ n7_ n8_ n9_ n10_ n11_ n12_ n13_ n14_ n15_; clear hb hbox hg; have hnb77 := NB152_138.out; have hnc77 := NB138_152.out; have hnb78 := NB152_139.out; have hnc78 := NB139_152.out; have hnb79 := NB152_140.out; have hnc79 := NB140_152.out; have hnb80 := NB152_148.out; have hnc80 := NB148_152.out; have hcz81_0 : w76.cell? ⟨gb152, 0, none⟩ = some (.int .i64 0) := (bC BK152.out 0).trans rfl; have hcz81_1 : w76.cell? ⟨gb152, 1, none⟩ = some (.int .i64 0) := (bC BK152.out 1).trans rfl; have hfz81_0 := bZ BK152.out 0; have hfz81_1 := bZ BK152.out 1; have hcz82_0 : w76.cell? ⟨gb139, 0, none⟩ = some (.int .i64 a1_0) := (bC BK139.out 0).trans rfl; have hcz82_1 : w76.cell? ⟨gb139, 1, none⟩ = some (.int .i64 a1_1) := (bC BK139.out 1).trans rfl; have hfz82_0 := bZ BK139.out 0; have hfz82_1 := bZ BK139.out 1; have hcz83_0 : w76.cell? ⟨gb140, 0, none⟩ = some (.int .i64 a2_0) := (bC BK140.out 0).trans rfl; have hcz83_1 : w76.cell? ⟨gb140, 1, none⟩ = some (.int .i64 a2_1) := (bC BK140.out 1).trans rfl; have hfz83_0 := bZ BK140.out 0; have hfz83_1 := bZ BK140.out 1) | ((with_reducible refine gC (f := 7) rfl ?_); refine goesL_ (some 67) rfl rfl Try.func7 (by kernel_rfl) rfl #[.agg #[.int .i64 a1_0, .int .i64 a1_1], .agg #[.int .i64 a2_0, .int .i64 a2_1]] rfl (by (try simp only [List.map_toArray, List.map_cons, List.map_nil]); first | done | rfl | (simp only [List.length_drop, List.length_take]; rfl)) ?_; (with_reducible refine (slackwaterlaw08_add.calls kj6 a1_0 a1_1 a2_0 a2_1 t153 t154 t155 _ A60.out).mono ?_); rintro e w84 ⟨rfl, hb⟩; refine ⟨_, rfl, ?_⟩; have n0_ := aZ (bB (g := gb138) (o := .cells #[.int .i64 a0_0, .int .i64 a0_1] 23 (0, 0)) (by (with_reducible repeat (first | refine bN ?_ _ | refine bW ?_ | refine bA ?_ _)); refine bF ?_ NB138_152.out _; (with_reducible repeat (first | refine bN ?_ _ | refine bW ?_ | refine bA ?_ _)); refine bF ?_ NB138_152.out _; (with_reducible repeat (first | refine bN ?_ _ | refine bW ?_ | refine bA ?_ _)); exact BK138.out) hb); have n1_ := aZ (bB (g := gb139) (o := .cells #[.int .i64 a1_0, .int .i64 a1_1] 23 (0, 0)) (by (with_reducible repeat (first | refine bN ?_ _ | refine bW ?_ | refine bA ?_ _)); refine bF ?_ NB139_152.out _; (with_reducible repeat (first | refine bN ?_ _ | refine bW ?_ | refine bA ?_ _)); refine bF ?_ NB139_152.out _; (with_reducible repeat (first | refine bN ?_ _ | refine bW ?_ | refine bA ?_ _)); exact BK139.out) hb); have n2_ := aZ (bB (g := gb140) (o := .cells #[.int .i64 a2_0, .int .i64 a2_1] 23 (0, 0)) (by (with_reducible repeat (first | refine bN ?_ _ | refine bW ?_ | refine bA ?_ _)); refine bF ?_ NB140_152.out _; (with_reducible repeat (first | refine bN ?_ _ | refine bW ?_ | refine bA ?_ _)); refine bF ?_ NB140_152.out _; (with_reducible repeat (first | refine bN ?_ _ | refine bW ?_ | refine bA ?_ _)); exact BK140.out) hb); have n3_ := aZ (bB (g := gb148) (o := .cells #[.int .i64 t145, .int .i64 t146] 23 (0, 0)) (by (with_reducible repeat (first | refine bN ?_ _ | refine bW ?_ | refine bA ?_ _)); refine bF ?_ NB148_152.out _; (with_reducible repeat (first | refine bN ?_ _ | refine bW ?_ | refine bA ?_ _)); refine bF ?_ NB148_152.out _; (with_reducible repeat (first | refine bN ?_ _ | refine bW ?_ | refine bA ?_ _)); exact BK148.out) hb); have n4_ := aZ (bB (g := gb152) (o := .cells #[.int .i64 t149, .int .i64 t150] 23 (0, 0)) (by (with_reducible repeat (first | refine bN ?_ _ | refine bW ?_ | refine bA ?_ _)); refine blk_put (cs := #[.int .i64 t149, .int .i64 0]) ?_ 1 _ rfl; (with_reducible repeat (first | refine bN ?_ _ | refine bW ?_ | refine bA ?_ _)); refine blk_put (cs := #[.int .i64 0, .int .i64 0]) ?_ 0 _ rfl; (with_reducible repeat (first | refine bN ?_ _ | refine bW ?_ | refine bA ?_ _)); exact BK152.out) hb); have n5_ := aZ (wP (by repeat (first | (with_reducible first | exact HB.out | apply wA | apply wN | apply wD | refine wS ?_ GE138.out | refine wS ?_ GE139.out | refine wS ?_ GE140.out | refine wS ?_ GE148.out | refine wS ?_ GE152.out) | exact HB.out)) hb); clear BK138; clear BK139; clear BK140; clear BK148; clear BK152; clear HB; have BK138 := n0_; have BK139 := n1_; have BK140 := n2_; have BK148 := n3_; have BK152 := n4_; have HB := n5_; clear n0_ n1_ n2_ n3_ n4_ n5_; (try clear hb); (try clear hb2); (try clear hk); (try clear hi)) | ((with_reducible refine gD (N := 13) rfl ?_); refine gB ?hg (N := 13) ?hd (cs := #[.int .i64 0, .int .i64 0]) (t := 23) ?hr ?_; (case hd => rfl); (case hg => rfl); (case hr => first | (go_simp; done) | (go_simp; rfl)); intro gb156 hg w85 hbox hb; have n0_ := aZ (bB (g := gb138) (o := .cells #[.int .i64 a0_0, .int .i64 a0_1] 23 (0, 0)) (by (with_reducible repeat (first | refine bN ?_ _ | refine bW ?_ | refine bA ?_ _)); exact BK138.out) hb); have n1_ := aZ (bB (g := gb139) (o := .cells #[.int .i64 a1_0, .int .i64 a1_1] 23 (0, 0)) (by (with_reducible repeat (first | refine bN ?_ _ | refine bW ?_ | refine bA ?_ _)); exact BK139.out) hb); have n2_ := aZ (bB (g := gb140) (o := .cells #[.int .i64 a2_0, .int .i64 a2_1] 23 (0, 0)) (by (with_reducible repeat (first | refine bN ?_ _ | refine bW ?_ | refine bA ?_ _)); exact BK140.out) hb); have n3_ := aZ (bB (g := gb148) (o := .cells #[.int .i64 t145, .int .i64 t146] 23 (0, 0)) (by (with_reducible repeat (first | refine bN ?_ _ | refine bW ?_ | refine bA ?_ _)); exact BK148.out) hb); have n4_ := aZ (bB (g := gb152) (o := .cells #[.int .i64 t149, .int .i64 t150] 23 (0, 0)) (by (with_reducible repeat (first | refine bN ?_ _ | refine bW ?_ | refine bA ?_ _)); exact BK152.out) hb); have n5_ := aZ (wP (by repeat (first | (with_reducible first | exact HB.out | apply wA | apply wN | apply wD | refine wS ?_ GE138.out | refine wS ?_ GE139.out | refine wS ?_ GE140.out | refine wS ?_ GE148.out | refine wS ?_ GE152.out) | exact HB.out)) hb); have n6_ := aZ (hbox); have n7_ := aZ ((by rw [hg]; exact (wZ (by repeat (first | (with_reducible first | exact HB.out | apply wA | apply wN | apply wD | refine wS ?_ GE138.out | refine wS ?_ GE139.out | refine wS ?_ GE140.out | refine wS ?_ GE148.out | refine wS ?_ GE152.out) | exact HB.out))) : w.heap.size ≤ gb156)); have n8_ := aZ ((by rw [hg]; exact (wZ (by repeat (first | (with_reducible first | exact HB.out | apply wA | apply wN | apply wD | refine wS ?_ GE138.out | refine wS ?_ GE139.out | refine wS ?_ GE140.out | refine wS ?_ GE148.out | refine wS ?_ GE152.out) | exact HB.out))) : w.heap.size ≤ gb156)); have n9_ := aZ ((by rw [hg]; exact Nat.ne_of_lt (bL (g := gb138) (o := .cells #[.int .i64 a0_0, .int .i64 a0_1] 23 (0, 0)) (by (with_reducible repeat (first | refine bN ?_ _ | refine bW ?_ | refine bA ?_ _)); exact BK138.out)) : gb138 ≠ gb156)); have n10_ := aZ ((by rw [hg]; exact Nat.ne_of_gt (bL (g := gb138) (o := .cells #[.int .i64 a0_0, .int .i64 a0_1] 23 (0, 0)) (by (with_reducible repeat (first | refine bN ?_ _ | refine bW ?_ | refine bA ?_ _)); exact BK138.out)) : gb156 ≠ gb138)); have n11_ := aZ ((by rw [hg]; exact Nat.ne_of_lt (bL (g := gb139) (o := .cells #[.int .i64 a1_0, .int .i64 a1_1] 23 (0, 0)) (by (with_reducible repeat (first | refine bN ?_ _ | refine bW ?_ | refine bA ?_ _)); exact BK139.out)) : gb139 ≠ gb156)); have n12_ := aZ ((by rw [hg]; exact Nat.ne_of_gt (bL (g := gb139) (o := .cells #[.int .i64 a1_0, .int .i64 a1_1] 23 (0, 0)) (by (with_reducible repeat (first | refine bN ?_ _ | refine bW ?_ | refine bA ?_ _)); exact BK139.out)) : gb156 ≠ gb139)); have n13_ := aZ ((by rw [hg]; exact Nat.ne_of_lt (bL (g := gb140) (o := .cells #[.int .i64 a2_0, .int .i64 a2_1] 23 (0, 0)) (by (with_reducible repeat (first | refine bN ?_ _ | refine bW ?_ | refine bA ?_ _)); exact BK140.out)) : gb140 ≠ gb156)); have n14_ := aZ ((by rw [hg]; exact Nat.ne_of_gt (bL (g := gb140) (o := .cells #[.int .i64 a2_0, .int .i64 a2_1] 23 (0, 0)) (by (with_reducible repeat (first | refine bN ?_ _ | refine bW ?_ | refine bA ?_ _)); exact BK140.out)) : gb156 ≠ gb140)); have n15_ := aZ ((by rw [hg]; exact Nat.ne_of_lt (bL (g := gb148) (o := .cells #[.int .i64 t145, .int .i64 t146] 23 (0, 0)) (by (with_reducible repeat (first | refine bN ?_ _ | refine bW ?_ | refine bA ?_ _)); exact BK148.out)) : gb148 ≠ gb156)); have n16_ := aZ ((by rw [hg]; exact Nat.ne_of_gt (bL (g := gb148) (o := .cells #[.int .i64 t145, .int .i64 t146] 23 (0, 0)) (by (with_reducible repeat (first | refine bN ?_ _ | refine bW ?_ | refine bA ?_ _)); exact BK148.out)) : gb156 ≠ gb148)); have n17_ := aZ ((by rw [hg]; exact Nat.ne_of_lt (bL (g := gb152) (o := .cells #[.int .i64 t149, .int .i64 t150] 23 (0, 0)) (by (with_reducible repeat (first | refine bN ?_ _ | refine bW ?_ | refine bA ?_ _)); exact BK152.out)) : gb152 ≠ gb156)); have n18_ := aZ ((by rw [hg]; exact Nat.ne_of_gt (bL (g := gb152) (o := .cells #[.int .i64 t149, .int .i64 t150] 23 (0, 0)) (by (with_reducible repeat (first | refine bN ?_ _ | refine bW ?_ | refine bA ?_ _)); exact BK152.out)) : gb156 ≠ gb152)); clear BK138; clear BK139; clear BK140; clear BK148; clear BK152; clear HB; have BK138 := n0_; have BK139 := n1_; have BK140 := n2_; have BK148 := n3_; have BK152 := n4_; have HB := n5_; have BK156 := n6_; have GW156 := n7_; have GE156 := n8_; have NB138_156 := n9_; have NB156_138 := n10_; have NB139_156 := n11_; have NB156_139 := n12_; have NB140_156 := n13_; have NB156_140 := n14_; have NB148_156 := n15_; have NB156_148 := n16_; have NB152_156 := n17_; have NB156_152 := n18_; clear n0_ n1_ n2_ n3_ n4_ n5_ n6_ n7_ n8_ n9_ n10_ n11_ n12_ n13_ n14_ n15_ n16_ n17_ n18_; clear hb hbox hg; have hnb86 := NB156_138.out; have hnc86 := NB138_156.out; have hnb87 := NB156_139.out; have hnc87 := NB139_156.out; have hnb88 := NB156_140.out; have hnc88 := NB140_156.out; have hnb89 := NB156_148.out; have hnc89 := NB148_156.out; have hnb90 := NB156_152.out; have hnc90 := NB152_156.out; have hcz91_0 : w85.cell? ⟨gb156, 0, none⟩ = some (.int .i64 0) := (bC BK156.out 0).trans rfl; have hcz91_1 : w85.cell? ⟨gb156, 1, none⟩ = some (.int .i64 0) := (bC BK156.out 1).trans rfl; have hfz91_0 := bZ BK156.out 0; have hfz91_1 := bZ BK156.out 1))
   (try simp only [Act.put, List.setIfInBounds_toArray, List.set_cons_zero, List.set_cons_succ])
   go_cut [85] (fun v85 wc => ∃ (kq : Nat) (x85_60 : Bool), v85 = .bool x85_60 ∧ Aside0 (slackwaterlaw08_TurnGroup.j1 kq a3 t147 t155 x85_60 a0_0 a0_1 a1_0 a1_1 a2_0 a2_1 t145 t146 t153 t154 = some r) ∧ Aside0 (kq ≤ kj6) ∧ Aside0 (wc.heap[gb138]? = some (.cells #[.int .i64 a0_0, .int .i64 a0_1] 23 (0, 0))) ∧ Aside0 (wc.heap[gb139]? = some (.cells #[.int .i64 a1_0, .int .i64 a1_1] 23 (0, 0))) ∧ Aside0 (wc.heap[gb140]? = some (.cells #[.int .i64 a2_0, .int .i64 a2_1] 23 (0, 0))) ∧ Aside0 (wc.heap[gb148]? = some (.cells #[.int .i64 t145, .int .i64 t146] 23 (0, 0))) ∧ Aside0 (wc.heap[gb152]? = some (.cells #[.int .i64 t149, .int .i64 t150] 23 (0, 0))) ∧ Aside0 (wc.heap[gb156]? = some (.cells #[.int .i64 t153, .int .i64 t154] 23 (0, 0))) ∧ Aside0 (Below w.heap.size w wc))
   case first =>
    have H := HC61.out
    clear HC61
    by_cases c92 : (t147 != t151) = true
    ·
     rw [if_pos c92] at H
     exact absurd H (by simp)
    rw [if_neg c92] at H
    have c92b0 : (t147 != t151) = false := by simpa using c92
    (try (have c92b1 : decide (t147 = t151) = true := by simpa using c92))
    (try (have c92b2 : (t147 == t151) = true := by simpa using c92))
    clear c92
    (first | rw [c92b0] | (simp only [i64_w, i32_w]; rw [c92b0]) | skip)
    by_cases c93 : (!(t145 == t149) || (!(t146 == t150))) = true
    ·
     rw [if_pos c93] at H
     exact absurd H (by simp)
    rw [if_neg c93] at H
    have c93b0 : (!(t145 == t149) || (!(t146 == t150))) = false := by simpa using c93
    clear c93
    by_cases c94 : t147 = true
    ·
     subst c94
     have H1 : ((turn_Check.f kj6 t145 t146).bind fun t157 => (slackwaterlaw08_TurnGroup.j1 kj6 a3 true t155 (t157 != 0) a0_0 a0_1 a1_0 a1_1 a2_0 a2_1 t145 t146 t153 t154)) = some r := by rw [if_pos rfl] at H; exact H
     clear H
     have H := H1
     clear H1
     replace H := Option.bind_eq_some_iff.mp H
     obtain ⟨t157, A950, H⟩ := H
     replace H : (slackwaterlaw08_TurnGroup.j1 kj6 a3 true t155 (t157 != 0) a0_0 a0_1 a1_0 a1_1 a2_0 a2_1 t145 t146 t153 t154) = some r := H
     have A95 := Aside0.mk A950
     clear A950
     have H' := Aside0.mk H
     clear H
     have hnb96 := NB148_138.out
     have hnc96 := NB138_148.out
     have hnb97 := NB148_139.out
     have hnc97 := NB139_148.out
     have hnb98 := NB148_140.out
     have hnc98 := NB140_148.out
     have hnb99 := NB148_152.out
     have hnc99 := NB152_148.out
     have hnb100 := NB148_156.out
     have hnc100 := NB156_148.out
     have hcz101_0 : w85.cell? ⟨gb148, 0, none⟩ = some (.int .i64 t145) := (bC BK148.out 0).trans rfl
     have hcz101_1 : w85.cell? ⟨gb148, 1, none⟩ = some (.int .i64 t146) := (bC BK148.out 1).trans rfl
     have hfz101_0 := bZ BK148.out 0
     have hfz101_1 := bZ BK148.out 1
     have hnb102 := NB152_138.out
     have hnc102 := NB138_152.out
     have hnb103 := NB152_139.out
     have hnc103 := NB139_152.out
     have hnb104 := NB152_140.out
     have hnc104 := NB140_152.out
     have hnb105 := NB152_156.out
     have hnc105 := NB156_152.out
     have hcz106_0 : w85.cell? ⟨gb152, 0, none⟩ = some (.int .i64 t149) := (bC BK152.out 0).trans rfl
     have hcz106_1 : w85.cell? ⟨gb152, 1, none⟩ = some (.int .i64 t150) := (bC BK152.out 1).trans rfl
     have hfz106_0 := bZ BK152.out 0
     have hfz106_1 := bZ BK152.out 1
     go_wp2_with (first | (go_at_call 10; (with_reducible refine (turn_Check.calls kj6 t145 t146 t157 _ A95.out).mono ?_); rintro e w107 ⟨rfl, hb⟩; have n0_ := aZ (bB (g := gb138) (o := .cells #[.int .i64 a0_0, .int .i64 a0_1] 23 (0, 0)) (by (with_reducible repeat (first | refine bN ?_ _ | refine bW ?_ | refine bA ?_ _)); refine bF ?_ NB138_156.out _; (with_reducible repeat (first | refine bN ?_ _ | refine bW ?_ | refine bA ?_ _)); refine bF ?_ NB138_156.out _; (with_reducible repeat (first | refine bN ?_ _ | refine bW ?_ | refine bA ?_ _)); exact BK138.out) hb); have n1_ := aZ (bB (g := gb139) (o := .cells #[.int .i64 a1_0, .int .i64 a1_1] 23 (0, 0)) (by (with_reducible repeat (first | refine bN ?_ _ | refine bW ?_ | refine bA ?_ _)); refine bF ?_ NB139_156.out _; (with_reducible repeat (first | refine bN ?_ _ | refine bW ?_ | refine bA ?_ _)); refine bF ?_ NB139_156.out _; (with_reducible repeat (first | refine bN ?_ _ | refine bW ?_ | refine bA ?_ _)); exact BK139.out) hb); have n2_ := aZ (bB (g := gb140) (o := .cells #[.int .i64 a2_0, .int .i64 a2_1] 23 (0, 0)) (by (with_reducible repeat (first | refine bN ?_ _ | refine bW ?_ | refine bA ?_ _)); refine bF ?_ NB140_156.out _; (with_reducible repeat (first | refine bN ?_ _ | refine bW ?_ | refine bA ?_ _)); refine bF ?_ NB140_156.out _; (with_reducible repeat (first | refine bN ?_ _ | refine bW ?_ | refine bA ?_ _)); exact BK140.out) hb); have n3_ := aZ (bB (g := gb148) (o := .cells #[.int .i64 t145, .int .i64 t146] 23 (0, 0)) (by (with_reducible repeat (first | refine bN ?_ _ | refine bW ?_ | refine bA ?_ _)); refine bF ?_ NB148_156.out _; (with_reducible repeat (first | refine bN ?_ _ | refine bW ?_ | refine bA ?_ _)); refine bF ?_ NB148_156.out _; (with_reducible repeat (first | refine bN ?_ _ | refine bW ?_ | refine bA ?_ _)); exact BK148.out) hb); have n4_ := aZ (bB (g := gb152) (o := .cells #[.int .i64 t149, .int .i64 t150] 23 (0, 0)) (by (with_reducible repeat (first | refine bN ?_ _ | refine bW ?_ | refine bA ?_ _)); refine bF ?_ NB152_156.out _; (with_reducible repeat (first | refine bN ?_ _ | refine bW ?_ | refine bA ?_ _)); refine bF ?_ NB152_156.out _; (with_reducible repeat (first | refine bN ?_ _ | refine bW ?_ | refine bA ?_ _)); exact BK152.out) hb); have n5_ := aZ (bB (g := gb156) (o := .cells #[.int .i64 t153, .int .i64 t154] 23 (0, 0)) (by (with_reducible repeat (first | refine bN ?_ _ | refine bW ?_ | refine bA ?_ _)); refine blk_put (cs := #[.int .i64 t153, .int .i64 0]) ?_ 1 _ rfl; (with_reducible repeat (first | refine bN ?_ _ | refine bW ?_ | refine bA ?_ _)); refine blk_put (cs := #[.int .i64 0, .int .i64 0]) ?_ 0 _ rfl; (with_reducible repeat (first | refine bN ?_ _ | refine bW ?_ | refine bA ?_ _)); exact BK156.out) hb); have n6_ := aZ (wP (by repeat (first | (with_reducible first | exact HB.out | apply wA | apply wN | apply wD | refine wS ?_ GE138.out | refine wS ?_ GE139.out | refine wS ?_ GE140.out | refine wS ?_ GE148.out | refine wS ?_ GE152.out | refine wS ?_ GE156.out) | exact HB.out)) hb); clear BK138; clear BK139; clear BK140; clear BK148; clear BK152; clear BK156; clear HB; have BK138 := n0_; have BK139 := n1_; have BK140 := n2_; have BK148 := n3_; have BK152 := n4_; have BK156 := n5_; have HB := n6_; clear n0_ n1_ n2_ n3_ n4_ n5_ n6_; (try clear hb); (try clear hb2); (try clear hk); (try clear hi)))
     go_meet
     case rel => exact ⟨_, ((t157 != 0)), (by first | rfl | (simp; done) | (simp [*]; done)), H', ⟨by have := HJ6.out; first | omega | exact Nat.le_refl _⟩, ⟨by (with_reducible repeat (first | refine bN ?_ _ | refine bW ?_ | refine bA ?_ _)); exact BK138.out⟩, ⟨by (with_reducible repeat (first | refine bN ?_ _ | refine bW ?_ | refine bA ?_ _)); exact BK139.out⟩, ⟨by (with_reducible repeat (first | refine bN ?_ _ | refine bW ?_ | refine bA ?_ _)); exact BK140.out⟩, ⟨by (with_reducible repeat (first | refine bN ?_ _ | refine bW ?_ | refine bA ?_ _)); exact BK148.out⟩, ⟨by (with_reducible repeat (first | refine bN ?_ _ | refine bW ?_ | refine bA ?_ _)); exact BK152.out⟩, ⟨by (with_reducible repeat (first | refine bN ?_ _ | refine bW ?_ | refine bA ?_ _)); exact BK156.out⟩, ⟨by repeat (first | (with_reducible first | exact HB.out | apply wA | apply wN | apply wD | refine wS ?_ GE138.out | refine wS ?_ GE139.out | refine wS ?_ GE140.out | refine wS ?_ GE148.out | refine wS ?_ GE152.out | refine wS ?_ GE156.out) | exact HB.out)⟩⟩
    replace c94 := Bool.eq_false_iff.mpr c94
    subst c94
    have H1 : (slackwaterlaw08_TurnGroup.j1 kj6 a3 false t155 false a0_0 a0_1 a1_0 a1_1 a2_0 a2_1 t145 t146 t153 t154) = some r := by rw [if_neg (show ¬ (false = true) by decide)] at H; exact H
    clear H
    have H := H1
    clear H1
    have H' := Aside0.mk H
    clear H
    have hnb108 := NB148_138.out
    have hnc108 := NB138_148.out
    have hnb109 := NB148_139.out
    have hnc109 := NB139_148.out
    have hnb110 := NB148_140.out
    have hnc110 := NB140_148.out
    have hnb111 := NB148_152.out
    have hnc111 := NB152_148.out
    have hnb112 := NB148_156.out
    have hnc112 := NB156_148.out
    have hcz113_0 : w85.cell? ⟨gb148, 0, none⟩ = some (.int .i64 t145) := (bC BK148.out 0).trans rfl
    have hcz113_1 : w85.cell? ⟨gb148, 1, none⟩ = some (.int .i64 t146) := (bC BK148.out 1).trans rfl
    have hfz113_0 := bZ BK148.out 0
    have hfz113_1 := bZ BK148.out 1
    have hnb114 := NB152_138.out
    have hnc114 := NB138_152.out
    have hnb115 := NB152_139.out
    have hnc115 := NB139_152.out
    have hnb116 := NB152_140.out
    have hnc116 := NB140_152.out
    have hnb117 := NB152_156.out
    have hnc117 := NB156_152.out
    have hcz118_0 : w85.cell? ⟨gb152, 0, none⟩ = some (.int .i64 t149) := (bC BK152.out 0).trans rfl
    have hcz118_1 : w85.cell? ⟨gb152, 1, none⟩ = some (.int .i64 t150) := (bC BK152.out 1).trans rfl
    have hfz118_0 := bZ BK152.out 0
    have hfz118_1 := bZ BK152.out 1
    go_wp2
    go_meet
    case rel => exact ⟨_, (false), (by first | rfl | (simp; done) | (simp [*]; done)), H', ⟨by have := HJ6.out; first | omega | exact Nat.le_refl _⟩, ⟨by (with_reducible repeat (first | refine bN ?_ _ | refine bW ?_ | refine bA ?_ _)); refine bF ?_ NB138_156.out _; (with_reducible repeat (first | refine bN ?_ _ | refine bW ?_ | refine bA ?_ _)); refine bF ?_ NB138_156.out _; (with_reducible repeat (first | refine bN ?_ _ | refine bW ?_ | refine bA ?_ _)); exact BK138.out⟩, ⟨by (with_reducible repeat (first | refine bN ?_ _ | refine bW ?_ | refine bA ?_ _)); refine bF ?_ NB139_156.out _; (with_reducible repeat (first | refine bN ?_ _ | refine bW ?_ | refine bA ?_ _)); refine bF ?_ NB139_156.out _; (with_reducible repeat (first | refine bN ?_ _ | refine bW ?_ | refine bA ?_ _)); exact BK139.out⟩, ⟨by (with_reducible repeat (first | refine bN ?_ _ | refine bW ?_ | refine bA ?_ _)); refine bF ?_ NB140_156.out _; (with_reducible repeat (first | refine bN ?_ _ | refine bW ?_ | refine bA ?_ _)); refine bF ?_ NB140_156.out _; (with_reducible repeat (first | refine bN ?_ _ | refine bW ?_ | refine bA ?_ _)); exact BK140.out⟩, ⟨by (with_reducible repeat (first | refine bN ?_ _ | refine bW ?_ | refine bA ?_ _)); refine bF ?_ NB148_156.out _; (with_reducible repeat (first | refine bN ?_ _ | refine bW ?_ | refine bA ?_ _)); refine bF ?_ NB148_156.out _; (with_reducible repeat (first | refine bN ?_ _ | refine bW ?_ | refine bA ?_ _)); exact BK148.out⟩, ⟨by (with_reducible repeat (first | refine bN ?_ _ | refine bW ?_ | refine bA ?_ _)); refine bF ?_ NB152_156.out _; (with_reducible repeat (first | refine bN ?_ _ | refine bW ?_ | refine bA ?_ _)); refine bF ?_ NB152_156.out _; (with_reducible repeat (first | refine bN ?_ _ | refine bW ?_ | refine bA ?_ _)); exact BK152.out⟩, ⟨by (with_reducible repeat (first | refine bN ?_ _ | refine bW ?_ | refine bA ?_ _)); refine blk_put (cs := #[.int .i64 t153, .int .i64 0]) ?_ 1 _ rfl; (with_reducible repeat (first | refine bN ?_ _ | refine bW ?_ | refine bA ?_ _)); refine blk_put (cs := #[.int .i64 0, .int .i64 0]) ?_ 0 _ rfl; (with_reducible repeat (first | refine bN ?_ _ | refine bW ?_ | refine bA ?_ _)); exact BK156.out⟩, ⟨by repeat (first | (with_reducible first | exact HB.out | apply wA | apply wN | apply wD | refine wS ?_ GE138.out | refine wS ?_ GE139.out | refine wS ?_ GE140.out | refine wS ?_ GE148.out | refine wS ?_ GE152.out | refine wS ?_ GE156.out) | exact HB.out)⟩⟩
   case' rest => skip
   clear HC61
   try clear c1
   try clear c2
   try clear p2
   try clear c3
   try clear c4
   try clear c5
   try clear c6
   try clear c7
   try clear c8
   try clear c9
   try clear c10
   try clear c11
   try clear c13
   try clear c13b0
   try clear c13b1
   try clear c15
   try clear c15b0
   try clear c15b1
   try clear c17
   try clear c17b0
   try clear c17b1
   try clear c18
   try clear c18b0
   try clear c19
   try clear c20
   try clear c23
   try clear c28
   try clear c29
   try clear c32
   try clear c37
   try clear c38
   try clear c41
   try clear c46
   try clear c47
   try clear c50
   try clear c53
   try clear c54
   try clear c57
   try clear c62
   try clear c63
   try clear c65
   try clear c69
   try clear c70
   try clear c71
   try clear c77
   try clear c78
   try clear c79
   try clear c80
   try clear c86
   try clear c87
   try clear c88
   try clear c89
   try clear c90
   try clear c92
   try clear c92b0
   try clear c92b1
   try clear c92b2
   try clear c93
   try clear c93b0
   try clear c94
   try clear c96
   try clear c97
   try clear c98
   try clear c99
   try clear c100
   try clear c102
   try clear c103
   try clear c104
   try clear c105
   try clear c108
   try clear c109
   try clear c110
   try clear c111
   try clear c112
   try clear c114
   try clear c115
   try clear c116
   try clear c117
   try clear hcz101_0
   try clear hcz101_1
   try clear hcz106_0
   try clear hcz106_1
   try clear hcz113_0
   try clear hcz113_1
   try clear hcz118_0
   try clear hcz118_1
   try clear hcz21_0
   try clear hcz21_1
   try clear hcz24_0
   try clear hcz24_1
   try clear hcz26_0
   try clear hcz26_1
   try clear hcz30_0
   try clear hcz30_1
   try clear hcz33_0
   try clear hcz33_1
   try clear hcz35_0
   try clear hcz35_1
   try clear hcz39_0
   try clear hcz39_1
   try clear hcz42_0
   try clear hcz42_1
   try clear hcz44_0
   try clear hcz44_1
   try clear hcz48_0
   try clear hcz48_1
   try clear hcz51_0
   try clear hcz51_1
   try clear hcz55_0
   try clear hcz55_1
   try clear hcz64_0
   try clear hcz64_1
   try clear hcz66_0
   try clear hcz66_1
   try clear hcz72_0
   try clear hcz72_1
   try clear hcz73_0
   try clear hcz73_1
   try clear hcz74_0
   try clear hcz74_1
   try clear hcz81_0
   try clear hcz81_1
   try clear hcz82_0
   try clear hcz82_1
   try clear hcz83_0
   try clear hcz83_1
   try clear hcz91_0
   try clear hcz91_1
   try clear hfz101_0
   try clear hfz101_1
   try clear hfz106_0
   try clear hfz106_1
   try clear hfz113_0
   try clear hfz113_1
   try clear hfz118_0
   try clear hfz118_1
   try clear hfz21_0
   try clear hfz21_1
   try clear hfz24_0
   try clear hfz24_1
   try clear hfz26_0
   try clear hfz26_1
   try clear hfz30_0
   try clear hfz30_1
   try clear hfz33_0
   try clear hfz33_1
   try clear hfz35_0
   try clear hfz35_1
   try clear hfz39_0
   try clear hfz39_1
   try clear hfz42_0
   try clear hfz42_1
   try clear hfz44_0
   try clear hfz44_1
   try clear hfz48_0
   try clear hfz48_1
   try clear hfz51_0
   try clear hfz51_1
   try clear hfz55_0
   try clear hfz55_1
   try clear hfz64_0
   try clear hfz64_1
   try clear hfz66_0
   try clear hfz66_1
   try clear hfz72_0
   try clear hfz72_1
   try clear hfz73_0
   try clear hfz73_1
   try clear hfz74_0
   try clear hfz74_1
   try clear hfz81_0
   try clear hfz81_1
   try clear hfz82_0
   try clear hfz82_1
   try clear hfz83_0
   try clear hfz83_1
   try clear hfz91_0
   try clear hfz91_1
   try clear p2
   obtain ⟨kq, x85_60, rfl, HA, HJ60, BK138, BK139, BK140, BK148, BK152, BK156, HB⟩ := hcut
   cases kq with
   | zero => exact absurd HA.out (by simp [slackwaterlaw08_TurnGroup.j1])
   | succ kj60 =>
    have H := HA.out
    clear HA
    simp only [slackwaterlaw08_TurnGroup.j1] at H
    by_cases c119 : x85_60 = true
    ·
     subst c119
     have H1 : (none) = some r := by rw [if_pos rfl] at H; exact H
     clear H
     have H := H1
     clear H1
     exact absurd H (by simp)
    replace c119 := Bool.eq_false_iff.mpr c119
    subst c119
    have H1 : ((slackwaterlaw08_add.f kj60 t145 t146 a2_0 a2_1).bind fun bt158 => ((slackwaterlaw08_add.f kj60 a0_0 a0_1 t153 t154).bind fun bt162 => (if t147 = true then (if t155 = true then (if bt158.2.2 = true then (if bt162.2.2 = true then (slackwaterlaw08_TurnGroup.j2 kj60 a3 t147 (!(bt158.1 == bt162.1) || (!(bt158.2.1 == bt162.2.1))) a0_0 a0_1 a1_0 a1_1 t145 t146) else (slackwaterlaw08_TurnGroup.j2 kj60 a3 t147 false a0_0 a0_1 a1_0 a1_1 t145 t146)) else (slackwaterlaw08_TurnGroup.j2 kj60 a3 t147 false a0_0 a0_1 a1_0 a1_1 t145 t146)) else (slackwaterlaw08_TurnGroup.j2 kj60 a3 t147 false a0_0 a0_1 a1_0 a1_1 t145 t146)) else (slackwaterlaw08_TurnGroup.j2 kj60 a3 t147 false a0_0 a0_1 a1_0 a1_1 t145 t146)))) = some r := by rw [if_neg (show ¬ (false = true) by decide)] at H; exact H
    clear H
    have H := H1
    clear H1
    replace H := Option.bind_eq_some_iff.mp H
    obtain ⟨⟨t158, t159, t160⟩, A1200, H⟩ := H
    replace H : ((slackwaterlaw08_add.f kj60 a0_0 a0_1 t153 t154).bind fun bt162 => (if t147 = true then (if t155 = true then (if t160 = true then (if bt162.2.2 = true then (slackwaterlaw08_TurnGroup.j2 kj60 a3 t147 (!(t158 == bt162.1) || (!(t159 == bt162.2.1))) a0_0 a0_1 a1_0 a1_1 t145 t146) else (slackwaterlaw08_TurnGroup.j2 kj60 a3 t147 false a0_0 a0_1 a1_0 a1_1 t145 t146)) else (slackwaterlaw08_TurnGroup.j2 kj60 a3 t147 false a0_0 a0_1 a1_0 a1_1 t145 t146)) else (slackwaterlaw08_TurnGroup.j2 kj60 a3 t147 false a0_0 a0_1 a1_0 a1_1 t145 t146)) else (slackwaterlaw08_TurnGroup.j2 kj60 a3 t147 false a0_0 a0_1 a1_0 a1_1 t145 t146))) = some r := H
    have A120 := Aside0.mk A1200
    clear A1200
    replace H := Option.bind_eq_some_iff.mp H
    obtain ⟨⟨t162, t163, t164⟩, A1210, H⟩ := H
    replace H : (if t147 = true then (if t155 = true then (if t160 = true then (if t164 = true then (slackwaterlaw08_TurnGroup.j2 kj60 a3 t147 (!(t158 == t162) || (!(t159 == t163))) a0_0 a0_1 a1_0 a1_1 t145 t146) else (slackwaterlaw08_TurnGroup.j2 kj60 a3 t147 false a0_0 a0_1 a1_0 a1_1 t145 t146)) else (slackwaterlaw08_TurnGroup.j2 kj60 a3 t147 false a0_0 a0_1 a1_0 a1_1 t145 t146)) else (slackwaterlaw08_TurnGroup.j2 kj60 a3 t147 false a0_0 a0_1 a1_0 a1_1 t145 t146)) else (slackwaterlaw08_TurnGroup.j2 kj60 a3 t147 false a0_0 a0_1 a1_0 a1_1 t145 t146)) = some r := H
    have A121 := Aside0.mk A1210
    clear A1210
    have HC122 := Aside0.mk H
    clear H
    have hnb123 := NB148_138.out
    have hnc123 := NB138_148.out
    have hnb124 := NB148_139.out
    have hnc124 := NB139_148.out
    have hnb125 := NB148_140.out
    have hnc125 := NB140_148.out
    have hnb126 := NB148_152.out
    have hnc126 := NB152_148.out
    have hnb127 := NB148_156.out
    have hnc127 := NB156_148.out
    have hcz128_0 : wc.cell? ⟨gb148, 0, none⟩ = some (.int .i64 t145) := (bC BK148.out 0).trans rfl
    have hcz128_1 : wc.cell? ⟨gb148, 1, none⟩ = some (.int .i64 t146) := (bC BK148.out 1).trans rfl
    have hfz128_0 := bZ BK148.out 0
    have hfz128_1 := bZ BK148.out 1
    have hnb129 := NB140_138.out
    have hnc129 := NB138_140.out
    have hnb130 := NB140_139.out
    have hnc130 := NB139_140.out
    have hnb131 := NB140_152.out
    have hnc131 := NB152_140.out
    have hnb132 := NB140_156.out
    have hnc132 := NB156_140.out
    have hcz133_0 : wc.cell? ⟨gb140, 0, none⟩ = some (.int .i64 a2_0) := (bC BK140.out 0).trans rfl
    have hcz133_1 : wc.cell? ⟨gb140, 1, none⟩ = some (.int .i64 a2_1) := (bC BK140.out 1).trans rfl
    have hfz133_0 := bZ BK140.out 0
    have hfz133_1 := bZ BK140.out 1
    go_upto_region 12 with (first | ((with_reducible refine gC (f := 7) rfl ?_); refine goesL_ (some 89) rfl rfl Try.func7 (by kernel_rfl) rfl #[.agg #[.int .i64 t145, .int .i64 t146], .agg #[.int .i64 a2_0, .int .i64 a2_1]] rfl (by (try simp only [List.map_toArray, List.map_cons, List.map_nil]); first | done | rfl | (simp only [List.length_drop, List.length_take]; rfl)) ?_; (with_reducible refine (slackwaterlaw08_add.calls kj60 t145 t146 a2_0 a2_1 t158 t159 t160 _ A120.out).mono ?_); rintro e w134 ⟨rfl, hb⟩; refine ⟨_, rfl, ?_⟩; have n0_ := aZ (bB (g := gb138) (o := .cells #[.int .i64 a0_0, .int .i64 a0_1] 23 (0, 0)) (by (with_reducible repeat (first | refine bN ?_ _ | refine bW ?_ | refine bA ?_ _)); exact BK138.out) hb); have n1_ := aZ (bB (g := gb139) (o := .cells #[.int .i64 a1_0, .int .i64 a1_1] 23 (0, 0)) (by (with_reducible repeat (first | refine bN ?_ _ | refine bW ?_ | refine bA ?_ _)); exact BK139.out) hb); have n2_ := aZ (bB (g := gb140) (o := .cells #[.int .i64 a2_0, .int .i64 a2_1] 23 (0, 0)) (by (with_reducible repeat (first | refine bN ?_ _ | refine bW ?_ | refine bA ?_ _)); exact BK140.out) hb); have n3_ := aZ (bB (g := gb148) (o := .cells #[.int .i64 t145, .int .i64 t146] 23 (0, 0)) (by (with_reducible repeat (first | refine bN ?_ _ | refine bW ?_ | refine bA ?_ _)); exact BK148.out) hb); have n4_ := aZ (bB (g := gb152) (o := .cells #[.int .i64 t149, .int .i64 t150] 23 (0, 0)) (by (with_reducible repeat (first | refine bN ?_ _ | refine bW ?_ | refine bA ?_ _)); exact BK152.out) hb); have n5_ := aZ (bB (g := gb156) (o := .cells #[.int .i64 t153, .int .i64 t154] 23 (0, 0)) (by (with_reducible repeat (first | refine bN ?_ _ | refine bW ?_ | refine bA ?_ _)); exact BK156.out) hb); have n6_ := aZ (wP (by repeat (first | (with_reducible first | exact HB.out | apply wA | apply wN | apply wD | refine wS ?_ GE138.out | refine wS ?_ GE139.out | refine wS ?_ GE140.out | refine wS ?_ GE148.out | refine wS ?_ GE152.out | refine wS ?_ GE156.out) | exact HB.out)) hb); clear BK138; clear BK139; clear BK140; clear BK148; clear BK152; clear BK156; clear HB; have BK138 := n0_; have BK139 := n1_; have BK140 := n2_; have BK148 := n3_; have BK152 := n4_; have BK156 := n5_; have HB := n6_; clear n0_ n1_ n2_ n3_ n4_ n5_ n6_; (try clear hb); (try clear hb2); (try clear hk); (try clear hi)) | ((with_reducible refine gD (N := 15) rfl ?_); refine gB ?hg (N := 15) ?hd (cs := #[.int .i64 0, .int .i64 0]) (t := 23) ?hr ?_; (case hd => rfl); (case hg => rfl); (case hr => first | (go_simp; done) | (go_simp; rfl)); intro gb161 hg w135 hbox hb; have n0_ := aZ (bB (g := gb138) (o := .cells #[.int .i64 a0_0, .int .i64 a0_1] 23 (0, 0)) (by (with_reducible repeat (first | refine bN ?_ _ | refine bW ?_ | refine bA ?_ _)); exact BK138.out) hb); have n1_ := aZ (bB (g := gb139) (o := .cells #[.int .i64 a1_0, .int .i64 a1_1] 23 (0, 0)) (by (with_reducible repeat (first | refine bN ?_ _ | refine bW ?_ | refine bA ?_ _)); exact BK139.out) hb); have n2_ := aZ (bB (g := gb140) (o := .cells #[.int .i64 a2_0, .int .i64 a2_1] 23 (0, 0)) (by (with_reducible repeat (first | refine bN ?_ _ | refine bW ?_ | refine bA ?_ _)); exact BK140.out) hb); have n3_ := aZ (bB (g := gb148) (o := .cells #[.int .i64 t145, .int .i64 t146] 23 (0, 0)) (by (with_reducible repeat (first | refine bN ?_ _ | refine bW ?_ | refine bA ?_ _)); exact BK148.out) hb); have n4_ := aZ (bB (g := gb152) (o := .cells #[.int .i64 t149, .int .i64 t150] 23 (0, 0)) (by (with_reducible repeat (first | refine bN ?_ _ | refine bW ?_ | refine bA ?_ _)); exact BK152.out) hb); have n5_ := aZ (bB (g := gb156) (o := .cells #[.int .i64 t153, .int .i64 t154] 23 (0, 0)) (by (with_reducible repeat (first | refine bN ?_ _ | refine bW ?_ | refine bA ?_ _)); exact BK156.out) hb); have n6_ := aZ (wP (by repeat (first | (with_reducible first | exact HB.out | apply wA | apply wN | apply wD | refine wS ?_ GE138.out | refine wS ?_ GE139.out | refine wS ?_ GE140.out | refine wS ?_ GE148.out | refine wS ?_ GE152.out | refine wS ?_ GE156.out) | exact HB.out)) hb); have n7_ := aZ (hbox); have n8_ := aZ ((by rw [hg]; exact (wZ (by repeat (first | (with_reducible first | exact HB.out | apply wA | apply wN | apply wD | refine wS ?_ GE138.out | refine wS ?_ GE139.out | refine wS ?_ GE140.out | refine wS ?_ GE148.out | refine wS ?_ GE152.out | refine wS ?_ GE156.out) | exact HB.out))) : w.heap.size ≤ gb161)); have n9_ := aZ ((by rw [hg]; exact (wZ (by repeat (first | (with_reducible first | exact HB.out | apply wA | apply wN | apply wD | refine wS ?_ GE138.out | refine wS ?_ GE139.out | refine wS ?_ GE140.out | refine wS ?_ GE148.out | refine wS ?_ GE152.out | refine wS ?_ GE156.out) | exact HB.out))) : w.heap.size ≤ gb161)); have n10_ := aZ ((by rw [hg]; exact Nat.ne_of_lt (bL (g := gb138) (o := .cells #[.int .i64 a0_0, .int .i64 a0_1] 23 (0, 0)) (by (with_reducible repeat (first | refine bN ?_ _ | refine bW ?_ | refine bA ?_ _)); exact BK138.out)) : gb138 ≠ gb161)); have n11_ := aZ ((by rw [hg]; exact Nat.ne_of_gt (bL (g := gb138) (o := .cells #[.int .i64 a0_0, .int .i64 a0_1] 23 (0, 0)) (by (with_reducible repeat (first | refine bN ?_ _ | refine bW ?_ | refine bA ?_ _)); exact BK138.out)) : gb161 ≠ gb138)); have n12_ := aZ ((by rw [hg]; exact Nat.ne_of_lt (bL (g := gb139) (o := .cells #[.int .i64 a1_0, .int .i64 a1_1] 23 (0, 0)) (by (with_reducible repeat (first | refine bN ?_ _ | refine bW ?_ | refine bA ?_ _)); exact BK139.out)) : gb139 ≠ gb161)); have n13_ := aZ ((by rw [hg]; exact Nat.ne_of_gt (bL (g := gb139) (o := .cells #[.int .i64 a1_0, .int .i64 a1_1] 23 (0, 0)) (by (with_reducible repeat (first | refine bN ?_ _ | refine bW ?_ | refine bA ?_ _)); exact BK139.out)) : gb161 ≠ gb139)); have n14_ := aZ ((by rw [hg]; exact Nat.ne_of_lt (bL (g := gb140) (o := .cells #[.int .i64 a2_0, .int .i64 a2_1] 23 (0, 0)) (by (with_reducible repeat (first | refine bN ?_ _ | refine bW ?_ | refine bA ?_ _)); exact BK140.out)) : gb140 ≠ gb161)); have n15_ := aZ ((by rw [hg]; exact Nat.ne_of_gt (bL (g := gb140) (o := .cells #[.int .i64 a2_0, .int .i64 a2_1] 23 (0, 0)) (by (with_reducible repeat (first | refine bN ?_ _ | refine bW ?_ | refine bA ?_ _)); exact BK140.out)) : gb161 ≠ gb140)); have n16_ := aZ ((by rw [hg]; exact Nat.ne_of_lt (bL (g := gb148) (o := .cells #[.int .i64 t145, .int .i64 t146] 23 (0, 0)) (by (with_reducible repeat (first | refine bN ?_ _ | refine bW ?_ | refine bA ?_ _)); exact BK148.out)) : gb148 ≠ gb161)); have n17_ := aZ ((by rw [hg]; exact Nat.ne_of_gt (bL (g := gb148) (o := .cells #[.int .i64 t145, .int .i64 t146] 23 (0, 0)) (by (with_reducible repeat (first | refine bN ?_ _ | refine bW ?_ | refine bA ?_ _)); exact BK148.out)) : gb161 ≠ gb148)); have n18_ := aZ ((by rw [hg]; exact Nat.ne_of_lt (bL (g := gb152) (o := .cells #[.int .i64 t149, .int .i64 t150] 23 (0, 0)) (by (with_reducible repeat (first | refine bN ?_ _ | refine bW ?_ | refine bA ?_ _)); exact BK152.out)) : gb152 ≠ gb161)); have n19_ := aZ ((by rw [hg]; exact Nat.ne_of_gt (bL (g := gb152) (o := .cells #[.int .i64 t149, .int .i64 t150] 23 (0, 0)) (by (with_reducible repeat (first | refine bN ?_ _ | refine bW ?_ | refine bA ?_ _)); exact BK152.out)) : gb161 ≠ gb152)); have n20_ := aZ ((by rw [hg]; exact Nat.ne_of_lt (bL (g := gb156) (o := .cells #[.int .i64 t153, .int .i64 t154] 23 (0, 0)) (by (with_reducible repeat (first | refine bN ?_ _ | refine bW ?_ | refine bA ?_ _)); exact BK156.out)) : gb156 ≠ gb161)); have n21_ := aZ ((by rw [hg]; exact Nat.ne_of_gt (bL (g := gb156) (o := .cells #[.int .i64 t153, .int .i64 t154] 23 (0, 0)) (by (with_reducible repeat (first | refine bN ?_ _ | refine bW ?_ | refine bA ?_ _)); exact BK156.out)) : gb161 ≠ gb156)); clear BK138; clear BK139; clear BK140; clear BK148; clear BK152; clear BK156; clear HB; have BK138 := n0_; have BK139 := n1_; have BK140 := n2_; have BK148 := n3_; have BK152 := n4_; have BK156 := n5_; have HB := n6_; have BK161 := n7_; have GW161 := n8_; have GE161 := n9_; have NB138_161 := n10_; have NB161_138 := n11_; have NB139_161 := n12_; have NB161_139 := n13_; have NB140_161 := n14_; have NB161_140 := n15_; have NB148_161 := n16_; have NB161_148 := n17_; have NB152_161 := n18_; have NB161_152 := n19_; have NB156_161 := n20_; have NB161_156 := n21_; clear n0_ n1_ n2_ n3_ n4_ n5_ n6_ n7_ n8_ n9_ n10_ n11_ n12_ n13_ n14_ n15_ n16_ n17_ n18_ n19_ n20_ n21_; clear hb hbox hg; have hnb136 := NB161_138.out; have hnc136 := NB138_161.out; have hnb137 := NB161_139.out; have hnc137 := NB139_161.out; have hnb138 := NB161_140.out; have hnc138 := NB140_161.out; have hnb139 := NB161_148.out; have hnc139 := NB148_161.out; have hnb140 := NB161_152.out; have hnc140 := NB152_161.out; have hnb141 := NB161_156.out; have hnc141 := NB156_161.out; have hcz142_0 : w135.cell? ⟨gb161, 0, none⟩ = some (.int .i64 0) := (bC BK161.out 0).trans rfl; have hcz142_1 : w135.cell? ⟨gb161, 1, none⟩ = some (.int .i64 0) := (bC BK161.out 1).trans rfl; have hfz142_0 := bZ BK161.out 0; have hfz142_1 := bZ BK161.out 1; have hnb143 := NB138_139.out; have hnc143 := NB139_138.out; have hnb144 := NB138_152.out; have hnc144 := NB152_138.out; have hnb145 := NB138_156.out; have hnc145 := NB156_138.out; have hcz146_0 : w135.cell? ⟨gb138, 0, none⟩ = some (.int .i64 a0_0) := (bC BK138.out 0).trans rfl; have hcz146_1 : w135.cell? ⟨gb138, 1, none⟩ = some (.int .i64 a0_1) := (bC BK138.out 1).trans rfl; have hfz146_0 := bZ BK138.out 0; have hfz146_1 := bZ BK138.out 1; have hnb147 := NB156_139.out; have hnc147 := NB139_156.out; have hnb148 := NB156_152.out; have hnc148 := NB152_156.out; have hcz149_0 : w135.cell? ⟨gb156, 0, none⟩ = some (.int .i64 t153) := (bC BK156.out 0).trans rfl; have hcz149_1 : w135.cell? ⟨gb156, 1, none⟩ = some (.int .i64 t154) := (bC BK156.out 1).trans rfl; have hfz149_0 := bZ BK156.out 0; have hfz149_1 := bZ BK156.out 1) | ((with_reducible refine gC (f := 7) rfl ?_); refine goesL_ (some 95) rfl rfl Try.func7 (by kernel_rfl) rfl #[.agg #[.int .i64 a0_0, .int .i64 a0_1], .agg #[.int .i64 t153, .int .i64 t154]] rfl (by (try simp only [List.map_toArray, List.map_cons, List.map_nil]); first | done | rfl | (simp only [List.length_drop, List.length_take]; rfl)) ?_; (with_reducible refine (slackwaterlaw08_add.calls kj60 a0_0 a0_1 t153 t154 t162 t163 t164 _ A121.out).mono ?_); rintro e w150 ⟨rfl, hb⟩; refine ⟨_, rfl, ?_⟩; have n0_ := aZ (bB (g := gb138) (o := .cells #[.int .i64 a0_0, .int .i64 a0_1] 23 (0, 0)) (by (with_reducible repeat (first | refine bN ?_ _ | refine bW ?_ | refine bA ?_ _)); refine bF ?_ NB138_161.out _; (with_reducible repeat (first | refine bN ?_ _ | refine bW ?_ | refine bA ?_ _)); refine bF ?_ NB138_161.out _; (with_reducible repeat (first | refine bN ?_ _ | refine bW ?_ | refine bA ?_ _)); exact BK138.out) hb); have n1_ := aZ (bB (g := gb139) (o := .cells #[.int .i64 a1_0, .int .i64 a1_1] 23 (0, 0)) (by (with_reducible repeat (first | refine bN ?_ _ | refine bW ?_ | refine bA ?_ _)); refine bF ?_ NB139_161.out _; (with_reducible repeat (first | refine bN ?_ _ | refine bW ?_ | refine bA ?_ _)); refine bF ?_ NB139_161.out _; (with_reducible repeat (first | refine bN ?_ _ | refine bW ?_ | refine bA ?_ _)); exact BK139.out) hb); have n2_ := aZ (bB (g := gb140) (o := .cells #[.int .i64 a2_0, .int .i64 a2_1] 23 (0, 0)) (by (with_reducible repeat (first | refine bN ?_ _ | refine bW ?_ | refine bA ?_ _)); refine bF ?_ NB140_161.out _; (with_reducible repeat (first | refine bN ?_ _ | refine bW ?_ | refine bA ?_ _)); refine bF ?_ NB140_161.out _; (with_reducible repeat (first | refine bN ?_ _ | refine bW ?_ | refine bA ?_ _)); exact BK140.out) hb); have n3_ := aZ (bB (g := gb148) (o := .cells #[.int .i64 t145, .int .i64 t146] 23 (0, 0)) (by (with_reducible repeat (first | refine bN ?_ _ | refine bW ?_ | refine bA ?_ _)); refine bF ?_ NB148_161.out _; (with_reducible repeat (first | refine bN ?_ _ | refine bW ?_ | refine bA ?_ _)); refine bF ?_ NB148_161.out _; (with_reducible repeat (first | refine bN ?_ _ | refine bW ?_ | refine bA ?_ _)); exact BK148.out) hb); have n4_ := aZ (bB (g := gb152) (o := .cells #[.int .i64 t149, .int .i64 t150] 23 (0, 0)) (by (with_reducible repeat (first | refine bN ?_ _ | refine bW ?_ | refine bA ?_ _)); refine bF ?_ NB152_161.out _; (with_reducible repeat (first | refine bN ?_ _ | refine bW ?_ | refine bA ?_ _)); refine bF ?_ NB152_161.out _; (with_reducible repeat (first | refine bN ?_ _ | refine bW ?_ | refine bA ?_ _)); exact BK152.out) hb); have n5_ := aZ (bB (g := gb156) (o := .cells #[.int .i64 t153, .int .i64 t154] 23 (0, 0)) (by (with_reducible repeat (first | refine bN ?_ _ | refine bW ?_ | refine bA ?_ _)); refine bF ?_ NB156_161.out _; (with_reducible repeat (first | refine bN ?_ _ | refine bW ?_ | refine bA ?_ _)); refine bF ?_ NB156_161.out _; (with_reducible repeat (first | refine bN ?_ _ | refine bW ?_ | refine bA ?_ _)); exact BK156.out) hb); have n6_ := aZ (bB (g := gb161) (o := .cells #[.int .i64 t158, .int .i64 t159] 23 (0, 0)) (by (with_reducible repeat (first | refine bN ?_ _ | refine bW ?_ | refine bA ?_ _)); refine blk_put (cs := #[.int .i64 t158, .int .i64 0]) ?_ 1 _ rfl; (with_reducible repeat (first | refine bN ?_ _ | refine bW ?_ | refine bA ?_ _)); refine blk_put (cs := #[.int .i64 0, .int .i64 0]) ?_ 0 _ rfl; (with_reducible repeat (first | refine bN ?_ _ | refine bW ?_ | refine bA ?_ _)); exact BK161.out) hb); have n7_ := aZ (wP (by repeat (first | (with_reducible first | exact HB.out | apply wA | apply wN | apply wD | refine wS ?_ GE138.out | refine wS ?_ GE139.out | refine wS ?_ GE140.out | refine wS ?_ GE148.out | refine wS ?_ GE152.out | refine wS ?_ GE156.out | refine wS ?_ GE161.out) | exact HB.out)) hb); clear BK138; clear BK139; clear BK140; clear BK148; clear BK152; clear BK156; clear BK161; clear HB; have BK138 := n0_; have BK139 := n1_; have BK140 := n2_; have BK148 := n3_; have BK152 := n4_; have BK156 := n5_; have BK161 := n6_; have HB := n7_; clear n0_ n1_ n2_ n3_ n4_ n5_ n6_ n7_; (try clear hb); (try clear hb2); (try clear hk); (try clear hi)) | ((with_reducible refine gD (N := 17) rfl ?_); refine gB ?hg (N := 17) ?hd (cs := #[.int .i64 0, .int .i64 0]) (t := 23) ?hr ?_; (case hd => rfl); (case hg => rfl); (case hr => first | (go_simp; done) | (go_simp; rfl)); intro gb165 hg w151 hbox hb; have n0_ := aZ (bB (g := gb138) (o := .cells #[.int .i64 a0_0, .int .i64 a0_1] 23 (0, 0)) (by (with_reducible repeat (first | refine bN ?_ _ | refine bW ?_ | refine bA ?_ _)); exact BK138.out) hb); have n1_ := aZ (bB (g := gb139) (o := .cells #[.int .i64 a1_0, .int .i64 a1_1] 23 (0, 0)) (by (with_reducible repeat (first | refine bN ?_ _ | refine bW ?_ | refine bA ?_ _)); exact BK139.out) hb); have n2_ := aZ (bB (g := gb140) (o := .cells #[.int .i64 a2_0, .int .i64 a2_1] 23 (0, 0)) (by (with_reducible repeat (first | refine bN ?_ _ | refine bW ?_ | refine bA ?_ _)); exact BK140.out) hb); have n3_ := aZ (bB (g := gb148) (o := .cells #[.int .i64 t145, .int .i64 t146] 23 (0, 0)) (by (with_reducible repeat (first | refine bN ?_ _ | refine bW ?_ | refine bA ?_ _)); exact BK148.out) hb); have n4_ := aZ (bB (g := gb152) (o := .cells #[.int .i64 t149, .int .i64 t150] 23 (0, 0)) (by (with_reducible repeat (first | refine bN ?_ _ | refine bW ?_ | refine bA ?_ _)); exact BK152.out) hb); have n5_ := aZ (bB (g := gb156) (o := .cells #[.int .i64 t153, .int .i64 t154] 23 (0, 0)) (by (with_reducible repeat (first | refine bN ?_ _ | refine bW ?_ | refine bA ?_ _)); exact BK156.out) hb); have n6_ := aZ (bB (g := gb161) (o := .cells #[.int .i64 t158, .int .i64 t159] 23 (0, 0)) (by (with_reducible repeat (first | refine bN ?_ _ | refine bW ?_ | refine bA ?_ _)); exact BK161.out) hb); have n7_ := aZ (wP (by repeat (first | (with_reducible first | exact HB.out | apply wA | apply wN | apply wD | refine wS ?_ GE138.out | refine wS ?_ GE139.out | refine wS ?_ GE140.out | refine wS ?_ GE148.out | refine wS ?_ GE152.out | refine wS ?_ GE156.out | refine wS ?_ GE161.out) | exact HB.out)) hb); have n8_ := aZ (hbox); have n9_ := aZ ((by rw [hg]; exact (wZ (by repeat (first | (with_reducible first | exact HB.out | apply wA | apply wN | apply wD | refine wS ?_ GE138.out | refine wS ?_ GE139.out | refine wS ?_ GE140.out | refine wS ?_ GE148.out | refine wS ?_ GE152.out | refine wS ?_ GE156.out | refine wS ?_ GE161.out) | exact HB.out))) : w.heap.size ≤ gb165)); have n10_ := aZ ((by rw [hg]; exact (wZ (by repeat (first | (with_reducible first | exact HB.out | apply wA | apply wN | apply wD | refine wS ?_ GE138.out | refine wS ?_ GE139.out | refine wS ?_ GE140.out | refine wS ?_ GE148.out | refine wS ?_ GE152.out | refine wS ?_ GE156.out | refine wS ?_ GE161.out) | exact HB.out))) : w.heap.size ≤ gb165)); have n11_ := aZ ((by rw [hg]; exact Nat.ne_of_lt (bL (g := gb138) (o := .cells #[.int .i64 a0_0, .int .i64 a0_1] 23 (0, 0)) (by (with_reducible repeat (first | refine bN ?_ _ | refine bW ?_ | refine bA ?_ _)); exact BK138.out)) : gb138 ≠ gb165)); have n12_ := aZ ((by rw [hg]; exact Nat.ne_of_gt (bL (g := gb138) (o := .cells #[.int .i64 a0_0, .int .i64 a0_1] 23 (0, 0)) (by (with_reducible repeat (first | refine bN ?_ _ | refine bW ?_ | refine bA ?_ _)); exact BK138.out)) : gb165 ≠ gb138)); have n13_ := aZ ((by rw [hg]; exact Nat.ne_of_lt (bL (g := gb139) (o := .cells #[.int .i64 a1_0, .int .i64 a1_1] 23 (0, 0)) (by (with_reducible repeat (first | refine bN ?_ _ | refine bW ?_ | refine bA ?_ _)); exact BK139.out)) : gb139 ≠ gb165)); have n14_ := aZ ((by rw [hg]; exact Nat.ne_of_gt (bL (g := gb139) (o := .cells #[.int .i64 a1_0, .int .i64 a1_1] 23 (0, 0)) (by (with_reducible repeat (first | refine bN ?_ _ | refine bW ?_ | refine bA ?_ _)); exact BK139.out)) : gb165 ≠ gb139)); have n15_ := aZ ((by rw [hg]; exact Nat.ne_of_lt (bL (g := gb140) (o := .cells #[.int .i64 a2_0, .int .i64 a2_1] 23 (0, 0)) (by (with_reducible repeat (first | refine bN ?_ _ | refine bW ?_ | refine bA ?_ _)); exact BK140.out)) : gb140 ≠ gb165)); have n16_ := aZ ((by rw [hg]; exact Nat.ne_of_gt (bL (g := gb140) (o := .cells #[.int .i64 a2_0, .int .i64 a2_1] 23 (0, 0)) (by (with_reducible repeat (first | refine bN ?_ _ | refine bW ?_ | refine bA ?_ _)); exact BK140.out)) : gb165 ≠ gb140)); have n17_ := aZ ((by rw [hg]; exact Nat.ne_of_lt (bL (g := gb148) (o := .cells #[.int .i64 t145, .int .i64 t146] 23 (0, 0)) (by (with_reducible repeat (first | refine bN ?_ _ | refine bW ?_ | refine bA ?_ _)); exact BK148.out)) : gb148 ≠ gb165)); have n18_ := aZ ((by rw [hg]; exact Nat.ne_of_gt (bL (g := gb148) (o := .cells #[.int .i64 t145, .int .i64 t146] 23 (0, 0)) (by (with_reducible repeat (first | refine bN ?_ _ | refine bW ?_ | refine bA ?_ _)); exact BK148.out)) : gb165 ≠ gb148)); have n19_ := aZ ((by rw [hg]; exact Nat.ne_of_lt (bL (g := gb152) (o := .cells #[.int .i64 t149, .int .i64 t150] 23 (0, 0)) (by (with_reducible repeat (first | refine bN ?_ _ | refine bW ?_ | refine bA ?_ _)); exact BK152.out)) : gb152 ≠ gb165)); have n20_ := aZ ((by rw [hg]; exact Nat.ne_of_gt (bL (g := gb152) (o := .cells #[.int .i64 t149, .int .i64 t150] 23 (0, 0)) (by (with_reducible repeat (first | refine bN ?_ _ | refine bW ?_ | refine bA ?_ _)); exact BK152.out)) : gb165 ≠ gb152)); have n21_ := aZ ((by rw [hg]; exact Nat.ne_of_lt (bL (g := gb156) (o := .cells #[.int .i64 t153, .int .i64 t154] 23 (0, 0)) (by (with_reducible repeat (first | refine bN ?_ _ | refine bW ?_ | refine bA ?_ _)); exact BK156.out)) : gb156 ≠ gb165)); have n22_ := aZ ((by rw [hg]; exact Nat.ne_of_gt (bL (g := gb156) (o := .cells #[.int .i64 t153, .int .i64 t154] 23 (0, 0)) (by (with_reducible repeat (first | refine bN ?_ _ | refine bW ?_ | refine bA ?_ _)); exact BK156.out)) : gb165 ≠ gb156)); have n23_ := aZ ((by rw [hg]; exact Nat.ne_of_lt (bL (g := gb161) (o := .cells #[.int .i64 t158, .int .i64 t159] 23 (0, 0)) (by (with_reducible repeat (first | refine bN ?_ _ | refine bW ?_ | refine bA ?_ _)); exact BK161.out)) : gb161 ≠ gb165)); have n24_ := aZ ((by rw [hg]; exact Nat.ne_of_gt (bL (g := gb161) (o := .cells #[.int .i64 t158, .int .i64 t159] 23 (0, 0)) (by (with_reducible repeat (first | refine bN ?_ _ | refine bW ?_ | refine bA ?_ _)); exact BK161.out)) : gb165 ≠ gb161)); clear BK138; clear BK139; clear BK140; clear BK148; clear BK152; clear BK156; clear BK161; clear HB; have BK138 := n0_; have BK139 := n1_; have BK140 := n2_; have BK148 := n3_; have BK152 := n4_; have BK156 := n5_; have BK161 := n6_; have HB := n7_; have BK165 := n8_; have GW165 := n9_; have GE165 := n10_; have NB138_165 := n11_; have NB165_138 := n12_; have NB139_165 := n13_; have NB165_139 := n14_; have NB140_165 := n15_; have NB165_140 := n16_; have NB148_165 := n17_; have NB165_148 := n18_; have NB152_165 := n19_; have NB165_152 := n20_; have NB156_165 := n21_; have NB165_156 := n22_; have NB161_165 := n23_; have NB165_161 := n24_; clear n0_ n1_ n2_ n3_ n4_ n5_ n6_ n7_ n8_ n9_ n10_ n11_ n12_ n13_ n14_ n15_ n16_ n17_ n18_ n19_ n20_ n21_ n22_ n23_ n24_; clear hb hbox hg; have hnb152 := NB165_138.out; have hnc152 := NB138_165.out; have hnb153 := NB165_139.out; have hnc153 := NB139_165.out; have hnb154 := NB165_140.out; have hnc154 := NB140_165.out; have hnb155 := NB165_148.out; have hnc155 := NB148_165.out; have hnb156 := NB165_152.out; have hnc156 := NB152_165.out; have hnb157 := NB165_156.out; have hnc157 := NB156_165.out; have hnb158 := NB165_161.out; have hnc158 := NB161_165.out; have hcz159_0 : w151.cell? ⟨gb165, 0, none⟩ = some (.int .i64 0) := (bC BK165.out 0).trans rfl; have hcz159_1 : w151.cell? ⟨gb165, 1, none⟩ = some (.int .i64 0) := (bC BK165.out 1).trans rfl; have hfz159_0 := bZ BK165.out 0; have hfz159_1 := bZ BK165.out 1))
    (try simp only [Act.put, List.setIfInBounds_toArray, List.set_cons_zero, List.set_cons_succ])
    go_cut [112] (fun v112 wc => ∃ (kq : Nat) (x112_121 : Bool), v112 = .bool x112_121 ∧ Aside0 (slackwaterlaw08_TurnGroup.j2 kq a3 t147 x112_121 a0_0 a0_1 a1_0 a1_1 t145 t146 = some r) ∧ Aside0 (kq ≤ kj60) ∧ Aside0 (wc.heap[gb138]? = some (.cells #[.int .i64 a0_0, .int .i64 a0_1] 23 (0, 0))) ∧ Aside0 (wc.heap[gb139]? = some (.cells #[.int .i64 a1_0, .int .i64 a1_1] 23 (0, 0))) ∧ Aside0 (wc.heap[gb140]? = some (.cells #[.int .i64 a2_0, .int .i64 a2_1] 23 (0, 0))) ∧ Aside0 (wc.heap[gb148]? = some (.cells #[.int .i64 t145, .int .i64 t146] 23 (0, 0))) ∧ Aside0 (wc.heap[gb152]? = some (.cells #[.int .i64 t149, .int .i64 t150] 23 (0, 0))) ∧ Aside0 (wc.heap[gb156]? = some (.cells #[.int .i64 t153, .int .i64 t154] 23 (0, 0))) ∧ Aside0 (wc.heap[gb161]? = some (.cells #[.int .i64 t158, .int .i64 t159] 23 (0, 0))) ∧ Aside0 (wc.heap[gb165]? = some (.cells #[.int .i64 t162, .int .i64 t163] 23 (0, 0))) ∧ Aside0 (Below w.heap.size w wc))
    case first =>
     have H := HC122.out
     clear HC122
     by_cases c160 : t147 = true
     ·
      subst c160
      have H1 : (if t155 = true then (if t160 = true then (if t164 = true then (slackwaterlaw08_TurnGroup.j2 kj60 a3 true (!(t158 == t162) || (!(t159 == t163))) a0_0 a0_1 a1_0 a1_1 t145 t146) else (slackwaterlaw08_TurnGroup.j2 kj60 a3 true false a0_0 a0_1 a1_0 a1_1 t145 t146)) else (slackwaterlaw08_TurnGroup.j2 kj60 a3 true false a0_0 a0_1 a1_0 a1_1 t145 t146)) else (slackwaterlaw08_TurnGroup.j2 kj60 a3 true false a0_0 a0_1 a1_0 a1_1 t145 t146)) = some r := by rw [if_pos rfl] at H; exact H
      clear H
      have H := H1
      clear H1
      by_cases c161 : t155 = true
      ·
       subst c161
       have H1 : (if t160 = true then (if t164 = true then (slackwaterlaw08_TurnGroup.j2 kj60 a3 true (!(t158 == t162) || (!(t159 == t163))) a0_0 a0_1 a1_0 a1_1 t145 t146) else (slackwaterlaw08_TurnGroup.j2 kj60 a3 true false a0_0 a0_1 a1_0 a1_1 t145 t146)) else (slackwaterlaw08_TurnGroup.j2 kj60 a3 true false a0_0 a0_1 a1_0 a1_1 t145 t146)) = some r := by rw [if_pos rfl] at H; exact H
       clear H
       have H := H1
       clear H1
       by_cases c162 : t160 = true
       ·
        subst c162
        have H1 : (if t164 = true then (slackwaterlaw08_TurnGroup.j2 kj60 a3 true (!(t158 == t162) || (!(t159 == t163))) a0_0 a0_1 a1_0 a1_1 t145 t146) else (slackwaterlaw08_TurnGroup.j2 kj60 a3 true false a0_0 a0_1 a1_0 a1_1 t145 t146)) = some r := by rw [if_pos rfl] at H; exact H
        clear H
        have H := H1
        clear H1
        by_cases c163 : t164 = true
        ·
         subst c163
         have H1 : (slackwaterlaw08_TurnGroup.j2 kj60 a3 true (!(t158 == t162) || (!(t159 == t163))) a0_0 a0_1 a1_0 a1_1 t145 t146) = some r := by rw [if_pos rfl] at H; exact H
         clear H
         have H := H1
         clear H1
         have H' := Aside0.mk H
         clear H
         have hnb164 := NB161_138.out
         have hnc164 := NB138_161.out
         have hnb165 := NB161_139.out
         have hnc165 := NB139_161.out
         have hnb166 := NB161_140.out
         have hnc166 := NB140_161.out
         have hnb167 := NB161_148.out
         have hnc167 := NB148_161.out
         have hnb168 := NB161_152.out
         have hnc168 := NB152_161.out
         have hnb169 := NB161_156.out
         have hnc169 := NB156_161.out
         have hnb170 := NB161_165.out
         have hnc170 := NB165_161.out
         have hcz171_0 : w151.cell? ⟨gb161, 0, none⟩ = some (.int .i64 t158) := (bC BK161.out 0).trans rfl
         have hcz171_1 : w151.cell? ⟨gb161, 1, none⟩ = some (.int .i64 t159) := (bC BK161.out 1).trans rfl
         have hfz171_0 := bZ BK161.out 0
         have hfz171_1 := bZ BK161.out 1
         have hnb172 := NB165_138.out
         have hnc172 := NB138_165.out
         have hnb173 := NB165_139.out
         have hnc173 := NB139_165.out
         have hnb174 := NB165_140.out
         have hnc174 := NB140_165.out
         have hnb175 := NB165_148.out
         have hnc175 := NB148_165.out
         have hnb176 := NB165_152.out
         have hnc176 := NB152_165.out
         have hnb177 := NB165_156.out
         have hnc177 := NB156_165.out
         have hcz178_0 : w151.cell? ⟨gb165, 0, none⟩ = some (.int .i64 0) := (bC BK165.out 0).trans rfl
         have hcz178_1 : w151.cell? ⟨gb165, 1, none⟩ = some (.int .i64 0) := (bC BK165.out 1).trans rfl
         have hfz178_0 := bZ BK165.out 0
         have hfz178_1 := bZ BK165.out 1
         go_wp2
         go_meet
         case rel => exact ⟨_, ((!(t158 == t162) || (!(t159 == t163)))), (by first | rfl | (simp; done) | (simp [*]; done)), H', ⟨by have := HJ6.out; have := HJ60.out; first | omega | exact Nat.le_refl _⟩, ⟨by (with_reducible repeat (first | refine bN ?_ _ | refine bW ?_ | refine bA ?_ _)); refine bF ?_ NB138_165.out _; (with_reducible repeat (first | refine bN ?_ _ | refine bW ?_ | refine bA ?_ _)); refine bF ?_ NB138_165.out _; (with_reducible repeat (first | refine bN ?_ _ | refine bW ?_ | refine bA ?_ _)); exact BK138.out⟩, ⟨by (with_reducible repeat (first | refine bN ?_ _ | refine bW ?_ | refine bA ?_ _)); refine bF ?_ NB139_165.out _; (with_reducible repeat (first | refine bN ?_ _ | refine bW ?_ | refine bA ?_ _)); refine bF ?_ NB139_165.out _; (with_reducible repeat (first | refine bN ?_ _ | refine bW ?_ | refine bA ?_ _)); exact BK139.out⟩, ⟨by (with_reducible repeat (first | refine bN ?_ _ | refine bW ?_ | refine bA ?_ _)); refine bF ?_ NB140_165.out _; (with_reducible repeat (first | refine bN ?_ _ | refine bW ?_ | refine bA ?_ _)); refine bF ?_ NB140_165.out _; (with_reducible repeat (first | refine bN ?_ _ | refine bW ?_ | refine bA ?_ _)); exact BK140.out⟩, ⟨by (with_reducible repeat (first | refine bN ?_ _ | refine bW ?_ | refine bA ?_ _)); refine bF ?_ NB148_165.out _; (with_reducible repeat (first | refine bN ?_ _ | refine bW ?_ | refine bA ?_ _)); refine bF ?_ NB148_165.out _; (with_reducible repeat (first | refine bN ?_ _ | refine bW ?_ | refine bA ?_ _)); exact BK148.out⟩, ⟨by (with_reducible repeat (first | refine bN ?_ _ | refine bW ?_ | refine bA ?_ _)); refine bF ?_ NB152_165.out _; (with_reducible repeat (first | refine bN ?_ _ | refine bW ?_ | refine bA ?_ _)); refine bF ?_ NB152_165.out _; (with_reducible repeat (first | refine bN ?_ _ | refine bW ?_ | refine bA ?_ _)); exact BK152.out⟩, ⟨by (with_reducible repeat (first | refine bN ?_ _ | refine bW ?_ | refine bA ?_ _)); refine bF ?_ NB156_165.out _; (with_reducible repeat (first | refine bN ?_ _ | refine bW ?_ | refine bA ?_ _)); refine bF ?_ NB156_165.out _; (with_reducible repeat (first | refine bN ?_ _ | refine bW ?_ | refine bA ?_ _)); exact BK156.out⟩, ⟨by (with_reducible repeat (first | refine bN ?_ _ | refine bW ?_ | refine bA ?_ _)); refine bF ?_ NB161_165.out _; (with_reducible repeat (first | refine bN ?_ _ | refine bW ?_ | refine bA ?_ _)); refine bF ?_ NB161_165.out _; (with_reducible repeat (first | refine bN ?_ _ | refine bW ?_ | refine bA ?_ _)); exact BK161.out⟩, ⟨by (with_reducible repeat (first | refine bN ?_ _ | refine bW ?_ | refine bA ?_ _)); refine blk_put (cs := #[.int .i64 t162, .int .i64 0]) ?_ 1 _ rfl; (with_reducible repeat (first | refine bN ?_ _ | refine bW ?_ | refine bA ?_ _)); refine blk_put (cs := #[.int .i64 0, .int .i64 0]) ?_ 0 _ rfl; (with_reducible repeat (first | refine bN ?_ _ | refine bW ?_ | refine bA ?_ _)); exact BK165.out⟩, ⟨by repeat (first | (with_reducible first | exact HB.out | apply wA | apply wN | apply wD | refine wS ?_ GE138.out | refine wS ?_ GE139.out | refine wS ?_ GE140.out | refine wS ?_ GE148.out | refine wS ?_ GE152.out | refine wS ?_ GE156.out | refine wS ?_ GE161.out | refine wS ?_ GE165.out) | exact HB.out)⟩⟩
        replace c163 := Bool.eq_false_iff.mpr c163
        subst c163
        have H1 : (slackwaterlaw08_TurnGroup.j2 kj60 a3 true false a0_0 a0_1 a1_0 a1_1 t145 t146) = some r := by rw [if_neg (show ¬ (false = true) by decide)] at H; exact H
        clear H
        have H := H1
        clear H1
        have H' := Aside0.mk H
        clear H
        go_wp2
        go_meet
        case rel => exact ⟨_, (false), (by first | rfl | (simp; done) | (simp [*]; done)), H', ⟨by have := HJ6.out; have := HJ60.out; first | omega | exact Nat.le_refl _⟩, ⟨by (with_reducible repeat (first | refine bN ?_ _ | refine bW ?_ | refine bA ?_ _)); refine bF ?_ NB138_165.out _; (with_reducible repeat (first | refine bN ?_ _ | refine bW ?_ | refine bA ?_ _)); refine bF ?_ NB138_165.out _; (with_reducible repeat (first | refine bN ?_ _ | refine bW ?_ | refine bA ?_ _)); exact BK138.out⟩, ⟨by (with_reducible repeat (first | refine bN ?_ _ | refine bW ?_ | refine bA ?_ _)); refine bF ?_ NB139_165.out _; (with_reducible repeat (first | refine bN ?_ _ | refine bW ?_ | refine bA ?_ _)); refine bF ?_ NB139_165.out _; (with_reducible repeat (first | refine bN ?_ _ | refine bW ?_ | refine bA ?_ _)); exact BK139.out⟩, ⟨by (with_reducible repeat (first | refine bN ?_ _ | refine bW ?_ | refine bA ?_ _)); refine bF ?_ NB140_165.out _; (with_reducible repeat (first | refine bN ?_ _ | refine bW ?_ | refine bA ?_ _)); refine bF ?_ NB140_165.out _; (with_reducible repeat (first | refine bN ?_ _ | refine bW ?_ | refine bA ?_ _)); exact BK140.out⟩, ⟨by (with_reducible repeat (first | refine bN ?_ _ | refine bW ?_ | refine bA ?_ _)); refine bF ?_ NB148_165.out _; (with_reducible repeat (first | refine bN ?_ _ | refine bW ?_ | refine bA ?_ _)); refine bF ?_ NB148_165.out _; (with_reducible repeat (first | refine bN ?_ _ | refine bW ?_ | refine bA ?_ _)); exact BK148.out⟩, ⟨by (with_reducible repeat (first | refine bN ?_ _ | refine bW ?_ | refine bA ?_ _)); refine bF ?_ NB152_165.out _; (with_reducible repeat (first | refine bN ?_ _ | refine bW ?_ | refine bA ?_ _)); refine bF ?_ NB152_165.out _; (with_reducible repeat (first | refine bN ?_ _ | refine bW ?_ | refine bA ?_ _)); exact BK152.out⟩, ⟨by (with_reducible repeat (first | refine bN ?_ _ | refine bW ?_ | refine bA ?_ _)); refine bF ?_ NB156_165.out _; (with_reducible repeat (first | refine bN ?_ _ | refine bW ?_ | refine bA ?_ _)); refine bF ?_ NB156_165.out _; (with_reducible repeat (first | refine bN ?_ _ | refine bW ?_ | refine bA ?_ _)); exact BK156.out⟩, ⟨by (with_reducible repeat (first | refine bN ?_ _ | refine bW ?_ | refine bA ?_ _)); refine bF ?_ NB161_165.out _; (with_reducible repeat (first | refine bN ?_ _ | refine bW ?_ | refine bA ?_ _)); refine bF ?_ NB161_165.out _; (with_reducible repeat (first | refine bN ?_ _ | refine bW ?_ | refine bA ?_ _)); exact BK161.out⟩, ⟨by (with_reducible repeat (first | refine bN ?_ _ | refine bW ?_ | refine bA ?_ _)); refine blk_put (cs := #[.int .i64 t162, .int .i64 0]) ?_ 1 _ rfl; (with_reducible repeat (first | refine bN ?_ _ | refine bW ?_ | refine bA ?_ _)); refine blk_put (cs := #[.int .i64 0, .int .i64 0]) ?_ 0 _ rfl; (with_reducible repeat (first | refine bN ?_ _ | refine bW ?_ | refine bA ?_ _)); exact BK165.out⟩, ⟨by repeat (first | (with_reducible first | exact HB.out | apply wA | apply wN | apply wD | refine wS ?_ GE138.out | refine wS ?_ GE139.out | refine wS ?_ GE140.out | refine wS ?_ GE148.out | refine wS ?_ GE152.out | refine wS ?_ GE156.out | refine wS ?_ GE161.out | refine wS ?_ GE165.out) | exact HB.out)⟩⟩
       replace c162 := Bool.eq_false_iff.mpr c162
       subst c162
       have H1 : (slackwaterlaw08_TurnGroup.j2 kj60 a3 true false a0_0 a0_1 a1_0 a1_1 t145 t146) = some r := by rw [if_neg (show ¬ (false = true) by decide)] at H; exact H
       clear H
       have H := H1
       clear H1
       have H' := Aside0.mk H
       clear H
       go_wp2
       go_meet
       case rel => exact ⟨_, (false), (by first | rfl | (simp; done) | (simp [*]; done)), H', ⟨by have := HJ6.out; have := HJ60.out; first | omega | exact Nat.le_refl _⟩, ⟨by (with_reducible repeat (first | refine bN ?_ _ | refine bW ?_ | refine bA ?_ _)); refine bF ?_ NB138_165.out _; (with_reducible repeat (first | refine bN ?_ _ | refine bW ?_ | refine bA ?_ _)); refine bF ?_ NB138_165.out _; (with_reducible repeat (first | refine bN ?_ _ | refine bW ?_ | refine bA ?_ _)); exact BK138.out⟩, ⟨by (with_reducible repeat (first | refine bN ?_ _ | refine bW ?_ | refine bA ?_ _)); refine bF ?_ NB139_165.out _; (with_reducible repeat (first | refine bN ?_ _ | refine bW ?_ | refine bA ?_ _)); refine bF ?_ NB139_165.out _; (with_reducible repeat (first | refine bN ?_ _ | refine bW ?_ | refine bA ?_ _)); exact BK139.out⟩, ⟨by (with_reducible repeat (first | refine bN ?_ _ | refine bW ?_ | refine bA ?_ _)); refine bF ?_ NB140_165.out _; (with_reducible repeat (first | refine bN ?_ _ | refine bW ?_ | refine bA ?_ _)); refine bF ?_ NB140_165.out _; (with_reducible repeat (first | refine bN ?_ _ | refine bW ?_ | refine bA ?_ _)); exact BK140.out⟩, ⟨by (with_reducible repeat (first | refine bN ?_ _ | refine bW ?_ | refine bA ?_ _)); refine bF ?_ NB148_165.out _; (with_reducible repeat (first | refine bN ?_ _ | refine bW ?_ | refine bA ?_ _)); refine bF ?_ NB148_165.out _; (with_reducible repeat (first | refine bN ?_ _ | refine bW ?_ | refine bA ?_ _)); exact BK148.out⟩, ⟨by (with_reducible repeat (first | refine bN ?_ _ | refine bW ?_ | refine bA ?_ _)); refine bF ?_ NB152_165.out _; (with_reducible repeat (first | refine bN ?_ _ | refine bW ?_ | refine bA ?_ _)); refine bF ?_ NB152_165.out _; (with_reducible repeat (first | refine bN ?_ _ | refine bW ?_ | refine bA ?_ _)); exact BK152.out⟩, ⟨by (with_reducible repeat (first | refine bN ?_ _ | refine bW ?_ | refine bA ?_ _)); refine bF ?_ NB156_165.out _; (with_reducible repeat (first | refine bN ?_ _ | refine bW ?_ | refine bA ?_ _)); refine bF ?_ NB156_165.out _; (with_reducible repeat (first | refine bN ?_ _ | refine bW ?_ | refine bA ?_ _)); exact BK156.out⟩, ⟨by (with_reducible repeat (first | refine bN ?_ _ | refine bW ?_ | refine bA ?_ _)); refine bF ?_ NB161_165.out _; (with_reducible repeat (first | refine bN ?_ _ | refine bW ?_ | refine bA ?_ _)); refine bF ?_ NB161_165.out _; (with_reducible repeat (first | refine bN ?_ _ | refine bW ?_ | refine bA ?_ _)); exact BK161.out⟩, ⟨by (with_reducible repeat (first | refine bN ?_ _ | refine bW ?_ | refine bA ?_ _)); refine blk_put (cs := #[.int .i64 t162, .int .i64 0]) ?_ 1 _ rfl; (with_reducible repeat (first | refine bN ?_ _ | refine bW ?_ | refine bA ?_ _)); refine blk_put (cs := #[.int .i64 0, .int .i64 0]) ?_ 0 _ rfl; (with_reducible repeat (first | refine bN ?_ _ | refine bW ?_ | refine bA ?_ _)); exact BK165.out⟩, ⟨by repeat (first | (with_reducible first | exact HB.out | apply wA | apply wN | apply wD | refine wS ?_ GE138.out | refine wS ?_ GE139.out | refine wS ?_ GE140.out | refine wS ?_ GE148.out | refine wS ?_ GE152.out | refine wS ?_ GE156.out | refine wS ?_ GE161.out | refine wS ?_ GE165.out) | exact HB.out)⟩⟩
      replace c161 := Bool.eq_false_iff.mpr c161
      subst c161
      have H1 : (slackwaterlaw08_TurnGroup.j2 kj60 a3 true false a0_0 a0_1 a1_0 a1_1 t145 t146) = some r := by rw [if_neg (show ¬ (false = true) by decide)] at H; exact H
      clear H
      have H := H1
      clear H1
      have H' := Aside0.mk H
      clear H
      go_wp2
      go_meet
      case rel => exact ⟨_, (false), (by first | rfl | (simp; done) | (simp [*]; done)), H', ⟨by have := HJ6.out; have := HJ60.out; first | omega | exact Nat.le_refl _⟩, ⟨by (with_reducible repeat (first | refine bN ?_ _ | refine bW ?_ | refine bA ?_ _)); refine bF ?_ NB138_165.out _; (with_reducible repeat (first | refine bN ?_ _ | refine bW ?_ | refine bA ?_ _)); refine bF ?_ NB138_165.out _; (with_reducible repeat (first | refine bN ?_ _ | refine bW ?_ | refine bA ?_ _)); exact BK138.out⟩, ⟨by (with_reducible repeat (first | refine bN ?_ _ | refine bW ?_ | refine bA ?_ _)); refine bF ?_ NB139_165.out _; (with_reducible repeat (first | refine bN ?_ _ | refine bW ?_ | refine bA ?_ _)); refine bF ?_ NB139_165.out _; (with_reducible repeat (first | refine bN ?_ _ | refine bW ?_ | refine bA ?_ _)); exact BK139.out⟩, ⟨by (with_reducible repeat (first | refine bN ?_ _ | refine bW ?_ | refine bA ?_ _)); refine bF ?_ NB140_165.out _; (with_reducible repeat (first | refine bN ?_ _ | refine bW ?_ | refine bA ?_ _)); refine bF ?_ NB140_165.out _; (with_reducible repeat (first | refine bN ?_ _ | refine bW ?_ | refine bA ?_ _)); exact BK140.out⟩, ⟨by (with_reducible repeat (first | refine bN ?_ _ | refine bW ?_ | refine bA ?_ _)); refine bF ?_ NB148_165.out _; (with_reducible repeat (first | refine bN ?_ _ | refine bW ?_ | refine bA ?_ _)); refine bF ?_ NB148_165.out _; (with_reducible repeat (first | refine bN ?_ _ | refine bW ?_ | refine bA ?_ _)); exact BK148.out⟩, ⟨by (with_reducible repeat (first | refine bN ?_ _ | refine bW ?_ | refine bA ?_ _)); refine bF ?_ NB152_165.out _; (with_reducible repeat (first | refine bN ?_ _ | refine bW ?_ | refine bA ?_ _)); refine bF ?_ NB152_165.out _; (with_reducible repeat (first | refine bN ?_ _ | refine bW ?_ | refine bA ?_ _)); exact BK152.out⟩, ⟨by (with_reducible repeat (first | refine bN ?_ _ | refine bW ?_ | refine bA ?_ _)); refine bF ?_ NB156_165.out _; (with_reducible repeat (first | refine bN ?_ _ | refine bW ?_ | refine bA ?_ _)); refine bF ?_ NB156_165.out _; (with_reducible repeat (first | refine bN ?_ _ | refine bW ?_ | refine bA ?_ _)); exact BK156.out⟩, ⟨by (with_reducible repeat (first | refine bN ?_ _ | refine bW ?_ | refine bA ?_ _)); refine bF ?_ NB161_165.out _; (with_reducible repeat (first | refine bN ?_ _ | refine bW ?_ | refine bA ?_ _)); refine bF ?_ NB161_165.out _; (with_reducible repeat (first | refine bN ?_ _ | refine bW ?_ | refine bA ?_ _)); exact BK161.out⟩, ⟨by (with_reducible repeat (first | refine bN ?_ _ | refine bW ?_ | refine bA ?_ _)); refine blk_put (cs := #[.int .i64 t162, .int .i64 0]) ?_ 1 _ rfl; (with_reducible repeat (first | refine bN ?_ _ | refine bW ?_ | refine bA ?_ _)); refine blk_put (cs := #[.int .i64 0, .int .i64 0]) ?_ 0 _ rfl; (with_reducible repeat (first | refine bN ?_ _ | refine bW ?_ | refine bA ?_ _)); exact BK165.out⟩, ⟨by repeat (first | (with_reducible first | exact HB.out | apply wA | apply wN | apply wD | refine wS ?_ GE138.out | refine wS ?_ GE139.out | refine wS ?_ GE140.out | refine wS ?_ GE148.out | refine wS ?_ GE152.out | refine wS ?_ GE156.out | refine wS ?_ GE161.out | refine wS ?_ GE165.out) | exact HB.out)⟩⟩
     replace c160 := Bool.eq_false_iff.mpr c160
     subst c160
     have H1 : (slackwaterlaw08_TurnGroup.j2 kj60 a3 false false a0_0 a0_1 a1_0 a1_1 t145 t146) = some r := by rw [if_neg (show ¬ (false = true) by decide)] at H; exact H
     clear H
     have H := H1
     clear H1
     have H' := Aside0.mk H
     clear H
     go_wp2
     go_meet
     case rel => exact ⟨_, (false), (by first | rfl | (simp; done) | (simp [*]; done)), H', ⟨by have := HJ6.out; have := HJ60.out; first | omega | exact Nat.le_refl _⟩, ⟨by (with_reducible repeat (first | refine bN ?_ _ | refine bW ?_ | refine bA ?_ _)); refine bF ?_ NB138_165.out _; (with_reducible repeat (first | refine bN ?_ _ | refine bW ?_ | refine bA ?_ _)); refine bF ?_ NB138_165.out _; (with_reducible repeat (first | refine bN ?_ _ | refine bW ?_ | refine bA ?_ _)); exact BK138.out⟩, ⟨by (with_reducible repeat (first | refine bN ?_ _ | refine bW ?_ | refine bA ?_ _)); refine bF ?_ NB139_165.out _; (with_reducible repeat (first | refine bN ?_ _ | refine bW ?_ | refine bA ?_ _)); refine bF ?_ NB139_165.out _; (with_reducible repeat (first | refine bN ?_ _ | refine bW ?_ | refine bA ?_ _)); exact BK139.out⟩, ⟨by (with_reducible repeat (first | refine bN ?_ _ | refine bW ?_ | refine bA ?_ _)); refine bF ?_ NB140_165.out _; (with_reducible repeat (first | refine bN ?_ _ | refine bW ?_ | refine bA ?_ _)); refine bF ?_ NB140_165.out _; (with_reducible repeat (first | refine bN ?_ _ | refine bW ?_ | refine bA ?_ _)); exact BK140.out⟩, ⟨by (with_reducible repeat (first | refine bN ?_ _ | refine bW ?_ | refine bA ?_ _)); refine bF ?_ NB148_165.out _; (with_reducible repeat (first | refine bN ?_ _ | refine bW ?_ | refine bA ?_ _)); refine bF ?_ NB148_165.out _; (with_reducible repeat (first | refine bN ?_ _ | refine bW ?_ | refine bA ?_ _)); exact BK148.out⟩, ⟨by (with_reducible repeat (first | refine bN ?_ _ | refine bW ?_ | refine bA ?_ _)); refine bF ?_ NB152_165.out _; (with_reducible repeat (first | refine bN ?_ _ | refine bW ?_ | refine bA ?_ _)); refine bF ?_ NB152_165.out _; (with_reducible repeat (first | refine bN ?_ _ | refine bW ?_ | refine bA ?_ _)); exact BK152.out⟩, ⟨by (with_reducible repeat (first | refine bN ?_ _ | refine bW ?_ | refine bA ?_ _)); refine bF ?_ NB156_165.out _; (with_reducible repeat (first | refine bN ?_ _ | refine bW ?_ | refine bA ?_ _)); refine bF ?_ NB156_165.out _; (with_reducible repeat (first | refine bN ?_ _ | refine bW ?_ | refine bA ?_ _)); exact BK156.out⟩, ⟨by (with_reducible repeat (first | refine bN ?_ _ | refine bW ?_ | refine bA ?_ _)); refine bF ?_ NB161_165.out _; (with_reducible repeat (first | refine bN ?_ _ | refine bW ?_ | refine bA ?_ _)); refine bF ?_ NB161_165.out _; (with_reducible repeat (first | refine bN ?_ _ | refine bW ?_ | refine bA ?_ _)); exact BK161.out⟩, ⟨by (with_reducible repeat (first | refine bN ?_ _ | refine bW ?_ | refine bA ?_ _)); refine blk_put (cs := #[.int .i64 t162, .int .i64 0]) ?_ 1 _ rfl; (with_reducible repeat (first | refine bN ?_ _ | refine bW ?_ | refine bA ?_ _)); refine blk_put (cs := #[.int .i64 0, .int .i64 0]) ?_ 0 _ rfl; (with_reducible repeat (first | refine bN ?_ _ | refine bW ?_ | refine bA ?_ _)); exact BK165.out⟩, ⟨by repeat (first | (with_reducible first | exact HB.out | apply wA | apply wN | apply wD | refine wS ?_ GE138.out | refine wS ?_ GE139.out | refine wS ?_ GE140.out | refine wS ?_ GE148.out | refine wS ?_ GE152.out | refine wS ?_ GE156.out | refine wS ?_ GE161.out | refine wS ?_ GE165.out) | exact HB.out)⟩⟩
    case' rest => skip
    clear HC122
    try clear c1
    try clear c2
    try clear p2
    try clear c3
    try clear c4
    try clear c5
    try clear c6
    try clear c7
    try clear c8
    try clear c9
    try clear c10
    try clear c11
    try clear c12
    try clear c13
    try clear c13b0
    try clear c13b1
    try clear c14
    try clear c15
    try clear c15b0
    try clear c15b1
    try clear c16
    try clear c17
    try clear c17b0
    try clear c17b1
    try clear c18
    try clear c18b0
    try clear c19
    try clear c20
    try clear c23
    try clear c28
    try clear c29
    try clear c32
    try clear c37
    try clear c38
    try clear c41
    try clear c46
    try clear c47
    try clear c50
    try clear c53
    try clear c54
    try clear c57
    try clear c62
    try clear c63
    try clear c65
    try clear c69
    try clear c70
    try clear c71
    try clear c77
    try clear c78
    try clear c79
    try clear c80
    try clear c86
    try clear c87
    try clear c88
    try clear c89
    try clear c90
    try clear c92
    try clear c92b0
    try clear c92b1
    try clear c92b2
    try clear c93
    try clear c93b0
    try clear c94
    try clear c96
    try clear c97
    try clear c98
    try clear c99
    try clear c100
    try clear c102
    try clear c103
    try clear c104
    try clear c105
    try clear c108
    try clear c109
    try clear c110
    try clear c111
    try clear c112
    try clear c114
    try clear c115
    try clear c116
    try clear c117
    try clear c119
    try clear c123
    try clear c124
    try clear c125
    try clear c126
    try clear c127
    try clear c129
    try clear c130
    try clear c131
    try clear c132
    try clear c136
    try clear c137
    try clear c138
    try clear c139
    try clear c140
    try clear c141
    try clear c143
    try clear c144
    try clear c145
    try clear c147
    try clear c148
    try clear c152
    try clear c153
    try clear c154
    try clear c155
    try clear c156
    try clear c157
    try clear c158
    try clear c160
    try clear c161
    try clear c162
    try clear c163
    try clear c164
    try clear c165
    try clear c166
    try clear c167
    try clear c168
    try clear c169
    try clear c170
    try clear c172
    try clear c173
    try clear c174
    try clear c175
    try clear c176
    try clear c177
    try clear hcz101_0
    try clear hcz101_1
    try clear hcz106_0
    try clear hcz106_1
    try clear hcz113_0
    try clear hcz113_1
    try clear hcz118_0
    try clear hcz118_1
    try clear hcz128_0
    try clear hcz128_1
    try clear hcz133_0
    try clear hcz133_1
    try clear hcz142_0
    try clear hcz142_1
    try clear hcz146_0
    try clear hcz146_1
    try clear hcz149_0
    try clear hcz149_1
    try clear hcz159_0
    try clear hcz159_1
    try clear hcz171_0
    try clear hcz171_1
    try clear hcz178_0
    try clear hcz178_1
    try clear hcz21_0
    try clear hcz21_1
    try clear hcz24_0
    try clear hcz24_1
    try clear hcz26_0
    try clear hcz26_1
    try clear hcz30_0
    try clear hcz30_1
    try clear hcz33_0
    try clear hcz33_1
    try clear hcz35_0
    try clear hcz35_1
    try clear hcz39_0
    try clear hcz39_1
    try clear hcz42_0
    try clear hcz42_1
    try clear hcz44_0
    try clear hcz44_1
    try clear hcz48_0
    try clear hcz48_1
    try clear hcz51_0
    try clear hcz51_1
    try clear hcz55_0
    try clear hcz55_1
    try clear hcz64_0
    try clear hcz64_1
    try clear hcz66_0
    try clear hcz66_1
    try clear hcz72_0
    try clear hcz72_1
    try clear hcz73_0
    try clear hcz73_1
    try clear hcz74_0
    try clear hcz74_1
    try clear hcz81_0
    try clear hcz81_1
    try clear hcz82_0
    try clear hcz82_1
    try clear hcz83_0
    try clear hcz83_1
    try clear hcz91_0
    try clear hcz91_1
    try clear hfz101_0
    try clear hfz101_1
    try clear hfz106_0
    try clear hfz106_1
    try clear hfz113_0
    try clear hfz113_1
    try clear hfz118_0
    try clear hfz118_1
    try clear hfz128_0
    try clear hfz128_1
    try clear hfz133_0
    try clear hfz133_1
    try clear hfz142_0
    try clear hfz142_1
    try clear hfz146_0
    try clear hfz146_1
    try clear hfz149_0
    try clear hfz149_1
    try clear hfz159_0
    try clear hfz159_1
    try clear hfz171_0
    try clear hfz171_1
    try clear hfz178_0
    try clear hfz178_1
    try clear hfz21_0
    try clear hfz21_1
    try clear hfz24_0
    try clear hfz24_1
    try clear hfz26_0
    try clear hfz26_1
    try clear hfz30_0
    try clear hfz30_1
    try clear hfz33_0
    try clear hfz33_1
    try clear hfz35_0
    try clear hfz35_1
    try clear hfz39_0
    try clear hfz39_1
    try clear hfz42_0
    try clear hfz42_1
    try clear hfz44_0
    try clear hfz44_1
    try clear hfz48_0
    try clear hfz48_1
    try clear hfz51_0
    try clear hfz51_1
    try clear hfz55_0
    try clear hfz55_1
    try clear hfz64_0
    try clear hfz64_1
    try clear hfz66_0
    try clear hfz66_1
    try clear hfz72_0
    try clear hfz72_1
    try clear hfz73_0
    try clear hfz73_1
    try clear hfz74_0
    try clear hfz74_1
    try clear hfz81_0
    try clear hfz81_1
    try clear hfz82_0
    try clear hfz82_1
    try clear hfz83_0
    try clear hfz83_1
    try clear hfz91_0
    try clear hfz91_1
    try clear p2
    obtain ⟨kq, x112_121, rfl, HA, HJ121, BK138, BK139, BK140, BK148, BK152, BK156, BK161, BK165, HB⟩ := hcut
    cases kq with
    | zero => exact absurd HA.out (by simp [slackwaterlaw08_TurnGroup.j2])
    | succ kj121 =>
     have H := HA.out
     clear HA
     simp only [slackwaterlaw08_TurnGroup.j2] at H
     by_cases c179 : x112_121 = true
     ·
      subst c179
      have H1 : (none) = some r := by rw [if_pos rfl] at H; exact H
      clear H
      have H := H1
      clear H1
      exact absurd H (by simp)
     replace c179 := Bool.eq_false_iff.mpr c179
     subst c179
     have H1 : ((turn_Sub.f kj121 t145 t146 a1_0 a1_1).bind fun bt166 => (if t147 = true then (if bt166.2.2 = 0 then (slackwaterlaw08_TurnGroup.j3 kj121 a3 (!(bt166.1 == a0_0) || (!(bt166.2.1 == a0_1))) a0_0 a0_1) else (none)) else (slackwaterlaw08_TurnGroup.j3 kj121 a3 false a0_0 a0_1))) = some r := by rw [if_neg (show ¬ (false = true) by decide)] at H; exact H
     clear H
     have H := H1
     clear H1
     replace H := Option.bind_eq_some_iff.mp H
     obtain ⟨⟨t166, t167, t168⟩, A1800, H⟩ := H
     replace H : (if t147 = true then (if t168 = 0 then (slackwaterlaw08_TurnGroup.j3 kj121 a3 (!(t166 == a0_0) || (!(t167 == a0_1))) a0_0 a0_1) else (none)) else (slackwaterlaw08_TurnGroup.j3 kj121 a3 false a0_0 a0_1)) = some r := H
     have A180 := Aside0.mk A1800
     clear A1800
     have HC181 := Aside0.mk H
     clear H
     have hnb182 := NB148_138.out
     have hnc182 := NB138_148.out
     have hnb183 := NB148_139.out
     have hnc183 := NB139_148.out
     have hnb184 := NB148_140.out
     have hnc184 := NB140_148.out
     have hnb185 := NB148_152.out
     have hnc185 := NB152_148.out
     have hnb186 := NB148_156.out
     have hnc186 := NB156_148.out
     have hnb187 := NB148_161.out
     have hnc187 := NB161_148.out
     have hnb188 := NB148_165.out
     have hnc188 := NB165_148.out
     have hcz189_0 : wc.cell? ⟨gb148, 0, none⟩ = some (.int .i64 t145) := (bC BK148.out 0).trans rfl
     have hcz189_1 : wc.cell? ⟨gb148, 1, none⟩ = some (.int .i64 t146) := (bC BK148.out 1).trans rfl
     have hfz189_0 := bZ BK148.out 0
     have hfz189_1 := bZ BK148.out 1
     have hnb190 := NB139_138.out
     have hnc190 := NB138_139.out
     have hnb191 := NB139_140.out
     have hnc191 := NB140_139.out
     have hnb192 := NB139_152.out
     have hnc192 := NB152_139.out
     have hnb193 := NB139_156.out
     have hnc193 := NB156_139.out
     have hnb194 := NB139_161.out
     have hnc194 := NB161_139.out
     have hnb195 := NB139_165.out
     have hnc195 := NB165_139.out
     have hcz196_0 : wc.cell? ⟨gb139, 0, none⟩ = some (.int .i64 a1_0) := (bC BK139.out 0).trans rfl
     have hcz196_1 : wc.cell? ⟨gb139, 1, none⟩ = some (.int .i64 a1_1) := (bC BK139.out 1).trans rfl
     have hfz196_0 := bZ BK139.out 0
     have hfz196_1 := bZ BK139.out 1
     go_upto_region 15 with (first | ((with_reducible refine gC (f := 11) rfl ?_); refine goesL_ (some 116) rfl rfl Try.func11 (by kernel_rfl) rfl #[.agg #[.int .i64 t145, .int .i64 t146], .agg #[.int .i64 a1_0, .int .i64 a1_1]] rfl (by (try simp only [List.map_toArray, List.map_cons, List.map_nil]); first | done | rfl | (simp only [List.length_drop, List.length_take]; rfl)) ?_; (with_reducible refine (turn_Sub.calls kj121 t145 t146 a1_0 a1_1 t166 t167 t168 _ A180.out).mono ?_); rintro e w197 ⟨rfl, hb⟩; refine ⟨_, rfl, ?_⟩; have n0_ := aZ (bB (g := gb138) (o := .cells #[.int .i64 a0_0, .int .i64 a0_1] 23 (0, 0)) (by (with_reducible repeat (first | refine bN ?_ _ | refine bW ?_ | refine bA ?_ _)); exact BK138.out) hb); have n1_ := aZ (bB (g := gb139) (o := .cells #[.int .i64 a1_0, .int .i64 a1_1] 23 (0, 0)) (by (with_reducible repeat (first | refine bN ?_ _ | refine bW ?_ | refine bA ?_ _)); exact BK139.out) hb); have n2_ := aZ (bB (g := gb140) (o := .cells #[.int .i64 a2_0, .int .i64 a2_1] 23 (0, 0)) (by (with_reducible repeat (first | refine bN ?_ _ | refine bW ?_ | refine bA ?_ _)); exact BK140.out) hb); have n3_ := aZ (bB (g := gb148) (o := .cells #[.int .i64 t145, .int .i64 t146] 23 (0, 0)) (by (with_reducible repeat (first | refine bN ?_ _ | refine bW ?_ | refine bA ?_ _)); exact BK148.out) hb); have n4_ := aZ (bB (g := gb152) (o := .cells #[.int .i64 t149, .int .i64 t150] 23 (0, 0)) (by (with_reducible repeat (first | refine bN ?_ _ | refine bW ?_ | refine bA ?_ _)); exact BK152.out) hb); have n5_ := aZ (bB (g := gb156) (o := .cells #[.int .i64 t153, .int .i64 t154] 23 (0, 0)) (by (with_reducible repeat (first | refine bN ?_ _ | refine bW ?_ | refine bA ?_ _)); exact BK156.out) hb); have n6_ := aZ (bB (g := gb161) (o := .cells #[.int .i64 t158, .int .i64 t159] 23 (0, 0)) (by (with_reducible repeat (first | refine bN ?_ _ | refine bW ?_ | refine bA ?_ _)); exact BK161.out) hb); have n7_ := aZ (bB (g := gb165) (o := .cells #[.int .i64 t162, .int .i64 t163] 23 (0, 0)) (by (with_reducible repeat (first | refine bN ?_ _ | refine bW ?_ | refine bA ?_ _)); exact BK165.out) hb); have n8_ := aZ (wP (by repeat (first | (with_reducible first | exact HB.out | apply wA | apply wN | apply wD | refine wS ?_ GE138.out | refine wS ?_ GE139.out | refine wS ?_ GE140.out | refine wS ?_ GE148.out | refine wS ?_ GE152.out | refine wS ?_ GE156.out | refine wS ?_ GE161.out | refine wS ?_ GE165.out) | exact HB.out)) hb); clear BK138; clear BK139; clear BK140; clear BK148; clear BK152; clear BK156; clear BK161; clear BK165; clear HB; have BK138 := n0_; have BK139 := n1_; have BK140 := n2_; have BK148 := n3_; have BK152 := n4_; have BK156 := n5_; have BK161 := n6_; have BK165 := n7_; have HB := n8_; clear n0_ n1_ n2_ n3_ n4_ n5_ n6_ n7_ n8_; (try clear hb); (try clear hb2); (try clear hk); (try clear hi)) | ((with_reducible refine gD (N := 19) rfl ?_); refine gB ?hg (N := 19) ?hd (cs := #[.int .i64 0, .int .i64 0]) (t := 23) ?hr ?_; (case hd => rfl); (case hg => rfl); (case hr => first | (go_simp; done) | (go_simp; rfl)); intro gb169 hg w198 hbox hb; have n0_ := aZ (bB (g := gb138) (o := .cells #[.int .i64 a0_0, .int .i64 a0_1] 23 (0, 0)) (by (with_reducible repeat (first | refine bN ?_ _ | refine bW ?_ | refine bA ?_ _)); exact BK138.out) hb); have n1_ := aZ (bB (g := gb139) (o := .cells #[.int .i64 a1_0, .int .i64 a1_1] 23 (0, 0)) (by (with_reducible repeat (first | refine bN ?_ _ | refine bW ?_ | refine bA ?_ _)); exact BK139.out) hb); have n2_ := aZ (bB (g := gb140) (o := .cells #[.int .i64 a2_0, .int .i64 a2_1] 23 (0, 0)) (by (with_reducible repeat (first | refine bN ?_ _ | refine bW ?_ | refine bA ?_ _)); exact BK140.out) hb); have n3_ := aZ (bB (g := gb148) (o := .cells #[.int .i64 t145, .int .i64 t146] 23 (0, 0)) (by (with_reducible repeat (first | refine bN ?_ _ | refine bW ?_ | refine bA ?_ _)); exact BK148.out) hb); have n4_ := aZ (bB (g := gb152) (o := .cells #[.int .i64 t149, .int .i64 t150] 23 (0, 0)) (by (with_reducible repeat (first | refine bN ?_ _ | refine bW ?_ | refine bA ?_ _)); exact BK152.out) hb); have n5_ := aZ (bB (g := gb156) (o := .cells #[.int .i64 t153, .int .i64 t154] 23 (0, 0)) (by (with_reducible repeat (first | refine bN ?_ _ | refine bW ?_ | refine bA ?_ _)); exact BK156.out) hb); have n6_ := aZ (bB (g := gb161) (o := .cells #[.int .i64 t158, .int .i64 t159] 23 (0, 0)) (by (with_reducible repeat (first | refine bN ?_ _ | refine bW ?_ | refine bA ?_ _)); exact BK161.out) hb); have n7_ := aZ (bB (g := gb165) (o := .cells #[.int .i64 t162, .int .i64 t163] 23 (0, 0)) (by (with_reducible repeat (first | refine bN ?_ _ | refine bW ?_ | refine bA ?_ _)); exact BK165.out) hb); have n8_ := aZ (wP (by repeat (first | (with_reducible first | exact HB.out | apply wA | apply wN | apply wD | refine wS ?_ GE138.out | refine wS ?_ GE139.out | refine wS ?_ GE140.out | refine wS ?_ GE148.out | refine wS ?_ GE152.out | refine wS ?_ GE156.out | refine wS ?_ GE161.out | refine wS ?_ GE165.out) | exact HB.out)) hb); have n9_ := aZ (hbox); have n10_ := aZ ((by rw [hg]; exact (wZ (by repeat (first | (with_reducible first | exact HB.out | apply wA | apply wN | apply wD | refine wS ?_ GE138.out | refine wS ?_ GE139.out | refine wS ?_ GE140.out | refine wS ?_ GE148.out | refine wS ?_ GE152.out | refine wS ?_ GE156.out | refine wS ?_ GE161.out | refine wS ?_ GE165.out) | exact HB.out))) : w.heap.size ≤ gb169)); have n11_ := aZ ((by rw [hg]; exact (wZ (by repeat (first | (with_reducible first | exact HB.out | apply wA | apply wN | apply wD | refine wS ?_ GE138.out | refine wS ?_ GE139.out | refine wS ?_ GE140.out | refine wS ?_ GE148.out | refine wS ?_ GE152.out | refine wS ?_ GE156.out | refine wS ?_ GE161.out | refine wS ?_ GE165.out) | exact HB.out))) : w.heap.size ≤ gb169)); have n12_ := aZ ((by rw [hg]; exact Nat.ne_of_lt (bL (g := gb138) (o := .cells #[.int .i64 a0_0, .int .i64 a0_1] 23 (0, 0)) (by (with_reducible repeat (first | refine bN ?_ _ | refine bW ?_ | refine bA ?_ _)); exact BK138.out)) : gb138 ≠ gb169)); have n13_ := aZ ((by rw [hg]; exact Nat.ne_of_gt (bL (g := gb138) (o := .cells #[.int .i64 a0_0, .int .i64 a0_1] 23 (0, 0)) (by (with_reducible repeat (first | refine bN ?_ _ | refine bW ?_ | refine bA ?_ _)); exact BK138.out)) : gb169 ≠ gb138)); have n14_ := aZ ((by rw [hg]; exact Nat.ne_of_lt (bL (g := gb139) (o := .cells #[.int .i64 a1_0, .int .i64 a1_1] 23 (0, 0)) (by (with_reducible repeat (first | refine bN ?_ _ | refine bW ?_ | refine bA ?_ _)); exact BK139.out)) : gb139 ≠ gb169)); have n15_ := aZ ((by rw [hg]; exact Nat.ne_of_gt (bL (g := gb139) (o := .cells #[.int .i64 a1_0, .int .i64 a1_1] 23 (0, 0)) (by (with_reducible repeat (first | refine bN ?_ _ | refine bW ?_ | refine bA ?_ _)); exact BK139.out)) : gb169 ≠ gb139)); have n16_ := aZ ((by rw [hg]; exact Nat.ne_of_lt (bL (g := gb140) (o := .cells #[.int .i64 a2_0, .int .i64 a2_1] 23 (0, 0)) (by (with_reducible repeat (first | refine bN ?_ _ | refine bW ?_ | refine bA ?_ _)); exact BK140.out)) : gb140 ≠ gb169)); have n17_ := aZ ((by rw [hg]; exact Nat.ne_of_gt (bL (g := gb140) (o := .cells #[.int .i64 a2_0, .int .i64 a2_1] 23 (0, 0)) (by (with_reducible repeat (first | refine bN ?_ _ | refine bW ?_ | refine bA ?_ _)); exact BK140.out)) : gb169 ≠ gb140)); have n18_ := aZ ((by rw [hg]; exact Nat.ne_of_lt (bL (g := gb148) (o := .cells #[.int .i64 t145, .int .i64 t146] 23 (0, 0)) (by (with_reducible repeat (first | refine bN ?_ _ | refine bW ?_ | refine bA ?_ _)); exact BK148.out)) : gb148 ≠ gb169)); have n19_ := aZ ((by rw [hg]; exact Nat.ne_of_gt (bL (g := gb148) (o := .cells #[.int .i64 t145, .int .i64 t146] 23 (0, 0)) (by (with_reducible repeat (first | refine bN ?_ _ | refine bW ?_ | refine bA ?_ _)); exact BK148.out)) : gb169 ≠ gb148)); have n20_ := aZ ((by rw [hg]; exact Nat.ne_of_lt (bL (g := gb152) (o := .cells #[.int .i64 t149, .int .i64 t150] 23 (0, 0)) (by (with_reducible repeat (first | refine bN ?_ _ | refine bW ?_ | refine bA ?_ _)); exact BK152.out)) : gb152 ≠ gb169)); have n21_ := aZ ((by rw [hg]; exact Nat.ne_of_gt (bL (g := gb152) (o := .cells #[.int .i64 t149, .int .i64 t150] 23 (0, 0)) (by (with_reducible repeat (first | refine bN ?_ _ | refine bW ?_ | refine bA ?_ _)); exact BK152.out)) : gb169 ≠ gb152)); have n22_ := aZ ((by rw [hg]; exact Nat.ne_of_lt (bL (g := gb156) (o := .cells #[.int .i64 t153, .int .i64 t154] 23 (0, 0)) (by (with_reducible repeat (first | refine bN ?_ _ | refine bW ?_ | refine bA ?_ _)); exact BK156.out)) : gb156 ≠ gb169)); have n23_ := aZ ((by rw [hg]; exact Nat.ne_of_gt (bL (g := gb156) (o := .cells #[.int .i64 t153, .int .i64 t154] 23 (0, 0)) (by (with_reducible repeat (first | refine bN ?_ _ | refine bW ?_ | refine bA ?_ _)); exact BK156.out)) : gb169 ≠ gb156)); have n24_ := aZ ((by rw [hg]; exact Nat.ne_of_lt (bL (g := gb161) (o := .cells #[.int .i64 t158, .int .i64 t159] 23 (0, 0)) (by (with_reducible repeat (first | refine bN ?_ _ | refine bW ?_ | refine bA ?_ _)); exact BK161.out)) : gb161 ≠ gb169)); have n25_ := aZ ((by rw [hg]; exact Nat.ne_of_gt (bL (g := gb161) (o := .cells #[.int .i64 t158, .int .i64 t159] 23 (0, 0)) (by (with_reducible repeat (first | refine bN ?_ _ | refine bW ?_ | refine bA ?_ _)); exact BK161.out)) : gb169 ≠ gb161)); have n26_ := aZ ((by rw [hg]; exact Nat.ne_of_lt (bL (g := gb165) (o := .cells #[.int .i64 t162, .int .i64 t163] 23 (0, 0)) (by (with_reducible repeat (first | refine bN ?_ _ | refine bW ?_ | refine bA ?_ _)); exact BK165.out)) : gb165 ≠ gb169)); have n27_ := aZ ((by rw [hg]; exact Nat.ne_of_gt (bL (g := gb165) (o := .cells #[.int .i64 t162, .int .i64 t163] 23 (0, 0)) (by (with_reducible repeat (first | refine bN ?_ _ | refine bW ?_ | refine bA ?_ _)); exact BK165.out)) : gb169 ≠ gb165)); clear BK138; clear BK139; clear BK140; clear BK148; clear BK152; clear BK156; clear BK161; clear BK165; clear HB; have BK138 := n0_; have BK139 := n1_; have BK140 := n2_; have BK148 := n3_; have BK152 := n4_; have BK156 := n5_; have BK161 := n6_; have BK165 := n7_; have HB := n8_; have BK169 := n9_; have GW169 := n10_; have GE169 := n11_; have NB138_169 := n12_; have NB169_138 := n13_; have NB139_169 := n14_; have NB169_139 := n15_; have NB140_169 := n16_; have NB169_140 := n17_; have NB148_169 := n18_; have NB169_148 := n19_; have NB152_169 := n20_; have NB169_152 := n21_; have NB156_169 := n22_; have NB169_156 := n23_; have NB161_169 := n24_; have NB169_161 := n25_; have NB165_169 := n26_; have NB169_165 := n27_; clear n0_ n1_ n2_ n3_ n4_ n5_ n6_ n7_ n8_ n9_ n10_ n11_ n12_ n13_ n14_ n15_ n16_ n17_ n18_ n19_ n20_ n21_ n22_ n23_ n24_ n25_ n26_ n27_; clear hb hbox hg; have hnb199 := NB169_138.out; have hnc199 := NB138_169.out; have hnb200 := NB169_139.out; have hnc200 := NB139_169.out; have hnb201 := NB169_140.out; have hnc201 := NB140_169.out; have hnb202 := NB169_148.out; have hnc202 := NB148_169.out; have hnb203 := NB169_152.out; have hnc203 := NB152_169.out; have hnb204 := NB169_156.out; have hnc204 := NB156_169.out; have hnb205 := NB169_161.out; have hnc205 := NB161_169.out; have hnb206 := NB169_165.out; have hnc206 := NB165_169.out; have hcz207_0 : w198.cell? ⟨gb169, 0, none⟩ = some (.int .i64 0) := (bC BK169.out 0).trans rfl; have hcz207_1 : w198.cell? ⟨gb169, 1, none⟩ = some (.int .i64 0) := (bC BK169.out 1).trans rfl; have hfz207_0 := bZ BK169.out 0; have hfz207_1 := bZ BK169.out 1))
     (try simp only [Act.put, List.setIfInBounds_toArray, List.set_cons_zero, List.set_cons_succ])
     go_cut [128] (fun v128 wc => ∃ (kq : Nat) (x128_180 : Bool), v128 = .bool x128_180 ∧ Aside0 (slackwaterlaw08_TurnGroup.j3 kq a3 x128_180 a0_0 a0_1 = some r) ∧ Aside0 (kq ≤ kj121) ∧ Aside0 (wc.heap[gb138]? = some (.cells #[.int .i64 a0_0, .int .i64 a0_1] 23 (0, 0))) ∧ Aside0 (wc.heap[gb139]? = some (.cells #[.int .i64 a1_0, .int .i64 a1_1] 23 (0, 0))) ∧ Aside0 (wc.heap[gb140]? = some (.cells #[.int .i64 a2_0, .int .i64 a2_1] 23 (0, 0))) ∧ Aside0 (wc.heap[gb148]? = some (.cells #[.int .i64 t145, .int .i64 t146] 23 (0, 0))) ∧ Aside0 (wc.heap[gb152]? = some (.cells #[.int .i64 t149, .int .i64 t150] 23 (0, 0))) ∧ Aside0 (wc.heap[gb156]? = some (.cells #[.int .i64 t153, .int .i64 t154] 23 (0, 0))) ∧ Aside0 (wc.heap[gb161]? = some (.cells #[.int .i64 t158, .int .i64 t159] 23 (0, 0))) ∧ Aside0 (wc.heap[gb165]? = some (.cells #[.int .i64 t162, .int .i64 t163] 23 (0, 0))) ∧ Aside0 (wc.heap[gb169]? = some (.cells #[.int .i64 t166, .int .i64 t167] 23 (0, 0))) ∧ Aside0 (Below w.heap.size w wc))
     case first =>
      have H := HC181.out
      clear HC181
      by_cases c208 : t147 = true
      ·
       subst c208
       have H1 : (if t168 = 0 then (slackwaterlaw08_TurnGroup.j3 kj121 a3 (!(t166 == a0_0) || (!(t167 == a0_1))) a0_0 a0_1) else (none)) = some r := by rw [if_pos rfl] at H; exact H
       clear H
       have H := H1
       clear H1
       by_cases c209 : t168 = 0
       ·
        rw [if_pos c209] at H
        have c209b0 : (t168 == 0) = true := beq_iff_eq.mpr c209
        have c209b1 : (t168 != 0) = false := bne_eq_false_iff_eq.mpr c209
        clear c209
        (first | rw [c209b0] | (simp only [i64_w, i32_w]; rw [c209b0]) | skip)
        have H' := Aside0.mk H
        clear H
        have hnb210 := NB169_138.out
        have hnc210 := NB138_169.out
        have hnb211 := NB169_139.out
        have hnc211 := NB139_169.out
        have hnb212 := NB169_140.out
        have hnc212 := NB140_169.out
        have hnb213 := NB169_148.out
        have hnc213 := NB148_169.out
        have hnb214 := NB169_152.out
        have hnc214 := NB152_169.out
        have hnb215 := NB169_156.out
        have hnc215 := NB156_169.out
        have hnb216 := NB169_161.out
        have hnc216 := NB161_169.out
        have hnb217 := NB169_165.out
        have hnc217 := NB165_169.out
        have hcz218_0 : w198.cell? ⟨gb169, 0, none⟩ = some (.int .i64 0) := (bC BK169.out 0).trans rfl
        have hcz218_1 : w198.cell? ⟨gb169, 1, none⟩ = some (.int .i64 0) := (bC BK169.out 1).trans rfl
        have hfz218_0 := bZ BK169.out 0
        have hfz218_1 := bZ BK169.out 1
        have hnb219 := NB138_139.out
        have hnc219 := NB139_138.out
        have hnb220 := NB138_140.out
        have hnc220 := NB140_138.out
        have hnb221 := NB138_148.out
        have hnc221 := NB148_138.out
        have hnb222 := NB138_152.out
        have hnc222 := NB152_138.out
        have hnb223 := NB138_156.out
        have hnc223 := NB156_138.out
        have hnb224 := NB138_161.out
        have hnc224 := NB161_138.out
        have hnb225 := NB138_165.out
        have hnc225 := NB165_138.out
        have hcz226_0 : w198.cell? ⟨gb138, 0, none⟩ = some (.int .i64 a0_0) := (bC BK138.out 0).trans rfl
        have hcz226_1 : w198.cell? ⟨gb138, 1, none⟩ = some (.int .i64 a0_1) := (bC BK138.out 1).trans rfl
        have hfz226_0 := bZ BK138.out 0
        have hfz226_1 := bZ BK138.out 1
        go_wp2
        go_meet
        case rel => exact ⟨_, ((!(t166 == a0_0) || (!(t167 == a0_1)))), (by first | rfl | (simp; done) | (simp [*]; done)), H', ⟨by have := HJ6.out; have := HJ60.out; have := HJ121.out; first | omega | exact Nat.le_refl _⟩, ⟨by (with_reducible repeat (first | refine bN ?_ _ | refine bW ?_ | refine bA ?_ _)); refine bF ?_ NB138_169.out _; (with_reducible repeat (first | refine bN ?_ _ | refine bW ?_ | refine bA ?_ _)); refine bF ?_ NB138_169.out _; (with_reducible repeat (first | refine bN ?_ _ | refine bW ?_ | refine bA ?_ _)); exact BK138.out⟩, ⟨by (with_reducible repeat (first | refine bN ?_ _ | refine bW ?_ | refine bA ?_ _)); refine bF ?_ NB139_169.out _; (with_reducible repeat (first | refine bN ?_ _ | refine bW ?_ | refine bA ?_ _)); refine bF ?_ NB139_169.out _; (with_reducible repeat (first | refine bN ?_ _ | refine bW ?_ | refine bA ?_ _)); exact BK139.out⟩, ⟨by (with_reducible repeat (first | refine bN ?_ _ | refine bW ?_ | refine bA ?_ _)); refine bF ?_ NB140_169.out _; (with_reducible repeat (first | refine bN ?_ _ | refine bW ?_ | refine bA ?_ _)); refine bF ?_ NB140_169.out _; (with_reducible repeat (first | refine bN ?_ _ | refine bW ?_ | refine bA ?_ _)); exact BK140.out⟩, ⟨by (with_reducible repeat (first | refine bN ?_ _ | refine bW ?_ | refine bA ?_ _)); refine bF ?_ NB148_169.out _; (with_reducible repeat (first | refine bN ?_ _ | refine bW ?_ | refine bA ?_ _)); refine bF ?_ NB148_169.out _; (with_reducible repeat (first | refine bN ?_ _ | refine bW ?_ | refine bA ?_ _)); exact BK148.out⟩, ⟨by (with_reducible repeat (first | refine bN ?_ _ | refine bW ?_ | refine bA ?_ _)); refine bF ?_ NB152_169.out _; (with_reducible repeat (first | refine bN ?_ _ | refine bW ?_ | refine bA ?_ _)); refine bF ?_ NB152_169.out _; (with_reducible repeat (first | refine bN ?_ _ | refine bW ?_ | refine bA ?_ _)); exact BK152.out⟩, ⟨by (with_reducible repeat (first | refine bN ?_ _ | refine bW ?_ | refine bA ?_ _)); refine bF ?_ NB156_169.out _; (with_reducible repeat (first | refine bN ?_ _ | refine bW ?_ | refine bA ?_ _)); refine bF ?_ NB156_169.out _; (with_reducible repeat (first | refine bN ?_ _ | refine bW ?_ | refine bA ?_ _)); exact BK156.out⟩, ⟨by (with_reducible repeat (first | refine bN ?_ _ | refine bW ?_ | refine bA ?_ _)); refine bF ?_ NB161_169.out _; (with_reducible repeat (first | refine bN ?_ _ | refine bW ?_ | refine bA ?_ _)); refine bF ?_ NB161_169.out _; (with_reducible repeat (first | refine bN ?_ _ | refine bW ?_ | refine bA ?_ _)); exact BK161.out⟩, ⟨by (with_reducible repeat (first | refine bN ?_ _ | refine bW ?_ | refine bA ?_ _)); refine bF ?_ NB165_169.out _; (with_reducible repeat (first | refine bN ?_ _ | refine bW ?_ | refine bA ?_ _)); refine bF ?_ NB165_169.out _; (with_reducible repeat (first | refine bN ?_ _ | refine bW ?_ | refine bA ?_ _)); exact BK165.out⟩, ⟨by (with_reducible repeat (first | refine bN ?_ _ | refine bW ?_ | refine bA ?_ _)); refine blk_put (cs := #[.int .i64 t166, .int .i64 0]) ?_ 1 _ rfl; (with_reducible repeat (first | refine bN ?_ _ | refine bW ?_ | refine bA ?_ _)); refine blk_put (cs := #[.int .i64 0, .int .i64 0]) ?_ 0 _ rfl; (with_reducible repeat (first | refine bN ?_ _ | refine bW ?_ | refine bA ?_ _)); exact BK169.out⟩, ⟨by repeat (first | (with_reducible first | exact HB.out | apply wA | apply wN | apply wD | refine wS ?_ GE138.out | refine wS ?_ GE139.out | refine wS ?_ GE140.out | refine wS ?_ GE148.out | refine wS ?_ GE152.out | refine wS ?_ GE156.out | refine wS ?_ GE161.out | refine wS ?_ GE165.out | refine wS ?_ GE169.out) | exact HB.out)⟩⟩
       rw [if_neg c209] at H
       exact absurd H (by simp)
      replace c208 := Bool.eq_false_iff.mpr c208
      subst c208
      have H1 : (slackwaterlaw08_TurnGroup.j3 kj121 a3 false a0_0 a0_1) = some r := by rw [if_neg (show ¬ (false = true) by decide)] at H; exact H
      clear H
      have H := H1
      clear H1
      have H' := Aside0.mk H
      clear H
      go_wp2
      go_meet
      case rel => exact ⟨_, (false), (by first | rfl | (simp; done) | (simp [*]; done)), H', ⟨by have := HJ6.out; have := HJ60.out; have := HJ121.out; first | omega | exact Nat.le_refl _⟩, ⟨by (with_reducible repeat (first | refine bN ?_ _ | refine bW ?_ | refine bA ?_ _)); refine bF ?_ NB138_169.out _; (with_reducible repeat (first | refine bN ?_ _ | refine bW ?_ | refine bA ?_ _)); refine bF ?_ NB138_169.out _; (with_reducible repeat (first | refine bN ?_ _ | refine bW ?_ | refine bA ?_ _)); exact BK138.out⟩, ⟨by (with_reducible repeat (first | refine bN ?_ _ | refine bW ?_ | refine bA ?_ _)); refine bF ?_ NB139_169.out _; (with_reducible repeat (first | refine bN ?_ _ | refine bW ?_ | refine bA ?_ _)); refine bF ?_ NB139_169.out _; (with_reducible repeat (first | refine bN ?_ _ | refine bW ?_ | refine bA ?_ _)); exact BK139.out⟩, ⟨by (with_reducible repeat (first | refine bN ?_ _ | refine bW ?_ | refine bA ?_ _)); refine bF ?_ NB140_169.out _; (with_reducible repeat (first | refine bN ?_ _ | refine bW ?_ | refine bA ?_ _)); refine bF ?_ NB140_169.out _; (with_reducible repeat (first | refine bN ?_ _ | refine bW ?_ | refine bA ?_ _)); exact BK140.out⟩, ⟨by (with_reducible repeat (first | refine bN ?_ _ | refine bW ?_ | refine bA ?_ _)); refine bF ?_ NB148_169.out _; (with_reducible repeat (first | refine bN ?_ _ | refine bW ?_ | refine bA ?_ _)); refine bF ?_ NB148_169.out _; (with_reducible repeat (first | refine bN ?_ _ | refine bW ?_ | refine bA ?_ _)); exact BK148.out⟩, ⟨by (with_reducible repeat (first | refine bN ?_ _ | refine bW ?_ | refine bA ?_ _)); refine bF ?_ NB152_169.out _; (with_reducible repeat (first | refine bN ?_ _ | refine bW ?_ | refine bA ?_ _)); refine bF ?_ NB152_169.out _; (with_reducible repeat (first | refine bN ?_ _ | refine bW ?_ | refine bA ?_ _)); exact BK152.out⟩, ⟨by (with_reducible repeat (first | refine bN ?_ _ | refine bW ?_ | refine bA ?_ _)); refine bF ?_ NB156_169.out _; (with_reducible repeat (first | refine bN ?_ _ | refine bW ?_ | refine bA ?_ _)); refine bF ?_ NB156_169.out _; (with_reducible repeat (first | refine bN ?_ _ | refine bW ?_ | refine bA ?_ _)); exact BK156.out⟩, ⟨by (with_reducible repeat (first | refine bN ?_ _ | refine bW ?_ | refine bA ?_ _)); refine bF ?_ NB161_169.out _; (with_reducible repeat (first | refine bN ?_ _ | refine bW ?_ | refine bA ?_ _)); refine bF ?_ NB161_169.out _; (with_reducible repeat (first | refine bN ?_ _ | refine bW ?_ | refine bA ?_ _)); exact BK161.out⟩, ⟨by (with_reducible repeat (first | refine bN ?_ _ | refine bW ?_ | refine bA ?_ _)); refine bF ?_ NB165_169.out _; (with_reducible repeat (first | refine bN ?_ _ | refine bW ?_ | refine bA ?_ _)); refine bF ?_ NB165_169.out _; (with_reducible repeat (first | refine bN ?_ _ | refine bW ?_ | refine bA ?_ _)); exact BK165.out⟩, ⟨by (with_reducible repeat (first | refine bN ?_ _ | refine bW ?_ | refine bA ?_ _)); refine blk_put (cs := #[.int .i64 t166, .int .i64 0]) ?_ 1 _ rfl; (with_reducible repeat (first | refine bN ?_ _ | refine bW ?_ | refine bA ?_ _)); refine blk_put (cs := #[.int .i64 0, .int .i64 0]) ?_ 0 _ rfl; (with_reducible repeat (first | refine bN ?_ _ | refine bW ?_ | refine bA ?_ _)); exact BK169.out⟩, ⟨by repeat (first | (with_reducible first | exact HB.out | apply wA | apply wN | apply wD | refine wS ?_ GE138.out | refine wS ?_ GE139.out | refine wS ?_ GE140.out | refine wS ?_ GE148.out | refine wS ?_ GE152.out | refine wS ?_ GE156.out | refine wS ?_ GE161.out | refine wS ?_ GE165.out | refine wS ?_ GE169.out) | exact HB.out)⟩⟩
     case' rest => skip
     clear HC181
     try clear c1
     try clear c2
     try clear p2
     try clear c3
     try clear c4
     try clear c5
     try clear c6
     try clear c7
     try clear c8
     try clear c9
     try clear c10
     try clear c11
     try clear c12
     try clear c13
     try clear c13b0
     try clear c13b1
     try clear c14
     try clear c15
     try clear c15b0
     try clear c15b1
     try clear c16
     try clear c17
     try clear c17b0
     try clear c17b1
     try clear c18
     try clear c18b0
     try clear c19
     try clear c20
     try clear c21
     try clear c22
     try clear c23
     try clear c28
     try clear c29
     try clear c32
     try clear c37
     try clear c38
     try clear c41
     try clear c46
     try clear c47
     try clear c50
     try clear c53
     try clear c54
     try clear c57
     try clear c62
     try clear c63
     try clear c65
     try clear c69
     try clear c70
     try clear c71
     try clear c77
     try clear c78
     try clear c79
     try clear c80
     try clear c86
     try clear c87
     try clear c88
     try clear c89
     try clear c90
     try clear c92
     try clear c92b0
     try clear c92b1
     try clear c92b2
     try clear c93
     try clear c93b0
     try clear c94
     try clear c96
     try clear c97
     try clear c98
     try clear c99
     try clear c100
     try clear c102
     try clear c103
     try clear c104
     try clear c105
     try clear c108
     try clear c109
     try clear c110
     try clear c111
     try clear c112
     try clear c114
     try clear c115
     try clear c116
     try clear c117
     try clear c119
     try clear c123
     try clear c124
     try clear c125
     try clear c126
     try clear c127
     try clear c129
     try clear c130
     try clear c131
     try clear c132
     try clear c136
     try clear c137
     try clear c138
     try clear c139
     try clear c140
     try clear c141
     try clear c143
     try clear c144
     try clear c145
     try clear c147
     try clear c148
     try clear c152
     try clear c153
     try clear c154
     try clear c155
     try clear c156
     try clear c157
     try clear c158
     try clear c160
     try clear c161
     try clear c162
     try clear c163
     try clear c164
     try clear c165
     try clear c166
     try clear c167
     try clear c168
     try clear c169
     try clear c170
     try clear c172
     try clear c173
     try clear c174
     try clear c175
     try clear c176
     try clear c177
     try clear c179
     try clear c182
     try clear c183
     try clear c184
     try clear c185
     try clear c186
     try clear c187
     try clear c188
     try clear c190
     try clear c191
     try clear c192
     try clear c193
     try clear c194
     try clear c195
     try clear c199
     try clear c200
     try clear c201
     try clear c202
     try clear c203
     try clear c204
     try clear c205
     try clear c206
     try clear c208
     try clear c209
     try clear c209b0
     try clear c209b1
     try clear c210
     try clear c211
     try clear c212
     try clear c213
     try clear c214
     try clear c215
     try clear c216
     try clear c217
     try clear c219
     try clear c220
     try clear c221
     try clear c222
     try clear c223
     try clear c224
     try clear c225
     try clear hcz101_0
     try clear hcz101_1
     try clear hcz106_0
     try clear hcz106_1
     try clear hcz113_0
     try clear hcz113_1
     try clear hcz118_0
     try clear hcz118_1
     try clear hcz128_0
     try clear hcz128_1
     try clear hcz133_0
     try clear hcz133_1
     try clear hcz142_0
     try clear hcz142_1
     try clear hcz146_0
     try clear hcz146_1
     try clear hcz149_0
     try clear hcz149_1
     try clear hcz159_0
     try clear hcz159_1
     try clear hcz171_0
     try clear hcz171_1
     try clear hcz178_0
     try clear hcz178_1
     try clear hcz189_0
     try clear hcz189_1
     try clear hcz196_0
     try clear hcz196_1
     try clear hcz207_0
     try clear hcz207_1
     try clear hcz218_0
     try clear hcz218_1
     try clear hcz21_0
     try clear hcz21_1
     try clear hcz226_0
     try clear hcz226_1
     try clear hcz24_0
     try clear hcz24_1
     try clear hcz26_0
     try clear hcz26_1
     try clear hcz30_0
     try clear hcz30_1
     try clear hcz33_0
     try clear hcz33_1
     try clear hcz35_0
     try clear hcz35_1
     try clear hcz39_0
     try clear hcz39_1
     try clear hcz42_0
     try clear hcz42_1
     try clear hcz44_0
     try clear hcz44_1
     try clear hcz48_0
     try clear hcz48_1
     try clear hcz51_0
     try clear hcz51_1
     try clear hcz55_0
     try clear hcz55_1
     try clear hcz64_0
     try clear hcz64_1
     try clear hcz66_0
     try clear hcz66_1
     try clear hcz72_0
     try clear hcz72_1
     try clear hcz73_0
     try clear hcz73_1
     try clear hcz74_0
     try clear hcz74_1
     try clear hcz81_0
     try clear hcz81_1
     try clear hcz82_0
     try clear hcz82_1
     try clear hcz83_0
     try clear hcz83_1
     try clear hcz91_0
     try clear hcz91_1
     try clear hfz101_0
     try clear hfz101_1
     try clear hfz106_0
     try clear hfz106_1
     try clear hfz113_0
     try clear hfz113_1
     try clear hfz118_0
     try clear hfz118_1
     try clear hfz128_0
     try clear hfz128_1
     try clear hfz133_0
     try clear hfz133_1
     try clear hfz142_0
     try clear hfz142_1
     try clear hfz146_0
     try clear hfz146_1
     try clear hfz149_0
     try clear hfz149_1
     try clear hfz159_0
     try clear hfz159_1
     try clear hfz171_0
     try clear hfz171_1
     try clear hfz178_0
     try clear hfz178_1
     try clear hfz189_0
     try clear hfz189_1
     try clear hfz196_0
     try clear hfz196_1
     try clear hfz207_0
     try clear hfz207_1
     try clear hfz218_0
     try clear hfz218_1
     try clear hfz21_0
     try clear hfz21_1
     try clear hfz226_0
     try clear hfz226_1
     try clear hfz24_0
     try clear hfz24_1
     try clear hfz26_0
     try clear hfz26_1
     try clear hfz30_0
     try clear hfz30_1
     try clear hfz33_0
     try clear hfz33_1
     try clear hfz35_0
     try clear hfz35_1
     try clear hfz39_0
     try clear hfz39_1
     try clear hfz42_0
     try clear hfz42_1
     try clear hfz44_0
     try clear hfz44_1
     try clear hfz48_0
     try clear hfz48_1
     try clear hfz51_0
     try clear hfz51_1
     try clear hfz55_0
     try clear hfz55_1
     try clear hfz64_0
     try clear hfz64_1
     try clear hfz66_0
     try clear hfz66_1
     try clear hfz72_0
     try clear hfz72_1
     try clear hfz73_0
     try clear hfz73_1
     try clear hfz74_0
     try clear hfz74_1
     try clear hfz81_0
     try clear hfz81_1
     try clear hfz82_0
     try clear hfz82_1
     try clear hfz83_0
     try clear hfz83_1
     try clear hfz91_0
     try clear hfz91_1
     try clear p2
     obtain ⟨kq, x128_180, rfl, HA, HJ180, BK138, BK139, BK140, BK148, BK152, BK156, BK161, BK165, BK169, HB⟩ := hcut
     cases kq with
     | zero => exact absurd HA.out (by simp [slackwaterlaw08_TurnGroup.j3])
     | succ kj180 =>
      have H := HA.out
      clear HA
      simp only [slackwaterlaw08_TurnGroup.j3] at H
      by_cases c227 : x128_180 = true
      ·
       subst c227
       have H1 : (none) = some r := by rw [if_pos rfl] at H; exact H
       clear H
       have H := H1
       clear H1
       exact absurd H (by simp)
      replace c227 := Bool.eq_false_iff.mpr c227
      subst c227
      have H1 : ((turn_Neg.f kj180 a0_0 a0_1).bind fun bt170 => ((slackwaterlaw08_add.f kj180 a0_0 a0_1 bt170.1 bt170.2.1).bind fun bt174 => (if bt170.2.2 = 0 then (if bt174.2.2 = true then (slackwaterlaw08_TurnGroup.j4 kj180 a3 (!(bt174.1 == 0) || (!(bt174.2.1 == 1))) a0_0 a0_1) else (none)) else (none)))) = some r := by rw [if_neg (show ¬ (false = true) by decide)] at H; exact H
      clear H
      have H := H1
      clear H1
      replace H := Option.bind_eq_some_iff.mp H
      obtain ⟨⟨t170, t171, t172⟩, A2280, H⟩ := H
      replace H : ((slackwaterlaw08_add.f kj180 a0_0 a0_1 t170 t171).bind fun bt174 => (if t172 = 0 then (if bt174.2.2 = true then (slackwaterlaw08_TurnGroup.j4 kj180 a3 (!(bt174.1 == 0) || (!(bt174.2.1 == 1))) a0_0 a0_1) else (none)) else (none))) = some r := H
      have A228 := Aside0.mk A2280
      clear A2280
      replace H := Option.bind_eq_some_iff.mp H
      obtain ⟨⟨t174, t175, t176⟩, A2290, H⟩ := H
      replace H : (if t172 = 0 then (if t176 = true then (slackwaterlaw08_TurnGroup.j4 kj180 a3 (!(t174 == 0) || (!(t175 == 1))) a0_0 a0_1) else (none)) else (none)) = some r := H
      have A229 := Aside0.mk A2290
      clear A2290
      have HC230 := Aside0.mk H
      clear H
      have hnb231 := NB138_139.out
      have hnc231 := NB139_138.out
      have hnb232 := NB138_140.out
      have hnc232 := NB140_138.out
      have hnb233 := NB138_148.out
      have hnc233 := NB148_138.out
      have hnb234 := NB138_152.out
      have hnc234 := NB152_138.out
      have hnb235 := NB138_156.out
      have hnc235 := NB156_138.out
      have hnb236 := NB138_161.out
      have hnc236 := NB161_138.out
      have hnb237 := NB138_165.out
      have hnc237 := NB165_138.out
      have hnb238 := NB138_169.out
      have hnc238 := NB169_138.out
      have hcz239_0 : wc.cell? ⟨gb138, 0, none⟩ = some (.int .i64 a0_0) := (bC BK138.out 0).trans rfl
      have hcz239_1 : wc.cell? ⟨gb138, 1, none⟩ = some (.int .i64 a0_1) := (bC BK138.out 1).trans rfl
      have hfz239_0 := bZ BK138.out 0
      have hfz239_1 := bZ BK138.out 1
      go_upto_region 19 with (first | ((with_reducible refine gC (f := 9) rfl ?_); refine goesL_ (some 131) rfl rfl Try.func9 (by kernel_rfl) rfl #[.agg #[.int .i64 a0_0, .int .i64 a0_1]] rfl (by (try simp only [List.map_toArray, List.map_cons, List.map_nil]); first | done | rfl | (simp only [List.length_drop, List.length_take]; rfl)) ?_; (with_reducible refine (turn_Neg.calls kj180 a0_0 a0_1 t170 t171 t172 _ A228.out).mono ?_); rintro e w240 ⟨rfl, hb⟩; refine ⟨_, rfl, ?_⟩; have n0_ := aZ (bB (g := gb138) (o := .cells #[.int .i64 a0_0, .int .i64 a0_1] 23 (0, 0)) (by (with_reducible repeat (first | refine bN ?_ _ | refine bW ?_ | refine bA ?_ _)); exact BK138.out) hb); have n1_ := aZ (bB (g := gb139) (o := .cells #[.int .i64 a1_0, .int .i64 a1_1] 23 (0, 0)) (by (with_reducible repeat (first | refine bN ?_ _ | refine bW ?_ | refine bA ?_ _)); exact BK139.out) hb); have n2_ := aZ (bB (g := gb140) (o := .cells #[.int .i64 a2_0, .int .i64 a2_1] 23 (0, 0)) (by (with_reducible repeat (first | refine bN ?_ _ | refine bW ?_ | refine bA ?_ _)); exact BK140.out) hb); have n3_ := aZ (bB (g := gb148) (o := .cells #[.int .i64 t145, .int .i64 t146] 23 (0, 0)) (by (with_reducible repeat (first | refine bN ?_ _ | refine bW ?_ | refine bA ?_ _)); exact BK148.out) hb); have n4_ := aZ (bB (g := gb152) (o := .cells #[.int .i64 t149, .int .i64 t150] 23 (0, 0)) (by (with_reducible repeat (first | refine bN ?_ _ | refine bW ?_ | refine bA ?_ _)); exact BK152.out) hb); have n5_ := aZ (bB (g := gb156) (o := .cells #[.int .i64 t153, .int .i64 t154] 23 (0, 0)) (by (with_reducible repeat (first | refine bN ?_ _ | refine bW ?_ | refine bA ?_ _)); exact BK156.out) hb); have n6_ := aZ (bB (g := gb161) (o := .cells #[.int .i64 t158, .int .i64 t159] 23 (0, 0)) (by (with_reducible repeat (first | refine bN ?_ _ | refine bW ?_ | refine bA ?_ _)); exact BK161.out) hb); have n7_ := aZ (bB (g := gb165) (o := .cells #[.int .i64 t162, .int .i64 t163] 23 (0, 0)) (by (with_reducible repeat (first | refine bN ?_ _ | refine bW ?_ | refine bA ?_ _)); exact BK165.out) hb); have n8_ := aZ (bB (g := gb169) (o := .cells #[.int .i64 t166, .int .i64 t167] 23 (0, 0)) (by (with_reducible repeat (first | refine bN ?_ _ | refine bW ?_ | refine bA ?_ _)); exact BK169.out) hb); have n9_ := aZ (wP (by repeat (first | (with_reducible first | exact HB.out | apply wA | apply wN | apply wD | refine wS ?_ GE138.out | refine wS ?_ GE139.out | refine wS ?_ GE140.out | refine wS ?_ GE148.out | refine wS ?_ GE152.out | refine wS ?_ GE156.out | refine wS ?_ GE161.out | refine wS ?_ GE165.out | refine wS ?_ GE169.out) | exact HB.out)) hb); clear BK138; clear BK139; clear BK140; clear BK148; clear BK152; clear BK156; clear BK161; clear BK165; clear BK169; clear HB; have BK138 := n0_; have BK139 := n1_; have BK140 := n2_; have BK148 := n3_; have BK152 := n4_; have BK156 := n5_; have BK161 := n6_; have BK165 := n7_; have BK169 := n8_; have HB := n9_; clear n0_ n1_ n2_ n3_ n4_ n5_ n6_ n7_ n8_ n9_; (try clear hb); (try clear hb2); (try clear hk); (try clear hi)) | ((with_reducible refine gD (N := 21) rfl ?_); refine gB ?hg (N := 21) ?hd (cs := #[.int .i64 0, .int .i64 0]) (t := 23) ?hr ?_; (case hd => rfl); (case hg => rfl); (case hr => first | (go_simp; done) | (go_simp; rfl)); intro gb173 hg w241 hbox hb; have n0_ := aZ (bB (g := gb138) (o := .cells #[.int .i64 a0_0, .int .i64 a0_1] 23 (0, 0)) (by (with_reducible repeat (first | refine bN ?_ _ | refine bW ?_ | refine bA ?_ _)); exact BK138.out) hb); have n1_ := aZ (bB (g := gb139) (o := .cells #[.int .i64 a1_0, .int .i64 a1_1] 23 (0, 0)) (by (with_reducible repeat (first | refine bN ?_ _ | refine bW ?_ | refine bA ?_ _)); exact BK139.out) hb); have n2_ := aZ (bB (g := gb140) (o := .cells #[.int .i64 a2_0, .int .i64 a2_1] 23 (0, 0)) (by (with_reducible repeat (first | refine bN ?_ _ | refine bW ?_ | refine bA ?_ _)); exact BK140.out) hb); have n3_ := aZ (bB (g := gb148) (o := .cells #[.int .i64 t145, .int .i64 t146] 23 (0, 0)) (by (with_reducible repeat (first | refine bN ?_ _ | refine bW ?_ | refine bA ?_ _)); exact BK148.out) hb); have n4_ := aZ (bB (g := gb152) (o := .cells #[.int .i64 t149, .int .i64 t150] 23 (0, 0)) (by (with_reducible repeat (first | refine bN ?_ _ | refine bW ?_ | refine bA ?_ _)); exact BK152.out) hb); have n5_ := aZ (bB (g := gb156) (o := .cells #[.int .i64 t153, .int .i64 t154] 23 (0, 0)) (by (with_reducible repeat (first | refine bN ?_ _ | refine bW ?_ | refine bA ?_ _)); exact BK156.out) hb); have n6_ := aZ (bB (g := gb161) (o := .cells #[.int .i64 t158, .int .i64 t159] 23 (0, 0)) (by (with_reducible repeat (first | refine bN ?_ _ | refine bW ?_ | refine bA ?_ _)); exact BK161.out) hb); have n7_ := aZ (bB (g := gb165) (o := .cells #[.int .i64 t162, .int .i64 t163] 23 (0, 0)) (by (with_reducible repeat (first | refine bN ?_ _ | refine bW ?_ | refine bA ?_ _)); exact BK165.out) hb); have n8_ := aZ (bB (g := gb169) (o := .cells #[.int .i64 t166, .int .i64 t167] 23 (0, 0)) (by (with_reducible repeat (first | refine bN ?_ _ | refine bW ?_ | refine bA ?_ _)); exact BK169.out) hb); have n9_ := aZ (wP (by repeat (first | (with_reducible first | exact HB.out | apply wA | apply wN | apply wD | refine wS ?_ GE138.out | refine wS ?_ GE139.out | refine wS ?_ GE140.out | refine wS ?_ GE148.out | refine wS ?_ GE152.out | refine wS ?_ GE156.out | refine wS ?_ GE161.out | refine wS ?_ GE165.out | refine wS ?_ GE169.out) | exact HB.out)) hb); have n10_ := aZ (hbox); have n11_ := aZ ((by rw [hg]; exact (wZ (by repeat (first | (with_reducible first | exact HB.out | apply wA | apply wN | apply wD | refine wS ?_ GE138.out | refine wS ?_ GE139.out | refine wS ?_ GE140.out | refine wS ?_ GE148.out | refine wS ?_ GE152.out | refine wS ?_ GE156.out | refine wS ?_ GE161.out | refine wS ?_ GE165.out | refine wS ?_ GE169.out) | exact HB.out))) : w.heap.size ≤ gb173)); have n12_ := aZ ((by rw [hg]; exact (wZ (by repeat (first | (with_reducible first | exact HB.out | apply wA | apply wN | apply wD | refine wS ?_ GE138.out | refine wS ?_ GE139.out | refine wS ?_ GE140.out | refine wS ?_ GE148.out | refine wS ?_ GE152.out | refine wS ?_ GE156.out | refine wS ?_ GE161.out | refine wS ?_ GE165.out | refine wS ?_ GE169.out) | exact HB.out))) : w.heap.size ≤ gb173)); have n13_ := aZ ((by rw [hg]; exact Nat.ne_of_lt (bL (g := gb138) (o := .cells #[.int .i64 a0_0, .int .i64 a0_1] 23 (0, 0)) (by (with_reducible repeat (first | refine bN ?_ _ | refine bW ?_ | refine bA ?_ _)); exact BK138.out)) : gb138 ≠ gb173)); have n14_ := aZ ((by rw [hg]; exact Nat.ne_of_gt (bL (g := gb138) (o := .cells #[.int .i64 a0_0, .int .i64 a0_1] 23 (0, 0)) (by (with_reducible repeat (first | refine bN ?_ _ | refine bW ?_ | refine bA ?_ _)); exact BK138.out)) : gb173 ≠ gb138)); have n15_ := aZ ((by rw [hg]; exact Nat.ne_of_lt (bL (g := gb139) (o := .cells #[.int .i64 a1_0, .int .i64 a1_1] 23 (0, 0)) (by (with_reducible repeat (first | refine bN ?_ _ | refine bW ?_ | refine bA ?_ _)); exact BK139.out)) : gb139 ≠ gb173)); have n16_ := aZ ((by rw [hg]; exact Nat.ne_of_gt (bL (g := gb139) (o := .cells #[.int .i64 a1_0, .int .i64 a1_1] 23 (0, 0)) (by (with_reducible repeat (first | refine bN ?_ _ | refine bW ?_ | refine bA ?_ _)); exact BK139.out)) : gb173 ≠ gb139)); have n17_ := aZ ((by rw [hg]; exact Nat.ne_of_lt (bL (g := gb140) (o := .cells #[.int .i64 a2_0, .int .i64 a2_1] 23 (0, 0)) (by (with_reducible repeat (first | refine bN ?_ _ | refine bW ?_ | refine bA ?_ _)); exact BK140.out)) : gb140 ≠ gb173)); have n18_ := aZ ((by rw [hg]; exact Nat.ne_of_gt (bL (g := gb140) (o := .cells #[.int .i64 a2_0, .int .i64 a2_1] 23 (0, 0)) (by (with_reducible repeat (first | refine bN ?_ _ | refine bW ?_ | refine bA ?_ _)); exact BK140.out)) : gb173 ≠ gb140)); have n19_ := aZ ((by rw [hg]; exact Nat.ne_of_lt (bL (g := gb148) (o := .cells #[.int .i64 t145, .int .i64 t146] 23 (0, 0)) (by (with_reducible repeat (first | refine bN ?_ _ | refine bW ?_ | refine bA ?_ _)); exact BK148.out)) : gb148 ≠ gb173)); have n20_ := aZ ((by rw [hg]; exact Nat.ne_of_gt (bL (g := gb148) (o := .cells #[.int .i64 t145, .int .i64 t146] 23 (0, 0)) (by (with_reducible repeat (first | refine bN ?_ _ | refine bW ?_ | refine bA ?_ _)); exact BK148.out)) : gb173 ≠ gb148)); have n21_ := aZ ((by rw [hg]; exact Nat.ne_of_lt (bL (g := gb152) (o := .cells #[.int .i64 t149, .int .i64 t150] 23 (0, 0)) (by (with_reducible repeat (first | refine bN ?_ _ | refine bW ?_ | refine bA ?_ _)); exact BK152.out)) : gb152 ≠ gb173)); have n22_ := aZ ((by rw [hg]; exact Nat.ne_of_gt (bL (g := gb152) (o := .cells #[.int .i64 t149, .int .i64 t150] 23 (0, 0)) (by (with_reducible repeat (first | refine bN ?_ _ | refine bW ?_ | refine bA ?_ _)); exact BK152.out)) : gb173 ≠ gb152)); have n23_ := aZ ((by rw [hg]; exact Nat.ne_of_lt (bL (g := gb156) (o := .cells #[.int .i64 t153, .int .i64 t154] 23 (0, 0)) (by (with_reducible repeat (first | refine bN ?_ _ | refine bW ?_ | refine bA ?_ _)); exact BK156.out)) : gb156 ≠ gb173)); have n24_ := aZ ((by rw [hg]; exact Nat.ne_of_gt (bL (g := gb156) (o := .cells #[.int .i64 t153, .int .i64 t154] 23 (0, 0)) (by (with_reducible repeat (first | refine bN ?_ _ | refine bW ?_ | refine bA ?_ _)); exact BK156.out)) : gb173 ≠ gb156)); have n25_ := aZ ((by rw [hg]; exact Nat.ne_of_lt (bL (g := gb161) (o := .cells #[.int .i64 t158, .int .i64 t159] 23 (0, 0)) (by (with_reducible repeat (first | refine bN ?_ _ | refine bW ?_ | refine bA ?_ _)); exact BK161.out)) : gb161 ≠ gb173)); have n26_ := aZ ((by rw [hg]; exact Nat.ne_of_gt (bL (g := gb161) (o := .cells #[.int .i64 t158, .int .i64 t159] 23 (0, 0)) (by (with_reducible repeat (first | refine bN ?_ _ | refine bW ?_ | refine bA ?_ _)); exact BK161.out)) : gb173 ≠ gb161)); have n27_ := aZ ((by rw [hg]; exact Nat.ne_of_lt (bL (g := gb165) (o := .cells #[.int .i64 t162, .int .i64 t163] 23 (0, 0)) (by (with_reducible repeat (first | refine bN ?_ _ | refine bW ?_ | refine bA ?_ _)); exact BK165.out)) : gb165 ≠ gb173)); have n28_ := aZ ((by rw [hg]; exact Nat.ne_of_gt (bL (g := gb165) (o := .cells #[.int .i64 t162, .int .i64 t163] 23 (0, 0)) (by (with_reducible repeat (first | refine bN ?_ _ | refine bW ?_ | refine bA ?_ _)); exact BK165.out)) : gb173 ≠ gb165)); have n29_ := aZ ((by rw [hg]; exact Nat.ne_of_lt (bL (g := gb169) (o := .cells #[.int .i64 t166, .int .i64 t167] 23 (0, 0)) (by (with_reducible repeat (first | refine bN ?_ _ | refine bW ?_ | refine bA ?_ _)); exact BK169.out)) : gb169 ≠ gb173)); have n30_ := aZ ((by rw [hg]; exact Nat.ne_of_gt (bL (g := gb169) (o := .cells #[.int .i64 t166, .int .i64 t167] 23 (0, 0)) (by (with_reducible repeat (first | refine bN ?_ _ | refine bW ?_ | refine bA ?_ _)); exact BK169.out)) : gb173 ≠ gb169)); clear BK138; clear BK139; clear BK140; clear BK148; clear BK152; clear BK156; clear BK161; clear BK165; clear BK169; clear HB; have BK138 := n0_; have BK139 := n1_; have BK140 := n2_; have BK148 := n3_; have BK152 := n4_; have BK156 := n5_; have BK161 := n6_; have BK165 := n7_; have BK169 := n8_; have HB := n9_; have BK173 := n10_; have GW173 := n11_; have GE173 := n12_; have NB138_173 := n13_; have NB173_138 := n14_; have NB139_173 := n15_; have NB173_139 := n16_; have NB140_173 := n17_; have NB173_140 := n18_; have NB148_173 := n19_; have NB173_148 := n20_; have NB152_173 := n21_; have NB173_152 := n22_; have NB156_173 := n23_; have NB173_156 := n24_; have NB161_173 := n25_; have NB173_161 := n26_; have NB165_173 := n27_; have NB173_165 := n28_; have NB169_173 := n29_; have NB173_169 := n30_; clear n0_ n1_ n2_ n3_ n4_ n5_ n6_ n7_ n8_ n9_ n10_ n11_ n12_ n13_ n14_ n15_ n16_ n17_ n18_ n19_ n20_ n21_ n22_ n23_ n24_ n25_ n26_ n27_ n28_ n29_ n30_; clear hb hbox hg; have hnb242 := NB173_138.out; have hnc242 := NB138_173.out; have hnb243 := NB173_139.out; have hnc243 := NB139_173.out; have hnb244 := NB173_140.out; have hnc244 := NB140_173.out; have hnb245 := NB173_148.out; have hnc245 := NB148_173.out; have hnb246 := NB173_152.out; have hnc246 := NB152_173.out; have hnb247 := NB173_156.out; have hnc247 := NB156_173.out; have hnb248 := NB173_161.out; have hnc248 := NB161_173.out; have hnb249 := NB173_165.out; have hnc249 := NB165_173.out; have hnb250 := NB173_169.out; have hnc250 := NB169_173.out; have hcz251_0 : w241.cell? ⟨gb173, 0, none⟩ = some (.int .i64 0) := (bC BK173.out 0).trans rfl; have hcz251_1 : w241.cell? ⟨gb173, 1, none⟩ = some (.int .i64 0) := (bC BK173.out 1).trans rfl; have hfz251_0 := bZ BK173.out 0; have hfz251_1 := bZ BK173.out 1; have hcz252_0 : w241.cell? ⟨gb138, 0, none⟩ = some (.int .i64 a0_0) := (bC BK138.out 0).trans rfl; have hcz252_1 : w241.cell? ⟨gb138, 1, none⟩ = some (.int .i64 a0_1) := (bC BK138.out 1).trans rfl; have hfz252_0 := bZ BK138.out 0; have hfz252_1 := bZ BK138.out 1) | ((with_reducible refine gC (f := 7) rfl ?_); refine goesL_ (some 137) rfl rfl Try.func7 (by kernel_rfl) rfl #[.agg #[.int .i64 a0_0, .int .i64 a0_1], .agg #[.int .i64 t170, .int .i64 t171]] rfl (by (try simp only [List.map_toArray, List.map_cons, List.map_nil]); first | done | rfl | (simp only [List.length_drop, List.length_take]; rfl)) ?_; (with_reducible refine (slackwaterlaw08_add.calls kj180 a0_0 a0_1 t170 t171 t174 t175 t176 _ A229.out).mono ?_); rintro e w253 ⟨rfl, hb⟩; refine ⟨_, rfl, ?_⟩; have n0_ := aZ (bB (g := gb138) (o := .cells #[.int .i64 a0_0, .int .i64 a0_1] 23 (0, 0)) (by (with_reducible repeat (first | refine bN ?_ _ | refine bW ?_ | refine bA ?_ _)); refine bF ?_ NB138_173.out _; (with_reducible repeat (first | refine bN ?_ _ | refine bW ?_ | refine bA ?_ _)); refine bF ?_ NB138_173.out _; (with_reducible repeat (first | refine bN ?_ _ | refine bW ?_ | refine bA ?_ _)); exact BK138.out) hb); have n1_ := aZ (bB (g := gb139) (o := .cells #[.int .i64 a1_0, .int .i64 a1_1] 23 (0, 0)) (by (with_reducible repeat (first | refine bN ?_ _ | refine bW ?_ | refine bA ?_ _)); refine bF ?_ NB139_173.out _; (with_reducible repeat (first | refine bN ?_ _ | refine bW ?_ | refine bA ?_ _)); refine bF ?_ NB139_173.out _; (with_reducible repeat (first | refine bN ?_ _ | refine bW ?_ | refine bA ?_ _)); exact BK139.out) hb); have n2_ := aZ (bB (g := gb140) (o := .cells #[.int .i64 a2_0, .int .i64 a2_1] 23 (0, 0)) (by (with_reducible repeat (first | refine bN ?_ _ | refine bW ?_ | refine bA ?_ _)); refine bF ?_ NB140_173.out _; (with_reducible repeat (first | refine bN ?_ _ | refine bW ?_ | refine bA ?_ _)); refine bF ?_ NB140_173.out _; (with_reducible repeat (first | refine bN ?_ _ | refine bW ?_ | refine bA ?_ _)); exact BK140.out) hb); have n3_ := aZ (bB (g := gb148) (o := .cells #[.int .i64 t145, .int .i64 t146] 23 (0, 0)) (by (with_reducible repeat (first | refine bN ?_ _ | refine bW ?_ | refine bA ?_ _)); refine bF ?_ NB148_173.out _; (with_reducible repeat (first | refine bN ?_ _ | refine bW ?_ | refine bA ?_ _)); refine bF ?_ NB148_173.out _; (with_reducible repeat (first | refine bN ?_ _ | refine bW ?_ | refine bA ?_ _)); exact BK148.out) hb); have n4_ := aZ (bB (g := gb152) (o := .cells #[.int .i64 t149, .int .i64 t150] 23 (0, 0)) (by (with_reducible repeat (first | refine bN ?_ _ | refine bW ?_ | refine bA ?_ _)); refine bF ?_ NB152_173.out _; (with_reducible repeat (first | refine bN ?_ _ | refine bW ?_ | refine bA ?_ _)); refine bF ?_ NB152_173.out _; (with_reducible repeat (first | refine bN ?_ _ | refine bW ?_ | refine bA ?_ _)); exact BK152.out) hb); have n5_ := aZ (bB (g := gb156) (o := .cells #[.int .i64 t153, .int .i64 t154] 23 (0, 0)) (by (with_reducible repeat (first | refine bN ?_ _ | refine bW ?_ | refine bA ?_ _)); refine bF ?_ NB156_173.out _; (with_reducible repeat (first | refine bN ?_ _ | refine bW ?_ | refine bA ?_ _)); refine bF ?_ NB156_173.out _; (with_reducible repeat (first | refine bN ?_ _ | refine bW ?_ | refine bA ?_ _)); exact BK156.out) hb); have n6_ := aZ (bB (g := gb161) (o := .cells #[.int .i64 t158, .int .i64 t159] 23 (0, 0)) (by (with_reducible repeat (first | refine bN ?_ _ | refine bW ?_ | refine bA ?_ _)); refine bF ?_ NB161_173.out _; (with_reducible repeat (first | refine bN ?_ _ | refine bW ?_ | refine bA ?_ _)); refine bF ?_ NB161_173.out _; (with_reducible repeat (first | refine bN ?_ _ | refine bW ?_ | refine bA ?_ _)); exact BK161.out) hb); have n7_ := aZ (bB (g := gb165) (o := .cells #[.int .i64 t162, .int .i64 t163] 23 (0, 0)) (by (with_reducible repeat (first | refine bN ?_ _ | refine bW ?_ | refine bA ?_ _)); refine bF ?_ NB165_173.out _; (with_reducible repeat (first | refine bN ?_ _ | refine bW ?_ | refine bA ?_ _)); refine bF ?_ NB165_173.out _; (with_reducible repeat (first | refine bN ?_ _ | refine bW ?_ | refine bA ?_ _)); exact BK165.out) hb); have n8_ := aZ (bB (g := gb169) (o := .cells #[.int .i64 t166, .int .i64 t167] 23 (0, 0)) (by (with_reducible repeat (first | refine bN ?_ _ | refine bW ?_ | refine bA ?_ _)); refine bF ?_ NB169_173.out _; (with_reducible repeat (first | refine bN ?_ _ | refine bW ?_ | refine bA ?_ _)); refine bF ?_ NB169_173.out _; (with_reducible repeat (first | refine bN ?_ _ | refine bW ?_ | refine bA ?_ _)); exact BK169.out) hb); have n9_ := aZ (bB (g := gb173) (o := .cells #[.int .i64 t170, .int .i64 t171] 23 (0, 0)) (by (with_reducible repeat (first | refine bN ?_ _ | refine bW ?_ | refine bA ?_ _)); refine blk_put (cs := #[.int .i64 t170, .int .i64 0]) ?_ 1 _ rfl; (with_reducible repeat (first | refine bN ?_ _ | refine bW ?_ | refine bA ?_ _)); refine blk_put (cs := #[.int .i64 0, .int .i64 0]) ?_ 0 _ rfl; (with_reducible repeat (first | refine bN ?_ _ | refine bW ?_ | refine bA ?_ _)); exact BK173.out) hb); have n10_ := aZ (wP (by repeat (first | (with_reducible first | exact HB.out | apply wA | apply wN | apply wD | refine wS ?_ GE138.out | refine wS ?_ GE139.out | refine wS ?_ GE140.out | refine wS ?_ GE148.out | refine wS ?_ GE152.out | refine wS ?_ GE156.out | refine wS ?_ GE161.out | refine wS ?_ GE165.out | refine wS ?_ GE169.out | refine wS ?_ GE173.out) | exact HB.out)) hb); clear BK138; clear BK139; clear BK140; clear BK148; clear BK152; clear BK156; clear BK161; clear BK165; clear BK169; clear BK173; clear HB; have BK138 := n0_; have BK139 := n1_; have BK140 := n2_; have BK148 := n3_; have BK152 := n4_; have BK156 := n5_; have BK161 := n6_; have BK165 := n7_; have BK169 := n8_; have BK173 := n9_; have HB := n10_; clear n0_ n1_ n2_ n3_ n4_ n5_ n6_ n7_ n8_ n9_ n10_; (try clear hb); (try clear hb2); (try clear hk); (try clear hi)) | ((with_reducible refine gD (N := 23) rfl ?_); refine gB ?hg (N := 23) ?hd (cs := #[.int .i64 0, .int .i64 0]) (t := 23) ?hr ?_; (case hd => rfl); (case hg => rfl); (case hr => first | (go_simp; done) | (go_simp; rfl)); intro gb177 hg w254 hbox hb; have n0_ := aZ (bB (g := gb138) (o := .cells #[.int .i64 a0_0, .int .i64 a0_1] 23 (0, 0)) (by (with_reducible repeat (first | refine bN ?_ _ | refine bW ?_ | refine bA ?_ _)); exact BK138.out) hb); have n1_ := aZ (bB (g := gb139) (o := .cells #[.int .i64 a1_0, .int .i64 a1_1] 23 (0, 0)) (by (with_reducible repeat (first | refine bN ?_ _ | refine bW ?_ | refine bA ?_ _)); exact BK139.out) hb); have n2_ := aZ (bB (g := gb140) (o := .cells #[.int .i64 a2_0, .int .i64 a2_1] 23 (0, 0)) (by (with_reducible repeat (first | refine bN ?_ _ | refine bW ?_ | refine bA ?_ _)); exact BK140.out) hb); have n3_ := aZ (bB (g := gb148) (o := .cells #[.int .i64 t145, .int .i64 t146] 23 (0, 0)) (by (with_reducible repeat (first | refine bN ?_ _ | refine bW ?_ | refine bA ?_ _)); exact BK148.out) hb); have n4_ := aZ (bB (g := gb152) (o := .cells #[.int .i64 t149, .int .i64 t150] 23 (0, 0)) (by (with_reducible repeat (first | refine bN ?_ _ | refine bW ?_ | refine bA ?_ _)); exact BK152.out) hb); have n5_ := aZ (bB (g := gb156) (o := .cells #[.int .i64 t153, .int .i64 t154] 23 (0, 0)) (by (with_reducible repeat (first | refine bN ?_ _ | refine bW ?_ | refine bA ?_ _)); exact BK156.out) hb); have n6_ := aZ (bB (g := gb161) (o := .cells #[.int .i64 t158, .int .i64 t159] 23 (0, 0)) (by (with_reducible repeat (first | refine bN ?_ _ | refine bW ?_ | refine bA ?_ _)); exact BK161.out) hb); have n7_ := aZ (bB (g := gb165) (o := .cells #[.int .i64 t162, .int .i64 t163] 23 (0, 0)) (by (with_reducible repeat (first | refine bN ?_ _ | refine bW ?_ | refine bA ?_ _)); exact BK165.out) hb); have n8_ := aZ (bB (g := gb169) (o := .cells #[.int .i64 t166, .int .i64 t167] 23 (0, 0)) (by (with_reducible repeat (first | refine bN ?_ _ | refine bW ?_ | refine bA ?_ _)); exact BK169.out) hb); have n9_ := aZ (bB (g := gb173) (o := .cells #[.int .i64 t170, .int .i64 t171] 23 (0, 0)) (by (with_reducible repeat (first | refine bN ?_ _ | refine bW ?_ | refine bA ?_ _)); exact BK173.out) hb); have n10_ := aZ (wP (by repeat (first | (with_reducible first | exact HB.out | apply wA | apply wN | apply wD | refine wS ?_ GE138.out | refine wS ?_ GE139.out | refine wS ?_ GE140.out | refine wS ?_ GE148.out | refine wS ?_ GE152.out | refine wS ?_ GE156.out | refine wS ?_ GE161.out | refine wS ?_ GE165.out | refine wS ?_ GE169.out | refine wS ?_ GE173.out) | exact HB.out)) hb); have n11_ := aZ (hbox); have n12_ := aZ ((by rw [hg]; exact (wZ (by repeat (first | (with_reducible first | exact HB.out | apply wA | apply wN | apply wD | refine wS ?_ GE138.out | refine wS ?_ GE139.out | refine wS ?_ GE140.out | refine wS ?_ GE148.out | refine wS ?_ GE152.out | refine wS ?_ GE156.out | refine wS ?_ GE161.out | refine wS ?_ GE165.out | refine wS ?_ GE169.out | refine wS ?_ GE173.out) | exact HB.out))) : w.heap.size ≤ gb177)); have n13_ := aZ ((by rw [hg]; exact (wZ (by repeat (first | (with_reducible first | exact HB.out | apply wA | apply wN | apply wD | refine wS ?_ GE138.out | refine wS ?_ GE139.out | refine wS ?_ GE140.out | refine wS ?_ GE148.out | refine wS ?_ GE152.out | refine wS ?_ GE156.out | refine wS ?_ GE161.out | refine wS ?_ GE165.out | refine wS ?_ GE169.out | refine wS ?_ GE173.out) | exact HB.out))) : w.heap.size ≤ gb177)); have n14_ := aZ ((by rw [hg]; exact Nat.ne_of_lt (bL (g := gb138) (o := .cells #[.int .i64 a0_0, .int .i64 a0_1] 23 (0, 0)) (by (with_reducible repeat (first | refine bN ?_ _ | refine bW ?_ | refine bA ?_ _)); exact BK138.out)) : gb138 ≠ gb177)); have n15_ := aZ ((by rw [hg]; exact Nat.ne_of_gt (bL (g := gb138) (o := .cells #[.int .i64 a0_0, .int .i64 a0_1] 23 (0, 0)) (by (with_reducible repeat (first | refine bN ?_ _ | refine bW ?_ | refine bA ?_ _)); exact BK138.out)) : gb177 ≠ gb138)); have n16_ := aZ ((by rw [hg]; exact Nat.ne_of_lt (bL (g := gb139) (o := .cells #[.int .i64 a1_0, .int .i64 a1_1] 23 (0, 0)) (by (with_reducible repeat (first | refine bN ?_ _ | refine bW ?_ | refine bA ?_ _)); exact BK139.out)) : gb139 ≠ gb177)); have n17_ := aZ ((by rw [hg]; exact Nat.ne_of_gt (bL (g := gb139) (o := .cells #[.int .i64 a1_0, .int .i64 a1_1] 23 (0, 0)) (by (with_reducible repeat (first | refine bN ?_ _ | refine bW ?_ | refine bA ?_ _)); exact BK139.out)) : gb177 ≠ gb139)); have n18_ := aZ ((by rw [hg]; exact Nat.ne_of_lt (bL (g := gb140) (o := .cells #[.int .i64 a2_0, .int .i64 a2_1] 23 (0, 0)) (by (with_reducible repeat (first | refine bN ?_ _ | refine bW ?_ | refine bA ?_ _)); exact BK140.out)) : gb140 ≠ gb177)); have n19_ := aZ ((by rw [hg]; exact Nat.ne_of_gt (bL (g := gb140) (o := .cells #[.int .i64 a2_0, .int .i64 a2_1] 23 (0, 0)) (by (with_reducible repeat (first | refine bN ?_ _ | refine bW ?_ | refine bA ?_ _)); exact BK140.out)) : gb177 ≠ gb140)); have n20_ := aZ ((by rw [hg]; exact Nat.ne_of_lt (bL (g := gb148) (o := .cells #[.int .i64 t145, .int .i64 t146] 23 (0, 0)) (by (with_reducible repeat (first | refine bN ?_ _ | refine bW ?_ | refine bA ?_ _)); exact BK148.out)) : gb148 ≠ gb177)); have n21_ := aZ ((by rw [hg]; exact Nat.ne_of_gt (bL (g := gb148) (o := .cells #[.int .i64 t145, .int .i64 t146] 23 (0, 0)) (by (with_reducible repeat (first | refine bN ?_ _ | refine bW ?_ | refine bA ?_ _)); exact BK148.out)) : gb177 ≠ gb148)); have n22_ := aZ ((by rw [hg]; exact Nat.ne_of_lt (bL (g := gb152) (o := .cells #[.int .i64 t149, .int .i64 t150] 23 (0, 0)) (by (with_reducible repeat (first | refine bN ?_ _ | refine bW ?_ | refine bA ?_ _)); exact BK152.out)) : gb152 ≠ gb177)); have n23_ := aZ ((by rw [hg]; exact Nat.ne_of_gt (bL (g := gb152) (o := .cells #[.int .i64 t149, .int .i64 t150] 23 (0, 0)) (by (with_reducible repeat (first | refine bN ?_ _ | refine bW ?_ | refine bA ?_ _)); exact BK152.out)) : gb177 ≠ gb152)); have n24_ := aZ ((by rw [hg]; exact Nat.ne_of_lt (bL (g := gb156) (o := .cells #[.int .i64 t153, .int .i64 t154] 23 (0, 0)) (by (with_reducible repeat (first | refine bN ?_ _ | refine bW ?_ | refine bA ?_ _)); exact BK156.out)) : gb156 ≠ gb177)); have n25_ := aZ ((by rw [hg]; exact Nat.ne_of_gt (bL (g := gb156) (o := .cells #[.int .i64 t153, .int .i64 t154] 23 (0, 0)) (by (with_reducible repeat (first | refine bN ?_ _ | refine bW ?_ | refine bA ?_ _)); exact BK156.out)) : gb177 ≠ gb156)); have n26_ := aZ ((by rw [hg]; exact Nat.ne_of_lt (bL (g := gb161) (o := .cells #[.int .i64 t158, .int .i64 t159] 23 (0, 0)) (by (with_reducible repeat (first | refine bN ?_ _ | refine bW ?_ | refine bA ?_ _)); exact BK161.out)) : gb161 ≠ gb177)); have n27_ := aZ ((by rw [hg]; exact Nat.ne_of_gt (bL (g := gb161) (o := .cells #[.int .i64 t158, .int .i64 t159] 23 (0, 0)) (by (with_reducible repeat (first | refine bN ?_ _ | refine bW ?_ | refine bA ?_ _)); exact BK161.out)) : gb177 ≠ gb161)); have n28_ := aZ ((by rw [hg]; exact Nat.ne_of_lt (bL (g := gb165) (o := .cells #[.int .i64 t162, .int .i64 t163] 23 (0, 0)) (by (with_reducible repeat (first | refine bN ?_ _ | refine bW ?_ | refine bA ?_ _)); exact BK165.out)) : gb165 ≠ gb177)); have n29_ := aZ ((by rw [hg]; exact Nat.ne_of_gt (bL (g := gb165) (o := .cells #[.int .i64 t162, .int .i64 t163] 23 (0, 0)) (by (with_reducible repeat (first | refine bN ?_ _ | refine bW ?_ | refine bA ?_ _)); exact BK165.out)) : gb177 ≠ gb165)); have n30_ := aZ ((by rw [hg]; exact Nat.ne_of_lt (bL (g := gb169) (o := .cells #[.int .i64 t166, .int .i64 t167] 23 (0, 0)) (by (with_reducible repeat (first | refine bN ?_ _ | refine bW ?_ | refine bA ?_ _)); exact BK169.out)) : gb169 ≠ gb177)); have n31_ := aZ ((by rw [hg]; exact Nat.ne_of_gt (bL (g := gb169) (o := .cells #[.int .i64 t166, .int .i64 t167] 23 (0, 0)) (by (with_reducible repeat (first | refine bN ?_ _ | refine bW ?_ | refine bA ?_ _)); exact BK169.out)) : gb177 ≠ gb169)); have n32_ := aZ ((by rw [hg]; exact Nat.ne_of_lt (bL (g := gb173) (o := .cells #[.int .i64 t170, .int .i64 t171] 23 (0, 0)) (by (with_reducible repeat (first | refine bN ?_ _ | refine bW ?_ | refine bA ?_ _)); exact BK173.out)) : gb173 ≠ gb177)); have n33_ := aZ ((by rw [hg]; exact Nat.ne_of_gt (bL (g := gb173) (o := .cells #[.int .i64 t170, .int .i64 t171] 23 (0, 0)) (by (with_reducible repeat (first | refine bN ?_ _ | refine bW ?_ | refine bA ?_ _)); exact BK173.out)) : gb177 ≠ gb173)); clear BK138; clear BK139; clear BK140; clear BK148; clear BK152; clear BK156; clear BK161; clear BK165; clear BK169; clear BK173; clear HB; have BK138 := n0_; have BK139 := n1_; have BK140 := n2_; have BK148 := n3_; have BK152 := n4_; have BK156 := n5_; have BK161 := n6_; have BK165 := n7_; have BK169 := n8_; have BK173 := n9_; have HB := n10_; have BK177 := n11_; have GW177 := n12_; have GE177 := n13_; have NB138_177 := n14_; have NB177_138 := n15_; have NB139_177 := n16_; have NB177_139 := n17_; have NB140_177 := n18_; have NB177_140 := n19_; have NB148_177 := n20_; have NB177_148 := n21_; have NB152_177 := n22_; have NB177_152 := n23_; have NB156_177 := n24_; have NB177_156 := n25_; have NB161_177 := n26_; have NB177_161 := n27_; have NB165_177 := n28_; have NB177_165 := n29_; have NB169_177 := n30_; have NB177_169 := n31_; have NB173_177 := n32_; have NB177_173 := n33_; clear n0_ n1_ n2_ n3_ n4_ n5_ n6_ n7_ n8_ n9_ n10_ n11_ n12_ n13_ n14_ n15_ n16_ n17_ n18_ n19_ n20_ n21_ n22_ n23_ n24_ n25_ n26_ n27_ n28_ n29_ n30_ n31_ n32_ n33_; clear hb hbox hg; have hnb255 := NB177_138.out; have hnc255 := NB138_177.out; have hnb256 := NB177_139.out; have hnc256 := NB139_177.out; have hnb257 := NB177_140.out; have hnc257 := NB140_177.out; have hnb258 := NB177_148.out; have hnc258 := NB148_177.out; have hnb259 := NB177_152.out; have hnc259 := NB152_177.out; have hnb260 := NB177_156.out; have hnc260 := NB156_177.out; have hnb261 := NB177_161.out; have hnc261 := NB161_177.out; have hnb262 := NB177_165.out; have hnc262 := NB165_177.out; have hnb263 := NB177_169.out; have hnc263 := NB169_177.out; have hnb264 := NB177_173.out; have hnc264 := NB173_177.out; have hcz265_0 : w254.cell? ⟨gb177, 0, none⟩ = some (.int .i64 0) := (bC BK177.out 0).trans rfl; have hcz265_1 : w254.cell? ⟨gb177, 1, none⟩ = some (.int .i64 0) := (bC BK177.out 1).trans rfl; have hfz265_0 := bZ BK177.out 0; have hfz265_1 := bZ BK177.out 1))
      (try simp only [Act.put, List.setIfInBounds_toArray, List.set_cons_zero, List.set_cons_succ])
      go_cut [150] (fun v150 wc => ∃ (kq : Nat) (x150_229 : Bool), v150 = .bool x150_229 ∧ Aside0 (slackwaterlaw08_TurnGroup.j4 kq a3 x150_229 a0_0 a0_1 = some r) ∧ Aside0 (kq ≤ kj180) ∧ Aside0 (wc.heap[gb138]? = some (.cells #[.int .i64 a0_0, .int .i64 a0_1] 23 (0, 0))) ∧ Aside0 (wc.heap[gb139]? = some (.cells #[.int .i64 a1_0, .int .i64 a1_1] 23 (0, 0))) ∧ Aside0 (wc.heap[gb140]? = some (.cells #[.int .i64 a2_0, .int .i64 a2_1] 23 (0, 0))) ∧ Aside0 (wc.heap[gb148]? = some (.cells #[.int .i64 t145, .int .i64 t146] 23 (0, 0))) ∧ Aside0 (wc.heap[gb152]? = some (.cells #[.int .i64 t149, .int .i64 t150] 23 (0, 0))) ∧ Aside0 (wc.heap[gb156]? = some (.cells #[.int .i64 t153, .int .i64 t154] 23 (0, 0))) ∧ Aside0 (wc.heap[gb161]? = some (.cells #[.int .i64 t158, .int .i64 t159] 23 (0, 0))) ∧ Aside0 (wc.heap[gb165]? = some (.cells #[.int .i64 t162, .int .i64 t163] 23 (0, 0))) ∧ Aside0 (wc.heap[gb169]? = some (.cells #[.int .i64 t166, .int .i64 t167] 23 (0, 0))) ∧ Aside0 (wc.heap[gb173]? = some (.cells #[.int .i64 t170, .int .i64 t171] 23 (0, 0))) ∧ Aside0 (wc.heap[gb177]? = some (.cells #[.int .i64 t174, .int .i64 t175] 23 (0, 0))) ∧ Aside0 (Below w.heap.size w wc))
      case first =>
       have H := HC230.out
       clear HC230
       by_cases c266 : t172 = 0
       ·
        rw [if_pos c266] at H
        have c266b0 : (t172 == 0) = true := beq_iff_eq.mpr c266
        have c266b1 : (t172 != 0) = false := bne_eq_false_iff_eq.mpr c266
        clear c266
        (first | rw [c266b0] | (simp only [i64_w, i32_w]; rw [c266b0]) | skip)
        by_cases c267 : t176 = true
        ·
         subst c267
         have H1 : (slackwaterlaw08_TurnGroup.j4 kj180 a3 (!(t174 == 0) || (!(t175 == 1))) a0_0 a0_1) = some r := by rw [if_pos rfl] at H; exact H
         clear H
         have H := H1
         clear H1
         have H' := Aside0.mk H
         clear H
         have hnb268 := NB177_138.out
         have hnc268 := NB138_177.out
         have hnb269 := NB177_139.out
         have hnc269 := NB139_177.out
         have hnb270 := NB177_140.out
         have hnc270 := NB140_177.out
         have hnb271 := NB177_148.out
         have hnc271 := NB148_177.out
         have hnb272 := NB177_152.out
         have hnc272 := NB152_177.out
         have hnb273 := NB177_156.out
         have hnc273 := NB156_177.out
         have hnb274 := NB177_161.out
         have hnc274 := NB161_177.out
         have hnb275 := NB177_165.out
         have hnc275 := NB165_177.out
         have hnb276 := NB177_169.out
         have hnc276 := NB169_177.out
         have hnb277 := NB177_173.out
         have hnc277 := NB173_177.out
         have hcz278_0 : w254.cell? ⟨gb177, 0, none⟩ = some (.int .i64 0) := (bC BK177.out 0).trans rfl
         have hcz278_1 : w254.cell? ⟨gb177, 1, none⟩ = some (.int .i64 0) := (bC BK177.out 1).trans rfl
         have hfz278_0 := bZ BK177.out 0
         have hfz278_1 := bZ BK177.out 1
         go_wp2
         go_meet
         case rel => exact ⟨_, ((!(t174 == 0) || (!(t175 == 1)))), (by first | rfl | (simp; done) | (simp [*]; done)), H', ⟨by have := HJ6.out; have := HJ60.out; have := HJ121.out; have := HJ180.out; first | omega | exact Nat.le_refl _⟩, ⟨by (with_reducible repeat (first | refine bN ?_ _ | refine bW ?_ | refine bA ?_ _)); refine bF ?_ NB138_177.out _; (with_reducible repeat (first | refine bN ?_ _ | refine bW ?_ | refine bA ?_ _)); refine bF ?_ NB138_177.out _; (with_reducible repeat (first | refine bN ?_ _ | refine bW ?_ | refine bA ?_ _)); exact BK138.out⟩, ⟨by (with_reducible repeat (first | refine bN ?_ _ | refine bW ?_ | refine bA ?_ _)); refine bF ?_ NB139_177.out _; (with_reducible repeat (first | refine bN ?_ _ | refine bW ?_ | refine bA ?_ _)); refine bF ?_ NB139_177.out _; (with_reducible repeat (first | refine bN ?_ _ | refine bW ?_ | refine bA ?_ _)); exact BK139.out⟩, ⟨by (with_reducible repeat (first | refine bN ?_ _ | refine bW ?_ | refine bA ?_ _)); refine bF ?_ NB140_177.out _; (with_reducible repeat (first | refine bN ?_ _ | refine bW ?_ | refine bA ?_ _)); refine bF ?_ NB140_177.out _; (with_reducible repeat (first | refine bN ?_ _ | refine bW ?_ | refine bA ?_ _)); exact BK140.out⟩, ⟨by (with_reducible repeat (first | refine bN ?_ _ | refine bW ?_ | refine bA ?_ _)); refine bF ?_ NB148_177.out _; (with_reducible repeat (first | refine bN ?_ _ | refine bW ?_ | refine bA ?_ _)); refine bF ?_ NB148_177.out _; (with_reducible repeat (first | refine bN ?_ _ | refine bW ?_ | refine bA ?_ _)); exact BK148.out⟩, ⟨by (with_reducible repeat (first | refine bN ?_ _ | refine bW ?_ | refine bA ?_ _)); refine bF ?_ NB152_177.out _; (with_reducible repeat (first | refine bN ?_ _ | refine bW ?_ | refine bA ?_ _)); refine bF ?_ NB152_177.out _; (with_reducible repeat (first | refine bN ?_ _ | refine bW ?_ | refine bA ?_ _)); exact BK152.out⟩, ⟨by (with_reducible repeat (first | refine bN ?_ _ | refine bW ?_ | refine bA ?_ _)); refine bF ?_ NB156_177.out _; (with_reducible repeat (first | refine bN ?_ _ | refine bW ?_ | refine bA ?_ _)); refine bF ?_ NB156_177.out _; (with_reducible repeat (first | refine bN ?_ _ | refine bW ?_ | refine bA ?_ _)); exact BK156.out⟩, ⟨by (with_reducible repeat (first | refine bN ?_ _ | refine bW ?_ | refine bA ?_ _)); refine bF ?_ NB161_177.out _; (with_reducible repeat (first | refine bN ?_ _ | refine bW ?_ | refine bA ?_ _)); refine bF ?_ NB161_177.out _; (with_reducible repeat (first | refine bN ?_ _ | refine bW ?_ | refine bA ?_ _)); exact BK161.out⟩, ⟨by (with_reducible repeat (first | refine bN ?_ _ | refine bW ?_ | refine bA ?_ _)); refine bF ?_ NB165_177.out _; (with_reducible repeat (first | refine bN ?_ _ | refine bW ?_ | refine bA ?_ _)); refine bF ?_ NB165_177.out _; (with_reducible repeat (first | refine bN ?_ _ | refine bW ?_ | refine bA ?_ _)); exact BK165.out⟩, ⟨by (with_reducible repeat (first | refine bN ?_ _ | refine bW ?_ | refine bA ?_ _)); refine bF ?_ NB169_177.out _; (with_reducible repeat (first | refine bN ?_ _ | refine bW ?_ | refine bA ?_ _)); refine bF ?_ NB169_177.out _; (with_reducible repeat (first | refine bN ?_ _ | refine bW ?_ | refine bA ?_ _)); exact BK169.out⟩, ⟨by (with_reducible repeat (first | refine bN ?_ _ | refine bW ?_ | refine bA ?_ _)); refine bF ?_ NB173_177.out _; (with_reducible repeat (first | refine bN ?_ _ | refine bW ?_ | refine bA ?_ _)); refine bF ?_ NB173_177.out _; (with_reducible repeat (first | refine bN ?_ _ | refine bW ?_ | refine bA ?_ _)); exact BK173.out⟩, ⟨by (with_reducible repeat (first | refine bN ?_ _ | refine bW ?_ | refine bA ?_ _)); refine blk_put (cs := #[.int .i64 t174, .int .i64 0]) ?_ 1 _ rfl; (with_reducible repeat (first | refine bN ?_ _ | refine bW ?_ | refine bA ?_ _)); refine blk_put (cs := #[.int .i64 0, .int .i64 0]) ?_ 0 _ rfl; (with_reducible repeat (first | refine bN ?_ _ | refine bW ?_ | refine bA ?_ _)); exact BK177.out⟩, ⟨by repeat (first | (with_reducible first | exact HB.out | apply wA | apply wN | apply wD | refine wS ?_ GE138.out | refine wS ?_ GE139.out | refine wS ?_ GE140.out | refine wS ?_ GE148.out | refine wS ?_ GE152.out | refine wS ?_ GE156.out | refine wS ?_ GE161.out | refine wS ?_ GE165.out | refine wS ?_ GE169.out | refine wS ?_ GE173.out | refine wS ?_ GE177.out) | exact HB.out)⟩⟩
        replace c267 := Bool.eq_false_iff.mpr c267
        subst c267
        have H1 : (none) = some r := by rw [if_neg (show ¬ (false = true) by decide)] at H; exact H
        clear H
        have H := H1
        clear H1
        exact absurd H (by simp)
       rw [if_neg c266] at H
       exact absurd H (by simp)
      case' rest => skip
      clear HC230
      try clear c1
      try clear c2
      try clear p2
      try clear c3
      try clear c4
      try clear c5
      try clear c6
      try clear c7
      try clear c8
      try clear c9
      try clear c10
      try clear c11
      try clear c12
      try clear c13
      try clear c13b0
      try clear c13b1
      try clear c14
      try clear c15
      try clear c15b0
      try clear c15b1
      try clear c16
      try clear c17
      try clear c17b0
      try clear c17b1
      try clear c18
      try clear c18b0
      try clear c19
      try clear c20
      try clear c21
      try clear c22
      try clear c23
      try clear c24
      try clear c25
      try clear c26
      try clear c27
      try clear c28
      try clear c29
      try clear c32
      try clear c37
      try clear c38
      try clear c41
      try clear c46
      try clear c47
      try clear c50
      try clear c53
      try clear c54
      try clear c57
      try clear c62
      try clear c63
      try clear c65
      try clear c69
      try clear c70
      try clear c71
      try clear c77
      try clear c78
      try clear c79
      try clear c80
      try clear c86
      try clear c87
      try clear c88
      try clear c89
      try clear c90
      try clear c92
      try clear c92b0
      try clear c92b1
      try clear c92b2
      try clear c93
      try clear c93b0
      try clear c94
      try clear c96
      try clear c97
      try clear c98
      try clear c99
      try clear c100
      try clear c102
      try clear c103
      try clear c104
      try clear c105
      try clear c108
      try clear c109
      try clear c110
      try clear c111
      try clear c112
      try clear c114
      try clear c115
      try clear c116
      try clear c117
      try clear c119
      try clear c123
      try clear c124
      try clear c125
      try clear c126
      try clear c127
      try clear c129
      try clear c130
      try clear c131
      try clear c132
      try clear c136
      try clear c137
      try clear c138
      try clear c139
      try clear c140
      try clear c141
      try clear c143
      try clear c144
      try clear c145
      try clear c147
      try clear c148
      try clear c152
      try clear c153
      try clear c154
      try clear c155
      try clear c156
      try clear c157
      try clear c158
      try clear c160
      try clear c161
      try clear c162
      try clear c163
      try clear c164
      try clear c165
      try clear c166
      try clear c167
      try clear c168
      try clear c169
      try clear c170
      try clear c172
      try clear c173
      try clear c174
      try clear c175
      try clear c176
      try clear c177
      try clear c179
      try clear c182
      try clear c183
      try clear c184
      try clear c185
      try clear c186
      try clear c187
      try clear c188
      try clear c190
      try clear c191
      try clear c192
      try clear c193
      try clear c194
      try clear c195
      try clear c199
      try clear c200
      try clear c201
      try clear c202
      try clear c203
      try clear c204
      try clear c205
      try clear c206
      try clear c208
      try clear c209
      try clear c209b0
      try clear c209b1
      try clear c210
      try clear c211
      try clear c212
      try clear c213
      try clear c214
      try clear c215
      try clear c216
      try clear c217
      try clear c219
      try clear c220
      try clear c221
      try clear c222
      try clear c223
      try clear c224
      try clear c225
      try clear c227
      try clear c231
      try clear c232
      try clear c233
      try clear c234
      try clear c235
      try clear c236
      try clear c237
      try clear c238
      try clear c242
      try clear c243
      try clear c244
      try clear c245
      try clear c246
      try clear c247
      try clear c248
      try clear c249
      try clear c250
      try clear c255
      try clear c256
      try clear c257
      try clear c258
      try clear c259
      try clear c260
      try clear c261
      try clear c262
      try clear c263
      try clear c264
      try clear c266
      try clear c266b0
      try clear c266b1
      try clear c267
      try clear c268
      try clear c269
      try clear c270
      try clear c271
      try clear c272
      try clear c273
      try clear c274
      try clear c275
      try clear c276
      try clear c277
      try clear hcz101_0
      try clear hcz101_1
      try clear hcz106_0
      try clear hcz106_1
      try clear hcz113_0
      try clear hcz113_1
      try clear hcz118_0
      try clear hcz118_1
      try clear hcz128_0
      try clear hcz128_1
      try clear hcz133_0
      try clear hcz133_1
      try clear hcz142_0
      try clear hcz142_1
      try clear hcz146_0
      try clear hcz146_1
      try clear hcz149_0
      try clear hcz149_1
      try clear hcz159_0
      try clear hcz159_1
      try clear hcz171_0
      try clear hcz171_1
      try clear hcz178_0
      try clear hcz178_1
      try clear hcz189_0
      try clear hcz189_1
      try clear hcz196_0
      try clear hcz196_1
      try clear hcz207_0
      try clear hcz207_1
      try clear hcz218_0
      try clear hcz218_1
      try clear hcz21_0
      try clear hcz21_1
      try clear hcz226_0
      try clear hcz226_1
      try clear hcz239_0
      try clear hcz239_1
      try clear hcz24_0
      try clear hcz24_1
      try clear hcz251_0
      try clear hcz251_1
      try clear hcz252_0
      try clear hcz252_1
      try clear hcz265_0
      try clear hcz265_1
      try clear hcz26_0
      try clear hcz26_1
      try clear hcz278_0
      try clear hcz278_1
      try clear hcz30_0
      try clear hcz30_1
      try clear hcz33_0
      try clear hcz33_1
      try clear hcz35_0
      try clear hcz35_1
      try clear hcz39_0
      try clear hcz39_1
      try clear hcz42_0
      try clear hcz42_1
      try clear hcz44_0
      try clear hcz44_1
      try clear hcz48_0
      try clear hcz48_1
      try clear hcz51_0
      try clear hcz51_1
      try clear hcz55_0
      try clear hcz55_1
      try clear hcz64_0
      try clear hcz64_1
      try clear hcz66_0
      try clear hcz66_1
      try clear hcz72_0
      try clear hcz72_1
      try clear hcz73_0
      try clear hcz73_1
      try clear hcz74_0
      try clear hcz74_1
      try clear hcz81_0
      try clear hcz81_1
      try clear hcz82_0
      try clear hcz82_1
      try clear hcz83_0
      try clear hcz83_1
      try clear hcz91_0
      try clear hcz91_1
      try clear hfz101_0
      try clear hfz101_1
      try clear hfz106_0
      try clear hfz106_1
      try clear hfz113_0
      try clear hfz113_1
      try clear hfz118_0
      try clear hfz118_1
      try clear hfz128_0
      try clear hfz128_1
      try clear hfz133_0
      try clear hfz133_1
      try clear hfz142_0
      try clear hfz142_1
      try clear hfz146_0
      try clear hfz146_1
      try clear hfz149_0
      try clear hfz149_1
      try clear hfz159_0
      try clear hfz159_1
      try clear hfz171_0
      try clear hfz171_1
      try clear hfz178_0
      try clear hfz178_1
      try clear hfz189_0
      try clear hfz189_1
      try clear hfz196_0
      try clear hfz196_1
      try clear hfz207_0
      try clear hfz207_1
      try clear hfz218_0
      try clear hfz218_1
      try clear hfz21_0
      try clear hfz21_1
      try clear hfz226_0
      try clear hfz226_1
      try clear hfz239_0
      try clear hfz239_1
      try clear hfz24_0
      try clear hfz24_1
      try clear hfz251_0
      try clear hfz251_1
      try clear hfz252_0
      try clear hfz252_1
      try clear hfz265_0
      try clear hfz265_1
      try clear hfz26_0
      try clear hfz26_1
      try clear hfz278_0
      try clear hfz278_1
      try clear hfz30_0
      try clear hfz30_1
      try clear hfz33_0
      try clear hfz33_1
      try clear hfz35_0
      try clear hfz35_1
      try clear hfz39_0
      try clear hfz39_1
      try clear hfz42_0
      try clear hfz42_1
      try clear hfz44_0
      try clear hfz44_1
      try clear hfz48_0
      try clear hfz48_1
      try clear hfz51_0
      try clear hfz51_1
      try clear hfz55_0
      try clear hfz55_1
      try clear hfz64_0
      try clear hfz64_1
      try clear hfz66_0
      try clear hfz66_1
      try clear hfz72_0
      try clear hfz72_1
      try clear hfz73_0
      try clear hfz73_1
      try clear hfz74_0
      try clear hfz74_1
      try clear hfz81_0
      try clear hfz81_1
      try clear hfz82_0
      try clear hfz82_1
      try clear hfz83_0
      try clear hfz83_1
      try clear hfz91_0
      try clear hfz91_1
      try clear p2
      obtain ⟨kq, x150_229, rfl, HA, HJ229, BK138, BK139, BK140, BK148, BK152, BK156, BK161, BK165, BK169, BK173, BK177, HB⟩ := hcut
      cases kq with
      | zero => exact absurd HA.out (by simp [slackwaterlaw08_TurnGroup.j4])
      | succ kj229 =>
       have H := HA.out
       clear HA
       simp only [slackwaterlaw08_TurnGroup.j4] at H
       by_cases c279 : x150_229 = true
       ·
        subst c279
        have H1 : (none) = some r := by rw [if_pos rfl] at H; exact H
        clear H
        have H := H1
        clear H1
        exact absurd H (by simp)
       replace c279 := Bool.eq_false_iff.mpr c279
       subst c279
       have H1 : (slackwaterlaw08_TurnGroup.l0 kj229 a3 0 a0_0 a0_1 0 1) = some r := by rw [if_neg (show ¬ (false = true) by decide)] at H; exact H
       clear H
       have H := H1
       clear H1
       have H' := Aside0.mk H
       clear H
       go_wp2_with (first | ((with_reducible refine gD (N := 25) rfl ?_); refine gB ?hg (N := 25) ?hd (cs := #[.int .i64 0, .int .i64 0]) (t := 23) ?hr ?_; (case hd => rfl); (case hg => rfl); (case hr => first | (go_simp; done) | (go_simp; rfl)); intro gb178 hg w280 hbox hb; have n0_ := aZ (bB (g := gb138) (o := .cells #[.int .i64 a0_0, .int .i64 a0_1] 23 (0, 0)) (by (with_reducible repeat (first | refine bN ?_ _ | refine bW ?_ | refine bA ?_ _)); exact BK138.out) hb); have n1_ := aZ (bB (g := gb139) (o := .cells #[.int .i64 a1_0, .int .i64 a1_1] 23 (0, 0)) (by (with_reducible repeat (first | refine bN ?_ _ | refine bW ?_ | refine bA ?_ _)); exact BK139.out) hb); have n2_ := aZ (bB (g := gb140) (o := .cells #[.int .i64 a2_0, .int .i64 a2_1] 23 (0, 0)) (by (with_reducible repeat (first | refine bN ?_ _ | refine bW ?_ | refine bA ?_ _)); exact BK140.out) hb); have n3_ := aZ (bB (g := gb148) (o := .cells #[.int .i64 t145, .int .i64 t146] 23 (0, 0)) (by (with_reducible repeat (first | refine bN ?_ _ | refine bW ?_ | refine bA ?_ _)); exact BK148.out) hb); have n4_ := aZ (bB (g := gb152) (o := .cells #[.int .i64 t149, .int .i64 t150] 23 (0, 0)) (by (with_reducible repeat (first | refine bN ?_ _ | refine bW ?_ | refine bA ?_ _)); exact BK152.out) hb); have n5_ := aZ (bB (g := gb156) (o := .cells #[.int .i64 t153, .int .i64 t154] 23 (0, 0)) (by (with_reducible repeat (first | refine bN ?_ _ | refine bW ?_ | refine bA ?_ _)); exact BK156.out) hb); have n6_ := aZ (bB (g := gb161) (o := .cells #[.int .i64 t158, .int .i64 t159] 23 (0, 0)) (by (with_reducible repeat (first | refine bN ?_ _ | refine bW ?_ | refine bA ?_ _)); exact BK161.out) hb); have n7_ := aZ (bB (g := gb165) (o := .cells #[.int .i64 t162, .int .i64 t163] 23 (0, 0)) (by (with_reducible repeat (first | refine bN ?_ _ | refine bW ?_ | refine bA ?_ _)); exact BK165.out) hb); have n8_ := aZ (bB (g := gb169) (o := .cells #[.int .i64 t166, .int .i64 t167] 23 (0, 0)) (by (with_reducible repeat (first | refine bN ?_ _ | refine bW ?_ | refine bA ?_ _)); exact BK169.out) hb); have n9_ := aZ (bB (g := gb173) (o := .cells #[.int .i64 t170, .int .i64 t171] 23 (0, 0)) (by (with_reducible repeat (first | refine bN ?_ _ | refine bW ?_ | refine bA ?_ _)); exact BK173.out) hb); have n10_ := aZ (bB (g := gb177) (o := .cells #[.int .i64 t174, .int .i64 t175] 23 (0, 0)) (by (with_reducible repeat (first | refine bN ?_ _ | refine bW ?_ | refine bA ?_ _)); exact BK177.out) hb); have n11_ := aZ (wP (by repeat (first | (with_reducible first | exact HB.out | apply wA | apply wN | apply wD | refine wS ?_ GE138.out | refine wS ?_ GE139.out | refine wS ?_ GE140.out | refine wS ?_ GE148.out | refine wS ?_ GE152.out | refine wS ?_ GE156.out | refine wS ?_ GE161.out | refine wS ?_ GE165.out | refine wS ?_ GE169.out | refine wS ?_ GE173.out | refine wS ?_ GE177.out) | exact HB.out)) hb); have n12_ := aZ (hbox); have n13_ := aZ ((by rw [hg]; exact (wZ (by repeat (first | (with_reducible first | exact HB.out | apply wA | apply wN | apply wD | refine wS ?_ GE138.out | refine wS ?_ GE139.out | refine wS ?_ GE140.out | refine wS ?_ GE148.out | refine wS ?_ GE152.out | refine wS ?_ GE156.out | refine wS ?_ GE161.out | refine wS ?_ GE165.out | refine wS ?_ GE169.out | refine wS ?_ GE173.out | refine wS ?_ GE177.out) | exact HB.out))) : w.heap.size ≤ gb178)); have n14_ := aZ ((by rw [hg]; exact (wZ (by repeat (first | (with_reducible first | exact HB.out | apply wA | apply wN | apply wD | refine wS ?_ GE138.out | refine wS ?_ GE139.out | refine wS ?_ GE140.out | refine wS ?_ GE148.out | refine wS ?_ GE152.out | refine wS ?_ GE156.out | refine wS ?_ GE161.out | refine wS ?_ GE165.out | refine wS ?_ GE169.out | refine wS ?_ GE173.out | refine wS ?_ GE177.out) | exact HB.out))) : w.heap.size ≤ gb178)); have n15_ := aZ ((by rw [hg]; exact Nat.ne_of_lt (bL (g := gb138) (o := .cells #[.int .i64 a0_0, .int .i64 a0_1] 23 (0, 0)) (by (with_reducible repeat (first | refine bN ?_ _ | refine bW ?_ | refine bA ?_ _)); exact BK138.out)) : gb138 ≠ gb178)); have n16_ := aZ ((by rw [hg]; exact Nat.ne_of_gt (bL (g := gb138) (o := .cells #[.int .i64 a0_0, .int .i64 a0_1] 23 (0, 0)) (by (with_reducible repeat (first | refine bN ?_ _ | refine bW ?_ | refine bA ?_ _)); exact BK138.out)) : gb178 ≠ gb138)); have n17_ := aZ ((by rw [hg]; exact Nat.ne_of_lt (bL (g := gb139) (o := .cells #[.int .i64 a1_0, .int .i64 a1_1] 23 (0, 0)) (by (with_reducible repeat (first | refine bN ?_ _ | refine bW ?_ | refine bA ?_ _)); exact BK139.out)) : gb139 ≠ gb178)); have n18_ := aZ ((by rw [hg]; exact Nat.ne_of_gt (bL (g := gb139) (o := .cells #[.int .i64 a1_0, .int .i64 a1_1] 23 (0, 0)) (by (with_reducible repeat (first | refine bN ?_ _ | refine bW ?_ | refine bA ?_ _)); exact BK139.out)) : gb178 ≠ gb139)); have n19_ := aZ ((by rw [hg]; exact Nat.ne_of_lt (bL (g := gb140) (o := .cells #[.int .i64 a2_0, .int .i64 a2_1] 23 (0, 0)) (by (with_reducible repeat (first | refine bN ?_ _ | refine bW ?_ | refine bA ?_ _)); exact BK140.out)) : gb140 ≠ gb178)); have n20_ := aZ ((by rw [hg]; exact Nat.ne_of_gt (bL (g := gb140) (o := .cells #[.int .i64 a2_0, .int .i64 a2_1] 23 (0, 0)) (by (with_reducible repeat (first | refine bN ?_ _ | refine bW ?_ | refine bA ?_ _)); exact BK140.out)) : gb178 ≠ gb140)); have n21_ := aZ ((by rw [hg]; exact Nat.ne_of_lt (bL (g := gb148) (o := .cells #[.int .i64 t145, .int .i64 t146] 23 (0, 0)) (by (with_reducible repeat (first | refine bN ?_ _ | refine bW ?_ | refine bA ?_ _)); exact BK148.out)) : gb148 ≠ gb178)); have n22_ := aZ ((by rw [hg]; exact Nat.ne_of_gt (bL (g := gb148) (o := .cells #[.int .i64 t145, .int .i64 t146] 23 (0, 0)) (by (with_reducible repeat (first | refine bN ?_ _ | refine bW ?_ | refine bA ?_ _)); exact BK148.out)) : gb178 ≠ gb148)); have n23_ := aZ ((by rw [hg]; exact Nat.ne_of_lt (bL (g := gb152) (o := .cells #[.int .i64 t149, .int .i64 t150] 23 (0, 0)) (by (with_reducible repeat (first | refine bN ?_ _ | refine bW ?_ | refine bA ?_ _)); exact BK152.out)) : gb152 ≠ gb178)); have n24_ := aZ ((by rw [hg]; exact Nat.ne_of_gt (bL (g := gb152) (o := .cells #[.int .i64 t149, .int .i64 t150] 23 (0, 0)) (by (with_reducible repeat (first | refine bN ?_ _ | refine bW ?_ | refine bA ?_ _)); exact BK152.out)) : gb178 ≠ gb152)); have n25_ := aZ ((by rw [hg]; exact Nat.ne_of_lt (bL (g := gb156) (o := .cells #[.int .i64 t153, .int .i64 t154] 23 (0, 0)) (by (with_reducible repeat (first | refine bN ?_ _ | refine bW ?_ | refine bA ?_ _)); exact BK156.out)) : gb156 ≠ gb178)); have n26_ := aZ ((by rw [hg]; exact Nat.ne_of_gt (bL (g := gb156) (o := .cells #[.int .i64 t153, .int .i64 t154] 23 (0, 0)) (by (with_reducible repeat (first | refine bN ?_ _ | refine bW ?_ | refine bA ?_ _)); exact BK156.out)) : gb178 ≠ gb156)); have n27_ := aZ ((by rw [hg]; exact Nat.ne_of_lt (bL (g := gb161) (o := .cells #[.int .i64 t158, .int .i64 t159] 23 (0, 0)) (by (with_reducible repeat (first | refine bN ?_ _ | refine bW ?_ | refine bA ?_ _)); exact BK161.out)) : gb161 ≠ gb178)); have n28_ := aZ ((by rw [hg]; exact Nat.ne_of_gt (bL (g := gb161) (o := .cells #[.int .i64 t158, .int .i64 t159] 23 (0, 0)) (by (with_reducible repeat (first | refine bN ?_ _ | refine bW ?_ | refine bA ?_ _)); exact BK161.out)) : gb178 ≠ gb161)); have n29_ := aZ ((by rw [hg]; exact Nat.ne_of_lt (bL (g := gb165) (o := .cells #[.int .i64 t162, .int .i64 t163] 23 (0, 0)) (by (with_reducible repeat (first | refine bN ?_ _ | refine bW ?_ | refine bA ?_ _)); exact BK165.out)) : gb165 ≠ gb178)); have n30_ := aZ ((by rw [hg]; exact Nat.ne_of_gt (bL (g := gb165) (o := .cells #[.int .i64 t162, .int .i64 t163] 23 (0, 0)) (by (with_reducible repeat (first | refine bN ?_ _ | refine bW ?_ | refine bA ?_ _)); exact BK165.out)) : gb178 ≠ gb165)); have n31_ := aZ ((by rw [hg]; exact Nat.ne_of_lt (bL (g := gb169) (o := .cells #[.int .i64 t166, .int .i64 t167] 23 (0, 0)) (by (with_reducible repeat (first | refine bN ?_ _ | refine bW ?_ | refine bA ?_ _)); exact BK169.out)) : gb169 ≠ gb178)); have n32_ := aZ ((by rw [hg]; exact Nat.ne_of_gt (bL (g := gb169) (o := .cells #[.int .i64 t166, .int .i64 t167] 23 (0, 0)) (by (with_reducible repeat (first | refine bN ?_ _ | refine bW ?_ | refine bA ?_ _)); exact BK169.out)) : gb178 ≠ gb169)); have n33_ := aZ ((by rw [hg]; exact Nat.ne_of_lt (bL (g := gb173) (o := .cells #[.int .i64 t170, .int .i64 t171] 23 (0, 0)) (by (with_reducible repeat (first | refine bN ?_ _ | refine bW ?_ | refine bA ?_ _)); exact BK173.out)) : gb173 ≠ gb178)); have n34_ := aZ ((by rw [hg]; exact Nat.ne_of_gt (bL (g := gb173) (o := .cells #[.int .i64 t170, .int .i64 t171] 23 (0, 0)) (by (with_reducible repeat (first | refine bN ?_ _ | refine bW ?_ | refine bA ?_ _)); exact BK173.out)) : gb178 ≠ gb173)); have n35_ := aZ ((by rw [hg]; exact Nat.ne_of_lt (bL (g := gb177) (o := .cells #[.int .i64 t174, .int .i64 t175] 23 (0, 0)) (by (with_reducible repeat (first | refine bN ?_ _ | refine bW ?_ | refine bA ?_ _)); exact BK177.out)) : gb177 ≠ gb178)); have n36_ := aZ ((by rw [hg]; exact Nat.ne_of_gt (bL (g := gb177) (o := .cells #[.int .i64 t174, .int .i64 t175] 23 (0, 0)) (by (with_reducible repeat (first | refine bN ?_ _ | refine bW ?_ | refine bA ?_ _)); exact BK177.out)) : gb178 ≠ gb177)); clear BK138; clear BK139; clear BK140; clear BK148; clear BK152; clear BK156; clear BK161; clear BK165; clear BK169; clear BK173; clear BK177; clear HB; have BK138 := n0_; have BK139 := n1_; have BK140 := n2_; have BK148 := n3_; have BK152 := n4_; have BK156 := n5_; have BK161 := n6_; have BK165 := n7_; have BK169 := n8_; have BK173 := n9_; have BK177 := n10_; have HB := n11_; have BK178 := n12_; have GW178 := n13_; have GE178 := n14_; have NB138_178 := n15_; have NB178_138 := n16_; have NB139_178 := n17_; have NB178_139 := n18_; have NB140_178 := n19_; have NB178_140 := n20_; have NB148_178 := n21_; have NB178_148 := n22_; have NB152_178 := n23_; have NB178_152 := n24_; have NB156_178 := n25_; have NB178_156 := n26_; have NB161_178 := n27_; have NB178_161 := n28_; have NB165_178 := n29_; have NB178_165 := n30_; have NB169_178 := n31_; have NB178_169 := n32_; have NB173_178 := n33_; have NB178_173 := n34_; have NB177_178 := n35_; have NB178_177 := n36_; clear n0_ n1_ n2_ n3_ n4_ n5_ n6_ n7_ n8_ n9_ n10_ n11_ n12_ n13_ n14_ n15_ n16_ n17_ n18_ n19_ n20_ n21_ n22_ n23_ n24_ n25_ n26_ n27_ n28_ n29_ n30_ n31_ n32_ n33_ n34_ n35_ n36_; clear hb hbox hg; have hnb281 := NB178_138.out; have hnc281 := NB138_178.out; have hnb282 := NB178_139.out; have hnc282 := NB139_178.out; have hnb283 := NB178_140.out; have hnc283 := NB140_178.out; have hnb284 := NB178_148.out; have hnc284 := NB148_178.out; have hnb285 := NB178_152.out; have hnc285 := NB152_178.out; have hnb286 := NB178_156.out; have hnc286 := NB156_178.out; have hnb287 := NB178_161.out; have hnc287 := NB161_178.out; have hnb288 := NB178_165.out; have hnc288 := NB165_178.out; have hnb289 := NB178_169.out; have hnc289 := NB169_178.out; have hnb290 := NB178_173.out; have hnc290 := NB173_178.out; have hnb291 := NB178_177.out; have hnc291 := NB177_178.out; have hcz292_0 : w280.cell? ⟨gb178, 0, none⟩ = some (.int .i64 0) := (bC BK178.out 0).trans rfl; have hcz292_1 : w280.cell? ⟨gb178, 1, none⟩ = some (.int .i64 0) := (bC BK178.out 1).trans rfl; have hfz292_0 := bZ BK178.out 0; have hfz292_1 := bZ BK178.out 1))
       go_loopg [26] kj229 (fun kq v26 w' => ∃ (x26_6 : Int) (x179000_6 : Int) (x179001_6 : Int), v26 = .int .i64 x26_6 ∧ Aside0 (slackwaterlaw08_TurnGroup.l0 kq a3 x26_6 a0_0 a0_1 x179000_6 x179001_6 = some r) ∧ Aside0 (kq ≤ kj229) ∧ Aside0 (w'.heap[gb138]? = some (.cells #[.int .i64 a0_0, .int .i64 a0_1] 23 (0, 0))) ∧ Aside0 (w'.heap[gb139]? = some (.cells #[.int .i64 a1_0, .int .i64 a1_1] 23 (0, 0))) ∧ Aside0 (w'.heap[gb140]? = some (.cells #[.int .i64 a2_0, .int .i64 a2_1] 23 (0, 0))) ∧ Aside0 (w'.heap[gb148]? = some (.cells #[.int .i64 t145, .int .i64 t146] 23 (0, 0))) ∧ Aside0 (w'.heap[gb152]? = some (.cells #[.int .i64 t149, .int .i64 t150] 23 (0, 0))) ∧ Aside0 (w'.heap[gb156]? = some (.cells #[.int .i64 t153, .int .i64 t154] 23 (0, 0))) ∧ Aside0 (w'.heap[gb161]? = some (.cells #[.int .i64 t158, .int .i64 t159] 23 (0, 0))) ∧ Aside0 (w'.heap[gb165]? = some (.cells #[.int .i64 t162, .int .i64 t163] 23 (0, 0))) ∧ Aside0 (w'.heap[gb169]? = some (.cells #[.int .i64 t166, .int .i64 t167] 23 (0, 0))) ∧ Aside0 (w'.heap[gb173]? = some (.cells #[.int .i64 t170, .int .i64 t171] 23 (0, 0))) ∧ Aside0 (w'.heap[gb177]? = some (.cells #[.int .i64 t174, .int .i64 t175] 23 (0, 0))) ∧ Aside0 (w'.heap[gb178]? = some (.cells #[.int .i64 x179000_6, .int .i64 x179001_6] 23 (0, 0))) ∧ Aside0 (Below w.heap.size w w'))
       case atStart => exact ⟨(0), (0), (1), (by first | rfl | (simp; done) | (simp [*]; done)), H', ⟨Nat.le_refl _⟩, ⟨by (with_reducible repeat (first | refine bN ?_ _ | refine bW ?_ | refine bA ?_ _)); refine bF ?_ NB138_178.out _; (with_reducible repeat (first | refine bN ?_ _ | refine bW ?_ | refine bA ?_ _)); refine bF ?_ NB138_178.out _; (with_reducible repeat (first | refine bN ?_ _ | refine bW ?_ | refine bA ?_ _)); exact BK138.out⟩, ⟨by (with_reducible repeat (first | refine bN ?_ _ | refine bW ?_ | refine bA ?_ _)); refine bF ?_ NB139_178.out _; (with_reducible repeat (first | refine bN ?_ _ | refine bW ?_ | refine bA ?_ _)); refine bF ?_ NB139_178.out _; (with_reducible repeat (first | refine bN ?_ _ | refine bW ?_ | refine bA ?_ _)); exact BK139.out⟩, ⟨by (with_reducible repeat (first | refine bN ?_ _ | refine bW ?_ | refine bA ?_ _)); refine bF ?_ NB140_178.out _; (with_reducible repeat (first | refine bN ?_ _ | refine bW ?_ | refine bA ?_ _)); refine bF ?_ NB140_178.out _; (with_reducible repeat (first | refine bN ?_ _ | refine bW ?_ | refine bA ?_ _)); exact BK140.out⟩, ⟨by (with_reducible repeat (first | refine bN ?_ _ | refine bW ?_ | refine bA ?_ _)); refine bF ?_ NB148_178.out _; (with_reducible repeat (first | refine bN ?_ _ | refine bW ?_ | refine bA ?_ _)); refine bF ?_ NB148_178.out _; (with_reducible repeat (first | refine bN ?_ _ | refine bW ?_ | refine bA ?_ _)); exact BK148.out⟩, ⟨by (with_reducible repeat (first | refine bN ?_ _ | refine bW ?_ | refine bA ?_ _)); refine bF ?_ NB152_178.out _; (with_reducible repeat (first | refine bN ?_ _ | refine bW ?_ | refine bA ?_ _)); refine bF ?_ NB152_178.out _; (with_reducible repeat (first | refine bN ?_ _ | refine bW ?_ | refine bA ?_ _)); exact BK152.out⟩, ⟨by (with_reducible repeat (first | refine bN ?_ _ | refine bW ?_ | refine bA ?_ _)); refine bF ?_ NB156_178.out _; (with_reducible repeat (first | refine bN ?_ _ | refine bW ?_ | refine bA ?_ _)); refine bF ?_ NB156_178.out _; (with_reducible repeat (first | refine bN ?_ _ | refine bW ?_ | refine bA ?_ _)); exact BK156.out⟩, ⟨by (with_reducible repeat (first | refine bN ?_ _ | refine bW ?_ | refine bA ?_ _)); refine bF ?_ NB161_178.out _; (with_reducible repeat (first | refine bN ?_ _ | refine bW ?_ | refine bA ?_ _)); refine bF ?_ NB161_178.out _; (with_reducible repeat (first | refine bN ?_ _ | refine bW ?_ | refine bA ?_ _)); exact BK161.out⟩, ⟨by (with_reducible repeat (first | refine bN ?_ _ | refine bW ?_ | refine bA ?_ _)); refine bF ?_ NB165_178.out _; (with_reducible repeat (first | refine bN ?_ _ | refine bW ?_ | refine bA ?_ _)); refine bF ?_ NB165_178.out _; (with_reducible repeat (first | refine bN ?_ _ | refine bW ?_ | refine bA ?_ _)); exact BK165.out⟩, ⟨by (with_reducible repeat (first | refine bN ?_ _ | refine bW ?_ | refine bA ?_ _)); refine bF ?_ NB169_178.out _; (with_reducible repeat (first | refine bN ?_ _ | refine bW ?_ | refine bA ?_ _)); refine bF ?_ NB169_178.out _; (with_reducible repeat (first | refine bN ?_ _ | refine bW ?_ | refine bA ?_ _)); exact BK169.out⟩, ⟨by (with_reducible repeat (first | refine bN ?_ _ | refine bW ?_ | refine bA ?_ _)); refine bF ?_ NB173_178.out _; (with_reducible repeat (first | refine bN ?_ _ | refine bW ?_ | refine bA ?_ _)); refine bF ?_ NB173_178.out _; (with_reducible repeat (first | refine bN ?_ _ | refine bW ?_ | refine bA ?_ _)); exact BK173.out⟩, ⟨by (with_reducible repeat (first | refine bN ?_ _ | refine bW ?_ | refine bA ?_ _)); refine bF ?_ NB177_178.out _; (with_reducible repeat (first | refine bN ?_ _ | refine bW ?_ | refine bA ?_ _)); refine bF ?_ NB177_178.out _; (with_reducible repeat (first | refine bN ?_ _ | refine bW ?_ | refine bA ?_ _)); exact BK177.out⟩, ⟨by (with_reducible repeat (first | refine bN ?_ _ | refine bW ?_ | refine bA ?_ _)); refine blk_put (cs := #[.int .i64 0, .int .i64 0]) ?_ 1 _ rfl; (with_reducible repeat (first | refine bN ?_ _ | refine bW ?_ | refine bA ?_ _)); refine blk_put (cs := #[.int .i64 0, .int .i64 0]) ?_ 0 _ rfl; (with_reducible repeat (first | refine bN ?_ _ | refine bW ?_ | refine bA ?_ _)); exact BK178.out⟩, ⟨by repeat (first | (with_reducible first | exact HB.out | apply wA | apply wN | apply wD | refine wS ?_ GE138.out | refine wS ?_ GE139.out | refine wS ?_ GE140.out | refine wS ?_ GE148.out | refine wS ?_ GE152.out | refine wS ?_ GE156.out | refine wS ?_ GE161.out | refine wS ?_ GE165.out | refine wS ?_ GE169.out | refine wS ?_ GE173.out | refine wS ?_ GE177.out | refine wS ?_ GE178.out) | exact HB.out)⟩⟩
       case round =>
        clear H'
        try clear c1
        try clear c2
        try clear p2
        try clear c3
        try clear c4
        try clear c5
        try clear c6
        try clear c7
        try clear c8
        try clear c9
        try clear c10
        try clear c11
        try clear c12
        try clear c13
        try clear c13b0
        try clear c13b1
        try clear c14
        try clear c15
        try clear c15b0
        try clear c15b1
        try clear c16
        try clear c17
        try clear c17b0
        try clear c17b1
        try clear c18
        try clear c18b0
        try clear c19
        try clear c20
        try clear c21
        try clear c22
        try clear c23
        try clear c24
        try clear c25
        try clear c26
        try clear c27
        try clear c28
        try clear c29
        try clear c32
        try clear c37
        try clear c38
        try clear c41
        try clear c46
        try clear c47
        try clear c50
        try clear c53
        try clear c54
        try clear c57
        try clear c62
        try clear c63
        try clear c65
        try clear c69
        try clear c70
        try clear c71
        try clear c77
        try clear c78
        try clear c79
        try clear c80
        try clear c86
        try clear c87
        try clear c88
        try clear c89
        try clear c90
        try clear c92
        try clear c92b0
        try clear c92b1
        try clear c92b2
        try clear c93
        try clear c93b0
        try clear c94
        try clear c96
        try clear c97
        try clear c98
        try clear c99
        try clear c100
        try clear c102
        try clear c103
        try clear c104
        try clear c105
        try clear c108
        try clear c109
        try clear c110
        try clear c111
        try clear c112
        try clear c114
        try clear c115
        try clear c116
        try clear c117
        try clear c119
        try clear c123
        try clear c124
        try clear c125
        try clear c126
        try clear c127
        try clear c129
        try clear c130
        try clear c131
        try clear c132
        try clear c136
        try clear c137
        try clear c138
        try clear c139
        try clear c140
        try clear c141
        try clear c143
        try clear c144
        try clear c145
        try clear c147
        try clear c148
        try clear c152
        try clear c153
        try clear c154
        try clear c155
        try clear c156
        try clear c157
        try clear c158
        try clear c160
        try clear c161
        try clear c162
        try clear c163
        try clear c164
        try clear c165
        try clear c166
        try clear c167
        try clear c168
        try clear c169
        try clear c170
        try clear c172
        try clear c173
        try clear c174
        try clear c175
        try clear c176
        try clear c177
        try clear c179
        try clear c182
        try clear c183
        try clear c184
        try clear c185
        try clear c186
        try clear c187
        try clear c188
        try clear c190
        try clear c191
        try clear c192
        try clear c193
        try clear c194
        try clear c195
        try clear c199
        try clear c200
        try clear c201
        try clear c202
        try clear c203
        try clear c204
        try clear c205
        try clear c206
        try clear c208
        try clear c209
        try clear c209b0
        try clear c209b1
        try clear c210
        try clear c211
        try clear c212
        try clear c213
        try clear c214
        try clear c215
        try clear c216
        try clear c217
        try clear c219
        try clear c220
        try clear c221
        try clear c222
        try clear c223
        try clear c224
        try clear c225
        try clear c227
        try clear c231
        try clear c232
        try clear c233
        try clear c234
        try clear c235
        try clear c236
        try clear c237
        try clear c238
        try clear c242
        try clear c243
        try clear c244
        try clear c245
        try clear c246
        try clear c247
        try clear c248
        try clear c249
        try clear c250
        try clear c255
        try clear c256
        try clear c257
        try clear c258
        try clear c259
        try clear c260
        try clear c261
        try clear c262
        try clear c263
        try clear c264
        try clear c266
        try clear c266b0
        try clear c266b1
        try clear c267
        try clear c268
        try clear c269
        try clear c270
        try clear c271
        try clear c272
        try clear c273
        try clear c274
        try clear c275
        try clear c276
        try clear c277
        try clear c279
        try clear c281
        try clear c282
        try clear c283
        try clear c284
        try clear c285
        try clear c286
        try clear c287
        try clear c288
        try clear c289
        try clear c290
        try clear c291
        try clear hcz101_0
        try clear hcz101_1
        try clear hcz106_0
        try clear hcz106_1
        try clear hcz113_0
        try clear hcz113_1
        try clear hcz118_0
        try clear hcz118_1
        try clear hcz128_0
        try clear hcz128_1
        try clear hcz133_0
        try clear hcz133_1
        try clear hcz142_0
        try clear hcz142_1
        try clear hcz146_0
        try clear hcz146_1
        try clear hcz149_0
        try clear hcz149_1
        try clear hcz159_0
        try clear hcz159_1
        try clear hcz171_0
        try clear hcz171_1
        try clear hcz178_0
        try clear hcz178_1
        try clear hcz189_0
        try clear hcz189_1
        try clear hcz196_0
        try clear hcz196_1
        try clear hcz207_0
        try clear hcz207_1
        try clear hcz218_0
        try clear hcz218_1
        try clear hcz21_0
        try clear hcz21_1
        try clear hcz226_0
        try clear hcz226_1
        try clear hcz239_0
        try clear hcz239_1
        try clear hcz24_0
        try clear hcz24_1
        try clear hcz251_0
        try clear hcz251_1
        try clear hcz252_0
        try clear hcz252_1
        try clear hcz265_0
        try clear hcz265_1
        try clear hcz26_0
        try clear hcz26_1
        try clear hcz278_0
        try clear hcz278_1
        try clear hcz292_0
        try clear hcz292_1
        try clear hcz30_0
        try clear hcz30_1
        try clear hcz33_0
        try clear hcz33_1
        try clear hcz35_0
        try clear hcz35_1
        try clear hcz39_0
        try clear hcz39_1
        try clear hcz42_0
        try clear hcz42_1
        try clear hcz44_0
        try clear hcz44_1
        try clear hcz48_0
        try clear hcz48_1
        try clear hcz51_0
        try clear hcz51_1
        try clear hcz55_0
        try clear hcz55_1
        try clear hcz64_0
        try clear hcz64_1
        try clear hcz66_0
        try clear hcz66_1
        try clear hcz72_0
        try clear hcz72_1
        try clear hcz73_0
        try clear hcz73_1
        try clear hcz74_0
        try clear hcz74_1
        try clear hcz81_0
        try clear hcz81_1
        try clear hcz82_0
        try clear hcz82_1
        try clear hcz83_0
        try clear hcz83_1
        try clear hcz91_0
        try clear hcz91_1
        try clear hfz101_0
        try clear hfz101_1
        try clear hfz106_0
        try clear hfz106_1
        try clear hfz113_0
        try clear hfz113_1
        try clear hfz118_0
        try clear hfz118_1
        try clear hfz128_0
        try clear hfz128_1
        try clear hfz133_0
        try clear hfz133_1
        try clear hfz142_0
        try clear hfz142_1
        try clear hfz146_0
        try clear hfz146_1
        try clear hfz149_0
        try clear hfz149_1
        try clear hfz159_0
        try clear hfz159_1
        try clear hfz171_0
        try clear hfz171_1
        try clear hfz178_0
        try clear hfz178_1
        try clear hfz189_0
        try clear hfz189_1
        try clear hfz196_0
        try clear hfz196_1
        try clear hfz207_0
        try clear hfz207_1
        try clear hfz218_0
        try clear hfz218_1
        try clear hfz21_0
        try clear hfz21_1
        try clear hfz226_0
        try clear hfz226_1
        try clear hfz239_0
        try clear hfz239_1
        try clear hfz24_0
        try clear hfz24_1
        try clear hfz251_0
        try clear hfz251_1
        try clear hfz252_0
        try clear hfz252_1
        try clear hfz265_0
        try clear hfz265_1
        try clear hfz26_0
        try clear hfz26_1
        try clear hfz278_0
        try clear hfz278_1
        try clear hfz292_0
        try clear hfz292_1
        try clear hfz30_0
        try clear hfz30_1
        try clear hfz33_0
        try clear hfz33_1
        try clear hfz35_0
        try clear hfz35_1
        try clear hfz39_0
        try clear hfz39_1
        try clear hfz42_0
        try clear hfz42_1
        try clear hfz44_0
        try clear hfz44_1
        try clear hfz48_0
        try clear hfz48_1
        try clear hfz51_0
        try clear hfz51_1
        try clear hfz55_0
        try clear hfz55_1
        try clear hfz64_0
        try clear hfz64_1
        try clear hfz66_0
        try clear hfz66_1
        try clear hfz72_0
        try clear hfz72_1
        try clear hfz73_0
        try clear hfz73_1
        try clear hfz74_0
        try clear hfz74_1
        try clear hfz81_0
        try clear hfz81_1
        try clear hfz82_0
        try clear hfz82_1
        try clear hfz83_0
        try clear hfz83_1
        try clear hfz91_0
        try clear hfz91_1
        try clear p2
        obtain ⟨x26_6, x179000_6, x179001_6, rfl, HA, HK6, BK138, BK139, BK140, BK148, BK152, BK156, BK161, BK165, BK169, BK173, BK177, BK178, HB⟩ := hrel
        cases gk with
        | zero => exact absurd HA.out (by simp [slackwaterlaw08_TurnGroup.l0])
        | succ k6 =>
         have H := HA.out
         clear HA
         simp only [slackwaterlaw08_TurnGroup.l0] at H
         by_cases c293 : x26_6 < a3
         ·
          rw [if_pos c293] at H
          have c293b0 : decide (x26_6 < a3) = true := decide_eq_true c293
          clear c293
          replace H := Option.bind_eq_some_iff.mp H
          obtain ⟨⟨t179, t180, t181⟩, A2940, H⟩ := H
          replace H : (if t181 = true then (slackwaterlaw08_TurnGroup.l0 k6 a3 (wrap64 (x26_6 + 1)) a0_0 a0_1 t179 t180) else (none)) = some r := H
          have A294 := Aside0.mk A2940
          clear A2940
          by_cases c295 : t181 = true
          ·
           subst c295
           have H1 : (slackwaterlaw08_TurnGroup.l0 k6 a3 (wrap64 (x26_6 + 1)) a0_0 a0_1 t179 t180) = some r := by rw [if_pos rfl] at H; exact H
           clear H
           have H := H1
           clear H1
           have H' := Aside0.mk H
           clear H
           have hnb296 := NB178_138.out
           have hnc296 := NB138_178.out
           have hnb297 := NB178_139.out
           have hnc297 := NB139_178.out
           have hnb298 := NB178_140.out
           have hnc298 := NB140_178.out
           have hnb299 := NB178_148.out
           have hnc299 := NB148_178.out
           have hnb300 := NB178_152.out
           have hnc300 := NB152_178.out
           have hnb301 := NB178_156.out
           have hnc301 := NB156_178.out
           have hnb302 := NB178_161.out
           have hnc302 := NB161_178.out
           have hnb303 := NB178_165.out
           have hnc303 := NB165_178.out
           have hnb304 := NB178_169.out
           have hnc304 := NB169_178.out
           have hnb305 := NB178_173.out
           have hnc305 := NB173_178.out
           have hnb306 := NB178_177.out
           have hnc306 := NB177_178.out
           have hcz307_0 : wr.cell? ⟨gb178, 0, none⟩ = some (.int .i64 x179000_6) := (bC BK178.out 0).trans rfl
           have hcz307_1 : wr.cell? ⟨gb178, 1, none⟩ = some (.int .i64 x179001_6) := (bC BK178.out 1).trans rfl
           have hfz307_0 := bZ BK178.out 0
           have hfz307_1 := bZ BK178.out 1
           have hnb308 := NB138_139.out
           have hnc308 := NB139_138.out
           have hnb309 := NB138_140.out
           have hnc309 := NB140_138.out
           have hnb310 := NB138_148.out
           have hnc310 := NB148_138.out
           have hnb311 := NB138_152.out
           have hnc311 := NB152_138.out
           have hnb312 := NB138_156.out
           have hnc312 := NB156_138.out
           have hnb313 := NB138_161.out
           have hnc313 := NB161_138.out
           have hnb314 := NB138_165.out
           have hnc314 := NB165_138.out
           have hnb315 := NB138_169.out
           have hnc315 := NB169_138.out
           have hnb316 := NB138_173.out
           have hnc316 := NB173_138.out
           have hnb317 := NB138_177.out
           have hnc317 := NB177_138.out
           have hcz318_0 : wr.cell? ⟨gb138, 0, none⟩ = some (.int .i64 a0_0) := (bC BK138.out 0).trans rfl
           have hcz318_1 : wr.cell? ⟨gb138, 1, none⟩ = some (.int .i64 a0_1) := (bC BK138.out 1).trans rfl
           have hfz318_0 := bZ BK138.out 0
           have hfz318_1 := bZ BK138.out 1
           go_wp2_with (first | ((with_reducible refine gC (f := 7) rfl ?_); refine goesL_ (some 160) rfl rfl Try.func7 (by kernel_rfl) rfl #[.agg #[.int .i64 x179000_6, .int .i64 x179001_6], .agg #[.int .i64 a0_0, .int .i64 a0_1]] rfl (by (try simp only [List.map_toArray, List.map_cons, List.map_nil]); first | done | rfl | (simp only [List.length_drop, List.length_take]; rfl)) ?_; (with_reducible refine (slackwaterlaw08_add.calls k6 x179000_6 x179001_6 a0_0 a0_1 t179 t180 true _ A294.out).mono ?_); rintro e w319 ⟨rfl, hb⟩; refine ⟨_, rfl, ?_⟩; have n0_ := aZ (bB (g := gb138) (o := .cells #[.int .i64 a0_0, .int .i64 a0_1] 23 (0, 0)) (by (with_reducible repeat (first | refine bN ?_ _ | refine bW ?_ | refine bA ?_ _)); exact BK138.out) hb); have n1_ := aZ (bB (g := gb139) (o := .cells #[.int .i64 a1_0, .int .i64 a1_1] 23 (0, 0)) (by (with_reducible repeat (first | refine bN ?_ _ | refine bW ?_ | refine bA ?_ _)); exact BK139.out) hb); have n2_ := aZ (bB (g := gb140) (o := .cells #[.int .i64 a2_0, .int .i64 a2_1] 23 (0, 0)) (by (with_reducible repeat (first | refine bN ?_ _ | refine bW ?_ | refine bA ?_ _)); exact BK140.out) hb); have n3_ := aZ (bB (g := gb148) (o := .cells #[.int .i64 t145, .int .i64 t146] 23 (0, 0)) (by (with_reducible repeat (first | refine bN ?_ _ | refine bW ?_ | refine bA ?_ _)); exact BK148.out) hb); have n4_ := aZ (bB (g := gb152) (o := .cells #[.int .i64 t149, .int .i64 t150] 23 (0, 0)) (by (with_reducible repeat (first | refine bN ?_ _ | refine bW ?_ | refine bA ?_ _)); exact BK152.out) hb); have n5_ := aZ (bB (g := gb156) (o := .cells #[.int .i64 t153, .int .i64 t154] 23 (0, 0)) (by (with_reducible repeat (first | refine bN ?_ _ | refine bW ?_ | refine bA ?_ _)); exact BK156.out) hb); have n6_ := aZ (bB (g := gb161) (o := .cells #[.int .i64 t158, .int .i64 t159] 23 (0, 0)) (by (with_reducible repeat (first | refine bN ?_ _ | refine bW ?_ | refine bA ?_ _)); exact BK161.out) hb); have n7_ := aZ (bB (g := gb165) (o := .cells #[.int .i64 t162, .int .i64 t163] 23 (0, 0)) (by (with_reducible repeat (first | refine bN ?_ _ | refine bW ?_ | refine bA ?_ _)); exact BK165.out) hb); have n8_ := aZ (bB (g := gb169) (o := .cells #[.int .i64 t166, .int .i64 t167] 23 (0, 0)) (by (with_reducible repeat (first | refine bN ?_ _ | refine bW ?_ | refine bA ?_ _)); exact BK169.out) hb); have n9_ := aZ (bB (g := gb173) (o := .cells #[.int .i64 t170, .int .i64 t171] 23 (0, 0)) (by (with_reducible repeat (first | refine bN ?_ _ | refine bW ?_ | refine bA ?_ _)); exact BK173.out) hb); have n10_ := aZ (bB (g := gb177) (o := .cells #[.int .i64 t174, .int .i64 t175] 23 (0, 0)) (by (with_reducible repeat (first | refine bN ?_ _ | refine bW ?_ | refine bA ?_ _)); exact BK177.out) hb); have n11_ := aZ (bB (g := gb178) (o := .cells #[.int .i64 x179000_6, .int .i64 x179001_6] 23 (0, 0)) (by (with_reducible repeat (first | refine bN ?_ _ | refine bW ?_ | refine bA ?_ _)); exact BK178.out) hb); have n12_ := aZ (wP (by repeat (first | (with_reducible first | exact HB.out | apply wA | apply wN | apply wD | refine wS ?_ GE138.out | refine wS ?_ GE139.out | refine wS ?_ GE140.out | refine wS ?_ GE148.out | refine wS ?_ GE152.out | refine wS ?_ GE156.out | refine wS ?_ GE161.out | refine wS ?_ GE165.out | refine wS ?_ GE169.out | refine wS ?_ GE173.out | refine wS ?_ GE177.out | refine wS ?_ GE178.out) | exact HB.out)) hb); clear BK138; clear BK139; clear BK140; clear BK148; clear BK152; clear BK156; clear BK161; clear BK165; clear BK169; clear BK173; clear BK177; clear BK178; clear HB; have BK138 := n0_; have BK139 := n1_; have BK140 := n2_; have BK148 := n3_; have BK152 := n4_; have BK156 := n5_; have BK161 := n6_; have BK165 := n7_; have BK169 := n8_; have BK173 := n9_; have BK177 := n10_; have BK178 := n11_; have HB := n12_; clear n0_ n1_ n2_ n3_ n4_ n5_ n6_ n7_ n8_ n9_ n10_ n11_ n12_; (try clear hb); (try clear hb2); (try clear hk); (try clear hi); have hcz320_0 : w319.cell? ⟨gb178, 0, none⟩ = some (.int .i64 x179000_6) := (bC BK178.out 0).trans rfl; have hcz320_1 : w319.cell? ⟨gb178, 1, none⟩ = some (.int .i64 x179001_6) := (bC BK178.out 1).trans rfl; have hfz320_0 := bZ BK178.out 0; have hfz320_1 := bZ BK178.out 1))
           go_roundg k6
           case measure => have := HJ6.out; have := HJ60.out; have := HJ121.out; have := HJ180.out; have := HJ229.out; have := HK6.out; omega
           case rel => exact ⟨(wrap64 (x26_6 + 1)), (t179), (t180), (by first | rfl | (simp; done) | (simp [*]; done)), H', ⟨by have := HJ6.out; have := HJ60.out; have := HJ121.out; have := HJ180.out; have := HJ229.out; have := HK6.out; omega⟩, ⟨by (with_reducible repeat (first | refine bN ?_ _ | refine bW ?_ | refine bA ?_ _)); refine bF ?_ NB138_178.out _; (with_reducible repeat (first | refine bN ?_ _ | refine bW ?_ | refine bA ?_ _)); refine bF ?_ NB138_178.out _; (with_reducible repeat (first | refine bN ?_ _ | refine bW ?_ | refine bA ?_ _)); exact BK138.out⟩, ⟨by (with_reducible repeat (first | refine bN ?_ _ | refine bW ?_ | refine bA ?_ _)); refine bF ?_ NB139_178.out _; (with_reducible repeat (first | refine bN ?_ _ | refine bW ?_ | refine bA ?_ _)); refine bF ?_ NB139_178.out _; (with_reducible repeat (first | refine bN ?_ _ | refine bW ?_ | refine bA ?_ _)); exact BK139.out⟩, ⟨by (with_reducible repeat (first | refine bN ?_ _ | refine bW ?_ | refine bA ?_ _)); refine bF ?_ NB140_178.out _; (with_reducible repeat (first | refine bN ?_ _ | refine bW ?_ | refine bA ?_ _)); refine bF ?_ NB140_178.out _; (with_reducible repeat (first | refine bN ?_ _ | refine bW ?_ | refine bA ?_ _)); exact BK140.out⟩, ⟨by (with_reducible repeat (first | refine bN ?_ _ | refine bW ?_ | refine bA ?_ _)); refine bF ?_ NB148_178.out _; (with_reducible repeat (first | refine bN ?_ _ | refine bW ?_ | refine bA ?_ _)); refine bF ?_ NB148_178.out _; (with_reducible repeat (first | refine bN ?_ _ | refine bW ?_ | refine bA ?_ _)); exact BK148.out⟩, ⟨by (with_reducible repeat (first | refine bN ?_ _ | refine bW ?_ | refine bA ?_ _)); refine bF ?_ NB152_178.out _; (with_reducible repeat (first | refine bN ?_ _ | refine bW ?_ | refine bA ?_ _)); refine bF ?_ NB152_178.out _; (with_reducible repeat (first | refine bN ?_ _ | refine bW ?_ | refine bA ?_ _)); exact BK152.out⟩, ⟨by (with_reducible repeat (first | refine bN ?_ _ | refine bW ?_ | refine bA ?_ _)); refine bF ?_ NB156_178.out _; (with_reducible repeat (first | refine bN ?_ _ | refine bW ?_ | refine bA ?_ _)); refine bF ?_ NB156_178.out _; (with_reducible repeat (first | refine bN ?_ _ | refine bW ?_ | refine bA ?_ _)); exact BK156.out⟩, ⟨by (with_reducible repeat (first | refine bN ?_ _ | refine bW ?_ | refine bA ?_ _)); refine bF ?_ NB161_178.out _; (with_reducible repeat (first | refine bN ?_ _ | refine bW ?_ | refine bA ?_ _)); refine bF ?_ NB161_178.out _; (with_reducible repeat (first | refine bN ?_ _ | refine bW ?_ | refine bA ?_ _)); exact BK161.out⟩, ⟨by (with_reducible repeat (first | refine bN ?_ _ | refine bW ?_ | refine bA ?_ _)); refine bF ?_ NB165_178.out _; (with_reducible repeat (first | refine bN ?_ _ | refine bW ?_ | refine bA ?_ _)); refine bF ?_ NB165_178.out _; (with_reducible repeat (first | refine bN ?_ _ | refine bW ?_ | refine bA ?_ _)); exact BK165.out⟩, ⟨by (with_reducible repeat (first | refine bN ?_ _ | refine bW ?_ | refine bA ?_ _)); refine bF ?_ NB169_178.out _; (with_reducible repeat (first | refine bN ?_ _ | refine bW ?_ | refine bA ?_ _)); refine bF ?_ NB169_178.out _; (with_reducible repeat (first | refine bN ?_ _ | refine bW ?_ | refine bA ?_ _)); exact BK169.out⟩, ⟨by (with_reducible repeat (first | refine bN ?_ _ | refine bW ?_ | refine bA ?_ _)); refine bF ?_ NB173_178.out _; (with_reducible repeat (first | refine bN ?_ _ | refine bW ?_ | refine bA ?_ _)); refine bF ?_ NB173_178.out _; (with_reducible repeat (first | refine bN ?_ _ | refine bW ?_ | refine bA ?_ _)); exact BK173.out⟩, ⟨by (with_reducible repeat (first | refine bN ?_ _ | refine bW ?_ | refine bA ?_ _)); refine bF ?_ NB177_178.out _; (with_reducible repeat (first | refine bN ?_ _ | refine bW ?_ | refine bA ?_ _)); refine bF ?_ NB177_178.out _; (with_reducible repeat (first | refine bN ?_ _ | refine bW ?_ | refine bA ?_ _)); exact BK177.out⟩, ⟨by (with_reducible repeat (first | refine bN ?_ _ | refine bW ?_ | refine bA ?_ _)); refine blk_put (cs := #[.int .i64 t179, .int .i64 x179001_6]) ?_ 1 _ rfl; (with_reducible repeat (first | refine bN ?_ _ | refine bW ?_ | refine bA ?_ _)); refine blk_put (cs := #[.int .i64 x179000_6, .int .i64 x179001_6]) ?_ 0 _ rfl; (with_reducible repeat (first | refine bN ?_ _ | refine bW ?_ | refine bA ?_ _)); exact BK178.out⟩, ⟨by repeat (first | (with_reducible first | exact HB.out | apply wA | apply wN | apply wD | refine wS ?_ GE138.out | refine wS ?_ GE139.out | refine wS ?_ GE140.out | refine wS ?_ GE148.out | refine wS ?_ GE152.out | refine wS ?_ GE156.out | refine wS ?_ GE161.out | refine wS ?_ GE165.out | refine wS ?_ GE169.out | refine wS ?_ GE173.out | refine wS ?_ GE177.out | refine wS ?_ GE178.out) | exact HB.out)⟩⟩
          replace c295 := Bool.eq_false_iff.mpr c295
          subst c295
          have H1 : (none) = some r := by rw [if_neg (show ¬ (false = true) by decide)] at H; exact H
          clear H
          have H := H1
          clear H1
          exact absurd H (by simp)
         rw [if_neg c293] at H
         have c293b0 : decide (x26_6 < a3) = false := decide_eq_false c293
         clear c293
         replace H := Option.bind_eq_some_iff.mp H
         obtain ⟨⟨t182, t183, t184⟩, A3210, H⟩ := H
         replace H : (if t184 = 0 then (some (t182 == x179000_6 && (t183 == x179001_6))) else (none)) = some r := H
         have A321 := Aside0.mk A3210
         clear A3210
         by_cases c322 : t184 = 0
         ·
          rw [if_pos c322] at H
          have c322b0 : (t184 == 0) = true := beq_iff_eq.mpr c322
          have c322b1 : (t184 != 0) = false := bne_eq_false_iff_eq.mpr c322
          clear c322
          obtain rfl := Option.some.inj H
          have hnb323 := NB138_139.out
          have hnc323 := NB139_138.out
          have hnb324 := NB138_140.out
          have hnc324 := NB140_138.out
          have hnb325 := NB138_148.out
          have hnc325 := NB148_138.out
          have hnb326 := NB138_152.out
          have hnc326 := NB152_138.out
          have hnb327 := NB138_156.out
          have hnc327 := NB156_138.out
          have hnb328 := NB138_161.out
          have hnc328 := NB161_138.out
          have hnb329 := NB138_165.out
          have hnc329 := NB165_138.out
          have hnb330 := NB138_169.out
          have hnc330 := NB169_138.out
          have hnb331 := NB138_173.out
          have hnc331 := NB173_138.out
          have hnb332 := NB138_177.out
          have hnc332 := NB177_138.out
          have hnb333 := NB138_178.out
          have hnc333 := NB178_138.out
          have hcz334_0 : wr.cell? ⟨gb138, 0, none⟩ = some (.int .i64 a0_0) := (bC BK138.out 0).trans rfl
          have hcz334_1 : wr.cell? ⟨gb138, 1, none⟩ = some (.int .i64 a0_1) := (bC BK138.out 1).trans rfl
          have hfz334_0 := bZ BK138.out 0
          have hfz334_1 := bZ BK138.out 1
          go_wp2_with (first | ((with_reducible refine gC (f := 12) rfl ?_); refine goesL_ (some 169) rfl rfl Try.func12 (by kernel_rfl) rfl #[.agg #[.int .i64 a0_0, .int .i64 a0_1], .int .i32 (wrap32 (a3))] rfl (by (try simp only [List.map_toArray, List.map_cons, List.map_nil]); first | done | rfl | (simp only [List.length_drop, List.length_take]; rfl)) ?_; (with_reducible refine (turn_Times.calls k6 a0_0 a0_1 (wrap32 (a3)) t182 t183 t184 _ A321.out).mono ?_); rintro e w335 ⟨rfl, hb⟩; refine ⟨_, rfl, ?_⟩; have n0_ := aZ (bB (g := gb138) (o := .cells #[.int .i64 a0_0, .int .i64 a0_1] 23 (0, 0)) (by (with_reducible repeat (first | refine bN ?_ _ | refine bW ?_ | refine bA ?_ _)); exact BK138.out) hb); have n1_ := aZ (bB (g := gb139) (o := .cells #[.int .i64 a1_0, .int .i64 a1_1] 23 (0, 0)) (by (with_reducible repeat (first | refine bN ?_ _ | refine bW ?_ | refine bA ?_ _)); exact BK139.out) hb); have n2_ := aZ (bB (g := gb140) (o := .cells #[.int .i64 a2_0, .int .i64 a2_1] 23 (0, 0)) (by (with_reducible repeat (first | refine bN ?_ _ | refine bW ?_ | refine bA ?_ _)); exact BK140.out) hb); have n3_ := aZ (bB (g := gb148) (o := .cells #[.int .i64 t145, .int .i64 t146] 23 (0, 0)) (by (with_reducible repeat (first | refine bN ?_ _ | refine bW ?_ | refine bA ?_ _)); exact BK148.out) hb); have n4_ := aZ (bB (g := gb152) (o := .cells #[.int .i64 t149, .int .i64 t150] 23 (0, 0)) (by (with_reducible repeat (first | refine bN ?_ _ | refine bW ?_ | refine bA ?_ _)); exact BK152.out) hb); have n5_ := aZ (bB (g := gb156) (o := .cells #[.int .i64 t153, .int .i64 t154] 23 (0, 0)) (by (with_reducible repeat (first | refine bN ?_ _ | refine bW ?_ | refine bA ?_ _)); exact BK156.out) hb); have n6_ := aZ (bB (g := gb161) (o := .cells #[.int .i64 t158, .int .i64 t159] 23 (0, 0)) (by (with_reducible repeat (first | refine bN ?_ _ | refine bW ?_ | refine bA ?_ _)); exact BK161.out) hb); have n7_ := aZ (bB (g := gb165) (o := .cells #[.int .i64 t162, .int .i64 t163] 23 (0, 0)) (by (with_reducible repeat (first | refine bN ?_ _ | refine bW ?_ | refine bA ?_ _)); exact BK165.out) hb); have n8_ := aZ (bB (g := gb169) (o := .cells #[.int .i64 t166, .int .i64 t167] 23 (0, 0)) (by (with_reducible repeat (first | refine bN ?_ _ | refine bW ?_ | refine bA ?_ _)); exact BK169.out) hb); have n9_ := aZ (bB (g := gb173) (o := .cells #[.int .i64 t170, .int .i64 t171] 23 (0, 0)) (by (with_reducible repeat (first | refine bN ?_ _ | refine bW ?_ | refine bA ?_ _)); exact BK173.out) hb); have n10_ := aZ (bB (g := gb177) (o := .cells #[.int .i64 t174, .int .i64 t175] 23 (0, 0)) (by (with_reducible repeat (first | refine bN ?_ _ | refine bW ?_ | refine bA ?_ _)); exact BK177.out) hb); have n11_ := aZ (bB (g := gb178) (o := .cells #[.int .i64 x179000_6, .int .i64 x179001_6] 23 (0, 0)) (by (with_reducible repeat (first | refine bN ?_ _ | refine bW ?_ | refine bA ?_ _)); exact BK178.out) hb); have n12_ := aZ (wP (by repeat (first | (with_reducible first | exact HB.out | apply wA | apply wN | apply wD | refine wS ?_ GE138.out | refine wS ?_ GE139.out | refine wS ?_ GE140.out | refine wS ?_ GE148.out | refine wS ?_ GE152.out | refine wS ?_ GE156.out | refine wS ?_ GE161.out | refine wS ?_ GE165.out | refine wS ?_ GE169.out | refine wS ?_ GE173.out | refine wS ?_ GE177.out | refine wS ?_ GE178.out) | exact HB.out)) hb); clear BK138; clear BK139; clear BK140; clear BK148; clear BK152; clear BK156; clear BK161; clear BK165; clear BK169; clear BK173; clear BK177; clear BK178; clear HB; have BK138 := n0_; have BK139 := n1_; have BK140 := n2_; have BK148 := n3_; have BK152 := n4_; have BK156 := n5_; have BK161 := n6_; have BK165 := n7_; have BK169 := n8_; have BK173 := n9_; have BK177 := n10_; have BK178 := n11_; have HB := n12_; clear n0_ n1_ n2_ n3_ n4_ n5_ n6_ n7_ n8_ n9_ n10_ n11_ n12_; (try clear hb); (try clear hb2); (try clear hk); (try clear hi)) | ((with_reducible refine gD (N := 27) rfl ?_); refine gB ?hg (N := 27) ?hd (cs := #[.int .i64 0, .int .i64 0]) (t := 23) ?hr ?_; (case hd => rfl); (case hg => rfl); (case hr => first | (go_simp; done) | (go_simp; rfl)); intro gb185 hg w336 hbox hb; have n0_ := aZ (bB (g := gb138) (o := .cells #[.int .i64 a0_0, .int .i64 a0_1] 23 (0, 0)) (by (with_reducible repeat (first | refine bN ?_ _ | refine bW ?_ | refine bA ?_ _)); exact BK138.out) hb); have n1_ := aZ (bB (g := gb139) (o := .cells #[.int .i64 a1_0, .int .i64 a1_1] 23 (0, 0)) (by (with_reducible repeat (first | refine bN ?_ _ | refine bW ?_ | refine bA ?_ _)); exact BK139.out) hb); have n2_ := aZ (bB (g := gb140) (o := .cells #[.int .i64 a2_0, .int .i64 a2_1] 23 (0, 0)) (by (with_reducible repeat (first | refine bN ?_ _ | refine bW ?_ | refine bA ?_ _)); exact BK140.out) hb); have n3_ := aZ (bB (g := gb148) (o := .cells #[.int .i64 t145, .int .i64 t146] 23 (0, 0)) (by (with_reducible repeat (first | refine bN ?_ _ | refine bW ?_ | refine bA ?_ _)); exact BK148.out) hb); have n4_ := aZ (bB (g := gb152) (o := .cells #[.int .i64 t149, .int .i64 t150] 23 (0, 0)) (by (with_reducible repeat (first | refine bN ?_ _ | refine bW ?_ | refine bA ?_ _)); exact BK152.out) hb); have n5_ := aZ (bB (g := gb156) (o := .cells #[.int .i64 t153, .int .i64 t154] 23 (0, 0)) (by (with_reducible repeat (first | refine bN ?_ _ | refine bW ?_ | refine bA ?_ _)); exact BK156.out) hb); have n6_ := aZ (bB (g := gb161) (o := .cells #[.int .i64 t158, .int .i64 t159] 23 (0, 0)) (by (with_reducible repeat (first | refine bN ?_ _ | refine bW ?_ | refine bA ?_ _)); exact BK161.out) hb); have n7_ := aZ (bB (g := gb165) (o := .cells #[.int .i64 t162, .int .i64 t163] 23 (0, 0)) (by (with_reducible repeat (first | refine bN ?_ _ | refine bW ?_ | refine bA ?_ _)); exact BK165.out) hb); have n8_ := aZ (bB (g := gb169) (o := .cells #[.int .i64 t166, .int .i64 t167] 23 (0, 0)) (by (with_reducible repeat (first | refine bN ?_ _ | refine bW ?_ | refine bA ?_ _)); exact BK169.out) hb); have n9_ := aZ (bB (g := gb173) (o := .cells #[.int .i64 t170, .int .i64 t171] 23 (0, 0)) (by (with_reducible repeat (first | refine bN ?_ _ | refine bW ?_ | refine bA ?_ _)); exact BK173.out) hb); have n10_ := aZ (bB (g := gb177) (o := .cells #[.int .i64 t174, .int .i64 t175] 23 (0, 0)) (by (with_reducible repeat (first | refine bN ?_ _ | refine bW ?_ | refine bA ?_ _)); exact BK177.out) hb); have n11_ := aZ (bB (g := gb178) (o := .cells #[.int .i64 x179000_6, .int .i64 x179001_6] 23 (0, 0)) (by (with_reducible repeat (first | refine bN ?_ _ | refine bW ?_ | refine bA ?_ _)); exact BK178.out) hb); have n12_ := aZ (wP (by repeat (first | (with_reducible first | exact HB.out | apply wA | apply wN | apply wD | refine wS ?_ GE138.out | refine wS ?_ GE139.out | refine wS ?_ GE140.out | refine wS ?_ GE148.out | refine wS ?_ GE152.out | refine wS ?_ GE156.out | refine wS ?_ GE161.out | refine wS ?_ GE165.out | refine wS ?_ GE169.out | refine wS ?_ GE173.out | refine wS ?_ GE177.out | refine wS ?_ GE178.out) | exact HB.out)) hb); have n13_ := aZ (hbox); have n14_ := aZ ((by rw [hg]; exact (wZ (by repeat (first | (with_reducible first | exact HB.out | apply wA | apply wN | apply wD | refine wS ?_ GE138.out | refine wS ?_ GE139.out | refine wS ?_ GE140.out | refine wS ?_ GE148.out | refine wS ?_ GE152.out | refine wS ?_ GE156.out | refine wS ?_ GE161.out | refine wS ?_ GE165.out | refine wS ?_ GE169.out | refine wS ?_ GE173.out | refine wS ?_ GE177.out | refine wS ?_ GE178.out) | exact HB.out))) : w.heap.size ≤ gb185)); have n15_ := aZ ((by rw [hg]; exact (wZ (by repeat (first | (with_reducible first | exact HB.out | apply wA | apply wN | apply wD | refine wS ?_ GE138.out | refine wS ?_ GE139.out | refine wS ?_ GE140.out | refine wS ?_ GE148.out | refine wS ?_ GE152.out | refine wS ?_ GE156.out | refine wS ?_ GE161.out | refine wS ?_ GE165.out | refine wS ?_ GE169.out | refine wS ?_ GE173.out | refine wS ?_ GE177.out | refine wS ?_ GE178.out) | exact HB.out))) : w.heap.size ≤ gb185)); have n16_ := aZ ((by rw [hg]; exact Nat.ne_of_lt (bL (g := gb138) (o := .cells #[.int .i64 a0_0, .int .i64 a0_1] 23 (0, 0)) (by (with_reducible repeat (first | refine bN ?_ _ | refine bW ?_ | refine bA ?_ _)); exact BK138.out)) : gb138 ≠ gb185)); have n17_ := aZ ((by rw [hg]; exact Nat.ne_of_gt (bL (g := gb138) (o := .cells #[.int .i64 a0_0, .int .i64 a0_1] 23 (0, 0)) (by (with_reducible repeat (first | refine bN ?_ _ | refine bW ?_ | refine bA ?_ _)); exact BK138.out)) : gb185 ≠ gb138)); have n18_ := aZ ((by rw [hg]; exact Nat.ne_of_lt (bL (g := gb139) (o := .cells #[.int .i64 a1_0, .int .i64 a1_1] 23 (0, 0)) (by (with_reducible repeat (first | refine bN ?_ _ | refine bW ?_ | refine bA ?_ _)); exact BK139.out)) : gb139 ≠ gb185)); have n19_ := aZ ((by rw [hg]; exact Nat.ne_of_gt (bL (g := gb139) (o := .cells #[.int .i64 a1_0, .int .i64 a1_1] 23 (0, 0)) (by (with_reducible repeat (first | refine bN ?_ _ | refine bW ?_ | refine bA ?_ _)); exact BK139.out)) : gb185 ≠ gb139)); have n20_ := aZ ((by rw [hg]; exact Nat.ne_of_lt (bL (g := gb140) (o := .cells #[.int .i64 a2_0, .int .i64 a2_1] 23 (0, 0)) (by (with_reducible repeat (first | refine bN ?_ _ | refine bW ?_ | refine bA ?_ _)); exact BK140.out)) : gb140 ≠ gb185)); have n21_ := aZ ((by rw [hg]; exact Nat.ne_of_gt (bL (g := gb140) (o := .cells #[.int .i64 a2_0, .int .i64 a2_1] 23 (0, 0)) (by (with_reducible repeat (first | refine bN ?_ _ | refine bW ?_ | refine bA ?_ _)); exact BK140.out)) : gb185 ≠ gb140)); have n22_ := aZ ((by rw [hg]; exact Nat.ne_of_lt (bL (g := gb148) (o := .cells #[.int .i64 t145, .int .i64 t146] 23 (0, 0)) (by (with_reducible repeat (first | refine bN ?_ _ | refine bW ?_ | refine bA ?_ _)); exact BK148.out)) : gb148 ≠ gb185)); have n23_ := aZ ((by rw [hg]; exact Nat.ne_of_gt (bL (g := gb148) (o := .cells #[.int .i64 t145, .int .i64 t146] 23 (0, 0)) (by (with_reducible repeat (first | refine bN ?_ _ | refine bW ?_ | refine bA ?_ _)); exact BK148.out)) : gb185 ≠ gb148)); have n24_ := aZ ((by rw [hg]; exact Nat.ne_of_lt (bL (g := gb152) (o := .cells #[.int .i64 t149, .int .i64 t150] 23 (0, 0)) (by (with_reducible repeat (first | refine bN ?_ _ | refine bW ?_ | refine bA ?_ _)); exact BK152.out)) : gb152 ≠ gb185)); have n25_ := aZ ((by rw [hg]; exact Nat.ne_of_gt (bL (g := gb152) (o := .cells #[.int .i64 t149, .int .i64 t150] 23 (0, 0)) (by (with_reducible repeat (first | refine bN ?_ _ | refine bW ?_ | refine bA ?_ _)); exact BK152.out)) : gb185 ≠ gb152)); have n26_ := aZ ((by rw [hg]; exact Nat.ne_of_lt (bL (g := gb156) (o := .cells #[.int .i64 t153, .int .i64 t154] 23 (0, 0)) (by (with_reducible repeat (first | refine bN ?_ _ | refine bW ?_ | refine bA ?_ _)); exact BK156.out)) : gb156 ≠ gb185)); have n27_ := aZ ((by rw [hg]; exact Nat.ne_of_gt (bL (g := gb156) (o := .cells #[.int .i64 t153, .int .i64 t154] 23 (0, 0)) (by (with_reducible repeat (first | refine bN ?_ _ | refine bW ?_ | refine bA ?_ _)); exact BK156.out)) : gb185 ≠ gb156)); have n28_ := aZ ((by rw [hg]; exact Nat.ne_of_lt (bL (g := gb161) (o := .cells #[.int .i64 t158, .int .i64 t159] 23 (0, 0)) (by (with_reducible repeat (first | refine bN ?_ _ | refine bW ?_ | refine bA ?_ _)); exact BK161.out)) : gb161 ≠ gb185)); have n29_ := aZ ((by rw [hg]; exact Nat.ne_of_gt (bL (g := gb161) (o := .cells #[.int .i64 t158, .int .i64 t159] 23 (0, 0)) (by (with_reducible repeat (first | refine bN ?_ _ | refine bW ?_ | refine bA ?_ _)); exact BK161.out)) : gb185 ≠ gb161)); have n30_ := aZ ((by rw [hg]; exact Nat.ne_of_lt (bL (g := gb165) (o := .cells #[.int .i64 t162, .int .i64 t163] 23 (0, 0)) (by (with_reducible repeat (first | refine bN ?_ _ | refine bW ?_ | refine bA ?_ _)); exact BK165.out)) : gb165 ≠ gb185)); have n31_ := aZ ((by rw [hg]; exact Nat.ne_of_gt (bL (g := gb165) (o := .cells #[.int .i64 t162, .int .i64 t163] 23 (0, 0)) (by (with_reducible repeat (first | refine bN ?_ _ | refine bW ?_ | refine bA ?_ _)); exact BK165.out)) : gb185 ≠ gb165)); have n32_ := aZ ((by rw [hg]; exact Nat.ne_of_lt (bL (g := gb169) (o := .cells #[.int .i64 t166, .int .i64 t167] 23 (0, 0)) (by (with_reducible repeat (first | refine bN ?_ _ | refine bW ?_ | refine bA ?_ _)); exact BK169.out)) : gb169 ≠ gb185)); have n33_ := aZ ((by rw [hg]; exact Nat.ne_of_gt (bL (g := gb169) (o := .cells #[.int .i64 t166, .int .i64 t167] 23 (0, 0)) (by (with_reducible repeat (first | refine bN ?_ _ | refine bW ?_ | refine bA ?_ _)); exact BK169.out)) : gb185 ≠ gb169)); have n34_ := aZ ((by rw [hg]; exact Nat.ne_of_lt (bL (g := gb173) (o := .cells #[.int .i64 t170, .int .i64 t171] 23 (0, 0)) (by (with_reducible repeat (first | refine bN ?_ _ | refine bW ?_ | refine bA ?_ _)); exact BK173.out)) : gb173 ≠ gb185)); have n35_ := aZ ((by rw [hg]; exact Nat.ne_of_gt (bL (g := gb173) (o := .cells #[.int .i64 t170, .int .i64 t171] 23 (0, 0)) (by (with_reducible repeat (first | refine bN ?_ _ | refine bW ?_ | refine bA ?_ _)); exact BK173.out)) : gb185 ≠ gb173)); have n36_ := aZ ((by rw [hg]; exact Nat.ne_of_lt (bL (g := gb177) (o := .cells #[.int .i64 t174, .int .i64 t175] 23 (0, 0)) (by (with_reducible repeat (first | refine bN ?_ _ | refine bW ?_ | refine bA ?_ _)); exact BK177.out)) : gb177 ≠ gb185)); have n37_ := aZ ((by rw [hg]; exact Nat.ne_of_gt (bL (g := gb177) (o := .cells #[.int .i64 t174, .int .i64 t175] 23 (0, 0)) (by (with_reducible repeat (first | refine bN ?_ _ | refine bW ?_ | refine bA ?_ _)); exact BK177.out)) : gb185 ≠ gb177)); have n38_ := aZ ((by rw [hg]; exact Nat.ne_of_lt (bL (g := gb178) (o := .cells #[.int .i64 x179000_6, .int .i64 x179001_6] 23 (0, 0)) (by (with_reducible repeat (first | refine bN ?_ _ | refine bW ?_ | refine bA ?_ _)); exact BK178.out)) : gb178 ≠ gb185)); have n39_ := aZ ((by rw [hg]; exact Nat.ne_of_gt (bL (g := gb178) (o := .cells #[.int .i64 x179000_6, .int .i64 x179001_6] 23 (0, 0)) (by (with_reducible repeat (first | refine bN ?_ _ | refine bW ?_ | refine bA ?_ _)); exact BK178.out)) : gb185 ≠ gb178)); clear BK138; clear BK139; clear BK140; clear BK148; clear BK152; clear BK156; clear BK161; clear BK165; clear BK169; clear BK173; clear BK177; clear BK178; clear HB; have BK138 := n0_; have BK139 := n1_; have BK140 := n2_; have BK148 := n3_; have BK152 := n4_; have BK156 := n5_; have BK161 := n6_; have BK165 := n7_; have BK169 := n8_; have BK173 := n9_; have BK177 := n10_; have BK178 := n11_; have HB := n12_; have BK185 := n13_; have GW185 := n14_; have GE185 := n15_; have NB138_185 := n16_; have NB185_138 := n17_; have NB139_185 := n18_; have NB185_139 := n19_; have NB140_185 := n20_; have NB185_140 := n21_; have NB148_185 := n22_; have NB185_148 := n23_; have NB152_185 := n24_; have NB185_152 := n25_; have NB156_185 := n26_; have NB185_156 := n27_; have NB161_185 := n28_; have NB185_161 := n29_; have NB165_185 := n30_; have NB185_165 := n31_; have NB169_185 := n32_; have NB185_169 := n33_; have NB173_185 := n34_; have NB185_173 := n35_; have NB177_185 := n36_; have NB185_177 := n37_; have NB178_185 := n38_; have NB185_178 := n39_; clear n0_ n1_ n2_ n3_ n4_ n5_ n6_ n7_ n8_ n9_ n10_ n11_ n12_ n13_ n14_ n15_ n16_ n17_ n18_ n19_ n20_ n21_ n22_ n23_ n24_ n25_ n26_ n27_ n28_ n29_ n30_ n31_ n32_ n33_ n34_ n35_ n36_ n37_ n38_ n39_; clear hb hbox hg; have hnb337 := NB185_138.out; have hnc337 := NB138_185.out; have hnb338 := NB185_139.out; have hnc338 := NB139_185.out; have hnb339 := NB185_140.out; have hnc339 := NB140_185.out; have hnb340 := NB185_148.out; have hnc340 := NB148_185.out; have hnb341 := NB185_152.out; have hnc341 := NB152_185.out; have hnb342 := NB185_156.out; have hnc342 := NB156_185.out; have hnb343 := NB185_161.out; have hnc343 := NB161_185.out; have hnb344 := NB185_165.out; have hnc344 := NB165_185.out; have hnb345 := NB185_169.out; have hnc345 := NB169_185.out; have hnb346 := NB185_173.out; have hnc346 := NB173_185.out; have hnb347 := NB185_177.out; have hnc347 := NB177_185.out; have hnb348 := NB185_178.out; have hnc348 := NB178_185.out; have hcz349_0 : w336.cell? ⟨gb185, 0, none⟩ = some (.int .i64 0) := (bC BK185.out 0).trans rfl; have hcz349_1 : w336.cell? ⟨gb185, 1, none⟩ = some (.int .i64 0) := (bC BK185.out 1).trans rfl; have hfz349_0 := bZ BK185.out 0; have hfz349_1 := bZ BK185.out 1; have hnb350 := NB178_139.out; have hnc350 := NB139_178.out; have hnb351 := NB178_140.out; have hnc351 := NB140_178.out; have hnb352 := NB178_148.out; have hnc352 := NB148_178.out; have hnb353 := NB178_152.out; have hnc353 := NB152_178.out; have hnb354 := NB178_156.out; have hnc354 := NB156_178.out; have hnb355 := NB178_161.out; have hnc355 := NB161_178.out; have hnb356 := NB178_165.out; have hnc356 := NB165_178.out; have hnb357 := NB178_169.out; have hnc357 := NB169_178.out; have hnb358 := NB178_173.out; have hnc358 := NB173_178.out; have hnb359 := NB178_177.out; have hnc359 := NB177_178.out; have hcz360_0 : w336.cell? ⟨gb178, 0, none⟩ = some (.int .i64 x179000_6) := (bC BK178.out 0).trans rfl; have hcz360_1 : w336.cell? ⟨gb178, 1, none⟩ = some (.int .i64 x179001_6) := (bC BK178.out 1).trans rfl; have hfz360_0 := bZ BK178.out 0; have hfz360_1 := bZ BK178.out 1))
          go_ret
          exact ⟨by first | rfl | (simp [errW_none, errW_some] <;> rfl) | (simp [*, errW_none, errW_some] <;> rfl), by repeat (first | (with_reducible first | exact HB.out | apply wA | apply wN | apply wD | refine wS ?_ GE138.out | refine wS ?_ GE139.out | refine wS ?_ GE140.out | refine wS ?_ GE148.out | refine wS ?_ GE152.out | refine wS ?_ GE156.out | refine wS ?_ GE161.out | refine wS ?_ GE165.out | refine wS ?_ GE169.out | refine wS ?_ GE173.out | refine wS ?_ GE177.out | refine wS ?_ GE178.out | refine wS ?_ GE185.out) | exact HB.out)⟩
         rw [if_neg c322] at H
         exact absurd H (by simp)
 replace c6 := Bool.eq_false_iff.mpr c6
 subst c6
 have H1 : (none) = some r := by rw [if_neg (show ¬ (false = true) by decide)] at H; exact H
 clear H
 have H := H1
 clear H1
 exact absurd H (by simp)

end Go.Proofs.Ytcddhfidbhcgdaa.PTG
