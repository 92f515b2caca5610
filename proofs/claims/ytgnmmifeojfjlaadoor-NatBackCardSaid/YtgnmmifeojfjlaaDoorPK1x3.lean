/- Written by wip/xprint.py (the kit's print over given functions). -/
import Derived.Test.YtgnmmifeojfjlaaDoorPK1x0
import Derived.Test.YtgnmmifeojfjlaaDoorPK1x1
import Derived.Test.YtgnmmifeojfjlaaDoorPK1x2
namespace Go.Proofs.YtgnmmifeojfjlaaDoor.PK1
open Go.RowKit Go.Proofs.YtgnmmifeojfjlaaDoorW.PrintWords Go.Proofs.YtgnmmifeojfjlaaDoorW.PrintLast Go.Proofs.YtgnmmifeojfjlaaDoorW.PrintMore
attribute [local go_sem] max2_int min2_int max_two min_two max_three min_three max_four min_four   -- for this text's walks alone
set_option linter.unusedVariables false
set_option linter.unusedSimpArgs false

/-! ### slackwaterlaw01_NatBack: function 6 -/
mutual
def slackwaterlaw01_NatBack.j0 : Nat → ByteArray → Bool → Bool → Option (Bool)
  | 0, _, _, _ => none
  | k + 1, x1, x5, x41 => if x41 = true then (none) else (if (x1.size : Int) > 500 then (if 0 ≤ 500 then (if 500 ≤ (x1.size : Int) then (slackwaterlaw01_NatBack.j1 k (x1.extract 0 500) x5) else (none)) else (none)) else (slackwaterlaw01_NatBack.j1 k x1 x5))
def slackwaterlaw01_NatBack.j1 : Nat → ByteArray → Bool → Option (Bool)
  | 0, _, _ => none
  | k + 1, x1, x5 => if (x1.size : Int) > 0 then (if 0 < (x1.size : Int) then (if (bt x1 0) = 48 then (slackwaterlaw01_NatBack.j2 k x1 x5 ((x1.size : Int) == 1)) else (slackwaterlaw01_NatBack.j2 k x1 x5 true)) else (none)) else (slackwaterlaw01_NatBack.j2 k x1 x5 false)
def slackwaterlaw01_NatBack.j2 : Nat → ByteArray → Bool → Bool → Option (Bool)
  | 0, _, _, _ => none
  | k + 1, x1, x5, x11 => slackwaterlaw01_NatBack.l0 k x1 x5 x11 0
def slackwaterlaw01_NatBack.l0 : Nat → ByteArray → Bool → Bool → Int → Option (Bool)
  | 0, _, _, _, _ => none
  | k + 1, x1, x5, x11, x12 => if x12 < (x1.size : Int) then (if x11 = true then (if 0 ≤ x12 then (if (bt x1 x12) ≥ 48 then (slackwaterlaw01_NatBack.l0 k x1 x5 (decide ((bt x1 x12) ≤ 57)) (wrap64 (x12 + 1))) else (slackwaterlaw01_NatBack.l0 k x1 x5 false (wrap64 (x12 + 1)))) else (none)) else (slackwaterlaw01_NatBack.l0 k x1 x5 false (wrap64 (x12 + 1)))) else ((nat_Parse.f x1).bind fun bt195 => (if ((bt195.2 == 0) != x11) = true then (none) else (if bt195.2 = 0 then ((nat_Print.f k bt195.1).bind fun bt199 => (if x5 = true then (if bt199.2 = 0 then (some (bt199.1.toList == x1.toList)) else (none)) else (none))) else (if x5 = true then (if bt195.2 = 110 then (some ((bt195.1.length : Int) == 0)) else (none)) else (none)))))
end
def slackwaterlaw01_NatBack.f (k : Nat) (l0 : List Int) (a1 : ByteArray) : Option (Bool) := (slackwaterlaw01_awake.f k).bind fun t184 => ((slackwaterlaw01_put.f l0).bind fun t185 => ((nat_Print.f k t185).bind fun bt188 => ((nat_Parse.f bt188.1).bind fun bt190 => (if bt188.2 = 0 then (if bt190.2 = 0 then ((slackwaterkit_SameWords.f k t185 bt190.1).bind fun t194 => (slackwaterlaw01_NatBack.j0 k a1 t184 (!t194))) else (none)) else (none)))))
theorem slackwaterlaw01_NatBack.mono_l : ∀ k, (∀ y0 y1 y2, LeO (slackwaterlaw01_NatBack.j0 k y0 y1 y2) (slackwaterlaw01_NatBack.j0 (k + 1) y0 y1 y2)) ∧ (∀ y0 y1, LeO (slackwaterlaw01_NatBack.j1 k y0 y1) (slackwaterlaw01_NatBack.j1 (k + 1) y0 y1)) ∧ (∀ y0 y1 y2, LeO (slackwaterlaw01_NatBack.j2 k y0 y1 y2) (slackwaterlaw01_NatBack.j2 (k + 1) y0 y1 y2)) ∧ (∀ y0 y1 y2 y3, LeO (slackwaterlaw01_NatBack.l0 k y0 y1 y2 y3) (slackwaterlaw01_NatBack.l0 (k + 1) y0 y1 y2 y3))
  | 0 => ⟨fun _ _ _ r h => by simp [slackwaterlaw01_NatBack.j0] at h, fun _ _ r h => by simp [slackwaterlaw01_NatBack.j1] at h, fun _ _ _ r h => by simp [slackwaterlaw01_NatBack.j2] at h, fun _ _ _ _ r h => by simp [slackwaterlaw01_NatBack.l0] at h⟩
  | k + 1 => by
    obtain ⟨ih0, ih1, ih2, ih3⟩ := slackwaterlaw01_NatBack.mono_l k
    refine ⟨?_, ?_, ?_, ?_⟩
    · intro y0 y1 y2
      unfold slackwaterlaw01_NatBack.j0
      repeat' first
      | (with_reducible exact ih0 _ _ _)
      | (with_reducible exact ih1 _ _)
      | (with_reducible exact ih2 _ _ _)
      | (with_reducible exact ih3 _ _ _ _)
      | (with_reducible exact nat_Print.mono _ _)
      | (with_reducible exact slackwaterkit_SameWords.mono _ _ _)
      | (with_reducible exact slackwaterlaw01_awake.mono _)
      | (with_reducible exact LeO.refl _)
      | (with_reducible exact LeO.none _)
      | (with_reducible refine LeO.ite ?_ ?_)
      | (with_reducible refine LeO.bind ?_ (fun _ => ?_))
      | exact ih0 _ _ _
      | exact ih1 _ _
      | exact ih2 _ _ _
      | exact ih3 _ _ _ _
      | exact nat_Print.mono _ _
      | exact slackwaterkit_SameWords.mono _ _ _
      | exact slackwaterlaw01_awake.mono _
      | exact LeO.none _
      | refine LeO.ite ?_ ?_
      | refine LeO.bind ?_ (fun _ => ?_)
    · intro y0 y1
      unfold slackwaterlaw01_NatBack.j1
      repeat' first
      | (with_reducible exact ih0 _ _ _)
      | (with_reducible exact ih1 _ _)
      | (with_reducible exact ih2 _ _ _)
      | (with_reducible exact ih3 _ _ _ _)
      | (with_reducible exact nat_Print.mono _ _)
      | (with_reducible exact slackwaterkit_SameWords.mono _ _ _)
      | (with_reducible exact slackwaterlaw01_awake.mono _)
      | (with_reducible exact LeO.refl _)
      | (with_reducible exact LeO.none _)
      | (with_reducible refine LeO.ite ?_ ?_)
      | (with_reducible refine LeO.bind ?_ (fun _ => ?_))
      | exact ih0 _ _ _
      | exact ih1 _ _
      | exact ih2 _ _ _
      | exact ih3 _ _ _ _
      | exact nat_Print.mono _ _
      | exact slackwaterkit_SameWords.mono _ _ _
      | exact slackwaterlaw01_awake.mono _
      | exact LeO.none _
      | refine LeO.ite ?_ ?_
      | refine LeO.bind ?_ (fun _ => ?_)
    · intro y0 y1 y2
      unfold slackwaterlaw01_NatBack.j2
      repeat' first
      | (with_reducible exact ih0 _ _ _)
      | (with_reducible exact ih1 _ _)
      | (with_reducible exact ih2 _ _ _)
      | (with_reducible exact ih3 _ _ _ _)
      | (with_reducible exact nat_Print.mono _ _)
      | (with_reducible exact slackwaterkit_SameWords.mono _ _ _)
      | (with_reducible exact slackwaterlaw01_awake.mono _)
      | (with_reducible exact LeO.refl _)
      | (with_reducible exact LeO.none _)
      | (with_reducible refine LeO.ite ?_ ?_)
      | (with_reducible refine LeO.bind ?_ (fun _ => ?_))
      | exact ih0 _ _ _
      | exact ih1 _ _
      | exact ih2 _ _ _
      | exact ih3 _ _ _ _
      | exact nat_Print.mono _ _
      | exact slackwaterkit_SameWords.mono _ _ _
      | exact slackwaterlaw01_awake.mono _
      | exact LeO.none _
      | refine LeO.ite ?_ ?_
      | refine LeO.bind ?_ (fun _ => ?_)
    · intro y0 y1 y2 y3
      unfold slackwaterlaw01_NatBack.l0
      repeat' first
      | (with_reducible exact ih0 _ _ _)
      | (with_reducible exact ih1 _ _)
      | (with_reducible exact ih2 _ _ _)
      | (with_reducible exact ih3 _ _ _ _)
      | (with_reducible exact nat_Print.mono _ _)
      | (with_reducible exact slackwaterkit_SameWords.mono _ _ _)
      | (with_reducible exact slackwaterlaw01_awake.mono _)
      | (with_reducible exact LeO.refl _)
      | (with_reducible exact LeO.none _)
      | (with_reducible refine LeO.ite ?_ ?_)
      | (with_reducible refine LeO.bind ?_ (fun _ => ?_))
      | exact ih0 _ _ _
      | exact ih1 _ _
      | exact ih2 _ _ _
      | exact ih3 _ _ _ _
      | exact nat_Print.mono _ _
      | exact slackwaterkit_SameWords.mono _ _ _
      | exact slackwaterlaw01_awake.mono _
      | exact LeO.none _
      | refine LeO.ite ?_ ?_
      | refine LeO.bind ?_ (fun _ => ?_)
theorem slackwaterlaw01_NatBack.mono : ∀ a0 a1 k, LeO (slackwaterlaw01_NatBack.f k a0 a1) (slackwaterlaw01_NatBack.f (k + 1) a0 a1) := by
  intro a0 a1 k
  obtain ⟨ih0, ih1, ih2, ih3⟩ := slackwaterlaw01_NatBack.mono_l k
  unfold slackwaterlaw01_NatBack.f
  repeat' first
      | (with_reducible exact ih0 _ _ _)
      | (with_reducible exact ih1 _ _)
      | (with_reducible exact ih2 _ _ _)
      | (with_reducible exact ih3 _ _ _ _)
      | (with_reducible exact nat_Print.mono _ _)
      | (with_reducible exact slackwaterkit_SameWords.mono _ _ _)
      | (with_reducible exact slackwaterlaw01_awake.mono _)
      | (with_reducible exact LeO.refl _)
      | (with_reducible exact LeO.none _)
      | (with_reducible refine LeO.ite ?_ ?_)
      | (with_reducible refine LeO.bind ?_ (fun _ => ?_))
      | exact ih0 _ _ _
      | exact ih1 _ _
      | exact ih2 _ _ _
      | exact ih3 _ _ _ _
      | exact nat_Print.mono _ _
      | exact slackwaterkit_SameWords.mono _ _ _
      | exact slackwaterlaw01_awake.mono _
      | exact LeO.none _
      | refine LeO.ite ?_ ?_
      | refine LeO.bind ?_ (fun _ => ?_)
set_option maxHeartbeats 8000000 in
set_option maxRecDepth 100000 in
theorem slackwaterlaw01_NatBack.calls (k : Nat) (A0 : Option Addr) (c0 : Nat) (l0 : List Int) (a1 : ByteArray) (r : Bool) (w : World) (hL : LW w) (hr0 : Kd.C (Kd.int .u32) w A0 l0.length l0) (hc0 : l0.length ≤ c0) (h : slackwaterlaw01_NatBack.f k l0 a1 = some r) :
    Calls Tryd.prog 6 #[.slice A0 l0.length c0, .string a1] w fun e w' => e = .returned (.bool r) ∧ Below w.heap.size w w' := by
  have HR0 := Aside0.mk hr0
  have HC0 := Aside0.mk hc0
  clear hr0 hc0
  have HB := Aside0.mk (Below.refl w.heap.size w)
  have H : ((slackwaterlaw01_awake.f k).bind fun t184 => ((slackwaterlaw01_put.f l0).bind fun t185 => ((nat_Print.f k t185).bind fun bt188 => ((nat_Parse.f bt188.1).bind fun bt190 => (if bt188.2 = 0 then (if bt190.2 = 0 then ((slackwaterkit_SameWords.f k t185 bt190.1).bind fun t194 => (slackwaterlaw01_NatBack.j0 k a1 t184 (!t194))) else (none)) else (none)))))) = some r := h
  clear h
  replace H := Option.bind_eq_some_iff.mp H
  obtain ⟨t184, A30, H⟩ := H
  replace H : ((slackwaterlaw01_put.f l0).bind fun t185 => ((nat_Print.f k t185).bind fun bt188 => ((nat_Parse.f bt188.1).bind fun bt190 => (if bt188.2 = 0 then (if bt190.2 = 0 then ((slackwaterkit_SameWords.f k t185 bt190.1).bind fun t194 => (slackwaterlaw01_NatBack.j0 k a1 t184 (!t194))) else (none)) else (none))))) = some r := H
  have A3 := Aside0.mk A30
  clear A30
  replace H := Option.bind_eq_some_iff.mp H
  obtain ⟨t185, A40, H⟩ := H
  replace H : ((nat_Print.f k t185).bind fun bt188 => ((nat_Parse.f bt188.1).bind fun bt190 => (if bt188.2 = 0 then (if bt190.2 = 0 then ((slackwaterkit_SameWords.f k t185 bt190.1).bind fun t194 => (slackwaterlaw01_NatBack.j0 k a1 t184 (!t194))) else (none)) else (none)))) = some r := H
  have A4 := Aside0.mk A40
  clear A40
  replace H := Option.bind_eq_some_iff.mp H
  obtain ⟨⟨t188, t189⟩, A50, H⟩ := H
  replace H : ((nat_Parse.f t188).bind fun bt190 => (if t189 = 0 then (if bt190.2 = 0 then ((slackwaterkit_SameWords.f k t185 bt190.1).bind fun t194 => (slackwaterlaw01_NatBack.j0 k a1 t184 (!t194))) else (none)) else (none))) = some r := H
  have A5 := Aside0.mk A50
  clear A50
  replace H := Option.bind_eq_some_iff.mp H
  obtain ⟨⟨t190, t191⟩, A60, H⟩ := H
  replace H : (if t189 = 0 then (if t191 = 0 then ((slackwaterkit_SameWords.f k t185 t190).bind fun t194 => (slackwaterlaw01_NatBack.j0 k a1 t184 (!t194))) else (none)) else (none)) = some r := H
  have A6 := Aside0.mk A60
  clear A60
  have HC7 := Aside0.mk H
  clear H
  go_enter Tryd.func6, Tryd.ntmps6
  go_upto_region 5 with (first | ((with_reducible refine gate_callee (f := 13) rfl ?_); refine goesL_ (some 17) rfl rfl Tryd.func13 (by kernel_rfl) rfl #[] rfl (by (try simp only [List.map_toArray, List.map_cons, List.map_nil]); first | done | rfl | (simp only [List.length_drop, List.length_take]; rfl)) ?_; (with_reducible refine (slackwaterlaw01_awake.calls k  t184 _ (hL.below (by repeat (first | (with_reducible first | exact HB.out | apply below_alloc | apply pw_below_drewN | apply below_drew1) | exact HB.out))) A3.out).mono ?_); rintro e w8 ⟨rfl, hb⟩; refine ⟨_, rfl, ?_⟩; have n0_ := Aside0.mk (below_step (by repeat (first | (with_reducible first | exact HB.out | apply below_alloc | apply pw_below_drewN | apply below_drew1) | exact HB.out)) hb); clear HB; have HB := n0_; clear n0_; (try clear hb); (try clear hb2); (try clear hk); (try clear hi)) | ((with_reducible refine gate_callee (f := 7) rfl ?_); refine goesL_ (some 19) rfl rfl Tryd.func7 (by kernel_rfl) rfl #[.slice A0 l0.length c0] rfl (by (try simp only [List.map_toArray, List.map_cons, List.map_nil]); first | done | rfl | (simp only [List.length_drop, List.length_take]; rfl)) ?_; (with_reducible refine (slackwaterlaw01_put.calls _ _ l0 t185 _ ?side1 ?side2 A4.out).mono ?_); (case side1 => repeat (first | exact (Kd.C_below HR0.out HB.out) | (with_reducible refine Kd.C_alloc ?_ _) | (with_reducible refine Kd.C_drewN ?_ _) | (with_reducible refine Kd.C_drew ?_))); (case side2 => exact HC0.out); rintro e w9 ⟨v186, rfl, ho0, hb⟩; refine ⟨_, rfl, ?_⟩; have n0_ := Aside0.mk (Kd.R_lower ho0 (below_size (by repeat (first | (with_reducible first | exact HB.out | apply below_alloc | apply pw_below_drewN | apply below_drew1) | exact HB.out)))); have n1_ := Aside0.mk (below_step (by repeat (first | (with_reducible first | exact HB.out | apply below_alloc | apply pw_below_drewN | apply below_drew1) | exact HB.out)) hb); clear HB; have HO187 := n0_; have HB := n1_; clear n0_ n1_; (try clear hb); (try clear hb2); (try clear hk); (try clear hi); (try clear ho0); obtain ⟨Ao10, co10, eo10⟩ := Kd.R_slice HO187.out; subst eo10) | ((with_reducible refine gate_callee (f := 18) rfl ?_); refine goesL_ (some 22) rfl rfl Tryd.func18 (by kernel_rfl) rfl #[.slice Ao10 t185.length co10] rfl (by (try simp only [List.map_toArray, List.map_cons, List.map_nil]); first | done | rfl | (simp only [List.length_drop, List.length_take]; rfl)) ?_; (with_reducible refine (nat_Print.calls k _ _ t185 t188 t189 _ (hL.below (by repeat (first | (with_reducible first | exact HB.out | apply below_alloc | apply pw_below_drewN | apply below_drew1) | exact HB.out))) ?side1 ?side2 A5.out).mono ?_); (case side1 => repeat (first | exact (Kd.R_reads' HO187.out).2.2 | (with_reducible refine Kd.C_alloc ?_ _) | (with_reducible refine Kd.C_drewN ?_ _) | (with_reducible refine Kd.C_drew ?_))); (case side2 => exact (Kd.R_reads' HO187.out).2.1); rintro e w11 ⟨rfl, hb⟩; refine ⟨_, rfl, ?_⟩; have n0_ := Aside0.mk (Kd.R_below (by (with_reducible repeat (first | apply Kd.R_alloc | apply Kd.R_drewN | apply Kd.R_drew)); exact HO187.out) hb); have n1_ := Aside0.mk (below_step (by repeat (first | (with_reducible first | exact HB.out | apply below_alloc | apply pw_below_drewN | apply below_drew1) | exact HB.out)) hb); clear HO187; clear HB; have HO187 := n0_; have HB := n1_; clear n0_ n1_; (try clear hb); (try clear hb2); (try clear hk); (try clear hi)) | ((with_reducible refine gate_callee (f := 19) rfl ?_); refine goesL_ (some 27) rfl rfl Tryd.func19 (by kernel_rfl) rfl #[.string t188] rfl (by (try simp only [List.map_toArray, List.map_cons, List.map_nil]); first | done | rfl | (simp only [List.length_drop, List.length_take]; rfl)) ?_; (with_reducible refine (nat_Parse.calls t188 t190 t191 _ A6.out).mono ?_); rintro e w12 ⟨v192, rfl, ho0, hb⟩; refine ⟨_, rfl, ?_⟩; have n0_ := Aside0.mk (Kd.R_elder' (by (with_reducible repeat (first | apply Kd.R_alloc | apply Kd.R_drewN | apply Kd.R_drew)); exact HO187.out) (Kd.R_base ho0) hb); have n1_ := Aside0.mk (Kd.R_lower (Kd.R_new' ho0 (Kd.R_lt (by (with_reducible repeat (first | apply Kd.R_alloc | apply Kd.R_drewN | apply Kd.R_drew)); exact HO187.out))) (below_size (by repeat (first | (with_reducible first | exact HB.out | apply below_alloc | apply pw_below_drewN | apply below_drew1) | exact HB.out)))); have n2_ := Aside0.mk (below_step (by repeat (first | (with_reducible first | exact HB.out | apply below_alloc | apply pw_below_drewN | apply below_drew1) | exact HB.out)) hb); clear HO187; clear HB; have HO187 := n0_; have HO193 := n1_; have HB := n2_; clear n0_ n1_ n2_; (try clear hb); (try clear hb2); (try clear hk); (try clear hi); (try clear ho0)))
  (try simp only [Act.put, List.setIfInBounds_toArray, List.set_cons_zero, List.set_cons_succ])
  go_cut [41] (fun v41 wc => ∃ (kq : Nat) (x41_6 : Bool), v41 = .bool x41_6 ∧ Aside0 (slackwaterlaw01_NatBack.j0 kq a1 t184 x41_6 = some r) ∧ Aside0 (kq ≤ k) ∧ Aside0 (Below w.heap.size w wc))
  case first =>
    have H := HC7.out
    clear HC7
    by_cases c13 : t189 = 0
    · rw [if_pos c13] at H
      have c13b0 : (t189 == 0) = true := beq_iff_eq.mpr c13
      have c13b1 : (t189 != 0) = false := bne_eq_false_iff_eq.mpr c13
      clear c13
      (first | rw [c13b0] | (simp only [i64_w, i32_w]; rw [c13b0]) | skip)
      by_cases c14 : t191 = 0
      · rw [if_pos c14] at H
        have c14b0 : (t191 == 0) = true := beq_iff_eq.mpr c14
        have c14b1 : (t191 != 0) = false := bne_eq_false_iff_eq.mpr c14
        clear c14
        replace H := Option.bind_eq_some_iff.mp H
        obtain ⟨t194, A150, H⟩ := H
        replace H : (slackwaterlaw01_NatBack.j0 k a1 t184 (!t194)) = some r := H
        have A15 := Aside0.mk A150
        clear A150
        have H' := Aside0.mk H
        clear H
        obtain ⟨Ao16, co16, eo16⟩ := Kd.R_slice HO193.out
        subst eo16
        go_wp2_with (first | (go_at_call 8; (with_reducible refine (slackwaterkit_SameWords.calls k _ _ t185 _ _ t190 t194 _ ?side1 ?side2 ?side3 ?side4 A15.out).mono ?_); (case side1 => repeat (first | exact (Kd.R_reads' HO187.out).2.2 | (with_reducible refine Kd.C_alloc ?_ _) | (with_reducible refine Kd.C_drewN ?_ _) | (with_reducible refine Kd.C_drew ?_))); (case side2 => exact (Kd.R_reads' HO187.out).2.1); (case side3 => repeat (first | exact (Kd.R_reads' HO193.out).2.2 | (with_reducible refine Kd.C_alloc ?_ _) | (with_reducible refine Kd.C_drewN ?_ _) | (with_reducible refine Kd.C_drew ?_))); (case side4 => exact (Kd.R_reads' HO193.out).2.1); rintro e w' ⟨rfl, ⟨nd, rfl⟩⟩))
        go_meet
        case rel => exact ⟨_, (!t194), (by first | rfl | (simp; done) | (simp [*]; done)), H', ⟨by first | omega | exact Nat.le_refl _⟩, ⟨by repeat (first | (with_reducible first | exact HB.out | apply below_alloc | apply pw_below_drewN | apply below_drew1) | exact HB.out)⟩⟩
      · rw [if_neg c14] at H
        exact absurd H (by simp)
    · rw [if_neg c13] at H
      exact absurd H (by simp)
  case rest =>
    clear HC7
    try clear c1
    try clear p2
    try clear c6
    try clear c7
    try clear c13
    try clear c13b0
    try clear c13b1
    try clear c14
    try clear c14b0
    try clear c14b1
    obtain ⟨kq, x41_6, rfl, HA, HJ6, HB⟩ := hcut
    cases kq with
    | zero => exact absurd HA.out (by simp [slackwaterlaw01_NatBack.j0])
    | succ kj6 =>
      have H := HA.out
      clear HA
      simp only [slackwaterlaw01_NatBack.j0] at H
      by_cases c17 : x41_6 = true
      · subst c17
        have H1 : (none) = some r := by rw [if_pos rfl] at H; exact H
        clear H
        have H := H1
        clear H1
        exact absurd H (by simp)
      · replace c17 := Bool.eq_false_iff.mpr c17
        subst c17
        have H1 : (if (a1.size : Int) > 500 then (if 0 ≤ 500 then (if 500 ≤ (a1.size : Int) then (slackwaterlaw01_NatBack.j1 kj6 (a1.extract 0 500) t184) else (none)) else (none)) else (slackwaterlaw01_NatBack.j1 kj6 a1 t184)) = some r := by rw [if_neg (show ¬ (false = true) by decide)] at H; exact H
        clear H
        have H := H1
        clear H1
        have HC18 := Aside0.mk H
        clear H
        go_upto_if 44 with (fail)
        go_cut [1] (fun v1 wc => ∃ (kq : Nat) (x1_17 : ByteArray), v1 = .string x1_17 ∧ Aside0 (slackwaterlaw01_NatBack.j1 kq x1_17 t184 = some r) ∧ Aside0 (kq ≤ kj6) ∧ Aside0 (Below w.heap.size w wc))
        case first =>
          have H := HC18.out
          clear HC18
          by_cases c19 : (a1.size : Int) > 500
          · rw [if_pos c19] at H
            have c19b0 : decide (500 < (a1.size : Int)) = true := decide_eq_true c19
            have c19b1 : decide (500 < a1.size) = true := decide_eq_true (by omega)
            clear c19
            (first | rw [c19b0] | (simp only [i64_w, i32_w]; rw [c19b0]) | skip)
            by_cases c20 : 0 ≤ 500
            · rw [if_pos c20] at H
              have c20b0 := eq_true c20
              have c20b1 : decide (0 ≤ 500) = true := decide_eq_true c20
              clear c20
              by_cases c21 : 500 ≤ (a1.size : Int)
              · rw [if_pos c21] at H
                have c21b0 := eq_true c21
                have c21b1 : decide (500 ≤ (a1.size : Int)) = true := decide_eq_true c21
                clear c21
                have H' := Aside0.mk H
                clear H
                go_wp2
                go_meet
                case rel => exact ⟨_, (a1.extract 0 500), (by first | rfl | (simp; done) | (simp [*]; done)), H', ⟨by have := HJ6.out; first | omega | exact Nat.le_refl _⟩, ⟨by repeat (first | (with_reducible first | exact HB.out | apply below_alloc | apply pw_below_drewN | apply below_drew1) | exact HB.out)⟩⟩
              · rw [if_neg c21] at H
                exact absurd H (by simp)
            · rw [if_neg c20] at H
              exact absurd H (by simp)
          · rw [if_neg c19] at H
            have c19b0 : decide (500 < (a1.size : Int)) = false := decide_eq_false c19
            have c19b1 : decide (500 < a1.size) = false := decide_eq_false (by omega)
            clear c19
            (first | rw [c19b0] | (simp only [i64_w, i32_w]; rw [c19b0]) | skip)
            have H' := Aside0.mk H
            clear H
            go_wp2
            go_meet
            case rel => exact ⟨_, (a1), (by first | rfl | (simp; done) | (simp [*]; done)), H', ⟨by have := HJ6.out; first | omega | exact Nat.le_refl _⟩, ⟨by repeat (first | (with_reducible first | exact HB.out | apply below_alloc | apply pw_below_drewN | apply below_drew1) | exact HB.out)⟩⟩
        case rest =>
          clear HC18
          try clear c1
          try clear c2
          try clear p2
          try clear c6
          try clear c7
          try clear c13
          try clear c13b0
          try clear c13b1
          try clear c14
          try clear c14b0
          try clear c14b1
          try clear c17
          try clear c18
          try clear c19
          try clear c19b0
          try clear c19b1
          try clear c20
          try clear c20b0
          try clear c20b1
          try clear c21
          try clear c21b0
          try clear c21b1
          try clear p2
          obtain ⟨kq, x1_17, rfl, HA, HJ17, HB⟩ := hcut
          cases kq with
          | zero => exact absurd HA.out (by simp [slackwaterlaw01_NatBack.j1])
          | succ kj17 =>
            have H := HA.out
            clear HA
            simp only [slackwaterlaw01_NatBack.j1] at H
            have HC22 := Aside0.mk H
            clear H
            go_upto_region 9 with (fail)
            go_cut [11] (fun v11 wc => ∃ (kq : Nat) (x11_21 : Bool), v11 = .bool x11_21 ∧ Aside0 (slackwaterlaw01_NatBack.j2 kq x1_17 t184 x11_21 = some r) ∧ Aside0 (kq ≤ kj17) ∧ Aside0 (Below w.heap.size w wc))
            case first =>
              have H := HC22.out
              clear HC22
              by_cases c23 : (x1_17.size : Int) > 0
              · rw [if_pos c23] at H
                have c23b0 : decide (0 < (x1_17.size : Int)) = true := decide_eq_true c23
                have c23b1 : decide (0 < x1_17.size) = true := decide_eq_true (by omega)
                clear c23
                (first | rw [c23b0] | (simp only [i64_w, i32_w]; rw [c23b0]) | skip)
                by_cases c24 : 0 < (x1_17.size : Int)
                · rw [if_pos c24] at H
                  have c24b0 : decide (0 < (x1_17.size : Int)) = true := decide_eq_true c24
                  have c24b1 : decide (0 < x1_17.size) = true := decide_eq_true (by omega)
                  clear c24
                  by_cases c26 : (bt x1_17 0) = 48
                  · rw [if_pos c26] at H
                    have c26b0 : ((bt x1_17 0) == 48) = true := beq_iff_eq.mpr c26
                    have c26b1 : ((bt x1_17 0) != 48) = false := bne_eq_false_iff_eq.mpr c26
                    clear c26
                    have H' := Aside0.mk H
                    clear H
                    have p25 : 0 ≤ (0 : Int) := (by omega)
                    have q25 : 0 < x1_17.size := (by have : (0 : Int) < (x1_17.size : Int) := of_decide_eq_true (by first | (with_reducible assumption) | assumption); omega)
                    have hx25 : ∀ h : 0 < x1_17.size, ((x1_17[0]'h).toNat : Int) = bt x1_17 0 := bt_at x1_17 0
                    clear p25
                    have qi25 : (0 < (x1_17.size : Int)) = True := eq_true (of_decide_eq_true (by first | (with_reducible assumption) | assumption))
                    replace q25 := eq_true q25
                    go_wp2
                    go_meet
                    case rel => exact ⟨_, (((x1_17.size : Int) == 1)), (by first | rfl | (simp; done) | (simp [*]; done)), H', ⟨by have := HJ6.out; have := HJ17.out; first | omega | exact Nat.le_refl _⟩, ⟨by repeat (first | (with_reducible first | exact HB.out | apply below_alloc | apply pw_below_drewN | apply below_drew1) | exact HB.out)⟩⟩
                  · rw [if_neg c26] at H
                    have c26b0 : ((bt x1_17 0) == 48) = false := beq_eq_false_iff_ne.mpr c26
                    have c26b1 : ((bt x1_17 0) != 48) = true := bne_iff_ne.mpr c26
                    have H' := Aside0.mk H
                    clear H
                    have p25 : 0 ≤ (0 : Int) := (by omega)
                    have q25 : 0 < x1_17.size := (by have : (0 : Int) < (x1_17.size : Int) := of_decide_eq_true (by first | (with_reducible assumption) | assumption); omega)
                    have hx25 : ∀ h : 0 < x1_17.size, ((x1_17[0]'h).toNat : Int) = bt x1_17 0 := bt_at x1_17 0
                    clear p25
                    have qi25 : (0 < (x1_17.size : Int)) = True := eq_true (of_decide_eq_true (by first | (with_reducible assumption) | assumption))
                    replace q25 := eq_true q25
                    go_wp2
                    go_meet
                    case rel => exact ⟨_, (true), (by first | rfl | (simp; done) | (simp [*]; done)), H', ⟨by have := HJ6.out; have := HJ17.out; first | omega | exact Nat.le_refl _⟩, ⟨by repeat (first | (with_reducible first | exact HB.out | apply below_alloc | apply pw_below_drewN | apply below_drew1) | exact HB.out)⟩⟩
                · rw [if_neg c24] at H
                  exact absurd H (by simp)
              · rw [if_neg c23] at H
                have c23b0 : decide (0 < (x1_17.size : Int)) = false := decide_eq_false c23
                have c23b1 : decide (0 < x1_17.size) = false := decide_eq_false (by omega)
                clear c23
                (first | rw [c23b0] | (simp only [i64_w, i32_w]; rw [c23b0]) | skip)
                have H' := Aside0.mk H
                clear H
                go_wp2
                go_meet
                case rel => exact ⟨_, (false), (by first | rfl | (simp; done) | (simp [*]; done)), H', ⟨by have := HJ6.out; have := HJ17.out; first | omega | exact Nat.le_refl _⟩, ⟨by repeat (first | (with_reducible first | exact HB.out | apply below_alloc | apply pw_below_drewN | apply below_drew1) | exact HB.out)⟩⟩
            case rest =>
              clear HC22
              try clear c1
              try clear c2
              try clear p2
              try clear q2
              try clear hx2
              try clear qi2
              try clear c6
              try clear c7
              try clear c13
              try clear c13b0
              try clear c13b1
              try clear c14
              try clear c14b0
              try clear c14b1
              try clear c17
              try clear c18
              try clear c19
              try clear c19b0
              try clear c19b1
              try clear c20
              try clear c20b0
              try clear c20b1
              try clear c21
              try clear c21b0
              try clear c21b1
              try clear c23
              try clear c23b0
              try clear c23b1
              try clear c24
              try clear c24b0
              try clear c24b1
              try clear p25
              try clear q25
              try clear hx25
              try clear qi25
              try clear c26
              try clear c26b0
              try clear c26b1
              try clear p2
              try clear p25
              try clear q25
              obtain ⟨kq, x11_21, rfl, HA, HJ21, HB⟩ := hcut
              cases kq with
              | zero => exact absurd HA.out (by simp [slackwaterlaw01_NatBack.j2])
              | succ kj21 =>
                have H := HA.out
                clear HA
                simp only [slackwaterlaw01_NatBack.j2] at H
                have H' := Aside0.mk H
                clear H
                go_wp2
                go_loopg [11, 12] kj21 (fun kq v11 v12 w' => ∃ (x11_4 : Bool) (x12_4 : Int), v11 = .bool x11_4 ∧ v12 = .int .i64 x12_4 ∧ Aside0 (slackwaterlaw01_NatBack.l0 kq x1_17 t184 x11_4 x12_4 = some r) ∧ Aside0 (kq ≤ kj21) ∧ Aside0 (Below w.heap.size w w'))
                case atStart => exact ⟨(x11_21), (0), (by first | rfl | (simp; done) | (simp [*]; done)), (by first | rfl | (simp; done) | (simp [*]; done)), H', ⟨Nat.le_refl _⟩, ⟨by repeat (first | (with_reducible first | exact HB.out | apply below_alloc | apply pw_below_drewN | apply below_drew1) | exact HB.out)⟩⟩
                case round =>
                  clear H'
                  try clear c1
                  try clear c2
                  try clear p2
                  try clear q2
                  try clear hx2
                  try clear qi2
                  try clear c6
                  try clear c7
                  try clear c13
                  try clear c13b0
                  try clear c13b1
                  try clear c14
                  try clear c14b0
                  try clear c14b1
                  try clear c17
                  try clear c18
                  try clear c19
                  try clear c19b0
                  try clear c19b1
                  try clear c20
                  try clear c20b0
                  try clear c20b1
                  try clear c21
                  try clear c21b0
                  try clear c21b1
                  try clear c23
                  try clear c23b0
                  try clear c23b1
                  try clear c24
                  try clear c24b0
                  try clear c24b1
                  try clear p25
                  try clear q25
                  try clear hx25
                  try clear qi25
                  try clear c26
                  try clear c26b0
                  try clear c26b1
                  try clear p2
                  try clear p25
                  try clear q2
                  try clear q25
                  obtain ⟨x11_4, x12_4, rfl, rfl, HA, HK4, HB⟩ := hrel
                  cases gk with
                  | zero => exact absurd HA.out (by simp [slackwaterlaw01_NatBack.l0])
                  | succ k4 =>
                    have H := HA.out
                    clear HA
                    simp only [slackwaterlaw01_NatBack.l0] at H
                    by_cases c27 : x12_4 < (x1_17.size : Int)
                    · rw [if_pos c27] at H
                      have c27b0 : decide (x12_4 < (x1_17.size : Int)) = true := decide_eq_true c27
                      clear c27
                      by_cases c28 : x11_4 = true
                      · subst c28
                        have H1 : (if 0 ≤ x12_4 then (if (bt x1_17 x12_4) ≥ 48 then (slackwaterlaw01_NatBack.l0 k4 x1_17 t184 (decide ((bt x1_17 x12_4) ≤ 57)) (wrap64 (x12_4 + 1))) else (slackwaterlaw01_NatBack.l0 k4 x1_17 t184 false (wrap64 (x12_4 + 1)))) else (none)) = some r := by rw [if_pos rfl] at H; exact H
                        clear H
                        have H := H1
                        clear H1
                        by_cases c29 : 0 ≤ x12_4
                        · rw [if_pos c29] at H
                          have c29b0 : decide (0 ≤ x12_4) = true := decide_eq_true c29
                          clear c29
                          by_cases c31 : (bt x1_17 x12_4) ≥ 48
                          · rw [if_pos c31] at H
                            have c31b0 : decide (48 ≤ (bt x1_17 x12_4)) = true := decide_eq_true c31
                            clear c31
                            have H' := Aside0.mk H
                            clear H
                            have p30 : 0 ≤ (x12_4 : Int) := of_decide_eq_true (by first | (with_reducible assumption) | assumption)
                            have q30 : x12_4 < (x1_17.size : Int) := of_decide_eq_true (by first | (with_reducible assumption) | assumption)
                            have hx30 := bt_at x1_17 x12_4
                            replace p30 := eq_true p30
                            replace q30 := eq_true q30
                            have p32 : 0 ≤ (x12_4 : Int) := of_decide_eq_true (by first | (with_reducible assumption) | assumption)
                            have q32 : x12_4 < (x1_17.size : Int) := of_decide_eq_true (by first | (with_reducible assumption) | assumption)
                            have hx32 := bt_at x1_17 x12_4
                            replace p32 := eq_true p32
                            replace q32 := eq_true q32
                            go_wp2
                            go_roundg k4
                            case measure => have := HJ6.out; have := HJ17.out; have := HJ21.out; have := HK4.out; omega
                            case rel => exact ⟨(decide ((bt x1_17 x12_4) ≤ 57)), (wrap64 (x12_4 + 1)), (by first | rfl | (simp; done) | (simp [*]; done)), (by first | rfl | (simp; done) | (simp [*]; done)), H', ⟨by have := HJ6.out; have := HJ17.out; have := HJ21.out; have := HK4.out; omega⟩, ⟨by repeat (first | (with_reducible first | exact HB.out | apply below_alloc | apply pw_below_drewN | apply below_drew1) | exact HB.out)⟩⟩
                          · rw [if_neg c31] at H
                            have c31b0 : decide (48 ≤ (bt x1_17 x12_4)) = false := decide_eq_false c31
                            clear c31
                            have H' := Aside0.mk H
                            clear H
                            have p30 : 0 ≤ (x12_4 : Int) := of_decide_eq_true (by first | (with_reducible assumption) | assumption)
                            have q30 : x12_4 < (x1_17.size : Int) := of_decide_eq_true (by first | (with_reducible assumption) | assumption)
                            have hx30 := bt_at x1_17 x12_4
                            replace p30 := eq_true p30
                            replace q30 := eq_true q30
                            go_wp2
                            go_roundg k4
                            case measure => have := HJ6.out; have := HJ17.out; have := HJ21.out; have := HK4.out; omega
                            case rel => exact ⟨(false), (wrap64 (x12_4 + 1)), (by first | rfl | (simp; done) | (simp [*]; done)), (by first | rfl | (simp; done) | (simp [*]; done)), H', ⟨by have := HJ6.out; have := HJ17.out; have := HJ21.out; have := HK4.out; omega⟩, ⟨by repeat (first | (with_reducible first | exact HB.out | apply below_alloc | apply pw_below_drewN | apply below_drew1) | exact HB.out)⟩⟩
                        · rw [if_neg c29] at H
                          exact absurd H (by simp)
                      · replace c28 := Bool.eq_false_iff.mpr c28
                        subst c28
                        have H1 : (slackwaterlaw01_NatBack.l0 k4 x1_17 t184 false (wrap64 (x12_4 + 1))) = some r := by rw [if_neg (show ¬ (false = true) by decide)] at H; exact H
                        clear H
                        have H := H1
                        clear H1
                        have H' := Aside0.mk H
                        clear H
                        go_wp2
                        go_roundg k4
                        case measure => have := HJ6.out; have := HJ17.out; have := HJ21.out; have := HK4.out; omega
                        case rel => exact ⟨(false), (wrap64 (x12_4 + 1)), (by first | rfl | (simp; done) | (simp [*]; done)), (by first | rfl | (simp; done) | (simp [*]; done)), H', ⟨by have := HJ6.out; have := HJ17.out; have := HJ21.out; have := HK4.out; omega⟩, ⟨by repeat (first | (with_reducible first | exact HB.out | apply below_alloc | apply pw_below_drewN | apply below_drew1) | exact HB.out)⟩⟩
                    · rw [if_neg c27] at H
                      have c27b0 : decide (x12_4 < (x1_17.size : Int)) = false := decide_eq_false c27
                      clear c27
                      replace H := Option.bind_eq_some_iff.mp H
                      obtain ⟨⟨t195, t196⟩, A330, H⟩ := H
                      replace H : (if ((t196 == 0) != x11_4) = true then (none) else (if t196 = 0 then ((nat_Print.f k4 t195).bind fun bt199 => (if t184 = true then (if bt199.2 = 0 then (some (bt199.1.toList == x1_17.toList)) else (none)) else (none))) else (if t184 = true then (if t196 = 110 then (some ((t195.length : Int) == 0)) else (none)) else (none)))) = some r := H
                      have A33 := Aside0.mk A330
                      clear A330
                      by_cases c34 : ((t196 == 0) != x11_4) = true
                      · rw [if_pos c34] at H
                        exact absurd H (by simp)
                      · rw [if_neg c34] at H
                        have c34b0 : ((t196 == 0) != x11_4) = false := by simpa using c34
                        (try (have c34b1 : decide ((t196 == 0) = x11_4) = true := by simpa using c34))
                        (try (have c34b2 : ((t196 == 0) == x11_4) = true := by simpa using c34))
                        clear c34
                        by_cases c35 : t196 = 0
                        · rw [if_pos c35] at H
                          have c35b0 : (t196 == 0) = true := beq_iff_eq.mpr c35
                          have c35b1 : (t196 != 0) = false := bne_eq_false_iff_eq.mpr c35
                          have X_ : x11_4 = true := by have h_ := c34b0; rw [c35b0] at h_; revert h_; cases x11_4 <;> simp
                          subst X_
                          clear c35
                          replace H := Option.bind_eq_some_iff.mp H
                          obtain ⟨⟨t199, t200⟩, A360, H⟩ := H
                          replace H : (if t184 = true then (if t200 = 0 then (some (t199.toList == x1_17.toList)) else (none)) else (none)) = some r := H
                          have A36 := Aside0.mk A360
                          clear A360
                          by_cases c37 : t184 = true
                          · subst c37
                            have H1 : (if t200 = 0 then (some (t199.toList == x1_17.toList)) else (none)) = some r := by rw [if_pos rfl] at H; exact H
                            clear H
                            have H := H1
                            clear H1
                            by_cases c38 : t200 = 0
                            · rw [if_pos c38] at H
                              have c38b0 : (t200 == 0) = true := beq_iff_eq.mpr c38
                              have c38b1 : (t200 != 0) = false := bne_eq_false_iff_eq.mpr c38
                              clear c38
                              obtain rfl := Option.some.inj H
                              go_wp2_with (first | ((with_reducible refine gate_callee (f := 19) rfl ?_); refine goesL_ (some 81) rfl rfl Tryd.func19 (by kernel_rfl) rfl #[.string x1_17] rfl (by (try simp only [List.map_toArray, List.map_cons, List.map_nil]); first | done | rfl | (simp only [List.length_drop, List.length_take]; rfl)) ?_; (with_reducible refine (nat_Parse.calls x1_17 t195 t196 _ A33.out).mono ?_); rintro e w39 ⟨v197, rfl, ho0, hb⟩; refine ⟨_, rfl, ?_⟩; have n0_ := Aside0.mk (Kd.R_lower ho0 (below_size (by repeat (first | (with_reducible first | exact HB.out | apply below_alloc | apply pw_below_drewN | apply below_drew1) | exact HB.out)))); have n1_ := Aside0.mk (below_step (by repeat (first | (with_reducible first | exact HB.out | apply below_alloc | apply pw_below_drewN | apply below_drew1) | exact HB.out)) hb); clear HB; have HO198 := n0_; have HB := n1_; clear n0_ n1_; (try clear hb); (try clear hb2); (try clear hk); (try clear hi); (try clear ho0); obtain ⟨Ao40, co40, eo40⟩ := Kd.R_slice HO198.out; subst eo40) | ((with_reducible refine gate_callee (f := 18) rfl ?_); refine goesL_ (some 102) rfl rfl Tryd.func18 (by kernel_rfl) rfl #[.slice Ao40 t195.length co40] rfl (by (try simp only [List.map_toArray, List.map_cons, List.map_nil]); first | done | rfl | (simp only [List.length_drop, List.length_take]; rfl)) ?_; (with_reducible refine (nat_Print.calls k4 _ _ t195 t199 t200 _ (hL.below (by repeat (first | (with_reducible first | exact HB.out | apply below_alloc | apply pw_below_drewN | apply below_drew1) | exact HB.out))) ?side1 ?side2 A36.out).mono ?_); (case side1 => repeat (first | exact (Kd.R_reads' HO198.out).2.2 | (with_reducible refine Kd.C_alloc ?_ _) | (with_reducible refine Kd.C_drewN ?_ _) | (with_reducible refine Kd.C_drew ?_))); (case side2 => exact (Kd.R_reads' HO198.out).2.1); rintro e w41 ⟨rfl, hb⟩; refine ⟨_, rfl, ?_⟩; have n0_ := Aside0.mk (Kd.R_below (by (with_reducible repeat (first | apply Kd.R_alloc | apply Kd.R_drewN | apply Kd.R_drew)); exact HO198.out) hb); have n1_ := Aside0.mk (below_step (by repeat (first | (with_reducible first | exact HB.out | apply below_alloc | apply pw_below_drewN | apply below_drew1) | exact HB.out)) hb); clear HO198; clear HB; have HO198 := n0_; have HB := n1_; clear n0_ n1_; (try clear hb); (try clear hb2); (try clear hk); (try clear hi)))
                              go_ret
                              exact ⟨by first | rfl | (simp [errW_none, errW_some] <;> rfl) | (simp [*, errW_none, errW_some] <;> rfl), by repeat (first | (with_reducible first | exact HB.out | apply below_alloc | apply pw_below_drewN | apply below_drew1) | exact HB.out)⟩
                            · rw [if_neg c38] at H
                              exact absurd H (by simp)
                          · replace c37 := Bool.eq_false_iff.mpr c37
                            subst c37
                            have H1 : (none) = some r := by rw [if_neg (show ¬ (false = true) by decide)] at H; exact H
                            clear H
                            have H := H1
                            clear H1
                            exact absurd H (by simp)
                        · rw [if_neg c35] at H
                          have c35b0 : (t196 == 0) = false := beq_eq_false_iff_ne.mpr c35
                          have c35b1 : (t196 != 0) = true := bne_iff_ne.mpr c35
                          have X_ : x11_4 = false := by have h_ := c34b0; rw [c35b0] at h_; revert h_; cases x11_4 <;> simp
                          subst X_
                          by_cases c42 : t184 = true
                          · subst c42
                            have H1 : (if t196 = 110 then (some ((t195.length : Int) == 0)) else (none)) = some r := by rw [if_pos rfl] at H; exact H
                            clear H
                            have H := H1
                            clear H1
                            by_cases c43 : t196 = 110
                            · rw [if_pos c43] at H
                              have c43b0 : (t196 == 110) = true := beq_iff_eq.mpr c43
                              have c43b1 : (t196 != 110) = false := bne_eq_false_iff_eq.mpr c43
                              clear c43
                              obtain rfl := Option.some.inj H
                              go_wp2_with (first | ((with_reducible refine gate_callee (f := 19) rfl ?_); refine goesL_ (some 81) rfl rfl Tryd.func19 (by kernel_rfl) rfl #[.string x1_17] rfl (by (try simp only [List.map_toArray, List.map_cons, List.map_nil]); first | done | rfl | (simp only [List.length_drop, List.length_take]; rfl)) ?_; (with_reducible refine (nat_Parse.calls x1_17 t195 t196 _ A33.out).mono ?_); rintro e w44 ⟨v197, rfl, ho0, hb⟩; refine ⟨_, rfl, ?_⟩; have n0_ := Aside0.mk (Kd.R_lower ho0 (below_size (by repeat (first | (with_reducible first | exact HB.out | apply below_alloc | apply pw_below_drewN | apply below_drew1) | exact HB.out)))); have n1_ := Aside0.mk (below_step (by repeat (first | (with_reducible first | exact HB.out | apply below_alloc | apply pw_below_drewN | apply below_drew1) | exact HB.out)) hb); clear HB; have HO198 := n0_; have HB := n1_; clear n0_ n1_; (try clear hb); (try clear hb2); (try clear hk); (try clear hi); (try clear ho0); obtain ⟨Ao45, co45, eo45⟩ := Kd.R_slice HO198.out; subst eo45))
                              go_ret
                              exact ⟨by first | rfl | (simp [errW_none, errW_some] <;> rfl) | (simp [*, errW_none, errW_some] <;> rfl), by repeat (first | (with_reducible first | exact HB.out | apply below_alloc | apply pw_below_drewN | apply below_drew1) | exact HB.out)⟩
                            · rw [if_neg c43] at H
                              exact absurd H (by simp)
                          · replace c42 := Bool.eq_false_iff.mpr c42
                            subst c42
                            have H1 : (none) = some r := by rw [if_neg (show ¬ (false = true) by decide)] at H; exact H
                            clear H
                            have H := H1
                            clear H1
                            exact absurd H (by simp)

/-- THE ONE PURE STATEMENT of slackwaterlaw01_NatBack: yours. -/
def slackwaterlaw01_NatBack.Pure : Prop := ∀ (l0 : List Int) (a1 : ByteArray), l0.length ≤ maxLen → l0.length * 4 ≤ 140737488351232 → (∀ x ∈ l0, (Lit.int .u32 x).wf = true) → a1.size ≤ 140737488351232 → ∃ k, slackwaterlaw01_NatBack.f k l0 a1 = some true
theorem slackwaterlaw01_NatBack.walk (P : slackwaterlaw01_NatBack.Pure) (a0 : Option Addr) (len0 cap0 : Nat) (z0 : List Int) (a1 : ByteArray) (w : World) (hL : LW w) (w0 : (a0 = none ∧ len0 = 0 ∧ cap0 = 0 ∧ z0 = []) ∨ ∃ x, a0 = some x ∧ len0 ≤ cap0 ∧ cap0 ≤ maxLen ∧ z0.length = cap0 ∧ (∀ i, i < z0.length → w.cell? (x.add i) = some (.int .u32 (z0.getD i 0))) ∧ ∀ n ∈ z0, (Lit.int .u32 n).wf = true) (y0 : len0 * 4 ≤ 140737488351232) (w1 : a1.size ≤ 140737488351232) :
    Calls Tryd.prog 6 #[.slice a0 len0 cap0, .string a1] w fun e w' => e = .returned (.bool true) ∧ Below w.heap.size w w' := by
  obtain ⟨l0, rfl, hr0, hm0, hw0, hc0⟩ := ReadsInt.ofRowC w0
  obtain ⟨k, h⟩ := P l0 a1 hm0 y0 hw0 w1
  refine (slackwaterlaw01_NatBack.calls k _ _ l0 a1 true w hL (Kd.C_of_reads (d := (0 : Int)) (h1 := fun _ => rfl) hr0) hc0 h).mono ?_
  rintro e w' ⟨rfl, hd⟩
  exact ⟨rfl, hd⟩

end Go.Proofs.YtgnmmifeojfjlaaDoor.PK1
