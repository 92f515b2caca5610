/- Written by wip/xprint.py (the kit's print over given functions). -/
import Derived.Test.YtipkjbfbcdadkaaDoorPK9x0
import Derived.Test.YtipkjbfbcdadkaaDoorPK9x1
import Derived.Test.YtipkjbfbcdadkaaDoorPK9x2
import Derived.Test.YtipkjbfbcdadkaaDoorPK9x3
import Derived.Test.YtipkjbfbcdadkaaDoorPK9x4
import Derived.Test.YtipkjbfbcdadkaaDoorPK9x5
namespace Go.Proofs.YtipkjbfbcdadkaaDoor.PK9
open Go.RowKit Go.Proofs.YtipkjbfbcdadkaaDoorW.PrintWords Go.Proofs.YtipkjbfbcdadkaaDoorW.PrintLast Go.Proofs.YtipkjbfbcdadkaaDoorW.PrintMore
attribute [local go_sem] max2_int min2_int max_two min_two max_three min_three max_four min_four   -- for this text's walks alone
set_option linter.unusedVariables false
set_option linter.unusedSimpArgs false

/-! ### slackwaterlaw09_ClockNames: function 6 -/
mutual
def slackwaterlaw09_ClockNames.j0 : Nat → Bool → Option (Bool)
  | 0, _ => none
  | k + 1, x73 => if x73 = true then (none) else (slackwaterlaw09_ClockNames.l0 k (([(⟨2000, 2, 30, 0⟩ : S23), (⟨2001, 2, 29, 0⟩ : S23), (⟨1999, 12, 31, 23⟩ : S23), (⟨2100, 2, 29, 0⟩ : S23), (⟨2000, 13, 1, 0⟩ : S23), (⟨2000, 1, 0, 0⟩ : S23), (⟨2119, 8, 15, 17⟩ : S23), (⟨2000, 1, 1, (-1)⟩ : S23)] : List (S23))) 0)
def slackwaterlaw09_ClockNames.l0 : Nat → List (S23) → Int → Option (Bool)
  | 0, _, _ => none
  | k + 1, x11, x12 => if x12 < (x11.length : Int) then (if 0 ≤ x12 then ((clock_From.f k ((rd_T23 x11 x12).f0) ((rd_T23 x11 x12).f1) ((rd_T23 x11 x12).f2) ((rd_T23 x11 x12).f3)).bind fun bt201 => (if bt201.2 = 2 then (slackwaterlaw09_ClockNames.l0 k x11 (wrap64 (x12 + 1))) else (none))) else (none)) else (slackwaterlaw09_ClockNames.l1 k (([(⟨#[50, 48, 48, 48, 45, 48, 49, 45, 49, 32, 48]⟩ : ByteArray), (⟨#[50, 48, 48, 48, 45, 49, 45, 49]⟩ : ByteArray), (⟨#[50, 48, 48, 48, 45, 49, 45, 49, 32, 50, 52]⟩ : ByteArray), (⟨#[]⟩ : ByteArray), (⟨#[50, 48, 48, 48, 45, 49, 45, 49, 32, 48, 32]⟩ : ByteArray), (⟨#[48, 50, 48, 48, 48, 45, 49, 45, 49, 32, 48]⟩ : ByteArray), (⟨#[50, 48, 48, 48, 45, 49, 45, 49, 32, 32, 48]⟩ : ByteArray), (⟨#[50, 49, 49, 57, 45, 56, 45, 49, 53, 32, 49, 55]⟩ : ByteArray), (⟨#[45, 50, 48, 48, 48, 45, 49, 45, 49, 32, 48]⟩ : ByteArray)] : List ByteArray)) 0)
def slackwaterlaw09_ClockNames.l1 : Nat → List ByteArray → Int → Option (Bool)
  | 0, _, _ => none
  | k + 1, x15, x16 => if x16 < (x15.length : Int) then (if 0 ≤ x16 then ((clock_Parse.f k (rdOf ByteArray.empty x15 x16)).bind fun bt207 => (if bt207.2 = 190 then (slackwaterlaw09_ClockNames.l1 k x15 (wrap64 (x16 + 1))) else (none))) else (none)) else ((clock_Week.f 48).bind fun bt209 => ((clock_Span.f k 0 4096).bind fun t211 => (if t211 = 0 then ((clock_Span.f k 0 4097).bind fun t212 => (if t212 = 3 then ((clock_Span.f k 3 2).bind fun t213 => (if t213 = 2 then ((clock_Span.f k 1048577 1048577).bind fun t214 => (if t214 = 0 then ((clock_Span.f k (-1) 0).bind fun t215 => ((slackwaterlaw09_awake.f k).bind fun t216 => (if t216 = true then (if t215 = 2 then (if bt209.1 = 0 then ((clock_Days.f k 1 49).bind fun t217 => ((slackwaterkit_SameInts.f k t217 (([1] : List Int))).bind fun t223 => (some t223))) else (none)) else (none)) else (none)))) else ((slackwaterlaw09_awake.f k).bind fun t224 => (if t224 = true then (none) else (none))))) else ((slackwaterlaw09_awake.f k).bind fun t225 => (if t225 = true then (none) else (none))))) else ((slackwaterlaw09_awake.f k).bind fun t226 => (if t226 = true then (none) else (none))))) else ((slackwaterlaw09_awake.f k).bind fun t227 => (if t227 = true then (none) else (none))))))
end
def slackwaterlaw09_ClockNames.f (k : Nat)  : Option (Bool) := (clock_At.f 0 24).bind fun bt177 => ((clock_At.f 43690 16).bind fun bt179 => ((clock_At.f 43690 17).bind fun bt181 => ((clock_Date.f 1439).bind fun bt183 => ((clock_Date.f 1048576).bind fun bt189 => (if bt177.2 = 2 then (if bt179.1 = 1048576 then (if bt179.2 = 0 then (if bt181.2 = 2 then ((slackwaterlaw09_is.f bt183.1 bt183.2.1 bt183.2.2.1 bt183.2.2.2.1 2000 2 29 23).bind fun t195 => (if t195 = true then (if bt183.2.2.2.2 = 0 then ((slackwaterlaw09_is.f bt189.1 bt189.2.1 bt189.2.2.1 bt189.2.2.2.1 2119 8 15 16).bind fun t196 => (if t196 = true then (slackwaterlaw09_ClockNames.j0 k (bt189.2.2.2.2 != 0)) else (none))) else (none)) else (none))) else (none)) else (none)) else (none)) else (none))))))
theorem slackwaterlaw09_ClockNames.mono_l : ∀ k, (∀ y0, LeO (slackwaterlaw09_ClockNames.j0 k y0) (slackwaterlaw09_ClockNames.j0 (k + 1) y0)) ∧ (∀ y0 y1, LeO (slackwaterlaw09_ClockNames.l0 k y0 y1) (slackwaterlaw09_ClockNames.l0 (k + 1) y0 y1)) ∧ (∀ y0 y1, LeO (slackwaterlaw09_ClockNames.l1 k y0 y1) (slackwaterlaw09_ClockNames.l1 (k + 1) y0 y1))
  | 0 => ⟨fun _ r h => by simp [slackwaterlaw09_ClockNames.j0] at h, fun _ _ r h => by simp [slackwaterlaw09_ClockNames.l0] at h, fun _ _ r h => by simp [slackwaterlaw09_ClockNames.l1] at h⟩
  | k + 1 => by
    obtain ⟨ih0, ih1, ih2⟩ := slackwaterlaw09_ClockNames.mono_l k
    refine ⟨?_, ?_, ?_⟩
    · intro y0
      unfold slackwaterlaw09_ClockNames.j0
      repeat' first
      | (with_reducible exact ih0 _)
      | (with_reducible exact ih1 _ _)
      | (with_reducible exact ih2 _ _)
      | (with_reducible exact clock_Days.mono _ _ _)
      | (with_reducible exact clock_From.mono _ _ _ _ _)
      | (with_reducible exact clock_Parse.mono _ _)
      | (with_reducible exact clock_Span.mono _ _ _)
      | (with_reducible exact slackwaterkit_SameInts.mono _ _ _)
      | (with_reducible exact slackwaterlaw09_awake.mono _)
      | (with_reducible exact LeO.refl _)
      | (with_reducible exact LeO.none _)
      | (with_reducible refine LeO.ite ?_ ?_)
      | (with_reducible refine LeO.bind ?_ (fun _ => ?_))
      | exact ih0 _
      | exact ih1 _ _
      | exact ih2 _ _
      | exact clock_Days.mono _ _ _
      | exact clock_From.mono _ _ _ _ _
      | exact clock_Parse.mono _ _
      | exact clock_Span.mono _ _ _
      | exact slackwaterkit_SameInts.mono _ _ _
      | exact slackwaterlaw09_awake.mono _
      | exact LeO.none _
      | refine LeO.ite ?_ ?_
      | refine LeO.bind ?_ (fun _ => ?_)
    · intro y0 y1
      unfold slackwaterlaw09_ClockNames.l0
      repeat' first
      | (with_reducible exact ih0 _)
      | (with_reducible exact ih1 _ _)
      | (with_reducible exact ih2 _ _)
      | (with_reducible exact clock_Days.mono _ _ _)
      | (with_reducible exact clock_From.mono _ _ _ _ _)
      | (with_reducible exact clock_Parse.mono _ _)
      | (with_reducible exact clock_Span.mono _ _ _)
      | (with_reducible exact slackwaterkit_SameInts.mono _ _ _)
      | (with_reducible exact slackwaterlaw09_awake.mono _)
      | (with_reducible exact LeO.refl _)
      | (with_reducible exact LeO.none _)
      | (with_reducible refine LeO.ite ?_ ?_)
      | (with_reducible refine LeO.bind ?_ (fun _ => ?_))
      | exact ih0 _
      | exact ih1 _ _
      | exact ih2 _ _
      | exact clock_Days.mono _ _ _
      | exact clock_From.mono _ _ _ _ _
      | exact clock_Parse.mono _ _
      | exact clock_Span.mono _ _ _
      | exact slackwaterkit_SameInts.mono _ _ _
      | exact slackwaterlaw09_awake.mono _
      | exact LeO.none _
      | refine LeO.ite ?_ ?_
      | refine LeO.bind ?_ (fun _ => ?_)
    · intro y0 y1
      unfold slackwaterlaw09_ClockNames.l1
      repeat' first
      | (with_reducible exact ih0 _)
      | (with_reducible exact ih1 _ _)
      | (with_reducible exact ih2 _ _)
      | (with_reducible exact clock_Days.mono _ _ _)
      | (with_reducible exact clock_From.mono _ _ _ _ _)
      | (with_reducible exact clock_Parse.mono _ _)
      | (with_reducible exact clock_Span.mono _ _ _)
      | (with_reducible exact slackwaterkit_SameInts.mono _ _ _)
      | (with_reducible exact slackwaterlaw09_awake.mono _)
      | (with_reducible exact LeO.refl _)
      | (with_reducible exact LeO.none _)
      | (with_reducible refine LeO.ite ?_ ?_)
      | (with_reducible refine LeO.bind ?_ (fun _ => ?_))
      | exact ih0 _
      | exact ih1 _ _
      | exact ih2 _ _
      | exact clock_Days.mono _ _ _
      | exact clock_From.mono _ _ _ _ _
      | exact clock_Parse.mono _ _
      | exact clock_Span.mono _ _ _
      | exact slackwaterkit_SameInts.mono _ _ _
      | exact slackwaterlaw09_awake.mono _
      | exact LeO.none _
      | refine LeO.ite ?_ ?_
      | refine LeO.bind ?_ (fun _ => ?_)
theorem slackwaterlaw09_ClockNames.mono : ∀ k, LeO (slackwaterlaw09_ClockNames.f k ) (slackwaterlaw09_ClockNames.f (k + 1) ) := by
  intro  k
  obtain ⟨ih0, ih1, ih2⟩ := slackwaterlaw09_ClockNames.mono_l k
  unfold slackwaterlaw09_ClockNames.f
  repeat' first
      | (with_reducible exact ih0 _)
      | (with_reducible exact ih1 _ _)
      | (with_reducible exact ih2 _ _)
      | (with_reducible exact clock_Days.mono _ _ _)
      | (with_reducible exact clock_From.mono _ _ _ _ _)
      | (with_reducible exact clock_Parse.mono _ _)
      | (with_reducible exact clock_Span.mono _ _ _)
      | (with_reducible exact slackwaterkit_SameInts.mono _ _ _)
      | (with_reducible exact slackwaterlaw09_awake.mono _)
      | (with_reducible exact LeO.refl _)
      | (with_reducible exact LeO.none _)
      | (with_reducible refine LeO.ite ?_ ?_)
      | (with_reducible refine LeO.bind ?_ (fun _ => ?_))
      | exact ih0 _
      | exact ih1 _ _
      | exact ih2 _ _
      | exact clock_Days.mono _ _ _
      | exact clock_From.mono _ _ _ _ _
      | exact clock_Parse.mono _ _
      | exact clock_Span.mono _ _ _
      | exact slackwaterkit_SameInts.mono _ _ _
      | exact slackwaterlaw09_awake.mono _
      | exact LeO.none _
      | refine LeO.ite ?_ ?_
      | refine LeO.bind ?_ (fun _ => ?_)
set_option maxHeartbeats 8000000 in
set_option maxRecDepth 100000 in
theorem slackwaterlaw09_ClockNames.calls (k : Nat)  (r : Bool) (w : World) (hL : LW w) (h : slackwaterlaw09_ClockNames.f k  = some r) :
    Calls Tryd.prog 6 #[] w fun e w' => e = .returned (.bool r) ∧ Below w.heap.size w w' := by
  have hu23 := Tryd.underlying23
  have HB := Aside0.mk (Below.refl w.heap.size w)
  have H : ((clock_At.f 0 24).bind fun bt177 => ((clock_At.f 43690 16).bind fun bt179 => ((clock_At.f 43690 17).bind fun bt181 => ((clock_Date.f 1439).bind fun bt183 => ((clock_Date.f 1048576).bind fun bt189 => (if bt177.2 = 2 then (if bt179.1 = 1048576 then (if bt179.2 = 0 then (if bt181.2 = 2 then ((slackwaterlaw09_is.f bt183.1 bt183.2.1 bt183.2.2.1 bt183.2.2.2.1 2000 2 29 23).bind fun t195 => (if t195 = true then (if bt183.2.2.2.2 = 0 then ((slackwaterlaw09_is.f bt189.1 bt189.2.1 bt189.2.2.1 bt189.2.2.2.1 2119 8 15 16).bind fun t196 => (if t196 = true then (slackwaterlaw09_ClockNames.j0 k (bt189.2.2.2.2 != 0)) else (none))) else (none)) else (none))) else (none)) else (none)) else (none)) else (none))))))) = some r := h
  clear h
  replace H := Option.bind_eq_some_iff.mp H
  obtain ⟨⟨t177, t178⟩, A10, H⟩ := H
  replace H : ((clock_At.f 43690 16).bind fun bt179 => ((clock_At.f 43690 17).bind fun bt181 => ((clock_Date.f 1439).bind fun bt183 => ((clock_Date.f 1048576).bind fun bt189 => (if t178 = 2 then (if bt179.1 = 1048576 then (if bt179.2 = 0 then (if bt181.2 = 2 then ((slackwaterlaw09_is.f bt183.1 bt183.2.1 bt183.2.2.1 bt183.2.2.2.1 2000 2 29 23).bind fun t195 => (if t195 = true then (if bt183.2.2.2.2 = 0 then ((slackwaterlaw09_is.f bt189.1 bt189.2.1 bt189.2.2.1 bt189.2.2.2.1 2119 8 15 16).bind fun t196 => (if t196 = true then (slackwaterlaw09_ClockNames.j0 k (bt189.2.2.2.2 != 0)) else (none))) else (none)) else (none))) else (none)) else (none)) else (none)) else (none)))))) = some r := H
  have A1 := Aside0.mk A10
  clear A10
  replace H := Option.bind_eq_some_iff.mp H
  obtain ⟨⟨t179, t180⟩, A20, H⟩ := H
  replace H : ((clock_At.f 43690 17).bind fun bt181 => ((clock_Date.f 1439).bind fun bt183 => ((clock_Date.f 1048576).bind fun bt189 => (if t178 = 2 then (if t179 = 1048576 then (if t180 = 0 then (if bt181.2 = 2 then ((slackwaterlaw09_is.f bt183.1 bt183.2.1 bt183.2.2.1 bt183.2.2.2.1 2000 2 29 23).bind fun t195 => (if t195 = true then (if bt183.2.2.2.2 = 0 then ((slackwaterlaw09_is.f bt189.1 bt189.2.1 bt189.2.2.1 bt189.2.2.2.1 2119 8 15 16).bind fun t196 => (if t196 = true then (slackwaterlaw09_ClockNames.j0 k (bt189.2.2.2.2 != 0)) else (none))) else (none)) else (none))) else (none)) else (none)) else (none)) else (none))))) = some r := H
  have A2 := Aside0.mk A20
  clear A20
  replace H := Option.bind_eq_some_iff.mp H
  obtain ⟨⟨t181, t182⟩, A30, H⟩ := H
  replace H : ((clock_Date.f 1439).bind fun bt183 => ((clock_Date.f 1048576).bind fun bt189 => (if t178 = 2 then (if t179 = 1048576 then (if t180 = 0 then (if t182 = 2 then ((slackwaterlaw09_is.f bt183.1 bt183.2.1 bt183.2.2.1 bt183.2.2.2.1 2000 2 29 23).bind fun t195 => (if t195 = true then (if bt183.2.2.2.2 = 0 then ((slackwaterlaw09_is.f bt189.1 bt189.2.1 bt189.2.2.1 bt189.2.2.2.1 2119 8 15 16).bind fun t196 => (if t196 = true then (slackwaterlaw09_ClockNames.j0 k (bt189.2.2.2.2 != 0)) else (none))) else (none)) else (none))) else (none)) else (none)) else (none)) else (none)))) = some r := H
  have A3 := Aside0.mk A30
  clear A30
  replace H := Option.bind_eq_some_iff.mp H
  obtain ⟨⟨t183, t184, t185, t186, t187⟩, A40, H⟩ := H
  replace H : ((clock_Date.f 1048576).bind fun bt189 => (if t178 = 2 then (if t179 = 1048576 then (if t180 = 0 then (if t182 = 2 then ((slackwaterlaw09_is.f t183 t184 t185 t186 2000 2 29 23).bind fun t195 => (if t195 = true then (if t187 = 0 then ((slackwaterlaw09_is.f bt189.1 bt189.2.1 bt189.2.2.1 bt189.2.2.2.1 2119 8 15 16).bind fun t196 => (if t196 = true then (slackwaterlaw09_ClockNames.j0 k (bt189.2.2.2.2 != 0)) else (none))) else (none)) else (none))) else (none)) else (none)) else (none)) else (none))) = some r := H
  have A4 := Aside0.mk A40
  clear A40
  replace H := Option.bind_eq_some_iff.mp H
  obtain ⟨⟨t189, t190, t191, t192, t193⟩, A50, H⟩ := H
  replace H : (if t178 = 2 then (if t179 = 1048576 then (if t180 = 0 then (if t182 = 2 then ((slackwaterlaw09_is.f t183 t184 t185 t186 2000 2 29 23).bind fun t195 => (if t195 = true then (if t187 = 0 then ((slackwaterlaw09_is.f t189 t190 t191 t192 2119 8 15 16).bind fun t196 => (if t196 = true then (slackwaterlaw09_ClockNames.j0 k (t193 != 0)) else (none))) else (none)) else (none))) else (none)) else (none)) else (none)) else (none)) = some r := H
  have A5 := Aside0.mk A50
  clear A50
  have HC6 := Aside0.mk H
  clear H
  go_enter Tryd.func6, Tryd.ntmps6
  go_upto_region 6 with (first | ((with_reducible refine gate_callee (f := 14) rfl ?_); refine goesL_ (some 23) rfl rfl Tryd.func14 (by kernel_rfl) rfl #[.int .i64 0, .int .i64 24] rfl (by (try simp only [List.map_toArray, List.map_cons, List.map_nil]); first | done | rfl | (simp only [List.length_drop, List.length_take]; rfl)) ?_; (with_reducible refine (clock_At.calls 0 24 t177 t178 _ A1.out).mono ?_); rintro e w' ⟨rfl, ⟨nd, rfl⟩⟩; refine ⟨_, rfl, ?_⟩) | ((with_reducible refine gate_callee (f := 14) rfl ?_); refine goesL_ (some 27) rfl rfl Tryd.func14 (by kernel_rfl) rfl #[.int .i64 43690, .int .i64 16] rfl (by (try simp only [List.map_toArray, List.map_cons, List.map_nil]); first | done | rfl | (simp only [List.length_drop, List.length_take]; rfl)) ?_; (with_reducible refine (clock_At.calls 43690 16 t179 t180 _ A2.out).mono ?_); rintro e w' ⟨rfl, ⟨nd, rfl⟩⟩; refine ⟨_, rfl, ?_⟩) | ((with_reducible refine gate_callee (f := 14) rfl ?_); refine goesL_ (some 31) rfl rfl Tryd.func14 (by kernel_rfl) rfl #[.int .i64 43690, .int .i64 17] rfl (by (try simp only [List.map_toArray, List.map_cons, List.map_nil]); first | done | rfl | (simp only [List.length_drop, List.length_take]; rfl)) ?_; (with_reducible refine (clock_At.calls 43690 17 t181 t182 _ A3.out).mono ?_); rintro e w' ⟨rfl, ⟨nd, rfl⟩⟩; refine ⟨_, rfl, ?_⟩) | ((with_reducible refine gate_callee (f := 10) rfl ?_); refine goesL_ (some 35) rfl rfl Tryd.func10 (by kernel_rfl) rfl #[.int .i64 1439] rfl (by (try simp only [List.map_toArray, List.map_cons, List.map_nil]); first | done | rfl | (simp only [List.length_drop, List.length_take]; rfl)) ?_; (with_reducible refine (clock_Date.calls 1439 t183 t184 t185 t186 t187 _ A4.out).mono ?_); rintro e w7 ⟨rfl, hb⟩; refine ⟨_, rfl, ?_⟩; have n0_ := Aside0.mk (below_step (by repeat (first | (with_reducible first | exact HB.out | apply below_alloc | apply pw_below_drewN | apply below_drew1) | exact HB.out)) hb); clear HB; have HB := n0_; clear n0_; (try clear hb); (try clear hb2); (try clear hk); (try clear hi)) | ((with_reducible refine gate_dst (N := 7) rfl ?_); (try (refine gate_guard (by rfl) ?_; dsimp only)); refine box_event ?hg (N := 7) ?hd (cs := #[.int .i64 0, .int .i64 0, .int .i64 0, .int .i64 0]) (t := 23) ?hr ?_; (case hd => rfl); (case hg => rfl); (case hr => first | (go_simp; done) | (go_simp; rfl)); intro gb188 hg w8 hbox hb; have n0_ := Aside0.mk (below_step (by repeat (first | (with_reducible first | exact HB.out | apply below_alloc | apply pw_below_drewN | apply below_drew1) | exact HB.out)) hb); have n1_ := Aside0.mk (hbox); have n2_ := Aside0.mk ((by rw [hg]; exact (below_size (by repeat (first | (with_reducible first | exact HB.out | apply below_alloc | apply pw_below_drewN | apply below_drew1) | exact HB.out))) : w.heap.size ≤ gb188)); have n3_ := Aside0.mk ((by rw [hg]; exact (below_size (by repeat (first | (with_reducible first | exact HB.out | apply below_alloc | apply pw_below_drewN | apply below_drew1) | exact HB.out))) : w.heap.size ≤ gb188)); clear HB; have HB := n0_; have BK188 := n1_; have GW188 := n2_; have GE188 := n3_; clear n0_ n1_ n2_ n3_; clear hb hbox hg; have hcz9_0 : w8.cell? ⟨gb188, 0, none⟩ = some (.int .i64 0) := (blk_cell BK188.out 0).trans rfl; have hcz9_1 : w8.cell? ⟨gb188, 1, none⟩ = some (.int .i64 0) := (blk_cell BK188.out 1).trans rfl; have hcz9_2 : w8.cell? ⟨gb188, 2, none⟩ = some (.int .i64 0) := (blk_cell BK188.out 2).trans rfl; have hcz9_3 : w8.cell? ⟨gb188, 3, none⟩ = some (.int .i64 0) := (blk_cell BK188.out 3).trans rfl; have hfz9_0 := blk_frozen BK188.out 0; have hfz9_1 := blk_frozen BK188.out 1; have hfz9_2 := blk_frozen BK188.out 2; have hfz9_3 := blk_frozen BK188.out 3) | ((with_reducible refine gate_callee (f := 10) rfl ?_); refine goesL_ (some 39) rfl rfl Tryd.func10 (by kernel_rfl) rfl #[.int .i64 1048576] rfl (by (try simp only [List.map_toArray, List.map_cons, List.map_nil]); first | done | rfl | (simp only [List.length_drop, List.length_take]; rfl)) ?_; (with_reducible refine (clock_Date.calls 1048576 t189 t190 t191 t192 t193 _ A5.out).mono ?_); rintro e w10 ⟨rfl, hb⟩; refine ⟨_, rfl, ?_⟩; have n0_ := Aside0.mk (blk_below (g := gb188) (o := .cells #[.int .i64 t183, .int .i64 t184, .int .i64 t185, .int .i64 t186] 23 (0, 0)) (by (with_reducible repeat (first | refine blk_drewN ?_ _ | refine blk_drew ?_ | refine blk_alloc ?_ _)); refine blk_put (cs := #[.int .i64 t183, .int .i64 t184, .int .i64 t185, .int .i64 0]) ?_ 3 _ rfl; (with_reducible repeat (first | refine blk_drewN ?_ _ | refine blk_drew ?_ | refine blk_alloc ?_ _)); refine blk_put (cs := #[.int .i64 t183, .int .i64 t184, .int .i64 0, .int .i64 0]) ?_ 2 _ rfl; (with_reducible repeat (first | refine blk_drewN ?_ _ | refine blk_drew ?_ | refine blk_alloc ?_ _)); refine blk_put (cs := #[.int .i64 t183, .int .i64 0, .int .i64 0, .int .i64 0]) ?_ 1 _ rfl; (with_reducible repeat (first | refine blk_drewN ?_ _ | refine blk_drew ?_ | refine blk_alloc ?_ _)); refine blk_put (cs := #[.int .i64 0, .int .i64 0, .int .i64 0, .int .i64 0]) ?_ 0 _ rfl; (with_reducible repeat (first | refine blk_drewN ?_ _ | refine blk_drew ?_ | refine blk_alloc ?_ _)); exact BK188.out) hb); have n1_ := Aside0.mk (below_step (by repeat (first | (with_reducible first | exact HB.out | apply below_alloc | apply pw_below_drewN | apply below_drew1 | refine below_set ?_ GE188.out) | exact HB.out)) hb); clear BK188; clear HB; have BK188 := n0_; have HB := n1_; clear n0_ n1_; (try clear hb); (try clear hb2); (try clear hk); (try clear hi)) | ((with_reducible refine gate_dst (N := 9) rfl ?_); (try (refine gate_guard (by rfl) ?_; dsimp only)); refine box_event ?hg (N := 9) ?hd (cs := #[.int .i64 0, .int .i64 0, .int .i64 0, .int .i64 0]) (t := 23) ?hr ?_; (case hd => rfl); (case hg => rfl); (case hr => first | (go_simp; done) | (go_simp; rfl)); intro gb194 hg w11 hbox hb; have n0_ := Aside0.mk (blk_below (g := gb188) (o := .cells #[.int .i64 t183, .int .i64 t184, .int .i64 t185, .int .i64 t186] 23 (0, 0)) (by (with_reducible repeat (first | refine blk_drewN ?_ _ | refine blk_drew ?_ | refine blk_alloc ?_ _)); exact BK188.out) hb); have n1_ := Aside0.mk (below_step (by repeat (first | (with_reducible first | exact HB.out | apply below_alloc | apply pw_below_drewN | apply below_drew1 | refine below_set ?_ GE188.out) | exact HB.out)) hb); have n2_ := Aside0.mk (hbox); have n3_ := Aside0.mk ((by rw [hg]; exact (below_size (by repeat (first | (with_reducible first | exact HB.out | apply below_alloc | apply pw_below_drewN | apply below_drew1 | refine below_set ?_ GE188.out) | exact HB.out))) : w.heap.size ≤ gb194)); have n4_ := Aside0.mk ((by rw [hg]; exact (below_size (by repeat (first | (with_reducible first | exact HB.out | apply below_alloc | apply pw_below_drewN | apply below_drew1 | refine below_set ?_ GE188.out) | exact HB.out))) : w.heap.size ≤ gb194)); have n5_ := Aside0.mk ((by rw [hg]; exact Nat.ne_of_lt (blk_lt (g := gb188) (o := .cells #[.int .i64 t183, .int .i64 t184, .int .i64 t185, .int .i64 t186] 23 (0, 0)) (by (with_reducible repeat (first | refine blk_drewN ?_ _ | refine blk_drew ?_ | refine blk_alloc ?_ _)); exact BK188.out)) : gb188 ≠ gb194)); have n6_ := Aside0.mk ((by rw [hg]; exact Nat.ne_of_gt (blk_lt (g := gb188) (o := .cells #[.int .i64 t183, .int .i64 t184, .int .i64 t185, .int .i64 t186] 23 (0, 0)) (by (with_reducible repeat (first | refine blk_drewN ?_ _ | refine blk_drew ?_ | refine blk_alloc ?_ _)); exact BK188.out)) : gb194 ≠ gb188)); clear BK188; clear HB; have BK188 := n0_; have HB := n1_; have BK194 := n2_; have GW194 := n3_; have GE194 := n4_; have NB188_194 := n5_; have NB194_188 := n6_; clear n0_ n1_ n2_ n3_ n4_ n5_ n6_; clear hb hbox hg; have hnb12 := NB194_188.out; have hnc12 := NB188_194.out; have hcz13_0 : w11.cell? ⟨gb194, 0, none⟩ = some (.int .i64 0) := (blk_cell BK194.out 0).trans rfl; have hcz13_1 : w11.cell? ⟨gb194, 1, none⟩ = some (.int .i64 0) := (blk_cell BK194.out 1).trans rfl; have hcz13_2 : w11.cell? ⟨gb194, 2, none⟩ = some (.int .i64 0) := (blk_cell BK194.out 2).trans rfl; have hcz13_3 : w11.cell? ⟨gb194, 3, none⟩ = some (.int .i64 0) := (blk_cell BK194.out 3).trans rfl; have hfz13_0 := blk_frozen BK194.out 0; have hfz13_1 := blk_frozen BK194.out 1; have hfz13_2 := blk_frozen BK194.out 2; have hfz13_3 := blk_frozen BK194.out 3))
  (try simp only [Act.put, List.setIfInBounds_toArray, List.set_cons_zero, List.set_cons_succ])
  go_cut [73] (fun v73 wc => ∃ (kq : Nat) (x73_5 : Bool), v73 = .bool x73_5 ∧ Aside0 (slackwaterlaw09_ClockNames.j0 kq x73_5 = some r) ∧ Aside0 (kq ≤ k) ∧ Aside0 (wc.heap[gb188]? = some (.cells #[.int .i64 t183, .int .i64 t184, .int .i64 t185, .int .i64 t186] 23 (0, 0))) ∧ Aside0 (wc.heap[gb194]? = some (.cells #[.int .i64 t189, .int .i64 t190, .int .i64 t191, .int .i64 t192] 23 (0, 0))) ∧ Aside0 (Below w.heap.size w wc))
  case first =>
    have H := HC6.out
    clear HC6
    by_cases c14 : t178 = 2
    · rw [if_pos c14] at H
      have c14b0 : (t178 == 2) = true := beq_iff_eq.mpr c14
      have c14b1 : (t178 != 2) = false := bne_eq_false_iff_eq.mpr c14
      clear c14
      (first | rw [c14b0] | (simp only [i64_w, i32_w]; rw [c14b0]) | skip)
      by_cases c15 : t179 = 1048576
      · rw [if_pos c15] at H
        have c15b0 : (t179 == 1048576) = true := beq_iff_eq.mpr c15
        have c15b1 : (t179 != 1048576) = false := bne_eq_false_iff_eq.mpr c15
        clear c15
        by_cases c16 : t180 = 0
        · rw [if_pos c16] at H
          have c16b0 : (t180 == 0) = true := beq_iff_eq.mpr c16
          have c16b1 : (t180 != 0) = false := bne_eq_false_iff_eq.mpr c16
          clear c16
          by_cases c17 : t182 = 2
          · rw [if_pos c17] at H
            have c17b0 : (t182 == 2) = true := beq_iff_eq.mpr c17
            have c17b1 : (t182 != 2) = false := bne_eq_false_iff_eq.mpr c17
            clear c17
            replace H := Option.bind_eq_some_iff.mp H
            obtain ⟨t195, A180, H⟩ := H
            replace H : (if t195 = true then (if t187 = 0 then ((slackwaterlaw09_is.f t189 t190 t191 t192 2119 8 15 16).bind fun t196 => (if t196 = true then (slackwaterlaw09_ClockNames.j0 k (t193 != 0)) else (none))) else (none)) else (none)) = some r := H
            have A18 := Aside0.mk A180
            clear A180
            by_cases c19 : t195 = true
            · subst c19
              have H1 : (if t187 = 0 then ((slackwaterlaw09_is.f t189 t190 t191 t192 2119 8 15 16).bind fun t196 => (if t196 = true then (slackwaterlaw09_ClockNames.j0 k (t193 != 0)) else (none))) else (none)) = some r := by rw [if_pos rfl] at H; exact H
              clear H
              have H := H1
              clear H1
              by_cases c20 : t187 = 0
              · rw [if_pos c20] at H
                have c20b0 : (t187 == 0) = true := beq_iff_eq.mpr c20
                have c20b1 : (t187 != 0) = false := bne_eq_false_iff_eq.mpr c20
                clear c20
                replace H := Option.bind_eq_some_iff.mp H
                obtain ⟨t196, A210, H⟩ := H
                replace H : (if t196 = true then (slackwaterlaw09_ClockNames.j0 k (t193 != 0)) else (none)) = some r := H
                have A21 := Aside0.mk A210
                clear A210
                by_cases c22 : t196 = true
                · subst c22
                  have H1 : (slackwaterlaw09_ClockNames.j0 k (t193 != 0)) = some r := by rw [if_pos rfl] at H; exact H
                  clear H
                  have H := H1
                  clear H1
                  have H' := Aside0.mk H
                  clear H
                  have hnb23 := NB188_194.out
                  have hnc23 := NB194_188.out
                  have hcz24_0 : w11.cell? ⟨gb188, 0, none⟩ = some (.int .i64 t183) := (blk_cell BK188.out 0).trans rfl
                  have hcz24_1 : w11.cell? ⟨gb188, 1, none⟩ = some (.int .i64 t184) := (blk_cell BK188.out 1).trans rfl
                  have hcz24_2 : w11.cell? ⟨gb188, 2, none⟩ = some (.int .i64 t185) := (blk_cell BK188.out 2).trans rfl
                  have hcz24_3 : w11.cell? ⟨gb188, 3, none⟩ = some (.int .i64 t186) := (blk_cell BK188.out 3).trans rfl
                  have hfz24_0 := blk_frozen BK188.out 0
                  have hfz24_1 := blk_frozen BK188.out 1
                  have hfz24_2 := blk_frozen BK188.out 2
                  have hfz24_3 := blk_frozen BK188.out 3
                  go_wp2_with (first | (go_at_call 13; (with_reducible refine (slackwaterlaw09_is.calls t183 t184 t185 t186 2000 2 29 23 true _ A18.out).mono ?_); rintro e w25 ⟨rfl, hb⟩; have n0_ := Aside0.mk (blk_below (g := gb188) (o := .cells #[.int .i64 t183, .int .i64 t184, .int .i64 t185, .int .i64 t186] 23 (0, 0)) (by (with_reducible repeat (first | refine blk_drewN ?_ _ | refine blk_drew ?_ | refine blk_alloc ?_ _)); refine blk_far ?_ NB188_194.out _; (with_reducible repeat (first | refine blk_drewN ?_ _ | refine blk_drew ?_ | refine blk_alloc ?_ _)); refine blk_far ?_ NB188_194.out _; (with_reducible repeat (first | refine blk_drewN ?_ _ | refine blk_drew ?_ | refine blk_alloc ?_ _)); refine blk_far ?_ NB188_194.out _; (with_reducible repeat (first | refine blk_drewN ?_ _ | refine blk_drew ?_ | refine blk_alloc ?_ _)); refine blk_far ?_ NB188_194.out _; (with_reducible repeat (first | refine blk_drewN ?_ _ | refine blk_drew ?_ | refine blk_alloc ?_ _)); exact BK188.out) hb); have n1_ := Aside0.mk (blk_below (g := gb194) (o := .cells #[.int .i64 t189, .int .i64 t190, .int .i64 t191, .int .i64 t192] 23 (0, 0)) (by (with_reducible repeat (first | refine blk_drewN ?_ _ | refine blk_drew ?_ | refine blk_alloc ?_ _)); refine blk_put (cs := #[.int .i64 t189, .int .i64 t190, .int .i64 t191, .int .i64 0]) ?_ 3 _ rfl; (with_reducible repeat (first | refine blk_drewN ?_ _ | refine blk_drew ?_ | refine blk_alloc ?_ _)); refine blk_put (cs := #[.int .i64 t189, .int .i64 t190, .int .i64 0, .int .i64 0]) ?_ 2 _ rfl; (with_reducible repeat (first | refine blk_drewN ?_ _ | refine blk_drew ?_ | refine blk_alloc ?_ _)); refine blk_put (cs := #[.int .i64 t189, .int .i64 0, .int .i64 0, .int .i64 0]) ?_ 1 _ rfl; (with_reducible repeat (first | refine blk_drewN ?_ _ | refine blk_drew ?_ | refine blk_alloc ?_ _)); refine blk_put (cs := #[.int .i64 0, .int .i64 0, .int .i64 0, .int .i64 0]) ?_ 0 _ rfl; (with_reducible repeat (first | refine blk_drewN ?_ _ | refine blk_drew ?_ | refine blk_alloc ?_ _)); exact BK194.out) hb); have n2_ := Aside0.mk (below_step (by repeat (first | (with_reducible first | exact HB.out | apply below_alloc | apply pw_below_drewN | apply below_drew1 | refine below_set ?_ GE188.out | refine below_set ?_ GE194.out) | exact HB.out)) hb); clear BK188; clear BK194; clear HB; have BK188 := n0_; have BK194 := n1_; have HB := n2_; clear n0_ n1_ n2_; (try clear hb); (try clear hb2); (try clear hk); (try clear hi); have hcz26_0 : w25.cell? ⟨gb194, 0, none⟩ = some (.int .i64 t189) := (blk_cell BK194.out 0).trans rfl; have hcz26_1 : w25.cell? ⟨gb194, 1, none⟩ = some (.int .i64 t190) := (blk_cell BK194.out 1).trans rfl; have hcz26_2 : w25.cell? ⟨gb194, 2, none⟩ = some (.int .i64 t191) := (blk_cell BK194.out 2).trans rfl; have hcz26_3 : w25.cell? ⟨gb194, 3, none⟩ = some (.int .i64 t192) := (blk_cell BK194.out 3).trans rfl; have hfz26_0 := blk_frozen BK194.out 0; have hfz26_1 := blk_frozen BK194.out 1; have hfz26_2 := blk_frozen BK194.out 2; have hfz26_3 := blk_frozen BK194.out 3) | (go_at_call 13; (with_reducible refine (slackwaterlaw09_is.calls t189 t190 t191 t192 2119 8 15 16 true _ A21.out).mono ?_); rintro e w27 ⟨rfl, hb⟩; have n0_ := Aside0.mk (blk_below (g := gb188) (o := .cells #[.int .i64 t183, .int .i64 t184, .int .i64 t185, .int .i64 t186] 23 (0, 0)) (by (with_reducible repeat (first | refine blk_drewN ?_ _ | refine blk_drew ?_ | refine blk_alloc ?_ _)); exact BK188.out) hb); have n1_ := Aside0.mk (blk_below (g := gb194) (o := .cells #[.int .i64 t189, .int .i64 t190, .int .i64 t191, .int .i64 t192] 23 (0, 0)) (by (with_reducible repeat (first | refine blk_drewN ?_ _ | refine blk_drew ?_ | refine blk_alloc ?_ _)); exact BK194.out) hb); have n2_ := Aside0.mk (below_step (by repeat (first | (with_reducible first | exact HB.out | apply below_alloc | apply pw_below_drewN | apply below_drew1 | refine below_set ?_ GE188.out | refine below_set ?_ GE194.out) | exact HB.out)) hb); clear BK188; clear BK194; clear HB; have BK188 := n0_; have BK194 := n1_; have HB := n2_; clear n0_ n1_ n2_; (try clear hb); (try clear hb2); (try clear hk); (try clear hi)))
                  go_meet
                  case rel => exact ⟨_, ((t193 != 0)), (by first | rfl | (simp; done) | (simp [*]; done)), H', ⟨by first | omega | exact Nat.le_refl _⟩, ⟨by (with_reducible repeat (first | refine blk_drewN ?_ _ | refine blk_drew ?_ | refine blk_alloc ?_ _)); exact BK188.out⟩, ⟨by (with_reducible repeat (first | refine blk_drewN ?_ _ | refine blk_drew ?_ | refine blk_alloc ?_ _)); exact BK194.out⟩, ⟨by repeat (first | (with_reducible first | exact HB.out | apply below_alloc | apply pw_below_drewN | apply below_drew1 | refine below_set ?_ GE188.out | refine below_set ?_ GE194.out) | exact HB.out)⟩⟩
                · replace c22 := Bool.eq_false_iff.mpr c22
                  subst c22
                  have H1 : (none) = some r := by rw [if_neg (show ¬ (false = true) by decide)] at H; exact H
                  clear H
                  have H := H1
                  clear H1
                  exact absurd H (by simp)
              · rw [if_neg c20] at H
                exact absurd H (by simp)
            · replace c19 := Bool.eq_false_iff.mpr c19
              subst c19
              have H1 : (none) = some r := by rw [if_neg (show ¬ (false = true) by decide)] at H; exact H
              clear H
              have H := H1
              clear H1
              exact absurd H (by simp)
          · rw [if_neg c17] at H
            exact absurd H (by simp)
        · rw [if_neg c16] at H
          exact absurd H (by simp)
      · rw [if_neg c15] at H
        exact absurd H (by simp)
    · rw [if_neg c14] at H
      exact absurd H (by simp)
  case rest =>
    clear HC6
    try clear c1
    try clear c2
    try clear p2
    try clear c6
    try clear c10
    try clear c12
    try clear c14
    try clear c14b0
    try clear c14b1
    try clear c15
    try clear c15b0
    try clear c15b1
    try clear c16
    try clear c16b0
    try clear c16b1
    try clear c17
    try clear c17b0
    try clear c17b1
    try clear c19
    try clear c20
    try clear c20b0
    try clear c20b1
    try clear c22
    try clear c23
    try clear hcz13_0
    try clear hcz13_1
    try clear hcz13_2
    try clear hcz13_3
    try clear hcz24_0
    try clear hcz24_1
    try clear hcz24_2
    try clear hcz24_3
    try clear hcz26_0
    try clear hcz26_1
    try clear hcz26_2
    try clear hcz26_3
    try clear hcz9_0
    try clear hcz9_1
    try clear hcz9_2
    try clear hcz9_3
    try clear hfz13_0
    try clear hfz13_1
    try clear hfz13_2
    try clear hfz13_3
    try clear hfz24_0
    try clear hfz24_1
    try clear hfz24_2
    try clear hfz24_3
    try clear hfz26_0
    try clear hfz26_1
    try clear hfz26_2
    try clear hfz26_3
    try clear hfz9_0
    try clear hfz9_1
    try clear hfz9_2
    try clear hfz9_3
    obtain ⟨kq, x73_5, rfl, HA, HJ5, BK188, BK194, HB⟩ := hcut
    cases kq with
    | zero => exact absurd HA.out (by simp [slackwaterlaw09_ClockNames.j0])
    | succ kj5 =>
      have H := HA.out
      clear HA
      simp only [slackwaterlaw09_ClockNames.j0] at H
      by_cases c28 : x73_5 = true
      · subst c28
        have H1 : (none) = some r := by rw [if_pos rfl] at H; exact H
        clear H
        have H := H1
        clear H1
        exact absurd H (by simp)
      · replace c28 := Bool.eq_false_iff.mpr c28
        subst c28
        have H1 : (slackwaterlaw09_ClockNames.l0 kj5 (([(⟨2000, 2, 30, 0⟩ : S23), (⟨2001, 2, 29, 0⟩ : S23), (⟨1999, 12, 31, 23⟩ : S23), (⟨2100, 2, 29, 0⟩ : S23), (⟨2000, 13, 1, 0⟩ : S23), (⟨2000, 1, 0, 0⟩ : S23), (⟨2119, 8, 15, 17⟩ : S23), (⟨2000, 1, 1, (-1)⟩ : S23)] : List (S23))) 0) = some r := by rw [if_neg (show ¬ (false = true) by decide)] at H; exact H
        clear H
        have H := H1
        clear H1
        obtain ⟨y197, hy197⟩ : ∃ y_ : List (S23), y_ = (([(⟨2000, 2, 30, 0⟩ : S23), (⟨2001, 2, 29, 0⟩ : S23), (⟨1999, 12, 31, 23⟩ : S23), (⟨2100, 2, 29, 0⟩ : S23), (⟨2000, 13, 1, 0⟩ : S23), (⟨2000, 1, 0, 0⟩ : S23), (⟨2119, 8, 15, 17⟩ : S23), (⟨2000, 1, 1, (-1)⟩ : S23)] : List (S23))) := ⟨_, rfl⟩
        replace H : (slackwaterlaw09_ClockNames.l0 kj5 y197 0) = some r := by first | (rw [hy197]; with_reducible exact H) | (have H2_ := (Option.bind_some _ _).symm.trans H; rw [hy197]; with_reducible exact H2_) | (have H2_ := (Option.bind_some _ _).symm.trans H; with_reducible exact H2_) | with_reducible exact H | (rw [hy197]; exact H) | exact H
        have Ny197 := Aside0.mk hy197
        clear hy197
        have H' := Aside0.mk H
        clear H
        go_wp2_with (first | ((with_reducible refine gate_dst (N := 82) rfl ?_); (try (refine gate_guard (by rfl) ?_; dsimp only)); refine Kd.R_lit k23 _ 23 ?hg (N := 82) ?hd (xs := ([(⟨2000, 2, 30, 0⟩ : S23), (⟨2001, 2, 29, 0⟩ : S23), (⟨1999, 12, 31, 23⟩ : S23), (⟨2100, 2, 29, 0⟩ : S23), (⟨2000, 13, 1, 0⟩ : S23), (⟨2000, 1, 0, 0⟩ : S23), (⟨2119, 8, 15, 17⟩ : S23), (⟨2000, 1, 1, (-1)⟩ : S23)] : List (S23))) (inner := [.int .i64 2000, .int .i64 2, .int .i64 30, .int .i64 0, .int .i64 2001, .int .i64 2, .int .i64 29, .int .i64 0, .int .i64 1999, .int .i64 12, .int .i64 31, .int .i64 23, .int .i64 2100, .int .i64 2, .int .i64 29, .int .i64 0, .int .i64 2000, .int .i64 13, .int .i64 1, .int .i64 0, .int .i64 2000, .int .i64 1, .int .i64 0, .int .i64 0, .int .i64 2119, .int .i64 8, .int .i64 15, .int .i64 17, .int .i64 2000, .int .i64 1, .int .i64 1, .int .i64 (-1)]) (ok := fun _ => True) (okp := fun _ => True) ?hr ?hp (fun _ hk => hk) trivial (Below.refl _ _) (Nat.le_refl _) (by simp) ?_; (case hd => rfl); (case hg => rfl); (case hr => first | (go_simp; done) | (go_simp; rfl)); (case hp => exact (Reps.c4 (show Kd.M k23 _ _ _ (⟨2000, 2, 30, 0⟩ : S23) [.int .i64 2000, .int .i64 2, .int .i64 30, .int .i64 0] from (k23_mkM _ _ _ (⟨2000, 2, 30, 0⟩ : S23) )) (Reps.c4 (show Kd.M k23 _ _ _ (⟨2001, 2, 29, 0⟩ : S23) [.int .i64 2001, .int .i64 2, .int .i64 29, .int .i64 0] from (k23_mkM _ _ _ (⟨2001, 2, 29, 0⟩ : S23) )) (Reps.c4 (show Kd.M k23 _ _ _ (⟨1999, 12, 31, 23⟩ : S23) [.int .i64 1999, .int .i64 12, .int .i64 31, .int .i64 23] from (k23_mkM _ _ _ (⟨1999, 12, 31, 23⟩ : S23) )) (Reps.c4 (show Kd.M k23 _ _ _ (⟨2100, 2, 29, 0⟩ : S23) [.int .i64 2100, .int .i64 2, .int .i64 29, .int .i64 0] from (k23_mkM _ _ _ (⟨2100, 2, 29, 0⟩ : S23) )) (Reps.c4 (show Kd.M k23 _ _ _ (⟨2000, 13, 1, 0⟩ : S23) [.int .i64 2000, .int .i64 13, .int .i64 1, .int .i64 0] from (k23_mkM _ _ _ (⟨2000, 13, 1, 0⟩ : S23) )) (Reps.c4 (show Kd.M k23 _ _ _ (⟨2000, 1, 0, 0⟩ : S23) [.int .i64 2000, .int .i64 1, .int .i64 0, .int .i64 0] from (k23_mkM _ _ _ (⟨2000, 1, 0, 0⟩ : S23) )) (Reps.c4 (show Kd.M k23 _ _ _ (⟨2119, 8, 15, 17⟩ : S23) [.int .i64 2119, .int .i64 8, .int .i64 15, .int .i64 17] from (k23_mkM _ _ _ (⟨2119, 8, 15, 17⟩ : S23) )) (Reps.c4 (show Kd.M k23 _ _ _ (⟨2000, 1, 1, (-1)⟩ : S23) [.int .i64 2000, .int .i64 1, .int .i64 1, .int .i64 (-1)] from (k23_mkM _ _ _ (⟨2000, 1, 1, (-1)⟩ : S23) )) (Reps.none _ _)))))))))); intro v198 w29 ho30 hb hg_ hnew_; clear hg_ hnew_; (first | rw [← Ny197.out] at ho30 | (simp only [Int.reduceToNat] at ho30; rw [← Ny197.out] at ho30)); have n0_ := Aside0.mk (Kd.R_lower (Kd.R_newB (Kd.R_newB ho30 (g := gb188) (o := .cells #[.int .i64 t183, .int .i64 t184, .int .i64 t185, .int .i64 t186] 23 (0, 0)) (by (with_reducible repeat (first | refine blk_drewN ?_ _ | refine blk_drew ?_ | refine blk_alloc ?_ _)); exact BK188.out)) (g := gb194) (o := .cells #[.int .i64 t189, .int .i64 t190, .int .i64 t191, .int .i64 t192] 23 (0, 0)) (by (with_reducible repeat (first | refine blk_drewN ?_ _ | refine blk_drew ?_ | refine blk_alloc ?_ _)); exact BK194.out)) (below_size (by repeat (first | (with_reducible first | exact HB.out | apply below_alloc | apply pw_below_drewN | apply below_drew1 | refine below_set ?_ GE188.out | refine below_set ?_ GE194.out) | exact HB.out)))); have n1_ := Aside0.mk (blk_below (g := gb188) (o := .cells #[.int .i64 t183, .int .i64 t184, .int .i64 t185, .int .i64 t186] 23 (0, 0)) (by (with_reducible repeat (first | refine blk_drewN ?_ _ | refine blk_drew ?_ | refine blk_alloc ?_ _)); exact BK188.out) hb); have n2_ := Aside0.mk (blk_below (g := gb194) (o := .cells #[.int .i64 t189, .int .i64 t190, .int .i64 t191, .int .i64 t192] 23 (0, 0)) (by (with_reducible repeat (first | refine blk_drewN ?_ _ | refine blk_drew ?_ | refine blk_alloc ?_ _)); exact BK194.out) hb); have n3_ := Aside0.mk (below_step (by repeat (first | (with_reducible first | exact HB.out | apply below_alloc | apply pw_below_drewN | apply below_drew1 | refine below_set ?_ GE188.out | refine below_set ?_ GE194.out) | exact HB.out)) hb); clear BK188; clear BK194; clear HB; have HO199 := n0_; have BK188 := n1_; have BK194 := n2_; have HB := n3_; clear n0_ n1_ n2_ n3_; clear hb ho30))
        go_loopg [12] kj5 (fun kq v12 w' => ∃ (x12_2 : Int), v12 = .int .i64 x12_2 ∧ Aside0 (slackwaterlaw09_ClockNames.l0 kq y197 x12_2 = some r) ∧ Aside0 (kq ≤ kj5) ∧ Aside0 (Kd.R k23 23 w' w.heap.size (fun k_ => k_ ≠ gb188 ∧ k_ ≠ gb194) v198 y197) ∧ Aside0 (w'.heap[gb188]? = some (.cells #[.int .i64 t183, .int .i64 t184, .int .i64 t185, .int .i64 t186] 23 (0, 0))) ∧ Aside0 (w'.heap[gb194]? = some (.cells #[.int .i64 t189, .int .i64 t190, .int .i64 t191, .int .i64 t192] 23 (0, 0))) ∧ Aside0 (Below w.heap.size w w'))
        case atStart => exact ⟨(0), (by first | rfl | (simp; done) | (simp [*]; done)), H', ⟨Nat.le_refl _⟩, ⟨by (with_reducible repeat (first | apply Kd.R_alloc | apply Kd.R_drewN | apply Kd.R_drew)); exact Kd.R_mono HO199.out (fun _ hk => ⟨hk.1.2, hk.2⟩)⟩, ⟨by (with_reducible repeat (first | refine blk_drewN ?_ _ | refine blk_drew ?_ | refine blk_alloc ?_ _)); exact BK188.out⟩, ⟨by (with_reducible repeat (first | refine blk_drewN ?_ _ | refine blk_drew ?_ | refine blk_alloc ?_ _)); exact BK194.out⟩, ⟨by repeat (first | (with_reducible first | exact HB.out | apply below_alloc | apply pw_below_drewN | apply below_drew1 | refine below_set ?_ GE188.out | refine below_set ?_ GE194.out) | exact HB.out)⟩⟩
        case round =>
          clear H'
          try clear c1
          try clear c2
          try clear p2
          try clear c4
          try clear c6
          try clear c10
          try clear c12
          try clear c14
          try clear c14b0
          try clear c14b1
          try clear c15
          try clear c15b0
          try clear c15b1
          try clear c16
          try clear c16b0
          try clear c16b1
          try clear c17
          try clear c17b0
          try clear c17b1
          try clear c19
          try clear c20
          try clear c20b0
          try clear c20b1
          try clear c22
          try clear c23
          try clear c28
          try clear hcz13_0
          try clear hcz13_1
          try clear hcz13_2
          try clear hcz13_3
          try clear hcz24_0
          try clear hcz24_1
          try clear hcz24_2
          try clear hcz24_3
          try clear hcz26_0
          try clear hcz26_1
          try clear hcz26_2
          try clear hcz26_3
          try clear hcz9_0
          try clear hcz9_1
          try clear hcz9_2
          try clear hcz9_3
          try clear hfz13_0
          try clear hfz13_1
          try clear hfz13_2
          try clear hfz13_3
          try clear hfz24_0
          try clear hfz24_1
          try clear hfz24_2
          try clear hfz24_3
          try clear hfz26_0
          try clear hfz26_1
          try clear hfz26_2
          try clear hfz26_3
          try clear hfz9_0
          try clear hfz9_1
          try clear hfz9_2
          try clear hfz9_3
          try clear p2
          obtain ⟨x12_2, rfl, HA, HK2, HO_11, BK188, BK194, HB⟩ := hrel
          cases gk with
          | zero => exact absurd HA.out (by simp [slackwaterlaw09_ClockNames.l0])
          | succ k2 =>
            have H := HA.out
            clear HA
            simp only [slackwaterlaw09_ClockNames.l0] at H
            by_cases c31 : x12_2 < (y197.length : Int)
            · rw [if_pos c31] at H
              have c31b0 : decide (x12_2 < (y197.length : Int)) = true := decide_eq_true c31
              clear c31
              by_cases c32 : 0 ≤ x12_2
              · rw [if_pos c32] at H
                have c32b0 : decide (0 ≤ x12_2) = true := decide_eq_true c32
                clear c32
                replace H := Option.bind_eq_some_iff.mp H
                obtain ⟨⟨t201, t202⟩, A330, H⟩ := H
                replace H : (if t202 = 2 then (slackwaterlaw09_ClockNames.l0 k2 y197 (wrap64 (x12_2 + 1))) else (none)) = some r := H
                have A33 := Aside0.mk A330
                clear A330
                by_cases c34 : t202 = 2
                · rw [if_pos c34] at H
                  have c34b0 : (t202 == 2) = true := beq_iff_eq.mpr c34
                  have c34b1 : (t202 != 2) = false := bne_eq_false_iff_eq.mpr c34
                  clear c34
                  have H' := Aside0.mk H
                  clear H
                  obtain ⟨Ao35, co35, eo35⟩ := Kd.R_slice HO_11.out
                  subst eo35
                  have p200 : 0 ≤ (x12_2 : Int) := of_decide_eq_true (by first | (with_reducible assumption) | assumption)
                  have q200 : x12_2 < (y197.length : Int) := of_decide_eq_true (by first | (with_reducible assumption) | assumption)
                  obtain ⟨ad200, e200, hx200_0, hx200_1, hx200_2, hx200_3⟩ := at_T23 (Kd.R_reads' HO_11.out).2.2 x12_2 p200 q200
                  cases e200
                  replace p200 := eq_true p200
                  replace q200 := eq_true q200
                  go_wp2_with (first | ((with_reducible refine gate_callee (f := 15) rfl ?_); refine goesL_ (some 94) rfl rfl Tryd.func15 (by kernel_rfl) rfl #[.agg #[.int .i64 ((rd_T23 y197 x12_2).f0), .int .i64 ((rd_T23 y197 x12_2).f1), .int .i64 ((rd_T23 y197 x12_2).f2), .int .i64 ((rd_T23 y197 x12_2).f3)]] rfl (by (try simp only [List.map_toArray, List.map_cons, List.map_nil]); first | done | rfl | (simp only [List.length_drop, List.length_take]; rfl)) ?_; (with_reducible refine (clock_From.calls k2 ((rd_T23 y197 x12_2).f0) ((rd_T23 y197 x12_2).f1) ((rd_T23 y197 x12_2).f2) ((rd_T23 y197 x12_2).f3) t201 t202 _ A33.out).mono ?_); rintro e w36 ⟨rfl, hb⟩; refine ⟨_, rfl, ?_⟩; have n0_ := Aside0.mk (Kd.R_below (by (with_reducible repeat (first | apply Kd.R_alloc | apply Kd.R_drewN | apply Kd.R_drew)); exact HO_11.out) hb); have n1_ := Aside0.mk (blk_below (g := gb188) (o := .cells #[.int .i64 t183, .int .i64 t184, .int .i64 t185, .int .i64 t186] 23 (0, 0)) (by (with_reducible repeat (first | refine blk_drewN ?_ _ | refine blk_drew ?_ | refine blk_alloc ?_ _)); exact BK188.out) hb); have n2_ := Aside0.mk (blk_below (g := gb194) (o := .cells #[.int .i64 t189, .int .i64 t190, .int .i64 t191, .int .i64 t192] 23 (0, 0)) (by (with_reducible repeat (first | refine blk_drewN ?_ _ | refine blk_drew ?_ | refine blk_alloc ?_ _)); exact BK194.out) hb); have n3_ := Aside0.mk (below_step (by repeat (first | (with_reducible first | exact HB.out | apply below_alloc | apply pw_below_drewN | apply below_drew1 | refine below_set ?_ GE188.out | refine below_set ?_ GE194.out) | exact HB.out)) hb); clear HO_11; clear BK188; clear BK194; clear HB; have HO_11 := n0_; have BK188 := n1_; have BK194 := n2_; have HB := n3_; clear n0_ n1_ n2_ n3_; (try clear hb); (try clear hb2); (try clear hk); (try clear hi)))
                  go_roundg k2
                  case measure => have := HJ5.out; have := HK2.out; omega
                  case rel => exact ⟨(wrap64 (x12_2 + 1)), (by first | rfl | (simp; done) | (simp [*]; done)), H', ⟨by have := HJ5.out; have := HK2.out; omega⟩, ⟨by (with_reducible repeat (first | apply Kd.R_alloc | apply Kd.R_drewN | apply Kd.R_drew)); exact HO_11.out⟩, ⟨by (with_reducible repeat (first | refine blk_drewN ?_ _ | refine blk_drew ?_ | refine blk_alloc ?_ _)); exact BK188.out⟩, ⟨by (with_reducible repeat (first | refine blk_drewN ?_ _ | refine blk_drew ?_ | refine blk_alloc ?_ _)); exact BK194.out⟩, ⟨by repeat (first | (with_reducible first | exact HB.out | apply below_alloc | apply pw_below_drewN | apply below_drew1 | refine below_set ?_ GE188.out | refine below_set ?_ GE194.out) | exact HB.out)⟩⟩
                · rw [if_neg c34] at H
                  exact absurd H (by simp)
              · rw [if_neg c32] at H
                exact absurd H (by simp)
            · rw [if_neg c31] at H
              have c31b0 : decide (x12_2 < (y197.length : Int)) = false := decide_eq_false c31
              clear c31
              obtain ⟨y203, hy203⟩ : ∃ y_ : List ByteArray, y_ = (([(⟨#[50, 48, 48, 48, 45, 48, 49, 45, 49, 32, 48]⟩ : ByteArray), (⟨#[50, 48, 48, 48, 45, 49, 45, 49]⟩ : ByteArray), (⟨#[50, 48, 48, 48, 45, 49, 45, 49, 32, 50, 52]⟩ : ByteArray), (⟨#[]⟩ : ByteArray), (⟨#[50, 48, 48, 48, 45, 49, 45, 49, 32, 48, 32]⟩ : ByteArray), (⟨#[48, 50, 48, 48, 48, 45, 49, 45, 49, 32, 48]⟩ : ByteArray), (⟨#[50, 48, 48, 48, 45, 49, 45, 49, 32, 32, 48]⟩ : ByteArray), (⟨#[50, 49, 49, 57, 45, 56, 45, 49, 53, 32, 49, 55]⟩ : ByteArray), (⟨#[45, 50, 48, 48, 48, 45, 49, 45, 49, 32, 48]⟩ : ByteArray)] : List ByteArray)) := ⟨_, rfl⟩
              replace H : (slackwaterlaw09_ClockNames.l1 k2 y203 0) = some r := by first | (rw [hy203]; with_reducible exact H) | (have H2_ := (Option.bind_some _ _).symm.trans H; rw [hy203]; with_reducible exact H2_) | (have H2_ := (Option.bind_some _ _).symm.trans H; with_reducible exact H2_) | with_reducible exact H | (rw [hy203]; exact H) | exact H
              have Ny203 := Aside0.mk hy203
              clear hy203
              have H' := Aside0.mk H
              clear H
              obtain ⟨Ao37, co37, eo37⟩ := Kd.R_slice HO_11.out
              subst eo37
              go_wp2_with (first | ((with_reducible refine gate_dst (N := 99) rfl ?_); (try (refine gate_guard (by rfl) ?_; dsimp only)); refine Kd.R_lit Kd.string _ 9 ?hg (N := 99) ?hd (xs := ([(⟨#[50, 48, 48, 48, 45, 48, 49, 45, 49, 32, 48]⟩ : ByteArray), (⟨#[50, 48, 48, 48, 45, 49, 45, 49]⟩ : ByteArray), (⟨#[50, 48, 48, 48, 45, 49, 45, 49, 32, 50, 52]⟩ : ByteArray), (⟨#[]⟩ : ByteArray), (⟨#[50, 48, 48, 48, 45, 49, 45, 49, 32, 48, 32]⟩ : ByteArray), (⟨#[48, 50, 48, 48, 48, 45, 49, 45, 49, 32, 48]⟩ : ByteArray), (⟨#[50, 48, 48, 48, 45, 49, 45, 49, 32, 32, 48]⟩ : ByteArray), (⟨#[50, 49, 49, 57, 45, 56, 45, 49, 53, 32, 49, 55]⟩ : ByteArray), (⟨#[45, 50, 48, 48, 48, 45, 49, 45, 49, 32, 48]⟩ : ByteArray)] : List ByteArray)) (inner := [.string (⟨#[50, 48, 48, 48, 45, 48, 49, 45, 49, 32, 48]⟩ : ByteArray), .string (⟨#[50, 48, 48, 48, 45, 49, 45, 49]⟩ : ByteArray), .string (⟨#[50, 48, 48, 48, 45, 49, 45, 49, 32, 50, 52]⟩ : ByteArray), .string (⟨#[]⟩ : ByteArray), .string (⟨#[50, 48, 48, 48, 45, 49, 45, 49, 32, 48, 32]⟩ : ByteArray), .string (⟨#[48, 50, 48, 48, 48, 45, 49, 45, 49, 32, 48]⟩ : ByteArray), .string (⟨#[50, 48, 48, 48, 45, 49, 45, 49, 32, 32, 48]⟩ : ByteArray), .string (⟨#[50, 49, 49, 57, 45, 56, 45, 49, 53, 32, 49, 55]⟩ : ByteArray), .string (⟨#[45, 50, 48, 48, 48, 45, 49, 45, 49, 32, 48]⟩ : ByteArray)]) (ok := fun _ => True) (okp := fun _ => True) ?hr ?hp (fun _ hk => hk) trivial (Below.refl _ _) (Nat.le_refl _) (by simp) ?_; (case hd => rfl); (case hg => rfl); (case hr => first | (go_simp; done) | (go_simp; rfl)); (case hp => exact (Reps.one (show Kd.M Kd.string _ _ _ (⟨#[50, 48, 48, 48, 45, 48, 49, 45, 49, 32, 48]⟩ : ByteArray) [.string (⟨#[50, 48, 48, 48, 45, 48, 49, 45, 49, 32, 48]⟩ : ByteArray)] from rfl) (Reps.one (show Kd.M Kd.string _ _ _ (⟨#[50, 48, 48, 48, 45, 49, 45, 49]⟩ : ByteArray) [.string (⟨#[50, 48, 48, 48, 45, 49, 45, 49]⟩ : ByteArray)] from rfl) (Reps.one (show Kd.M Kd.string _ _ _ (⟨#[50, 48, 48, 48, 45, 49, 45, 49, 32, 50, 52]⟩ : ByteArray) [.string (⟨#[50, 48, 48, 48, 45, 49, 45, 49, 32, 50, 52]⟩ : ByteArray)] from rfl) (Reps.one (show Kd.M Kd.string _ _ _ (⟨#[]⟩ : ByteArray) [.string (⟨#[]⟩ : ByteArray)] from rfl) (Reps.one (show Kd.M Kd.string _ _ _ (⟨#[50, 48, 48, 48, 45, 49, 45, 49, 32, 48, 32]⟩ : ByteArray) [.string (⟨#[50, 48, 48, 48, 45, 49, 45, 49, 32, 48, 32]⟩ : ByteArray)] from rfl) (Reps.one (show Kd.M Kd.string _ _ _ (⟨#[48, 50, 48, 48, 48, 45, 49, 45, 49, 32, 48]⟩ : ByteArray) [.string (⟨#[48, 50, 48, 48, 48, 45, 49, 45, 49, 32, 48]⟩ : ByteArray)] from rfl) (Reps.one (show Kd.M Kd.string _ _ _ (⟨#[50, 48, 48, 48, 45, 49, 45, 49, 32, 32, 48]⟩ : ByteArray) [.string (⟨#[50, 48, 48, 48, 45, 49, 45, 49, 32, 32, 48]⟩ : ByteArray)] from rfl) (Reps.one (show Kd.M Kd.string _ _ _ (⟨#[50, 49, 49, 57, 45, 56, 45, 49, 53, 32, 49, 55]⟩ : ByteArray) [.string (⟨#[50, 49, 49, 57, 45, 56, 45, 49, 53, 32, 49, 55]⟩ : ByteArray)] from rfl) (Reps.one (show Kd.M Kd.string _ _ _ (⟨#[45, 50, 48, 48, 48, 45, 49, 45, 49, 32, 48]⟩ : ByteArray) [.string (⟨#[45, 50, 48, 48, 48, 45, 49, 45, 49, 32, 48]⟩ : ByteArray)] from rfl) (Reps.none _ _))))))))))); intro v204 w38 ho39 hb hg_ hnew_; clear hg_ hnew_; (first | rw [← Ny203.out] at ho39 | (simp only [Int.reduceToNat] at ho39; rw [← Ny203.out] at ho39)); have n0_ := Aside0.mk (Kd.R_below (by (with_reducible repeat (first | apply Kd.R_alloc | apply Kd.R_drewN | apply Kd.R_drew)); exact HO_11.out) hb); have n1_ := Aside0.mk (Kd.R_lower ho39 (below_size (by repeat (first | (with_reducible first | exact HB.out | apply below_alloc | apply pw_below_drewN | apply below_drew1 | refine below_set ?_ GE188.out | refine below_set ?_ GE194.out) | exact HB.out)))); have n2_ := Aside0.mk (blk_below (g := gb188) (o := .cells #[.int .i64 t183, .int .i64 t184, .int .i64 t185, .int .i64 t186] 23 (0, 0)) (by (with_reducible repeat (first | refine blk_drewN ?_ _ | refine blk_drew ?_ | refine blk_alloc ?_ _)); exact BK188.out) hb); have n3_ := Aside0.mk (blk_below (g := gb194) (o := .cells #[.int .i64 t189, .int .i64 t190, .int .i64 t191, .int .i64 t192] 23 (0, 0)) (by (with_reducible repeat (first | refine blk_drewN ?_ _ | refine blk_drew ?_ | refine blk_alloc ?_ _)); exact BK194.out) hb); have n4_ := Aside0.mk (below_step (by repeat (first | (with_reducible first | exact HB.out | apply below_alloc | apply pw_below_drewN | apply below_drew1 | refine below_set ?_ GE188.out | refine below_set ?_ GE194.out) | exact HB.out)) hb); clear HO_11; clear BK188; clear BK194; clear HB; have HO_11 := n0_; have HO205 := n1_; have BK188 := n2_; have BK194 := n3_; have HB := n4_; clear n0_ n1_ n2_ n3_ n4_; clear hb ho39))
              go_loopg [16] k2 (fun kq v16 w' => ∃ (x16_3 : Int), v16 = .int .i64 x16_3 ∧ Aside0 (slackwaterlaw09_ClockNames.l1 kq y203 x16_3 = some r) ∧ Aside0 (kq ≤ k2) ∧ Aside0 (Kd.R Kd.string 9 w' w.heap.size (fun _ => True) v204 y203) ∧ Aside0 (w'.heap[gb188]? = some (.cells #[.int .i64 t183, .int .i64 t184, .int .i64 t185, .int .i64 t186] 23 (0, 0))) ∧ Aside0 (w'.heap[gb194]? = some (.cells #[.int .i64 t189, .int .i64 t190, .int .i64 t191, .int .i64 t192] 23 (0, 0))) ∧ Aside0 (Below w.heap.size w w'))
              case atStart => exact ⟨(0), (by first | rfl | (simp; done) | (simp [*]; done)), H', ⟨Nat.le_refl _⟩, ⟨by (with_reducible repeat (first | apply Kd.R_alloc | apply Kd.R_drewN | apply Kd.R_drew)); exact HO205.out⟩, ⟨by (with_reducible repeat (first | refine blk_drewN ?_ _ | refine blk_drew ?_ | refine blk_alloc ?_ _)); exact BK188.out⟩, ⟨by (with_reducible repeat (first | refine blk_drewN ?_ _ | refine blk_drew ?_ | refine blk_alloc ?_ _)); exact BK194.out⟩, ⟨by repeat (first | (with_reducible first | exact HB.out | apply below_alloc | apply pw_below_drewN | apply below_drew1 | refine below_set ?_ GE188.out | refine below_set ?_ GE194.out) | exact HB.out)⟩⟩
              case round =>
                clear H'
                try clear c1
                try clear c2
                try clear p2
                try clear q2
                try clear hx2
                try clear c3
                try clear c4
                try clear c6
                try clear p6
                try clear c10
                try clear c12
                try clear c14
                try clear c14b0
                try clear c14b1
                try clear c15
                try clear c15b0
                try clear c15b1
                try clear c16
                try clear c16b0
                try clear c16b1
                try clear c17
                try clear c17b0
                try clear c17b1
                try clear c19
                try clear c20
                try clear c20b0
                try clear c20b1
                try clear p20
                try clear q20
                try clear hx20
                try clear c22
                try clear c23
                try clear c28
                try clear c31
                try clear c31b0
                try clear c32
                try clear c32b0
                try clear c34
                try clear c34b0
                try clear c34b1
                try clear hcz13_0
                try clear hcz13_1
                try clear hcz13_2
                try clear hcz13_3
                try clear hcz24_0
                try clear hcz24_1
                try clear hcz24_2
                try clear hcz24_3
                try clear hcz26_0
                try clear hcz26_1
                try clear hcz26_2
                try clear hcz26_3
                try clear hcz9_0
                try clear hcz9_1
                try clear hcz9_2
                try clear hcz9_3
                try clear hfz13_0
                try clear hfz13_1
                try clear hfz13_2
                try clear hfz13_3
                try clear hfz24_0
                try clear hfz24_1
                try clear hfz24_2
                try clear hfz24_3
                try clear hfz26_0
                try clear hfz26_1
                try clear hfz26_2
                try clear hfz26_3
                try clear hfz9_0
                try clear hfz9_1
                try clear hfz9_2
                try clear hfz9_3
                try clear hx200_0
                try clear hx200_1
                try clear hx200_2
                try clear hx200_3
                try clear p2
                try clear p200
                try clear q200
                obtain ⟨x16_3, rfl, HA, HK3, HO_15, BK188, BK194, HB⟩ := hrel
                cases gk with
                | zero => exact absurd HA.out (by simp [slackwaterlaw09_ClockNames.l1])
                | succ k3 =>
                  have H := HA.out
                  clear HA
                  simp only [slackwaterlaw09_ClockNames.l1] at H
                  by_cases c40 : x16_3 < (y203.length : Int)
                  · rw [if_pos c40] at H
                    have c40b0 : decide (x16_3 < (y203.length : Int)) = true := decide_eq_true c40
                    clear c40
                    by_cases c41 : 0 ≤ x16_3
                    · rw [if_pos c41] at H
                      have c41b0 : decide (0 ≤ x16_3) = true := decide_eq_true c41
                      clear c41
                      replace H := Option.bind_eq_some_iff.mp H
                      obtain ⟨⟨t207, t208⟩, A420, H⟩ := H
                      replace H : (if t208 = 190 then (slackwaterlaw09_ClockNames.l1 k3 y203 (wrap64 (x16_3 + 1))) else (none)) = some r := H
                      have A42 := Aside0.mk A420
                      clear A420
                      by_cases c43 : t208 = 190
                      · rw [if_pos c43] at H
                        have c43b0 : (t208 == 190) = true := beq_iff_eq.mpr c43
                        have c43b1 : (t208 != 190) = false := bne_eq_false_iff_eq.mpr c43
                        clear c43
                        have H' := Aside0.mk H
                        clear H
                        obtain ⟨Ao44, co44, eo44⟩ := Kd.R_slice HO_15.out
                        subst eo44
                        have p206 : 0 ≤ (x16_3 : Int) := of_decide_eq_true (by first | (with_reducible assumption) | assumption)
                        have q206 : x16_3 < (y203.length : Int) := of_decide_eq_true (by first | (with_reducible assumption) | assumption)
                        obtain ⟨ad206, e206, hx206_0⟩ := Kd.at_string (Kd.R_reads' HO_15.out).2.2 x16_3 p206 q206
                        cases e206
                        replace p206 := eq_true p206
                        replace q206 := eq_true q206
                        go_wp2_with (first | ((with_reducible refine gate_callee (f := 16) rfl ?_); refine goesL_ (some 111) rfl rfl Tryd.func16 (by kernel_rfl) rfl #[.string (rdOf ByteArray.empty y203 x16_3)] rfl (by (try simp only [List.map_toArray, List.map_cons, List.map_nil]); first | done | rfl | (simp only [List.length_drop, List.length_take]; rfl)) ?_; (with_reducible refine (clock_Parse.calls k3 (rdOf ByteArray.empty y203 x16_3) t207 t208 _ (hL.below (by repeat (first | (with_reducible first | exact HB.out | apply below_alloc | apply pw_below_drewN | apply below_drew1 | refine below_set ?_ GE188.out | refine below_set ?_ GE194.out) | exact HB.out))) A42.out).mono ?_); rintro e w45 ⟨rfl, hb⟩; refine ⟨_, rfl, ?_⟩; have n0_ := Aside0.mk (Kd.R_below (by (with_reducible repeat (first | apply Kd.R_alloc | apply Kd.R_drewN | apply Kd.R_drew)); exact HO_15.out) hb); have n1_ := Aside0.mk (blk_below (g := gb188) (o := .cells #[.int .i64 t183, .int .i64 t184, .int .i64 t185, .int .i64 t186] 23 (0, 0)) (by (with_reducible repeat (first | refine blk_drewN ?_ _ | refine blk_drew ?_ | refine blk_alloc ?_ _)); exact BK188.out) hb); have n2_ := Aside0.mk (blk_below (g := gb194) (o := .cells #[.int .i64 t189, .int .i64 t190, .int .i64 t191, .int .i64 t192] 23 (0, 0)) (by (with_reducible repeat (first | refine blk_drewN ?_ _ | refine blk_drew ?_ | refine blk_alloc ?_ _)); exact BK194.out) hb); have n3_ := Aside0.mk (below_step (by repeat (first | (with_reducible first | exact HB.out | apply below_alloc | apply pw_below_drewN | apply below_drew1 | refine below_set ?_ GE188.out | refine below_set ?_ GE194.out) | exact HB.out)) hb); clear HO_15; clear BK188; clear BK194; clear HB; have HO_15 := n0_; have BK188 := n1_; have BK194 := n2_; have HB := n3_; clear n0_ n1_ n2_ n3_; (try clear hb); (try clear hb2); (try clear hk); (try clear hi)))
                        go_roundg k3
                        case measure => have := HJ5.out; have := HK2.out; have := HK3.out; omega
                        case rel => exact ⟨(wrap64 (x16_3 + 1)), (by first | rfl | (simp; done) | (simp [*]; done)), H', ⟨by have := HJ5.out; have := HK2.out; have := HK3.out; omega⟩, ⟨by (with_reducible repeat (first | apply Kd.R_alloc | apply Kd.R_drewN | apply Kd.R_drew)); exact HO_15.out⟩, ⟨by (with_reducible repeat (first | refine blk_drewN ?_ _ | refine blk_drew ?_ | refine blk_alloc ?_ _)); exact BK188.out⟩, ⟨by (with_reducible repeat (first | refine blk_drewN ?_ _ | refine blk_drew ?_ | refine blk_alloc ?_ _)); exact BK194.out⟩, ⟨by repeat (first | (with_reducible first | exact HB.out | apply below_alloc | apply pw_below_drewN | apply below_drew1 | refine below_set ?_ GE188.out | refine below_set ?_ GE194.out) | exact HB.out)⟩⟩
                      · rw [if_neg c43] at H
                        exact absurd H (by simp)
                    · rw [if_neg c41] at H
                      exact absurd H (by simp)
                  · rw [if_neg c40] at H
                    have c40b0 : decide (x16_3 < (y203.length : Int)) = false := decide_eq_false c40
                    clear c40
                    replace H := Option.bind_eq_some_iff.mp H
                    obtain ⟨⟨t209, t210⟩, A460, H⟩ := H
                    replace H : ((clock_Span.f k3 0 4096).bind fun t211 => (if t211 = 0 then ((clock_Span.f k3 0 4097).bind fun t212 => (if t212 = 3 then ((clock_Span.f k3 3 2).bind fun t213 => (if t213 = 2 then ((clock_Span.f k3 1048577 1048577).bind fun t214 => (if t214 = 0 then ((clock_Span.f k3 (-1) 0).bind fun t215 => ((slackwaterlaw09_awake.f k3).bind fun t216 => (if t216 = true then (if t215 = 2 then (if t209 = 0 then ((clock_Days.f k3 1 49).bind fun t217 => ((slackwaterkit_SameInts.f k3 t217 (([1] : List Int))).bind fun t223 => (some t223))) else (none)) else (none)) else (none)))) else ((slackwaterlaw09_awake.f k3).bind fun t224 => (if t224 = true then (none) else (none))))) else ((slackwaterlaw09_awake.f k3).bind fun t225 => (if t225 = true then (none) else (none))))) else ((slackwaterlaw09_awake.f k3).bind fun t226 => (if t226 = true then (none) else (none))))) else ((slackwaterlaw09_awake.f k3).bind fun t227 => (if t227 = true then (none) else (none))))) = some r := H
                    have A46 := Aside0.mk A460
                    clear A460
                    replace H := Option.bind_eq_some_iff.mp H
                    obtain ⟨t211, A470, H⟩ := H
                    replace H : (if t211 = 0 then ((clock_Span.f k3 0 4097).bind fun t212 => (if t212 = 3 then ((clock_Span.f k3 3 2).bind fun t213 => (if t213 = 2 then ((clock_Span.f k3 1048577 1048577).bind fun t214 => (if t214 = 0 then ((clock_Span.f k3 (-1) 0).bind fun t215 => ((slackwaterlaw09_awake.f k3).bind fun t216 => (if t216 = true then (if t215 = 2 then (if t209 = 0 then ((clock_Days.f k3 1 49).bind fun t217 => ((slackwaterkit_SameInts.f k3 t217 (([1] : List Int))).bind fun t223 => (some t223))) else (none)) else (none)) else (none)))) else ((slackwaterlaw09_awake.f k3).bind fun t224 => (if t224 = true then (none) else (none))))) else ((slackwaterlaw09_awake.f k3).bind fun t225 => (if t225 = true then (none) else (none))))) else ((slackwaterlaw09_awake.f k3).bind fun t226 => (if t226 = true then (none) else (none))))) else ((slackwaterlaw09_awake.f k3).bind fun t227 => (if t227 = true then (none) else (none)))) = some r := H
                    have A47 := Aside0.mk A470
                    clear A470
                    by_cases c48 : t211 = 0
                    · rw [if_pos c48] at H
                      have c48b0 : (t211 == 0) = true := beq_iff_eq.mpr c48
                      have c48b1 : (t211 != 0) = false := bne_eq_false_iff_eq.mpr c48
                      clear c48
                      replace H := Option.bind_eq_some_iff.mp H
                      obtain ⟨t212, A490, H⟩ := H
                      replace H : (if t212 = 3 then ((clock_Span.f k3 3 2).bind fun t213 => (if t213 = 2 then ((clock_Span.f k3 1048577 1048577).bind fun t214 => (if t214 = 0 then ((clock_Span.f k3 (-1) 0).bind fun t215 => ((slackwaterlaw09_awake.f k3).bind fun t216 => (if t216 = true then (if t215 = 2 then (if t209 = 0 then ((clock_Days.f k3 1 49).bind fun t217 => ((slackwaterkit_SameInts.f k3 t217 (([1] : List Int))).bind fun t223 => (some t223))) else (none)) else (none)) else (none)))) else ((slackwaterlaw09_awake.f k3).bind fun t224 => (if t224 = true then (none) else (none))))) else ((slackwaterlaw09_awake.f k3).bind fun t225 => (if t225 = true then (none) else (none))))) else ((slackwaterlaw09_awake.f k3).bind fun t226 => (if t226 = true then (none) else (none)))) = some r := H
                      have A49 := Aside0.mk A490
                      clear A490
                      by_cases c50 : t212 = 3
                      · rw [if_pos c50] at H
                        have c50b0 : (t212 == 3) = true := beq_iff_eq.mpr c50
                        have c50b1 : (t212 != 3) = false := bne_eq_false_iff_eq.mpr c50
                        clear c50
                        replace H := Option.bind_eq_some_iff.mp H
                        obtain ⟨t213, A510, H⟩ := H
                        replace H : (if t213 = 2 then ((clock_Span.f k3 1048577 1048577).bind fun t214 => (if t214 = 0 then ((clock_Span.f k3 (-1) 0).bind fun t215 => ((slackwaterlaw09_awake.f k3).bind fun t216 => (if t216 = true then (if t215 = 2 then (if t209 = 0 then ((clock_Days.f k3 1 49).bind fun t217 => ((slackwaterkit_SameInts.f k3 t217 (([1] : List Int))).bind fun t223 => (some t223))) else (none)) else (none)) else (none)))) else ((slackwaterlaw09_awake.f k3).bind fun t224 => (if t224 = true then (none) else (none))))) else ((slackwaterlaw09_awake.f k3).bind fun t225 => (if t225 = true then (none) else (none)))) = some r := H
                        have A51 := Aside0.mk A510
                        clear A510
                        by_cases c52 : t213 = 2
                        · rw [if_pos c52] at H
                          have c52b0 : (t213 == 2) = true := beq_iff_eq.mpr c52
                          have c52b1 : (t213 != 2) = false := bne_eq_false_iff_eq.mpr c52
                          clear c52
                          replace H := Option.bind_eq_some_iff.mp H
                          obtain ⟨t214, A530, H⟩ := H
                          replace H : (if t214 = 0 then ((clock_Span.f k3 (-1) 0).bind fun t215 => ((slackwaterlaw09_awake.f k3).bind fun t216 => (if t216 = true then (if t215 = 2 then (if t209 = 0 then ((clock_Days.f k3 1 49).bind fun t217 => ((slackwaterkit_SameInts.f k3 t217 (([1] : List Int))).bind fun t223 => (some t223))) else (none)) else (none)) else (none)))) else ((slackwaterlaw09_awake.f k3).bind fun t224 => (if t224 = true then (none) else (none)))) = some r := H
                          have A53 := Aside0.mk A530
                          clear A530
                          by_cases c54 : t214 = 0
                          · rw [if_pos c54] at H
                            have c54b0 : (t214 == 0) = true := beq_iff_eq.mpr c54
                            have c54b1 : (t214 != 0) = false := bne_eq_false_iff_eq.mpr c54
                            clear c54
                            replace H := Option.bind_eq_some_iff.mp H
                            obtain ⟨t215, A550, H⟩ := H
                            replace H : ((slackwaterlaw09_awake.f k3).bind fun t216 => (if t216 = true then (if t215 = 2 then (if t209 = 0 then ((clock_Days.f k3 1 49).bind fun t217 => ((slackwaterkit_SameInts.f k3 t217 (([1] : List Int))).bind fun t223 => (some t223))) else (none)) else (none)) else (none))) = some r := H
                            have A55 := Aside0.mk A550
                            clear A550
                            replace H := Option.bind_eq_some_iff.mp H
                            obtain ⟨t216, A560, H⟩ := H
                            replace H : (if t216 = true then (if t215 = 2 then (if t209 = 0 then ((clock_Days.f k3 1 49).bind fun t217 => ((slackwaterkit_SameInts.f k3 t217 (([1] : List Int))).bind fun t223 => (some t223))) else (none)) else (none)) else (none)) = some r := H
                            have A56 := Aside0.mk A560
                            clear A560
                            by_cases c57 : t216 = true
                            · subst c57
                              have H1 : (if t215 = 2 then (if t209 = 0 then ((clock_Days.f k3 1 49).bind fun t217 => ((slackwaterkit_SameInts.f k3 t217 (([1] : List Int))).bind fun t223 => (some t223))) else (none)) else (none)) = some r := by rw [if_pos rfl] at H; exact H
                              clear H
                              have H := H1
                              clear H1
                              by_cases c58 : t215 = 2
                              · rw [if_pos c58] at H
                                have c58b0 : (t215 == 2) = true := beq_iff_eq.mpr c58
                                have c58b1 : (t215 != 2) = false := bne_eq_false_iff_eq.mpr c58
                                clear c58
                                by_cases c59 : t209 = 0
                                · rw [if_pos c59] at H
                                  have c59b0 : (t209 == 0) = true := beq_iff_eq.mpr c59
                                  have c59b1 : (t209 != 0) = false := bne_eq_false_iff_eq.mpr c59
                                  clear c59
                                  replace H := Option.bind_eq_some_iff.mp H
                                  obtain ⟨t217, A600, H⟩ := H
                                  replace H : ((slackwaterkit_SameInts.f k3 t217 (([1] : List Int))).bind fun t223 => (some t223)) = some r := H
                                  have A60 := Aside0.mk A600
                                  clear A600
                                  obtain ⟨y220, hy220⟩ : ∃ y_ : List Int, y_ = (([1] : List Int)) := ⟨_, rfl⟩
                                  replace H : ((slackwaterkit_SameInts.f k3 t217 y220).bind fun t223 => (some t223)) = some r := by first | (rw [hy220]; with_reducible exact H) | (have H2_ := (Option.bind_some _ _).symm.trans H; rw [hy220]; with_reducible exact H2_) | (have H2_ := (Option.bind_some _ _).symm.trans H; with_reducible exact H2_) | with_reducible exact H | (rw [hy220]; exact H) | exact H
                                  have Ny220 := Aside0.mk hy220
                                  clear hy220
                                  replace H := Option.bind_eq_some_iff.mp H
                                  obtain ⟨t223, A610, H⟩ := H
                                  replace H : (some t223) = some r := H
                                  have A61 := Aside0.mk A610
                                  clear A610
                                  obtain rfl := Option.some.inj H
                                  obtain ⟨Ao62, co62, eo62⟩ := Kd.R_slice HO_15.out
                                  subst eo62
                                  go_wp2_with (first | ((with_reducible refine gate_callee (f := 18) rfl ?_); refine goesL_ (some 117) rfl rfl Tryd.func18 (by kernel_rfl) rfl #[.int .i64 48] rfl (by (try simp only [List.map_toArray, List.map_cons, List.map_nil]); first | done | rfl | (simp only [List.length_drop, List.length_take]; rfl)) ?_; (with_reducible refine (clock_Week.calls 48 t209 t210 _ A46.out).mono ?_); rintro e w' ⟨rfl, ⟨nd, rfl⟩⟩; refine ⟨_, rfl, ?_⟩) | ((with_reducible refine gate_callee (f := 28) rfl ?_); refine goesL_ (some 120) rfl rfl Tryd.func28 (by kernel_rfl) rfl #[.int .i64 0, .int .i64 4096] rfl (by (try simp only [List.map_toArray, List.map_cons, List.map_nil]); first | done | rfl | (simp only [List.length_drop, List.length_take]; rfl)) ?_; (with_reducible refine (clock_Span.calls k3 0 4096 t211 _ A47.out).mono ?_); rintro e w' ⟨rfl, ⟨nd, rfl⟩⟩; refine ⟨_, rfl, ?_⟩) | (go_at_call 28; (with_reducible refine (clock_Span.calls k3 0 4097 t212 _ A49.out).mono ?_); rintro e w' ⟨rfl, ⟨nd, rfl⟩⟩) | (go_at_call 28; (with_reducible refine (clock_Span.calls k3 3 2 t213 _ A51.out).mono ?_); rintro e w' ⟨rfl, ⟨nd, rfl⟩⟩) | (go_at_call 28; (with_reducible refine (clock_Span.calls k3 1048577 1048577 t214 _ A53.out).mono ?_); rintro e w' ⟨rfl, ⟨nd, rfl⟩⟩) | (go_at_call 28; (with_reducible refine (clock_Span.calls k3 (-1) 0 t215 _ A55.out).mono ?_); rintro e w' ⟨rfl, ⟨nd, rfl⟩⟩) | (go_at_call 8; (with_reducible refine (slackwaterlaw09_awake.calls k3  true _ (hL.below (by repeat (first | (with_reducible first | exact HB.out | apply below_alloc | apply pw_below_drewN | apply below_drew1 | refine below_set ?_ GE188.out | refine below_set ?_ GE194.out) | exact HB.out))) A56.out).mono ?_); rintro e w63 ⟨rfl, hb⟩; have n0_ := Aside0.mk (Kd.R_below (by (with_reducible repeat (first | apply Kd.R_alloc | apply Kd.R_drewN | apply Kd.R_drew)); exact HO_15.out) hb); have n1_ := Aside0.mk (blk_below (g := gb188) (o := .cells #[.int .i64 t183, .int .i64 t184, .int .i64 t185, .int .i64 t186] 23 (0, 0)) (by (with_reducible repeat (first | refine blk_drewN ?_ _ | refine blk_drew ?_ | refine blk_alloc ?_ _)); exact BK188.out) hb); have n2_ := Aside0.mk (blk_below (g := gb194) (o := .cells #[.int .i64 t189, .int .i64 t190, .int .i64 t191, .int .i64 t192] 23 (0, 0)) (by (with_reducible repeat (first | refine blk_drewN ?_ _ | refine blk_drew ?_ | refine blk_alloc ?_ _)); exact BK194.out) hb); have n3_ := Aside0.mk (below_step (by repeat (first | (with_reducible first | exact HB.out | apply below_alloc | apply pw_below_drewN | apply below_drew1 | refine below_set ?_ GE188.out | refine below_set ?_ GE194.out) | exact HB.out)) hb); clear HO_15; clear BK188; clear BK194; clear HB; have HO_15 := n0_; have BK188 := n1_; have BK194 := n2_; have HB := n3_; clear n0_ n1_ n2_ n3_; (try clear hb); (try clear hb2); (try clear hk); (try clear hi)) | (go_at_call 31; (with_reducible refine (clock_Days.calls k3 1 49 t217 _ A60.out).mono ?_); rintro e w64 ⟨v218, rfl, ho0, hb⟩; have n0_ := Aside0.mk (Kd.R_below (by (with_reducible repeat (first | apply Kd.R_alloc | apply Kd.R_drewN | apply Kd.R_drew)); exact HO_15.out) hb); have n1_ := Aside0.mk (Kd.R_lower ho0 (below_size (by repeat (first | (with_reducible first | exact HB.out | apply below_alloc | apply pw_below_drewN | apply below_drew1 | refine below_set ?_ GE188.out | refine below_set ?_ GE194.out) | exact HB.out)))); have n2_ := Aside0.mk (blk_below (g := gb188) (o := .cells #[.int .i64 t183, .int .i64 t184, .int .i64 t185, .int .i64 t186] 23 (0, 0)) (by (with_reducible repeat (first | refine blk_drewN ?_ _ | refine blk_drew ?_ | refine blk_alloc ?_ _)); exact BK188.out) hb); have n3_ := Aside0.mk (blk_below (g := gb194) (o := .cells #[.int .i64 t189, .int .i64 t190, .int .i64 t191, .int .i64 t192] 23 (0, 0)) (by (with_reducible repeat (first | refine blk_drewN ?_ _ | refine blk_drew ?_ | refine blk_alloc ?_ _)); exact BK194.out) hb); have n4_ := Aside0.mk (below_step (by repeat (first | (with_reducible first | exact HB.out | apply below_alloc | apply pw_below_drewN | apply below_drew1 | refine below_set ?_ GE188.out | refine below_set ?_ GE194.out) | exact HB.out)) hb); clear HO_15; clear BK188; clear BK194; clear HB; have HO_15 := n0_; have HO219 := n1_; have BK188 := n2_; have BK194 := n3_; have HB := n4_; clear n0_ n1_ n2_ n3_ n4_; (try clear hb); (try clear hb2); (try clear hk); (try clear hi); (try clear ho0)) | ((with_reducible refine gate_dst (N := 150) rfl ?_); (try (refine gate_guard (by rfl) ?_; dsimp only)); refine Kd.R_lit (Kd.int .i64) _ 3 ?hg (N := 150) ?hd (xs := ([1] : List Int)) (inner := [.int .i64 1]) (ok := fun _ => True) (okp := fun _ => True) ?hr ?hp (fun _ hk => hk) trivial (Below.refl _ _) (Nat.le_refl _) (by simp) ?_; (case hd => rfl); (case hg => rfl); (case hr => first | (go_simp; done) | (go_simp; rfl)); (case hp => exact (Reps.one (show Kd.M (Kd.int .i64) _ _ _ 1 [.int .i64 1] from rfl) (Reps.none _ _))); intro v221 w65 ho66 hb hg_ hnew_; clear hg_ hnew_; (first | rw [← Ny220.out] at ho66 | (simp only [Int.reduceToNat] at ho66; rw [← Ny220.out] at ho66)); have n0_ := Aside0.mk (Kd.R_below (by (with_reducible repeat (first | apply Kd.R_alloc | apply Kd.R_drewN | apply Kd.R_drew)); exact HO_15.out) hb); have n1_ := Aside0.mk (Kd.R_elder' (by (with_reducible repeat (first | apply Kd.R_alloc | apply Kd.R_drewN | apply Kd.R_drew)); exact HO219.out) (Kd.R_base ho66) hb); have n2_ := Aside0.mk (Kd.R_lower (Kd.R_new' ho66 (Kd.R_lt (by (with_reducible repeat (first | apply Kd.R_alloc | apply Kd.R_drewN | apply Kd.R_drew)); exact HO219.out))) (below_size (by repeat (first | (with_reducible first | exact HB.out | apply below_alloc | apply pw_below_drewN | apply below_drew1 | refine below_set ?_ GE188.out | refine below_set ?_ GE194.out) | exact HB.out)))); have n3_ := Aside0.mk (blk_below (g := gb188) (o := .cells #[.int .i64 t183, .int .i64 t184, .int .i64 t185, .int .i64 t186] 23 (0, 0)) (by (with_reducible repeat (first | refine blk_drewN ?_ _ | refine blk_drew ?_ | refine blk_alloc ?_ _)); exact BK188.out) hb); have n4_ := Aside0.mk (blk_below (g := gb194) (o := .cells #[.int .i64 t189, .int .i64 t190, .int .i64 t191, .int .i64 t192] 23 (0, 0)) (by (with_reducible repeat (first | refine blk_drewN ?_ _ | refine blk_drew ?_ | refine blk_alloc ?_ _)); exact BK194.out) hb); have n5_ := Aside0.mk (below_step (by repeat (first | (with_reducible first | exact HB.out | apply below_alloc | apply pw_below_drewN | apply below_drew1 | refine below_set ?_ GE188.out | refine below_set ?_ GE194.out) | exact HB.out)) hb); clear HO_15; clear HO219; clear BK188; clear BK194; clear HB; have HO_15 := n0_; have HO219 := n1_; have HO222 := n2_; have BK188 := n3_; have BK194 := n4_; have HB := n5_; clear n0_ n1_ n2_ n3_ n4_ n5_; clear hb ho66; obtain ⟨Ao67, co67, eo67⟩ := Kd.R_slice HO219.out; subst eo67; obtain ⟨Ao68, co68, eo68⟩ := Kd.R_slice HO222.out; subst eo68) | (go_at_call 30; (with_reducible refine (slackwaterkit_SameInts.calls k3 _ _ t217 _ _ y220 t223 _ ?side1 ?side2 ?side3 ?side4 A61.out).mono ?_); (case side1 => repeat (first | exact (Kd.R_reads' HO219.out).2.2 | (with_reducible refine Kd.C_alloc ?_ _) | (with_reducible refine Kd.C_drewN ?_ _) | (with_reducible refine Kd.C_drew ?_))); (case side2 => exact (Kd.R_reads' HO219.out).2.1); (case side3 => repeat (first | exact (Kd.R_reads' HO222.out).2.2 | (with_reducible refine Kd.C_alloc ?_ _) | (with_reducible refine Kd.C_drewN ?_ _) | (with_reducible refine Kd.C_drew ?_))); (case side4 => exact (Kd.R_reads' HO222.out).2.1); rintro e w' ⟨rfl, ⟨nd, rfl⟩⟩))
                                  go_ret
                                  exact ⟨by first | rfl | (simp [errW_none, errW_some] <;> rfl) | (simp [*, errW_none, errW_some] <;> rfl), by repeat (first | (with_reducible first | exact HB.out | apply below_alloc | apply pw_below_drewN | apply below_drew1 | refine below_set ?_ GE188.out | refine below_set ?_ GE194.out) | exact HB.out)⟩
                                · rw [if_neg c59] at H
                                  exact absurd H (by simp)
                              · rw [if_neg c58] at H
                                exact absurd H (by simp)
                            · replace c57 := Bool.eq_false_iff.mpr c57
                              subst c57
                              have H1 : (none) = some r := by rw [if_neg (show ¬ (false = true) by decide)] at H; exact H
                              clear H
                              have H := H1
                              clear H1
                              exact absurd H (by simp)
                          · rw [if_neg c54] at H
                            have c54b0 : (t214 == 0) = false := beq_eq_false_iff_ne.mpr c54
                            have c54b1 : (t214 != 0) = true := bne_iff_ne.mpr c54
                            replace H := Option.bind_eq_some_iff.mp H
                            obtain ⟨t224, A690, H⟩ := H
                            replace H : (if t224 = true then (none) else (none)) = some r := H
                            have A69 := Aside0.mk A690
                            clear A690
                            by_cases c70 : t224 = true
                            · subst c70
                              have H1 : (none) = some r := by rw [if_pos rfl] at H; exact H
                              clear H
                              have H := H1
                              clear H1
                              exact absurd H (by simp)
                            · replace c70 := Bool.eq_false_iff.mpr c70
                              subst c70
                              have H1 : (none) = some r := by rw [if_neg (show ¬ (false = true) by decide)] at H; exact H
                              clear H
                              have H := H1
                              clear H1
                              exact absurd H (by simp)
                        · rw [if_neg c52] at H
                          have c52b0 : (t213 == 2) = false := beq_eq_false_iff_ne.mpr c52
                          have c52b1 : (t213 != 2) = true := bne_iff_ne.mpr c52
                          replace H := Option.bind_eq_some_iff.mp H
                          obtain ⟨t225, A710, H⟩ := H
                          replace H : (if t225 = true then (none) else (none)) = some r := H
                          have A71 := Aside0.mk A710
                          clear A710
                          by_cases c72 : t225 = true
                          · subst c72
                            have H1 : (none) = some r := by rw [if_pos rfl] at H; exact H
                            clear H
                            have H := H1
                            clear H1
                            exact absurd H (by simp)
                          · replace c72 := Bool.eq_false_iff.mpr c72
                            subst c72
                            have H1 : (none) = some r := by rw [if_neg (show ¬ (false = true) by decide)] at H; exact H
                            clear H
                            have H := H1
                            clear H1
                            exact absurd H (by simp)
                      · rw [if_neg c50] at H
                        have c50b0 : (t212 == 3) = false := beq_eq_false_iff_ne.mpr c50
                        have c50b1 : (t212 != 3) = true := bne_iff_ne.mpr c50
                        replace H := Option.bind_eq_some_iff.mp H
                        obtain ⟨t226, A730, H⟩ := H
                        replace H : (if t226 = true then (none) else (none)) = some r := H
                        have A73 := Aside0.mk A730
                        clear A730
                        by_cases c74 : t226 = true
                        · subst c74
                          have H1 : (none) = some r := by rw [if_pos rfl] at H; exact H
                          clear H
                          have H := H1
                          clear H1
                          exact absurd H (by simp)
                        · replace c74 := Bool.eq_false_iff.mpr c74
                          subst c74
                          have H1 : (none) = some r := by rw [if_neg (show ¬ (false = true) by decide)] at H; exact H
                          clear H
                          have H := H1
                          clear H1
                          exact absurd H (by simp)
                    · rw [if_neg c48] at H
                      have c48b0 : (t211 == 0) = false := beq_eq_false_iff_ne.mpr c48
                      have c48b1 : (t211 != 0) = true := bne_iff_ne.mpr c48
                      replace H := Option.bind_eq_some_iff.mp H
                      obtain ⟨t227, A750, H⟩ := H
                      replace H : (if t227 = true then (none) else (none)) = some r := H
                      have A75 := Aside0.mk A750
                      clear A750
                      by_cases c76 : t227 = true
                      · subst c76
                        have H1 : (none) = some r := by rw [if_pos rfl] at H; exact H
                        clear H
                        have H := H1
                        clear H1
                        exact absurd H (by simp)
                      · replace c76 := Bool.eq_false_iff.mpr c76
                        subst c76
                        have H1 : (none) = some r := by rw [if_neg (show ¬ (false = true) by decide)] at H; exact H
                        clear H
                        have H := H1
                        clear H1
                        exact absurd H (by simp)

/-- THE ONE PURE STATEMENT of slackwaterlaw09_ClockNames: yours. -/
def slackwaterlaw09_ClockNames.Pure : Prop := ∃ k, slackwaterlaw09_ClockNames.f k  = some true
theorem slackwaterlaw09_ClockNames.walk (P : slackwaterlaw09_ClockNames.Pure)  (w : World) (hL : LW w)  :
    Calls Tryd.prog 6 #[] w fun e w' => e = .returned (.bool true) ∧ Below w.heap.size w w' := by
  obtain ⟨k, h⟩ := P  
  refine (slackwaterlaw09_ClockNames.calls k  true w hL h).mono ?_
  rintro e w' ⟨rfl, hd⟩
  exact ⟨rfl, hd⟩

end Go.Proofs.YtipkjbfbcdadkaaDoor.PK9
