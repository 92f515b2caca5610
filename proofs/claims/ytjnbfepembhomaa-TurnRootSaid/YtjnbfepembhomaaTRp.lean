/- The plain law of TurnRoot: the numbers at a turn, a quarter and half a turn further, and at the way back. -/
import Derived.Test.YtjnbfepembhomaaTGa
import Derived.Test.YtjnbfepembhomaaFlT
set_option linter.unusedVariables false
set_option linter.unusedSimpArgs false
namespace Go.Proofs.Ytjnbfepembhomaa.TG
open Go Go.RowKit Go.Proofs.Ytjnbfepembhomaa.PTG Go.Proofs.YtjnbfepembhomaaW.PrintWords Fl
theorem over_s1 : turn_over.v 4753323511810883584 = some 4460272573143870729 := by decide +kernel
theorem ser_sin (q : Nat) : turn_series.v turn_sines.l q = Fl.go q sinW sin0 := by
  unfold turn_sines.l
  simp only [turn_series.v, turn_series.go]
  rw [show turn_over.v 14011551075333570560 = some sin0 from by decide +kernel, over_s1, show turn_over.v 13943998388916715520 = some 13716528800881525988 from by decide +kernel, show turn_over.v 4689977843394805760 = some 4523617214285662004 from by decide +kernel,
    show turn_over.v 13885635590159859712 = some 13774824197408792602 from by decide +kernel, show turn_over.v 4638144666238189568 = some 4575957461383581969 from by decide +kernel, show turn_over.v 13841813454723219456 = some 13818544856648471893 from by decide +kernel]
  rfl
theorem ser_cos (q : Nat) : turn_series.v turn_cosines.l q = Fl.go q cosW cos0 := by
  unfold turn_cosines.l
  simp only [turn_series.v, turn_series.go]
  rw [show turn_over.v 4806193436988276736 = some cos0 from by decide +kernel, show turn_over.v 13993893759104843776 = some 13666517717442657437 from by decide +kernel, show turn_over.v 4736815922046566400 = some 4477122120089393304 from by decide +kernel, show turn_over.v 13928419236864065536 = some 13732177094651715420 from by decide +kernel,
    show turn_over.v 4675774352187195392 = some 4537941361671905306 from by decide +kernel, show turn_over.v 13872916439649746944 = some 13787419979223755799 from by decide +kernel, show turn_over.v 4627448617123184640 = some 4586165620538955093 from by decide +kernel, show turn_over.v 13835058055282163712 = some 13826050856027422720 from by decide +kernel]
  rfl
theorem fl_at (e a u : Int) {s c : Nat} (h : rootf a u = some (s, c)) : turn_Root.fl e a u = some (turn_plus.v (turn_placed.v e s c).1, turn_plus.v (turn_placed.v e s c).2) := by
  unfold rootf at h
  obtain ⟨f, hf, h⟩ := Option.bind_eq_some_iff.mp h
  obtain ⟨y, hy, h⟩ := Option.bind_eq_some_iff.mp h
  obtain ⟨q, hq, h⟩ := Option.bind_eq_some_iff.mp h
  obtain ⟨yq, hyq, h⟩ := Option.bind_eq_some_iff.mp h
  obtain ⟨S, hS, h⟩ := Option.bind_eq_some_iff.mp h
  obtain ⟨t, ht, h⟩ := Option.bind_eq_some_iff.mp h
  obtain ⟨s', hs, h⟩ := Option.bind_eq_some_iff.mp h
  obtain ⟨C, hC, h⟩ := Option.bind_eq_some_iff.mp h
  obtain ⟨m, hm, h⟩ := Option.bind_eq_some_iff.mp h
  obtain ⟨c', hc, h⟩ := Option.bind_eq_some_iff.mp h
  have h1 : s' = s ∧ c' = c := by
    have := Option.some.inj h
    exact ⟨congrArg Prod.fst this, congrArg Prod.snd this⟩
  clear h
  obtain ⟨rfl, rfl⟩ := h1
  have hS' : turn_series.v turn_sines.l q = some S := (ser_sin q).trans hS
  have hC' : turn_series.v turn_cosines.l q = some C := (ser_cos q).trans hC
  clear hS hC
  unfold turn_Root.fl
  rw [hf, Option.bind_some, hy, Option.bind_some, hq, Option.bind_some, hyq, Option.bind_some]
  rw [hS', Option.bind_some, ht, Option.bind_some, hs, Option.bind_some, hC', Option.bind_some, hm, Option.bind_some, hc, Option.bind_some]
/-! ### numbers -/
theorem ord_eq {v w : Nat} {x y : Rat} (h : Is v x) (h' : Is w y) : (FloatKind.f64.format.order v w == some .eq) = decide (x = y) := by
  have e : FloatKind.f64.format.order v w = Ieee.double.order v w := rfl
  rw [e, order_is h h']
  by_cases h1 : x < y
  · rw [if_pos h1, decide_eq_false (by intro e; subst e; exact Rat.lt_irrefl h1)]; rfl
  · rw [if_neg h1]
    by_cases h2 : x = y
    · rw [if_pos h2, decide_eq_true h2]; rfl
    · rw [if_neg h2, decide_eq_false h2]; rfl
theorem ord_gt {v w : Nat} {x y : Rat} (h : Is v x) (h' : Is w y) (hle : x ≤ y) : (FloatKind.f64.format.order v w == some .gt) = false := by
  have e : FloatKind.f64.format.order v w = Ieee.double.order v w := rfl
  rw [e, order_is h h']
  by_cases h1 : x < y
  · rw [if_pos h1]; rfl
  · rw [if_neg h1, if_pos (by grind)]; rfl
theorem ord_lt {v w : Nat} {x y : Rat} (h : Is v x) (h' : Is w y) (hle : y ≤ x) : (FloatKind.f64.format.order v w == some .lt) = false := by
  have e : FloatKind.f64.format.order v w = Ieee.double.order v w := rfl
  rw [e, order_is h h', if_neg (by grind)]
  split <;> rfl
theorem zero_is : Is 0 0 := ⟨false, 0, -1074, by decide +kernel, by decide +kernel⟩
theorem plus_is {w : Nat} {x : Rat} (h : Is w x) : Is (turn_plus.v w) x := by
  unfold turn_plus.v
  rw [ord_eq h zero_is]
  by_cases h0 : x = 0
  · subst h0
    simp only [decide_true, if_true]
    exact zero_is
  · rw [decide_eq_false h0, if_neg (by simp)]
    exact h
def pv (e : Int) (s c : Rat) : Rat × Rat :=
  if e = 1 then (s, c) else if e = 2 then (-s, c) else if e = 3 then (-c, s) else if e = 4 then (-c, -s)
  else if e = 5 then (-s, -c) else if e = 6 then (s, -c) else if e = 7 then (c, -s) else (c, s)
theorem placed_is (e : Int) {s c : Nat} {S C : Rat} (hs : Is s S) (hc : Is c C) : Is (turn_placed.v e s c).1 (pv e S C).1 ∧ Is (turn_placed.v e s c).2 (pv e S C).2 := by
  have ns := neg_is hs
  have nc := neg_is hc
  unfold turn_placed.v pv
  repeat' split
  all_goals exact ⟨by assumption, by assumption⟩
theorem pv_ab (e : Int) {S C : Rat} (hs : Ab S 1) (hc : Ab C 1) : Ab (pv e S C).1 1 ∧ Ab (pv e S C).2 1 := by
  obtain ⟨a, b⟩ := hs
  obtain ⟨c, d⟩ := hc
  unfold pv
  repeat' split
  all_goals exact ⟨by constructor <;> (dsimp only; grind), by constructor <;> (dsimp only; grind)⟩
theorem pv_sq (e : Int) (S C : Rat) : (pv e S C).1 * (pv e S C).1 + (pv e S C).2 * (pv e S C).2 = S * S + C * C := by
  unfold pv
  repeat' split
  all_goals (dsimp only; try grind)
/-! ### parts of an eighth -/
def ei (p u : Int) : Int := 8 * p / u
def ai (p u : Int) : Int := if ei p u % 2 = 1 then u - 8 * p % u else 8 * p % u
theorem rootf_twoI (a u : Int) (h0 : 0 < u) (h1 : u < 2 ^ 48) (ha : 0 ≤ a) (hb : a < 2 ^ 48) : rootf (2 * a) (2 * u) = rootf a u := by
  obtain ⟨a, rfl⟩ := Int.eq_ofNat_of_zero_le ha
  obtain ⟨u, rfl⟩ := Int.eq_ofNat_of_zero_le (Int.le_of_lt h0)
  have := rootf_two a u (by omega) (by omega) (by omega)
  rw [Int.natCast_mul, Int.natCast_mul] at this
  exact this
theorem ei_at {p u E r : Int} (u0 : 0 < u) (r0 : 0 ≤ r) (r1 : r < u) (h : 8 * p = E * u + r) : ei p u = E ∧ 8 * p % u = r := by
  have := (Int.ediv_emod_unique (a := 8 * p) (b := u) (r := r) (q := E) u0).2 ⟨by rw [Int.mul_comm u E]; omega, r0, r1⟩
  exact this
theorem shift {p u p' u' h m : Int} (hp : Ok p u) (hp' : Ok p' u') (hs : 4 * p' * u = (4 * p + h * u + 4 * m * u) * u') :
    ei p' u' = ei p u + 2 * h + 8 * m ∧ rootf (ai p' u') u' = rootf (ai p u) u := by
  obtain ⟨⟨p0, pu, co⟩, u1⟩ := hp
  obtain ⟨⟨p0', pu', co'⟩, u1'⟩ := hp'
  have u0 : 0 < u := by omega
  have u0' : 0 < u' := by omega
  have hd : u * ei p u + 8 * p % u = 8 * p := Int.mul_ediv_add_emod (8 * p) u
  have m0 : 0 ≤ 8 * p % u := Int.emod_nonneg _ (by omega)
  have m1 : 8 * p % u < u := Int.emod_lt_of_pos _ u0
  generalize hA : 8 * p % u = A at *
  generalize hE : ei p u = e at *
  generalize hr : 8 * p' - (e + 2 * h + 8 * m) * u' = r
  have hru : r * u = A * u' := by
    have : 2 * (4 * p' * u) = 2 * ((4 * p + h * u + 4 * m * u) * u') := by rw [hs]
    rw [← hr]
    grind
  have r0 : 0 ≤ r := by
    have h1 : 0 ≤ A * u' := Int.mul_nonneg m0 (by omega)
    rw [← hru] at h1
    by_cases h2 : r < 0
    · have := Int.mul_neg_of_neg_of_pos h2 u0; omega
    · omega
  have r1 : r < u' := by
    have h1 : A * u' < u * u' := Int.mul_lt_mul_of_pos_right m1 u0'
    rw [← hru, Int.mul_comm u u'] at h1
    exact Int.lt_of_mul_lt_mul_right h1 (by omega)
  obtain ⟨e1, e2⟩ := ei_at (p := p') (E := e + 2 * h + 8 * m) u0' r0 r1 (by omega)
  refine ⟨e1, ?_⟩
  -- the wholes are apart by a power of two
  have d1 : u' ∣ 4 * u := dvd_of_co co' ⟨4 * p + h * u + 4 * m * u, by rw [Int.mul_comm u' _, ← hs]; grind⟩
  have d2 : u ∣ 4 * u' := dvd_of_co co ⟨4 * p' - (h + 4 * m) * u', by grind⟩
  obtain ⟨x, hx⟩ := d1
  obtain ⟨z, hz⟩ := d2
  have hxz : z * x = 16 := by
    have : u * (z * x) = u * 16 := by
      have : 4 * (4 * u) = 4 * (u' * x) := by rw [hx]
      grind
    exact Int.eq_of_mul_eq_mul_left (by omega) this
  have x0 : 0 < x := by
    by_cases h1 : x ≤ 0
    · have : u' * x ≤ 0 := Int.mul_nonpos_of_nonneg_of_nonpos (by omega) h1
      omega
    · omega
  have z0 : 0 < z := by
    by_cases h1 : z ≤ 0
    · have : u * z ≤ 0 := Int.mul_nonpos_of_nonneg_of_nonpos (by omega) h1
      omega
    · omega
  have x16 : x ≤ 16 := by
    have : 1 * x ≤ z * x := Int.mul_le_mul_of_nonneg_right (by omega) (by omega)
    omega
  have hpar : (e + 2 * h + 8 * m) % 2 = e % 2 := by omega
  have hx5 : x = 1 ∨ x = 2 ∨ x = 4 ∨ x = 8 ∨ x = 16 := by
    have : x = 1 ∨ x = 2 ∨ x = 3 ∨ x = 4 ∨ x = 5 ∨ x = 6 ∨ x = 7 ∨ x = 8 ∨ x = 9 ∨ x = 10 ∨ x = 11 ∨ x = 12 ∨ x = 13 ∨ x = 14 ∨ x = 15 ∨ x = 16 := by omega
    rcases this with rfl | rfl | rfl | rfl | rfl | rfl | rfl | rfl | rfl | rfl | rfl | rfl | rfl | rfl | rfl | rfl <;> omega
  have key : ∀ b b' : Int, 0 ≤ b → b ≤ u → b' * u = b * u' → rootf b' u' = rootf b u := by
    intro b b' b0 b1 hb
    rcases hx5 with rfl | rfl | rfl | rfl | rfl
    · have hu : u' = 4 * u := by omega
      subst hu
      have : b' = 4 * b := Int.eq_of_mul_eq_mul_right (show u ≠ 0 by omega) (by rw [hb]; grind)
      subst this
      rw [show 4 * b = 2 * (2 * b) by omega, show 4 * u = 2 * (2 * u) by omega, rootf_twoI (2 * b) (2 * u) (by omega) (by omega) (by omega) (by omega), rootf_twoI b u (by omega) (by omega) (by omega) (by omega)]
    · have hu : u' = 2 * u := by omega
      subst hu
      have : b' = 2 * b := Int.eq_of_mul_eq_mul_right (show u ≠ 0 by omega) (by rw [hb]; grind)
      subst this
      rw [rootf_twoI b u (by omega) (by omega) (by omega) (by omega)]
    · have hu : u' = u := by omega
      subst hu
      have : b' = b := Int.eq_of_mul_eq_mul_right (show u' ≠ 0 by omega) (by rw [hb])
      subst this
      rfl
    · have hu : u = 2 * u' := by omega
      subst hu
      have : 2 * b' = b := Int.eq_of_mul_eq_mul_right (show u' ≠ 0 by omega) (by rw [← hb]; grind)
      subst this
      rw [rootf_twoI b' u' (by omega) (by omega) (by omega) (by omega)]
    · have hu : u = 4 * u' := by omega
      subst hu
      have : 4 * b' = b := Int.eq_of_mul_eq_mul_right (show u' ≠ 0 by omega) (by rw [← hb]; grind)
      subst this
      rw [show 4 * b' = 2 * (2 * b') by omega, show 4 * u' = 2 * (2 * u') by omega, rootf_twoI (2 * b') (2 * u') (by omega) (by omega) (by omega) (by omega), rootf_twoI b' u' (by omega) (by omega) (by omega) (by omega)]
  unfold ai
  rw [e1, e2, hpar, hE, hA]
  by_cases ho : e % 2 = 1
  · rw [if_pos ho, if_pos ho]
    exact key _ _ (by omega) (by omega) (by grind)
  · rw [if_neg ho, if_neg ho]
    exact key _ _ m0 (by omega) hru
theorem ei_bd {p u : Int} (h : Ok p u) : 0 ≤ ei p u ∧ ei p u ≤ 7 := by
  obtain ⟨⟨p0, pu, co⟩, u1⟩ := h
  have u0 : 0 < u := by omega
  refine ⟨Int.ediv_nonneg (by omega) (by omega), ?_⟩
  have : 8 * p / u < 8 := Int.ediv_lt_of_lt_mul u0 (by omega)
  unfold ei
  omega
theorem ai_bd {p u : Int} (h : Ok p u) : 0 ≤ ai p u ∧ ai p u ≤ u := by
  obtain ⟨⟨p0, pu, co⟩, u1⟩ := h
  have u0 : 0 < u := by omega
  have m0 : 0 ≤ 8 * p % u := Int.emod_nonneg _ (by omega)
  have m1 : 8 * p % u < u := Int.emod_lt_of_pos _ u0
  unfold ai
  split <;> omega
/-- the number at a turn, as the call tells it -/
def RootAt (p u : Int) (x y : Nat) : Prop := ∀ w : World, Calls Try.prog 5 #[.agg #[.int .i64 p, .int .i64 u]] w fun e' w' => e' = .returned (.tuple #[.complex .f64 x y, .int .i64 0]) ∧ Below w.heap.size w w'
theorem root_at (k : Nat) (hk : big ≤ k) {p u : Int} (h : Ok p u) {s c : Nat} (hr : rootf (ai p u) u = some (s, c)) : RootAt p u (turn_plus.v (turn_placed.v (ei p u) s c).1) (turn_plus.v (turn_placed.v (ei p u) s c).2) := fun w =>
  turn_Root.fine k p u (ei p u) (ai p u) (8 * p % u) _ _ w (chk_ok k hk h) h.p0 h.pw h.top rfl rfl rfl (fl_at _ _ _ hr)
theorem pv_two (e m : Int) (S C : Rat) (h0 : 0 ≤ e ∧ e ≤ 7) (h1 : 0 ≤ e + 2 * 1 + 8 * m ∧ e + 2 * 1 + 8 * m ≤ 7) : pv (e + 2 * 1 + 8 * m) S C = (-(pv e S C).2, (pv e S C).1) := by
  have hm : m = 0 ∨ m = -1 := by omega
  have he : e = 0 ∨ e = 1 ∨ e = 2 ∨ e = 3 ∨ e = 4 ∨ e = 5 ∨ e = 6 ∨ e = 7 := by omega
  rcases hm with rfl | rfl <;> rcases he with rfl | rfl | rfl | rfl | rfl | rfl | rfl | rfl <;> first | omega | (simp (config := {decide := true}) [pv, Rat.neg_neg])
theorem pv_four (e m : Int) (S C : Rat) (h0 : 0 ≤ e ∧ e ≤ 7) (h1 : 0 ≤ e + 2 * 2 + 8 * m ∧ e + 2 * 2 + 8 * m ≤ 7) : pv (e + 2 * 2 + 8 * m) S C = (-(pv e S C).1, -(pv e S C).2) := by
  have hm : m = 0 ∨ m = -1 := by omega
  have he : e = 0 ∨ e = 1 ∨ e = 2 ∨ e = 3 ∨ e = 4 ∨ e = 5 ∨ e = 6 ∨ e = 7 := by omega
  rcases hm with rfl | rfl <;> rcases he with rfl | rfl | rfl | rfl | rfl | rfl | rfl | rfl <;> first | omega | (simp (config := {decide := true}) [pv, Rat.neg_neg])
theorem pv_back (e : Int) (S C : Rat) (h0 : 0 ≤ e ∧ e ≤ 7) : pv (7 - e) S C = ((pv e S C).1, -(pv e S C).2) := by
  have he : e = 0 ∨ e = 1 ∨ e = 2 ∨ e = 3 ∨ e = 4 ∨ e = 5 ∨ e = 6 ∨ e = 7 := by omega
  rcases he with rfl | rfl | rfl | rfl | rfl | rfl | rfl | rfl <;> (simp (config := {decide := true}) [pv, Rat.neg_neg])
theorem same_eq {p u p' u' h m : Int} (u0 : 0 < u) (u0' : 0 < u') (e : q p' u' = q p u + q h 4 + m) : 4 * p' * u = (4 * p + h * u + 4 * m * u) * u' := by
  have n1 := cast_ne u0
  have n2 := cast_ne u0'
  unfold q at e
  have e1 : (4 : Rat) * p' * u = (4 * p + h * u + 4 * m * u) * u' := by
    have : ((4 : Int) : Rat) = 4 := rfl
    rw [this] at e
    grind
  exact_mod_cast e1
theorem quarter (k : Nat) (hk : big ≤ k) {p u p' u' : Int} (h : Ok p u) (h' : Ok p' u') (hs : Same (q p' u') (q p u + q 1 4)) {s c : Nat} {S C : Rat} (hr : rootf (ai p u) u = some (s, c)) (iS : Is s S) (iC : Is c C) :
    ∃ x y, RootAt p' u' x y ∧ Is x (-(pv (ei p u) S C).2) ∧ Is y (pv (ei p u) S C).1 := by
  obtain ⟨m, hm⟩ := hs
  obtain ⟨e1, e2⟩ := shift h h' (same_eq (by have := h.p0; have := h.pw; omega) (by have := h'.p0; have := h'.pw; omega) hm)
  rw [hr] at e2
  refine ⟨_, _, root_at k hk h' e2, ?_, ?_⟩
  · have := plus_is (placed_is (ei p' u') iS iC).1
    have hb := ei_bd h'
    rw [e1] at this hb ⊢
    rwa [pv_two _ _ S C (ei_bd h) hb] at this
  · have := plus_is (placed_is (ei p' u') iS iC).2
    have hb := ei_bd h'
    rw [e1] at this hb ⊢
    rwa [pv_two _ _ S C (ei_bd h) hb] at this
theorem q24 : q 1 2 = q 2 4 := by decide +kernel
theorem half (k : Nat) (hk : big ≤ k) {p u p' u' : Int} (h : Ok p u) (h' : Ok p' u') (hs : Same (q p' u') (q p u + q 1 2)) {s c : Nat} {S C : Rat} (hr : rootf (ai p u) u = some (s, c)) (iS : Is s S) (iC : Is c C) :
    ∃ x y, RootAt p' u' x y ∧ Is x (-(pv (ei p u) S C).1) ∧ Is y (-(pv (ei p u) S C).2) := by
  rw [q24] at hs
  obtain ⟨m, hm⟩ := hs
  obtain ⟨e1, e2⟩ := shift h h' (same_eq (by have := h.p0; have := h.pw; omega) (by have := h'.p0; have := h'.pw; omega) hm)
  rw [hr] at e2
  refine ⟨_, _, root_at k hk h' e2, ?_, ?_⟩
  · have := plus_is (placed_is (ei p' u') iS iC).1
    have hb := ei_bd h'
    rw [e1] at this hb ⊢
    rwa [pv_four _ _ S C (ei_bd h) hb] at this
  · have := plus_is (placed_is (ei p' u') iS iC).2
    have hb := ei_bd h'
    rw [e1] at this hb ⊢
    rwa [pv_four _ _ S C (ei_bd h) hb] at this
theorem rootf_0 (u : Int) (h : u = 1 ∨ u = 2 ∨ u = 4) : rootf 0 u = some (0, 4607182418800017408) := by
  rcases h with rfl | rfl | rfl <;> decide +kernel
/-- the way back -/
theorem back (k : Nat) (hk : big ≤ k) {p u : Int} (h : Ok p u) {s c : Nat} {S C : Rat} (hr : rootf (ai p u) u = some (s, c)) (iS : Is s S) (iC : Is c C) :
    ∃ p' x y X Y, turn_Neg.f k p u = some (p', u, 0) ∧ RootAt p' u x y ∧ Is x X ∧ Is y Y ∧ (u ≠ 8 → X = (pv (ei p u) S C).1 ∧ Y = -(pv (ei p u) S C).2) := by
  obtain ⟨p', hp', hs, hf⟩ := neg k hk h
  have u0 : 0 < u := by have := h.p0; have := h.pw; omega
  have n1 := cast_ne u0
  have m0 : 0 ≤ 8 * p % u := Int.emod_nonneg _ (by omega)
  have m1 : 8 * p % u < u := Int.emod_lt_of_pos _ u0
  have hd : u * ei p u + 8 * p % u = 8 * p := Int.mul_ediv_add_emod (8 * p) u
  obtain ⟨m, hm⟩ := hs
  have hpm : p' = -p + m * u := by
    unfold q at hm
    have : (p' : Rat) = -p + m * u := by grind
    exact_mod_cast this
  by_cases hA : 8 * p % u = 0
  · -- a quarter turn's many
    have hdv : u ∣ 8 := dvd_of_co h.co ⟨ei p u, by rw [Int.mul_comm p 8]; omega⟩
    have hu : u ≤ 8 := Int.le_of_dvd (by omega) hdv
    by_cases h8 : u = 8
    · obtain ⟨s', c', X, Z, hr', i1, i2, _⟩ := root_num (ai p' u) u (ai_bd hp').1 (ai_bd hp').2 (by omega) h.top
      have i3 := placed_is (ei p' u) i1 i2
      exact ⟨p', _, _, _, _, hf, root_at k hk hp' hr', plus_is i3.1, plus_is i3.2, fun hne => absurd h8 hne⟩
    · have hu3 : u = 1 ∨ u = 2 ∨ u = 4 := by
        have : u = 1 ∨ u = 2 ∨ u = 3 ∨ u = 4 ∨ u = 5 ∨ u = 6 ∨ u = 7 := by omega
        obtain ⟨z, hz⟩ := hdv
        rcases this with rfl | rfl | rfl | rfl | rfl | rfl | rfl <;> omega
      have h4 : ei p u % 2 = 0 := by
        rcases hu3 with rfl | rfl | rfl
        · omega
        · omega
        · omega
      have ha : ai p u = 0 := by unfold ai; rw [if_neg (by omega), hA]
      have hA' : 8 * p' % u = 0 := by
        rw [hpm, show 8 * (-p + m * u) = -(u * ei p u) + u * (8 * m) by rw [show u * ei p u = 8 * p by omega]; grind]
        rw [← Int.mul_neg, ← Int.mul_add]
        exact Int.mul_emod_right _ _
      have hd' : u * ei p' u + 8 * p' % u = 8 * p' := Int.mul_ediv_add_emod (8 * p') u
      have h4' : ei p' u % 2 = 0 := by
        rcases hu3 with rfl | rfl | rfl
        · omega
        · omega
        · omega
      have ha' : ai p' u = 0 := by unfold ai; rw [if_neg (by omega), hA']
      rw [ha, rootf_0 u hu3] at hr
      have hr' : rootf (ai p' u) u = some (0, 4607182418800017408) := by rw [ha', rootf_0 u hu3]
      have e12 : 0 = s ∧ 4607182418800017408 = c := by
        have := Option.some.inj hr
        exact ⟨congrArg Prod.fst this, congrArg Prod.snd this⟩
      obtain ⟨rfl, rfl⟩ := e12
      have S0 := Is.inj iS zero_is
      subst S0
      have i3 := placed_is (ei p' u) iS iC
      refine ⟨p', _, _, _, _, hf, root_at k hk hp' hr', plus_is i3.1, plus_is i3.2, fun _ => ?_⟩
      have hb := ei_bd h
      have hb' := ei_bd hp'
      have hp0 := h.p0
      have hpw := h.pw
      have hp0' := hp'.p0
      have hpw' := hp'.pw
      have hee : (ei p u = 0 ∧ ei p' u = 0) ∨ (ei p u = 4 ∧ ei p' u = 4) ∨ (ei p u = 2 ∧ ei p' u = 6) ∨ (ei p u = 6 ∧ ei p' u = 2) := by
        have hc := h.co
        rcases hu3 with rfl | rfl | rfl
        · left; omega
        · have : p = 1 := by
            by_cases hz : p = 0
            · subst hz; exact absurd hc (by decide)
            · omega
          right; left; omega
        · have : p = 1 ∨ p = 3 := by
            have : p = 0 ∨ p = 1 ∨ p = 2 ∨ p = 3 := by omega
            rcases this with rfl | rfl | rfl | rfl
            · exact absurd hc (by decide)
            · exact .inl rfl
            · exact absurd hc (by decide)
            · exact .inr rfl
          rcases this with rfl | rfl
          · right; right; left; omega
          · right; right; right; omega
      rcases hee with ⟨e1, e2⟩ | ⟨e1, e2⟩ | ⟨e1, e2⟩ | ⟨e1, e2⟩ <;> rw [e1, e2] <;> simp (config := {decide := true}) [pv, Rat.neg_neg]
  · have hm1 : m = 1 := by
      have hp0 := h.p0
      have hpw := h.pw
      have hp0' := hp'.p0
      have hpw' := hp'.pw
      have hpne : p ≠ 0 := by rintro rfl; simp at hA
      have h1 : m * u < 2 * u := by omega
      have h2 : 0 * u < m * u := by omega
      have h3 := Int.lt_of_mul_lt_mul_right h1 (by omega)
      have h4 := Int.lt_of_mul_lt_mul_right h2 (by omega)
      omega
    subst hm1
    obtain ⟨e1, e2⟩ := ei_at (p := p') (E := 7 - ei p u) (r := u - 8 * p % u) u0 (by omega) (by omega) (by
      rw [hpm, Int.sub_mul, Int.mul_comm (ei p u) u]; omega)
    have ha : ai p' u = ai p u := by
      unfold ai
      rw [e1, e2]
      by_cases ho : ei p u % 2 = 1
      · rw [if_pos ho, if_neg (by omega)]
      · rw [if_neg ho, if_pos (by omega)]; omega
    have hr' : rootf (ai p' u) u = some (s, c) := by rw [ha, hr]
    have i3 := placed_is (ei p' u) iS iC
    refine ⟨p', _, _, _, _, hf, root_at k hk hp' hr', plus_is i3.1, plus_is i3.2, fun _ => ?_⟩
    rw [e1, pv_back _ S C (ei_bd h)]
    exact ⟨rfl, rfl⟩
end Go.Proofs.Ytjnbfepembhomaa.TG
