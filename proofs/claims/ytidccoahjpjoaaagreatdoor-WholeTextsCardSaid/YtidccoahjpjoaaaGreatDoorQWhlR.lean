import Derived.Test.YtidccoahjpjoaaaGreatDoorQWhlP
/- Whole numbers in their one form: what each answer is of numbers that are not too long (plain law). -/
set_option linter.unusedVariables false
set_option linter.unusedSimpArgs false
namespace Q
/-- the sign and the words of a number -/
def cn (v : Int) : Bool := decide (v < 0)
noncomputable def cw (v : Int) : List Int := nwd (v.natAbs : Int)
/-- a number that is not too long -/
def Sh (v : Int) : Prop := (v.natAbs : Int) < Bp 2048
theorem cw_wds (v : Int) : Wds (cw v) := nwd_wds _
theorem cw_tr (v : Int) : Tr (cw v) := nwd_tr _
theorem val_cw (v : Int) : val (cw v) = (v.natAbs : Int) := val_nwd (by omega)
theorem wv_can (v : Int) : wv (cn v) (cw v) = v := wv_nW v
theorem cw_nil_iff (v : Int) : cw v = [] ↔ v = 0 := by unfold cw; rw [nwd_nil_iff (by omega)]; omega
theorem cw_len {v : Int} {k : Nat} (h : (v.natAbs : Int) < Bp k) : (cw v).length ≤ k := nwd_len_le h (by omega)
theorem chkW_can {v : Int} (h : Sh v) : chkW (cn v) (cw v) = 0 :=
  chkW_zero.2 ⟨cw_len h, cw_tr v, fun e => by have := (cw_nil_iff v).1 e; subst this; rfl⟩
theorem chkW2_can {v u : Int} (h : Sh v) (k : Sh u) : chkW2 (cn v) (cw v) (cn u) (cw u) = 0 := chkW2_zero.2 ⟨chkW_can h, chkW_can k⟩
theorem toldW_can {v : Int} (h : Sh v) : toldW v = ⟨cn v, cw v, 0⟩ := toldW_ok h
/-- a number that may be is in its one form -/
theorem can_of {n : Bool} {xs : List Int} (hw : Wds xs) (h : chkW n xs = 0) : Sh (wv n xs) ∧ n = cn (wv n xs) ∧ xs = cw (wv n xs) := by
  have h1 : Sh (wv n xs) := wv_abs_lt hw h
  have h2 := toldW_wv hw h
  rw [toldW_can h1] at h2
  injection h2 with a b
  exact ⟨h1, a.symm, b.symm⟩
theorem can_len {n : Bool} {xs : List Int} (hw : Wds xs) {k : Nat} (h : xs.length ≤ k) : ((wv n xs).natAbs : Int) < Bp k := by
  rw [wv_natAbs hw]; exact val_lt_len hw h
theorem addW_can {v u : Int} (h : Sh v) (k : Sh u) (r : Sh (v + u)) : addW (cn v) (cw v) (cn u) (cw u) = ⟨cn (v + u), cw (v + u), 0⟩ := by
  unfold addW; rw [if_pos (chkW2_can h k), wv_can, wv_can, toldW_can r]
theorem subW_can {v u : Int} (h : Sh v) (k : Sh u) (r : Sh (v - u)) : subW (cn v) (cw v) (cn u) (cw u) = ⟨cn (v - u), cw (v - u), 0⟩ := by
  unfold subW; rw [if_pos (chkW2_can h k), wv_can, wv_can, toldW_can r]
theorem mulW_can {v u : Int} (h : Sh v) (k : Sh u) (r : Sh (v * u)) : mulW (cn v) (cw v) (cn u) (cw u) = ⟨cn (v * u), cw (v * u), 0⟩ := by
  unfold mulW; rw [if_pos (chkW2_can h k), wv_can, wv_can, toldW_can r]
theorem sh_neg {v : Int} (h : Sh v) : Sh (-v) := by unfold Sh at *; omega
theorem sh_abs {v : Int} (h : Sh v) : Sh (v.natAbs : Int) := by unfold Sh at *; omega
theorem negW_can {v : Int} (h : Sh v) : negW (cn v) (cw v) = ⟨cn (-v), cw (-v), 0⟩ := by
  unfold negW; rw [if_pos (chkW_can h), wv_can, toldW_can (sh_neg h)]
theorem absW_can {v : Int} (h : Sh v) : absW (cn v) (cw v) = ⟨false, cw v, 0⟩ := by
  unfold absW; rw [if_pos (chkW_can h), wv_can, toldW_can (sh_abs h)]
  congr 1
theorem quoW_can {v u : Int} (h : Sh v) (k : Sh u) (hu : u ≠ 0) : quoW (cn v) (cw v) (cn u) (cw u) = ⟨cn (v / u), cw (v / u), 0⟩ := by
  unfold quoW; rw [if_pos (chkW2_can h k), if_neg (fun e => hu ((cw_nil_iff u).1 e)), wv_can, wv_can, toldW_can]
  have := Int.natAbs_ediv_le_natAbs v u
  unfold Sh at *; omega
theorem remW_can {v u : Int} (h : Sh v) (k : Sh u) (hu : u ≠ 0) : remW (cn v) (cw v) (cn u) (cw u) = ⟨false, cw (v % u), 0⟩ := by
  have h5 := Int.emod_nonneg v hu
  have h6 := Int.emod_lt v hu
  unfold remW; rw [if_pos (chkW2_can h k), if_neg (fun e => hu ((cw_nil_iff u).1 e)), wv_can, wv_can, toldW_can (by unfold Sh at *; omega)]
  congr 1
  exact decide_eq_false (by omega)
theorem gcdW_can {v u : Int} (h : Sh v) (k : Sh u) : gcdW (cn v) (cw v) (cn u) (cw u) = ⟨false, cw (gc v.natAbs u.natAbs), 0⟩ := by
  have h0 := gc_nonneg (v.natAbs : Int) u.natAbs
  have h1 := gc_le (x := (v.natAbs : Int)) (y := u.natAbs) (by omega) (by omega) (Bp 2048 - 1) (by unfold Sh at h; omega) (by unfold Sh at k; omega)
  unfold gcdW; rw [if_pos (chkW2_can h k), val_cw, val_cw, toldW_can (by unfold Sh; omega)]
  congr 1
theorem cmpW_can {v u : Int} (h : Sh v) (k : Sh u) : cmpW (cn v) (cw v) (cn u) (cw u) = cmp v u := by
  unfold cmpW; rw [if_pos (chkW2_can h k), wv_can, wv_can]
theorem bp_pow (a b : Nat) : Bp a * Bp b = Bp (a + b) := by unfold Bp; rw [← Int.pow_add]
theorem mul_bnd {v u : Int} {a b : Nat} (h : (v.natAbs : Int) < Bp a) (k : (u.natAbs : Int) < Bp b) : ((v * u).natAbs : Int) < Bp (a + b) := by
  rw [Int.natAbs_mul, Int.natCast_mul, ← bp_pow]
  exact Int.lt_of_le_of_lt (Int.mul_le_mul_of_nonneg_left (Int.le_of_lt k) (by omega)) (Int.mul_lt_mul_of_pos_right h (Bp_pos _))
theorem add_bnd {v u : Int} {a : Nat} (h : (v.natAbs : Int) < Bp a) (k : (u.natAbs : Int) < Bp a) : ((v + u).natAbs : Int) < Bp (a + 1) := by
  have := Bp_succ a
  have := Bp_pos a
  omega
theorem sh_of {v : Int} {a : Nat} (h : (v.natAbs : Int) < Bp a) (ha : a ≤ 2048) : Sh v := Int.lt_of_lt_of_le h (Bp_mono ha)
end Q
