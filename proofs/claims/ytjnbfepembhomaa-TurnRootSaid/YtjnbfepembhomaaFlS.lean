import Derived.Test.YtjnbfepembhomaaFl
/- Doubles as rational numbers, more: signs, which is more, quotients of numbers that are doubled, series. Plain Lean. -/
set_option linter.unusedVariables false
set_option linter.unusedSimpArgs false
namespace Fl
open Ieee Go

/-- rounding keeps the side of nought -/
theorem wrS (s : Bool) (m : Nat) (p k : Int) (x : Rat) (hx : sg s * ((m : Rat) * 2 ^ p) = x) (hk0 : -1074 ≤ k) (hk1 : k ≤ 1023) (h : Ab x (2 ^ k)) :
    ∃ y, Is (Ieee.double.write (.number s m p)) y ∧ Ab y (2 ^ k) ∧ Nr y x ∧ (0 ≤ x → 0 ≤ y) ∧ (x ≤ 0 → y ≤ 0) := by
  obtain ⟨y, ⟨s', m', p', hr, hv⟩, hb, _, hn⟩ := wr s m p k x hx hk0 hk1 h
  by_cases hm : m = 0
  · subst hm
    have x0 : x = 0 := by
      rw [← hx, show ((0 : Nat) : Rat) = 0 from rfl]; grind
    obtain ⟨m2, p2, hr2, hv2⟩ := read_word s 0 0 (by omega) (by omega) (by omega) (by omega)
    have e : Ieee.double.write (.number s 0 p) = Ieee.double.word s (min (0 * 2 ^ 52 + 0) Ieee.double.infRung) := by
      show Ieee.double.nearest s 0 p = _
      unfold Format.nearest
      simp
    have y0 : sg s * ((m2 : Rat) * 2 ^ p2) = 0 := by rw [hv2, show ((0 : Nat) : Rat) = 0 from rfl]; grind
    refine ⟨0, ⟨s, m2, p2, by rw [e, hr2], y0⟩, ⟨?_, Rat.le_of_lt (z2pos k)⟩, ⟨0, by decide, .inl x0.symm, ?_⟩, fun _ => by decide, fun _ => by decide⟩
    · have := z2pos k; grind
    · rw [x0]
      have := z2pos (-1075)
      constructor <;> grind
  · have hpos : (0 : Rat) < (m : Rat) * 2 ^ p := Rat.mul_pos (by exact_mod_cast (by omega : 0 < m)) (z2pos p)
    have h0' : (0 : Rat) ≤ (m' : Rat) * 2 ^ p' := Rat.mul_nonneg (by exact_mod_cast Nat.zero_le _) (Rat.le_of_lt (z2pos _))
    obtain ⟨m3, p3, hr3, _⟩ := near s m p k hk0 hk1 (by
      unfold sg at hx
      obtain ⟨h1, h2⟩ := h
      cases s
      · simp only [Bool.false_eq_true, if_false, Rat.one_mul] at hx; grind
      · simp only [if_true] at hx; grind)
    have es : s' = s := by
      have : Ieee.double.write (.number s m p) = Ieee.double.nearest s m p := rfl
      rw [this, hr3] at hr
      injection hr with h1 _ _
      exact h1.symm
    subst es
    refine ⟨y, ⟨s', m', p', hr, hv⟩, hb, hn, ?_, ?_⟩
    all_goals
      intro hs
      rw [← hx] at hs
      rw [← hv]
      unfold sg at hs ⊢
      cases s'
      · simp only [Bool.false_eq_true, if_false, Rat.one_mul] at hs ⊢; grind
      · simp only [if_true] at hs ⊢; grind
theorem mulS {x y : Nat} {a b : Rat} (hx : Is x a) (hy : Is y b) (k : Int) (hk0 : -1074 ≤ k) (hk1 : k ≤ 1023) (h : Ab (a * b) (2 ^ k)) :
    ∃ r c, floatBits .mul .f64 x y = some r ∧ Is r c ∧ Ab c (2 ^ k) ∧ Nr c (a * b) ∧ (0 ≤ a * b → 0 ≤ c) ∧ (a * b ≤ 0 → c ≤ 0) := by
  obtain ⟨s, m, i, hr, rfl⟩ := hx
  obtain ⟨t, n, j, hr', rfl⟩ := hy
  have hv : sg (s ^^ t) * (((m * n : Nat) : Rat) * 2 ^ (i + j)) = sg s * ((m : Rat) * 2 ^ i) * (sg t * ((n : Rat) * 2 ^ j)) := by
    rw [sg_mul, Rat.natCast_mul, z2]; grind
  obtain ⟨c, hc, hb, hn, hs⟩ := wrS (s ^^ t) (m * n) (i + j) k _ hv hk0 hk1 h
  refine ⟨_, c, ?_, hc, hb, hn, hs⟩
  show Option.map Ieee.double.write ((Ieee.double.read x).product (Ieee.double.read y)) = _
  rw [hr, hr']
  rfl
theorem Is.inj {w : Nat} {x y : Rat} (h : Is w x) (h' : Is w y) : x = y := by
  obtain ⟨s, m, p, hr, rfl⟩ := h
  obtain ⟨t, n, q, hr', rfl⟩ := h'
  rw [hr] at hr'
  injection hr' with h1 h2 h3
  subst h1 h2 h3
  rfl
/-- which is more -/
theorem order_is {v w : Nat} {x y : Rat} (h : Is v x) (h' : Is w y) : Ieee.double.order v w = some (if x < y then .lt else if x = y then .eq else .gt) := by
  obtain ⟨s, m, i, hr, rfl⟩ := h
  obtain ⟨t, n, j, hr', rfl⟩ := h'
  have e : Ieee.double.order v w = (Ieee.double.read v).order (Ieee.double.read w) := rfl
  rw [e, hr, hr']
  simp only [Datum.order]
  have e1 : sg s * ((m : Rat) * 2 ^ i) = ((signed s m (i - min i j).toNat : Int) : Rat) * 2 ^ (min i j) := by
    rw [signed_rat, Int.toNat_of_nonneg (by omega)]
    have : (2 : Rat) ^ i = 2 ^ (i - min i j) * 2 ^ (min i j) := by rw [← z2]; congr 1; omega
    rw [this]; grind
  have e2 : sg t * ((n : Rat) * 2 ^ j) = ((signed t n (j - min i j).toNat : Int) : Rat) * 2 ^ (min i j) := by
    rw [signed_rat, Int.toNat_of_nonneg (by omega)]
    have : (2 : Rat) ^ j = 2 ^ (j - min i j) * 2 ^ (min i j) := by rw [← z2]; congr 1; omega
    rw [this]; grind
  rw [e1, e2]
  generalize signed s m _ = A
  generalize signed t n _ = B
  have hp := z2pos (min i j)
  generalize (2 : Rat) ^ (min i j) = g at *
  have hlt : ((A : Rat) * g < (B : Rat) * g) ↔ A < B := by
    rw [Rat.mul_lt_mul_right hp]; exact Rat.intCast_lt_intCast
  have heq : ((A : Rat) * g = (B : Rat) * g) ↔ A = B := by
    constructor
    · intro h
      rcases Int.lt_trichotomy A B with h1 | h1 | h1
      · have := hlt.2 h1; grind
      · exact h1
      · have : (B : Rat) * g < (A : Rat) * g := by rw [Rat.mul_lt_mul_right hp]; exact Rat.intCast_lt_intCast.2 h1
        grind
    · rintro rfl; rfl
  simp only [hlt, heq]
  show some (compare A B) = _
  simp only [compare, compareOfLessAndEq]
theorem xor_one (a : Nat) : (a ^^^ 1) % 2 = 1 - a % 2 := by
  have h := @Nat.xor_mod_two_pow a 1 1
  rw [show (2 : Nat) ^ 1 = 2 from rfl, show 1 % 2 = 1 from rfl] at h
  rw [h]
  rcases Nat.mod_two_eq_zero_or_one a with h | h <;> rw [h] <;> rfl
theorem neg_is {w : Nat} {x : Rat} (h : Is w x) : Is (Op.negFloat .f64 w) (-x) := by
  obtain ⟨s, m, p, hr, rfl⟩ := h
  refine ⟨!s, m, p, ?_, ?_⟩
  · have e : Op.negFloat .f64 w = w ^^^ 2 ^ 63 := rfl
    have h1 : (w ^^^ 2 ^ 63) % 2 ^ 63 = w % 2 ^ 63 := by rw [Nat.xor_mod_two_pow, Nat.mod_self, Nat.xor_zero]
    have h2 : (w ^^^ 2 ^ 63) / 2 ^ 63 = (w / 2 ^ 63) ^^^ 1 := by rw [Nat.xor_div_two_pow, Nat.div_self (by decide)]
    have h3 : ((w / 2 ^ 63) ^^^ 1) % 2 = 1 - (w / 2 ^ 63) % 2 := xor_one _
    have hs : Ieee.double.signWeight = 2 ^ 63 := by decide
    rw [e]
    unfold Format.read at hr ⊢
    dsimp only at hr ⊢
    rw [hs] at hr ⊢
    rw [h1, h2, h3]
    generalize (w % 2 ^ 63) = r at *
    have hb := Nat.mod_lt (w / 2 ^ 63) (show 0 < 2 by decide)
    generalize (w / 2 ^ 63) % 2 = b at *
    have hb2 : (1 - b == 1) = !(b == 1) := by
      rcases (by omega : b = 0 ∨ b = 1) with rfl | rfl <;> rfl
    rw [hb2]
    split at hr
    · injection hr with a1 a2 a3
      rw [if_pos (by assumption), a1, a2, a3]
    · split at hr
      · injection hr with a1 a2 a3
        rw [if_neg (by assumption), if_pos (by assumption), a1, a2, a3]
      · split at hr <;> cases hr
  · unfold sg
    cases s
    · simp only [Bool.not_false, if_true, Bool.false_eq_true, if_false]; grind
    · simp only [Bool.not_true, if_true, Bool.false_eq_true, if_false]; grind
/-- numbers that are doubled -/
theorem int_rd (n : Nat) (h0 : 0 < n) (h1 : n < 2 ^ 50) : Ieee.double.read (floatOfInt .f64 (n : Int)) = .number false (n * 2 ^ (52 - n.log2)) ((n.log2 : Int) - 52) := by
  have hl1 : n < 2 ^ (n.log2 + 1) := Nat.lt_log2_self
  have hl2 : 2 ^ n.log2 ≤ n := Nat.log2_self_le (by omega)
  have hlog : n.log2 < 50 := (Nat.log2_lt (by omega)).2 h1
  have e : floatOfInt .f64 (n : Int) = Ieee.double.nearest false n 0 := by
    show Ieee.double.nearest (decide ((n : Int) < 0)) (n : Int).natAbs 0 = _
    rw [decide_eq_false (by omega)]; rfl
  have hc : 2 ^ 52 ≤ n * 2 ^ (52 - n.log2) := by
    have h3 : 2 ^ n.log2 * 2 ^ (52 - n.log2) ≤ n * 2 ^ (52 - n.log2) := Nat.mul_le_mul_right _ hl2
    rw [← Nat.pow_add, show n.log2 + (52 - n.log2) = 52 by omega] at h3
    exact h3
  have hc2 : n * 2 ^ (52 - n.log2) < 2 ^ 53 := by
    have h3 : n * 2 ^ (52 - n.log2) < 2 ^ (n.log2 + 1) * 2 ^ (52 - n.log2) := Nat.mul_lt_mul_of_pos_right hl1 (Nat.two_pow_pos _)
    rw [← Nat.pow_add, show n.log2 + 1 + (52 - n.log2) = 53 by omega] at h3
    exact h3
  have hp : Ieee.double.leastPlace = -1074 := by decide
  have hb : Ieee.double.binade = 2 ^ 52 := by decide
  have hf : ((Ieee.double.fractionBits : Nat) : Int) = 52 := rfl
  have hi : Ieee.double.infRung = 2047 * 2 ^ 52 := by decide
  have hs : Ieee.double.signWeight = 2 ^ 63 := by decide
  have e2 : Ieee.double.nearest false n 0 = (n.log2 + 1022) * 2 ^ 52 + n * 2 ^ (52 - n.log2) := by
    unfold Format.nearest
    dsimp only
    rw [if_neg (by omega), hp, hb, hf, hi]
    have hl : max (0 + (n.log2 : Int) - 52) (-1074) = (n.log2 : Int) - 52 := by omega
    rw [hl, show (0 - ((n.log2 : Int) - 52)).toNat = 52 - n.log2 by omega, show ((n.log2 : Int) - 52 - 0).toNat = 0 by omega, show ((n.log2 : Int) - 52 - -1074).toNat = n.log2 + 1022 by omega, Nat.shiftLeft_eq]
    generalize n * 2 ^ (52 - n.log2) = c at *
    have hcut : Toward.even.cut false c 0 = c := by
      unfold Toward.cut
      simp [Nat.mod_one]
    rw [hcut]
    unfold Format.word
    rw [if_neg (by decide), Nat.min_eq_left (by omega)]
  rw [e, e2]
  generalize n * 2 ^ (52 - n.log2) = c at *
  generalize n.log2 = L at *
  unfold Format.read
  dsimp only
  rw [hs, hb, hi, hp]
  have d1 : ((L + 1022) * 2 ^ 52 + c) / 2 ^ 63 % 2 = 0 := by omega
  have d2 : ((L + 1022) * 2 ^ 52 + c) % 2 ^ 63 = (L + 1022) * 2 ^ 52 + c := by omega
  rw [d1, d2, if_neg (by omega), if_pos (by omega)]
  have d3 : 2 ^ 52 + ((L + 1022) * 2 ^ 52 + c) % 2 ^ 52 = c := by omega
  have d4 : ((L + 1022) * 2 ^ 52 + c) / 2 ^ 52 - 1 = L + 1022 := by omega
  have d5 : (-1074 : Int) + ((L + 1022 : Nat) : Int) = (L : Int) - 52 := by omega
  rw [d3, d4, d5]
  rfl
theorem quo_at {x y : Nat} {s t : Bool} {m n : Nat} {i j : Int} (hx : Ieee.double.read x = .number s m i) (hy : Ieee.double.read y = .number t n j) (hn : n ≠ 0) :
    floatBits .quo .f64 x y = some (Ieee.double.nearest (s ^^ t) (2 * ((m <<< (54 + n.log2 - m.log2)) / n) + ((m <<< (54 + n.log2 - m.log2)) % n != 0).toNat) (i - j - ((54 + n.log2 - m.log2 : Nat) : Int) - 1)) := by
  show Option.map Ieee.double.write ((Ieee.double.read x).quotient 54 (Ieee.double.read y)) = _
  rw [hx, hy]
  simp only [Datum.quotient, hn, if_false]
  rfl
theorem read_zero : Ieee.double.read (floatOfInt .f64 0) = .number false 0 (-1074) := by decide +kernel
theorem quo_zero (u : Nat) (h0 : 0 < u) (h1 : u < 2 ^ 50) : floatBits .quo .f64 (floatOfInt .f64 0) (floatOfInt .f64 (u : Int)) = some 0 := by
  have eu := int_rd u h0 h1
  have hn : u * 2 ^ (52 - u.log2) ≠ 0 := Nat.ne_of_gt (Nat.mul_pos h0 (Nat.two_pow_pos _))
  rw [quo_at read_zero eu hn]
  simp only [Nat.zero_shiftLeft, Nat.zero_div, Nat.zero_mod]
  unfold Format.nearest
  simp [Format.word]
theorem log2_two (n : Nat) (h : 0 < n) : (2 * n).log2 = n.log2 + 1 := Nat.log2_two_mul (by omega)
theorem quo_two (a u : Nat) (h0 : 0 < u) (h1 : u < 2 ^ 49) (ha : a < 2 ^ 49) : floatBits .quo .f64 (floatOfInt .f64 ((2 * a : Nat) : Int)) (floatOfInt .f64 ((2 * u : Nat) : Int)) = floatBits .quo .f64 (floatOfInt .f64 (a : Int)) (floatOfInt .f64 (u : Int)) := by
  by_cases hz : a = 0
  · subst hz
    have e1 := quo_zero (2 * u) (by omega) (by omega)
    have e2 := quo_zero u h0 (by omega)
    exact e1.trans e2.symm
  · show Option.map Ieee.double.write ((Ieee.double.read (floatOfInt .f64 ((2 * a : Nat) : Int))).quotient 54 (Ieee.double.read (floatOfInt .f64 ((2 * u : Nat) : Int)))) = Option.map Ieee.double.write ((Ieee.double.read (floatOfInt .f64 (a : Int))).quotient 54 (Ieee.double.read (floatOfInt .f64 (u : Int))))
    rw [int_rd (2 * u) (by omega) (by omega), int_rd (2 * a) (by omega) (by omega), int_rd u h0 (by omega), int_rd a (by omega) (by omega), log2_two u h0, log2_two a (by omega)]
    have la : a.log2 < 49 := (Nat.log2_lt (by omega)).2 ha
    have lu : u.log2 < 49 := (Nat.log2_lt (by omega)).2 h1
    have e1 : 2 * a * 2 ^ (52 - (a.log2 + 1)) = a * 2 ^ (52 - a.log2) := by
      rw [show 52 - a.log2 = (52 - (a.log2 + 1)) + 1 by omega, Nat.pow_succ]
      generalize 2 ^ (52 - (a.log2 + 1)) = g
      rw [Nat.mul_comm 2 a, Nat.mul_assoc, Nat.mul_comm 2 g]
    have e2 : 2 * u * 2 ^ (52 - (u.log2 + 1)) = u * 2 ^ (52 - u.log2) := by
      rw [show 52 - u.log2 = (52 - (u.log2 + 1)) + 1 by omega, Nat.pow_succ]
      generalize 2 ^ (52 - (u.log2 + 1)) = g
      rw [Nat.mul_comm 2 u, Nat.mul_assoc, Nat.mul_comm 2 g]
    rw [e1, e2]
    simp only [Datum.quotient]
    have : (((a.log2 + 1 : Nat) : Int) - 52) - (((u.log2 + 1 : Nat) : Int) - 52) = ((a.log2 : Int) - 52) - ((u.log2 : Int) - 52) := by omega
    rw [this]
end Fl
