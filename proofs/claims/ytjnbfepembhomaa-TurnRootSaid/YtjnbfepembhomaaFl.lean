import Derived.Laws.FloatArith
/- Doubles as rational numbers: what is read, what rounding does. Plain Lean over the given words of Ieee. -/
set_option linter.unusedVariables false
set_option linter.unusedSimpArgs false
namespace Fl
open Ieee Go

theorem z2 (a b : Int) : (2 : Rat) ^ (a + b) = 2 ^ a * 2 ^ b := Rat.zpow_add (by decide) a b
theorem z2pos (a : Int) : (0 : Rat) < 2 ^ a := Rat.zpow_pos (by decide)
theorem z2nat (n : Nat) : ((2 ^ n : Nat) : Rat) = 2 ^ (n : Int) := by rw [Rat.zpow_natCast, Rat.natCast_pow]; rfl
theorem z2int {a : Int} (h : 0 ≤ a) : ((2 ^ a.toNat : Nat) : Rat) = 2 ^ a := by rw [z2nat, Int.toNat_of_nonneg h]

/-! ### dropping digits -/
theorem cut_spec (neg : Bool) (n drop : Nat) :
    2 * (Toward.even.cut neg n drop * 2 ^ drop) ≤ 2 * n + 2 ^ drop ∧ 2 * n ≤ 2 * (Toward.even.cut neg n drop * 2 ^ drop) + 2 ^ drop ∧
    (∀ N, n ≤ N * 2 ^ drop → Toward.even.cut neg n drop ≤ N) ∧ (∀ N, N * 2 ^ drop ≤ n → N ≤ Toward.even.cut neg n drop) := by
  have hl : n < 2 ^ (n.log2 + 1) := Nat.lt_log2_self
  unfold Toward.cut
  simp only [Nat.shiftLeft_eq, Nat.one_mul]
  by_cases hd : drop ≤ n.log2 + 2
  · rw [Nat.min_eq_left hd]
    have hg : 0 < 2 ^ drop := Nat.two_pow_pos _
    have hdm := Nat.div_add_mod n (2 ^ drop)
    have hm := Nat.mod_lt n hg
    generalize hG : 2 ^ drop = G at *
    generalize hq : n / G = q at *
    generalize hr : n % G = r at *
    have hb : ∀ b : Bool, (b = true → G ≤ 2 * r) → (b = false → 2 * r ≤ G) → 2 * ((q + b.toNat) * G) ≤ 2 * n + G ∧ 2 * n ≤ 2 * ((q + b.toNat) * G) + G ∧ (∀ N, n ≤ N * G → q + b.toNat ≤ N) ∧ ∀ N, N * G ≤ n → N ≤ q + b.toNat := by
      intro b h1 h0
      have hc : G * q = q * G := Nat.mul_comm _ _
      have hlow : ∀ N, N * G ≤ n → N ≤ q := by
        intro N h
        rw [← hq]
        exact (Nat.le_div_iff_mul_le hg).2 h
      cases b with
      | false =>
        have h0 := h0 rfl
        simp only [Bool.toNat_false, Nat.add_zero]
        refine ⟨by omega, by omega, fun N h => ?_, hlow⟩
        have : q * G ≤ N * G := by omega
        exact Nat.le_of_mul_le_mul_right this hg
      | true =>
        have h1 := h1 rfl
        simp only [Bool.toNat_true]
        have e : (q + 1) * G = q * G + G := Nat.succ_mul _ _
        refine ⟨by omega, by omega, fun N h => ?_, fun N h => by have := hlow N h; omega⟩
        have : q * G < N * G := by omega
        have := Nat.lt_of_mul_lt_mul_right this
        omega
    apply hb
    · intro h
      simp only [Bool.or_eq_true, decide_eq_true_eq, Bool.and_eq_true, beq_iff_eq] at h
      rcases h with h | h
      · omega
      · omega
    · intro h
      simp only [Bool.or_eq_false_iff, decide_eq_false_iff_not] at h
      omega
  · rw [Nat.min_eq_right (by omega)]
    have h2 : n < 2 ^ (n.log2 + 2) := by
      rw [Nat.pow_succ]; omega
    have h3 : 2 * n < 2 ^ (n.log2 + 2) := by
      rw [Nat.pow_succ]; omega
    have h4 : 2 ^ (n.log2 + 2) ≤ 2 ^ drop := Nat.pow_le_pow_right (by omega) (by omega)
    rw [Nat.div_eq_of_lt h2, Nat.mod_eq_of_lt h2]
    have e1 : decide (2 ^ (n.log2 + 2) < 2 * n) = false := decide_eq_false (by omega)
    have e2 : (2 ^ (n.log2 + 2) == 2 * n) = false := beq_eq_false_iff_ne.2 (by omega)
    rw [e1, e2]
    simp only [Bool.false_and, Bool.or_self, Bool.toNat_false, Nat.add_zero, Nat.zero_mul, Nat.mul_zero, Nat.zero_add]
    refine ⟨by omega, by omega, fun N _ => Nat.zero_le _, fun N h => ?_⟩
    have : 1 ≤ 2 ^ drop := Nat.one_le_two_pow
    by_cases hN : N = 0
    · omega
    · have : 1 * 2 ^ drop ≤ N * 2 ^ drop := Nat.mul_le_mul_right _ (by omega)
      omega

/-! ### reading a rung -/
theorem read_word (s : Bool) (L c : Nat) (hL : L ≤ 2045) (hc : c ≤ 2 ^ 53) (hlow : 0 < L → 2 ^ 52 ≤ c) (hcap : L = 2045 → c ≤ 2 ^ 52) :
    ∃ m p, Ieee.double.read (Ieee.double.word s (min (L * 2 ^ 52 + c) Ieee.double.infRung)) = .number s m p ∧ (m : Rat) * 2 ^ p = c * 2 ^ ((L : Int) - 1074) := by
  have hi : Ieee.double.infRung = 2047 * 2 ^ 52 := by decide
  have hs : Ieee.double.signWeight = 2 ^ 63 := by decide
  have hb : Ieee.double.binade = 2 ^ 52 := by decide
  have hp : Ieee.double.leastPlace = -1074 := by decide
  have hcap2 : L * 2 ^ 52 + c < 2047 * 2 ^ 52 := by
    by_cases h : L = 2045
    · have := hcap h
      omega
    · omega
  rw [hi, Nat.min_eq_left (by omega)]
  generalize hr : L * 2 ^ 52 + c = r at *
  have hneg : Ieee.double.word s r / 2 ^ 63 % 2 = (if s then 1 else 0) ∧ Ieee.double.word s r % 2 ^ 63 = r := by
    unfold Format.word
    rw [hs]
    cases s
    · simp only [Bool.false_eq_true, if_false]
      omega
    · simp only [if_true]
      omega
  have hsb : (Ieee.double.word s r / Ieee.double.signWeight % 2 == 1) = s := by
    rw [hs, hneg.1]
    cases s <;> rfl
  unfold Format.read
  dsimp only
  rw [hsb, hs, hneg.2, hb, hi, hp]
  by_cases h1 : r < 2 ^ 52
  · rw [if_pos h1]
    have hL0 : L = 0 := by omega
    subst hL0
    refine ⟨_, _, rfl, ?_⟩
    have : r = c := by omega
    subst this
    rfl
  · rw [if_neg h1, if_pos hcap2]
    refine ⟨_, _, rfl, ?_⟩
    by_cases h2 : c = 2 ^ 53
    · have e1 : r % 2 ^ 52 = 0 := by omega
      have e2 : r / 2 ^ 52 - 1 = L + 1 := by omega
      rw [e1, e2, h2]
      rw [show (-1074 : Int) + ((L + 1 : Nat) : Int) = ((L : Int) - 1074) + 1 by omega, z2]
      have : ((2 ^ 53 : Nat) : Rat) = ((2 ^ 52 + 0 : Nat) : Rat) * 2 := by decide +kernel
      rw [this, show (2 : Rat) ^ (1 : Int) = 2 from rfl]
      grind
    · by_cases h3 : c < 2 ^ 52
      · have hL0 : L = 0 := by omega
        omega
      · have e1 : 2 ^ 52 + r % 2 ^ 52 = c := by omega
        have e2 : r / 2 ^ 52 - 1 = L := by omega
        rw [e1, e2, show (-1074 : Int) + ((L : Nat) : Int) = (L : Int) - 1074 by omega]

/-! ### the nearest double -/
theorem nat_le_of_rat {m : Nat} {p k : Int} (hm : 0 < m) (h : (m : Rat) * 2 ^ p ≤ 2 ^ k) : p ≤ k ∧ m ≤ 2 ^ (k - p).toNat := by
  have hp := z2pos p
  have e : (2 : Rat) ^ k = 2 ^ (k - p) * 2 ^ p := by rw [← z2]; congr 1; omega
  rw [e] at h
  have h2 : (m : Rat) ≤ 2 ^ (k - p) := Rat.le_of_mul_le_mul_right h hp
  by_cases hk : p ≤ k
  · refine ⟨hk, ?_⟩
    rw [← z2int (by omega)] at h2
    exact_mod_cast h2
  · exfalso
    have h3 : (2 : Rat) ^ (k - p) * 2 ^ (p - k) = 1 := by rw [← z2]; rw [show k - p + (p - k) = 0 by omega]; rfl
    have h4 : (2 : Rat) ≤ 2 ^ (p - k) := by
      rw [← z2int (by omega)]
      have : 2 ^ 1 ≤ 2 ^ (p - k).toNat := Nat.pow_le_pow_right (by omega) (by omega)
      exact_mod_cast this
    have h5 : (1 : Rat) ≤ (m : Rat) := by exact_mod_cast hm
    have h6 := z2pos (k - p)
    have h7 : (2 : Rat) ^ (k - p) * 2 ≤ 2 ^ (k - p) * 2 ^ (p - k) := Rat.mul_le_mul_of_nonneg_left h4 (Rat.le_of_lt h6)
    grind

theorem near (s : Bool) (m : Nat) (p k : Int) (hk0 : -1074 ≤ k) (hk1 : k ≤ 1023) (h : (m : Rat) * 2 ^ p ≤ 2 ^ k) :
    ∃ m' p', Ieee.double.read (Ieee.double.nearest s m p) = .number s m' p' ∧ (m' : Rat) * 2 ^ p' ≤ 2 ^ k ∧ (m.log2 ≤ 52 → -1074 ≤ p → (m' : Rat) * 2 ^ p' = m * 2 ^ p) ∧
      (m' : Rat) * 2 ^ p' ≤ m * 2 ^ p + (2 ^ (-53 : Int) * (m * 2 ^ p) + 2 ^ (-1075 : Int)) ∧ (m : Rat) * 2 ^ p ≤ m' * 2 ^ p' + (2 ^ (-53 : Int) * (m * 2 ^ p) + 2 ^ (-1075 : Int)) := by
  have hp1075 := z2pos (-1075)
  by_cases hm : m = 0
  · subst hm
    obtain ⟨m', p', hr, hv⟩ := read_word s 0 0 (by omega) (by omega) (by omega) (by omega)
    have e : Ieee.double.nearest s 0 p = Ieee.double.word s (min (0 * 2 ^ 52 + 0) Ieee.double.infRung) := by
      unfold Format.nearest
      simp
    have z0 : (((0 : Nat) : Rat)) = 0 := rfl
    have zk := z2pos k
    refine ⟨m', p', by rw [e, hr], ?_, ?_, ?_, ?_⟩
    · rw [hv, z0, Rat.zero_mul]; exact Rat.le_of_lt zk
    · intro _ _; rw [hv, z0, Rat.zero_mul, Rat.zero_mul]
    · rw [hv, z0, Rat.zero_mul, Rat.zero_mul, Rat.mul_zero, Rat.zero_add, Rat.zero_add]; exact Rat.le_of_lt hp1075
    · rw [hv, z0, Rat.zero_mul, Rat.zero_mul, Rat.mul_zero, Rat.zero_add, Rat.zero_add]; exact Rat.le_of_lt hp1075
  · have hm0 : 0 < m := by omega
    obtain ⟨hpk, hmk⟩ := nat_le_of_rat hm0 h
    have hl1 : m < 2 ^ (m.log2 + 1) := Nat.lt_log2_self
    have hl2 : 2 ^ m.log2 ≤ m := Nat.log2_self_le (by omega)
    have hlk : (m.log2 : Int) ≤ k - p := by
      have h1 : 2 ^ m.log2 ≤ 2 ^ (k - p).toNat := Nat.le_trans hl2 hmk
      have h2 : m.log2 ≤ (k - p).toNat := (Nat.pow_le_pow_iff_right (by omega)).1 h1
      omega
    have hunf : Ieee.double.nearest s m p = Ieee.double.word s (min (((max (p + m.log2 - 52) (-1074)) + 1074).toNat * 2 ^ 52 + Toward.even.cut s (m <<< (p - max (p + m.log2 - 52) (-1074)).toNat) (max (p + m.log2 - 52) (-1074) - p).toNat) Ieee.double.infRung) := by
      unfold Format.nearest
      dsimp only
      rw [if_neg hm]
      have hp : Ieee.double.leastPlace = -1074 := by decide
      have hb : Ieee.double.binade = 2 ^ 52 := by decide
      have hf : ((Ieee.double.fractionBits : Nat) : Int) = 52 := rfl
      rw [hp, hb, hf]
      congr 4
      all_goals omega
    rw [hunf]
    generalize hlast : max (p + m.log2 - 52) (-1074) = last
    have hlast1 : last = p + m.log2 - 52 ∨ last = -1074 := by omega
    have hlast2 : p + m.log2 - 52 ≤ last := by omega
    have hlast3 : -1074 ≤ last := by omega
    have hlast4 : last = -1074 ∨ (last = p + m.log2 - 52 ∧ -1074 < last) := by omega
    clear hunf hlast
    have hlastk : last ≤ k := by omega
    rw [Nat.shiftLeft_eq]
    -- what is cut, in whole numbers
    have hn53 : m * 2 ^ (p - last).toNat ≤ 2 ^ 53 * 2 ^ (last - p).toNat := by
      by_cases hA : last ≤ p
      · rw [show (last - p).toNat = 0 by omega, Nat.pow_zero, Nat.mul_one]
        have h1 : m * 2 ^ (p - last).toNat ≤ 2 ^ (m.log2 + 1) * 2 ^ (p - last).toNat := Nat.mul_le_mul_right _ (by omega)
        rw [← Nat.pow_add] at h1
        have h2 : 2 ^ (m.log2 + 1 + (p - last).toNat) ≤ 2 ^ 53 := Nat.pow_le_pow_right (by omega) (by omega)
        omega
      · rw [show (p - last).toNat = 0 by omega, Nat.pow_zero, Nat.mul_one, ← Nat.pow_add]
        have h2 : 2 ^ (m.log2 + 1) ≤ 2 ^ (53 + (last - p).toNat) := Nat.pow_le_pow_right (by omega) (by omega)
        omega
    have hnk : m * 2 ^ (p - last).toNat ≤ 2 ^ (k - last).toNat * 2 ^ (last - p).toNat := by
      rw [← Nat.pow_add]
      by_cases hA : last ≤ p
      · have h1 : m * 2 ^ (p - last).toNat ≤ 2 ^ (k - p).toNat * 2 ^ (p - last).toNat := Nat.mul_le_mul_right _ hmk
        rw [← Nat.pow_add] at h1
        rw [show (k - last).toNat + (last - p).toNat = (k - p).toNat + (p - last).toNat by omega]
        exact h1
      · rw [show (p - last).toNat = 0 by omega, Nat.pow_zero, Nat.mul_one, show (k - last).toNat + (last - p).toNat = (k - p).toNat by omega]
        exact hmk
    have hn52 : -1074 < last → 2 ^ 52 * 2 ^ (last - p).toNat ≤ m * 2 ^ (p - last).toNat := by
      intro hgt
      have hle : last = p + m.log2 - 52 := by omega
      by_cases hA : last ≤ p
      · rw [show (last - p).toNat = 0 by omega, Nat.pow_zero, Nat.mul_one]
        have h1 : 2 ^ m.log2 * 2 ^ (p - last).toNat ≤ m * 2 ^ (p - last).toNat := Nat.mul_le_mul_right _ hl2
        rw [← Nat.pow_add, show m.log2 + (p - last).toNat = 52 by omega] at h1
        exact h1
      · rw [show (p - last).toNat = 0 by omega, Nat.pow_zero, Nat.mul_one, ← Nat.pow_add, show 52 + (last - p).toNat = m.log2 by omega]
        exact hl2
    have hv : ((m * 2 ^ (p - last).toNat : Nat) : Rat) * 2 ^ last = m * 2 ^ p * ((2 ^ (last - p).toNat : Nat) : Rat) := by
      rw [Rat.natCast_mul]
      by_cases hA : last ≤ p
      · rw [show (last - p).toNat = 0 by omega, z2int (a := p - last) (by omega), Rat.mul_assoc, ← z2, show p - last + last = p by omega]
        simp
      · rw [show (p - last).toNat = 0 by omega, z2int (a := last - p) (by omega), Rat.mul_assoc (m : Rat) (2 ^ p), ← z2, show p + (last - p) = last by omega]
        simp
    obtain ⟨c1, c2, c3, c4⟩ := cut_spec s (m * 2 ^ (p - last).toNat) (last - p).toNat
    generalize Toward.even.cut s (m * 2 ^ (p - last).toNat) (last - p).toNat = c at *
    have C53 := c3 _ hn53
    have Ck := c3 _ hnk
    have C52 : -1074 < last → 2 ^ 52 ≤ c := fun hgt => c4 _ (hn52 hgt)
    have hl971 : -1074 < last → last ≤ k - 52 := by
      intro hgt
      have h1 : 2 ^ 52 ≤ 2 ^ (k - last).toNat := Nat.le_trans (C52 hgt) Ck
      have h2 : 52 ≤ (k - last).toNat := (Nat.pow_le_pow_iff_right (by omega)).1 h1
      omega
    obtain ⟨m', p', hr, hrv⟩ := read_word s (last + 1074).toNat c (by omega) C53 (fun hgt => C52 (by omega)) (fun he => by
      have h1 : (k - last).toNat ≤ 52 := by omega
      exact Nat.le_trans Ck (Nat.pow_le_pow_right (by omega) h1))
    rw [show (((last + 1074).toNat : Nat) : Int) - 1074 = last by omega] at hrv
    refine ⟨m', p', hr, ?_, ?_, ?_, ?_⟩
    · rw [hrv]
      have h1 : (c : Rat) ≤ ((2 ^ (k - last).toNat : Nat) : Rat) := by exact_mod_cast Ck
      have h2 := Rat.mul_le_mul_of_nonneg_right h1 (Rat.le_of_lt (z2pos last))
      rw [z2int (a := k - last) (by omega), ← z2, show k - last + last = k by omega] at h2
      exact h2
    · intro g1 g2
      have hd : (last - p).toNat = 0 := by omega
      rw [hd, Nat.pow_zero, Nat.mul_one] at c1 c2
      have hcn : c = m * 2 ^ (p - last).toNat := by omega
      rw [hrv, hcn, hv, hd]
      simp
    all_goals
      have hD : (0 : Rat) < ((2 ^ (last - p).toNat : Nat) : Rat) := by exact_mod_cast Nat.two_pow_pos _
      have hU : (2 : Rat) ^ last ≤ 2 * (2 ^ (-53 : Int) * ((m : Rat) * 2 ^ p) + 2 ^ (-1075 : Int)) := by
        rcases hlast4 with hl | ⟨hl, _⟩
        · have e1 : (2 : Rat) ^ last = 2 * 2 ^ (-1075 : Int) := by rw [hl]; decide +kernel
          have h3 : (0 : Rat) ≤ 2 ^ (-53 : Int) * ((m : Rat) * 2 ^ p) := Rat.mul_nonneg (Rat.le_of_lt (z2pos _)) (Rat.mul_nonneg (by exact_mod_cast Nat.zero_le _) (Rat.le_of_lt (z2pos _)))
          rw [e1]
          grind
        · have e1 : (2 : Rat) ^ last = 2 * (2 ^ (-53 : Int) * (((2 ^ m.log2 : Nat) : Rat) * 2 ^ p)) := by
            rw [hl, show p + (m.log2 : Int) - 52 = 1 + (-53 + (m.log2 + p)) by omega, z2, z2, z2, z2nat]; rfl
          have h4 : ((2 ^ m.log2 : Nat) : Rat) ≤ (m : Rat) := by exact_mod_cast hl2
          have h5 := Rat.mul_le_mul_of_nonneg_left (Rat.mul_le_mul_of_nonneg_right h4 (Rat.le_of_lt (z2pos p))) (Rat.le_of_lt (z2pos (-53)))
          rw [e1]
          grind
      have hlz := z2pos last
      rw [hrv]
    · have q1 : (2 : Rat) * (c * ((2 ^ (last - p).toNat : Nat) : Rat)) ≤ 2 * ((m * 2 ^ (p - last).toNat : Nat) : Rat) + ((2 ^ (last - p).toNat : Nat) : Rat) := by exact_mod_cast c1
      have q2 := Rat.mul_le_mul_of_nonneg_right q1 (Rat.le_of_lt hlz)
      generalize ((m * 2 ^ (p - last).toNat : Nat) : Rat) = NN at *
      generalize ((2 ^ (last - p).toNat : Nat) : Rat) = D at *
      generalize (2 : Rat) ^ last = X at *
      generalize (m : Rat) * 2 ^ p = V at *
      have q3 : (2 * (c * X)) * D ≤ (2 * V + X) * D := by grind
      have q4 := Rat.le_of_mul_le_mul_right q3 hD
      grind
    · have q1 : (2 : Rat) * ((m * 2 ^ (p - last).toNat : Nat) : Rat) ≤ 2 * (c * ((2 ^ (last - p).toNat : Nat) : Rat)) + ((2 ^ (last - p).toNat : Nat) : Rat) := by exact_mod_cast c2
      have q2 := Rat.mul_le_mul_of_nonneg_right q1 (Rat.le_of_lt hlz)
      generalize ((m * 2 ^ (p - last).toNat : Nat) : Rat) = NN at *
      generalize ((2 ^ (last - p).toNat : Nat) : Rat) = D at *
      generalize (2 : Rat) ^ last = X at *
      generalize (m : Rat) * 2 ^ p = V at *
      have q3 : (2 * V) * D ≤ (2 * (c * X) + X) * D := by grind
      have q4 := Rat.le_of_mul_le_mul_right q3 hD
      grind

/-! ### numbers -/
def sg (s : Bool) : Rat := if s then -1 else 1
/-- the word stands for the number -/
def Is (w : Nat) (x : Rat) : Prop := ∃ s m p, Ieee.double.read w = .number s m p ∧ sg s * ((m : Rat) * 2 ^ p) = x
/-- not above a bound, of either sign -/
def Ab (x b : Rat) : Prop := -b ≤ x ∧ x ≤ b
theorem ab_sg {s : Bool} {x b : Rat} (h : Ab x b) : Ab (sg s * x) b := by
  unfold sg
  cases s
  · simp only [Bool.false_eq_true, if_false, Rat.one_mul]; exact h
  · simp only [if_true]
    obtain ⟨h1, h2⟩ := h
    constructor <;> grind
/-- rounding a number -/
theorem wr (s : Bool) (m : Nat) (p k : Int) (x : Rat) (hx : sg s * ((m : Rat) * 2 ^ p) = x) (hk0 : -1074 ≤ k) (hk1 : k ≤ 1023) (h : Ab x (2 ^ k)) :
    ∃ y, Is (Ieee.double.write (.number s m p)) y ∧ Ab y (2 ^ k) ∧ (m.log2 ≤ 52 → -1074 ≤ p → y = x) ∧ ∃ e : Rat, 0 ≤ e ∧ (e = x ∨ e = -x) ∧ Ab (y - x) (2 ^ (-53 : Int) * e + 2 ^ (-1075 : Int)) := by
  have h0 : (0 : Rat) ≤ (m : Rat) * 2 ^ p := Rat.mul_nonneg (by exact_mod_cast Nat.zero_le _) (Rat.le_of_lt (z2pos _))
  have hk : (m : Rat) * 2 ^ p ≤ 2 ^ k := by
    unfold sg at hx
    obtain ⟨h1, h2⟩ := h
    cases s
    · simp only [Bool.false_eq_true, if_false, Rat.one_mul] at hx; grind
    · simp only [if_true] at hx; grind
  obtain ⟨m', p', hr, h1, hex, h2, h3⟩ := near s m p k hk0 hk1 hk
  have h0' : (0 : Rat) ≤ (m' : Rat) * 2 ^ p' := Rat.mul_nonneg (by exact_mod_cast Nat.zero_le _) (Rat.le_of_lt (z2pos _))
  refine ⟨sg s * ((m' : Rat) * 2 ^ p'), ⟨s, m', p', hr, rfl⟩, ab_sg ⟨by grind, h1⟩, fun g1 g2 => by rw [hex g1 g2, hx], (m : Rat) * 2 ^ p, h0, ?_, ?_⟩
  · rw [← hx]
    unfold sg
    cases s
    · exact .inl (by simp)
    · exact .inr (by simp only [if_true]; grind)
  · have e : sg s * ((m' : Rat) * 2 ^ p') - x = sg s * ((m' : Rat) * 2 ^ p' - (m : Rat) * 2 ^ p) := by rw [← hx]; grind
    rw [e]
    exact ab_sg ⟨by grind, by grind⟩

/-- near to a number: by a part of it, and a little -/
def Nr (y x : Rat) : Prop := ∃ e : Rat, 0 ≤ e ∧ (e = x ∨ e = -x) ∧ Ab (y - x) (2 ^ (-53 : Int) * e + 2 ^ (-1075 : Int))
theorem sg_mul (s t : Bool) : sg (s ^^ t) = sg s * sg t := by cases s <;> cases t <;> decide +kernel
theorem mul_is {x y : Nat} {a b : Rat} (hx : Is x a) (hy : Is y b) (k : Int) (hk0 : -1074 ≤ k) (hk1 : k ≤ 1023) (h : Ab (a * b) (2 ^ k)) :
    ∃ r c, floatBits .mul .f64 x y = some r ∧ Is r c ∧ Ab c (2 ^ k) ∧ Nr c (a * b) := by
  obtain ⟨s, m, i, hr, rfl⟩ := hx
  obtain ⟨t, n, j, hr', rfl⟩ := hy
  have hv : sg (s ^^ t) * (((m * n : Nat) : Rat) * 2 ^ (i + j)) = sg s * ((m : Rat) * 2 ^ i) * (sg t * ((n : Rat) * 2 ^ j)) := by
    rw [sg_mul, Rat.natCast_mul, z2]; grind
  obtain ⟨c, hc, hb, _, hn⟩ := wr (s ^^ t) (m * n) (i + j) k _ hv hk0 hk1 h
  refine ⟨_, c, ?_, hc, hb, hn⟩
  show Option.map Ieee.double.write ((Ieee.double.read x).product (Ieee.double.read y)) = _
  rw [hr, hr']
  rfl
theorem signed_rat (s : Bool) (m up : Nat) : ((signed s m up : Int) : Rat) = sg s * ((m : Rat) * 2 ^ (up : Int)) := by
  unfold signed sg
  rw [Nat.shiftLeft_eq]
  cases s
  · simp only [Bool.false_eq_true, if_false, Rat.one_mul, Rat.intCast_natCast, Rat.natCast_mul, z2nat]
  · simp only [if_true, Rat.intCast_neg, Rat.intCast_natCast, Rat.natCast_mul, z2nat]; grind
theorem sg_abs (t : Int) (z : Bool) : sg (if t = 0 then z else decide (t < 0)) * ((t.natAbs : Nat) : Rat) = (t : Rat) := by
  by_cases h0 : t = 0
  · subst h0; simp
  · rw [if_neg h0]
    unfold sg
    by_cases h1 : t < 0
    · rw [decide_eq_true h1, if_pos rfl]
      have : ((t.natAbs : Nat) : Int) = -t := by omega
      rw [← Rat.intCast_natCast, this, Rat.intCast_neg]; grind
    · rw [decide_eq_false h1, if_neg (by simp)]
      have : ((t.natAbs : Nat) : Int) = t := by omega
      rw [← Rat.intCast_natCast, this]; grind
theorem add_is {x y : Nat} {a b : Rat} (hx : Is x a) (hy : Is y b) (k : Int) (hk0 : -1074 ≤ k) (hk1 : k ≤ 1023) (h : Ab (a + b) (2 ^ k)) :
    ∃ r c, floatBits .add .f64 x y = some r ∧ Is r c ∧ Ab c (2 ^ k) ∧ Nr c (a + b) := by
  obtain ⟨s, m, i, hr, rfl⟩ := hx
  obtain ⟨t, n, j, hr', rfl⟩ := hy
  generalize hT : signed s m (i - min i j).toNat + signed t n (j - min i j).toNat = T
  have hv : sg (if T = 0 then s && t else decide (T < 0)) * (((T.natAbs : Nat) : Rat) * 2 ^ (min i j)) = sg s * ((m : Rat) * 2 ^ i) + sg t * ((n : Rat) * 2 ^ j) := by
    rw [← Rat.mul_assoc, sg_abs, ← hT, Rat.intCast_add, signed_rat, signed_rat, Int.toNat_of_nonneg (by omega), Int.toNat_of_nonneg (by omega)]
    have e1 : (2 : Rat) ^ i = 2 ^ (i - min i j) * 2 ^ (min i j) := by rw [← z2]; congr 1; omega
    have e2 : (2 : Rat) ^ j = 2 ^ (j - min i j) * 2 ^ (min i j) := by rw [← z2]; congr 1; omega
    rw [e1, e2]
    grind
  obtain ⟨c, hc, hb, _, hn⟩ := wr _ T.natAbs (min i j) k _ hv hk0 hk1 h
  refine ⟨_, c, ?_, hc, hb, hn⟩
  show Option.map Ieee.double.write ((Ieee.double.read x).sum (Ieee.double.read y)) = _
  rw [hr, hr']
  simp only [Datum.sum, hT]
  rfl
/-- a whole number of at most 53 digits is a double -/
theorem int_is (n : Int) (h0 : 0 ≤ n) (h1 : n < 9007199254740992) : Is (floatOfInt .f64 n) (n : Rat) := by
  have hv : sg (decide (n < 0)) * (((n.natAbs : Nat) : Rat) * 2 ^ (0 : Int)) = (n : Rat) := by
    have := sg_abs n (decide (n < 0))
    rw [show (2 : Rat) ^ (0 : Int) = 1 from rfl, Rat.mul_one]
    by_cases hz : n = 0
    · subst hz; simp
    · rw [if_neg hz] at this; exact this
  have hb : Ab (n : Rat) (2 ^ (53 : Int)) := by
    have e : (2 : Rat) ^ (53 : Int) = ((9007199254740992 : Int) : Rat) := by decide +kernel
    have h2 : (n : Rat) ≤ ((9007199254740992 : Int) : Rat) := Rat.intCast_le_intCast.2 (by omega)
    have h3 : (0 : Rat) ≤ (n : Rat) := by exact_mod_cast h0
    have h4 : (0 : Rat) ≤ ((9007199254740992 : Int) : Rat) := by decide +kernel
    rw [e]
    constructor <;> grind
  obtain ⟨c, hc, _, hex, _⟩ := wr (decide (n < 0)) n.natAbs 0 53 _ hv (by decide) (by decide) hb
  have hlog : n.natAbs.log2 ≤ 52 := by
    by_cases hz : n.natAbs = 0
    · rw [hz]; decide
    · have : n.natAbs.log2 < 53 := (Nat.log2_lt hz).2 (by omega)
      omega
  have := hex hlog (by decide)
  subst this
  exact hc

theorem sg_sq (s : Bool) : sg s * sg s = 1 := by cases s <;> decide +kernel
theorem div_is {x y : Nat} {a b q : Rat} (hx : Is x a) (hy : Is y b) (hb : b ≠ 0) (hq : q * b = a) (k : Int) (hk0 : -1074 ≤ k) (hk1 : k ≤ 1023) (h : Ab q (2 ^ k)) :
    ∃ r c, floatBits .quo .f64 x y = some r ∧ Is r c ∧ Ab c (2 ^ k) := by
  obtain ⟨s, m, i, hr, rfl⟩ := hx
  obtain ⟨t, n, j, hr', rfl⟩ := hy
  have hn : n ≠ 0 := by
    rintro rfl
    apply hb
    have : ((0 : Nat) : Rat) = 0 := rfl
    rw [this]; grind
  generalize hmore : 54 + n.log2 - m.log2 = more
  generalize hD : m * 2 ^ more = D
  have hM : ((2 * (D / n) + (D % n != 0).toNat : Nat) : Rat) * 2 ^ (i - j - more - 1) ≤ 2 ^ k := by
    by_cases hm : m = 0
    · subst hm
      rw [Nat.zero_mul] at hD
      subst hD
      have : ((2 * (0 / n) + (0 % n != 0).toNat : Nat) : Rat) = 0 := by simp
      rw [this, Rat.zero_mul]
      exact Rat.le_of_lt (z2pos k)
    · have hn0 : 0 < n := by omega
      have hDn : n ≤ D := by
        rw [← hD]
        have h1 : n < 2 ^ (n.log2 + 1) := Nat.lt_log2_self
        have h2 : 2 ^ m.log2 ≤ m := Nat.log2_self_le hm
        have h3 : 2 ^ m.log2 * 2 ^ more ≤ m * 2 ^ more := Nat.mul_le_mul_right _ h2
        rw [← Nat.pow_add] at h3
        have h4 : 2 ^ (n.log2 + 1) ≤ 2 ^ (m.log2 + more) := Nat.pow_le_pow_right (by omega) (by omega)
        omega
      have hle : (m : Rat) * 2 ^ i ≤ 2 ^ k * ((n : Rat) * 2 ^ j) := by
        have hQ : (sg s * sg t * q) * ((n : Rat) * 2 ^ j) = (m : Rat) * 2 ^ i := by
          have h1 := sg_sq s
          have h2 := sg_sq t
          have : sg s * (q * (sg t * ((n : Rat) * 2 ^ j))) = sg s * (sg s * ((m : Rat) * 2 ^ i)) := by rw [hq]
          grind
        have hA : Ab (sg s * sg t * q) (2 ^ k) := by rw [← sg_mul]; exact ab_sg h
        have hnn : (0 : Rat) ≤ (n : Rat) * 2 ^ j := Rat.mul_nonneg (by exact_mod_cast Nat.zero_le _) (Rat.le_of_lt (z2pos _))
        rw [← hQ]
        exact Rat.mul_le_mul_of_nonneg_right hA.2 hnn
      have hP : (D : Rat) * 2 ^ (i - j - more) ≤ (n : Rat) * 2 ^ k := by
        have e1 : (m : Rat) * 2 ^ i * 2 ^ (-j) = (D : Rat) * 2 ^ (i - j - more) := by
          rw [← hD, Rat.natCast_mul, z2nat, Rat.mul_assoc, ← z2, Rat.mul_assoc, ← z2]
          congr 2; omega
        have e2 : (2 : Rat) ^ k * ((n : Rat) * 2 ^ j) * 2 ^ (-j) = (n : Rat) * 2 ^ k := by
          have : (2 : Rat) ^ j * 2 ^ (-j) = 1 := by rw [← z2, show j + -j = 0 by omega]; rfl
          grind
        rw [← e1, ← e2]
        exact Rat.mul_le_mul_of_nonneg_right hle (Rat.le_of_lt (z2pos _))
      generalize hPP : i - j - (more : Int) = P at *
      have hnr : (0 : Rat) < (n : Rat) := by exact_mod_cast hn0
      have hPk : P ≤ k := by
        have h1 : (n : Rat) ≤ (D : Rat) := by exact_mod_cast hDn
        have h2 := Rat.mul_le_mul_of_nonneg_right h1 (Rat.le_of_lt (z2pos P))
        have h3 : (n : Rat) * 2 ^ P ≤ n * 2 ^ k := Rat.le_trans h2 hP
        have h4 : (2 : Rat) ^ P * n ≤ 2 ^ k * n := by rw [Rat.mul_comm _ (n : Rat), Rat.mul_comm _ (n : Rat)]; exact h3
        have h5 := Rat.le_of_mul_le_mul_right h4 hnr
        refine (nat_le_of_rat (m := 1) (by omega) ?_).1
        rw [show ((1 : Nat) : Rat) = 1 from rfl, Rat.one_mul]
        exact h5
      have hDN : D ≤ n * 2 ^ (k - P).toNat := by
        have e : (n : Rat) * 2 ^ k = ((n * 2 ^ (k - P).toNat : Nat) : Rat) * 2 ^ P := by
          rw [Rat.natCast_mul, z2int (by omega), Rat.mul_assoc, ← z2, show k - P + P = k by omega]
        rw [e] at hP
        have := Rat.le_of_mul_le_mul_right hP (z2pos P)
        exact_mod_cast this
      generalize hN : 2 ^ (k - P).toNat = N at *
      have hM2 : 2 * (D / n) + (D % n != 0).toNat ≤ 2 * N := by
        have hdm := Nat.div_add_mod D n
        have hml := Nat.mod_lt D hn0
        by_cases hz : D % n = 0
        · have : D / n ≤ N := by
            rw [hz, Nat.add_zero] at hdm
            rw [← hdm] at hDN
            exact Nat.le_of_mul_le_mul_left hDN hn0
          rw [hz]
          simp
          omega
        · have : D / n < N := by
            have h1 : n * (D / n) < n * N := by omega
            exact Nat.lt_of_mul_lt_mul_left h1
          have h2 : (D % n != 0).toNat ≤ 1 := by cases (D % n != 0) <;> simp
          omega
      have h6 : ((2 * (D / n) + (D % n != 0).toNat : Nat) : Rat) ≤ ((2 * N : Nat) : Rat) := by exact_mod_cast hM2
      have h7 := Rat.mul_le_mul_of_nonneg_right h6 (Rat.le_of_lt (z2pos (P - 1)))
      have e3 : ((2 * N : Nat) : Rat) * 2 ^ (P - 1) = 2 ^ k := by
        rw [← hN, Rat.natCast_mul, z2int (by omega), show ((2 : Nat) : Rat) = 2 ^ (1 : Int) by decide +kernel, ← z2, ← z2]
        congr 1; omega
      rw [e3] at h7
      exact h7
  obtain ⟨m', p', hrd, h1, _⟩ := near (s ^^ t) (2 * (D / n) + (D % n != 0).toNat) (i - j - more - 1) k hk0 hk1 hM
  have h0' : (0 : Rat) ≤ (m' : Rat) * 2 ^ p' := Rat.mul_nonneg (by exact_mod_cast Nat.zero_le _) (Rat.le_of_lt (z2pos _))
  refine ⟨_, sg (s ^^ t) * ((m' : Rat) * 2 ^ p'), ?_, ⟨_, m', p', hrd, rfl⟩, ab_sg ⟨by grind, h1⟩⟩
  show Option.map Ieee.double.write ((Ieee.double.read x).quotient 54 (Ieee.double.read y)) = _
  rw [hr, hr']
  simp only [Datum.quotient, hn, if_false, hmore, Nat.shiftLeft_eq, hD]
  rfl

theorem z2le {i j : Int} (h : i ≤ j) : (2 : Rat) ^ i ≤ 2 ^ j := by
  have e : (2 : Rat) ^ j = 2 ^ (j - i) * 2 ^ i := by rw [← z2]; congr 1; omega
  have h1 : (1 : Rat) ≤ 2 ^ (j - i) := by
    rw [← z2int (by omega)]
    exact_mod_cast (Nat.one_le_two_pow : 1 ≤ 2 ^ (j - i).toNat)
  have h2 := Rat.mul_le_mul_of_nonneg_right h1 (Rat.le_of_lt (z2pos i))
  rw [e]
  grind
theorem ab_le {x : Rat} {i j : Int} (h : Ab x (2 ^ i)) (hij : i ≤ j) : Ab x (2 ^ j) := by
  have := z2le hij
  obtain ⟨h1, h2⟩ := h
  constructor <;> grind
theorem ab_add {x y : Rat} {i : Int} (h : Ab x (2 ^ i)) (k : Ab y (2 ^ i)) : Ab (x + y) (2 ^ (i + 1)) := by
  obtain ⟨h1, h2⟩ := h
  obtain ⟨k1, k2⟩ := k
  rw [z2, show (2 : Rat) ^ (1 : Int) = 2 from rfl]
  constructor <;> grind
theorem ab_mulr {x y a b : Rat} (h : Ab x a) (k : Ab y b) : Ab (x * y) (a * b) := by
  obtain ⟨h1, h2⟩ := h
  obtain ⟨k1, k2⟩ := k
  have p1 : 0 ≤ (a - x) * (b + y) := Rat.mul_nonneg (by grind) (by grind)
  have p2 : 0 ≤ (a + x) * (b - y) := Rat.mul_nonneg (by grind) (by grind)
  have p3 : 0 ≤ (a - x) * (b - y) := Rat.mul_nonneg (by grind) (by grind)
  have p4 : 0 ≤ (a + x) * (b + y) := Rat.mul_nonneg (by grind) (by grind)
  constructor <;> grind
theorem ab_mul {x y : Rat} {i j : Int} (h : Ab x (2 ^ i)) (k : Ab y (2 ^ j)) : Ab (x * y) (2 ^ (i + j)) := by
  rw [z2]; exact ab_mulr h k
theorem ab_mul_ {x y : Rat} {i j : Int} (l : Int) (h : Ab x (2 ^ i)) (k : Ab y (2 ^ j)) (e : i + j = l) : Ab (x * y) (2 ^ l) := by subst e; exact ab_mul h k
theorem ab_add_ {x y : Rat} {i j : Int} (l : Int) (h : Ab x (2 ^ i)) (k : Ab y (2 ^ j)) (e : i < l) (e' : j < l) : Ab (x + y) (2 ^ l) := by
  have h1 := ab_le h (show i ≤ l - 1 by omega)
  have k1 := ab_le k (show j ≤ l - 1 by omega)
  have := ab_add h1 k1
  rwa [show l - 1 + 1 = l by omega] at this
/-- a word's bound, looked up -/
def bnd (w : Nat) (k : Int) : Bool := match Ieee.double.read w with
  | .number _ m p => m == 0 || decide ((m.log2 : Int) + 1 + p ≤ k)
  | _ => false
theorem bnd_is {w : Nat} {k : Int} (h : bnd w k = true) : ∃ c, Is w c ∧ Ab c (2 ^ k) := by
  unfold bnd at h
  split at h
  · rename_i s m p hr
    refine ⟨_, ⟨s, m, p, hr, rfl⟩, ab_sg ?_⟩
    have h0 : (0 : Rat) ≤ (m : Rat) * 2 ^ p := Rat.mul_nonneg (by exact_mod_cast Nat.zero_le _) (Rat.le_of_lt (z2pos _))
    have hk := z2pos k
    refine ⟨by grind, ?_⟩
    simp only [Bool.or_eq_true, beq_iff_eq, decide_eq_true_eq] at h
    rcases h with h | h
    · subst h
      rw [show ((0 : Nat) : Rat) = 0 from rfl, Rat.zero_mul]
      exact Rat.le_of_lt hk
    · have hl1 : m < 2 ^ (m.log2 + 1) := Nat.lt_log2_self
      have h1 : (m : Rat) ≤ ((2 ^ (m.log2 + 1) : Nat) : Rat) := by exact_mod_cast Nat.le_of_lt hl1
      have h2 := Rat.mul_le_mul_of_nonneg_right h1 (Rat.le_of_lt (z2pos p))
      rw [z2nat, ← z2] at h2
      exact Rat.le_trans h2 (z2le (by omega))
  · cases h
end Fl
