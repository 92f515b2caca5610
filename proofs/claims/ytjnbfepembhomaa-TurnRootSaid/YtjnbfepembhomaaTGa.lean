/- The plain law of TurnGroup: turns as fractions of a whole, apart by whole numbers. -/
import Derived.IntWalk
import Derived.Test.YtjnbfepembhomaaPTGx
set_option linter.unusedVariables false
set_option linter.unusedSimpArgs false
namespace Go.Proofs.Ytjnbfepembhomaa.TG
open Go.RowKit Go.Proofs.Ytjnbfepembhomaa.PTG Go.Proofs.YtjnbfepembhomaaW.PrintWords
theorem wrap64_in {x : Int} (h0 : -9223372036854775808 ≤ x) (h1 : x ≤ 9223372036854775807) : wrap64 x = x := by unfold wrap64; omega
theorem wrap32_in {x : Int} (h0 : -2147483648 ≤ x) (h1 : x ≤ 2147483647) : wrap32 x = x := by unfold wrap32; omega
theorem u64_in {x : Int} (h0 : 0 ≤ x) (h1 : x ≤ 18446744073709551615) : IntKind.u64.wrap x = x := IntWalk.u64_in _ ⟨h0, h1⟩
/-! ### the divisors -/
theorem gcd_step (a b : Int) (h0 : 0 ≤ a) (h1 : 0 ≤ b) : Int.gcd b (a.tmod b) = Int.gcd a b := by
  obtain ⟨a, rfl⟩ := Int.eq_ofNat_of_zero_le h0
  obtain ⟨b, rfl⟩ := Int.eq_ofNat_of_zero_le h1
  rw [Int.tmod_eq_emod_of_nonneg (by omega), ← Int.natCast_emod]
  simp only [Int.gcd_natCast_natCast]
  rw [Nat.gcd_comm a b, Nat.gcd_rec b a, Nat.gcd_comm]
theorem com_l (n : Nat) : ∀ (k : Nat) (a b : Int), 0 ≤ a → 0 ≤ b → b.toNat ≤ n → n < k → turn_common.l0 k a b = some (Int.gcd a b : Int) := by
  induction n with
  | zero =>
    intro k a b h0 h1 hb hk
    obtain ⟨k, rfl⟩ : ∃ m, k = m + 1 := ⟨k - 1, by omega⟩
    obtain rfl : b = 0 := by omega
    simp only [turn_common.l0, if_true]
    rw [Int.gcd_zero]
    congr 1; omega
  | succ n ih =>
    intro k a b h0 h1 hb hk
    obtain ⟨k, rfl⟩ : ∃ m, k = m + 1 := ⟨k - 1, by omega⟩
    simp only [turn_common.l0]
    by_cases hb0 : b = 0
    · rw [if_pos hb0, hb0, Int.gcd_zero]
      congr 1; omega
    · rw [if_neg hb0]
      have e : a.tmod b = a % b := Int.tmod_eq_emod_of_nonneg h0
      have m0 : 0 ≤ a % b := Int.emod_nonneg _ hb0
      have m1 : a % b < b := Int.emod_lt_of_pos _ (by omega)
      rw [ih k b (a.tmod b) h1 (by rw [e]; exact m0) (by rw [e]; omega) (by omega), gcd_step a b h0 h1]
def fin (P W g : Int) : Int × Int × Int := if W / g > 4294967296 then (0, 0, 3) else (P / g, W / g, 0)
theorem low_l (P W : Int) (P0 : 0 ≤ P) (PW : P < W) (W1 : W < 18446744073709551616) (n : Nat) : ∀ (k : Nat) (a b : Int), 0 ≤ a → 0 ≤ b → 0 < Int.gcd a b → b.toNat ≤ n → n < k → turn_lowest.l0 k P W a b = some (fin P W (Int.gcd a b)) := by
  have last : ∀ a : Int, 0 < a → (if a = 0 then (none : Option (Int × Int × Int)) else (if (IntKind.u64.wrap (Int.tdiv W a)) > 4294967296 then (some (0, 0, 3)) else (some (wrap64 (IntKind.u64.wrap (Int.tdiv P a)), wrap64 (IntKind.u64.wrap (Int.tdiv W a)), 0)))) = some (fin P W a) := by
    intro a ha
    rw [if_neg (by omega), Int.tdiv_eq_ediv_of_nonneg (by omega), Int.tdiv_eq_ediv_of_nonneg P0]
    have d0 : 0 ≤ W / a := Int.ediv_nonneg (by omega) (by omega)
    have d1 : W / a ≤ W := Int.ediv_le_self _ (by omega)
    have p0 : 0 ≤ P / a := Int.ediv_nonneg P0 (by omega)
    have p1 : P / a ≤ W / a := Int.ediv_le_ediv ha (by omega)
    have p2 : P / a ≤ P := Int.ediv_le_self _ (by omega)
    rw [u64_in d0 (by omega), u64_in p0 (by omega)]
    unfold fin
    by_cases hc : W / a > 4294967296
    · rw [if_pos hc, if_pos hc]
    · rw [if_neg hc, if_neg hc, wrap64_in (by omega) (by omega), wrap64_in (by omega) (by omega)]
  induction n with
  | zero =>
    intro k a b h0 h1 hg hb hk
    obtain ⟨k, rfl⟩ : ∃ m, k = m + 1 := ⟨k - 1, by omega⟩
    obtain rfl : b = 0 := by omega
    simp only [turn_lowest.l0, if_true]
    rw [Int.gcd_zero] at hg ⊢
    rw [last a (by omega)]
    congr 2; omega
  | succ n ih =>
    intro k a b h0 h1 hg hb hk
    obtain ⟨k, rfl⟩ : ∃ m, k = m + 1 := ⟨k - 1, by omega⟩
    simp only [turn_lowest.l0]
    by_cases hb0 : b = 0
    · subst hb0
      rw [if_pos rfl]
      rw [Int.gcd_zero] at hg ⊢
      rw [last a (by omega)]
      congr 2; omega
    · rw [if_neg hb0]
      have e : a.tmod b = a % b := Int.tmod_eq_emod_of_nonneg h0
      have m0 : 0 ≤ a % b := Int.emod_nonneg _ hb0
      have m1 : a % b < b := Int.emod_lt_of_pos _ (by omega)
      have hs := gcd_step a b h0 h1
      rw [ih k b (a.tmod b) h1 (by rw [e]; exact m0) (by rw [hs]; exact hg) (by rw [e]; omega) (by omega), hs]
/-! ### turns -/
structure Low (p w : Int) : Prop where
  p0 : 0 ≤ p
  pw : p < w
  co : Int.gcd w p = 1
structure Ok (p w : Int) : Prop extends Low p w where
  top : w ≤ 4294967296
/-- the same turn: two parts of a whole part by a whole number -/
def Same (x y : Rat) : Prop := ∃ m : Int, x = y + m
theorem Same.refl (x : Rat) : Same x x := ⟨0, by simp [Rat.add_zero]⟩
theorem Same.symm {x y : Rat} (h : Same x y) : Same y x := by
  obtain ⟨m, h⟩ := h
  exact ⟨-m, by rw [Rat.intCast_neg]; grind⟩
theorem Same.trans {x y z : Rat} (h : Same x y) (k : Same y z) : Same x z := by
  obtain ⟨m, h⟩ := h
  obtain ⟨n, k⟩ := k
  exact ⟨m + n, by rw [Rat.intCast_add]; grind⟩
theorem Same.add {x y u v : Rat} (h : Same x y) (k : Same u v) : Same (x + u) (y + v) := by
  obtain ⟨m, h⟩ := h
  obtain ⟨n, k⟩ := k
  exact ⟨m + n, by rw [Rat.intCast_add]; grind⟩
theorem Same.neg {x y : Rat} (h : Same x y) : Same (-x) (-y) := by
  obtain ⟨m, h⟩ := h
  exact ⟨-m, by rw [Rat.intCast_neg]; grind⟩
def q (p w : Int) : Rat := (p : Rat) / (w : Rat)
theorem cast_ne {w : Int} (h : 0 < w) : (w : Rat) ≠ 0 := by
  intro e
  have : w = 0 := by exact_mod_cast e
  omega
theorem dvd_of_co {w p x : Int} (co : Int.gcd w p = 1) (h : w ∣ p * x) : w ∣ x := by
  have h' := Int.natAbs_dvd_natAbs.2 h
  rw [Int.natAbs_mul] at h'
  exact Int.natAbs_dvd_natAbs.1 (Nat.Coprime.dvd_of_dvd_mul_left co h')
theorem uniq {p w p' w' : Int} (h : Low p w) (h' : Low p' w') (e : Same (q p w) (q p' w')) : p = p' ∧ w = w' := by
  obtain ⟨m, e⟩ := e
  have w0 : 0 < w := by have := h.p0; have := h.pw; omega
  have w0' : 0 < w' := by have := h'.p0; have := h'.pw; omega
  have n1 := cast_ne w0
  have n2 := cast_ne w0'
  have e1 : (p : Rat) * w' = p' * w + m * w * w' := by unfold q at e; grind
  have e2 : p * w' = p' * w + m * w * w' := by exact_mod_cast e1
  have b1 : p * w' < w * w' := Int.mul_lt_mul_of_pos_right h.pw w0'
  have b2 : p' * w < w' * w := Int.mul_lt_mul_of_pos_right h'.pw w0
  have b3 : 0 ≤ p * w' := Int.mul_nonneg h.p0 (by omega)
  have b4 : 0 ≤ p' * w := Int.mul_nonneg h'.p0 (by omega)
  have b5 : w' * w = w * w' := Int.mul_comm _ _
  have b6 : m * w * w' = m * (w * w') := Int.mul_assoc _ _ _
  rw [b6] at e2
  have m0 : m = 0 := by
    have ww : 0 < w * w' := Int.mul_pos w0 w0'
    generalize w * w' = X at *
    generalize p * w' = A at *
    generalize p' * w = B at *
    by_cases hm : 1 ≤ m
    · have : 1 * X ≤ m * X := Int.mul_le_mul_of_nonneg_right hm (by omega)
      omega
    · by_cases hm' : m ≤ -1
      · have : m * X ≤ -1 * X := Int.mul_le_mul_of_nonneg_right hm' (by omega)
        omega
      · omega
  subst m0
  rw [Int.zero_mul, Int.add_zero] at e2
  have d1 : w ∣ w' := dvd_of_co h.co ⟨p', by rw [e2]; exact Int.mul_comm _ _⟩
  have d2 : w' ∣ w := dvd_of_co h'.co ⟨p, by rw [← e2]; exact Int.mul_comm _ _⟩
  have ew : w = w' := Int.dvd_antisymm (by omega) (by omega) d1 d2
  subst ew
  exact ⟨Int.eq_of_mul_eq_mul_right (by omega) e2, rfl⟩
/-- lowest terms -/
theorem redu {P W : Int} (P0 : 0 ≤ P) (PW : P < W) : ∃ p w, Low p w ∧ q p w = q P W ∧ p = P / (Int.gcd W P : Int) ∧ w = W / (Int.gcd W P : Int) ∧ 0 < Int.gcd W P ∧ w ≤ W := by
  have g0 : 0 < Int.gcd W P := Int.gcd_pos_of_ne_zero_left _ (by omega)
  have d1 : (Int.gcd W P : Int) ∣ W := Int.gcd_dvd_left ..
  have d2 : (Int.gcd W P : Int) ∣ P := Int.gcd_dvd_right ..
  have e1 := Int.ediv_mul_cancel d1
  have e2 := Int.ediv_mul_cancel d2
  have c := Int.gcd_ediv_gcd_ediv_gcd (i := W) (j := P) g0
  generalize hg : (Int.gcd W P : Int) = g at *
  have g1 : 0 < g := by omega
  refine ⟨P / g, W / g, ⟨Int.ediv_nonneg P0 (by omega), ?_, c⟩, ?_, rfl, rfl, g0, Int.ediv_le_self _ (by omega)⟩
  · have : P / g * g < W / g * g := by rw [e1, e2]; exact PW
    exact Int.lt_of_mul_lt_mul_right this (by omega)
  · have n1 := cast_ne (show 0 < W by omega)
    have n2 := cast_ne g1
    have w0 : 0 < W / g := by
      have := Int.ediv_nonneg (a := W) (b := g) (by omega) (by omega)
      by_cases h : W / g = 0
      · rw [h] at e1; omega
      · omega
    have n3 := cast_ne w0
    have f1 : ((W / g : Int) : Rat) * g = W := by exact_mod_cast e1
    have f2 : ((P / g : Int) : Rat) * g = P := by exact_mod_cast e2
    unfold q
    grind
end Go.Proofs.Ytjnbfepembhomaa.TG
namespace Go.Proofs.Ytjnbfepembhomaa.TG
open Go.RowKit Go.Proofs.Ytjnbfepembhomaa.PTG Go.Proofs.YtjnbfepembhomaaW.PrintWords
def big : Nat := 36893488147419103232
theorem chk (k : Nat) (hk : big ≤ k) (p w : Int) : ∃ e, turn_Check.f k p w = some e ∧ (e = 0 ↔ Ok p w) := by
  unfold big at hk
  unfold turn_Check.f
  by_cases h1 : w < 1
  · rw [if_pos h1]
    exact ⟨180, rfl, by simp; exact fun h => by have := h.p0; have := h.pw; omega⟩
  · rw [if_neg h1]
    by_cases h2 : w > 4294967296
    · rw [if_pos h2]
      exact ⟨180, rfl, by simp; exact fun h => by have := h.top; omega⟩
    · rw [if_neg h2]
      by_cases h3 : p < 0
      · rw [if_pos h3]
        exact ⟨180, rfl, by simp; exact fun h => by have := h.p0; omega⟩
      · rw [if_neg h3]
        by_cases h4 : p ≥ w
        · rw [if_pos h4]
          exact ⟨180, rfl, by simp; exact fun h => by have := h.pw; omega⟩
        · rw [if_neg h4]
          unfold turn_common.f
          rw [com_l p.toNat k w p (by omega) (by omega) (by omega) (by omega)]
          simp only [Option.bind_some]
          by_cases h5 : (Int.gcd w p : Int) = 1
          · rw [if_pos h5]
            exact ⟨0, rfl, by simp; exact ⟨⟨by omega, by omega, by omega⟩, by omega⟩⟩
          · rw [if_neg h5]
            exact ⟨180, rfl, by simp; exact fun h => by have := h.co; omega⟩
theorem chk_ok (k : Nat) (hk : big ≤ k) {p w : Int} (h : Ok p w) : turn_Check.f k p w = some 0 := by
  obtain ⟨e, h1, h2⟩ := chk k hk p w
  rw [h1, h2.2 h]
/-- the lowest terms of P of W -/
theorem low (k : Nat) (hk : big ≤ k) {P W : Int} (P0 : 0 ≤ P) (PW : P < W) (W1 : W < 18446744073709551616) :
    ∃ p w, Low p w ∧ q p w = q P W ∧ w ≤ W ∧ turn_lowest.f k P W = some (if w > 4294967296 then (0, 0, 3) else (p, w, 0)) := by
  unfold big at hk
  obtain ⟨p, w, hl, hq, hp, hw, hg, hle⟩ := redu P0 PW
  refine ⟨p, w, hl, hq, hle, ?_⟩
  unfold turn_lowest.f
  rw [low_l P W P0 PW W1 P.toNat k W P (by omega) P0 hg (by omega) (by omega)]
  unfold fin
  rw [← hp, ← hw]
theorem mul_bd {a b A B : Int} (a0 : 0 ≤ a) (b0 : 0 ≤ b) (h : a ≤ A) (h' : b ≤ B) : a * b ≤ A * B := Int.mul_le_mul h h' b0 (by omega)
/-- the sum -/
theorem sum (k : Nat) (hk : big ≤ k) {p u r v : Int} (ha : Ok p u) (hb : Ok r v) :
    ∃ x w, Low x w ∧ Same (q x w) (q p u + q r v) ∧ turn_Add.f k p u r v = some (if w > 4294967296 then (0, 0, 3) else (x, w, 0)) := by
  have hk' := hk
  unfold big at hk'
  obtain ⟨⟨p0, pu, cp⟩, u1⟩ := ha
  obtain ⟨⟨r0, rv, cr⟩, v1⟩ := hb
  have g0 : 0 < Int.gcd u v := Int.gcd_pos_of_ne_zero_left _ (by omega)
  have d1 : (Int.gcd u v : Int) ∣ u := Int.gcd_dvd_left ..
  have d2 : (Int.gcd u v : Int) ∣ v := Int.gcd_dvd_right ..
  have e1 := Int.ediv_mul_cancel d1
  have e2 := Int.ediv_mul_cancel d2
  have hA : turn_Add.f k p u r v = turn_Add.tail k p u r v (Int.gcd u v : Int) := by
    unfold turn_Add.f turn_common.f
    rw [chk_ok k hk ⟨⟨p0, pu, cp⟩, u1⟩, Option.bind_some, if_pos rfl, chk_ok k hk ⟨⟨r0, rv, cr⟩, v1⟩, Option.bind_some, if_pos rfl, com_l v.toNat k u v (by omega) (by omega) (by omega) (by omega), Option.bind_some]
  rw [hA]
  generalize hg : (Int.gcd u v : Int) = g at *
  have g1 : 0 < g := by omega
  unfold turn_Add.tail
  generalize hV : v / g = V at *
  generalize hU : u / g = U at *
  have V0 : 0 < V := by
    by_cases h : V ≤ 0
    · have : V * g ≤ 0 := Int.mul_nonpos_of_nonpos_of_nonneg h (by omega)
      omega
    · omega
  have U0 : 0 < U := by
    by_cases h : U ≤ 0
    · have : U * g ≤ 0 := Int.mul_nonpos_of_nonpos_of_nonneg h (by omega)
      omega
    · omega
  have VV : V ≤ v := by rw [← hV]; exact Int.ediv_le_self _ (by omega)
  have UU : U ≤ u := by rw [← hU]; exact Int.ediv_le_self _ (by omega)
  have hW : u * V = v * U := by rw [← e1, ← e2]; rw [Int.mul_comm V g, Int.mul_assoc U g V, Int.mul_comm (g * V) U]
  have x1 : p * V < u * V := Int.mul_lt_mul_of_pos_right pu V0
  have y1 : r * U < v * U := Int.mul_lt_mul_of_pos_right rv U0
  have x0 : 0 ≤ p * V := Int.mul_nonneg p0 (by omega)
  have y0 : 0 ≤ r * U := Int.mul_nonneg r0 (by omega)
  have W0 : 0 < u * V := by omega
  have W1 : u * V < 18446744073709551616 := by
    have h1 : u * V ≤ 4294967296 * 4294967296 := mul_bd (by omega) (by omega) u1 (by omega)
    by_cases h : V = 4294967296
    · have hv : v = 4294967296 := by omega
      have hg1 : g = 1 := by
        rw [h, hv] at e2; omega
      rw [hg1, Int.mul_one] at e1
      by_cases hu : u = 4294967296
      · rw [hu, hv] at hg
        have : Int.gcd 4294967296 4294967296 = 4294967296 := by decide
        omega
      · have : u * V ≤ 4294967295 * 4294967296 := mul_bd (by omega) (by omega) (by omega) (by omega)
        omega
    · have : u * V ≤ 4294967296 * 4294967295 := mul_bd (by omega) (by omega) u1 (by omega)
      omega
  rw [if_pos ⟨by omega, p0, by omega, pu, r0, by omega, rv, u1, v1, W1, by omega, by omega, by omega⟩]
  have n1 := cast_ne (show 0 < u by omega)
  have n2 := cast_ne (show 0 < v by omega)
  have n3 := cast_ne U0
  have n4 := cast_ne V0
  have hWr : (u : Rat) * V = v * U := by exact_mod_cast hW
  have hq : q (p * V + r * U) (u * V) = q p u + q r v := by
    unfold q
    rw [Rat.intCast_add, Rat.intCast_mul, Rat.intCast_mul, Rat.intCast_mul]
    grind
  by_cases hc : u * V ≤ p * V + r * U
  · rw [if_pos hc]
    obtain ⟨x, w, hl, hs, _, hf⟩ := low k hk (P := p * V + r * U - u * V) (W := u * V) (by omega) (by omega) W1
    refine ⟨x, w, hl, ⟨-1, ?_⟩, hf⟩
    have n5 := cast_ne W0
    rw [hs, ← hq]
    unfold q
    rw [Rat.intCast_sub]
    grind
  · rw [if_neg hc]
    obtain ⟨x, w, hl, hs, _, hf⟩ := low k hk (P := p * V + r * U) (W := u * V) (by omega) (by omega) W1
    exact ⟨x, w, hl, by rw [hs, hq]; exact Same.refl _, hf⟩
/-- where a turn is the sum, it is told -/
theorem sum_is (k : Nat) (hk : big ≤ k) {p u r v x w : Int} (ha : Ok p u) (hb : Ok r v) (hx : Ok x w) (hs : Same (q x w) (q p u + q r v)) : turn_Add.f k p u r v = some (x, w, 0) := by
  obtain ⟨x', w', hl, hs', hf⟩ := sum k hk ha hb
  obtain ⟨rfl, rfl⟩ := uniq hl hx.toLow (hs'.trans hs.symm)
  rw [hf, if_neg (by have := hx.top; omega)]
/-- where the sum is told, it is a turn -/
theorem sum_ok (k : Nat) (hk : big ≤ k) {p u r v : Int} (ha : Ok p u) (hb : Ok r v) : (∃ x w, Ok x w ∧ Same (q x w) (q p u + q r v) ∧ turn_Add.f k p u r v = some (x, w, 0)) ∨ turn_Add.f k p u r v = some (0, 0, 3) := by
  obtain ⟨x, w, hl, hs, hf⟩ := sum k hk ha hb
  by_cases hc : w > 4294967296
  · rw [if_pos hc] at hf; exact .inr hf
  · rw [if_neg hc] at hf; exact .inl ⟨x, w, ⟨hl, by omega⟩, hs, hf⟩
theorem neg (k : Nat) (hk : big ≤ k) {p u : Int} (ha : Ok p u) : ∃ x, Ok x u ∧ Same (q x u) (-q p u) ∧ turn_Neg.f k p u = some (x, u, 0) := by
  have n1 := cast_ne (show 0 < u by have := ha.p0; have := ha.pw; omega)
  have c := chk_ok k hk ha
  obtain ⟨⟨p0, pu, cp⟩, u1⟩ := ha
  have h1 : wrap64 (u - p) = u - p := wrap64_in (by omega) (by omega)
  have e : (u - p).tmod u = (u - p) % u := Int.tmod_eq_emod_of_nonneg (by omega)
  have hf : turn_Neg.f k p u = some ((u - p) % u, u, 0) := by
    unfold turn_Neg.f
    rw [c, Option.bind_some, if_pos rfl, if_neg (by omega), h1, e]
  by_cases hp : p = 0
  · subst hp
    rw [Int.sub_zero, Int.emod_self] at hf
    exact ⟨0, ⟨⟨by omega, by omega, cp⟩, u1⟩, ⟨0, by unfold q; simp; grind⟩, hf⟩
  · rw [Int.emod_eq_of_lt (by omega) (by omega)] at hf
    refine ⟨u - p, ⟨⟨by omega, by omega, ?_⟩, u1⟩, ⟨1, ?_⟩, hf⟩
    · have h2 : Int.gcd u (u - p) ∣ Int.gcd u p := by
        apply Int.dvd_gcd
        · exact Int.gcd_dvd_left ..
        · have := Int.dvd_sub (Int.gcd_dvd_left (a := u) (b := u - p)) (Int.gcd_dvd_right (a := u) (b := u - p))
          rwa [Int.sub_sub_self] at this
      rw [cp] at h2
      exact Nat.dvd_one.1 h2
    · unfold q
      rw [Rat.intCast_sub]
      grind
end Go.Proofs.Ytjnbfepembhomaa.TG
