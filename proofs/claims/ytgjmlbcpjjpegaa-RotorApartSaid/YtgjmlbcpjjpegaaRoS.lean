import Derived.Test.YtgjmlbcpjjpegaaQPlain
import Derived.Test.YtgjmlbcpjjpegaaNtP
/- The order of rotors on the way round: which of two angles is the lesser. Plain Lean. -/
set_option linter.unusedVariables false
namespace RO
/-- the quarter of a number -/
def qtr (x y : Int) : Int := if 0 < x ∧ 0 ≤ y then 0 else if x ≤ 0 ∧ 0 < y then 1 else if x < 0 then 2 else 3
/-- which of two stands ahead, as it is reckoned -/
def ordC (f n g m : Int) : Int :=
  if qtr (f * f - n * n) (2 * f * n) < qtr (g * g - m * m) (2 * g * m) ∨ qtr (f * f - n * n) (2 * f * n) = qtr (g * g - m * m) (2 * g * m) ∧ 0 < (f * f - n * n) * (2 * g * m) - 2 * f * n * (g * g - m * m) then -1
  else if qtr (g * g - m * m) (2 * g * m) < qtr (f * f - n * n) (2 * f * n) ∨ (f * f - n * n) * (2 * g * m) - 2 * f * n * (g * g - m * m) < 0 then 1 else 0
/-- a rotor's numbers, its divisor aside -/
structure Ok (f n : Int) : Prop where
  pos : 0 < f
  ne : n ≠ 0
  ne1 : n ≠ f
  ne2 : n ≠ -f
/-- the angle is the lesser: by the sign, and the slope -/
def ahead (f n g m : Int) : Prop := (0 < n ∧ m < 0) ∨ ((0 < n ↔ 0 < m) ∧ n * g < m * f)
instance (f n g m : Int) : Decidable (ahead f n g m) := inferInstanceAs (Decidable (_ ∨ _))
theorem sq_diff (f n : Int) : f * f - n * n = (f - n) * (f + n) := by grind
theorem qtr_val {f n : Int} (h : Ok f n) : qtr (f * f - n * n) (2 * f * n) = if 0 < n then (if n < f then 0 else 1) else (if n < -f then 2 else 3) := by
  obtain ⟨h0, h1, h2, h3⟩ := h
  rw [sq_diff]
  unfold qtr
  by_cases hn : 0 < n
  · have y0 : 0 < 2 * f * n := Int.mul_pos (by omega) hn
    rw [if_pos hn]
    by_cases hf : n < f
    · have x0 : 0 < (f - n) * (f + n) := Int.mul_pos (by omega) (by omega)
      rw [if_pos hf, if_pos ⟨x0, by omega⟩]
    · have x0 : 0 < (n - f) * (f + n) := Int.mul_pos (by omega) (by omega)
      have e : (n - f) * (f + n) = -((f - n) * (f + n)) := by rw [← Int.neg_mul]; congr 1; omega
      rw [if_neg hf, if_neg (fun c => by omega), if_pos ⟨by omega, y0⟩]
  · have y0 : 0 < 2 * f * (-n) := Int.mul_pos (by omega) (by omega)
    rw [Int.mul_neg] at y0
    rw [if_neg hn]
    by_cases hf : n < -f
    · have x0 : 0 < (f - n) * (-(f + n)) := Int.mul_pos (by omega) (by omega)
      rw [Int.mul_neg] at x0
      rw [if_pos hf, if_neg (fun c => by omega), if_neg (fun c => by omega), if_pos (by omega)]
    · have x0 : 0 < (f - n) * (f + n) := Int.mul_pos (by omega) (by omega)
      rw [if_neg hf, if_neg (fun c => by omega), if_neg (fun c => by omega), if_neg (by omega)]
theorem cross_is (f n g m : Int) : (f * f - n * n) * (2 * g * m) - 2 * f * n * (g * g - m * m) = 2 * (f * g + n * m) * (f * m - n * g) := by grind
theorem cross_pos {f n g m : Int} (hf : 0 < f) (hg : 0 < g) (hs : 0 < n * m) : (0 < (f * f - n * n) * (2 * g * m) - 2 * f * n * (g * g - m * m) ↔ n * g < m * f) ∧ ((f * f - n * n) * (2 * g * m) - 2 * f * n * (g * g - m * m) < 0 ↔ m * f < n * g) := by
  rw [cross_is]
  have hfg : 0 < f * g := Int.mul_pos hf hg
  have hp : 0 < 2 * (f * g + n * m) := by omega
  have e : m * f = f * m := Int.mul_comm m f
  rw [e]
  generalize hd : f * m = a
  generalize hc : n * g = b
  generalize 2 * (f * g + n * m) = p at hp
  rcases (by omega : b < a ∨ b = a ∨ a < b) with h | h | h
  · have : 0 < p * (a - b) := Int.mul_pos hp (by omega)
    constructor <;> constructor <;> intro _ <;> omega
  · subst h
    rw [Int.sub_self, Int.mul_zero]
    constructor <;> constructor <;> intro _ <;> omega
  · have : 0 < p * (b - a) := Int.mul_pos hp (by omega)
    have e2 : p * (b - a) = -(p * (a - b)) := by rw [← Int.mul_neg]; congr 1; omega
    constructor <;> constructor <;> intro _ <;> omega
theorem ord_is {f n g m : Int} (h : Ok f n) (k : Ok g m) : ordC f n g m = if ahead f n g m then -1 else if ahead g m f n then 1 else 0 := by
  have hq := qtr_val h
  have hr := qtr_val k
  obtain ⟨f0, n0, n1, n2⟩ := h
  obtain ⟨g0, m0, m1, m2⟩ := k
  have hfg : f * g = g * f := Int.mul_comm f g
  unfold ordC
  rw [hq, hr]
  by_cases hn : 0 < n
  · by_cases hm : 0 < m
    · obtain ⟨c1, c2⟩ := cross_pos f0 g0 (Int.mul_pos hn hm)
      rw [if_pos hn, if_pos hm]
      have A : ahead f n g m ↔ n * g < m * f := ⟨fun a => by rcases a with a | a; exact absurd a.2 (by omega); exact a.2, fun a => .inr ⟨⟨fun _ => hm, fun _ => hn⟩, a⟩⟩
      have A' : ahead g m f n ↔ m * f < n * g := ⟨fun a => by rcases a with a | a; exact absurd a.2 (by omega); exact a.2, fun a => .inr ⟨⟨fun _ => hn, fun _ => hm⟩, a⟩⟩
      by_cases p : n < f <;> by_cases q : m < g
      · rw [if_pos p, if_pos q]; simp only [A, A', c1, c2]; simp
      · have e1 : n * g < f * g := Int.mul_lt_mul_of_pos_right p g0
        have e2 : g * f ≤ m * f := Int.mul_le_mul_of_nonneg_right (by omega) (by omega)
        rw [if_pos p, if_neg q, if_pos (.inl (by omega)), if_pos (A.2 (by omega))]
      · have e1 : m * f < g * f := Int.mul_lt_mul_of_pos_right q f0
        have e2 : f * g ≤ n * g := Int.mul_le_mul_of_nonneg_right (by omega) (by omega)
        rw [if_neg p, if_pos q, if_neg (fun c => by omega), if_pos (.inl (by omega)), if_neg (fun c => by have := A.1 c; omega), if_pos (A'.2 (by omega))]
      · rw [if_neg p, if_neg q]; simp only [A, A', c1, c2]; simp
    · have hm' : m < 0 := by omega
      rw [if_pos hn, if_neg hm]
      have A : ahead f n g m := .inl ⟨hn, hm'⟩
      rw [if_pos (.inl (by split <;> split <;> omega)), if_pos A]
  · have hn' : n < 0 := by omega
    by_cases hm : 0 < m
    · rw [if_neg hn, if_pos hm]
      have A : ¬ ahead f n g m := fun a => by rcases a with a | a; exact hn a.1; exact hn (a.1.2 hm)
      have A' : ahead g m f n := .inl ⟨hm, hn'⟩
      rw [if_neg A, if_pos A', if_neg (fun c => by rcases c with c | c; revert c; split <;> split <;> omega; have := c.1; revert this; split <;> split <;> omega), if_pos (.inl (by split <;> split <;> omega))]
    · have hm' : m < 0 := by omega
      have hnm : 0 < n * m := Int.mul_pos_of_neg_of_neg hn' hm'
      obtain ⟨c1, c2⟩ := cross_pos f0 g0 hnm
      rw [if_neg hn, if_neg hm]
      have A : ahead f n g m ↔ n * g < m * f := ⟨fun a => by rcases a with a | a; exact absurd a.1 hn; exact a.2, fun a => .inr ⟨⟨fun h => absurd h hn, fun h => absurd h hm⟩, a⟩⟩
      have A' : ahead g m f n ↔ m * f < n * g := ⟨fun a => by rcases a with a | a; exact absurd a.1 hm; exact a.2, fun a => .inr ⟨⟨fun h => absurd h hm, fun h => absurd h hn⟩, a⟩⟩
      by_cases p : n < -f <;> by_cases q : m < -g
      · rw [if_pos p, if_pos q]; simp only [A, A', c1, c2]; simp
      · have e1 : n * g < -f * g := Int.mul_lt_mul_of_pos_right p g0
        have e2 : -g * f ≤ m * f := Int.mul_le_mul_of_nonneg_right (by omega) (by omega)
        rw [Int.neg_mul] at e1 e2
        rw [if_pos p, if_neg q, if_pos (.inl (by omega)), if_pos (A.2 (by omega))]
      · have e1 : m * f < -g * f := Int.mul_lt_mul_of_pos_right q f0
        have e2 : -f * g ≤ n * g := Int.mul_le_mul_of_nonneg_right (by omega) (by omega)
        rw [Int.neg_mul] at e1 e2
        rw [if_neg p, if_pos q, if_neg (fun c => by omega), if_pos (.inl (by omega)), if_neg (fun c => by have := A.1 c; omega), if_pos (A'.2 (by omega))]
      · rw [if_neg p, if_neg q]; simp only [A, A', c1, c2]; simp
theorem ahead_asym {f n g m : Int} (a : ahead f n g m) : ¬ ahead g m f n := by
  intro b
  rcases a with a | a <;> rcases b with b | b
  · omega
  · have := b.1; omega
  · have := a.1; omega
  · omega
theorem ahead_trans {f n g m h p : Int} (f0 : 0 < f) (g0 : 0 < g) (h0 : 0 < h) (n0 : n ≠ 0) (m0 : m ≠ 0) (p0 : p ≠ 0) (a : ahead f n g m) (b : ahead g m h p) : ahead f n h p := by
  rcases a with a | ⟨a1, a2⟩ <;> rcases b with b | ⟨b1, b2⟩
  · omega
  · exact .inl ⟨a.1, by omega⟩
  · exact .inl ⟨by omega, b.2⟩
  · refine .inr ⟨by omega, ?_⟩
    have e1 : n * g * h < m * f * h := Int.mul_lt_mul_of_pos_right a2 h0
    have e2 : m * h * f < p * g * f := Int.mul_lt_mul_of_pos_right b2 f0
    have e3 : m * f * h = m * h * f := by grind
    have e4 : n * g * h = n * h * g := by grind
    have e5 : p * g * f = p * f * g := by grind
    rw [e3, e4] at e1
    rw [e5] at e2
    exact Int.lt_of_mul_lt_mul_right (Int.lt_trans e1 e2) (by omega)
theorem ahead_conj {f n g m : Int} (n0 : n ≠ 0) (m0 : m ≠ 0) : ahead f (-n) g (-m) ↔ ahead g m f n := by
  unfold ahead
  rw [Int.neg_mul, Int.neg_mul]
  constructor
  · rintro (h | ⟨h1, h2⟩)
    · exact .inl ⟨by omega, by omega⟩
    · exact .inr ⟨by omega, by omega⟩
  · rintro (h | ⟨h1, h2⟩)
    · exact .inl ⟨by omega, by omega⟩
    · exact .inr ⟨by omega, by omega⟩
theorem same_of {f n g m : Int} (f0 : 0 < f) (g0 : 0 < g) (n0 : n ≠ 0) (m0 : m ≠ 0) (hc : Int.gcd f n = 1) (hd : Int.gcd g m = 1) (a : ¬ ahead f n g m) (b : ¬ ahead g m f n) : f = g ∧ n = m := by
  have hs : (0 < n ↔ 0 < m) := by
    constructor
    · intro h
      by_cases hm : 0 < m
      · exact hm
      · exact absurd (.inl ⟨h, by omega⟩) a
    · intro h
      by_cases hn : 0 < n
      · exact hn
      · exact absurd (.inl ⟨h, by omega⟩) b
  have e : n * g = m * f := by
    have h1 : ¬ n * g < m * f := fun h => a (.inr ⟨hs, h⟩)
    have h2 : ¬ m * f < n * g := fun h => b (.inr ⟨hs.symm, h⟩)
    omega
  have hN : n.natAbs * g.natAbs = m.natAbs * f.natAbs := by rw [← Int.natAbs_mul, ← Int.natAbs_mul, e]
  have d1 : f.natAbs ∣ g.natAbs := by
    have : f.natAbs ∣ n.natAbs * g.natAbs := ⟨m.natAbs, by rw [hN, Nat.mul_comm]⟩
    exact Nat.Coprime.dvd_of_dvd_mul_left hc this
  have d2 : g.natAbs ∣ f.natAbs := by
    have : g.natAbs ∣ m.natAbs * f.natAbs := ⟨n.natAbs, by rw [← hN, Nat.mul_comm]⟩
    exact Nat.Coprime.dvd_of_dvd_mul_left hd this
  have e2 : f.natAbs = g.natAbs := Nat.dvd_antisymm d1 d2
  have e3 : f = g := by omega
  subst e3
  exact ⟨rfl, Int.eq_of_mul_eq_mul_right (by omega) e⟩
end RO
/- Fractions in their one form: a sign and two lists of words, of a rational number. Plain Lean. -/
set_option linter.unusedVariables false
namespace RO
open Q
/-- the sign, the words of a fraction -/
def neg (q : Rat) : Bool := decide (q.num < 0)
def nu (q : Rat) : List Int := nw (q.num.natAbs : Int)
def de (q : Rat) : List Int := nw (q.den : Int)
/-- a number with a sign -/
def sg (ng : Bool) (a : Int) : Int := if ng = true then -a else a
theorem sg_abs (ng : Bool) {a : Int} (h : 0 ≤ a) : (sg ng a).natAbs = a.toNat := by unfold sg; split <;> omega
theorem sg_self (x : Int) : sg (decide (x < 0)) (x.natAbs : Int) = x := by
  unfold sg
  by_cases h : x < 0
  · rw [if_pos (decide_eq_true h)]; omega
  · rw [if_neg (by simp; omega)]; omega
theorem sg_num (q : Rat) : sg (neg q) (q.num.natAbs : Int) = q.num := sg_self q.num
theorem mk_parts (n : Int) {d : Nat} (h : 0 < d) : (mkRat n d).num = n / ((Nat.gcd n.natAbs d : Nat) : Int) ∧ (mkRat n d).den = d / Nat.gcd n.natAbs d := by
  rw [← Rat.normalize_eq_mkRat (by omega : d ≠ 0), Rat.normalize_eq]; exact ⟨rfl, rfl⟩
theorem gc_nat {a : Int} (ha : 0 ≤ a) (b : Nat) : gc a (b : Int) = ((Nat.gcd a.toNat b : Nat) : Int) := by unfold gc; rw [Int.toNat_natCast]
theorem gc_pos {a : Int} (ha : 0 ≤ a) {b : Nat} (hb : 0 < b) : 0 < gc a (b : Int) := by
  rw [gc_nat ha]
  have := Nat.gcd_pos_of_pos_right a.toNat hb
  omega
theorem low_num (ng : Bool) {a : Int} {b : Nat} (ha : 0 ≤ a) (hb : 0 < b) : (mkRat (sg ng a) b).num = sg ng (a / gc a (b : Int)) := by
  rw [(mk_parts _ hb).1, sg_abs ng ha, gc_nat ha]
  obtain ⟨g, hg⟩ : ∃ g, g = Nat.gcd a.toNat b := ⟨_, rfl⟩
  rw [← hg]
  have hd : (g : Int) ∣ a := by
    have h1 : g ∣ a.toNat := by rw [hg]; exact Nat.gcd_dvd_left _ _
    have h2 := Int.natCast_dvd_natCast.2 h1
    rwa [Int.toNat_of_nonneg ha] at h2
  unfold sg
  split
  · exact Int.neg_ediv_of_dvd hd
  · rfl
theorem low_den (ng : Bool) {a : Int} {b : Nat} (ha : 0 ≤ a) (hb : 0 < b) : ((mkRat (sg ng a) b).den : Int) = (b : Int) / gc a (b : Int) := by
  rw [(mk_parts _ hb).2, sg_abs ng ha, gc_nat ha, Int.natCast_ediv]
theorem low_q0 {a : Int} {b : Nat} (ha : 0 ≤ a) (hb : 0 < b) : 0 ≤ a / gc a (b : Int) := Int.ediv_nonneg ha (by have := gc_pos ha hb; omega)
/-- what 'lowest' makes, is the fraction's one form -/
theorem low_rep (ng : Bool) {a : Int} {b : Nat} (ha : 0 ≤ a) (hb : 0 < b) :
    nw (a / gc a (b : Int)) = nu (mkRat (sg ng a) b) ∧ nw ((b : Int) / gc a (b : Int)) = de (mkRat (sg ng a) b) ∧ (ng && decide (0 < (nw (a / gc a (b : Int))).length)) = neg (mkRat (sg ng a) b) := by
  have h0 := low_q0 ha hb
  refine ⟨?_, ?_, ?_⟩
  · unfold nu
    rw [low_num ng ha hb, sg_abs ng h0, Int.toNat_of_nonneg h0]
  · unfold de
    rw [low_den ng ha hb]
  · unfold neg
    rw [low_num ng ha hb]
    have hl := nw_len0 h0
    apply Bool.eq_iff_iff.2
    rw [Bool.and_eq_true, decide_eq_true_iff, decide_eq_true_iff]
    unfold sg
    cases ng with
    | true => rw [if_pos rfl]; exact ⟨fun h => by have := h.2; omega, fun h => ⟨rfl, by omega⟩⟩
    | false => rw [if_neg (by decide)]; exact ⟨fun h => absurd h.1 (by decide), fun h => by omega⟩
theorem low_le (ng : Bool) {a : Int} {b : Nat} (ha : 0 ≤ a) (hb : 0 < b) : ((mkRat (sg ng a) b).num.natAbs : Int) ≤ a ∧ (mkRat (sg ng a) b).den ≤ b := by
  have h0 := low_q0 ha hb
  have hg := gc_pos ha hb
  constructor
  · rw [low_num ng ha hb, sg_abs ng h0, Int.toNat_of_nonneg h0]
    exact Int.ediv_le_self _ ha
  · have h1 := low_den ng ha hb
    have h2 : (b : Int) / gc a (b : Int) ≤ b := Int.ediv_le_self _ (by omega)
    omega
theorem rep_inj {p q : Rat} (h1 : neg p = neg q) (h2 : nu p = nu q) (h3 : de p = de q) : p = q := by
  unfold nu de at *
  have e2 := (nw_inj (by omega) (by omega)).1 h2
  have e3 := (nw_inj (by omega) (by omega)).1 h3
  refine Rat.ext ?_ (by omega)
  rw [← sg_num p, ← sg_num q, h1, e2]
theorem gc_one (q : Rat) : gc (q.num.natAbs : Int) (q.den : Int) = 1 := by
  rw [gc_nat (by omega), Int.toNat_natCast]
  have : Nat.gcd q.num.natAbs q.den = 1 := q.reduced
  rw [this]; rfl
theorem den_pos (q : Rat) : 0 < q.den := q.den_pos
/-- sums -/
theorem add_same {p q : Rat} (h : neg p = neg q) : mkRat (sg (neg p) ((p.num.natAbs : Int) * q.den + (q.num.natAbs : Int) * p.den)) (p.den * q.den) = p + q := by
  rw [Rat.add_def']
  congr 1
  have e1 := sg_num p
  have e2 := sg_num q
  rw [← h] at e2
  unfold sg at *
  cases hn : neg p with
  | true =>
    rw [hn, if_pos rfl] at e1 e2
    rw [if_pos rfl, ← e1, ← e2, Int.natAbs_neg, Int.natAbs_neg, Int.natAbs_natCast, Int.natAbs_natCast, Int.neg_mul, Int.neg_mul]
    omega
  | false =>
    rw [hn, if_neg (by decide)] at e1 e2
    rw [if_neg (by decide), e1, e2]
theorem add_far {p q : Rat} (h : neg p ≠ neg q) (s : Bool) (hs : s = neg p) : mkRat (sg s ((p.num.natAbs : Int) * q.den - (q.num.natAbs : Int) * p.den)) (p.den * q.den) = p + q := by
  subst hs
  rw [Rat.add_def']
  congr 1
  have e1 := sg_num p
  have e2 := sg_num q
  have hq : neg q = !neg p := by revert h; cases neg p <;> cases neg q <;> simp
  rw [hq] at e2
  unfold sg at *
  cases hn : neg p with
  | true =>
    rw [hn, if_pos rfl] at e1
    rw [hn, Bool.not_true, if_neg (by decide)] at e2
    rw [if_pos rfl, ← e2, Int.natAbs_natCast, ← e1, Int.natAbs_neg, Int.natAbs_natCast, Int.neg_mul]
    omega
  | false =>
    rw [hn, if_neg (by decide)] at e1
    rw [hn, Bool.not_false, if_pos rfl] at e2
    rw [if_neg (by decide), ← e2, Int.natAbs_neg, Int.natAbs_natCast, ← e1, Int.natAbs_natCast, Int.neg_mul]
    omega
theorem add_back {p q : Rat} (h : neg p ≠ neg q) : mkRat (sg (neg q) ((q.num.natAbs : Int) * p.den - (p.num.natAbs : Int) * q.den)) (p.den * q.den) = p + q := by
  have e := add_far (p := q) (q := p) (fun c => h c.symm) (neg q) rfl
  rw [Nat.mul_comm q.den p.den, Rat.add_comm] at e
  exact e
/-- products -/
theorem sg_mul (a b : Bool) (x y : Int) : sg (a != b) (x * y) = sg a x * sg b y := by
  unfold sg
  cases a <;> cases b <;> simp [Int.neg_mul, Int.mul_neg]
/-- quotients -/
theorem quo_is (p q : Rat) (hq : q.num ≠ 0) : mkRat (sg (neg p != neg q) ((p.num.natAbs : Int) * (q.den : Int))) (p.den * q.num.natAbs) = p / q := by
  rw [Rat.div_def, Rat.inv_def]
  have hd : 0 < q.num.natAbs := by omega
  have e : Rat.divInt (q.den : Int) q.num = mkRat (sg (neg q) (q.den : Int)) q.num.natAbs := by
    have e2 := sg_num q
    unfold sg at *
    cases hn : neg q with
    | true =>
      rw [hn, if_pos rfl] at e2
      rw [if_pos rfl]
      conv => lhs; rw [← e2]
      rw [Rat.divInt_neg', Rat.divInt_ofNat]
    | false =>
      rw [hn, if_neg (by decide)] at e2
      rw [if_neg (by decide)]
      conv => lhs; rw [← e2]
      rw [Rat.divInt_ofNat]
  rw [e, sg_mul, sg_num]
  conv => rhs; lhs; rw [← Rat.mkRat_self p]
  rw [Rat.mkRat_mul_mkRat]
end RO
/- A rotor's number tells its slope. Plain Lean. -/
set_option linter.unusedVariables false
namespace RO
open Q
theorem over_pos {f n : Int} (f0 : 1 ≤ f) : 0 < f * f + n * n := by
  have p1 : 1 * 1 ≤ f * f := Int.mul_le_mul f0 f0 (by omega) (by omega)
  have p2 : 0 ≤ n * n := by
    by_cases h : 0 ≤ n
    · exact Int.mul_nonneg h h
    · have := Int.mul_nonneg (show 0 ≤ -n by omega) (show 0 ≤ -n by omega)
      rwa [Int.neg_mul_neg] at this
  omega
theorem mk_div (a b : Int) (hb : 0 < b) : mkRat a b.toNat = (a : Rat) / (b : Rat) := by
  rw [Rat.mkRat_eq_div]
  congr 1
  have : ((b.toNat : Nat) : Int) = b := Int.toNat_of_nonneg (by omega)
  have h2 : ((b.toNat : Nat) : Rat) = (((b.toNat : Nat) : Int) : Rat) := by first | rfl | exact (Rat.intCast_natCast _).symm | norm_cast
  rw [h2, this]
theorem slope_is {f n : Int} (f0 : 1 ≤ f) : mkRat (2 * f * n) (f * f + n * n).toNat / (1 + mkRat (f * f - n * n) (f * f + n * n).toNat) = mkRat n f.toNat := by
  have ho := over_pos (n := n) f0
  rw [mk_div _ _ ho, mk_div _ _ ho, mk_div _ _ (by omega)]
  have hF : (f : Rat) ≠ 0 := by
    intro h
    have : f = 0 := by exact_mod_cast h
    omega
  have hO : ((f * f + n * n : Int) : Rat) ≠ 0 := by
    intro h
    have : f * f + n * n = 0 := by exact_mod_cast h
    omega
  simp only [Rat.intCast_add, Rat.intCast_sub, Rat.intCast_mul] at *
  generalize (f : Rat) = F at *
  generalize (n : Rat) = N at *
  grind
theorem slope_parts {f n : Int} (f0 : 1 ≤ f) (hg : Int.gcd f n = 1) : (mkRat n f.toNat).num = n ∧ (mkRat n f.toNat).den = f.toNat := by
  have h := mk_parts n (d := f.toNat) (by omega)
  have e : Nat.gcd n.natAbs f.toNat = 1 := by
    have e1 : f.toNat = f.natAbs := by omega
    rw [e1, Nat.gcd_comm]; exact hg
  rw [e] at h
  refine ⟨by rw [h.1]; simp, by rw [h.2, Nat.div_one]⟩
/-- unlike rotors have unlike numbers -/
theorem rot_inj {f n g m : Int} (f0 : 1 ≤ f) (g0 : 1 ≤ g) (hf : Int.gcd f n = 1) (hg : Int.gcd g m = 1)
    (h1 : mkRat (f * f - n * n) (f * f + n * n).toNat = mkRat (g * g - m * m) (g * g + m * m).toNat) (h2 : mkRat (2 * f * n) (f * f + n * n).toNat = mkRat (2 * g * m) (g * g + m * m).toNat) : f = g ∧ n = m := by
  have e1 := slope_is (f := f) (n := n) f0
  have e2 := slope_is (f := g) (n := m) g0
  rw [h1, h2, e2] at e1
  obtain ⟨a1, a2⟩ := slope_parts f0 hf
  obtain ⟨b1, b2⟩ := slope_parts g0 hg
  rw [e1] at b1 b2
  constructor
  · omega
  · omega
theorem under_ne {f n : Int} (f0 : 1 ≤ f) : (1 + mkRat (f * f - n * n) (f * f + n * n).toNat).num ≠ 0 := by
  intro h
  have hz : (1 : Rat) + mkRat (f * f - n * n) (f * f + n * n).toNat = 0 := Rat.num_eq_zero.1 h
  have ho := over_pos (n := n) f0
  rw [mk_div _ _ ho] at hz
  have hF : (f : Rat) ≠ 0 := by
    intro h
    have : f = 0 := by exact_mod_cast h
    omega
  have hO : ((f * f + n * n : Int) : Rat) ≠ 0 := by
    intro h
    have : f * f + n * n = 0 := by exact_mod_cast h
    omega
  simp only [Rat.intCast_add, Rat.intCast_sub, Rat.intCast_mul] at *
  generalize (f : Rat) = F at *
  generalize (n : Rat) = N at *
  grind
end RO
