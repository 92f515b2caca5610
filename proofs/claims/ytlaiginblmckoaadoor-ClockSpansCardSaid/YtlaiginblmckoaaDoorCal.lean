/- The calendar: years, months and days counted from the beginning of the year 2000. Plain Lean, no program in sight. -/
set_option linter.unusedVariables false
namespace Cal
def lp (y : Int) : Int := if y % 4 = 0 ∧ y % 100 ≠ 0 ∨ y % 400 = 0 then 1 else 0
def all (y : Int) : Int := 365 + lp y
def dim (y m : Int) : Int := if m = 2 then 28 + lp y else if m = 4 ∨ m = 6 ∨ m = 9 ∨ m = 11 then 30 else if 1 ≤ m ∧ m ≤ 12 then 31 else 0
/-- the days ahead of a year -/
def yb (y : Int) : Int := 365 * (y - 2000) + ((y - 1) / 4 - (y - 1) / 100 + (y - 1) / 400 - 484)
/-- the days of a year ahead of a month -/
def cum (y m : Int) : Int :=
  if m ≤ 1 then 0 else if m = 2 then 31 else (if m = 3 then 59 else if m = 4 then 90 else if m = 5 then 120 else if m = 6 then 151 else if m = 7 then 181 else if m = 8 then 212 else if m = 9 then 243 else if m = 10 then 273 else if m = 11 then 304 else if m = 12 then 334 else 365) + lp y
theorem lp_01 (y : Int) : 0 ≤ lp y ∧ lp y ≤ 1 := by unfold lp; split <;> omega
theorem all_bd (y : Int) : 365 ≤ all y ∧ all y ≤ 366 := by have := lp_01 y; unfold all; omega
theorem yb_succ (y : Int) : yb (y + 1) = yb y + all y := by
  unfold yb all lp
  split <;> omega
theorem yb_2000 : yb 2000 = 0 := by decide
theorem yb_2120 : yb 2120 = 43829 := by decide
theorem yb_lt (y : Int) : yb y < yb (y + 1) := by have := all_bd y; rw [yb_succ]; omega
theorem yb_mono (k : Nat) (y : Int) : yb y ≤ yb (y + k) := by
  induction k with
  | zero => simp
  | succ k ih => have := yb_lt (y + k); rw [show (y + ((k + 1 : Nat) : Int)) = y + k + 1 by omega]; omega
theorem yb_le {a b : Int} (h : a ≤ b) : yb a ≤ yb b := by
  have := yb_mono (b - a).toNat a
  rwa [show a + ((b - a).toNat : Int) = b by omega] at this
theorem yb_strict {a b : Int} (h : a < b) : yb a < yb b := by
  have h1 := yb_lt a
  have h2 := yb_le (show a + 1 ≤ b by omega)
  omega
theorem twelve {m : Int} (h1 : 1 ≤ m) (h2 : m ≤ 12) : m = 1 ∨ m = 2 ∨ m = 3 ∨ m = 4 ∨ m = 5 ∨ m = 6 ∨ m = 7 ∨ m = 8 ∨ m = 9 ∨ m = 10 ∨ m = 11 ∨ m = 12 := by omega
theorem cum_succ (y m : Int) (h1 : 1 ≤ m) (h2 : m ≤ 12) : cum y (m + 1) = cum y m + dim y m := by
  have := lp_01 y
  rcases twelve h1 h2 with rfl | rfl | rfl | rfl | rfl | rfl | rfl | rfl | rfl | rfl | rfl | rfl <;> (simp [cum, dim] <;> try omega)
theorem cum_13 (y : Int) : cum y 13 = all y := by simp [cum, all]
theorem cum_1 (y : Int) : cum y 1 = 0 := by simp [cum]
theorem dim_bd (y m : Int) (h1 : 1 ≤ m) (h2 : m ≤ 12) : 28 ≤ dim y m ∧ dim y m ≤ 31 := by
  have := lp_01 y
  rcases twelve h1 h2 with rfl | rfl | rfl | rfl | rfl | rfl | rfl | rfl | rfl | rfl | rfl | rfl <;> (simp [dim] <;> try omega)
theorem dim_0 (y m : Int) (h : m < 1 ∨ 12 < m) : dim y m = 0 := by
  unfold dim
  rw [if_neg (by omega), if_neg (by omega), if_neg (by omega)]
theorem cum_mono (k : Nat) (y m : Int) (h1 : 1 ≤ m) (h2 : m + k ≤ 13) : cum y m ≤ cum y (m + k) := by
  induction k with
  | zero => simp
  | succ k ih =>
    have := dim_bd y (m + k) (by omega) (by omega)
    have := cum_succ y (m + k) (by omega) (by omega)
    have := ih (by omega)
    rw [show (m + ((k + 1 : Nat) : Int)) = m + k + 1 by omega]; omega
theorem cum_le {y a b : Int} (h1 : 1 ≤ a) (h : a ≤ b) (h2 : b ≤ 13) : cum y a ≤ cum y b := by
  have := cum_mono (b - a).toNat y a h1 (by omega)
  rwa [show a + ((b - a).toNat : Int) = b by omega] at this
theorem cum_bd (y m : Int) (h1 : 1 ≤ m) (h2 : m ≤ 13) : 0 ≤ cum y m ∧ cum y m ≤ all y := by
  have := cum_le (y := y) (a := 1) (b := m) (by omega) h1 h2
  have := cum_le (y := y) (a := m) (b := 13) h1 h2 (by omega)
  rw [cum_1] at *
  rw [cum_13] at *
  omega
/-- the day n of the count is the d-th of the month m of the year y -/
structure Day (n y m d : Int) : Prop where
  m1 : 1 ≤ m
  m12 : m ≤ 12
  d1 : 1 ≤ d
  dd : d ≤ dim y m
  eq : n = yb y + cum y m + d - 1
theorem Day.year {n y m d : Int} (h : Day n y m d) : yb y ≤ n ∧ n < yb (y + 1) := by
  obtain ⟨h1, h2, h3, h4, h5⟩ := h
  have := cum_succ y m h1 h2
  have := cum_bd y (m + 1) (by omega) (by omega)
  have := cum_bd y m (by omega) (by omega)
  have := yb_succ y
  omega
theorem Day.uniq {n y m d y' m' d' : Int} (h : Day n y m d) (h' : Day n y' m' d') : y = y' ∧ m = m' ∧ d = d' := by
  have e1 := h.year
  have e2 := h'.year
  have ey : y = y' := by
    by_cases hl : y < y'
    · have := yb_le (show y + 1 ≤ y' by omega); omega
    · by_cases hg : y' < y
      · have := yb_le (show y' + 1 ≤ y by omega); omega
      · omega
  subst ey
  have s1 := cum_succ y m h.m1 h.m12
  have s2 := cum_succ y m' h'.m1 h'.m12
  have := h.dd
  have := h.d1
  have := h.eq
  have := h'.dd
  have := h'.d1
  have := h'.eq
  have := h.m1
  have := h.m12
  have := h'.m1
  have := h'.m12
  have em : m = m' := by
    by_cases hl : m < m'
    · have := cum_le (y := y) (show 1 ≤ m + 1 by omega) (show m + 1 ≤ m' by omega) (by omega); omega
    · by_cases hg : m' < m
      · have := cum_le (y := y) (show 1 ≤ m' + 1 by omega) (show m' + 1 ≤ m by omega) (by omega); omega
      · omega
  subst em
  exact ⟨rfl, rfl, by omega⟩
def findY (n : Int) : Nat → Int
  | 0 => 2000
  | k + 1 => if yb (2000 + (k + 1 : Nat)) ≤ n then 2000 + (k + 1 : Nat) else findY n k
def findM (y r : Int) : Nat → Int
  | 0 => 1
  | k + 1 => if cum y (1 + (k + 1 : Nat)) ≤ r then 1 + (k + 1 : Nat) else findM y r k
theorem findY_is (n : Int) (h0 : 0 ≤ n) (k : Nat) (h : n < yb (2000 + k + 1)) : 2000 ≤ findY n k ∧ findY n k ≤ 2000 + k ∧ yb (findY n k) ≤ n ∧ n < yb (findY n k + 1) := by
  induction k with
  | zero => simp only [findY]; rw [yb_2000]; exact ⟨by omega, by omega, by omega, by simpa using h⟩
  | succ k ih =>
    simp only [findY]
    split
    · rename_i hc
      exact ⟨by omega, by omega, hc, h⟩
    · rename_i hc
      have := ih (by rw [show (2000 + (k : Int) + 1) = 2000 + ((k + 1 : Nat) : Int) by omega]; omega)
      omega
theorem findM_is (y r : Int) (h0 : 0 ≤ r) (k : Nat) (hk : k ≤ 11) (h : r < cum y (1 + k + 1)) : 1 ≤ findM y r k ∧ findM y r k ≤ 1 + k ∧ cum y (findM y r k) ≤ r ∧ r < cum y (findM y r k + 1) := by
  induction k with
  | zero => simp only [findM]; rw [cum_1]; exact ⟨by omega, by omega, by omega, by simpa using h⟩
  | succ k ih =>
    simp only [findM]
    split
    · rename_i hc
      exact ⟨by omega, by omega, hc, h⟩
    · rename_i hc
      have := ih (by omega) (by rw [show (1 + (k : Int) + 1) = 1 + ((k + 1 : Nat) : Int) by omega]; omega)
      omega
def yr (n : Int) : Int := findY n 119
def mo (n : Int) : Int := findM (yr n) (n - yb (yr n)) 11
def da (n : Int) : Int := n - yb (yr n) - cum (yr n) (mo n) + 1
theorem yr_is (n : Int) (h0 : 0 ≤ n) (h1 : n ≤ 43690) : 2000 ≤ yr n ∧ yr n ≤ 2119 ∧ yb (yr n) ≤ n ∧ n < yb (yr n + 1) := by
  have := findY_is n h0 119 (by show n < yb 2120; rw [yb_2120]; omega)
  unfold yr
  omega
theorem day_is (n : Int) (h0 : 0 ≤ n) (h1 : n ≤ 43690) : Day n (yr n) (mo n) (da n) := by
  obtain ⟨a, b, c, d⟩ := yr_is n h0 h1
  rw [yb_succ] at d
  have hm := findM_is (yr n) (n - yb (yr n)) (by omega) 11 (by omega) (by show n - yb (yr n) < cum (yr n) 13; rw [cum_13]; omega)
  have e : mo n = findM (yr n) (n - yb (yr n)) 11 := rfl
  rw [← e] at hm
  have s := cum_succ (yr n) (mo n) (by omega) (by omega)
  exact ⟨by omega, by omega, by unfold da; omega, by unfold da; omega, by unfold da; omega⟩
end Cal
