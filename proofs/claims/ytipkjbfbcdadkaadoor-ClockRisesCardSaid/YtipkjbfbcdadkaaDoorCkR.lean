import Derived.Test.YtipkjbfbcdadkaaDoorCkQ
/- The clock in plain words: the law ClockRises. -/
set_option linter.unusedVariables false
set_option linter.unusedSimpArgs false
namespace Go.Proofs.YtipkjbfbcdadkaaDoor.Ck
open Go Go.RowKit Go.Proofs.YtipkjbfbcdadkaaDoor.PK9 Go.Proofs.YtipkjbfbcdadkaaDoorW.PrintWords
/-! ### ClockRises -/
theorem pick_f (a b : Int) (hb : 0 < b) (hb1 : b ≤ 1000000000) : ∃ r, slackwaterkit_Pick.f a b = some r ∧ 0 ≤ r ∧ r < b := by
  unfold slackwaterkit_Pick.f
  have h1 := Int.tmod_lt_of_pos a hb
  have h2 : -b < a.tmod b := by
    have := Int.lt_tmod_of_pos a hb
    omega
  rw [if_neg (by omega)]
  by_cases h : a.tmod b < 0
  · rw [if_pos h, wrap64_in (by omega) (by omega)]
    exact ⟨_, rfl, by omega, by omega⟩
  · rw [if_neg h]
    exact ⟨_, rfl, by omega, by omega⟩
theorem number_f {y m d h : Int} (y0 : 0 ≤ y) (y1 : y ≤ 9999) (m0 : 0 ≤ m) (m1 : m ≤ 99) (d0 : 0 ≤ d) (d1 : d ≤ 99) (h0 : 0 ≤ h) (h1 : h ≤ 99) : slackwaterlaw09_number.f y m d h = some (y * 16384 + m * 1024 + d * 32 + h) := by
  unfold slackwaterlaw09_number.f
  rw [wrap64_in (x := y * 16) (by omega) (by omega), wrap64_in (x := y * 16 + m) (by omega) (by omega), wrap64_in (x := (y * 16 + m) * 32) (by omega) (by omega), wrap64_in (x := (y * 16 + m) * 32 + d) (by omega) (by omega), wrap64_in (x := ((y * 16 + m) * 32 + d) * 32) (by omega) (by omega), wrap64_in (by omega) (by omega)]
  congr 1; omega
theorem next_day {n y m d y' m' d' : Int} (h : Cal.Day n y m d) (h' : Cal.Day (n + 1) y' m' d') : y * 16384 + m * 1024 + d * 32 + 31 < y' * 16384 + m' * 1024 + d' * 32 := by
  have e1 := h.year
  have e2 := h'.year
  have a1 := h.m1
  have a2 := h.m12
  have a3 := h.d1
  have a4 := h.dd
  have a5 := h.eq
  have b1 := h'.m1
  have b2 := h'.m12
  have b3 := h'.d1
  have b5 := h'.eq
  have db := Cal.dim_bd y m a1 a2
  have hy : y ≤ y' := by
    by_cases hg : y' < y
    · have := Cal.yb_le (show y' + 1 ≤ y by omega); omega
    · omega
  by_cases hl : y < y'
  · omega
  · have : y = y' := by omega
    subst this
    have hm : m ≤ m' := by
      by_cases hg : m' < m
      · have c1 := Cal.cum_le (y := y) (show 1 ≤ m' + 1 by omega) (show m' + 1 ≤ m by omega) (by omega)
        have c2 := Cal.cum_succ y m' b1 b2
        have := h'.dd
        omega
      · omega
    by_cases hl2 : m < m'
    · omega
    · have : m = m' := by omega
      subst this
      omega
theorem rises (k : Nat) (hk : 200 ≤ k) (a : Int) : slackwaterlaw09_ClockRises.f k a = some true := by
  obtain ⟨t, hp, t0, t1⟩ := pick_f a 1048552 (by omega) (by omega)
  have T : Tick t := ⟨t0, by omega⟩
  have T1 : Tick (t + 1) := ⟨by omega, by omega⟩
  have r := ranges T
  have r' := ranges T1
  have D := Cal.day_is (t / 24) (by omega) (by omega)
  unfold slackwaterlaw09_ClockRises.f
  rw [awake_f k hk, Option.bind_some, hp, Option.bind_some, wrap64_in (x := t + 1) (by omega) (by omega), wrap64_in (x := t + 24) (by omega) (by omega), date_ok T.1 T.2, Option.bind_some, date_ok T1.1 T1.2, Option.bind_some, week_ok T.1 T.2, Option.bind_some, week_ok (t := t + 24) (by omega) (by omega), Option.bind_some]
  simp only
  have hw : (t + 24) / 24 + 5 = t / 24 + 5 + 1 := by omega
  have hm : ((t / 24 + 5) % 7 + 1).tmod 7 = (t / 24 + 5 + 1) % 7 := by rw [Int.tmod_eq_emod_of_nonneg (by omega)]; omega
  rw [wrap64_in (x := t % 24 + 1) (by omega) (by omega), wrap64_in (x := (t / 24 + 5) % 7 + 1) (by omega) (by omega), hm, hw]
  have n1 := number_f (y := Cal.yr (t / 24)) (m := Cal.mo (t / 24)) (d := Cal.da (t / 24)) (h := t % 24) (by omega) (by omega) (by omega) (by omega) (by omega) (by omega) (by omega) (by omega)
  have n2 := number_f (y := Cal.yr ((t + 1) / 24)) (m := Cal.mo ((t + 1) / 24)) (d := Cal.da ((t + 1) / 24)) (h := (t + 1) % 24) (by omega) (by omega) (by omega) (by omega) (by omega) (by omega) (by omega) (by omega)
  rw [n1, n2]
  by_cases h23 : t % 24 = 23
  · have e1 : (t + 1) / 24 = t / 24 + 1 := by omega
    have e2 : (t + 1) % 24 = 0 := by omega
    have D' := Cal.day_is ((t + 1) / 24) (by omega) (by omega)
    rw [e1] at D'
    have lt := next_day D D'
    rw [e1, e2, h23]
    rw [if_neg (by omega)]
    simp
    exact ⟨by omega, by omega, by omega⟩
  · have e1 : (t + 1) / 24 = t / 24 := by omega
    have e2 : (t + 1) % 24 = t % 24 + 1 := by omega
    rw [e1, e2]
    rw [if_pos rfl]
    have hi : slackwaterlaw09_is.f (Cal.yr (t / 24)) (Cal.mo (t / 24)) (Cal.da (t / 24)) (t % 24 + 1) (Cal.yr (t / 24)) (Cal.mo (t / 24)) (Cal.da (t / 24)) (t % 24 + 1) = some true := by simp [slackwaterlaw09_is.f]
    rw [hi]
    simp
    exact ⟨by omega, by omega, by omega⟩
end Go.Proofs.YtipkjbfbcdadkaaDoor.Ck
