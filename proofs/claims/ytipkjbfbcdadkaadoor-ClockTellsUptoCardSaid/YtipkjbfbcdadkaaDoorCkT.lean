import Derived.Test.YtipkjbfbcdadkaaDoorCkQ
/- The clock's reference in plain words: its dates are the calendar's, as the clock's. -/
set_option linter.unusedVariables false
set_option linter.unusedSimpArgs false
namespace Go.Proofs.YtipkjbfbcdadkaaDoor.Ck
open Go Go.RowKit Go.Proofs.YtipkjbfbcdadkaaDoor.PK9 Go.Proofs.YtipkjbfbcdadkaaDoorW.PrintWords
theorem ref_check (t : Int) : slackwaterref09_Check.f t = clock_Check.f t := rfl
theorem ref_of (t : Int) : slackwaterref09_Of.f t = clock_Of.f t := rfl
theorem ref_leap (y : Int) : slackwaterref09_leap.f y = clock_leap.f y := rfl
theorem ref_at (n h : Int) : slackwaterref09_At.f n h = clock_At.f n h := by
  unfold slackwaterref09_At.f clock_At.f
  rw [show 24 * n = n * 24 from Int.mul_comm _ _]
  by_cases h1 : h > 23
  · rw [if_pos h1, if_pos (show h ≥ 24 by omega)]
  · rw [if_neg h1, if_neg (show ¬ h ≥ 24 by omega)]
theorem ref_days (y m : Int) (h : 0 ≤ y) (m1 : 1 ≤ m) (m12 : m ≤ 12) : slackwaterref09_days.f y m = some (Cal.dim y m) := by
  have hl := Cal.lp_01 y
  unfold slackwaterref09_days.f
  rw [ref_leap, lp_f y h]
  rcases Cal.twelve m1 m12 with rfl | rfl | rfl | rfl | rfl | rfl | rfl | rfl | rfl | rfl | rfl | rfl <;> simp [Cal.dim]
  by_cases hl : Cal.lp y = 1
  · rw [if_pos hl, hl]; rfl
  · rw [if_neg hl, show Cal.lp y = 0 by omega]; rfl
theorem rdate_l0 (t n : Int) (n0 : 0 ≤ n) (n1 : n ≤ 43690) (e : Nat) : ∀ (k : Nat) (y m d : Int), 2000 ≤ y → y ≤ 2119 → 1 ≤ m → m ≤ 12 → 0 ≤ d → d + Cal.cum y m + Cal.yb y = n → (2120 - y) * 12 - m = e → e + 2 ≤ k →
    slackwaterref09_Date.l0 k t y m d = some (Cal.yr n, Cal.mo n, Cal.da n, Int.tmod t 24, 0) := by
  induction e with
  | zero =>
    intro k y m d y0 y1 m1 m12 d0 hn he hk
    obtain ⟨k, rfl⟩ : ∃ j, k = j + 1 := ⟨k - 1, by omega⟩
    obtain rfl : y = 2119 := by omega
    obtain rfl : m = 12 := by omega
    have b := Cal.yb_succ 2119
    have c := Cal.cum_13 2119
    have cs := Cal.cum_succ 2119 12 (by omega) (by omega)
    have b2 := Cal.yb_2120
    have db := Cal.dim_bd 2119 12 (by omega) (by omega)
    rw [show (2119 : Int) + 1 = 2120 from rfl] at b
    rw [show (12 : Int) + 1 = 13 from rfl] at cs
    simp only [slackwaterref09_Date.l0]
    rw [ref_days 2119 12 (by omega) (by omega) (by omega), Option.bind_some, if_neg (by omega), wrap64_in (by omega) (by omega)]
    have hu := Cal.Day.uniq (n := n) (y := 2119) (m := 12) (d := d + 1) ⟨m1, m12, by omega, by omega, by omega⟩ (Cal.day_is n n0 n1)
    rw [hu.1, hu.2.1, hu.2.2]
  | succ e ih =>
    intro k y m d y0 y1 m1 m12 d0 hn he hk
    obtain ⟨k, rfl⟩ : ∃ j, k = j + 1 := ⟨k - 1, by omega⟩
    have b := Cal.yb_succ y
    have c := Cal.cum_13 y
    have cs := Cal.cum_succ y m m1 m12
    have db := Cal.dim_bd y m m1 m12
    have yb0 := Cal.yb_le y0
    rw [Cal.yb_2000] at yb0
    have cb := Cal.cum_bd y m m1 (by omega)
    simp only [slackwaterref09_Date.l0]
    rw [ref_days y m (by omega) m1 m12, Option.bind_some, Option.bind_some]
    by_cases hd : d ≥ Cal.dim y m
    · rw [if_pos hd, wrap64_in (x := m + 1) (by omega) (by omega), wrap64_in (x := y + 1) (by omega) (by omega), wrap64_in (x := d - Cal.dim y m) (by omega) (by omega)]
      by_cases hm : m + 1 > 12
      · obtain rfl : m = 12 := by omega
        rw [show (12 : Int) + 1 = 13 from rfl] at cs
        rw [if_pos hm]
        have hy : y + 1 ≤ 2119 := by
          by_cases hg : 2120 ≤ y + 1
          · have := Cal.yb_le hg
            rw [Cal.yb_2120] at this
            omega
          · omega
        have c1 := Cal.cum_1 (y + 1)
        exact ih k (y + 1) 1 (d - Cal.dim y 12) (by omega) hy (by omega) (by omega) (by omega) (by omega) (by omega) (by omega)
      · rw [if_neg hm]
        exact ih k y (m + 1) (d - Cal.dim y m) y0 y1 (by omega) (by omega) (by omega) (by omega) (by omega) (by omega)
    · rw [if_neg hd, wrap64_in (by omega) (by omega)]
      have hu := Cal.Day.uniq (n := n) (y := y) (m := m) (d := d + 1) ⟨m1, m12, by omega, by omega, by omega⟩ (Cal.day_is n n0 n1)
      rw [hu.1, hu.2.1, hu.2.2]
theorem ref_date (k : Nat) (hk : 1500 ≤ k) (t : Int) : slackwaterref09_Date.f k t = clock_Date.f t := by
  unfold slackwaterref09_Date.f slackwaterref09_Check.f
  by_cases h0 : t < 0
  · rw [if_pos h0, Option.bind_some, if_neg (by omega), date_bad (.inl h0)]
  · rw [if_neg h0]
    by_cases h1 : t > 1048576
    · rw [if_pos h1, Option.bind_some, if_neg (by omega), date_bad (.inr h1)]
    · rw [if_neg h1, Option.bind_some, if_pos rfl, date_ok (by omega) (by omega), Int.tdiv_eq_ediv_of_nonneg (by omega), wrap64_in (by omega) (by omega)]
      have c1 := Cal.cum_1 2000
      have b := Cal.yb_2000
      rw [rdate_l0 t (t / 24) (by omega) (by omega) 1439 k 2000 1 (t / 24) (by omega) (by omega) (by omega) (by omega) (by omega) (by omega) (by omega) (by omega), Int.tmod_eq_emod_of_nonneg (by omega)]
theorem yb_2201 : Cal.yb 2201 = 73414 := by decide
theorem rl1_f (y m d h c : Int) (y1 : y ≤ 2200) (c0 : 0 ≤ c) (c1 : c ≤ 1000) (e : Nat) : ∀ (k : Nat) (x : Int), 2000 ≤ x → x ≤ y → y - x = e → e + 2 ≤ k → slackwaterref09_From.l1 k (c + Cal.yb x) x y m d h = clock_At.f (c + Cal.yb y) h := by
  induction e with
  | zero =>
    intro k x x1 xm hd hk
    obtain ⟨k, rfl⟩ : ∃ j, k = j + 1 := ⟨k - 1, by omega⟩
    obtain rfl : x = y := by omega
    simp only [slackwaterref09_From.l1]
    rw [if_neg (by omega), ref_at]
    cases clock_At.f (c + Cal.yb x) h <;> rfl
  | succ e ih =>
    intro k x x1 xm hd hk
    obtain ⟨k, rfl⟩ : ∃ j, k = j + 1 := ⟨k - 1, by omega⟩
    have b0 := Cal.yb_le x1
    rw [Cal.yb_2000] at b0
    have b1 := Cal.yb_le (show x ≤ 2201 by omega)
    rw [yb_2201] at b1
    have bs := Cal.yb_succ x
    have hl := Cal.lp_01 x
    have ha : Cal.all x = 365 + Cal.lp x := rfl
    have ih' := ih k (x + 1) (by omega) (by omega) (by omega) (by omega)
    simp only [slackwaterref09_From.l1]
    rw [if_pos (by omega), ref_leap, lp_f x (by omega), Option.bind_some, wrap64_in (x := x + 1) (by omega) (by omega), wrap64_in (x := c + Cal.yb x + 365) (by omega) (by omega), wrap64_in (x := c + Cal.yb x + 365 + 1) (by omega) (by omega)]
    by_cases hq : Cal.lp x = 1
    · rw [decide_eq_true hq, if_pos rfl, show c + Cal.yb x + 365 + 1 = c + Cal.yb (x + 1) by omega]
      exact ih'
    · rw [decide_eq_false hq, if_neg (by simp), show c + Cal.yb x + 365 = c + Cal.yb (x + 1) by omega]
      exact ih'
theorem rl0_f (y m d h c : Int) (y0 : 2000 ≤ y) (y1 : y ≤ 2200) (hm : m ≤ 12) (c0 : 0 ≤ c) (c1 : c ≤ 50) (e : Nat) : ∀ (k : Nat) (x : Int), 1 ≤ x → x ≤ m → m - x = e → e + 210 ≤ k → slackwaterref09_From.l0 k (c + Cal.cum y x) x y m d h = clock_At.f (c + Cal.cum y m + Cal.yb y) h := by
  induction e with
  | zero =>
    intro k x x1 xm hd hk
    obtain ⟨k, rfl⟩ : ∃ j, k = j + 1 := ⟨k - 1, by omega⟩
    obtain rfl : x = m := by omega
    have cb := Cal.cum_bd y x (by omega) (by omega)
    have ab := Cal.all_bd y
    simp only [slackwaterref09_From.l0]
    rw [if_neg (by omega)]
    have := rl1_f y x d h (c + Cal.cum y x) y1 (by omega) (by omega) (y - 2000).toNat k 2000 (by omega) y0 (by omega) (by omega)
    rw [Cal.yb_2000, Int.add_zero] at this
    exact this
  | succ e ih =>
    intro k x x1 xm hd hk
    obtain ⟨k, rfl⟩ : ∃ j, k = j + 1 := ⟨k - 1, by omega⟩
    have cb := Cal.cum_bd y x (by omega) (by omega)
    have ab := Cal.all_bd y
    have db := Cal.dim_bd y x (by omega) (by omega)
    have cs := Cal.cum_succ y x (by omega) (by omega)
    simp only [slackwaterref09_From.l0]
    rw [if_pos (by omega), ref_days y x (by omega) (by omega) (by omega), Option.bind_some, wrap64_in (x := x + 1) (by omega) (by omega), wrap64_in (by omega) (by omega), show c + Cal.cum y x + Cal.dim y x = c + Cal.cum y (x + 1) by omega]
    exact ih k (x + 1) (by omega) (by omega) (by omega) (by omega)
theorem at_hour (n h : Int) (hb : h < 0 ∨ 23 < h) : clock_At.f n h = some (0, 2) := by
  unfold clock_At.f
  by_cases h0 : h < 0
  · rw [if_pos h0]
  · rw [if_neg h0, if_pos (by omega)]
theorem ref_from (k : Nat) (hk : 300 ≤ k) (y m d h : Int) : slackwaterref09_From.f k y m d h = clock_From.f k y m d h := by
  have hj : ∀ a b c e, slackwaterref09_From.j0 k true a b c e = some (0, 2) := by
    obtain ⟨k, rfl⟩ : ∃ j, k = j + 1 := ⟨k - 1, by omega⟩
    intro a b c e
    simp [slackwaterref09_From.j0]
  have hbad : ∀ hf : ¬ Fits y m d, clock_From.f k y m d h = some (0, 2) := fun hf => from_bad k (by omega) hf h
  unfold slackwaterref09_From.f
  by_cases a1 : y < 2000
  · rw [if_pos a1, hj, hbad (fun hf => by have := hf.1; omega)]
  rw [if_neg a1]
  by_cases a2 : y > 2200
  · rw [if_pos a2, hj, hbad (fun hf => by have := hf.2.1; omega)]
  rw [if_neg a2]
  by_cases a3 : m < 1
  · rw [if_pos a3, hj, hbad (fun hf => by have := hf.month; omega)]
  rw [if_neg a3]
  by_cases a4 : m > 12
  · rw [if_pos a4, hj, hbad (fun hf => by have := hf.month; omega)]
  rw [if_neg a4]
  by_cases a5 : d < 1
  · rw [if_pos a5, hj, hbad (fun hf => by have := hf.2.2.1; omega)]
  rw [if_neg a5, ref_days y m (by omega) (by omega) (by omega), Option.bind_some]
  by_cases a6 : d > Cal.dim y m
  · rw [if_pos a6, hj, hbad (fun hf => by have := hf.2.2.2; omega)]
  rw [if_neg a6]
  have db := Cal.dim_bd y m (by omega) (by omega)
  have cb := Cal.cum_bd y m (by omega) (by omega)
  have ab := Cal.all_bd y
  have hc : ∀ hb : h < 0 ∨ 23 < h, clock_From.f k y m d h = some (0, 2) := by
    intro hb
    by_cases hf : Fits y m d
    · rw [from_f k (by omega) hf, at_hour _ _ hb]
    · exact hbad hf
  by_cases a7 : h < 0
  · rw [if_pos a7, hj, hc (.inl a7)]
  rw [if_neg a7]
  by_cases a8 : h > 23
  · rw [decide_eq_true a8, hj, hc (.inr a8)]
  rw [decide_eq_false a8]
  have hl : slackwaterref09_From.j0 k false y m d h = clock_At.f (d - 1 + Cal.cum y m + Cal.yb y) h := by
    obtain ⟨k, rfl⟩ : ∃ j, k = j + 1 := ⟨k - 1, by omega⟩
    simp only [slackwaterref09_From.j0]
    rw [if_neg (by simp), wrap64_in (by omega) (by omega)]
    have := rl0_f y m d h (d - 1) (by omega) (by omega) (by omega) (by omega) (by omega) (m - 1).toNat k 1 (by omega) (by omega) (by omega) (by omega)
    rw [Cal.cum_1, Int.add_zero] at this
    exact this
  rw [hl]
  by_cases hf : Fits y m d
  · rw [from_f k (by omega) hf]
    congr 1; omega
  · rw [hbad hf]
    have hy : 2120 ≤ y := by
      by_cases hg : y ≤ 2119
      · exact absurd ⟨by omega, hg, by omega, by omega⟩ hf
      · omega
    have b0 := Cal.yb_le hy
    rw [Cal.yb_2120] at b0
    have b1 := Cal.yb_le (show y ≤ 2201 by omega)
    rw [yb_2201] at b1
    exact at_bad (by omega) (by omega) (by omega)
theorem ref_week (t : Int) : slackwaterref09_Week.f t = clock_Week.f t := by
  by_cases h0 : t < 0 ∨ 1048576 < t
  · have e : slackwaterref09_Check.f t = some 2 := by
      unfold slackwaterref09_Check.f
      by_cases h1 : t < 0
      · rw [if_pos h1]
      · rw [if_neg h1, if_pos (by omega)]
    unfold slackwaterref09_Week.f clock_Week.f
    rw [of_bad t h0, e, Option.bind_some, Option.bind_some, if_neg (by omega), if_neg (by decide)]
  · have e : slackwaterref09_Check.f t = some 0 := by
      unfold slackwaterref09_Check.f
      rw [if_neg (by omega), if_neg (by omega)]
    unfold slackwaterref09_Week.f
    rw [e, Option.bind_some, if_pos rfl, week_ok (by omega) (by omega), Int.tdiv_eq_ediv_of_nonneg (by omega), wrap64_in (x := t / 24) (by omega) (by omega), wrap64_in (by omega) (by omega), Int.tmod_eq_emod_of_nonneg (by omega), Int.add_comm]
theorem ref_span (k : Nat) (hk : 1 ≤ k) (a b : Int) : slackwaterref09_Span.f k a b = clock_Span.f k a b := by
  obtain ⟨k, rfl⟩ : ∃ j, k = j + 1 := ⟨k - 1, by omega⟩
  have hj : ∀ p q r, slackwaterref09_Span.j0 (k + 1) p q r = clock_Span.j0 (k + 1) p q r := fun p q r => by simp only [slackwaterref09_Span.j0, clock_Span.j0]
  unfold slackwaterref09_Span.f clock_Span.f
  simp only [hj]
theorem span_total (k : Nat) (hk : 1 ≤ k) (a b : Int) : ∃ r, clock_Span.f k a b = some r := by
  obtain ⟨k, rfl⟩ : ∃ j, k = j + 1 := ⟨k - 1, by omega⟩
  have hj : ∀ p q r, ∃ v, clock_Span.j0 (k + 1) p q r = some v := fun p q r => by
    simp only [clock_Span.j0]
    split
    · exact ⟨_, rfl⟩
    · split <;> exact ⟨_, rfl⟩
  unfold clock_Span.f
  split
  · exact hj _ _ _
  · split
    · exact hj _ _ _
    · exact hj _ _ _
end Go.Proofs.YtipkjbfbcdadkaaDoor.Ck
