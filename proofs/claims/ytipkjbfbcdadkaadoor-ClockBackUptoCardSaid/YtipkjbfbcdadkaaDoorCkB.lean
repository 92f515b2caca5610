import Derived.Test.YtipkjbfbcdadkaaDoorCkQ
/- The clock in plain words: the law ClockBack. -/
set_option linter.unusedVariables false
set_option linter.unusedSimpArgs false
namespace Go.Proofs.YtipkjbfbcdadkaaDoor.Ck
open Go Go.RowKit Go.Proofs.YtipkjbfbcdadkaaDoor.PK9 Go.Proofs.YtipkjbfbcdadkaaDoorW.PrintWords
theorem check_ok {t : Int} (h : Tick t) : clock_Check.f t = some 0 := by
  obtain ⟨h0, h1⟩ := h
  unfold clock_Check.f
  rw [if_neg (by omega), if_neg (by omega)]
theorem check_bad {t : Int} (h : t < 0 ∨ 1048576 < t) : clock_Check.f t = some 2 := by
  unfold clock_Check.f
  by_cases h0 : t < 0
  · rw [if_pos h0]
  · rw [if_neg h0, if_pos (by omega)]
theorem back_j1 (k : Nat) (hk : 200 ≤ k) (s : ByteArray) (hs : s.size ≤ 1048576) (n e : Int) (h : e = 0 ∨ n = 0) : slackwaterlaw09_ClockBack.j1 (k + 1) s true n e = some true := by
  simp only [slackwaterlaw09_ClockBack.j1]
  rcases parse_is k hk s hs with hp | ⟨t, ht, hp, hq⟩
  · rw [hp, Option.bind_some]
    simp only [if_true, reduceIte]
    rw [if_neg (by decide)]
    by_cases he : e = 0
    · rw [if_pos he]
    · rw [if_neg he]
      have : n = 0 := by omega
      subst this; rfl
  · rw [hp, Option.bind_some]
    obtain ⟨x, hx, hl⟩ := text_ok ht
    simp only [if_true, reduceIte]
    rw [hx, Option.bind_some]
    simp only [if_true, reduceIte]
    rw [hl, hq]
    simp
theorem back_j0 (k : Nat) (hk : 210 ≤ k) (s : ByteArray) (hs : s.size ≤ 1048576) (y m d h : Int) : slackwaterlaw09_ClockBack.j0 k s true y m d h = some true := by
  obtain ⟨k, rfl⟩ : ∃ j, k = j + 2 := ⟨k - 2, by omega⟩
  simp only [slackwaterlaw09_ClockBack.j0]
  rcases from_is (k + 1) (by omega) y m d h with e | ⟨t, ht, e, ey, em, ed, eh⟩
  · rw [e, Option.bind_some]
    simp only
    rw [if_neg (by decide)]
    exact back_j1 k (by omega) s hs 0 2 (.inr rfl)
  · rw [e, Option.bind_some]
    simp only [if_true, reduceIte]
    rw [date_ok ht.1 ht.2, Option.bind_some]
    simp only [if_true, reduceIte]
    have hi : slackwaterlaw09_is.f (Cal.yr (t / 24)) (Cal.mo (t / 24)) (Cal.da (t / 24)) (t % 24) y m d h = some true := by
      subst ey em ed eh
      simp [slackwaterlaw09_is.f]
    rw [hi, Option.bind_some, if_pos rfl]
    exact back_j1 k (by omega) s hs t 0 (.inl rfl)
/-- ClockBack is true -/
theorem back (k : Nat) (hk : 220 ≤ k) (a y m d h : Int) (s : ByteArray) (hs : s.size ≤ 1048576) : slackwaterlaw09_ClockBack.f k a y m d h s = some true := by
  unfold slackwaterlaw09_ClockBack.f
  rw [awake_f k (by omega), Option.bind_some]
  by_cases ht : Tick a
  · have r := ranges ht
    obtain ⟨x, hx, hl⟩ := text_ok ht
    rw [of_f a ht.1 ht.2, Option.bind_some, date_ok ht.1 ht.2, Option.bind_some, hx, Option.bind_some, check_ok ht, Option.bind_some, if_pos rfl]
    obtain ⟨a0, a1⟩ := ht
    have hat : clock_At.f (a / 24) (a % 24) = some (a, 0) := by
      rw [at_ok (by omega) (by omega) (by omega) (by omega)]
      congr 2; omega
    simp only
    rw [hat, Option.bind_some, from_date k (by omega) ⟨a0, a1⟩, Option.bind_some, parse_str k (by omega) ⟨a0, a1⟩ x hl, Option.bind_some]
    simp only [if_true, reduceIte]
    exact back_j0 k (by omega) s hs y m d h
  · have hb : a < 0 ∨ 1048576 < a := by
      unfold Tick at ht
      omega
    rw [of_bad a hb, Option.bind_some, date_bad hb, Option.bind_some, text_bad hb, Option.bind_some, check_bad hb, Option.bind_some, if_neg (by decide)]
    simp only [if_true, reduceIte, bs_list]
    have hi : slackwaterlaw09_is.f 0 0 0 0 0 0 0 0 = some true := by simp [slackwaterlaw09_is.f]
    rw [hi, Option.bind_some]
    exact back_j0 k (by omega) s hs y m d h
end Go.Proofs.YtipkjbfbcdadkaaDoor.Ck
