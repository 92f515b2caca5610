import Derived.Test.YtlaiginblmckoaaDoorCsA
/- The clock's spans in plain words: ticks, days. -/
set_option linter.unusedVariables false
set_option linter.unusedSimpArgs false
namespace Go.Proofs.YtlaiginblmckoaaDoor
open Go Go.RowKit Go.Proofs.YtlaiginblmckoaaDoor.PK9 Go.Proofs.YtlaiginblmckoaaDoorW.PrintWords
theorem wrap64_is {x : Int} (h0 : -9223372036854775808 ≤ x) (h1 : x ≤ 9223372036854775807) : wrap64 x = x := by unfold wrap64; omega
/-- the error of a span -/
def spanE (a b : Int) : Int := if a < 0 ∨ 1048577 < b ∨ b < a then 2 else if 4096 < b - a then 3 else 0
/-- how many ticks -/
def spanN (a b : Int) : Nat := if spanE a b = 0 then (b - a).toNat else 0
theorem spanE_0 {a b : Int} (h : spanE a b = 0) : 0 ≤ a ∧ b ≤ 1048577 ∧ a ≤ b ∧ b - a ≤ 4096 := by
  unfold spanE at h
  split at h
  · cases h
  · split at h
    · cases h
    · omega
theorem span_f (k : Nat) (hk : 1 ≤ k) (a b : Int) : clock_Span.f k a b = some (spanE a b) := by
  obtain ⟨k, rfl⟩ : ∃ m, k = m + 1 := ⟨k - 1, by omega⟩
  unfold clock_Span.f spanE
  by_cases h1 : a < 0
  · rw [if_pos h1, if_pos (.inl h1)]; rfl
  · rw [if_neg h1]
    by_cases h2 : b > 1048577
    · rw [if_pos h2, if_pos (.inr (.inl h2))]; rfl
    · rw [if_neg h2]
      by_cases h3 : a > b
      · rw [decide_eq_true h3, if_pos (.inr (.inr h3))]; rfl
      · rw [decide_eq_false h3, if_neg (by omega)]
        simp only [clock_Span.j0]
        rw [if_neg (by simp), wrap64_is (by omega) (by omega)]
        by_cases h4 : b - a > 4096
        · rw [if_pos h4, if_pos h4]
        · rw [if_neg h4, if_neg h4]
theorem refspan_f (k : Nat) (hk : 1 ≤ k) (a b : Int) : slackwaterref09_Span.f k a b = some (spanE a b) := by
  obtain ⟨k, rfl⟩ : ∃ m, k = m + 1 := ⟨k - 1, by omega⟩
  unfold slackwaterref09_Span.f spanE
  by_cases h1 : a < 0
  · rw [if_pos h1, if_pos (.inl h1)]; rfl
  · rw [if_neg h1]
    by_cases h2 : b > 1048577
    · rw [if_pos h2, if_pos (.inr (.inl h2))]; rfl
    · rw [if_neg h2]
      by_cases h3 : a > b
      · rw [decide_eq_true h3, if_pos (.inr (.inr h3))]; rfl
      · rw [decide_eq_false h3, if_neg (by omega)]
        simp only [slackwaterref09_Span.j0]
        rw [if_neg (by simp), wrap64_is (by omega) (by omega)]
        by_cases h4 : b - a > 4096
        · rw [if_pos h4, if_pos h4]
        · rw [if_neg h4, if_neg h4]
theorem from_cons (a : Int) (n : Nat) : from_ a (n + 1) = a :: from_ (a + 1) n := by
  unfold from_
  rw [List.range_succ_eq_map, List.map_cons, List.map_map]
  congr 1
  · simp
  · apply List.map_congr_left
    intro i _
    simp only [Function.comp]
    omega
theorem ticks_f (k : Nat) (hk : 5000 ≤ k) (a b : Int) : slackwaterref09_Ticks.f k a b = some (from_ a (spanN a b)) := by
  unfold slackwaterref09_Ticks.f
  rw [refspan_f k (by omega), Option.bind_some]
  by_cases he : spanE a b = 0
  · obtain ⟨a0, b1, ab, hn⟩ := spanE_0 he
    unfold spanN
    rw [he, if_pos rfl]
    have go : ∀ (d k : Nat) (t : Int) (acc : List Int), a ≤ t → (b - t).toNat = d → t ≤ b → acc.length + d ≤ 5000 → d < k → slackwaterref09_Ticks.l0 k b acc 0 t = some (acc ++ from_ t d) := by
      intro d
      induction d with
      | zero =>
        intro k t acc h0 h1 h2 h3 h4
        obtain ⟨k, rfl⟩ : ∃ m, k = m + 1 := ⟨k - 1, by omega⟩
        simp only [slackwaterref09_Ticks.l0]
        rw [if_pos trivial, if_neg (by omega)]
        simp [from_]
      | succ d ih =>
        intro k t acc h0 h1 h2 h3 h4
        obtain ⟨k, rfl⟩ : ∃ m, k = m + 1 := ⟨k - 1, by omega⟩
        simp only [slackwaterref09_Ticks.l0]
        rw [if_pos trivial, if_pos (by omega), if_pos (by omega), wrap64_is (by omega) (by omega), ih k (t + 1) (acc ++ [t]) (by omega) (by omega) (by omega) (by simp; omega) (by omega), from_cons]
        simp
    have := go (b - a).toNat k a [] (by omega) rfl ab (by simp; omega) (by omega)
    rw [this]; rfl
  · unfold spanN
    rw [if_neg he]
    obtain ⟨k, rfl⟩ : ∃ m, k = m + 1 := ⟨k - 1, by omega⟩
    simp only [slackwaterref09_Ticks.l0]
    rw [if_neg he]
    rfl
/-- the days that lie in a span whole -/
def daysL (a b : Int) : List Int := if spanE a b = 0 then from_ ((a + 23) / 24) (b / 24 - (a + 23) / 24).toNat else []
theorem days_f (k : Nat) (hk : 5000 ≤ k) (a b : Int) : clock_Days.f k a b = some (daysL a b) := by
  unfold clock_Days.f daysL
  rw [span_f k (by omega), Option.bind_some]
  by_cases he : spanE a b = 0
  · obtain ⟨a0, b1, ab, hn⟩ := spanE_0 he
    rw [if_pos he, if_pos he, wrap64_is (x := a + 24) (by omega) (by omega), wrap64_is (x := a + 24 - 1) (by omega) (by omega), Int.tdiv_eq_ediv_of_nonneg (by omega), wrap64_is (by omega) (by omega), show a + 24 - 1 = a + 23 by omega]
    have go : ∀ (d k : Nat) (t : Int) (acc : List Int), 0 ≤ t → t ≤ 100000 → (b / 24 - t).toNat = d → acc.length + d ≤ 5000 → d < k → clock_Days.l0 k b acc t = some (acc ++ from_ t d) := by
      intro d
      induction d with
      | zero =>
        intro k t acc h0 h1 h2 h3 h4
        obtain ⟨k, rfl⟩ : ∃ m, k = m + 1 := ⟨k - 1, by omega⟩
        simp only [clock_Days.l0]
        rw [wrap64_is (x := t + 1) (by omega) (by omega), wrap64_is (by omega) (by omega), if_neg (by omega)]
        simp [from_]
      | succ d ih =>
        intro k t acc h0 h1 h2 h3 h4
        obtain ⟨k, rfl⟩ : ∃ m, k = m + 1 := ⟨k - 1, by omega⟩
        simp only [clock_Days.l0]
        rw [wrap64_is (x := t + 1) (by omega) (by omega), wrap64_is (by omega) (by omega), if_pos (by omega), if_pos (by omega), ih k (t + 1) (acc ++ [t]) (by omega) (by omega) (by omega) (by simp; omega) (by omega), from_cons]
        simp
    have := go (b / 24 - (a + 23) / 24).toNat k ((a + 23) / 24) [] (by omega) (by omega) rfl (by simp; omega) (by omega)
    rw [this]; rfl
  · rw [if_neg he, if_neg he]
theorem refdays_f (k : Nat) (hk : 5000 ≤ k) (a b : Int) : slackwaterref09_Days.f k a b = some (daysL a b) := by
  unfold slackwaterref09_Days.f daysL
  rw [refspan_f k (by omega), Option.bind_some]
  by_cases he : spanE a b = 0
  · obtain ⟨a0, b1, ab, hn⟩ := spanE_0 he
    rw [if_pos he, if_pos he, Int.tdiv_eq_ediv_of_nonneg (by omega), wrap64_is (by omega) (by omega)]
    have go : ∀ (d k : Nat) (t : Int) (acc : List Int), 0 ≤ t → t ≤ 100000 → a ≤ 24 * t → (b / 24 - t).toNat = d → acc.length + d ≤ 5000 → d < k → slackwaterref09_Days.l0 k a b acc t = some (acc ++ from_ t d) := by
      intro d
      induction d with
      | zero =>
        intro k t acc h0 h1 hx h2 h3 h4
        obtain ⟨k, rfl⟩ : ∃ m, k = m + 1 := ⟨k - 1, by omega⟩
        simp only [slackwaterref09_Days.l0]
        rw [wrap64_is (x := 24 * t) (by omega) (by omega), wrap64_is (by omega) (by omega), if_neg (by omega)]
        simp [from_]
      | succ d ih =>
        intro k t acc h0 h1 hx h2 h3 h4
        obtain ⟨k, rfl⟩ : ∃ m, k = m + 1 := ⟨k - 1, by omega⟩
        simp only [slackwaterref09_Days.l0]
        rw [wrap64_is (x := 24 * t) (by omega) (by omega), wrap64_is (x := 24 * t + 24) (by omega) (by omega), if_pos (by omega), if_pos (by omega), if_pos (by omega), wrap64_is (by omega) (by omega), ih k (t + 1) (acc ++ [t]) (by omega) (by omega) (by omega) (by omega) (by simp; omega) (by omega), from_cons]
        simp
    by_cases h24 : a ≤ 24 * (a / 24)
    · rw [show (a + 23) / 24 = a / 24 by omega]
      have := go (b / 24 - a / 24).toNat k (a / 24) [] (by omega) (by omega) h24 rfl (by simp; omega) (by omega)
      rw [this]; rfl
    · obtain ⟨k, rfl⟩ : ∃ m, k = m + 1 := ⟨k - 1, by omega⟩
      simp only [slackwaterref09_Days.l0]
      rw [wrap64_is (x := 24 * (a / 24)) (by omega) (by omega), wrap64_is (x := 24 * (a / 24) + 24) (by omega) (by omega), show (a + 23) / 24 = a / 24 + 1 by omega]
      by_cases hb : 24 * (a / 24) + 24 ≤ b
      · rw [if_pos hb, if_neg (by omega), wrap64_is (by omega) (by omega)]
        have := go (b / 24 - (a / 24 + 1)).toNat k (a / 24 + 1) [] (by omega) (by omega) (by omega) rfl (by simp; omega) (by omega)
        rw [this]; rfl
      · rw [if_neg hb, show (b / 24 - (a / 24 + 1)).toNat = 0 by omega]
        rfl
  · rw [if_neg he, if_neg he]
theorem days_len (a b : Int) : (daysL a b).length < 100000 := by
  unfold daysL
  split
  · rename_i he
    have := spanE_0 he
    rw [from_len]; omega
  · simp
theorem from_getD (a : Int) (n i : Nat) (h : i < n) : (from_ a n).getD i 0 = a + (i : Int) := by
  unfold from_
  rw [List.getD_eq_getElem?_getD, List.getElem?_map, List.getElem?_range h]
  rfl
theorem pre_snoc {a : Int} {n : Nat} {pre : List Int} {x : Int} (h : pre ++ [x] <+: from_ a n) : x = a + (pre.length : Int) := by
  obtain ⟨t, ht⟩ := h
  have hl : pre.length < n := by
    have := congrArg List.length ht
    rw [from_len] at this
    simp at this
    omega
  have h1 := from_getD a n pre.length hl
  rw [← ht] at h1
  have h2 : (pre ++ [x] ++ t).getD pre.length 0 = x := by simp [List.getD_eq_getElem?_getD]
  rw [h2] at h1
  exact h1
end Go.Proofs.YtlaiginblmckoaaDoor
