import Derived.Test.YtlaiginblmckoaaDoorPK9x
import Derived.Test.YtlaiginblmckoaaDoorDig
import Derived.Laws.Strings
/- The clock in plain words: dates are the calendar's, texts are its numerals, what is read is what has that text. -/
set_option linter.unusedVariables false
set_option linter.unusedSimpArgs false
namespace Go.Proofs.YtlaiginblmckoaaDoor.Ck
open Go Go.RowKit Go.Proofs.YtlaiginblmckoaaDoor.PK9 Go.Proofs.YtlaiginblmckoaaDoorW.PrintWords
theorem wrap64_in {x : Int} (h0 : -9223372036854775808 ≤ x) (h1 : x ≤ 9223372036854775807) : wrap64 x = x := by unfold wrap64; omega
theorem date_ok {t : Int} (h0 : 0 ≤ t) (h1 : t ≤ 1048576) : clock_Date.f t = some (Cal.yr (t / 24), Cal.mo (t / 24), Cal.da (t / 24), t % 24, 0) := by
  unfold clock_Date.f
  rw [if_neg (by omega)]
theorem date_bad {t : Int} (h : t < 0 ∨ 1048576 < t) : clock_Date.f t = some (0, 0, 0, 0, 2) := by
  unfold clock_Date.f
  rw [if_pos h]
theorem week_ok {t : Int} (h0 : 0 ≤ t) (h1 : t ≤ 1048576) : clock_Week.f t = some ((t / 24 + 5) % 7, 0) := by
  unfold clock_Week.f
  rw [of_f t h0 h1, Option.bind_some, if_pos rfl, wrap64_in (by omega) (by omega), Int.tmod_eq_emod_of_nonneg (by omega)]
theorem at_ok {n h : Int} (n0 : 0 ≤ n) (h0 : 0 ≤ h) (h1 : h < 24) (ht : n * 24 + h ≤ 1048576) : clock_At.f n h = some (n * 24 + h, 0) := by
  unfold clock_At.f
  rw [if_neg (by omega), if_neg (by omega), if_neg (by omega), if_neg (by omega), wrap64_in (x := n * 24) (by omega) (by omega), wrap64_in (by omega) (by omega), if_neg (by omega)]
theorem at_bad {n h : Int} (n0 : 0 ≤ n) (n1 : n ≤ 1000000) (hb : h < 0 ∨ 24 ≤ h ∨ 1048576 < n * 24 + h) : clock_At.f n h = some (0, 2) := by
  unfold clock_At.f
  by_cases h0 : h < 0
  · rw [if_pos h0]
  · rw [if_neg h0]
    by_cases h1 : h ≥ 24
    · rw [if_pos h1]
    · rw [if_neg h1, if_neg (by omega)]
      by_cases h2 : n > 43690
      · rw [if_pos h2]
      · rw [if_neg h2, wrap64_in (x := n * 24) (by omega) (by omega), wrap64_in (by omega) (by omega), if_pos (by omega)]
theorem l1_f (y m d h c : Int) (y0 : 2000 ≤ y) (y1 : y ≤ 2119) (hm : m ≤ 12) (c0 : 0 ≤ c) (c1 : c ≤ 100000) (e : Nat) : ∀ (k : Nat) (x : Int), 1 ≤ x → x ≤ m → m - x = e → e + 10 ≤ k → clock_From.l1 k (c + Cal.cum y x) x y m d h = (clock_At.f (c + Cal.cum y m) h) := by
  induction e with
  | zero =>
    intro k x x1 xm hd hk
    obtain ⟨k, rfl⟩ : ∃ j, k = j + 1 := ⟨k - 1, by omega⟩
    obtain rfl : x = m := by omega
    simp only [clock_From.l1]
    rw [if_neg (by omega)]
    cases clock_At.f (c + Cal.cum y x) h <;> rfl
  | succ e ih =>
    intro k x x1 xm hd hk
    obtain ⟨k, rfl⟩ : ∃ j, k = j + 1 := ⟨k - 1, by omega⟩
    have hdf : clock_days.f k y x = some (Cal.dim y x) := by
      obtain ⟨j, rfl⟩ : ∃ j, k = j + 2 := ⟨k - 2, by omega⟩
      exact days_f j y x (by omega)
    have cb := Cal.cum_bd y x (by omega) (by omega)
    have ab := Cal.all_bd y
    have db := Cal.dim_bd y x (by omega) (by omega)
    have cs := Cal.cum_succ y x (by omega) (by omega)
    simp only [clock_From.l1]
    rw [if_pos (by omega), hdf, Option.bind_some, wrap64_in (by omega) (by omega), wrap64_in (by omega) (by omega), show c + Cal.cum y x + Cal.dim y x = c + Cal.cum y (x + 1) by omega]
    exact ih k (x + 1) (by omega) (by omega) (by omega) (by omega)
theorem l0_f (y m d h c : Int) (y0 : 2000 ≤ y) (y1 : y ≤ 2119) (m1 : 1 ≤ m) (hm : m ≤ 12) (c0 : 0 ≤ c) (c1 : c ≤ 50) (e : Nat) : ∀ (k : Nat) (x : Int), 2000 ≤ x → x ≤ y → y - x = e → e + 40 ≤ k → clock_From.l0 k (c + Cal.yb x) x y m d h = clock_At.f (c + Cal.yb y + Cal.cum y m) h := by
  induction e with
  | zero =>
    intro k x x1 xm hd hk
    obtain ⟨k, rfl⟩ : ∃ j, k = j + 1 := ⟨k - 1, by omega⟩
    obtain rfl : x = y := by omega
    have b0 := Cal.yb_le x1
    rw [Cal.yb_2000] at b0
    have b1 := Cal.yb_le (show x ≤ 2120 by omega)
    rw [Cal.yb_2120] at b1
    simp only [clock_From.l0]
    rw [if_neg (by omega)]
    have := l1_f x m d h (c + Cal.yb x) y0 y1 hm (by omega) (by omega) (m - 1).toNat k 1 (by omega) (by omega) (by omega) (by omega)
    rw [Cal.cum_1, Int.add_zero] at this
    exact this
  | succ e ih =>
    intro k x x1 xm hd hk
    obtain ⟨k, rfl⟩ : ∃ j, k = j + 1 := ⟨k - 1, by omega⟩
    have b0 := Cal.yb_le x1
    rw [Cal.yb_2000] at b0
    have b1 := Cal.yb_le (show x ≤ 2120 by omega)
    rw [Cal.yb_2120] at b1
    have ab := Cal.all_bd x
    have bs := Cal.yb_succ x
    simp only [clock_From.l0]
    rw [if_pos (by omega), all_f x (by omega), Option.bind_some, wrap64_in (by omega) (by omega), wrap64_in (by omega) (by omega), show c + Cal.yb x + Cal.all x = c + Cal.yb (x + 1) by omega]
    exact ih k (x + 1) (by omega) (by omega) (by omega) (by omega)
def Fits (y m d : Int) : Prop := 2000 ≤ y ∧ y ≤ 2119 ∧ 1 ≤ d ∧ d ≤ Cal.dim y m
theorem Fits.month {y m d : Int} (h : Fits y m d) : 1 ≤ m ∧ m ≤ 12 := by
  obtain ⟨a, b, c, e⟩ := h
  by_cases hm : m < 1 ∨ 12 < m
  · rw [Cal.dim_0 y m hm] at e; omega
  · omega
theorem from_f (k : Nat) (hk : 200 ≤ k) {y m d : Int} (h : Fits y m d) (hr : Int) : clock_From.f k y m d hr = clock_At.f (Cal.yb y + Cal.cum y m + d - 1) hr := by
  obtain ⟨m1, m12⟩ := h.month
  obtain ⟨a, b, c, e⟩ := h
  have db := Cal.dim_bd y m m1 m12
  obtain ⟨k, rfl⟩ : ∃ j, k = j + 2 := ⟨k - 2, by omega⟩
  unfold clock_From.f
  rw [if_neg (by omega), if_neg (by omega), if_neg (by omega), days_f k y m (by omega), Option.bind_some, decide_eq_false (by omega)]
  simp only [clock_From.j0]
  rw [if_neg (by simp), wrap64_in (by omega) (by omega)]
  have := l0_f y m d hr (d - 1) a b m1 m12 (by omega) (by omega) (y - 2000).toNat (k + 1) 2000 (by omega) a (by omega) (by omega)
  rw [Cal.yb_2000, Int.add_zero] at this
  rw [this]
  congr 1
  omega
theorem from_bad (k : Nat) (hk : 200 ≤ k) {y m d : Int} (h : ¬ Fits y m d) (hr : Int) : clock_From.f k y m d hr = some (0, 2) := by
  obtain ⟨k, rfl⟩ : ∃ j, k = j + 2 := ⟨k - 2, by omega⟩
  have hj : ∀ a b c e, clock_From.j0 (k + 2) true a b c e = some (0, 2) := fun _ _ _ _ => by simp [clock_From.j0]
  unfold clock_From.f
  by_cases h1 : y < 2000
  · rw [if_pos h1, hj]
  · rw [if_neg h1]
    by_cases h2 : y > 2119
    · rw [if_pos h2, hj]
    · rw [if_neg h2]
      by_cases h3 : d < 1
      · rw [if_pos h3, hj]
      · rw [if_neg h3, days_f k y m (by omega), Option.bind_some, decide_eq_true (by
          by_cases h4 : d > Cal.dim y m
          · exact h4
          · exact absurd ⟨by omega, by omega, by omega, by omega⟩ h), hj]
/-- ticks -/
def Tick (t : Int) : Prop := 0 ≤ t ∧ t ≤ 1048576
theorem date_fits {t : Int} (h : Tick t) : Fits (Cal.yr (t / 24)) (Cal.mo (t / 24)) (Cal.da (t / 24)) ∧ Cal.yb (Cal.yr (t / 24)) + Cal.cum (Cal.yr (t / 24)) (Cal.mo (t / 24)) + Cal.da (t / 24) - 1 = t / 24 := by
  obtain ⟨h0, h1⟩ := h
  have hd := Cal.day_is (t / 24) (by omega) (by omega)
  have hy := Cal.yr_is (t / 24) (by omega) (by omega)
  exact ⟨⟨hy.1, hy.2.1, hd.d1, hd.dd⟩, hd.eq.symm⟩
theorem from_date (k : Nat) (hk : 200 ≤ k) {t : Int} (h : Tick t) : clock_From.f k (Cal.yr (t / 24)) (Cal.mo (t / 24)) (Cal.da (t / 24)) (t % 24) = some (t, 0) := by
  obtain ⟨hf, he⟩ := date_fits h
  obtain ⟨h0, h1⟩ := h
  rw [from_f k hk hf, he, at_ok (by omega) (by omega) (by omega) (by omega)]
  congr 2; omega
/-- what From tells is a tick whose date it is -/
theorem from_is (k : Nat) (hk : 200 ≤ k) (y m d hr : Int) : clock_From.f k y m d hr = some (0, 2) ∨ ∃ t, Tick t ∧ clock_From.f k y m d hr = some (t, 0) ∧ y = Cal.yr (t / 24) ∧ m = Cal.mo (t / 24) ∧ d = Cal.da (t / 24) ∧ hr = t % 24 := by
  by_cases hf : Fits y m d
  · have hy := hf.1
    have hy2 := hf.2.1
    have b0 := Cal.yb_le hf.1
    rw [Cal.yb_2000] at b0
    have b1 := Cal.yb_le (show y ≤ 2120 by omega)
    rw [Cal.yb_2120] at b1
    obtain ⟨m1, m12⟩ := hf.month
    have cb := Cal.cum_bd y m (by omega) (by omega)
    have ab := Cal.all_bd y
    have db := Cal.dim_bd y m m1 m12
    have h3 := hf.2.2.1
    have h4 := hf.2.2.2
    rw [from_f k hk hf]
    by_cases hb : hr < 0 ∨ 24 ≤ hr ∨ 1048576 < (Cal.yb y + Cal.cum y m + d - 1) * 24 + hr
    · exact .inl (at_bad (by omega) (by omega) hb)
    · refine .inr ⟨(Cal.yb y + Cal.cum y m + d - 1) * 24 + hr, ⟨by omega, by omega⟩, at_ok (by omega) (by omega) (by omega) (by omega), ?_⟩
      have e : ((Cal.yb y + Cal.cum y m + d - 1) * 24 + hr) / 24 = Cal.yb y + Cal.cum y m + d - 1 := by omega
      rw [e]
      have hu := Cal.Day.uniq (n := Cal.yb y + Cal.cum y m + d - 1) ⟨m1, m12, h3, h4, rfl⟩ (Cal.day_is (Cal.yb y + Cal.cum y m + d - 1) (by omega) (by omega))
      exact ⟨hu.1, hu.2.1, hu.2.2, by omega⟩
  · exact .inl (from_bad k hk hf hr)
/-! ### texts -/
def bs (l : List UInt8) : ByteArray := ⟨l.toArray⟩
theorem bs_list (l : List UInt8) : (bs l).toList = l := by rw [ByteArray.toList_eq]; rfl
theorem bs_inj {a b : ByteArray} (h : a.toList = b.toList) : a = b := by
  rw [ByteArray.toList_eq, ByteArray.toList_eq] at h
  cases a; cases b
  simp only at h
  congr 1
  exact Array.ext' h
theorem app_list (a b : ByteArray) : (a ++ b).toList = a.toList ++ b.toList := by
  rw [ByteArray.toList_eq, ByteArray.toList_eq, ByteArray.toList_eq, ByteArray.data_append, Array.toList_append]
/-- a date's text -/
def txt (y m d h : Int) : List UInt8 := Lib.itoa y ++ 45 :: (Lib.itoa m ++ 45 :: (Lib.itoa d ++ 32 :: Lib.itoa h))
def str (t : Int) : List UInt8 := txt (Cal.yr (t / 24)) (Cal.mo (t / 24)) (Cal.da (t / 24)) (t % 24)
theorem itoa_f {n : Int} (h0 : 0 ≤ n) (h1 : n ≤ 9223372036854775807) : strconv_Itoa.f n = some (bs (Lib.itoa n)) := by
  unfold strconv_Itoa.f
  rw [if_pos ⟨by omega, h1⟩]
  rfl
theorem itoa_sz' {n : Int} (h0 : 0 ≤ n) (h1 : n ≤ 9223372036854775807) : (bs (Lib.itoa n)).size ≤ 21 := itoa_sz (itoa_f h0 h1)
theorem sz1 (c : UInt8) : (⟨#[c]⟩ : ByteArray).size = 1 := rfl
theorem text_ok {t : Int} (h : Tick t) : ∃ x : ByteArray, clock_Text.f t = some (x, 0) ∧ x.toList = str t := by
  obtain ⟨hf, _⟩ := date_fits h
  obtain ⟨m1, m12⟩ := hf.month
  obtain ⟨h0, h1⟩ := h
  have db := Cal.dim_bd (Cal.yr (t / 24)) (Cal.mo (t / 24)) m1 m12
  have a0 := hf.1
  have a1 := hf.2.1
  have a2 := hf.2.2.1
  have a3 := hf.2.2.2
  unfold clock_Text.f str
  rw [date_ok h0 h1, Option.bind_some]
  simp only
  generalize Cal.yr (t / 24) = y at *
  generalize Cal.mo (t / 24) = m at *
  generalize Cal.da (t / 24) = d at *
  have s1 := itoa_sz' (n := y) (by omega) (by omega)
  have s2 := itoa_sz' (n := m) (by omega) (by omega)
  have s3 := itoa_sz' (n := d) (by omega) (by omega)
  have s4 := itoa_sz' (n := t % 24) (by omega) (by omega)
  rw [if_pos trivial, itoa_f (n := y) (by omega) (by omega), Option.bind_some, if_pos (by omega), itoa_f (n := m) (by omega) (by omega), Option.bind_some, if_pos (by rw [ByteArray.size_append, sz1]; omega), if_pos (by rw [ByteArray.size_append, ByteArray.size_append, sz1]; omega)]
  rw [itoa_f (n := d) (by omega) (by omega), Option.bind_some, if_pos (by rw [ByteArray.size_append, ByteArray.size_append, ByteArray.size_append, sz1]; omega), if_pos (by rw [ByteArray.size_append, ByteArray.size_append, ByteArray.size_append, ByteArray.size_append, sz1]; omega)]
  rw [itoa_f (n := t % 24) (by omega) (by omega), Option.bind_some, if_pos (by rw [ByteArray.size_append, ByteArray.size_append, ByteArray.size_append, ByteArray.size_append, ByteArray.size_append, sz1, sz1]; omega)]
  refine ⟨_, rfl, ?_⟩
  simp only [app_list, bs_list]
  unfold txt
  rw [show (⟨#[45]⟩ : ByteArray).toList = [45] from bs_list [45], show (⟨#[32]⟩ : ByteArray).toList = [32] from bs_list [32]]
  simp
theorem text_bad {t : Int} (h : t < 0 ∨ 1048576 < t) : clock_Text.f t = some (bs [], 2) := by
  unfold clock_Text.f
  rw [date_bad h, Option.bind_some]
  rfl
theorem str_small {t : Int} (h : Tick t) : (str t).length ≤ 87 := by
  obtain ⟨hf, _⟩ := date_fits h
  obtain ⟨m1, m12⟩ := hf.month
  obtain ⟨h0, h1⟩ := h
  have db := Cal.dim_bd (Cal.yr (t / 24)) (Cal.mo (t / 24)) m1 m12
  have a0 := hf.1
  have a1 := hf.2.1
  have a2 := hf.2.2.1
  have a3 := hf.2.2.2
  unfold str txt
  generalize Cal.yr (t / 24) = y at *
  generalize Cal.mo (t / 24) = m at *
  generalize Cal.da (t / 24) = d at *
  have s1 := Lib.itoa_length_le y (by omega) (by omega)
  have s2 := Lib.itoa_length_le m (by omega) (by omega)
  have s3 := Lib.itoa_length_le d (by omega) (by omega)
  have s4 := Lib.itoa_length_le (t % 24) (by omega) (by omega)
  simp only [List.length_append, List.length_cons]
  omega
end Go.Proofs.YtlaiginblmckoaaDoor.Ck
