import Derived.Test.YtipkjbfbcdadkaaDoorCkT
/- The clock's reference in plain words: its texts, what it reads; the law ClockTells. -/
set_option linter.unusedVariables false
set_option linter.unusedSimpArgs false
namespace Go.Proofs.YtipkjbfbcdadkaaDoor.Ck
open Go Go.RowKit Go.Proofs.YtipkjbfbcdadkaaDoor.PK9 Go.Proofs.YtipkjbfbcdadkaaDoorW.PrintWords
theorem bs_app (a b : List UInt8) : bs a ++ bs b = bs (a ++ b) := bs_inj (by rw [app_list, bs_list, bs_list, bs_list])
theorem itoa_one {n : Int} (h0 : 0 ≤ n) (h1 : n < 10) : Lib.itoa n = [UInt8.ofNat (48 + n.toNat)] := by rw [Dig.itoa_dec h0, Dig.dec_small (by omega)]
theorem itoa_step {n : Int} (h : 10 ≤ n) : Lib.itoa n = Lib.itoa (n / 10) ++ Lib.itoa (n % 10) := by
  rw [Dig.itoa_dec (by omega), Dig.itoa_dec (n := n / 10) (by omega), itoa_one (n := n % 10) (by omega) (by omega), Dig.dec_step (by omega), show (n / 10).toNat = n.toNat / 10 by omega, show (n % 10).toNat = n.toNat % 10 by omega]
theorem digits_f : ∀ (k : Nat) (n : Int), 0 ≤ n → n ≤ 9999 → n.toNat < 10 ^ (k + 1) → slackwaterref09_digits.f (k + 1) n = some (bs (Lib.itoa n)) := by
  intro k
  induction k with
  | zero =>
    intro n h0 h9 h
    rw [Nat.pow_succ, Nat.pow_zero] at h
    unfold slackwaterref09_digits.f
    rw [if_pos (by omega), itoa_one h0 (by omega), wrap64_in (by omega) (by omega)]
    unfold strOfNums bs
    simp only [List.map_cons, List.map_nil]
    rw [show ((48 + n) % 256).toNat = 48 + n.toNat by omega]
  | succ k ih =>
    intro n h0 h9 h
    unfold slackwaterref09_digits.f
    by_cases h1 : n < 10
    · rw [if_pos h1, itoa_one h0 h1, wrap64_in (by omega) (by omega)]
      unfold strOfNums bs
      simp only [List.map_cons, List.map_nil]
      rw [show ((48 + n) % 256).toNat = 48 + n.toNat by omega]
    · rw [Nat.pow_succ] at h
      rw [if_neg h1, Int.tdiv_eq_ediv_of_nonneg h0, Int.tmod_eq_emod_of_nonneg h0, wrap64_in (by omega) (by omega), ih (n / 10) (by omega) (by omega) (by omega), Option.bind_some]
      have h10 : 10 ^ 1 ≤ 10 ^ (k + 1) := Nat.pow_le_pow_right (by omega) (by omega)
      rw [Nat.pow_one] at h10
      rw [ih (n % 10) (by omega) (by omega) (by omega), Option.bind_some]
      have s1 := itoa_sz' (n := n / 10) (by omega) (by omega)
      have s2 := itoa_sz' (n := n % 10) (by omega) (by omega)
      rw [if_pos (by omega), bs_app, ← itoa_step (n := n) (by omega)]
theorem dig4 (k : Nat) (hk : 4 ≤ k) (n : Int) (h0 : 0 ≤ n) (h9 : n ≤ 9999) : slackwaterref09_digits.f k n = some (bs (Lib.itoa n)) := by
  have h10 : 10 ^ 4 ≤ 10 ^ k := Nat.pow_le_pow_right (by omega) hk
  obtain ⟨k, rfl⟩ : ∃ j, k = j + 1 := ⟨k - 1, by omega⟩
  exact digits_f k n h0 h9 (by omega)
theorem ref_text_ok (k : Nat) (hk : 1500 ≤ k) {t : Int} (h : Tick t) : ∃ x : ByteArray, slackwaterref09_Text.f k t = some (x, 0) ∧ x.toList = str t := by
  obtain ⟨a0, a1, a2, a3, a4, a5, a6, a7⟩ := ranges h
  obtain ⟨h0, h1⟩ := h
  unfold slackwaterref09_Text.f str
  rw [ref_date k hk, date_ok h0 h1, Option.bind_some]
  simp only
  generalize Cal.yr (t / 24) = y at *
  generalize Cal.mo (t / 24) = m at *
  generalize Cal.da (t / 24) = d at *
  have s1 := itoa_sz' (n := y) (by omega) (by omega)
  have s2 := itoa_sz' (n := m) (by omega) (by omega)
  have s3 := itoa_sz' (n := d) (by omega) (by omega)
  have s4 := itoa_sz' (n := t % 24) (by omega) (by omega)
  rw [if_pos trivial, dig4 k (by omega) y (by omega) (by omega), Option.bind_some, if_pos (by omega), dig4 k (by omega) m (by omega) (by omega), Option.bind_some, if_pos (by rw [ByteArray.size_append, sz1]; omega), if_pos (by rw [ByteArray.size_append, ByteArray.size_append, sz1]; omega)]
  rw [dig4 k (by omega) d (by omega) (by omega), Option.bind_some, if_pos (by rw [ByteArray.size_append, ByteArray.size_append, ByteArray.size_append, sz1]; omega), if_pos (by rw [ByteArray.size_append, ByteArray.size_append, ByteArray.size_append, ByteArray.size_append, sz1]; omega)]
  rw [dig4 k (by omega) (t % 24) (by omega) (by omega), Option.bind_some, if_pos (by rw [ByteArray.size_append, ByteArray.size_append, ByteArray.size_append, ByteArray.size_append, ByteArray.size_append, sz1, sz1]; omega)]
  refine ⟨_, rfl, ?_⟩
  simp only [app_list, bs_list]
  unfold txt
  rw [show (⟨#[45]⟩ : ByteArray).toList = [45] from bs_list [45], show (⟨#[32]⟩ : ByteArray).toList = [32] from bs_list [32]]
  simp
theorem ref_text_bad (k : Nat) (hk : 1500 ≤ k) {t : Int} (h : t < 0 ∨ 1048576 < t) : slackwaterref09_Text.f k t = some (bs [], 2) := by
  unfold slackwaterref09_Text.f
  rw [ref_date k hk, date_bad h, Option.bind_some]
  rfl
/-! ### numbers read -/
theorem number_total (s : ByteArray) (hs : s.size ≤ 1048576) (e : Nat) : ∀ (k : Nat) (a n j : Int), 0 ≤ a → a ≤ 2000000 → 0 ≤ j → 4 - j ≤ e → e + 2 ≤ k → ∃ u v, slackwaterref09_number.l0 k s a n j = some (u, v) ∧ a ≤ v ∧ v ≤ a + e := by
  induction e with
  | zero =>
    intro k a n j a0 a1 j0 hj hk
    obtain ⟨k, rfl⟩ : ∃ i, k = i + 1 := ⟨k - 1, by omega⟩
    simp only [slackwaterref09_number.l0]
    rw [if_neg (by omega)]
    exact ⟨_, _, rfl, by omega, by omega⟩
  | succ e ih =>
    intro k a n j a0 a1 j0 hj hk
    obtain ⟨k, rfl⟩ : ∃ i, k = i + 1 := ⟨k - 1, by omega⟩
    simp only [slackwaterref09_number.l0]
    by_cases q1 : j < 4
    · rw [if_pos q1]
      by_cases q2 : a < (s.size : Int)
      · rw [if_pos q2, if_pos a0]
        by_cases q3 : bt s a ≥ 48
        · rw [if_pos q3]
          by_cases q4 : bt s a ≤ 57
          · rw [if_pos q4, wrap64_in (x := a + 1) (by omega) (by omega), wrap64_in (x := j + 1) (by omega) (by omega)]
            obtain ⟨u, v, h1, h2, h3⟩ := ih k (a + 1) (wrap64 (wrap64 (10 * n) + (bt s a - 48) % 256)) (j + 1) (by omega) (by omega) (by omega) (by omega) (by omega)
            exact ⟨u, v, h1, by omega, by omega⟩
          · rw [if_neg q4]; exact ⟨_, _, rfl, by omega, by omega⟩
        · rw [if_neg q3]; exact ⟨_, _, rfl, by omega, by omega⟩
      · rw [if_neg q2]; exact ⟨_, _, rfl, by omega, by omega⟩
    · rw [if_neg q1]; exact ⟨_, _, rfl, by omega, by omega⟩
theorem number_is (k : Nat) (hk : 6 ≤ k) (s : ByteArray) (hs : s.size ≤ 1048576) (a : Int) (a0 : 0 ≤ a) (a1 : a ≤ 2000000) : ∃ u v, slackwaterref09_number.f k s a = some (u, v) ∧ a ≤ v ∧ v ≤ a + 4 := by
  obtain ⟨u, v, h1, h2, h3⟩ := number_total s hs 4 k a 0 0 a0 a1 (by omega) (by omega) (by omega)
  exact ⟨u, v, h1, h2, by omega⟩
theorem bt_list (s : ByteArray) (l : List UInt8) (c : UInt8) (r : List UInt8) (h : s.toList = l ++ c :: r) : bt s (l.length : Int) = c.toNat ∧ (l.length : Int) < (s.size : Int) := by
  have hd : s.data.toList = l ++ c :: r := by rw [← ByteArray.toList_eq, h]
  have hz : s.size = (l ++ c :: r).length := by
    rw [← hd, Array.length_toList]; rfl
  have hlt : l.length < s.size := by rw [hz]; simp
  have hi : ((l.length : Int)).toNat = l.length := by omega
  refine ⟨?_, by omega⟩
  unfold bt
  simp only [hi]
  rw [dif_pos hlt]
  have he : s[l.length]'hlt = c := by
    show s.data[l.length]'hlt = c
    rw [← Array.getElem_toList]
    simp [hd]
  rw [he]
theorem size_list (s : ByteArray) : (s.size : Int) = (s.toList.length : Int) := by
  rw [ByteArray.toList_eq, Array.length_toList]; rfl
/-- the digits' number -/
def num (ds : List UInt8) (n : Int) : Int := ds.foldl (fun a c => 10 * a + (c.toNat - 48 : Int)) n
/-- behind the digits there is none -/
def Ends (r : List UInt8) : Prop := ∀ c ∈ r.head?, (c : UInt8).toNat < 48 ∨ 57 < c.toNat
theorem number_at (s : ByteArray) (hs : s.size ≤ 1048576) : ∀ (ds : List UInt8) (l r : List UInt8) (k : Nat) (n j : Int), s.toList = l ++ (ds ++ r) → Dig.Dg ds → Ends r → 0 ≤ j → j + ds.length ≤ 4 → 0 ≤ n → n ≤ 100000 → (∀ p q, ds = p ++ q → 0 ≤ num p n ∧ num p n ≤ 100000) → ds.length + 2 ≤ k → l.length ≤ 1048576 →
    slackwaterref09_number.l0 k s l.length n j = some (num ds n, (l.length + ds.length : Int))
  | [], l, r, k, n, j, h, hd, hr, j0, hj, n0, n1, hp, hk, hl => by
    obtain ⟨k, rfl⟩ : ∃ i, k = i + 1 := ⟨k - 1, by omega⟩
    simp only [slackwaterref09_number.l0]
    have hres : num [] n = n := rfl
    rw [hres, List.length_nil, show ((l.length : Int) + (0 : Nat)) = l.length by omega]
    by_cases q1 : j < 4
    · rw [if_pos q1]
      cases r with
      | nil =>
        rw [if_neg]
        rw [size_list, h]
        simp
      | cons c r =>
        obtain ⟨hb, hlt⟩ := bt_list s l c r (by rw [h]; rfl)
        have hc := hr c (by simp)
        rw [if_pos hlt, if_pos (by omega), hb]
        by_cases q3 : (c.toNat : Int) ≥ 48
        · rw [if_pos q3, if_neg (by omega)]
        · rw [if_neg q3]
    · rw [if_neg q1]
  | c :: ds, l, r, k, n, j, h, hd, hr, j0, hj, n0, n1, hp, hk, hl => by
    obtain ⟨k, rfl⟩ : ∃ i, k = i + 1 := ⟨k - 1, by omega⟩
    obtain ⟨hb, hlt⟩ := bt_list s l c (ds ++ r) (by rw [h]; rfl)
    have hc := hd c (by simp)
    have h1 := hp [c] ds rfl
    have hn1 : num [c] n = 10 * n + (c.toNat - 48 : Int) := rfl
    rw [hn1] at h1
    simp only [List.length_cons] at hj hk
    simp only [slackwaterref09_number.l0]
    rw [if_pos (by omega), if_pos hlt, if_pos (by omega), hb, if_pos (by omega), if_pos (by omega), wrap64_in (x := (l.length : Int) + 1) (by omega) (by omega), wrap64_in (x := j + 1) (by omega) (by omega), wrap64_in (x := 10 * n) (by omega) (by omega), show ((c.toNat : Int) - 48) % 256 = c.toNat - 48 by omega, wrap64_in (by omega) (by omega)]
    have e : ((l.length : Int) + 1) = ((l ++ [c]).length : Nat) := by simp
    rw [e, number_at s hs ds (l ++ [c]) r k (10 * n + (c.toNat - 48 : Int)) (j + 1) (by rw [h]; simp) (fun x hx => hd x (by simp [hx])) hr (by omega) (by omega) h1.1 h1.2 (fun p q hpq => hp (c :: p) q (by rw [hpq]; rfl)) (by omega) (by
      have := size_list s
      rw [List.length_append, List.length_singleton]; omega)]
    congr 2
    simp
    omega
theorem num_app (a b : List UInt8) (n : Int) : num (a ++ b) n = num b (num a n) := by
  unfold num
  rw [List.foldl_append]
theorem num_dec (k : Nat) : ∀ u : Nat, u < 10 ^ k → num (Lib.decDigits u) 0 = u := by
  induction k with
  | zero =>
    intro u h
    rw [Nat.pow_zero] at h
    obtain rfl : u = 0 := by omega
    rw [Dig.dec_small (by omega)]
    rfl
  | succ k ih =>
    intro u h
    rw [Nat.pow_succ] at h
    by_cases h1 : u < 10
    · rw [Dig.dec_small h1]
      have := Dig.dg_one u h1
      show 10 * (0 : Int) + ((UInt8.ofNat (48 + u)).toNat - 48 : Int) = u
      omega
    · rw [Dig.dec_step h1, num_app, ih (u / 10) (by omega)]
      have := Dig.dg_one (u % 10) (by omega)
      show 10 * ((u / 10 : Nat) : Int) + ((UInt8.ofNat (48 + u % 10)).toNat - 48 : Int) = u
      omega
end Go.Proofs.YtipkjbfbcdadkaaDoor.Ck
