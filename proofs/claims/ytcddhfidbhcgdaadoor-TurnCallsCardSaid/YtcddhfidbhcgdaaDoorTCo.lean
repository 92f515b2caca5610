import Derived.Test.YtcddhfidbhcgdaaDoorTCt
/- The reference's divisors, checks, fractions and texts are the program's. -/
set_option linter.unusedVariables false
set_option linter.unusedSimpArgs false
namespace Go.Proofs.YtcddhfidbhcgdaaDoor.TG
open Go Go.RowKit Go.Proofs.YtcddhfidbhcgdaaDoor.PK8 Go.Proofs.YtcddhfidbhcgdaaDoorW.PrintWords
theorem rgcd : ∀ (k : Nat) (a b : Int), slackwaterref08_gcd.l0 k a b = turn_common.l0 k a b
  | 0, a, b => rfl
  | k + 1, a, b => by
    simp only [slackwaterref08_gcd.l0, turn_common.l0]
    by_cases h : b = 0
    · simp [h]
    · simp [h, rgcd k]
theorem gcd_f (k : Nat) (hk : big ≤ k) {a b : Int} (a0 : 0 ≤ a) (b0 : 0 ≤ b) (b1 : b < 18446744073709551616) : slackwaterref08_gcd.f k a b = some (Int.gcd a b : Int) := by
  unfold big at hk
  unfold slackwaterref08_gcd.f
  rw [rgcd, com_l b.toNat k a b a0 b0 (by omega) (by omega)]
theorem tmod_em (p w : Int) : p.tmod w % w = p % w := by rw [Int.tmod_def, Int.sub_mul_emod_self_left]
theorem tmod_em2 (p w : Int) : (p.tmod w + w) % w = p % w := by rw [Int.add_emod_right, tmod_em]
theorem tmod_pos (p w : Int) (w0 : 0 < w) : (p.tmod w + w).tmod w = p % w := by
  have h1 := Int.lt_tmod_of_pos p w0
  rw [Int.tmod_eq_emod_of_nonneg (by omega), tmod_em2]
theorem ref_fin (P w : Int) (g : Nat) (P0 : 0 ≤ P) (P1 : P < w) (w1 : w ≤ 4294967296) (g0 : 0 < g) (gl : (g : Int) ≤ w) :
    (if wrap64 (g : Int) = 0 then none else some (wrap64 (P.tdiv (wrap64 (g : Int))), wrap64 (w.tdiv (wrap64 (g : Int))), (0 : Int))) = some (P / g, w / g, 0) := by
  have hw : wrap64 (g : Int) = g := wrap64_in (by omega) (by omega)
  have a1 : w / (g : Int) ≤ w := Int.ediv_le_self _ (by omega)
  have a0 : 0 ≤ w / (g : Int) := Int.ediv_nonneg (by omega) (by omega)
  have b1 : P / (g : Int) ≤ P := Int.ediv_le_self _ P0
  have b0 : 0 ≤ P / (g : Int) := Int.ediv_nonneg P0 (by omega)
  rw [hw, if_neg (by omega), Int.tdiv_eq_ediv_of_nonneg P0, Int.tdiv_eq_ediv_of_nonneg (by omega)]
  generalize P / (g : Int) = X at *
  generalize w / (g : Int) = Y at *
  rw [wrap64_in (x := X) (by omega) (by omega), wrap64_in (x := Y) (by omega) (by omega)]
theorem of_ref (k : Nat) (hk : big + 2 ≤ k) (p w : Int) (p0 : -9223372036854775808 ≤ p) (p1 : p < 9223372036854775808) : ∃ r, turn_Of.f k p w = some r ∧ slackwaterref08_Of.f k p w = some r := by
  obtain ⟨k, rfl⟩ : ∃ j, k = j + 1 := ⟨k - 1, by omega⟩
  unfold turn_Of.f slackwaterref08_Of.f
  by_cases h0 : w = 0
  · rw [if_pos h0, if_pos h0]; exact ⟨_, rfl, rfl⟩
  rw [if_neg h0, if_neg h0]
  by_cases h1 : w < 0
  · rw [if_pos h1, if_pos h1]
    simp only [slackwaterref08_Of.j0]
    exact ⟨_, rfl, rfl⟩
  rw [if_neg h1, if_neg h1]
  by_cases h2 : w > 4294967296
  · rw [if_pos h2, decide_eq_true h2]
    simp only [slackwaterref08_Of.j0]
    exact ⟨_, rfl, rfl⟩
  rw [if_neg h2, decide_eq_false h2]
  simp only [slackwaterref08_Of.j0]
  rw [if_neg (by simp), if_neg h0]
  have w0 : 0 < w := by omega
  have P0 := Int.emod_nonneg p h0
  have P1 := Int.emod_lt_of_pos p w0
  have t0 := Int.lt_tmod_of_pos p w0
  have t1 := Int.tmod_lt_of_pos p w0
  have tp := tmod_pos p w w0
  rw [wrap64_in (x := p.tmod w + w) (by omega) (by omega), tp, u64_in P0 (by omega), u64_in (x := w) (by omega) (by omega)]
  have g0 : 0 < Int.gcd w (p % w) := Int.gcd_pos_of_ne_zero_left _ h0
  have gl : (Int.gcd w (p % w) : Int) ≤ w := Int.le_of_dvd w0 (Int.gcd_dvd_left ..)
  have hlow : turn_lowest.f (k + 1) (p % w) w = some (fin (p % w) w (Int.gcd w (p % w))) := by
    unfold turn_lowest.f
    unfold big at hk
    exact low_l (p % w) w P0 P1 (by omega) (p % w).toNat (k + 1) w (p % w) (by omega) P0 g0 (by omega) (by omega)
  have hgcd : slackwaterref08_gcd.f k (p % w) w = some (Int.gcd w (p % w) : Int) := by
    rw [gcd_f k (by omega) P0 (by omega) (by omega), Int.gcd_comm]
  rw [hlow, Option.bind_some]
  have hfin : fin (p % w) w (Int.gcd w (p % w)) = (p % w / (Int.gcd w (p % w) : Int), w / (Int.gcd w (p % w) : Int), 0) := by
    have a1 : w / (Int.gcd w (p % w) : Int) ≤ w := Int.ediv_le_self _ (by omega)
    unfold fin
    rw [if_neg (by omega)]
  have hrf := ref_fin (p % w) w (Int.gcd w (p % w)) P0 P1 (by omega) g0 gl
  rw [hfin]
  refine ⟨_, rfl, ?_⟩
  clear hfin hlow
  by_cases hn : p.tmod w < 0
  · have e : p.tmod w + w = p % w := (Int.emod_eq_of_lt (by omega) (by omega)).symm.trans (tmod_em2 p w)
    rw [if_pos hn, e, u64_in P0 (by omega), hgcd, Option.bind_some]
    exact hrf
  · have e : p.tmod w = p % w := (Int.emod_eq_of_lt (by omega) (by omega)).symm.trans (tmod_em p w)
    rw [if_neg hn, e, u64_in P0 (by omega), hgcd, Option.bind_some]
    exact hrf
theorem ref_chk (k : Nat) (hk : big ≤ k) (p w : Int) : slackwaterref08_Check.f k p w = turn_Check.f k p w := by
  unfold slackwaterref08_Check.f turn_Check.f
  by_cases h1 : w < 1
  · rw [if_pos h1, if_pos h1]
  rw [if_neg h1, if_neg h1]
  by_cases h2 : w > 4294967296
  · rw [if_pos h2, if_pos h2]
  rw [if_neg h2, if_neg h2]
  by_cases h3 : p < 0
  · rw [if_pos h3, if_pos h3]
  rw [if_neg h3, if_neg h3]
  by_cases h4 : p ≥ w
  · rw [if_pos h4, if_pos h4]
  rw [if_neg h4, if_neg h4, u64_in (x := p) (by omega) (by omega), u64_in (x := w) (by omega) (by omega), gcd_f k hk (by omega) (by omega) (by omega)]
  unfold turn_common.f
  unfold big at hk
  rw [com_l p.toNat k w p (by omega) (by omega) (by omega) (by omega), Int.gcd_comm]
theorem ext10 : ∀ i : Fin 10, (⟨#[48, 49, 50, 51, 52, 53, 54, 55, 56, 57]⟩ : ByteArray).extract i.val (i.val + 1) = ⟨#[UInt8.ofNat (48 + i.val)]⟩ := by decide +kernel
theorem itoa_one {n : Int} (h0 : 0 ≤ n) (h1 : n < 10) : Lib.itoa n = [UInt8.ofNat (48 + n.toNat)] := by rw [Dig.itoa_dec h0, Dig.dec_small (by omega)]
theorem itoa_step {n : Int} (h : 10 ≤ n) : Lib.itoa n = Lib.itoa (n / 10) ++ Lib.itoa (n % 10) := by
  rw [Dig.itoa_dec (by omega), Dig.itoa_dec (n := n / 10) (by omega), itoa_one (n := n % 10) (by omega) (by omega), Dig.dec_step (by omega), show (n / 10).toNat = n.toNat / 10 by omega, show (n % 10).toNat = n.toNat % 10 by omega]
theorem bs_inj {a b : ByteArray} (h : a.toList = b.toList) : a = b := by
  rw [ByteArray.toList_eq, ByteArray.toList_eq] at h
  cases a; cases b
  simp only at h
  congr 1
  exact Array.ext' h
theorem bs_app (a b : List UInt8) : bs a ++ bs b = bs (a ++ b) := bs_inj (by rw [app_list, bs_list, bs_list, bs_list])
theorem dig_one {n : Int} (h0 : 0 ≤ n) (h1 : n < 10) (k : Nat) : slackwaterref08_digits.f (k + 1) n = some (bs (Lib.itoa n)) := by
  unfold slackwaterref08_digits.f
  rw [if_pos h1, if_pos h0, wrap64_in (x := n + 1) (by omega) (by omega), if_pos (by omega), if_pos (by omega), itoa_one h0 h1]
  have := ext10 ⟨n.toNat, by omega⟩
  rw [show (n + 1).toNat = n.toNat + 1 by omega, this]
  rfl
theorem digits_f : ∀ (k : Nat) (n : Int), 0 ≤ n → n ≤ 4294967296 → n.toNat < 10 ^ (k + 1) → slackwaterref08_digits.f (k + 1) n = some (bs (Lib.itoa n)) := by
  intro k
  induction k with
  | zero =>
    intro n h0 h9 h
    rw [Nat.pow_succ, Nat.pow_zero] at h
    exact dig_one h0 (by omega) 0
  | succ k ih =>
    intro n h0 h9 h
    by_cases h1 : n < 10
    · exact dig_one h0 h1 _
    · unfold slackwaterref08_digits.f
      rw [Nat.pow_succ] at h
      rw [if_neg h1, Int.tdiv_eq_ediv_of_nonneg h0, Int.tmod_eq_emod_of_nonneg h0, wrap64_in (by omega) (by omega), ih (n / 10) (by omega) (by omega) (by omega), Option.bind_some]
      have h10 : 10 ^ 1 ≤ 10 ^ (k + 1) := Nat.pow_le_pow_right (by omega) (by omega)
      rw [Nat.pow_one] at h10
      rw [ih (n % 10) (by omega) (by omega) (by omega), Option.bind_some]
      have s1 := itoa_sz' (n := n / 10) (by omega) (by omega)
      have s2 := itoa_sz' (n := n % 10) (by omega) (by omega)
      rw [if_pos (by omega), bs_app, ← itoa_step (n := n) (by omega)]
theorem dig (k : Nat) (hk : 10 ≤ k) (n : Int) (h0 : 0 ≤ n) (h9 : n ≤ 4294967296) : slackwaterref08_digits.f k n = some (bs (Lib.itoa n)) := by
  have h10 : 10 ^ 10 ≤ 10 ^ k := Nat.pow_le_pow_right (by omega) hk
  obtain ⟨k, rfl⟩ : ∃ j, k = j + 1 := ⟨k - 1, by omega⟩
  exact digits_f k n h0 h9 (by omega)
theorem big10 {k : Nat} (hk : big ≤ k) : 2000000 ≤ k := by unfold big at hk; omega
theorem rprint_ok (k : Nat) (hk : big ≤ k) {p u : Int} (h : Ok p u) : ∃ x : ByteArray, slackwaterref08_Print.f k p u = some (x, 0) ∧ x.toList = txt p u := by
  have c := chk_ok k hk h
  have hb := big10 hk
  obtain ⟨⟨p0, pu, _⟩, u1⟩ := h
  unfold slackwaterref08_Print.f
  have s1 := itoa_sz' (n := p) (by omega) (by omega)
  have s2 := itoa_sz' (n := u) (by omega) (by omega)
  rw [ref_chk k hk, c, Option.bind_some, if_pos rfl, dig k (by omega) p (by omega) (by omega), Option.bind_some, if_pos (by omega), dig k (by omega) u (by omega) (by omega), Option.bind_some, if_pos (by rw [ByteArray.size_append, sz1]; omega)]
  refine ⟨_, rfl, ?_⟩
  simp only [app_list, bs_list]
  unfold txt
  rw [show (⟨#[47]⟩ : ByteArray).toList = [47] from bs_list [47]]
  simp
theorem rprint_bad (k : Nat) (hk : big ≤ k) {p u : Int} (h : ¬ Ok p u) : ∃ e, e ≠ 0 ∧ slackwaterref08_Print.f k p u = some (⟨#[]⟩, e) := by
  obtain ⟨e, h1, h2⟩ := chk k hk p u
  have he : e ≠ 0 := fun he => h (h2.1 he)
  unfold slackwaterref08_Print.f
  rw [ref_chk k hk, h1, Option.bind_some, if_neg he]
  exact ⟨e, he, rfl⟩
end Go.Proofs.YtcddhfidbhcgdaaDoor.TG
