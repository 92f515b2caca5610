import Derived.Test.YtcddhfidbhcgdaaDoorTCo
/- TurnCalls as a plain law: sums, differences, multiples, comparisons, numbers at turns, texts: the reference tells the same. -/
set_option linter.unusedVariables false
set_option linter.unusedSimpArgs false
namespace Go.Proofs.YtcddhfidbhcgdaaDoor.TG
open Go Go.RowKit Go.Proofs.YtcddhfidbhcgdaaDoor.PK8 Go.Proofs.YtcddhfidbhcgdaaDoorW.PrintWords
/-! ### sums -/
theorem com_f (k : Nat) (hk : big ≤ k) {a b : Int} (a0 : 0 ≤ a) (b0 : 0 ≤ b) (b1 : b < 18446744073709551616) : turn_common.f k a b = some (Int.gcd a b : Int) := by
  unfold big at hk
  unfold turn_common.f
  rw [com_l b.toNat k a b a0 b0 (by omega) (by omega)]
/-- what both make of the sum of parts of a whole -/
theorem add_ok (k : Nat) (hk : big ≤ k) {p u r v : Int} (ha : Ok p u) (hb : Ok r v) : ∃ x, turn_Add.f k p u r v = some x ∧ slackwaterref08_Add.f k p u r v = some x := by
  have hk' := hk
  unfold big at hk'
  have ca := chk_ok k hk ha
  have cb := chk_ok k hk hb
  obtain ⟨⟨p0, pu, cp⟩, u1⟩ := ha
  obtain ⟨⟨r0, rv, cr⟩, v1⟩ := hb
  have g0 : 0 < Int.gcd u v := Int.gcd_pos_of_ne_zero_left _ (by omega)
  have d1 : (Int.gcd u v : Int) ∣ u := Int.gcd_dvd_left ..
  have d2 : (Int.gcd u v : Int) ∣ v := Int.gcd_dvd_right ..
  have e1 := Int.ediv_mul_cancel d1
  have e2 := Int.ediv_mul_cancel d2
  have hA : turn_Add.f k p u r v = turn_Add.tail k p u r v (Int.gcd u v : Int) := by
    unfold turn_Add.f
    rw [ca, Option.bind_some, if_pos rfl, cb, Option.bind_some, if_pos rfl, com_f k hk (by omega) (by omega) (by omega), Option.bind_some]
  have hR : slackwaterref08_Add.f k p u r v = slackwaterref08_Add.tail k p u r v (Int.gcd u v : Int) := by
    unfold slackwaterref08_Add.f
    rw [ref_chk k hk, ca, Option.bind_some, if_pos rfl, ref_chk k hk, cb, Option.bind_some, if_pos rfl, gcd_f k hk (by omega) (by omega) (by omega), Option.bind_some]
  rw [hA, hR]
  generalize hg : (Int.gcd u v : Int) = g at *
  have g1 : 0 < g := by omega
  unfold turn_Add.tail slackwaterref08_Add.tail
  generalize hV : v / g = V at *
  generalize hU : u / g = U at *
  have V0 : 0 < V := by
    by_cases h : V ≤ 0
    · have : V * g ≤ 0 := Int.mul_nonpos_of_nonpos_of_nonneg h (by omega)
      omega
    · omega
  have U0 : 0 < U := by
    by_cases h : U ≤ 0
    · have : U * g ≤ 0 := Int.mul_nonpos_of_nonpos_of_nonneg h (by omega)
      omega
    · omega
  have VV : V ≤ v := by rw [← hV]; exact Int.ediv_le_self _ (by omega)
  have UU : U ≤ u := by rw [← hU]; exact Int.ediv_le_self _ (by omega)
  have hW : u * V = U * v := by rw [← e1, ← e2]; rw [Int.mul_comm V g, Int.mul_assoc U g V]
  have x1 : p * V < u * V := Int.mul_lt_mul_of_pos_right pu V0
  have y1 : r * U < v * U := Int.mul_lt_mul_of_pos_right rv U0
  have hc : v * U = U * v := Int.mul_comm _ _
  have x0 : 0 ≤ p * V := Int.mul_nonneg p0 (by omega)
  have y0 : 0 ≤ r * U := Int.mul_nonneg r0 (by omega)
  have W1 : u * V < 18446744073709551616 := by
    have h1 : u * V ≤ 4294967296 * 4294967296 := mul_bd (by omega) (by omega) u1 (by omega)
    by_cases h : V = 4294967296
    · have hv : v = 4294967296 := by omega
      have hg1 : g = 1 := by
        rw [h, hv] at e2; omega
      rw [hg1, Int.mul_one] at e1
      by_cases hu : u = 4294967296
      · rw [hu, hv] at hg
        have : Int.gcd 4294967296 4294967296 = 4294967296 := by decide
        omega
      · have : u * V ≤ 4294967295 * 4294967296 := mul_bd (by omega) (by omega) (by omega) (by omega)
        omega
    · have : u * V ≤ 4294967296 * 4294967295 := mul_bd (by omega) (by omega) u1 (by omega)
      omega
  have m1 := mulw (a := p) (b := V) (by omega) (by omega) (by omega) (by omega)
  have m2 := mulw (a := r) (b := U) (by omega) (by omega) (by omega) (by omega)
  rw [← hW]
  generalize hS : p * V + r * U = S at *
  generalize hWW : u * V = W at *
  have c1 : 1 ≤ g ∧ 0 ≤ p ∧ 1 ≤ u ∧ p < u ∧ 0 ≤ r ∧ 1 ≤ v ∧ r < v ∧ u ≤ 4294967296 ∧ v ≤ 4294967296 ∧ W < 18446744073709551616 ∧ S < 2 * W ∧ p * V < 18446744073709551616 ∧ r * U < 18446744073709551616 := ⟨by omega, p0, by omega, pu, r0, by omega, rv, u1, v1, W1, by omega, by omega, by omega⟩
  have c2 : 1 ≤ g ∧ 0 ≤ p ∧ 1 ≤ u ∧ p < u ∧ 0 ≤ r ∧ 1 ≤ v ∧ r < v ∧ u ≤ 4294967296 ∧ v ≤ 4294967296 ∧ W < 18446744073709551616 ∧ S < 2 * W ∧ p * V < 18446744073709551616 ∧ r * U < 18446744073709551616 ∧ bits_Mul64.f p V = some (0, p * V) ∧ bits_Mul64.f r U = some (0, r * U) := ⟨by omega, p0, by omega, pu, r0, by omega, rv, u1, v1, W1, by omega, by omega, by omega, m1, m2⟩
  rw [if_pos c1, if_pos c2]
  have hm : (if W ≤ S then S - W else S) = S % W := by
    by_cases h : W ≤ S
    · rw [if_pos h, ← Int.sub_emod_right S W, Int.emod_eq_of_lt (by omega) (by omega)]
    · rw [if_neg h, Int.emod_eq_of_lt (by omega) (by omega)]
  rw [hm]
  have P0 : 0 ≤ S % W := Int.emod_nonneg _ (by omega)
  have P1 : S % W < W := Int.emod_lt_of_pos _ (by omega)
  have hgp : 0 < Int.gcd W (S % W) := Int.gcd_pos_of_ne_zero_left _ (by omega)
  have hlow : turn_lowest.f k (S % W) W = some (fin (S % W) W (Int.gcd W (S % W))) := by
    unfold turn_lowest.f
    exact low_l (S % W) W P0 P1 W1 (S % W).toNat k W (S % W) (by omega) P0 hgp (by omega) (by omega)
  refine ⟨_, hlow, ?_⟩
  rw [gcd_f k hk P0 (by omega) W1, Option.bind_some, Int.gcd_comm, if_pos (by omega)]
  unfold fin
  split <;> rfl
theorem add_eq (k : Nat) (hk : big ≤ k) (p u r v : Int) : ∃ x, turn_Add.f k p u r v = some x ∧ slackwaterref08_Add.f k p u r v = some x := by
  by_cases ha : Ok p u
  · by_cases hb : Ok r v
    · exact add_ok k hk ha hb
    · obtain ⟨e, h1, h2⟩ := chk k hk r v
      have he : e ≠ 0 := fun he => hb (h2.1 he)
      unfold turn_Add.f slackwaterref08_Add.f
      rw [ref_chk k hk, chk_ok k hk ha, Option.bind_some, Option.bind_some, if_pos rfl, if_pos rfl, ref_chk k hk, h1, Option.bind_some, Option.bind_some, if_neg he, if_neg he]
      exact ⟨_, rfl, rfl⟩
  · obtain ⟨e, h1, h2⟩ := chk k hk p u
    have he : e ≠ 0 := fun he => ha (h2.1 he)
    unfold turn_Add.f slackwaterref08_Add.f
    rw [ref_chk k hk, h1, Option.bind_some, Option.bind_some, if_neg he, if_neg he]
    exact ⟨_, rfl, rfl⟩
/-! ### Of at what lies within -/
theorem gcd_em (u x : Int) : Int.gcd u (x % u) = Int.gcd u x := by
  apply Nat.dvd_antisymm
  · apply Int.dvd_gcd (Int.gcd_dvd_left ..)
    have h1 : (Int.gcd u (x % u) : Int) ∣ u := Int.gcd_dvd_left ..
    have h2 : (Int.gcd u (x % u) : Int) ∣ x % u := Int.gcd_dvd_right ..
    have h3 := Int.dvd_add (Int.dvd_mul_of_dvd_left (c := x / u) h1) h2
    rw [Int.mul_ediv_add_emod] at h3
    exact h3
  · apply Int.dvd_gcd (Int.gcd_dvd_left ..)
    have h1 : (Int.gcd u x : Int) ∣ u := Int.gcd_dvd_left ..
    have h2 : (Int.gcd u x : Int) ∣ x := Int.gcd_dvd_right ..
    rw [Int.emod_def]
    exact Int.dvd_sub h2 (Int.dvd_mul_of_dvd_left (c := x / u) h1)
theorem low_val (k : Nat) (hk : big ≤ k) (P u : Int) (P0 : 0 ≤ P) (P1 : P < u) (u1 : u ≤ 4294967296) : turn_lowest.f k P u = some (P / (Int.gcd u P : Int), u / (Int.gcd u P : Int), 0) := by
  have hg : 0 < Int.gcd u P := Int.gcd_pos_of_ne_zero_left _ (by omega)
  have hd : u / (Int.gcd u P : Int) ≤ u := Int.ediv_le_self _ (by omega)
  unfold big at hk
  unfold turn_lowest.f
  rw [low_l P u P0 P1 (by omega) P.toNat k u P (by omega) P0 hg (by omega) (by omega)]
  unfold fin
  rw [if_neg (by omega)]
theorem of_val (k : Nat) (hk : big + 2 ≤ k) (x u : Int) (u0 : 0 < u) (u1 : u ≤ 4294967296) (x0 : -9223372036854775808 ≤ x) (x1 : x < 9223372036854775808) :
    slackwaterref08_Of.f k x u = some (x % u / (Int.gcd u (x % u) : Int), u / (Int.gcd u (x % u) : Int), 0) := by
  obtain ⟨r, h1, h2⟩ := of_ref k hk x u x0 x1
  rw [h2, ← h1]
  have P0 := Int.emod_nonneg x (show u ≠ 0 by omega)
  have P1 := Int.emod_lt_of_pos x u0
  have t0 := Int.lt_tmod_of_pos x u0
  have t1 := Int.tmod_lt_of_pos x u0
  unfold turn_Of.f
  rw [if_neg (by omega), if_neg (by omega), if_neg (by omega), wrap64_in (x := x.tmod u + u) (by omega) (by omega), tmod_pos x u u0, u64_in P0 (by omega), u64_in (x := u) (by omega) (by omega), low_val k (by omega) (x % u) u P0 P1 u1, Option.bind_some]
theorem bad_l (k : Nat) (hk : big ≤ k) {p u : Int} (h : ¬ Ok p u) : ∃ e, e ≠ 0 ∧ turn_Check.f k p u = some e ∧ slackwaterref08_Check.f k p u = some e := by
  obtain ⟨e, h1, h2⟩ := chk k hk p u
  exact ⟨e, fun he => h (h2.1 he), h1, by rw [ref_chk k hk, h1]⟩
theorem neg_eq (k : Nat) (hk : big + 2 ≤ k) (p u : Int) : ∃ x, turn_Neg.f k p u = some x ∧ slackwaterref08_Neg.f k p u = some x := by
  unfold turn_Neg.f slackwaterref08_Neg.f
  by_cases h : Ok p u
  · have c := chk_ok k (by omega) h
    obtain ⟨⟨p0, pu, co⟩, u1⟩ := h
    rw [ref_chk k (by omega), c, Option.bind_some, Option.bind_some, if_pos rfl, if_pos rfl, if_neg (by omega)]
    have h1 : wrap64 (u - p) = u - p := wrap64_in (by omega) (by omega)
    have h2 : wrap64 (-p) = -p := wrap64_in (by omega) (by omega)
    have e : (u - p).tmod u = (-p) % u := by
      rw [Int.tmod_eq_emod_of_nonneg (by omega), show u - p = -p + u by omega, Int.add_emod_right]
    have hg : Int.gcd u ((-p) % u) = 1 := by rw [gcd_em, Int.gcd_neg, co]
    rw [h1, h2, of_val k hk (-p) u (by omega) u1 (by omega) (by omega), hg, e]
    simp
  · obtain ⟨e, he, h1, h2⟩ := bad_l k (by omega) h
    rw [h1, h2, Option.bind_some, Option.bind_some, if_neg he, if_neg he]
    exact ⟨_, rfl, rfl⟩
theorem mul_bound {p n : Int} (p0 : 0 ≤ p) (p1 : p ≤ 4294967295) (n0 : -2147483648 ≤ n) (n1 : n < 2147483648) : -9223372036854775808 ≤ p * n ∧ p * n < 9223372036854775808 := by
  constructor
  · by_cases h : 0 ≤ n
    · have := Int.mul_nonneg p0 h
      omega
    · have h1 : p * (-n) ≤ 4294967295 * 2147483648 := mul_bd p0 (by omega) p1 (by omega)
      rw [Int.mul_neg] at h1
      omega
  · by_cases h : 0 ≤ n
    · have h1 : p * n ≤ 4294967295 * 2147483647 := mul_bd p0 h p1 (by omega)
      omega
    · have h1 : p * n ≤ 0 := Int.mul_nonpos_of_nonneg_of_nonpos p0 (by omega)
      omega
theorem times_eq (k : Nat) (hk : big + 2 ≤ k) (p u n : Int) (n0 : -2147483648 ≤ n) (n1 : n < 2147483648) : ∃ x, turn_Times.f k p u n = some x ∧ slackwaterref08_Times.f k p u n = some x := by
  unfold turn_Times.f slackwaterref08_Times.f
  by_cases h : Ok p u
  · have c := chk_ok k (by omega) h
    obtain ⟨⟨p0, pu, co⟩, u1⟩ := h
    rw [ref_chk k (by omega), c, Option.bind_some, Option.bind_some, if_pos rfl, if_pos rfl, if_neg (by omega)]
    have u0 : 0 < u := by omega
    have hn : wrap64 n = n := wrap64_in (by omega) (by omega)
    have t0 := Int.lt_tmod_of_pos n u0
    have t1 := Int.tmod_lt_of_pos n u0
    have k0 := Int.emod_nonneg n (show u ≠ 0 by omega)
    have k1 := Int.emod_lt_of_pos n u0
    have hb := mul_bound p0 (by omega) n0 n1
    rw [hn, wrap64_in (x := n.tmod u + u) (by omega) (by omega), tmod_pos n u u0, u64_in (x := p) (by omega) (by omega), u64_in (x := n % u) k0 (by omega), u64_in (x := u) (by omega) (by omega),
      mulw (a := p) (b := n % u) p0 (by omega) k0 (by omega), Option.bind_some]
    unfold bits_Rem64.f
    rw [if_pos ⟨rfl, Int.mul_nonneg p0 k0, u0⟩, Option.bind_some]
    have e : p * (n % u) % u = p * n % u := by
      rw [Int.mul_emod, Int.emod_emod_of_dvd _ (Int.dvd_refl u), ← Int.mul_emod]
    rw [e, low_val k (by omega) _ u (Int.emod_nonneg _ (by omega)) (Int.emod_lt_of_pos _ u0) u1, Option.bind_some, wrap64_in (x := p * n) hb.1 (by omega), of_val k hk (p * n) u u0 u1 hb.1 hb.2, Option.bind_some]
    exact ⟨_, rfl, rfl⟩
  · obtain ⟨e, he, h1, h2⟩ := bad_l k (by omega) h
    rw [h1, h2, Option.bind_some, Option.bind_some, if_neg he, if_neg he]
    exact ⟨_, rfl, rfl⟩
theorem sub_eq (k : Nat) (hk : big + 2 ≤ k) (p u r v : Int) : ∃ x, turn_Sub.f k p u r v = some x ∧ slackwaterref08_Sub.f k p u r v = some x := by
  unfold turn_Sub.f slackwaterref08_Sub.f
  by_cases h : Ok p u
  · have c := chk_ok k (by omega) h
    rw [ref_chk k (by omega), c, Option.bind_some, Option.bind_some, if_pos rfl, if_pos rfl]
    obtain ⟨x, h1, h2⟩ := neg_eq k hk r v
    rw [h1, h2, Option.bind_some, Option.bind_some]
    by_cases hx : x.2.2 = 0
    · rw [if_pos hx, if_pos hx]
      obtain ⟨y, h3, h4⟩ := add_eq k (by omega) p u x.1 x.2.1
      rw [h3, h4]
      exact ⟨_, rfl, rfl⟩
    · rw [if_neg hx, if_neg hx]
      exact ⟨_, rfl, rfl⟩
  · obtain ⟨e, he, h1, h2⟩ := bad_l k (by omega) h
    rw [h1, h2, Option.bind_some, Option.bind_some, if_neg he, if_neg he]
    exact ⟨_, rfl, rfl⟩
theorem cmp_eq (k : Nat) (hk : big + 2 ≤ k) (p u a b : Int) : ∃ x, turn_Compare.f k p u a b = some x ∧ slackwaterref08_Compare.f k p u a b = some x := by
  by_cases h : Ok p u
  · by_cases h' : Ok a b
    · refine ⟨_, cmp_ok k (by omega) h h', ?_⟩
      unfold slackwaterref08_Compare.f
      rw [ref_chk k (by omega), chk_ok k (by omega) h, Option.bind_some, if_pos rfl, ref_chk k (by omega), chk_ok k (by omega) h', Option.bind_some, if_pos rfl]
      obtain ⟨⟨p0, pu, co⟩, u1⟩ := h
      obtain ⟨⟨a0, ab, co'⟩, b1⟩ := h'
      have x1 : p * b ≤ 4294967295 * 4294967296 := mul_bd p0 (by omega) (by omega) b1
      have x0 : 0 ≤ p * b := Int.mul_nonneg p0 (by omega)
      have y1 : a * u ≤ 4294967295 * 4294967296 := mul_bd a0 (by omega) (by omega) u1
      have y0 : 0 ≤ a * u := Int.mul_nonneg a0 (by omega)
      rw [u64_in (x := p) (by omega) (by omega), u64_in (x := b) (by omega) (by omega), u64_in (x := a) (by omega) (by omega), u64_in (x := u) (by omega) (by omega), u64_in (x := p * b) x0 (by omega), u64_in (x := a * u) y0 (by omega)]
      unfold more
      by_cases c1 : p * b < a * u
      · rw [if_pos c1, if_pos c1]
      · rw [if_neg c1, if_neg c1]
        by_cases c2 : p * b = a * u
        · rw [if_pos c2, if_neg (by omega)]
        · rw [if_neg c2, if_pos (by omega)]
    · obtain ⟨e, he, h1, h2⟩ := bad_l k (by omega) h'
      unfold turn_Compare.f slackwaterref08_Compare.f
      rw [ref_chk k (by omega), chk_ok k (by omega) h, Option.bind_some, Option.bind_some, if_pos rfl, if_pos rfl, h1, h2, Option.bind_some, Option.bind_some, if_neg he, if_neg he]
      exact ⟨_, rfl, rfl⟩
  · obtain ⟨e, he, h1, h2⟩ := bad_l k (by omega) h
    unfold turn_Compare.f slackwaterref08_Compare.f
    rw [h1, h2, Option.bind_some, Option.bind_some, if_neg he, if_neg he]
    exact ⟨_, rfl, rfl⟩
theorem print_eq (k : Nat) (hk : big ≤ k) (p u : Int) : ∃ x, turn_Print.f k p u = some x ∧ slackwaterref08_Print.f k p u = some x := by
  by_cases h : Ok p u
  · obtain ⟨x, h1, e1⟩ := print_ok k hk h
    obtain ⟨y, h2, e2⟩ := rprint_ok k hk h
    obtain rfl : x = y := bs_inj (e1.trans e2.symm)
    exact ⟨_, h1, h2⟩
  · obtain ⟨e, he, h1, h2⟩ := bad_l k hk h
    unfold turn_Print.f slackwaterref08_Print.f
    rw [h1, h2, Option.bind_some, Option.bind_some, if_neg he, if_neg he]
    exact ⟨_, rfl, rfl⟩
end Go.Proofs.YtcddhfidbhcgdaaDoor.TG
