import Derived.Test.YtgnmmifeojfjlaaDoorNtO
/- NatDivides as a plain law: quotients, rests and divisors are those of whole numbers. -/
set_option linter.unusedVariables false
set_option linter.unusedSimpArgs false
namespace Go.Proofs.YtgnmmifeojfjlaaDoor.NT
open Go.RowKit Go.Proofs.YtgnmmifeojfjlaaDoor.PK1 Go.Proofs.YtgnmmifeojfjlaaDoorW.PrintWords Q
theorem ngcd {a b : Int} (h : Sm 400 a) (k : Sm 400 b) : nat_Gcd.f (nw a) (nw b) = some (nw (gc a b), 0) := by
  have := big8
  have h1 := h.lt
  have h2 := k.lt
  unfold nat_Gcd.f
  rw [if_pos ⟨okw_400 h.le h.lt, okw_400 k.le k.lt⟩, gcdC_nw h.le k.le (by omega) (by omega)]
theorem gc_nat (A B : Nat) : gc (A : Int) (B : Int) = (Nat.gcd A B : Int) := by unfold gc; simp
theorem len_eq0 {a : Int} (h : 0 ≤ a) : (((nw a).length : Int) = 0) ↔ a = 0 := by
  have := nw_len0 h
  omega
theorem len_beq0 {a : Int} (h : 0 ≤ a) : (((nw a).length : Int) == 0) = decide (a = 0) := by
  have := len_eq0 h
  by_cases e : a = 0
  · rw [decide_eq_true e, beq_iff_eq]; exact this.2 e
  · rw [decide_eq_false e, beq_eq_false_iff_ne]; exact fun h => e (this.1 h)
theorem one_nw : ([1] : List Int) = nw 1 := by decide
theorem one_400 : (1 : Int) < Bp 400 := by
  have h := Bp_mono (show 1 ≤ 400 by omega)
  have e : Bp 1 = 4294967296 := by decide
  omega
theorem j2_ok (k : Nat) (hk : 600 ≤ k) {a b c : Int} (ha : Sm 60 a) (hb : Sm 60 b) (hc : Sm 60 c) : slackwaterlaw01_NatDivides.j2 (k + 1) true (nw a) (nw b) (nw c) (nw (gc a b)) false = some true := by
  simp only [slackwaterlaw01_NatDivides.j2]
  rw [if_neg (by simp)]
  obtain ⟨A, rfl⟩ := Int.eq_ofNat_of_zero_le ha.le
  obtain ⟨B, rfl⟩ := Int.eq_ofNat_of_zero_le hb.le
  obtain ⟨C, rfl⟩ := Int.eq_ofNat_of_zero_le hc.le
  rw [gc_nat]
  have d0 : (0 : Int) ≤ (Nat.gcd A B : Int) := by omega
  by_cases hd : Nat.gcd A B = 0
  · rw [if_pos ((len_eq0 d0).2 (by omega))]
  · rw [if_neg (fun h => hd (by have := (len_eq0 d0).1 h; omega))]
    have hdp : 0 < Nat.gcd A B := Nat.pos_of_ne_zero hd
    -- the divisor is not above one of both
    have hds : Sm 60 (Nat.gcd A B : Int) := by
      refine ⟨d0, ?_⟩
      by_cases hA : A = 0
      · subst hA
        rw [Nat.gcd_zero_left]; exact hb.lt
      · have h1 : Nat.gcd A B ≤ A := Nat.le_of_dvd (by omega) (Nat.gcd_dvd_left A B)
        have h2 := ha.lt
        omega
    have q1 : ((A : Int) / (Nat.gcd A B : Int)) = ((A / Nat.gcd A B : Nat) : Int) := by rw [Int.natCast_ediv]
    have q2 : ((B : Int) / (Nat.gcd A B : Int)) = ((B / Nat.gcd A B : Nat) : Int) := by rw [Int.natCast_ediv]
    have r1 : ((A : Int) % (Nat.gcd A B : Int)) = 0 := by rw [← Int.natCast_emod, Nat.mod_eq_zero_of_dvd (Nat.gcd_dvd_left A B)]; rfl
    have r2 : ((B : Int) % (Nat.gcd A B : Int)) = 0 := by rw [← Int.natCast_emod, Nat.mod_eq_zero_of_dvd (Nat.gcd_dvd_right A B)]; rfl
    have s1 : Sm 60 ((A / Nat.gcd A B : Nat) : Int) := ⟨Int.natCast_nonneg _, Int.lt_of_le_of_lt (Int.ofNat_le.2 (Nat.div_le_self A (Nat.gcd A B))) ha.lt⟩
    have s2 : Sm 60 ((B / Nat.gcd A B : Nat) : Int) := ⟨Int.natCast_nonneg _, Int.lt_of_le_of_lt (Int.ofNat_le.2 (Nat.div_le_self B (Nat.gcd A B))) hb.lt⟩
    have hco : Nat.gcd (A / Nat.gcd A B) (B / Nat.gcd A B) = 1 := Nat.coprime_div_gcd_div_gcd hdp
    have hac := ha.mul hc
    have hbc := hb.mul hc
    have hdc := hds.mul hc
    have hn : ((Nat.gcd A B : Nat) : Int) ≠ 0 := by omega
    rw [ndiv (ha.up (by omega)) (hds.up (by omega)), if_neg hn, Option.bind_some, ndiv (hb.up (by omega)) (hds.up (by omega)), if_neg hn, Option.bind_some]
    simp only []
    rw [q1, q2, r1, r2, ngcd (s1.up (by omega)) (s2.up (by omega)), Option.bind_some, gc_nat, hco, lmul (ha.up (by omega)) (hc.up (by omega)), Option.bind_some, lmul (hb.up (by omega)) (hc.up (by omega)), Option.bind_some,
      ngcd (hac.up (by omega)) (hbc.up (by omega)), Option.bind_some]
    have e1 : gc ((A : Int) * (C : Int)) ((B : Int) * (C : Int)) = (Nat.gcd A B : Int) * (C : Int) := by
      rw [← Int.natCast_mul, ← Int.natCast_mul, gc_nat, Nat.gcd_mul_right, Int.natCast_mul]
    simp only [e1, if_true, reduceIte, nw_zero, List.length_nil, one_nw]
    rw [show (((1 : Nat)) : Int) = 1 from rfl, if_pos (by rfl), same_eq k (by omega) one_400 (by omega), Option.bind_some, if_pos rfl, lmul (hds.up (by omega)) (hc.up (by omega)), Option.bind_some, same_eq k hdc.le (hdc.up (by omega)).lt (by omega)]
    rfl
theorem j1_ok (k : Nat) (hk : 601 ≤ k) {a b c : Int} (ha : Sm 60 a) (hb : Sm 60 b) (hc : Sm 60 c) : slackwaterlaw01_NatDivides.j1 (k + 1) true (nw a) (nw b) (nw c) false = some true := by
  obtain ⟨k, rfl⟩ : ∃ m, k = m + 1 := ⟨k - 1, by omega⟩
  have hj := j2_ok k (by omega) ha hb hc
  simp only [slackwaterlaw01_NatDivides.j1]
  rw [if_neg (by simp), ngcd (ha.up (by omega)) (hb.up (by omega)), Option.bind_some, if_pos rfl]
  have g0 : 0 ≤ gc a b := gc_nonneg a b
  by_cases h0 : a = 0
  · subst h0
    have e : gc 0 b = b := by unfold gc; simp; have := hb.le; omega
    rw [if_pos ((len_eq0 (by omega)).2 rfl), len_beq0 g0, len_beq0 hb.le]
    rw [e] at hj ⊢
    simp only [bne_self_eq_false]
    exact hj
  · have hg : gc a b ≠ 0 := by
      unfold gc
      have h1 : 0 < a.toNat := by have := ha.le; omega
      have := Nat.gcd_pos_of_pos_left b.toNat h1
      omega
    rw [if_neg (fun h => h0 ((len_eq0 ha.le).1 h)), len_beq0 g0, decide_eq_false hg]
    simp only [bne_self_eq_false]
    exact hj
theorem j0_ok (k : Nat) (hk : 602 ≤ k) {a b c : Int} (ha : Sm 60 a) (hb : Sm 60 b) (hc : Sm 60 c) (hb0 : b ≠ 0) : slackwaterlaw01_NatDivides.j0 (k + 1) true (nw a) (nw b) (nw c) (nw (a / b)) (nw (a % b)) 0 false = some true := by
  obtain ⟨k, rfl⟩ : ∃ m, k = m + 1 := ⟨k - 1, by omega⟩
  have hj := j1_ok k (by omega) ha hb hc
  have bp : 0 < b := by have := hb.le; omega
  have hq : Sm 60 (a / b) := ⟨Int.ediv_nonneg ha.le (by omega), by have := Int.ediv_le_self b ha.le; have := ha.lt; omega⟩
  have hr : Sm 60 (a % b) := ⟨Int.emod_nonneg _ hb0, by have := Int.emod_lt_of_pos a bp; have := hb.lt; omega⟩
  have hqb := hq.mul hb
  have hrb := Int.emod_lt_of_pos a bp
  have e : a / b * b + a % b = a := by rw [Int.mul_comm]; exact Int.mul_ediv_add_emod a b
  simp only [slackwaterlaw01_NatDivides.j0]
  rw [if_neg (by simp), if_pos trivial, lmul (hq.up (by omega)) (hb.up (by omega)), Option.bind_some, ladd (hqb.up (by omega)) (hr.up (by omega)), Option.bind_some, e, same_eq (k + 1) ha.le (ha.up (by omega)).lt (by omega), Option.bind_some, if_pos rfl, ncmp (hr.up (by omega)) (hb.up (by omega)), Option.bind_some, cmp_ge, decide_eq_true hrb]
  exact hj
/-- NatDivides is true -/
theorem divides (l m n : List Int) (hl : Wds l) (hm : Wds m) (hn : Wds n) : slackwaterlaw01_NatDivides.f 1000 l m n = some true := by
  obtain ⟨a, ha, ea, _⟩ := put_f l hl
  obtain ⟨b, hb, eb, _⟩ := put_f m hm
  obtain ⟨c, hc, ec, _⟩ := put_f n hn
  unfold slackwaterlaw01_NatDivides.f
  rw [awake 1000 (by omega), Option.bind_some, ea, Option.bind_some, eb, Option.bind_some, ec, Option.bind_some, ndiv (ha.up (by omega)) (hb.up (by omega)), Option.bind_some, len_beq0 hb.le]
  by_cases h0 : b = 0
  · subst h0
    rw [if_pos rfl, if_neg (by decide), if_neg (by decide)]
    have hj := j1_ok 998 (by omega) ha hb hc
    show slackwaterlaw01_NatDivides.j0 1000 true (nw a) (nw 0) (nw c) [] [] 7 false = some true
    simp only [slackwaterlaw01_NatDivides.j0]
    rw [if_neg (by simp), if_neg (by decide)]
    exact hj
  · rw [if_neg h0, decide_eq_false h0, if_neg (by show ¬ (((0 : Int) == 7) != false) = true; decide), if_pos rfl]
    exact j0_ok 999 (by omega) ha hb hc h0
end Go.Proofs.YtgnmmifeojfjlaaDoor.NT
