import Derived.Test.YtgnmmifeojfjlaaDoorNtM
/- NatShifts as a plain law: shifts are products and quotients by powers of two. -/
set_option linter.unusedVariables false
set_option linter.unusedSimpArgs false
namespace Go.Proofs.YtgnmmifeojfjlaaDoor.NT
open Go.RowKit Go.Proofs.YtgnmmifeojfjlaaDoor.PK1 Go.Proofs.YtgnmmifeojfjlaaDoorW.PrintWords Q
theorem pow_up {m n : Nat} (h : m < n) : (2 : Int) ^ m < 2 ^ n := by
  have h1 : (2 : Nat) ^ m < 2 ^ n := Nat.pow_lt_pow_right (by omega) h
  have h2 : ((2 ^ m : Nat) : Int) < ((2 ^ n : Nat) : Int) := Int.ofNat_lt.2 h1
  rwa [Int.natCast_pow, Int.natCast_pow] at h2
theorem pow_sm (m : Nat) (hm : m < 3000) : Sm 94 ((2 : Int) ^ m) := by
  refine ⟨Int.le_of_lt (Int.pow_pos (by omega)), ?_⟩
  rw [Bp_two']
  exact pow_up (by omega)
theorem bl_nw {v : Int} (h : 0 < v) : ∃ b : Nat, bl (nw v) = (b : Int) ∧ v < 2 ^ b ∧ 0 < b ∧ 2 ^ (b - 1) ≤ v := by
  have hn : nw v ≠ [] := fun e => by have := (nw_nil (by omega)).1 e; omega
  have := bl_lt (nw_wds v) (nw_tr v) hn
  rw [val_nw (by omega)] at this
  exact this
theorem bl_zero : bl (nw 0) = 0 := by rw [nw_zero]; rfl
theorem pow_uniq {v : Int} {b c : Nat} (h1 : v < 2 ^ b) (h2 : 2 ^ (b - 1) ≤ v) (h0 : 0 < b) (k1 : v < 2 ^ c) (k2 : 2 ^ (c - 1) ≤ v) (k0 : 0 < c) : b = c := by
  have key : ∀ {x y : Nat}, (2 : Int) ^ x < 2 ^ y → x < y := by
    intro x y h
    by_cases hc : x < y
    · exact hc
    · exfalso
      have h3 : (2 : Nat) ^ y ≤ 2 ^ x := Nat.pow_le_pow_right (by omega) (by omega)
      have h4 : ((2 ^ y : Nat) : Int) ≤ ((2 ^ x : Nat) : Int) := Int.ofNat_le.2 h3
      rw [Int.natCast_pow, Int.natCast_pow] at h4
      have e : ((2 : Nat) : Int) = 2 := rfl
      rw [e] at h4
      omega
  have a1 := key (Int.lt_of_le_of_lt h2 k1)
  have a2 := key (Int.lt_of_le_of_lt k2 h1)
  omega
theorem bl_shift {v : Int} (h : 0 < v) (m : Nat) : bl (nw (v * 2 ^ m)) = bl (nw v) + (m : Int) := by
  have hp : (0 : Int) < 2 ^ m := Int.pow_pos (by omega)
  obtain ⟨b, e, b1, b0, b2⟩ := bl_nw h
  obtain ⟨c, f, c1, c0, c2⟩ := bl_nw (v := v * 2 ^ m) (Int.mul_pos h hp)
  have d1 : v * 2 ^ m < 2 ^ (b + m) := by rw [Int.pow_add]; exact Int.mul_lt_mul_of_pos_right b1 hp
  have d2 : (2 : Int) ^ (b + m - 1) ≤ v * 2 ^ m := by
    rw [show b + m - 1 = (b - 1) + m by omega, Int.pow_add]
    exact Int.mul_le_mul_of_nonneg_right b2 (Int.le_of_lt hp)
  have := pow_uniq c1 c2 c0 d1 d2 (by omega)
  rw [e, f, this]; omega
theorem bl_pow (m : Nat) : bl (nw (2 ^ m)) = (m : Int) + 1 := by
  have hp : (0 : Int) < 2 ^ m := Int.pow_pos (by omega)
  obtain ⟨c, f, c1, c0, c2⟩ := bl_nw hp
  have d1 : (2 : Int) ^ m < 2 ^ (m + 1) := by rw [Int.pow_succ]; omega
  have := pow_uniq c1 c2 c0 d1 (by rw [Nat.add_sub_cancel]; exact Int.le_refl _) (by omega)
  rw [f, this]; omega
theorem nbits {a : Int} (h : Sm 400 a) : nat_Bits.f (nw a) = some (bl (nw a)) := by
  unfold nat_Bits.f
  rw [if_pos (okw_400 h.le h.lt)]
theorem chk_400 {a : Int} (h : Sm 400 a) : chk (nw a) = 0 := chk_nw h.le (by have := big8; have := h.lt; omega)
theorem nup {a : Int} (h : Sm 60 a) (m : Nat) (hm : m < 3000) : nat_Shift.f (nw a) (m : Int) = some (nw (a * 2 ^ m), 0) := by
  have h4 := h.up (show 60 ≤ 400 by omega)
  unfold nat_Shift.f shC
  rw [if_pos ⟨okw_400 h4.le h4.lt, by omega, by omega⟩, chk_400 h4, if_pos rfl, if_neg (by omega), if_neg (by omega), Int.toNat_natCast, val_nw h.le]
  by_cases h0 : nw a = []
  · rw [if_pos h0]
    have := (nw_nil h.le).1 h0
    subst this
    rw [Int.zero_mul, nw_zero]
  · have hb := bl_bound (nw a) (nw_wds a)
    have hl := nw_len h.lt h.le
    rw [if_neg h0, if_neg (by omega)]
theorem ndown {a : Int} (h : Sm 400 a) (m : Nat) (hm : m < 3000) (h0 : m = 0 → Sm 60 a) : nat_Shift.f (nw a) (-(m : Int)) = some (nw (a / 2 ^ m), 0) := by
  by_cases hz : m = 0
  · subst hz
    have := nup (h0 rfl) 0 (by omega)
    simpa using this
  · unfold nat_Shift.f shC
    rw [if_pos ⟨okw_400 h.le h.lt, by omega, by omega⟩, chk_400 h, if_pos rfl, if_neg (by omega), if_pos (by omega), Int.neg_neg, Int.toNat_natCast, val_nw h.le]
theorem one_nw' : ([1] : List Int) = nw 1 := by decide
theorem one_sm : Sm 60 1 := ⟨by decide, by decide⟩
theorem j1_ok (k : Nat) (hk : 600 ≤ k) {a : Int} (ha : Sm 60 a) (m : Nat) (hm : m < 3000) : slackwaterlaw01_NatShifts.j1 (k + 1) true (nw a) (m : Int) (nw (a * 2 ^ m)) (nw (2 ^ m)) (nw (a / 2 ^ m)) (nw a) (nw (a / 2 ^ m)) 0 true = some true := by
  have hp := pow_sm m hm
  have hup := ha.mul hp
  have hpos : (0 : Int) < 2 ^ m := Int.pow_pos (by omega)
  have hd : Sm 60 (a / 2 ^ m) := ⟨Int.ediv_nonneg ha.le hp.le, by have := Int.ediv_le_self (2 ^ m) ha.le; have := ha.lt; omega⟩
  simp only [slackwaterlaw01_NatShifts.j1]
  rw [if_pos trivial, lmul (ha.up (by omega)) (hp.up (by omega)), Option.bind_some, same_eq k hup.le (hup.up (by omega)).lt (by omega), Option.bind_some, if_pos rfl, if_pos trivial, same_eq k hd.le (hd.up (by omega)).lt (by omega), Option.bind_some, if_pos rfl,
    same_eq k ha.le (ha.up (by omega)).lt (by omega), Option.bind_some, if_pos rfl, if_pos trivial, nbits (hp.up (by omega)), Option.bind_some, bl_pow, wrap64_in (by omega) (by omega), beq_self_eq_true]
theorem j0_ok (k : Nat) (hk : 602 ≤ k) {a : Int} (ha : Sm 60 a) (m : Nat) (hm : m < 3000) : slackwaterlaw01_NatShifts.j0 (k + 1) true (nw a) (m : Int) (nw (a * 2 ^ m)) (nw (2 ^ m)) (nw (a / 2 ^ m)) (nw a) false = some true := by
  obtain ⟨k, rfl⟩ : ∃ i, k = i + 1 := ⟨k - 1, by omega⟩
  have hj := j1_ok k (by omega) ha m hm
  have hp := pow_sm m hm
  have hup := ha.mul hp
  have hpos : (0 : Int) < 2 ^ m := Int.pow_pos (by omega)
  have hb := bl_bound (nw a) (nw_wds a)
  have hb0 := bl_nonneg (nw a)
  have hl := nw_len ha.lt ha.le
  simp only [slackwaterlaw01_NatShifts.j0]
  rw [if_neg (by simp), ndiv (ha.up (by omega)) (hp.up (by omega)), if_neg (by omega), Option.bind_some, nbits (hup.up (by omega)), Option.bind_some, nbits (ha.up (by omega)), Option.bind_some, wrap64_in (x := bl (nw a) + (m : Int)) (by omega) (by omega)]
  simp only []
  by_cases h0 : a = 0
  · subst h0
    rw [Int.zero_mul] at hj ⊢
    by_cases hm0 : bl (nw 0) = bl (nw 0) + (m : Int)
    · rw [if_pos hm0]; exact hj
    · rw [if_neg hm0, if_pos (by rw [nw_zero]; rfl)]
      rw [show (((nw 0).length : Int) == 0) = true by rw [nw_zero]; rfl]
      exact hj
  · rw [if_pos (bl_shift (by have := ha.le; omega) m)]
    exact hj
/-- NatShifts is true -/
theorem shifts (l : List Int) (n : Int) (hl : Wds l) (n0 : 0 ≤ n) (n1 : n < 65536) : slackwaterlaw01_NatShifts.f 1000 l n = some true := by
  obtain ⟨a, ha, ea, _⟩ := put_f l hl
  obtain ⟨m, hm, em⟩ : ∃ m : Nat, m < 3000 ∧ Int.tmod n 3000 = (m : Int) := by
    refine ⟨(n % 3000).toNat, by omega, ?_⟩
    rw [Int.tmod_eq_emod_of_nonneg n0]; omega
  have hp := pow_sm m hm
  have hup := ha.mul hp
  have hpos : (0 : Int) < 2 ^ m := Int.pow_pos (by omega)
  have u1 := nup one_sm m hm
  rw [Int.one_mul] at u1
  have b1 := ndown (hup.up (show 60 + 94 ≤ 400 by omega)) m hm (fun h => by subst h; simpa using ha)
  rw [Int.mul_ediv_cancel _ (by omega)] at b1
  unfold slackwaterlaw01_NatShifts.f
  rw [em, wrap64_in (x := (m : Int)) (by omega) (by omega), wrap64_in (x := -(m : Int)) (by omega) (by omega), awake 1000 (by omega), Option.bind_some, ea, Option.bind_some, nup ha m hm, Option.bind_some, one_nw', u1, Option.bind_some, ndown (ha.up (by omega)) m hm (fun _ => ha), Option.bind_some, b1, Option.bind_some, if_pos rfl, if_pos rfl, if_pos rfl]
  exact j0_ok 999 (by omega) ha m hm
end Go.Proofs.YtgnmmifeojfjlaaDoor.NT
