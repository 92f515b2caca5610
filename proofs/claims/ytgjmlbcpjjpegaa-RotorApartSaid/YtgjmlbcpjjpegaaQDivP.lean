/- Quotients, shifts: what the steps come to, in plain numbers. -/
import Derived.Test.YtgjmlbcpjjpegaaQPlain
set_option linter.unusedVariables false
set_option linter.unusedSimpArgs false
namespace Q
theorem val_drop_step {xs : List Int} {k : Nat} (h : k < xs.length) : val (xs.drop k) = wd xs k + 4294967296 * val (xs.drop (k + 1)) := by rw [drop_eq h]; rfl
theorem drop_set_at {zs : List Int} {k : Nat} (h : k < zs.length) (x : Int) : (zs.set k x).drop k = x :: zs.drop (k + 1) := by
  rw [drop_eq (xs := zs.set k x) (by simpa using h), wd_set _ h, if_pos rfl, drop_set_succ]
theorem ediv_lt' {t d b : Int} (hd : 0 < d) (h : t < b * d) : t / d < b := Int.ediv_lt_of_lt_mul hd h
theorem div_unique {x d q r : Int} (h : x = d * q + r) (h0 : 0 ≤ r) (h1 : r < d) : q = x / d ∧ r = x % d := by
  have := (Int.ediv_emod_unique (a := x) (b := d) (q := q) (r := r) (by omega)).2 ⟨by omega, h0, h1⟩
  exact ⟨this.1.symm, this.2.symm⟩

/-- a quotient by one word, from the top down to k -/
structure SmV (xs : List Int) (d : Int) (zs : List Int) (k : Nat) (r : Int) : Prop where
  len : zs.length = xs.length
  wds : Wds zs
  sum : val (xs.drop k) = d * val (zs.drop k) + r
  r0 : 0 ≤ r
  r1 : r < d
theorem SmV.start {xs zs : List Int} {d : Int} (hl : zs.length = xs.length) (hw : Wds zs) (hd : 0 < d) : SmV xs d zs xs.length 0 := by
  refine ⟨hl, hw, ?_, by omega, hd⟩
  rw [List.drop_length, ← hl, List.drop_length]; simp [val]
theorem SmV.bnd {xs zs : List Int} {d r : Int} {k : Nat} (h : SmV xs d zs (k + 1) r) (hx : Wds xs) : 0 ≤ (r * 4294967296 + wd xs k) / d ∧ (r * 4294967296 + wd xs k) / d < 4294967296 := by
  have h1 := hx.wd k
  have h2 := h.r0
  have h3 := h.r1
  refine ⟨Int.ediv_nonneg (by omega) (by omega), ediv_lt' (by omega) (by omega)⟩
theorem SmV.step {xs zs : List Int} {d r : Int} {k : Nat} (h : SmV xs d zs (k + 1) r) (hk : k < xs.length) (hx : Wds xs) :
    SmV xs d (zs.set k ((r * 4294967296 + wd xs k) / d)) k ((r * 4294967296 + wd xs k) % d) := by
  have hb := h.bnd hx
  have h3 := h.r1
  have h4 := h.r0
  refine ⟨by rw [List.length_set]; exact h.len, h.wds.set _ hb.1 hb.2, ?_, Int.emod_nonneg _ (by omega), Int.emod_lt_of_pos _ (by omega)⟩
  rw [val_drop_step hk, drop_set_at (by rw [h.len]; exact hk), h.sum]
  have e := Int.mul_ediv_add_emod (r * 4294967296 + wd xs k) d
  show _ = d * ((r * 4294967296 + wd xs k) / d + 4294967296 * val (zs.drop (k + 1))) + _
  generalize (r * 4294967296 + wd xs k) / d = a at *
  generalize (r * 4294967296 + wd xs k) % d = b at *
  have e2 : d * (a + 4294967296 * val (zs.drop (k + 1))) = d * a + 4294967296 * (d * val (zs.drop (k + 1))) := by grind
  rw [e2]
  omega
theorem SmV.fin {xs zs : List Int} {d r : Int} (h : SmV xs d zs 0 r) : val zs = val xs / d ∧ r = val xs % d := by
  have := h.sum
  rw [List.drop_zero, List.drop_zero] at this
  exact div_unique this h.r0 h.r1

theorem two_split {s : Nat} (hs : s < 32) : ∃ c : Int, 0 < c ∧ 0 < (2 : Int) ^ s ∧ (2 : Int) ^ s * c = 4294967296 := by
  refine ⟨2 ^ (32 - s), Int.pow_pos (by omega), Int.pow_pos (by omega), ?_⟩
  rw [← Int.pow_add, show s + (32 - s) = 32 by omega]; rfl

/-- a shift up: s bits and m words -/
structure UpV (xs : List Int) (s m : Nat) (zs : List Int) (k : Nat) : Prop where
  len : zs.length = xs.length + m + 1
  wds : Wds zs
  zero : ∀ j, k + m < j → wd zs j = 0
  low : wd zs (k + m) < 2 ^ s
  sum : val zs = val (xs.take k) * (2 ^ s * Bp m)
theorem UpV.start (xs : List Int) (s m : Nat) : UpV xs s m (List.replicate (xs.length + m + 1) 0) 0 :=
  ⟨by simp, Wds.zeros _, fun j _ => wd_zeros _ _, by rw [wd_zeros]; exact Int.pow_pos (by omega), by rw [val_zeros]; simp [val]⟩
theorem up_parts {x : Int} {s : Nat} (hs : s < 32) (h0 : 0 ≤ x) (h1 : x < 4294967296) :
    0 ≤ x * 2 ^ s ∧ x * 2 ^ s < 18446744073709551616 ∧ 0 ≤ x * 2 ^ s / 4294967296 ∧ x * 2 ^ s / 4294967296 < 2 ^ s ∧ (2 : Int) ^ s ≤ 2147483648 ∧ (x * 2 ^ s) % 4294967296 ≤ 4294967296 - 2 ^ s ∧ (x * 2 ^ s) % 4294967296 % 2 ^ s = 0 := by
  obtain ⟨c, hc, hp, e⟩ := two_split hs
  have hb : (2 : Int) ^ s ≤ 2147483648 := by
    have : (2 : Nat) ^ s ≤ 2 ^ 31 := Nat.pow_le_pow_right (by omega) (by omega)
    have h2 : ((2 ^ s : Nat) : Int) ≤ ((2 ^ 31 : Nat) : Int) := by exact_mod_cast this
    rw [Int.natCast_pow] at h2
    exact h2
  generalize (2 : Int) ^ s = p at *
  have a0 : 0 ≤ x * p := Int.mul_nonneg h0 (by omega)
  have a1 : x * p < 4294967296 * p := Int.mul_lt_mul_of_pos_right h1 hp
  have e1 : x * p / 4294967296 = x / c := by rw [← e, Int.mul_comm x p, Int.mul_ediv_mul_of_pos _ _ hp]
  have e2 : (x * p) % 4294967296 = p * (x % c) := by rw [← e, Int.mul_comm x p, Int.mul_emod_mul_of_pos _ _ hp]
  have h5 := Int.emod_lt_of_pos x hc
  have h6 : p * (x % c) ≤ p * (c - 1) := Int.mul_le_mul_of_nonneg_left (by omega) (by omega)
  rw [Int.mul_sub, e] at h6
  refine ⟨a0, by omega, Int.ediv_nonneg a0 (by omega), ediv_lt' (by omega) (by rw [Int.mul_comm p]; exact a1), hb, by omega, ?_⟩
  rw [e2]; exact Int.mul_emod_right _ _
theorem UpV.step {xs zs : List Int} {s m k : Nat} (h : UpV xs s m zs k) (hs : s < 32) (hx : Wds xs) (hk : k < xs.length) :
    UpV xs s m ((zs.set (k + m) (wd zs (k + m) + (wd xs k * 2 ^ s) % 4294967296)).set (k + m + 1) (wd xs k * 2 ^ s / 4294967296)) (k + 1) := by
  obtain ⟨a0, a1, a2, a3, a4, a5, a6⟩ := up_parts hs (hx.wd k).1 (hx.wd k).2
  have hl := h.len
  have hz := h.wds.wd (k + m)
  have hlow := h.low
  have hw : Wds (zs.set (k + m) (wd zs (k + m) + (wd xs k * 2 ^ s) % 4294967296)) := h.wds.set _ (by omega) (by omega)
  have e1 : k + 1 + m = k + m + 1 := by omega
  refine ⟨by simp; omega, hw.set _ a2 (by omega), fun j hj => ?_, ?_, ?_⟩
  · rw [wd_set _ (by simp; omega), if_neg (by omega), wd_set _ (by omega), if_neg (by omega)]
    exact h.zero j (by omega)
  · rw [e1, wd_set _ (by simp; omega), if_pos rfl]; exact a3
  · rw [val_set (by simp; omega), val_set (by omega), wd_set _ (by omega), if_neg (by omega), h.zero (k + m + 1) (by omega), h.sum, val_take_succ hk, Bp_succ]
    have e2 : Bp (k + m) = Bp k * Bp m := Bp_add k m
    have e3 := Int.mul_ediv_add_emod (wd xs k * 2 ^ s) 4294967296
    generalize wd xs k * 2 ^ s / 4294967296 = hi at *
    generalize (wd xs k * 2 ^ s) % 4294967296 = lo at *
    rw [e2]
    have e4 : (val (xs.take k) + Bp k * wd xs k) * (2 ^ s * Bp m) = val (xs.take k) * (2 ^ s * Bp m) + Bp k * Bp m * (wd xs k * 2 ^ s) := by grind
    rw [e4, ← e3]
    grind
theorem UpV.fin {xs zs : List Int} {s m : Nat} (h : UpV xs s m zs xs.length) : val zs = val xs * (2 ^ s * Bp m) := by
  have := h.sum
  rwa [List.take_length] at this

/-- a shift down by less than a word -/
structure DnV (xs : List Int) (s : Nat) (zs : List Int) (k : Nat) : Prop where
  len : zs.length = xs.length
  wds : Wds zs
  sum : val (xs.take k) + Bp k * (wd xs k % 2 ^ s) = 2 ^ s * val (zs.take k) + wd xs 0 % 2 ^ s
theorem DnV.start {xs zs : List Int} (s : Nat) (hl : zs.length = xs.length) (hw : Wds zs) : DnV xs s zs 0 := ⟨hl, hw, by simp [val, Bp_zero]⟩
theorem dn_parts {x y : Int} {s : Nat} (hs : s < 32) (h0 : 0 ≤ x) (h1 : x < 4294967296) (h2 : 0 ≤ y) (h3 : y < 4294967296) :
    0 ≤ (x + y * 4294967296) / 2 ^ s ∧ (2 : Int) ^ s * ((x + y * 4294967296) / 2 ^ s % 4294967296) = x - x % 2 ^ s + 4294967296 * (y % 2 ^ s) := by
  obtain ⟨c, hc, hp, e⟩ := two_split hs
  generalize (2 : Int) ^ s = p at *
  refine ⟨Int.ediv_nonneg (by omega) (by omega), ?_⟩
  have e1 : (x + y * 4294967296) / p = x / p + y * c := by
    rw [← e, show y * (p * c) = p * (y * c) by grind, Int.add_mul_ediv_left _ _ (by omega)]
  have ex := Int.mul_ediv_add_emod x p
  have ey := Int.mul_ediv_add_emod y p
  have hx1 : x / p < c := ediv_lt' hp (by rw [Int.mul_comm, e]; exact h1)
  have hx0 : 0 ≤ x / p := Int.ediv_nonneg h0 (by omega)
  have hy0 := Int.emod_nonneg y (show p ≠ 0 by omega)
  have hy1 := Int.emod_lt_of_pos y hp
  have e2 : x / p + y * c = x / p + (y % p) * c + 4294967296 * (y / p) := by
    rw [← e]
    have : y * c = (p * (y / p) + y % p) * c := by rw [ey]
    rw [this]; grind
  have h5 : (y % p) * c ≤ (p - 1) * c := Int.mul_le_mul_of_nonneg_right (by omega) (by omega)
  rw [Int.sub_mul, e] at h5
  have h6 : 0 ≤ (y % p) * c := Int.mul_nonneg hy0 (by omega)
  rw [e1, e2, Int.add_mul_emod_self_left, Int.emod_eq_of_lt (by omega) (by omega), Int.mul_add]
  have e3 : p * (y % p * c) = 4294967296 * (y % p) := by rw [← e]; grind
  omega
theorem DnV.step {xs zs : List Int} {s k : Nat} (h : DnV xs s zs k) (hs : s < 32) (hx : Wds xs) (hk : k < xs.length) :
    DnV xs s (zs.set k ((wd xs k + wd xs (k + 1) * 4294967296) / 2 ^ s % 4294967296)) (k + 1) := by
  obtain ⟨b0, b1⟩ := dn_parts hs (hx.wd k).1 (hx.wd k).2 (hx.wd (k + 1)).1 (hx.wd (k + 1)).2
  have hsum := h.sum
  refine ⟨by rw [List.length_set]; exact h.len, h.wds.set _ (Int.emod_nonneg _ (by omega)) (Int.emod_lt_of_pos _ (by omega)), ?_⟩
  rw [val_take_set (by rw [h.len]; exact hk), val_take_succ hk, Bp_succ]
  generalize (wd xs k + wd xs (k + 1) * 4294967296) / 2 ^ s % 4294967296 = z at *
  have e : (2 : Int) ^ s * (val (zs.take k) + Bp k * z) = 2 ^ s * val (zs.take k) + Bp k * (2 ^ s * z) := by grind
  rw [e, b1]
  have e2 : Bp k * (wd xs k - wd xs k % 2 ^ s + 4294967296 * (wd xs (k + 1) % 2 ^ s)) = Bp k * wd xs k - Bp k * (wd xs k % 2 ^ s) + 4294967296 * Bp k * (wd xs (k + 1) % 2 ^ s) := by grind
  rw [e2]
  omega
theorem DnV.fin {xs zs : List Int} {s : Nat} (h : DnV xs s zs xs.length) : val zs = val xs / 2 ^ s := by
  have hs := h.sum
  rw [List.take_length, wd_ge (Nat.le_refl _), ← h.len, List.take_length] at hs
  have hp : (0 : Int) < 2 ^ s := Int.pow_pos (by omega)
  rw [show (0 : Int) % 2 ^ s = 0 by simp, Int.mul_zero, Int.add_zero] at hs
  exact (div_unique hs (Int.emod_nonneg _ (by omega)) (Int.emod_lt_of_pos _ hp)).1

/-- a word of a quotient, from the first words -/
theorem first_le {U V E u0 u1 u2 v1 v2 Ul Vl : Int} (hE : 0 < E) (hU : U = Ul + E * (u2 + 4294967296 * (u0 * 4294967296 + u1))) (hUl : Ul < E) (hu2 : u2 < 4294967296)
    (hV : V = Vl + E * (v2 + 4294967296 * v1)) (hVl : 0 ≤ Vl) (hv2 : 0 ≤ v2) (hv1 : 0 < v1) (hU0 : 0 ≤ U) : U / V ≤ (u0 * 4294967296 + u1) / v1 := by
  have hVp : 0 < V := by
    have : 0 < E * (v2 + 4294967296 * v1) := Int.mul_pos hE (by omega)
    omega
  have h1 := Int.mul_ediv_self_le (x := U) (k := V) (by omega)
  have hq0 : 0 ≤ U / V := Int.ediv_nonneg hU0 (by omega)
  generalize U / V = q at *
  generalize u0 * 4294967296 + u1 = top at *
  refine Int.not_lt.1 ?_
  intro hlt
  have h2 : top < q * v1 := (Int.ediv_lt_iff_lt_mul hv1).1 hlt
  have h3 : V * q = Vl * q + E * (v2 * q) + 4294967296 * (E * (q * v1)) := by rw [hV]; grind
  have h4 : 0 ≤ Vl * q := Int.mul_nonneg hVl hq0
  have h5 : 0 ≤ E * (v2 * q) := Int.mul_nonneg (by omega) (Int.mul_nonneg hv2 hq0)
  have h6 : E * (top + 1) ≤ E * (q * v1) := Int.mul_le_mul_of_nonneg_left (by omega) (by omega)
  have h7 : E * (u2 + 4294967296 * top) = E * u2 + 4294967296 * (E * top) := by grind
  have h8 : E * u2 ≤ E * 4294967295 := Int.mul_le_mul_of_nonneg_left (by omega) (by omega)
  rw [Int.mul_add] at h6
  omega
theorem too_great {U V E u2 v1 v2 Ul Vl top q : Int} (hE : 0 < E) (hU : U = Ul + E * (u2 + 4294967296 * top)) (hUl : Ul < E)
    (hV : V = Vl + E * (v2 + 4294967296 * v1)) (hVl : 0 ≤ Vl) (hVp : 0 < V) (hq : 0 ≤ q) (ht : (top - q * v1) * 4294967296 + u2 < q * v2) : U / V < q := by
  refine (Int.ediv_lt_iff_lt_mul hVp).2 ?_
  have h3 : q * V = q * Vl + E * (q * v2 + 4294967296 * (q * v1)) := by rw [hV]; grind
  have h4 : 0 ≤ q * Vl := Int.mul_nonneg hq hVl
  have h6 : E * (u2 + 4294967296 * top + 1) ≤ E * (q * v2 + 4294967296 * (q * v1)) := Int.mul_le_mul_of_nonneg_left (by omega) (by omega)
  rw [Int.mul_add E _ 1] at h6
  omega
theorem near {U V E u2 v1 v2 Ul Vl top q : Int} (hE : 0 < E) (hU : U = Ul + E * (u2 + 4294967296 * top)) (hUl : 0 ≤ Ul)
    (hV : V = Vl + E * (v2 + 4294967296 * v1)) (hVl0 : 0 ≤ Vl) (hVl : Vl < E) (hv1 : 0 < v1) (hv2 : 0 ≤ v2) (hVp : 0 < V) (hq : 0 ≤ q) (hq1 : q ≤ 4294967296) (ht : q * v2 ≤ (top - q * v1) * 4294967296 + u2) : q ≤ U / V + 1 := by
  have h3 : q * V = q * Vl + E * (q * v2 + 4294967296 * (q * v1)) := by rw [hV]; grind
  have h6 : E * (q * v2 + 4294967296 * (q * v1)) ≤ E * (u2 + 4294967296 * top) := Int.mul_le_mul_of_nonneg_left (by omega) (by omega)
  have h7 : q * Vl ≤ q * E := Int.mul_le_mul_of_nonneg_left (by omega) hq
  have h8 : q * E ≤ 4294967296 * E := Int.mul_le_mul_of_nonneg_right hq1 (by omega)
  have h9 : E * (4294967296 * 1) ≤ E * (4294967296 * v1) := Int.mul_le_mul_of_nonneg_left (by omega) (by omega)
  have h10 : 0 ≤ E * v2 := Int.mul_nonneg (by omega) hv2
  have h11 : E * (v2 + 4294967296 * v1) = E * v2 + E * (4294967296 * v1) := by grind
  have h12 : 4294967296 * E ≤ V - Vl := by omega
  have : (q - 1) * V ≤ U := by rw [Int.sub_mul, Int.one_mul]; omega
  have := (Int.le_ediv_iff_mul_le hVp).2 this
  omega

/-- quotients of words by words: the guess of a word -/
structure Gs (us ys : List Int) (N : Nat) (q r : Int) : Prop where
  q0 : 0 ≤ q
  q1 : q ≤ 8589934592
  le : val us / val ys ≤ q
  r0 : 0 ≤ r
  r1 : r < 4294967296
  rest : r = wd us N * 4294967296 + wd us (N - 1) - q * wd ys (N - 1)
/-- a stretch of words that is divided, and by what -/
structure Dv (us ys : List Int) (N : Nat) : Prop where
  ul : us.length = N + 1
  yl : ys.length = N
  uw : Wds us
  yw : Wds ys
  two : 2 ≤ N
  great : 2147483648 ≤ wd ys (N - 1)
  lt : val us < 4294967296 * val ys
theorem Dv.parts {us ys : List Int} {N : Nat} (h : Dv us ys N) : ∃ E Ul Vl : Int, 0 < E ∧ 0 ≤ Ul ∧ Ul < E ∧ 0 ≤ Vl ∧ Vl < E ∧ val us = Ul + E * (wd us (N - 2) + 4294967296 * (wd us N * 4294967296 + wd us (N - 1))) ∧ val ys = Vl + E * (wd ys (N - 2) + 4294967296 * wd ys (N - 1)) := by
  have h2 := h.two
  have hu := val_take_step us (N - 2)
  have hu' := val_take_step us (N - 2 + 1)
  have hu'' := val_take_step us (N - 2 + 1 + 1)
  have hy := val_take_step ys (N - 2)
  have hy' := val_take_step ys (N - 2 + 1)
  rw [show N - 2 + 1 + 1 + 1 = N + 1 by omega, List.take_of_length_le (by have := h.ul; omega), show N - 2 + 1 + 1 = N by omega] at hu''
  rw [show N - 2 + 1 + 1 = N by omega, show N - 2 + 1 = N - 1 by omega] at hu'
  rw [show N - 2 + 1 = N - 1 by omega] at hu hy
  rw [show N - 2 + 1 + 1 = N by omega, List.take_of_length_le (by have := h.yl; omega), show N - 2 + 1 = N - 1 by omega] at hy'
  have e1 : Bp (N - 1) = 4294967296 * Bp (N - 2) := by rw [show N - 1 = N - 2 + 1 by omega, Bp_succ]
  have e2 : Bp N = 4294967296 * Bp (N - 1) := by rw [show N = N - 1 + 1 by omega, Bp_succ]; simp
  refine ⟨Bp (N - 2), val (us.take (N - 2)), val (ys.take (N - 2)), Bp_pos _, val_nonneg (h.uw.take _), val_take_lt h.uw _, val_nonneg (h.yw.take _), val_take_lt h.yw _, ?_, ?_⟩
  · rw [hu'', hu', hu, e2, e1]; grind
  · rw [hy', hy, e1]; grind
theorem Dv.pos {us ys : List Int} {N : Nat} (h : Dv us ys N) : 0 < val ys := by
  have := val_nonneg h.uw
  have := h.lt
  omega
theorem Dv.qlt {us ys : List Int} {N : Nat} (h : Dv us ys N) : 0 ≤ val us / val ys ∧ val us / val ys < 4294967296 :=
  ⟨Int.ediv_nonneg (val_nonneg h.uw) (Int.le_of_lt h.pos), ediv_lt' h.pos h.lt⟩
theorem Dv.start {us ys : List Int} {N : Nat} (h : Dv us ys N) :
    Gs us ys N ((wd us N * 4294967296 + wd us (N - 1)) / wd ys (N - 1)) ((wd us N * 4294967296 + wd us (N - 1)) % wd ys (N - 1)) := by
  obtain ⟨E, Ul, Vl, hE, hU0, hU1, hV0, hV1, eU, eV⟩ := h.parts
  have g := h.great
  have a0 := h.uw.wd N
  have a1 := h.uw.wd (N - 1)
  have a2 := h.uw.wd (N - 2)
  have b1 := h.yw.wd (N - 1)
  have b2 := h.yw.wd (N - 2)
  refine ⟨Int.ediv_nonneg (by omega) (by omega), Int.le_of_lt (ediv_lt' (by omega) ?_), first_le hE eU hU1 a2.2 eV hV0 b2.1 (by omega) (val_nonneg h.uw), Int.emod_nonneg _ (by omega), Int.lt_trans (Int.emod_lt_of_pos _ (by omega)) b1.2, ?_⟩
  · omega
  · have := Int.mul_ediv_add_emod (wd us N * 4294967296 + wd us (N - 1)) (wd ys (N - 1))
    rw [Int.mul_comm] at this
    omega
/-- a guess that is too great: one less -/
theorem Gs.down {us ys : List Int} {N : Nat} {q r : Int} (h : Gs us ys N q r) (hd : Dv us ys N) (ht : 4294967296 ≤ q ∨ (q < 4294967296 ∧ r * 4294967296 + wd us (N - 2) < q * wd ys (N - 2))) :
    0 < q ∧ val us / val ys ≤ q - 1 ∧ r + wd ys (N - 1) = wd us N * 4294967296 + wd us (N - 1) - (q - 1) * wd ys (N - 1) := by
  obtain ⟨E, Ul, Vl, hE, hU0, hU1, hV0, hV1, eU, eV⟩ := hd.parts
  have hq := hd.qlt
  have hlt : val us / val ys < q := by
    rcases ht with ht | ⟨_, ht⟩
    · omega
    · rw [h.rest] at ht
      exact too_great hE eU hU1 eV hV0 hd.pos h.q0 ht
  refine ⟨by omega, by omega, ?_⟩
  rw [h.rest, Int.sub_mul, Int.one_mul]
  omega
/-- a guess that stays -/
theorem Gs.stay {us ys : List Int} {N : Nat} {q r : Int} (h : Gs us ys N q r) (hd : Dv us ys N) (hq : q < 4294967296) (ht : q * wd ys (N - 2) ≤ r * 4294967296 + wd us (N - 2)) :
    val us / val ys ≤ q ∧ q ≤ val us / val ys + 1 := by
  obtain ⟨E, Ul, Vl, hE, hU0, hU1, hV0, hV1, eU, eV⟩ := hd.parts
  have g := hd.great
  have b2 := hd.yw.wd (N - 2)
  rw [h.rest] at ht
  exact ⟨h.le, near hE eU hU0 eV hV0 hV1 (by omega) b2.1 hd.pos h.q0 (by omega) ht⟩
/-- a guess whose rest is beyond a word -/
theorem Dv.over {us ys : List Int} {N : Nat} {q r : Int} (hd : Dv us ys N) (q0 : 0 ≤ q) (hr : r = wd us N * 4294967296 + wd us (N - 1) - q * wd ys (N - 1)) (hb : 4294967296 ≤ r) : q < 4294967296 ∧ q ≤ val us / val ys + 1 := by
  obtain ⟨E, Ul, Vl, hE, hU0, hU1, hV0, hV1, eU, eV⟩ := hd.parts
  have g := hd.great
  have a0 := hd.uw.wd N
  have a1 := hd.uw.wd (N - 1)
  have a2 := hd.uw.wd (N - 2)
  have b1 := hd.yw.wd (N - 1)
  have b2 := hd.yw.wd (N - 2)
  have hlt := hd.lt
  have hu0 : wd us N ≤ wd ys (N - 1) := by
    refine Int.not_lt.1 fun hc => ?_
    have h1 : E * (4294967296 * (4294967296 * (wd ys (N - 1) + 1))) ≤ E * (wd us (N - 2) + 4294967296 * (wd us N * 4294967296 + wd us (N - 1))) := Int.mul_le_mul_of_nonneg_left (by omega) (by omega)
    have h2 : E * (wd ys (N - 2) + 4294967296 * wd ys (N - 1)) ≤ E * (4294967295 + 4294967296 * wd ys (N - 1)) := Int.mul_le_mul_of_nonneg_left (by omega) (by omega)
    have e1 : E * (4294967296 * (4294967296 * (wd ys (N - 1) + 1))) = 4294967296 * (4294967296 * (E * wd ys (N - 1) + E)) := by grind
    have e2 : E * (4294967295 + 4294967296 * wd ys (N - 1)) = 4294967295 * E + 4294967296 * (E * wd ys (N - 1)) := by grind
    omega
  have hq : q < 4294967296 := by
    refine Int.not_le.1 fun hc => ?_
    have h1 : 4294967296 * wd ys (N - 1) ≤ q * wd ys (N - 1) := Int.mul_le_mul_of_nonneg_right hc (by omega)
    omega
  refine ⟨hq, near hE eU hU0 eV hV0 hV1 (by omega) b2.1 hd.pos q0 (by omega) ?_⟩
  have h1 : q * wd ys (N - 2) ≤ 4294967296 * wd ys (N - 2) := Int.mul_le_mul_of_nonneg_right (by omega) b2.1
  omega

/-- a multiple is taken off, a word at a time -/
structure OfV (xs ys : List Int) (q : Int) (zs : List Int) (k : Nat) (c b : Int) : Prop where
  len : zs.length = xs.length
  wds : Wds zs
  rest : ∀ j, k ≤ j → wd zs j = wd xs j
  c0 : 0 ≤ c
  c1 : c < 4294967296
  b0 : 0 ≤ b
  b1 : b ≤ 1
  none : ys.length < k → c = 0
  sum : val (zs.take k) = val (xs.take k) - q * val (ys.take k) + Bp k * (c + b)
theorem OfV.start {xs : List Int} (ys : List Int) (q : Int) (hx : Wds xs) : OfV xs ys q xs 0 0 0 := ⟨rfl, hx, fun _ _ => rfl, by omega, by omega, by omega, by omega, fun _ => rfl, by simp [val]⟩
theorem OfV.step {xs ys zs : List Int} {q c b : Int} {k : Nat} (h : OfV xs ys q zs k c b) (hx : Wds xs) (hy : Wds ys) (hk : k < xs.length) (hq0 : 0 ≤ q) (hq1 : q < 4294967296) (p : Int) (hp : p = c + q * wd ys k) :
    OfV xs ys q (zs.set k ((wd xs k - p % 4294967296 - b) % 4294967296)) (k + 1) (p / 4294967296) (((wd xs k - p % 4294967296 - b) % 18446744073709551616) / 9223372036854775808) := by
  have hx1 := hx.wd k
  have hy1 := hy.wd k
  have g0 := h.b0
  have g1 := h.b1
  have g2 := h.c0
  have g3 := h.c1
  have m0 : 0 ≤ q * wd ys k := Int.mul_nonneg hq0 hy1.1
  have m1 : q * wd ys k ≤ 4294967295 * 4294967295 := Int.mul_le_mul (by omega) (by omega) hy1.1 (by omega)
  refine ⟨by rw [List.length_set]; exact h.len, h.wds.set _ (Int.emod_nonneg _ (by omega)) (Int.emod_lt_of_pos _ (by omega)), fun j hj => ?_, by omega, by omega, by omega, by omega, fun hn => ?_, ?_⟩
  · rw [wd_set _ (by rw [h.len]; exact hk), if_neg (by omega)]; exact h.rest j (by omega)
  · have : wd ys k = 0 := wd_ge (by omega)
    rw [this, Int.mul_zero] at hp
    omega
  · rw [val_take_set (by rw [h.len]; exact hk), val_take_succ hk, val_take_step ys, h.sum]
    have e1 := borrow_step k (wd xs k - p % 4294967296 - b) (by omega) (by omega)
    have e2 := carry_step k p
    have e3 : q * (val (ys.take k) + Bp k * wd ys k) = q * val (ys.take k) + Bp k * (q * wd ys k) := by grind
    have e4 : Bp k * p = Bp k * c + Bp k * (q * wd ys k) := by rw [hp]; grind
    generalize (wd xs k - p % 4294967296 - b) % 4294967296 = z at *
    generalize ((wd xs k - p % 4294967296 - b) % 18446744073709551616) / 9223372036854775808 = bb at *
    rw [e3]
    generalize p / 4294967296 = pc at *
    generalize p % 4294967296 = pl at *
    rw [Int.mul_sub, Int.mul_sub] at e1
    rw [Int.mul_add, Int.mul_add]
    omega
/-- what is left: the rest, or the rest with a word's worth lent -/
theorem OfV.fin {us ys zs : List Int} {q c b : Int} {N : Nat} (h : OfV us ys q zs (N + 1) c b) (hd : Dv us ys N) (hq : val us / val ys ≤ q) (hq1 : q ≤ val us / val ys + 1) :
    (q = val us / val ys ∧ b = 0 ∧ val zs = val us % val ys) ∨ (q = val us / val ys + 1 ∧ b = 1 ∧ val zs = val us % val ys - val ys + Bp (N + 1)) := by
  have hc := h.none (by rw [hd.yl]; omega)
  have hs := h.sum
  rw [List.take_of_length_le (by rw [h.len, hd.ul]; omega), List.take_of_length_le (by rw [hd.ul]; omega), List.take_of_length_le (by rw [hd.yl]; omega), hc] at hs
  have e := Int.mul_ediv_add_emod (val us) (val ys)
  have r0 := Int.emod_nonneg (val us) (show val ys ≠ 0 by have := hd.pos; omega)
  have r1 := Int.emod_lt_of_pos (val us) hd.pos
  have z0 := val_nonneg h.wds
  have z1 := val_lt h.wds
  rw [h.len, hd.ul] at z1
  have v1 := val_lt hd.yw
  rw [hd.yl] at v1
  have hB := Bp_succ N
  have hBp := Bp_pos N
  have b0 := h.b0
  have b1 := h.b1
  rw [Int.mul_comm] at e
  rcases (by omega : q = val us / val ys ∨ q = val us / val ys + 1) with hq2 | hq2
  · left
    subst hq2
    have hb : b = 0 := by
      rcases (by omega : b = 0 ∨ b = 1) with hb | hb
      · exact hb
      · subst hb; simp at hs; omega
    subst hb
    simp at hs
    exact ⟨rfl, rfl, by omega⟩
  · right
    have e2 : q * val ys = val us / val ys * val ys + val ys := by rw [hq2]; grind
    have hb : b = 1 := by
      rcases (by omega : b = 0 ∨ b = 1) with hb | hb
      · subst hb; simp at hs; omega
      · exact hb
    subst hb
    simp at hs
    exact ⟨hq2, rfl, by omega⟩

/-- words added in place -/
structure BkV (xs ys : List Int) (zs : List Int) (k : Nat) (c : Int) : Prop where
  len : zs.length = xs.length
  wds : Wds zs
  rest : ∀ j, k ≤ j → wd zs j = wd xs j
  c0 : 0 ≤ c
  c1 : c ≤ 1
  sum : val (zs.take k) + Bp k * c = val (xs.take k) + val (ys.take k)
theorem BkV.start {xs : List Int} (ys : List Int) (hx : Wds xs) : BkV xs ys xs 0 0 := ⟨rfl, hx, fun _ _ => rfl, by omega, by omega, by simp [val]⟩
theorem BkV.step {xs ys zs : List Int} {c : Int} {k : Nat} (h : BkV xs ys zs k c) (hx : Wds xs) (hy : Wds ys) (hk : k < xs.length) (p : Int) (hp : p = c + wd xs k + wd ys k) :
    BkV xs ys (zs.set k (p % 4294967296)) (k + 1) (p / 4294967296) := by
  have hx1 := hx.wd k
  have hy1 := hy.wd k
  have g0 := h.c0
  have g1 := h.c1
  refine ⟨by rw [List.length_set]; exact h.len, h.wds.set _ (Int.emod_nonneg _ (by omega)) (Int.emod_lt_of_pos _ (by omega)), fun j hj => ?_, by omega, by omega, ?_⟩
  · rw [wd_set _ (by rw [h.len]; exact hk), if_neg (by omega)]; exact h.rest j (by omega)
  · exact add_step (by rw [h.len]; exact hk) h.sum p hp
theorem BkV.fin {us ys xs zs : List Int} {c : Int} {N : Nat} (h : BkV xs ys zs (N + 1) c) (hd : Dv us ys N) (hl : xs.length = N + 1) (hv : val xs = val us % val ys - val ys + Bp (N + 1)) : val zs = val us % val ys := by
  have hs := h.sum
  rw [List.take_of_length_le (by rw [h.len, hl]; omega), List.take_of_length_le (by omega), List.take_of_length_le (by rw [hd.yl]; omega)] at hs
  have r0 := Int.emod_nonneg (val us) (show val ys ≠ 0 by have := hd.pos; omega)
  have r1 := Int.emod_lt_of_pos (val us) hd.pos
  have z0 := val_nonneg h.wds
  have z1 := val_lt h.wds
  rw [h.len, hl] at z1
  have v1 := val_lt hd.yw
  rw [hd.yl] at v1
  have hB := Bp_succ N
  have hBp := Bp_pos N
  have c0 := h.c0
  have c1 := h.c1
  rcases (by omega : c = 0 ∨ c = 1) with hc | hc <;> subst hc <;> simp at hs <;> omega

/-- a quotient, from the top down to j -/
structure DvV (U0 : Int) (ys : List Int) (M N L : Nat) (us qs : List Int) (j : Nat) : Prop where
  ml : M = L + N
  ul : us.length = M
  ql : qs.length = L
  uw : Wds us
  qw : Wds qs
  zero : ∀ i, i < j → wd qs i = 0
  sum : U0 = val qs * val ys + val us
  low : val (us.drop j) < val ys
/-- the stretch that a word of the quotient is found from -/
def seg (us : List Int) (j N : Nat) : List Int := (us.drop j).take (N + 1)
theorem DvV.seg {U0 : Int} {ys us qs : List Int} {M N L j : Nat} (h : DvV U0 ys M N L us qs (j + 1)) (hj : j < L) (hyl : ys.length = N) (hy : Wds ys) (h2 : 2 ≤ N) (hg : 2147483648 ≤ wd ys (N - 1)) :
    Dv (seg us j N) ys N ∧ val (us.drop j) = val (seg us j N) ∧ val (us.drop (j + N + 1)) = 0 := by
  have hl := h.ml
  have hul := h.ul
  have hlow := h.low
  have hyv := val_lt hy
  rw [hyl] at hyv
  have s1 := val_split (us.drop (j + 1)) N
  rw [List.drop_drop] at s1
  have z0 := val_nonneg (h.uw.drop (j + 1 + N))
  have t0 := val_nonneg ((h.uw.drop (j + 1)).take N)
  have hB := Bp_pos N
  have z1 : val (us.drop (j + 1 + N)) = 0 := by
    rcases Int.lt_or_eq_of_le z0 with hz | hz
    · have : Bp N * 1 ≤ Bp N * val (us.drop (j + 1 + N)) := Int.mul_le_mul_of_nonneg_left (by omega) (by omega)
      omega
    · exact hz.symm
  have s2 := val_split (us.drop j) (N + 1)
  rw [List.drop_drop, show j + (N + 1) = j + 1 + N by omega, z1, Int.mul_zero, Int.add_zero] at s2
  have s3 := val_drop_step (xs := us) (k := j) (by omega)
  have w0 := h.uw.wd j
  refine ⟨⟨?_, hyl, (h.uw.drop j).take _, hy, h2, hg, ?_⟩, s2, by rw [show j + N + 1 = j + 1 + N by omega]; exact z1⟩
  · show ((us.drop j).take (N + 1)).length = N + 1
    rw [List.length_take, List.length_drop]; omega
  · show val ((us.drop j).take (N + 1)) < _
    rw [← s2, s3]; omega
theorem DvV.step {U0 : Int} {ys us qs ps : List Int} {M N L j : Nat} (h : DvV U0 ys M N L us qs (j + 1)) (hj : j < L) (hyl : ys.length = N) (hy : Wds ys) (h2 : 2 ≤ N) (hg : 2147483648 ≤ wd ys (N - 1))
    (hpl : ps.length = N + 1) (hpw : Wds ps) (hpv : val ps = val (Q.seg us j N) % val ys) :
    DvV U0 ys M N L (us.take j ++ ps ++ us.drop (j + N + 1)) (qs.set j (val (Q.seg us j N) / val ys)) j := by
  obtain ⟨hd, e1, e2⟩ := h.seg hj hyl hy h2 hg
  have hq := hd.qlt
  have hl := h.ml
  have hul := h.ul
  have hql := h.ql
  have e := Int.mul_ediv_add_emod (val (Q.seg us j N)) (val ys)
  have htl : (us.take j).length = j := by rw [List.length_take]; omega
  have hv : val (ps ++ us.drop (j + N + 1)) = val (Q.seg us j N) % val ys := by rw [val_append, e2, hpv]; simp
  have hdrop : (us.take j ++ ps ++ us.drop (j + N + 1)).drop j = ps ++ us.drop (j + N + 1) := by
    rw [List.append_assoc, List.drop_append_of_le_length (by omega), List.drop_of_length_le (by omega), List.nil_append]
  refine ⟨hl, by simp; omega, by rw [List.length_set]; exact hql, ((h.uw.take _).append hpw).append (h.uw.drop _), h.qw.set _ hq.1 hq.2, fun i hi => ?_, ?_, ?_⟩
  · rw [wd_set _ (by omega), if_neg (by omega)]; exact h.zero i (by omega)
  · have s1 := val_split us j
    rw [e1] at s1
    rw [val_set (by omega), h.zero j (by omega), List.append_assoc, val_append, hv, htl, h.sum, s1]
    generalize val (Q.seg us j N) / val ys = x at *
    generalize val (Q.seg us j N) % val ys = y at *
    rw [← e]
    grind
  · rw [hdrop, hv]
    exact Int.emod_lt_of_pos _ hd.pos
theorem DvV.fin {U0 : Int} {ys us qs : List Int} {M N L : Nat} (h : DvV U0 ys M N L us qs 0) (hyl : ys.length = N) (hy : Wds ys) : val qs = U0 / val ys ∧ val (us.take N) = U0 % val ys ∧ val us = U0 % val ys := by
  have hlow := h.low
  rw [List.drop_zero] at hlow
  have u0 := val_nonneg h.uw
  have hs : U0 = val ys * val qs + val us := by rw [Int.mul_comm]; exact h.sum
  obtain ⟨a, b⟩ := div_unique hs u0 hlow
  have s1 := val_split us N
  have hyv := val_lt hy
  rw [hyl] at hyv
  have z0 := val_nonneg (h.uw.drop N)
  have t0 := val_nonneg (h.uw.take N)
  have hB := Bp_pos N
  have z1 : val (us.drop N) = 0 := by
    rcases Int.lt_or_eq_of_le z0 with hz | hz
    · have : Bp N * 1 ≤ Bp N * val (us.drop N) := Int.mul_le_mul_of_nonneg_left (by omega) (by omega)
      omega
    · exact hz.symm
  rw [z1, Int.mul_zero, Int.add_zero] at s1
  exact ⟨a, by rw [← s1]; exact b, b⟩
theorem wd_mid {pre zs post : List Int} {k : Nat} (h : k < zs.length) : wd (pre ++ zs ++ post) (pre.length + k) = wd zs k := by
  rw [wd_append_left (by simp; omega), wd_append_right (by omega), Nat.add_sub_cancel_left]
theorem set_mid (pre zs post : List Int) {k : Nat} (h : k < zs.length) (x : Int) : (pre ++ zs ++ post).set (pre.length + k) x = pre ++ zs.set k x ++ post := by
  rw [List.set_append_left _ _ (by simp; omega), List.set_append_right _ _ (by omega), Nat.add_sub_cancel_left]

/-- what is above its top word -/
theorem val_top {ys : List Int} {N : Nat} (hl : ys.length = N) (hN : 0 < N) : val ys = val (ys.take (N - 1)) + Bp (N - 1) * wd ys (N - 1) := by
  have := val_take_succ (xs := ys) (k := N - 1) (by omega)
  rwa [show N - 1 + 1 = N by omega, List.take_of_length_le (by omega)] at this
/-- a number made great: as many words, and the top word at least 2^31 -/
theorem great_of {ys vs : List Int} {N s : Nat} (hl : ys.length = N) (hN : 0 < N) (hy : Wds ys) (hs : s < 32) (h0 : 2147483648 ≤ wd ys (N - 1) * 2 ^ s) (h1 : wd ys (N - 1) * 2 ^ s < 4294967296) (hv : Wds vs) (ht : Tr vs) (hvv : val vs = val ys * 2 ^ s) :
    vs.length = N ∧ 2147483648 ≤ wd vs (N - 1) := by
  obtain ⟨c, hc, hp, e⟩ := two_split hs
  generalize (2 : Int) ^ s = p at *
  have hyt := val_top hl hN
  have hy0 := val_nonneg (hy.take (N - 1))
  have hy1 := val_take_lt hy (N - 1)
  have hB := Bp_pos (N - 1)
  have hB2 : Bp N = 4294967296 * Bp (N - 1) := by rw [show N = N - 1 + 1 by omega, Bp_succ]; simp
  generalize hE : Bp (N - 1) = E at *
  generalize wd ys (N - 1) = t at *
  generalize val (ys.take (N - 1)) = u at *
  have htc : t + 1 ≤ c := by
    refine Int.not_lt.1 fun hc2 => ?_
    have : p * c ≤ p * t := Int.mul_le_mul_of_nonneg_left (by omega) (by omega)
    rw [e, Int.mul_comm] at this
    omega
  have e1 : val ys * p = u * p + E * (t * p) := by rw [hyt]; grind
  have e2 : E * 2147483648 ≤ E * (t * p) := Int.mul_le_mul_of_nonneg_left (by omega) (by omega)
  have e3 : 0 ≤ u * p := Int.mul_nonneg hy0 (by omega)
  have e4 : u * p < E * p := Int.mul_lt_mul_of_pos_right hy1 hp
  have e5 : E * ((t + 1) * p) ≤ E * (c * p) := Int.mul_le_mul_of_nonneg_left (Int.mul_le_mul_of_nonneg_right htc (by omega)) (by omega)
  rw [Int.mul_comm c, e, Int.add_mul, Int.one_mul, Int.mul_add] at e5
  have hvlt : val vs < Bp N := by rw [hvv, e1, hB2]; omega
  have hvge : 2147483648 * E ≤ val vs := by rw [hvv, e1]; omega
  have hlen : vs.length = N := by
    have a1 : vs.length ≤ N := by
      refine Nat.not_lt.1 fun hgt => ?_
      have h2 := val_ge hv ht (by intro h; rw [h] at hgt; simp at hgt)
      have h3 := Bp_mono (show N ≤ vs.length - 1 by omega)
      omega
    have a2 : N ≤ vs.length := by
      refine Nat.not_lt.1 fun hgt => ?_
      have h2 := val_lt hv
      have h3 := Bp_mono (show vs.length ≤ N - 1 by omega)
      rw [hE] at h3
      omega
    omega
  refine ⟨hlen, ?_⟩
  have hvt := val_top hlen hN
  rw [hE] at hvt
  have h4 := val_take_lt hv (N - 1)
  rw [hE] at h4
  refine Int.not_lt.1 fun hlt => ?_
  have h5 : E * (wd vs (N - 1) + 1) ≤ E * 2147483648 := Int.mul_le_mul_of_nonneg_left (by omega) (by omega)
  rw [Int.mul_add, Int.mul_one] at h5
  omega
theorem DvV.start {ys us : List Int} {M N L : Nat} (hyl : ys.length = N) (hy : Wds ys) (hN : 0 < N) (hg : 2147483648 ≤ wd ys (N - 1)) (hM : M = L + N) (hul : us.length = M) (hu : Wds us) (ht : wd us (M - 1) < 2147483648) :
    DvV (val us) ys M N L us (List.replicate L 0) L := by
  refine ⟨hM, hul, by simp, hu, Wds.zeros _, fun i _ => wd_zeros _ _, by rw [val_zeros]; omega, ?_⟩
  have hdl : (us.drop L).length = N := by rw [List.length_drop]; omega
  rw [val_top hdl hN, val_top hyl hN, wd_drop, show L + (N - 1) = M - 1 by omega]
  have h1 := val_take_lt (hu.drop L) (N - 1)
  have h2 := val_nonneg (hy.take (N - 1))
  have h3 : Bp (N - 1) * (wd us (M - 1) + 1) ≤ Bp (N - 1) * wd ys (N - 1) := Int.mul_le_mul_of_nonneg_left (by omega) (Int.le_of_lt (Bp_pos _))
  rw [Int.mul_add, Int.mul_one] at h3
  omega
theorem shifted_quo (x y : Int) (s : Nat) : (x * 2 ^ s) / (y * 2 ^ s) = x / y ∧ (x * 2 ^ s) % (y * 2 ^ s) / 2 ^ s = x % y := by
  have hp : (0 : Int) < 2 ^ s := Int.pow_pos (by omega)
  generalize (2 : Int) ^ s = p at *
  refine ⟨by rw [Int.mul_comm x, Int.mul_comm y, Int.mul_ediv_mul_of_pos _ _ hp], ?_⟩
  rw [Int.mul_comm x, Int.mul_comm y, Int.mul_emod_mul_of_pos _ _ hp, Int.mul_ediv_cancel_left _ (by omega)]

/-- what is answered: a quotient and a rest; the greatest common divisor -/
noncomputable def divS (xs ys : List Int) : List Int × List Int × Int := if chk2 xs ys = 0 then (if ys = [] then ([], [], 7) else (nwd (val xs / val ys), nwd (val xs % val ys), 0)) else ([], [], chk2 xs ys)
def gc (x y : Int) : Int := (Nat.gcd x.toNat y.toNat : Int)
noncomputable def gcdS (xs ys : List Int) : List Int × Int := if chk2 xs ys = 0 then (nwd (gc (val xs) (val ys)), 0) else ([], chk2 xs ys)
theorem gc_zero {x : Int} (h : 0 ≤ x) : gc x 0 = x := by
  unfold gc; simp; omega
theorem gc_step {x y : Int} (hx : 0 ≤ x) (hy : 0 ≤ y) : gc x y = gc y (x % y) := by
  unfold gc
  rw [Int.toNat_emod hx hy, Nat.gcd_comm x.toNat, Nat.gcd_rec, Nat.gcd_comm]
theorem gc_nonneg (x y : Int) : 0 ≤ gc x y := by unfold gc; omega
theorem gc_le {x y : Int} (hx : 0 ≤ x) (hy : 0 ≤ y) (m : Int) (h1 : x ≤ m) (h2 : y ≤ m) : gc x y ≤ m := by
  unfold gc
  by_cases hx0 : x.toNat = 0
  · rw [hx0, Nat.gcd_zero_left]; omega
  · have := Nat.gcd_le_left y.toNat (by omega : 0 < x.toNat)
    omega
theorem gcdS_wds (xs ys : List Int) : Wds (gcdS xs ys).1 := by
  unfold gcdS; split
  · exact nwd_wds _
  · exact Wds.nil
theorem nwd_len_of {x : Int} {xs : List Int} (hx : Wds xs) (h0 : 0 ≤ x) (h1 : x ≤ val xs) : (nwd x).length ≤ xs.length :=
  nwd_len_le (Int.lt_of_le_of_lt h1 (val_lt hx)) h0
theorem divS_len (xs ys : List Int) (hx : Wds xs) (hy : Wds ys) : (divS xs ys).1.length ≤ 8192 ∧ (divS xs ys).2.1.length ≤ 8192 := by
  unfold divS; split
  · rename_i h
    have hc := chk2_zero h
    split
    · simp
    · have x0 := val_nonneg hx
      have y0 := val_nonneg hy
      have h1 := nwd_len_of hx (Int.ediv_nonneg x0 y0) (Int.ediv_le_self (val ys) x0)
      have h2 : val xs % val ys ≤ val xs := by
        have e := Int.mul_ediv_add_emod (val xs) (val ys)
        have := Int.mul_nonneg y0 (Int.ediv_nonneg x0 y0)
        omega
      have h3 : 0 ≤ val xs % val ys := Int.emod_nonneg _ (by intro hz; have := val_pos hy hc.2.2.2 (by assumption); omega)
      have h4 := nwd_len_of hx h3 h2
      exact ⟨Nat.le_trans h1 hc.1, Nat.le_trans h4 hc.1⟩
  · simp
theorem gcdS_len (xs ys : List Int) (hx : Wds xs) (hy : Wds ys) : (gcdS xs ys).1.length ≤ 8192 := by
  unfold gcdS; split
  · rename_i h
    have hc := chk2_zero h
    have x0 := val_nonneg hx
    have y0 := val_nonneg hy
    have h1 := Bp_mono hc.1
    have h2 := Bp_mono hc.2.2.1
    have h3 := val_lt hx
    have h4 := val_lt hy
    have := gc_le x0 y0 (Bp 8192 - 1) (by omega) (by omega)
    exact nwd_len_le (by omega) (gc_nonneg _ _)
  · simp
end Q
