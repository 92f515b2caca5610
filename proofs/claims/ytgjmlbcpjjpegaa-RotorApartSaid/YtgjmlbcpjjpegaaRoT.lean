import Derived.Test.YtgjmlbcpjjpegaaPRBx
import Derived.Test.YtgjmlbcpjjpegaaRoR
import Derived.Test.YtgjmlbcpjjpegaaRoS
import Derived.Test.YtgjmlbcpjjpegaaRoK
/- ratio's sums and quotients, rotor.Find of a rotor's number, as plain laws. -/
set_option linter.unusedVariables false
set_option linter.unusedSimpArgs false
namespace Go.Proofs.Ytgjmlbcpjjpegaa.RT
open Go.RowKit Go.Proofs.Ytgjmlbcpjjpegaa.PRB Go.Proofs.YtgjmlbcpjjpegaaW.PrintWords Q RO
theorem Sz.mono {m n : Nat} {q : Rat} (h : Sz m q) (hmn : m ≤ n) : Sz n q := ⟨Int.lt_of_lt_of_le h.num (Bp_mono hmn), Int.lt_of_lt_of_le h.den (Bp_mono hmn)⟩
theorem Sz.mk_ (ng : Bool) {a : Int} {b n : Nat} (ha : 0 ≤ a) (hb : 0 < b) (h1 : a < Bp n) (h2 : (b : Int) < Bp n) : Sz n (mkRat (sg ng a) b) := by
  obtain ⟨m1, m2⟩ := low_le ng ha hb
  exact ⟨by omega, by omega⟩
theorem times_nw {a b : Int} {m n : Nat} (a0 : 0 ≤ a) (b0 : 0 ≤ b) (ha : a < Bp m) (hb : b < Bp n) (hmn : m + n ≤ 8192) : ratio_times.f (nw a) (nw b) = some (nw (a * b)) := by
  unfold ratio_times.f nat_Mul.f
  rw [if_pos ⟨okw_nw a0 ha (by omega), okw_nw b0 hb (by omega)⟩, mulC_nw a0 b0 ha hb hmn]
  rfl
theorem nat_add_nw {a b : Int} {n : Nat} (a0 : 0 ≤ a) (b0 : 0 ≤ b) (ha : a < Bp n) (hb : b < Bp n) (hn : n ≤ 8000) : nat_Add.f (nw a) (nw b) = some (nw (a + b), 0) := by
  have h1 := Bp_add_lt ha hb
  have h2 : Bp (n + 1) ≤ Bp 8192 := Bp_mono (by omega)
  unfold nat_Add.f
  rw [if_pos ⟨okw_nw a0 ha (by omega), okw_nw b0 hb (by omega)⟩, addC_nw a0 b0 (by omega)]
theorem nat_sub_nw {a b : Int} {n : Nat} (a0 : 0 ≤ a) (b0 : 0 ≤ b) (ha : a < Bp n) (hb : b < Bp n) (hn : n ≤ 8000) (h : b ≤ a) : nat_Sub.f (nw a) (nw b) = some (nw (a - b), 0) := by
  have h2 : Bp n ≤ Bp 8192 := Bp_mono (by omega)
  unfold nat_Sub.f
  rw [if_pos ⟨okw_nw a0 ha (by omega), okw_nw b0 hb (by omega)⟩, subC_nw a0 b0 (by omega) (by omega), if_neg (by omega)]
theorem nat_cmp_nw {a b : Int} {n : Nat} (a0 : 0 ≤ a) (b0 : 0 ≤ b) (ha : a < Bp n) (hb : b < Bp n) (hn : n ≤ 8000) : nat_Compare.f (nw a) (nw b) = some (cmp a b) := by
  unfold nat_Compare.f
  rw [if_pos ⟨okw_nw a0 ha (by omega), okw_nw b0 hb (by omega)⟩, cmp_nw a0 b0]
theorem cmp_neg {a b : Int} : cmp a b < 0 ↔ a < b := by
  unfold cmp
  repeat' split
  all_goals first | omega | (simp; omega) | (simp_all; omega) | simp_all
/-- the three products of a sum -/
structure Cross (n : Nat) (p q : Rat) : Prop where
  x0 : 0 ≤ (p.num.natAbs : Int) * (q.den : Int)
  y0 : 0 ≤ (q.num.natAbs : Int) * (p.den : Int)
  x1 : (p.num.natAbs : Int) * (q.den : Int) < Bp n
  y1 : (q.num.natAbs : Int) * (p.den : Int) < Bp n
  d0 : 0 < p.den * q.den
  d1 : ((p.den * q.den : Nat) : Int) < Bp n
  de : ((p.den * q.den : Nat) : Int) = (p.den : Int) * (q.den : Int)
theorem cross {a b : Nat} {p q : Rat} (hp : Sz a p) (hq : Sz b q) : Cross (a + b) p q := by
  have e : ((p.den * q.den : Nat) : Int) = (p.den : Int) * (q.den : Int) := Int.natCast_mul _ _
  exact ⟨Int.mul_nonneg (by omega) (by omega), Int.mul_nonneg (by omega) (by omega), Bp_mul_lt (by omega) (by omega) hp.num hq.den, by rw [Nat.add_comm]; exact Bp_mul_lt (by omega) (by omega) hq.num hp.den,
    Nat.mul_pos p.den_pos q.den_pos, by rw [e]; exact Bp_mul_lt (by omega) (by omega) hp.den hq.den, e⟩
theorem plus_rep {a b : Nat} {p q : Rat} (hp : Sz a p) (hq : Sz b q) (hab : a + b < 2000) : ratio_plus.f (neg p) (nu p) (de p) (neg q) (nu q) (de q) = some (neg (p + q), nu (p + q), de (p + q), 0) := by
  obtain ⟨x0, y0, x1, y1, d0, d1, hd⟩ := cross hp hq
  have h18 : Bp (a + b) ≤ Bp 2000 := Bp_mono (by omega)
  have h19 := Bp_add_lt x1 y1
  have h20 : Bp (a + b + 1) ≤ Bp 2000 := Bp_mono (by omega)
  have t1 : ratio_times.f (nu p) (de q) = some (nw ((p.num.natAbs : Int) * (q.den : Int))) := times_nw (by omega) (by omega) hp.num hq.den (by omega)
  have t2 : ratio_times.f (nu q) (de p) = some (nw ((q.num.natAbs : Int) * (p.den : Int))) := times_nw (by omega) (by omega) hq.num hp.den (by omega)
  have t3 : ratio_times.f (de p) (de q) = some (nw ((p.den * q.den : Nat) : Int)) := by rw [hd]; exact times_nw (by omega) (by omega) hp.den hq.den (by omega)
  unfold ratio_plus.f
  rw [t1, Option.bind_some, t2, Option.bind_some, t3, Option.bind_some]
  by_cases hn : neg p = neg q
  · rw [if_pos (by rw [hn]; simp), nat_add_nw x0 y0 x1 y1 (by omega), Option.bind_some]
    dsimp only
    rw [lowest_rep (neg p) (by omega) d0 (by omega) (by omega), Option.bind_some, add_same hn]
  · rw [if_neg (by simpa using hn), nat_cmp_nw x0 y0 x1 y1 (by omega), Option.bind_some]
    by_cases hc : (p.num.natAbs : Int) * (q.den : Int) < (q.num.natAbs : Int) * (p.den : Int)
    · rw [if_pos (cmp_neg.2 hc), nat_sub_nw y0 x0 y1 x1 (by omega) (by omega), Option.bind_some]
      dsimp only
      rw [lowest_rep (neg q) (by omega) d0 (by omega) (by omega), Option.bind_some, add_back hn]
    · rw [if_neg (fun c => hc (cmp_neg.1 c)), nat_sub_nw x0 y0 x1 y1 (by omega) (by omega), Option.bind_some]
      dsimp only
      rw [lowest_rep (neg p) (by omega) d0 (by omega) (by omega), Option.bind_some, add_far hn _ rfl]
theorem Sz.add {a b : Nat} {p q : Rat} (hp : Sz a p) (hq : Sz b q) : Sz (a + b + 1) (p + q) := by
  obtain ⟨x0, y0, x1, y1, d0, d1, hd⟩ := cross hp hq
  have h19 := Bp_add_lt x1 y1
  have h20 : Bp (a + b) ≤ Bp (a + b + 1) := Bp_mono (by omega)
  by_cases hn : neg p = neg q
  · rw [← add_same hn]; exact Sz.mk_ _ (by omega) d0 (by omega) (by omega)
  · by_cases hc : (p.num.natAbs : Int) * (q.den : Int) < (q.num.natAbs : Int) * (p.den : Int)
    · rw [← add_back hn]; exact Sz.mk_ _ (by omega) d0 (by omega) (by omega)
    · rw [← add_far hn _ rfl]; exact Sz.mk_ _ (by omega) d0 (by omega) (by omega)
theorem checks_rep (k : Nat) (p q : Rat) (hp : Sz 2000 p) (hq : Sz 2000 q) : ratio_checks.f (k + 1 + 1 + 1) (neg p) (nu p) (de p) (neg q) (nu q) (de q) = some 0 := by
  unfold ratio_checks.f
  rw [check_rep k p hp, Option.bind_some, if_pos rfl, check_rep k q hq, Option.bind_some]
theorem add_rep (k : Nat) {a b : Nat} {p q : Rat} (hp : Sz a p) (hq : Sz b q) (hab : a + b < 2000) : ratio_Add.f (k + 1 + 1 + 1) (neg p) (nu p) (de p) (neg q) (nu q) (de q) = some (neg (p + q), nu (p + q), de (p + q), 0) := by
  unfold ratio_Add.f
  rw [checks_rep k p q (hp.mono (by omega)) (hq.mono (by omega)), Option.bind_some, if_pos rfl, plus_rep hp hq hab, Option.bind_some]
theorem nu_pos {q : Rat} (h : q.num ≠ 0) : (nu q).length ≠ 0 := fun e => h (by
  have := (nw_len0 (v := (q.num.natAbs : Int)) (by omega)).1 e
  omega)
theorem quo_rep (k : Nat) {a b : Nat} {p q : Rat} (hp : Sz a p) (hq : Sz b q) (hab : a + b < 2000) (h0 : q.num ≠ 0) : ratio_Quo.f (k + 1 + 1 + 1) (neg p) (nu p) (de p) (neg q) (nu q) (de q) = some (neg (p / q), nu (p / q), de (p / q), 0) := by
  have h18 : Bp (a + b) ≤ Bp 2000 := Bp_mono (by omega)
  have e : ((p.den * q.num.natAbs : Nat) : Int) = (p.den : Int) * (q.num.natAbs : Int) := Int.natCast_mul _ _
  have x0 : 0 ≤ (p.num.natAbs : Int) * (q.den : Int) := Int.mul_nonneg (by omega) (by omega)
  have x1 : (p.num.natAbs : Int) * (q.den : Int) < Bp (a + b) := Bp_mul_lt (m := a) (n := b) (by omega) (by omega) hp.num hq.den
  have d0 : 0 < p.den * q.num.natAbs := Nat.mul_pos p.den_pos (by omega)
  have d1 : (p.den : Int) * (q.num.natAbs : Int) < Bp (a + b) := Bp_mul_lt (m := a) (n := b) (by omega) (by omega) hp.den hq.num
  have t1 : ratio_times.f (nu p) (de q) = some (nw ((p.num.natAbs : Int) * (q.den : Int))) := times_nw (by omega) (by omega) hp.num hq.den (by omega)
  have t3 : ratio_times.f (de p) (nu q) = some (nw ((p.den * q.num.natAbs : Nat) : Int)) := by rw [e]; exact times_nw (by omega) (by omega) hp.den hq.num (by omega)
  have hl := nu_pos h0
  unfold ratio_Quo.f
  rw [checks_rep k p q (hp.mono (by omega)) (hq.mono (by omega)), Option.bind_some, if_pos rfl, if_neg (by omega), t1, Option.bind_some, t3, Option.bind_some,
    lowest_rep _ x0 d0 (by omega) (by omega), Option.bind_some, quo_is p q h0]
theorem sign_rep (k : Nat) {q : Rat} (hq : Sz 2000 q) (h0 : q.num ≠ 0) : ∃ t : Int, ratio_Sign.f (k + 1 + 1 + 1) (neg q) (nu q) (de q) = some t ∧ t ≠ 0 := by
  have hl := nu_pos h0
  have e0 : (((nu q).length : Int) == 0) = false := beq_eq_false_iff_ne.2 (by omega)
  unfold ratio_Sign.f
  rw [check_rep k q hq, Option.bind_some, if_pos rfl, e0]
  unfold ratio_Sign.j0; try dsimp only
  rw [if_neg (by decide)]
  cases neg q with
  | true => exact ⟨-1, by rw [if_pos rfl], by omega⟩
  | false => exact ⟨1, by rw [if_neg (by decide)], by omega⟩
theorem nw_one {x : Int} (h0 : 0 < x) (h1 : x < 4294967296) : nw x = [x] := by
  have e : val [x] = x := by simp [val]
  have hw : Wds [x] := Wds.cons (by omega) (by omega) Wds.nil
  have ht : Tr [x] := by unfold Tr; simp only [tl]; split <;> simp_all <;> omega
  rw [← e, nw_val hw ht, e]
theorem size1 {x : Int} (h : x ≤ 4294967295) : x < Bp 1 := by
  have h3 : Bp 1 = 4294967296 := by decide
  omega
/-- a rotor's numbers are small -/
theorem num_facts {f n : Int} (f0 : 1 ≤ f) (f1 : f ≤ 1000) (n0 : -1000 ≤ n) (n1 : n ≤ 1000) : (-2000000 ≤ f * f - n * n ∧ f * f - n * n ≤ 2000000) ∧ (-2000000 ≤ 2 * f * n ∧ 2 * f * n ≤ 2000000) ∧ (0 < (f * f + n * n).toNat ∧ ((f * f + n * n).toNat : Int) ≤ 2000000) := by
  obtain ⟨_, hx, hy⟩ := rotor_Order.parts f0 f1 n0 n1
  have b1 := rotor_Order.prod (x := f) (v := f) (a := 1000) (b := 1000) (by omega) f1 (by omega) f1 (by omega) (by omega)
  have b2 := rotor_Order.prod (x := n) (v := n) (a := 1000) (b := 1000) n0 n1 n0 n1 (by omega) (by omega)
  have ho := over_pos (n := n) f0
  exact ⟨hx, hy, by omega, by omega⟩
theorem Sz_re {f n : Int} (f0 : 1 ≤ f) (f1 : f ≤ 1000) (n0 : -1000 ≤ n) (n1 : n ≤ 1000) : Sz 1 (reQ f n) := by
  obtain ⟨hx, hy, ho, ho'⟩ := num_facts f0 f1 n0 n1
  unfold reQ
  rw [← sg_self (f * f - n * n)]
  exact Sz.mk_ _ (by omega) ho (size1 (by omega)) (size1 (by omega))
theorem Sz_im {f n : Int} (f0 : 1 ≤ f) (f1 : f ≤ 1000) (n0 : -1000 ≤ n) (n1 : n ≤ 1000) : Sz 1 (imQ f n) := by
  obtain ⟨hx, hy, ho, ho'⟩ := num_facts f0 f1 n0 n1
  unfold imQ
  rw [← sg_self (2 * f * n)]
  exact Sz.mk_ _ (by omega) ho (size1 (by omega)) (size1 (by omega))
theorem check_of (k : Nat) {f n : Int} (h : Okr f n) : rotor_Check.f (k + 1002) f n = some 0 := by
  obtain ⟨h1, h2, h3⟩ := id h
  rw [check_is (k + 1002) (by omega) (by omega) (by omega), if_pos h]
theorem gsame_rep (k : Nat) (hk : 2000 < k) {p q p' q' : Rat} (a : Sz 1 p) (b : Sz 1 q) (a' : Sz 1 p') (b' : Sz 1 q') :
    gauss_Same.f k (neg p) (nu p) (de p) (neg q) (nu q) (de q) (neg p') (nu p') (de p') (neg q') (nu q') (de q') = some (decide (p = p') && decide (q = q')) := by
  obtain ⟨j, rfl⟩ : ∃ j, k = j + 1 + 1 + 1 := ⟨k - 3, by omega⟩
  unfold gauss_Same.f
  rw [check_rep j p (a.mono (by omega)), Option.bind_some, check_rep j q (b.mono (by omega)), Option.bind_some, check_rep j p' (a'.mono (by omega)), Option.bind_some, check_rep j q' (b'.mono (by omega)), Option.bind_some,
    if_pos (by decide), same_rep _ hk p p' (a.mono (by omega)), Option.bind_some]
  by_cases h : p = p'
  · rw [decide_eq_true h, if_pos rfl, same_rep _ hk q q' (b.mono (by omega)), Bool.true_and]
  · rw [decide_eq_false h, if_neg (by decide), Bool.false_and]
theorem w32 {x : Int} (h : -2147483648 ≤ x) (h' : x < 2147483648) : wrap32 x = x := by unfold wrap32; omega
/-- Find gives a rotor back -/
theorem find_rep (k : Nat) {f n : Int} (h : Okr f n) : rotor_Find.f (k + 3000) (neg (reQ f n)) (nu (reQ f n)) (de (reQ f n)) (neg (imQ f n)) (nu (imQ f n)) (de (imQ f n)) = some (f, n, true) := by
  obtain ⟨⟨f0, f1⟩, ⟨n0, n1⟩, n2, _, _, hg⟩ := id h
  have s1 := Sz_re f0 f1 n0 n1
  have s2 := Sz_im f0 f1 n0 n1
  have so : Sz 1 (mkRat 1 1) := by
    have := Sz.mk_ (n := 1) false (a := 1) (b := 1) (by omega) (by omega) (size1 (by omega)) (size1 (by omega))
    exact this
  have l1 := s1.nl
  have l2 := s1.dl
  have l3 := s2.nl
  have l4 := s2.dl
  have hu : (mkRat 1 1 : Rat) + reQ f n = 1 + reQ f n := by congr 1
  have hu0 : (1 + reQ f n).num ≠ 0 := under_ne f0
  have su : Sz 3 (1 + reQ f n) := by
    have h := Sz.add so s1
    rw [hu] at h
    exact h
  have hsl : imQ f n / (1 + reQ f n) = mkRat n f.toNat := slope_is f0
  obtain ⟨p1, p2⟩ := slope_parts f0 hg
  have e1 : nu (mkRat n f.toNat) = [(n.natAbs : Int)] := by
    unfold nu
    rw [p1, nw_one (by omega) (by omega)]
  have e2 : de (mkRat n f.toNat) = [f] := by
    unfold de
    rw [p2, Int.toNat_of_nonneg (by omega), nw_one (by omega) (by omega)]
  have e3 : neg (mkRat n f.toNat) = decide (n < 0) := by unfold neg; rw [p1]
  obtain ⟨t, ht, ht0⟩ := sign_rep (k + 2996) (su.mono (by omega)) hu0
  have hC : gauss_Check.f (k + 3000) (neg (reQ f n)) (nu (reQ f n)) (de (reQ f n)) (neg (imQ f n)) (nu (imQ f n)) (de (imQ f n)) = some 0 := by
    unfold gauss_Check.f
    rw [check_rep (k + 2997) _ (s1.mono (by omega)), Option.bind_some, check_rep (k + 2997) _ (s2.mono (by omega)), Option.bind_some]
    rfl
  have hJ2 : rotor_Find.j2 (k + 2998) (neg (reQ f n)) (nu (reQ f n)) (de (reQ f n)) (neg (imQ f n)) (nu (imQ f n)) (de (imQ f n)) f n = some (f, n, true) := by
    unfold rotor_Find.j2; try dsimp only
    rw [check_of (k + 1995) h, Option.bind_some, if_pos rfl, number_rep f0 f1 n0 n1, Option.bind_some]
    dsimp only
    rw [gsame_rep _ (by omega) s1 s2 s1 s2, Option.bind_some, if_pos (by simp)]
  have hsm : ratio_Small.f 1 1 = some (neg (mkRat 1 1), nu (mkRat 1 1), de (mkRat 1 1), 0) := small_rep (n := 1) (d := 1) (by omega) (by omega) (by omega) (by omega)
  unfold rotor_Find.f
  rw [hC, Option.bind_some, if_pos rfl, if_neg (by omega), if_neg (by omega), if_neg (by omega), decide_eq_false (by omega)]
  unfold rotor_Find.j0; try dsimp only
  rw [if_neg (by decide), hsm, Option.bind_some]
  dsimp only
  rw [add_rep (k + 2996) so s1 (by omega), Option.bind_some]
  dsimp only
  rw [hu, ht, Option.bind_some, if_neg ht0, quo_rep (k + 2996) s2 su (by omega) hu0, Option.bind_some]
  dsimp only
  rw [hsl, e1, e2, e3]
  have r1 : rd [(n.natAbs : Int)] 0 = (n.natAbs : Int) := rfl
  have r2 : rd [f] 0 = f := rfl
  rw [if_pos (by rfl), if_pos (by rfl), if_pos (by simp), r1, if_neg (by omega), if_pos (by simp), r2, decide_eq_false (by omega)]
  unfold rotor_Find.j1; try dsimp only
  rw [if_neg (by decide), if_pos (by simp), if_pos (by simp), r1, r2, w32 (x := f) (by omega) (by omega), w32 (x := (n.natAbs : Int)) (by omega) (by omega)]
  by_cases hn : n < 0
  · rw [if_pos (decide_eq_true hn), w32 (by omega) (by omega), show -(n.natAbs : Int) = n by omega]
    exact hJ2
  · rw [if_neg (by simpa using hn), show (n.natAbs : Int) = n by omega]
    exact hJ2
end Go.Proofs.Ytgjmlbcpjjpegaa.RT
