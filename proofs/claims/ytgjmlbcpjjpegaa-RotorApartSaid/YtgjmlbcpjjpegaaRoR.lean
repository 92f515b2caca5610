import Derived.Test.YtgjmlbcpjjpegaaRoP
/- ratio.lowest and ratio.Small at fractions, as plain laws. -/
set_option linter.unusedVariables false
set_option linter.unusedSimpArgs false
namespace Go.Proofs.Ytgjmlbcpjjpegaa.RT
open Go.RowKit Go.Proofs.Ytgjmlbcpjjpegaa.PRB Go.Proofs.YtgjmlbcpjjpegaaW.PrintWords Q RO
theorem lowest_rep (ng : Bool) {a : Int} {b : Nat} (ha : 0 ≤ a) (hb : 0 < b) (h1 : a < Bp 2000) (h2 : (b : Int) < Bp 2000) :
    ratio_lowest.f ng (nw a) (nw (b : Int)) = some (neg (mkRat (sg ng a) b), nu (mkRat (sg ng a) b), de (mkRat (sg ng a) b), 0) := by
  have b8 : Bp 2000 ≤ Bp 8192 := Bp_mono (by omega)
  have g0 := gc_pos ha hb
  have gl : gc a (b : Int) ≤ max a b := gc_le ha (by omega) _ (by omega) (by omega)
  have gB : gc a (b : Int) < Bp 8192 := by omega
  obtain ⟨r1, r2, r3⟩ := low_rep ng ha hb
  obtain ⟨m1, m2⟩ := low_le ng ha hb
  have hg : (gcdC (nw a) (nw (b : Int))).1 = nw (gc a (b : Int)) := by rw [gcdC_nw ha (by omega) (by omega) (by omega)]
  have hq : (divC (nw a) (nw (gc a (b : Int)))).1 = nu (mkRat (sg ng a) b) := by
    rw [divC_nw ha (by omega) (by omega) gB, if_neg (by omega)]; exact r1
  have hd : (divC (nw (b : Int)) (nw (gc a (b : Int)))).1 = de (mkRat (sg ng a) b) := by
    rw [divC_nw (by omega) (by omega) (by omega) gB, if_neg (by omega)]; exact r2
  have l1 : (nu (mkRat (sg ng a) b)).length ≤ 2000 := nw_len (by omega) (by omega)
  have l2 : (de (mkRat (sg ng a) b)).length ≤ 2000 := nw_len (by omega) (by omega)
  unfold ratio_lowest.f
  rw [if_pos ⟨okw_nw ha h1 (by omega), okw_nw (by omega) h2 (by omega)⟩]
  unfold lowC
  rw [hg, hq, hd, if_neg (by omega)]
  rw [r1] at r3
  rw [r3]
theorem of64_nw {x : Int} (h0 : 0 ≤ x) (h1 : x < 18446744073709551616) : of64 x = nw x := by
  rw [← nwd_nw]; exact (nwd_eq (of64_wds h0 h1) (of64_tr x) (of64_val x)).symm
theorem size_is {a : Int} (h0 : -1000000000000000 ≤ a) (h1 : a ≤ 1000000000000000) : ratio_size.f a = some (nw (a.natAbs : Int)) := by
  unfold ratio_size.f nat_Of.f
  by_cases h : a < 0
  · have e : IntKind.u64.wrap (-(IntKind.u64.wrap a)) = (a.natAbs : Int) := by rw [IntKind.wrap_u64, IntKind.wrap_u64]; omega
    rw [if_pos h, e, if_pos ⟨by omega, by omega⟩, Option.bind_some, of64_nw (by omega) (by omega)]
  · have e : IntKind.u64.wrap a = (a.natAbs : Int) := by rw [IntKind.wrap_u64]; omega
    rw [if_neg h, e, if_pos ⟨by omega, by omega⟩, Option.bind_some, of64_nw (by omega) (by omega)]
theorem big15 {x : Int} (h : x ≤ 1000000000000000) : x < Bp 2000 := by
  have h2 : Bp 2 ≤ Bp 2000 := Bp_mono (by omega)
  have h3 : Bp 2 = 18446744073709551616 := by decide
  omega
/-- the fraction of two small numbers -/
theorem small_rep {n : Int} {d : Nat} (h0 : -1000000000000000 ≤ n) (h1 : n ≤ 1000000000000000) (d0 : 0 < d) (d1 : (d : Int) ≤ 1000000000000000) :
    ratio_Small.f n (d : Int) = some (neg (mkRat n d), nu (mkRat n d), de (mkRat n d), 0) := by
  have hl := lowest_rep (decide (n < 0)) (a := (n.natAbs : Int)) (b := d) (by omega) d0 (big15 (by omega)) (big15 d1)
  rw [sg_self] at hl
  have ed : ((d : Int).natAbs : Int) = (d : Int) := by omega
  have es : (decide (n < 0) != decide ((d : Int) < 0)) = decide (n < 0) := by rw [decide_eq_false (show ¬ (d : Int) < 0 by omega)]; simp
  unfold ratio_Small.f
  rw [if_neg (by omega), size_is h0 h1, Option.bind_some, size_is (by omega) d1, Option.bind_some, es, ed, hl, Option.bind_some]
/-- a rotor's number -/
def reQ (f n : Int) : Rat := mkRat (f * f - n * n) (f * f + n * n).toNat
def imQ (f n : Int) : Rat := mkRat (2 * f * n) (f * f + n * n).toNat
theorem number_rep {f n : Int} (f0 : 1 ≤ f) (f1 : f ≤ 1000) (n0 : -1000 ≤ n) (n1 : n ≤ 1000) :
    rotor_number.f f n = some (neg (reQ f n), nu (reQ f n), de (reQ f n), neg (imQ f n), nu (imQ f n), de (imQ f n)) := by
  obtain ⟨hp, hx, hy⟩ := rotor_Order.parts f0 f1 n0 n1
  have b1 := rotor_Order.prod (x := f) (v := f) (a := 1000) (b := 1000) (by omega) f1 (by omega) f1 (by omega) (by omega)
  have b2 := rotor_Order.prod (x := n) (v := n) (a := 1000) (b := 1000) n0 n1 n0 n1 (by omega) (by omega)
  have p1 : 1 * 1 ≤ f * f := Int.mul_le_mul f0 f0 (by omega) (by omega)
  have p2 : 0 ≤ n * n := by
    by_cases h : 0 ≤ n
    · exact Int.mul_nonneg h h
    · have := Int.mul_nonneg (show 0 ≤ -n by omega) (show 0 ≤ -n by omega)
      rwa [Int.neg_mul_neg] at this
  obtain ⟨o, ho⟩ : ∃ o : Nat, f * f + n * n = (o : Int) := ⟨(f * f + n * n).toNat, by omega⟩
  have eo : (f * f + n * n).toNat = o := by omega
  unfold rotor_number.f reQ imQ
  rw [hp, Option.bind_some]
  dsimp only
  rw [eo, ho, small_rep (by omega) (by omega) (by omega) (by omega), Option.bind_some, small_rep (by omega) (by omega) (by omega) (by omega), Option.bind_some]
end Go.Proofs.Ytgjmlbcpjjpegaa.RT
