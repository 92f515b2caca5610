import Derived.Test.YtgjmlbcpjjpegaaPRBx
import Derived.Test.YtgjmlbcpjjpegaaRoS
/- ratio's looks at fractions in their one form, as plain laws. -/
set_option linter.unusedVariables false
set_option linter.unusedSimpArgs false
namespace Go.Proofs.Ytgjmlbcpjjpegaa.RT
open Go.RowKit Go.Proofs.Ytgjmlbcpjjpegaa.PRB Go.Proofs.YtgjmlbcpjjpegaaW.PrintWords Q RO
/-- a fraction of at most so many words -/
structure Sz (n : Nat) (q : Rat) : Prop where
  num : (q.num.natAbs : Int) < Bp n
  den : (q.den : Int) < Bp n
theorem Sz.nl {n : Nat} {q : Rat} (h : Sz n q) : (nu q).length ≤ n := nw_len h.num (by omega)
theorem Sz.dl {n : Nat} {q : Rat} (h : Sz n q) : (de q).length ≤ n := nw_len h.den (by omega)
theorem de_pos (q : Rat) : (de q).length ≠ 0 := fun e => by
  have h1 := (nw_len0 (v := (q.den : Int)) (by omega)).1 e
  have h2 := q.den_pos
  omega
theorem ok_nu {n : Nat} {q : Rat} (h : Sz n q) (hn : n ≤ 2000) : okw (nu q) = true := okw_nw (by omega) h.num (by omega)
theorem ok_de {n : Nat} {q : Rat} (h : Sz n q) (hn : n ≤ 2000) : okw (de q) = true := okw_nw (by omega) h.den (by omega)
theorem long_no {xs : List Int} (h : xs.length ≤ 2000) : ratio_long.f xs = some false := by
  unfold ratio_long.f
  rw [decide_eq_false (by omega)]
theorem check_j2 (k : Nat) (q : Rat) (h : Sz 2000 q) : ratio_Check.j2 (k + 1) (neg q) (nu q) (de q) = some 0 := by
  have b8 : Bp 2000 ≤ Bp 8192 := Bp_mono (by omega)
  have h1 := h.num
  have h2 := h.den
  have hg : nat_Gcd.f (nu q) (de q) = some (nw 1, 0) := by
    unfold nat_Gcd.f
    rw [if_pos ⟨ok_nu h (by omega), ok_de h (by omega)⟩]
    unfold nu de
    rw [gcdC_nw (by omega) (by omega) (Int.lt_of_lt_of_le h1 b8) (Int.lt_of_lt_of_le h2 b8), gc_one]
  have hc : nat_Compare.f (nw 1) [1] = some 0 := by decide +kernel
  unfold ratio_Check.j2; try dsimp only
  rw [hg, Option.bind_some]
  dsimp only
  rw [hc, Option.bind_some, if_pos rfl]
theorem check_rep (k : Nat) (q : Rat) (h : Sz 2000 q) : ratio_Check.f (k + 1 + 1 + 1) (neg q) (nu q) (de q) = some 0 := by
  have b8 : Bp 2000 ≤ Bp 8192 := Bp_mono (by omega)
  have h1 := h.num
  have h2 := h.den
  have c1 : nat_Check.f (nu q) = some 0 := by
    unfold nat_Check.f
    rw [if_pos (ok_nu h (by omega))]
    unfold nu
    rw [chk_nw (by omega) (Int.lt_of_lt_of_le h1 b8)]
  have c2 : nat_Check.f (de q) = some 0 := by
    unfold nat_Check.f
    rw [if_pos (ok_de h (by omega))]
    unfold de
    rw [chk_nw (by omega) (Int.lt_of_lt_of_le h2 b8)]
  have e0 : (((de q).length : Int) == 0) = false := beq_eq_false_iff_ne.2 (by have := de_pos q; omega)
  unfold ratio_Check.f
  rw [long_no h.nl, Option.bind_some, if_neg (by decide), long_no h.dl, Option.bind_some]
  unfold ratio_Check.j0; try dsimp only
  rw [if_neg (by decide), c1, Option.bind_some, if_pos rfl, c2, Option.bind_some, if_pos rfl, e0]
  unfold ratio_Check.j1; try dsimp only
  rw [if_neg (by decide)]
  by_cases hz : ((nu q).length : Int) = 0
  · have hn : neg q = false := by
      have := (nw_len0 (v := (q.num.natAbs : Int)) (by omega)).1 (show (nu q).length = 0 by omega)
      unfold neg
      exact decide_eq_false (by omega)
    rw [if_pos hz, if_neg (by rw [hn]; decide)]
    exact check_j2 k q h
  · rw [if_neg hz]
    exact check_j2 k q h
theorem rd_at (xs : List Int) {i : Nat} (h : i < xs.length) : rd xs (i : Int) = xs[i] := by
  unfold rd; simp [List.getD_eq_getElem?_getD, List.getElem?_eq_getElem h]
theorem words_l (xs ys : List Int) (hl : xs.length = ys.length) (hm : xs.length ≤ 1000000) (d : Nat) : ∀ (k i : Nat), i + d = xs.length → d < k → ratio_words.l0 k xs ys (xs.length : Int) i = some (decide (xs.drop i = ys.drop i)) := by
  induction d with
  | zero =>
    intro k i hi hk
    obtain ⟨k, rfl⟩ : ∃ m, k = m + 1 := ⟨k - 1, by omega⟩
    unfold ratio_words.l0
    rw [if_neg (by omega), List.drop_of_length_le (by omega), List.drop_of_length_le (by omega)]
    simp
  | succ d ih =>
    intro k i hi hk
    obtain ⟨k, rfl⟩ : ∃ m, k = m + 1 := ⟨k - 1, by omega⟩
    unfold ratio_words.l0
    have hx : i < xs.length := by omega
    have hy : i < ys.length := by omega
    have e : wrap64 ((i : Int) + 1) = ((i + 1 : Nat) : Int) := by unfold wrap64; omega
    rw [if_pos (by omega), if_pos (by omega), if_pos (by omega), if_pos (by omega), rd_at xs hx, rd_at ys hy, e]
    by_cases he : xs[i] = ys[i]
    · rw [if_pos he, ih k (i + 1) (by omega) (by omega)]
      congr 1
      rw [decide_eq_decide, List.drop_eq_getElem_cons hx, List.drop_eq_getElem_cons hy, he]
      exact ⟨fun h => by rw [h], fun h => by injection h⟩
    · rw [if_neg he]
      congr 1
      symm
      rw [decide_eq_false_iff_not, List.drop_eq_getElem_cons hx, List.drop_eq_getElem_cons hy]
      intro h
      injection h with h1 _
      exact he h1
theorem words_f (k : Nat) (xs ys : List Int) (hk : xs.length < k) (hm : xs.length ≤ 1000000) : ratio_words.f k xs ys = some (decide (xs = ys)) := by
  unfold ratio_words.f
  by_cases hl : xs.length = ys.length
  · rw [if_pos (by omega)]
    have := words_l xs ys hl hm xs.length k 0 (by omega) hk
    simpa using this
  · rw [if_neg (by omega)]
    congr 1
    symm
    rw [decide_eq_false_iff_not]
    intro h
    exact hl (by rw [h])
/-- two fractions in their one form are one just if the numbers are -/
theorem same_rep (k : Nat) (hk : 2000 < k) (p q : Rat) (hp : Sz 2000 p) : ratio_Same.f k (neg p) (nu p) (de p) (neg q) (nu q) (de q) = some (decide (p = q)) := by
  have l1 := hp.nl
  have l2 := hp.dl
  unfold ratio_Same.f
  by_cases hs : neg p = neg q
  · rw [if_pos (by simp [hs]), words_f k _ _ (by omega) (by omega), Option.bind_some]
    by_cases hn : nu p = nu q
    · rw [if_pos (by simp [hn]), words_f k _ _ (by omega) (by omega), Option.bind_some]
      congr 1
      rw [decide_eq_decide]
      exact ⟨fun h => rep_inj hs hn h, fun h => by rw [h]⟩
    · rw [if_neg (by simp [hn])]
      congr 1
      symm
      rw [decide_eq_false_iff_not]
      exact fun h => hn (by rw [h])
  · rw [if_neg (by simpa using hs)]
    congr 1
    symm
    rw [decide_eq_false_iff_not]
    exact fun h => hs (by rw [h])
end Go.Proofs.Ytgjmlbcpjjpegaa.RT
