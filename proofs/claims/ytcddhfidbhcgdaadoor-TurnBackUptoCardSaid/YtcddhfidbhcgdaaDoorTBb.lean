import Derived.Laws.BitsLemmas
import Derived.Laws.Strings
import Derived.Lib.ParseIntBTie
import Derived.Test.YtcddhfidbhcgdaaDoorTBa
import Derived.Test.YtcddhfidbhcgdaaDoorDig
/- TurnBack as a plain law: texts of turns, what is read, which is more. -/
set_option linter.unusedVariables false
set_option linter.unusedSimpArgs false
namespace Go.Proofs.YtcddhfidbhcgdaaDoor.TG
open Go Go.RowKit Go.Proofs.YtcddhfidbhcgdaaDoor.PK8 Go.Proofs.YtcddhfidbhcgdaaDoorW.PrintWords
theorem wraps_u64 (n : Int) (h0 : 0 ≤ n) (h1 : n < 2 ^ 64) : IntKind.u64.wrap n = n := u64_in h0 (by have : (2 : Int) ^ 64 = 18446744073709551616 := by decide
                                                                                                     omega)
theorem and_mask {x : Int} (h0 : 0 ≤ x) (h1 : x < 18446744073709551616) : Go.bits .and .u64 x 4294967295 = x % 4294967296 :=
  bits_mask .u64 64 (by decide) wraps_u64 32 (by decide) x h0 h1
theorem mul64 {a b : Int} (a0 : 0 ≤ a) (a1 : a < 4294967296) (b0 : 0 ≤ b) (b1 : b < 4294967296) : bits_Mul64.f a b = some (0, a * b) := by
  have h1 : a * b ≤ 4294967295 * 4294967295 := mul_bd a0 b0 (by omega) (by omega)
  have h0 : 0 ≤ a * b := Int.mul_nonneg a0 b0
  unfold bits_Mul64.f
  rw [show a / 4294967296 = 0 by omega, show b / 4294967296 = 0 by omega, and_mask a0 (by omega), and_mask b0 (by omega), Int.emod_eq_of_lt a0 a1, Int.emod_eq_of_lt b0 b1]
  rw [u64_in h0 (by omega)]
  simp only [Int.zero_mul, Int.mul_zero]
  have d0 : 0 ≤ a * b / 4294967296 := by omega
  have d1 : a * b / 4294967296 < 4294967296 := by omega
  generalize a * b / 4294967296 = c at *
  rw [u64_in (x := 0) (by omega) (by omega)]
  simp only [Int.zero_add]
  have z : IntKind.u64.wrap 0 = 0 := u64_in (by omega) (by omega)
  simp [z, u64_in d0 (show c ≤ 18446744073709551615 by omega), and_mask d0 (by omega), Int.emod_eq_of_lt d0 d1, show c / 4294967296 = 0 by omega]
theorem mul64t {a : Int} (a0 : 0 ≤ a) (a1 : a < 4294967296) : bits_Mul64.f a 4294967296 = some (0, a * 4294967296) := by
  unfold bits_Mul64.f
  rw [show a / 4294967296 = 0 by omega, show (4294967296 : Int) / 4294967296 = 1 by decide, and_mask a0 (by omega), and_mask (x := 4294967296) (by omega) (by omega), Int.emod_eq_of_lt a0 a1, show (4294967296 : Int) % 4294967296 = 0 by decide]
  have z : IntKind.u64.wrap 0 = 0 := u64_in (by omega) (by omega)
  have m0 : Go.bits .and .u64 0 4294967295 = 0 := by rw [and_mask (by omega) (by omega)]; decide
  simp [z, m0, u64_in a0 (show a ≤ 18446744073709551615 by omega), u64_in (x := a * 4294967296) (by omega) (by omega), show a / 4294967296 = 0 by omega]
theorem mulw {a b : Int} (a0 : 0 ≤ a) (a1 : a < 4294967296) (b0 : 0 ≤ b) (b1 : b ≤ 4294967296) : bits_Mul64.f a b = some (0, a * b) := by
  by_cases h : b = 4294967296
  · subst h; exact mul64t a0 a1
  · exact mul64 a0 a1 b0 (by omega)
/-! ### texts -/
def bs (l : List UInt8) : ByteArray := ⟨l.toArray⟩
theorem bs_list (l : List UInt8) : (bs l).toList = l := by rw [ByteArray.toList_eq]; rfl
theorem app_list (a b : ByteArray) : (a ++ b).toList = a.toList ++ b.toList := by
  rw [ByteArray.toList_eq, ByteArray.toList_eq, ByteArray.toList_eq, ByteArray.data_append, Array.toList_append]
theorem format_f {n : Int} (h0 : 0 ≤ n) (h1 : n ≤ 9223372036854775807) : strconv_FormatInt.f n 10 = some (bs (Lib.itoa n)) := by
  unfold strconv_FormatInt.f
  rw [if_pos ⟨by omega, h1, rfl⟩]
  rfl
theorem itoa_sz' {n : Int} (h0 : 0 ≤ n) (h1 : n ≤ 9223372036854775807) : (bs (Lib.itoa n)).size ≤ 21 := itoa_sz (format_f h0 h1)
theorem sz1 (c : UInt8) : (⟨#[c]⟩ : ByteArray).size = 1 := rfl
def txt (p u : Int) : List UInt8 := Lib.itoa p ++ 47 :: Lib.itoa u
theorem print_ok (k : Nat) (hk : big ≤ k) {p u : Int} (h : Ok p u) : ∃ x : ByteArray, turn_Print.f k p u = some (x, 0) ∧ x.toList = txt p u := by
  have c := chk_ok k hk h
  obtain ⟨⟨p0, pu, _⟩, u1⟩ := h
  unfold turn_Print.f
  have s1 := itoa_sz' (n := p) (by omega) (by omega)
  have s2 := itoa_sz' (n := u) (by omega) (by omega)
  rw [c, Option.bind_some, if_pos rfl, format_f (n := p) (by omega) (by omega), Option.bind_some, if_pos (by omega), format_f (n := u) (by omega) (by omega), Option.bind_some, if_pos (by rw [ByteArray.size_append, sz1]; omega)]
  refine ⟨_, rfl, ?_⟩
  simp only [app_list, bs_list]
  unfold txt
  rw [show (⟨#[47]⟩ : ByteArray).toList = [47] from bs_list [47]]
  simp
theorem print_bad (k : Nat) (hk : big ≤ k) {p u : Int} (h : ¬ Ok p u) : ∃ e, e ≠ 0 ∧ turn_Print.f k p u = some (⟨#[]⟩, e) := by
  obtain ⟨e, h1, h2⟩ := chk k hk p u
  have he : e ≠ 0 := fun he => h (h2.1 he)
  unfold turn_Print.f
  rw [h1, Option.bind_some, if_neg he]
  exact ⟨e, he, rfl⟩
theorem parse_is (k : Nat) (hk : big ≤ k) (s : ByteArray) (hs : s.size ≤ 1048576) : turn_Parse.f k s = some (0, 0, 180) ∨ ∃ p u, Ok p u ∧ turn_Parse.f k s = some (p, u, 0) ∧ s.toList = txt p u := by
  unfold turn_Parse.f
  rw [if_pos hs]
  split
  · exact .inl rfl
  · unfold turn_Parse.tail
    generalize turn_Parse.pv (Lib.cut s.data.toList [47]).1 = p
    generalize turn_Parse.pv (Lib.cut s.data.toList [47]).2.1 = u
    by_cases h : Ok p u
    · obtain ⟨x, hx, hl⟩ := print_ok k hk h
      rw [hx, Option.bind_some]
      simp only [if_true, reduceIte]
      by_cases hq : x.toList = s.toList
      · rw [if_pos hq]
        exact .inr ⟨p, u, h, rfl, by rw [← hq, hl]⟩
      · rw [if_neg hq]
        exact .inl rfl
    · obtain ⟨e, he, hx⟩ := print_bad k hk h
      rw [hx, Option.bind_some]
      simp only
      rw [if_neg he]
      exact .inl rfl
theorem dec_len : ∀ (k u : Nat), u < 10 ^ (k + 1) → (Lib.decDigits u).length ≤ k + 1 := by
  intro k
  induction k with
  | zero =>
    intro u h
    rw [Nat.pow_succ, Nat.pow_zero] at h
    rw [Dig.dec_small (by omega)]; simp
  | succ k ih =>
    intro u h
    rw [Nat.pow_succ] at h
    by_cases h1 : u < 10
    · rw [Dig.dec_small h1]; simp
    · have := ih (u / 10) (by omega)
      rw [Dig.dec_step h1, List.length_append, List.length_singleton]
      omega
theorem len10 {n : Int} (h0 : 0 ≤ n) (h1 : n ≤ 4294967296) : (Lib.itoa n).length ≤ 10 := by
  rw [Dig.itoa_dec h0]
  exact dec_len 9 _ (by omega)
theorem pv_itoa {n : Int} (h0 : 0 ≤ n) (h1 : n ≤ 4294967296) : turn_Parse.pv (Lib.itoa n) = n := by
  unfold turn_Parse.pv
  rw [Lib.parseIntB_64, Dig.itoa_dec h0, Dig.atoi_dec _ (by omega)]
  show ((n.toNat : Nat) : Int) = n
  omega
theorem parse_txt (k : Nat) (hk : big ≤ k) {p u : Int} (h : Ok p u) (s : ByteArray) (hs : s.toList = txt p u) : turn_Parse.f k s = some (p, u, 0) := by
  obtain ⟨x, hx, hl⟩ := print_ok k hk h
  obtain ⟨⟨p0, pu, _⟩, u1⟩ := h
  have l1 := len10 (n := p) (by omega) (by omega)
  have l2 := len10 (n := u) (by omega) (by omega)
  have hz : s.size ≤ 1048576 := by
    have e : s.size = s.toList.length := by rw [ByteArray.toList_eq, Array.length_toList]; rfl
    rw [e, hs]
    unfold txt
    rw [List.length_append, List.length_cons]
    omega
  have hd : s.data.toList = Lib.itoa p ++ 47 :: Lib.itoa u := by rw [← ByteArray.toList_eq, hs]; rfl
  have hcut : Lib.cut s.data.toList [47] = (Lib.itoa p, Lib.itoa u, true) := by
    rw [hd]
    refine Dig.cut_sep 47 _ _ ?_
    rw [Dig.itoa_dec p0]
    exact Dig.dg_not (Dig.dec_dg _) (.inl (by decide))
  unfold turn_Parse.f
  rw [if_pos hz, hcut]
  simp only
  rw [if_neg (by omega), pv_itoa (by omega) (by omega), pv_itoa (by omega) (by omega)]
  unfold turn_Parse.tail
  rw [hx, Option.bind_some]
  simp only [if_true, reduceIte]
  rw [if_pos (by rw [hl, hs])]
theorem of_ok (k : Nat) (hk : big ≤ k) {p u : Int} (h : Ok p u) : turn_Of.f k p u = some (p, u, 0) := by
  have hl := h.toLow
  obtain ⟨⟨p0, pu, _⟩, u1⟩ := h
  unfold turn_Of.f
  rw [if_neg (by omega), if_neg (by omega), if_neg (by omega), Int.tmod_eq_emod_of_nonneg p0, Int.emod_eq_of_lt p0 pu, wrap64_in (by omega) (by omega), Int.tmod_eq_emod_of_nonneg (by omega), Int.add_emod_right, Int.emod_eq_of_lt p0 pu, u64_in p0 (by omega), u64_in (x := u) (by omega) (by omega)]
  obtain ⟨p', w', hl', hq, hle, hf⟩ := low k hk (P := p) (W := u) p0 pu (by omega)
  obtain ⟨rfl, rfl⟩ := uniq hl' hl (by rw [hq]; exact Same.refl _)
  rw [hf, if_neg (by omega), Option.bind_some]
/-! ### which is more -/
def more (x y : Int) : Int := if x < y then -1 else if x = y then 0 else 1
theorem cmp_ok (k : Nat) (hk : big ≤ k) {p u a b : Int} (h : Ok p u) (h' : Ok a b) : turn_Compare.f k p u a b = some (more (p * b) (a * u), 0) := by
  have c := chk_ok k hk h
  have c' := chk_ok k hk h'
  obtain ⟨⟨p0, pu, _⟩, u1⟩ := h
  obtain ⟨⟨a0, ab, _⟩, b1⟩ := h'
  unfold turn_Compare.f
  rw [c, Option.bind_some, if_pos rfl, c', Option.bind_some, if_pos rfl]
  unfold turn_Compare.tail
  rw [if_pos (by omega), mulw (a := p) (b := b) (by omega) (by omega) (by omega) (by omega), Option.bind_some, mulw (a := a) (b := u) (by omega) (by omega) (by omega) (by omega), Option.bind_some]
  unfold turn_Compare.cmp more
  simp
theorem cmp_badl (k : Nat) (hk : big ≤ k) {p u : Int} (h : ¬ Ok p u) (a b : Int) : ∃ e, e ≠ 0 ∧ turn_Compare.f k p u a b = some (0, e) := by
  obtain ⟨e, h1, h2⟩ := chk k hk p u
  have he : e ≠ 0 := fun he => h (h2.1 he)
  unfold turn_Compare.f
  rw [h1, Option.bind_some, if_neg he]
  exact ⟨e, he, rfl⟩
theorem cmp_badr (k : Nat) (hk : big ≤ k) {p u a b : Int} (h : Ok p u) (h' : ¬ Ok a b) : ∃ e, e ≠ 0 ∧ turn_Compare.f k p u a b = some (0, e) := by
  obtain ⟨e, h1, h2⟩ := chk k hk a b
  have he : e ≠ 0 := fun he => h' (h2.1 he)
  unfold turn_Compare.f
  rw [chk_ok k hk h, Option.bind_some, if_pos rfl, h1, Option.bind_some, if_neg he]
  exact ⟨e, he, rfl⟩
theorem more_neg (x y : Int) : more x y = wrap64 (-more y x) := by
  unfold more wrap64
  by_cases h1 : x < y
  · rw [if_pos h1, if_neg (by omega), if_neg (by omega)]; decide
  · rw [if_neg h1]
    by_cases h2 : x = y
    · rw [if_pos h2, if_neg (by omega), if_pos h2.symm]; decide
    · rw [if_neg h2, if_pos (by omega)]; decide
theorem more_zero {x y : Int} : more x y = 0 ↔ x = y := by
  unfold more
  by_cases h1 : x < y
  · rw [if_pos h1]; omega
  · rw [if_neg h1]
    by_cases h2 : x = y
    · rw [if_pos h2]; simp [h2]
    · rw [if_neg h2]; simp [h2]
theorem same_iff {p u a b : Int} (h : Ok p u) (h' : Ok a b) : p * b = a * u ↔ p = a ∧ u = b := by
  constructor
  · intro e
    have u0 : 0 < u := by have := h.p0; have := h.pw; omega
    have b0 : 0 < b := by have := h'.p0; have := h'.pw; omega
    have n1 := cast_ne u0
    have n2 := cast_ne b0
    refine uniq h.toLow h'.toLow ?_
    have e1 : (p : Rat) * b = a * u := by exact_mod_cast e
    have : q p u = q a b := by unfold q; grind
    rw [this]
    exact Same.refl _
  · rintro ⟨rfl, rfl⟩
    rfl
theorem j1_ok (k : Nat) (hk : big ≤ k) (s : ByteArray) (hs : s.size ≤ 1048576) : slackwaterlaw08_TurnBack.j1 (k + 1) s = some true := by
  simp only [slackwaterlaw08_TurnBack.j1]
  rcases parse_is k hk s hs with e | ⟨p, u, h, e, hl⟩
  · rw [e, Option.bind_some]; rfl
  · obtain ⟨x, hx, hq⟩ := print_ok k hk h
    rw [e, Option.bind_some]
    simp only [if_true, reduceIte]
    rw [hx, Option.bind_some]
    simp only [if_true, reduceIte]
    rw [hq, hl]
    simp
theorem j0_ok (k : Nat) (hk : big + 2 ≤ k) (s : ByteArray) (hs : s.size ≤ 1048576) {p u : Int} (h : Ok p u) (a b : Int) : slackwaterlaw08_TurnBack.j0 k s false p u a b = some true := by
  obtain ⟨k, rfl⟩ : ∃ j, k = j + 2 := ⟨k - 2, by omega⟩
  have hj := j1_ok k (by omega) s hs
  simp only [slackwaterlaw08_TurnBack.j0]
  rw [if_neg (by simp)]
  by_cases h' : Ok a b
  · rw [cmp_ok (k + 1) (by omega) h h', Option.bind_some, cmp_ok (k + 1) (by omega) h' h, Option.bind_some]
    simp only [if_true, reduceIte]
    rw [if_pos (more_neg _ _), if_neg, hj]
    have hz := more_zero (x := p * b) (y := a * u)
    have hi := same_iff h h'
    by_cases hq : p * b = a * u
    · obtain ⟨rfl, rfl⟩ := hi.1 hq
      simp [hz.2 rfl]
    · have h1 : ¬ (p = a ∧ u = b) := fun hh => hq (hi.2 hh)
      have h2 : ¬ more (p * b) (a * u) = 0 := fun hh => hq (hz.1 hh)
      have e1 : (more (p * b) (a * u) == 0) = false := beq_eq_false_iff_ne.2 h2
      have e2 : (p == a && (u == b)) = false := by
        rw [Bool.and_eq_false_iff]
        by_cases hp : p = a
        · exact .inr (beq_eq_false_iff_ne.2 (fun e => h1 ⟨hp, e⟩))
        · exact .inl (beq_eq_false_iff_ne.2 hp)
      rw [e1, e2]
      simp
  · obtain ⟨e, he, hc⟩ := cmp_badr (k + 1) (by omega) h h'
    obtain ⟨e', he', hc'⟩ := cmp_badl (k + 1) (by omega) h' p u
    rw [hc, Option.bind_some, hc', Option.bind_some]
    simp only
    rw [if_neg he, hj]
/-- TurnBack is true -/
theorem back (k : Nat) (hk : big + 10 ≤ k) (p u a b : Int) (s : ByteArray) (hs : s.size ≤ 1048576) : slackwaterlaw08_TurnBack.f k p u a b s = some true := by
  unfold slackwaterlaw08_TurnBack.f
  rw [show slackwaterlaw08_lives.f = some true from rfl, Option.bind_some, if_pos rfl]
  by_cases h : Ok p u
  · obtain ⟨x, hx, hl⟩ := print_ok k (by omega) h
    rw [hx, Option.bind_some]
    simp only [if_true, reduceIte]
    rw [parse_txt k (by omega) h x hl, Option.bind_some, of_ok k (by omega) h, Option.bind_some]
    simp only [if_true, reduceIte, beq_self_eq_true, Bool.not_true, Bool.or_self, Bool.false_eq_true]
    exact j0_ok k (by omega) s hs h a b
  · obtain ⟨e, he, hx⟩ := print_bad k (by omega) h
    rw [hx, Option.bind_some]
    simp only
    rw [if_neg he]
    obtain ⟨k, rfl⟩ : ∃ j, k = j + 1 := ⟨k - 1, by omega⟩
    exact j1_ok k (by omega) s hs
end Go.Proofs.YtcddhfidbhcgdaaDoor.TG
