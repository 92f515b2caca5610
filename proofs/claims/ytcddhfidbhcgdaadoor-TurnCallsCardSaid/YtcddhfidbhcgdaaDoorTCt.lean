import Derived.Laws.BitsLemmas
import Derived.Laws.Strings
import Derived.Lib.ParseIntBTie
import Derived.Test.YtcddhfidbhcgdaaDoorTBa
import Derived.Test.YtcddhfidbhcgdaaDoorDig
/- Texts of turns, what is read. -/
set_option linter.unusedVariables false
set_option linter.unusedSimpArgs false
namespace Go.Proofs.YtcddhfidbhcgdaaDoor.TG
open Go Go.RowKit Go.Proofs.YtcddhfidbhcgdaaDoor.PK8 Go.Proofs.YtcddhfidbhcgdaaDoorW.PrintWords
/-! ### texts -/
def bs (l : List UInt8) : ByteArray := ⟨l.toArray⟩
theorem bs_list (l : List UInt8) : (bs l).toList = l := by rw [ByteArray.toList_eq]; rfl
theorem app_list (a b : ByteArray) : (a ++ b).toList = a.toList ++ b.toList := by
  rw [ByteArray.toList_eq, ByteArray.toList_eq, ByteArray.toList_eq, ByteArray.data_append, Array.toList_append]
theorem format_f {n : Int} (h0 : 0 ≤ n) (h1 : n ≤ 9223372036854775807) : strconv_FormatInt.f n 10 = some (bs (Lib.itoa n)) := by
  unfold strconv_FormatInt.f
  rw [if_pos ⟨by omega, h1, rfl⟩]
  rfl
theorem itoa_sz' {n : Int} (h0 : 0 ≤ n) (h1 : n ≤ 9223372036854775807) : (bs (Lib.itoa n)).size ≤ 21 := itoa_sz (format_f h0 h1)
theorem sz1 (c : UInt8) : (⟨#[c]⟩ : ByteArray).size = 1 := rfl
def txt (p u : Int) : List UInt8 := Lib.itoa p ++ 47 :: Lib.itoa u
theorem print_ok (k : Nat) (hk : big ≤ k) {p u : Int} (h : Ok p u) : ∃ x : ByteArray, turn_Print.f k p u = some (x, 0) ∧ x.toList = txt p u := by
  have c := chk_ok k hk h
  obtain ⟨⟨p0, pu, _⟩, u1⟩ := h
  unfold turn_Print.f
  have s1 := itoa_sz' (n := p) (by omega) (by omega)
  have s2 := itoa_sz' (n := u) (by omega) (by omega)
  rw [c, Option.bind_some, if_pos rfl, format_f (n := p) (by omega) (by omega), Option.bind_some, if_pos (by omega), format_f (n := u) (by omega) (by omega), Option.bind_some, if_pos (by rw [ByteArray.size_append, sz1]; omega)]
  refine ⟨_, rfl, ?_⟩
  simp only [app_list, bs_list]
  unfold txt
  rw [show (⟨#[47]⟩ : ByteArray).toList = [47] from bs_list [47]]
  simp
theorem print_bad (k : Nat) (hk : big ≤ k) {p u : Int} (h : ¬ Ok p u) : ∃ e, e ≠ 0 ∧ turn_Print.f k p u = some (⟨#[]⟩, e) := by
  obtain ⟨e, h1, h2⟩ := chk k hk p u
  have he : e ≠ 0 := fun he => h (h2.1 he)
  unfold turn_Print.f
  rw [h1, Option.bind_some, if_neg he]
  exact ⟨e, he, rfl⟩
/-! ### products; which is more -/
theorem wraps_u64 (n : Int) (h0 : 0 ≤ n) (h1 : n < 2 ^ 64) : IntKind.u64.wrap n = n := u64_in h0 (by have : (2 : Int) ^ 64 = 18446744073709551616 := by decide
                                                                                                     omega)
theorem and_mask {x : Int} (h0 : 0 ≤ x) (h1 : x < 18446744073709551616) : Go.bits .and .u64 x 4294967295 = x % 4294967296 :=
  bits_mask .u64 64 (by decide) wraps_u64 32 (by decide) x h0 h1
theorem mul64 {a b : Int} (a0 : 0 ≤ a) (a1 : a < 4294967296) (b0 : 0 ≤ b) (b1 : b < 4294967296) : bits_Mul64.f a b = some (0, a * b) := by
  have h1 : a * b ≤ 4294967295 * 4294967295 := mul_bd a0 b0 (by omega) (by omega)
  have h0 : 0 ≤ a * b := Int.mul_nonneg a0 b0
  unfold bits_Mul64.f
  rw [show a / 4294967296 = 0 by omega, show b / 4294967296 = 0 by omega, and_mask a0 (by omega), and_mask b0 (by omega), Int.emod_eq_of_lt a0 a1, Int.emod_eq_of_lt b0 b1]
  rw [u64_in h0 (by omega)]
  simp only [Int.zero_mul, Int.mul_zero]
  have d0 : 0 ≤ a * b / 4294967296 := by omega
  have d1 : a * b / 4294967296 < 4294967296 := by omega
  generalize a * b / 4294967296 = c at *
  rw [u64_in (x := 0) (by omega) (by omega)]
  simp only [Int.zero_add]
  have z : IntKind.u64.wrap 0 = 0 := u64_in (by omega) (by omega)
  simp [z, u64_in d0 (show c ≤ 18446744073709551615 by omega), and_mask d0 (by omega), Int.emod_eq_of_lt d0 d1, show c / 4294967296 = 0 by omega]
theorem mul64t {a : Int} (a0 : 0 ≤ a) (a1 : a < 4294967296) : bits_Mul64.f a 4294967296 = some (0, a * 4294967296) := by
  unfold bits_Mul64.f
  rw [show a / 4294967296 = 0 by omega, show (4294967296 : Int) / 4294967296 = 1 by decide, and_mask a0 (by omega), and_mask (x := 4294967296) (by omega) (by omega), Int.emod_eq_of_lt a0 a1, show (4294967296 : Int) % 4294967296 = 0 by decide]
  have z : IntKind.u64.wrap 0 = 0 := u64_in (by omega) (by omega)
  have m0 : Go.bits .and .u64 0 4294967295 = 0 := by rw [and_mask (by omega) (by omega)]; decide
  simp [z, m0, u64_in a0 (show a ≤ 18446744073709551615 by omega), u64_in (x := a * 4294967296) (by omega) (by omega), show a / 4294967296 = 0 by omega]
theorem mulw {a b : Int} (a0 : 0 ≤ a) (a1 : a < 4294967296) (b0 : 0 ≤ b) (b1 : b ≤ 4294967296) : bits_Mul64.f a b = some (0, a * b) := by
  by_cases h : b = 4294967296
  · subst h; exact mul64t a0 a1
  · exact mul64 a0 a1 b0 (by omega)
/-! ### which is more -/
def more (x y : Int) : Int := if x < y then -1 else if x = y then 0 else 1
theorem cmp_ok (k : Nat) (hk : big ≤ k) {p u a b : Int} (h : Ok p u) (h' : Ok a b) : turn_Compare.f k p u a b = some (more (p * b) (a * u), 0) := by
  have c := chk_ok k hk h
  have c' := chk_ok k hk h'
  obtain ⟨⟨p0, pu, _⟩, u1⟩ := h
  obtain ⟨⟨a0, ab, _⟩, b1⟩ := h'
  unfold turn_Compare.f
  rw [c, Option.bind_some, if_pos rfl, c', Option.bind_some, if_pos rfl]
  unfold turn_Compare.tail
  rw [if_pos (by omega), mulw (a := p) (b := b) (by omega) (by omega) (by omega) (by omega), Option.bind_some, mulw (a := a) (b := u) (by omega) (by omega) (by omega) (by omega), Option.bind_some]
  unfold turn_Compare.cmp more
  simp
theorem cmp_badl (k : Nat) (hk : big ≤ k) {p u : Int} (h : ¬ Ok p u) (a b : Int) : ∃ e, e ≠ 0 ∧ turn_Compare.f k p u a b = some (0, e) := by
  obtain ⟨e, h1, h2⟩ := chk k hk p u
  have he : e ≠ 0 := fun he => h (h2.1 he)
  unfold turn_Compare.f
  rw [h1, Option.bind_some, if_neg he]
  exact ⟨e, he, rfl⟩
theorem cmp_badr (k : Nat) (hk : big ≤ k) {p u a b : Int} (h : Ok p u) (h' : ¬ Ok a b) : ∃ e, e ≠ 0 ∧ turn_Compare.f k p u a b = some (0, e) := by
  obtain ⟨e, h1, h2⟩ := chk k hk a b
  have he : e ≠ 0 := fun he => h' (h2.1 he)
  unfold turn_Compare.f
  rw [chk_ok k hk h, Option.bind_some, if_pos rfl, h1, Option.bind_some, if_neg he]
  exact ⟨e, he, rfl⟩
end Go.Proofs.YtcddhfidbhcgdaaDoor.TG
