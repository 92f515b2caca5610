import Derived.Laws.Strings
import Derived.Lib.ParseIntBTie
import Derived.Test.YtcddhfidbhcgdaaDoorTBa
import Derived.Test.YtcddhfidbhcgdaaDoorDig
/- Texts of turns, what is read. -/
set_option linter.unusedVariables false
set_option linter.unusedSimpArgs false
namespace Go.Proofs.YtcddhfidbhcgdaaDoor.TG
open Go Go.RowKit Go.Proofs.YtcddhfidbhcgdaaDoor.PK8 Go.Proofs.YtcddhfidbhcgdaaDoorW.PrintWords
/-! ### texts -/
def bs (l : List UInt8) : ByteArray := ⟨l.toArray⟩
theorem bs_list (l : List UInt8) : (bs l).toList = l := by rw [ByteArray.toList_eq]; rfl
theorem app_list (a b : ByteArray) : (a ++ b).toList = a.toList ++ b.toList := by
  rw [ByteArray.toList_eq, ByteArray.toList_eq, ByteArray.toList_eq, ByteArray.data_append, Array.toList_append]
theorem format_f {n : Int} (h0 : 0 ≤ n) (h1 : n ≤ 9223372036854775807) : strconv_FormatInt.f n 10 = some (bs (Lib.itoa n)) := by
  unfold strconv_FormatInt.f
  rw [if_pos ⟨by omega, h1, rfl⟩]
  rfl
theorem itoa_sz' {n : Int} (h0 : 0 ≤ n) (h1 : n ≤ 9223372036854775807) : (bs (Lib.itoa n)).size ≤ 21 := itoa_sz (format_f h0 h1)
theorem sz1 (c : UInt8) : (⟨#[c]⟩ : ByteArray).size = 1 := rfl
def txt (p u : Int) : List UInt8 := Lib.itoa p ++ 47 :: Lib.itoa u
theorem print_ok (k : Nat) (hk : big ≤ k) {p u : Int} (h : Ok p u) : ∃ x : ByteArray, turn_Print.f k p u = some (x, 0) ∧ x.toList = txt p u := by
  have c := chk_ok k hk h
  obtain ⟨⟨p0, pu, _⟩, u1⟩ := h
  unfold turn_Print.f
  have s1 := itoa_sz' (n := p) (by omega) (by omega)
  have s2 := itoa_sz' (n := u) (by omega) (by omega)
  rw [c, Option.bind_some, if_pos rfl, format_f (n := p) (by omega) (by omega), Option.bind_some, if_pos (by omega), format_f (n := u) (by omega) (by omega), Option.bind_some, if_pos (by rw [ByteArray.size_append, sz1]; omega)]
  refine ⟨_, rfl, ?_⟩
  simp only [app_list, bs_list]
  unfold txt
  rw [show (⟨#[47]⟩ : ByteArray).toList = [47] from bs_list [47]]
  simp
theorem print_bad (k : Nat) (hk : big ≤ k) {p u : Int} (h : ¬ Ok p u) : ∃ e, e ≠ 0 ∧ turn_Print.f k p u = some (⟨#[]⟩, e) := by
  obtain ⟨e, h1, h2⟩ := chk k hk p u
  have he : e ≠ 0 := fun he => h (h2.1 he)
  unfold turn_Print.f
  rw [h1, Option.bind_some, if_neg he]
  exact ⟨e, he, rfl⟩
theorem parse_is (k : Nat) (hk : big ≤ k) (s : ByteArray) (hs : s.size ≤ 1048576) : turn_Parse.f k s = some (0, 0, 180) ∨ ∃ p u, Ok p u ∧ turn_Parse.f k s = some (p, u, 0) ∧ s.toList = txt p u := by
  unfold turn_Parse.f
  rw [if_pos hs]
  split
  · exact .inl rfl
  · unfold turn_Parse.tail
    generalize turn_Parse.pv (Lib.cut s.data.toList [47]).1 = p
    generalize turn_Parse.pv (Lib.cut s.data.toList [47]).2.1 = u
    by_cases h : Ok p u
    · obtain ⟨x, hx, hl⟩ := print_ok k hk h
      rw [hx, Option.bind_some]
      simp only [if_true, reduceIte]
      by_cases hq : x.toList = s.toList
      · rw [if_pos hq]
        exact .inr ⟨p, u, h, rfl, by rw [← hq, hl]⟩
      · rw [if_neg hq]
        exact .inl rfl
    · obtain ⟨e, he, hx⟩ := print_bad k hk h
      rw [hx, Option.bind_some]
      simp only
      rw [if_neg he]
      exact .inl rfl
theorem dec_len : ∀ (k u : Nat), u < 10 ^ (k + 1) → (Lib.decDigits u).length ≤ k + 1 := by
  intro k
  induction k with
  | zero =>
    intro u h
    rw [Nat.pow_succ, Nat.pow_zero] at h
    rw [Dig.dec_small (by omega)]; simp
  | succ k ih =>
    intro u h
    rw [Nat.pow_succ] at h
    by_cases h1 : u < 10
    · rw [Dig.dec_small h1]; simp
    · have := ih (u / 10) (by omega)
      rw [Dig.dec_step h1, List.length_append, List.length_singleton]
      omega
theorem len10 {n : Int} (h0 : 0 ≤ n) (h1 : n ≤ 4294967296) : (Lib.itoa n).length ≤ 10 := by
  rw [Dig.itoa_dec h0]
  exact dec_len 9 _ (by omega)
theorem pv_itoa {n : Int} (h0 : 0 ≤ n) (h1 : n ≤ 4294967296) : turn_Parse.pv (Lib.itoa n) = n := by
  unfold turn_Parse.pv
  rw [Lib.parseIntB_64, Dig.itoa_dec h0, Dig.atoi_dec _ (by omega)]
  show ((n.toNat : Nat) : Int) = n
  omega
theorem parse_txt (k : Nat) (hk : big ≤ k) {p u : Int} (h : Ok p u) (s : ByteArray) (hs : s.toList = txt p u) : turn_Parse.f k s = some (p, u, 0) := by
  obtain ⟨x, hx, hl⟩ := print_ok k hk h
  obtain ⟨⟨p0, pu, _⟩, u1⟩ := h
  have l1 := len10 (n := p) (by omega) (by omega)
  have l2 := len10 (n := u) (by omega) (by omega)
  have hz : s.size ≤ 1048576 := by
    have e : s.size = s.toList.length := by rw [ByteArray.toList_eq, Array.length_toList]; rfl
    rw [e, hs]
    unfold txt
    rw [List.length_append, List.length_cons]
    omega
  have hd : s.data.toList = Lib.itoa p ++ 47 :: Lib.itoa u := by rw [← ByteArray.toList_eq, hs]; rfl
  have hcut : Lib.cut s.data.toList [47] = (Lib.itoa p, Lib.itoa u, true) := by
    rw [hd]
    refine Dig.cut_sep 47 _ _ ?_
    rw [Dig.itoa_dec p0]
    exact Dig.dg_not (Dig.dec_dg _) (.inl (by decide))
  unfold turn_Parse.f
  rw [if_pos hz, hcut]
  simp only
  rw [if_neg (by omega), pv_itoa (by omega) (by omega), pv_itoa (by omega) (by omega)]
  unfold turn_Parse.tail
  rw [hx, Option.bind_some]
  simp only [if_true, reduceIte]
  rw [if_pos (by rw [hl, hs])]
theorem of_ok (k : Nat) (hk : big ≤ k) {p u : Int} (h : Ok p u) : turn_Of.f k p u = some (p, u, 0) := by
  have hl := h.toLow
  obtain ⟨⟨p0, pu, _⟩, u1⟩ := h
  unfold turn_Of.f
  rw [if_neg (by omega), if_neg (by omega), if_neg (by omega), Int.tmod_eq_emod_of_nonneg p0, Int.emod_eq_of_lt p0 pu, wrap64_in (by omega) (by omega), Int.tmod_eq_emod_of_nonneg (by omega), Int.add_emod_right, Int.emod_eq_of_lt p0 pu, u64_in p0 (by omega), u64_in (x := u) (by omega) (by omega)]
  obtain ⟨p', w', hl', hq, hle, hf⟩ := low k hk (P := p) (W := u) p0 pu (by omega)
  obtain ⟨rfl, rfl⟩ := uniq hl' hl (by rw [hq]; exact Same.refl _)
  rw [hf, if_neg (by omega), Option.bind_some]
end Go.Proofs.YtcddhfidbhcgdaaDoor.TG
