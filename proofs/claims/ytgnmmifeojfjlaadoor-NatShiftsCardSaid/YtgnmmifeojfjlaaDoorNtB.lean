import Derived.Test.YtgnmmifeojfjlaaDoorPK1x
import Derived.Test.YtgnmmifeojfjlaaDoorNtP
/- What the laws' own helpers answer, at numbers told by their values. -/
set_option linter.unusedVariables false
set_option linter.unusedSimpArgs false
namespace Go.Proofs.YtgnmmifeojfjlaaDoor.NT
open Go.RowKit Go.Proofs.YtgnmmifeojfjlaaDoor.PK1 Go.Proofs.YtgnmmifeojfjlaaDoorW.PrintWords Q
theorem wrap64_in {x : Int} (h0 : -9223372036854775808 ≤ x) (h1 : x ≤ 9223372036854775807) : wrap64 x = x := by unfold wrap64; omega
theorem rd_at (xs : List Int) {i : Nat} (h : i < xs.length) : rd xs (i : Int) = xs[i] := by
  unfold rd; simp [List.getD_eq_getElem?_getD, List.getElem?_eq_getElem h]
theorem same_l (xs ys : List Int) (hl : xs.length = ys.length) (hm : xs.length ≤ 1000000) (d : Nat) : ∀ (k i : Nat), i + d = xs.length → d < k → slackwaterkit_SameWords.l0 k xs ys i = some (decide (xs.drop i = ys.drop i)) := by
  induction d with
  | zero =>
    intro k i hi hk
    obtain ⟨k, rfl⟩ : ∃ m, k = m + 1 := ⟨k - 1, by omega⟩
    simp only [slackwaterkit_SameWords.l0]
    rw [if_neg (by omega), List.drop_of_length_le (by omega), List.drop_of_length_le (by omega)]
    simp
  | succ d ih =>
    intro k i hi hk
    obtain ⟨k, rfl⟩ : ∃ m, k = m + 1 := ⟨k - 1, by omega⟩
    simp only [slackwaterkit_SameWords.l0]
    have hx : i < xs.length := by omega
    have hy : i < ys.length := by omega
    rw [if_pos (by omega), if_pos (by omega), if_pos (by omega), rd_at xs hx, rd_at ys hy, wrap64_in (by omega) (by omega)]
    by_cases he : xs[i] = ys[i]
    · have e : ((i : Int) + 1) = ((i + 1 : Nat) : Int) := by omega
      rw [if_pos he, e, ih k (i + 1) (by omega) (by omega)]
      congr 1
      rw [decide_eq_decide, List.drop_eq_getElem_cons hx, List.drop_eq_getElem_cons hy, he]
      exact ⟨fun h => by rw [h], fun h => by injection h⟩
    · rw [if_neg he]
      congr 1
      symm
      rw [decide_eq_false_iff_not, List.drop_eq_getElem_cons hx, List.drop_eq_getElem_cons hy]
      intro h
      injection h with h1 _
      exact he h1
theorem same_f (k : Nat) (xs ys : List Int) (hk : xs.length < k) (hm : xs.length ≤ 1000000) : slackwaterkit_SameWords.f k xs ys = some (decide (xs = ys)) := by
  unfold slackwaterkit_SameWords.f
  by_cases hl : xs.length = ys.length
  · rw [if_pos (by omega)]
    have := same_l xs ys hl hm xs.length k 0 (by omega) hk
    simpa using this
  · rw [if_neg (by omega)]
    congr 1
    symm
    rw [decide_eq_false_iff_not]
    intro h
    exact hl (by rw [h])
theorem same_nw (k : Nat) {a b : Int} (a0 : 0 ≤ a) (b0 : 0 ≤ b) (ha : a < Bp 400) (hk : 500 ≤ k) : slackwaterkit_SameWords.f k (nw a) (nw b) = some (decide (a = b)) := by
  have hl := nw_len ha a0
  rw [same_f k _ _ (by omega) (by omega)]
  congr 1
  rw [decide_eq_decide]
  exact nw_inj a0 b0
theorem same_eq (k : Nat) {a : Int} (a0 : 0 ≤ a) (ha : a < Bp 400) (hk : 500 ≤ k) : slackwaterkit_SameWords.f k (nw a) (nw a) = some true := by
  rw [same_nw k a0 a0 ha hk]; simp
theorem big8 : Bp 400 < Bp 8192 := by
  have h1 : Bp 401 = 4294967296 * Bp 400 := Bp_succ 400
  have h2 := Bp_pos 400
  have h3 := Bp_mono (show 401 ≤ 8192 by omega)
  omega
theorem okw_400 {a : Int} (a0 : 0 ≤ a) (ha : a < Bp 400) : okw (nw a) = true := okw_nw a0 ha (by omega)
/-- a number of at most n words -/
structure Sm (n : Nat) (a : Int) : Prop where
  le : 0 ≤ a
  lt : a < Bp n
theorem Sm.up {m n : Nat} {a : Int} (h : Sm m a) (hmn : m ≤ n) : Sm n a := ⟨h.le, by have := Bp_mono hmn; have := h.lt; omega⟩
theorem Sm.add {n : Nat} {a b : Int} (h : Sm n a) (k : Sm n b) : Sm (n + 1) (a + b) := ⟨by have := h.le; have := k.le; omega, Bp_add_lt h.lt k.lt⟩
theorem Sm.mul {m n : Nat} {a b : Int} (h : Sm m a) (k : Sm n b) : Sm (m + n) (a * b) := ⟨Int.mul_nonneg h.le k.le, Bp_mul_lt h.le k.le h.lt k.lt⟩
theorem nadd {a b : Int} (h : Sm 399 a) (k : Sm 399 b) : nat_Add.f (nw a) (nw b) = some (nw (a + b), 0) := by
  have hs := h.add k
  have := big8
  have h' := h.up (show 399 ≤ 400 by omega)
  have k' := k.up (show 399 ≤ 400 by omega)
  have hs' : a + b < Bp 400 := hs.lt
  unfold nat_Add.f
  rw [if_pos ⟨okw_400 h.le h'.lt, okw_400 k.le k'.lt⟩, addC_nw h.le k.le (by omega)]
theorem ndiv {a b : Int} (h : Sm 400 a) (k : Sm 400 b) : nat_DivMod.f (nw a) (nw b) = some (if b = 0 then ([], [], 7) else (nw (a / b), nw (a % b), 0)) := by
  have := big8
  have h1 := h.lt
  have h2 := k.lt
  unfold nat_DivMod.f
  rw [if_pos ⟨okw_400 h.le h.lt, okw_400 k.le k.lt⟩, divC_nw h.le k.le (by omega) (by omega)]
theorem put_f (l : List Int) (hW : Wds l) : ∃ a, Sm 60 a ∧ slackwaterlaw01_put.f l = some (nw a) ∧ a = val (l.take 60) := by
  have hT := hW.take 60
  have hl : (l.take 60).length ≤ 60 := by rw [List.length_take]; omega
  have hk : okw (l.take 60) = true := okw_iff.2 ⟨by omega, hT⟩
  have hv := val_lt hT
  have hm := Bp_mono hl
  refine ⟨val (l.take 60), ⟨val_nonneg hT, by omega⟩, ?_, rfl⟩
  have h1 : nat_Trim.f (l.take 60) = some (nw (val (l.take 60))) := by
    unfold nat_Trim.f
    rw [if_pos hk, nw_trim hT]
  unfold slackwaterlaw01_put.f
  by_cases h60 : (l.length : Int) > 60
  · rw [if_pos h60, if_pos (by omega), h1, Option.bind_some]
  · rw [if_neg h60]
    rw [List.take_of_length_le (by omega)] at h1 ⊢
    rw [h1, Option.bind_some]
theorem awake_50 : slackwaterlaw01_awake.f 50 = some true := by decide +kernel
theorem awake (k : Nat) (hk : 50 ≤ k) : slackwaterlaw01_awake.f k = some true := at_rounds (g := fun k => slackwaterlaw01_awake.f k) (fun k => slackwaterlaw01_awake.mono k) hk awake_50
theorem cmp_neg (a b : Int) : cmp a b = wrap64 (-cmp b a) := by
  unfold cmp wrap64
  by_cases h1 : a < b
  · rw [if_pos h1, if_neg (by omega), if_neg (by omega)]; decide
  · rw [if_neg h1]
    by_cases h2 : a = b
    · rw [if_pos h2, if_neg (by omega), if_pos h2.symm]; decide
    · rw [if_neg h2, if_pos (by omega)]; decide
theorem cmp_zero (a b : Int) : (cmp a b == 0) = decide (a = b) := by
  unfold cmp
  by_cases h1 : a < b
  · rw [if_pos h1, decide_eq_false (by omega)]; rfl
  · rw [if_neg h1]
    by_cases h2 : a = b
    · rw [if_pos h2, decide_eq_true h2]; rfl
    · rw [if_neg h2, decide_eq_false h2]; rfl
theorem cmp_add (a b c : Int) : cmp (a + c) (b + c) = cmp a b := by
  unfold cmp
  by_cases h1 : a < b
  · rw [if_pos h1, if_pos (by omega)]
  · rw [if_neg h1, if_neg (by omega)]
    by_cases h2 : a = b
    · rw [if_pos h2, if_pos (by omega)]
    · rw [if_neg h2, if_neg (by omega)]
theorem cmp_ge (a b : Int) : decide (cmp a b ≥ 0) = !decide (a < b) := by
  unfold cmp
  by_cases h1 : a < b
  · rw [if_pos h1, decide_eq_true h1]; rfl
  · rw [if_neg h1, decide_eq_false h1]
    by_cases h2 : a = b
    · rw [if_pos h2]; rfl
    · rw [if_neg h2]; rfl
end Go.Proofs.YtgnmmifeojfjlaaDoor.NT
