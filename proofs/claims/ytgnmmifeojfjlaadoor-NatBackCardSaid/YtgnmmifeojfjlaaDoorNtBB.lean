import Derived.Lib.Split
import Derived.Lib.AtoiAll
import Derived.Lib.ItoaNum
import Derived.Test.YtgnmmifeojfjlaaDoorNtNu
import Derived.Test.YtgnmmifeojfjlaaDoorPK1x
import Derived.Test.YtgnmmifeojfjlaaDoorNtP
import Derived.Lib.SmallJoins
import Derived.Test.YtgnmmifeojfjlaaDoorNtA
import Derived.SizedLaws
import Derived.ChangeSlices
import Derived.WalkKit
import Derived.ProofKit
import Derived.OpenShut
import Derived.ShutString
import Derived.ChangeOld
import Derived.Below
import Derived.Test.YtgnmmifeojfjlaaDoorQMem
import Derived.Test.YtgnmmifeojfjlaaDoorRows
import Derived.Test.YtgnmmifeojfjlaaDoorGLaid1
import Derived.Lib.LaidTab
import Derived.Stop.LaidErr
import Derived.Shelf.Vars
import Derived.MakeChecks
import Derived.Lay
import Derived.LaidLaws
/- Numerals: what they are read as; texts cut at a sign. Plain laws over the library's own words. -/
set_option linter.unusedVariables false
set_option linter.unusedSimpArgs false
namespace Dig
open Go Go.Lib
/-- all bytes are digits -/
def Dg (l : List UInt8) : Prop := ∀ c ∈ l, 48 ≤ c.toNat ∧ c.toNat ≤ 57
theorem dg_one (u : Nat) (h : u < 10) : 48 ≤ (UInt8.ofNat (48 + u)).toNat ∧ (UInt8.ofNat (48 + u)).toNat ≤ 57 ∧ (UInt8.ofNat (48 + u)).toNat - 48 = u := by
  have : (UInt8.ofNat (48 + u)).toNat = 48 + u := by simp; omega
  omega
theorem dec_small {u : Nat} (h : u < 10) : decDigits u = [UInt8.ofNat (48 + u)] := decDigits_one h
theorem dec_step {u : Nat} (h : ¬ u < 10) : decDigits u = decDigits (u / 10) ++ [UInt8.ofNat (48 + u % 10)] := by
  rw [decDigits, dif_neg h]
theorem dec_dg (u : Nat) : Dg (decDigits u) := by
  induction u using Nat.strongRecOn with
  | ind u ih =>
    by_cases h : u < 10
    · rw [dec_small h]
      intro c hc
      simp only [List.mem_singleton] at hc
      subst hc
      have := dg_one u h
      omega
    · rw [dec_step h]
      intro c hc
      simp only [List.mem_append, List.mem_singleton] at hc
      rcases hc with hc | rfl
      · exact ih (u / 10) (by omega) c hc
      · have := dg_one (u % 10) (by omega)
        omega
theorem dec_ne (u : Nat) : decDigits u ≠ [] := by
  by_cases h : u < 10
  · rw [dec_small h]; simp
  · rw [dec_step h]; simp
theorem parse_append (l r : List UInt8) : ∀ acc v, parseUint10 acc l = .ok v → parseUint10 acc (l ++ r) = parseUint10 v r := by
  induction l with
  | nil => intro acc v h; simp only [parseUint10] at h; injection h with h; subst h; rfl
  | cons c l ih =>
    intro acc v h
    simp only [List.cons_append, parseUint10] at h ⊢
    split at h
    · rename_i h1
      rw [if_pos h1]
      split at h
      · cases h
      · rename_i h2
        rw [if_neg h2]
        split at h
        · cases h
        · rename_i h3
          rw [if_neg h3]
          exact ih _ _ h
    · cases h
theorem parse_dec (u : Nat) (hu : u < 9223372036854775808) : parseUint10 0 (decDigits u) = .ok u := by
  induction u using Nat.strongRecOn with
  | ind u ih =>
    by_cases h : u < 10
    · rw [dec_small h]
      have := dg_one u h
      simp only [parseUint10]
      rw [if_pos ⟨this.1, this.2.1⟩, if_neg (by omega), if_neg (by omega), this.2.2]
      simp
    · rw [dec_step h, parse_append _ _ _ _ (ih (u / 10) (by omega) (by omega))]
      have := dg_one (u % 10) (by omega)
      simp only [parseUint10]
      rw [if_pos ⟨this.1, this.2.1⟩, if_neg (by omega), if_neg (by omega), this.2.2]
      congr 1
      omega
theorem atoi_dec (u : Nat) (hu : u < 9223372036854775808) : atoiAll (decDigits u) = .ok (u : Int) := by
  have hp := parse_dec u hu
  have hd := dec_dg u
  cases hl : decDigits u with
  | nil => exact absurd hl (dec_ne u)
  | cons c r =>
    rw [hl] at hp hd
    have hc := hd c (by simp)
    unfold atoiAll
    simp only
    rw [if_neg (by omega)]
    unfold parseMag
    rw [if_neg (by simp), hp]
    simp only
    rw [if_neg (by omega), if_neg (by omega), if_neg (by omega)]
theorem dec_inj {u v : Nat} (hu : u < 9223372036854775808) (hv : v < 9223372036854775808) (h : decDigits u = decDigits v) : u = v := by
  have h1 := parse_dec u hu
  have h2 := parse_dec v hv
  rw [h, h2] at h1
  injection h1 with h1
  exact h1.symm
/-! ### a sign in a text -/
theorem index_sep (c : UInt8) (b : List UInt8) : ∀ a : List UInt8, c ∉ a → index (a ++ c :: b) [c] = a.length
  | [], _ => by simp [index]
  | x :: a, h => by
    have hx : c ≠ x := fun e => h (by simp [e])
    have ih := index_sep c b a (fun e => h (by simp [e]))
    simp only [List.cons_append, index]
    rw [if_neg (by simp [List.isPrefixOf, hx]), ih, if_neg (by first | (simp; omega) | simp)]
    simp
theorem index_no (c : UInt8) : ∀ a : List UInt8, c ∉ a → index a [c] = -1
  | [], _ => by simp [index]
  | x :: a, h => by
    have hx : c ≠ x := fun e => h (by simp [e])
    have ih := index_no c a (fun e => h (by simp [e]))
    simp only [index]
    rw [if_neg (by simp [List.isPrefixOf, hx]), ih]
    simp
theorem cut_sep (c : UInt8) (a b : List UInt8) (h : c ∉ a) : cut (a ++ c :: b) [c] = (a, b, true) := by
  unfold cut
  rw [index_sep c b a h, if_pos (by omega)]
  simp
theorem split3 (x : UInt8) (a b c : List UInt8) (ha : x ∉ a) (hb : x ∉ b) (hc : x ∉ c) : splitK [x] 0 3 (a ++ x :: (b ++ x :: c)) = [a, b, c] := by
  unfold splitK
  rw [index_sep x _ a ha, if_neg (by first | (simp; omega) | simp)]
  simp only [Int.toNat_natCast, Nat.add_zero, List.take_left, List.length_cons, List.length_nil]
  rw [show (a ++ x :: (b ++ x :: c)).drop (a.length + (0 + 1)) = b ++ x :: c by rw [show a ++ x :: (b ++ x :: c) = (a ++ [x]) ++ (b ++ x :: c) by simp, List.drop_left' (by simp)]]
  unfold splitK
  rw [index_sep x _ b hb, if_neg (by first | (simp; omega) | simp)]
  simp only [Int.toNat_natCast, Nat.add_zero, List.take_left, List.length_cons, List.length_nil]
  rw [show (b ++ x :: c).drop (b.length + (0 + 1)) = c by rw [show b ++ x :: c = (b ++ [x]) ++ c by simp, List.drop_left' (by simp)]]
  unfold splitK
  rw [index_no x c hc]
  simp
theorem dg_not {l : List UInt8} (h : Dg l) {c : UInt8} (hc : c.toNat < 48 ∨ 57 < c.toNat) : c ∉ l := fun hm => by have := h c hm; omega
theorem itoa_dec {n : Int} (h : 0 ≤ n) : itoa n = decDigits n.toNat := by unfold itoa; rw [if_neg (by omega)]
end Dig

/- Numerals there and back: what decDigits writes, num reads. -/
set_option linter.unusedVariables false
set_option linter.unusedSimpArgs false
namespace Go.Proofs.YtgnmmifeojfjlaaDoor.PA
open Go Go.Lib
theorem num_snoc (l : List UInt8) (c : UInt8) (a : Nat) : num a (l ++ [c]) = num a l * 10 + (c.toNat - 48) := by
  rw [num_append, num_cons, num_nil]
theorem all_of_dg {l : List UInt8} (h : Dig.Dg l) : l.all dig = true := List.all_eq_true.2 (fun x hx => decide_eq_true (h x hx))
theorem dec_all (u : Nat) : (decDigits u).all dig = true := all_of_dg (Dig.dec_dg u)
theorem num_dec (u : Nat) : num 0 (decDigits u) = u := by
  induction u using Nat.strongRecOn with
  | ind u ih =>
    by_cases h : u < 10
    · rw [Dig.dec_small h, num_cons, num_nil]
      have := (Dig.dg_one u h).2.2
      omega
    · rw [Dig.dec_step h, num_snoc, ih (u / 10) (by omega), (Dig.dg_one (u % 10) (by omega)).2.2]
      omega
theorem num_pos {b : UInt8} {r : List UInt8} (h : (b :: r).all dig = true) (hb : b.toNat ≠ 48) : 1 ≤ num 0 (b :: r) := by
  rw [List.all_cons, Bool.and_eq_true] at h
  have h1 := of_decide_eq_true h.1
  rw [num_cons, num_acc]
  have hp : 1 ≤ 10 ^ r.length := Nat.pow_pos (by omega)
  have : 1 * 1 ≤ (0 * 10 + (b.toNat - 48)) * 10 ^ r.length := Nat.mul_le_mul (by omega) hp
  omega
/-- a numeral without a nought ahead -/
def Hd (l : List UInt8) : Prop := ∃ b r, l = b :: r ∧ (b.toNat ≠ 48 ∨ r = [])
theorem dig_back {c : UInt8} (h : dig c = true) : UInt8.ofNat (48 + (c.toNat - 48)) = c := by
  have := of_decide_eq_true h
  rw [show 48 + (c.toNat - 48) = c.toNat by omega, UInt8.ofNat_toNat]
theorem dec_num : ∀ (n : Nat) (l : List UInt8), l.length = n → l.all dig = true → Hd l → decDigits (num 0 l) = l
  | 0, l, hn, _, ⟨b, r, e, _⟩ => by rw [e] at hn; simp at hn
  | n + 1, l, hn, ha, hh => by
    obtain ⟨l', c, rfl⟩ : ∃ l' c, l = l' ++ [c] := ⟨l.dropLast, l.getLast (fun e => by rw [e] at hn; simp at hn), (List.dropLast_concat_getLast _).symm⟩
    rw [List.all_append, Bool.and_eq_true] at ha
    have hc : dig c = true := by simpa using ha.2
    have hc' := of_decide_eq_true hc
    rw [num_snoc]
    cases hl : l' with
    | nil =>
      rw [num_nil, Nat.zero_mul, Nat.zero_add, Dig.dec_small (by omega), dig_back hc]
      rfl
    | cons b r =>
      rw [hl] at ha hh hn
      obtain ⟨b', r', e, hb⟩ := hh
      rw [List.cons_append] at e
      injection e with e1 e2
      subst e1
      have hb : b.toNat ≠ 48 := by
        rcases hb with hb | hb
        · exact hb
        · rw [hb] at e2; simp at e2
      have hp := num_pos ha.1 hb
      have ih := dec_num n (b :: r) (by simpa using hn) ha.1 ⟨b, r, rfl, .inl hb⟩
      rw [Dig.dec_step (by omega), show (num 0 (b :: r) * 10 + (c.toNat - 48)) / 10 = num 0 (b :: r) by omega, show (num 0 (b :: r) * 10 + (c.toNat - 48)) % 10 = c.toNat - 48 by omega, ih, dig_back hc]
theorem dec_hd (u : Nat) : Hd (decDigits u) := by
  induction u using Nat.strongRecOn with
  | ind u ih =>
    by_cases h : u < 10
    · rw [Dig.dec_small h]; exact ⟨_, _, rfl, .inr rfl⟩
    · rw [Dig.dec_step h]
      obtain ⟨b, r, e, hb⟩ := ih (u / 10) (by omega)
      rw [e]
      refine ⟨b, r ++ [_], rfl, .inl ?_⟩
      rcases hb with hb | hb
      · exact hb
      · intro h48
        have := num_dec (u / 10)
        rw [e, hb, num_cons, num_nil, h48] at this
        omega
theorem dec_hd1 {u : Nat} (hu : 0 < u) : ∃ b r, decDigits u = b :: r ∧ b.toNat ≠ 48 := by
  obtain ⟨b, r, e, hb⟩ := dec_hd u
  refine ⟨b, r, e, ?_⟩
  rcases hb with hb | hb
  · exact hb
  · intro h48
    have := num_dec u
    rw [e, hb, num_cons, num_nil, h48] at this
    omega
theorem num_zeros : ∀ (n : Nat), num 0 (List.replicate n 48) = 0
  | 0 => rfl
  | n + 1 => by rw [List.replicate_succ, num_cons]; exact num_zeros n
theorem dec_len : ∀ (n u : Nat), u < 10 ^ (n + 1) → (decDigits u).length ≤ n + 1
  | 0, u, h => by rw [Dig.dec_small (by simpa using h)]; exact Nat.le_refl _
  | n + 1, u, h => by
    by_cases h10 : u < 10
    · rw [Dig.dec_small h10]; simp
    · rw [Dig.dec_step h10, List.length_append]
      have := dec_len n (u / 10) (by rw [Nat.pow_succ] at h; omega)
      simp only [List.length_cons, List.length_nil]
      omega
/-- nine digits of the rest behind the quotient's -/
theorem dec_split (v : Nat) (hv : 1000000000 ≤ v) : decDigits v = decDigits (v / 1000000000) ++ (List.replicate (9 - (decDigits (v % 1000000000)).length) 48 ++ decDigits (v % 1000000000)) := by
  have hr : v % 1000000000 < 1000000000 := Nat.mod_lt _ (by omega)
  have hl := dec_len 8 (v % 1000000000) (by simpa using hr)
  obtain ⟨b, r, e, hb⟩ := dec_hd1 (u := v / 1000000000) (by omega)
  have hn : num 0 (decDigits (v / 1000000000) ++ (List.replicate (9 - (decDigits (v % 1000000000)).length) 48 ++ decDigits (v % 1000000000))) = v := by
    rw [num_append, num_dec, num_acc, num_append, num_zeros, num_dec, List.length_append, List.length_replicate, show 9 - (decDigits (v % 1000000000)).length + (decDigits (v % 1000000000)).length = 9 by omega]
    omega
  have hk := dec_num _ (decDigits (v / 1000000000) ++ (List.replicate (9 - (decDigits (v % 1000000000)).length) 48 ++ decDigits (v % 1000000000))) rfl (by
    rw [List.all_append, List.all_append, dec_all, dec_all, List.all_replicate]
    simp [dig]) ⟨b, _, by rw [e]; rfl, .inl hb⟩
  rw [hn] at hk
  exact hk
end Go.Proofs.YtgnmmifeojfjlaaDoor.PA

/- What the laws' own helpers answer, at numbers told by their values. -/
set_option linter.unusedVariables false
set_option linter.unusedSimpArgs false
namespace Go.Proofs.YtgnmmifeojfjlaaDoor.NT
open Go.RowKit Go.Proofs.YtgnmmifeojfjlaaDoor.PK1 Go.Proofs.YtgnmmifeojfjlaaDoorW.PrintWords Q
theorem wrap64_in {x : Int} (h0 : -9223372036854775808 ≤ x) (h1 : x ≤ 9223372036854775807) : wrap64 x = x := by unfold wrap64; omega
theorem rd_at (xs : List Int) {i : Nat} (h : i < xs.length) : rd xs (i : Int) = xs[i] := by
  unfold rd; simp [List.getD_eq_getElem?_getD, List.getElem?_eq_getElem h]
theorem same_l (xs ys : List Int) (hl : xs.length = ys.length) (hm : xs.length ≤ 1000000) (d : Nat) : ∀ (k i : Nat), i + d = xs.length → d < k → slackwaterkit_SameWords.l0 k xs ys i = some (decide (xs.drop i = ys.drop i)) := by
  induction d with
  | zero =>
    intro k i hi hk
    obtain ⟨k, rfl⟩ : ∃ m, k = m + 1 := ⟨k - 1, by omega⟩
    simp only [slackwaterkit_SameWords.l0]
    rw [if_neg (by omega), List.drop_of_length_le (by omega), List.drop_of_length_le (by omega)]
    simp
  | succ d ih =>
    intro k i hi hk
    obtain ⟨k, rfl⟩ : ∃ m, k = m + 1 := ⟨k - 1, by omega⟩
    simp only [slackwaterkit_SameWords.l0]
    have hx : i < xs.length := by omega
    have hy : i < ys.length := by omega
    rw [if_pos (by omega), if_pos (by omega), if_pos (by omega), rd_at xs hx, rd_at ys hy, wrap64_in (by omega) (by omega)]
    by_cases he : xs[i] = ys[i]
    · have e : ((i : Int) + 1) = ((i + 1 : Nat) : Int) := by omega
      rw [if_pos he, e, ih k (i + 1) (by omega) (by omega)]
      congr 1
      rw [decide_eq_decide, List.drop_eq_getElem_cons hx, List.drop_eq_getElem_cons hy, he]
      exact ⟨fun h => by rw [h], fun h => by injection h⟩
    · rw [if_neg he]
      congr 1
      symm
      rw [decide_eq_false_iff_not, List.drop_eq_getElem_cons hx, List.drop_eq_getElem_cons hy]
      intro h
      injection h with h1 _
      exact he h1
theorem same_f (k : Nat) (xs ys : List Int) (hk : xs.length < k) (hm : xs.length ≤ 1000000) : slackwaterkit_SameWords.f k xs ys = some (decide (xs = ys)) := by
  unfold slackwaterkit_SameWords.f
  by_cases hl : xs.length = ys.length
  · rw [if_pos (by omega)]
    have := same_l xs ys hl hm xs.length k 0 (by omega) hk
    simpa using this
  · rw [if_neg (by omega)]
    congr 1
    symm
    rw [decide_eq_false_iff_not]
    intro h
    exact hl (by rw [h])
theorem same_nw (k : Nat) {a b : Int} (a0 : 0 ≤ a) (b0 : 0 ≤ b) (ha : a < Bp 400) (hk : 500 ≤ k) : slackwaterkit_SameWords.f k (nw a) (nw b) = some (decide (a = b)) := by
  have hl := nw_len ha a0
  rw [same_f k _ _ (by omega) (by omega)]
  congr 1
  rw [decide_eq_decide]
  exact nw_inj a0 b0
theorem same_eq (k : Nat) {a : Int} (a0 : 0 ≤ a) (ha : a < Bp 400) (hk : 500 ≤ k) : slackwaterkit_SameWords.f k (nw a) (nw a) = some true := by
  rw [same_nw k a0 a0 ha hk]; simp
theorem big8 : Bp 400 < Bp 8192 := by
  have h1 : Bp 401 = 4294967296 * Bp 400 := Bp_succ 400
  have h2 := Bp_pos 400
  have h3 := Bp_mono (show 401 ≤ 8192 by omega)
  omega
theorem okw_400 {a : Int} (a0 : 0 ≤ a) (ha : a < Bp 400) : okw (nw a) = true := okw_nw a0 ha (by omega)
/-- a number of at most n words -/
structure Sm (n : Nat) (a : Int) : Prop where
  le : 0 ≤ a
  lt : a < Bp n
theorem Sm.up {m n : Nat} {a : Int} (h : Sm m a) (hmn : m ≤ n) : Sm n a := ⟨h.le, by have := Bp_mono hmn; have := h.lt; omega⟩
theorem Sm.add {n : Nat} {a b : Int} (h : Sm n a) (k : Sm n b) : Sm (n + 1) (a + b) := ⟨by have := h.le; have := k.le; omega, Bp_add_lt h.lt k.lt⟩
theorem Sm.mul {m n : Nat} {a b : Int} (h : Sm m a) (k : Sm n b) : Sm (m + n) (a * b) := ⟨Int.mul_nonneg h.le k.le, Bp_mul_lt h.le k.le h.lt k.lt⟩
theorem nadd {a b : Int} (h : Sm 399 a) (k : Sm 399 b) : nat_Add.f (nw a) (nw b) = some (nw (a + b), 0) := by
  have hs := h.add k
  have := big8
  have h' := h.up (show 399 ≤ 400 by omega)
  have k' := k.up (show 399 ≤ 400 by omega)
  have hs' : a + b < Bp 400 := hs.lt
  unfold nat_Add.f
  rw [if_pos ⟨okw_400 h.le h'.lt, okw_400 k.le k'.lt⟩, addC_nw h.le k.le (by omega)]
theorem ndiv {a b : Int} (h : Sm 400 a) (k : Sm 400 b) : nat_DivMod.f (nw a) (nw b) = some (if b = 0 then ([], [], 7) else (nw (a / b), nw (a % b), 0)) := by
  have := big8
  have h1 := h.lt
  have h2 := k.lt
  unfold nat_DivMod.f
  rw [if_pos ⟨okw_400 h.le h.lt, okw_400 k.le k.lt⟩, divC_nw h.le k.le (by omega) (by omega)]
theorem put_f (l : List Int) (hW : Wds l) : ∃ a, Sm 60 a ∧ slackwaterlaw01_put.f l = some (nw a) ∧ a = val (l.take 60) := by
  have hT := hW.take 60
  have hl : (l.take 60).length ≤ 60 := by rw [List.length_take]; omega
  have hk : okw (l.take 60) = true := okw_iff.2 ⟨by omega, hT⟩
  have hv := val_lt hT
  have hm := Bp_mono hl
  refine ⟨val (l.take 60), ⟨val_nonneg hT, by omega⟩, ?_, rfl⟩
  have h1 : nat_Trim.f (l.take 60) = some (nw (val (l.take 60))) := by
    unfold nat_Trim.f
    rw [if_pos hk, nw_trim hT]
  unfold slackwaterlaw01_put.f
  by_cases h60 : (l.length : Int) > 60
  · rw [if_pos h60, if_pos (by omega), h1, Option.bind_some]
  · rw [if_neg h60]
    rw [List.take_of_length_le (by omega)] at h1 ⊢
    rw [h1, Option.bind_some]
theorem awake_50 : slackwaterlaw01_awake.f 50 = some true := by decide +kernel
theorem awake (k : Nat) (hk : 50 ≤ k) : slackwaterlaw01_awake.f k = some true := at_rounds (g := fun k => slackwaterlaw01_awake.f k) (fun k => slackwaterlaw01_awake.mono k) hk awake_50
theorem cmp_neg (a b : Int) : cmp a b = wrap64 (-cmp b a) := by
  unfold cmp wrap64
  by_cases h1 : a < b
  · rw [if_pos h1, if_neg (by omega), if_neg (by omega)]; decide
  · rw [if_neg h1]
    by_cases h2 : a = b
    · rw [if_pos h2, if_neg (by omega), if_pos h2.symm]; decide
    · rw [if_neg h2, if_pos (by omega)]; decide
theorem cmp_zero (a b : Int) : (cmp a b == 0) = decide (a = b) := by
  unfold cmp
  by_cases h1 : a < b
  · rw [if_pos h1, decide_eq_false (by omega)]; rfl
  · rw [if_neg h1]
    by_cases h2 : a = b
    · rw [if_pos h2, decide_eq_true h2]; rfl
    · rw [if_neg h2, decide_eq_false h2]; rfl
theorem cmp_add (a b c : Int) : cmp (a + c) (b + c) = cmp a b := by
  unfold cmp
  by_cases h1 : a < b
  · rw [if_pos h1, if_pos (by omega)]
  · rw [if_neg h1, if_neg (by omega)]
    by_cases h2 : a = b
    · rw [if_pos h2, if_pos (by omega)]
    · rw [if_neg h2, if_neg (by omega)]
theorem cmp_ge (a b : Int) : decide (cmp a b ≥ 0) = !decide (a < b) := by
  unfold cmp
  by_cases h1 : a < b
  · rw [if_pos h1, decide_eq_true h1]; rfl
  · rw [if_neg h1, decide_eq_false h1]
    by_cases h2 : a = b
    · rw [if_pos h2]; rfl
    · rw [if_neg h2]; rfl
end Go.Proofs.YtgnmmifeojfjlaaDoor.NT

/- nat.cut and nat.small as plain laws. -/
set_option linter.unusedVariables false
set_option linter.unusedSimpArgs false
namespace Go.Proofs.YtgnmmifeojfjlaaDoor.NT
open Go.RowKit Go.Proofs.YtgnmmifeojfjlaaDoor.PK1 Go.Proofs.YtgnmmifeojfjlaaDoorW.PrintWords Q
theorem rd_wd (xs : List Int) (i : Nat) : rd xs (i : Int) = wd xs i := rfl
theorem cut_l0 (xs : List Int) (hl : xs.length ≤ 100000) : ∀ n k, n ≤ xs.length → n < k → ∃ m, m ≤ n ∧ nat_cut.l0 k xs (n : Int) = some (xs.take m) ∧ Tr (xs.take m) ∧ val (xs.take m) = val (xs.take n)
  | _, 0, _, h => by omega
  | 0, k + 1, h, _ => by
    refine ⟨0, Nat.le_refl _, ?_, Tr.nil, rfl⟩
    unfold nat_cut.l0
    rw [if_neg (by omega), if_pos (by omega), if_pos (by omega)]
    rfl
  | n + 1, k + 1, h, hk => by
    have hw : wrap64 (((n + 1 : Nat) : Int) - 1) = (n : Int) := by unfold wrap64; omega
    unfold nat_cut.l0
    rw [if_pos (by omega), hw, if_pos (by omega), if_pos (by omega), rd_wd]
    by_cases hz : wd xs n = 0
    · rw [if_pos hz]
      obtain ⟨m, h1, h2, h3, h4⟩ := cut_l0 xs hl n k (by omega) (by omega)
      refine ⟨m, by omega, h2, h3, ?_⟩
      rw [h4, val_take_succ (by omega), hz, Int.mul_zero, Int.add_zero]
    · rw [if_neg hz, if_pos (by omega), if_pos (by omega)]
      refine ⟨n + 1, Nat.le_refl _, rfl, (Tr_iff _).2 (.inr ?_), rfl⟩
      rw [List.length_take, Nat.min_eq_left h, Nat.add_sub_cancel, wd_take (by omega)]
      exact hz
theorem cut_nw (k : Nat) (xs : List Int) (hw : Wds xs) (hl : xs.length ≤ 100000) (hk : xs.length < k) : nat_cut.f k xs = some (nw (val xs)) := by
  obtain ⟨m, _, h2, h3, h4⟩ := cut_l0 xs hl xs.length k (Nat.le_refl _) hk
  unfold nat_cut.f
  rw [h2, ← nwd_nw, nwd_eq (hw.take m) h3 (h4.trans (by rw [List.take_length]))]
theorem or_hi (x y : Int) (h0 : 0 ≤ x) (h1 : x < 4294967296) (h2 : 0 ≤ y) (h3 : y < 4294967296) : Go.bits .or .u64 (y * 4294967296) x = y * 4294967296 + x := by
  rw [u64_or (y * 4294967296) x (by omega) (by omega) (by omega) (by omega), Nat.or_comm, ← u64_or x (y * 4294967296) (by omega) (by omega) (by omega) (by omega), or32 x y h0 h1 h2 h3]
  omega
theorem small_l0 : ∀ (i k : Nat) (zs : List Int) (r : Int), i ≤ zs.length → zs.length ≤ 100000 → Wds zs → 0 ≤ r → r < 1000000000 → i + zs.length + 1 < k →
    nat_small.l0 k zs 1000000000 r ((i : Int) - 1) = some (nw ((val (zs.take i) + Bp i * r) / 1000000000 + Bp i * val (zs.drop i)), (val (zs.take i) + Bp i * r) % 1000000000)
  | _, 0, _, _, _, _, _, _, _, h => by omega
  | 0, k + 1, zs, r, hi, hl, hw, r0, r1, hk => by
    unfold nat_small.l0
    rw [if_neg (by omega), cut_nw k zs hw hl (by omega), Option.bind_some, List.take_zero, List.drop_zero, Bp_zero]
    have e : (val [] + 1 * r) = r := by show (0 : Int) + 1 * r = r; omega
    rw [e, Int.one_mul, show r / 1000000000 = 0 by omega, Int.zero_add, show r % 1000000000 = r by omega, show r % 4294967296 = r by omega]
  | i + 1, k + 1, zs, r, hi, hl, hw, r0, r1, hk => by
    have hx := hw.wd i
    have hd : IntKind.u64.wrap 1000000000 = 1000000000 := by decide
    have hm : wrap64 (((i + 1 : Nat) : Int) - 1 - 1) = (i : Int) - 1 := by unfold wrap64; omega
    have e1 : (((i + 1 : Nat) : Int) - 1) = (i : Int) := by omega
    have w1 : IntKind.u64.wrap (r * 4294967296) = r * 4294967296 := by rw [IntKind.wrap_u64]; omega
    have w2 : IntKind.u64.wrap (wd zs i) = wd zs i := by rw [IntKind.wrap_u64]; omega
    unfold nat_small.l0
    rw [hm, e1, hd, rd_wd, w1, w2, or_hi _ _ hx.1 hx.2 r0 (by omega), if_pos (by omega), if_pos (by omega), if_pos (by omega), if_neg (by omega)]
    obtain ⟨t, ht⟩ : ∃ t, t = r * 4294967296 + wd zs i := ⟨_, rfl⟩
    rw [← ht]
    have t0 : 0 ≤ t := by omega
    rw [Int.tdiv_eq_ediv_of_nonneg t0, Int.tmod_eq_emod_of_nonneg t0]
    have q1 : t / 1000000000 < 4294967296 := by omega
    have q0 : 0 ≤ t / 1000000000 := by omega
    have w3 : IntKind.u64.wrap (t / 1000000000) = t / 1000000000 := by rw [IntKind.wrap_u64]; omega
    rw [w3, show t / 1000000000 % 4294967296 = t / 1000000000 by omega, Int.toNat_natCast]
    rw [small_l0 i k (zs.set i (t / 1000000000)) (t % 1000000000) (by rw [List.length_set]; omega) (by rw [List.length_set]; exact hl) (hw.set i q0 q1) (by omega) (by omega) (by rw [List.length_set]; omega)]
    have hlt : i < zs.length := by omega
    have a1 : (zs.set i (t / 1000000000)).take i = zs.take i := List.take_set_of_le (Nat.le_refl _)
    have a2 : val ((zs.set i (t / 1000000000)).drop i) = t / 1000000000 + 4294967296 * val (zs.drop (i + 1)) := by
      rw [List.drop_eq_getElem_cons (by rw [List.length_set]; exact hlt), List.getElem_set_self, List.drop_set_of_lt (by omega)]
      rfl
    rw [a1, a2, val_take_succ hlt, Bp_succ]
    have key : val (zs.take i) + Bp i * wd zs i + 4294967296 * Bp i * r = val (zs.take i) + Bp i * (t % 1000000000) + 1000000000 * (Bp i * (t / 1000000000)) := by
      have e := Int.mul_ediv_add_emod t 1000000000
      have e2 : Bp i * (1000000000 * (t / 1000000000) + t % 1000000000) = Bp i * (r * 4294967296 + wd zs i) := by rw [e, ht]
      rw [Int.mul_add, Int.mul_add, Int.mul_left_comm, ← Int.mul_assoc (Bp i) r, Int.mul_comm (Bp i * r)] at e2
      rw [Int.mul_assoc]
      omega
    rw [key, Int.add_mul_ediv_left _ _ (by omega), Int.add_mul_emod_self_left, Int.mul_add, ← Int.mul_assoc (Bp i), Int.mul_comm (Bp i) 4294967296, Int.add_assoc]
theorem small_nw (k : Nat) {v : Int} (h0 : 0 ≤ v) (hl : (nw v).length ≤ 50000) (hk : 2 * (nw v).length + 1 < k) : nat_small.f k (nw v) 1000000000 = some (nw (v / 1000000000), v % 1000000000) := by
  unfold nat_small.f
  have hw : wrap64 (((nw v).length : Int) - 1) = ((nw v).length : Int) - 1 := by unfold wrap64; omega
  rw [hw, small_l0 (nw v).length k (nw v) 0 (Nat.le_refl _) (by omega) (nw_wds v) (by omega) (by omega) (by omega), List.take_length, List.drop_length, val_nw h0, Int.mul_zero, Int.add_zero]
  have e : val [] = 0 := rfl
  rw [e, Int.mul_zero, Int.add_zero]
end Go.Proofs.YtgnmmifeojfjlaaDoor.NT

/- nat.Print as a plain law: the decimal digits. -/
set_option linter.unusedVariables false
set_option linter.unusedSimpArgs false
namespace Go.Proofs.YtgnmmifeojfjlaaDoor.NT
open Go.RowKit Go.Proofs.YtgnmmifeojfjlaaDoor.PK1 Go.Proofs.YtgnmmifeojfjlaaDoorW.PrintWords Q
theorem set_at {α : Type} (A R : List α) (x y : α) : (A ++ x :: R).set A.length y = A ++ y :: R := by
  rw [List.set_append_right _ _ (Nat.le_refl _), Nat.sub_self]; rfl
theorem get_at (A R : List ByteArray) (x : ByteArray) (i : Nat) (hi : i = A.length) : rdOf ByteArray.empty (A ++ x :: R) (i : Int) = x := by
  subst hi
  unfold rdOf
  rw [Int.toNat_natCast, List.getD_eq_getElem?_getD, List.getElem?_append_right (Nat.le_refl _), Nat.sub_self]
  rfl
theorem wadd {x : Int} (h0 : 0 ≤ x) (h1 : x < 200000) : wrap64 (x + 1) = x + 1 := by unfold wrap64; omega
theorem wsub {x : Int} (h0 : 0 ≤ x) (h1 : x < 200000) : wrap64 (x - 1) = x - 1 := by unfold wrap64; omega
theorem rev_step (A M B : List ByteArray) (a b : ByteArray) (k : Nat) (hl : A.length + (M.length + 2) + B.length ≤ 100000)
    (ih : slices_Reverse_string_string.l0 k ((A ++ [b]) ++ M ++ (a :: B)) ((A ++ [b]).length : Int) ((((A ++ [b]).length + M.length : Nat) : Int) - 1) = some ((A ++ [b]) ++ M.reverse ++ (a :: B))) :
    slices_Reverse_string_string.l0 (k + 1) (A ++ a :: (M ++ b :: B)) (A.length : Int) (((A ++ a :: M).length : Nat) : Int) = some ((A ++ [b]) ++ M.reverse ++ (a :: B)) := by
  have hL2 : A ++ b :: (M ++ b :: B) = (A ++ b :: M) ++ b :: B := by simp
  have hL3 : A ++ a :: (M ++ b :: B) = (A ++ a :: M) ++ b :: B := by simp
  have hj2 : (A ++ b :: M).length = (A ++ a :: M).length := by simp
  have hla : (A ++ a :: M).length = A.length + M.length + 1 := by rw [List.length_append, List.length_cons]; omega
  have hlb : (A ++ a :: (M ++ b :: B)).length = A.length + M.length + 2 + B.length := by rw [List.length_append, List.length_cons, List.length_append, List.length_cons]; omega
  have hAb : (A ++ [b]).length = A.length + 1 := by simp
  have hx : rdOf ByteArray.empty (A ++ a :: (M ++ b :: B)) ((A ++ a :: M).length : Int) = b := by rw [hL3]; exact get_at _ _ _ _ rfl
  have hy : rdOf ByteArray.empty (A ++ a :: (M ++ b :: B)) (A.length : Int) = a := get_at _ _ _ _ rfl
  have hs : ((A ++ a :: (M ++ b :: B)).set A.length b).set (A ++ a :: M).length a = (A ++ [b]) ++ M ++ (a :: B) := by
    rw [set_at, hL2, ← hj2, set_at]
    simp
  unfold slices_Reverse_string_string.l0
  rw [if_pos (by rw [hla]; omega), if_pos (by omega), if_pos (by rw [hla, hlb]; omega), if_pos (by omega), if_pos (by rw [hlb]; omega), hx, hy, Int.toNat_natCast, Int.toNat_natCast, hs]
  rw [wadd (by omega) (by omega), wsub (by omega) (by rw [hla]; omega)]
  rw [hAb] at ih
  rw [hla]
  rw [show ((A.length : Int) + 1) = ((A.length + 1 : Nat) : Int) by omega, show (((A.length + M.length + 1 : Nat) : Int) - 1) = (((A.length + 1 + M.length : Nat) : Int) - 1) by omega]
  exact ih
theorem rev_l0 (k : Nat) : ∀ (A M B : List ByteArray), A.length + M.length + B.length ≤ 100000 → M.length < k →
    slices_Reverse_string_string.l0 k (A ++ M ++ B) (A.length : Int) (((A.length + M.length : Nat) : Int) - 1) = some (A ++ M.reverse ++ B) := by
  induction k with
  | zero => intro A M B _ h; omega
  | succ k ih =>
    intro A M B hl hk
    cases M with
    | nil =>
      unfold slices_Reverse_string_string.l0
      rw [if_neg (by rw [List.length_nil]; omega)]
      rfl
    | cons a M2 =>
      by_cases hm : M2 = []
      · subst hm
        unfold slices_Reverse_string_string.l0
        rw [if_neg (by rw [List.length_cons, List.length_nil]; omega)]
        rfl
      · obtain ⟨M, b, e⟩ : ∃ M b, M2 = M ++ [b] := ⟨M2.dropLast, M2.getLast hm, (List.dropLast_concat_getLast hm).symm⟩
        subst e
        have e1 : (a :: (M ++ [b])).length = M.length + 2 := by simp
        rw [e1] at hl hk ⊢
        have h := rev_step A M B a b k hl (ih (A ++ [b]) M (a :: B) (by simp only [List.length_append, List.length_cons, List.length_nil]; omega) (by omega))
        have e2 : A ++ a :: (M ++ [b]) ++ B = A ++ a :: (M ++ b :: B) := by simp
        have e3 : ((A.length + (M.length + 2) : Nat) : Int) - 1 = (((A ++ a :: M).length : Nat) : Int) := by rw [List.length_append, List.length_cons]; omega
        rw [e2, e3, h]
        simp
theorem rev_f (k : Nat) (l : List ByteArray) (hl : l.length ≤ 100000) (hk : l.length < k) : slices_Reverse_string_string.f k l = some l.reverse := by
  unfold slices_Reverse_string_string.f
  have h := rev_l0 k [] l [] (by rw [List.length_nil]; omega) hk
  rw [wsub (by omega) (by omega)]
  simpa using h
open Go.Lib in
theorem inter_nil : ∀ xs : List (List UInt8), Lib.join xs [] = xs.flatten
  | [] => rfl
  | [x] => by simp [Lib.join, List.intercalate]
  | x :: y :: r => by
    have ih := inter_nil (y :: r)
    unfold Lib.join List.intercalate at ih ⊢
    rw [List.intersperse_cons_cons, List.flatten_cons, List.flatten_cons, ih]
    simp
def flat (xs : List ByteArray) : List UInt8 := (xs.map (·.data.toList)).flatten
theorem flat_len : ∀ (xs : List ByteArray), (∀ p ∈ xs, p.size ≤ 9) → (flat xs).length ≤ 9 * xs.length
  | [], _ => Nat.le_refl _
  | x :: r, h => by
    have ih := flat_len r (fun p hp => h p (List.mem_cons_of_mem _ hp))
    have hx := h x List.mem_cons_self
    rw [Lib.size_eq] at hx
    unfold flat at ih ⊢
    rw [List.map_cons, List.flatten_cons, List.length_append, List.length_cons]
    omega
theorem join_f (xs : List ByteArray) (h : xs.length ≤ 10000) (hs : ∀ p ∈ xs, p.size ≤ 9) : strings_Join.f xs (⟨#[]⟩ : ByteArray) = some ⟨(flat xs).toArray⟩ := by
  have e : Lib.join (xs.map (·.data.toList)) (⟨#[]⟩ : ByteArray).data.toList = flat xs := inter_nil _
  have hl := flat_len xs hs
  unfold strings_Join.f
  rw [e, if_pos ⟨by omega, by omega⟩]
theorem print_zero (k : Nat) (acc : List ByteArray) (h : acc.length ≤ 10000) (hs : ∀ p ∈ acc, p.size ≤ 9) (hk : acc.length < k) : nat_Print.l0 (k + 1) acc (nw 0) = some (⟨(flat acc.reverse).toArray⟩, 0) := by
  unfold nat_Print.l0
  rw [nw_zero, if_neg (by rw [List.length_nil]; omega), rev_f k acc (by omega) hk, Option.bind_some, join_f _ (by rw [List.length_reverse]; exact h) (fun p hp => hs p (List.mem_reverse.1 hp)), Option.bind_some]
theorem fmt_f (r : Int) (r0 : 0 ≤ r) (r1 : r < 1000000000) : strconv_FormatUint.f (IntKind.u64.wrap r) 10 = some ⟨(Lib.decDigits r.toNat).toArray⟩ := by
  have w : IntKind.u64.wrap r = r := by rw [IntKind.wrap_u64]; omega
  unfold strconv_FormatUint.f
  rw [w, if_pos ⟨r0, by omega, rfl⟩]
theorem arr_size (l : List UInt8) : (⟨l.toArray⟩ : ByteArray).size = l.length := by rw [Lib.size_eq]
theorem rep_list : ∀ n, Lib.repeatL [48] n = List.replicate n 48
  | 0 => rfl
  | n + 1 => by rw [List.replicate_succ, ← rep_list n]; rfl
theorem dec_len9 {r : Int} (r0 : 0 ≤ r) (r1 : r < 1000000000) : (Lib.decDigits r.toNat).length ≤ 9 := PA.dec_len 8 r.toNat (by show r.toNat < 10 ^ 9; have e : (10 : Nat) ^ 9 = 1000000000 := rfl; omega)
theorem rep_f (n : Nat) (h : n ≤ 9) : strings_Repeat.f (⟨#[48]⟩ : ByteArray) (wrap64 (9 - (n : Int))) = some ⟨(List.replicate (9 - n) 48).toArray⟩ := by
  have w : wrap64 (9 - (n : Int)) = ((9 - n : Nat) : Int) := by unfold wrap64; omega
  unfold strings_Repeat.f
  rw [w, if_pos ⟨by omega, by omega, by decide⟩, Int.toNat_natCast]
  have e : (⟨#[48]⟩ : ByteArray).data.toList = [48] := rfl
  rw [e, rep_list]
theorem flat_snoc (acc : List ByteArray) (p : ByteArray) : flat (acc ++ [p]).reverse = p.data.toList ++ flat acc.reverse := by
  rw [List.reverse_append]
  rfl
theorem print_l0 : ∀ (m k : Nat) (acc : List ByteArray) (v : Int), 0 < v → v < 1000000000 ^ m → v < Bp 63 → acc.length + m ≤ 1000 → (∀ p ∈ acc, p.size ≤ 9) → 1500 + m < k →
    nat_Print.l0 k acc (nw v) = some (⟨(Lib.decDigits v.toNat ++ flat acc.reverse).toArray⟩, 0)
  | 0, k, acc, v, v0, vm, _, _, _, _ => by rw [Int.pow_zero] at vm; omega
  | m + 1, 0, _, _, _, _, _, _, _, h => by omega
  | m + 1, k + 1, acc, v, v0, vm, vb, ha, hs, hk => by
    have hlen := nw_len vb (by omega)
    have hne : (nw v).length ≠ 0 := fun e => by have := (nw_len0 (by omega)).1 e; omega
    have r0 : 0 ≤ v % 1000000000 := by omega
    have r1 : v % 1000000000 < 1000000000 := by omega
    have hd := dec_len9 r0 r1
    unfold nat_Print.l0
    rw [if_pos (by omega), small_nw k (by omega) (by omega) (by omega), Option.bind_some, fmt_f _ r0 r1, Option.bind_some]
    by_cases hq : v / 1000000000 = 0
    · have hv : v % 1000000000 = v := by omega
      rw [hv] at hd
      simp only [hq, hv]
      rw [if_neg (by rw [nw_zero, List.length_nil]; omega), if_pos (by omega)]
      obtain ⟨k, rfl⟩ : ∃ i, k = i + 1 := ⟨k - 1, by omega⟩
      have hz := print_zero k (acc ++ [(⟨(Lib.decDigits v.toNat).toArray⟩ : ByteArray)]) (by rw [List.length_append]; simp; omega) (fun p hp => by
        rcases List.mem_append.1 hp with hp | hp
        · exact hs p hp
        · rw [List.mem_singleton.1 hp, arr_size]; exact hd) (by rw [List.length_append]; simp; omega)
      rw [flat_snoc] at hz
      exact hz
    · have q0 : 0 < v / 1000000000 := by omega
      have hqn : (nw (v / 1000000000)).length ≠ 0 := fun e => by have := (nw_len0 (by omega)).1 e; omega
      have hqm : v / 1000000000 < 1000000000 ^ m := by
        rw [Int.pow_succ] at vm
        exact Int.ediv_lt_of_lt_mul (by omega) vm
      have hp9 : (⟨(List.replicate (9 - (Lib.decDigits (v % 1000000000).toNat).length) 48).toArray⟩ ++ ⟨(Lib.decDigits (v % 1000000000).toNat).toArray⟩ : ByteArray).data.toList = List.replicate (9 - (Lib.decDigits (v % 1000000000).toNat).length) 48 ++ Lib.decDigits (v % 1000000000).toNat := by
        rw [Go.Joins.data_append]
      have hsz : (List.replicate (9 - (Lib.decDigits (v % 1000000000).toNat).length) (48 : UInt8)).length + (Lib.decDigits (v % 1000000000).toNat).length ≤ 9223372036854775807 := by
        rw [List.length_replicate]
        omega
      simp only []
      rw [if_pos (by omega), arr_size, rep_f _ hd, Option.bind_some, arr_size, if_pos hsz, if_pos (by omega)]
      rw [print_l0 m k _ (v / 1000000000) q0 hqm (by omega) (by rw [List.length_append]; simp; omega) (fun p hp => by
        rcases List.mem_append.1 hp with hp | hp
        · exact hs p hp
        · rw [List.mem_singleton.1 hp, Lib.size_eq, hp9, List.length_append, List.length_replicate]; omega) (by omega), flat_snoc, hp9]
      have e := PA.dec_split v.toNat (by omega)
      have e1 : v.toNat / 1000000000 = (v / 1000000000).toNat := by omega
      have e2 : v.toNat % 1000000000 = (v % 1000000000).toNat := by omega
      rw [e1, e2] at e
      rw [e]
      simp only [List.append_assoc]
theorem pow_nine {v : Int} {n m : Nat} (h : v < Bp n) (hm : 10 * n ≤ 9 * m) : v < 1000000000 ^ m := by
  refine Int.lt_of_lt_of_le h ?_
  have h1 : (4294967296 : Nat) ^ n ≤ 1000000000 ^ m := by
    refine Nat.le_trans (Nat.pow_le_pow_left (show 4294967296 ≤ 10 ^ 10 by decide) n) ?_
    rw [← Nat.pow_mul]
    refine Nat.le_trans (Nat.pow_le_pow_right (n := 10) (by omega) hm) ?_
    rw [Nat.pow_mul]
    exact Nat.le_refl _
  have h2 : ((4294967296 ^ n : Nat) : Int) ≤ ((1000000000 ^ m : Nat) : Int) := Int.ofNat_le.2 h1
  rw [Int.natCast_pow, Int.natCast_pow] at h2
  exact h2
theorem print_f (k : Nat) {v : Int} (v0 : 0 ≤ v) (vb : v < Bp 63) (hk : 1600 < k) : nat_Print.f k (nw v) = some (⟨(Lib.decDigits v.toNat).toArray⟩, 0) := by
  have b400 : v < Bp 400 := Int.lt_of_lt_of_le vb (Bp_mono (by omega))
  have hok := okw_400 v0 b400
  unfold nat_Print.f nat_Check.f slices_Clone_uint32_uint32.f
  rw [if_pos hok, Option.bind_some, chk_nw v0 (Int.lt_of_lt_of_le vb (Bp_mono (by omega))), if_pos rfl, if_pos hok]
  by_cases h : v = 0
  · subst h
    rw [if_pos (by rw [nw_zero]; rfl), show Int.toNat 0 = 0 from rfl, Dig.dec_small (by omega)]
    rfl
  · rw [if_neg (fun e => h ((nw_len0 v0).1 (by omega))), Option.bind_some, print_l0 70 k [] v (by omega) (pow_nine vb (by omega)) vb (by simp) (fun p hp => by cases hp) (by omega)]
    have e : flat [].reverse = [] := rfl
    rw [e, List.append_nil]
end Go.Proofs.YtgnmmifeojfjlaaDoor.NT

/- NatBack as a plain law. -/
set_option linter.unusedVariables false
set_option linter.unusedSimpArgs false
namespace Go.Proofs.YtgnmmifeojfjlaaDoor.NT
open Go.RowKit Go.Proofs.YtgnmmifeojfjlaaDoor.PK1 Go.Proofs.YtgnmmifeojfjlaaDoorW.PrintWords Q
theorem bt_eq (s : ByteArray) (i : Nat) (h : i < s.data.toList.length) : bt s (i : Int) = ((s.data.toList[i]).toNat : Int) := by
  have hs : ((i : Int)).toNat < s.size := by rw [Int.toNat_natCast, Lib.size_eq]; exact h
  rw [← bt_at s i hs]
  simp only [Int.toNat_natCast, Array.getElem_toList]
  rfl
theorem okT_hd {l : List UInt8} (ha : l.all PA.dig = true) (hh : PA.Hd l) : okT l = true := by
  obtain ⟨b, r, rfl, h⟩ := hh
  unfold okT
  rw [ha, Bool.true_and]
  rcases h with h | h
  · simp [h]
  · simp [h]
theorem hd_okT {l : List UInt8} (h : okT l = true) : l.all PA.dig = true ∧ PA.Hd l := by
  unfold okT at h
  rw [Bool.and_eq_true] at h
  refine ⟨h.1, ?_⟩
  cases l with
  | nil => exact absurd h.2 (by simp)
  | cons b r =>
    refine ⟨b, r, rfl, ?_⟩
    have h2 := h.2
    simp only [Bool.or_eq_true, bne_iff_ne, List.isEmpty_iff] at h2
    exact h2
theorem parse_f (s : ByteArray) (h : s.size ≤ 65536) : nat_Parse.f s = some (parC s.data.toList) := by
  unfold nat_Parse.f
  rw [if_pos (by omega), if_neg (by omega)]
theorem fin (s : ByteArray) (k : Nat) (hs : s.size ≤ 500) (hk : 1600 < k) (x : Bool) (hx : x = okT s.data.toList) :
    ((nat_Parse.f s).bind fun bt195 => (if ((bt195.2 == 0) != x) = true then (none) else (if bt195.2 = 0 then ((nat_Print.f k bt195.1).bind fun bt199 => (if true = true then (if bt199.2 = 0 then (some (bt199.1.toList == s.toList)) else (none)) else (none))) else (if true = true then (if bt195.2 = 110 then (some ((bt195.1.length : Int) == 0)) else (none)) else (none))))) = some true := by
  rw [parse_f s (by omega), Option.bind_some, hx]
  unfold parC
  by_cases h : okT s.data.toList = true
  · obtain ⟨ha, hh⟩ := hd_okT h
    have hb : (PA.num 0 s.data.toList : Int) < Bp 63 := num_Bp ha (by rw [← Lib.size_eq]; omega)
    rw [if_pos h]
    simp only [h]
    rw [if_neg (by decide), if_pos trivial, print_f k (by omega) hb hk, Option.bind_some, if_pos trivial, if_pos rfl, Int.toNat_natCast, PA.dec_num _ _ rfl ha hh]
    simp [toList_eq]
  · rw [if_neg h, Bool.eq_false_iff.2 h]
    rfl
theorem loop (s : ByteArray) (hs : s.size ≤ 500) : ∀ (n i k : Nat) (x : Bool), n + i = s.size → 1700 + n < k → (x && (s.data.toList.drop i).all PA.dig) = okT s.data.toList → slackwaterlaw01_NatBack.l0 k s true x (i : Int) = some true
  | _, _, 0, _, _, h, _ => by omega
  | 0, i, k + 1, x, e, hk, hr => by
    unfold slackwaterlaw01_NatBack.l0
    rw [if_neg (by omega)]
    rw [List.drop_of_length_le (by rw [← Lib.size_eq]; omega)] at hr
    exact fin s k hs (by omega) x (by simpa using hr)
  | n + 1, i, k + 1, x, e, hk, hr => by
    have hi : i < s.data.toList.length := by rw [← Lib.size_eq]; omega
    have hb := bt_eq s i hi
    have w : wrap64 ((i : Int) + 1) = ((i + 1 : Nat) : Int) := by rw [wadd (by omega) (by omega)]; omega
    rw [List.drop_eq_getElem_cons hi, List.all_cons] at hr
    generalize hd : s.data.toList[i] = b at *
    unfold slackwaterlaw01_NatBack.l0
    rw [if_pos (by omega), w, hb]
    cases x with
    | false =>
      rw [if_neg (by decide)]
      exact loop s hs n (i + 1) k false (by omega) (by omega) (by simpa using hr)
    | true =>
      rw [if_pos rfl, if_pos (by omega)]
      by_cases h48 : (b.toNat : Int) ≥ 48
      · rw [if_pos h48]
        refine loop s hs n (i + 1) k _ (by omega) (by omega) ?_
        rw [← hr, Bool.true_and]
        congr 1
        unfold PA.dig
        exact decide_eq_decide.2 (by omega)
      · rw [if_neg h48]
        refine loop s hs n (i + 1) k _ (by omega) (by omega) ?_
        have : PA.dig b = false := decide_eq_false (by omega)
        rw [← hr, this]
        rfl
theorem j1_ok (s : ByteArray) (hs : s.size ≤ 500) (k : Nat) (hk : 3000 < k) : slackwaterlaw01_NatBack.j1 k s true = some true := by
  obtain ⟨k, rfl⟩ : ∃ i, k = i + 1 + 1 := ⟨k - 2, by omega⟩
  have hz := Lib.size_eq s
  unfold slackwaterlaw01_NatBack.j1; dsimp only
  by_cases h0 : (s.size : Int) > 0
  · have hi : 0 < s.data.toList.length := by omega
    have hb := bt_eq s 0 hi
    have hb' : bt s 0 = ((s.data.toList[0]).toNat : Int) := hb
    have hp := okT_list s.data.toList hi
    rw [if_pos h0, if_pos (by omega), hb']
    by_cases h48 : ((s.data.toList[0]).toNat : Int) = 48
    · rw [if_pos h48]
      unfold slackwaterlaw01_NatBack.j2; dsimp only
      refine loop s hs s.size 0 k _ (by omega) (by omega) ?_
      rw [List.drop_zero]
      apply Bool.eq_iff_iff.2
      rw [hp, Bool.and_eq_true, beq_iff_eq]
      constructor
      · rintro ⟨h1, h2⟩; exact ⟨h2, fun h => by omega⟩
      · rintro ⟨h1, h2⟩; exact ⟨by have : ¬ 1 < s.data.toList.length := fun h => h2 ⟨by omega, h⟩; omega, h1⟩
    · rw [if_neg h48]
      unfold slackwaterlaw01_NatBack.j2; dsimp only
      refine loop s hs s.size 0 k _ (by omega) (by omega) ?_
      rw [List.drop_zero]
      apply Bool.eq_iff_iff.2
      rw [hp, Bool.and_eq_true]
      exact ⟨fun h => ⟨h.2, fun q => h48 (by omega)⟩, fun h => ⟨rfl, h.1⟩⟩
  · rw [if_neg h0]
    unfold slackwaterlaw01_NatBack.j2; dsimp only
    refine loop s hs s.size 0 k _ (by omega) (by omega) ?_
    have e : s.data.toList = [] := List.eq_nil_of_length_eq_zero (by omega)
    rw [e]
    rfl
theorem dec_len_pow (m u : Nat) (h : u < 1000000000 ^ (m + 1)) : (Lib.decDigits u).length ≤ 9 * m + 9 := by
  refine PA.dec_len (9 * m + 8) u (Nat.lt_of_lt_of_le h ?_)
  rw [show 9 * m + 8 + 1 = 9 * (m + 1) by omega, Nat.pow_mul]
  exact Nat.le_refl _
theorem back (l : List Int) (s : ByteArray) (hl : Wds l) : slackwaterlaw01_NatBack.f 5000 l s = some true := by
  obtain ⟨a, ha, ea, _⟩ := put_f l hl
  have b63 : a < Bp 63 := Int.lt_of_lt_of_le ha.lt (Bp_mono (by omega))
  have hlen : (Lib.decDigits a.toNat).length ≤ 65536 := by
    have h := pow_nine (m := 70) b63 (by omega)
    have h2 : ((a.toNat : Int)) < ((1000000000 ^ (69 + 1) : Nat) : Int) := by rw [Int.natCast_pow, Int.toNat_of_nonneg ha.le]; exact h
    have := dec_len_pow 69 a.toNat (Int.ofNat_lt.1 h2)
    omega
  have hp : nat_Parse.f (⟨(Lib.decDigits a.toNat).toArray⟩ : ByteArray) = some (nw a, 0) := by
    rw [parse_f _ (by rw [arr_size]; exact hlen)]
    show some (parC (Lib.decDigits a.toNat)) = _
    unfold parC
    rw [if_pos (okT_hd (PA.dec_all _) (PA.dec_hd _)), PA.num_dec, Int.toNat_of_nonneg ha.le]
  have hj : slackwaterlaw01_NatBack.j0 5000 s true false = some true := by
    show slackwaterlaw01_NatBack.j0 (4999 + 1) s true false = some true
    unfold slackwaterlaw01_NatBack.j0; dsimp only
    rw [if_neg (by decide)]
    by_cases h : (s.size : Int) > 500
    · rw [if_pos h, if_pos (by omega), if_pos (by omega)]
      exact j1_ok _ (by rw [Lib.size_eq, Lib.extract_from_zero, List.length_take]; omega) 4999 (by omega)
    · rw [if_neg h]
      exact j1_ok s (by omega) 4999 (by omega)
  unfold slackwaterlaw01_NatBack.f
  rw [awake 5000 (by omega), Option.bind_some, ea, Option.bind_some, print_f 5000 ha.le b63 (by omega), Option.bind_some]
  simp only []
  rw [hp, Option.bind_some]
  have hs := same_eq 5000 ha.le (Int.lt_of_lt_of_le ha.lt (Bp_mono (by omega))) (by omega)
  simp only [if_true, hs, Option.bind_some, Bool.not_true]
  exact hj
end Go.Proofs.YtgnmmifeojfjlaaDoor.NT

/- Words that come in, in the print's words. -/
set_option linter.unusedVariables false
namespace Go.Proofs.YtgnmmifeojfjlaaDoor
open Go Go.RowKit Q Go.Proofs.YtgnmmifeojfjlaaDoorW.PrintWords
theorem C_of_In {w : World} {A : Option Addr} {c : Nat} {xs : List Int} (h : In w A c xs) : Kd.C (Kd.int .u32) w A xs.length xs := by
  refine Kd.C_of_reads (d := (0 : Int)) (h1 := fun _ => rfl) ⟨rfl, by have := h.small; omega, fun hn => ?_⟩
  obtain ⟨ad, e, _⟩ := h.rd 0 hn
  refine ⟨ad, e, fun j hj => ?_⟩
  obtain ⟨ad', e', hc⟩ := h.rd j hj
  rw [e] at e'
  cases e'
  exact hc
end Go.Proofs.YtgnmmifeojfjlaaDoor

/- The walk of NatBack, whole. -/
set_option linter.unusedVariables false
namespace Go.Proofs.YtgnmmifeojfjlaaDoor
open Go Go.RowKit Q Go.Proofs.YtgnmmifeojfjlaaDoorW.PrintWords
theorem NatBack_walk (A0 : Option Addr) (c0 : Nat) (l0 : List Int) (s : ByteArray) (W : World) (hL : LW W) (i0 : In W A0 c0 l0) (hs : s.size ≤ 140737488351232) :
    Calls Tryd.prog 6 #[.slice A0 l0.length c0, .string s] W fun e W' => e = .returned (.bool true) ∧ Below W.heap.size W W' :=
  PK1.slackwaterlaw01_NatBack.calls 5000 A0 c0 l0 s true W hL (C_of_In i0) i0.cap (NT.back l0 s i0.wds)
end Go.Proofs.YtgnmmifeojfjlaaDoor

/- A row's argument that is a slice of words of 32 bits, opened. -/
set_option linter.unusedVariables false
set_option linter.unusedSimpArgs false
namespace Q
open Go Go.ChangeShapes Go.WideShapes Go.RowKit
theorem wf_u32 {n : Int} (h : (Lit.int .u32 n).wf = true) : 0 ≤ n ∧ n < 4294967296 := by
  simp [Lit.wf, IntKind.min, IntKind.max, IntKind.bits, IntKind.signed] at h
  omega
theorem words_open {H : Type} {enc : TypeId × Value → H} {P : Program} {W : World} {base : Nat} {spare : Nat → Bool} {held : Bool} {t e : TypeId} {a : Option Addr} {len cap : Nat} {d : DataW H} {ps : List MemPlace} {ts : List TypeId} {ds : List (DataW H)} {j : Nat}
    (hsz : (DataW.weightsEach P ts ds).all (· ≤ reachBytes) = true) (ht : ts[j]? = some t) (hd : ds[j]? = some d) (hu : P.underlying t = some (.slice e)) (he : P.underlying e = some (.int .u32)) (hc : P.cellsOf e = 1) (hB : P.bytesOf e = 4)
    (h : DataW.Trod enc P W base spare held t (.slice a len cap) d ps) : ∃ xs : List Int, len = xs.length ∧ In W a cap xs := by
  obtain ⟨fuel, hf⟩ := h
  rcases open_ints hu he hc hf with ⟨hcs, _⟩ | ⟨x, l, c, zs, hcs, _, hl, _, hz, hx, hcell, hwz⟩
  · simp [Value.cells] at hcs
    obtain ⟨rfl, rfl, rfl⟩ := hcs
    exact ⟨[], rfl, In.nil _ _ _⟩
  · simp [Value.cells] at hcs
    obtain ⟨rfl, rfl, rfl⟩ := hcs
    obtain ⟨hx, _⟩ := Prod.mk.inj hx
    subst hx
    have z := sized_slice hsz ht hd hu
    rw [hB] at z
    have hl2 : len ≤ zs.length := by
      rw [hz]
      split
      · exact hl
      · exact Nat.le_refl _
    have h1 : (lits (H := H) .u32 (zs.take len)).length + (lits (H := H) .u32 (zs.drop len)).length = zs.length := by
      simp [lits]
      omega
    rw [h1] at z
    have hlen : (zs.take len).length = len := by rw [List.length_take]; omega
    refine ⟨zs.take len, hlen.symm, ⟨fun i hi => ⟨x, rfl, ?_⟩, by rw [hlen]; exact hl, by rw [hlen]; exact Nat.le_trans (Nat.mul_le_mul_right _ hl2) z, fun y hy => wf_u32 (hwz y (List.mem_of_mem_take hy))⟩⟩
    rw [hlen] at hi
    rw [wd_take hi]
    have := hcell i (by omega)
    rw [this]; simp [wd]
end Q

/- What the row's list of variables gives: the library's table that the numbers' texts read. -/
set_option linter.unusedVariables false
namespace Go.Proofs.YtgnmmifeojfjlaaDoor
open Go Go.RowKit Go.Proofs
theorem gTab8 : Tryd.prog.globalNamed "internal/strconv.uint64pow10" = some 0 := by kernel_rfl
theorem gTab8Type : (Tryd.prog.globals[0]?).map (·.type) = some 114 := by kernel_rfl
theorem cells99_8 : Tryd.prog.cellsOf 114 = 20 := by kernel_rfl
theorem cells82_8 : Tryd.prog.cellsOf 51 = 1 := by kernel_rfl
theorem lw_of {W : World} (h : laidMet Tryd.prog Rows.natBackRow.laid W) (hsh : W.ShapedOpen Tryd.prog) : LW W := by
  have h2 : laidMet Tryd.prog (("internal/strconv.uint64pow10", Lib.tabData .u64 Lib.pow10Tab) :: Rows.natBackRow.laid.drop 3) W := h.tail.tail
  exact ⟨Lib.tabIs_of_head gTab8 gTab8Type Tryd.underlying114 Tryd.underlying51 cells82_8 cells99_8 h2⟩
/-- a world that holds what is listed -/
theorem laid_metn (os : Os) (args : Array Value) : laidMet Tryd.prog Rows.natBackRow.laid ((World.laidAll Tryd.prog os Rows.natBackRow.laid).forCall (fun _ _ => 0) ⟨#[], args, []⟩).memory := laidMet_laidAll _ (by kernel_rfl) (by kernel_rfl)
theorem laid_shapedn (os : Os) (args : Array Value) : ((World.laidAll Tryd.prog os Rows.natBackRow.laid).forCall (fun _ _ => 0) ⟨#[], args, []⟩).Shaped Tryd.prog := World.shaped_of_ZipB (by kernel_rfl) (by kernel_rfl)
end Go.Proofs.YtgnmmifeojfjlaaDoor

