import Derived.Lib.Split
import Derived.Lib.AtoiAll
import Derived.Lib.ItoaNum
import Derived.Test.YtidccoahjpjoaaaGreatDoorNtNu
import Derived.Test.YtidccoahjpjoaaaGreatDoorPK1x
import Derived.Test.YtidccoahjpjoaaaGreatDoorNtP
import Derived.Lib.SmallJoins
import Derived.Test.YtidccoahjpjoaaaGreatDoorQWhlP
import Derived.Test.YtidccoahjpjoaaaGreatDoorNtA
import Derived.Test.YtidccoahjpjoaaaGreatDoorQKit
import Derived.Test.YtidccoahjpjoaaaGreatDoorQNat9
import Derived.Test.YtidccoahjpjoaaaGreatDoorLWholeLives
import Derived.Deep.CutRange
import Derived.Test.YtidccoahjpjoaaaGreatDoorChecked
import Derived.WalkKit
import Derived.ProofKit
import Derived.OpenShut
import Derived.ShutString
import Derived.ChangeOld
import Derived.Below
import Derived.SizedLaws
import Derived.ChangeSame
import Derived.Test.YtidccoahjpjoaaaGreatDoorRowW
import Derived.Test.YtidccoahjpjoaaaGreatDoorRows
import Derived.Test.YtidccoahjpjoaaaGreatDoorGLaid1
import Derived.Lib.LaidTab
import Derived.Stop.LaidErr
import Derived.Shelf.Vars
import Derived.MakeChecks
import Derived.Lay
import Derived.LaidLaws
/- Numerals: what they are read as; texts cut at a sign. Plain laws over the library's own words. -/
set_option linter.unusedVariables false
set_option linter.unusedSimpArgs false
namespace Dig
open Go Go.Lib
/-- all bytes are digits -/
def Dg (l : List UInt8) : Prop := ∀ c ∈ l, 48 ≤ c.toNat ∧ c.toNat ≤ 57
theorem dg_one (u : Nat) (h : u < 10) : 48 ≤ (UInt8.ofNat (48 + u)).toNat ∧ (UInt8.ofNat (48 + u)).toNat ≤ 57 ∧ (UInt8.ofNat (48 + u)).toNat - 48 = u := by
  have : (UInt8.ofNat (48 + u)).toNat = 48 + u := by simp; omega
  omega
theorem dec_small {u : Nat} (h : u < 10) : decDigits u = [UInt8.ofNat (48 + u)] := decDigits_one h
theorem dec_step {u : Nat} (h : ¬ u < 10) : decDigits u = decDigits (u / 10) ++ [UInt8.ofNat (48 + u % 10)] := by
  rw [decDigits, dif_neg h]
theorem dec_dg (u : Nat) : Dg (decDigits u) := by
  induction u using Nat.strongRecOn with
  | ind u ih =>
    by_cases h : u < 10
    · rw [dec_small h]
      intro c hc
      simp only [List.mem_singleton] at hc
      subst hc
      have := dg_one u h
      omega
    · rw [dec_step h]
      intro c hc
      simp only [List.mem_append, List.mem_singleton] at hc
      rcases hc with hc | rfl
      · exact ih (u / 10) (by omega) c hc
      · have := dg_one (u % 10) (by omega)
        omega
theorem dec_ne (u : Nat) : decDigits u ≠ [] := by
  by_cases h : u < 10
  · rw [dec_small h]; simp
  · rw [dec_step h]; simp
theorem parse_append (l r : List UInt8) : ∀ acc v, parseUint10 acc l = .ok v → parseUint10 acc (l ++ r) = parseUint10 v r := by
  induction l with
  | nil => intro acc v h; simp only [parseUint10] at h; injection h with h; subst h; rfl
  | cons c l ih =>
    intro acc v h
    simp only [List.cons_append, parseUint10] at h ⊢
    split at h
    · rename_i h1
      rw [if_pos h1]
      split at h
      · cases h
      · rename_i h2
        rw [if_neg h2]
        split at h
        · cases h
        · rename_i h3
          rw [if_neg h3]
          exact ih _ _ h
    · cases h
theorem parse_dec (u : Nat) (hu : u < 9223372036854775808) : parseUint10 0 (decDigits u) = .ok u := by
  induction u using Nat.strongRecOn with
  | ind u ih =>
    by_cases h : u < 10
    · rw [dec_small h]
      have := dg_one u h
      simp only [parseUint10]
      rw [if_pos ⟨this.1, this.2.1⟩, if_neg (by omega), if_neg (by omega), this.2.2]
      simp
    · rw [dec_step h, parse_append _ _ _ _ (ih (u / 10) (by omega) (by omega))]
      have := dg_one (u % 10) (by omega)
      simp only [parseUint10]
      rw [if_pos ⟨this.1, this.2.1⟩, if_neg (by omega), if_neg (by omega), this.2.2]
      congr 1
      omega
theorem atoi_dec (u : Nat) (hu : u < 9223372036854775808) : atoiAll (decDigits u) = .ok (u : Int) := by
  have hp := parse_dec u hu
  have hd := dec_dg u
  cases hl : decDigits u with
  | nil => exact absurd hl (dec_ne u)
  | cons c r =>
    rw [hl] at hp hd
    have hc := hd c (by simp)
    unfold atoiAll
    simp only
    rw [if_neg (by omega)]
    unfold parseMag
    rw [if_neg (by simp), hp]
    simp only
    rw [if_neg (by omega), if_neg (by omega), if_neg (by omega)]
theorem dec_inj {u v : Nat} (hu : u < 9223372036854775808) (hv : v < 9223372036854775808) (h : decDigits u = decDigits v) : u = v := by
  have h1 := parse_dec u hu
  have h2 := parse_dec v hv
  rw [h, h2] at h1
  injection h1 with h1
  exact h1.symm
/-! ### a sign in a text -/
theorem index_sep (c : UInt8) (b : List UInt8) : ∀ a : List UInt8, c ∉ a → index (a ++ c :: b) [c] = a.length
  | [], _ => by simp [index]
  | x :: a, h => by
    have hx : c ≠ x := fun e => h (by simp [e])
    have ih := index_sep c b a (fun e => h (by simp [e]))
    simp only [List.cons_append, index]
    rw [if_neg (by simp [List.isPrefixOf, hx]), ih, if_neg (by first | (simp; omega) | simp)]
    simp
theorem index_no (c : UInt8) : ∀ a : List UInt8, c ∉ a → index a [c] = -1
  | [], _ => by simp [index]
  | x :: a, h => by
    have hx : c ≠ x := fun e => h (by simp [e])
    have ih := index_no c a (fun e => h (by simp [e]))
    simp only [index]
    rw [if_neg (by simp [List.isPrefixOf, hx]), ih]
    simp
theorem cut_sep (c : UInt8) (a b : List UInt8) (h : c ∉ a) : cut (a ++ c :: b) [c] = (a, b, true) := by
  unfold cut
  rw [index_sep c b a h, if_pos (by omega)]
  simp
theorem split3 (x : UInt8) (a b c : List UInt8) (ha : x ∉ a) (hb : x ∉ b) (hc : x ∉ c) : splitK [x] 0 3 (a ++ x :: (b ++ x :: c)) = [a, b, c] := by
  unfold splitK
  rw [index_sep x _ a ha, if_neg (by first | (simp; omega) | simp)]
  simp only [Int.toNat_natCast, Nat.add_zero, List.take_left, List.length_cons, List.length_nil]
  rw [show (a ++ x :: (b ++ x :: c)).drop (a.length + (0 + 1)) = b ++ x :: c by rw [show a ++ x :: (b ++ x :: c) = (a ++ [x]) ++ (b ++ x :: c) by simp, List.drop_left' (by simp)]]
  unfold splitK
  rw [index_sep x _ b hb, if_neg (by first | (simp; omega) | simp)]
  simp only [Int.toNat_natCast, Nat.add_zero, List.take_left, List.length_cons, List.length_nil]
  rw [show (b ++ x :: c).drop (b.length + (0 + 1)) = c by rw [show b ++ x :: c = (b ++ [x]) ++ c by simp, List.drop_left' (by simp)]]
  unfold splitK
  rw [index_no x c hc]
  simp
theorem dg_not {l : List UInt8} (h : Dg l) {c : UInt8} (hc : c.toNat < 48 ∨ 57 < c.toNat) : c ∉ l := fun hm => by have := h c hm; omega
theorem itoa_dec {n : Int} (h : 0 ≤ n) : itoa n = decDigits n.toNat := by unfold itoa; rw [if_neg (by omega)]
end Dig

/- Numerals there and back: what decDigits writes, num reads. -/
set_option linter.unusedVariables false
set_option linter.unusedSimpArgs false
namespace Go.Proofs.YtidccoahjpjoaaaGreatDoor.PA
open Go Go.Lib
theorem num_snoc (l : List UInt8) (c : UInt8) (a : Nat) : num a (l ++ [c]) = num a l * 10 + (c.toNat - 48) := by
  rw [num_append, num_cons, num_nil]
theorem all_of_dg {l : List UInt8} (h : Dig.Dg l) : l.all dig = true := List.all_eq_true.2 (fun x hx => decide_eq_true (h x hx))
theorem dec_all (u : Nat) : (decDigits u).all dig = true := all_of_dg (Dig.dec_dg u)
theorem num_dec (u : Nat) : num 0 (decDigits u) = u := by
  induction u using Nat.strongRecOn with
  | ind u ih =>
    by_cases h : u < 10
    · rw [Dig.dec_small h, num_cons, num_nil]
      have := (Dig.dg_one u h).2.2
      omega
    · rw [Dig.dec_step h, num_snoc, ih (u / 10) (by omega), (Dig.dg_one (u % 10) (by omega)).2.2]
      omega
theorem num_pos {b : UInt8} {r : List UInt8} (h : (b :: r).all dig = true) (hb : b.toNat ≠ 48) : 1 ≤ num 0 (b :: r) := by
  rw [List.all_cons, Bool.and_eq_true] at h
  have h1 := of_decide_eq_true h.1
  rw [num_cons, num_acc]
  have hp : 1 ≤ 10 ^ r.length := Nat.pow_pos (by omega)
  have : 1 * 1 ≤ (0 * 10 + (b.toNat - 48)) * 10 ^ r.length := Nat.mul_le_mul (by omega) hp
  omega
/-- a numeral without a nought ahead -/
def Hd (l : List UInt8) : Prop := ∃ b r, l = b :: r ∧ (b.toNat ≠ 48 ∨ r = [])
theorem dig_back {c : UInt8} (h : dig c = true) : UInt8.ofNat (48 + (c.toNat - 48)) = c := by
  have := of_decide_eq_true h
  rw [show 48 + (c.toNat - 48) = c.toNat by omega, UInt8.ofNat_toNat]
theorem dec_num : ∀ (n : Nat) (l : List UInt8), l.length = n → l.all dig = true → Hd l → decDigits (num 0 l) = l
  | 0, l, hn, _, ⟨b, r, e, _⟩ => by rw [e] at hn; simp at hn
  | n + 1, l, hn, ha, hh => by
    obtain ⟨l', c, rfl⟩ : ∃ l' c, l = l' ++ [c] := ⟨l.dropLast, l.getLast (fun e => by rw [e] at hn; simp at hn), (List.dropLast_concat_getLast _).symm⟩
    rw [List.all_append, Bool.and_eq_true] at ha
    have hc : dig c = true := by simpa using ha.2
    have hc' := of_decide_eq_true hc
    rw [num_snoc]
    cases hl : l' with
    | nil =>
      rw [num_nil, Nat.zero_mul, Nat.zero_add, Dig.dec_small (by omega), dig_back hc]
      rfl
    | cons b r =>
      rw [hl] at ha hh hn
      obtain ⟨b', r', e, hb⟩ := hh
      rw [List.cons_append] at e
      injection e with e1 e2
      subst e1
      have hb : b.toNat ≠ 48 := by
        rcases hb with hb | hb
        · exact hb
        · rw [hb] at e2; simp at e2
      have hp := num_pos ha.1 hb
      have ih := dec_num n (b :: r) (by simpa using hn) ha.1 ⟨b, r, rfl, .inl hb⟩
      rw [Dig.dec_step (by omega), show (num 0 (b :: r) * 10 + (c.toNat - 48)) / 10 = num 0 (b :: r) by omega, show (num 0 (b :: r) * 10 + (c.toNat - 48)) % 10 = c.toNat - 48 by omega, ih, dig_back hc]
theorem dec_hd (u : Nat) : Hd (decDigits u) := by
  induction u using Nat.strongRecOn with
  | ind u ih =>
    by_cases h : u < 10
    · rw [Dig.dec_small h]; exact ⟨_, _, rfl, .inr rfl⟩
    · rw [Dig.dec_step h]
      obtain ⟨b, r, e, hb⟩ := ih (u / 10) (by omega)
      rw [e]
      refine ⟨b, r ++ [_], rfl, .inl ?_⟩
      rcases hb with hb | hb
      · exact hb
      · intro h48
        have := num_dec (u / 10)
        rw [e, hb, num_cons, num_nil, h48] at this
        omega
theorem dec_hd1 {u : Nat} (hu : 0 < u) : ∃ b r, decDigits u = b :: r ∧ b.toNat ≠ 48 := by
  obtain ⟨b, r, e, hb⟩ := dec_hd u
  refine ⟨b, r, e, ?_⟩
  rcases hb with hb | hb
  · exact hb
  · intro h48
    have := num_dec u
    rw [e, hb, num_cons, num_nil, h48] at this
    omega
theorem num_zeros : ∀ (n : Nat), num 0 (List.replicate n 48) = 0
  | 0 => rfl
  | n + 1 => by rw [List.replicate_succ, num_cons]; exact num_zeros n
theorem dec_len : ∀ (n u : Nat), u < 10 ^ (n + 1) → (decDigits u).length ≤ n + 1
  | 0, u, h => by rw [Dig.dec_small (by simpa using h)]; exact Nat.le_refl _
  | n + 1, u, h => by
    by_cases h10 : u < 10
    · rw [Dig.dec_small h10]; simp
    · rw [Dig.dec_step h10, List.length_append]
      have := dec_len n (u / 10) (by rw [Nat.pow_succ] at h; omega)
      simp only [List.length_cons, List.length_nil]
      omega
/-- nine digits of the rest behind the quotient's -/
theorem dec_split (v : Nat) (hv : 1000000000 ≤ v) : decDigits v = decDigits (v / 1000000000) ++ (List.replicate (9 - (decDigits (v % 1000000000)).length) 48 ++ decDigits (v % 1000000000)) := by
  have hr : v % 1000000000 < 1000000000 := Nat.mod_lt _ (by omega)
  have hl := dec_len 8 (v % 1000000000) (by simpa using hr)
  obtain ⟨b, r, e, hb⟩ := dec_hd1 (u := v / 1000000000) (by omega)
  have hn : num 0 (decDigits (v / 1000000000) ++ (List.replicate (9 - (decDigits (v % 1000000000)).length) 48 ++ decDigits (v % 1000000000))) = v := by
    rw [num_append, num_dec, num_acc, num_append, num_zeros, num_dec, List.length_append, List.length_replicate, show 9 - (decDigits (v % 1000000000)).length + (decDigits (v % 1000000000)).length = 9 by omega]
    omega
  have hk := dec_num _ (decDigits (v / 1000000000) ++ (List.replicate (9 - (decDigits (v % 1000000000)).length) 48 ++ decDigits (v % 1000000000))) rfl (by
    rw [List.all_append, List.all_append, dec_all, dec_all, List.all_replicate]
    simp [dig]) ⟨b, _, by rw [e]; rfl, .inl hb⟩
  rw [hn] at hk
  exact hk
end Go.Proofs.YtidccoahjpjoaaaGreatDoor.PA

/- Digits from the last on, nine at a time. -/
set_option linter.unusedVariables false
namespace Go.Proofs.YtidccoahjpjoaaaGreatDoor.PA
open Go Go.Lib
/-- so many digits of a number, the last first -/
def digs : Nat → Nat → List UInt8
  | 0, _ => []
  | j + 1, r => UInt8.ofNat (48 + r % 10) :: digs j (r / 10)
theorem digs_zero : ∀ j, digs j 0 = List.replicate j 48
  | 0 => rfl
  | j + 1 => by rw [List.replicate_succ, ← digs_zero j]; rfl
theorem digs_len : ∀ j r, (digs j r).length = j
  | 0, _ => rfl
  | j + 1, r => by show (digs j (r / 10)).length + 1 = j + 1; rw [digs_len j]
theorem digs_rev : ∀ (j r : Nat), 0 < j → r < 10 ^ j → (digs j r).reverse = List.replicate (j - (decDigits r).length) 48 ++ decDigits r
  | 0, _, h, _ => absurd h (by omega)
  | 1, r, _, h => by
    have h' : r < 10 := by simpa using h
    rw [Dig.dec_small h']
    show [UInt8.ofNat (48 + r % 10)].reverse = _
    rw [Nat.mod_eq_of_lt h']
    rfl
  | j + 2, r, _, h => by
    show (UInt8.ofNat (48 + r % 10) :: digs (j + 1) (r / 10)).reverse = _
    rw [List.reverse_cons]
    by_cases h10 : r < 10
    · rw [Nat.div_eq_of_lt h10, Nat.mod_eq_of_lt h10, digs_zero, List.reverse_replicate, Dig.dec_small h10]
      rfl
    · have ih := digs_rev (j + 1) (r / 10) (by omega) (by rw [Nat.pow_succ] at h; omega)
      rw [ih, Dig.dec_step h10, List.length_append, List.length_singleton, show j + 2 - ((decDigits (r / 10)).length + 1) = j + 1 - (decDigits (r / 10)).length by omega, List.append_assoc]
/-- all digits, the last first -/
def rdig (v : Nat) : List UInt8 := (decDigits v).reverse
theorem rdig_small {r : Nat} (h : r < 10) : rdig r = [UInt8.ofNat (48 + r % 10)] := by
  unfold rdig; rw [Dig.dec_small h, Nat.mod_eq_of_lt h]; rfl
theorem rdig_step {r : Nat} (h : ¬ r < 10) : rdig r = UInt8.ofNat (48 + r % 10) :: rdig (r / 10) := by
  unfold rdig; rw [Dig.dec_step h, List.reverse_append]; rfl
theorem rdig_split {v : Nat} (h : 1000000000 ≤ v) : rdig v = digs 9 (v % 1000000000) ++ rdig (v / 1000000000) := by
  have h9 := digs_rev 9 (v % 1000000000) (by omega) (by have : v % 1000000000 < 1000000000 := Nat.mod_lt _ (by omega); exact this)
  unfold rdig
  rw [dec_split v h, ← h9, List.reverse_append, List.reverse_reverse]
end Go.Proofs.YtidccoahjpjoaaaGreatDoor.PA

/- nat.cut and nat.small as plain laws. -/
set_option linter.unusedVariables false
set_option linter.unusedSimpArgs false
namespace Go.Proofs.YtidccoahjpjoaaaGreatDoor.NT
open Go.RowKit Go.Proofs.YtidccoahjpjoaaaGreatDoor.PK1 Go.Proofs.YtidccoahjpjoaaaGreatDoorW.PrintWords Q
theorem rd_wd (xs : List Int) (i : Nat) : rd xs (i : Int) = wd xs i := rfl
theorem cut_l0 (xs : List Int) (hl : xs.length ≤ 100000) : ∀ n k, n ≤ xs.length → n < k → ∃ m, m ≤ n ∧ nat_cut.l0 k xs (n : Int) = some (xs.take m) ∧ Tr (xs.take m) ∧ val (xs.take m) = val (xs.take n)
  | _, 0, _, h => by omega
  | 0, k + 1, h, _ => by
    refine ⟨0, Nat.le_refl _, ?_, Tr.nil, rfl⟩
    unfold nat_cut.l0
    rw [if_neg (by omega), if_pos (by omega), if_pos (by omega)]
    rfl
  | n + 1, k + 1, h, hk => by
    have hw : wrap64 (((n + 1 : Nat) : Int) - 1) = (n : Int) := by unfold wrap64; omega
    unfold nat_cut.l0
    rw [if_pos (by omega), hw, if_pos (by omega), if_pos (by omega), rd_wd]
    by_cases hz : wd xs n = 0
    · rw [if_pos hz]
      obtain ⟨m, h1, h2, h3, h4⟩ := cut_l0 xs hl n k (by omega) (by omega)
      refine ⟨m, by omega, h2, h3, ?_⟩
      rw [h4, val_take_succ (by omega), hz, Int.mul_zero, Int.add_zero]
    · rw [if_neg hz, if_pos (by omega), if_pos (by omega)]
      refine ⟨n + 1, Nat.le_refl _, rfl, (Tr_iff _).2 (.inr ?_), rfl⟩
      rw [List.length_take, Nat.min_eq_left h, Nat.add_sub_cancel, wd_take (by omega)]
      exact hz
theorem cut_nw (k : Nat) (xs : List Int) (hw : Wds xs) (hl : xs.length ≤ 100000) (hk : xs.length < k) : nat_cut.f k xs = some (nw (val xs)) := by
  obtain ⟨m, _, h2, h3, h4⟩ := cut_l0 xs hl xs.length k (Nat.le_refl _) hk
  unfold nat_cut.f
  rw [h2, ← nwd_nw, nwd_eq (hw.take m) h3 (h4.trans (by rw [List.take_length]))]
theorem or_hi (x y : Int) (h0 : 0 ≤ x) (h1 : x < 4294967296) (h2 : 0 ≤ y) (h3 : y < 4294967296) : Go.bits .or .u64 (y * 4294967296) x = y * 4294967296 + x := by
  rw [u64_or (y * 4294967296) x (by omega) (by omega) (by omega) (by omega), Nat.or_comm, ← u64_or x (y * 4294967296) (by omega) (by omega) (by omega) (by omega), or32 x y h0 h1 h2 h3]
  omega
theorem small_l0 : ∀ (i k : Nat) (zs : List Int) (r : Int), i ≤ zs.length → zs.length ≤ 100000 → Wds zs → 0 ≤ r → r < 1000000000 → i + zs.length + 1 < k →
    nat_small.l0 k zs 1000000000 r ((i : Int) - 1) = some (nw ((val (zs.take i) + Bp i * r) / 1000000000 + Bp i * val (zs.drop i)), (val (zs.take i) + Bp i * r) % 1000000000)
  | _, 0, _, _, _, _, _, _, _, h => by omega
  | 0, k + 1, zs, r, hi, hl, hw, r0, r1, hk => by
    unfold nat_small.l0
    rw [if_neg (by omega), cut_nw k zs hw hl (by omega), Option.bind_some, List.take_zero, List.drop_zero, Bp_zero]
    have e : (val [] + 1 * r) = r := by show (0 : Int) + 1 * r = r; omega
    rw [e, Int.one_mul, show r / 1000000000 = 0 by omega, Int.zero_add, show r % 1000000000 = r by omega, show r % 4294967296 = r by omega]
  | i + 1, k + 1, zs, r, hi, hl, hw, r0, r1, hk => by
    have hx := hw.wd i
    have hd : IntKind.u64.wrap 1000000000 = 1000000000 := by decide
    have hm : wrap64 (((i + 1 : Nat) : Int) - 1 - 1) = (i : Int) - 1 := by unfold wrap64; omega
    have e1 : (((i + 1 : Nat) : Int) - 1) = (i : Int) := by omega
    have w1 : IntKind.u64.wrap (r * 4294967296) = r * 4294967296 := by rw [IntKind.wrap_u64]; omega
    have w2 : IntKind.u64.wrap (wd zs i) = wd zs i := by rw [IntKind.wrap_u64]; omega
    unfold nat_small.l0
    rw [hm, e1, hd, rd_wd, w1, w2, or_hi _ _ hx.1 hx.2 r0 (by omega), if_pos (by omega), if_pos (by omega), if_pos (by omega), if_neg (by omega)]
    obtain ⟨t, ht⟩ : ∃ t, t = r * 4294967296 + wd zs i := ⟨_, rfl⟩
    rw [← ht]
    have t0 : 0 ≤ t := by omega
    rw [Int.tdiv_eq_ediv_of_nonneg t0, Int.tmod_eq_emod_of_nonneg t0]
    have q1 : t / 1000000000 < 4294967296 := by omega
    have q0 : 0 ≤ t / 1000000000 := by omega
    have w3 : IntKind.u64.wrap (t / 1000000000) = t / 1000000000 := by rw [IntKind.wrap_u64]; omega
    rw [w3, show t / 1000000000 % 4294967296 = t / 1000000000 by omega, Int.toNat_natCast]
    rw [small_l0 i k (zs.set i (t / 1000000000)) (t % 1000000000) (by rw [List.length_set]; omega) (by rw [List.length_set]; exact hl) (hw.set i q0 q1) (by omega) (by omega) (by rw [List.length_set]; omega)]
    have hlt : i < zs.length := by omega
    have a1 : (zs.set i (t / 1000000000)).take i = zs.take i := List.take_set_of_le (Nat.le_refl _)
    have a2 : val ((zs.set i (t / 1000000000)).drop i) = t / 1000000000 + 4294967296 * val (zs.drop (i + 1)) := by
      rw [List.drop_eq_getElem_cons (by rw [List.length_set]; exact hlt), List.getElem_set_self, List.drop_set_of_lt (by omega)]
      rfl
    rw [a1, a2, val_take_succ hlt, Bp_succ]
    have key : val (zs.take i) + Bp i * wd zs i + 4294967296 * Bp i * r = val (zs.take i) + Bp i * (t % 1000000000) + 1000000000 * (Bp i * (t / 1000000000)) := by
      have e := Int.mul_ediv_add_emod t 1000000000
      have e2 : Bp i * (1000000000 * (t / 1000000000) + t % 1000000000) = Bp i * (r * 4294967296 + wd zs i) := by rw [e, ht]
      rw [Int.mul_add, Int.mul_add, Int.mul_left_comm, ← Int.mul_assoc (Bp i) r, Int.mul_comm (Bp i * r)] at e2
      rw [Int.mul_assoc]
      omega
    rw [key, Int.add_mul_ediv_left _ _ (by omega), Int.add_mul_emod_self_left, Int.mul_add, ← Int.mul_assoc (Bp i), Int.mul_comm (Bp i) 4294967296, Int.add_assoc]
theorem small_nw (k : Nat) {v : Int} (h0 : 0 ≤ v) (hl : (nw v).length ≤ 50000) (hk : 2 * (nw v).length + 1 < k) : nat_small.f k (nw v) 1000000000 = some (nw (v / 1000000000), v % 1000000000) := by
  unfold nat_small.f
  have hw : wrap64 (((nw v).length : Int) - 1) = ((nw v).length : Int) - 1 := by unfold wrap64; omega
  rw [hw, small_l0 (nw v).length k (nw v) 0 (Nat.le_refl _) (by omega) (nw_wds v) (by omega) (by omega) (by omega), List.take_length, List.drop_length, val_nw h0, Int.mul_zero, Int.add_zero]
  have e : val [] = 0 := rfl
  rw [e, Int.mul_zero, Int.add_zero]
end Go.Proofs.YtidccoahjpjoaaaGreatDoor.NT

/- nat.Print as a plain law: the decimal digits. -/
set_option linter.unusedVariables false
set_option linter.unusedSimpArgs false
namespace Go.Proofs.YtidccoahjpjoaaaGreatDoor.NT
open Go.RowKit Go.Proofs.YtidccoahjpjoaaaGreatDoor.PK1 Go.Proofs.YtidccoahjpjoaaaGreatDoorW.PrintWords Q
theorem set_at {α : Type} (A R : List α) (x y : α) : (A ++ x :: R).set A.length y = A ++ y :: R := by
  rw [List.set_append_right _ _ (Nat.le_refl _), Nat.sub_self]; rfl
theorem get_at (A R : List ByteArray) (x : ByteArray) (i : Nat) (hi : i = A.length) : rdOf ByteArray.empty (A ++ x :: R) (i : Int) = x := by
  subst hi
  unfold rdOf
  rw [Int.toNat_natCast, List.getD_eq_getElem?_getD, List.getElem?_append_right (Nat.le_refl _), Nat.sub_self]
  rfl
theorem wadd {x : Int} (h0 : 0 ≤ x) (h1 : x < 200000) : wrap64 (x + 1) = x + 1 := by unfold wrap64; omega
theorem wsub {x : Int} (h0 : 0 ≤ x) (h1 : x < 200000) : wrap64 (x - 1) = x - 1 := by unfold wrap64; omega
theorem rev_step (A M B : List ByteArray) (a b : ByteArray) (k : Nat) (hl : A.length + (M.length + 2) + B.length ≤ 100000)
    (ih : slices_Reverse_string_string.l0 k ((A ++ [b]) ++ M ++ (a :: B)) ((A ++ [b]).length : Int) ((((A ++ [b]).length + M.length : Nat) : Int) - 1) = some ((A ++ [b]) ++ M.reverse ++ (a :: B))) :
    slices_Reverse_string_string.l0 (k + 1) (A ++ a :: (M ++ b :: B)) (A.length : Int) (((A ++ a :: M).length : Nat) : Int) = some ((A ++ [b]) ++ M.reverse ++ (a :: B)) := by
  have hL2 : A ++ b :: (M ++ b :: B) = (A ++ b :: M) ++ b :: B := by simp
  have hL3 : A ++ a :: (M ++ b :: B) = (A ++ a :: M) ++ b :: B := by simp
  have hj2 : (A ++ b :: M).length = (A ++ a :: M).length := by simp
  have hla : (A ++ a :: M).length = A.length + M.length + 1 := by rw [List.length_append, List.length_cons]; omega
  have hlb : (A ++ a :: (M ++ b :: B)).length = A.length + M.length + 2 + B.length := by rw [List.length_append, List.length_cons, List.length_append, List.length_cons]; omega
  have hAb : (A ++ [b]).length = A.length + 1 := by simp
  have hx : rdOf ByteArray.empty (A ++ a :: (M ++ b :: B)) ((A ++ a :: M).length : Int) = b := by rw [hL3]; exact get_at _ _ _ _ rfl
  have hy : rdOf ByteArray.empty (A ++ a :: (M ++ b :: B)) (A.length : Int) = a := get_at _ _ _ _ rfl
  have hs : ((A ++ a :: (M ++ b :: B)).set A.length b).set (A ++ a :: M).length a = (A ++ [b]) ++ M ++ (a :: B) := by
    rw [set_at, hL2, ← hj2, set_at]
    simp
  unfold slices_Reverse_string_string.l0
  rw [if_pos (by rw [hla]; omega), if_pos (by omega), if_pos (by rw [hla, hlb]; omega), if_pos (by omega), if_pos (by rw [hlb]; omega), hx, hy, Int.toNat_natCast, Int.toNat_natCast, hs]
  rw [wadd (by omega) (by omega), wsub (by omega) (by rw [hla]; omega)]
  rw [hAb] at ih
  rw [hla]
  rw [show ((A.length : Int) + 1) = ((A.length + 1 : Nat) : Int) by omega, show (((A.length + M.length + 1 : Nat) : Int) - 1) = (((A.length + 1 + M.length : Nat) : Int) - 1) by omega]
  exact ih
theorem rev_l0 (k : Nat) : ∀ (A M B : List ByteArray), A.length + M.length + B.length ≤ 100000 → M.length < k →
    slices_Reverse_string_string.l0 k (A ++ M ++ B) (A.length : Int) (((A.length + M.length : Nat) : Int) - 1) = some (A ++ M.reverse ++ B) := by
  induction k with
  | zero => intro A M B _ h; omega
  | succ k ih =>
    intro A M B hl hk
    cases M with
    | nil =>
      unfold slices_Reverse_string_string.l0
      rw [if_neg (by rw [List.length_nil]; omega)]
      rfl
    | cons a M2 =>
      by_cases hm : M2 = []
      · subst hm
        unfold slices_Reverse_string_string.l0
        rw [if_neg (by rw [List.length_cons, List.length_nil]; omega)]
        rfl
      · obtain ⟨M, b, e⟩ : ∃ M b, M2 = M ++ [b] := ⟨M2.dropLast, M2.getLast hm, (List.dropLast_concat_getLast hm).symm⟩
        subst e
        have e1 : (a :: (M ++ [b])).length = M.length + 2 := by simp
        rw [e1] at hl hk ⊢
        have h := rev_step A M B a b k hl (ih (A ++ [b]) M (a :: B) (by simp only [List.length_append, List.length_cons, List.length_nil]; omega) (by omega))
        have e2 : A ++ a :: (M ++ [b]) ++ B = A ++ a :: (M ++ b :: B) := by simp
        have e3 : ((A.length + (M.length + 2) : Nat) : Int) - 1 = (((A ++ a :: M).length : Nat) : Int) := by rw [List.length_append, List.length_cons]; omega
        rw [e2, e3, h]
        simp
theorem rev_f (k : Nat) (l : List ByteArray) (hl : l.length ≤ 100000) (hk : l.length < k) : slices_Reverse_string_string.f k l = some l.reverse := by
  unfold slices_Reverse_string_string.f
  have h := rev_l0 k [] l [] (by rw [List.length_nil]; omega) hk
  rw [wsub (by omega) (by omega)]
  simpa using h
open Go.Lib in
theorem inter_nil : ∀ xs : List (List UInt8), Lib.join xs [] = xs.flatten
  | [] => rfl
  | [x] => by simp [Lib.join, List.intercalate]
  | x :: y :: r => by
    have ih := inter_nil (y :: r)
    unfold Lib.join List.intercalate at ih ⊢
    rw [List.intersperse_cons_cons, List.flatten_cons, List.flatten_cons, ih]
    simp
def flat (xs : List ByteArray) : List UInt8 := (xs.map (·.data.toList)).flatten
theorem flat_len : ∀ (xs : List ByteArray), (∀ p ∈ xs, p.size ≤ 9) → (flat xs).length ≤ 9 * xs.length
  | [], _ => Nat.le_refl _
  | x :: r, h => by
    have ih := flat_len r (fun p hp => h p (List.mem_cons_of_mem _ hp))
    have hx := h x List.mem_cons_self
    rw [Lib.size_eq] at hx
    unfold flat at ih ⊢
    rw [List.map_cons, List.flatten_cons, List.length_append, List.length_cons]
    omega
theorem join_f (xs : List ByteArray) (h : xs.length ≤ 10000) (hs : ∀ p ∈ xs, p.size ≤ 9) : strings_Join.f xs (⟨#[]⟩ : ByteArray) = some ⟨(flat xs).toArray⟩ := by
  have e : Lib.join (xs.map (·.data.toList)) (⟨#[]⟩ : ByteArray).data.toList = flat xs := inter_nil _
  have hl := flat_len xs hs
  unfold strings_Join.f
  rw [e, if_pos ⟨by omega, by omega⟩]
theorem print_zero (k : Nat) (acc : List ByteArray) (h : acc.length ≤ 10000) (hs : ∀ p ∈ acc, p.size ≤ 9) (hk : acc.length < k) : nat_Print.l0 (k + 1) acc (nw 0) = some (⟨(flat acc.reverse).toArray⟩, 0) := by
  unfold nat_Print.l0
  rw [nw_zero, if_neg (by rw [List.length_nil]; omega), rev_f k acc (by omega) hk, Option.bind_some, join_f _ (by rw [List.length_reverse]; exact h) (fun p hp => hs p (List.mem_reverse.1 hp)), Option.bind_some]
theorem fmt_f (r : Int) (r0 : 0 ≤ r) (r1 : r < 1000000000) : strconv_FormatUint.f (IntKind.u64.wrap r) 10 = some ⟨(Lib.decDigits r.toNat).toArray⟩ := by
  have w : IntKind.u64.wrap r = r := by rw [IntKind.wrap_u64]; omega
  unfold strconv_FormatUint.f
  rw [w, if_pos ⟨r0, by omega, rfl⟩]
theorem arr_size (l : List UInt8) : (⟨l.toArray⟩ : ByteArray).size = l.length := by rw [Lib.size_eq]
theorem rep_list : ∀ n, Lib.repeatL [48] n = List.replicate n 48
  | 0 => rfl
  | n + 1 => by rw [List.replicate_succ, ← rep_list n]; rfl
theorem dec_len9 {r : Int} (r0 : 0 ≤ r) (r1 : r < 1000000000) : (Lib.decDigits r.toNat).length ≤ 9 := PA.dec_len 8 r.toNat (by show r.toNat < 10 ^ 9; have e : (10 : Nat) ^ 9 = 1000000000 := rfl; omega)
theorem rep_f (n : Nat) (h : n ≤ 9) : strings_Repeat.f (⟨#[48]⟩ : ByteArray) (wrap64 (9 - (n : Int))) = some ⟨(List.replicate (9 - n) 48).toArray⟩ := by
  have w : wrap64 (9 - (n : Int)) = ((9 - n : Nat) : Int) := by unfold wrap64; omega
  unfold strings_Repeat.f
  rw [w, if_pos ⟨by omega, by omega, by decide⟩, Int.toNat_natCast]
  have e : (⟨#[48]⟩ : ByteArray).data.toList = [48] := rfl
  rw [e, rep_list]
theorem flat_snoc (acc : List ByteArray) (p : ByteArray) : flat (acc ++ [p]).reverse = p.data.toList ++ flat acc.reverse := by
  rw [List.reverse_append]
  rfl
theorem print_l0 : ∀ (m k : Nat) (acc : List ByteArray) (v : Int), 0 < v → v < 1000000000 ^ m → v < Bp 310 → acc.length + m ≤ 1000 → (∀ p ∈ acc, p.size ≤ 9) → 1100 + m < k →
    nat_Print.l0 k acc (nw v) = some (⟨(Lib.decDigits v.toNat ++ flat acc.reverse).toArray⟩, 0)
  | 0, k, acc, v, v0, vm, _, _, _, _ => by rw [Int.pow_zero] at vm; omega
  | m + 1, 0, _, _, _, _, _, _, _, h => by omega
  | m + 1, k + 1, acc, v, v0, vm, vb, ha, hs, hk => by
    have hlen := nw_len vb (by omega)
    have hne : (nw v).length ≠ 0 := fun e => by have := (nw_len0 (by omega)).1 e; omega
    have r0 : 0 ≤ v % 1000000000 := by omega
    have r1 : v % 1000000000 < 1000000000 := by omega
    have hd := dec_len9 r0 r1
    unfold nat_Print.l0
    rw [if_pos (by omega), small_nw k (by omega) (by omega) (by omega), Option.bind_some, fmt_f _ r0 r1, Option.bind_some]
    by_cases hq : v / 1000000000 = 0
    · have hv : v % 1000000000 = v := by omega
      rw [hv] at hd
      simp only [hq, hv]
      rw [if_neg (by rw [nw_zero, List.length_nil]; omega), if_pos (by omega)]
      obtain ⟨k, rfl⟩ : ∃ i, k = i + 1 := ⟨k - 1, by omega⟩
      have hz := print_zero k (acc ++ [(⟨(Lib.decDigits v.toNat).toArray⟩ : ByteArray)]) (by rw [List.length_append]; simp; omega) (fun p hp => by
        rcases List.mem_append.1 hp with hp | hp
        · exact hs p hp
        · rw [List.mem_singleton.1 hp, arr_size]; exact hd) (by rw [List.length_append]; simp; omega)
      rw [flat_snoc] at hz
      exact hz
    · have q0 : 0 < v / 1000000000 := by omega
      have hqn : (nw (v / 1000000000)).length ≠ 0 := fun e => by have := (nw_len0 (by omega)).1 e; omega
      have hqm : v / 1000000000 < 1000000000 ^ m := by
        rw [Int.pow_succ] at vm
        exact Int.ediv_lt_of_lt_mul (by omega) vm
      have hp9 : (⟨(List.replicate (9 - (Lib.decDigits (v % 1000000000).toNat).length) 48).toArray⟩ ++ ⟨(Lib.decDigits (v % 1000000000).toNat).toArray⟩ : ByteArray).data.toList = List.replicate (9 - (Lib.decDigits (v % 1000000000).toNat).length) 48 ++ Lib.decDigits (v % 1000000000).toNat := by
        rw [Go.Joins.data_append]
      have hsz : (List.replicate (9 - (Lib.decDigits (v % 1000000000).toNat).length) (48 : UInt8)).length + (Lib.decDigits (v % 1000000000).toNat).length ≤ 9223372036854775807 := by
        rw [List.length_replicate]
        omega
      simp only []
      rw [if_pos (by omega), arr_size, rep_f _ hd, Option.bind_some, arr_size, if_pos hsz, if_pos (by omega)]
      rw [print_l0 m k _ (v / 1000000000) q0 hqm (by omega) (by rw [List.length_append]; simp; omega) (fun p hp => by
        rcases List.mem_append.1 hp with hp | hp
        · exact hs p hp
        · rw [List.mem_singleton.1 hp, Lib.size_eq, hp9, List.length_append, List.length_replicate]; omega) (by omega), flat_snoc, hp9]
      have e := PA.dec_split v.toNat (by omega)
      have e1 : v.toNat / 1000000000 = (v / 1000000000).toNat := by omega
      have e2 : v.toNat % 1000000000 = (v % 1000000000).toNat := by omega
      rw [e1, e2] at e
      rw [e]
      simp only [List.append_assoc]
theorem pow_nine {v : Int} {n m : Nat} (h : v < Bp n) (hm : 10 * n ≤ 9 * m) : v < 1000000000 ^ m := by
  refine Int.lt_of_lt_of_le h ?_
  have h1 : (4294967296 : Nat) ^ n ≤ 1000000000 ^ m := by
    refine Nat.le_trans (Nat.pow_le_pow_left (show 4294967296 ≤ 10 ^ 10 by decide) n) ?_
    rw [← Nat.pow_mul]
    refine Nat.le_trans (Nat.pow_le_pow_right (n := 10) (by omega) hm) ?_
    rw [Nat.pow_mul]
    exact Nat.le_refl _
  have h2 : ((4294967296 ^ n : Nat) : Int) ≤ ((1000000000 ^ m : Nat) : Int) := Int.ofNat_le.2 h1
  rw [Int.natCast_pow, Int.natCast_pow] at h2
  exact h2
theorem print_g (k : Nat) {v : Int} (v0 : 0 ≤ v) (vb : v < Bp 310) (hk : 1600 < k) : nat_Print.f k (nw v) = some (⟨(Lib.decDigits v.toNat).toArray⟩, 0) := by
  have b400 : v < Bp 400 := Int.lt_of_lt_of_le vb (Bp_mono (by omega))
  have hok := okw_400 v0 b400
  unfold nat_Print.f nat_Check.f slices_Clone_uint32_uint32.f
  rw [if_pos hok, Option.bind_some, chk_nw v0 (Int.lt_of_lt_of_le vb (Bp_mono (by omega))), if_pos rfl, if_pos hok]
  by_cases h : v = 0
  · subst h
    rw [if_pos (by rw [nw_zero]; rfl), show Int.toNat 0 = 0 from rfl, Dig.dec_small (by omega)]
    rfl
  · rw [if_neg (fun e => h ((nw_len0 v0).1 (by omega))), Option.bind_some, print_l0 345 k [] v (by omega) (pow_nine vb (by omega)) vb (by simp) (fun p hp => by cases hp) (by omega)]
    have e : flat [].reverse = [] := rfl
    rw [e, List.append_nil]
theorem print_f (k : Nat) {v : Int} (v0 : 0 ≤ v) (vb : v < Bp 63) (hk : 1600 < k) : nat_Print.f k (nw v) = some (⟨(Lib.decDigits v.toNat).toArray⟩, 0) :=
  print_g k v0 (Int.lt_of_lt_of_le vb (Bp_mono (by omega))) hk
end Go.Proofs.YtidccoahjpjoaaaGreatDoor.NT

/- Texts of natural numbers, the program's, as plain laws. -/
set_option linter.unusedVariables false
set_option linter.unusedSimpArgs false
namespace Go.Proofs.YtidccoahjpjoaaaGreatDoor.NT
open Go.RowKit Go.Proofs.YtidccoahjpjoaaaGreatDoor.PK1 Go.Proofs.YtidccoahjpjoaaaGreatDoorW.PrintWords Q
/-- what is answered: a list's text -/
def prS (xs : List Int) : ByteArray × Int := if chk xs = 0 then (⟨(Lib.decDigits (val xs).toNat).toArray⟩, 0) else (⟨#[]⟩, chk xs)
theorem chk_300 {xs : List Int} (h : chk xs = 0) (hs : xs.length ≤ 300 ∨ 8192 < xs.length) : xs.length ≤ 300 ∧ Tr xs := by
  have := chk_zero.1 h
  exact ⟨by omega, this.2⟩
theorem print_S (k : Nat) (xs : List Int) (hx : Wds xs) (hk : 1600 < k) (hs : xs.length ≤ 300 ∨ 8192 < xs.length) (ho : okw xs = true) : nat_Print.f k xs = some (prS xs) := by
  unfold prS
  by_cases h0 : chk xs = 0
  · obtain ⟨hl, hT⟩ := chk_300 h0 hs
    rw [if_pos h0]
    have h := print_g k (val_nonneg hx) (Int.lt_of_lt_of_le (val_lt hx) (Bp_mono (show xs.length ≤ 310 by omega))) hk
    rw [nw_val hx hT] at h
    exact h
  · rw [if_neg h0]
    unfold nat_Print.f nat_Check.f
    rw [if_pos ho, Option.bind_some, if_neg h0]
theorem ten_Bp {x : Nat} {n m : Nat} (h : x < 10 ^ n) (hm : n ≤ 9 * m) : (x : Int) < Bp m := by
  have h1 : (10 : Nat) ^ n ≤ 4294967296 ^ m := by
    refine Nat.le_trans (Nat.pow_le_pow_right (by omega) hm) ?_
    rw [Nat.pow_mul]
    exact Nat.pow_le_pow_left (by decide) m
  have h2 : ((x : Nat) : Int) < ((4294967296 ^ m : Nat) : Int) := Int.ofNat_lt.2 (Nat.lt_of_lt_of_le h h1)
  rw [Int.natCast_pow] at h2
  exact h2
theorem okT_all {l : List UInt8} (h : okT l = true) : l.all PA.dig = true := by
  unfold okT at h
  rw [Bool.and_eq_true] at h
  exact h.1
theorem num_len (s : ByteArray) (h : okT s.data.toList = true) (hs : s.size ≤ 65536) : (nw (PA.num 0 s.data.toList : Int)).length ≤ 8192 := by
  have h1 := PA.num_lt _ (okT_all h)
  rw [← Lib.size_eq] at h1
  exact nw_len (ten_Bp h1 (by omega)) (by omega)
theorem bt_eq' (s : ByteArray) (i : Nat) (h : i < s.data.toList.length) : bt s (i : Int) = ((s.data.toList[i]).toNat : Int) := by
  have hs : ((i : Int)).toNat < s.size := by rw [Int.toNat_natCast, Lib.size_eq]; exact h
  rw [← bt_at s i hs]
  simp only [Int.toNat_natCast, Array.getElem_toList]
  rfl
end Go.Proofs.YtidccoahjpjoaaaGreatDoor.NT

/- Texts of natural numbers, the reference's, as plain laws. -/
set_option linter.unusedVariables false
set_option linter.unusedSimpArgs false
namespace Go.Proofs.YtidccoahjpjoaaaGreatDoor.NT
open Go.RowKit Go.Proofs.YtidccoahjpjoaaaGreatDoor.PK1 Go.Proofs.YtidccoahjpjoaaaGreatDoorW.PrintWords Q
def toI (l : List UInt8) : List Int := l.map fun b => (b.toNat : Int)
theorem toI_append (a b : List UInt8) : toI (a ++ b) = toI a ++ toI b := List.map_append
theorem toI_len (a : List UInt8) : (toI a).length = a.length := List.length_map ..
theorem str_toI (l : List UInt8) : strOfNums (toI l) = ⟨l.toArray⟩ := by
  unfold strOfNums toI
  rw [List.map_map]
  have : ((fun n : Int => UInt8.ofNat n.toNat) ∘ fun b : UInt8 => (b.toNat : Int)) = id := by
    funext b
    show UInt8.ofNat ((b.toNat : Int)).toNat = b
    rw [Int.toNat_natCast, UInt8.ofNat_toNat]
  rw [this, List.map_id]
theorem byte_digit (r : Nat) : (48 + Int.tmod (r : Int) 10) % 256 = (((UInt8.ofNat (48 + r % 10)).toNat : Nat) : Int) := by
  rw [Int.tmod_eq_emod_of_nonneg (by omega), UInt8.toNat_ofNat']
  omega
theorem ten_div (r : Nat) (h : r < 4294967296) : (Int.tdiv (r : Int) 10) % 4294967296 = ((r / 10 : Nat) : Int) := by
  rw [Int.tdiv_eq_ediv_of_nonneg (by omega)]
  omega
theorem dg_l2 : ∀ (e i k : Nat) (xs zs : List Int), e + i = xs.length → zs.length = xs.length → xs.length ≤ 100000 → e < k → zs.take i = xs.reverse.take i →
    slackwaterref01_Digits.l2 k xs zs (i : Int) = some (strOfNums xs.reverse)
  | _, _, 0, _, _, _, _, _, h, _ => by omega
  | 0, i, k + 1, xs, zs, he, hz, hl, hk, ht => by
    unfold slackwaterref01_Digits.l2
    rw [if_neg (by omega)]
    rw [List.take_of_length_le (by omega), List.take_of_length_le (by rw [List.length_reverse]; omega)] at ht
    rw [ht]
  | e + 1, i, k + 1, xs, zs, he, hz, hl, hk, ht => by
    have w1 : wrap64 ((xs.length : Int) - 1) = (xs.length : Int) - 1 := by unfold wrap64; omega
    have w2 : wrap64 ((xs.length : Int) - 1 - (i : Int)) = (e : Int) := by unfold wrap64; omega
    have w3 : wrap64 ((i : Int) + 1) = ((i + 1 : Nat) : Int) := by unfold wrap64; omega
    unfold slackwaterref01_Digits.l2
    rw [w1, w2, w3, if_pos (by omega), if_pos (by omega), if_pos (by omega), if_pos (by omega), if_pos (by omega), Int.toNat_natCast]
    refine dg_l2 e (i + 1) k xs _ (by omega) (by rw [List.length_set]; exact hz) hl (by omega) ?_
    have hi : i < xs.reverse.length := by rw [List.length_reverse]; omega
    have hg : rd xs (e : Int) = xs.reverse[i] := by
      rw [List.getElem_reverse, rd_wd]
      unfold wd
      rw [List.getD_eq_getElem?_getD, List.getElem?_eq_getElem (by omega), Option.getD_some]
      congr 1
      omega
    rw [List.take_succ_eq_append_getElem hi, hg, ← ht, List.take_succ_eq_append_getElem (by rw [List.length_set]; omega), List.getElem_set_self, List.take_set_of_le (Nat.le_refl _)]
theorem dg_end (k : Nat) (xs : List Int) (hl : xs.length ≤ 100000) (hk : xs.length + 1 < k) : slackwaterref01_Digits.l0 k [] xs = some (strOfNums xs.reverse) := by
  obtain ⟨k, rfl⟩ : ∃ i, k = i + 1 := ⟨k - 1, by omega⟩
  unfold slackwaterref01_Digits.l0; try dsimp only
  rw [if_neg (by simp), if_pos (by omega), if_pos (by omega), Int.toNat_natCast]
  exact dg_l2 xs.length 0 k xs _ (by omega) (List.length_replicate ..) hl (by omega) (by simp)
theorem dg_some (q : List Int) (hq : 0 < q.length) (k : Nat) : ∀ (j i r : Nat) (xs : List Int), j + i = 9 → r < 4294967296 → xs.length + j ≤ 100000 →
    slackwaterref01_Digits.l1 (k + j + 1) xs q (r : Int) (i : Int) = slackwaterref01_Digits.l0 k q (xs ++ toI (PA.digs j r))
  | 0, i, r, xs, h, hr, hl => by
    unfold slackwaterref01_Digits.l1
    rw [if_neg (by omega)]
    show _ = slackwaterref01_Digits.l0 k q (xs ++ [])
    rw [List.append_nil]
  | j + 1, i, r, xs, h, hr, hl => by
    have w3 : wrap64 ((i : Int) + 1) = ((i + 1 : Nat) : Int) := by unfold wrap64; omega
    show slackwaterref01_Digits.l1 ((k + j + 1) + 1) xs q (r : Int) (i : Int) = _
    unfold slackwaterref01_Digits.l1; try dsimp only
    rw [if_pos (by omega), if_pos (by omega), if_pos (by omega), byte_digit, ten_div r hr, w3, dg_some q hq k j (i + 1) (r / 10) _ (by omega) (by omega) (by rw [List.length_append]; simp; omega), List.append_assoc]
    rfl
theorem dg_none : ∀ (j i r k : Nat) (xs : List Int), j + i = 9 → r < 10 ^ j → xs.length + j ≤ 90000 → xs.length + 2 * j + 3 < k →
    slackwaterref01_Digits.l1 k xs [] (r : Int) (i : Int) = some (strOfNums (xs ++ (if r = 0 then [] else toI (PA.rdig r))).reverse)
  | _, _, _, 0, _, _, _, _, h => by omega
  | 0, i, r, k + 1, xs, h, hr, hl, hk => by
    have : r = 0 := by simpa using hr
    subst this
    unfold slackwaterref01_Digits.l1; try dsimp only
    rw [if_neg (by omega), if_pos rfl, List.append_nil]
    exact dg_end k xs (by omega) (by omega)
  | j + 1, i, r, k + 1, xs, h, hr, hl, hk => by
    have w3 : wrap64 ((i : Int) + 1) = ((i + 1 : Nat) : Int) := by unfold wrap64; omega
    have h9 : r < 4294967296 := Nat.lt_of_lt_of_le hr (Nat.le_trans (Nat.pow_le_pow_right (by omega) (show j + 1 ≤ 9 by omega)) (by decide))
    unfold slackwaterref01_Digits.l1; try dsimp only
    rw [if_pos (by omega), if_neg (by simp)]
    by_cases h0 : r = 0
    · subst h0
      rw [if_neg (by omega), if_pos rfl, List.append_nil]
      exact dg_end k xs (by omega) (by omega)
    · rw [if_pos (by omega), if_pos (by omega), byte_digit, ten_div r h9, w3, if_neg h0]
      rw [dg_none j (i + 1) (r / 10) k _ (by omega) (by rw [Nat.pow_succ] at hr; omega) (by rw [List.length_append]; simp; omega) (by rw [List.length_append]; simp; omega)]
      by_cases h10 : r < 10
      · rw [if_pos (by omega), PA.rdig_small h10, List.append_nil]
        rfl
      · rw [if_neg (by omega), PA.rdig_step h10, List.append_assoc]
        rfl
theorem dg_l0 : ∀ (m k : Nat) (v : Int) (xs : List Int), 0 < v → v < 1000000000 ^ m → v < Bp 310 → xs.length + 9 * m ≤ 80000 → xs.length + 20 * m + 30 < k →
    slackwaterref01_Digits.l0 k (nw v) xs = some (strOfNums (xs ++ toI (PA.rdig v.toNat)).reverse)
  | 0, _, v, _, v0, vm, _, _, _ => by rw [Int.pow_zero] at vm; omega
  | m + 1, k, v, xs, v0, vm, vb, hl, hk => by
    obtain ⟨k, rfl⟩ : ∃ i, k = i + 9 + 1 + 1 := ⟨k - 11, by omega⟩
    have hne : (nw v).length ≠ 0 := fun e => by have := (nw_len0 (by omega)).1 e; omega
    have b400 : v < Bp 400 := Int.lt_of_lt_of_le vb (Bp_mono (by omega))
    have r0 : 0 ≤ v % 1000000000 := by omega
    have r1 : v % 1000000000 < 1000000000 := by omega
    unfold slackwaterref01_Digits.l0; try dsimp only
    unfold slackwaterref01_small.f
    rw [if_pos (by omega), if_pos ⟨okw_400 (by omega) b400, by omega, by omega⟩, Option.bind_some, val_nw (by omega)]
    have er : v % 1000000000 = ((v % 1000000000).toNat : Int) := by omega
    rw [er]
    by_cases hq : v / 1000000000 = 0
    · have hv : (v % 1000000000).toNat = v.toNat := by omega
      rw [hq, nw_zero, hv]
      have := dg_none 9 0 v.toNat (k + 9 + 1) xs (by omega) (by have e : (10 : Nat) ^ 9 = 1000000000 := rfl; omega) (by omega) (by omega)
      rw [if_neg (by omega)] at this
      exact this
    · have q0 : 0 < v / 1000000000 := by omega
      have hqn : (nw (v / 1000000000)).length ≠ 0 := fun e => by have := (nw_len0 (by omega)).1 e; omega
      have hqm : v / 1000000000 < 1000000000 ^ m := by
        rw [Int.pow_succ] at vm
        omega
      have h1 := dg_some (nw (v / 1000000000)) (by omega) k 9 0 (v % 1000000000).toNat xs (by omega) (by omega) (by omega)
      refine Eq.trans h1 ?_
      rw [dg_l0 m k (v / 1000000000) _ q0 hqm (by omega) (by rw [List.length_append, toI_len, PA.digs_len]; omega) (by rw [List.length_append, toI_len, PA.digs_len]; omega)]
      have e := PA.rdig_split (v := v.toNat) (by omega)
      have e1 : v.toNat / 1000000000 = (v / 1000000000).toNat := by omega
      have e2 : v.toNat % 1000000000 = (v % 1000000000).toNat := by omega
      rw [e1, e2] at e
      rw [e, toI_append, List.append_assoc]
theorem digits_f (k : Nat) {v : Int} (v0 : 0 ≤ v) (vb : v < Bp 310) (hk : 7000 < k) : slackwaterref01_Digits.f k (nw v) = some ⟨(Lib.decDigits v.toNat).toArray⟩ := by
  unfold slackwaterref01_Digits.f
  by_cases h : v = 0
  · subst h
    rw [if_pos (by rw [nw_zero]; rfl), show Int.toNat 0 = 0 from rfl, Dig.dec_small (by omega)]
    rfl
  · rw [if_neg (fun e => h ((nw_len0 v0).1 (by omega))), dg_l0 345 k v [] (by omega) (pow_nine vb (by omega)) vb (by simp) (by simp; omega), List.nil_append]
    unfold PA.rdig
    rw [show (toI (Lib.decDigits v.toNat).reverse).reverse = toI (Lib.decDigits v.toNat) by unfold toI; rw [← List.map_reverse, List.reverse_reverse], str_toI]
theorem w64s (i : Nat) (h : i ≤ 100000) : wrap64 ((i : Int) + 1) = ((i + 1 : Nat) : Int) := by unfold wrap64; omega
theorem w64t (i : Nat) (h : i ≤ 100000) : wrap64 (Int.tdiv (i : Int) 9) = ((i / 9 : Nat) : Int) := by rw [Int.tdiv_eq_ediv_of_nonneg (by omega)]; unfold wrap64; omega
theorem rd_fin {P c D T X : Int} (hP : 0 < P) (hT : 0 ≤ T) (hs : 0 ≤ c + 10 * D) (hv : T + P * (c + 10 * D) = X) (hX : X < P) : c + 10 * D = 0 := by
  by_cases h : c + 10 * D = 0
  · exact h
  · have h1 : P * 1 ≤ P * (c + 10 * D) := Int.mul_le_mul_of_nonneg_left (by omega) (by omega)
    omega
theorem rd_next {T P w c D q r : Int} (h : 4294967296 * q + r = w * 10 + c) : T + P * r + 4294967296 * P * (q + 10 * D) = T + P * (c + 10 * (w + 4294967296 * D)) := by
  have e : c = 4294967296 * q + r - w * 10 := by omega
  rw [e]
  grind
theorem rd_u {w c : Int} (w0 : 0 ≤ w) (w1 : w < 4294967296) (c0 : 0 ≤ c) (c1 : c ≤ 10) : IntKind.u64.wrap (IntKind.u64.wrap (IntKind.u64.wrap w * 10) + c) = w * 10 + c ∧ 0 ≤ (w * 10 + c) % 4294967296 ∧ (w * 10 + c) % 4294967296 < 4294967296 ∧ 0 ≤ (w * 10 + c) / 4294967296 ∧ (w * 10 + c) / 4294967296 ≤ 10 := by
  have u1 : IntKind.u64.wrap w = w := by rw [IntKind.wrap_u64]; omega
  have u2 : IntKind.u64.wrap (w * 10) = w * 10 := by rw [IntKind.wrap_u64]; omega
  have u3 : IntKind.u64.wrap (w * 10 + c) = w * 10 + c := by rw [IntKind.wrap_u64]; omega
  rw [u1, u2, u3]
  omega
theorem rd_l2 (s : ByteArray) (i t : Nat) (ht : t = i / 9) (hi : i ≤ 100000) (X : Int) (k : Nat) (hX : X < Bp (t + 1)) : ∀ (e j : Nat) (zs : List Int) (c : Int), e + j = t + 1 → t < zs.length → Wds zs → 0 ≤ c → c ≤ 10 →
    val (zs.take j) + Bp j * (c + 10 * val (zs.drop j)) = X →
    ∃ zs', Wds zs' ∧ zs'.length = zs.length ∧ val zs' = X ∧ slackwaterref01_Read.l2 (k + e + 1) s zs (i : Int) c (j : Int) = slackwaterref01_Read.l1 k s zs' ((i + 1 : Nat) : Int)
  | 0, j, zs, c, hj, hl, hw, c0, c1, hv => by
    have hjt : j = t + 1 := by clear hv hX; omega
    subst hjt
    have d0 := val_nonneg (hw.drop (t + 1))
    have t0 := val_nonneg (hw.take (t + 1))
    have hz : c + 10 * val (zs.drop (t + 1)) = 0 := rd_fin (Bp_pos _) t0 (by clear hv hX; omega) hv hX
    refine ⟨zs, hw, rfl, ?_, ?_⟩
    · rw [hz, Int.mul_zero, Int.add_zero] at hv
      have h1 := val_append (zs.take (t + 1)) (zs.drop (t + 1))
      rw [List.take_append_drop, show val (zs.drop (t + 1)) = 0 by clear hv hX h1; omega, Int.mul_zero, Int.add_zero] at h1
      rw [h1, hv]
    · subst ht
      clear hv hX
      unfold slackwaterref01_Read.l2
      rw [w64t i hi, if_neg (by omega), w64s i hi]
  | e + 1, j, zs, c, hj, hl, hw, c0, c1, hv => by
    have hx := hw.wd j
    obtain ⟨hu, r0, r1, q0, q1⟩ := rd_u hx.1 hx.2 c0 c1
    have hd := Int.mul_ediv_add_emod (wd zs j * 10 + c) 4294967296
    obtain ⟨r, hr⟩ : ∃ r, (wd zs j * 10 + c) % 4294967296 = r := ⟨_, rfl⟩
    obtain ⟨q, hq⟩ : ∃ q, (wd zs j * 10 + c) / 4294967296 = q := ⟨_, rfl⟩
    rw [hr] at r0 r1 hd
    rw [hq] at q0 q1 hd
    have hjl : j < zs.length := by clear hv hX hd; omega
    have a1 : (zs.set j r).take (j + 1) = zs.take j ++ [r] := by
      rw [List.take_succ_eq_append_getElem (by rw [List.length_set]; exact hjl), List.getElem_set_self, List.take_set_of_le (Nat.le_refl _)]
    have a2 : (zs.set j r).drop (j + 1) = zs.drop (j + 1) := List.drop_set_of_lt (Nat.lt_succ_self j)
    have a3 : val (zs.drop j) = wd zs j + 4294967296 * val (zs.drop (j + 1)) := by
      rw [List.drop_eq_getElem_cons hjl]
      have : wd zs j = zs[j] := by unfold wd; simp [hjl]
      rw [this]; rfl
    have a4 : val [r] = r := by show r + 4294967296 * 0 = r; rw [Int.mul_zero, Int.add_zero]
    have hv2 : val ((zs.set j r).take (j + 1)) + Bp (j + 1) * (q + 10 * val ((zs.set j r).drop (j + 1))) = X := by
      rw [a1, a2, val_append, List.length_take, Nat.min_eq_left (Nat.le_of_lt hjl), a4, Bp_succ, ← hv, a3]
      exact rd_next hd
    obtain ⟨zs', h1, h2, h3, h4⟩ := rd_l2 s i t ht hi X k hX e (j + 1) (zs.set j r) q (by clear hv hX hv2 hd; omega) (by rw [List.length_set]; exact hl) (hw.set j r0 r1) q0 q1 hv2
    refine ⟨zs', h1, by rw [h2, List.length_set], h3, ?_⟩
    rw [← h4]
    clear hv hX hv2 hd h4 h3 h2 h1 a1 a2 a3 a4 r0 r1 q0 q1
    subst ht
    show slackwaterref01_Read.l2 ((k + e + 1) + 1) s zs (i : Int) c (j : Int) = _
    conv => lhs; unfold slackwaterref01_Read.l2
    rw [w64t i hi, if_pos (by omega), if_pos (by omega), if_pos (by omega), rd_wd, hu, w64s j (by omega), Int.toNat_natCast, hr, hq]
theorem rd_l1 (s : ByteArray) (ha : s.data.toList.all PA.dig = true) (hs : s.size ≤ 3000) : ∀ (n i k : Nat) (zs : List Int), n + i = s.size → Wds zs → zs.length = s.size / 9 + 1 → val zs = (PA.num 0 (s.data.toList.take i) : Int) → 400 * n + 2 < k →
    slackwaterref01_Read.l1 k s zs (i : Int) = some (nw (PA.num 0 s.data.toList : Int), true) := by
  intro n
  induction n with
  | zero =>
    intro i k zs hn hw hl hv hk
    obtain ⟨k, rfl⟩ : ∃ q, k = q + 1 := ⟨k - 1, by omega⟩
    unfold slackwaterref01_Read.l1
    rw [if_neg (by omega)]
    unfold slackwaterref01_Trim.f
    rw [if_pos (okw_iff.2 ⟨by omega, hw⟩), Option.bind_some, nw_trim hw, hv, List.take_of_length_le (by rw [← Lib.size_eq]; omega)]
  | succ n ih =>
    intro i k zs hn hw hl hv hk
    obtain ⟨k, rfl⟩ : ∃ q, k = q + 1 := ⟨k - 1, by omega⟩
    have hi : i < s.data.toList.length := by rw [← Lib.size_eq]; omega
    have hb := bt_eq' s i hi
    have hd := List.all_eq_true.1 ha (s.data.toList[i]) (List.getElem_mem hi)
    have hd := of_decide_eq_true hd
    generalize hg : s.data.toList[i] = b at hb hd
    have hX : PA.num 0 (s.data.toList.take (i + 1)) = PA.num 0 (s.data.toList.take i) * 10 + (b.toNat - 48) := by
      rw [List.take_succ_eq_append_getElem hi, hg, PA.num_snoc]
    have hlt := PA.num_lt (s.data.toList.take (i + 1)) (List.all_eq_true.2 (fun x hx => List.all_eq_true.1 ha x (List.mem_of_mem_take hx)))
    rw [List.length_take, Nat.min_eq_left (by omega)] at hlt
    obtain ⟨X, eX⟩ : ∃ X : Int, X = (PA.num 0 (s.data.toList.take (i + 1)) : Int) := ⟨_, rfl⟩
    have hXB : X < Bp (i / 9 + 1) := by rw [eX]; exact ten_Bp hlt (by clear hv hX hlt; omega)
    have hst : val (zs.take 0) + Bp 0 * (((b.toNat - 48 : Nat) : Int) + 10 * val (zs.drop 0)) = X := by
      rw [eX, List.take_zero, List.drop_zero, Bp_zero, hv, hX]
      show (0 : Int) + 1 * _ = _
      omega
    clear hlt hX hv
    obtain ⟨j, hj⟩ : ∃ j, k = j + (i / 9 + 1) + 1 := ⟨k - (i / 9 + 2), by omega⟩
    subst hj
    obtain ⟨zs', h1, h2, h3, h4⟩ := rd_l2 s i (i / 9) rfl (by omega) X j hXB (i / 9 + 1) 0 zs ((b.toNat - 48 : Nat) : Int) rfl (by omega) hw (by omega) (by omega) hst
    clear hXB hst
    have hn2 : n + (i + 1) = s.size := by omega
    have hk2 : 400 * n + 2 < j := by omega
    have hl2 : zs'.length = s.size / 9 + 1 := by omega
    have e48 : ((b.toNat : Int) - 48) % 256 = ((b.toNat - 48 : Nat) : Int) := by omega
    have ilt : (i : Int) < (s.size : Int) := by omega
    have i0 : (0 : Int) ≤ (i : Int) := by omega
    rw [eX] at h3
    have ih := ih (i + 1) j zs' hn2 h1 hl2 h3 hk2
    unfold slackwaterref01_Read.l1
    rw [if_pos ilt, if_pos i0, hb, e48]
    exact h4.trans ih
theorem rd_l0 (s : ByteArray) (hs : s.size ≤ 3000) : ∀ (n i k : Nat), n + i = s.size → n + 400 * s.size + 4 < k → (s.data.toList.take i).all PA.dig = true →
    slackwaterref01_Read.l0 k s (i : Int) = some (if s.data.toList.all PA.dig = true then (nw (PA.num 0 s.data.toList : Int), true) else ([], false)) := by
  intro n
  induction n with
  | zero =>
    intro i k hn hk ha
    obtain ⟨k, rfl⟩ : ∃ q, k = q + 1 := ⟨k - 1, by omega⟩
    rw [List.take_of_length_le (by rw [← Lib.size_eq]; omega)] at ha
    have w1 : wrap64 (wrap64 ((s.size : Int) / 9) + 1) = ((s.size / 9 + 1 : Nat) : Int) := by unfold wrap64; omega
    unfold slackwaterref01_Read.l0
    rw [if_neg (by omega), w1, if_pos (by omega), if_pos (by omega), if_pos ha, Int.toNat_natCast]
    refine rd_l1 s ha hs s.size 0 k _ (by omega) (Wds.zeros _) (List.length_replicate ..) ?_ (by omega)
    rw [val_zeros, List.take_zero, PA.num_nil]
    rfl
  | succ n ih =>
    intro i k hn hk ha
    obtain ⟨k, rfl⟩ : ∃ q, k = q + 1 := ⟨k - 1, by omega⟩
    have hi : i < s.data.toList.length := by rw [← Lib.size_eq]; omega
    have hb := bt_eq' s i hi
    have w : wrap64 ((i : Int) + 1) = ((i + 1 : Nat) : Int) := by unfold wrap64; omega
    have hno : PA.dig (s.data.toList[i]) = false → (if s.data.toList.all PA.dig = true then (nw (PA.num 0 s.data.toList : Int), true) else (([] : List Int), false)) = ([], false) := fun h => by
      rw [if_neg]
      intro h2
      rw [List.all_eq_true.1 h2 _ (List.getElem_mem hi)] at h
      cases h
    unfold slackwaterref01_Read.l0
    rw [if_pos (by omega), if_pos (by omega), hb, w]
    by_cases h1 : ((s.data.toList[i]).toNat : Int) < 48
    · rw [if_pos h1, hno (decide_eq_false (by omega))]
    · rw [if_neg h1]
      by_cases h2 : ((s.data.toList[i]).toNat : Int) > 57
      · rw [if_pos h2, hno (decide_eq_false (by omega))]
      · rw [if_neg h2]
        refine ih (i + 1) k (by omega) (by omega) ?_
        rw [List.take_succ_eq_append_getElem hi, List.all_append, ha]
        have : PA.dig (s.data.toList[i]) = true := decide_eq_true (by omega)
        rw [List.all_cons, this]
        rfl
theorem read_S (k : Nat) (s : ByteArray) (hs : s.size ≤ 3000) (hk : 2000000 < k) : slackwaterref01_Read.f k s = some (if okT s.data.toList = true then (nw (PA.num 0 s.data.toList : Int), true) else ([], false)) := by
  obtain ⟨k, rfl⟩ : ∃ i, k = i + 1 := ⟨k - 1, by omega⟩
  have hz := Lib.size_eq s
  unfold slackwaterref01_Read.f
  by_cases h0 : s.size = 0
  · have e : s.data.toList = [] := List.eq_nil_of_length_eq_zero (by omega)
    rw [if_pos (by omega)]
    unfold slackwaterref01_Read.j0; try dsimp only
    rw [if_pos rfl, e]
    rfl
  · rw [if_neg (by omega)]
    have hi : 0 < s.data.toList.length := by omega
    have hb := bt_eq' s 0 hi
    have hb' : bt s 0 = ((s.data.toList[0]).toNat : Int) := hb
    have key := rd_l0 s hs s.size 0 k (by omega) (by omega) rfl
    have key : slackwaterref01_Read.l0 k s 0 = _ := key
    cases hl : s.data.toList with
    | nil => rw [hl] at hi; simp at hi
    | cons b r =>
      have hb0 : bt s 0 = (b.toNat : Int) := by rw [hb']; simp [hl]
      have hok : okT (b :: r) = ((b :: r).all PA.dig && (b.toNat != 48 || r.isEmpty)) := rfl
      rw [hl] at key
      have hr : s.size = r.length + 1 := by rw [hz, hl]; rfl
      by_cases h1 : (s.size : Int) > 1
      · rw [if_pos h1, if_pos (by omega), hb0]
        have he : r.isEmpty = false := by cases r with
          | nil => simp at hr; omega
          | cons _ _ => rfl
        by_cases h48 : b.toNat = 48
        · unfold slackwaterref01_Read.j0; try dsimp only
          rw [if_pos (by rw [h48]; rfl), hok, he, h48]
          simp
        · unfold slackwaterref01_Read.j0; try dsimp only
          rw [if_neg (by simp; omega), key, hok, he]
          have : (b.toNat != 48) = true := by simp [h48]
          rw [this]
          simp
      · rw [if_neg h1]
        unfold slackwaterref01_Read.j0; try dsimp only
        have he : r = [] := List.eq_nil_of_length_eq_zero (by omega)
        rw [if_neg (by decide), key, hok, he]
        simp
end Go.Proofs.YtidccoahjpjoaaaGreatDoor.NT

/- Texts of whole numbers, the program's, as plain laws. -/
set_option linter.unusedVariables false
set_option linter.unusedSimpArgs false
namespace Go.Proofs.YtidccoahjpjoaaaGreatDoor.NT
open Go.RowKit Go.Proofs.YtidccoahjpjoaaaGreatDoor.PK1 Go.Proofs.YtidccoahjpjoaaaGreatDoorW.PrintWords Q
theorem last_tr {xs : List Int} (h : 0 < xs.length) : Tr xs ↔ wd xs (xs.length - 1) ≠ 0 := by
  rw [Tr_iff]
  constructor
  · rintro (h1 | h1)
    · subst h1; simp at h
    · exact h1
  · exact fun h1 => .inr h1
theorem chkW_pos {n : Bool} {xs : List Int} (h : 0 < xs.length) (hl : xs.length ≤ 2048) : chkW n xs = if wd xs (xs.length - 1) = 0 then 11 else 0 := by
  have hne : xs ≠ [] := fun e => by subst e; simp at h
  have ht := last_tr h
  unfold Tr at ht
  unfold chkW
  rw [if_neg (by omega)]
  by_cases h0 : wd xs (xs.length - 1) = 0
  · rw [if_pos h0, if_neg]
    rintro ⟨h1, _⟩
    exact ht.1 h1 h0
  · rw [if_neg h0, if_pos ⟨ht.2 h0, fun e => absurd e hne⟩]
theorem chkW_nil (n : Bool) : chkW n [] = if n = true then 11 else 0 := by
  cases n <;> rfl
theorem wlast {xs : List Int} (h : 0 < xs.length) (hl : xs.length ≤ 1000000) : wrap64 ((xs.length : Int) - 1) = ((xs.length - 1 : Nat) : Int) := by unfold wrap64; omega
theorem wcheck (k : Nat) (hk : 0 < k) (n : Bool) (xs : List Int) : whole_Check.f k n xs = some (chkW n xs) := by
  obtain ⟨k, rfl⟩ : ∃ q, k = q + 1 := ⟨k - 1, by omega⟩
  by_cases h1 : 2048 < xs.length
  · unfold whole_Check.f chkW
    rw [if_pos (by omega), if_pos h1]
  · by_cases h2 : 0 < xs.length
    · unfold whole_Check.f
      rw [if_neg (by omega), if_pos (by omega), wlast h2 (by omega), if_pos (by omega), if_pos (by omega), rd_wd, chkW_pos h2 (by omega)]
      unfold whole_Check.j0; try dsimp only
      by_cases h0 : wd xs (xs.length - 1) = 0
      · rw [if_pos (by rw [h0]; rfl), if_pos h0]
      · rw [if_neg (by simp [h0]), if_neg h0, if_neg (by omega)]
    · have hx : xs = [] := List.eq_nil_of_length_eq_zero (by omega)
      subst hx
      rw [chkW_nil]
      cases n <;> rfl
/-- what is answered: a number's text -/
def txt (n : Bool) (v : Nat) : List UInt8 := (if n = true then [45] else []) ++ Lib.decDigits v
def prW (n : Bool) (xs : List Int) : ByteArray × Int := if chkW n xs = 0 then (⟨(txt n (val xs).toNat).toArray⟩, 0) else (⟨#[]⟩, chkW n xs)
theorem minus_app (l : List UInt8) : (⟨#[45]⟩ : ByteArray) ++ (⟨l.toArray⟩ : ByteArray) = ⟨([45] ++ l).toArray⟩ := by
  apply ByteArray.ext
  rw [ByteArray.data_append]
  simp
theorem prS_zero {n : Bool} {xs : List Int} (h : chkW n xs = 0) : prS xs = (⟨(Lib.decDigits (val xs).toNat).toArray⟩, 0) := by
  unfold prS; rw [if_pos (chkW_chk h)]
theorem dec_len_pow (m u : Nat) (h : u < 1000000000 ^ (m + 1)) : (Lib.decDigits u).length ≤ 9 * m + 9 := by
  refine PA.dec_len (9 * m + 8) u (Nat.lt_of_lt_of_le h ?_)
  rw [show 9 * m + 8 + 1 = 9 * (m + 1) by omega, Nat.pow_mul]
  exact Nat.le_refl _
theorem dec_len_int (m : Nat) {v : Int} (h0 : 0 ≤ v) (h : v < 1000000000 ^ (m + 1)) : (Lib.decDigits v.toNat).length ≤ 9 * m + 9 := by
  have h2 : ((v.toNat : Nat) : Int) < ((1000000000 ^ (m + 1) : Nat) : Int) := by rw [Int.natCast_pow, Int.toNat_of_nonneg h0]; exact h
  exact dec_len_pow m _ (Int.ofNat_lt.1 h2)
theorem dec_short {xs : List Int} (hx : Wds xs) (hl : xs.length ≤ 300) : (Lib.decDigits (val xs).toNat).length ≤ 3006 :=
  dec_len_int 333 (val_nonneg hx) (pow_nine (n := 300) (m := 333 + 1) (v := val xs) (Int.lt_of_lt_of_le (val_lt hx) (Bp_mono hl)) (by omega))
theorem wprint_S (k : Nat) (n : Bool) (xs : List Int) (hx : Wds xs) (hk : 1600 < k) (hs : xs.length ≤ 300 ∨ 2048 < xs.length) : whole_Print.f k n xs = some (prW n xs) := by
  unfold whole_Print.f prW
  rw [wcheck k (by omega) n xs, Option.bind_some]
  by_cases h0 : chkW n xs = 0
  · have h3 : xs.length ≤ 300 := by have := (chkW_zero.1 h0).1; omega
    have hd := dec_short hx h3
    rw [if_pos h0, if_pos h0, print_S k xs hx hk (.inl h3) (okw_iff.2 ⟨by omega, hx⟩), Option.bind_some, prS_zero h0]
    unfold txt
    cases n with
    | true =>
      rw [if_pos rfl, if_pos rfl, if_pos (by rw [arr_size]; omega), minus_app]
    | false =>
      rw [if_neg (by decide), if_neg (by decide)]
      rfl
  · rw [if_neg h0, if_neg h0]
/-- what is answered: a text read, its sign aside -/
def paD (n : Bool) (d : List UInt8) : Bool × List Int × Int := if okT d = true ∧ ¬ (n = true ∧ PA.num 0 d = 0) then (n, nw (PA.num 0 d : Int), 0) else (false, [], 120)
def paW (s : ByteArray) : Bool × List Int × Int := if 65536 < s.size then (false, [], 3) else match s.data.toList with
  | [] => paD false []
  | b :: r => if b = 45 then paD true r else paD false (b :: r)
theorem num_short (d : List UInt8) (h : okT d = true) (hs : d.length ≤ 9000) : (nw (PA.num 0 d : Int)).length ≤ 1001 := by
  have h1 := PA.num_lt _ (okT_all h)
  exact nw_len (ten_Bp h1 (by omega)) (by omega)
theorem wmade_S (n : Bool) (v : Int) (v0 : 0 ≤ v) (hl : (nw v).length ≤ 2048) (h : n = true → v ≠ 0) : whole_made.f n (nw v) = some (n, nw v, 0) := by
  unfold whole_made.f
  rw [if_neg (by omega)]
  cases n with
  | true =>
    have hne : (nw v).length ≠ 0 := fun e => h rfl ((nw_len0 v0).1 e)
    rw [if_pos rfl, decide_eq_true (by omega)]
  | false => rw [if_neg (by decide)]
theorem paD_ok {n : Bool} {d : List UInt8} (h : okT d = true) (h2 : n = true → PA.num 0 d ≠ 0) : paD n d = (n, nw (PA.num 0 d : Int), 0) := if_pos ⟨h, fun c => h2 c.1 c.2⟩
theorem paD_no {n : Bool} {d : List UInt8} (h : okT d = true → n = true ∧ PA.num 0 d = 0) : paD n d = (false, [], 120) := if_neg (fun c => c.2 (h c.1))
theorem wj2_t (k : Nat) (n : Bool) (ws : List Int) (e : Int) : whole_Parse.j2 (k + 1) n ws e true = some (false, [], 120) := by unfold whole_Parse.j2; rfl
theorem wj2_f (k : Nat) (n : Bool) (v : Int) (v0 : 0 ≤ v) (hl : (nw v).length ≤ 2048) (h : n = true → v ≠ 0) : whole_Parse.j2 (k + 1) n (nw v) 0 false = some (n, nw v, 0) := by
  unfold whole_Parse.j2; try dsimp only
  rw [if_neg (by decide), if_pos rfl, wmade_S n v v0 hl h, Option.bind_some]
theorem parC_ok {d : List UInt8} (h : okT d = true) : parC d = (nw (PA.num 0 d : Int), 0) := if_pos h
theorem parC_no {d : List UInt8} (h : ¬ okT d = true) : parC d = ([], 110) := if_neg h
theorem wparse_j1 (k : Nat) (hk : 1 < k) (n : Bool) (s : ByteArray) (hs : s.size ≤ 9000) : whole_Parse.j1 k n s = some (paD n s.data.toList) := by
  obtain ⟨k, rfl⟩ : ∃ q, k = q + 1 + 1 := ⟨k - 2, by omega⟩
  have hp : nat_Parse.f s = some (parC s.data.toList) := by
    unfold nat_Parse.f
    rw [if_pos (by omega), if_neg (by omega)]
  unfold whole_Parse.j1; try dsimp only
  rw [hp, Option.bind_some]
  by_cases h : okT s.data.toList = true
  · have hl := num_short _ h (by rw [← Lib.size_eq]; exact hs)
    rw [parC_ok h]
    dsimp only
    rw [if_neg (by decide)]
    cases n with
    | true =>
      rw [if_pos rfl, if_pos rfl]
      by_cases h0 : PA.num 0 s.data.toList = 0
      · have e : (((nw (PA.num 0 s.data.toList : Int)).length : Int) == 0) = true := by rw [h0]; rfl
        rw [e, wj2_t, paD_no (fun _ => ⟨rfl, h0⟩)]
      · have e : (((nw (PA.num 0 s.data.toList : Int)).length : Int) == 0) = false := by
          apply beq_eq_false_iff_ne.2
          intro h2
          have := (nw_len0 (v := (PA.num 0 s.data.toList : Int)) (by omega)).1 (by omega)
          omega
        rw [e, wj2_f k true _ (by omega) (by omega) (fun _ => by omega), paD_ok h (fun _ => h0)]
    | false =>
      rw [if_neg (by decide), wj2_f k false _ (by omega) (by omega) (by simp), paD_ok h (by simp)]
  · rw [parC_no h]
    dsimp only
    rw [if_pos rfl, show ((110 : Int) == 110) = true from rfl, wj2_t, paD_no (fun c => absurd c h)]
theorem extract_one (s : ByteArray) : (s.extract 1 s.size).data.toList = s.data.toList.drop 1 := by
  have := Lib.size_eq s
  rw [ByteArray.data_extract]
  simp
  exact List.take_of_length_le (by simp)
theorem wparse_S (k : Nat) (hk : 3 < k) (s : ByteArray) (hs : s.size ≤ 9000 ∨ 65536 < s.size) : whole_Parse.f k s = some (paW s) := by
  obtain ⟨k, rfl⟩ : ∃ q, k = q + 1 := ⟨k - 1, by omega⟩
  have hz := Lib.size_eq s
  unfold whole_Parse.f paW
  by_cases hb : 65536 < s.size
  · rw [if_pos (by omega), if_pos hb]
  · rw [if_neg (by omega), if_neg hb]
    cases hl : s.data.toList with
    | nil =>
      rw [hl] at hz
      have hz0 : s.size = 0 := hz
      rw [if_neg (by omega)]
      unfold whole_Parse.j0; try dsimp only
      rw [if_neg (by decide), wparse_j1 k (by omega) false s (by omega), hl]
    | cons b r =>
      rw [hl] at hz
      have hz' : s.size = r.length + 1 := hz
      have hi : 0 < s.data.toList.length := by rw [hl]; simp
      have hb0 : bt s 0 = (b.toNat : Int) := by
        have := bt_eq' s 0 hi
        have h2 : bt s 0 = ((s.data.toList[0]).toNat : Int) := this
        rw [h2]; simp [hl]
      rw [if_pos (by omega), if_pos (by omega), hb0]
      unfold whole_Parse.j0; try dsimp only
      by_cases h45 : b = 45
      · subst h45
        rw [if_pos (by rfl), if_pos (by omega)]
        have he := extract_one s
        rw [hl] at he
        show whole_Parse.j1 k true _ = some (paD true r)
        rw [wparse_j1 k (by omega) true _ (by rw [Lib.size_eq, he]; simp; omega), he]
        rfl
      · have hne : ((b.toNat : Int) == 45) = false := by
          apply beq_eq_false_iff_ne.2
          intro h
          apply h45
          have h3 : b.toNat = 45 := by omega
          have := UInt8.ofNat_toNat (x := b)
          rw [h3] at this
          exact this.symm
        rw [hne, if_neg (by decide), wparse_j1 k (by omega) false s (by omega), hl]
        show _ = some (if b = 45 then paD true r else paD false (b :: r))
        rw [if_neg h45]
end Go.Proofs.YtidccoahjpjoaaaGreatDoor.NT

/- Texts of whole numbers, the reference's, as plain laws. -/
set_option linter.unusedVariables false
set_option linter.unusedSimpArgs false
namespace Go.Proofs.YtidccoahjpjoaaaGreatDoor.NT
open Go.RowKit Go.Proofs.YtidccoahjpjoaaaGreatDoor.PK1 Go.Proofs.YtidccoahjpjoaaaGreatDoorW.PrintWords Q
theorem rcheck2 (n : Bool) (xs : List Int) : slackwaterref02_Check.f n xs = some (chkW n xs) := by
  by_cases h1 : 2048 < xs.length
  · unfold slackwaterref02_Check.f chkW
    rw [if_pos (by omega), if_pos h1]
  · by_cases h2 : 0 < xs.length
    · unfold slackwaterref02_Check.f
      rw [if_neg (by omega), if_pos (by omega), wlast h2 (by omega), if_pos (by omega), if_pos (by omega), rd_wd, chkW_pos h2 (by omega)]
      by_cases h0 : wd xs (xs.length - 1) = 0
      · rw [if_pos h0, if_pos h0]
      · rw [if_neg h0, if_neg h0, if_neg (by omega)]
    · have hx : xs = [] := List.eq_nil_of_length_eq_zero (by omega)
      subst hx
      rw [chkW_nil]
      cases n <;> rfl
theorem rwprint_S (k : Nat) (n : Bool) (xs : List Int) (hx : Wds xs) (hk : 7000 < k) (hs : xs.length ≤ 300 ∨ 2048 < xs.length) : slackwaterref02_Print.f k n xs = some (prW n xs) := by
  unfold slackwaterref02_Print.f prW
  rw [rcheck2 n xs, Option.bind_some]
  by_cases h0 : chkW n xs = 0
  · have h3 : xs.length ≤ 300 := by have := (chkW_zero.1 h0).1; omega
    have hT := (chkW_zero.1 h0).2.1
    have hd := dec_short hx h3
    have h := digits_f k (val_nonneg hx) (Int.lt_of_lt_of_le (val_lt hx) (Bp_mono (show xs.length ≤ 310 by omega))) hk
    rw [nw_val hx hT] at h
    rw [if_pos h0, if_pos h0, h, Option.bind_some]
    unfold txt
    cases n with
    | true =>
      rw [if_pos rfl, if_pos rfl, if_pos (by rw [arr_size]; omega), minus_app]
    | false =>
      rw [if_neg (by decide), if_neg (by decide)]
      rfl
  · rw [if_neg h0, if_neg h0]
theorem rmade_S (n : Bool) (v : Int) (v0 : 0 ≤ v) (hl : (nw v).length ≤ 2048) (h : n = true → v ≠ 0) : slackwaterref02_made.f n (nw v) = some (n, nw v) := by
  unfold slackwaterref02_made.f slackwaterref01_Trim.f
  rw [if_pos (okw_iff.2 ⟨by omega, nw_wds v⟩), Option.bind_some, nw_trim (nw_wds v), val_nw v0, if_pos (by simp; omega), Option.bind_some, List.nil_append]
  cases n with
  | true =>
    have hne : (nw v).length ≠ 0 := fun e => h rfl ((nw_len0 v0).1 e)
    rw [if_pos rfl, decide_eq_true (by omega)]
  | false => rw [if_neg (by decide)]
theorem rj2_t (k : Nat) (n : Bool) (ws : List Int) : slackwaterref02_Parse.j2 (k + 1) n ws true = some (false, [], 120) := by unfold slackwaterref02_Parse.j2; rfl
theorem rj2_f (k : Nat) (n : Bool) (v : Int) (v0 : 0 ≤ v) (hl : (nw v).length ≤ 2048) (h : n = true → v ≠ 0) : slackwaterref02_Parse.j2 (k + 1) n (nw v) false = some (n, nw v, 0) := by
  unfold slackwaterref02_Parse.j2; try dsimp only
  rw [if_neg (by decide), rmade_S n v v0 hl h, Option.bind_some]
  unfold slackwaterref02_told.f
  dsimp only
  rw [if_neg (by omega), Option.bind_some]
theorem rparse_j1 (k : Nat) (hk : 2000001 < k) (n : Bool) (s : ByteArray) (hs : s.size ≤ 3000) : slackwaterref02_Parse.j1 k s n = some (paD n s.data.toList) := by
  obtain ⟨k, rfl⟩ : ∃ q, k = q + 1 + 1 := ⟨k - 2, by omega⟩
  have hr := read_S (k + 1) s hs (by omega)
  unfold slackwaterref02_Parse.j1; try dsimp only
  rw [hr, Option.bind_some]
  by_cases h : okT s.data.toList = true
  · have hl := num_short _ h (by rw [← Lib.size_eq]; omega)
    rw [if_pos h]
    dsimp only
    rw [if_pos rfl]
    cases n with
    | true =>
      rw [if_pos rfl]
      by_cases h0 : PA.num 0 s.data.toList = 0
      · have e : (((nw (PA.num 0 s.data.toList : Int)).length : Int) == 0) = true := by rw [h0]; rfl
        rw [e, rj2_t, paD_no (fun _ => ⟨rfl, h0⟩)]
      · have e : (((nw (PA.num 0 s.data.toList : Int)).length : Int) == 0) = false := by
          apply beq_eq_false_iff_ne.2
          intro h2
          have := (nw_len0 (v := (PA.num 0 s.data.toList : Int)) (by omega)).1 (by omega)
          omega
        rw [e, rj2_f k true _ (by omega) (by omega) (fun _ => by omega), paD_ok h (fun _ => h0)]
    | false =>
      rw [if_neg (by decide), rj2_f k false _ (by omega) (by omega) (by simp), paD_ok h (by simp)]
  · rw [if_neg h]
    dsimp only
    rw [if_neg (by decide), rj2_t, paD_no (fun c => absurd c h)]
theorem rwparse_S (k : Nat) (hk : 2000010 < k) (s : ByteArray) (hs : s.size ≤ 3000 ∨ 65536 < s.size) : slackwaterref02_Parse.f k s = some (paW s) := by
  obtain ⟨k, rfl⟩ : ∃ q, k = q + 1 := ⟨k - 1, by omega⟩
  have hz := Lib.size_eq s
  unfold slackwaterref02_Parse.f paW
  by_cases hb : 65536 < s.size
  · rw [if_pos (by omega), if_pos hb]
  · rw [if_neg (by omega), if_neg hb]
    cases hl : s.data.toList with
    | nil =>
      rw [hl] at hz
      have hz0 : s.size = 0 := hz
      rw [if_neg (by omega)]
      unfold slackwaterref02_Parse.j0; try dsimp only
      rw [if_neg (by decide), rparse_j1 k (by omega) false s (by omega), hl]
    | cons b r =>
      rw [hl] at hz
      have hz' : s.size = r.length + 1 := hz
      have hi : 0 < s.data.toList.length := by rw [hl]; simp
      have hb0 : bt s 0 = (b.toNat : Int) := by
        have := bt_eq' s 0 hi
        have h2 : bt s 0 = ((s.data.toList[0]).toNat : Int) := this
        rw [h2]; simp [hl]
      rw [if_pos (by omega), if_pos (by omega), hb0]
      unfold slackwaterref02_Parse.j0; try dsimp only
      by_cases h45 : b = 45
      · subst h45
        rw [if_pos (by rfl), if_pos (by omega)]
        have he := extract_one s
        rw [hl] at he
        show slackwaterref02_Parse.j1 k _ true = some (paD true r)
        rw [rparse_j1 k (by omega) true _ (by rw [Lib.size_eq, he]; simp; omega), he]
        rfl
      · have hne : ((b.toNat : Int) == 45) = false := by
          apply beq_eq_false_iff_ne.2
          intro h
          apply h45
          have h3 : b.toNat = 45 := by omega
          have := UInt8.ofNat_toNat (x := b)
          rw [h3] at this
          exact this.symm
        rw [hne, if_neg (by decide), rparse_j1 k (by omega) false s (by omega), hl]
        show _ = some (if b = 45 then paD true r else paD false (b :: r))
        rw [if_neg h45]
end Go.Proofs.YtidccoahjpjoaaaGreatDoor.NT

/- Words that come in, in the print's words. -/
set_option linter.unusedVariables false
namespace Go.Proofs.YtidccoahjpjoaaaGreatDoor
open Go Go.RowKit Q Go.Proofs.YtidccoahjpjoaaaGreatDoorW.PrintWords
theorem C_of_In {w : World} {A : Option Addr} {c : Nat} {xs : List Int} (h : In w A c xs) : Kd.C (Kd.int .u32) w A xs.length xs := by
  refine Kd.C_of_reads (d := (0 : Int)) (h1 := fun _ => rfl) ⟨rfl, by have := h.small; omega, fun hn => ?_⟩
  obtain ⟨ad, e, _⟩ := h.rd 0 hn
  refine ⟨ad, e, fun j hj => ?_⟩
  obtain ⟨ad', e', hc⟩ := h.rd j hj
  rw [e] at e'
  cases e'
  exact hc
end Go.Proofs.YtidccoahjpjoaaaGreatDoor

/- ApartWords: lists that share no memory are found so; what it writes over are these lists alone. -/
set_option linter.unusedVariables false
set_option linter.unusedSimpArgs false
namespace Go.Proofs.YtidccoahjpjoaaaGreatDoor
open Go Go.RowKit Q

theorem infoWW : (Tryz.prog.info? 22).map (fun i => (i.zero, i.size, i.bytes)) = some (some (.slice none 0 0), 1, 24) := by kernel_rfl
def nv (vs : List Value) (i : Nat) : Value := vs.getD i .nilIface
def nx (xss : List (List Int)) (i : Nat) : List Int := xss.getD i []
theorem nv_get {vs : List Value} {i : Nat} (h : i < vs.length) : vs[i]? = some (nv vs i) := by simp [nv, h]
theorem nv_snoc_lt {vs : List Value} {v : Value} {i : Nat} (h : i < vs.length) : nv (vs ++ [v]) i = nv vs i := by simp [nv, List.getD_eq_getElem?_getD, List.getElem?_append_left h]
theorem nv_snoc_eq {vs : List Value} {v : Value} {i : Nat} (h : i = vs.length) : nv (vs ++ [v]) i = v := by subst h; simp [nv]
/-- rows of words, apart from each other, told by their values; the cells that hold the values -/
structure Rows (w : World) (A : Option Addr) (B : Nat) (vs : List Value) (xss : List (List Int)) : Prop where
  cell : ∀ i, i < vs.length → ∃ ad, A = some ad ∧ w.cell? (ad.add i) = some (nv vs i)
  far : ∀ ad, A = some ad → ∀ i, i < vs.length → (nv vs i).ownBlock ≠ some ad.block
  own : ∀ i, i < vs.length → Ow w 50 B (nv vs i) (nx xss i)
  dis : ∀ i j, i < vs.length → j < vs.length → i ≠ j → (nv vs i).ownBlock = none ∨ (nv vs i).ownBlock ≠ (nv vs j).ownBlock
  wds : ∀ i, Wds (nx xss i)
  small : ∀ i, (nx xss i).length * 4 ≤ 140737488351232
/-- the first k rows are copied -/
structure Copied (w0 w : World) (g n : Nat) (xss : List (List Int)) (k : Nat) (us : List Value) : Prop where
  len : us.length = k
  blk : Blk w g 22 (us ++ List.replicate (n - k) (.slice none 0 0))
  own : ∀ i, i < k → Ow w 50 (g + 1) (nv us i) (nx xss i)
  below : Below g w0 w
theorem Rows.below {w w' : World} {A : Option Addr} {B : Nat} {vs : List Value} {xss : List (List Int)} (h : Rows w A B vs xss) (hb : Below w.heap.size w w') : Rows w' A B vs xss := {
  cell := fun i hi => by
    obtain ⟨ad, e, hc⟩ := h.cell i hi
    exact ⟨ad, e, (hb.cell (World.block_lt_of_cell? w _ hc)).trans hc⟩
  far := h.far
  own := fun i hi => (h.own i hi).below hb
  dis := h.dis
  wds := h.wds
  small := h.small }
theorem Copied.step {w0 w w1 : World} {g n k : Nat} {xss : List (List Int)} {us : List Value} {v : Value} (h : Copied w0 w g n xss k us) (hk : k < n) (hg : g < w.heap.size) (hb : Below w.heap.size w w1) (ho : Ow w1 50 w.heap.size v (nx xss k)) :
    Copied w0 (w1.setCell ⟨g, k, none⟩ v) g n xss (k + 1) (us ++ [v]) := {
  len := by simp [h.len]
  blk := by
    have hb2 := (h.blk.below hb).set k v
    have e : (us ++ List.replicate (n - k) (Value.slice none 0 0)).set k v = us ++ [v] ++ List.replicate (n - (k + 1)) (.slice none 0 0) := by
      rw [List.set_append_right _ _ (by rw [h.len]; omega), h.len, Nat.sub_self, show n - k = (n - (k + 1)) + 1 by omega, List.replicate_succ, List.set_cons_zero]
      simp
    rw [e] at hb2
    exact hb2
  own := fun i hi => by
    have hne : ∀ u : Value, ∀ xs, Ow w1 50 (g + 1) u xs → u.ownBlock ≠ some g := fun u xs hu e => by have := (hu.base g e).1; omega
    rcases Nat.lt_or_eq_of_le (Nat.lt_succ_iff.1 hi) with h1 | h1
    · rw [nv_snoc_lt (by rw [h.len]; exact h1)]
      have := (h.own i h1).below hb
      exact this.far (hne _ _ this) _ _
    · rw [nv_snoc_eq (by rw [h.len]; exact h1), h1]
      have := ho.mono (B' := g + 1) hg
      exact this.far (hne _ _ this) _ _
  below := (h.below.trans (hb.mono (Nat.le_of_lt hg))).setCell (Nat.le_refl _) _ }
/-- of the rows the first k are turned over; the copies stay -/
structure Turned (w0 w : World) (A : Option Addr) (B g : Nat) (vs : List Value) (xss : List (List Int)) (us : List Value) (k : Nat) : Prop where
  cell : ∀ i, i < vs.length → ∃ ad, A = some ad ∧ w.cell? (ad.add i) = some (nv vs i)
  own : ∀ i, i < vs.length → Ow w 50 B (nv vs i) (if i < k then comp (nx xss i) else nx xss i)
  blk : Blk w g 22 us
  copies : ∀ i, i < vs.length → Ow w 50 (g + 1) (nv us i) (nx xss i)
  below : Below B w0 w
theorem Turned.drewN {w0 w : World} {A : Option Addr} {B g k : Nat} {vs : List Value} {xss : List (List Int)} {us : List Value} (h : Turned w0 w A B g vs xss us k) (n : Nat) : Turned w0 (w.drewN n) A B g vs xss us k := ⟨h.cell, fun i hi => (h.own i hi).drewN n, h.blk, fun i hi => (h.copies i hi).drewN n, below_drewN h.below n⟩
theorem Turned.step {w0 w w1 : World} {A : Option Addr} {B g k : Nat} {vs : List Value} {xss : List (List Int)} {us : List Value} (h : Turned w0 w A B g vs xss us k) (hr : Rows w0 A B vs xss) (hg : w0.heap.size ≤ g) (hB : B ≤ w0.heap.size) (hk : k < vs.length)
    (ho : Ow w1 50 B (nv vs k) (comp (nx xss k))) (hgr : w.grownBy w1 (nv vs k).ownBlock) : Turned w0 w1 A B g vs xss us (k + 1) := {
  cell := fun i hi => by
    obtain ⟨ad, e, hc⟩ := h.cell i hi
    exact ⟨ad, e, hgr.cell hc (by rw [add_block]; exact fun e2 => hr.far ad e k hk e2.symm)⟩
  own := fun i hi => by
    by_cases e : i = k
    · subst e; rw [if_pos (by omega)]; exact ho
    · have := (h.own i hi).grown hgr (hr.dis i k hi hk e)
      rcases Nat.lt_or_ge i k with h1 | h1
      · rw [if_pos h1] at this; rw [if_pos (by omega)]; exact this
      · rw [if_neg (by omega)] at this; rw [if_neg (by omega)]; exact this
  blk := h.blk.grown hgr (fun e => by have := ((hr.own k hk).base g e.symm).2; omega)
  copies := fun i hi => by
    refine (h.copies i hi).grown hgr ?_
    cases hv : (nv us i).ownBlock with
    | none => exact .inl rfl
    | some b =>
      refine .inr fun e => ?_
      have h1 := ((h.copies i hi).base b hv).1
      have h2 := ((hr.own k hk).base b e.symm).2
      omega
  below := h.below.trans ⟨hgr.os, hgr.tape, hgr.output, hgr.size, fun j hj => hgr.block j (by have := h.below.size; omega) (fun e => by have := ((hr.own k hk).base j e.symm).1; omega)⟩ }

set_option maxHeartbeats 1000000 in
set_option maxRecDepth 100000 in
theorem ApartWords_calls (A : Option Addr) (c B : Nat) (vs : List Value) (xss : List (List Int)) (w : World) (hr : Rows w A B vs xss) (hB : B ≤ w.heap.size) (hn : vs.length ≤ 1000000) :
    Calls Tryz.prog 15 #[.slice A vs.length c] w fun e w' => e = .returned (.bool true) ∧ Below B w w' := by
  have HR := Q.hid hr
  have HB0 := Q.hid hB
  clear hr hB
  go_enter Tryz.func15, Tryz.ntmps15
  go_wp2_with (at_make; refine wp_mk rfl (.tmp 9) (.tmp 9) 36 22 rfl (.slice none 0 0) 24 Tryz.underlying36 infoWW rfl _ _ vs.length rfl rfl rfl rfl (by omega) (by simp only [maxLen]; omega) ?_)
  have HC : Hid (Copied w (w.alloc (.cells (reps vs.length (.slice none 0 0)) 22)) w.heap.size vs.length xss 0 []) :=
    ⟨rfl, Blk.made w _ _ _, fun i hi => absurd hi (Nat.not_lt_zero _), (Below.refl _ _).alloc (Nat.le_refl _) _⟩
  go_loopw [4] (fun i wr => ∃ k : Nat, k ≤ vs.length ∧ i = .int .i64 k ∧ Hid (∃ us, Copied w wr w.heap.size vs.length xss k us)) (fun i _ => vs.length - (intOf i).toNat)
  case atStart => exact ⟨0, by omega, rfl, ⟨[], HC.out⟩⟩
  case round =>
    clear HC
    obtain ⟨k, hk, rfl, HC⟩ := hrel
    obtain ⟨us, hc⟩ := HC.out
    by_cases hlt : k < vs.length
    · obtain ⟨ad, rfl, hx⟩ := (HR.out.below ((hc.below.mono (Nat.le_refl _)))).cell k hlt
      have ho := (HR.out.own k hlt).below (hc.below.mono (Nat.le_refl _))
      obtain ⟨A1, c1, e1, h1, h2, h3, _⟩ := ho.slice
      rw [e1] at hx
      have H3 := Q.hid h3
      have HS := Q.hid (HR.out.small k)
      have HC2 := Q.hid hc
      clear h1 h2 h3 ho e1 HC hc
      go_wp2_with fail
      refine (CopyWords_calls A1 c1 (nx xss k) _ H3.out (by have := HS.out; omega)).mono ?_
      rintro e w1 ⟨v1, rfl, ho, hb⟩
      obtain ⟨A2, c2, e2, _⟩ := ho.slice
      subst e2
      have HC3 : Hid (Copied w (w1.setCell ⟨w.heap.size, k, none⟩ (.slice A2 (nx xss k).length c2)) w.heap.size vs.length xss (k + 1) (us ++ [.slice A2 (nx xss k).length c2])) := HC2.out.step hlt HC2.out.blk.lt hb ho
      have hcell : w1.cell? ⟨w.heap.size, k, none⟩ = some (.slice none 0 0) := (HC2.out.blk.below hb).cell (by rw [List.getElem?_append_right (by rw [HC2.out.len]; omega), HC2.out.len, Nat.sub_self, List.getElem?_replicate, if_pos (by omega)])
      have hfree : w1.frozen? ⟨w.heap.size, k, none⟩ = false := (HC2.out.blk.below hb).free k
      clear HC2 ho hb hx H3 HS
      go_wp2
      go_roundw
      case rel => exact ⟨k + 1, by omega, by go_num, ⟨_, HC3.out⟩⟩
      case measure => simp [intOf]; omega
    · obtain rfl : k = vs.length := by omega
      have HT : Hid (Turned w wr A B w.heap.size vs xss us 0) :=
        ⟨fun i hi => (HR.out.below hc.below).cell i hi, fun i hi => (HR.out.own i hi).below hc.below, by simpa using hc.blk, hc.own, hc.below.mono HB0.out⟩
      have HUL := Q.hid hc.len
      clear HC hc
      go_wp2
      obtain ⟨w2, hw2⟩ : ∃ w2 : World, w2 = wr := ⟨_, rfl⟩
      subst hw2
      go_loopw [5] (fun i wr => ∃ k : Nat, k ≤ vs.length ∧ i = .int .i64 k ∧ Hid (Turned w wr A B w.heap.size vs xss us k)) (fun i _ => vs.length - (intOf i).toNat)
      case atStart => exact ⟨0, by omega, rfl, HT⟩
      case round =>
        clear HT
        obtain ⟨k, hk, rfl, HT⟩ := hrel
        by_cases hlt : k < vs.length
        · obtain ⟨ad, rfl, hx⟩ := HT.out.cell k hlt
          have ho := HT.out.own k hlt
          rw [if_neg (Nat.lt_irrefl k)] at ho
          have hcp := HT.out.copies k hlt
          have hy := HT.out.blk.cell (nv_get (i := k) (by rw [HUL.out]; exact hlt))
          obtain ⟨A1, c1, e1, _, _, h3, _⟩ := ho.slice
          obtain ⟨A2, c2, e2, _, _, h4, _⟩ := hcp.slice
          have HV := Q.hid e1
          rw [e1] at hx
          rw [e2] at hy
          have H3 := Q.hid h3
          have H4 := Q.hid h4
          have HO : Hid (∀ n, Ow (wr.drewN n) 50 B (.slice A1 (nx xss k).length c1) (nx xss k)) := fun n => by rw [← e1]; exact ho.drewN n
          have HS := Q.hid (HR.out.small k)
          clear h3 h4 ho e1 e2 hcp
          have hm3 : (nx xss k).length ≤ 9223372036854775807 := by have := HS.out; omega
          go_wp2
          go_quiet ((go_at_call 28; exact Calls.quiet_of (SameWords_eq A1 A2 c1 c2 (nx xss k) _ (Rd.drewN H3.out _) (Rd.drewN H4.out _) hm3)))
          have HXW := Q.hid (HR.out.wds k)
          clear hy H3 H4
          go_wp2_with fail
          refine (OverWords_calls (.slice A1 (nx xss k).length c1) (nx xss k) B _ (HO.out _) HXW.out).mono ?_
          rintro e w1 ⟨rfl, ho, hg⟩
          rw [← HV.out] at ho hg
          have HT2 : Hid (Turned w w1 (some ad) B w.heap.size vs xss us (k + 1)) := HT.out.step HR.out (Nat.le_refl _) HB0.out hlt ho (grown_of_drewN hg)
          clear HT ho hg HO HV HXW hx
          go_wp2
          go_roundw
          case rel => exact ⟨k + 1, by omega, by go_num, HT2⟩
          case measure => simp [intOf]; omega
        · obtain rfl : k = vs.length := by omega
          have HL : Hid (∀ i, i < vs.length → ∃ ad A1 c1, A = some ad ∧ wr.cell? (ad.add i) = some (.slice A1 (nx xss i).length c1) ∧ Rd wr A1 (comp (nx xss i))) := fun i hi => by
            obtain ⟨ad, e, hc⟩ := HT.out.cell i hi
            have ho := HT.out.own i hi
            rw [if_pos hi] at ho
            obtain ⟨A1, c1, e1, _, _, h3, _⟩ := ho.slice
            rw [e1, comp_length] at hc
            exact ⟨ad, A1, c1, e, hc, h3⟩
          have HM : Hid (∀ i, i < vs.length → ∃ A1 c1, wr.cell? ⟨w.heap.size, i, none⟩ = some (.slice A1 (nx xss i).length c1) ∧ Rd wr A1 (nx xss i)) := fun i hi => by
            obtain ⟨A1, c1, e1, _, _, h3, _⟩ := (HT.out.copies i hi).slice
            have hy := HT.out.blk.cell (nv_get (i := i) (by rw [HUL.out]; exact hi))
            rw [e1] at hy
            exact ⟨A1, c1, hy, h3⟩
          have HBE := Q.hid HT.out.below
          clear HT
          obtain ⟨w3, hw3⟩ : ∃ w3 : World, w3 = wr := ⟨_, rfl⟩
          subst hw3
          go_wp2
          go_loopw [6] (fun i wr => ∃ k : Nat, k ≤ vs.length ∧ i = .int .i64 k ∧ Dr w3 wr) (fun i _ => vs.length - (intOf i).toNat)
          case atStart => exact ⟨0, by omega, rfl, Dr.refl _⟩
          case round =>
            obtain ⟨k, hk, rfl, ⟨n, rfl⟩⟩ := hrel
            by_cases hlt : k < vs.length
            · go_wp2
              go_loopw [7] (fun i wr => ∃ j : Nat, j ≤ (nx xss k).length ∧ i = .int .i64 j ∧ Dr w3 wr) (fun i _ => (nx xss k).length - (intOf i).toNat)
              case atStart => exact ⟨0, by omega, rfl, ⟨n, rfl⟩⟩
              case round =>
                obtain ⟨j, hj, rfl, ⟨m, rfl⟩⟩ := hrel
                obtain ⟨ad, A1, c1, rfl, hc1, hr1⟩ := HL.out k hlt
                obtain ⟨A2, c2, hc2, hr2⟩ := HM.out k hlt
                have hs1 := HR.out.small k
                by_cases hlj : j < (nx xss k).length
                · obtain ⟨ad1, rfl, hx1⟩ := hr1 j (by rw [comp_length]; exact hlj)
                  obtain ⟨ad2, rfl, hx2⟩ := hr2 j hlj
                  rw [wd_comp hlj] at hx1
                  have hwd := (HR.out.wds k).wd j
                  have h0 : 0 ≤ wd (nx xss k) j := hwd.1
                  have h1 : wd (nx xss k) j < 4294967296 := hwd.2
                  have hnot := u32_not (wd (nx xss k) j) h0 h1
                  clear hwd hr1 hr2
                  go_wp2
                  go_quiet (fail)
                  go_wp2
                  go_roundw
                  case rel => exact ⟨j + 1, by omega, by go_num, ⟨_, rfl⟩⟩
                  case measure => simp [intOf]; omega
                · clear hr1 hr2
                  go_wp2
                  go_roundw
                  case rel => exact ⟨k + 1, by omega, by go_num, ⟨m, rfl⟩⟩
                  case measure => simp [intOf]; omega
            · go_wp2
              go_ret
              exact ⟨rfl, below_drewN HBE.out _⟩

/-- rows of words that were made one behind the other -/
def Fresh (w : World) : Nat → Nat → List (Value × List Int) → Prop
  | lo, hi, [] => lo ≤ hi
  | lo, hi, (v, xs) :: r => ∃ m, lo ≤ m ∧ Ow w 50 lo v xs ∧ (∀ k, v.ownBlock = some k → k < m) ∧ Wds xs ∧ xs.length * 4 ≤ 140737488351232 ∧ Fresh w m hi r
theorem Fresh.le {w : World} {lo hi : Nat} {l : List (Value × List Int)} (h : Fresh w lo hi l) : lo ≤ hi := by
  induction l generalizing lo with
  | nil => exact h
  | cons x r ih => obtain ⟨m, h1, _, _, _, _, h2⟩ := h; exact Nat.le_trans h1 (ih h2)
theorem Fresh.at {w : World} {lo hi : Nat} {l : List (Value × List Int)} (h : Fresh w lo hi l) {i : Nat} (hi' : i < l.length) :
    Ow w 50 lo (nv (l.map Prod.fst) i) (nx (l.map Prod.snd) i) ∧ (∀ k, (nv (l.map Prod.fst) i).ownBlock = some k → lo ≤ k ∧ k < hi) := by
  induction l generalizing lo i with
  | nil => simp at hi'
  | cons x r ih =>
    obtain ⟨m, h1, h2, h3, _, _, h5⟩ := h
    cases i with
    | zero =>
      refine ⟨h2, fun k hk => ⟨(h2.base k hk).1, ?_⟩⟩
      have := h3 k hk
      have := Fresh.le h5
      omega
    | succ i =>
      obtain ⟨h6, h7⟩ := ih h5 (i := i) (by simpa using hi')
      refine ⟨h6.mono h1, fun k hk => ?_⟩
      have := h7 k hk
      omega
theorem Fresh.apart {w : World} {lo hi : Nat} {l : List (Value × List Int)} (h : Fresh w lo hi l) {i j : Nat} (hij : i < j) (hj : j < l.length) {k : Nat}
    (h1 : (nv (l.map Prod.fst) i).ownBlock = some k) (h2 : (nv (l.map Prod.fst) j).ownBlock = some k) : False := by
  induction l generalizing lo i j with
  | nil => simp at hj
  | cons x r ih =>
    obtain ⟨m, _, _, h3, _, _, h5⟩ := h
    cases i with
    | zero =>
      cases j with
      | zero => omega
      | succ j =>
        have a1 := h3 k h1
        have a2 := (h5.at (i := j) (by simpa using hj)).2 k h2
        omega
    | succ i =>
      cases j with
      | zero => omega
      | succ j => exact ih h5 (by omega : i < j) (by simpa using hj) h1 h2
theorem Fresh.more {w : World} {lo hi : Nat} {l : List (Value × List Int)} (h : Fresh w lo hi l) (i : Nat) : Wds (nx (l.map Prod.snd) i) ∧ (nx (l.map Prod.snd) i).length * 4 ≤ 140737488351232 := by
  induction l generalizing lo i with
  | nil => exact ⟨by simp [nx, Wds.nil], by simp [nx]⟩
  | cons x r ih =>
    obtain ⟨m, _, _, _, h3, h4, h5⟩ := h
    cases i with
    | zero => exact ⟨h3, h4⟩
    | succ i => exact ih h5 i
theorem Fresh.rows {w : World} {B hi : Nat} {l : List (Value × List Int)} (h : Fresh w B hi l) (hh : hi ≤ w.heap.size) :
    Rows (w.alloc (.cells (l.map Prod.fst).toArray 22)) (some ⟨w.heap.size, 0, none⟩) B (l.map Prod.fst) (l.map Prod.snd) := {
  cell := fun i hi => ⟨_, rfl, by rw [add_plain]; exact (Blk.new w 22 (l.map Prod.fst)).cell (nv_get hi)⟩
  far := fun ad e i hlt he => by
    cases e
    exact absurd ((h.at (i := i) (by simpa using hlt)).2 _ he).2 (Nat.not_lt.2 hh)
  own := fun i hi => (h.at (i := i) (by simpa using hi)).1.alloc _
  dis := fun i j hi hj hne => by
    cases hv : (nv (l.map Prod.fst) i).ownBlock with
    | none => exact .inl rfl
    | some k =>
      refine .inr fun e => ?_
      rcases Nat.lt_or_gt_of_ne hne with h1 | h1
      · exact h.apart h1 (by simpa using hj) hv e.symm
      · exact h.apart h1 (by simpa using hi) e.symm hv
  wds := fun i => (h.more i).1
  small := fun i => (h.more i).2 }
end Go.Proofs.YtidccoahjpjoaaaGreatDoor

/- Rows that share no memory, gathered call by call, in whatever order. -/
set_option linter.unusedVariables false
set_option linter.unusedSimpArgs false
namespace Go.Proofs.YtidccoahjpjoaaaGreatDoor
open Go Go.RowKit Q

theorem Apart2.symm {u v : Value} (h : Apart2 u v) : Apart2 v u := by
  rcases h with h | h
  · by_cases hv : v.ownBlock = none
    · exact .inl hv
    · exact .inr (by rw [h]; exact hv)
  · exact .inr (Ne.symm h)
/-- rows of the call's own, made between two sizes of the heap, apart from each other -/
structure Apt (w : World) (lo hi : Nat) (l : List (Value × List Int)) : Prop where
  all : ∀ x ∈ l, Ow w 50 lo x.1 x.2 ∧ (∀ k, x.1.ownBlock = some k → k < hi) ∧ Wds x.2 ∧ x.2.length * 4 ≤ 140737488351232
  dis : l.Pairwise (fun a b => Apart2 a.1 b.1)
  le : lo ≤ hi
theorem Apt.nil (w : World) (n : Nat) : Apt w n n [] := ⟨fun x hx => by simp at hx, List.Pairwise.nil, Nat.le_refl _⟩
theorem Apt.one {w : World} {lo : Nat} {v : Value} {xs : List Int} (h : Ow w 50 lo v xs) (hw : Wds xs) (hs : xs.length * 4 ≤ 140737488351232) (hl : lo ≤ w.heap.size) : Apt w lo w.heap.size [(v, xs)] :=
  ⟨fun x hx => by simp at hx; subst hx; exact ⟨h, fun k hk => (h.base k hk).2, hw, hs⟩, List.pairwise_singleton _ _, hl⟩
theorem Apt.two {w : World} {lo : Nat} {u v : Value} {xs ys : List Int} (h : Ow w 50 lo u xs) (h' : Ow w 50 lo v ys) (ha : Apart2 u v) (hw : Wds xs) (hw' : Wds ys) (hs : xs.length * 4 ≤ 140737488351232) (hs' : ys.length * 4 ≤ 140737488351232) (hl : lo ≤ w.heap.size) : Apt w lo w.heap.size [(u, xs), (v, ys)] :=
  ⟨fun x hx => by
    simp at hx
    rcases hx with rfl | rfl
    · exact ⟨h, fun k hk => (h.base k hk).2, hw, hs⟩
    · exact ⟨h', fun k hk => (h'.base k hk).2, hw', hs'⟩,
   by simpa using ha, hl⟩
theorem Apt.below {w w' : World} {lo hi : Nat} {l : List (Value × List Int)} (h : Apt w lo hi l) (hb : Below w.heap.size w w') : Apt w' lo hi l :=
  ⟨fun x hx => ⟨(h.all x hx).1.below hb, (h.all x hx).2⟩, h.dis, h.le⟩
theorem Apt.wider {w : World} {lo hi hi' : Nat} {l : List (Value × List Int)} (h : Apt w lo hi l) (hh : hi ≤ hi') : Apt w lo hi' l :=
  ⟨fun x hx => ⟨(h.all x hx).1, fun k hk => Nat.lt_of_lt_of_le ((h.all x hx).2.1 k hk) hh, (h.all x hx).2.2⟩, h.dis, Nat.le_trans h.le hh⟩
theorem Apt.append {w : World} {lo m hi : Nat} {l r : List (Value × List Int)} (h : Apt w lo m l) (k : Apt w m hi r) : Apt w lo hi (l ++ r) := by
  refine ⟨fun x hx => ?_, List.pairwise_append.2 ⟨h.dis, k.dis, fun a ha b hb => ?_⟩, Nat.le_trans h.le k.le⟩
  · rcases List.mem_append.1 hx with hx | hx
    · obtain ⟨a, b, c⟩ := h.all x hx
      exact ⟨a, fun j hj => Nat.lt_of_lt_of_le (b j hj) k.le, c⟩
    · obtain ⟨a, b, c⟩ := k.all x hx
      exact ⟨a.mono h.le, b, c⟩
  · cases hv : a.1.ownBlock with
    | none => exact .inl hv
    | some j =>
      refine .inr fun he => ?_
      have h1 := (h.all a ha).2.1 j hv
      have h2 := ((k.all b hb).1.base j (by rw [← he]; exact hv)).1
      omega
/-- the rows of one more call -/
theorem Apt.more {w w' : World} {lo hi hi' : Nat} {l r : List (Value × List Int)} (h : Apt w lo hi l) (hb : Below w.heap.size w w') (hh : hi ≤ w.heap.size) (k : Apt w' w.heap.size hi' r) : Apt w' lo hi' (l ++ r) :=
  ((h.below hb).wider hh).append k
theorem Apt.perm {w : World} {lo hi : Nat} {l r : List (Value × List Int)} (h : Apt w lo hi l) (p : l.Perm r) : Apt w lo hi r :=
  ⟨fun x hx => h.all x (p.mem_iff.2 hx), (p.pairwise_iff (fun h => Apart2.symm h)).1 h.dis, h.le⟩
theorem nv_map {l : List (Value × List Int)} {i : Nat} (h : i < l.length) : nv (l.map Prod.fst) i = (l[i]).1 := by simp [nv, h]
theorem nx_map {l : List (Value × List Int)} {i : Nat} (h : i < l.length) : nx (l.map Prod.snd) i = (l[i]).2 := by simp [nx, h]
theorem nx_over {l : List (Value × List Int)} {i : Nat} (h : l.length ≤ i) : nx (l.map Prod.snd) i = [] := by simp [nx, h]
theorem Apt.rows {w : World} {B hi : Nat} {l : List (Value × List Int)} (h : Apt w B hi l) (hh : hi ≤ w.heap.size) :
    Rows (w.alloc (.cells (l.map Prod.fst).toArray 22)) (some ⟨w.heap.size, 0, none⟩) B (l.map Prod.fst) (l.map Prod.snd) := {
  cell := fun i hi => ⟨_, rfl, by rw [add_plain]; exact (Blk.new w 22 (l.map Prod.fst)).cell (nv_get hi)⟩
  far := fun ad e i hlt he => by
    cases e
    have hl : i < l.length := by simpa using hlt
    rw [nv_map hl] at he
    exact absurd ((h.all _ (List.getElem_mem hl)).2.1 _ he) (Nat.not_lt.2 hh)
  own := fun i hlt => by
    have hl : i < l.length := by simpa using hlt
    rw [nv_map hl, nx_map hl]
    exact (h.all _ (List.getElem_mem hl)).1.alloc _
  dis := fun i j hi hj hne => by
    have hi' : i < l.length := by simpa using hi
    have hj' : j < l.length := by simpa using hj
    rw [nv_map hi', nv_map hj']
    have hp := List.pairwise_iff_getElem.1 h.dis
    rcases Nat.lt_or_gt_of_ne hne with h1 | h1
    · exact hp i j hi' hj' h1
    · exact (hp j i hj' hi' h1).symm
  wds := fun i => by
    by_cases hl : i < l.length
    · rw [nx_map hl]; exact (h.all _ (List.getElem_mem hl)).2.2.1
    · rw [nx_over (by omega)]; exact Wds.nil
  small := fun i => by
    by_cases hl : i < l.length
    · rw [nx_map hl]; exact (h.all _ (List.getElem_mem hl)).2.2.2
    · rw [nx_over (by omega)]; simp }
end Go.Proofs.YtidccoahjpjoaaaGreatDoor

/- Numbers of any form in boxes, rows apart. -/
set_option linter.unusedVariables false
set_option linter.unusedSimpArgs false
namespace Go.Proofs.YtidccoahjpjoaaaGreatDoor
open Go Go.RowKit Q
theorem Apt.low {w : World} {lo lo' hi : Nat} {l : List (Value × List Int)} (h : Apt w lo hi l) (hl : lo' ≤ lo) : Apt w lo' hi l := ⟨fun x hx => ⟨(h.all x hx).1.mono hl, (h.all x hx).2⟩, h.dis, Nat.le_trans hl h.le⟩
structure Gm where
  g : Nat
  n : Bool
  A : Option Addr
  c : Nat
  xs : List Int
/-- boxes, rows that can be read, rows of the call's own apart from each other -/
structure Sg (w0 w : World) (l : List Gm) (rs : List (Option Addr × List Int)) (own : List (Value × List Int)) : Prop where
  box : ∀ x ∈ l, Bx w x.g x.n (.slice x.A x.xs.length x.c)
  rd : ∀ x ∈ l, Rd w x.A x.xs
  more : ∀ x ∈ rs, Rd w x.1 x.2
  apt : Apt w w0.heap.size w.heap.size own
  below : Below w0.heap.size w0 w
theorem Sg.step {w0 w w' : World} {l : List Gm} {rs : List (Option Addr × List Int)} {own : List (Value × List Int)} (h : Sg w0 w l rs own) (hb : Below w.heap.size w w') : Sg w0 w' l rs own :=
  ⟨fun x hx => (h.box x hx).below hb, fun x hx => (h.rd x hx).below hb, fun x hx => (h.more x hx).below hb, (h.apt.below hb).wider hb.size, bs2 h.below hb⟩
theorem Sg.boxed {w0 w : World} {l : List Gm} {rs : List (Option Addr × List Int)} {own : List (Value × List Int)} (h : Sg w0 w l rs own) (n : Bool) (A : Option Addr) (c : Nat) (ws : List Int) (hr : Rd w A ws) :
    Sg w0 (w.alloc (.cells #[.bool n, .slice A ws.length c] 24)) (l ++ [⟨w.heap.size, n, A, c, ws⟩]) rs own := by
  have hs := h.step (below_alloc1 w (.cells #[.bool n, .slice A ws.length c] 24))
  refine ⟨fun x hx => ?_, fun x hx => ?_, hs.more, hs.apt, hs.below⟩
  · rcases List.mem_append.1 hx with hx | hx
    · exact hs.box x hx
    · simp at hx; subst hx; exact Bx.new _ _ _
  · rcases List.mem_append.1 hx with hx | hx
    · exact hs.rd x hx
    · simp at hx; subst hx; exact hr.alloc _
theorem Sg.row {w0 w w' : World} {l : List Gm} {rs : List (Option Addr × List Int)} {own : List (Value × List Int)} (h : Sg w0 w l rs own) (hb : Below w.heap.size w w') {A : Option Addr} {c : Nat} {ws : List Int} (ho : Ow w' 50 w.heap.size (.slice A ws.length c) ws) (hw : Wds ws) (hl : ws.length ≤ 2048) :
    Sg w0 w' l rs (own ++ [(.slice A ws.length c, ws)]) :=
  ⟨(h.step hb).box, (h.step hb).rd, (h.step hb).more, h.apt.more hb (Nat.le_refl _) (Apt.one ho hw (by omega) hb.size), (h.step hb).below⟩
theorem Sg.own1 {w0 w w' : World} {l : List Gm} {rs : List (Option Addr × List Int)} {own : List (Value × List Int)} (h : Sg w0 w l rs own) (hb : Below w.heap.size w w') {A : Option Addr} {c : Nat} {ws : List Int} (ho : Ow w' 50 w.heap.size (.slice A ws.length c) ws) (n : Bool) (hw : Wds ws) (hl : ws.length ≤ 2048) :
    Sg w0 (w'.alloc (.cells #[.bool n, .slice A ws.length c] 24)) (l ++ [⟨w'.heap.size, n, A, c, ws⟩]) rs (own ++ [(.slice A ws.length c, ws)]) :=
  (h.row hb ho hw hl).boxed n A c ws ho.read.2.2.2
theorem Sg.ref1 {w0 w w' : World} {l : List Gm} {rs : List (Option Addr × List Int)} {own : List (Value × List Int)} (h : Sg w0 w l rs own) (hb : Below w.heap.size w w') {A : Option Addr} {c : Nat} {ws : List Int} (ho : Ow w' 50 w.heap.size (.slice A ws.length c) ws) (n : Bool) :
    Sg w0 (w'.alloc (.cells #[.bool n, .slice A ws.length c] 24)) (l ++ [⟨w'.heap.size, n, A, c, ws⟩]) rs own :=
  (h.step hb).boxed n A c ws ho.read.2.2.2
theorem Sg.two {w0 w : World} {l : List Gm} {rs : List (Option Addr × List Int)} {own : List (Value × List Int)} (h : Sg w0 w l rs own) (n m : Bool) (A A' : Option Addr) (c c' : Nat) (xs ys : List Int) (hr : Rd w A xs) (hr' : Rd w A' ys) :
    Sg w0 ((w.alloc (.cells #[.bool n, .slice A xs.length c] 24)).alloc (.cells #[.bool m, .slice A' ys.length c'] 24)) (l ++ [⟨w.heap.size, n, A, c, xs⟩, ⟨w.heap.size + 1, m, A', c', ys⟩]) rs own := by
  have h1 := (h.boxed n A c xs hr).boxed m A' c' ys (hr'.alloc _)
  rw [World.size_alloc] at h1
  simpa using h1
theorem Sg.own2 {w0 w w' : World} {l : List Gm} {rs : List (Option Addr × List Int)} {own : List (Value × List Int)} (h : Sg w0 w l rs own) (hb : Below w.heap.size w w') {A A' : Option Addr} {c c' : Nat} {xs ys : List Int} (ho : Ow w' 50 w.heap.size (.slice A xs.length c) xs) (ho' : Ow w' 50 w.heap.size (.slice A' ys.length c') ys) (ha : Apart2 (.slice A xs.length c) (.slice A' ys.length c')) (n m : Bool) (hw : Wds xs) (hl : xs.length ≤ 2048) (hw' : Wds ys) (hl' : ys.length ≤ 2048) :
    Sg w0 ((w'.alloc (.cells #[.bool n, .slice A xs.length c] 24)).alloc (.cells #[.bool m, .slice A' ys.length c'] 24)) (l ++ [⟨w'.heap.size, n, A, c, xs⟩, ⟨w'.heap.size + 1, m, A', c', ys⟩]) rs (own ++ [(.slice A xs.length c, xs), (.slice A' ys.length c', ys)]) := by
  have h1 : Sg w0 w' l rs (own ++ [(.slice A xs.length c, xs), (.slice A' ys.length c', ys)]) :=
    ⟨(h.step hb).box, (h.step hb).rd, (h.step hb).more, h.apt.more hb (Nat.le_refl _) (Apt.two ho ho' ha hw hw' (by omega) (by omega) hb.size), (h.step hb).below⟩
  exact h1.two n m A A' c c' xs ys ho.read.2.2.2 ho'.read.2.2.2
theorem Sg.ref2 {w0 w w' : World} {l : List Gm} {rs : List (Option Addr × List Int)} {own : List (Value × List Int)} (h : Sg w0 w l rs own) (hb : Below w.heap.size w w') {A A' : Option Addr} {c c' : Nat} {xs ys : List Int} (ho : Ow w' 50 w.heap.size (.slice A xs.length c) xs) (ho' : Ow w' 50 w.heap.size (.slice A' ys.length c') ys) (n m : Bool) :
    Sg w0 ((w'.alloc (.cells #[.bool n, .slice A xs.length c] 24)).alloc (.cells #[.bool m, .slice A' ys.length c'] 24)) (l ++ [⟨w'.heap.size, n, A, c, xs⟩, ⟨w'.heap.size + 1, m, A', c', ys⟩]) rs own :=
  (h.step hb).two n m A A' c c' xs ys ho.read.2.2.2 ho'.read.2.2.2

theorem Sg.extra {w0 w : World} {l : List Gm} {rs : List (Option Addr × List Int)} {own : List (Value × List Int)} (h : Sg w0 w l rs own) {A : Option Addr} {ws : List Int} (hr : Rd w A ws) : Sg w0 w l (rs ++ [(A, ws)]) own :=
  ⟨h.box, h.rd, fun x hx => by
    rcases List.mem_append.1 hx with hx | hx
    · exact h.more x hx
    · simp at hx; subst hx; exact hr, h.apt, h.below⟩
end Go.Proofs.YtidccoahjpjoaaaGreatDoor

/- The walk of WholeTexts. -/
set_option linter.unusedVariables false
set_option linter.unusedSimpArgs false
namespace Go.Proofs.YtidccoahjpjoaaaGreatDoor
open Go Go.RowKit Q Go.Proofs.YtidccoahjpjoaaaGreatDoorW.PrintWords
theorem wTPrint_calls (n : Bool) (A : Option Addr) (c : Nat) (xs : List Int) (w : World) (hL : LW w) (h : In w A c xs) (hs : xs.length ≤ 40 ∨ 2048 < xs.length) :
    Calls Tryz.prog 9 #[.agg #[.bool n, .slice A xs.length c]] w fun e w' => e = .returned (.tuple #[.string (NT.prW n xs).1, .int .i64 (NT.prW n xs).2]) ∧ Below w.heap.size w w' :=
  PK1.whole_Print.calls 8000 n A c xs _ _ w hL (C_of_In h) h.cap (NT.wprint_S 8000 n xs h.wds (by omega) (by omega))
theorem rTPrint_calls (n : Bool) (A : Option Addr) (c : Nat) (xs : List Int) (w : World) (h : In w A c xs) (hs : xs.length ≤ 40 ∨ 2048 < xs.length) :
    Calls Tryz.prog 10 #[.agg #[.bool n, .slice A xs.length c]] w fun e w' => e = .returned (.tuple #[.string (NT.prW n xs).1, .int .i64 (NT.prW n xs).2]) ∧ Below w.heap.size w w' :=
  PK1.slackwaterref02_Print.calls 8000 n A c xs _ _ w (C_of_In h) h.cap (NT.rwprint_S 8000 n xs h.wds (by omega) (by omega))
theorem wTParse_calls (s : ByteArray) (w : World) (hs : s.size ≤ 400 ∨ 65536 < s.size) :
    Calls Tryz.prog 11 #[.string s] w fun e w' => ∃ B d, e = .returned (.tuple #[.agg #[.bool (NT.paW s).1, .slice B (NT.paW s).2.1.length d], .int .i64 (NT.paW s).2.2]) ∧ Ow w' 50 w.heap.size (.slice B (NT.paW s).2.1.length d) (NT.paW s).2.1 ∧ Below w.heap.size w w' := by
  refine (PK1.whole_Parse.calls 8000 s _ _ _ w (NT.wparse_S 8000 (by omega) s (by omega))).mono ?_
  rintro e w' ⟨v, rfl, ho, hB⟩
  have ho : Ow w' 50 w.heap.size v (NT.paW s).2.1 := Kd.own_of_R ho
  obtain ⟨B, d, rfl, _⟩ := ho.slice
  exact ⟨B, d, rfl, ho, hB⟩
theorem rTParse_calls (s : ByteArray) (w : World) (hs : s.size ≤ 400 ∨ 65536 < s.size) :
    Calls Tryz.prog 12 #[.string s] w fun e w' => ∃ B d, e = .returned (.tuple #[.agg #[.bool (NT.paW s).1, .slice B (NT.paW s).2.1.length d], .int .i64 (NT.paW s).2.2]) ∧ Ow w' 50 w.heap.size (.slice B (NT.paW s).2.1.length d) (NT.paW s).2.1 ∧ Below w.heap.size w w' := by
  refine (PK1.slackwaterref02_Parse.calls 3000000 s _ _ _ w (NT.rwparse_S 3000000 (by omega) s (by omega))).mono ?_
  rintro e w' ⟨v, rfl, ho, hB⟩
  have ho : Ow w' 50 w.heap.size v (NT.paW s).2.1 := Kd.own_of_R ho
  obtain ⟨B, d, rfl, _⟩ := ho.slice
  exact ⟨B, d, rfl, ho, hB⟩
/-- the guards of WholeTexts -/
def skW (l z : Nat) : Bool := largeB l || (decide (400 < z) && decide (z ≤ 65536))
theorem skW_no {l z : Nat} (h : skW l z = false) : (l ≤ 40 ∨ 2048 < l) ∧ (z ≤ 400 ∨ 65536 < z) := by
  unfold skW largeB at h; simp at h; omega
theorem paW_wds (s : ByteArray) : Wds (NT.paW s).2.1 := by
  unfold NT.paW NT.paD
  repeat' split
  all_goals first | exact Wds.nil | exact nw_wds _
theorem paD_len (n : Bool) (d : List UInt8) (hd : d.length ≤ 9000) : (NT.paD n d).2.1.length ≤ 2048 := by
  unfold NT.paD
  split
  · rename_i h
    have := NT.num_short d h.1 hd
    show (nw _).length ≤ _
    omega
  · simp
theorem paW_len (s : ByteArray) (hs : s.size ≤ 400 ∨ 65536 < s.size) : (NT.paW s).2.1.length ≤ 2048 := by
  have hz := Lib.size_eq s
  unfold NT.paW
  split
  · simp
  · split
    · exact paD_len _ _ (by simp)
    · rename_i hl
      rw [hl] at hz
      have hz' := hz.trans (List.length_cons ..)
      split
      · exact paD_len _ _ (by omega)
      · exact paD_len _ _ (by rw [List.length_cons]; omega)
theorem lent_take3 (xs : List Int) : (lent xs).take xs.length = xs := by unfold lent; exact List.take_left

set_option maxHeartbeats 4000000 in
set_option maxRecDepth 100000 in
theorem WholeTexts_walk (n : Bool) (A : Option Addr) (c : Nat) (xs : List Int) (s : ByteArray) (w : World) (hL : LW w) (h : In w A c xs) (h9 : s.size ≤ 140737488351232) :
    Calls Tryz.prog 3 #[.agg #[.bool n, .slice A xs.length c], .string s] w fun e w' => e = .returned (.bool true) ∧ Below w.heap.size w w' := by
  have H := Q.hid h
  have HLW := Q.hid hL
  have hm : xs.length * 4 ≤ 140737488351232 := h.small
  have hwx := Q.hid h.wds
  clear h hL
  have B1 := Q.hid (Bx.new w n (.slice A xs.length c))
  have HB := Q.hid (below_alloc1 w (.cells #[.bool n, .slice A xs.length c] 24))
  go_enter Tryz.func3, Tryz.ntmps3
  go_wp2_with fail
  refine (lives_calls _).mono ?_
  rintro e w1 ⟨rfl, hb⟩
  have B1 := Q.hid (B1.out.below hb)
  have HB := Q.hid (bs2 HB.out hb)
  clear hb
  go_upto_region 3 with fail
  go_cut [29] from 18 (fun cv wx => cv = .bool (skW xs.length s.size) ∧ Hid (Bx wx w.heap.size n (.slice A xs.length c)) ∧ Hid (Below w.heap.size w wx))
  case first =>
    have HE : Hid (skW xs.length s.size = (largeB xs.length || (decide (400 < s.size) && decide (s.size ≤ 65536)))) := rfl
    have k10 := B1.out.c0
    have k11 := B1.out.c1
    go_wp2_with fail
    refine (large_calls n A c xs _ (by omega)).mono ?_
    rintro e w2 ⟨rfl, hb⟩
    have B1 := Q.hid (B1.out.below hb)
    have HB := Q.hid (bs2 HB.out hb)
    clear hb k10 k11
    cases hb : largeB xs.length with
    | true =>
      have HF : Hid (skW xs.length s.size = true) := by rw [HE.out, hb]; rfl
      clear hb HE
      go_wp2
      go_meet
      exact ⟨by rw [HF.out], B1, HB⟩
    | false =>
      rcases (by omega : s.size ≤ 400 ∨ (400 < s.size ∧ s.size ≤ 65536) ∨ 65536 < s.size) with hz | hz | hz
      · have d1 : decide (400 < (s.size : Int)) = false := decide_eq_false (by omega)
        have e1 : decide (400 < s.size) = false := decide_eq_false (by omega)
        have HF : Hid (skW xs.length s.size = false) := by rw [HE.out, hb, e1]; rfl
        clear hb HE hz
        go_wp2
        go_meet
        exact ⟨by rw [HF.out], B1, HB⟩
      · have d1 : decide (400 < (s.size : Int)) = true := decide_eq_true (by omega)
        have d2 : decide ((s.size : Int) ≤ 65536) = true := decide_eq_true (by omega)
        have e1 : decide (400 < s.size) = true := decide_eq_true (by omega)
        have e2 : decide (s.size ≤ 65536) = true := decide_eq_true (by omega)
        have HF : Hid (skW xs.length s.size = true) := by rw [HE.out, hb, e1, e2]; rfl
        clear hb HE hz
        go_wp2
        go_meet
        exact ⟨by rw [HF.out], B1, HB⟩
      · have d1 : decide (400 < (s.size : Int)) = true := decide_eq_true (by omega)
        have d2 : decide ((s.size : Int) ≤ 65536) = false := decide_eq_false (by omega)
        have e1 : decide (400 < s.size) = true := decide_eq_true (by omega)
        have e2 : decide (s.size ≤ 65536) = false := decide_eq_false (by omega)
        have HF : Hid (skW xs.length s.size = false) := by rw [HE.out, hb, e1, e2]; rfl
        clear hb HE hz
        go_wp2
        go_meet
        exact ⟨by rw [HF.out], B1, HB⟩
  case rest =>
    clear B1 HB
    obtain ⟨rfl, B1, HB⟩ := hcut
    cases hb : skW xs.length s.size with
    | true =>
      clear hb
      go_wp2
      go_ret
      exact ⟨rfl, HB.out⟩
    | false =>
      have hx : xs.length ≤ 40 ∨ 2048 < xs.length := (skW_no hb).1
      have HS3 : Hid (s.size ≤ 400 ∨ 65536 < s.size) := (skW_no hb).2
      clear hb
      have SQ : Hid (Sg w wc [⟨w.heap.size, n, A, c, xs⟩] [] []) := ⟨fun x hx => by simp at hx; subst hx; exact B1.out, fun x hx => by simp at hx; subst hx; exact (H.out.below HB.out).rd, fun x hx => by simp at hx, (Apt.nil wc w.heap.size).wider HB.out.size, HB.out⟩
      have ka0 := (SQ.out.box ⟨w.heap.size, n, A, c, xs⟩ (by simp)).c0
      have ka1 := (SQ.out.box ⟨w.heap.size, n, A, c, xs⟩ (by simp)).c1
      go_wp2_with fail
      refine (LentWhole_calls n A c xs _ (H.out.below SQ.out.below)).mono ?_
      rintro e w4 ⟨A1, c1, rfl, ho, hb⟩
      have hr1 := ho.read
      have hc1 : xs.length + 3 ≤ c1 := by have := hr1.2.1; rw [lent_length] at this; exact this
      have hc1' : c1 ≤ 9223372036854775807 := by have := hr1.2.2.1; simpa [maxLen] using this
      have hca : xs.length ≤ c1 := by omega
      have SQ : Hid (Sg w (w4.alloc (.cells #[.bool n, .slice A1 xs.length c1] 24)) ([⟨w.heap.size, n, A, c, xs⟩] ++ [⟨w4.heap.size, n, A1, c1, xs⟩]) ([] ++ [(A1, lent xs)]) []) :=
        ((SQ.out.step hb).extra hr1.2.2.2).boxed n A1 c1 xs (by have := hr1.2.2.2.take xs.length; rwa [lent_take3] at this)
      clear ho hb hr1 ka0 ka1
      have ka0 := (SQ.out.box ⟨w4.heap.size, n, A1, c1, xs⟩ (by simp)).c0
      have ka1 := (SQ.out.box ⟨w4.heap.size, n, A1, c1, xs⟩ (by simp)).c1
      go_wp2_with fail
      refine (wTPrint_calls n A1 c1 xs _ (HLW.out.below SQ.out.below) ⟨SQ.out.rd ⟨w4.heap.size, n, A1, c1, xs⟩ (by simp), hca, hm, hwx.out⟩ hx).mono ?_
      rintro e w5 ⟨rfl, hb⟩
      have SQ := Q.hid (SQ.out.step hb)
      clear hb ka0 ka1
      have ka0 := (SQ.out.box ⟨w.heap.size, n, A, c, xs⟩ (by simp)).c0
      have ka1 := (SQ.out.box ⟨w.heap.size, n, A, c, xs⟩ (by simp)).c1
      go_wp2_with fail
      refine (rTPrint_calls n A c xs _ (H.out.below SQ.out.below) hx).mono ?_
      rintro e w6 ⟨rfl, hb⟩
      have SQ := Q.hid (SQ.out.step hb)
      clear hb ka0 ka1
      go_wp2_with fail
      refine (wTParse_calls s _ HS3.out).mono ?_
      rintro e w10 ⟨A10, c10, rfl, ho, hb⟩
      have SQ := Q.hid (SQ.out.own1 hb ho (NT.paW s).1 (paW_wds s) (paW_len s HS3.out))
      clear ho hb
      go_wp2_with fail
      refine (rTParse_calls s _ HS3.out).mono ?_
      rintro e w11 ⟨A11, c11, rfl, ho, hb⟩
      have SQ := Q.hid (SQ.out.ref1 hb ho (NT.paW s).1)
      clear ho hb
      go_wp2_with fail
      refine (wTParse_calls s _ HS3.out).mono ?_
      rintro e w12 ⟨A12, c12, rfl, ho, hb⟩
      have SQ := Q.hid (SQ.out.own1 hb ho (NT.paW s).1 (paW_wds s) (paW_len s HS3.out))
      clear ho hb
      have ka0 := (SQ.out.box ⟨w10.heap.size, (NT.paW s).1, A10, c10, (NT.paW s).2.1⟩ (by simp)).c0
      have ka1 := (SQ.out.box ⟨w10.heap.size, (NT.paW s).1, A10, c10, (NT.paW s).2.1⟩ (by simp)).c1
      have kb0 := (SQ.out.box ⟨w11.heap.size, (NT.paW s).1, A11, c11, (NT.paW s).2.1⟩ (by simp)).c0
      have kb1 := (SQ.out.box ⟨w11.heap.size, (NT.paW s).1, A11, c11, (NT.paW s).2.1⟩ (by simp)).c1
      have HSL : Hid ((NT.paW s).2.1.length ≤ 9223372036854775807) := by have := paW_len s HS3.out; show _ ≤ _; omega
      go_wp2_with fail
      refine (wone_calls (NT.paW s).1 (NT.paW s).1 (NT.paW s).2.2 (NT.paW s).2.2 A10 A11 c10 c11 (NT.paW s).2.1 (NT.paW s).2.1 _ (SQ.out.rd ⟨w10.heap.size, (NT.paW s).1, A10, c10, (NT.paW s).2.1⟩ (by simp)) (SQ.out.rd ⟨w11.heap.size, (NT.paW s).1, A11, c11, (NT.paW s).2.1⟩ (by simp)) HSL.out rfl rfl rfl).mono ?_
      rintro e w33 ⟨rfl, hb⟩
      have SQ := Q.hid (SQ.out.step hb)
      clear hb ka0 ka1 kb0 kb1
      have ka0 := (SQ.out.box ⟨w12.heap.size, (NT.paW s).1, A12, c12, (NT.paW s).2.1⟩ (by simp)).c0
      have ka1 := (SQ.out.box ⟨w12.heap.size, (NT.paW s).1, A12, c12, (NT.paW s).2.1⟩ (by simp)).c1
      have kb0 := (SQ.out.box ⟨w11.heap.size, (NT.paW s).1, A11, c11, (NT.paW s).2.1⟩ (by simp)).c0
      have kb1 := (SQ.out.box ⟨w11.heap.size, (NT.paW s).1, A11, c11, (NT.paW s).2.1⟩ (by simp)).c1
      go_wp2_with fail
      refine (wone_calls (NT.paW s).1 (NT.paW s).1 (NT.paW s).2.2 (NT.paW s).2.2 A12 A11 c12 c11 (NT.paW s).2.1 (NT.paW s).2.1 _ (SQ.out.rd ⟨w12.heap.size, (NT.paW s).1, A12, c12, (NT.paW s).2.1⟩ (by simp)) (SQ.out.rd ⟨w11.heap.size, (NT.paW s).1, A11, c11, (NT.paW s).2.1⟩ (by simp)) HSL.out rfl rfl rfl).mono ?_
      rintro e w34 ⟨rfl, hb⟩
      have SQ := Q.hid (SQ.out.step hb)
      clear hb ka0 ka1 kb0 kb1
      have ka0 := (SQ.out.box ⟨w4.heap.size, n, A1, c1, xs⟩ (by simp)).c0
      have ka1 := (SQ.out.box ⟨w4.heap.size, n, A1, c1, xs⟩ (by simp)).c1
      have kb0 := (SQ.out.box ⟨w.heap.size, n, A, c, xs⟩ (by simp)).c0
      have kb1 := (SQ.out.box ⟨w.heap.size, n, A, c, xs⟩ (by simp)).c1
      go_wp2_with fail
      refine (KeptWhole_calls n A A1 c c1 xs _ (H.out.below SQ.out.below) (SQ.out.more (A1, lent xs) (by simp)) hc1 hc1').mono ?_
      rintro e w35 ⟨rfl, hb⟩
      have SQ := Q.hid (SQ.out.step hb)
      clear hb ka0 ka1 kb0 kb1
      have ka0 := (SQ.out.box ⟨w10.heap.size, (NT.paW s).1, A10, c10, (NT.paW s).2.1⟩ (by simp)).c0
      have ka1 := (SQ.out.box ⟨w10.heap.size, (NT.paW s).1, A10, c10, (NT.paW s).2.1⟩ (by simp)).c1
      have kb0 := (SQ.out.box ⟨w12.heap.size, (NT.paW s).1, A12, c12, (NT.paW s).2.1⟩ (by simp)).c0
      have kb1 := (SQ.out.box ⟨w12.heap.size, (NT.paW s).1, A12, c12, (NT.paW s).2.1⟩ (by simp)).c1
      go_wp2_with fail
      refine (ApartWords_calls _ 2 w.heap.size _ _ _ (SQ.out.apt.rows (Nat.le_refl _)) (Nat.le_trans SQ.out.below.size (by simp)) (by simp)).mono ?_
      rintro e w99 ⟨rfl, hb⟩
      have HZ := Q.hid ((SQ.out.below.alloc SQ.out.below.size _).trans hb)
      clear hb
      go_wp2
      go_ret
      exact ⟨rfl, HZ.out⟩
end Go.Proofs.YtidccoahjpjoaaaGreatDoor

/- Arguments opened for a row: structs of two or four whole numbers. -/
set_option linter.unusedVariables false
set_option linter.unusedSimpArgs false
namespace GB
open Go Go.ChangeShapes Go.WideShapes Go.RowKit
theorem int2_open {H : Type} {enc : TypeId × Value → H} {P : Program} {W : World} {base : Nat} {spare : Nat → Bool} {held : Bool} {t : TypeId} {f0 f1 : Field} {cs : Array Value} {d : DataW H} {ps : List MemPlace} {k0 k1 : IntKind}
    (hu : P.underlying t = some (.struct #[f0, f1])) (hb : P.underlying f0.type = some (.int k0)) (hs : P.underlying f1.type = some (.int k1))
    (h0 : f0.offset = 0) (h1 : f1.offset = 1) (c0 : P.cellsOf f0.type = 1) (c1 : P.cellsOf f1.type = 1) (hct : P.cellsOf t = 2)
    (h : DataW.Trod enc P W base spare held t (.agg cs) d ps) : ∃ (x y : Int), cs = #[.int k0 x, .int k1 y] ∧ (Lit.int k0 x).wf = true ∧ (Lit.int k1 y).wf = true := by
  obtain ⟨fuel, hf⟩ := h
  obtain ⟨y0, y1, n, hx, hl, t0, t1⟩ := trod_struct2 hu hf
  rw [hct] at hl
  simp only [Value.cells] at hl t0 t1
  rw [h0, c0] at t0
  rw [h1, c1] at t1
  obtain ⟨l⟩ := cs
  match l, hl with
  | [u, v], _ =>
    simp at t0 t1
    obtain ⟨b, e0, _, w0⟩ := DataW.trod_int hb t0
    obtain ⟨c, e1, _, w1⟩ := DataW.trod_int hs t1
    injection e0 with e0
    injection e1 with e1
    subst e0 e1
    exact ⟨b, c, rfl, w0, w1⟩
theorem int4_open {H : Type} {enc : TypeId × Value → H} {P : Program} {W : World} {base : Nat} {spare : Nat → Bool} {held : Bool} {t : TypeId} {f0 f1 f2 f3 : Field} {cs : Array Value} {d : DataW H} {ps : List MemPlace} {k0 k1 k2 k3 : IntKind}
    (hu : P.underlying t = some (.struct #[f0, f1, f2, f3])) (u0 : P.underlying f0.type = some (.int k0)) (u1 : P.underlying f1.type = some (.int k1)) (u2 : P.underlying f2.type = some (.int k2)) (u3 : P.underlying f3.type = some (.int k3))
    (h0 : f0.offset = 0) (h1 : f1.offset = 1) (h2 : f2.offset = 2) (h3 : f3.offset = 3) (c0 : P.cellsOf f0.type = 1) (c1 : P.cellsOf f1.type = 1) (c2 : P.cellsOf f2.type = 1) (c3 : P.cellsOf f3.type = 1) (hct : P.cellsOf t = 4)
    (h : DataW.Trod enc P W base spare held t (.agg cs) d ps) : ∃ (x y z v : Int), cs = #[.int k0 x, .int k1 y, .int k2 z, .int k3 v] ∧ (Lit.int k0 x).wf = true ∧ (Lit.int k1 y).wf = true ∧ (Lit.int k2 z).wf = true ∧ (Lit.int k3 v).wf = true := by
  obtain ⟨fuel, hf⟩ := h
  obtain ⟨y0, y1, y2, y3, n, hx, hl, t0, t1, t2, t3⟩ := Go.Joins.trod_struct4 hu hf
  rw [hct] at hl
  simp only [Value.cells] at hl t0 t1 t2 t3
  rw [h0, c0] at t0
  rw [h1, c1] at t1
  rw [h2, c2] at t2
  rw [h3, c3] at t3
  obtain ⟨l⟩ := cs
  match l, hl with
  | [u, v, a, b], _ =>
    simp at t0 t1 t2 t3
    obtain ⟨x0, e0, _, w0⟩ := DataW.trod_int u0 t0
    obtain ⟨x1, e1, _, w1⟩ := DataW.trod_int u1 t1
    obtain ⟨x2, e2, _, w2⟩ := DataW.trod_int u2 t2
    obtain ⟨x3, e3, _, w3⟩ := DataW.trod_int u3 t3
    injection e0 with e0
    injection e1 with e1
    injection e2 with e2
    injection e3 with e3
    subst e0 e1 e2 e3
    exact ⟨x0, x1, x2, x3, rfl, w0, w1, w2, w3⟩
end GB

/- A row's argument that is a number: a sign and words, opened. -/
set_option linter.unusedVariables false
set_option linter.unusedSimpArgs false
namespace Q
open Go Go.ChangeShapes Go.WideShapes Go.RowKit
theorem whole_open {H : Type} {enc : TypeId × Value → H} {P : Program} {W : World} {base : Nat} {spare : Nat → Bool} {held : Bool} {t e : TypeId} {f0 f1 : Field} {cs : Array Value} {d : DataW H} {ps : List MemPlace} {ts : List TypeId} {ds : List (DataW H)} {j : Nat}
    (hsz : (DataW.weightsEach P ts ds).all (· ≤ reachBytes) = true) (ht : ts[j]? = some t) (hd : ds[j]? = some d) (hu : P.underlying t = some (.struct #[f0, f1])) (hb : P.underlying f0.type = some .bool) (hs : P.underlying f1.type = some (.slice e))
    (he : P.underlying e = some (.int .u32)) (hc : P.cellsOf e = 1) (hB : P.bytesOf e = 4) (h0 : f0.offset = 0) (h1 : f1.offset = 1) (c0 : P.cellsOf f0.type = 1) (c1 : P.cellsOf f1.type = 1) (hct : P.cellsOf t = 2)
    (h : DataW.Trod enc P W base spare held t (.agg cs) d ps) : ∃ (n : Bool) (A : Option Addr) (c : Nat) (xs : List Int), cs = #[.bool n, .slice A xs.length c] ∧ In W A c xs := by
  obtain ⟨fuel, hf⟩ := h
  obtain ⟨y0, y1, n, hx, hl, t0, t1⟩ := trod_struct2 hu hf
  obtain ⟨hd', _⟩ := Prod.mk.inj hx
  rw [hct] at hl
  simp only [Value.cells] at hl t0 t1
  rw [h0, c0] at t0
  rw [h1, c1] at t1
  obtain ⟨l⟩ := cs
  match l, hl with
  | [u, v], _ =>
    simp at t0 t1
    obtain ⟨b, e0, _⟩ := DataW.trod_bool hb t0
    have hv : ∃ a len cap, v = .slice a len cap := by
      rcases open_ints hs he hc t1 with ⟨hcs, _⟩ | ⟨x, l, c, zs, hcs, _⟩
      · exact ⟨none, 0, 0, by simpa using hcs⟩
      · exact ⟨some x, l, c, by simpa using hcs⟩
    obtain ⟨a, len, cap, rfl⟩ := hv
    have hsz2 : (DataW.weightsEach P [f0.type, f1.type] [y0.1, y1.1]).all (· ≤ reachBytes) = true := by
      rw [List.all_eq_true] at hsz ⊢
      intro k hk
      refine hsz k (DataW.weights_mem_each ht hd k ?_)
      rw [hd']
      unfold DataW.weights
      rw [hu]
      exact hk
    obtain ⟨xs, e1, hi⟩ := words_open hsz2 (j := 1) (t := f1.type) (d := y1.1) rfl rfl hs he hc hB (a := a) (len := len) (cap := cap) (ps := y1.2) ⟨n, t1⟩
    refine ⟨b, a, cap, xs, ?_, hi⟩
    rw [e1]
    simp at e0
    rw [e0]
end Q

/- What the row's list of variables gives: the library's table that the numbers' texts read. -/
set_option linter.unusedVariables false
namespace Go.Proofs.YtidccoahjpjoaaaGreatDoor
open Go Go.RowKit Go.Proofs
theorem gTab8 : Tryz.prog.globalNamed "internal/strconv.uint64pow10" = some 1 := by kernel_rfl
theorem gTab8Type : (Tryz.prog.globals[1]?).map (·.type) = some 144 := by kernel_rfl
theorem cells99_8 : Tryz.prog.cellsOf 144 = 20 := by kernel_rfl
theorem cells82_8 : Tryz.prog.cellsOf 90 = 1 := by kernel_rfl
theorem lw_of {W : World} (h : laidMet Tryz.prog Rows.wholeTextsRow.laid W) (hsh : W.ShapedOpen Tryz.prog) : LW W := by
  have h2 : laidMet Tryz.prog (("internal/strconv.uint64pow10", Lib.tabData .u64 Lib.pow10Tab) :: Rows.wholeTextsRow.laid.drop 3) W := h.tail.tail
  exact ⟨Lib.tabIs_of_head gTab8 gTab8Type Tryz.underlying144 Tryz.underlying90 cells82_8 cells99_8 h2⟩
/-- a world that holds what is listed -/
theorem laid_metn (os : Os) (args : Array Value) : laidMet Tryz.prog Rows.wholeTextsRow.laid ((World.laidAll Tryz.prog os Rows.wholeTextsRow.laid).forCall (fun _ _ => 0) ⟨#[], args, []⟩).memory := laidMet_laidAll _ (by kernel_rfl) (by kernel_rfl)
theorem laid_shapedn (os : Os) (args : Array Value) : ((World.laidAll Tryz.prog os Rows.wholeTextsRow.laid).forCall (fun _ _ => 0) ⟨#[], args, []⟩).Shaped Tryz.prog := World.shaped_of_ZipB (by kernel_rfl) (by kernel_rfl)
end Go.Proofs.YtidccoahjpjoaaaGreatDoor

