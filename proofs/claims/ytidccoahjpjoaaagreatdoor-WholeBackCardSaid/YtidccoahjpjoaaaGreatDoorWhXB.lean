import Derived.Lib.Split
import Derived.Lib.AtoiAll
import Derived.Lib.ItoaNum
import Derived.Test.YtidccoahjpjoaaaGreatDoorNtNu
import Derived.Test.YtidccoahjpjoaaaGreatDoorPK1x
import Derived.Test.YtidccoahjpjoaaaGreatDoorNtP
import Derived.Lib.SmallJoins
import Derived.Test.YtidccoahjpjoaaaGreatDoorQWhlP
import Derived.Test.YtidccoahjpjoaaaGreatDoorNtA
import Derived.Test.YtidccoahjpjoaaaGreatDoorChecked
import Derived.WalkKit
import Derived.ProofKit
import Derived.OpenShut
import Derived.ShutString
import Derived.ChangeOld
import Derived.Below
import Derived.SizedLaws
import Derived.ChangeSame
import Derived.Test.YtidccoahjpjoaaaGreatDoorRowW
import Derived.Test.YtidccoahjpjoaaaGreatDoorRows
import Derived.Test.YtidccoahjpjoaaaGreatDoorGLaid1
import Derived.Lib.LaidTab
import Derived.Stop.LaidErr
import Derived.Shelf.Vars
import Derived.MakeChecks
import Derived.Lay
import Derived.LaidLaws
/- Numerals: what they are read as; texts cut at a sign. Plain laws over the library's own words. -/
set_option linter.unusedVariables false
set_option linter.unusedSimpArgs false
namespace Dig
open Go Go.Lib
/-- all bytes are digits -/
def Dg (l : List UInt8) : Prop := ∀ c ∈ l, 48 ≤ c.toNat ∧ c.toNat ≤ 57
theorem dg_one (u : Nat) (h : u < 10) : 48 ≤ (UInt8.ofNat (48 + u)).toNat ∧ (UInt8.ofNat (48 + u)).toNat ≤ 57 ∧ (UInt8.ofNat (48 + u)).toNat - 48 = u := by
  have : (UInt8.ofNat (48 + u)).toNat = 48 + u := by simp; omega
  omega
theorem dec_small {u : Nat} (h : u < 10) : decDigits u = [UInt8.ofNat (48 + u)] := decDigits_one h
theorem dec_step {u : Nat} (h : ¬ u < 10) : decDigits u = decDigits (u / 10) ++ [UInt8.ofNat (48 + u % 10)] := by
  rw [decDigits, dif_neg h]
theorem dec_dg (u : Nat) : Dg (decDigits u) := by
  induction u using Nat.strongRecOn with
  | ind u ih =>
    by_cases h : u < 10
    · rw [dec_small h]
      intro c hc
      simp only [List.mem_singleton] at hc
      subst hc
      have := dg_one u h
      omega
    · rw [dec_step h]
      intro c hc
      simp only [List.mem_append, List.mem_singleton] at hc
      rcases hc with hc | rfl
      · exact ih (u / 10) (by omega) c hc
      · have := dg_one (u % 10) (by omega)
        omega
theorem dec_ne (u : Nat) : decDigits u ≠ [] := by
  by_cases h : u < 10
  · rw [dec_small h]; simp
  · rw [dec_step h]; simp
theorem parse_append (l r : List UInt8) : ∀ acc v, parseUint10 acc l = .ok v → parseUint10 acc (l ++ r) = parseUint10 v r := by
  induction l with
  | nil => intro acc v h; simp only [parseUint10] at h; injection h with h; subst h; rfl
  | cons c l ih =>
    intro acc v h
    simp only [List.cons_append, parseUint10] at h ⊢
    split at h
    · rename_i h1
      rw [if_pos h1]
      split at h
      · cases h
      · rename_i h2
        rw [if_neg h2]
        split at h
        · cases h
        · rename_i h3
          rw [if_neg h3]
          exact ih _ _ h
    · cases h
theorem parse_dec (u : Nat) (hu : u < 9223372036854775808) : parseUint10 0 (decDigits u) = .ok u := by
  induction u using Nat.strongRecOn with
  | ind u ih =>
    by_cases h : u < 10
    · rw [dec_small h]
      have := dg_one u h
      simp only [parseUint10]
      rw [if_pos ⟨this.1, this.2.1⟩, if_neg (by omega), if_neg (by omega), this.2.2]
      simp
    · rw [dec_step h, parse_append _ _ _ _ (ih (u / 10) (by omega) (by omega))]
      have := dg_one (u % 10) (by omega)
      simp only [parseUint10]
      rw [if_pos ⟨this.1, this.2.1⟩, if_neg (by omega), if_neg (by omega), this.2.2]
      congr 1
      omega
theorem atoi_dec (u : Nat) (hu : u < 9223372036854775808) : atoiAll (decDigits u) = .ok (u : Int) := by
  have hp := parse_dec u hu
  have hd := dec_dg u
  cases hl : decDigits u with
  | nil => exact absurd hl (dec_ne u)
  | cons c r =>
    rw [hl] at hp hd
    have hc := hd c (by simp)
    unfold atoiAll
    simp only
    rw [if_neg (by omega)]
    unfold parseMag
    rw [if_neg (by simp), hp]
    simp only
    rw [if_neg (by omega), if_neg (by omega), if_neg (by omega)]
theorem dec_inj {u v : Nat} (hu : u < 9223372036854775808) (hv : v < 9223372036854775808) (h : decDigits u = decDigits v) : u = v := by
  have h1 := parse_dec u hu
  have h2 := parse_dec v hv
  rw [h, h2] at h1
  injection h1 with h1
  exact h1.symm
/-! ### a sign in a text -/
theorem index_sep (c : UInt8) (b : List UInt8) : ∀ a : List UInt8, c ∉ a → index (a ++ c :: b) [c] = a.length
  | [], _ => by simp [index]
  | x :: a, h => by
    have hx : c ≠ x := fun e => h (by simp [e])
    have ih := index_sep c b a (fun e => h (by simp [e]))
    simp only [List.cons_append, index]
    rw [if_neg (by simp [List.isPrefixOf, hx]), ih, if_neg (by first | (simp; omega) | simp)]
    simp
theorem index_no (c : UInt8) : ∀ a : List UInt8, c ∉ a → index a [c] = -1
  | [], _ => by simp [index]
  | x :: a, h => by
    have hx : c ≠ x := fun e => h (by simp [e])
    have ih := index_no c a (fun e => h (by simp [e]))
    simp only [index]
    rw [if_neg (by simp [List.isPrefixOf, hx]), ih]
    simp
theorem cut_sep (c : UInt8) (a b : List UInt8) (h : c ∉ a) : cut (a ++ c :: b) [c] = (a, b, true) := by
  unfold cut
  rw [index_sep c b a h, if_pos (by omega)]
  simp
theorem split3 (x : UInt8) (a b c : List UInt8) (ha : x ∉ a) (hb : x ∉ b) (hc : x ∉ c) : splitK [x] 0 3 (a ++ x :: (b ++ x :: c)) = [a, b, c] := by
  unfold splitK
  rw [index_sep x _ a ha, if_neg (by first | (simp; omega) | simp)]
  simp only [Int.toNat_natCast, Nat.add_zero, List.take_left, List.length_cons, List.length_nil]
  rw [show (a ++ x :: (b ++ x :: c)).drop (a.length + (0 + 1)) = b ++ x :: c by rw [show a ++ x :: (b ++ x :: c) = (a ++ [x]) ++ (b ++ x :: c) by simp, List.drop_left' (by simp)]]
  unfold splitK
  rw [index_sep x _ b hb, if_neg (by first | (simp; omega) | simp)]
  simp only [Int.toNat_natCast, Nat.add_zero, List.take_left, List.length_cons, List.length_nil]
  rw [show (b ++ x :: c).drop (b.length + (0 + 1)) = c by rw [show b ++ x :: c = (b ++ [x]) ++ c by simp, List.drop_left' (by simp)]]
  unfold splitK
  rw [index_no x c hc]
  simp
theorem dg_not {l : List UInt8} (h : Dg l) {c : UInt8} (hc : c.toNat < 48 ∨ 57 < c.toNat) : c ∉ l := fun hm => by have := h c hm; omega
theorem itoa_dec {n : Int} (h : 0 ≤ n) : itoa n = decDigits n.toNat := by unfold itoa; rw [if_neg (by omega)]
end Dig

/- Numerals there and back: what decDigits writes, num reads. -/
set_option linter.unusedVariables false
set_option linter.unusedSimpArgs false
namespace Go.Proofs.YtidccoahjpjoaaaGreatDoor.PA
open Go Go.Lib
theorem num_snoc (l : List UInt8) (c : UInt8) (a : Nat) : num a (l ++ [c]) = num a l * 10 + (c.toNat - 48) := by
  rw [num_append, num_cons, num_nil]
theorem all_of_dg {l : List UInt8} (h : Dig.Dg l) : l.all dig = true := List.all_eq_true.2 (fun x hx => decide_eq_true (h x hx))
theorem dec_all (u : Nat) : (decDigits u).all dig = true := all_of_dg (Dig.dec_dg u)
theorem num_dec (u : Nat) : num 0 (decDigits u) = u := by
  induction u using Nat.strongRecOn with
  | ind u ih =>
    by_cases h : u < 10
    · rw [Dig.dec_small h, num_cons, num_nil]
      have := (Dig.dg_one u h).2.2
      omega
    · rw [Dig.dec_step h, num_snoc, ih (u / 10) (by omega), (Dig.dg_one (u % 10) (by omega)).2.2]
      omega
theorem num_pos {b : UInt8} {r : List UInt8} (h : (b :: r).all dig = true) (hb : b.toNat ≠ 48) : 1 ≤ num 0 (b :: r) := by
  rw [List.all_cons, Bool.and_eq_true] at h
  have h1 := of_decide_eq_true h.1
  rw [num_cons, num_acc]
  have hp : 1 ≤ 10 ^ r.length := Nat.pow_pos (by omega)
  have : 1 * 1 ≤ (0 * 10 + (b.toNat - 48)) * 10 ^ r.length := Nat.mul_le_mul (by omega) hp
  omega
/-- a numeral without a nought ahead -/
def Hd (l : List UInt8) : Prop := ∃ b r, l = b :: r ∧ (b.toNat ≠ 48 ∨ r = [])
theorem dig_back {c : UInt8} (h : dig c = true) : UInt8.ofNat (48 + (c.toNat - 48)) = c := by
  have := of_decide_eq_true h
  rw [show 48 + (c.toNat - 48) = c.toNat by omega, UInt8.ofNat_toNat]
theorem dec_num : ∀ (n : Nat) (l : List UInt8), l.length = n → l.all dig = true → Hd l → decDigits (num 0 l) = l
  | 0, l, hn, _, ⟨b, r, e, _⟩ => by rw [e] at hn; simp at hn
  | n + 1, l, hn, ha, hh => by
    obtain ⟨l', c, rfl⟩ : ∃ l' c, l = l' ++ [c] := ⟨l.dropLast, l.getLast (fun e => by rw [e] at hn; simp at hn), (List.dropLast_concat_getLast _).symm⟩
    rw [List.all_append, Bool.and_eq_true] at ha
    have hc : dig c = true := by simpa using ha.2
    have hc' := of_decide_eq_true hc
    rw [num_snoc]
    cases hl : l' with
    | nil =>
      rw [num_nil, Nat.zero_mul, Nat.zero_add, Dig.dec_small (by omega), dig_back hc]
      rfl
    | cons b r =>
      rw [hl] at ha hh hn
      obtain ⟨b', r', e, hb⟩ := hh
      rw [List.cons_append] at e
      injection e with e1 e2
      subst e1
      have hb : b.toNat ≠ 48 := by
        rcases hb with hb | hb
        · exact hb
        · rw [hb] at e2; simp at e2
      have hp := num_pos ha.1 hb
      have ih := dec_num n (b :: r) (by simpa using hn) ha.1 ⟨b, r, rfl, .inl hb⟩
      rw [Dig.dec_step (by omega), show (num 0 (b :: r) * 10 + (c.toNat - 48)) / 10 = num 0 (b :: r) by omega, show (num 0 (b :: r) * 10 + (c.toNat - 48)) % 10 = c.toNat - 48 by omega, ih, dig_back hc]
theorem dec_hd (u : Nat) : Hd (decDigits u) := by
  induction u using Nat.strongRecOn with
  | ind u ih =>
    by_cases h : u < 10
    · rw [Dig.dec_small h]; exact ⟨_, _, rfl, .inr rfl⟩
    · rw [Dig.dec_step h]
      obtain ⟨b, r, e, hb⟩ := ih (u / 10) (by omega)
      rw [e]
      refine ⟨b, r ++ [_], rfl, .inl ?_⟩
      rcases hb with hb | hb
      · exact hb
      · intro h48
        have := num_dec (u / 10)
        rw [e, hb, num_cons, num_nil, h48] at this
        omega
theorem dec_hd1 {u : Nat} (hu : 0 < u) : ∃ b r, decDigits u = b :: r ∧ b.toNat ≠ 48 := by
  obtain ⟨b, r, e, hb⟩ := dec_hd u
  refine ⟨b, r, e, ?_⟩
  rcases hb with hb | hb
  · exact hb
  · intro h48
    have := num_dec u
    rw [e, hb, num_cons, num_nil, h48] at this
    omega
theorem num_zeros : ∀ (n : Nat), num 0 (List.replicate n 48) = 0
  | 0 => rfl
  | n + 1 => by rw [List.replicate_succ, num_cons]; exact num_zeros n
theorem dec_len : ∀ (n u : Nat), u < 10 ^ (n + 1) → (decDigits u).length ≤ n + 1
  | 0, u, h => by rw [Dig.dec_small (by simpa using h)]; exact Nat.le_refl _
  | n + 1, u, h => by
    by_cases h10 : u < 10
    · rw [Dig.dec_small h10]; simp
    · rw [Dig.dec_step h10, List.length_append]
      have := dec_len n (u / 10) (by rw [Nat.pow_succ] at h; omega)
      simp only [List.length_cons, List.length_nil]
      omega
/-- nine digits of the rest behind the quotient's -/
theorem dec_split (v : Nat) (hv : 1000000000 ≤ v) : decDigits v = decDigits (v / 1000000000) ++ (List.replicate (9 - (decDigits (v % 1000000000)).length) 48 ++ decDigits (v % 1000000000)) := by
  have hr : v % 1000000000 < 1000000000 := Nat.mod_lt _ (by omega)
  have hl := dec_len 8 (v % 1000000000) (by simpa using hr)
  obtain ⟨b, r, e, hb⟩ := dec_hd1 (u := v / 1000000000) (by omega)
  have hn : num 0 (decDigits (v / 1000000000) ++ (List.replicate (9 - (decDigits (v % 1000000000)).length) 48 ++ decDigits (v % 1000000000))) = v := by
    rw [num_append, num_dec, num_acc, num_append, num_zeros, num_dec, List.length_append, List.length_replicate, show 9 - (decDigits (v % 1000000000)).length + (decDigits (v % 1000000000)).length = 9 by omega]
    omega
  have hk := dec_num _ (decDigits (v / 1000000000) ++ (List.replicate (9 - (decDigits (v % 1000000000)).length) 48 ++ decDigits (v % 1000000000))) rfl (by
    rw [List.all_append, List.all_append, dec_all, dec_all, List.all_replicate]
    simp [dig]) ⟨b, _, by rw [e]; rfl, .inl hb⟩
  rw [hn] at hk
  exact hk
end Go.Proofs.YtidccoahjpjoaaaGreatDoor.PA

/- nat.cut and nat.small as plain laws. -/
set_option linter.unusedVariables false
set_option linter.unusedSimpArgs false
namespace Go.Proofs.YtidccoahjpjoaaaGreatDoor.NT
open Go.RowKit Go.Proofs.YtidccoahjpjoaaaGreatDoor.PK1 Go.Proofs.YtidccoahjpjoaaaGreatDoorW.PrintWords Q
theorem rd_wd (xs : List Int) (i : Nat) : rd xs (i : Int) = wd xs i := rfl
theorem cut_l0 (xs : List Int) (hl : xs.length ≤ 100000) : ∀ n k, n ≤ xs.length → n < k → ∃ m, m ≤ n ∧ nat_cut.l0 k xs (n : Int) = some (xs.take m) ∧ Tr (xs.take m) ∧ val (xs.take m) = val (xs.take n)
  | _, 0, _, h => by omega
  | 0, k + 1, h, _ => by
    refine ⟨0, Nat.le_refl _, ?_, Tr.nil, rfl⟩
    unfold nat_cut.l0
    rw [if_neg (by omega), if_pos (by omega), if_pos (by omega)]
    rfl
  | n + 1, k + 1, h, hk => by
    have hw : wrap64 (((n + 1 : Nat) : Int) - 1) = (n : Int) := by unfold wrap64; omega
    unfold nat_cut.l0
    rw [if_pos (by omega), hw, if_pos (by omega), if_pos (by omega), rd_wd]
    by_cases hz : wd xs n = 0
    · rw [if_pos hz]
      obtain ⟨m, h1, h2, h3, h4⟩ := cut_l0 xs hl n k (by omega) (by omega)
      refine ⟨m, by omega, h2, h3, ?_⟩
      rw [h4, val_take_succ (by omega), hz, Int.mul_zero, Int.add_zero]
    · rw [if_neg hz, if_pos (by omega), if_pos (by omega)]
      refine ⟨n + 1, Nat.le_refl _, rfl, (Tr_iff _).2 (.inr ?_), rfl⟩
      rw [List.length_take, Nat.min_eq_left h, Nat.add_sub_cancel, wd_take (by omega)]
      exact hz
theorem cut_nw (k : Nat) (xs : List Int) (hw : Wds xs) (hl : xs.length ≤ 100000) (hk : xs.length < k) : nat_cut.f k xs = some (nw (val xs)) := by
  obtain ⟨m, _, h2, h3, h4⟩ := cut_l0 xs hl xs.length k (Nat.le_refl _) hk
  unfold nat_cut.f
  rw [h2, ← nwd_nw, nwd_eq (hw.take m) h3 (h4.trans (by rw [List.take_length]))]
theorem or_hi (x y : Int) (h0 : 0 ≤ x) (h1 : x < 4294967296) (h2 : 0 ≤ y) (h3 : y < 4294967296) : Go.bits .or .u64 (y * 4294967296) x = y * 4294967296 + x := by
  rw [u64_or (y * 4294967296) x (by omega) (by omega) (by omega) (by omega), Nat.or_comm, ← u64_or x (y * 4294967296) (by omega) (by omega) (by omega) (by omega), or32 x y h0 h1 h2 h3]
  omega
theorem small_l0 : ∀ (i k : Nat) (zs : List Int) (r : Int), i ≤ zs.length → zs.length ≤ 100000 → Wds zs → 0 ≤ r → r < 1000000000 → i + zs.length + 1 < k →
    nat_small.l0 k zs 1000000000 r ((i : Int) - 1) = some (nw ((val (zs.take i) + Bp i * r) / 1000000000 + Bp i * val (zs.drop i)), (val (zs.take i) + Bp i * r) % 1000000000)
  | _, 0, _, _, _, _, _, _, _, h => by omega
  | 0, k + 1, zs, r, hi, hl, hw, r0, r1, hk => by
    unfold nat_small.l0
    rw [if_neg (by omega), cut_nw k zs hw hl (by omega), Option.bind_some, List.take_zero, List.drop_zero, Bp_zero]
    have e : (val [] + 1 * r) = r := by show (0 : Int) + 1 * r = r; omega
    rw [e, Int.one_mul, show r / 1000000000 = 0 by omega, Int.zero_add, show r % 1000000000 = r by omega, show r % 4294967296 = r by omega]
  | i + 1, k + 1, zs, r, hi, hl, hw, r0, r1, hk => by
    have hx := hw.wd i
    have hd : IntKind.u64.wrap 1000000000 = 1000000000 := by decide
    have hm : wrap64 (((i + 1 : Nat) : Int) - 1 - 1) = (i : Int) - 1 := by unfold wrap64; omega
    have e1 : (((i + 1 : Nat) : Int) - 1) = (i : Int) := by omega
    have w1 : IntKind.u64.wrap (r * 4294967296) = r * 4294967296 := by rw [IntKind.wrap_u64]; omega
    have w2 : IntKind.u64.wrap (wd zs i) = wd zs i := by rw [IntKind.wrap_u64]; omega
    unfold nat_small.l0
    rw [hm, e1, hd, rd_wd, w1, w2, or_hi _ _ hx.1 hx.2 r0 (by omega), if_pos (by omega), if_pos (by omega), if_pos (by omega), if_neg (by omega)]
    obtain ⟨t, ht⟩ : ∃ t, t = r * 4294967296 + wd zs i := ⟨_, rfl⟩
    rw [← ht]
    have t0 : 0 ≤ t := by omega
    rw [Int.tdiv_eq_ediv_of_nonneg t0, Int.tmod_eq_emod_of_nonneg t0]
    have q1 : t / 1000000000 < 4294967296 := by omega
    have q0 : 0 ≤ t / 1000000000 := by omega
    have w3 : IntKind.u64.wrap (t / 1000000000) = t / 1000000000 := by rw [IntKind.wrap_u64]; omega
    rw [w3, show t / 1000000000 % 4294967296 = t / 1000000000 by omega, Int.toNat_natCast]
    rw [small_l0 i k (zs.set i (t / 1000000000)) (t % 1000000000) (by rw [List.length_set]; omega) (by rw [List.length_set]; exact hl) (hw.set i q0 q1) (by omega) (by omega) (by rw [List.length_set]; omega)]
    have hlt : i < zs.length := by omega
    have a1 : (zs.set i (t / 1000000000)).take i = zs.take i := List.take_set_of_le (Nat.le_refl _)
    have a2 : val ((zs.set i (t / 1000000000)).drop i) = t / 1000000000 + 4294967296 * val (zs.drop (i + 1)) := by
      rw [List.drop_eq_getElem_cons (by rw [List.length_set]; exact hlt), List.getElem_set_self, List.drop_set_of_lt (by omega)]
      rfl
    rw [a1, a2, val_take_succ hlt, Bp_succ]
    have key : val (zs.take i) + Bp i * wd zs i + 4294967296 * Bp i * r = val (zs.take i) + Bp i * (t % 1000000000) + 1000000000 * (Bp i * (t / 1000000000)) := by
      have e := Int.mul_ediv_add_emod t 1000000000
      have e2 : Bp i * (1000000000 * (t / 1000000000) + t % 1000000000) = Bp i * (r * 4294967296 + wd zs i) := by rw [e, ht]
      rw [Int.mul_add, Int.mul_add, Int.mul_left_comm, ← Int.mul_assoc (Bp i) r, Int.mul_comm (Bp i * r)] at e2
      rw [Int.mul_assoc]
      omega
    rw [key, Int.add_mul_ediv_left _ _ (by omega), Int.add_mul_emod_self_left, Int.mul_add, ← Int.mul_assoc (Bp i), Int.mul_comm (Bp i) 4294967296, Int.add_assoc]
theorem small_nw (k : Nat) {v : Int} (h0 : 0 ≤ v) (hl : (nw v).length ≤ 50000) (hk : 2 * (nw v).length + 1 < k) : nat_small.f k (nw v) 1000000000 = some (nw (v / 1000000000), v % 1000000000) := by
  unfold nat_small.f
  have hw : wrap64 (((nw v).length : Int) - 1) = ((nw v).length : Int) - 1 := by unfold wrap64; omega
  rw [hw, small_l0 (nw v).length k (nw v) 0 (Nat.le_refl _) (by omega) (nw_wds v) (by omega) (by omega) (by omega), List.take_length, List.drop_length, val_nw h0, Int.mul_zero, Int.add_zero]
  have e : val [] = 0 := rfl
  rw [e, Int.mul_zero, Int.add_zero]
end Go.Proofs.YtidccoahjpjoaaaGreatDoor.NT

/- nat.Print as a plain law: the decimal digits. -/
set_option linter.unusedVariables false
set_option linter.unusedSimpArgs false
namespace Go.Proofs.YtidccoahjpjoaaaGreatDoor.NT
open Go.RowKit Go.Proofs.YtidccoahjpjoaaaGreatDoor.PK1 Go.Proofs.YtidccoahjpjoaaaGreatDoorW.PrintWords Q
theorem set_at {α : Type} (A R : List α) (x y : α) : (A ++ x :: R).set A.length y = A ++ y :: R := by
  rw [List.set_append_right _ _ (Nat.le_refl _), Nat.sub_self]; rfl
theorem get_at (A R : List ByteArray) (x : ByteArray) (i : Nat) (hi : i = A.length) : rdOf ByteArray.empty (A ++ x :: R) (i : Int) = x := by
  subst hi
  unfold rdOf
  rw [Int.toNat_natCast, List.getD_eq_getElem?_getD, List.getElem?_append_right (Nat.le_refl _), Nat.sub_self]
  rfl
theorem wadd {x : Int} (h0 : 0 ≤ x) (h1 : x < 200000) : wrap64 (x + 1) = x + 1 := by unfold wrap64; omega
theorem wsub {x : Int} (h0 : 0 ≤ x) (h1 : x < 200000) : wrap64 (x - 1) = x - 1 := by unfold wrap64; omega
theorem rev_step (A M B : List ByteArray) (a b : ByteArray) (k : Nat) (hl : A.length + (M.length + 2) + B.length ≤ 100000)
    (ih : slices_Reverse_string_string.l0 k ((A ++ [b]) ++ M ++ (a :: B)) ((A ++ [b]).length : Int) ((((A ++ [b]).length + M.length : Nat) : Int) - 1) = some ((A ++ [b]) ++ M.reverse ++ (a :: B))) :
    slices_Reverse_string_string.l0 (k + 1) (A ++ a :: (M ++ b :: B)) (A.length : Int) (((A ++ a :: M).length : Nat) : Int) = some ((A ++ [b]) ++ M.reverse ++ (a :: B)) := by
  have hL2 : A ++ b :: (M ++ b :: B) = (A ++ b :: M) ++ b :: B := by simp
  have hL3 : A ++ a :: (M ++ b :: B) = (A ++ a :: M) ++ b :: B := by simp
  have hj2 : (A ++ b :: M).length = (A ++ a :: M).length := by simp
  have hla : (A ++ a :: M).length = A.length + M.length + 1 := by rw [List.length_append, List.length_cons]; omega
  have hlb : (A ++ a :: (M ++ b :: B)).length = A.length + M.length + 2 + B.length := by rw [List.length_append, List.length_cons, List.length_append, List.length_cons]; omega
  have hAb : (A ++ [b]).length = A.length + 1 := by simp
  have hx : rdOf ByteArray.empty (A ++ a :: (M ++ b :: B)) ((A ++ a :: M).length : Int) = b := by rw [hL3]; exact get_at _ _ _ _ rfl
  have hy : rdOf ByteArray.empty (A ++ a :: (M ++ b :: B)) (A.length : Int) = a := get_at _ _ _ _ rfl
  have hs : ((A ++ a :: (M ++ b :: B)).set A.length b).set (A ++ a :: M).length a = (A ++ [b]) ++ M ++ (a :: B) := by
    rw [set_at, hL2, ← hj2, set_at]
    simp
  unfold slices_Reverse_string_string.l0
  rw [if_pos (by rw [hla]; omega), if_pos (by omega), if_pos (by rw [hla, hlb]; omega), if_pos (by omega), if_pos (by rw [hlb]; omega), hx, hy, Int.toNat_natCast, Int.toNat_natCast, hs]
  rw [wadd (by omega) (by omega), wsub (by omega) (by rw [hla]; omega)]
  rw [hAb] at ih
  rw [hla]
  rw [show ((A.length : Int) + 1) = ((A.length + 1 : Nat) : Int) by omega, show (((A.length + M.length + 1 : Nat) : Int) - 1) = (((A.length + 1 + M.length : Nat) : Int) - 1) by omega]
  exact ih
theorem rev_l0 (k : Nat) : ∀ (A M B : List ByteArray), A.length + M.length + B.length ≤ 100000 → M.length < k →
    slices_Reverse_string_string.l0 k (A ++ M ++ B) (A.length : Int) (((A.length + M.length : Nat) : Int) - 1) = some (A ++ M.reverse ++ B) := by
  induction k with
  | zero => intro A M B _ h; omega
  | succ k ih =>
    intro A M B hl hk
    cases M with
    | nil =>
      unfold slices_Reverse_string_string.l0
      rw [if_neg (by rw [List.length_nil]; omega)]
      rfl
    | cons a M2 =>
      by_cases hm : M2 = []
      · subst hm
        unfold slices_Reverse_string_string.l0
        rw [if_neg (by rw [List.length_cons, List.length_nil]; omega)]
        rfl
      · obtain ⟨M, b, e⟩ : ∃ M b, M2 = M ++ [b] := ⟨M2.dropLast, M2.getLast hm, (List.dropLast_concat_getLast hm).symm⟩
        subst e
        have e1 : (a :: (M ++ [b])).length = M.length + 2 := by simp
        rw [e1] at hl hk ⊢
        have h := rev_step A M B a b k hl (ih (A ++ [b]) M (a :: B) (by simp only [List.length_append, List.length_cons, List.length_nil]; omega) (by omega))
        have e2 : A ++ a :: (M ++ [b]) ++ B = A ++ a :: (M ++ b :: B) := by simp
        have e3 : ((A.length + (M.length + 2) : Nat) : Int) - 1 = (((A ++ a :: M).length : Nat) : Int) := by rw [List.length_append, List.length_cons]; omega
        rw [e2, e3, h]
        simp
theorem rev_f (k : Nat) (l : List ByteArray) (hl : l.length ≤ 100000) (hk : l.length < k) : slices_Reverse_string_string.f k l = some l.reverse := by
  unfold slices_Reverse_string_string.f
  have h := rev_l0 k [] l [] (by rw [List.length_nil]; omega) hk
  rw [wsub (by omega) (by omega)]
  simpa using h
open Go.Lib in
theorem inter_nil : ∀ xs : List (List UInt8), Lib.join xs [] = xs.flatten
  | [] => rfl
  | [x] => by simp [Lib.join, List.intercalate]
  | x :: y :: r => by
    have ih := inter_nil (y :: r)
    unfold Lib.join List.intercalate at ih ⊢
    rw [List.intersperse_cons_cons, List.flatten_cons, List.flatten_cons, ih]
    simp
def flat (xs : List ByteArray) : List UInt8 := (xs.map (·.data.toList)).flatten
theorem flat_len : ∀ (xs : List ByteArray), (∀ p ∈ xs, p.size ≤ 9) → (flat xs).length ≤ 9 * xs.length
  | [], _ => Nat.le_refl _
  | x :: r, h => by
    have ih := flat_len r (fun p hp => h p (List.mem_cons_of_mem _ hp))
    have hx := h x List.mem_cons_self
    rw [Lib.size_eq] at hx
    unfold flat at ih ⊢
    rw [List.map_cons, List.flatten_cons, List.length_append, List.length_cons]
    omega
theorem join_f (xs : List ByteArray) (h : xs.length ≤ 10000) (hs : ∀ p ∈ xs, p.size ≤ 9) : strings_Join.f xs (⟨#[]⟩ : ByteArray) = some ⟨(flat xs).toArray⟩ := by
  have e : Lib.join (xs.map (·.data.toList)) (⟨#[]⟩ : ByteArray).data.toList = flat xs := inter_nil _
  have hl := flat_len xs hs
  unfold strings_Join.f
  rw [e, if_pos ⟨by omega, by omega⟩]
theorem print_zero (k : Nat) (acc : List ByteArray) (h : acc.length ≤ 10000) (hs : ∀ p ∈ acc, p.size ≤ 9) (hk : acc.length < k) : nat_Print.l0 (k + 1) acc (nw 0) = some (⟨(flat acc.reverse).toArray⟩, 0) := by
  unfold nat_Print.l0
  rw [nw_zero, if_neg (by rw [List.length_nil]; omega), rev_f k acc (by omega) hk, Option.bind_some, join_f _ (by rw [List.length_reverse]; exact h) (fun p hp => hs p (List.mem_reverse.1 hp)), Option.bind_some]
theorem fmt_f (r : Int) (r0 : 0 ≤ r) (r1 : r < 1000000000) : strconv_FormatUint.f (IntKind.u64.wrap r) 10 = some ⟨(Lib.decDigits r.toNat).toArray⟩ := by
  have w : IntKind.u64.wrap r = r := by rw [IntKind.wrap_u64]; omega
  unfold strconv_FormatUint.f
  rw [w, if_pos ⟨r0, by omega, rfl⟩]
theorem arr_size (l : List UInt8) : (⟨l.toArray⟩ : ByteArray).size = l.length := by rw [Lib.size_eq]
theorem rep_list : ∀ n, Lib.repeatL [48] n = List.replicate n 48
  | 0 => rfl
  | n + 1 => by rw [List.replicate_succ, ← rep_list n]; rfl
theorem dec_len9 {r : Int} (r0 : 0 ≤ r) (r1 : r < 1000000000) : (Lib.decDigits r.toNat).length ≤ 9 := PA.dec_len 8 r.toNat (by show r.toNat < 10 ^ 9; have e : (10 : Nat) ^ 9 = 1000000000 := rfl; omega)
theorem rep_f (n : Nat) (h : n ≤ 9) : strings_Repeat.f (⟨#[48]⟩ : ByteArray) (wrap64 (9 - (n : Int))) = some ⟨(List.replicate (9 - n) 48).toArray⟩ := by
  have w : wrap64 (9 - (n : Int)) = ((9 - n : Nat) : Int) := by unfold wrap64; omega
  unfold strings_Repeat.f
  rw [w, if_pos ⟨by omega, by omega, by decide⟩, Int.toNat_natCast]
  have e : (⟨#[48]⟩ : ByteArray).data.toList = [48] := rfl
  rw [e, rep_list]
theorem flat_snoc (acc : List ByteArray) (p : ByteArray) : flat (acc ++ [p]).reverse = p.data.toList ++ flat acc.reverse := by
  rw [List.reverse_append]
  rfl
theorem print_l0 : ∀ (m k : Nat) (acc : List ByteArray) (v : Int), 0 < v → v < 1000000000 ^ m → v < Bp 310 → acc.length + m ≤ 1000 → (∀ p ∈ acc, p.size ≤ 9) → 1100 + m < k →
    nat_Print.l0 k acc (nw v) = some (⟨(Lib.decDigits v.toNat ++ flat acc.reverse).toArray⟩, 0)
  | 0, k, acc, v, v0, vm, _, _, _, _ => by rw [Int.pow_zero] at vm; omega
  | m + 1, 0, _, _, _, _, _, _, _, h => by omega
  | m + 1, k + 1, acc, v, v0, vm, vb, ha, hs, hk => by
    have hlen := nw_len vb (by omega)
    have hne : (nw v).length ≠ 0 := fun e => by have := (nw_len0 (by omega)).1 e; omega
    have r0 : 0 ≤ v % 1000000000 := by omega
    have r1 : v % 1000000000 < 1000000000 := by omega
    have hd := dec_len9 r0 r1
    unfold nat_Print.l0
    rw [if_pos (by omega), small_nw k (by omega) (by omega) (by omega), Option.bind_some, fmt_f _ r0 r1, Option.bind_some]
    by_cases hq : v / 1000000000 = 0
    · have hv : v % 1000000000 = v := by omega
      rw [hv] at hd
      simp only [hq, hv]
      rw [if_neg (by rw [nw_zero, List.length_nil]; omega), if_pos (by omega)]
      obtain ⟨k, rfl⟩ : ∃ i, k = i + 1 := ⟨k - 1, by omega⟩
      have hz := print_zero k (acc ++ [(⟨(Lib.decDigits v.toNat).toArray⟩ : ByteArray)]) (by rw [List.length_append]; simp; omega) (fun p hp => by
        rcases List.mem_append.1 hp with hp | hp
        · exact hs p hp
        · rw [List.mem_singleton.1 hp, arr_size]; exact hd) (by rw [List.length_append]; simp; omega)
      rw [flat_snoc] at hz
      exact hz
    · have q0 : 0 < v / 1000000000 := by omega
      have hqn : (nw (v / 1000000000)).length ≠ 0 := fun e => by have := (nw_len0 (by omega)).1 e; omega
      have hqm : v / 1000000000 < 1000000000 ^ m := by
        rw [Int.pow_succ] at vm
        exact Int.ediv_lt_of_lt_mul (by omega) vm
      have hp9 : (⟨(List.replicate (9 - (Lib.decDigits (v % 1000000000).toNat).length) 48).toArray⟩ ++ ⟨(Lib.decDigits (v % 1000000000).toNat).toArray⟩ : ByteArray).data.toList = List.replicate (9 - (Lib.decDigits (v % 1000000000).toNat).length) 48 ++ Lib.decDigits (v % 1000000000).toNat := by
        rw [Go.Joins.data_append]
      have hsz : (List.replicate (9 - (Lib.decDigits (v % 1000000000).toNat).length) (48 : UInt8)).length + (Lib.decDigits (v % 1000000000).toNat).length ≤ 9223372036854775807 := by
        rw [List.length_replicate]
        omega
      simp only []
      rw [if_pos (by omega), arr_size, rep_f _ hd, Option.bind_some, arr_size, if_pos hsz, if_pos (by omega)]
      rw [print_l0 m k _ (v / 1000000000) q0 hqm (by omega) (by rw [List.length_append]; simp; omega) (fun p hp => by
        rcases List.mem_append.1 hp with hp | hp
        · exact hs p hp
        · rw [List.mem_singleton.1 hp, Lib.size_eq, hp9, List.length_append, List.length_replicate]; omega) (by omega), flat_snoc, hp9]
      have e := PA.dec_split v.toNat (by omega)
      have e1 : v.toNat / 1000000000 = (v / 1000000000).toNat := by omega
      have e2 : v.toNat % 1000000000 = (v % 1000000000).toNat := by omega
      rw [e1, e2] at e
      rw [e]
      simp only [List.append_assoc]
theorem pow_nine {v : Int} {n m : Nat} (h : v < Bp n) (hm : 10 * n ≤ 9 * m) : v < 1000000000 ^ m := by
  refine Int.lt_of_lt_of_le h ?_
  have h1 : (4294967296 : Nat) ^ n ≤ 1000000000 ^ m := by
    refine Nat.le_trans (Nat.pow_le_pow_left (show 4294967296 ≤ 10 ^ 10 by decide) n) ?_
    rw [← Nat.pow_mul]
    refine Nat.le_trans (Nat.pow_le_pow_right (n := 10) (by omega) hm) ?_
    rw [Nat.pow_mul]
    exact Nat.le_refl _
  have h2 : ((4294967296 ^ n : Nat) : Int) ≤ ((1000000000 ^ m : Nat) : Int) := Int.ofNat_le.2 h1
  rw [Int.natCast_pow, Int.natCast_pow] at h2
  exact h2
theorem print_g (k : Nat) {v : Int} (v0 : 0 ≤ v) (vb : v < Bp 310) (hk : 1600 < k) : nat_Print.f k (nw v) = some (⟨(Lib.decDigits v.toNat).toArray⟩, 0) := by
  have b400 : v < Bp 400 := Int.lt_of_lt_of_le vb (Bp_mono (by omega))
  have hok := okw_400 v0 b400
  unfold nat_Print.f nat_Check.f slices_Clone_uint32_uint32.f
  rw [if_pos hok, Option.bind_some, chk_nw v0 (Int.lt_of_lt_of_le vb (Bp_mono (by omega))), if_pos rfl, if_pos hok]
  by_cases h : v = 0
  · subst h
    rw [if_pos (by rw [nw_zero]; rfl), show Int.toNat 0 = 0 from rfl, Dig.dec_small (by omega)]
    rfl
  · rw [if_neg (fun e => h ((nw_len0 v0).1 (by omega))), Option.bind_some, print_l0 345 k [] v (by omega) (pow_nine vb (by omega)) vb (by simp) (fun p hp => by cases hp) (by omega)]
    have e : flat [].reverse = [] := rfl
    rw [e, List.append_nil]
theorem print_f (k : Nat) {v : Int} (v0 : 0 ≤ v) (vb : v < Bp 63) (hk : 1600 < k) : nat_Print.f k (nw v) = some (⟨(Lib.decDigits v.toNat).toArray⟩, 0) :=
  print_g k v0 (Int.lt_of_lt_of_le vb (Bp_mono (by omega))) hk
end Go.Proofs.YtidccoahjpjoaaaGreatDoor.NT

/- Texts of natural numbers, the program's, as plain laws. -/
set_option linter.unusedVariables false
set_option linter.unusedSimpArgs false
namespace Go.Proofs.YtidccoahjpjoaaaGreatDoor.NT
open Go.RowKit Go.Proofs.YtidccoahjpjoaaaGreatDoor.PK1 Go.Proofs.YtidccoahjpjoaaaGreatDoorW.PrintWords Q
/-- what is answered: a list's text -/
def prS (xs : List Int) : ByteArray × Int := if chk xs = 0 then (⟨(Lib.decDigits (val xs).toNat).toArray⟩, 0) else (⟨#[]⟩, chk xs)
theorem chk_300 {xs : List Int} (h : chk xs = 0) (hs : xs.length ≤ 300 ∨ 8192 < xs.length) : xs.length ≤ 300 ∧ Tr xs := by
  have := chk_zero.1 h
  exact ⟨by omega, this.2⟩
theorem print_S (k : Nat) (xs : List Int) (hx : Wds xs) (hk : 1600 < k) (hs : xs.length ≤ 300 ∨ 8192 < xs.length) (ho : okw xs = true) : nat_Print.f k xs = some (prS xs) := by
  unfold prS
  by_cases h0 : chk xs = 0
  · obtain ⟨hl, hT⟩ := chk_300 h0 hs
    rw [if_pos h0]
    have h := print_g k (val_nonneg hx) (Int.lt_of_lt_of_le (val_lt hx) (Bp_mono (show xs.length ≤ 310 by omega))) hk
    rw [nw_val hx hT] at h
    exact h
  · rw [if_neg h0]
    unfold nat_Print.f nat_Check.f
    rw [if_pos ho, Option.bind_some, if_neg h0]
theorem ten_Bp {x : Nat} {n m : Nat} (h : x < 10 ^ n) (hm : n ≤ 9 * m) : (x : Int) < Bp m := by
  have h1 : (10 : Nat) ^ n ≤ 4294967296 ^ m := by
    refine Nat.le_trans (Nat.pow_le_pow_right (by omega) hm) ?_
    rw [Nat.pow_mul]
    exact Nat.pow_le_pow_left (by decide) m
  have h2 : ((x : Nat) : Int) < ((4294967296 ^ m : Nat) : Int) := Int.ofNat_lt.2 (Nat.lt_of_lt_of_le h h1)
  rw [Int.natCast_pow] at h2
  exact h2
theorem okT_all {l : List UInt8} (h : okT l = true) : l.all PA.dig = true := by
  unfold okT at h
  rw [Bool.and_eq_true] at h
  exact h.1
theorem num_len (s : ByteArray) (h : okT s.data.toList = true) (hs : s.size ≤ 65536) : (nw (PA.num 0 s.data.toList : Int)).length ≤ 8192 := by
  have h1 := PA.num_lt _ (okT_all h)
  rw [← Lib.size_eq] at h1
  exact nw_len (ten_Bp h1 (by omega)) (by omega)
theorem bt_eq' (s : ByteArray) (i : Nat) (h : i < s.data.toList.length) : bt s (i : Int) = ((s.data.toList[i]).toNat : Int) := by
  have hs : ((i : Int)).toNat < s.size := by rw [Int.toNat_natCast, Lib.size_eq]; exact h
  rw [← bt_at s i hs]
  simp only [Int.toNat_natCast, Array.getElem_toList]
  rfl
end Go.Proofs.YtidccoahjpjoaaaGreatDoor.NT

/- SameWords as a plain law. -/
set_option linter.unusedVariables false
set_option linter.unusedSimpArgs false
namespace Go.Proofs.YtidccoahjpjoaaaGreatDoor.NT
open Go.RowKit Go.Proofs.YtidccoahjpjoaaaGreatDoor.PK1 Go.Proofs.YtidccoahjpjoaaaGreatDoorW.PrintWords Q
theorem wrap64_in {x : Int} (h0 : -9223372036854775808 ≤ x) (h1 : x ≤ 9223372036854775807) : wrap64 x = x := by unfold wrap64; omega
theorem rd_at (xs : List Int) {i : Nat} (h : i < xs.length) : rd xs (i : Int) = xs[i] := by
  unfold rd; simp [List.getD_eq_getElem?_getD, List.getElem?_eq_getElem h]
theorem same_l (xs ys : List Int) (hl : xs.length = ys.length) (hm : xs.length ≤ 1000000) (d : Nat) : ∀ (k i : Nat), i + d = xs.length → d < k → slackwaterkit_SameWords.l0 k xs ys i = some (decide (xs.drop i = ys.drop i)) := by
  induction d with
  | zero =>
    intro k i hi hk
    obtain ⟨k, rfl⟩ : ∃ m, k = m + 1 := ⟨k - 1, by omega⟩
    simp only [slackwaterkit_SameWords.l0]
    rw [if_neg (by omega), List.drop_of_length_le (by omega), List.drop_of_length_le (by omega)]
    simp
  | succ d ih =>
    intro k i hi hk
    obtain ⟨k, rfl⟩ : ∃ m, k = m + 1 := ⟨k - 1, by omega⟩
    simp only [slackwaterkit_SameWords.l0]
    have hx : i < xs.length := by omega
    have hy : i < ys.length := by omega
    rw [if_pos (by omega), if_pos (by omega), if_pos (by omega), rd_at xs hx, rd_at ys hy, wrap64_in (by omega) (by omega)]
    by_cases he : xs[i] = ys[i]
    · have e : ((i : Int) + 1) = ((i + 1 : Nat) : Int) := by omega
      rw [if_pos he, e, ih k (i + 1) (by omega) (by omega)]
      congr 1
      rw [decide_eq_decide, List.drop_eq_getElem_cons hx, List.drop_eq_getElem_cons hy, he]
      exact ⟨fun h => by rw [h], fun h => by injection h⟩
    · rw [if_neg he]
      congr 1
      symm
      rw [decide_eq_false_iff_not, List.drop_eq_getElem_cons hx, List.drop_eq_getElem_cons hy]
      intro h
      injection h with h1 _
      exact he h1
theorem same_f (k : Nat) (xs ys : List Int) (hk : xs.length < k) (hm : xs.length ≤ 1000000) : slackwaterkit_SameWords.f k xs ys = some (decide (xs = ys)) := by
  unfold slackwaterkit_SameWords.f
  by_cases hl : xs.length = ys.length
  · rw [if_pos (by omega)]
    have := same_l xs ys hl hm xs.length k 0 (by omega) hk
    simpa using this
  · rw [if_neg (by omega)]
    congr 1
    symm
    rw [decide_eq_false_iff_not]
    intro h
    exact hl (by rw [h])
end Go.Proofs.YtidccoahjpjoaaaGreatDoor.NT

/- Texts of whole numbers, the program's, as plain laws. -/
set_option linter.unusedVariables false
set_option linter.unusedSimpArgs false
namespace Go.Proofs.YtidccoahjpjoaaaGreatDoor.NT
open Go.RowKit Go.Proofs.YtidccoahjpjoaaaGreatDoor.PK1 Go.Proofs.YtidccoahjpjoaaaGreatDoorW.PrintWords Q
theorem last_tr {xs : List Int} (h : 0 < xs.length) : Tr xs ↔ wd xs (xs.length - 1) ≠ 0 := by
  rw [Tr_iff]
  constructor
  · rintro (h1 | h1)
    · subst h1; simp at h
    · exact h1
  · exact fun h1 => .inr h1
theorem chkW_pos {n : Bool} {xs : List Int} (h : 0 < xs.length) (hl : xs.length ≤ 2048) : chkW n xs = if wd xs (xs.length - 1) = 0 then 11 else 0 := by
  have hne : xs ≠ [] := fun e => by subst e; simp at h
  have ht := last_tr h
  unfold Tr at ht
  unfold chkW
  rw [if_neg (by omega)]
  by_cases h0 : wd xs (xs.length - 1) = 0
  · rw [if_pos h0, if_neg]
    rintro ⟨h1, _⟩
    exact ht.1 h1 h0
  · rw [if_neg h0, if_pos ⟨ht.2 h0, fun e => absurd e hne⟩]
theorem chkW_nil (n : Bool) : chkW n [] = if n = true then 11 else 0 := by
  cases n <;> rfl
theorem wlast {xs : List Int} (h : 0 < xs.length) (hl : xs.length ≤ 1000000) : wrap64 ((xs.length : Int) - 1) = ((xs.length - 1 : Nat) : Int) := by unfold wrap64; omega
theorem wcheck (k : Nat) (hk : 0 < k) (n : Bool) (xs : List Int) : whole_Check.f k n xs = some (chkW n xs) := by
  obtain ⟨k, rfl⟩ : ∃ q, k = q + 1 := ⟨k - 1, by omega⟩
  by_cases h1 : 2048 < xs.length
  · unfold whole_Check.f chkW
    rw [if_pos (by omega), if_pos h1]
  · by_cases h2 : 0 < xs.length
    · unfold whole_Check.f
      rw [if_neg (by omega), if_pos (by omega), wlast h2 (by omega), if_pos (by omega), if_pos (by omega), rd_wd, chkW_pos h2 (by omega)]
      unfold whole_Check.j0; try dsimp only
      by_cases h0 : wd xs (xs.length - 1) = 0
      · rw [if_pos (by rw [h0]; rfl), if_pos h0]
      · rw [if_neg (by simp [h0]), if_neg h0, if_neg (by omega)]
    · have hx : xs = [] := List.eq_nil_of_length_eq_zero (by omega)
      subst hx
      rw [chkW_nil]
      cases n <;> rfl
/-- what is answered: a number's text -/
def txt (n : Bool) (v : Nat) : List UInt8 := (if n = true then [45] else []) ++ Lib.decDigits v
def prW (n : Bool) (xs : List Int) : ByteArray × Int := if chkW n xs = 0 then (⟨(txt n (val xs).toNat).toArray⟩, 0) else (⟨#[]⟩, chkW n xs)
theorem minus_app (l : List UInt8) : (⟨#[45]⟩ : ByteArray) ++ (⟨l.toArray⟩ : ByteArray) = ⟨([45] ++ l).toArray⟩ := by
  apply ByteArray.ext
  rw [ByteArray.data_append]
  simp
theorem prS_zero {n : Bool} {xs : List Int} (h : chkW n xs = 0) : prS xs = (⟨(Lib.decDigits (val xs).toNat).toArray⟩, 0) := by
  unfold prS; rw [if_pos (chkW_chk h)]
theorem dec_len_pow (m u : Nat) (h : u < 1000000000 ^ (m + 1)) : (Lib.decDigits u).length ≤ 9 * m + 9 := by
  refine PA.dec_len (9 * m + 8) u (Nat.lt_of_lt_of_le h ?_)
  rw [show 9 * m + 8 + 1 = 9 * (m + 1) by omega, Nat.pow_mul]
  exact Nat.le_refl _
theorem dec_len_int (m : Nat) {v : Int} (h0 : 0 ≤ v) (h : v < 1000000000 ^ (m + 1)) : (Lib.decDigits v.toNat).length ≤ 9 * m + 9 := by
  have h2 : ((v.toNat : Nat) : Int) < ((1000000000 ^ (m + 1) : Nat) : Int) := by rw [Int.natCast_pow, Int.toNat_of_nonneg h0]; exact h
  exact dec_len_pow m _ (Int.ofNat_lt.1 h2)
theorem dec_short {xs : List Int} (hx : Wds xs) (hl : xs.length ≤ 300) : (Lib.decDigits (val xs).toNat).length ≤ 3006 :=
  dec_len_int 333 (val_nonneg hx) (pow_nine (n := 300) (m := 333 + 1) (v := val xs) (Int.lt_of_lt_of_le (val_lt hx) (Bp_mono hl)) (by omega))
theorem wprint_S (k : Nat) (n : Bool) (xs : List Int) (hx : Wds xs) (hk : 1600 < k) (hs : xs.length ≤ 300 ∨ 2048 < xs.length) : whole_Print.f k n xs = some (prW n xs) := by
  unfold whole_Print.f prW
  rw [wcheck k (by omega) n xs, Option.bind_some]
  by_cases h0 : chkW n xs = 0
  · have h3 : xs.length ≤ 300 := by have := (chkW_zero.1 h0).1; omega
    have hd := dec_short hx h3
    rw [if_pos h0, if_pos h0, print_S k xs hx hk (.inl h3) (okw_iff.2 ⟨by omega, hx⟩), Option.bind_some, prS_zero h0]
    unfold txt
    cases n with
    | true =>
      rw [if_pos rfl, if_pos rfl, if_pos (by rw [arr_size]; omega), minus_app]
    | false =>
      rw [if_neg (by decide), if_neg (by decide)]
      rfl
  · rw [if_neg h0, if_neg h0]
/-- what is answered: a text read, its sign aside -/
def paD (n : Bool) (d : List UInt8) : Bool × List Int × Int := if okT d = true ∧ ¬ (n = true ∧ PA.num 0 d = 0) then (n, nw (PA.num 0 d : Int), 0) else (false, [], 120)
def paW (s : ByteArray) : Bool × List Int × Int := if 65536 < s.size then (false, [], 3) else match s.data.toList with
  | [] => paD false []
  | b :: r => if b = 45 then paD true r else paD false (b :: r)
theorem num_short (d : List UInt8) (h : okT d = true) (hs : d.length ≤ 9000) : (nw (PA.num 0 d : Int)).length ≤ 1001 := by
  have h1 := PA.num_lt _ (okT_all h)
  exact nw_len (ten_Bp h1 (by omega)) (by omega)
theorem wmade_S (n : Bool) (v : Int) (v0 : 0 ≤ v) (hl : (nw v).length ≤ 2048) (h : n = true → v ≠ 0) : whole_made.f n (nw v) = some (n, nw v, 0) := by
  unfold whole_made.f
  rw [if_neg (by omega)]
  cases n with
  | true =>
    have hne : (nw v).length ≠ 0 := fun e => h rfl ((nw_len0 v0).1 e)
    rw [if_pos rfl, decide_eq_true (by omega)]
  | false => rw [if_neg (by decide)]
theorem paD_ok {n : Bool} {d : List UInt8} (h : okT d = true) (h2 : n = true → PA.num 0 d ≠ 0) : paD n d = (n, nw (PA.num 0 d : Int), 0) := if_pos ⟨h, fun c => h2 c.1 c.2⟩
theorem paD_no {n : Bool} {d : List UInt8} (h : okT d = true → n = true ∧ PA.num 0 d = 0) : paD n d = (false, [], 120) := if_neg (fun c => c.2 (h c.1))
theorem wj2_t (k : Nat) (n : Bool) (ws : List Int) (e : Int) : whole_Parse.j2 (k + 1) n ws e true = some (false, [], 120) := by unfold whole_Parse.j2; rfl
theorem wj2_f (k : Nat) (n : Bool) (v : Int) (v0 : 0 ≤ v) (hl : (nw v).length ≤ 2048) (h : n = true → v ≠ 0) : whole_Parse.j2 (k + 1) n (nw v) 0 false = some (n, nw v, 0) := by
  unfold whole_Parse.j2; try dsimp only
  rw [if_neg (by decide), if_pos rfl, wmade_S n v v0 hl h, Option.bind_some]
theorem parC_ok {d : List UInt8} (h : okT d = true) : parC d = (nw (PA.num 0 d : Int), 0) := if_pos h
theorem parC_no {d : List UInt8} (h : ¬ okT d = true) : parC d = ([], 110) := if_neg h
theorem wparse_j1 (k : Nat) (hk : 1 < k) (n : Bool) (s : ByteArray) (hs : s.size ≤ 9000) : whole_Parse.j1 k n s = some (paD n s.data.toList) := by
  obtain ⟨k, rfl⟩ : ∃ q, k = q + 1 + 1 := ⟨k - 2, by omega⟩
  have hp : nat_Parse.f s = some (parC s.data.toList) := by
    unfold nat_Parse.f
    rw [if_pos (by omega), if_neg (by omega)]
  unfold whole_Parse.j1; try dsimp only
  rw [hp, Option.bind_some]
  by_cases h : okT s.data.toList = true
  · have hl := num_short _ h (by rw [← Lib.size_eq]; exact hs)
    rw [parC_ok h]
    dsimp only
    rw [if_neg (by decide)]
    cases n with
    | true =>
      rw [if_pos rfl, if_pos rfl]
      by_cases h0 : PA.num 0 s.data.toList = 0
      · have e : (((nw (PA.num 0 s.data.toList : Int)).length : Int) == 0) = true := by rw [h0]; rfl
        rw [e, wj2_t, paD_no (fun _ => ⟨rfl, h0⟩)]
      · have e : (((nw (PA.num 0 s.data.toList : Int)).length : Int) == 0) = false := by
          apply beq_eq_false_iff_ne.2
          intro h2
          have := (nw_len0 (v := (PA.num 0 s.data.toList : Int)) (by omega)).1 (by omega)
          omega
        rw [e, wj2_f k true _ (by omega) (by omega) (fun _ => by omega), paD_ok h (fun _ => h0)]
    | false =>
      rw [if_neg (by decide), wj2_f k false _ (by omega) (by omega) (by simp), paD_ok h (by simp)]
  · rw [parC_no h]
    dsimp only
    rw [if_pos rfl, show ((110 : Int) == 110) = true from rfl, wj2_t, paD_no (fun c => absurd c h)]
theorem extract_one (s : ByteArray) : (s.extract 1 s.size).data.toList = s.data.toList.drop 1 := by
  have := Lib.size_eq s
  rw [ByteArray.data_extract]
  simp
  exact List.take_of_length_le (by simp)
theorem wparse_S (k : Nat) (hk : 3 < k) (s : ByteArray) (hs : s.size ≤ 9000 ∨ 65536 < s.size) : whole_Parse.f k s = some (paW s) := by
  obtain ⟨k, rfl⟩ : ∃ q, k = q + 1 := ⟨k - 1, by omega⟩
  have hz := Lib.size_eq s
  unfold whole_Parse.f paW
  by_cases hb : 65536 < s.size
  · rw [if_pos (by omega), if_pos hb]
  · rw [if_neg (by omega), if_neg hb]
    cases hl : s.data.toList with
    | nil =>
      rw [hl] at hz
      have hz0 : s.size = 0 := hz
      rw [if_neg (by omega)]
      unfold whole_Parse.j0; try dsimp only
      rw [if_neg (by decide), wparse_j1 k (by omega) false s (by omega), hl]
    | cons b r =>
      rw [hl] at hz
      have hz' : s.size = r.length + 1 := hz
      have hi : 0 < s.data.toList.length := by rw [hl]; simp
      have hb0 : bt s 0 = (b.toNat : Int) := by
        have := bt_eq' s 0 hi
        have h2 : bt s 0 = ((s.data.toList[0]).toNat : Int) := this
        rw [h2]; simp [hl]
      rw [if_pos (by omega), if_pos (by omega), hb0]
      unfold whole_Parse.j0; try dsimp only
      by_cases h45 : b = 45
      · subst h45
        rw [if_pos (by rfl), if_pos (by omega)]
        have he := extract_one s
        rw [hl] at he
        show whole_Parse.j1 k true _ = some (paD true r)
        rw [wparse_j1 k (by omega) true _ (by rw [Lib.size_eq, he]; simp; omega), he]
        rfl
      · have hne : ((b.toNat : Int) == 45) = false := by
          apply beq_eq_false_iff_ne.2
          intro h
          apply h45
          have h3 : b.toNat = 45 := by omega
          have := UInt8.ofNat_toNat (x := b)
          rw [h3] at this
          exact this.symm
        rw [hne, if_neg (by decide), wparse_j1 k (by omega) false s (by omega), hl]
        show _ = some (if b = 45 then paD true r else paD false (b :: r))
        rw [if_neg h45]
end Go.Proofs.YtidccoahjpjoaaaGreatDoor.NT

/- WholeBack as a plain law. -/
set_option linter.unusedVariables false
set_option linter.unusedSimpArgs false
namespace Go.Proofs.YtidccoahjpjoaaaGreatDoor.NT
open Go.RowKit Go.Proofs.YtidccoahjpjoaaaGreatDoor.PK1 Go.Proofs.YtidccoahjpjoaaaGreatDoorW.PrintWords Q
theorem okT_dec (v : Nat) : okT (Lib.decDigits v) = true := by
  obtain ⟨b, r, e, h⟩ := PA.dec_hd v
  have ha := PA.dec_all v
  rw [e] at ha ⊢
  unfold okT
  rw [ha, Bool.true_and]
  rcases h with h | h
  · simp [h]
  · simp [h]
theorem dec_num_okT {l : List UInt8} (h : okT l = true) : Lib.decDigits (PA.num 0 l) = l := by
  have ha := okT_all h
  unfold okT at h
  rw [ha, Bool.true_and] at h
  cases l with
  | nil => exact absurd h (by simp)
  | cons b r =>
    refine PA.dec_num _ _ rfl ha ⟨b, r, rfl, ?_⟩
    simp only [Bool.or_eq_true, bne_iff_ne, List.isEmpty_iff] at h
    exact h
theorem paD_dec (n : Bool) (v : Nat) (h : n = true → v ≠ 0) : paD n (Lib.decDigits v) = (n, nw (v : Int), 0) := by
  unfold paD
  rw [PA.num_dec, if_pos ⟨okT_dec v, fun c => h c.1 c.2⟩]
theorem paW_txt (n : Bool) (v : Nat) (h : n = true → v ≠ 0) (hs : (txt n v).length ≤ 60000) : paW ⟨(txt n v).toArray⟩ = (n, nw (v : Int), 0) := by
  unfold paW
  rw [if_neg (by rw [arr_size]; omega)]
  show (match txt n v with | [] => paD false [] | b :: r => if b = 45 then paD true r else paD false (b :: r)) = _
  cases n with
  | true =>
    show (if (45 : UInt8) = 45 then paD true ([] ++ Lib.decDigits v) else _) = _
    rw [if_pos rfl]
    exact paD_dec true v h
  | false =>
    obtain ⟨b, r, e, hb⟩ := PA.dec_hd v
    have hd := List.all_eq_true.1 (PA.dec_all v) b (by rw [e]; simp)
    have hd := of_decide_eq_true hd
    show (match Lib.decDigits v with | [] => paD false [] | b :: r => if b = 45 then paD true r else paD false (b :: r)) = _
    have hp := paD_dec false v (by simp)
    rw [e] at hp ⊢
    show (if b = 45 then paD true r else paD false (b :: r)) = _
    rw [if_neg (fun h => by subst h; exact absurd hd.1 (by decide)), hp]
theorem txt_len {xs : List Int} (n : Bool) (hx : Wds xs) (hl : xs.length ≤ 300) : (txt n (val xs).toNat).length ≤ 3007 := by
  have := dec_short hx hl
  unfold txt
  rw [List.length_append]
  split <;> simp <;> omega
theorem back_one {n : Bool} {xs : List Int} (hx : Wds xs) (hl : xs.length ≤ 40) (h : chkW n xs = 0) : paW (prW n xs).1 = (n, xs, 0) := by
  obtain ⟨_, hT, hz⟩ := chkW_zero.1 h
  have h0 := val_nonneg hx
  unfold prW
  rw [if_pos h]
  show paW ⟨(txt n (val xs).toNat).toArray⟩ = _
  rw [paW_txt n _ (fun hn hv => ?_) (by have := txt_len n hx (by omega); omega), Int.toNat_of_nonneg h0, nw_val hx hT]
  have hv0 : val xs = 0 := by omega
  have : xs = [] := by rw [← nw_val hx hT, hv0, nw_zero]
  rw [hz this] at hn
  cases hn
theorem swhole (k : Nat) (n m : Bool) (xs ys : List Int) (hk : xs.length < k) (hm : xs.length ≤ 1000000) : slackwaterkit_SameWhole.f k n xs m ys = some (decide (n = m ∧ xs = ys)) := by
  unfold slackwaterkit_SameWhole.f
  by_cases h : n = m
  · subst h
    rw [if_pos (by simp), same_f k xs ys hk hm, Option.bind_some]
    simp
  · rw [if_neg (by simpa using h)]
    simp [h]
theorem lsame (k : Nat) (n : Bool) (xs : List Int) (hx : Wds xs) (hl : xs.length ≤ 40) (hk : 500 < k) (h : chkW n xs = 0) : slackwaterlaw02_same.f k n xs n xs = some true := by
  have ho : okw xs = true := okw_iff.2 ⟨by omega, hx⟩
  have hc : cmp (val xs) (val xs) = 0 := by unfold cmp; simp
  unfold slackwaterlaw02_same.f whole_Compare.f whole_both.f nat_Compare.f
  rw [wcheck k (by omega) n xs, Option.bind_some, h, if_pos rfl, Option.bind_some, Option.bind_some, if_pos rfl, if_neg (by simp), if_pos ⟨ho, ho⟩, Option.bind_some, hc]
  have hsw := swhole k n n xs xs (by omega) (by omega)
  cases n with
  | true =>
    rw [if_pos rfl, Option.bind_some]
    dsimp only
    rw [if_pos rfl, show wrap64 (-0) = 0 by unfold wrap64; omega, if_pos rfl, hsw, Option.bind_some]
    simp
  | false =>
    rw [if_neg (by decide), Option.bind_some]
    dsimp only
    rw [if_pos rfl, if_pos rfl, hsw, Option.bind_some]
    simp
theorem txt_paD {n : Bool} {d : List UInt8} {m : Bool} {ws : List Int} (h : paD n d = (m, ws, 0)) : ∃ v : Nat, m = n ∧ ws = nw (v : Int) ∧ (n = true → v ≠ 0) ∧ Lib.decDigits v = d ∧ v = PA.num 0 d ∧ okT d = true := by
  unfold paD at h
  by_cases hc : okT d = true ∧ ¬ (n = true ∧ PA.num 0 d = 0)
  · rw [if_pos hc] at h
    obtain ⟨rfl, h2⟩ := Prod.mk.inj h
    obtain ⟨rfl, _⟩ := Prod.mk.inj h2
    exact ⟨PA.num 0 d, rfl, rfl, fun a b => hc.2 ⟨a, b⟩, dec_num_okT hc.1, rfl, hc.1⟩
  · rw [if_neg hc] at h
    have := (Prod.mk.inj (Prod.mk.inj h).2).2
    omega
theorem back_text (s : ByteArray) (hs : s.size ≤ 400) {m : Bool} {ws : List Int} (h : paW s = (m, ws, 0)) : ∃ v : Nat, ws = nw (v : Int) ∧ (m = true → v ≠ 0) ∧ txt m v = s.data.toList ∧ (v : Int) < Bp 45 := by
  have hz := Lib.size_eq s
  unfold paW at h
  rw [if_neg (by omega)] at h
  cases hl : s.data.toList with
  | nil =>
    rw [hl] at h
    have h : paD false [] = (m, ws, 0) := h
    obtain ⟨v, _, _, _, _, _, ho⟩ := txt_paD h
    exact absurd ho (by decide)
  | cons b r =>
    rw [hl] at h hz
    have hz' : s.size = r.length + 1 := hz
    have h : (if b = 45 then paD true r else paD false (b :: r)) = (m, ws, 0) := h
    by_cases h45 : b = 45
    · rw [if_pos h45] at h
      obtain ⟨v, rfl, e, h0, hd, hv, ho⟩ := txt_paD h
      refine ⟨v, e, h0, ?_, ?_⟩
      · unfold txt; rw [if_pos rfl, hd, h45]; rfl
      · rw [hv]; exact ten_Bp (PA.num_lt _ (okT_all ho)) (by omega)
    · rw [if_neg h45] at h
      obtain ⟨v, rfl, e, h0, hd, hv, ho⟩ := txt_paD h
      refine ⟨v, e, h0, ?_, ?_⟩
      · unfold txt; rw [if_neg (by decide), hd]; rfl
      · rw [hv]; exact ten_Bp (PA.num_lt _ (okT_all ho)) (by rw [List.length_cons]; omega)
theorem paW_err (s : ByteArray) (h : (paW s).2.2 ≠ 0) : (paW s).1 = false ∧ (paW s).2.1 = [] := by
  revert h
  unfold paW paD
  repeat' split
  all_goals first | exact fun h => absurd rfl h | exact fun _ => ⟨rfl, rfl⟩
theorem wb_j1 (k : Nat) (hk : 3000 < k) (s : ByteArray) (hs : s.size ≤ 400) : slackwaterlaw02_WholeBack.j1 k s = some true := by
  obtain ⟨k, rfl⟩ : ∃ q, k = q + 1 := ⟨k - 1, by omega⟩
  unfold slackwaterlaw02_WholeBack.j1; try dsimp only
  rw [wparse_S k (by omega) s (by omega), Option.bind_some]
  by_cases h0 : (paW s).2.2 = 0
  · obtain ⟨v, e, hn, ht, hb⟩ := back_text s hs (m := (paW s).1) (ws := (paW s).2.1) (by rw [← h0])
    rw [if_pos h0, e]
    have hl := nw_len hb (by omega)
    have hw := nw_wds (v : Int)
    have hc : chkW (paW s).1 (nw (v : Int)) = 0 := chkW_zero.2 ⟨by omega, nw_tr _, fun h => by
      have := (nw_nil (by omega)).1 h
      cases hm : (paW s).1 with
      | false => rfl
      | true => exact absurd (by omega) (hn hm)⟩
    rw [wprint_S k _ _ hw (by omega) (by omega), Option.bind_some]
    unfold prW
    rw [if_pos hc, if_pos rfl, val_nw (by omega), Int.toNat_natCast, ht]
    simp [toList_eq]
  · obtain ⟨h1, h2⟩ := paW_err s h0
    rw [if_neg h0, h1, h2, swhole k _ _ _ _ (by simp; omega) (by simp), Option.bind_some]
    simp
theorem wb_j0 (k : Nat) (hk : 3001 < k) (s : ByteArray) (hs : s.size ≤ 400) (n m : Bool) (xs ys : List Int) (hx : Wds xs) (hy : Wds ys) (hl : xs.length ≤ 40) (hl' : ys.length ≤ 40) :
    slackwaterlaw02_WholeBack.j0 k s false n xs m ys = some true := by
  obtain ⟨k, rfl⟩ : ∃ q, k = q + 1 := ⟨k - 1, by omega⟩
  have ho : okw xs = true := okw_iff.2 ⟨by omega, hx⟩
  have ho' : okw ys = true := okw_iff.2 ⟨by omega, hy⟩
  have hj := wb_j1 k (by omega) s hs
  unfold slackwaterlaw02_WholeBack.j0; try dsimp only
  rw [if_neg (by decide), wprint_S k n xs hx (by omega) (by omega), Option.bind_some]
  by_cases h0 : chkW n xs = 0
  · have e0 : (prW n xs).2 = 0 := by unfold prW; rw [if_pos h0]
    have hsz : (prW n xs).1.size ≤ 3007 := by
      unfold prW; rw [if_pos h0]
      show (⟨(txt n (val xs).toNat).toArray⟩ : ByteArray).size ≤ _
      rw [arr_size]; exact txt_len n hx (by omega)
    have hb := back_one hx hl h0
    rw [if_pos e0, wparse_S k (by omega) _ (by omega), Option.bind_some, wprint_S k m ys hy (by omega) (by omega), Option.bind_some, hb]
    simp only []
    rw [if_pos trivial, lsame k n xs hx hl (by omega) h0, Option.bind_some, if_pos rfl]
    by_cases h1 : chkW m ys = 0
    · have e1 : (prW m ys).2 = 0 := by unfold prW; rw [if_pos h1]
      have hb1 := back_one hy hl' h1
      rw [if_pos e1, swhole k n m xs ys (by omega) (by omega), Option.bind_some, if_neg ?_]
      · exact hj
      · have key : ((prW n xs).1.toList == (prW m ys).1.toList) = decide (n = m ∧ xs = ys) := by
          apply Bool.eq_iff_iff.2
          rw [beq_iff_eq, decide_eq_true_iff]
          constructor
          · intro h
            have h2 : (prW n xs).1 = (prW m ys).1 := by
              rw [toList_eq, toList_eq] at h
              apply ByteArray.ext
              exact Array.ext' h
            rw [← h2, hb] at hb1
            obtain ⟨a, b⟩ := Prod.mk.inj hb1
            exact ⟨a, (Prod.mk.inj b).1⟩
          · rintro ⟨rfl, rfl⟩; rfl
        rw [key]
        simp
    · have e1 : ¬ (prW m ys).2 = 0 := by unfold prW; rw [if_neg h1]; exact h1
      rw [if_neg e1]
      exact hj
  · have e0 : ¬ (prW n xs).2 = 0 := by unfold prW; rw [if_neg h0]; exact h0
    rw [if_neg e0]
    exact hj
theorem wback (n m : Bool) (xs ys : List Int) (s : ByteArray) (hx : Wds xs) (hy : Wds ys) : slackwaterlaw02_WholeBack.f 5000 n xs m ys s = some true := by
  have ht : ∀ s : ByteArray, slackwaterlaw02_WholeBack.j0 5000 s true n xs m ys = some true := fun s => by
    show slackwaterlaw02_WholeBack.j0 (4999 + 1) s true n xs m ys = some true
    unfold slackwaterlaw02_WholeBack.j0; try dsimp only
    rw [if_pos rfl]
  unfold slackwaterlaw02_WholeBack.f slackwaterlaw02_lives.f
  rw [Option.bind_some, if_pos rfl]
  by_cases h1 : (xs.length : Int) > 40
  · rw [if_pos h1]; exact ht s
  · rw [if_neg h1]
    by_cases h2 : (ys.length : Int) > 40
    · rw [if_pos h2]; exact ht s
    · rw [if_neg h2]
      by_cases h3 : (s.size : Int) > 400
      · rw [decide_eq_true h3]; exact ht s
      · rw [decide_eq_false h3]
        exact wb_j0 5000 (by omega) s (by omega) n m xs ys hx hy (by omega) (by omega)
end Go.Proofs.YtidccoahjpjoaaaGreatDoor.NT

/- Words that come in, in the print's words. -/
set_option linter.unusedVariables false
namespace Go.Proofs.YtidccoahjpjoaaaGreatDoor
open Go Go.RowKit Q Go.Proofs.YtidccoahjpjoaaaGreatDoorW.PrintWords
theorem C_of_In {w : World} {A : Option Addr} {c : Nat} {xs : List Int} (h : In w A c xs) : Kd.C (Kd.int .u32) w A xs.length xs := by
  refine Kd.C_of_reads (d := (0 : Int)) (h1 := fun _ => rfl) ⟨rfl, by have := h.small; omega, fun hn => ?_⟩
  obtain ⟨ad, e, _⟩ := h.rd 0 hn
  refine ⟨ad, e, fun j hj => ?_⟩
  obtain ⟨ad', e', hc⟩ := h.rd j hj
  rw [e] at e'
  cases e'
  exact hc
end Go.Proofs.YtidccoahjpjoaaaGreatDoor

/- The walk of WholeBack, whole. -/
set_option linter.unusedVariables false
namespace Go.Proofs.YtidccoahjpjoaaaGreatDoor
open Go Go.RowKit Q Go.Proofs.YtidccoahjpjoaaaGreatDoorW.PrintWords
theorem WholeBack_walk (n : Bool) (A0 : Option Addr) (c0 : Nat) (l0 : List Int) (m : Bool) (A1 : Option Addr) (c1 : Nat) (l1 : List Int) (s : ByteArray) (W : World) (hL : LW W) (i0 : In W A0 c0 l0) (i1 : In W A1 c1 l1) (hs : s.size ≤ 140737488351232) :
    Calls Tryz.prog 4 #[.agg #[.bool n, .slice A0 l0.length c0], .agg #[.bool m, .slice A1 l1.length c1], .string s] W fun e W' => e = .returned (.bool true) ∧ Below W.heap.size W W' :=
  PK1.slackwaterlaw02_WholeBack.calls 5000 n A0 c0 l0 m A1 c1 l1 s true W hL (C_of_In i0) i0.cap (C_of_In i1) i1.cap (NT.wback n m l0 l1 s i0.wds i1.wds)
end Go.Proofs.YtidccoahjpjoaaaGreatDoor

/- Arguments opened for a row: structs of two or four whole numbers. -/
set_option linter.unusedVariables false
set_option linter.unusedSimpArgs false
namespace GB
open Go Go.ChangeShapes Go.WideShapes Go.RowKit
theorem int2_open {H : Type} {enc : TypeId × Value → H} {P : Program} {W : World} {base : Nat} {spare : Nat → Bool} {held : Bool} {t : TypeId} {f0 f1 : Field} {cs : Array Value} {d : DataW H} {ps : List MemPlace} {k0 k1 : IntKind}
    (hu : P.underlying t = some (.struct #[f0, f1])) (hb : P.underlying f0.type = some (.int k0)) (hs : P.underlying f1.type = some (.int k1))
    (h0 : f0.offset = 0) (h1 : f1.offset = 1) (c0 : P.cellsOf f0.type = 1) (c1 : P.cellsOf f1.type = 1) (hct : P.cellsOf t = 2)
    (h : DataW.Trod enc P W base spare held t (.agg cs) d ps) : ∃ (x y : Int), cs = #[.int k0 x, .int k1 y] ∧ (Lit.int k0 x).wf = true ∧ (Lit.int k1 y).wf = true := by
  obtain ⟨fuel, hf⟩ := h
  obtain ⟨y0, y1, n, hx, hl, t0, t1⟩ := trod_struct2 hu hf
  rw [hct] at hl
  simp only [Value.cells] at hl t0 t1
  rw [h0, c0] at t0
  rw [h1, c1] at t1
  obtain ⟨l⟩ := cs
  match l, hl with
  | [u, v], _ =>
    simp at t0 t1
    obtain ⟨b, e0, _, w0⟩ := DataW.trod_int hb t0
    obtain ⟨c, e1, _, w1⟩ := DataW.trod_int hs t1
    injection e0 with e0
    injection e1 with e1
    subst e0 e1
    exact ⟨b, c, rfl, w0, w1⟩
theorem int4_open {H : Type} {enc : TypeId × Value → H} {P : Program} {W : World} {base : Nat} {spare : Nat → Bool} {held : Bool} {t : TypeId} {f0 f1 f2 f3 : Field} {cs : Array Value} {d : DataW H} {ps : List MemPlace} {k0 k1 k2 k3 : IntKind}
    (hu : P.underlying t = some (.struct #[f0, f1, f2, f3])) (u0 : P.underlying f0.type = some (.int k0)) (u1 : P.underlying f1.type = some (.int k1)) (u2 : P.underlying f2.type = some (.int k2)) (u3 : P.underlying f3.type = some (.int k3))
    (h0 : f0.offset = 0) (h1 : f1.offset = 1) (h2 : f2.offset = 2) (h3 : f3.offset = 3) (c0 : P.cellsOf f0.type = 1) (c1 : P.cellsOf f1.type = 1) (c2 : P.cellsOf f2.type = 1) (c3 : P.cellsOf f3.type = 1) (hct : P.cellsOf t = 4)
    (h : DataW.Trod enc P W base spare held t (.agg cs) d ps) : ∃ (x y z v : Int), cs = #[.int k0 x, .int k1 y, .int k2 z, .int k3 v] ∧ (Lit.int k0 x).wf = true ∧ (Lit.int k1 y).wf = true ∧ (Lit.int k2 z).wf = true ∧ (Lit.int k3 v).wf = true := by
  obtain ⟨fuel, hf⟩ := h
  obtain ⟨y0, y1, y2, y3, n, hx, hl, t0, t1, t2, t3⟩ := Go.Joins.trod_struct4 hu hf
  rw [hct] at hl
  simp only [Value.cells] at hl t0 t1 t2 t3
  rw [h0, c0] at t0
  rw [h1, c1] at t1
  rw [h2, c2] at t2
  rw [h3, c3] at t3
  obtain ⟨l⟩ := cs
  match l, hl with
  | [u, v, a, b], _ =>
    simp at t0 t1 t2 t3
    obtain ⟨x0, e0, _, w0⟩ := DataW.trod_int u0 t0
    obtain ⟨x1, e1, _, w1⟩ := DataW.trod_int u1 t1
    obtain ⟨x2, e2, _, w2⟩ := DataW.trod_int u2 t2
    obtain ⟨x3, e3, _, w3⟩ := DataW.trod_int u3 t3
    injection e0 with e0
    injection e1 with e1
    injection e2 with e2
    injection e3 with e3
    subst e0 e1 e2 e3
    exact ⟨x0, x1, x2, x3, rfl, w0, w1, w2, w3⟩
end GB

/- A row's argument that is a number: a sign and words, opened. -/
set_option linter.unusedVariables false
set_option linter.unusedSimpArgs false
namespace Q
open Go Go.ChangeShapes Go.WideShapes Go.RowKit
theorem whole_open {H : Type} {enc : TypeId × Value → H} {P : Program} {W : World} {base : Nat} {spare : Nat → Bool} {held : Bool} {t e : TypeId} {f0 f1 : Field} {cs : Array Value} {d : DataW H} {ps : List MemPlace} {ts : List TypeId} {ds : List (DataW H)} {j : Nat}
    (hsz : (DataW.weightsEach P ts ds).all (· ≤ reachBytes) = true) (ht : ts[j]? = some t) (hd : ds[j]? = some d) (hu : P.underlying t = some (.struct #[f0, f1])) (hb : P.underlying f0.type = some .bool) (hs : P.underlying f1.type = some (.slice e))
    (he : P.underlying e = some (.int .u32)) (hc : P.cellsOf e = 1) (hB : P.bytesOf e = 4) (h0 : f0.offset = 0) (h1 : f1.offset = 1) (c0 : P.cellsOf f0.type = 1) (c1 : P.cellsOf f1.type = 1) (hct : P.cellsOf t = 2)
    (h : DataW.Trod enc P W base spare held t (.agg cs) d ps) : ∃ (n : Bool) (A : Option Addr) (c : Nat) (xs : List Int), cs = #[.bool n, .slice A xs.length c] ∧ In W A c xs := by
  obtain ⟨fuel, hf⟩ := h
  obtain ⟨y0, y1, n, hx, hl, t0, t1⟩ := trod_struct2 hu hf
  obtain ⟨hd', _⟩ := Prod.mk.inj hx
  rw [hct] at hl
  simp only [Value.cells] at hl t0 t1
  rw [h0, c0] at t0
  rw [h1, c1] at t1
  obtain ⟨l⟩ := cs
  match l, hl with
  | [u, v], _ =>
    simp at t0 t1
    obtain ⟨b, e0, _⟩ := DataW.trod_bool hb t0
    have hv : ∃ a len cap, v = .slice a len cap := by
      rcases open_ints hs he hc t1 with ⟨hcs, _⟩ | ⟨x, l, c, zs, hcs, _⟩
      · exact ⟨none, 0, 0, by simpa using hcs⟩
      · exact ⟨some x, l, c, by simpa using hcs⟩
    obtain ⟨a, len, cap, rfl⟩ := hv
    have hsz2 : (DataW.weightsEach P [f0.type, f1.type] [y0.1, y1.1]).all (· ≤ reachBytes) = true := by
      rw [List.all_eq_true] at hsz ⊢
      intro k hk
      refine hsz k (DataW.weights_mem_each ht hd k ?_)
      rw [hd']
      unfold DataW.weights
      rw [hu]
      exact hk
    obtain ⟨xs, e1, hi⟩ := words_open hsz2 (j := 1) (t := f1.type) (d := y1.1) rfl rfl hs he hc hB (a := a) (len := len) (cap := cap) (ps := y1.2) ⟨n, t1⟩
    refine ⟨b, a, cap, xs, ?_, hi⟩
    rw [e1]
    simp at e0
    rw [e0]
end Q

/- What the row's list of variables gives: the library's table that the numbers' texts read. -/
set_option linter.unusedVariables false
namespace Go.Proofs.YtidccoahjpjoaaaGreatDoor
open Go Go.RowKit Go.Proofs
theorem gTab8 : Tryz.prog.globalNamed "internal/strconv.uint64pow10" = some 1 := by kernel_rfl
theorem gTab8Type : (Tryz.prog.globals[1]?).map (·.type) = some 144 := by kernel_rfl
theorem cells99_8 : Tryz.prog.cellsOf 144 = 20 := by kernel_rfl
theorem cells82_8 : Tryz.prog.cellsOf 90 = 1 := by kernel_rfl
theorem lw_of {W : World} (h : laidMet Tryz.prog Rows.wholeBackRow.laid W) (hsh : W.ShapedOpen Tryz.prog) : LW W := by
  have h2 : laidMet Tryz.prog (("internal/strconv.uint64pow10", Lib.tabData .u64 Lib.pow10Tab) :: Rows.wholeBackRow.laid.drop 3) W := h.tail.tail
  exact ⟨Lib.tabIs_of_head gTab8 gTab8Type Tryz.underlying144 Tryz.underlying90 cells82_8 cells99_8 h2⟩
/-- a world that holds what is listed -/
theorem laid_metn (os : Os) (args : Array Value) : laidMet Tryz.prog Rows.wholeBackRow.laid ((World.laidAll Tryz.prog os Rows.wholeBackRow.laid).forCall (fun _ _ => 0) ⟨#[], args, []⟩).memory := laidMet_laidAll _ (by kernel_rfl) (by kernel_rfl)
theorem laid_shapedn (os : Os) (args : Array Value) : ((World.laidAll Tryz.prog os Rows.wholeBackRow.laid).forCall (fun _ _ => 0) ⟨#[], args, []⟩).Shaped Tryz.prog := World.shaped_of_ZipB (by kernel_rfl) (by kernel_rfl)
end Go.Proofs.YtidccoahjpjoaaaGreatDoor

