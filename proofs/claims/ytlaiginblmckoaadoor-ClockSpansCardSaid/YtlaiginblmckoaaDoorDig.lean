import Derived.Lib.Split
import Derived.Lib.AtoiAll
import Derived.Lib.ItoaNum
/- Numerals: what they are read as; texts cut at a sign. Plain laws over the library's own words. -/
set_option linter.unusedVariables false
set_option linter.unusedSimpArgs false
namespace Dig
open Go Go.Lib
/-- all bytes are digits -/
def Dg (l : List UInt8) : Prop := ∀ c ∈ l, 48 ≤ c.toNat ∧ c.toNat ≤ 57
theorem dg_one (u : Nat) (h : u < 10) : 48 ≤ (UInt8.ofNat (48 + u)).toNat ∧ (UInt8.ofNat (48 + u)).toNat ≤ 57 ∧ (UInt8.ofNat (48 + u)).toNat - 48 = u := by
  have : (UInt8.ofNat (48 + u)).toNat = 48 + u := by simp; omega
  omega
theorem dec_small {u : Nat} (h : u < 10) : decDigits u = [UInt8.ofNat (48 + u)] := decDigits_one h
theorem dec_step {u : Nat} (h : ¬ u < 10) : decDigits u = decDigits (u / 10) ++ [UInt8.ofNat (48 + u % 10)] := by
  rw [decDigits, dif_neg h]
theorem dec_dg (u : Nat) : Dg (decDigits u) := by
  induction u using Nat.strongRecOn with
  | ind u ih =>
    by_cases h : u < 10
    · rw [dec_small h]
      intro c hc
      simp only [List.mem_singleton] at hc
      subst hc
      have := dg_one u h
      omega
    · rw [dec_step h]
      intro c hc
      simp only [List.mem_append, List.mem_singleton] at hc
      rcases hc with hc | rfl
      · exact ih (u / 10) (by omega) c hc
      · have := dg_one (u % 10) (by omega)
        omega
theorem dec_ne (u : Nat) : decDigits u ≠ [] := by
  by_cases h : u < 10
  · rw [dec_small h]; simp
  · rw [dec_step h]; simp
theorem parse_append (l r : List UInt8) : ∀ acc v, parseUint10 acc l = .ok v → parseUint10 acc (l ++ r) = parseUint10 v r := by
  induction l with
  | nil => intro acc v h; simp only [parseUint10] at h; injection h with h; subst h; rfl
  | cons c l ih =>
    intro acc v h
    simp only [List.cons_append, parseUint10] at h ⊢
    split at h
    · rename_i h1
      rw [if_pos h1]
      split at h
      · cases h
      · rename_i h2
        rw [if_neg h2]
        split at h
        · cases h
        · rename_i h3
          rw [if_neg h3]
          exact ih _ _ h
    · cases h
theorem parse_dec (u : Nat) (hu : u < 9223372036854775808) : parseUint10 0 (decDigits u) = .ok u := by
  induction u using Nat.strongRecOn with
  | ind u ih =>
    by_cases h : u < 10
    · rw [dec_small h]
      have := dg_one u h
      simp only [parseUint10]
      rw [if_pos ⟨this.1, this.2.1⟩, if_neg (by omega), if_neg (by omega), this.2.2]
      simp
    · rw [dec_step h, parse_append _ _ _ _ (ih (u / 10) (by omega) (by omega))]
      have := dg_one (u % 10) (by omega)
      simp only [parseUint10]
      rw [if_pos ⟨this.1, this.2.1⟩, if_neg (by omega), if_neg (by omega), this.2.2]
      congr 1
      omega
theorem atoi_dec (u : Nat) (hu : u < 9223372036854775808) : atoiAll (decDigits u) = .ok (u : Int) := by
  have hp := parse_dec u hu
  have hd := dec_dg u
  cases hl : decDigits u with
  | nil => exact absurd hl (dec_ne u)
  | cons c r =>
    rw [hl] at hp hd
    have hc := hd c (by simp)
    unfold atoiAll
    simp only
    rw [if_neg (by omega)]
    unfold parseMag
    rw [if_neg (by simp), hp]
    simp only
    rw [if_neg (by omega), if_neg (by omega), if_neg (by omega)]
theorem dec_inj {u v : Nat} (hu : u < 9223372036854775808) (hv : v < 9223372036854775808) (h : decDigits u = decDigits v) : u = v := by
  have h1 := parse_dec u hu
  have h2 := parse_dec v hv
  rw [h, h2] at h1
  injection h1 with h1
  exact h1.symm
/-! ### a sign in a text -/
theorem index_sep (c : UInt8) (b : List UInt8) : ∀ a : List UInt8, c ∉ a → index (a ++ c :: b) [c] = a.length
  | [], _ => by simp [index]
  | x :: a, h => by
    have hx : c ≠ x := fun e => h (by simp [e])
    have ih := index_sep c b a (fun e => h (by simp [e]))
    simp only [List.cons_append, index]
    rw [if_neg (by simp [List.isPrefixOf, hx]), ih, if_neg (by first | (simp; omega) | simp)]
    simp
theorem index_no (c : UInt8) : ∀ a : List UInt8, c ∉ a → index a [c] = -1
  | [], _ => by simp [index]
  | x :: a, h => by
    have hx : c ≠ x := fun e => h (by simp [e])
    have ih := index_no c a (fun e => h (by simp [e]))
    simp only [index]
    rw [if_neg (by simp [List.isPrefixOf, hx]), ih]
    simp
theorem cut_sep (c : UInt8) (a b : List UInt8) (h : c ∉ a) : cut (a ++ c :: b) [c] = (a, b, true) := by
  unfold cut
  rw [index_sep c b a h, if_pos (by omega)]
  simp
theorem split3 (x : UInt8) (a b c : List UInt8) (ha : x ∉ a) (hb : x ∉ b) (hc : x ∉ c) : splitK [x] 0 3 (a ++ x :: (b ++ x :: c)) = [a, b, c] := by
  unfold splitK
  rw [index_sep x _ a ha, if_neg (by first | (simp; omega) | simp)]
  simp only [Int.toNat_natCast, Nat.add_zero, List.take_left, List.length_cons, List.length_nil]
  rw [show (a ++ x :: (b ++ x :: c)).drop (a.length + (0 + 1)) = b ++ x :: c by rw [show a ++ x :: (b ++ x :: c) = (a ++ [x]) ++ (b ++ x :: c) by simp, List.drop_left' (by simp)]]
  unfold splitK
  rw [index_sep x _ b hb, if_neg (by first | (simp; omega) | simp)]
  simp only [Int.toNat_natCast, Nat.add_zero, List.take_left, List.length_cons, List.length_nil]
  rw [show (b ++ x :: c).drop (b.length + (0 + 1)) = c by rw [show b ++ x :: c = (b ++ [x]) ++ c by simp, List.drop_left' (by simp)]]
  unfold splitK
  rw [index_no x c hc]
  simp
theorem dg_not {l : List UInt8} (h : Dg l) {c : UInt8} (hc : c.toNat < 48 ∨ 57 < c.toNat) : c ∉ l := fun hm => by have := h c hm; omega
theorem itoa_dec {n : Int} (h : 0 ≤ n) : itoa n = decDigits n.toNat := by unfold itoa; rw [if_neg (by omega)]
end Dig
