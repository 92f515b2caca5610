import Derived.Lib.ParseIntB
/- Numerals: digits and their number. -/
set_option linter.unusedVariables false
namespace Go.Proofs.YtidccoahjpjoaaaGreatDoor.PA
/-- is a byte a digit? -/
def dig (b : UInt8) : Bool := decide (48 ≤ b.toNat ∧ b.toNat ≤ 57)
/-- the number of digits -/
def num (acc : Nat) (l : List UInt8) : Nat := l.foldl (fun a b => a * 10 + (b.toNat - 48)) acc
theorem num_nil (acc : Nat) : num acc [] = acc := List.foldl_nil
theorem num_cons (acc : Nat) (b : UInt8) (r : List UInt8) : num acc (b :: r) = num (acc * 10 + (b.toNat - 48)) r := List.foldl_cons
theorem num_acc (l : List UInt8) : ∀ (acc : Nat), num acc l = acc * 10 ^ l.length + num 0 l := by
  induction l with
  | nil => intro acc; rw [num_nil, num_nil, List.length_nil, Nat.pow_zero, Nat.mul_one, Nat.add_zero]
  | cons b r ih =>
    intro acc
    rw [num_cons, num_cons, ih, ih (0 * 10 + (b.toNat - 48)), List.length_cons, Nat.pow_succ, Nat.zero_mul, Nat.zero_add, Nat.add_mul, Nat.mul_assoc, Nat.mul_comm 10, Nat.add_assoc]
theorem num_append (a b : List UInt8) (acc : Nat) : num acc (a ++ b) = num (num acc a) b := List.foldl_append
theorem num_lt : ∀ (l : List UInt8) (h : l.all dig = true), num 0 l < 10 ^ l.length
  | [], _ => by rw [num_nil, List.length_nil, Nat.pow_zero]; exact Nat.one_pos
  | b :: r, h => by
    rw [List.all_cons, Bool.and_eq_true] at h
    have hb := of_decide_eq_true h.1
    have ih := num_lt r h.2
    rw [num_cons, num_acc, List.length_cons, Nat.pow_succ, Nat.zero_mul, Nat.zero_add]
    have : (b.toNat - 48) * 10 ^ r.length ≤ 9 * 10 ^ r.length := Nat.mul_le_mul_right _ (by omega)
    omega
theorem parse_ok : ∀ (l : List UInt8) (acc : Nat) (h : l.all dig = true) (hl : (acc + 1) * 10 ^ l.length ≤ 1000000000), Lib.parseUintM (2 ^ 32 - 1) acc l = .ok (num acc l)
  | [], acc, _, _ => rfl
  | b :: r, acc, h, hl => by
    rw [List.all_cons, Bool.and_eq_true] at h
    have hb := of_decide_eq_true h.1
    rw [List.length_cons, Nat.pow_succ] at hl
    have hp : 1 ≤ 10 ^ r.length := Nat.pow_pos (by omega)
    have h2 : (acc * 10 + (b.toNat - 48) + 1) * 10 ^ r.length ≤ 1000000000 := by
      refine Nat.le_trans (Nat.mul_le_mul_right _ (show acc * 10 + (b.toNat - 48) + 1 ≤ (acc + 1) * 10 by omega)) ?_
      rw [Nat.mul_assoc, Nat.mul_comm 10]
      exact hl
    have h3 : acc * 10 + (b.toNat - 48) + 1 ≤ 1000000000 := Nat.le_trans (Nat.le_mul_of_pos_right _ hp) h2
    unfold Lib.parseUintM
    rw [num_cons, if_pos hb, if_neg (by omega), if_neg (by omega)]
    exact parse_ok r _ h.2 h2
theorem parse9 {l : List UInt8} (h : l.all dig = true) (hn : l ≠ []) (hl : l.length ≤ 9) : Lib.parseUintB 32 l = .ok (num 0 l) := by
  unfold Lib.parseUintB
  rw [if_neg hn]
  refine parse_ok l 0 h ?_
  rw [Nat.zero_add, Nat.one_mul]
  exact Nat.pow_le_pow_right (by omega) hl
end Go.Proofs.YtidccoahjpjoaaaGreatDoor.PA
