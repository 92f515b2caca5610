import Derived.Test.YtgjmlbcpjjpegaaPRBx
import Derived.Test.YtgjmlbcpjjpegaaRoS
/- When a rotor may be: its numbers, and that they have no divisor in common. -/
set_option linter.unusedVariables false
set_option linter.unusedSimpArgs false
namespace Go.Proofs.Ytgjmlbcpjjpegaa.RT
open Go.RowKit Go.Proofs.Ytgjmlbcpjjpegaa.PRB Go.Proofs.YtgjmlbcpjjpegaaW.PrintWords Go.Proofs.YtgjmlbcpjjpegaaW
theorem w64 {x : Int} (h : -9223372036854775808 ≤ x) (h' : x < 9223372036854775808) : wrap64 x = x := by unfold wrap64; omega
theorem gcd_tmod (a b : Int) : Int.gcd b (a.tmod b) = Int.gcd a b := by
  unfold Int.gcd
  rw [Int.natAbs_tmod, Nat.gcd_comm b.natAbs (a.natAbs % b.natAbs), ← Nat.gcd_rec, Nat.gcd_comm]
theorem common_is : ∀ (k : Nat) (a b : Int), b.natAbs < k → -1000000 ≤ a ∧ a ≤ 1000000 → -1000000 ≤ b ∧ b ≤ 1000000 → rotor_common.l0 k a b = some (Int.gcd a b : Int) := by
  intro k
  induction k with
  | zero => intro a b h; omega
  | succ k ih =>
    intro a b h ha hb
    unfold rotor_common.l0
    by_cases h0 : b = 0
    · subst h0
      rw [if_pos rfl, w64 (by omega) (by omega), Int.gcd_zero_right]
      congr 1
      unfold mx
      split <;> omega
    · have hm : (a.tmod b).natAbs < b.natAbs := by
        rw [Int.natAbs_tmod]
        exact Nat.mod_lt _ (by omega)
      rw [if_neg h0, ih b (a.tmod b) (by omega) hb (by omega), gcd_tmod]
/-- may a rotor be? -/
def Okr (f n : Int) : Prop := (1 ≤ f ∧ f ≤ 1000) ∧ (-1000 ≤ n ∧ n ≤ 1000) ∧ n ≠ 0 ∧ f ≠ n ∧ f ≠ -n ∧ Int.gcd f n = 1
instance (f n : Int) : Decidable (Okr f n) := by unfold Okr; infer_instance
theorem check_is (k : Nat) (hk : 1002 ≤ k) {a b : Int} (ha : -2147483648 ≤ a ∧ a < 2147483648) (hb : -2147483648 ≤ b ∧ b < 2147483648) : rotor_Check.f k a b = some (if Okr a b then 0 else 150) := by
  unfold rotor_Check.f
  rw [if_pos (show rotor_Check.rg a b = true from decide_eq_true ⟨ha.1, ha.2, hb.1, hb.2⟩)]
  by_cases h : a < 1 ∨ 1000 < a ∨ b < -1000 ∨ 1000 < b ∨ b = 0 ∨ a = b ∨ a = -b
  · rw [if_pos (show rotor_Check.bad a b = true from decide_eq_true h), if_neg (fun c : Okr a b => by
      obtain ⟨c1, c2, c3, c4, c5, _⟩ := c
      omega)]
  · have hc : rotor_common.f k a b = some (Int.gcd a b : Int) := common_is k a b (by omega) (by omega) (by omega)
    rw [if_neg (show ¬ rotor_Check.bad a b = true from fun c => h (of_decide_eq_true c)), hc, Option.bind_some]
    by_cases c8 : Int.gcd a b = 1
    · rw [if_pos (by omega), if_pos ⟨by omega, by omega, by omega, by omega, by omega, c8⟩]
    · rw [if_neg (by omega), if_neg (fun c : Okr a b => c8 c.2.2.2.2.2)]
end Go.Proofs.Ytgjmlbcpjjpegaa.RT
