import Derived.Test.YtgjmlbcpjjpegaaQDivP
/- What the calls of package nat answer, in a form that is reckoned. Plain Lean. -/
set_option linter.unusedVariables false
set_option linter.unusedSimpArgs false
namespace Q
/-- the words of a number, k at most -/
def nwf : Nat → Nat → List Int
  | 0, _ => []
  | k + 1, n => if n = 0 then [] else ((n % 4294967296 : Nat) : Int) :: nwf k (n / 4294967296)
def nw (v : Int) : List Int := nwf (v.toNat.log2 / 32 + 1) v.toNat
theorem nwf_spec : ∀ (k n : Nat), n < 4294967296 ^ k → Wds (nwf k n) ∧ Tr (nwf k n) ∧ val (nwf k n) = (n : Int) := by
  intro k
  induction k with
  | zero =>
    intro n h
    rw [Nat.pow_zero] at h
    obtain rfl : n = 0 := by omega
    exact ⟨Wds.nil, Tr.nil, rfl⟩
  | succ k ih =>
    intro n h
    unfold nwf
    by_cases h0 : n = 0
    · subst h0
      rw [if_pos rfl]
      exact ⟨Wds.nil, Tr.nil, rfl⟩
    · rw [if_neg h0]
      rw [Nat.pow_succ] at h
      obtain ⟨h1, h2, h3⟩ := ih (n / 4294967296) (by omega)
      refine ⟨Wds.cons (by omega) (by omega) h1, ?_, by simp only [val]; omega⟩
      unfold Tr at *
      simp only [tl, List.length_cons]
      split
      · rename_i h4
        have : nwf k (n / 4294967296) = [] := List.eq_nil_of_length_eq_zero (by omega)
        rw [this] at h3 ⊢
        simp only [val] at h3
        rw [if_neg (by omega)]; simp
      · omega
theorem nw_spec (v : Int) (h : 0 ≤ v) : Wds (nw v) ∧ Tr (nw v) ∧ val (nw v) = v := by
  have := nwf_spec (v.toNat.log2 / 32 + 1) v.toNat (by
    have h1 : v.toNat < 2 ^ (v.toNat.log2 + 1) := Nat.lt_log2_self
    have h2 : 2 ^ (v.toNat.log2 + 1) ≤ 2 ^ (32 * (v.toNat.log2 / 32 + 1)) := Nat.pow_le_pow_right (by omega) (by omega)
    rw [Nat.pow_mul] at h2
    exact Nat.lt_of_lt_of_le h1 h2)
  refine ⟨this.1, this.2.1, ?_⟩
  have h3 := this.2.2
  unfold nw
  rw [h3]; omega
theorem nwd_nw (v : Int) : nwd v = nw v := by
  by_cases h : 0 ≤ v
  · obtain ⟨a, b, c⟩ := nw_spec v h
    exact nwd_eq a b c
  · have e : nw v = [] := by unfold nw; rw [show v.toNat = 0 by omega]; rfl
    rw [e]
    unfold nwd
    rw [dif_neg]
    rintro ⟨l, a, b, c⟩
    have := val_nonneg a
    omega
def toldC (v : Int) : List Int × Int := if 8192 < (nw v).length then ([], 3) else (nw v, 0)
def addC (xs ys : List Int) : List Int × Int := if chk2 xs ys = 0 then toldC (val xs + val ys) else ([], chk2 xs ys)
def subC (xs ys : List Int) : List Int × Int := if chk2 xs ys = 0 then (if val xs < val ys then ([], 2) else (nw (val xs - val ys), 0)) else ([], chk2 xs ys)
def mulC (xs ys : List Int) : List Int × Int :=
  if chk2 xs ys = 0 then (if xs = [] ∨ ys = [] then ([], 0) else if 8193 < xs.length + ys.length then ([], 3) else toldC (val xs * val ys)) else ([], chk2 xs ys)
def divC (xs ys : List Int) : List Int × List Int × Int := if chk2 xs ys = 0 then (if ys = [] then ([], [], 7) else (nw (val xs / val ys), nw (val xs % val ys), 0)) else ([], [], chk2 xs ys)
def gcdC (xs ys : List Int) : List Int × Int := if chk2 xs ys = 0 then (nw (gc (val xs) (val ys)), 0) else ([], chk2 xs ys)
theorem told_C (v : Int) : told v = toldC v := by unfold told toldC; rw [nwd_nw]
theorem add_C (xs ys : List Int) : addS xs ys = addC xs ys := by unfold addS addC; rw [told_C]
theorem sub_C (xs ys : List Int) : subS xs ys = subC xs ys := by unfold subS subC; rw [nwd_nw]
theorem mul_C (xs ys : List Int) : mulS xs ys = mulC xs ys := by unfold mulS mulC; rw [told_C]
theorem div_C (xs ys : List Int) : divS xs ys = divC xs ys := by unfold divS divC; rw [nwd_nw, nwd_nw]
theorem gcd_C (xs ys : List Int) : gcdS xs ys = gcdC xs ys := by unfold gcdS gcdC; rw [nwd_nw]
/-- words, not too many: decided -/
def okw (xs : List Int) : Bool := decide (xs.length ≤ 1000000) && xs.all fun x => decide (0 ≤ x) && decide (x < 4294967296)
theorem okw_iff {xs : List Int} : okw xs = true ↔ xs.length ≤ 1000000 ∧ Wds xs := by
  unfold okw Wds
  simp only [Bool.and_eq_true, decide_eq_true_eq, List.all_eq_true]
end Q
