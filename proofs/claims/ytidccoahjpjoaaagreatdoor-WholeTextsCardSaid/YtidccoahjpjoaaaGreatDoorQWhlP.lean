import Derived.Test.YtidccoahjpjoaaaGreatDoorQDivP
/- Whole numbers: a sign and words; what each answer is (plain law, no program in sight). -/
set_option linter.unusedVariables false
set_option linter.unusedSimpArgs false
namespace Q
/-- the number of a sign and words -/
def wv (n : Bool) (xs : List Int) : Int := if n = true then - val xs else val xs
/-- may it be? -/
def chkW (n : Bool) (xs : List Int) : Int := if 2048 < xs.length then 3 else if tl xs = xs.length ∧ (xs = [] → n = false) then 0 else 11
def chkW2 (n : Bool) (xs : List Int) (m : Bool) (ys : List Int) : Int := if chkW n xs = 0 then chkW m ys else chkW n xs
/-- a number with a sign, and what is told -/
structure Wn where
  neg : Bool
  ws : List Int
  err : Int
def mdW (n : Bool) (zs : List Int) : Wn := if 2048 < zs.length then ⟨false, [], 3⟩ else ⟨n && !zs.isEmpty, zs, 0⟩
noncomputable def toldW (v : Int) : Wn := mdW (decide (v < 0)) (nwd (v.natAbs : Int))
def noW (e : Int) : Wn := ⟨false, [], e⟩
noncomputable def negW (n : Bool) (xs : List Int) : Wn := if chkW n xs = 0 then toldW (- wv n xs) else noW (chkW n xs)
noncomputable def absW (n : Bool) (xs : List Int) : Wn := if chkW n xs = 0 then toldW (wv n xs).natAbs else noW (chkW n xs)
noncomputable def addW (n : Bool) (xs : List Int) (m : Bool) (ys : List Int) : Wn := if chkW2 n xs m ys = 0 then toldW (wv n xs + wv m ys) else noW (chkW2 n xs m ys)
noncomputable def subW (n : Bool) (xs : List Int) (m : Bool) (ys : List Int) : Wn := if chkW2 n xs m ys = 0 then toldW (wv n xs - wv m ys) else noW (chkW2 n xs m ys)
noncomputable def mulW (n : Bool) (xs : List Int) (m : Bool) (ys : List Int) : Wn := if chkW2 n xs m ys = 0 then toldW (wv n xs * wv m ys) else noW (chkW2 n xs m ys)
noncomputable def gcdW (n : Bool) (xs : List Int) (m : Bool) (ys : List Int) : Wn := if chkW2 n xs m ys = 0 then toldW (gc (val xs) (val ys)) else noW (chkW2 n xs m ys)
noncomputable def quoW (n : Bool) (xs : List Int) (m : Bool) (ys : List Int) : Wn := if chkW2 n xs m ys = 0 then (if ys = [] then noW 7 else toldW (wv n xs / wv m ys)) else noW (chkW2 n xs m ys)
noncomputable def remW (n : Bool) (xs : List Int) (m : Bool) (ys : List Int) : Wn := if chkW2 n xs m ys = 0 then (if ys = [] then noW 7 else toldW (wv n xs % wv m ys)) else noW (chkW2 n xs m ys)
def signW (n : Bool) (xs : List Int) : Int := if chkW n xs = 0 then cmp (wv n xs) 0 else 0
def cmpW (n : Bool) (xs : List Int) (m : Bool) (ys : List Int) : Int := if chkW2 n xs m ys = 0 then cmp (wv n xs) (wv m ys) else 0
/-- as a number of 64 bits, if it is one -/
def i64ok (n : Bool) (xs : List Int) : Bool := decide (chkW n xs = 0 ∧ -9223372036854775808 ≤ wv n xs ∧ wv n xs < 9223372036854775808)
def i64 (n : Bool) (xs : List Int) : Int := if i64ok n xs = true then wv n xs else 0

theorem chkW_zero {n : Bool} {xs : List Int} : chkW n xs = 0 ↔ xs.length ≤ 2048 ∧ Tr xs ∧ (xs = [] → n = false) := by
  unfold chkW Tr
  constructor
  · intro h
    split at h
    · omega
    · split at h
      · rename_i h1 h2; exact ⟨by omega, h2.1, h2.2⟩
      · omega
  · rintro ⟨h1, h2⟩
    rw [if_neg (by omega), if_pos h2]
theorem chkW2_zero {n m : Bool} {xs ys : List Int} : chkW2 n xs m ys = 0 ↔ chkW n xs = 0 ∧ chkW m ys = 0 := by
  unfold chkW2
  constructor
  · intro h
    split at h
    · exact ⟨by assumption, h⟩
    · exact absurd h (by assumption)
  · rintro ⟨h1, h2⟩
    rw [if_pos h1, h2]
theorem chkW_chk {n : Bool} {xs : List Int} (h : chkW n xs = 0) : chk xs = 0 := chk_zero.2 ⟨by have := (chkW_zero.1 h).1; omega, (chkW_zero.1 h).2.1⟩
theorem chkW2_chk2 {n m : Bool} {xs ys : List Int} (h : chkW2 n xs m ys = 0) : chk2 xs ys = 0 := by
  unfold chk2; rw [if_pos (chkW_chk (chkW2_zero.1 h).1)]; exact chkW_chk (chkW2_zero.1 h).2
theorem nwd_nil_iff {k : Int} (h : 0 ≤ k) : nwd k = [] ↔ k = 0 := by
  constructor
  · intro e
    have := val_nwd h
    rw [e] at this
    simpa [val] using this.symm
  · rintro rfl; exact nwd_zero
theorem toldW_nonneg {k : Int} (h : 0 ≤ k) : toldW k = mdW false (nwd k) := by
  unfold toldW
  rw [Int.natAbs_of_nonneg h, decide_eq_false (by omega)]
theorem toldW_neg {k : Int} (h : 0 ≤ k) : toldW (-k) = mdW true (nwd k) := by
  unfold toldW
  rw [Int.natAbs_neg, Int.natAbs_of_nonneg h]
  by_cases h0 : k = 0
  · subst h0; rw [nwd_zero]; rfl
  · rw [decide_eq_true (by omega)]
theorem mdW_nwd {k : Int} (h : 0 ≤ k) (n : Bool) : mdW n (nwd k) = toldW (if n = true then -k else k) := by
  cases n with
  | true => rw [if_pos rfl, toldW_neg h]
  | false => rw [if_neg (by simp), toldW_nonneg h]
theorem wv_natAbs {n : Bool} {xs : List Int} (h : Wds xs) : ((wv n xs).natAbs : Int) = val xs := by
  have := val_nonneg h
  unfold wv; split <;> omega
theorem wv_nW (v : Int) : wv (decide (v < 0)) (nwd (v.natAbs : Int)) = v := by
  unfold wv
  rw [val_nwd (by omega)]
  by_cases h : v < 0
  · rw [if_pos (by simpa using h)]; omega
  · rw [if_neg (by simpa using h)]; omega
/-- a number that may be is its own -/
theorem toldW_wv {n : Bool} {xs : List Int} (hw : Wds xs) (h : chkW n xs = 0) : toldW (wv n xs) = ⟨n, xs, 0⟩ := by
  obtain ⟨h1, h2, h3⟩ := chkW_zero.1 h
  unfold toldW
  rw [wv_natAbs hw, nwd_eq hw h2 rfl]
  unfold mdW
  rw [if_neg (by omega)]
  cases xs with
  | nil => rw [h3 rfl]; simp
  | cons x xs =>
    have := val_pos hw h2 (by simp)
    unfold wv
    cases n <;> simp <;> omega
theorem mdW_len (n : Bool) (zs : List Int) : (mdW n zs).ws.length ≤ 2048 := by unfold mdW; split <;> simp; omega
theorem mdW_wds (n : Bool) {zs : List Int} (h : Wds zs) : Wds (mdW n zs).ws := by unfold mdW; split; exact Wds.nil; exact h
theorem toldW_len (v : Int) : (toldW v).ws.length ≤ 2048 := mdW_len _ _
theorem toldW_wds (v : Int) : Wds (toldW v).ws := mdW_wds _ (nwd_wds _)
theorem noW_len (e : Int) : (noW e).ws.length ≤ 2048 := by simp [noW]
theorem noW_wds (e : Int) : Wds (noW e).ws := Wds.nil
theorem val_lt_len {xs : List Int} (h : Wds xs) {k : Nat} (hk : xs.length ≤ k) : val xs < Bp k := Int.lt_of_lt_of_le (val_lt h) (Bp_mono hk)
/-- what nat answers of words of numbers -/
theorem told_of {v : Int} (h0 : 0 ≤ v) (h : v < Bp 8192) : told v = (nwd v, 0) := by
  unfold told; rw [if_neg (by have := nwd_len_le h h0; omega)]
theorem addS_of {n m : Bool} {xs ys : List Int} (hx : Wds xs) (hy : Wds ys) (h : chkW2 n xs m ys = 0) : addS xs ys = (nwd (val xs + val ys), 0) := by
  obtain ⟨h1, h2⟩ := chkW2_zero.1 h
  unfold addS
  rw [if_pos (chkW2_chk2 h)]
  have a := val_lt_len hx (chkW_zero.1 h1).1
  have b := val_lt_len hy (chkW_zero.1 h2).1
  have a0 := val_nonneg hx
  have b0 := val_nonneg hy
  have c : Bp 2049 = 4294967296 * Bp 2048 := Bp_succ 2048
  have d := Bp_mono (show 2049 ≤ 8192 by omega)
  exact told_of (by omega) (by omega)
theorem mulS_of {n m : Bool} {xs ys : List Int} (hx : Wds xs) (hy : Wds ys) (h : chkW2 n xs m ys = 0) : mulS xs ys = (nwd (val xs * val ys), 0) := by
  obtain ⟨h1, h2⟩ := chkW2_zero.1 h
  have a := val_lt_len hx (chkW_zero.1 h1).1
  have b := val_lt_len hy (chkW_zero.1 h2).1
  have a0 := val_nonneg hx
  have b0 := val_nonneg hy
  have hp : val xs * val ys < Bp 8192 := by
    have e1 : val xs * val ys ≤ Bp 2048 * Bp 2048 := Int.mul_le_mul (by omega) (by omega) b0 (Int.le_of_lt (Bp_pos _))
    have e2 : Bp 2048 * Bp 2048 = Bp 4096 := by unfold Bp; rw [← Int.pow_add]
    have e3 : Bp 4097 = 4294967296 * Bp 4096 := Bp_succ 4096
    have e4 := Bp_pos 4096
    have e5 := Bp_mono (show 4097 ≤ 8192 by omega)
    omega
  unfold mulS
  rw [if_pos (chkW2_chk2 h)]
  by_cases hne : xs = [] ∨ ys = []
  · rw [if_pos hne]
    have : val xs * val ys = 0 := by rcases hne with e | e <;> simp [e, val]
    rw [this, nwd_zero]
  · rw [if_neg hne, if_neg (by have := (chkW_zero.1 h1).1; have := (chkW_zero.1 h2).1; omega)]
    exact told_of (Int.mul_nonneg a0 b0) hp
theorem subS_of {n m : Bool} {xs ys : List Int} (h : chkW2 n xs m ys = 0) (hv : val ys ≤ val xs) : subS xs ys = (nwd (val xs - val ys), 0) := by
  unfold subS
  rw [if_pos (chkW2_chk2 h), if_neg (by omega)]
/-- a sign before a size -/
def sg (n : Bool) (k : Int) : Int := if n = true then -k else k
theorem wv_sg (n : Bool) (xs : List Int) : wv n xs = sg n (val xs) := rfl
theorem mdW_sg {k : Int} (h : 0 ≤ k) (n : Bool) : mdW n (nwd k) = toldW (sg n k) := mdW_nwd h n
theorem sg_natAbs {k : Int} (h : 0 ≤ k) (n : Bool) : ((sg n k).natAbs : Int) = k := by unfold sg; split <;> omega
theorem sg_dec {k : Int} (h : 0 ≤ k) (n : Bool) : (n && !(nwd k).isEmpty) = decide (sg n k < 0) := by
  by_cases h0 : k = 0
  · subst h0; rw [nwd_zero]; cases n <;> simp [sg]
  · have : nwd k ≠ [] := fun e => h0 ((nwd_nil_iff h).1 e)
    have e : (nwd k).isEmpty = false := by cases hk : nwd k with | nil => exact absurd hk this | cons a l => rfl
    rw [e]
    cases n <;> simp [sg] <;> omega
theorem toldW_ok {v : Int} (h : (v.natAbs : Int) < Bp 2048) : toldW v = ⟨decide (v < 0), nwd (v.natAbs : Int), 0⟩ := by
  unfold toldW mdW
  rw [if_neg (by have := nwd_len_le h (by omega); omega)]
  have := sg_dec (k := (v.natAbs : Int)) (by omega) (decide (v < 0))
  rw [this]
  congr 1
  by_cases h0 : v < 0 <;> simp [sg, h0] <;> omega
theorem toldW_eq (v : Int) : toldW v = if 2048 < (nwd (v.natAbs : Int)).length then noW 3 else ⟨decide (v < 0), nwd (v.natAbs : Int), 0⟩ := by
  unfold toldW mdW
  split
  · rfl
  · have := sg_dec (k := (v.natAbs : Int)) (by omega) (decide (v < 0))
    rw [this]
    congr 1
    by_cases h0 : v < 0 <;> simp [sg, h0] <;> omega
theorem sg_not (n : Bool) (k : Int) : sg (!n) k = - sg n k := by cases n <;> simp [sg]
theorem add_same {n m : Bool} (h : n = m) (x y : Int) : sg n (x + y) = sg n x + sg m y := by subst h; cases n <;> simp [sg] <;> omega
theorem add_diff {n m : Bool} (h : n ≠ m) (x y : Int) : sg n (x - y) = sg n x + sg m y := by cases n <;> cases m <;> simp_all [sg] <;> omega
theorem mul_sg (n m : Bool) (x y : Int) : sg (n != m) (x * y) = sg n x * sg m y := by cases n <;> cases m <;> simp [sg, Int.neg_mul, Int.mul_neg]
/-- quotients with signs: the rest is from 0 on -/
theorem quo_plain {n m : Bool} {x y : Int} (hy : 0 < y) (h : n = false ∨ x % y = 0) : sg n x / sg m y = sg (n != m) (x / y) ∧ sg n x % sg m y = x % y := by
  have key : sg n x / y = sg n (x / y) ∧ sg n x % y = x % y := by
    cases n with
    | false => exact ⟨rfl, rfl⟩
    | true =>
      have h0 : x % y = 0 := by simpa using h
      refine (Int.ediv_emod_unique hy).2 ⟨?_, by omega, by omega⟩
      have e := Int.mul_ediv_add_emod x y
      show x % y + y * -(x / y) = -x
      rw [Int.mul_neg]; omega
  cases m with
  | false => simpa [sg] using key
  | true =>
    have e1 : sg true y = -y := rfl
    rw [e1, Int.ediv_neg, Int.emod_neg, key.1, key.2]
    cases n <;> simp [sg]
theorem quo_more {n m : Bool} {x y : Int} (hy : 0 < y) (hn : n = true) (h : x % y ≠ 0) : sg n x / sg m y = sg (n != m) (x / y + 1) ∧ sg n x % sg m y = y - x % y := by
  subst hn
  have h1 := Int.emod_nonneg x (show y ≠ 0 by omega)
  have h2 := Int.emod_lt_of_pos x hy
  have key : -x / y = -(x / y + 1) ∧ -x % y = y - x % y := by
    refine (Int.ediv_emod_unique hy).2 ⟨?_, by omega, by omega⟩
    have e := Int.mul_ediv_add_emod x y
    rw [Int.mul_neg, Int.mul_add, Int.mul_one]; omega
  cases m with
  | false => simpa [sg] using key
  | true =>
    have e1 : sg true y = -y := rfl
    have e2 : sg true x = -x := rfl
    rw [e1, e2, Int.ediv_neg, Int.emod_neg, key.1, key.2]
    simp [sg]
theorem wv_abs_lt {n : Bool} {xs : List Int} (hw : Wds xs) (h : chkW n xs = 0) : ((wv n xs).natAbs : Int) < Bp 2048 := by
  rw [wv_natAbs hw]; exact val_lt_len hw (chkW_zero.1 h).1
theorem quo_lt {n : Bool} {xs : List Int} (hw : Wds xs) (h : chkW n xs = 0) (b : Int) : ((wv n xs / b).natAbs : Int) < Bp 2048 := by
  have h1 := Int.natAbs_ediv_le_natAbs (wv n xs) b
  have h2 := wv_abs_lt hw h
  omega
theorem rem_lt {m : Bool} {ys : List Int} (hw : Wds ys) (h : chkW m ys = 0) (hy : ys ≠ []) (a : Int) : ((a % wv m ys).natAbs : Int) < Bp 2048 ∧ 0 ≤ a % wv m ys := by
  have h2 := wv_abs_lt hw h
  have h3 := val_pos hw (chkW_zero.1 h).2.1 hy
  have h4 : wv m ys ≠ 0 := by unfold wv; split <;> omega
  have h5 := Int.emod_nonneg a h4
  have h6 := Int.emod_lt a h4
  omega
end Q
