import Derived.Test.YtgjmlbcpjjpegaaNtC
/- The calls of package nat at numbers told by their values. Plain Lean. -/
set_option linter.unusedVariables false
set_option linter.unusedSimpArgs false
namespace Q
theorem nw_wds (v : Int) : Wds (nw v) := by rw [← nwd_nw]; exact nwd_wds v
theorem nw_tr (v : Int) : Tr (nw v) := by rw [← nwd_nw]; exact nwd_tr v
theorem val_nw {v : Int} (h : 0 ≤ v) : val (nw v) = v := by rw [← nwd_nw]; exact val_nwd h
theorem nw_len {v : Int} {n : Nat} (h : v < Bp n) (h0 : 0 ≤ v) : (nw v).length ≤ n := by rw [← nwd_nw]; exact nwd_len_le h h0
theorem nw_val {xs : List Int} (h : Wds xs) (t : Tr xs) : nw (val xs) = xs := by rw [← nwd_nw]; exact nwd_eq h t rfl
theorem nw_zero : nw 0 = [] := by rw [← nwd_nw]; exact nwd_zero
theorem nw_inj {a b : Int} (ha : 0 ≤ a) (hb : 0 ≤ b) : nw a = nw b ↔ a = b := by
  constructor
  · intro h
    rw [← val_nw ha, ← val_nw hb, h]
  · intro h; rw [h]
theorem nw_nil {v : Int} (h : 0 ≤ v) : nw v = [] ↔ v = 0 := by
  rw [← nw_zero]; exact nw_inj h (by omega)
theorem nw_len0 {v : Int} (h : 0 ≤ v) : (nw v).length = 0 ↔ v = 0 := by
  rw [← nw_nil h]; exact List.length_eq_zero_iff
theorem chk_nw {v : Int} (h0 : 0 ≤ v) (h : v < Bp 8192) : chk (nw v) = 0 := by
  have hl := nw_len h h0
  unfold chk
  rw [if_neg (by omega), if_pos (show tl (nw v) = (nw v).length from nw_tr v)]
theorem okw_nw {v : Int} {n : Nat} (h0 : 0 ≤ v) (h : v < Bp n) (hn : n ≤ 1000000) : okw (nw v) = true := okw_iff.2 ⟨Nat.le_trans (nw_len h h0) hn, nw_wds v⟩
theorem Bp_mul_lt {a b : Int} {m n : Nat} (a0 : 0 ≤ a) (b0 : 0 ≤ b) (ha : a < Bp m) (hb : b < Bp n) : a * b < Bp (m + n) := by
  rw [Bp_add]
  have h1 : a * b ≤ a * Bp n := Int.mul_le_mul_of_nonneg_left (by omega) a0
  have h2 : a * Bp n < Bp m * Bp n := Int.mul_lt_mul_of_pos_right ha (Bp_pos n)
  omega
theorem Bp_add_lt {a b : Int} {n : Nat} (ha : a < Bp n) (hb : b < Bp n) : a + b < Bp (n + 1) := by
  rw [Bp_succ]
  have := Bp_pos n
  omega
theorem toldC_ok {v : Int} (h0 : 0 ≤ v) (h : v < Bp 8192) : toldC v = (nw v, 0) := by
  unfold toldC
  rw [if_neg (by have := nw_len h h0; omega)]
theorem chk2_nw {a b : Int} (a0 : 0 ≤ a) (b0 : 0 ≤ b) (ha : a < Bp 8192) (hb : b < Bp 8192) : chk2 (nw a) (nw b) = 0 := by
  unfold chk2
  rw [chk_nw a0 ha, if_pos rfl, chk_nw b0 hb]
theorem addC_nw {a b : Int} (a0 : 0 ≤ a) (b0 : 0 ≤ b) (h : a + b < Bp 8192) : addC (nw a) (nw b) = (nw (a + b), 0) := by
  unfold addC
  rw [chk2_nw a0 b0 (by omega) (by omega), if_pos rfl, val_nw a0, val_nw b0, toldC_ok (by omega) h]
theorem subC_nw {a b : Int} (a0 : 0 ≤ a) (b0 : 0 ≤ b) (ha : a < Bp 8192) (hb : b < Bp 8192) : subC (nw a) (nw b) = if a < b then ([], 2) else (nw (a - b), 0) := by
  unfold subC
  rw [chk2_nw a0 b0 ha hb, if_pos rfl, val_nw a0, val_nw b0]
theorem mulC_nw {a b : Int} {m n : Nat} (a0 : 0 ≤ a) (b0 : 0 ≤ b) (ha : a < Bp m) (hb : b < Bp n) (hmn : m + n ≤ 8192) : mulC (nw a) (nw b) = (nw (a * b), 0) := by
  have h1 := Bp_mono (show m ≤ 8192 by omega)
  have h2 := Bp_mono (show n ≤ 8192 by omega)
  unfold mulC
  rw [chk2_nw a0 b0 (by omega) (by omega), if_pos rfl]
  by_cases hz : nw a = [] ∨ nw b = []
  · rw [if_pos hz]
    rcases hz with h | h
    · rw [nw_nil a0] at h; subst h; rw [Int.zero_mul, nw_zero]
    · rw [nw_nil b0] at h; subst h; rw [Int.mul_zero, nw_zero]
  · have l1 := nw_len ha a0
    have l2 := nw_len hb b0
    have h3 := Bp_mul_lt a0 b0 ha hb
    have h4 := Bp_mono (show m + n ≤ 8192 by omega)
    rw [if_neg hz, if_neg (by omega), val_nw a0, val_nw b0, toldC_ok (Int.mul_nonneg a0 b0) (by omega)]
theorem divC_nw {a b : Int} (a0 : 0 ≤ a) (b0 : 0 ≤ b) (ha : a < Bp 8192) (hb : b < Bp 8192) : divC (nw a) (nw b) = if b = 0 then ([], [], 7) else (nw (a / b), nw (a % b), 0) := by
  unfold divC
  rw [chk2_nw a0 b0 ha hb, if_pos rfl, val_nw a0, val_nw b0]
  by_cases h : b = 0
  · rw [if_pos h, if_pos ((nw_nil b0).2 h)]
  · rw [if_neg h, if_neg (fun e => h ((nw_nil b0).1 e))]
theorem gcdC_nw {a b : Int} (a0 : 0 ≤ a) (b0 : 0 ≤ b) (ha : a < Bp 8192) (hb : b < Bp 8192) : gcdC (nw a) (nw b) = (nw (gc a b), 0) := by
  unfold gcdC
  rw [chk2_nw a0 b0 ha hb, if_pos rfl, val_nw a0, val_nw b0]
theorem cmp_nw {a b : Int} (a0 : 0 ≤ a) (b0 : 0 ≤ b) : cmp (val (nw a)) (val (nw b)) = cmp a b := by rw [val_nw a0, val_nw b0]
end Q
