/- Words of 32 bits as lists of whole numbers: values, trimming, uniqueness. Plain Lean, no program in sight. -/
set_option linter.unusedVariables false
set_option linter.unusedSimpArgs false
namespace Q
/-- the word at a place (0 beyond the end) -/
def wd (xs : List Int) (i : Nat) : Int := xs.getD i 0
/-- the value of words, the lowest first -/
def val : List Int → Int
  | [] => 0
  | x :: xs => x + 4294967296 * val xs
/-- each is a word -/
def Wds (xs : List Int) : Prop := ∀ x ∈ xs, 0 ≤ x ∧ x < 4294967296
/-- how many words are left without noughts at the end -/
def tl : List Int → Nat
  | [] => 0
  | x :: xs => if tl xs = 0 then (if x = 0 then 0 else 1) else tl xs + 1
/-- 2^32 to a power -/
def Bp (n : Nat) : Int := 4294967296 ^ n

theorem Bp_zero : Bp 0 = 1 := rfl
theorem Bp_succ (n : Nat) : Bp (n + 1) = 4294967296 * Bp n := by simp only [Bp, Int.pow_succ]; omega
theorem Bp_pos (n : Nat) : 0 < Bp n := by
  induction n with
  | zero => decide
  | succ n ih => rw [Bp_succ]; omega
theorem Bp_add (m n : Nat) : Bp (m + n) = Bp m * Bp n := by
  unfold Bp; exact Int.pow_add ..

theorem wd_lt {xs : List Int} {i : Nat} (h : i < xs.length) : wd xs i = xs[i] := by simp [wd, h]
theorem wd_ge {xs : List Int} {i : Nat} (h : xs.length ≤ i) : wd xs i = 0 := by simp [wd, h]
theorem Wds.wd {xs : List Int} (h : Wds xs) (i : Nat) : 0 ≤ wd xs i ∧ wd xs i < 4294967296 := by
  by_cases hi : i < xs.length
  · rw [wd_lt hi]; exact h _ (List.getElem_mem hi)
  · rw [wd_ge (by omega)]; omega
theorem Wds.nil : Wds [] := fun _ h => by simp at h
theorem Wds.cons {x : Int} {xs : List Int} (h0 : 0 ≤ x) (h1 : x < 4294967296) (h : Wds xs) : Wds (x :: xs) := fun y hy => by
  rcases List.mem_cons.1 hy with rfl | hy
  · exact ⟨h0, h1⟩
  · exact h y hy
theorem Wds.tail {x : Int} {xs : List Int} (h : Wds (x :: xs)) : Wds xs := fun y hy => h y (List.mem_cons_of_mem _ hy)
theorem Wds.head {x : Int} {xs : List Int} (h : Wds (x :: xs)) : 0 ≤ x ∧ x < 4294967296 := h x List.mem_cons_self
theorem Wds.take {xs : List Int} (h : Wds xs) (n : Nat) : Wds (xs.take n) := fun y hy => h y (List.mem_of_mem_take hy)
theorem Wds.drop {xs : List Int} (h : Wds xs) (n : Nat) : Wds (xs.drop n) := fun y hy => h y (List.mem_of_mem_drop hy)
theorem Wds.append {xs ys : List Int} (h : Wds xs) (k : Wds ys) : Wds (xs ++ ys) := fun y hy => by
  rcases List.mem_append.1 hy with hy | hy
  · exact h y hy
  · exact k y hy
theorem Wds.set {xs : List Int} (h : Wds xs) (i : Nat) {x : Int} (h0 : 0 ≤ x) (h1 : x < 4294967296) : Wds (xs.set i x) := fun y hy => by
  rcases List.mem_or_eq_of_mem_set hy with hy | rfl
  · exact h y hy
  · exact ⟨h0, h1⟩
theorem Wds.zeros (n : Nat) : Wds (List.replicate n 0) := fun y hy => by rw [List.eq_of_mem_replicate hy]; omega

theorem val_append (a b : List Int) : val (a ++ b) = val a + Bp a.length * val b := by
  induction a with
  | nil => simp [val, Bp_zero]
  | cons x xs ih => simp only [List.cons_append, val, ih, List.length_cons, Bp_succ]; grind
theorem val_nonneg {l : List Int} (h : Wds l) : 0 ≤ val l := by
  induction l with
  | nil => simp [val]
  | cons x xs ih => have := ih h.tail; have := h.head; simp only [val]; omega
theorem val_lt {l : List Int} (h : Wds l) : val l < Bp l.length := by
  induction l with
  | nil => simp [val, Bp_zero]
  | cons x xs ih => have := ih h.tail; have := h.head; simp only [val, List.length_cons, Bp_succ]; omega
theorem val_zeros (n : Nat) : val (List.replicate n 0) = 0 := by
  induction n with
  | zero => rfl
  | succ n ih => simp [List.replicate_succ, val, ih]
theorem take_succ {xs : List Int} {k : Nat} (h : k < xs.length) : xs.take (k+1) = xs.take k ++ [wd xs k] := by
  rw [List.take_succ_eq_append_getElem h, wd_lt h]
theorem val_take_succ {xs : List Int} {k : Nat} (h : k < xs.length) : val (xs.take (k+1)) = val (xs.take k) + Bp k * wd xs k := by
  rw [take_succ h, val_append]; simp [val, Nat.min_eq_left (Nat.le_of_lt h)]
theorem val_take_ge {xs : List Int} {k : Nat} (h : xs.length ≤ k) : val (xs.take k) = val xs := by rw [List.take_of_length_le h]
/-- one step of a value's beginning, also behind the end -/
theorem val_take_step (xs : List Int) (k : Nat) : val (xs.take (k+1)) = val (xs.take k) + Bp k * wd xs k := by
  by_cases h : k < xs.length
  · exact val_take_succ h
  · rw [val_take_ge (by omega), val_take_ge (by omega), wd_ge (by omega)]; simp
theorem val_split (xs : List Int) (k : Nat) : val xs = val (xs.take k) + Bp k * val (xs.drop k) := by
  by_cases h : k ≤ xs.length
  · have := val_append (xs.take k) (xs.drop k)
    rw [List.take_append_drop] at this
    rw [this, List.length_take, Nat.min_eq_left h]
  · rw [List.drop_of_length_le (by omega), List.take_of_length_le (by omega)]; simp [val]
theorem drop_eq {xs : List Int} {k : Nat} (h : k < xs.length) : xs.drop k = wd xs k :: xs.drop (k+1) := by
  rw [List.drop_eq_getElem_cons h, wd_lt h]
theorem take_set_succ {zs : List Int} {i : Nat} (h : i < zs.length) (x : Int) : (zs.set i x).take (i+1) = zs.take i ++ [x] := by
  rw [take_succ (by simpa using h), List.take_set_of_le (Nat.le_refl i)]
  congr 2
  simp [wd, h]
theorem drop_set_succ (zs : List Int) (i : Nat) (x : Int) : (zs.set i x).drop (i+1) = zs.drop (i+1) := by
  rw [List.drop_set_of_lt (by omega)]
theorem val_take_set {zs : List Int} {i : Nat} (h : i < zs.length) (x : Int) : val ((zs.set i x).take (i+1)) = val (zs.take i) + Bp i * x := by
  rw [take_set_succ h, val_append]; simp [val, Nat.min_eq_left (Nat.le_of_lt h)]
theorem val_set {zs : List Int} {i : Nat} (h : i < zs.length) (x : Int) : val (zs.set i x) = val zs + Bp i * (x - wd zs i) := by
  have h1 := val_split (zs.set i x) (i+1)
  have h2 := val_split zs (i+1)
  rw [val_take_set h, drop_set_succ] at h1
  rw [val_take_succ h] at h2
  grind
theorem wd_set {zs : List Int} {i j : Nat} (x : Int) (h : i < zs.length) : wd (zs.set i x) j = if i = j then x else wd zs j := by
  unfold wd
  simp only [List.getD_eq_getElem?_getD, List.getElem?_set]
  split
  · subst_vars; simp
  · rfl
theorem wd_take {zs : List Int} {n i : Nat} (h : i < n) : wd (zs.take n) i = wd zs i := by
  unfold wd; simp [List.getD_eq_getElem?_getD, h]
theorem wd_drop (zs : List Int) (n i : Nat) : wd (zs.drop n) i = wd zs (n + i) := by
  unfold wd; simp [List.getD_eq_getElem?_getD]
theorem wd_append_left {a b : List Int} {i : Nat} (h : i < a.length) : wd (a ++ b) i = wd a i := by
  unfold wd; simp [List.getD_eq_getElem?_getD, List.getElem?_append_left h]
theorem wd_append_right {a b : List Int} {i : Nat} (h : a.length ≤ i) : wd (a ++ b) i = wd b (i - a.length) := by
  unfold wd; simp [List.getD_eq_getElem?_getD, List.getElem?_append_right h]
theorem wd_zeros (n i : Nat) : wd (List.replicate n 0) i = 0 := by
  unfold wd; simp only [List.getD_eq_getElem?_getD, List.getElem?_replicate]; split <;> rfl
/-! trimming -/
theorem tl_le (xs : List Int) : tl xs ≤ xs.length := by
  induction xs with
  | nil => simp [tl]
  | cons x xs ih => simp only [tl, List.length_cons]; split <;> (try split) <;> omega
theorem tl_snoc (xs : List Int) (x : Int) : tl (xs ++ [x]) = if x = 0 then tl xs else xs.length + 1 := by
  induction xs with
  | nil => simp [tl]
  | cons y ys ih => simp only [List.cons_append, tl, ih, List.length_cons]; split <;> simp
theorem tl_take_succ {xs : List Int} {k : Nat} (h : k < xs.length) : tl (xs.take (k+1)) = if wd xs k = 0 then tl (xs.take k) else k + 1 := by
  rw [take_succ h, tl_snoc, List.length_take, Nat.min_eq_left (Nat.le_of_lt h)]
/-- the words without noughts at the end -/
def trim (xs : List Int) : List Int := xs.take (tl xs)
/-- without noughts at the end -/
def Tr (xs : List Int) : Prop := tl xs = xs.length
theorem trim_cons (x : Int) (xs : List Int) : trim (x :: xs) = if trim xs = [] then (if x = 0 then [] else [x]) else x :: trim xs := by
  unfold trim
  by_cases h : tl xs = 0
  · simp only [tl, h, if_true, List.take_zero]
    split <;> simp
  · have h2 : xs.take (tl xs) ≠ [] := by
      intro e
      have := congrArg List.length e
      rw [List.length_take, Nat.min_eq_left (tl_le xs)] at this
      simp at this; omega
    simp only [tl, h, if_false, h2]
    rfl
theorem val_trim (xs : List Int) : val (trim xs) = val xs := by
  induction xs with
  | nil => rfl
  | cons x xs ih =>
    rw [trim_cons]
    split
    · rename_i h; rw [h] at ih; simp only [val] at ih; split <;> simp only [val] <;> omega
    · simp only [val, ih]
theorem len_trim (xs : List Int) : (trim xs).length = tl xs := by unfold trim; rw [List.length_take, Nat.min_eq_left (tl_le xs)]
theorem Wds.trim {xs : List Int} (h : Wds xs) : Wds (trim xs) := h.take _
theorem tl_trim (xs : List Int) : tl (trim xs) = tl xs := by
  induction xs with
  | nil => rfl
  | cons x xs ih =>
    have hl := len_trim xs
    rw [trim_cons]
    split
    · rename_i h; rw [h] at hl; simp only [tl, ← hl, List.length_nil, if_true]; split <;> simp_all [tl]
    · rename_i h; simp only [tl, ih]
theorem Tr_trim (xs : List Int) : Tr (trim xs) := by unfold Tr; rw [tl_trim, len_trim]
theorem Tr.trim {xs : List Int} (h : Tr xs) : trim xs = xs := by unfold Q.trim; rw [h, List.take_length]
theorem Tr.nil : Tr [] := rfl
theorem Tr.tail {x : Int} {xs : List Int} (h : Tr (x :: xs)) : Tr xs := by
  unfold Tr at *
  have := tl_le xs
  simp only [tl, List.length_cons] at h
  split at h
  · split at h <;> omega
  · omega
theorem Tr_iff (xs : List Int) : Tr xs ↔ (xs = [] ∨ wd xs (xs.length - 1) ≠ 0) := by
  rcases List.eq_nil_or_concat xs with rfl | ⟨ys, y, rfl⟩
  · simp [Tr.nil]
  · unfold Tr
    have : wd (ys ++ [y]) ((ys ++ [y]).length - 1) = y := by simp [wd]
    rw [List.concat_eq_append, tl_snoc, this]
    have := tl_le ys
    simp only [List.length_append, List.length_cons, List.length_nil]
    split <;> simp_all
    omega
theorem val_pos {xs : List Int} (h : Wds xs) (ht : Tr xs) (hn : xs ≠ []) : 0 < val xs := by
  induction xs with
  | nil => exact absurd rfl hn
  | cons x xs ih =>
    have h0 := h.head
    simp only [val]
    by_cases e : xs = []
    · subst e
      have : x ≠ 0 := by
        rintro rfl
        simp [Tr, tl] at ht
      simp only [val]; omega
    · have := ih h.tail ht.tail e; omega
/-- words without noughts at the end are told by their value -/
theorem val_inj {xs ys : List Int} (hx : Wds xs) (hy : Wds ys) (tx : Tr xs) (ty : Tr ys) (h : val xs = val ys) : xs = ys := by
  induction xs generalizing ys with
  | nil =>
    cases ys with
    | nil => rfl
    | cons y ys => have := val_pos hy ty (by simp); simp [val] at h this; omega
  | cons x xs ih =>
    cases ys with
    | nil => have := val_pos hx tx (by simp); simp [val] at h this; omega
    | cons y ys =>
      have h1 := hx.head
      have h2 := hy.head
      have h3 := val_nonneg hx.tail
      have h4 := val_nonneg hy.tail
      simp only [val] at h
      have : x = y := by omega
      have : val xs = val ys := by omega
      rw [ih hx.tail hy.tail tx.tail ty.tail this]
      subst x; rfl
theorem val_ge {xs : List Int} (h : Wds xs) (ht : Tr xs) (hn : xs ≠ []) : Bp (xs.length - 1) ≤ val xs := by
  have h1 := (Tr_iff xs).1 ht
  have hl : xs.length ≠ 0 := by simpa using hn
  have h2 := h.wd (xs.length - 1)
  have h3 : wd xs (xs.length - 1) ≠ 0 := by simpa [hn] using h1
  have h4 := val_split xs (xs.length - 1)
  rw [drop_eq (by omega), show xs.length - 1 + 1 = xs.length by omega, List.drop_length] at h4
  simp only [val] at h4
  have h5 := val_nonneg (h.take (xs.length - 1))
  have h6 := Bp_pos (xs.length - 1)
  rw [h4]
  have h7 : Bp (xs.length - 1) * 1 ≤ Bp (xs.length - 1) * (wd xs (xs.length - 1) + 4294967296 * 0) := Int.mul_le_mul_of_nonneg_left (by omega) (by omega)
  omega
/-- of two numbers in their one form the longer one is the greater -/
theorem val_lt_of_len {xs ys : List Int} (hx : Wds xs) (hy : Wds ys) (ty : Tr ys) (h : xs.length < ys.length) : val xs < val ys := by
  have h1 := val_lt hx
  have h2 := val_ge hy ty (by intro e; simp [e] at h)
  have h3 : Bp xs.length ≤ Bp (ys.length - 1) := by
    have : Bp (xs.length + (ys.length - 1 - xs.length)) = Bp xs.length * Bp (ys.length - 1 - xs.length) := Bp_add ..
    rw [show xs.length + (ys.length - 1 - xs.length) = ys.length - 1 by omega] at this
    rw [this]
    have h5 := Bp_pos xs.length
    have h6 := Bp_pos (ys.length - 1 - xs.length)
    have : Bp xs.length * 1 ≤ Bp xs.length * Bp (ys.length - 1 - xs.length) := Int.mul_le_mul_of_nonneg_left (by omega) (by omega)
    omega
  omega

/-! comparing -/
theorem Bp_mono {m n : Nat} (h : m ≤ n) : Bp m ≤ Bp n := by
  have := Bp_add m (n - m)
  rw [show m + (n - m) = n by omega] at this
  rw [this]
  have h1 := Bp_pos m
  have h2 := Bp_pos (n - m)
  have : Bp m * 1 ≤ Bp m * Bp (n - m) := Int.mul_le_mul_of_nonneg_left (by omega) (by omega)
  omega
theorem val_take_lt {xs : List Int} (h : Wds xs) (k : Nat) : val (xs.take k) < Bp k := by
  have := val_lt (h.take k)
  have h2 := Bp_mono (List.length_take_le k xs)
  omega
theorem wd_nil (i : Nat) : wd [] i = 0 := by simp [wd]
theorem wd_cons_succ (x : Int) (xs : List Int) (i : Nat) : wd (x :: xs) (i + 1) = wd xs i := by simp [wd]
theorem wd_cons_zero (x : Int) (xs : List Int) : wd (x :: xs) 0 = x := by simp [wd]
theorem val_congr {a b : List Int} (h : ∀ i, wd a i = wd b i) : val a = val b := by
  induction a generalizing b with
  | nil =>
    induction b with
    | nil => rfl
    | cons y ys ih =>
      have h0 := h 0
      rw [wd_nil, wd_cons_zero] at h0
      have := ih (fun i => by have := h (i + 1); rwa [wd_cons_succ, wd_nil] at this)
      simp only [val] at this ⊢; omega
  | cons x xs ih =>
    cases b with
    | nil =>
      have h0 := h 0
      rw [wd_nil, wd_cons_zero] at h0
      have := ih (b := []) (fun i => by have := h (i + 1); rwa [wd_cons_succ, wd_nil] at this)
      simp only [val] at this ⊢; omega
    | cons y ys =>
      have h0 := h 0
      rw [wd_cons_zero, wd_cons_zero] at h0
      have := ih (b := ys) (fun i => by have := h (i + 1); rwa [wd_cons_succ, wd_cons_succ] at this)
      simp only [val]; omega
theorem val_lt_at {a b : List Int} (ha : Wds a) (hb : Wds b) (k : Nat) (h : ∀ i, k < i → wd a i = wd b i) (hk : wd a k < wd b k) : val a < val b := by
  have h1 := val_split a (k + 1)
  have h2 := val_split b (k + 1)
  have h3 : val (a.drop (k + 1)) = val (b.drop (k + 1)) := val_congr (fun i => by rw [wd_drop, wd_drop]; exact h _ (by omega))
  rw [val_take_step] at h1 h2
  have h4 := val_take_lt ha k
  have h5 := val_nonneg (hb.take k)
  have h6 := Bp_pos k
  have h7 : Bp k * (wd a k + 1) ≤ Bp k * wd b k := Int.mul_le_mul_of_nonneg_left (by omega) (by omega)
  rw [h3] at h1
  rw [Int.mul_add, Int.mul_one] at h7
  omega
/-- -1, 0, 1 -/
def cmp (x y : Int) : Int := if x < y then -1 else if x = y then 0 else 1
theorem cmp_lt {x y : Int} (h : x < y) : cmp x y = -1 := by simp [cmp, h]
theorem cmp_gt {x y : Int} (h : y < x) : cmp x y = 1 := by unfold cmp; rw [if_neg (by omega), if_neg (by omega)]
theorem cmp_eq {x y : Int} (h : x = y) : cmp x y = 0 := by subst h; simp [cmp]
/-- why words are no natural number -/
def chk (xs : List Int) : Int := if xs.length > 8192 then 3 else if tl xs = xs.length then 0 else 11
theorem tl_last {xs : List Int} (h : 0 < xs.length) : tl xs = xs.length ↔ wd xs (xs.length - 1) ≠ 0 := by
  have := Tr_iff xs
  unfold Tr at this
  rw [this]
  constructor
  · rintro (rfl | h2)
    · simp at h
    · exact h2
  · exact .inr

/-! the words of a value -/
open Classical in
/-- the words of a value, without noughts at the end -/
noncomputable def nwd (v : Int) : List Int := if h : ∃ l, Wds l ∧ Tr l ∧ val l = v then Classical.choose h else []
theorem nwd_eq {l : List Int} {v : Int} (h : Wds l) (t : Tr l) (e : val l = v) : nwd v = l := by
  have hex : ∃ l, Wds l ∧ Tr l ∧ val l = v := ⟨l, h, t, e⟩
  unfold nwd
  rw [dif_pos hex]
  have hs := Classical.choose_spec hex
  exact val_inj hs.1 h hs.2.1 t (hs.2.2.trans e.symm)
theorem nwd_trim {l : List Int} {v : Int} (h : Wds l) (e : val l = v) : trim l = nwd v := (nwd_eq h.trim (Tr_trim l) ((val_trim l).trans e)).symm
theorem nwd_wds (v : Int) : Wds (nwd v) := by
  unfold nwd
  split
  · rename_i h; exact (Classical.choose_spec h).1
  · exact Wds.nil
theorem nwd_tr (v : Int) : Tr (nwd v) := by
  unfold nwd
  split
  · rename_i h; exact (Classical.choose_spec h).2.1
  · exact Tr.nil
theorem nwd_zero : nwd 0 = [] := nwd_eq Wds.nil Tr.nil rfl
theorem nwd_len_le {v : Int} {n : Nat} (h : v < Bp n) (h0 : 0 ≤ v) : (nwd v).length ≤ n := by
  by_cases hex : ∃ l, Wds l ∧ Tr l ∧ val l = v
  · obtain ⟨l, a, b, c⟩ := hex
    rw [nwd_eq a b c]
    by_cases e : l = []
    · subst e; simp
    · have h1 := val_ge a b e
      have h2 : Bp (l.length - 1) < Bp n := by omega
      have h3 : ¬ n ≤ l.length - 1 := fun hn => by have := Bp_mono hn; omega
      have : l.length ≠ 0 := by simpa using e
      omega
  · unfold nwd; rw [dif_neg hex]; simp
/-- a value that words have -/
theorem ex_words (v : Nat) : ∃ l, Wds l ∧ Tr l ∧ val l = (v : Int) := by
  induction v using Nat.strongRecOn with
  | ind v ih =>
    by_cases h : v = 0
    · subst h; exact ⟨[], Wds.nil, Tr.nil, rfl⟩
    · obtain ⟨l, h1, h2, h3⟩ := ih (v / 4294967296) (by omega)
      refine ⟨(v % 4294967296 : Nat) :: l, Wds.cons (by omega) (by omega) h1, ?_, by simp only [val]; omega⟩
      unfold Tr at *
      simp only [tl, List.length_cons]
      split
      · rename_i h4
        have : l = [] := List.eq_nil_of_length_eq_zero (by omega)
        subst this
        simp only [val] at h3
        rw [if_neg (by omega)]; simp
      · omega
theorem val_nwd {v : Int} (h : 0 ≤ v) : val (nwd v) = v := by
  obtain ⟨n, rfl⟩ := Int.eq_ofNat_of_zero_le h
  obtain ⟨l, a, b, c⟩ := ex_words n
  rw [nwd_eq a b c]; exact c

/-! what the calls answer: words and an error -/
/-- the first one's error, else the second one's -/
def chk2 (xs ys : List Int) : Int := if chk xs = 0 then chk ys else chk xs
noncomputable def told (v : Int) : List Int × Int := if 8192 < (nwd v).length then ([], 3) else (nwd v, 0)
noncomputable def addS (xs ys : List Int) : List Int × Int := if chk2 xs ys = 0 then told (val xs + val ys) else ([], chk2 xs ys)
noncomputable def subS (xs ys : List Int) : List Int × Int := if chk2 xs ys = 0 then (if val xs < val ys then ([], 2) else (nwd (val xs - val ys), 0)) else ([], chk2 xs ys)
noncomputable def mulS (xs ys : List Int) : List Int × Int :=
  if chk2 xs ys = 0 then (if xs = [] ∨ ys = [] then ([], 0) else if 8193 < xs.length + ys.length then ([], 3) else told (val xs * val ys)) else ([], chk2 xs ys)
theorem chk_zero {xs : List Int} : chk xs = 0 ↔ xs.length ≤ 8192 ∧ Tr xs := by
  unfold chk Tr
  split
  · constructor
    · intro h; simp at h
    · rintro ⟨h, _⟩; omega
  · split
    · constructor
      · intro _; exact ⟨by omega, by assumption⟩
      · intro _; rfl
    · constructor
      · intro h; simp at h
      · rintro ⟨_, h⟩; contradiction
theorem chk2_zero {xs ys : List Int} (h : chk2 xs ys = 0) : xs.length ≤ 8192 ∧ Tr xs ∧ ys.length ≤ 8192 ∧ Tr ys := by
  unfold chk2 at h
  split at h
  · rename_i h1
    exact ⟨(chk_zero.1 h1).1, (chk_zero.1 h1).2, (chk_zero.1 h).1, (chk_zero.1 h).2⟩
  · rename_i h1; exact absurd h h1
/-! carries -/
theorem carry_step (k : Nat) (s : Int) : Bp k * (s % 4294967296) + Bp (k + 1) * (s / 4294967296) = Bp k * s := by
  have h : s = s % 4294967296 + 4294967296 * (s / 4294967296) := by omega
  rw [Bp_succ]
  generalize s % 4294967296 = a at h
  generalize s / 4294967296 = b at h
  subst h
  grind
theorem add_step {zs xs ys : List Int} {k : Nat} {c : Int} (hk : k < zs.length) (h : val (zs.take k) + Bp k * c = val (xs.take k) + val (ys.take k)) (s : Int) (hs : s = c + wd xs k + wd ys k) :
    val ((zs.set k (s % 4294967296)).take (k + 1)) + Bp (k + 1) * (s / 4294967296) = val (xs.take (k + 1)) + val (ys.take (k + 1)) := by
  rw [val_take_set hk, val_take_step xs, val_take_step ys]
  have := carry_step k s
  have e : Bp k * s = Bp k * c + Bp k * wd xs k + Bp k * wd ys k := by rw [hs]; grind
  omega

theorem borrow_step (k : Nat) (t : Int) (h0 : -4294967296 ≤ t) (h1 : t < 4294967296) : Bp k * (t % 4294967296) - Bp (k + 1) * ((t % 18446744073709551616) / 9223372036854775808) = Bp k * t := by
  have h : t = t % 4294967296 - 4294967296 * ((t % 18446744073709551616) / 9223372036854775808) := by omega
  rw [Bp_succ]
  generalize t % 4294967296 = a at h
  generalize (t % 18446744073709551616) / 9223372036854775808 = b at h
  subst h
  grind
theorem less_step {zs xs ys : List Int} {k : Nat} {c : Int} (hk : k < zs.length) (h : val (zs.take k) - Bp k * c = val (xs.take k) - val (ys.take k)) (t : Int) (ht : t = wd xs k - c - wd ys k) (h0 : -4294967296 ≤ t) (h1 : t < 4294967296) :
    val ((zs.set k (t % 4294967296)).take (k + 1)) - Bp (k + 1) * ((t % 18446744073709551616) / 9223372036854775808) = val (xs.take (k + 1)) - val (ys.take (k + 1)) := by
  rw [val_take_set hk, val_take_step xs, val_take_step ys]
  have := borrow_step k t h0 h1
  have e : Bp k * t = Bp k * wd xs k - Bp k * c - Bp k * wd ys k := by rw [ht]; grind
  omega
end Q
