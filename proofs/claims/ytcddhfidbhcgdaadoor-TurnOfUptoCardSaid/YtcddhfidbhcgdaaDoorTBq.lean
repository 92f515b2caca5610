import Derived.Test.YtcddhfidbhcgdaaDoorTBo
/- TurnOf as a plain law: what the reference reads. -/
set_option linter.unusedVariables false
set_option linter.unusedSimpArgs false
namespace Go.Proofs.YtcddhfidbhcgdaaDoor.TG
open Go Go.RowKit Go.Proofs.YtcddhfidbhcgdaaDoor.PK8 Go.Proofs.YtcddhfidbhcgdaaDoorW.PrintWords
theorem bt_list (s : ByteArray) (l : List UInt8) (c : UInt8) (r : List UInt8) (h : s.toList = l ++ c :: r) : bt s (l.length : Int) = c.toNat ∧ (l.length : Int) < (s.size : Int) := by
  have hd : s.data.toList = l ++ c :: r := by rw [← ByteArray.toList_eq, h]
  have hz : s.size = (l ++ c :: r).length := by
    rw [← hd, Array.length_toList]; rfl
  have hlt : l.length < s.size := by rw [hz]; simp
  have hi : ((l.length : Int)).toNat = l.length := by omega
  refine ⟨?_, by omega⟩
  unfold bt
  simp only [hi]
  rw [dif_pos hlt]
  have he : s[l.length]'hlt = c := by
    show s.data[l.length]'hlt = c
    rw [← Array.getElem_toList]
    simp [hd]
  rw [he]
theorem size_list (s : ByteArray) : (s.size : Int) = (s.toList.length : Int) := by
  rw [ByteArray.toList_eq, Array.length_toList]; rfl
def num (ds : List UInt8) (n : Int) : Int := ds.foldl (fun a c => 10 * a + (c.toNat - 48 : Int)) n
theorem num_app (a b : List UInt8) (n : Int) : num (a ++ b) n = num b (num a n) := by
  unfold num
  rw [List.foldl_append]
theorem num_dec (k : Nat) : ∀ u : Nat, u < 10 ^ k → num (Lib.decDigits u) 0 = u := by
  induction k with
  | zero =>
    intro u h
    rw [Nat.pow_zero] at h
    obtain rfl : u = 0 := by omega
    rw [Dig.dec_small (by omega)]
    rfl
  | succ k ih =>
    intro u h
    rw [Nat.pow_succ] at h
    by_cases h1 : u < 10
    · rw [Dig.dec_small h1]
      have := Dig.dg_one u h1
      show 10 * (0 : Int) + ((UInt8.ofNat (48 + u)).toNat - 48 : Int) = u
      omega
    · rw [Dig.dec_step h1, num_app, ih (u / 10) (by omega)]
      have := Dig.dg_one (u % 10) (by omega)
      show 10 * ((u / 10 : Nat) : Int) + ((UInt8.ofNat (48 + u % 10)).toNat - 48 : Int) = u
      omega
theorem num_bd (ds : List UInt8) (hd : Dig.Dg ds) (hl : ds.length ≤ 12) : ∀ p q, ds = p ++ q → 0 ≤ num p 0 ∧ num p 0 ≤ 1000000000000 := by
  have hg : ∀ (p : List UInt8), Dig.Dg p → ∀ n : Int, 0 ≤ n → 0 ≤ num p n ∧ num p n + 1 ≤ (n + 1) * 10 ^ p.length := by
    intro p
    induction p with
    | nil => intro _ n h0; simp [num]; exact h0
    | cons c p ih =>
      intro hp n h0
      have hc := hp c (by simp)
      have h1 := ih (fun x hx => hp x (by simp [hx])) (10 * n + (c.toNat - 48 : Int)) (by omega)
      refine ⟨h1.1, Int.le_trans h1.2 ?_⟩
      rw [List.length_cons, Int.pow_succ, ← Int.mul_assoc, Int.mul_right_comm]
      exact Int.mul_le_mul_of_nonneg_right (by omega) (Int.le_of_lt (Int.pow_pos (by omega)))
  intro p q hpq
  have hp : Dig.Dg p := fun x hx => hd x (by rw [hpq]; simp [hx])
  have hlen : p.length ≤ 12 := by
    rw [hpq, List.length_append] at hl
    omega
  have h := hg p hp 0 (by omega)
  have h10 : (10 : Int) ^ p.length ≤ 10 ^ 12 := by
    have : (10 : Nat) ^ p.length ≤ 10 ^ 12 := Nat.pow_le_pow_right (by omega) hlen
    exact_mod_cast this
  refine ⟨h.1, ?_⟩
  have h2 := h.2
  rw [Int.zero_add, Int.one_mul] at h2
  omega
/-- the reference's number ends -/
theorem number_total (x : ByteArray) (hx : x.size ≤ 1048576) (e : Nat) : ∀ (k : Nat) (n j : Int), 0 ≤ j → 12 - j ≤ e → 2 * e + 4 ≤ k → ∃ u, slackwaterref08_number.l0 k x n j = some u := by
  induction e with
  | zero =>
    intro k n j j0 hj hk
    obtain ⟨k, rfl⟩ : ∃ i, k = i + 2 := ⟨k - 2, by omega⟩
    have hd : decide (j < 12) = false := decide_eq_false (by omega)
    simp only [slackwaterref08_number.l0, hd]
    by_cases q : j < (x.size : Int)
    · rw [if_pos q]; simp [slackwaterref08_number.j1]
    · rw [if_neg q]; simp [slackwaterref08_number.j1]
  | succ e ih =>
    intro k n j j0 hj hk
    obtain ⟨k, rfl⟩ : ∃ i, k = i + 2 := ⟨k - 2, by omega⟩
    simp only [slackwaterref08_number.l0]
    by_cases q : j < (x.size : Int)
    · rw [if_pos q]
      by_cases q2 : j < 12
      · rw [decide_eq_true q2]
        simp only [slackwaterref08_number.j1]
        rw [if_pos trivial, if_pos j0, if_pos q, wrap64_in (x := j + 1) (by omega) (by omega)]
        by_cases q3 : bt x j ≥ 48
        · rw [if_pos q3]
          by_cases q4 : bt x j ≤ 57
          · rw [if_pos q4]; exact ih k _ (j + 1) (by omega) (by omega) (by omega)
          · rw [if_neg q4]; exact ih k _ (j + 1) (by omega) (by omega) (by omega)
        · rw [if_neg q3]; exact ih k _ (j + 1) (by omega) (by omega) (by omega)
      · rw [decide_eq_false q2]
        simp [slackwaterref08_number.j1]
    · rw [if_neg q]
      simp [slackwaterref08_number.j1]
theorem number_at (x : ByteArray) : ∀ (ds l : List UInt8) (k : Nat) (n : Int), x.toList = l ++ ds → Dig.Dg ds → l.length + ds.length ≤ 12 → 0 ≤ n → (∀ p q, ds = p ++ q → 0 ≤ num p n ∧ num p n ≤ 1000000000000) → 2 * ds.length + 4 ≤ k →
    slackwaterref08_number.l0 k x n l.length = some (num ds n)
  | [], l, k, n, h, hd, hl, n0, hp, hk => by
    obtain ⟨k, rfl⟩ : ∃ i, k = i + 2 := ⟨k - 2, by omega⟩
    simp only [slackwaterref08_number.l0]
    rw [if_neg]
    · simp [slackwaterref08_number.j1, num]
    · rw [size_list, h]; simp
  | c :: ds, l, k, n, h, hd, hl, n0, hp, hk => by
    simp only [List.length_cons] at hl hk
    obtain ⟨k, rfl⟩ : ∃ i, k = i + 2 := ⟨k - 2, by omega⟩
    obtain ⟨hb, hlt⟩ := bt_list x l c ds h
    have hc := hd c (by simp)
    have h1 := hp [c] ds rfl
    have hn1 : num [c] n = 10 * n + (c.toNat - 48 : Int) := rfl
    rw [hn1] at h1
    simp only [slackwaterref08_number.l0]
    rw [if_pos hlt, decide_eq_true (by omega)]
    simp only [slackwaterref08_number.j1]
    rw [if_pos trivial, if_pos (by omega), if_pos hlt, hb, if_pos (by omega), if_pos (by omega), wrap64_in (x := (l.length : Int) + 1) (by omega) (by omega), wrap64_in (x := 10 * n) (by omega) (by omega), show ((c.toNat : Int) - 48) % 256 = c.toNat - 48 by omega, wrap64_in (by omega) (by omega)]
    have e : ((l.length : Int) + 1) = ((l ++ [c]).length : Nat) := by simp
    rw [e, number_at x ds (l ++ [c]) k (10 * n + (c.toNat - 48 : Int)) (by rw [h]; simp) (fun y hy => hd y (by simp [hy])) (by rw [List.length_append, List.length_singleton]; omega) h1.1 (fun p q hpq => hp (c :: p) q (by rw [hpq]; rfl)) (by omega)]
    rfl
theorem number_dec (k : Nat) (hk : 100 ≤ k) (x : ByteArray) (v : Int) (v0 : 0 ≤ v) (v1 : v ≤ 4294967296) (h : x.toList = Lib.itoa v) : slackwaterref08_number.f k x = some v := by
  have hd := Dig.dec_dg v.toNat
  have e := Dig.itoa_dec v0
  have h4 := len10 v0 v1
  rw [← e] at hd
  unfold slackwaterref08_number.f
  have hA := number_at x (Lib.itoa v) [] k 0 h hd (by simp; omega) (by omega) (num_bd _ hd (by omega)) (by omega)
  have hn := num_dec 10 v.toNat (by omega)
  rw [← e] at hn
  rw [hn] at hA
  rw [show ((([] : List UInt8).length : Nat) : Int) = 0 from rfl] at hA
  rw [hA]
  congr 1
  omega
theorem number_is (k : Nat) (hk : 100 ≤ k) (x : ByteArray) (hx : x.size ≤ 1048576) : ∃ u, slackwaterref08_number.f k x = some u := number_total x hx 12 k 0 0 (by omega) (by omega) (by omega)
theorem ext_size (s : ByteArray) (a b : Nat) : (s.extract a b).size ≤ s.size := by
  rw [ByteArray.size_extract]; omega
theorem ext_list (s : ByteArray) (a b : Nat) : (s.extract a b).toList = (s.toList.take b).drop a := by
  rw [ByteArray.toList_eq, ByteArray.toList_eq, ByteArray.data_extract, Array.toList_extract, List.extract_eq_take_drop, List.drop_take]
theorem j1_is (k : Nat) (hk : big + 1 ≤ k) (s : ByteArray) (hs : s.size ≤ 1048576) (j : Int) (j0 : 0 ≤ j) (j1 : j ≤ s.size) : slackwaterref08_Parse.j1 k s j = some (0, 0, 180) ∨ ∃ p u, Ok p u ∧ slackwaterref08_Parse.j1 k s j = some (p, u, 0) ∧ s.toList = txt p u := by
  obtain ⟨k, rfl⟩ : ∃ i, k = i + 1 := ⟨k - 1, by omega⟩
  have hb := big10 (k := k) (by omega)
  have fin : ∀ p u : Int, ((slackwaterref08_Print.f k p u).bind fun r => if r.2 = 0 then (if r.1.toList = s.toList then some (p, u, (0 : Int)) else some (0, 0, 180)) else some (0, 0, 180)) = some (0, 0, 180) ∨ (Ok p u ∧ ((slackwaterref08_Print.f k p u).bind fun r => if r.2 = 0 then (if r.1.toList = s.toList then some (p, u, (0 : Int)) else some (0, 0, 180)) else some (0, 0, 180)) = some (p, u, 0) ∧ s.toList = txt p u) := by
    intro p u
    by_cases h : Ok p u
    · obtain ⟨x, hx, hl⟩ := rprint_ok k (by omega) h
      rw [hx, Option.bind_some]
      simp only [if_true, reduceIte]
      by_cases hq : x.toList = s.toList
      · rw [if_pos hq]
        exact .inr ⟨h, rfl, by rw [← hq, hl]⟩
      · rw [if_neg hq]
        exact .inl rfl
    · obtain ⟨e, he, hx⟩ := rprint_bad k (by omega) h
      rw [hx, Option.bind_some]
      simp only
      rw [if_neg he]
      exact .inl rfl
  obtain ⟨p, hp⟩ := number_is k (by omega) (s.extract 0 j.toNat) (Nat.le_trans (ext_size _ _ _) hs)
  simp only [slackwaterref08_Parse.j1]
  rw [if_pos j0, if_pos j1, hp, Option.bind_some]
  by_cases q : j < (s.size : Int)
  · obtain ⟨u, hu⟩ := number_is k (by omega) (s.extract (j + 1).toNat s.size) (Nat.le_trans (ext_size _ _ _) hs)
    rw [if_pos q, wrap64_in (x := j + 1) (by omega) (by omega), if_pos (by omega), if_pos (by omega), hu, Option.bind_some]
    rcases fin p u with h | ⟨h1, h2, h3⟩
    · exact .inl h
    · exact .inr ⟨p, u, h1, h2, h3⟩
  · rw [if_neg q]
    rcases fin p 0 with h | ⟨h1, h2, h3⟩
    · exact .inl h
    · exact .inr ⟨p, 0, h1, h2, h3⟩
theorem l0_is (s : ByteArray) (hs : s.size ≤ 1048576) (e : Nat) : ∀ (k : Nat) (j : Int), 0 ≤ j → j ≤ s.size → s.size - j = e → big + e + 2 ≤ k → slackwaterref08_Parse.l0 k s j = some (0, 0, 180) ∨ ∃ p u, Ok p u ∧ slackwaterref08_Parse.l0 k s j = some (p, u, 0) ∧ s.toList = txt p u := by
  induction e with
  | zero =>
    intro k j j0 j1 hj hk
    obtain ⟨k, rfl⟩ : ∃ i, k = i + 1 := ⟨k - 1, by omega⟩
    simp only [slackwaterref08_Parse.l0]
    rw [if_neg (by omega)]
    exact j1_is k (by omega) s hs j j0 j1
  | succ e ih =>
    intro k j j0 j1 hj hk
    obtain ⟨k, rfl⟩ : ∃ i, k = i + 1 := ⟨k - 1, by omega⟩
    simp only [slackwaterref08_Parse.l0]
    rw [if_pos (by omega), if_pos j0]
    by_cases q : bt s j = 47
    · rw [if_pos q]
      exact j1_is k (by omega) s hs j j0 j1
    · rw [if_neg q, wrap64_in (by omega) (by omega)]
      exact ih k (j + 1) (by omega) (by omega) (by omega) (by omega)
def huge : Nat := 36893488147439103232
theorem huge_big {k : Nat} (hk : huge ≤ k) : ∃ z, big + z ≤ k ∧ 1048586 ≤ z := ⟨k - big, by unfold huge at hk; unfold big; omega, by unfold huge at hk; unfold big; omega⟩
theorem huge_bg {k : Nat} (hk : huge ≤ k) : big ≤ k := by unfold huge at hk; unfold big; omega
theorem rparse_is (k : Nat) (hk : huge ≤ k) (s : ByteArray) (hs : s.size ≤ 1048576) : slackwaterref08_Parse.f k s = some (0, 0, 180) ∨ ∃ p u, Ok p u ∧ slackwaterref08_Parse.f k s = some (p, u, 0) ∧ s.toList = txt p u := by
  obtain ⟨z, hb, hz1⟩ := huge_big hk
  exact l0_is s hs s.size k 0 (Int.le_refl 0) (Int.natCast_nonneg _) (Int.sub_zero _) (by omega)
/-- the stroke is found -/
theorem l0_at (s : ByteArray) (hs : s.size ≤ 1048576) : ∀ (ds l : List UInt8) (r : List UInt8) (k : Nat), s.toList = l ++ (ds ++ 47 :: r) → (∀ c ∈ ds, c ≠ 47) → ds.length + 1 ≤ k →
    slackwaterref08_Parse.l0 k s l.length = slackwaterref08_Parse.j1 (k - (ds.length + 1)) s ((l.length + ds.length : Nat) : Int)
  | [], l, r, k, h, hd, hk => by
    obtain ⟨k, rfl⟩ : ∃ i, k = i + 1 := ⟨k - 1, by simp at hk; omega⟩
    obtain ⟨hb, hlt⟩ := bt_list s l 47 r (by rw [h]; rfl)
    simp only [slackwaterref08_Parse.l0]
    rw [if_pos hlt, if_pos (by omega), hb, if_pos (by decide)]
    rfl
  | c :: ds, l, r, k, h, hd, hk => by
    simp only [List.length_cons] at hk
    obtain ⟨k, rfl⟩ : ∃ i, k = i + 1 := ⟨k - 1, by omega⟩
    obtain ⟨hb, hlt⟩ := bt_list s l c (ds ++ 47 :: r) (by rw [h]; rfl)
    have hc : ¬ ((c.toNat : Int) = 47) := by
      intro e
      refine hd c (by simp) ?_
      have e' : c.toNat = (47 : UInt8).toNat := by show c.toNat = 47; omega
      exact UInt8.toNat_inj.1 e'
    have hz := size_list s
    simp only [slackwaterref08_Parse.l0]
    rw [if_pos hlt, if_pos (by omega), hb, if_neg hc, wrap64_in (by omega) (by omega)]
    have e : ((l.length : Int) + 1) = ((l ++ [c]).length : Nat) := by simp
    rw [e, l0_at s hs ds (l ++ [c]) r k (by rw [h]; simp) (fun x hx => hd x (by simp [hx])) (by omega)]
    have q : (l ++ [c]).length + ds.length = l.length + (ds.length + 1) := by simp; omega
    rw [q, List.length_cons, show k + 1 - (ds.length + 1 + 1) = k - (ds.length + 1) by omega]
theorem rparse_txt (k : Nat) (hk : huge ≤ k) {p u : Int} (h : Ok p u) (s : ByteArray) (hs : s.toList = txt p u) : slackwaterref08_Parse.f k s = some (p, u, 0) := by
  have hk2 := h
  obtain ⟨z, hk, hz1⟩ := huge_big hk
  obtain ⟨⟨p0, pu, _⟩, u1⟩ := h
  have l1 := len10 (n := p) (by omega) (by omega)
  have l2 := len10 (n := u) (by omega) (by omega)
  have hz : s.size = (Lib.itoa p).length + 1 + (Lib.itoa u).length := by
    have e := size_list s
    rw [hs] at e
    unfold txt at e
    rw [List.length_append, List.length_cons] at e
    omega
  have hd : s.toList = [] ++ (Lib.itoa p ++ 47 :: Lib.itoa u) := hs
  have h47 : ∀ c ∈ Lib.itoa p, c ≠ 47 := by
    intro c hc e
    subst e
    rw [Dig.itoa_dec p0] at hc
    exact Dig.dg_not (Dig.dec_dg _) (.inl (by decide)) hc
  unfold slackwaterref08_Parse.f
  have hL := l0_at s (by omega) (Lib.itoa p) [] (Lib.itoa u) k hd h47 (by omega)
  rw [show ((([] : List UInt8).length : Nat) : Int) = 0 from rfl, List.length_nil, Nat.zero_add] at hL
  rw [hL]
  obtain ⟨m, hm⟩ : ∃ m, k - ((Lib.itoa p).length + 1) = m + 1 := ⟨k - ((Lib.itoa p).length + 1) - 1, by omega⟩
  have hmb : big ≤ m := by omega
  have hb := big10 hmb
  rw [hm]
  obtain ⟨x, hx, hl⟩ := rprint_ok m hmb hk2
  have e1 : (s.extract 0 (((Lib.itoa p).length : Nat) : Int).toNat).toList = Lib.itoa p := by
    rw [ext_list, hs, Int.toNat_natCast]
    unfold txt
    simp
  have e2 : (s.extract ((((Lib.itoa p).length : Nat) : Int) + 1).toNat s.size).toList = Lib.itoa u := by
    rw [ext_list, hs, show ((((Lib.itoa p).length : Nat) : Int) + 1).toNat = (Lib.itoa p).length + 1 by omega, hz]
    unfold txt
    rw [List.take_of_length_le (by simp; omega), ← List.drop_drop, List.drop_left]
    rfl
  simp only [slackwaterref08_Parse.j1]
  rw [if_pos (by omega), if_pos (by omega), number_dec m (by omega) _ p p0 (by omega) e1, Option.bind_some, if_pos (by omega), wrap64_in (by omega) (by omega), if_pos (by omega), if_pos (by omega), number_dec m (by omega) _ u (by omega) u1 e2, Option.bind_some, hx, Option.bind_some]
  simp only [if_true, reduceIte]
  rw [if_pos (by rw [hl, hs])]
theorem parse_eq (k : Nat) (hk : huge ≤ k) (s : ByteArray) (hs : s.size ≤ 1048576) : ∃ r, turn_Parse.f k s = some r ∧ slackwaterref08_Parse.f k s = some r := by
  rcases parse_is k (huge_bg hk) s hs with e | ⟨p, u, h, e, hl⟩
  · rcases rparse_is k hk s hs with e' | ⟨p, u, h, e', hl⟩
    · exact ⟨_, e, e'⟩
    · have := parse_txt k (huge_bg hk) h s hl
      rw [e] at this
      cases this
  · exact ⟨_, e, rparse_txt k hk h s hl⟩
/-- TurnOf is true -/
theorem tells (k : Nat) (hk : huge ≤ k) (p w : Int) (p0 : -9223372036854775808 ≤ p) (p1 : p < 9223372036854775808) (s : ByteArray) (hs : s.size ≤ 1048576) : slackwaterlaw08_TurnOf.f k p w s = some true := by
  obtain ⟨r, h1, h2⟩ := of_ref k (by obtain ⟨z, h, hz⟩ := huge_big hk; omega) p w p0 p1
  obtain ⟨t, h3, h4⟩ := parse_eq k hk s hs
  unfold slackwaterlaw08_TurnOf.f
  rw [h1, Option.bind_some, h2, Option.bind_some, h3, Option.bind_some, h4, Option.bind_some, show slackwaterlaw08_lives.f = some true from rfl, Option.bind_some]
  simp
end Go.Proofs.YtcddhfidbhcgdaaDoor.TG
