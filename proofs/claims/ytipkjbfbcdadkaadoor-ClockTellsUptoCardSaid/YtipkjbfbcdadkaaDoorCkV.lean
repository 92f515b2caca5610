import Derived.Test.YtipkjbfbcdadkaaDoorCkU
/- The clock in plain words: the reference reads what the clock reads; the law ClockTells. -/
set_option linter.unusedVariables false
set_option linter.unusedSimpArgs false
namespace Go.Proofs.YtipkjbfbcdadkaaDoor.Ck
open Go Go.RowKit Go.Proofs.YtipkjbfbcdadkaaDoor.PK9 Go.Proofs.YtipkjbfbcdadkaaDoorW.PrintWords
/-- what the reference reads is a tick that has that text, or nothing -/
theorem ref_parse_is (k : Nat) (hk : 1500 ≤ k) (s : ByteArray) (hs : s.size ≤ 1048576) : slackwaterref09_Parse.f k s = some (0, 190) ∨ ∃ t, Tick t ∧ slackwaterref09_Parse.f k s = some (t, 0) ∧ str t = s.toList := by
  obtain ⟨y, p1, h1, g1, l1⟩ := number_is k (by omega) s hs 0 (by omega) (by omega)
  obtain ⟨m, p2, h2, g2, l2⟩ := number_is k (by omega) s hs (p1 + 1) (by omega) (by omega)
  obtain ⟨d, p3, h3, g3, l3⟩ := number_is k (by omega) s hs (p2 + 1) (by omega) (by omega)
  obtain ⟨h, p4, h4, g4, l4⟩ := number_is k (by omega) s hs (p3 + 1) (by omega) (by omega)
  unfold slackwaterref09_Parse.f
  rw [h1, Option.bind_some]
  simp only
  rw [wrap64_in (x := p1 + 1) (by omega) (by omega), h2, Option.bind_some]
  simp only
  rw [wrap64_in (x := p2 + 1) (by omega) (by omega), h3, Option.bind_some]
  simp only
  rw [wrap64_in (x := p3 + 1) (by omega) (by omega), h4, Option.bind_some]
  simp only
  rw [ref_from k (by omega)]
  rcases from_is k (by omega) y m d h with e | ⟨t, ht, e, _⟩
  · rw [e, Option.bind_some]; exact .inl rfl
  · obtain ⟨x, hx, hl⟩ := ref_text_ok k hk ht
    rw [e, Option.bind_some]
    simp only [if_true, reduceIte]
    rw [hx, Option.bind_some]
    simp only
    by_cases hq : x.toList = s.toList
    · rw [if_pos hq]
      exact .inr ⟨t, ht, rfl, by rw [← hq, hl]⟩
    · rw [if_neg hq]
      exact .inl rfl
theorem ends_c (c : UInt8) (r : List UInt8) (h : c.toNat < 48 ∨ 57 < c.toNat) : Ends (c :: r) := by
  intro x hx
  simp at hx
  subst hx
  exact h
theorem num_bd (ds : List UInt8) (hd : Dig.Dg ds) (hl : ds.length ≤ 4) : ∀ p q, ds = p ++ q → 0 ≤ num p 0 ∧ num p 0 ≤ 100000 := by
  have hg : ∀ (p : List UInt8), Dig.Dg p → ∀ n : Int, 0 ≤ n → 0 ≤ num p n ∧ num p n + 1 ≤ (n + 1) * 10 ^ p.length := by
    intro p
    induction p with
    | nil => intro _ n h0; simp [num]; exact h0
    | cons c p ih =>
      intro hp n h0
      have hc := hp c (by simp)
      have h1 := ih (fun x hx => hp x (by simp [hx])) (10 * n + (c.toNat - 48 : Int)) (by omega)
      refine ⟨h1.1, Int.le_trans h1.2 ?_⟩
      rw [List.length_cons, Int.pow_succ, ← Int.mul_assoc, Int.mul_right_comm]
      exact Int.mul_le_mul_of_nonneg_right (by omega) (Int.le_of_lt (Int.pow_pos (by omega)))
  intro p q hpq
  have hp : Dig.Dg p := fun x hx => hd x (by rw [hpq]; simp [hx])
  have hlen : p.length ≤ 4 := by
    rw [hpq, List.length_append] at hl
    omega
  have h := hg p hp 0 (by omega)
  have h10 : (10 : Int) ^ p.length ≤ 10 ^ 4 := by
    have : (10 : Nat) ^ p.length ≤ 10 ^ 4 := Nat.pow_le_pow_right (by omega) hlen
    exact_mod_cast this
  refine ⟨h.1, ?_⟩
  have h2 := h.2
  rw [Int.zero_add, Int.one_mul] at h2
  omega
theorem number_dec (k : Nat) (hk : 6 ≤ k) (s : ByteArray) (hs : s.size ≤ 1048576) (l r : List UInt8) (v : Int) (h : s.toList = l ++ (Lib.itoa v ++ r)) (hr : Ends r) (v0 : 0 ≤ v) (v1 : v ≤ 9999) (hl : l.length ≤ 1048576) :
    slackwaterref09_number.f k s l.length = some (v, (l.length + (Lib.itoa v).length : Int)) := by
  have hd := Dig.dec_dg v.toNat
  have e := Dig.itoa_dec v0
  have h4 := dec_len4 v0 v1
  rw [← e] at hd
  unfold slackwaterref09_number.f
  rw [number_at s hs (Lib.itoa v) l r k 0 0 h hd hr (by omega) (by omega) (by omega) (by omega) (num_bd _ hd h4) (by omega) hl]
  have hn := num_dec 4 v.toNat (by omega)
  rw [← e] at hn
  rw [hn]
  congr 2
  omega
theorem ref_parse_str (k : Nat) (hk : 1500 ≤ k) {t : Int} (h : Tick t) (s : ByteArray) (hs : s.toList = str t) : slackwaterref09_Parse.f k s = some (t, 0) := by
  obtain ⟨a, b, c, d, e, f, g, i⟩ := ranges h
  have hz : s.size ≤ 1048576 := by
    have := str_20 h
    rw [← hs, ByteArray.toList_eq, Array.length_toList] at this
    exact Nat.le_trans this (by decide)
  have hstr : s.toList = txt (Cal.yr (t / 24)) (Cal.mo (t / 24)) (Cal.da (t / 24)) (t % 24) := hs
  have hfd := from_date k (by omega) h
  obtain ⟨x, hx, hl⟩ := ref_text_ok k hk h
  rw [← hs] at hl
  generalize hy : Cal.yr (t / 24) = y at *
  generalize hm : Cal.mo (t / 24) = m at *
  generalize hd : Cal.da (t / 24) = dd at *
  generalize hh : t % 24 = hr at *
  unfold txt at hstr
  have l1 := dec_len4 (n := y) (by omega) (by omega)
  have l2 := dec_len2 (n := m) (by omega) (by omega)
  have l3 := dec_len2 (n := dd) (by omega) (by omega)
  have n1 := number_dec k (by omega) s hz [] (45 :: (Lib.itoa m ++ 45 :: (Lib.itoa dd ++ 32 :: Lib.itoa hr))) y (by rw [hstr]; rfl) (ends_c _ _ (.inl (by decide))) (by omega) (by omega) (by simp)
  have n2 := number_dec k (by omega) s hz (Lib.itoa y ++ [45]) (45 :: (Lib.itoa dd ++ 32 :: Lib.itoa hr)) m (by rw [hstr]; simp) (ends_c _ _ (.inl (by decide))) (by omega) (by omega) (by simp; omega)
  have n3 := number_dec k (by omega) s hz (Lib.itoa y ++ [45] ++ Lib.itoa m ++ [45]) (32 :: Lib.itoa hr) dd (by rw [hstr]; simp) (ends_c _ _ (.inl (by decide))) (by omega) (by omega) (by simp; omega)
  have n4 := number_dec k (by omega) s hz (Lib.itoa y ++ [45] ++ Lib.itoa m ++ [45] ++ Lib.itoa dd ++ [32]) [] hr (by rw [hstr]; simp) (fun c hc => by simp at hc) (by omega) (by omega) (by simp; omega)
  simp only [List.length_append, List.length_cons, List.length_nil] at n1 n2 n3 n4
  generalize (Lib.itoa y).length = z1 at *
  generalize (Lib.itoa m).length = z2 at *
  generalize (Lib.itoa dd).length = z3 at *
  generalize (Lib.itoa hr).length = z4 at *
  have n1' : slackwaterref09_number.f k s 0 = some (y, (z1 : Int)) := by
    rw [show ((0 : Nat) : Int) = 0 from rfl, Int.zero_add] at n1
    exact n1
  have n2' : slackwaterref09_number.f k s ((z1 : Int) + 1) = some (m, ((z1 + 1 + z2 : Nat) : Int)) := by
    have q : (((z1 + (0 + 1)) : Nat) : Int) = (z1 : Int) + 1 := by omega
    rw [q] at n2
    rw [n2]
    congr 2
  have n3' : slackwaterref09_number.f k s (((z1 + 1 + z2 : Nat) : Int) + 1) = some (dd, ((z1 + 1 + z2 + 1 + z3 : Nat) : Int)) := by
    have q : (((z1 + (0 + 1) + z2 + (0 + 1)) : Nat) : Int) = ((z1 + 1 + z2 : Nat) : Int) + 1 := by omega
    rw [q] at n3
    rw [n3]
    congr 2
  have n4' : slackwaterref09_number.f k s (((z1 + 1 + z2 + 1 + z3 : Nat) : Int) + 1) = some (hr, ((z1 + 1 + z2 + 1 + z3 + 1 + z4 : Nat) : Int)) := by
    have q : (((z1 + (0 + 1) + z2 + (0 + 1) + z3 + (0 + 1)) : Nat) : Int) = ((z1 + 1 + z2 + 1 + z3 : Nat) : Int) + 1 := by omega
    rw [q] at n4
    rw [n4]
    congr 2
  unfold slackwaterref09_Parse.f
  rw [n1', Option.bind_some]
  simp only
  rw [wrap64_in (x := (z1 : Int) + 1) (by omega) (by omega), n2', Option.bind_some]
  simp only
  rw [wrap64_in (x := ((z1 + 1 + z2 : Nat) : Int) + 1) (by omega) (by omega), n3', Option.bind_some]
  simp only
  rw [wrap64_in (x := ((z1 + 1 + z2 + 1 + z3 : Nat) : Int) + 1) (by omega) (by omega), n4', Option.bind_some]
  simp only
  rw [ref_from k (by omega), hfd, Option.bind_some]
  simp only [if_true, reduceIte]
  rw [hx, Option.bind_some, if_pos hl]
theorem ref_parse (k : Nat) (hk : 1500 ≤ k) (s : ByteArray) (hs : s.size ≤ 1048576) : slackwaterref09_Parse.f k s = clock_Parse.f k s := by
  rcases parse_is k (by omega) s hs with hp | ⟨t, ht, hp, hq⟩
  · rcases ref_parse_is k hk s hs with hr | ⟨t, ht, hr, hq⟩
    · rw [hp, hr]
    · have := parse_str k (by omega) ht s hq.symm
      rw [hp] at this
      cases this
  · rw [hp, ref_parse_str k hk ht s hq.symm]
theorem at_total (n h : Int) : ∃ p, clock_At.f n h = some p := by
  unfold clock_At.f
  repeat' split
  all_goals exact ⟨_, rfl⟩
theorem of_total (t : Int) : ∃ p, clock_Of.f t = some p := by
  by_cases h : t < 0 ∨ 1048576 < t
  · exact ⟨_, of_bad t h⟩
  · exact ⟨_, of_f t (by omega) (by omega)⟩
theorem date_total (t : Int) : ∃ p, clock_Date.f t = some p := by
  by_cases h : t < 0 ∨ 1048576 < t
  · exact ⟨_, date_bad h⟩
  · exact ⟨_, date_ok (by omega) (by omega)⟩
theorem week_total (t : Int) : ∃ p, clock_Week.f t = some p := by
  by_cases h : t < 0 ∨ 1048576 < t
  · unfold clock_Week.f
    rw [of_bad t h, Option.bind_some, if_neg (by decide)]
    exact ⟨_, rfl⟩
  · exact ⟨_, week_ok (by omega) (by omega)⟩
theorem check_total (t : Int) : ∃ p, clock_Check.f t = some p := by
  unfold clock_Check.f
  repeat' split
  all_goals exact ⟨_, rfl⟩
theorem from_total (k : Nat) (hk : 200 ≤ k) (y m d h : Int) : ∃ p, clock_From.f k y m d h = some p := by
  rcases from_is k hk y m d h with e | ⟨t, _, e, _⟩
  · exact ⟨_, e⟩
  · exact ⟨_, e⟩
theorem parse_total (k : Nat) (hk : 200 ≤ k) (s : ByteArray) (hs : s.size ≤ 1048576) : ∃ p, clock_Parse.f k s = some p := by
  rcases parse_is k hk s hs with e | ⟨t, _, e, _⟩
  · exact ⟨_, e⟩
  · exact ⟨_, e⟩
theorem texts (k : Nat) (hk : 1500 ≤ k) (t : Int) : ∃ x y : ByteArray, ∃ e, clock_Text.f t = some (x, e) ∧ slackwaterref09_Text.f k t = some (y, e) ∧ x.toList = y.toList := by
  by_cases h : t < 0 ∨ 1048576 < t
  · exact ⟨_, _, _, text_bad h, ref_text_bad k hk h, rfl⟩
  · obtain ⟨x, hx, hl⟩ := text_ok (t := t) ⟨by omega, by omega⟩
    obtain ⟨y, hy, hm⟩ := ref_text_ok k hk (t := t) ⟨by omega, by omega⟩
    exact ⟨x, y, 0, hx, hy, by rw [hl, hm]⟩
/-- ClockTells is true -/
theorem tells (k : Nat) (hk : 1510 ≤ k) (t n h y m d e : Int) (s : ByteArray) (a b : Int) (hs : s.size ≤ 1048576) : slackwaterlaw09_ClockTells.f k t n h y m d e s a b = some true := by
  obtain ⟨p1, q1⟩ := at_total n h
  obtain ⟨p2, q2⟩ := of_total t
  obtain ⟨p3, q3⟩ := date_total t
  obtain ⟨p4, q4⟩ := from_total k (by omega) y m d e
  obtain ⟨p5, q5⟩ := week_total t
  obtain ⟨x, x', e6, q6, q6', hx⟩ := texts k (by omega) t
  obtain ⟨p7, q7⟩ := parse_total k (by omega) s hs
  unfold slackwaterlaw09_ClockTells.f
  rw [ref_at, ref_of, ref_date k (by omega), ref_from k (by omega), ref_week, ref_parse k (by omega) s hs]
  rw [q1, Option.bind_some, Option.bind_some, q2, Option.bind_some, Option.bind_some, q3, Option.bind_some, Option.bind_some, q4, Option.bind_some, Option.bind_some, q5, Option.bind_some, Option.bind_some, q6, Option.bind_some, q6', Option.bind_some, q7, Option.bind_some, Option.bind_some]
  simp only [if_true, reduceIte, bne_self_eq_false]
  obtain ⟨k, rfl⟩ : ∃ j, k = j + 2 := ⟨k - 2, by omega⟩
  simp only [slackwaterlaw09_ClockTells.j0, if_true, reduceIte, beq_self_eq_true]
  obtain ⟨c, qc⟩ := check_total t
  obtain ⟨r, qr⟩ := span_total k (by omega) a b
  simp only [slackwaterlaw09_ClockTells.j1]
  rw [ref_check, qc, Option.bind_some, Option.bind_some, if_pos rfl, ref_span k (by omega), qr, Option.bind_some, Option.bind_some]
  simp [hx]
end Go.Proofs.YtipkjbfbcdadkaaDoor.Ck
