import Derived.Test.YtlaiginblmckoaaDoorCkP
/- The clock in plain words: what a text is read as; the examples; the laws ClockRises and ClockBack. -/
set_option linter.unusedVariables false
set_option linter.unusedSimpArgs false
namespace Go.Proofs.YtlaiginblmckoaaDoor.Ck
open Go Go.RowKit Go.Proofs.YtlaiginblmckoaaDoor.PK9 Go.Proofs.YtlaiginblmckoaaDoorW.PrintWords
/-- what is read is a tick that has that text, or nothing is read -/
theorem parse_is (k : Nat) (hk : 200 ≤ k) (s : ByteArray) (hs : s.size ≤ 1048576) : clock_Parse.f k s = some (0, 190) ∨ ∃ t, Tick t ∧ clock_Parse.f k s = some (t, 0) ∧ str t = s.toList := by
  unfold clock_Parse.f
  rw [if_pos hs]
  split
  · exact .inl rfl
  · unfold clock_Parse.tail
    split
    · rename_i y m d h _
      rcases from_is k hk y m d h with e | ⟨t, ht, e, _⟩
      · rw [e]; exact .inl rfl
      · rw [e, Option.bind_some, if_pos rfl]
        obtain ⟨x, hx, hl⟩ := text_ok ht
        rw [hx, Option.bind_some]
        simp only
        by_cases hq : x.toList = s.toList
        · rw [if_pos hq]
          exact .inr ⟨t, ht, rfl, by rw [← hq, hl]⟩
        · rw [if_neg hq]
          exact .inl rfl
    · exact .inl rfl
theorem no45 {n : Int} (h : 0 ≤ n) : (45 : UInt8) ∉ Lib.itoa n := by
  rw [Dig.itoa_dec h]
  exact Dig.dg_not (Dig.dec_dg _) (.inl (by decide))
theorem no32 {n : Int} (h : 0 ≤ n) : (32 : UInt8) ∉ Lib.itoa n := by
  rw [Dig.itoa_dec h]
  exact Dig.dg_not (Dig.dec_dg _) (.inl (by decide))
theorem atoi_itoa {n : Int} (h : 0 ≤ n) (h1 : n < 9223372036854775808) : Lib.atoiAll (Lib.itoa n) = .ok n := by
  rw [Dig.itoa_dec h, Dig.atoi_dec _ (by omega)]
  congr 1; omega
theorem nums4 (l : List ByteArray) (a b c e : Int) (a0 : 0 ≤ a) (a1 : a < 9223372036854775808) (b0 : 0 ≤ b) (b1 : b < 9223372036854775808) (c0 : 0 ≤ c) (c1 : c < 9223372036854775808) (e0 : 0 ≤ e) (e1 : e < 9223372036854775808)
    (hl : l.map (·.data.toList) = [Lib.itoa a, Lib.itoa b, Lib.itoa c, Lib.itoa e]) : clock_Parse.nums l = some [a, b, c, e] := by
  have hlen : l.length = 4 := by simpa using congrArg List.length hl
  match l, hlen, hl with
  | [p, q, r, s], _, hl =>
    simp only [List.map_cons, List.map_nil, List.cons.injEq, and_true] at hl
    obtain ⟨h1, h2, h3, h4⟩ := hl
    simp [clock_Parse.nums, h1, h2, h3, h4, atoi_itoa a0 a1, atoi_itoa b0 b1, atoi_itoa c0 c1, atoi_itoa e0 e1]
theorem parse_txt (k : Nat) (s : ByteArray) (y m d h : Int) (y0 : 0 ≤ y) (y1 : y ≤ 9999) (m0 : 0 ≤ m) (m1 : m ≤ 99) (d0 : 0 ≤ d) (d1 : d ≤ 99) (h0 : 0 ≤ h) (h1 : h ≤ 99) (hs : s.toList = txt y m d h) (hz : s.size ≤ 20) :
    clock_Parse.f k s = clock_Parse.tail k s (some [y, m, d, h]) := by
  have hl : s.data.toList = (Lib.itoa y ++ 45 :: (Lib.itoa m ++ 45 :: Lib.itoa d)) ++ 32 :: Lib.itoa h := by
    rw [← ByteArray.toList_eq, hs]
    simp [txt]
  have hcut : Lib.cut s.data.toList [32] = (Lib.itoa y ++ 45 :: (Lib.itoa m ++ 45 :: Lib.itoa d), Lib.itoa h, true) := by
    rw [hl]
    refine Dig.cut_sep 32 _ _ ?_
    simp only [List.mem_append, List.mem_cons, not_or]
    exact ⟨no32 y0, by decide, no32 m0, by decide, no32 d0⟩
  have hday : (Lib.itoa y ++ 45 :: (Lib.itoa m ++ 45 :: Lib.itoa d)).length + 1 ≥ 4 := by
    have a := List.length_pos_iff.2 (Dig.dec_ne y.toNat)
    have b := List.length_pos_iff.2 (Dig.dec_ne m.toNat)
    rw [Dig.itoa_dec y0, Dig.itoa_dec m0]
    simp only [List.length_append, List.length_cons]
    omega
  have hparts : (clock_Parse.parts (Lib.itoa y ++ 45 :: (Lib.itoa m ++ 45 :: Lib.itoa d))).map (·.data.toList) = [Lib.itoa y, Lib.itoa m, Lib.itoa d] := by
    unfold clock_Parse.parts
    rw [Nat.min_eq_left hday, Lib.splitB_data]
    exact Dig.split3 45 _ _ _ (no45 y0) (no45 m0) (no45 d0)
  have hlen : (clock_Parse.parts (Lib.itoa y ++ 45 :: (Lib.itoa m ++ 45 :: Lib.itoa d))).length = 3 := by
    have := congrArg List.length hparts
    simpa using this
  unfold clock_Parse.f
  rw [if_pos (by omega), hcut]
  simp only
  rw [if_neg (by rw [hlen]; simp; omega)]
  rw [nums4 _ y m d h y0 (by omega) m0 (by omega) d0 (by omega) h0 (by omega) (by rw [List.map_append, hparts]; rfl)]
theorem dec_len2 {n : Int} (h0 : 0 ≤ n) (h1 : n ≤ 99) : (Lib.itoa n).length ≤ 2 := by
  rw [Dig.itoa_dec h0]
  by_cases h : n.toNat < 10
  · rw [Dig.dec_small h]; simp
  · rw [Dig.dec_step h, Dig.dec_small (by omega)]; simp
theorem dec_len4 {n : Int} (h0 : 0 ≤ n) (h1 : n ≤ 9999) : (Lib.itoa n).length ≤ 4 := by
  rw [Dig.itoa_dec h0]
  by_cases h : n.toNat < 10
  · rw [Dig.dec_small h]; simp
  · rw [Dig.dec_step h]
    by_cases h2 : n.toNat / 10 < 10
    · rw [Dig.dec_small h2]; simp
    · rw [Dig.dec_step h2]
      by_cases h3 : n.toNat / 10 / 10 < 10
      · rw [Dig.dec_small h3]; simp
      · rw [Dig.dec_step h3, Dig.dec_small (by omega)]; simp
theorem ranges {t : Int} (h : Tick t) : 2000 ≤ Cal.yr (t / 24) ∧ Cal.yr (t / 24) ≤ 2119 ∧ 1 ≤ Cal.mo (t / 24) ∧ Cal.mo (t / 24) ≤ 12 ∧ 1 ≤ Cal.da (t / 24) ∧ Cal.da (t / 24) ≤ 31 ∧ 0 ≤ t % 24 ∧ t % 24 < 24 := by
  obtain ⟨hf, _⟩ := date_fits h
  obtain ⟨m1, m12⟩ := hf.month
  have db := Cal.dim_bd (Cal.yr (t / 24)) (Cal.mo (t / 24)) m1 m12
  obtain ⟨a, b, c, e⟩ := hf
  obtain ⟨h0, h1⟩ := h
  omega
theorem str_20 {t : Int} (h : Tick t) : (str t).length ≤ 13 := by
  obtain ⟨a, b, c, d, e, f, g, i⟩ := ranges h
  have l1 := dec_len4 (n := Cal.yr (t / 24)) (by omega) (by omega)
  have l2 := dec_len2 (n := Cal.mo (t / 24)) (by omega) (by omega)
  have l3 := dec_len2 (n := Cal.da (t / 24)) (by omega) (by omega)
  have l4 := dec_len2 (n := t % 24) (by omega) (by omega)
  unfold str txt
  simp only [List.length_append, List.length_cons]
  omega
/-- a tick's text is read as it -/
theorem parse_str (k : Nat) (hk : 200 ≤ k) {t : Int} (h : Tick t) (s : ByteArray) (hs : s.toList = str t) : clock_Parse.f k s = some (t, 0) := by
  obtain ⟨a, b, c, d, e, f, g, i⟩ := ranges h
  have hz : s.size ≤ 20 := by
    have := str_20 h
    rw [← hs, ByteArray.toList_eq, Array.length_toList] at this
    exact Nat.le_trans this (by decide)
  rw [parse_txt k s _ _ _ _ (by omega) (by omega) (by omega) (by omega) (by omega) (by omega) g (by omega) hs hz]
  show ((clock_From.f k (Cal.yr (t / 24)) (Cal.mo (t / 24)) (Cal.da (t / 24)) (t % 24)).bind fun r => if r.2 = 0 then ((clock_Text.f r.1).bind fun x => if x.1.toList = s.toList then some (r.1, 0) else some (0, 190)) else some (0, 190)) = some (t, 0)
  rw [from_date k hk h, Option.bind_some, if_pos rfl]
  obtain ⟨x, hx, hl⟩ := text_ok h
  rw [hx, Option.bind_some, if_pos (by rw [hl, hs])]
/-! ### the examples -/
theorem tick0 : Tick 0 := ⟨by omega, by omega⟩
theorem day0 : Cal.yr 0 = 2000 ∧ Cal.mo 0 = 1 ∧ Cal.da 0 = 1 := by decide
theorem day59 : Cal.yr 59 = 2000 ∧ Cal.mo 59 = 2 ∧ Cal.da 59 = 29 := by decide
theorem itoa2000 : Lib.itoa 2000 = [50, 48, 48, 48] := by
  rw [Dig.itoa_dec (by omega)]
  rw [Dig.dec_step (by decide), Dig.dec_step (by decide), Dig.dec_step (by decide), Dig.dec_small (by decide)]
  rfl
theorem itoa1 : Lib.itoa 1 = [49] := by rw [Dig.itoa_dec (by omega), Dig.dec_small (by decide)]; rfl
theorem itoa0 : Lib.itoa 0 = [48] := by rw [Dig.itoa_dec (by omega), Dig.dec_small (by decide)]; rfl
theorem str0 : str 0 = [50, 48, 48, 48, 45, 49, 45, 49, 32, 48] := by
  unfold str txt
  rw [show (0 : Int) / 24 = 0 from rfl, show (0 : Int) % 24 = 0 from rfl, day0.1, day0.2.1, day0.2.2, itoa2000, itoa1, itoa0]
  rfl
end Go.Proofs.YtlaiginblmckoaaDoor.Ck
