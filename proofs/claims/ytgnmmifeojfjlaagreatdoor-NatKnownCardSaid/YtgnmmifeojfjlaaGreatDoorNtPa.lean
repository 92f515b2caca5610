import Derived.Test.YtgnmmifeojfjlaaGreatDoorNtTr
import Derived.Test.YtgnmmifeojfjlaaGreatDoorNtGr
import Derived.Test.YtgnmmifeojfjlaaGreatDoorShelf
import Derived.Test.YtgnmmifeojfjlaaGreatDoorNtC
/- nat.Parse, walked. -/
set_option linter.unusedVariables false
set_option linter.unusedSimpArgs false
namespace Go.Proofs.YtgnmmifeojfjlaaGreatDoor
open Go Go.RowKit Q
/-- may a text be a natural number's? -/
def okT (l : List UInt8) : Bool := l.all PA.dig && (match l with | [] => false | b :: r => b.toNat != 48 || r.isEmpty)
theorem toList_eq (s : ByteArray) : s.toList = s.data.toList := Lib.toList_data s
theorem empty_of {s : ByteArray} (h : 0 < s.size) : s.toList.isEmpty = false := by
  rw [toList_eq]
  cases hl : s.data.toList with
  | nil => have := Lib.size_eq s; rw [hl, List.length_nil] at this; omega
  | cons _ _ => rfl
theorem empty_iff (s : ByteArray) : s.toList.isEmpty = true ↔ s.size = 0 := by
  rw [toList_eq, Lib.size_eq]
  cases s.data.toList <;> simp
set_option maxHeartbeats 2000000 in
set_option maxRecDepth 100000 in
theorem Parse_no (s : ByteArray) (w : World) (h0 : 0 < s.size) (h1 : s.size ≤ 65536) (hb : s.data.toList.all PA.dig = false ∨ (s[0].toNat = 48 ∧ 1 < s.size)) :
    Calls Tryz.prog 11 #[.string s] w fun e w' => ∃ v, e = .returned (.tuple #[v, .int .i64 110]) ∧ Ow w' 36 w.heap.size v [] ∧ Below w.heap.size w w' := by
  have d1 : decide (65536 < (s.size : Int)) = false := decide_eq_false (by omega)
  have d2 : decide (65536 < s.size) = false := decide_eq_false (by omega)
  have he := empty_of h0
  go_enter Tryz.func11, Tryz.ntmps11
  go_wp2_with fail
  refine (PA.trim_calls s _ h0 h1).mono ?_
  rintro e w1 ⟨t, rfl, ht, hB0⟩
  have hB := Q.hid hB0
  clear hB0
  by_cases ha : s.data.toList.all PA.dig = true
  · have ht2 : t.toList.isEmpty = true := (empty_iff t).2 (ht.2 ha)
    obtain ⟨b0, b1⟩ : s[0].toNat = 48 ∧ 1 < s.size := by
      rcases hb with hb | hb
      · rw [ha] at hb; cases hb
      · exact hb
    have b2 : ((s[0].toNat : Int)) = 48 := by omega
    have b3 : decide (1 < (s.size : Int)) = true := decide_eq_true (by omega)
    have b4 : decide (1 < s.size) = true := decide_eq_true (by omega)
    clear b0 b1
    go_wp2_with fail
    go_ret2
    exact ⟨.slice none 0 0, rfl, Ow.nil _ _ _, hB.out⟩
  · have ht2 : t.toList.isEmpty = false := Bool.eq_false_iff.2 (fun h => ha (ht.1 ((empty_iff t).1 h)))
    go_wp2_with fail
    go_ret2
    exact ⟨.slice none 0 0, rfl, Ow.nil _ _ _, hB.out⟩
/-- what has been read so far -/
structure PaV (s : ByteArray) (q : ByteArray) (xs : List Int) (pre : List UInt8) : Prop where
  cut : s.data.toList = pre ++ q.data.toList
  val : val xs = (PA.num 0 pre : Int)
  wds : Wds xs
  nine : (pre = [] ∧ xs = []) ∨ q.size % 9 = 0
  len : xs.length ≤ pre.length
def szOf (v : Value) : Nat := match v with | .string q => q.size | _ => 0
theorem PaV.digs {s q : ByteArray} {xs : List Int} {pre : List UInt8} (h : PaV s q xs pre) (ha : s.data.toList.all PA.dig = true) : q.data.toList.all PA.dig = true := by
  rw [h.cut, List.all_append, Bool.and_eq_true] at ha
  exact ha.2
theorem take_digs {l : List UInt8} (h : l.all PA.dig = true) (n : Nat) : (l.take n).all PA.dig = true :=
  List.all_eq_true.2 (fun x hx => List.all_eq_true.1 h x (List.mem_of_mem_take hx))
theorem take_len {q : ByteArray} {n : Nat} (h2 : n ≤ q.size) : (q.data.toList.take n).length = n := by
  rw [List.length_take, ← Lib.size_eq]; omega
theorem take_parse {q : ByteArray} (h : q.data.toList.all PA.dig = true) {n : Nat} (h1 : 1 ≤ n) (h2 : n ≤ q.size) (h9 : n ≤ 9) : Lib.parseUintB 32 (q.extract 0 n).data.toList = .ok (PA.num 0 (q.data.toList.take n)) := by
  rw [Lib.extract_from_zero]
  refine PA.parse9 (take_digs h n) (fun e => ?_) (by rw [take_len h2]; exact h9)
  have := take_len h2
  rw [e, List.length_nil] at this
  omega
theorem num9 {l : List UInt8} (h : l.all PA.dig = true) (h9 : l.length ≤ 9) : PA.num 0 l < 1000000000 := by
  refine Nat.lt_of_lt_of_le (PA.num_lt l h) ?_
  exact Nat.pow_le_pow_right (n := 10) (by omega) h9
theorem PaV.step {s q : ByteArray} {xs : List Int} {pre : List UInt8} (h : PaV s q xs pre) {n : Nat} (h1 : 1 ≤ n) (h2 : n ≤ q.size) (hx : (pre = [] ∧ xs = []) ∨ n = 9) (hr : (q.size - n) % 9 = 0)
    {zs : List Int} (hz : Wds zs) (hv : Q.val zs = Q.val xs * 1000000000 + (PA.num 0 (q.data.toList.take n) : Int)) (hl : zs.length ≤ xs.length + 1) : PaV s (q.extract n q.size) zs (pre ++ q.data.toList.take n) := by
  have e : (q.extract n q.size).data.toList = q.data.toList.drop n := by
    rw [Lib.extract_data, List.take_of_length_le]
    rw [List.length_drop, ← Lib.size_eq]
    exact Nat.le_refl _
  refine ⟨by rw [e, List.append_assoc, List.take_append_drop]; exact h.cut, ?_, hz, .inr ?_, ?_⟩
  · rw [hv, h.val, PA.num_append, PA.num_acc _ (PA.num 0 pre), take_len h2]
    rcases hx with ⟨rfl, rfl⟩ | rfl
    · rw [PA.num_nil]
      simp
    · rw [Int.natCast_add, Int.natCast_mul]
      rfl
  · rw [Lib.size_eq, e, List.length_drop, ← Lib.size_eq]
    exact hr
  · rw [List.length_append, take_len h2]
    have := h.len
    omega
theorem num_Bp {l : List UInt8} (h : l.all PA.dig = true) {m : Nat} (hm : l.length ≤ 8 * m) : (PA.num 0 l : Int) < Bp m := by
  have h1 : PA.num 0 l < 4294967296 ^ m := by
    refine Nat.lt_of_lt_of_le (PA.num_lt l h) (Nat.le_trans (Nat.pow_le_pow_left (show 10 ≤ 16 by omega) _) (Nat.le_trans (Nat.pow_le_pow_right (n := 16) (by omega) hm) ?_))
    rw [Nat.pow_mul]
    exact Nat.le_refl _
  have h2 : (PA.num 0 l : Int) < ((4294967296 ^ m : Nat) : Int) := Int.ofNat_lt.2 h1
  rw [Int.natCast_pow] at h2
  exact h2
theorem PaV.told {s q : ByteArray} {xs : List Int} {pre : List UInt8} (h : PaV s q xs pre) (hq : q.size = 0) (ha : s.data.toList.all PA.dig = true) (hs : s.size ≤ 65536) : Q.told (Q.val xs) = (nwd (PA.num 0 s.data.toList), 0) := by
  have e : q.data.toList = [] := List.eq_nil_of_length_eq_zero (by rw [← Lib.size_eq]; exact hq)
  have ep : s.data.toList = pre := by rw [h.cut, e, List.append_nil]
  have hb : (PA.num 0 s.data.toList : Int) < Bp 8192 := num_Bp ha (by rw [← Lib.size_eq]; omega)
  rw [h.val, ← ep]
  unfold Q.told
  rw [if_neg]
  have := nwd_len_le hb (by omega)
  omega
theorem PaV.small {s q : ByteArray} {xs : List Int} {pre : List UInt8} (h : PaV s q xs pre) (hs : s.size ≤ 65536) : xs.length ≤ 65536 := by
  have h1 := h.len
  have h2 := congrArg List.length h.cut
  rw [List.length_append, ← Lib.size_eq] at h2
  omega
theorem sz_step {q : ByteArray} {n : Nat} (h1 : 1 ≤ n) (h2 : n ≤ q.size) : szOf (.string (q.extract n q.size)) < szOf (.string q) := by
  show (q.extract n q.size).size < q.size
  rw [Lib.size_eq, Lib.extract_data, List.length_take, List.length_drop, ← Lib.size_eq]
  omega
set_option maxHeartbeats 2000000 in
set_option maxRecDepth 100000 in
theorem Parse_ok (s : ByteArray) (w : World) (h0 : 0 < s.size) (h1 : s.size ≤ 65536) (ha0 : s.data.toList.all PA.dig = true) (hb : ¬ (s[0].toNat = 48 ∧ 1 < s.size)) :
    Calls Tryz.prog 11 #[.string s] w fun e w' => ∃ v, e = .returned (.tuple #[v, .int .i64 0]) ∧ Ow w' 36 w.heap.size v (nwd (PA.num 0 s.data.toList)) ∧ Below w.heap.size w w' := by
  have d1 : decide (65536 < (s.size : Int)) = false := decide_eq_false (by omega)
  have d2 : decide (65536 < s.size) = false := decide_eq_false (by omega)
  have he := empty_of h0
  have ha := Q.hid ha0
  have hs := Q.hid h1
  have hbb := Q.hid hb
  clear hb ha0
  go_enter Tryz.func11, Tryz.ntmps11
  go_wp2_with fail
  refine (PA.trim_calls s _ h0 h1).mono ?_
  rintro e w1 ⟨t, rfl, ht, hB0⟩
  have hB := Q.hid hB0
  have ht2 : t.toList.isEmpty = true := (empty_iff t).2 (ht.2 ha.out)
  clear hB0 ht
  have b2 : ((s[0].toNat : Int)) = 48 → 1 < (s.size : Int) → False := fun u v => hbb.out ⟨by omega, by omega⟩
  go_wp2_with fail
  all_goals first | (exfalso; exact b2 (by assumption) (by assumption)) | skip
  all_goals
    clear b2 ht2 he d1 d2
    have HV : Hid (PaV s s [] []) := ⟨rfl, rfl, Wds.nil, .inl ⟨rfl, rfl⟩, Nat.le_refl _⟩
    go_loopw [0, 4] (fun sv av wr => ∃ (q : ByteArray) (xs : List Int) (pre : List UInt8), sv = .string q ∧ Hid (Ow wr 36 w.heap.size av xs) ∧ Hid (PaV s q xs pre) ∧ Hid (Below w.heap.size w wr)) (fun sv _ _ => szOf sv)
    case atStart => exact ⟨s, [], [], rfl, Ow.nil _ _ _, HV, hB⟩
    case round =>
      clear HV hB
      obtain ⟨q, xs, pre, rfl, HO, HV, HB⟩ := hrel
      obtain ⟨A, c, rfl, hc1, hc2, hrd, _⟩ := HO.out.slice
      have HI : Hid (In wr A c xs) := ⟨hrd, hc1, by have := HV.out.small hs.out; omega, HV.out.wds⟩
      have hqs : Hid (q.size ≤ 65536) := by
        have h2 := congrArg List.length HV.out.cut
        rw [List.length_append, ← Lib.size_eq, ← Lib.size_eq] at h2
        have h3 : s.size ≤ 65536 := hs.out
        show q.size ≤ 65536
        omega
      clear hc1 hc2 hrd
      by_cases hq : q.size = 0
      · have he : q.toList.isEmpty = true := (empty_iff q).2 hq
        have HT := Q.hid (HV.out.told hq ha.out hs.out)
        go_wp2_with fail
        refine (told_calls A c w.heap.size xs _ HO.out HI.out).mono ?_
        rw [HT.out]
        rintro e w2 ⟨⟨v, rfl, ho⟩, rfl⟩
        go_wp2
        go_ret2
        exact ⟨v, rfl, ho, HB.out⟩
      · have he : q.toList.isEmpty = false := empty_of (by omega)
        by_cases hz : q.size % 9 = 0
        · have hz1 : ((q.size : Int) % 9 == 0) = true := beq_iff_eq.2 (by omega)
          have hz2 : (q.size : Int) % 9 = 0 := by omega
          have hz3 : (9 : Int) ≤ (q.size : Int) := by omega
          have hz4 : 9 ≤ q.size := by omega
          have HN1 : Hid (1 ≤ 9) := by show (1 : Nat) ≤ 9; omega
          have HN2 : Hid (9 ≤ q.size) := hz4
          have HP := Q.hid (take_parse (HV.out.digs ha.out) HN1.out HN2.out (Nat.le_refl 9))
          have HU : Hid (PA.num 0 (q.data.toList.take (9)) < 1000000000) := num9 (take_digs (HV.out.digs ha.out) _) (by rw [take_len HN2.out]; exact (Nat.le_refl 9))
          have HX : Hid ((pre = [] ∧ xs = []) ∨ 9 = 9) := .inr rfl
          have HR : Hid ((q.size - 9) % 9 = 0) := by show (q.size - 9) % 9 = 0; omega
          generalize hu : PA.num 0 (q.data.toList.take (9)) = u at HP HU
          have hU := Q.hid hu
          clear hu
          have hwr : IntKind.u32.wrap (u : Int) = (u : Int) := by have := HU.out; rw [IntKind.wrap_u32]; omega
          go_wp2_with fail
          refine (Tryz.strconv_ParseUint_10_at32_ok (q.extract 0 (9)) (by have := hqs.out; rw [Lib.size_eq, Lib.extract_from_zero, take_len HN2.out]; omega) u HP.out _).mono ?_
          rintro e w2 ⟨rfl, hw⟩
          have HB2 : Hid (Below wr.heap.size wr w2) := by
            rcases hw with rfl | rfl
            · exact Below.refl _ _
            · exact Lib.bytesWorld_below _ _ _
          clear hw
          have HO2 := Q.hid (HO.out.below HB2.out)
          go_wp2_with fail
          refine (grow_calls A c w.heap.size xs (u : Int) _ HO2.out HV.out.wds (by have := HV.out.small hs.out; omega) (by omega) (by have := HU.out; omega) (Nat.le_trans HB.out.size HB2.out.size)).mono ?_
          rintro e w3 ⟨v3, rfl, zs, ho3, hz3, hl3, hv3, hB3⟩
          have HO3 := Q.hid ho3
          have HV3 : Hid (PaV s (q.extract (9) q.size) zs (pre ++ q.data.toList.take (9))) := HV.out.step HN1.out HN2.out (by first | exact HX.out | exact .inr rfl) HR.out hz3 (by rw [hU.out]; exact hv3) hl3
          have HB3 : Hid (Below w.heap.size w w3) := (HB.out.trans (HB2.out.mono HB.out.size)).trans hB3
          clear HO HV HB HB2 HO2 HP ho3 hv3 hz3 hl3 hB3 hwr
          go_wp2
          go_roundw
          case rel => exact ⟨_, zs, _, rfl, HO3, HV3, HB3⟩
          case measure => exact sz_step HN1.out HN2.out
        · have hz1 : ((q.size : Int) % 9 == 0) = false := beq_eq_false_iff_ne.2 (by omega)
          have hz2 : ¬ (q.size : Int) % 9 = 0 := by omega
          have hz3 : (q.size : Int) % 9 ≤ (q.size : Int) := by omega
          have hz4 : q.size % 9 ≤ q.size := by omega
          have hz5 : q.size % 9 ≤ 9 := by omega
          have HN1 : Hid (1 ≤ q.size % 9) := by show 1 ≤ q.size % 9; omega
          have HN2 : Hid (q.size % 9 ≤ q.size) := hz4
          have HP := Q.hid (take_parse (HV.out.digs ha.out) HN1.out HN2.out hz5)
          have HU : Hid (PA.num 0 (q.data.toList.take (q.size % 9)) < 1000000000) := num9 (take_digs (HV.out.digs ha.out) _) (by rw [take_len HN2.out]; exact hz5)
          have HX : Hid ((pre = [] ∧ xs = []) ∨ q.size % 9 = 9) := .inl (HV.out.nine.resolve_right hz)
          have HR : Hid ((q.size - q.size % 9) % 9 = 0) := by show (q.size - q.size % 9) % 9 = 0; omega
          generalize hu : PA.num 0 (q.data.toList.take (q.size % 9)) = u at HP HU
          have hU := Q.hid hu
          clear hu
          have hwr : IntKind.u32.wrap (u : Int) = (u : Int) := by have := HU.out; rw [IntKind.wrap_u32]; omega
          go_wp2_with fail
          refine (Tryz.strconv_ParseUint_10_at32_ok (q.extract 0 (q.size % 9)) (by have := hqs.out; rw [Lib.size_eq, Lib.extract_from_zero, take_len HN2.out]; omega) u HP.out _).mono ?_
          rintro e w2 ⟨rfl, hw⟩
          have HB2 : Hid (Below wr.heap.size wr w2) := by
            rcases hw with rfl | rfl
            · exact Below.refl _ _
            · exact Lib.bytesWorld_below _ _ _
          clear hw
          have HO2 := Q.hid (HO.out.below HB2.out)
          go_wp2_with fail
          refine (grow_calls A c w.heap.size xs (u : Int) _ HO2.out HV.out.wds (by have := HV.out.small hs.out; omega) (by omega) (by have := HU.out; omega) (Nat.le_trans HB.out.size HB2.out.size)).mono ?_
          rintro e w3 ⟨v3, rfl, zs, ho3, hz3, hl3, hv3, hB3⟩
          have HO3 := Q.hid ho3
          have HV3 : Hid (PaV s (q.extract (q.size % 9) q.size) zs (pre ++ q.data.toList.take (q.size % 9))) := HV.out.step HN1.out HN2.out (by first | exact HX.out | exact .inr rfl) HR.out hz3 (by rw [hU.out]; exact hv3) hl3
          have HB3 : Hid (Below w.heap.size w w3) := (HB.out.trans (HB2.out.mono HB.out.size)).trans hB3
          clear HO HV HB HB2 HO2 HP ho3 hv3 hz3 hl3 hB3 hwr
          go_wp2
          go_roundw
          case rel => exact ⟨_, zs, _, rfl, HO3, HV3, HB3⟩
          case measure => exact sz_step HN1.out HN2.out
theorem okT_list : ∀ (l : List UInt8) (hn : 0 < l.length), okT l = true ↔ l.all PA.dig = true ∧ ¬ (l[0].toNat = 48 ∧ 1 < l.length)
  | b :: r, _ => by
    unfold okT
    rw [Bool.and_eq_true]
    refine and_congr_right (fun _ => ?_)
    simp only [List.getElem_cons_zero, List.length_cons, Bool.or_eq_true, bne_iff_ne, List.isEmpty_iff]
    constructor
    · rintro (h | h) ⟨h1, h2⟩
      · exact h h1
      · subst h; simp at h2
    · intro h
      by_cases hb : b.toNat = 48
      · right
        cases r with
        | nil => rfl
        | cons _ _ => exact absurd ⟨hb, by simp⟩ h
      · exact .inl hb
theorem okT_iff {s : ByteArray} (h0 : 0 < s.size) : okT s.data.toList = true ↔ s.data.toList.all PA.dig = true ∧ ¬ (s[0].toNat = 48 ∧ 1 < s.size) := by
  have hn : 0 < s.data.toList.length := by rw [← Lib.size_eq]; exact h0
  have e : s[0] = s.data.toList[0] := by rw [Array.getElem_toList]; rfl
  have es : (1 < s.data.toList.length) ↔ (1 < s.size) := by rw [← Lib.size_eq]
  rw [e]
  exact (okT_list _ hn).trans (and_congr_right fun _ => not_congr (and_congr_right fun _ => es))
def parC (l : List UInt8) : List Int × Int := if okT l = true then (Q.nw (PA.num 0 l : Int), 0) else ([], 110)
set_option maxHeartbeats 2000000 in
set_option maxRecDepth 100000 in
theorem Parse_long (s : ByteArray) (w : World) (h1 : 65536 < s.size) (h2 : s.size ≤ 140737488351232) :
    Calls Tryz.prog 11 #[.string s] w fun e w' => ∃ v, e = .returned (.tuple #[v, .int .i64 3]) ∧ Ow w' 36 w.heap.size v [] ∧ Below w.heap.size w w' := by
  have d1 : decide (65536 < (s.size : Int)) = true := decide_eq_true (by omega)
  have d2 : decide (65536 < s.size) = true := decide_eq_true (by omega)
  go_enter Tryz.func11, Tryz.ntmps11
  go_wp2_with fail
  go_ret2
  exact ⟨.slice none 0 0, rfl, Ow.nil _ _ _, Below.refl _ _⟩
set_option maxHeartbeats 2000000 in
set_option maxRecDepth 100000 in
theorem Parse_nil (s : ByteArray) (w : World) (h1 : s.size = 0) :
    Calls Tryz.prog 11 #[.string s] w fun e w' => ∃ v, e = .returned (.tuple #[v, .int .i64 110]) ∧ Ow w' 36 w.heap.size v [] ∧ Below w.heap.size w w' := by
  have d1 : decide (65536 < (s.size : Int)) = false := decide_eq_false (by omega)
  have d2 : decide (65536 < s.size) = false := decide_eq_false (by omega)
  have he : s.toList.isEmpty = true := (empty_iff s).2 h1
  go_enter Tryz.func11, Tryz.ntmps11
  go_wp2_with fail
  go_ret2
  exact ⟨.slice none 0 0, rfl, Ow.nil _ _ _, Below.refl _ _⟩
theorem Parse_calls (s : ByteArray) (w : World) (h2 : s.size ≤ 65536) :
    Calls Tryz.prog 11 #[.string s] w fun e w' => ∃ v, e = .returned (.tuple #[v, .int .i64 (parC s.data.toList).2]) ∧ Ow w' 36 w.heap.size v (parC s.data.toList).1 ∧ Below w.heap.size w w' := by
  by_cases h0 : s.size = 0
  · have e : s.data.toList = [] := List.eq_nil_of_length_eq_zero (by rw [← Lib.size_eq]; exact h0)
    rw [e]
    exact Parse_nil s w h0
  · have h0' : 0 < s.size := by omega
    have hi := okT_iff h0'
    unfold parC
    by_cases hk : okT s.data.toList = true
    · rw [if_pos hk]
      have := Parse_ok s w h0' h2 (hi.1 hk).1 (hi.1 hk).2
      rwa [nwd_nw] at this
    · rw [if_neg hk]
      refine Parse_no s w h0' h2 ?_
      by_cases ha : s.data.toList.all PA.dig = true
      · right
        by_cases hb : s[0].toNat = 48 ∧ 1 < s.size
        · exact hb
        · exact absurd (hi.2 ⟨ha, hb⟩) hk
      · exact .inl (Bool.eq_false_iff.2 ha)
end Go.Proofs.YtgnmmifeojfjlaaGreatDoor
