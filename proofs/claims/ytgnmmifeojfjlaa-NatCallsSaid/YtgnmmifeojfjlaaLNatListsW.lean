/- The walk of NatLists. -/
import Derived.Test.YtgnmmifeojfjlaaQRef2
import Derived.Test.YtgnmmifeojfjlaaQApart
set_option linter.unusedVariables false
set_option linter.unusedSimpArgs false
namespace Go.Proofs.Ytgnmmifeojfjlaa
open Go Go.RowKit Q

/-- more words than are gone through? -/
def heavyB (n : Nat) : Bool := (decide (300 < n) && decide (n ≤ 8192)) || decide (8201 < n)
set_option maxHeartbeats 400000 in
theorem heavy_calls (A : Option Addr) (c n : Nat) (w : World) (hm : n ≤ 9223372036854775807) :
    Calls Try.prog 5 #[.slice A n c] w fun e w' => e = .returned (.bool (heavyB n)) ∧ w = w' := by
  by_cases h1 : 300 < n
  · by_cases h2 : n ≤ 8192
    · have HF : Hid (heavyB n = true) := by unfold heavyB; simp [Hid, h1, h2]
      have d2 : decide ((n : Int) ≤ 8192) = true := by simp; omega
      go_enter Try.func5, Try.ntmps5
      go_wp2
      go_ret
      exact ⟨by rw [HF.out]; rfl, rfl⟩
    · by_cases h3 : 8201 < n
      · have HF : Hid (heavyB n = true) := by unfold heavyB; simp [Hid, h1, h2, h3]
        have d2 : decide ((n : Int) ≤ 8192) = false := by simp; omega
        have d3 : decide (8201 < (n : Int)) = true := by simp; omega
        go_enter Try.func5, Try.ntmps5
        go_wp2
        go_ret
        exact ⟨by rw [HF.out]; rfl, rfl⟩
      · have HF : Hid (heavyB n = false) := by unfold heavyB; simp [Hid, h1, h2, h3]
        have d2 : decide ((n : Int) ≤ 8192) = false := by simp; omega
        have d3 : decide (8201 < (n : Int)) = false := by simp; omega
        go_enter Try.func5, Try.ntmps5
        go_wp2
        go_ret
        exact ⟨by rw [HF.out]; rfl, rfl⟩
  · have HF : Hid (heavyB n = false) := by unfold heavyB; simp [Hid, h1]; omega
    have d3 : decide (8201 < (n : Int)) = false := by simp; omega
    go_enter Try.func5, Try.ntmps5
    go_wp2
    go_ret
    exact ⟨by rw [HF.out]; rfl, rfl⟩
theorem heavy_small {n : Nat} (h : heavyB n = false) : n ≤ 8201 := by
  unfold heavyB at h; simp at h; omega
theorem lent_wds {xs : List Int} (h : Wds xs) : Wds (lent xs) := h.append (Wds.cons (by omega) (by omega) (Wds.cons (by omega) (by omega) (Wds.cons (by omega) (by omega) Wds.nil)))
theorem lent_take (xs : List Int) : (lent xs).take xs.length = xs := by simp [lent]

set_option maxHeartbeats 2000000 in
set_option maxRecDepth 100000 in
theorem NatLists_walk (A A' : Option Addr) (c c' : Nat) (xs ys : List Int) (x : Int) (w : World) (h : In w A c xs) (h' : In w A' c' ys) (hx0 : 0 ≤ x) (hx1 : x < 18446744073709551616) :
    Calls Try.prog 3 #[.slice A xs.length c, .slice A' ys.length c', .int .u64 x] w fun e w' => e = .returned (.bool true) ∧ Below w.heap.size w w' := by
  have H := Q.hid h
  have H' := Q.hid h'
  have HX0 := Q.hid hx0
  have HX1 := Q.hid hx1
  clear h h' hx0 hx1
  have hm : xs.length ≤ 9223372036854775807 := by have := H.out.small; omega
  have hm' : ys.length ≤ 9223372036854775807 := by have := H'.out.small; omega
  go_enter Try.func3, Try.ntmps3
  go_wp2_with fail
  refine (heavy_calls A c xs.length _ hm).mono ?_
  rintro e w1 ⟨rfl, rfl⟩
  cases hb : heavyB xs.length with
  | true =>
    clear hb
    go_wp2
    go_ret
    exact ⟨rfl, Below.refl _ _⟩
  | false =>
    have hs : xs.length ≤ 8201 := heavy_small hb
    clear hb
    go_wp2_with fail
    refine (heavy_calls A' c' ys.length _ hm').mono ?_
    rintro e w1 ⟨rfl, rfl⟩
    cases hb : heavyB ys.length with
    | true =>
      clear hb
      go_wp2
      go_ret
      exact ⟨rfl, Below.refl _ _⟩
    | false =>
      have hs' : ys.length ≤ 8201 := heavy_small hb
      clear hb
      go_wp2_with fail
      refine (LentWords_calls A c xs _ H.out.rd H.out.small).mono ?_
      rintro e w1 ⟨v1, rfl, ho, hb⟩
      obtain ⟨A1, c1, e1, _⟩ := ho.slice
      subst e1
      have HB1 := Q.hid hb
      have F1 := Q.hid ho
      clear hb ho
      go_wp2_with fail
      refine (LentWords_calls A' c' ys _ (H'.out.rd.below HB1.out) H'.out.small).mono ?_
      rintro e w2 ⟨v2, rfl, ho, hb⟩
      obtain ⟨A2, c2, e2, _⟩ := ho.slice
      subst e2
      have HB2 := Q.hid hb
      have F2 := Q.hid ho
      clear hb ho
      have hc1 : (lent xs).length ≤ c1 := F1.out.read.2.1
      have hc2 : (lent ys).length ≤ c2 := F2.out.read.2.1
      have hd1 : xs.length ≤ c1 := by rw [lent_length] at hc1; omega
      have hd2 : ys.length ≤ c2 := by rw [lent_length] at hc2; omega
      clear hc1 hc2
      go_wp2
      go_quiet (fail)
      have FP : Hid (In w2 A1 c1 xs) := ⟨by have := (F1.out.below HB2.out).read.2.2.2.take xs.length; rwa [lent_take] at this, hd1, by omega, H.out.wds⟩
      have FQ : Hid (In w2 A2 c2 ys) := ⟨by have := F2.out.read.2.2.2.take ys.length; rwa [lent_take] at this, hd2, by omega, H'.out.wds⟩
      clear hd1 hd2
      go_wp2_with fail
      refine (Trim_calls A1 c1 xs _ (FP.out.drewN _)).mono ?_
      rintro e w3 ⟨v3, rfl, ho, hb⟩
      obtain ⟨A3, c3, e3, _⟩ := ho.slice
      subst e3
      have HB3 : Hid (Below w2.heap.size w2 w3) := below_of_drewN hb
      have F3 : Hid (Ow w3 42 w2.heap.size (.slice A3 (trim xs).length c3) (trim xs)) := ho
      clear hb ho
      go_wp2_with fail
      refine (Trim_calls A1 c1 xs _ (FP.out.below HB3.out)).mono ?_
      rintro e w4 ⟨v4, rfl, ho, hb⟩
      obtain ⟨A4, c4, e4, _⟩ := ho.slice
      subst e4
      have HB4 := Q.hid hb
      have F4 := Q.hid ho
      clear hb ho
      go_wp2_with fail
      refine (Of_calls x _ HX0.out HX1.out).mono ?_
      rintro e w5 ⟨v5, rfl, ho, hb⟩
      obtain ⟨A5, c5, e5, _⟩ := ho.slice
      subst e5
      have HB5 := Q.hid hb
      have F5 := Q.hid ho
      clear hb ho
      go_wp2_with fail
      refine (Of_calls x _ HX0.out HX1.out).mono ?_
      rintro e w6 ⟨v6, rfl, ho, hb⟩
      obtain ⟨A6, c6, e6, _⟩ := ho.slice
      subst e6
      have HB6 := Q.hid hb
      have F6 := Q.hid ho
      clear hb ho
      have K2 : Hid (Below w2.heap.size w2 w6) := bs4 HB3.out HB4.out HB5.out HB6.out
      have K0 : Hid (Below w.heap.size w w6) := bs3 HB1.out HB2.out K2.out
      go_wp2_with fail
      refine (Uint64_calls A1 c1 xs _ (FP.out.below K2.out)).mono ?_
      rintro e w7 ⟨rfl, rfl⟩
      go_wp2_with fail
      refine (rUint64_calls A c xs _ (H.out.below K0.out)).mono ?_
      rintro e w7 ⟨rfl, hb⟩
      have HB7 := Q.hid hb
      clear hb
      have P7 : Hid (In w7 A1 c1 xs) := FP.out.below (bs2 K2.out HB7.out)
      have Q7 : Hid (In w7 A2 c2 ys) := FQ.out.below (bs2 K2.out HB7.out)
      have X7 : Hid (In w7 A c xs) := H.out.below (bs2 K0.out HB7.out)
      have Y7 : Hid (In w7 A' c' ys) := H'.out.below (bs2 K0.out HB7.out)
      go_wp2_with fail
      refine (Check_calls A1 c1 xs _ P7.out).mono ?_
      rintro e w8 ⟨rfl, rfl⟩
      go_wp2_with fail
      refine (rCheck_calls A c xs _ X7.out).mono ?_
      rintro e w8 ⟨rfl, rfl⟩
      go_wp2_with fail
      refine (Compare_calls A1 A2 c1 c2 xs ys _ P7.out Q7.out).mono ?_
      rintro e w8 ⟨rfl, ⟨n1, rfl⟩⟩
      go_wp2_with fail
      refine (rCompare_calls A A' c c' xs ys _ (X7.out.drewN _) (Y7.out.drewN _)).mono ?_
      rintro e w8 ⟨rfl, rfl⟩
      go_wp2_with fail
      refine (Bits_calls A1 c1 xs _ (P7.out.drewN _)).mono ?_
      rintro e w8 ⟨rfl, rfl⟩
      go_wp2_with fail
      refine (rBits_calls A c xs _ (X7.out.drewN _)).mono ?_
      rintro e w8 ⟨rfl, hb⟩
      have HB8 : Hid (Below w7.heap.size w7 w8) := below_of_drewN hb
      clear hb
      have ht : (trim xs).length ≤ 8201 := by have := tl_le xs; rw [len_trim]; omega
      have hof : (of64 x).length ≤ 2 := of64_len x
      have HT := Q.hid ht
      have HOF := Q.hid hof
      clear ht hof
      go_wp2_with fail
      refine (rTrim_calls A c xs _ (X7.out.below HB8.out)).mono ?_
      rintro e w9 ⟨v9, rfl, ho, hb⟩
      obtain ⟨A9, c9, e9, _, _, r9, _⟩ := ho.slice
      subst e9
      have HB9 := Q.hid hb
      have R9 := Q.hid r9
      clear hb ho r9
      have L6 : Hid (Below w6.heap.size w6 w9) := bs3 HB7.out HB8.out HB9.out
      have G3 : Hid (Rd w9 A3 (trim xs)) := (F3.out.below (bs4 HB4.out HB5.out HB6.out L6.out)).read.2.2.2
      have G4 : Hid (Rd w9 A4 (trim xs)) := (F4.out.below (bs3 HB5.out HB6.out L6.out)).read.2.2.2
      have G5 : Hid (Rd w9 A5 (of64 x)) := (F5.out.below (bs2 HB6.out L6.out)).read.2.2.2
      have G6 : Hid (Rd w9 A6 (of64 x)) := (F6.out.below L6.out).read.2.2.2
      go_wp2_with fail
      refine (SameWords_eq A3 A9 c3 c9 (trim xs) _ G3.out R9.out (by have := HT.out; omega)).mono ?_
      rintro e w10 ⟨rfl, ⟨n2, rfl⟩⟩
      go_wp2_with fail
      refine (SameWords_eq A4 A3 c4 c3 (trim xs) _ (G4.out.drewN _) (G3.out.drewN _) (by have := HT.out; omega)).mono ?_
      rintro e w10 ⟨rfl, ⟨n3, rfl⟩⟩
      go_wp2_with fail
      refine (rOf_calls x _ HX0.out HX1.out).mono ?_
      rintro e w10 ⟨v10, rfl, ho, hb⟩
      obtain ⟨A10, c10, e10, _, _, r10, _⟩ := ho.slice
      subst e10
      have HB10 : Hid (Below w9.heap.size w9 w10) := below_of_drewN hb
      have R10 := Q.hid r10
      clear hb ho r10
      go_wp2_with fail
      refine (SameWords_eq A5 A10 c5 c10 (of64 x) _ (G5.out.below HB10.out) R10.out (by have := HOF.out; omega)).mono ?_
      rintro e w11 ⟨rfl, ⟨n4, rfl⟩⟩
      go_wp2_with fail
      refine (SameWords_eq A6 A5 c6 c5 (of64 x) _ ((G6.out.below HB10.out).drewN _) ((G5.out.below HB10.out).drewN _) (by have := HOF.out; omega)).mono ?_
      rintro e w11 ⟨rfl, ⟨n5, rfl⟩⟩
      have M0 : Hid (Below w.heap.size w w10) := bs3 K0.out L6.out HB10.out
      have M1 : Hid (Below w1.heap.size w1 w10) := bs4 HB2.out K2.out L6.out HB10.out
      have M2 : Hid (Below w2.heap.size w2 w10) := bs3 K2.out L6.out HB10.out
      have hk1 : decide (lent xs = lent xs) = true := by simp
      have hk2 : decide (lent ys = lent ys) = true := by simp
      go_wp2_with fail
      refine (KeptWords_calls A1 A c1 c (lent xs) xs _ ((F1.out.below M1.out).read.2.2.2.drewN _) ((H.out.rd.below M0.out).drewN _) H.out.small (by rw [lent_length]; omega)).mono ?_
      rintro e w11 ⟨rfl, hb⟩
      have HB11 : Hid (Below w10.heap.size w10 w11) := below_of_drewN hb
      clear hb
      go_wp2_with fail
      refine (KeptWords_calls A2 A' c2 c' (lent ys) ys _ (F2.out.below (bs2 M2.out HB11.out)).read.2.2.2 (H'.out.rd.below (bs2 M0.out HB11.out)) H'.out.small (by rw [lent_length]; omega)).mono ?_
      rintro e w12 ⟨rfl, hb⟩
      have HB12 := Q.hid hb
      clear hb
      have N6 : Hid (Below w6.heap.size w6 w12) := bs4 L6.out HB10.out HB11.out HB12.out
      have HF : Hid (Fresh w12 w.heap.size w12.heap.size [(.slice A1 (lent xs).length c1, lent xs), (.slice A3 (trim xs).length c3, trim xs), (.slice A4 (trim xs).length c4, trim xs), (.slice A5 (of64 x).length c5, of64 x), (.slice A6 (of64 x).length c6, of64 x)]) :=
        ⟨w2.heap.size, (bs2 HB1.out HB2.out).size, F1.out.below (bs3 M1.out HB11.out HB12.out), fun k hk => Nat.lt_of_lt_of_le (F1.out.base k hk).2 HB2.out.size, lent_wds H.out.wds, by rw [lent_length]; omega,
         w3.heap.size, HB3.out.size, F3.out.below (bs4 HB4.out HB5.out HB6.out N6.out), fun k hk => (F3.out.base k hk).2, H.out.wds.trim, by have := HT.out; omega,
         w4.heap.size, HB4.out.size, F4.out.below (bs3 HB5.out HB6.out N6.out), fun k hk => (F4.out.base k hk).2, H.out.wds.trim, by have := HT.out; omega,
         w5.heap.size, HB5.out.size, F5.out.below (bs2 HB6.out N6.out), fun k hk => (F5.out.base k hk).2, of64_wds HX0.out HX1.out, by have := HOF.out; omega,
         w6.heap.size, HB6.out.size, F6.out.below N6.out, fun k hk => (F6.out.base k hk).2, of64_wds HX0.out HX1.out, by have := HOF.out; omega,
         N6.out.size⟩
      have HR : Hid (Below w.heap.size w w12) := bs3 M0.out HB11.out HB12.out
      go_wp2_with fail
      refine (ApartWords_calls _ 5 w.heap.size _ _ _ (HF.out.rows (Nat.le_refl _)) (Nat.le_trans HR.out.size (by simp)) (by simp)).mono ?_
      rintro e w13 ⟨rfl, hb⟩
      have HB13 := Q.hid hb
      clear hb
      go_wp2
      go_ret
      exact ⟨rfl, (HR.out.alloc HR.out.size _).trans HB13.out⟩
end Go.Proofs.Ytgnmmifeojfjlaa
