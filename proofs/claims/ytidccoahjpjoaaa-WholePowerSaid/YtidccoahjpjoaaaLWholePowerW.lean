/- The walk of WholePower. -/
import Derived.Test.YtidccoahjpjoaaaLWholeLives
import Derived.Test.YtidccoahjpjoaaaQWhl8
import Derived.Test.YtidccoahjpjoaaaQApt
set_option linter.unusedVariables false
set_option linter.unusedSimpArgs false
namespace Go.Proofs.Ytidccoahjpjoaaa
open Go Go.RowKit Q

theorem lent_take' (xs : List Int) : (lent xs).take xs.length = xs := by unfold lent; exact List.take_left
theorem powW_wds (n : Bool) (xs : List Int) (k : Int) : Wds (powW n xs k).ws := by
  unfold powW; split
  · split
    · exact Wds.nil
    · exact toldW_wds _
  · exact Wds.nil
theorem powW_len (n : Bool) (xs : List Int) (k : Int) : (powW n xs k).ws.length ≤ 2048 := by
  unfold powW; split
  · split
    · exact noW_len _
    · exact toldW_len _
  · exact noW_len _

set_option maxHeartbeats 4000000 in
set_option maxRecDepth 100000 in
theorem WholePower_walk (n : Bool) (A : Option Addr) (c : Nat) (xs : List Int) (k : Int) (w : World) (h : In w A c xs) (hk0 : -9223372036854775808 ≤ k) (hk1 : k < 9223372036854775808) :
    Calls Try.prog 4 #[.agg #[.bool n, .slice A xs.length c], .int .i64 k] w fun e w' => e = .returned (.bool true) ∧ Below w.heap.size w w' := by
  have H := Q.hid h
  have hm : xs.length * 4 ≤ 140737488351232 := h.small
  clear h
  have B1 := Q.hid (Bx.new w n (.slice A xs.length c))
  have HB := Q.hid (below_alloc1 w (.cells #[.bool n, .slice A xs.length c] 24))
  by_cases hA : 4 < xs.length ∧ xs.length ≤ 2048
  · have d1 : decide (4 < (xs.length : Int)) = true := decide_eq_true (by omega)
    have d2 : decide (4 < xs.length) = true := decide_eq_true hA.1
    have d3 : decide ((xs.length : Int) ≤ 2048) = true := decide_eq_true (by omega)
    have d4 : decide (xs.length ≤ 2048) = true := decide_eq_true hA.2
    go_enter Try.func4, Try.ntmps4
    go_wp2_with fail
    refine (lives_calls _).mono ?_
    rintro e w1 ⟨rfl, hb⟩
    have B1 := Q.hid (B1.out.below hb)
    have HB := Q.hid (bs2 HB.out hb)
    clear hb
    have k10 := B1.out.c0
    have k11 := B1.out.c1
    go_wp2
    go_ret
    exact ⟨rfl, HB.out⟩
  · have hl : (decide (4 < (xs.length : Int)) = false ∧ decide (4 < xs.length) = false) ∨ (decide (4 < (xs.length : Int)) = true ∧ decide (4 < xs.length) = true ∧ decide ((xs.length : Int) ≤ 2048) = false ∧ decide (xs.length ≤ 2048) = false) := by
      rcases (by omega : xs.length ≤ 4 ∨ 2048 < xs.length) with h | h
      · exact .inl ⟨decide_eq_false (by omega), decide_eq_false (by omega)⟩
      · exact .inr ⟨decide_eq_true (by omega), decide_eq_true (by omega), decide_eq_false (by omega), decide_eq_false (by omega)⟩
    by_cases hB : 300 < k ∧ k ≤ 4096
    · have e1 : decide (300 < k) = true := decide_eq_true hB.1
      have e2 : decide (k ≤ 4096) = true := decide_eq_true hB.2
      rcases hl with ⟨d1, d2⟩ | ⟨d1, d2, d3, d4⟩
      all_goals
        go_enter Try.func4, Try.ntmps4
        go_wp2_with fail
        refine (lives_calls _).mono ?_
        rintro e w1 ⟨rfl, hb⟩
        have B1 := Q.hid (B1.out.below hb)
        have HB := Q.hid (bs2 HB.out hb)
        clear hb
        have k10 := B1.out.c0
        have k11 := B1.out.c1
        go_wp2
        go_ret
        exact ⟨rfl, HB.out⟩
    · have H4 : Hid (chkW n xs = 0 → xs.length ≤ 4) := fun h0 => by have := (chkW_zero.1 h0).1; omega
      have hk : k ≤ 300 ∨ 4096 < k := by omega
      have hkk : decide (300 < k) = false ∨ (decide (300 < k) = true ∧ decide (k ≤ 4096) = false) := by
        rcases hk with h | h
        · exact .inl (decide_eq_false (by omega))
        · exact .inr ⟨decide_eq_true (by omega), decide_eq_false (by omega)⟩
      clear hA hB
      rcases hl with ⟨d1, d2⟩ | ⟨d1, d2, d3, d4⟩
      all_goals
        rcases hkk with e1 | ⟨e1, e2⟩
        all_goals
          go_enter Try.func4, Try.ntmps4
          go_wp2_with fail
          refine (lives_calls _).mono ?_
          rintro e w1 ⟨rfl, hb⟩
          have B1 := Q.hid (B1.out.below hb)
          have HB := Q.hid (bs2 HB.out hb)
          clear hb
          have k10 := B1.out.c0
          have k11 := B1.out.c1
          go_wp2_with fail
          refine (LentWhole_calls n A c xs _ (H.out.below HB.out)).mono ?_
          rintro e w2 ⟨A2, c2, rfl, ho, hb⟩
          have hc2 : xs.length + 3 ≤ c2 := by have := ho.read.2.1; rw [lent_length] at this; omega
          have hc3 : c2 ≤ 9223372036854775807 := by have := ho.read.2.2.1; simpa [maxLen] using this
          have hcut := ho.cut (m := xs.length) (by rw [lent_length]; omega)
          rw [lent_take'] at hcut
          have hcut := hcut.mono HB.out.size
          have HL := Q.hid (ho.alloc (.cells #[.bool n, .slice A2 xs.length c2] 24)).read.2.2.2
          have HC := Q.hid ((⟨hcut.read.2.2.2, by omega, by omega, H.out.wds⟩ : In w2 A2 c2 xs).alloc (.cells #[.bool n, .slice A2 xs.length c2] 24))
          have HA := Q.hid (((Apt.one hcut H.out.wds hm (bs2 HB.out hb).size).below (below_alloc1 w2 (.cells #[.bool n, .slice A2 xs.length c2] 24))).wider (by rw [World.size_alloc]; exact Nat.le_succ _) : Apt _ _ (w2.alloc (.cells #[.bool n, .slice A2 xs.length c2] 24)).heap.size _)
          have B1 := Q.hid ((B1.out.below hb).alloc (.cells #[.bool n, .slice A2 xs.length c2] 24))
          have B5 := Q.hid (Bx.new w2 n (.slice A2 xs.length c2))
          have HB := Q.hid ((bs2 HB.out hb).alloc (bs2 HB.out hb).size (.cells #[.bool n, .slice A2 xs.length c2] 24))
          clear ho hb hcut k10 k11
          have k50 := B5.out.c0
          have k51 := B5.out.c1
          go_wp2_with fail
          refine (wPower_calls n A2 c2 xs k _ HC.out H4.out hk hk0 (by omega)).mono ?_
          rintro e w3 ⟨A3, c3, rfl, ho, hb⟩
          have HA := Q.hid (((HA.out.more hb (Nat.le_refl _) (Apt.one ho (powW_wds n xs k) (by have := powW_len n xs k; omega) hb.size)).below (below_alloc1 w3 (.cells #[.bool (powW n xs k).neg, .slice A3 (powW n xs k).ws.length c3] 24))).wider (by rw [World.size_alloc]; exact Nat.le_succ _) : Apt _ _ (w3.alloc (.cells #[.bool (powW n xs k).neg, .slice A3 (powW n xs k).ws.length c3] 24)).heap.size _)
          have HP := Q.hid (ho.alloc (.cells #[.bool (powW n xs k).neg, .slice A3 (powW n xs k).ws.length c3] 24)).read.2.2.2
          have HL := Q.hid ((HL.out.below hb).alloc (.cells #[.bool (powW n xs k).neg, .slice A3 (powW n xs k).ws.length c3] 24))
          have B1 := Q.hid ((B1.out.below hb).alloc (.cells #[.bool (powW n xs k).neg, .slice A3 (powW n xs k).ws.length c3] 24))
          have B5 := Q.hid ((B5.out.below hb).alloc (.cells #[.bool (powW n xs k).neg, .slice A3 (powW n xs k).ws.length c3] 24))
          have B6 := Q.hid (Bx.new w3 (powW n xs k).neg (.slice A3 (powW n xs k).ws.length c3))
          have HB := Q.hid ((bs2 HB.out hb).alloc (bs2 HB.out hb).size (.cells #[.bool (powW n xs k).neg, .slice A3 (powW n xs k).ws.length c3] 24))
          clear ho hb HC k50 k51
          have k10 := B1.out.c0
          have k11 := B1.out.c1
          go_wp2_with fail
          refine (rWPower_calls n A c xs k _ (H.out.below HB.out) H4.out hk hk0 (by omega)).mono ?_
          rintro e w4 ⟨A4, c4, rfl, ho, hb⟩
          have HR := Q.hid (ho.alloc (.cells #[.bool (powW n xs k).neg, .slice A4 (powW n xs k).ws.length c4] 24)).read.2.2.2
          have HP := Q.hid ((HP.out.below hb).alloc (.cells #[.bool (powW n xs k).neg, .slice A4 (powW n xs k).ws.length c4] 24))
          have HL := Q.hid ((HL.out.below hb).alloc (.cells #[.bool (powW n xs k).neg, .slice A4 (powW n xs k).ws.length c4] 24))
          have HA := Q.hid (((HA.out.below hb).below (below_alloc1 w4 (.cells #[.bool (powW n xs k).neg, .slice A4 (powW n xs k).ws.length c4] 24))).wider (by have := hb.size; simp only [World.size_alloc] at this ⊢; omega) : Apt _ _ (w4.alloc (.cells #[.bool (powW n xs k).neg, .slice A4 (powW n xs k).ws.length c4] 24)).heap.size _)
          have B1 := Q.hid ((B1.out.below hb).alloc (.cells #[.bool (powW n xs k).neg, .slice A4 (powW n xs k).ws.length c4] 24))
          have B5 := Q.hid ((B5.out.below hb).alloc (.cells #[.bool (powW n xs k).neg, .slice A4 (powW n xs k).ws.length c4] 24))
          have B6 := Q.hid ((B6.out.below hb).alloc (.cells #[.bool (powW n xs k).neg, .slice A4 (powW n xs k).ws.length c4] 24))
          have HB := Q.hid ((bs2 HB.out hb).alloc (bs2 HB.out hb).size (.cells #[.bool (powW n xs k).neg, .slice A4 (powW n xs k).ws.length c4] 24))
          clear ho hb k10 k11
          have k60 := B6.out.c0
          have k61 := B6.out.c1
          go_wp2_with fail
          refine (wone_calls (powW n xs k).neg (powW n xs k).neg (powW n xs k).err (powW n xs k).err A3 A4 c3 c4 (powW n xs k).ws (powW n xs k).ws _ HP.out HR.out (by have := powW_len n xs k; omega) rfl rfl rfl).mono ?_
          rintro e w5 ⟨rfl, hb⟩
          have HL := Q.hid (HL.out.below hb)
          have HA := Q.hid ((HA.out.below hb).wider hb.size)
          have B1 := Q.hid (B1.out.below hb)
          have B5 := Q.hid (B5.out.below hb)
          have B6 := Q.hid (B6.out.below hb)
          have HB := Q.hid (bs2 HB.out hb)
          clear hb k60 k61 HP HR
          have k10 := B1.out.c0
          have k11 := B1.out.c1
          have k50 := B5.out.c0
          have k51 := B5.out.c1
          go_wp2_with fail
          refine (KeptWhole_calls n A A2 c c2 xs _ (H.out.below HB.out) HL.out hc2 hc3).mono ?_
          rintro e w6 ⟨rfl, hb⟩
          have HA := Q.hid ((HA.out.below hb).wider hb.size)
          have B5 := Q.hid (B5.out.below hb)
          have B6 := Q.hid (B6.out.below hb)
          have HB := Q.hid (bs2 HB.out hb)
          clear hb k10 k11 k50 k51 HL B1
          have k50 := B5.out.c0
          have k51 := B5.out.c1
          have k60 := B6.out.c0
          have k61 := B6.out.c1
          go_wp2_with fail
          refine (ApartWords_calls _ 2 w.heap.size _ _ _ (HA.out.rows (Nat.le_refl _)) (Nat.le_trans HB.out.size (by simp)) (by simp)).mono ?_
          rintro e w7 ⟨rfl, hb⟩
          have HB7 := Q.hid ((HB.out.alloc HB.out.size _).trans hb)
          clear hb
          go_wp2
          go_ret
          exact ⟨rfl, HB7.out⟩
end Go.Proofs.Ytidccoahjpjoaaa
