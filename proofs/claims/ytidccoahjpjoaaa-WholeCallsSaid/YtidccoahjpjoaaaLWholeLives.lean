/- Two of chapter 2's examples: found so. -/
import Derived.Test.YtidccoahjpjoaaaQWhl7
set_option linter.unusedVariables false
set_option linter.unusedSimpArgs false
namespace Go.Proofs.Ytidccoahjpjoaaa
open Go Go.RowKit Q

theorem cw_lit {l : List Int} {v : Int} (hw : Wds l) (ht : Tr l) (hv : 0 ≤ v) (h : val l = v) : cw v = l := by
  unfold cw; exact nwd_eq hw ht (by omega)
theorem cw_max : cw 4294967295 = [4294967295] := cw_lit (Wds.cons (by omega) (by omega) Wds.nil) rfl (by omega) rfl
theorem cw_two32 : cw 4294967296 = [0, 1] := cw_lit (Wds.cons (by omega) (by omega) (Wds.cons (by omega) (by omega) Wds.nil)) rfl (by omega) rfl
theorem sh_small {v : Int} (h : (v.natAbs : Int) < 18446744073709551616) : Sh v := sh_64 h

theorem SameWhole_lit (n m : Bool) (A A' : Option Addr) (c c' : Nat) (xs ys : List Int) (w : World) (h : Rd w A xs) (h' : Rd w A' ys) (hm : xs.length ≤ 9223372036854775807) (hn : n = m) (hx : xs = ys) :
    Calls Try.prog 8 #[.agg #[.bool n, .slice A xs.length c], .agg #[.bool m, .slice A' ys.length c']] w fun e w' => e = .returned (.bool true) ∧ Below w.heap.size w w' :=
  (SameWhole_calls n m A A' c c' xs ys w h h' hm).mono fun e w' ⟨he, hb⟩ => ⟨by rw [he, hn, hx]; simp, hb⟩

set_option maxHeartbeats 2000000 in
theorem lives_calls (w : World) :
    Calls Try.prog 11 #[] w fun e w' => e = .returned (.bool true) ∧ Below w.heap.size w w' := by
  have HS0 : Hid (Nums w w [] []) := ⟨fun x hx => by simp at hx, fun x hx => by simp at hx, fun g hg => by simp at hg, Below.refl _ _⟩
  have HL : Hid (In (w.alloc (.cells #[.int .u32 4294967295] 58)) (some ⟨w.heap.size, 0, none⟩) 1 (cw 4294967295)) := by
    have HO := Ow.lit w 58 0 [4294967295] (Nat.zero_le _) (by simp [maxLen])
    rw [cw_max]
    exact ⟨HO.read.2.2.2, by simp, by simp, Wds.cons (by omega) (by omega) Wds.nil⟩
  have hl1 : (cw 4294967295).length = 1 := by rw [cw_max]; rfl
  have HL1 := Q.hid hl1
  have HA : Hid (addW (cn 4294967295) (cw 4294967295) (cn 1) (cw 1) = ⟨cn 4294967296, cw 4294967296, 0⟩) := addW_can (sh_small (by omega)) (sh_small (by omega)) (sh_small (by omega))
  have HQ : Hid (quoW (cn (-7)) (cw (-7)) (cn 2) (cw 2) = ⟨cn (-4), cw (-4), 0⟩) := quoW_can (v := -7) (u := 2) (sh_small (by omega)) (sh_small (by omega)) (by omega)
  have HR : Hid (remW (cn (-7)) (cw (-7)) (cn 2) (cw 2) = ⟨cn 1, cw 1, 0⟩) := remW_can (v := -7) (u := 2) (sh_small (by omega)) (sh_small (by omega)) (by omega)
  clear hl1
  go_enter Try.func11, Try.ntmps11
  go_wp2_with fail
  refine (of_calls 1 _ (by omega) (by omega)).mono ?_
  rintro e w1 ⟨A1, c1, rfl, ho, hb⟩
  have HL2 := Q.hid (HL.out.below hb)
  have HI1 := Q.hid (inn_of ho (sh_small (by omega)))
  have HS1 := Q.hid (HS0.out.step ((below_alloc1 w _).trans (hb.mono (by simp))))
  clear ho hb HL HS0
  go_wp2_with fail
  have HC := fun h => wAdd_calls (cn 4294967295) (cn 1) (some ⟨w.heap.size, 0, none⟩) A1 1 c1 (cw 4294967295) (cw 1) w1 h HI1.out
  rw [HL1.out] at HC
  refine (HC HL2.out).mono ?_
  rintro e w2 ⟨A2, c2, rfl, ho, hb⟩
  rw [HA.out] at ho ⊢
  have HS2 := Q.hid (HS1.out.snoc hb (inn_of ho (sh_small (by omega))) (made_at ho))
  clear ho hb HC HS1 HI1 HL2
  go_wp2_with fail
  refine (of_calls (-7) _ (by omega) (by omega)).mono ?_
  rintro e w3 ⟨A3, c3, rfl, ho, hb⟩
  have HI3 := Q.hid (inn_of ho (sh_small (by omega)))
  have HS3 := Q.hid (HS2.out.step hb)
  clear ho hb HS2
  go_wp2_with fail
  refine (of_calls 2 _ (by omega) (by omega)).mono ?_
  rintro e w4 ⟨A4, c4, rfl, ho, hb⟩
  have HI3 := Q.hid (HI3.out.below hb)
  have HI4 := Q.hid (inn_of ho (sh_small (by omega)))
  have HS4 := Q.hid (HS3.out.step hb)
  clear ho hb HS3
  go_wp2_with fail
  refine (wDivMod_calls (cn (-7)) (cn 2) A3 A4 c3 c4 (cw (-7)) (cw 2) _ HI3.out HI4.out).mono ?_
  rintro e w5 ⟨A5, c5, A6, c6, rfl, ho, ho', ha, hb⟩
  rw [HQ.out] at ho ⊢
  rw [HR.out] at ho' ⊢
  have HS5 := Q.hid (HS4.out.snoc2 hb (inn_of ho (sh_small (by omega))) (made_at ho) (u := 1) (inn_of ho' (sh_small (by omega))) (made_at ho'))
  clear ho ho' ha hb HS4 HI3 HI4
  have m1 := HS5.out.box ⟨w2.heap.size, 4294967296, A2, c2⟩ (by simp)
  have k10 := m1.c0
  have k11 := m1.c1
  clear m1
  have HI2 := Q.hid (HS5.out.inn ⟨w2.heap.size, 4294967296, A2, c2⟩ (by simp))
  go_wp2_with fail
  have HLW : Hid (Rd (((w5.alloc (.cells #[.bool (cn (-4)), .slice A5 (cw (-4)).length c5] 24)).alloc (.cells #[.bool (cn 1), .slice A6 (cw 1).length c6] 24)).alloc (.cells #[.int .u32 0, .int .u32 1] 58)) (some ⟨w5.heap.size + 1 + 1, 0, none⟩) [0, 1]) := by
    have HO := Ow.lit ((w5.alloc (.cells #[.bool (cn (-4)), .slice A5 (cw (-4)).length c5] 24)).alloc (.cells #[.bool (cn 1), .slice A6 (cw 1).length c6] 24)) 58 0 [0, 1] (Nat.zero_le _) (by simp [maxLen])
    simp only [World.size_alloc] at HO
    exact HO.read.2.2.2
  have HS6 := Q.hid (HS5.out.step (below_alloc1 _ (.cells #[.int .u32 0, .int .u32 1] 58)))
  refine (SameWhole_lit (cn 4294967296) false A2 (some ⟨w5.heap.size + 1 + 1, 0, none⟩) c2 2 (cw 4294967296) [0, 1] _ (HI2.out.rd.alloc _) HLW.out (by have := HI2.out.small; omega) rfl cw_two32).mono ?_
  rintro e w6 ⟨rfl, hb⟩
  have HS6 := Q.hid (HS6.out.step hb)
  clear hb HLW HS5 HI2 k10 k11
  have m2 := HS6.out.box ⟨w5.heap.size, -4, A5, c5⟩ (by simp)
  have k20 := m2.c0
  have k21 := m2.c1
  clear m2
  go_wp2_with fail
  refine (is_eq A5 c5 (-4) _ (HS6.out.inn ⟨w5.heap.size, -4, A5, c5⟩ (by simp)) (by omega) (by omega)).mono ?_
  rintro e w7 ⟨rfl, hb⟩
  have HS7 := Q.hid (HS6.out.step hb)
  clear hb HS6 k20 k21
  have m3 := HS7.out.box ⟨w5.heap.size + 1, 1, A6, c6⟩ (by simp)
  have k30 := m3.c0
  have k31 := m3.c1
  clear m3
  go_wp2_with fail
  refine (is_eq A6 c6 1 _ (HS7.out.inn ⟨w5.heap.size + 1, 1, A6, c6⟩ (by simp)) (by omega) (by omega)).mono ?_
  rintro e w8 ⟨rfl, hb⟩
  have HB := Q.hid (HS7.out.step hb).below
  clear hb HS7 k30 k31
  go_wp2
  go_ret
  exact ⟨rfl, HB.out⟩
end Go.Proofs.Ytidccoahjpjoaaa
