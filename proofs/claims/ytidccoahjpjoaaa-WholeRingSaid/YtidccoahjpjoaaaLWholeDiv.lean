/- Quotients and divisors of two numbers, as the law asks. -/
import Derived.Test.YtidccoahjpjoaaaLWholeHelp
set_option linter.unusedVariables false
set_option linter.unusedSimpArgs false
namespace Go.Proofs.Ytidccoahjpjoaaa
open Go Go.RowKit Q

theorem gc_nat (v u : Int) : gc (v.natAbs : Int) (u.natAbs : Int) = (Nat.gcd v.natAbs u.natAbs : Int) := by unfold gc; simp
theorem gc_facts {v u : Int} (hu : u ≠ 0) : ∃ g : Int, g = gc (v.natAbs : Int) (u.natAbs : Int) ∧ 0 < g ∧ v % g = 0 ∧ u % g = 0 ∧ gc ((v / g).natAbs : Int) ((u / g).natAbs : Int) = 1 := by
  refine ⟨_, rfl, ?_⟩
  rw [gc_nat]
  have hp : 0 < Nat.gcd v.natAbs u.natAbs := Nat.gcd_pos_of_pos_right _ (by omega)
  have d1 : ((Nat.gcd v.natAbs u.natAbs : Nat) : Int) ∣ v := Int.ofNat_dvd_left.2 (Nat.gcd_dvd_left _ _)
  have d2 : ((Nat.gcd v.natAbs u.natAbs : Nat) : Int) ∣ u := Int.ofNat_dvd_left.2 (Nat.gcd_dvd_right _ _)
  refine ⟨by omega, Int.emod_eq_zero_of_dvd d1, Int.emod_eq_zero_of_dvd d2, ?_⟩
  obtain ⟨k, hk⟩ := d1
  obtain ⟨l, hl⟩ := d2
  generalize hg : Nat.gcd v.natAbs u.natAbs = g at *
  have e1 : v / (g : Int) = k := by rw [hk]; exact Int.mul_ediv_cancel_left _ (by omega)
  have e2 : u / (g : Int) = l := by rw [hl]; exact Int.mul_ediv_cancel_left _ (by omega)
  rw [e1, e2, gc_nat]
  have a1 : v.natAbs = g * k.natAbs := by rw [hk, Int.natAbs_mul]; rfl
  have a2 : u.natAbs = g * l.natAbs := by rw [hl, Int.natAbs_mul]; rfl
  rw [a1, a2, Nat.gcd_mul_left] at hg
  have : g * Nat.gcd k.natAbs l.natAbs = g * 1 := by omega
  have := Nat.eq_of_mul_eq_mul_left hp this
  omega
theorem absW_can' {v : Int} (h : Sh v) : absW (cn v) (cw v) = ⟨cn (v.natAbs : Int), cw (v.natAbs : Int), 0⟩ := by
  unfold absW; rw [if_pos (chkW_can h), wv_can, toldW_can (sh_abs h)]
theorem gcdW_can' {v u : Int} (h : Sh v) (k : Sh u) : Sh (gc (v.natAbs : Int) u.natAbs) ∧ gcdW (cn v) (cw v) (cn u) (cw u) = ⟨cn (gc (v.natAbs : Int) u.natAbs), cw (gc (v.natAbs : Int) u.natAbs), 0⟩ := by
  have h0 := gc_nonneg (v.natAbs : Int) u.natAbs
  have h1 := gc_le (x := (v.natAbs : Int)) (y := u.natAbs) (by omega) (by omega) (Bp 2048 - 1) (by unfold Sh at h; omega) (by unfold Sh at k; omega)
  have hs : Sh (gc (v.natAbs : Int) u.natAbs) := by unfold Sh; omega
  exact ⟨hs, by unfold gcdW; rw [if_pos (chkW2_can h k), val_cw, val_cw, toldW_can hs]⟩
theorem remW_can' {v u : Int} (h : Sh v) (k : Sh u) (hu : u ≠ 0) : Sh (v % u) ∧ remW (cn v) (cw v) (cn u) (cw u) = ⟨cn (v % u), cw (v % u), 0⟩ := by
  have h5 := Int.emod_nonneg v hu
  have h6 := Int.emod_lt v hu
  have hs : Sh (v % u) := by unfold Sh at *; omega
  exact ⟨hs, by unfold remW; rw [if_pos (chkW2_can h k), if_neg (fun e => hu ((cw_nil_iff u).1 e)), wv_can, wv_can, toldW_can hs]⟩
theorem quo_sh {v u : Int} (h : Sh v) : Sh (v / u) := by
  have := Int.natAbs_ediv_le_natAbs v u
  unfold Sh at *; omega

set_option maxHeartbeats 4000000 in
set_option maxRecDepth 100000 in
theorem divides_calls (v u : Int) (A A' : Option Addr) (c c' : Nat) (w : World) (h : In w A c (cw v)) (h' : In w A' c' (cw u)) (hv : (v.natAbs : Int) < Bp 40) (hu : (u.natAbs : Int) < Bp 40) :
    Calls Try.prog 23 #[.agg #[.bool (cn v), .slice A (cw v).length c], .agg #[.bool (cn u), .slice A' (cw u).length c']] w fun e w' => e = .returned (.bool true) ∧ Below w.heap.size w w' := by
  have H := Q.hid h
  have H' := Q.hid h'
  have hsv : Sh v := sh_of hv (by omega)
  have hsu : Sh u := sh_of hu (by omega)
  by_cases hu0 : u = 0
  · have HQ : Hid (quoW (cn v) (cw v) (cn u) (cw u) = noW 7 ∧ remW (cn v) (cw v) (cn u) (cw u) = noW 7) := ⟨(if_pos (chkW2_can hsv hsu)).trans (if_pos ((cw_nil_iff u).2 hu0)), (if_pos (chkW2_can hsv hsu)).trans (if_pos ((cw_nil_iff u).2 hu0))⟩
    have hz : (cw u).length = 0 := by rw [(cw_nil_iff u).2 hu0]; rfl
    have hl1 : (((cw u).length : Int) == 0) = true := by rw [hz]; rfl
    have hl2 : ((cw u).length == 0) = true := by rw [hz]; rfl
    clear h h' hv hu hsv hsu hu0 hz
    obtain ⟨W, hW⟩ : ∃ W, W = ((w.alloc (.cells #[.bool (cn v), .slice A (cw v).length c] 24)).alloc (.cells #[.bool (cn u), .slice A' (cw u).length c'] 24)) := ⟨_, rfl⟩
    have SQ : Hid (Nums w W [⟨w.heap.size, v, A, c⟩, ⟨w.heap.size + 1, u, A', c'⟩] []) := by
      have B2 := Bx.new (w.alloc (.cells #[.bool (cn v), .slice A (cw v).length c] 24)) (cn u) (.slice A' (cw u).length c')
      rw [World.size_alloc] at B2
      rw [hW]
      refine ⟨fun x hx => ?_, fun x hx => ?_, fun g hg => by simp at hg, below_alloc2 _ _ _⟩
      · simp at hx
        rcases hx with rfl | rfl
        · exact (Bx.new w (cn v) (.slice A (cw v).length c)).alloc _
        · exact B2
      · simp at hx
        rcases hx with rfl | rfl
        · exact (H.out.alloc _).alloc _
        · exact (H'.out.alloc _).alloc _
    have ka0 := (SQ.out.box ⟨w.heap.size, v, A, c⟩ (by simp)).c0
    have ka1 := (SQ.out.box ⟨w.heap.size, v, A, c⟩ (by simp)).c1
    have kb0 := (SQ.out.box ⟨w.heap.size + 1, u, A', c'⟩ (by simp)).c0
    have kb1 := (SQ.out.box ⟨w.heap.size + 1, u, A', c'⟩ (by simp)).c1
    go_enter Try.func23, Try.ntmps23
    go_wp2_with fail
    rw [← hW]
    clear hW
    refine (wDivMod_calls (cn v) (cn u) A A' c c' (cw v) (cw u) _ (SQ.out.inn ⟨w.heap.size, v, A, c⟩ (by simp)) (SQ.out.inn ⟨w.heap.size + 1, u, A', c'⟩ (by simp))).mono ?_
    rintro e w1 ⟨A1, c1, A2, c2, rfl, ho, ho', ha, hb⟩
    rw [HQ.out.1, HQ.out.2]
    have SQ := Q.hid ((SQ.out.step hb).step (below_alloc2 _ (.cells #[.bool (noW 7).neg, .slice A1 (noW 7).ws.length c1] 24) (.cells #[.bool (noW 7).neg, .slice A2 (noW 7).ws.length c2] 24)))
    clear ho ho' ha hb ka0 ka1 kb0 kb1
    have kb0 := (SQ.out.box ⟨w.heap.size + 1, u, A', c'⟩ (by simp)).c0
    have kb1 := (SQ.out.box ⟨w.heap.size + 1, u, A', c'⟩ (by simp)).c1
    go_wp2
    go_ret
    exact ⟨rfl, SQ.out.below⟩
  · obtain ⟨g, hg, hg0, hg1, hg2, hg3⟩ := gc_facts (v := v) hu0
    have hsq : Sh (v / u) := quo_sh hsv
    have hbq : ((v / u).natAbs : Int) < Bp 40 := by have := Int.natAbs_ediv_le_natAbs v u; omega
    have hsp : Sh (v / u * u) := sh_of (mul_bnd hbq hu) (by omega)
    obtain ⟨hsr, hrr⟩ := remW_can' hsv hsu hu0
    have HQ : Hid (quoW (cn v) (cw v) (cn u) (cw u) = ⟨cn (v / u), cw (v / u), 0⟩) := quoW_can hsv hsu hu0
    have HR : Hid (remW (cn v) (cw v) (cn u) (cw u) = ⟨cn (v % u), cw (v % u), 0⟩) := hrr
    have HS : Hid (v / u * u + v % u = v) := by rw [Int.mul_comm]; exact Int.mul_ediv_add_emod v u
    have hss : Sh (v / u * u + v % u) := by rw [HS.out]; exact hsv
    have HAb : Hid (absW (cn u) (cw u) = ⟨cn (u.natAbs : Int), cw (u.natAbs : Int), 0⟩) := absW_can' hsu
    have hsab := sh_abs hsu
    have HCm : Hid (cmpW (cn (v % u)) (cw (v % u)) (cn (u.natAbs : Int)) (cw (u.natAbs : Int)) = -1) := (cmpW_can hsr hsab).trans (cmp_lt (Int.emod_lt v hu0))
    have HCk : Hid (chkW2 (cn (v % u)) (cw (v % u)) (cn (u.natAbs : Int)) (cw (u.natAbs : Int)) = 0) := chkW2_can hsr hsab
    obtain ⟨hsg, hgg⟩ := gcdW_can' hsv hsu
    have HG : Hid (gcdW (cn v) (cw v) (cn u) (cw u) = ⟨cn g, cw g, 0⟩) := by rw [hg]; exact hgg
    rw [← hg] at hsg
    have hcg : cn g = false := decide_eq_false (by omega)
    have HQ1 : Hid (quoW (cn v) (cw v) false (cw g) = ⟨cn (v / g), cw (v / g), 0⟩) := by rw [← hcg]; exact quoW_can hsv hsg (by omega)
    have HR1 : Hid (remW (cn v) (cw v) false (cw g) = ⟨cn 0, cw 0, 0⟩) := by have := (remW_can' hsv hsg (by omega)).2; rwa [hg1, hcg] at this
    have HQ2 : Hid (quoW (cn u) (cw u) false (cw g) = ⟨cn (u / g), cw (u / g), 0⟩) := by rw [← hcg]; exact quoW_can hsu hsg (by omega)
    have HR2 : Hid (remW (cn u) (cw u) false (cw g) = ⟨cn 0, cw 0, 0⟩) := by have := (remW_can' hsu hsg (by omega)).2; rwa [hg2, hcg] at this
    have hsq1 : Sh (v / g) := quo_sh hsv
    have hsq2 : Sh (u / g) := quo_sh hsu
    have HG1 : Hid (gcdW (cn (v / g)) (cw (v / g)) (cn (u / g)) (cw (u / g)) = ⟨cn 1, cw 1, 0⟩) := by have := (gcdW_can' hsq1 hsq2).2; rwa [hg3] at this
    have hs0 : Sh 0 := sh_small (by omega)
    have hs1 : Sh 1 := sh_small (by omega)
    have hcr : cn (v % u) = false := decide_eq_false (by have := Int.emod_nonneg v hu0; omega)
    have hnu : cw u ≠ [] := fun e => hu0 ((cw_nil_iff u).1 e)
    have hl1 : (((cw u).length : Int) == 0) = false := by have := List.length_pos_iff.2 hnu; simp; omega
    have hl2 : ((cw u).length == 0) = false := by have := List.length_pos_iff.2 hnu; simp; omega
    have hng : cw g ≠ [] := fun e => by have := (cw_nil_iff g).1 e; omega
    have hl3 : (((cw g).length : Int) == 0) = false := by have := List.length_pos_iff.2 hng; simp; omega
    have hl4 : ((cw g).length == 0) = false := by have := List.length_pos_iff.2 hng; simp; omega
    have hz0 : cw 0 = [] := (cw_nil_iff 0).2 rfl
    have HSH := Q.hid (And.intro hsv (And.intro hsu (And.intro hsq (And.intro hsp (And.intro hsr (And.intro hss (And.intro hsab (And.intro hsg (And.intro hsq1 (And.intro hsq2 (And.intro hs0 hs1)))))))))))
    have HCR := Q.hid hcr
    have HCG := Q.hid hcg
    have hl5 : (cw 0).length = 0 := by rw [hz0]; rfl
    have HL5 := Q.hid hl5
    clear h h' hv hu hu0 hg hg0 hg1 hg2 hg3 hbq hrr hgg hnu hng hz0 hcr hcg hl5
    obtain ⟨hsv', hsu', hsq', hsp', hsr', hss', hsab', hsg', hsq1', hsq2', hs0', hs1'⟩ := HSH.out
    have HV := Q.hid hsv
    have HU := Q.hid hsu
    have HQs := Q.hid hsq
    have HPs := Q.hid hsp
    have HRs := Q.hid hsr
    have HSs := Q.hid hss
    have HABs := Q.hid hsab
    have HGs := Q.hid hsg
    have HQ1s := Q.hid hsq1
    have HQ2s := Q.hid hsq2
    have H0s := Q.hid hs0
    have H1s := Q.hid hs1
    clear HSH hsv hsu hsq hsp hsr hss hsab hsg hsq1 hsq2 hs0 hs1 hsv' hsu' hsq' hsp' hsr' hss' hsab' hsg' hsq1' hsq2' hs0' hs1'
    obtain ⟨W, hW⟩ : ∃ W, W = ((w.alloc (.cells #[.bool (cn v), .slice A (cw v).length c] 24)).alloc (.cells #[.bool (cn u), .slice A' (cw u).length c'] 24)) := ⟨_, rfl⟩
    have SQ : Hid (Nums w W [⟨w.heap.size, v, A, c⟩, ⟨w.heap.size + 1, u, A', c'⟩] []) := by
      have B2 := Bx.new (w.alloc (.cells #[.bool (cn v), .slice A (cw v).length c] 24)) (cn u) (.slice A' (cw u).length c')
      rw [World.size_alloc] at B2
      rw [hW]
      refine ⟨fun x hx => ?_, fun x hx => ?_, fun g hg => by simp at hg, below_alloc2 _ _ _⟩
      · simp at hx
        rcases hx with rfl | rfl
        · exact (Bx.new w (cn v) (.slice A (cw v).length c)).alloc _
        · exact B2
      · simp at hx
        rcases hx with rfl | rfl
        · exact (H.out.alloc _).alloc _
        · exact (H'.out.alloc _).alloc _
    have ka0 := (SQ.out.box ⟨w.heap.size, v, A, c⟩ (by simp)).c0
    have ka1 := (SQ.out.box ⟨w.heap.size, v, A, c⟩ (by simp)).c1
    have kb0 := (SQ.out.box ⟨w.heap.size + 1, u, A', c'⟩ (by simp)).c0
    have kb1 := (SQ.out.box ⟨w.heap.size + 1, u, A', c'⟩ (by simp)).c1
    go_enter Try.func23, Try.ntmps23
    go_wp2_with fail
    rw [← hW]
    clear hW
    refine (wDivMod_calls (cn v) (cn u) A A' c c' (cw v) (cw u) _ (SQ.out.inn ⟨w.heap.size, v, A, c⟩ (by simp)) (SQ.out.inn ⟨w.heap.size + 1, u, A', c'⟩ (by simp))).mono ?_
    rintro e w1 ⟨A1, c1, A2, c2, rfl, ho, ho', ha, hb⟩
    rw [HQ.out] at ho ⊢
    rw [HR.out] at ho' ⊢
    have SQ := Q.hid (SQ.out.snoc2 hb (inn_of ho HQs.out) (made_at ho) (inn_of ho' HRs.out) (made_at ho'))
    clear ho ho' ha hb ka0 ka1 kb0 kb1
    have kb0 := (SQ.out.box ⟨w.heap.size + 1, u, A', c'⟩ (by simp)).c0
    have kb1 := (SQ.out.box ⟨w.heap.size + 1, u, A', c'⟩ (by simp)).c1
    have kq0 := (SQ.out.box ⟨w1.heap.size, v / u, A1, c1⟩ (by simp)).c0
    have kq1 := (SQ.out.box ⟨w1.heap.size, v / u, A1, c1⟩ (by simp)).c1
    go_wp2_with fail
    refine (lmul_calls (v / u) u A1 A' c1 c' _ (SQ.out.inn ⟨w1.heap.size, v / u, A1, c1⟩ (by simp)) (SQ.out.inn ⟨w.heap.size + 1, u, A', c'⟩ (by simp)) HQs.out HU.out HPs.out).mono ?_
    rintro e w2 ⟨A3, c3, rfl, ho, hb⟩
    have SQ := Q.hid (SQ.out.snoc hb (inn_of ho HPs.out) (made_at ho))
    clear ho hb kb0 kb1 kq0 kq1
    have kp0 := (SQ.out.box ⟨w2.heap.size, v / u * u, A3, c3⟩ (by simp)).c0
    have kp1 := (SQ.out.box ⟨w2.heap.size, v / u * u, A3, c3⟩ (by simp)).c1
    have kr0 := (SQ.out.box ⟨w1.heap.size + 1, v % u, A2, c2⟩ (by simp)).c0
    have kr1 := (SQ.out.box ⟨w1.heap.size + 1, v % u, A2, c2⟩ (by simp)).c1
    go_wp2_with fail
    refine (ladd_calls (v / u * u) (v % u) A3 A2 c3 c2 _ (SQ.out.inn ⟨w2.heap.size, v / u * u, A3, c3⟩ (by simp)) (SQ.out.inn ⟨w1.heap.size + 1, v % u, A2, c2⟩ (by simp)) HPs.out HRs.out HSs.out).mono ?_
    rintro e w3 ⟨A4, c4, rfl, ho, hb⟩
    rw [HS.out] at ho ⊢
    have SQ := Q.hid (SQ.out.snoc hb (inn_of ho HV.out) (made_at ho))
    clear ho hb kp0 kp1 kr0 kr1
    have kb0 := (SQ.out.box ⟨w.heap.size + 1, u, A', c'⟩ (by simp)).c0
    have kb1 := (SQ.out.box ⟨w.heap.size + 1, u, A', c'⟩ (by simp)).c1
    go_wp2_with fail
    refine (wAbs_calls (cn u) A' c' (cw u) _ (SQ.out.inn ⟨w.heap.size + 1, u, A', c'⟩ (by simp))).mono ?_
    rintro e w4 ⟨A5, c5, rfl, ho, hb⟩
    rw [HAb.out] at ho ⊢
    have SQ := Q.hid (SQ.out.snoc hb (inn_of ho HABs.out) (made_at ho))
    clear ho hb kb0 kb1
    have kr0 := (SQ.out.box ⟨w1.heap.size + 1, v % u, A2, c2⟩ (by simp)).c0
    have kr1 := (SQ.out.box ⟨w1.heap.size + 1, v % u, A2, c2⟩ (by simp)).c1
    have kz0 := (SQ.out.box ⟨w4.heap.size, (u.natAbs : Int), A5, c5⟩ (by simp)).c0
    have kz1 := (SQ.out.box ⟨w4.heap.size, (u.natAbs : Int), A5, c5⟩ (by simp)).c1
    go_wp2_with fail
    refine (wCompare_calls (cn (v % u)) (cn (u.natAbs : Int)) A2 A5 c2 c5 (cw (v % u)) (cw (u.natAbs : Int)) _ (SQ.out.inn ⟨w1.heap.size + 1, v % u, A2, c2⟩ (by simp)) (SQ.out.inn ⟨w4.heap.size, (u.natAbs : Int), A5, c5⟩ (by simp))).mono ?_
    rintro e w5 ⟨rfl, hb⟩
    rw [HCm.out, HCk.out]
    have SQ := Q.hid (SQ.out.step hb)
    clear hb kr0 kr1 kz0 kz1
    have kr0 := (SQ.out.box ⟨w1.heap.size + 1, v % u, A2, c2⟩ (by simp)).c0
    have kr1 := (SQ.out.box ⟨w1.heap.size + 1, v % u, A2, c2⟩ (by simp)).c1
    have hcr := HCR.out
    rw [hcr] at kr0
    have ks0 := (SQ.out.box ⟨w3.heap.size, v, A4, c4⟩ (by simp)).c0
    have ks1 := (SQ.out.box ⟨w3.heap.size, v, A4, c4⟩ (by simp)).c1
    have ka0 := (SQ.out.box ⟨w.heap.size, v, A, c⟩ (by simp)).c0
    have ka1 := (SQ.out.box ⟨w.heap.size, v, A, c⟩ (by simp)).c1
    go_wp2_with fail
    refine (same_calls v A4 A c4 c _ (SQ.out.inn ⟨w3.heap.size, v, A4, c4⟩ (by simp)) (SQ.out.inn ⟨w.heap.size, v, A, c⟩ (by simp)) HV.out).mono ?_
    rintro e w6 ⟨rfl, hb⟩
    have SQ := Q.hid (SQ.out.step hb)
    clear hb kr0 kr1 ks0 ks1 ka0 ka1 hcr
    have ka0 := (SQ.out.box ⟨w.heap.size, v, A, c⟩ (by simp)).c0
    have ka1 := (SQ.out.box ⟨w.heap.size, v, A, c⟩ (by simp)).c1
    have kb0 := (SQ.out.box ⟨w.heap.size + 1, u, A', c'⟩ (by simp)).c0
    have kb1 := (SQ.out.box ⟨w.heap.size + 1, u, A', c'⟩ (by simp)).c1
    go_wp2_with fail
    refine (wGcd_calls (cn v) (cn u) A A' c c' (cw v) (cw u) _ (SQ.out.inn ⟨w.heap.size, v, A, c⟩ (by simp)) (SQ.out.inn ⟨w.heap.size + 1, u, A', c'⟩ (by simp))).mono ?_
    rintro e w7 ⟨A6, c6, rfl, ho, hb⟩
    rw [HG.out] at ho ⊢
    have sq := SQ.out.snoc hb (inn_of ho HGs.out) (made_at ho)
    rw [HCG.out] at sq ⊢
    have SQ := Q.hid sq
    clear ho hb sq ka0 ka1 kb0 kb1
    have ka0 := (SQ.out.box ⟨w.heap.size, v, A, c⟩ (by simp)).c0
    have ka1 := (SQ.out.box ⟨w.heap.size, v, A, c⟩ (by simp)).c1
    have kd0 := (SQ.out.box ⟨w7.heap.size, g, A6, c6⟩ (by simp)).c0
    have kd1 := (SQ.out.box ⟨w7.heap.size, g, A6, c6⟩ (by simp)).c1
    rw [HCG.out] at kd0
    go_wp2_with fail
    refine (wDivMod_calls (cn v) false A A6 c c6 (cw v) (cw g) _ (SQ.out.inn ⟨w.heap.size, v, A, c⟩ (by simp)) (SQ.out.inn ⟨w7.heap.size, g, A6, c6⟩ (by simp))).mono ?_
    rintro e w8 ⟨A7, c7, A8, c8, rfl, ho, ho', ha, hb⟩
    rw [HQ1.out] at ho ⊢
    rw [HR1.out] at ho' ⊢
    have SQ := Q.hid (SQ.out.snoc2 hb (inn_of ho HQ1s.out) (made_at ho) (u := 0) (inn_of ho' H0s.out) (made_at ho'))
    clear ho ho' ha hb ka0 ka1 kd0 kd1
    have kb0 := (SQ.out.box ⟨w.heap.size + 1, u, A', c'⟩ (by simp)).c0
    have kb1 := (SQ.out.box ⟨w.heap.size + 1, u, A', c'⟩ (by simp)).c1
    have kd0 := (SQ.out.box ⟨w7.heap.size, g, A6, c6⟩ (by simp)).c0
    have kd1 := (SQ.out.box ⟨w7.heap.size, g, A6, c6⟩ (by simp)).c1
    rw [HCG.out] at kd0
    go_wp2_with fail
    refine (wDivMod_calls (cn u) false A' A6 c' c6 (cw u) (cw g) _ (SQ.out.inn ⟨w.heap.size + 1, u, A', c'⟩ (by simp)) (SQ.out.inn ⟨w7.heap.size, g, A6, c6⟩ (by simp))).mono ?_
    rintro e w9 ⟨A9, c9, A10, c10, rfl, ho, ho', ha, hb⟩
    rw [HQ2.out] at ho ⊢
    rw [HR2.out] at ho' ⊢
    have SQ := Q.hid (SQ.out.snoc2 hb (inn_of ho HQ2s.out) (made_at ho) (u := 0) (inn_of ho' H0s.out) (made_at ho'))
    clear ho ho' ha hb kb0 kb1 kd0 kd1
    have kx0 := (SQ.out.box ⟨w8.heap.size, v / g, A7, c7⟩ (by simp)).c0
    have kx1 := (SQ.out.box ⟨w8.heap.size, v / g, A7, c7⟩ (by simp)).c1
    have ky0 := (SQ.out.box ⟨w9.heap.size, u / g, A9, c9⟩ (by simp)).c0
    have ky1 := (SQ.out.box ⟨w9.heap.size, u / g, A9, c9⟩ (by simp)).c1
    go_wp2_with fail
    refine (wGcd_calls (cn (v / g)) (cn (u / g)) A7 A9 c7 c9 (cw (v / g)) (cw (u / g)) _ (SQ.out.inn ⟨w8.heap.size, v / g, A7, c7⟩ (by simp)) (SQ.out.inn ⟨w9.heap.size, u / g, A9, c9⟩ (by simp))).mono ?_
    rintro e w10 ⟨A11, c11, rfl, ho, hb⟩
    rw [HG1.out] at ho ⊢
    have SQ := Q.hid (SQ.out.snoc (v := 1) hb (inn_of ho H1s.out) (made_at ho))
    clear ho hb kx0 kx1 ky0 ky1
    have kx0 := (SQ.out.box ⟨w8.heap.size + 1, 0, A8, c8⟩ (by simp)).c0
    have kx1 := (SQ.out.box ⟨w8.heap.size + 1, 0, A8, c8⟩ (by simp)).c1
    have ky0 := (SQ.out.box ⟨w9.heap.size + 1, 0, A10, c10⟩ (by simp)).c0
    have ky1 := (SQ.out.box ⟨w9.heap.size + 1, 0, A10, c10⟩ (by simp)).c1
    have ko0 := (SQ.out.box ⟨w10.heap.size, 1, A11, c11⟩ (by simp)).c0
    have ko1 := (SQ.out.box ⟨w10.heap.size, 1, A11, c11⟩ (by simp)).c1
    have hl5 := HL5.out
    go_wp2_with fail
    refine (is_eq A11 c11 1 _ (SQ.out.inn ⟨w10.heap.size, 1, A11, c11⟩ (by simp)) (by omega) (by omega)).mono ?_
    rintro e w11 ⟨rfl, hb⟩
    have SQ := Q.hid (SQ.out.step hb)
    clear hb kx0 kx1 ky0 ky1 ko0 ko1
    go_wp2
    go_ret
    exact ⟨rfl, SQ.out.below⟩
end Go.Proofs.Ytidccoahjpjoaaa
