/- Package nat: a word of a quotient: the guess, the multiple taken off, what is put back. -/
import Derived.Test.YtgnmmifeojfjlaaGreatDoorQNat6
set_option linter.unusedVariables false
set_option linter.unusedSimpArgs false
namespace Go.Proofs.YtgnmmifeojfjlaaGreatDoor
open Go Go.RowKit Q

set_option maxHeartbeats 2000000 in
set_option maxRecDepth 100000 in
theorem guess_calls (A A' : Option Addr) (c c' : Nat) (us ys : List Int) (w : World) (h : In w A c us) (h' : In w A' c' ys) (hd : Dv us ys ys.length) :
    Calls Tryz.prog 75 #[.slice A us.length c, .slice A' ys.length c'] w fun e w' => ∃ x : Int, e = .returned (.int .u64 x) ∧ 0 ≤ x ∧ x < 4294967296 ∧ val us / val ys ≤ x ∧ x ≤ val us / val ys + 1 ∧ Dr w w' := by
  have hm' : ys.length ≤ 35184372087808 := by have := h'.small; omega
  have hN := hd.two
  have hul : ys.length < us.length := by have := hd.ul; omega
  have hg : 2147483648 ≤ wd ys (ys.length - 1) := hd.great
  have D := Q.hid hd
  have G := Q.hid hd.start
  have n1 : ((ys.length : Int) - 1).toNat = ys.length - 1 := by omega
  have n2 : ((ys.length : Int) - 2).toNat = ys.length - 2 := by omega
  obtain ⟨ad, rfl, hu0⟩ := h.rd ys.length (by omega)
  obtain ⟨ad2, e, hu1⟩ := h.rd (ys.length - 1) (by omega)
  cases e
  obtain ⟨ad2, e, hu2⟩ := h.rd (ys.length - 2) (by omega)
  cases e
  obtain ⟨ad', rfl, hv1⟩ := h'.rd (ys.length - 1) (by omega)
  obtain ⟨ad2, e, hv2⟩ := h'.rd (ys.length - 2) (by omega)
  cases e
  have a0 := (h.wds.wd ys.length).1
  have a1 := (h.wds.wd ys.length).2
  have b0 := (h.wds.wd (ys.length - 1)).1
  have b1 := (h.wds.wd (ys.length - 1)).2
  have c0 := (h.wds.wd (ys.length - 2)).1
  have c1 := (h.wds.wd (ys.length - 2)).2
  have d0 := (h'.wds.wd (ys.length - 1)).1
  have d1 := (h'.wds.wd (ys.length - 1)).2
  have e0 := (h'.wds.wd (ys.length - 2)).1
  have e1 := (h'.wds.wd (ys.length - 2)).2
  have hor := hor32 _ _ a0 a1 b0 b1
  obtain ⟨top, ht⟩ : ∃ top : Int, top = wd us ys.length * 4294967296 + wd us (ys.length - 1) := ⟨_, rfl⟩
  rw [← ht] at hor
  have t0 : 0 ≤ top := by omega
  have t1 : top < 18446744073709551616 := by omega
  have hdv : top.tdiv (wd ys (ys.length - 1)) = top / wd ys (ys.length - 1) := tdiv_of_nonneg t0
  have hmd : top.tmod (wd ys (ys.length - 1)) = top % wd ys (ys.length - 1) := tmod_of_nonneg t0
  obtain ⟨q1, hq1⟩ : ∃ q1 : Int, q1 = top / wd ys (ys.length - 1) := ⟨_, rfl⟩
  obtain ⟨r1, hr1⟩ : ∃ r1 : Int, r1 = top % wd ys (ys.length - 1) := ⟨_, rfl⟩
  rw [← ht, ← hq1, ← hr1] at G
  rw [← hq1] at hdv
  rw [← hr1] at hmd
  have q10 := G.out.q0
  have q11 := G.out.q1
  have HD : Hid (Dr w w) := Dr.refl w
  clear h h' hd hq1 hr1 ht
  go_enter Tryz.func75, Tryz.ntmps75
  go_wp2
  go_quiet (fail)
  go_wp2
  go_quiet (fail)
  go_wp2
  go_loopw [7, 8] (fun qv rv wr => ∃ (q r : Int), qv = .int .u64 q ∧ rv = .int .u64 r ∧ Hid (Gs us ys ys.length q r) ∧ Hid (Dr w wr)) (fun qv _ _ => (intOf qv).toNat)
  case atStart => exact ⟨q1, r1, rfl, rfl, G, by first | exact ⟨_, rfl⟩ | exact Dr.step ⟨_, rfl⟩ _⟩
  case round =>
    clear G HD
    obtain ⟨q, r, rfl, rfl, G, HD⟩ := hrel
    obtain ⟨n, rfl⟩ := HD.out
    clear HD
    have q0 := G.out.q0
    have q2 := G.out.q1
    have r0 := G.out.r0
    have r2 := G.out.r1
    clear q10 q11 hdv hmd
    by_cases hq : q < 4294967296
    · have hb : (q / 4294967296 != 0) = false := by rw [show q / 4294967296 = 0 by omega]; rfl
      have m0 : 0 ≤ q * wd ys (ys.length - 2) := Int.mul_nonneg q0 e0
      have m1 : q * wd ys (ys.length - 2) ≤ 4294967295 * 4294967295 := Int.mul_le_mul (by omega) (by omega) e0 (by omega)
      have hor2 := hor32 _ _ r0 r2 c0 c1
      clear hor
      by_cases htt : r * 4294967296 + wd us (ys.length - 2) < q * wd ys (ys.length - 2)
      · obtain ⟨g1, g2, g3⟩ := G.out.down D.out (.inr ⟨hq, htt⟩)
        have hb2 : decide (r * 4294967296 + wd us (ys.length - 2) < q * wd ys (ys.length - 2)) = true := decide_eq_true htt
        have HG3 := Q.hid g3
        clear g3
        by_cases hrr : r + wd ys (ys.length - 1) < 4294967296
        · have hb3 : ((r + wd ys (ys.length - 1)) / 4294967296 != 0) = false := by rw [show (r + wd ys (ys.length - 1)) / 4294967296 = 0 by omega]; rfl
          have HG4 : Hid (Gs us ys ys.length (q - 1) (r + wd ys (ys.length - 1))) := ⟨by omega, by omega, g2, by omega, hrr, HG3.out⟩
          clear G g2
          go_wp2
          go_quiet (fail)
          go_wp2
          go_roundw
          case rel => exact ⟨q - 1, _, rfl, rfl, HG4, by first | exact ⟨_, rfl⟩ | exact Dr.step ⟨_, rfl⟩ _⟩
          case measure => simp [intOf]; omega
        · have hb3 : ((r + wd ys (ys.length - 1)) / 4294967296 != 0) = true := by
            have : (r + wd ys (ys.length - 1)) / 4294967296 ≠ 0 := by omega
            simpa using this
          have HF : Hid (q - 1 < 4294967296 ∧ q - 1 ≤ val us / val ys + 1) := D.out.over (by omega) HG3.out (by omega)
          have HG2 := Q.hid g2
          clear G g2
          go_wp2
          go_quiet (fail)
          go_wp2
          go_ret
          exact ⟨q - 1, rfl, by omega, HF.out.1, HG2.out, HF.out.2, by first | exact ⟨_, rfl⟩ | exact Dr.step ⟨_, rfl⟩ _⟩
      · have hb2 : decide (r * 4294967296 + wd us (ys.length - 2) < q * wd ys (ys.length - 2)) = false := decide_eq_false htt
        have HF : Hid (val us / val ys ≤ q ∧ q ≤ val us / val ys + 1) := G.out.stay D.out hq (by omega)
        clear G
        go_wp2
        go_quiet (fail)
        go_wp2
        go_ret
        exact ⟨q, rfl, q0, hq, HF.out.1, HF.out.2, by first | exact ⟨_, rfl⟩ | exact Dr.step ⟨_, rfl⟩ _⟩
    · have hb : (q / 4294967296 != 0) = true := by
        have : q / 4294967296 ≠ 0 := by omega
        simpa using this
      clear hor
      obtain ⟨g1, g2, g3⟩ := G.out.down D.out (.inl (by omega))
      have HG3 := Q.hid g3
      clear g3
      by_cases hrr : r + wd ys (ys.length - 1) < 4294967296
      · have hb3 : ((r + wd ys (ys.length - 1)) / 4294967296 != 0) = false := by rw [show (r + wd ys (ys.length - 1)) / 4294967296 = 0 by omega]; rfl
        have HG4 : Hid (Gs us ys ys.length (q - 1) (r + wd ys (ys.length - 1))) := ⟨by omega, by omega, g2, by omega, hrr, HG3.out⟩
        clear G g2
        go_wp2
        go_quiet (fail)
        go_wp2
        go_roundw
        case rel => exact ⟨q - 1, _, rfl, rfl, HG4, by first | exact ⟨_, rfl⟩ | exact Dr.step ⟨_, rfl⟩ _⟩
        case measure => simp [intOf]; omega
      · have hb3 : ((r + wd ys (ys.length - 1)) / 4294967296 != 0) = true := by
          have : (r + wd ys (ys.length - 1)) / 4294967296 ≠ 0 := by omega
          simpa using this
        have HF : Hid (q - 1 < 4294967296 ∧ q - 1 ≤ val us / val ys + 1) := D.out.over (by omega) HG3.out (by omega)
        have HG2 := Q.hid g2
        clear G g2
        go_wp2
        go_quiet (fail)
        go_wp2
        go_ret
        exact ⟨q - 1, rfl, by omega, HF.out.1, HG2.out, HF.out.2, by first | exact ⟨_, rfl⟩ | exact Dr.step ⟨_, rfl⟩ _⟩

set_option maxHeartbeats 2000000 in
set_option maxRecDepth 100000 in
theorem off_calls (A' : Option Addr) (B g n cap cc c' : Nat) (pre us post ys : List Int) (q : Int) (w : World) (ho : Ow w 36 B (.slice (some ⟨g, 0, none⟩) n cap) (pre ++ us ++ post)) (huw : Wds us) (hul : us.length ≤ 2000000) (h' : In w A' c' ys) (hne : ∀ ad', A' = some ad' → ad'.block ≠ g) (hq0 : 0 ≤ q) (hq1 : q < 4294967296) :
    Calls Tryz.prog 76 #[.slice (some ⟨g, pre.length, none⟩) us.length cc, .slice A' ys.length c', .int .u64 q] w fun e w' => ∃ zs cr b, e = .returned (.bool (b != 0)) ∧ OfV us ys q zs us.length cr b ∧ Ow w' 36 B (.slice (some ⟨g, 0, none⟩) n cap) (pre ++ zs ++ post) ∧ w.grownBy w' (some g) := by
  have hm' : ys.length ≤ 35184372087808 := by have := h'.small; omega
  have H' := Q.hid h'
  have UW := Q.hid huw
  have HNE : Hid (∀ ad', A' = some ad' → some ad'.block ≠ some g) := fun ad' e he => hne ad' e (Option.some.inj he)
  have HS : Hid (OfV us ys q us 0 0 0) := OfV.start ys q huw
  have HO := Q.hid ho
  have HG : Hid (w.grownBy w (some g)) := grown_refl _ _
  obtain ⟨i0, hi0⟩ : ∃ i0 : Nat, i0 = pre.length := ⟨_, rfl⟩
  have HI := Q.hid hi0
  clear ho huw h' hne
  rw [← hi0]
  clear hi0
  go_enter Tryz.func76, Tryz.ntmps76
  go_wp2
  go_loopw [7, 8, 13] (fun cv bv i wr => ∃ (k : Nat) (cr b : Int) (zs : List Int), k ≤ us.length ∧ i = .int .i64 k ∧ cv = .int .u64 cr ∧ bv = .int .u64 b ∧ Hid (OfV us ys q zs k cr b) ∧ Hid (Ow wr 36 B (.slice (some ⟨g, 0, none⟩) n cap) (pre ++ zs ++ post)) ∧ Hid (w.grownBy wr (some g))) (fun _ _ i _ => us.length - (intOf i).toNat)
  case atStart => exact ⟨0, 0, 0, us, by omega, rfl, rfl, rfl, HS, HO, HG⟩
  case round =>
    clear HS HO HG
    obtain ⟨k, cr, b, zs, hk, rfl, rfl, rfl, HS, HO, HG⟩ := hrel
    by_cases hlt : k < us.length
    · have hzl : k < zs.length := by rw [HS.out.len]; exact hlt
      have c0 := HS.out.c0
      have c1 := HS.out.c1
      have b0 := HS.out.b0
      have b1 := HS.out.b1
      have p1 := (UW.out.wd k).1
      have p2 := (UW.out.wd k).2
      have p3 := (H'.out.wds.wd k).1
      have p4 := (H'.out.wds.wd k).2
      have hcell := HO.out.cell (i := i0 + k) (by rw [HI.out]; simp; omega)
      have hwz : wd (pre ++ zs ++ post) (i0 + k) = wd us k := by rw [HI.out, wd_mid hzl, HS.out.rest k (Nat.le_refl _)]
      rw [hwz] at hcell
      have hfree := HO.out.free (i0 + k)
      have m0 : 0 ≤ q * wd ys k := Int.mul_nonneg hq0 p3
      have m1 : q * wd ys k ≤ 4294967295 * 4294967295 := Int.mul_le_mul (by omega) (by omega) p3 (by omega)
      have HT : Hid (∀ p d, p = cr + q * wd ys k → d = (wd us k - p % 4294967296 - b) % 18446744073709551616 → OfV us ys q (zs.set k (d % 4294967296)) (k + 1) (p / 4294967296) (d / 9223372036854775808) ∧ Ow (wr.setCell ⟨g, i0 + k, none⟩ (.int .u32 (d % 4294967296))) 36 B (.slice (some ⟨g, 0, none⟩) n cap) (pre ++ zs.set k (d % 4294967296) ++ post) ∧ w.grownBy (wr.setCell ⟨g, i0 + k, none⟩ (.int .u32 (d % 4294967296))) (some g)) := fun p d hp hd => by
        have e : d % 4294967296 = (wd us k - p % 4294967296 - b) % 4294967296 := by omega
        refine ⟨by rw [e, hd]; exact HS.out.step UW.out H'.out.wds hlt hq0 hq1 p hp, ?_, grown_trans HG.out (grown_set _)⟩
        have := HO.out.store (i := i0 + k) (by rw [HI.out]; simp; omega) (d % 4294967296)
        rw [HI.out, set_mid pre zs post hzl] at this
        rw [HI.out]
        exact this
      clear HS HO hwz
      by_cases hly : k < ys.length
      · obtain ⟨ad', rfl, hy⟩ := (H'.out.rd.grown HG.out HNE.out) k hly
        clear HG
        go_wp2
        go_roundw
        case rel =>
          obtain ⟨t1, t2, t3⟩ := HT.out _ _ rfl (u64_sub2 (wd us k) ((cr + q * wd ys k) % 4294967296) b)
          exact ⟨k + 1, _, _, _, by omega, by go_num, rfl, rfl, t1, t2, t3⟩
        case measure => simp [intOf]; omega
      · have hz : cr = cr + q * wd ys k := by rw [wd_ge (xs := ys) (i := k) (by omega)]; simp
        have HT2 := Q.hid (HT.out cr (IntKind.u64.wrap (IntKind.u64.wrap (wd us k - cr) - b)) hz (by rw [u64_sub2, show cr % 4294967296 = cr by omega]))
        clear HG HT hz m0 m1
        go_wp2
        go_roundw
        case rel =>
          obtain ⟨t1, t2, t3⟩ := HT2.out
          exact ⟨k + 1, _, _, _, by omega, by go_num, rfl, rfl, t1, t2, t3⟩
        case measure => simp [intOf]; omega
    · obtain rfl : k = us.length := by omega
      go_wp2
      go_ret
      exact ⟨zs, cr, b, rfl, HS.out, HO.out, HG.out⟩

set_option maxHeartbeats 2000000 in
set_option maxRecDepth 100000 in
theorem back_calls (A' : Option Addr) (B g n cap cc c' : Nat) (pre us post ys : List Int) (w : World) (ho : Ow w 36 B (.slice (some ⟨g, 0, none⟩) n cap) (pre ++ us ++ post)) (huw : Wds us) (hul : us.length ≤ 2000000) (h' : In w A' c' ys) (hne : ∀ ad', A' = some ad' → ad'.block ≠ g) :
    Calls Tryz.prog 77 #[.slice (some ⟨g, pre.length, none⟩) us.length cc, .slice A' ys.length c'] w fun e w' => ∃ zs cr, e = .returned (.tuple #[]) ∧ BkV us ys zs us.length cr ∧ Ow w' 36 B (.slice (some ⟨g, 0, none⟩) n cap) (pre ++ zs ++ post) ∧ w.grownBy w' (some g) := by
  have hm' : ys.length ≤ 35184372087808 := by have := h'.small; omega
  have H' := Q.hid h'
  have UW := Q.hid huw
  have HNE : Hid (∀ ad', A' = some ad' → some ad'.block ≠ some g) := fun ad' e he => hne ad' e (Option.some.inj he)
  have HS : Hid (BkV us ys us 0 0) := BkV.start ys huw
  have HO := Q.hid ho
  have HG : Hid (w.grownBy w (some g)) := grown_refl _ _
  obtain ⟨i0, hi0⟩ : ∃ i0 : Nat, i0 = pre.length := ⟨_, rfl⟩
  have HI := Q.hid hi0
  clear ho huw h' hne
  rw [← hi0]
  clear hi0
  go_enter Tryz.func77, Tryz.ntmps77
  go_wp2
  go_loopw [4, 8] (fun cv i wr => ∃ (k : Nat) (cr : Int) (zs : List Int), k ≤ us.length ∧ i = .int .i64 k ∧ cv = .int .u64 cr ∧ Hid (BkV us ys zs k cr) ∧ Hid (Ow wr 36 B (.slice (some ⟨g, 0, none⟩) n cap) (pre ++ zs ++ post)) ∧ Hid (w.grownBy wr (some g))) (fun _ i _ => us.length - (intOf i).toNat)
  case atStart => exact ⟨0, 0, us, by omega, rfl, rfl, HS, HO, HG⟩
  case round =>
    clear HS HO HG
    obtain ⟨k, cr, zs, hk, rfl, rfl, HS, HO, HG⟩ := hrel
    by_cases hlt : k < us.length
    · have hzl : k < zs.length := by rw [HS.out.len]; exact hlt
      have c0 := HS.out.c0
      have c1 := HS.out.c1
      have p1 := (UW.out.wd k).1
      have p2 := (UW.out.wd k).2
      have p3 := (H'.out.wds.wd k).1
      have p4 := (H'.out.wds.wd k).2
      have hcell := HO.out.cell (i := i0 + k) (by rw [HI.out]; simp; omega)
      have hwz : wd (pre ++ zs ++ post) (i0 + k) = wd us k := by rw [HI.out, wd_mid hzl, HS.out.rest k (Nat.le_refl _)]
      rw [hwz] at hcell
      have hfree := HO.out.free (i0 + k)
      have HT : Hid (∀ p, p = cr + wd us k + wd ys k → BkV us ys (zs.set k (p % 4294967296)) (k + 1) (p / 4294967296) ∧ Ow (wr.setCell ⟨g, i0 + k, none⟩ (.int .u32 (p % 4294967296))) 36 B (.slice (some ⟨g, 0, none⟩) n cap) (pre ++ zs.set k (p % 4294967296) ++ post) ∧ w.grownBy (wr.setCell ⟨g, i0 + k, none⟩ (.int .u32 (p % 4294967296))) (some g)) := fun p hp => by
        refine ⟨HS.out.step UW.out H'.out.wds hlt p hp, ?_, grown_trans HG.out (grown_set _)⟩
        have := HO.out.store (i := i0 + k) (by rw [HI.out]; simp; omega) (p % 4294967296)
        rw [HI.out, set_mid pre zs post hzl] at this
        rw [HI.out]
        exact this
      clear HS HO hwz
      by_cases hly : k < ys.length
      · obtain ⟨ad', rfl, hy⟩ := (H'.out.rd.grown HG.out HNE.out) k hly
        clear HG
        go_wp2
        go_roundw
        case rel =>
          obtain ⟨t1, t2, t3⟩ := HT.out _ rfl
          exact ⟨k + 1, _, _, by omega, by go_num, rfl, t1, t2, t3⟩
        case measure => simp [intOf]; omega
      · have hz : cr + wd us k = cr + wd us k + wd ys k := by rw [wd_ge (xs := ys) (i := k) (by omega)]; simp
        have HT2 := Q.hid (HT.out (cr + wd us k) hz)
        clear HG HT hz
        go_wp2
        go_roundw
        case rel =>
          obtain ⟨t1, t2, t3⟩ := HT2.out
          exact ⟨k + 1, _, _, by omega, by go_num, rfl, t1, t2, t3⟩
        case measure => simp [intOf]; omega
    · obtain rfl : k = us.length := by omega
      go_wp2
      go_end0
      exact ⟨zs, cr, rfl, HS.out, HO.out, HG.out⟩
end Go.Proofs.YtgnmmifeojfjlaaGreatDoor
