import Derived.Test.YtgjmlbcpjjpegaaQNat9
import Derived.Test.YtgjmlbcpjjpegaaGBox
import Derived.Test.YtgjmlbcpjjpegaaNtC
/- ratio.lowest: the fraction of two natural numbers in its one form, or that it is too long. -/
set_option linter.unusedVariables false
set_option linter.unusedSimpArgs false
namespace Go.Proofs.Ytgjmlbcpjjpegaa
open Go Go.RowKit Q
/-- what is answered -/
noncomputable def lowS (ng : Bool) (l1 l2 : List Int) : Bool × List Int × List Int × Int :=
  if 2048 < (divS l1 (gcdS l1 l2).1).1.length ∨ 2048 < (divS l2 (gcdS l1 l2).1).1.length then (false, [], [], 3)
  else (ng && decide (0 < (divS l1 (gcdS l1 l2).1).1.length), (divS l1 (gcdS l1 l2).1).1, (divS l2 (gcdS l1 l2).1).1, 0)
set_option maxHeartbeats 4000000 in
set_option maxRecDepth 100000 in
theorem lowest_calls (ng : Bool) (A1 A2 : Option Addr) (c1 c2 : Nat) (l1 l2 : List Int) (w : World) (h1 : In w A1 c1 l1) (h2 : In w A2 c2 l2) :
    Calls Try.prog 74 #[.bool ng, .slice A1 l1.length c1, .slice A2 l2.length c2] w fun e w' => ∃ B d B' d', e = .returned (.tuple #[.agg #[.bool (lowS ng l1 l2).1, .slice B (lowS ng l1 l2).2.1.length d, .slice B' (lowS ng l1 l2).2.2.1.length d'], .int .i64 (lowS ng l1 l2).2.2.2]) ∧
      Ow w' 62 w.heap.size (.slice B (lowS ng l1 l2).2.1.length d) (lowS ng l1 l2).2.1 ∧ Ow w' 62 w.heap.size (.slice B' (lowS ng l1 l2).2.2.1.length d') (lowS ng l1 l2).2.2.1 ∧ Apart2 (.slice B (lowS ng l1 l2).2.1.length d) (.slice B' (lowS ng l1 l2).2.2.1.length d') ∧ Below w.heap.size w w' := by
  have I1 := Q.hid h1
  have I2 := Q.hid h2
  have HS : Hid (lowS ng l1 l2 = if 2048 < (divS l1 (gcdS l1 l2).1).1.length ∨ 2048 < (divS l2 (gcdS l1 l2).1).1.length then (false, [], [], 3) else (ng && decide (0 < (divS l1 (gcdS l1 l2).1).1.length), (divS l1 (gcdS l1 l2).1).1, (divS l2 (gcdS l1 l2).1).1, 0)) := rfl
  have W0 := Q.hid (gcdS_wds l1 l2)
  have L0 := Q.hid (gcdS_len l1 l2 h1.wds h2.wds)
  have L1 := Q.hid (divS_len l1 (gcdS l1 l2).1 h1.wds (gcdS_wds l1 l2))
  have L2 := Q.hid (divS_len l2 (gcdS l1 l2).1 h2.wds (gcdS_wds l1 l2))
  have K := GB.hid (GB.Blk.new w 32 [.bool false, .slice none 0 0, .slice none 0 0])
  have HB := GB.hid (GB.bla (GB.bl0 w) (.cells #[.bool false, .slice none 0 0, .slice none 0 0] 32))
  clear h1 h2
  go_enter Try.func74, Try.ntmps74
  go_wp2_with fail
  refine (Gcd_calls A1 A2 c1 c2 l1 l2 _ (I1.out.below HB.out) (I2.out.below HB.out)).mono ?_
  rintro e w1 ⟨v, rfl, ho, hb⟩
  obtain ⟨Ag, cg, e1, _⟩ := ho.slice
  subst e1
  have K := GB.hid (K.out.below hb)
  have HB := GB.hid (GB.bls HB.out hb)
  have IG : Hid (In w1 Ag cg (gcdS l1 l2).1) := ⟨ho.read.2.2.2, ho.read.2.1, by have := L0.out; omega, W0.out⟩
  clear ho hb
  go_wp2_with fail
  refine (DivMod_calls A1 Ag c1 cg l1 (gcdS l1 l2).1 _ (I1.out.below HB.out) IG.out).mono ?_
  rintro e w2 ⟨v, v', rfl, ho, ho', ha, hb⟩
  obtain ⟨B, d, e2, _⟩ := ho.slice
  subst e2
  have hw1 : w.heap.size < w1.heap.size := K.out.lt
  have K := GB.hid (K.out.below hb)
  have HB := GB.hid (GB.bls HB.out hb)
  have IG := Q.hid (IG.out.below hb)
  have OQ := Q.hid ho
  have bq := ho.base
  clear ho ho' ha hb
  go_wp2_with fail
  refine (DivMod_calls A2 Ag c2 cg l2 (gcdS l1 l2).1 _ (I2.out.below HB.out) IG.out).mono ?_
  rintro e w3 ⟨v, v'', rfl, ho, ho', ha, hb⟩
  obtain ⟨B', d', e3, _⟩ := ho.slice
  subst e3
  have hw2 : w.heap.size < w2.heap.size := K.out.lt
  have K := GB.hid (K.out.below hb)
  have HB := GB.hid (GB.bls HB.out hb)
  have OQ := Q.hid (OQ.out.below hb)
  have OD := Q.hid ho
  have bd := ho.base
  clear ho ho' ha hb IG I1 I2
  have hK := K.out.lt
  generalize hq : (divS l1 (gcdS l1 l2).1).1 = q at *
  generalize hd : (divS l2 (gcdS l1 l2).1).1 = r at *
  have z0 := K.out.cell 0 rfl
  have z1 := K.out.cell 1 rfl
  have z2 := K.out.cell 2 rfl
  have f0 := K.out.free 0
  have f1 := K.out.free 1
  have f2 := K.out.free 2
  have BS : Hid (∀ u0 u1 u2, Below w.heap.size w (((w3.setCell ⟨w.heap.size, 0, none⟩ u0).setCell ⟨w.heap.size, 1, none⟩ u1).setCell ⟨w.heap.size, 2, none⟩ u2)) := fun u0 u1 u2 => GB.blset (GB.blset (GB.blset HB.out (Nat.le_refl _) 0 u0) (Nat.le_refl _) 1 u1) (Nat.le_refl _) 2 u2
  by_cases s1 : 2048 < q.length
  · have d1 : decide (2048 < (q.length : Int)) = true := decide_eq_true (by omega)
    have HE : Hid (lowS ng l1 l2 = (false, [], [], 3)) := by rw [HS.out, if_pos (.inl s1)]; rfl
    clear s1
    go_wp2
    refine bodyPost_ret (by rw [results_cell_tmp rfl]; go_simp; rfl) rfl ?_
    exact ⟨none, 0, none, 0, by rw [HE.out]; rfl, by rw [HE.out]; exact Ow.nil _ _ _, by rw [HE.out]; exact Ow.nil _ _ _, .inl rfl, BS.out _ _ _⟩
  · have d1 : decide (2048 < (q.length : Int)) = false := decide_eq_false (by omega)
    by_cases s2 : 2048 < r.length
    · have d2 : decide (2048 < (r.length : Int)) = true := decide_eq_true (by omega)
      have HE : Hid (lowS ng l1 l2 = (false, [], [], 3)) := by rw [HS.out, if_pos (.inr s2)]; rfl
      clear s1 s2
      go_wp2
      refine bodyPost_ret (by rw [results_cell_tmp rfl]; go_simp; rfl) rfl ?_
      exact ⟨none, 0, none, 0, by rw [HE.out]; rfl, by rw [HE.out]; exact Ow.nil _ _ _, by rw [HE.out]; exact Ow.nil _ _ _, .inl rfl, BS.out _ _ _⟩
    · have d2 : decide (2048 < (r.length : Int)) = false := decide_eq_false (by omega)
      have HE : Hid (lowS ng l1 l2 = (ng && decide (0 < q.length), q, r, 0)) := by rw [HS.out, if_neg (fun h => by rcases h with h | h; exact s1 h; exact s2 h)]; rfl
      have OQ2 : Hid (∀ u0 u1 u2, Ow (((w3.setCell ⟨w.heap.size, 0, none⟩ u0).setCell ⟨w.heap.size, 1, none⟩ u1).setCell ⟨w.heap.size, 2, none⟩ u2) 62 w.heap.size (.slice B q.length d) q) := fun u0 u1 u2 =>
        (((OQ.out.far (g := w.heap.size) (fun e => by have := (bq _ e).1; omega) 0 u0).far (g := w.heap.size) (fun e => by have := (bq _ e).1; omega) 1 u1).far (g := w.heap.size) (fun e => by have := (bq _ e).1; omega) 2 u2).mono (by omega)
      have OD2 : Hid (∀ u0 u1 u2, Ow (((w3.setCell ⟨w.heap.size, 0, none⟩ u0).setCell ⟨w.heap.size, 1, none⟩ u1).setCell ⟨w.heap.size, 2, none⟩ u2) 62 w.heap.size (.slice B' r.length d') r) := fun u0 u1 u2 =>
        (((OD.out.far (g := w.heap.size) (fun e => by have := (bd _ e).1; omega) 0 u0).far (g := w.heap.size) (fun e => by have := (bd _ e).1; omega) 1 u1).far (g := w.heap.size) (fun e => by have := (bd _ e).1; omega) 2 u2).mono (by omega)
      have AP : Hid (Apart2 (.slice B q.length d) (.slice B' r.length d')) := by
        by_cases hn : (Value.slice B q.length d).ownBlock = none
        · exact .inl hn
        · refine .inr (fun e => ?_)
          obtain ⟨kq, hkq⟩ := Option.ne_none_iff_exists'.1 hn
          have h1 := bq kq hkq
          have h2 := bd kq (e ▸ hkq)
          omega
      clear s1 s2
      cases ng with
      | true =>
        go_wp2
        refine bodyPost_ret (by rw [results_cell_tmp rfl]; go_simp; rfl) rfl ?_
        exact ⟨B, d, B', d', by rw [HE.out]; simp, by rw [HE.out]; exact OQ2.out _ _ _, by rw [HE.out]; exact OD2.out _ _ _, by rw [HE.out]; exact AP.out, BS.out _ _ _⟩
      | false =>
        go_wp2
        refine bodyPost_ret (by rw [results_cell_tmp rfl]; go_simp; rfl) rfl ?_
        exact ⟨B, d, B', d', by rw [HE.out]; simp, by rw [HE.out]; exact OQ2.out _ _ _, by rw [HE.out]; exact OD2.out _ _ _, by rw [HE.out]; exact AP.out, BS.out _ _ _⟩
end Go.Proofs.Ytgjmlbcpjjpegaa
