/- The reference of layer 1: DivMod, Gcd; what each call does. -/
import Derived.Test.YtgnmmifeojfjlaaQRef7
set_option linter.unusedVariables false
set_option linter.unusedSimpArgs false
namespace Go.Proofs.Ytgnmmifeojfjlaa
open Go Go.RowKit Q

set_option maxHeartbeats 1000000 in
theorem rDivMod_calls (A A' : Option Addr) (c c' : Nat) (xs ys : List Int) (w : World) (h : In w A c xs) (h' : In w A' c' ys) :
    Calls Try.prog 29 #[.slice A xs.length c, .slice A' ys.length c'] w fun e w' => ∃ u v, e = .returned (.tuple #[u, v, .int .i64 (divS xs ys).2.2]) ∧ Ow w' 42 w.heap.size u (divS xs ys).1 ∧ Ow w' 42 w.heap.size v (divS xs ys).2.1 ∧ Below w.heap.size w w' := by
  have H := Q.hid h
  have H' := Q.hid h'
  clear h h'
  by_cases h0 : chk2 xs ys = 0
  · have hb : (chk2 xs ys != 0) = false := by simp [h0]
    have HC2 := Q.hid (chk2_zero h0)
    by_cases hy : ys = []
    · have HF : Hid (divS xs ys = ([], [], 7)) := by unfold divS; rw [if_pos h0, if_pos hy]; rfl
      have hl : ((ys.length : Int) == 0) = true := beq_iff_eq.2 (by rw [hy]; rfl)
      clear h0 hy
      go_enter Try.func29, Try.ntmps29
      go_wp2_with fail
      refine (both_calls A A' c c' xs ys _ H.out H'.out).mono ?_
      rintro e w1 ⟨rfl, rfl⟩
      go_wp2
      go_ret3
      exact ⟨.slice none 0 0, .slice none 0 0, by rw [HF.out]; rfl, by rw [HF.out]; exact Ow.nil _ _ _, by rw [HF.out]; exact Ow.nil _ _ _, Below.refl _ _⟩
    · have HF : Hid (divS xs ys = (nwd (val xs / val ys), nwd (val xs % val ys), 0)) := by unfold divS; rw [if_pos h0, if_neg hy]; rfl
      have hp := List.length_pos_iff.2 hy
      have hl : ((ys.length : Int) == 0) = false := beq_eq_false_iff_ne.2 (by omega)
      have HY := Q.hid hy
      have hxl : xs.length ≤ 10000 := by have := HC2.out; omega
      have hyl : ys.length ≤ 10000 := by have := HC2.out; omega
      clear h0 hy
      go_enter Try.func29, Try.ntmps29
      go_wp2_with fail
      refine (both_calls A A' c c' xs ys _ H.out H'.out).mono ?_
      rintro e w1 ⟨rfl, rfl⟩
      go_wp2_with fail
      refine (Over_calls A A' c c' xs ys _ H.out H'.out HC2.out.2.1 HC2.out.2.2.2 hxl hyl HY.out).mono ?_
      rintro e w1 ⟨u, v, rfl, hu, hv, hb⟩
      go_wp2
      go_ret3
      exact ⟨u, v, by rw [HF.out]; rfl, by rw [HF.out]; exact hu, by rw [HF.out]; exact hv, hb⟩
  · have hb : (chk2 xs ys != 0) = true := by simp [h0]
    have HF : Hid (divS xs ys = ([], [], chk2 xs ys)) := if_neg h0
    clear h0
    go_enter Try.func29, Try.ntmps29
    go_wp2_with fail
    refine (both_calls A A' c c' xs ys _ H.out H'.out).mono ?_
    rintro e w1 ⟨rfl, rfl⟩
    go_wp2
    go_ret3
    exact ⟨.slice none 0 0, .slice none 0 0, by rw [HF.out]; rfl, by rw [HF.out]; exact Ow.nil _ _ _, by rw [HF.out]; exact Ow.nil _ _ _, Below.refl _ _⟩

/-- what a common divisor is sought of, by hand -/
structure GrSt (w wr : World) (G : Int) (A1 A2 : Option Addr) (c1 c2 : Nat) (us vs : List Int) : Prop where
  i1 : In wr A1 c1 us
  i2 : In wr A2 c2 vs
  t1 : Tr us
  t2 : Tr vs
  l1 : us.length ≤ 8192
  l2 : vs.length ≤ 8192
  gc : gc (val us) (val vs) = G
  below : Below w.heap.size w wr
theorem GrSt.step {w wr w' : World} {G : Int} {A1 A2 A3 : Option Addr} {c1 c2 c3 : Nat} {us vs : List Int} (h : GrSt w wr G A1 A2 c1 c2 us vs) (hn : vs ≠ []) (ho : Ow w' 42 wr.heap.size (.slice A3 (nwd (val us % val vs)).length c3) (nwd (val us % val vs))) (hb : Below wr.heap.size wr w') :
    GrSt w w' G A2 A3 c2 c3 vs (nwd (val us % val vs)) := by
  have hp := val_pos h.i2.wds h.t2 hn
  have m0 : 0 ≤ val us % val vs := Int.emod_nonneg _ (by omega)
  have m1 : val us % val vs < val vs := Int.emod_lt_of_pos _ hp
  have hl := Nat.le_trans (nwd_len_of h.i2.wds m0 (by omega)) h.l2
  refine ⟨h.i2.below hb, ⟨ho.read.2.2.2, ho.read.2.1, by omega, nwd_wds _⟩, h.t2, nwd_tr _, h.l2, hl, ?_, bs2 h.below hb⟩
  rw [val_nwd m0, ← gc_step (val_nonneg h.i1.wds) (by omega)]
  exact h.gc

set_option maxHeartbeats 2000000 in
set_option maxRecDepth 100000 in
theorem Common_calls (A A' : Option Addr) (c c' : Nat) (xs ys : List Int) (w : World) (h : In w A c xs) (h' : In w A' c' ys) (ht : Tr xs) (ht' : Tr ys) (hl : xs.length ≤ 8192) (hl' : ys.length ≤ 8192) :
    Calls Try.prog 49 #[.slice A xs.length c, .slice A' ys.length c'] w fun e w' => ∃ v, e = .returned v ∧ Ow w' 42 w.heap.size v (nwd (gc (val xs) (val ys))) ∧ Below w.heap.size w w' := by
  have HS : Hid (GrSt w w (gc (val xs) (val ys)) A A' c c' xs ys) := ⟨h, h', ht, ht', hl, hl', rfl, Below.refl _ _⟩
  clear h h' ht ht' hl hl'
  go_enter Try.func49, Try.ntmps49
  go_wp2
  go_loopw [0, 1] (fun xv yv wr => ∃ (B1 B2 : Option Addr) (d1 d2 : Nat) (us vs : List Int), xv = .slice B1 us.length d1 ∧ yv = .slice B2 vs.length d2 ∧ Hid (GrSt w wr (gc (val xs) (val ys)) B1 B2 d1 d2 us vs)) (fun _ yv wr => (val (rdw yv wr)).toNat)
  case atStart => exact ⟨A, A', c, c', xs, ys, rfl, rfl, HS⟩
  case round =>
    clear HS
    obtain ⟨B1, B2, d1, d2, us, vs, rfl, rfl, HS⟩ := hrel
    have hl1 : us.length ≤ 8192 := HS.out.l1
    have hl2 : vs.length ≤ 8192 := HS.out.l2
    by_cases h2 : 0 < vs.length
    · have HNE : Hid (vs ≠ []) := List.length_pos_iff.1 (by omega)
      go_wp2_with fail
      refine (Over_calls B1 B2 d1 d2 us vs _ HS.out.i1 HS.out.i2 HS.out.t1 HS.out.t2 (by omega) (by omega) HNE.out).mono ?_
      rintro e w3 ⟨u3, v3, rfl, hu, hv, hb⟩
      have hp := val_pos HS.out.i2.wds HS.out.t2 HNE.out
      have m0 : 0 ≤ val us % val vs := Int.emod_nonneg _ (by omega)
      have m1 : val us % val vs < val vs := Int.emod_lt_of_pos _ hp
      obtain ⟨A3, c3, e3, _⟩ := hv.slice
      subst e3
      have HS3 := Q.hid (HS.out.step HNE.out hv hb)
      have HM : Hid ((val (rdw (.slice A3 (nwd (val us % val vs)).length c3) w3)).toNat < (val (rdw (.slice B2 vs.length d2) wr)).toNat) := by
        show _ < _
        rw [rdw_eq c3 hv.read.2.2.2, rdw_eq d2 HS.out.i2.rd, val_nwd m0]
        omega
      clear hu hv hb hp m0 m1 HS
      go_wp2
      go_roundw
      case rel => exact ⟨B2, A3, d2, c3, _, _, rfl, rfl, HS3⟩
      case measure => exact HM.out
    · have h2' : decide (0 < vs.length) = false := decide_eq_false h2
      have HR : Hid (nwd (gc (val xs) (val ys)) = us) := by
        have e := HS.out.gc
        rw [List.eq_nil_of_length_eq_zero (by omega : vs.length = 0)] at e
        rw [← e, show val ([] : List Int) = 0 from rfl, gc_zero (val_nonneg HS.out.i1.wds)]
        exact nwd_eq HS.out.i1.wds HS.out.t1 rfl
      have HTU : Hid (trim us = us) := HS.out.t1.trim
      go_wp2_with fail
      refine (rTrim_calls B1 d1 us _ HS.out.i1).mono ?_
      rintro e w3 ⟨v, rfl, ho, hb⟩
      go_wp2
      go_ret
      exact ⟨v, rfl, by rw [HR.out, ← HTU.out]; exact ho.mono HS.out.below.size, bs2 HS.out.below hb⟩

set_option maxHeartbeats 1000000 in
theorem rGcd_calls (A A' : Option Addr) (c c' : Nat) (xs ys : List Int) (w : World) (h : In w A c xs) (h' : In w A' c' ys) :
    Calls Try.prog 31 #[.slice A xs.length c, .slice A' ys.length c'] w fun e w' => ∃ v, e = .returned (.tuple #[v, .int .i64 (gcdS xs ys).2]) ∧ Ow w' 42 w.heap.size v (gcdS xs ys).1 ∧ Below w.heap.size w w' := by
  have H := Q.hid h
  have H' := Q.hid h'
  clear h h'
  by_cases h0 : chk2 xs ys = 0
  · have hb : (chk2 xs ys != 0) = false := by simp [h0]
    have HC2 := Q.hid (chk2_zero h0)
    have HF : Hid (gcdS xs ys = (nwd (gc (val xs) (val ys)), 0)) := by unfold gcdS; rw [if_pos h0]; rfl
    have hlen : (nwd (gc (val xs) (val ys))).length ≤ 8192 := by
      have := gcdS_len xs ys H.out.wds H'.out.wds
      rw [HF.out] at this
      exact this
    have HT : Hid (told (gc (val xs) (val ys)) = (nwd (gc (val xs) (val ys)), 0)) := by unfold told; exact if_neg (by omega)
    clear h0
    go_enter Try.func31, Try.ntmps31
    go_wp2_with fail
    refine (both_calls A A' c c' xs ys _ H.out H'.out).mono ?_
    rintro e w1 ⟨rfl, rfl⟩
    go_wp2_with fail
    refine (Common_calls A A' c c' xs ys _ H.out H'.out HC2.out.2.1 HC2.out.2.2.2 HC2.out.1 HC2.out.2.2.1).mono ?_
    rintro e w1 ⟨v, rfl, ho, hb⟩
    obtain ⟨A1, c1, e1, i1⟩ := nwd_inn ho (by omega)
    subst e1
    have HB := Q.hid hb
    have HO := Q.hid ho
    clear hb ho i1
    go_wp2_with fail
    refine (rtold_calls A1 c1 w.heap.size _ (gc (val xs) (val ys)) _ HO.out (by omega) rfl).mono ?_
    rintro e w2 ⟨⟨v, rfl, ho⟩, rfl⟩
    go_wp2
    go_ret2
    exact ⟨v, by rw [HF.out, HT.out]; rfl, by rw [HF.out]; rw [HT.out] at ho; exact ho, HB.out⟩
  · have hb : (chk2 xs ys != 0) = true := by simp [h0]
    have HF : Hid (gcdS xs ys = ([], chk2 xs ys)) := if_neg h0
    clear h0
    go_enter Try.func31, Try.ntmps31
    go_wp2_with fail
    refine (both_calls A A' c c' xs ys _ H.out H'.out).mono ?_
    rintro e w1 ⟨rfl, rfl⟩
    go_wp2
    go_ret2
    exact ⟨_, by rw [HF.out]; rfl, by rw [HF.out]; exact Ow.nil _ _ _, Below.refl _ _⟩
end Go.Proofs.Ytgnmmifeojfjlaa
