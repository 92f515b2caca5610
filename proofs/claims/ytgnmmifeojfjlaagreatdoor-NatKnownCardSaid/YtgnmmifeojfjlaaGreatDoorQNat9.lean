/- Package nat: DivMod, Gcd; what each call does. -/
import Derived.Test.YtgnmmifeojfjlaaGreatDoorQNat8
set_option linter.unusedVariables false
set_option linter.unusedSimpArgs false
namespace Go.Proofs.YtgnmmifeojfjlaaGreatDoor
open Go Go.RowKit Q

set_option maxHeartbeats 1000000 in
theorem DivMod_calls (A A' : Option Addr) (c c' : Nat) (xs ys : List Int) (w : World) (h : In w A c xs) (h' : In w A' c' ys) :
    Calls Tryz.prog 22 #[.slice A xs.length c, .slice A' ys.length c'] w fun e w' => ∃ u v, e = .returned (.tuple #[u, v, .int .i64 (divS xs ys).2.2]) ∧ Ow w' 36 w.heap.size u (divS xs ys).1 ∧ Ow w' 36 w.heap.size v (divS xs ys).2.1 ∧ Apart2 u v ∧ Below w.heap.size w w' := by
  have H := Q.hid h
  have H' := Q.hid h'
  clear h h'
  by_cases h0 : chk2 xs ys = 0
  · have hb : (chk2 xs ys != 0) = false := by simp [h0]
    have HC2 := Q.hid (chk2_zero h0)
    by_cases hy : ys = []
    · have HF : Hid (divS xs ys = ([], [], 7)) := by unfold divS; rw [if_pos h0, if_pos hy]; rfl
      have hl : ((ys.length : Int) == 0) = true := beq_iff_eq.2 (by rw [hy]; rfl)
      clear h0 hy
      go_enter Tryz.func22, Tryz.ntmps22
      go_wp2_with fail
      refine (checked_calls A A' c c' xs ys _ H.out H'.out).mono ?_
      rintro e w1 ⟨rfl, rfl⟩
      go_wp2
      go_ret3
      exact ⟨.slice none 0 0, .slice none 0 0, by rw [HF.out]; rfl, by rw [HF.out]; exact Ow.nil _ _ _, by rw [HF.out]; exact Ow.nil _ _ _, .inl rfl, Below.refl _ _⟩
    · have HF : Hid (divS xs ys = (nwd (val xs / val ys), nwd (val xs % val ys), 0)) := by unfold divS; rw [if_pos h0, if_neg hy]; rfl
      have hp := List.length_pos_iff.2 hy
      have hl : ((ys.length : Int) == 0) = false := beq_eq_false_iff_ne.2 (by omega)
      have HY := Q.hid hy
      have hxl : xs.length ≤ 1000000 := by have := HC2.out; omega
      clear h0 hy
      go_enter Tryz.func22, Tryz.ntmps22
      go_wp2_with fail
      refine (checked_calls A A' c c' xs ys _ H.out H'.out).mono ?_
      rintro e w1 ⟨rfl, rfl⟩
      go_wp2_with fail
      refine (divide_calls A A' c c' xs ys _ H.out H'.out HC2.out.2.1 HC2.out.2.2.2 hxl HY.out).mono ?_
      rintro e w1 ⟨u, v, rfl, hu, hv, ha, hb⟩
      go_wp2
      go_ret3
      exact ⟨u, v, by rw [HF.out]; rfl, by rw [HF.out]; exact hu, by rw [HF.out]; exact hv, ha, hb⟩
  · have hb : (chk2 xs ys != 0) = true := by simp [h0]
    have HF : Hid (divS xs ys = ([], [], chk2 xs ys)) := if_neg h0
    clear h0
    go_enter Tryz.func22, Tryz.ntmps22
    go_wp2_with fail
    refine (checked_calls A A' c c' xs ys _ H.out H'.out).mono ?_
    rintro e w1 ⟨rfl, rfl⟩
    go_wp2
    go_ret3
    exact ⟨.slice none 0 0, .slice none 0 0, by rw [HF.out]; rfl, by rw [HF.out]; exact Ow.nil _ _ _, by rw [HF.out]; exact Ow.nil _ _ _, .inl rfl, Below.refl _ _⟩

/-- the words of a row, as the world has them -/
def rdw (v : Value) (w : World) : List Int :=
  match v with
  | .slice (some ad) n _ => (List.range n).map fun i => match w.cell? (ad.add i) with | some (.int _ x) => x | _ => 0
  | _ => []
theorem rdw_eq {w : World} {A : Option Addr} {xs : List Int} (c : Nat) (h : Rd w A xs) : rdw (.slice A xs.length c) w = xs := by
  cases A with
  | none =>
    match xs, h with
    | [], _ => rfl
    | x :: xs, h => obtain ⟨ad, e, _⟩ := h 0 (by simp); cases e
  | some ad =>
    unfold rdw
    apply List.ext_getElem (by simp)
    intro i h1 h2
    obtain ⟨ad2, e, hc⟩ := h i h2
    cases e
    simp [hc, wd_lt h2]
/-- what a common divisor is sought of, as it goes on -/
structure GcSt (w wr : World) (G : Int) (A1 A2 : Option Addr) (c1 c2 : Nat) (us vs : List Int) : Prop where
  o1 : Ow wr 36 w.heap.size (.slice A1 us.length c1) us
  o2 : Ow wr 36 w.heap.size (.slice A2 vs.length c2) vs
  w1 : Wds us
  w2 : Wds vs
  t1 : Tr us
  t2 : Tr vs
  l1 : us.length ≤ 8192
  l2 : vs.length ≤ 8192
  gc : gc (val us) (val vs) = G
  below : Below w.heap.size w wr
theorem GcSt.i1 {w wr : World} {G : Int} {A1 A2 : Option Addr} {c1 c2 : Nat} {us vs : List Int} (h : GcSt w wr G A1 A2 c1 c2 us vs) : In wr A1 c1 us := ⟨h.o1.read.2.2.2, h.o1.read.2.1, by have := h.l1; omega, h.w1⟩
theorem GcSt.i2 {w wr : World} {G : Int} {A1 A2 : Option Addr} {c1 c2 : Nat} {us vs : List Int} (h : GcSt w wr G A1 A2 c1 c2 us vs) : In wr A2 c2 vs := ⟨h.o2.read.2.2.2, h.o2.read.2.1, by have := h.l2; omega, h.w2⟩
theorem GcSt.step {w wr w' : World} {G : Int} {A1 A2 A3 : Option Addr} {c1 c2 c3 : Nat} {us vs : List Int} (h : GcSt w wr G A1 A2 c1 c2 us vs) (hn : vs ≠ []) (ho : Ow w' 36 wr.heap.size (.slice A3 (nwd (val us % val vs)).length c3) (nwd (val us % val vs))) (hb : Below wr.heap.size wr w') :
    GcSt w w' G A2 A3 c2 c3 vs (nwd (val us % val vs)) := by
  have hp := val_pos h.w2 h.t2 hn
  have m0 : 0 ≤ val us % val vs := Int.emod_nonneg _ (by omega)
  have m1 : val us % val vs < val vs := Int.emod_lt_of_pos _ hp
  refine ⟨h.o2.below hb, ho.mono h.below.size, h.w2, nwd_wds _, h.t2, nwd_tr _, h.l2, Nat.le_trans (nwd_len_of h.w2 m0 (by omega)) h.l2, ?_, bs2 h.below hb⟩
  rw [val_nwd m0, ← gc_step (val_nonneg h.w1) (by omega)]
  exact h.gc

set_option maxHeartbeats 2000000 in
set_option maxRecDepth 100000 in
theorem Gcd_calls (A A' : Option Addr) (c c' : Nat) (xs ys : List Int) (w : World) (h : In w A c xs) (h' : In w A' c' ys) :
    Calls Tryz.prog 23 #[.slice A xs.length c, .slice A' ys.length c'] w fun e w' => ∃ v, e = .returned (.tuple #[v, .int .i64 (gcdS xs ys).2]) ∧ Ow w' 36 w.heap.size v (gcdS xs ys).1 ∧ Below w.heap.size w w' := by
  have H := Q.hid h
  have H' := Q.hid h'
  clear h h'
  by_cases h0 : chk2 xs ys = 0
  · have hb : (chk2 xs ys != 0) = false := by simp [h0]
    have HC2 := Q.hid (chk2_zero h0)
    have HF : Hid (gcdS xs ys = (nwd (gc (val xs) (val ys)), 0)) := by unfold gcdS; rw [if_pos h0]; rfl
    clear h0
    go_enter Tryz.func23, Tryz.ntmps23
    go_wp2_with fail
    refine (checked_calls A A' c c' xs ys _ H.out H'.out).mono ?_
    rintro e w1 ⟨rfl, rfl⟩
    go_wp2_with fail
    refine (Clone_calls A c xs _ H.out).mono ?_
    rintro e w1 ⟨v1, rfl, ho, hb1⟩
    obtain ⟨A1, c1, e1, i1⟩ := ho.inn H.out.wds H.out.small
    subst e1
    have HB1 := Q.hid hb1
    have HO1 := Q.hid ho
    clear ho hb1 i1
    go_wp2_with fail
    refine (Clone_calls A' c' ys _ (H'.out.below HB1.out)).mono ?_
    rintro e w2 ⟨v2, rfl, ho, hb2⟩
    obtain ⟨A2, c2, e2, i2⟩ := ho.inn H'.out.wds H'.out.small
    subst e2
    have HS : Hid (GcSt w w2 (gc (val xs) (val ys)) A1 A2 c1 c2 xs ys) :=
      ⟨HO1.out.below hb2, ho.mono HB1.out.size, H.out.wds, H'.out.wds, HC2.out.2.1, HC2.out.2.2.2, HC2.out.1, HC2.out.2.2.1, rfl, bs2 HB1.out hb2⟩
    clear ho hb2 i2 HO1 HB1
    go_wp2
    go_loopw [7, 8] (fun xv yv wr => ∃ (B1 B2 : Option Addr) (d1 d2 : Nat) (us vs : List Int), xv = .slice B1 us.length d1 ∧ yv = .slice B2 vs.length d2 ∧ Hid (GcSt w wr (gc (val xs) (val ys)) B1 B2 d1 d2 us vs)) (fun _ yv wr => (val (rdw yv wr)).toNat)
    case atStart => exact ⟨A1, A2, c1, c2, xs, ys, rfl, rfl, HS⟩
    case round =>
      clear HS
      obtain ⟨B1, B2, d1, d2, us, vs, rfl, rfl, HS⟩ := hrel
      have hl1 : us.length ≤ 8192 := HS.out.l1
      have hl2 : vs.length ≤ 8192 := HS.out.l2
      by_cases h2 : 2 < vs.length
      · have HNE : Hid (vs ≠ []) := List.length_pos_iff.1 (by omega)
        go_wp2_with fail
        refine (divide_calls B1 B2 d1 d2 us vs _ HS.out.i1 HS.out.i2 HS.out.t1 HS.out.t2 (by omega) HNE.out).mono ?_
        rintro e w3 ⟨u3, v3, rfl, hu, hv, ha, hb⟩
        have hp := val_pos HS.out.w2 HS.out.t2 HNE.out
        have m0 : 0 ≤ val us % val vs := Int.emod_nonneg _ (by omega)
        have m1 : val us % val vs < val vs := Int.emod_lt_of_pos _ hp
        obtain ⟨A3, c3, e3, _⟩ := hv.slice
        subst e3
        have HS3 := Q.hid (HS.out.step HNE.out hv hb)
        have HM : Hid ((val (rdw (.slice A3 (nwd (val us % val vs)).length c3) w3)).toNat < (val (rdw (.slice B2 vs.length d2) wr)).toNat) := by
          show _ < _
          rw [rdw_eq c3 hv.read.2.2.2, rdw_eq d2 HS.out.i2.rd, val_nwd m0]
          omega
        clear hu hv ha hb hp m0 m1 HS
        go_wp2
        go_roundw
        case rel => exact ⟨B2, A3, d2, c3, _, _, rfl, rfl, HS3⟩
        case measure => exact HM.out
      · by_cases hv0 : vs.length = 0
        · have hb0 : ((vs.length : Int) == 0) = true := beq_iff_eq.2 (by omega)
          have HR : Hid (nwd (gc (val xs) (val ys)) = us) := by
            have e := HS.out.gc
            rw [List.eq_nil_of_length_eq_zero hv0] at e
            rw [← e, show val ([] : List Int) = 0 from rfl, gc_zero (val_nonneg HS.out.w1)]
            exact nwd_eq HS.out.w1 HS.out.t1 rfl
          have h2' : decide (2 < vs.length) = false := decide_eq_false h2
          clear hv0
          go_wp2
          go_ret2
          exact ⟨_, by rw [HF.out]; rfl, by rw [HF.out, HR.out]; exact HS.out.o1, HS.out.below⟩
        · have hb0 : ((vs.length : Int) == 0) = false := beq_eq_false_iff_ne.2 (by omega)
          have HNE : Hid (vs ≠ []) := List.length_pos_iff.1 (by omega)
          have h2' : decide (2 < vs.length) = false := decide_eq_false h2
          go_wp2_with fail
          refine (divide_calls B1 B2 d1 d2 us vs _ HS.out.i1 HS.out.i2 HS.out.t1 HS.out.t2 (by omega) HNE.out).mono ?_
          rintro e w3 ⟨u3, v3, rfl, hu, hv, ha, hb⟩
          obtain ⟨A3, c3, e3, _⟩ := hv.slice
          subst e3
          have HS3 := Q.hid (HS.out.step HNE.out hv hb)
          have hp := val_pos HS.out.w2 HS.out.t2 HNE.out
          have hr0 : 0 ≤ val us % val vs := Int.emod_nonneg _ (by omega)
          have hr1 : val us % val vs < val vs := Int.emod_lt_of_pos _ hp
          have hvlt : val vs < 18446744073709551616 := by
            have h1 := val_lt HS.out.w2
            have h3 := Bp_mono (show vs.length ≤ 2 by omega)
            have h4 : Bp 2 = 18446744073709551616 := by decide
            omega
          have HU1 : Hid (u64 vs = val vs) := by
            have hn : ¬ 2 < tl vs := by rw [show tl vs = vs.length from HS.out.t2]; omega
            unfold u64; rw [if_neg hn]; rfl
          have HU2 : Hid (u64 (nwd (val us % val vs)) = val us % val vs) := by
            have hn : ¬ 2 < tl (nwd (val us % val vs)) := by
              rw [show tl (nwd (val us % val vs)) = (nwd (val us % val vs)).length from nwd_tr _]
              have := nwd_len_of HS.out.w2 hr0 (by omega)
              omega
            unfold u64
            rw [if_neg hn, val_nwd hr0]; rfl
          have HG3 : Hid (gc (val vs) (val us % val vs) = gc (val xs) (val ys)) := by
            have := HS3.out.gc
            rwa [val_nwd hr0] at this
          clear hu hv ha hb hp HS hv0
          go_wp2_with fail
          refine (Uint64_calls B2 d2 vs _ HS3.out.i1).mono ?_
          rintro e w4 ⟨rfl, rfl⟩
          rw [HU1.out]
          go_wp2_with fail
          refine (Uint64_calls A3 c3 (nwd (val us % val vs)) _ HS3.out.i2).mono ?_
          rintro e w4 ⟨rfl, rfl⟩
          rw [HU2.out]
          obtain ⟨m0, hm0⟩ : ∃ m0 : Int, m0 = val vs := ⟨_, rfl⟩
          obtain ⟨n0, hn0⟩ : ∃ n0 : Int, n0 = val us % val vs := ⟨_, rfl⟩
          have HB3 := Q.hid HS3.out.below
          rw [← hn0, ← hm0] at HG3
          rw [← hn0] at hr0
          rw [← hn0, ← hm0] at hr1
          rw [← hm0] at hvlt
          rw [← hn0]
          rw [← hm0]
          clear hm0 hn0 HS3 HU1 HU2
          go_wp2
          go_loopw [13, 15] (fun mv nv wr => ∃ m n : Int, mv = .int .u64 m ∧ nv = .int .u64 n ∧ 0 ≤ m ∧ m < 18446744073709551616 ∧ 0 ≤ n ∧ n < 18446744073709551616 ∧ Hid (gc m n = gc (val xs) (val ys)) ∧ Hid (Dr w3 wr)) (fun _ nv _ => (intOf nv).toNat)
          case atStart => exact ⟨m0, n0, rfl, rfl, by omega, by omega, by omega, by omega, HG3, Dr.refl w3⟩
          case round =>
            clear HG3 hr0 hr1 hvlt
            obtain ⟨m, n, rfl, rfl, hm0, hm1, hn0, hn1, HG3, HD⟩ := hrel
            obtain ⟨k, rfl⟩ := HD.out
            by_cases hn : n = 0
            · have hbn : (n != 0) = false := by rw [hn]; rfl
              have HR : Hid (nwd (gc (val xs) (val ys)) = of64 m) := by
                have e := HG3.out
                rw [hn, gc_zero hm0] at e
                rw [← e]
                exact nwd_eq (of64_wds hm0 hm1) (of64_tr _) (of64_val _)
              clear hn HG3
              go_wp2_with fail
              refine (Of_calls m _ hm0 hm1).mono ?_
              rintro e w5 ⟨v5, rfl, ho, hb⟩
              go_wp2
              go_ret2
              refine ⟨v5, by rw [HF.out]; rfl, by rw [HF.out, HR.out]; exact ho.mono HB3.out.size, ?_⟩
              have hb5 : Below w3.heap.size w3 w5 := below_of_drewN hb
              exact bs2 HB3.out hb5
            · have hbn : (n != 0) = true := by simpa using hn
              have hmd : m.tmod n = m % n := tmod_of_nonneg hm0
              have q0 : 0 ≤ m % n := Int.emod_nonneg _ hn
              have q1 : m % n < n := Int.emod_lt_of_pos _ (by omega)
              have HG4 : Hid (gc n (m % n) = gc (val xs) (val ys)) := by
                have e := HG3.out
                rw [gc_step hm0 hn0] at e
                exact e
              clear HG3 HD
              go_wp2
              go_quiet (fail)
              go_wp2
              go_roundw
              case rel => exact ⟨n, m % n, rfl, rfl, hn0, hn1, q0, by omega, HG4, by first | exact ⟨_, rfl⟩ | exact Dr.step ⟨_, rfl⟩ _⟩
              case measure => simp [intOf]; omega
  · have hb : (chk2 xs ys != 0) = true := by simp [h0]
    have HF : Hid (gcdS xs ys = ([], chk2 xs ys)) := if_neg h0
    clear h0
    go_enter Tryz.func23, Tryz.ntmps23
    go_wp2_with fail
    refine (checked_calls A A' c c' xs ys _ H.out H'.out).mono ?_
    rintro e w1 ⟨rfl, rfl⟩
    go_wp2
    go_ret2
    exact ⟨_, by rw [HF.out]; rfl, by rw [HF.out]; exact Ow.nil _ _ _, Below.refl _ _⟩
end Go.Proofs.YtgnmmifeojfjlaaGreatDoor
