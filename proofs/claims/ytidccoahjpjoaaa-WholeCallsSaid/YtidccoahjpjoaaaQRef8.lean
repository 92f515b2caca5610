/- The reference of layer 1: DivMod, Gcd; what each call does. -/
import Derived.Test.YtidccoahjpjoaaaQRef7
set_option linter.unusedVariables false
set_option linter.unusedSimpArgs false
namespace Go.Proofs.Ytidccoahjpjoaaa
open Go Go.RowKit Q


/-- what a common divisor is sought of, by hand -/
structure GrSt (w wr : World) (G : Int) (A1 A2 : Option Addr) (c1 c2 : Nat) (us vs : List Int) : Prop where
  i1 : In wr A1 c1 us
  i2 : In wr A2 c2 vs
  t1 : Tr us
  t2 : Tr vs
  l1 : us.length ≤ 8192
  l2 : vs.length ≤ 8192
  gc : gc (val us) (val vs) = G
  below : Below w.heap.size w wr
theorem GrSt.step {w wr w' : World} {G : Int} {A1 A2 A3 : Option Addr} {c1 c2 c3 : Nat} {us vs : List Int} (h : GrSt w wr G A1 A2 c1 c2 us vs) (hn : vs ≠ []) (ho : Ow w' 58 wr.heap.size (.slice A3 (nwd (val us % val vs)).length c3) (nwd (val us % val vs))) (hb : Below wr.heap.size wr w') :
    GrSt w w' G A2 A3 c2 c3 vs (nwd (val us % val vs)) := by
  have hp := val_pos h.i2.wds h.t2 hn
  have m0 : 0 ≤ val us % val vs := Int.emod_nonneg _ (by omega)
  have m1 : val us % val vs < val vs := Int.emod_lt_of_pos _ hp
  have hl := Nat.le_trans (nwd_len_of h.i2.wds m0 (by omega)) h.l2
  refine ⟨h.i2.below hb, ⟨ho.read.2.2.2, ho.read.2.1, by omega, nwd_wds _⟩, h.t2, nwd_tr _, h.l2, hl, ?_, bs2 h.below hb⟩
  rw [val_nwd m0, ← gc_step (val_nonneg h.i1.wds) (by omega)]
  exact h.gc

set_option maxHeartbeats 2000000 in
set_option maxRecDepth 100000 in
theorem Common_calls (A A' : Option Addr) (c c' : Nat) (xs ys : List Int) (w : World) (h : In w A c xs) (h' : In w A' c' ys) (ht : Tr xs) (ht' : Tr ys) (hl : xs.length ≤ 8192) (hl' : ys.length ≤ 8192) :
    Calls Try.prog 71 #[.slice A xs.length c, .slice A' ys.length c'] w fun e w' => ∃ v, e = .returned v ∧ Ow w' 58 w.heap.size v (nwd (gc (val xs) (val ys))) ∧ Below w.heap.size w w' := by
  have HS : Hid (GrSt w w (gc (val xs) (val ys)) A A' c c' xs ys) := ⟨h, h', ht, ht', hl, hl', rfl, Below.refl _ _⟩
  clear h h' ht ht' hl hl'
  go_enter Try.func71, Try.ntmps71
  go_wp2
  go_loopw [0, 1] (fun xv yv wr => ∃ (B1 B2 : Option Addr) (d1 d2 : Nat) (us vs : List Int), xv = .slice B1 us.length d1 ∧ yv = .slice B2 vs.length d2 ∧ Hid (GrSt w wr (gc (val xs) (val ys)) B1 B2 d1 d2 us vs)) (fun _ yv wr => (val (rdw yv wr)).toNat)
  case atStart => exact ⟨A, A', c, c', xs, ys, rfl, rfl, HS⟩
  case round =>
    clear HS
    obtain ⟨B1, B2, d1, d2, us, vs, rfl, rfl, HS⟩ := hrel
    have hl1 : us.length ≤ 8192 := HS.out.l1
    have hl2 : vs.length ≤ 8192 := HS.out.l2
    by_cases h2 : 0 < vs.length
    · have HNE : Hid (vs ≠ []) := List.length_pos_iff.1 (by omega)
      go_wp2_with fail
      refine (Over_calls B1 B2 d1 d2 us vs _ HS.out.i1 HS.out.i2 HS.out.t1 HS.out.t2 (by omega) (by omega) HNE.out).mono ?_
      rintro e w3 ⟨u3, v3, rfl, hu, hv, hb⟩
      have hp := val_pos HS.out.i2.wds HS.out.t2 HNE.out
      have m0 : 0 ≤ val us % val vs := Int.emod_nonneg _ (by omega)
      have m1 : val us % val vs < val vs := Int.emod_lt_of_pos _ hp
      obtain ⟨A3, c3, e3, _⟩ := hv.slice
      subst e3
      have HS3 := Q.hid (HS.out.step HNE.out hv hb)
      have HM : Hid ((val (rdw (.slice A3 (nwd (val us % val vs)).length c3) w3)).toNat < (val (rdw (.slice B2 vs.length d2) wr)).toNat) := by
        show _ < _
        rw [rdw_eq c3 hv.read.2.2.2, rdw_eq d2 HS.out.i2.rd, val_nwd m0]
        omega
      clear hu hv hb hp m0 m1 HS
      go_wp2
      go_roundw
      case rel => exact ⟨B2, A3, d2, c3, _, _, rfl, rfl, HS3⟩
      case measure => exact HM.out
    · have h2' : decide (0 < vs.length) = false := decide_eq_false h2
      have HR : Hid (nwd (gc (val xs) (val ys)) = us) := by
        have e := HS.out.gc
        rw [List.eq_nil_of_length_eq_zero (by omega : vs.length = 0)] at e
        rw [← e, show val ([] : List Int) = 0 from rfl, gc_zero (val_nonneg HS.out.i1.wds)]
        exact nwd_eq HS.out.i1.wds HS.out.t1 rfl
      have HTU : Hid (trim us = us) := HS.out.t1.trim
      go_wp2_with fail
      refine (rTrim_calls B1 d1 us _ HS.out.i1).mono ?_
      rintro e w3 ⟨v, rfl, ho, hb⟩
      go_wp2
      go_ret
      exact ⟨v, rfl, by rw [HR.out, ← HTU.out]; exact ho.mono HS.out.below.size, bs2 HS.out.below hb⟩


end Go.Proofs.Ytidccoahjpjoaaa
