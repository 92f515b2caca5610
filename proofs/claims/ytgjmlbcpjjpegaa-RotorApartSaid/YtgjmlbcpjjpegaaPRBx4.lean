/- Written by wip/xprint.py (the kit's print over given functions). -/
import Derived.Test.YtgjmlbcpjjpegaaPRBx0
import Derived.Test.YtgjmlbcpjjpegaaPRBx3
namespace Go.Proofs.Ytgjmlbcpjjpegaa.PRB
open Go.RowKit Go.Proofs.YtgjmlbcpjjpegaaW.PrintWords Go.Proofs.YtgjmlbcpjjpegaaW.PrintLast Go.Proofs.YtgjmlbcpjjpegaaW.PrintMore
attribute [local go_sem] max2_int min2_int max_two min_two max_three min_three max_four min_four   -- for this text's walks alone
set_option linter.unusedVariables false
set_option linter.unusedSimpArgs false

/-! ### gauss_Same: function 25 (given) -/
def gauss_Same.f (k : Nat) (a0_0 : Bool) (l0_1 : List Int) (l0_2 : List Int) (a0_3 : Bool) (l0_4 : List Int) (l0_5 : List Int) (a1_0 : Bool) (l1_1 : List Int) (l1_2 : List Int) (a1_3 : Bool) (l1_4 : List Int) (l1_5 : List Int) : Option (Bool) :=
 (ratio_Check.f k a0_0 l0_1 l0_2).bind fun e1 => (ratio_Check.f k a0_3 l0_4 l0_5).bind fun e2 => (ratio_Check.f k a1_0 l1_1 l1_2).bind fun e3 => (ratio_Check.f k a1_3 l1_4 l1_5).bind fun e4 => if chk3 (chk3 0 e1 e2) e3 e4 = 0 then ((ratio_Same.f k a0_0 l0_1 l0_2 a1_0 l1_1 l1_2).bind fun t => if t = true then (ratio_Same.f k a0_3 l0_4 l0_5 a1_3 l1_4 l1_5) else some false) else some false
set_option maxHeartbeats 4000000 in
set_option maxRecDepth 100000 in
theorem gauss_Same.calls (k : Nat) (a0_0 : Bool) (A0_1 : Option Addr) (c0_1 : Nat) (l0_1 : List Int) (A0_2 : Option Addr) (c0_2 : Nat) (l0_2 : List Int) (a0_3 : Bool) (A0_4 : Option Addr) (c0_4 : Nat) (l0_4 : List Int) (A0_5 : Option Addr) (c0_5 : Nat) (l0_5 : List Int) (a1_0 : Bool) (A1_1 : Option Addr) (c1_1 : Nat) (l1_1 : List Int) (A1_2 : Option Addr) (c1_2 : Nat) (l1_2 : List Int) (a1_3 : Bool) (A1_4 : Option Addr) (c1_4 : Nat) (l1_4 : List Int) (A1_5 : Option Addr) (c1_5 : Nat) (l1_5 : List Int) (r : Bool) (w : World) (hr0_1 : Kd.C (Kd.int .u32) w A0_1 l0_1.length l0_1) (hc0_1 : l0_1.length ≤ c0_1) (hr0_2 : Kd.C (Kd.int .u32) w A0_2 l0_2.length l0_2) (hc0_2 : l0_2.length ≤ c0_2) (hr0_4 : Kd.C (Kd.int .u32) w A0_4 l0_4.length l0_4) (hc0_4 : l0_4.length ≤ c0_4) (hr0_5 : Kd.C (Kd.int .u32) w A0_5 l0_5.length l0_5) (hc0_5 : l0_5.length ≤ c0_5) (hr1_1 : Kd.C (Kd.int .u32) w A1_1 l1_1.length l1_1) (hc1_1 : l1_1.length ≤ c1_1) (hr1_2 : Kd.C (Kd.int .u32) w A1_2 l1_2.length l1_2) (hc1_2 : l1_2.length ≤ c1_2) (hr1_4 : Kd.C (Kd.int .u32) w A1_4 l1_4.length l1_4) (hc1_4 : l1_4.length ≤ c1_4) (hr1_5 : Kd.C (Kd.int .u32) w A1_5 l1_5.length l1_5) (hc1_5 : l1_5.length ≤ c1_5) (h : gauss_Same.f k a0_0 l0_1 l0_2 a0_3 l0_4 l0_5 a1_0 l1_1 l1_2 a1_3 l1_4 l1_5 = some r) :
  Calls Try.prog 25 #[.agg #[.bool a0_0, .slice A0_1 l0_1.length c0_1, .slice A0_2 l0_2.length c0_2, .bool a0_3, .slice A0_4 l0_4.length c0_4, .slice A0_5 l0_5.length c0_5], .agg #[.bool a1_0, .slice A1_1 l1_1.length c1_1, .slice A1_2 l1_2.length c1_2, .bool a1_3, .slice A1_4 l1_4.length c1_4, .slice A1_5 l1_5.length c1_5]] w fun e w' => e = .returned (.bool r) ∧ Below w.heap.size w w' := by
 unfold gauss_Same.f at h
 obtain ⟨e1, h1, h⟩ := Option.bind_eq_some_iff.mp h
 obtain ⟨e2, h2, h⟩ := Option.bind_eq_some_iff.mp h
 obtain ⟨e3, h3, h⟩ := Option.bind_eq_some_iff.mp h
 obtain ⟨e4, h4, h⟩ := Option.bind_eq_some_iff.mp h
 have H1 : Hid (∀ w1, Below w.heap.size w w1 → Calls Try.prog 78 #[.agg #[.bool a0_0, .slice A0_1 l0_1.length c0_1, .slice A0_2 l0_2.length c0_2]] w1 fun e w' => e = .returned (.int .i64 e1) ∧ Below w1.heap.size w1 w') :=
  fun w1 hb => ratio_Check.calls k a0_0 A0_1 c0_1 l0_1 A0_2 c0_2 l0_2 e1 w1 (Kd.C_below hr0_1 hb) hc0_1 (Kd.C_below hr0_2 hb) hc0_2 h1
 have H2 : Hid (∀ w1, Below w.heap.size w w1 → Calls Try.prog 78 #[.agg #[.bool a0_3, .slice A0_4 l0_4.length c0_4, .slice A0_5 l0_5.length c0_5]] w1 fun e w' => e = .returned (.int .i64 e2) ∧ Below w1.heap.size w1 w') :=
  fun w1 hb => ratio_Check.calls k a0_3 A0_4 c0_4 l0_4 A0_5 c0_5 l0_5 e2 w1 (Kd.C_below hr0_4 hb) hc0_4 (Kd.C_below hr0_5 hb) hc0_5 h2
 have H3 : Hid (∀ w1, Below w.heap.size w w1 → Calls Try.prog 78 #[.agg #[.bool a1_0, .slice A1_1 l1_1.length c1_1, .slice A1_2 l1_2.length c1_2]] w1 fun e w' => e = .returned (.int .i64 e3) ∧ Below w1.heap.size w1 w') :=
  fun w1 hb => ratio_Check.calls k a1_0 A1_1 c1_1 l1_1 A1_2 c1_2 l1_2 e3 w1 (Kd.C_below hr1_1 hb) hc1_1 (Kd.C_below hr1_2 hb) hc1_2 h3
 have H4 : Hid (∀ w1, Below w.heap.size w w1 → Calls Try.prog 78 #[.agg #[.bool a1_3, .slice A1_4 l1_4.length c1_4, .slice A1_5 l1_5.length c1_5]] w1 fun e w' => e = .returned (.int .i64 e4) ∧ Below w1.heap.size w1 w') :=
  fun w1 hb => ratio_Check.calls k a1_3 A1_4 c1_4 l1_4 A1_5 c1_5 l1_5 e4 w1 (Kd.C_below hr1_4 hb) hc1_4 (Kd.C_below hr1_5 hb) hc1_5 h4
 have S0 : Hid (∀ t w1, Below w.heap.size w w1 → ratio_Same.f k a0_0 l0_1 l0_2 a1_0 l1_1 l1_2 = some t → Calls Try.prog 63 #[.agg #[.bool a0_0, .slice A0_1 l0_1.length c0_1, .slice A0_2 l0_2.length c0_2], .agg #[.bool a1_0, .slice A1_1 l1_1.length c1_1, .slice A1_2 l1_2.length c1_2]] w1 fun e w' => e = .returned (.bool t) ∧ Below w1.heap.size w1 w') :=
  fun t w1 hb ht => ratio_Same.calls k a0_0 A0_1 c0_1 l0_1 A0_2 c0_2 l0_2 a1_0 A1_1 c1_1 l1_1 A1_2 c1_2 l1_2 t w1 (Kd.C_below hr0_1 hb) hc0_1 (Kd.C_below hr0_2 hb) hc0_2 (Kd.C_below hr1_1 hb) hc1_1 (Kd.C_below hr1_2 hb) hc1_2 ht
 have S3 : Hid (∀ t w1, Below w.heap.size w w1 → ratio_Same.f k a0_3 l0_4 l0_5 a1_3 l1_4 l1_5 = some t → Calls Try.prog 63 #[.agg #[.bool a0_3, .slice A0_4 l0_4.length c0_4, .slice A0_5 l0_5.length c0_5], .agg #[.bool a1_3, .slice A1_4 l1_4.length c1_4, .slice A1_5 l1_5.length c1_5]] w1 fun e w' => e = .returned (.bool t) ∧ Below w1.heap.size w1 w') :=
  fun t w1 hb ht => ratio_Same.calls k a0_3 A0_4 c0_4 l0_4 A0_5 c0_5 l0_5 a1_3 A1_4 c1_4 l1_4 A1_5 c1_5 l1_5 t w1 (Kd.C_below hr0_4 hb) hc0_4 (Kd.C_below hr0_5 hb) hc0_5 (Kd.C_below hr1_4 hb) hc1_4 (Kd.C_below hr1_5 hb) hc1_5 ht
 clear h1 h2 h3 h4 hr0_1 hc0_1 hr0_2 hc0_2 hr0_4 hc0_4 hr0_5 hc0_5 hr1_1 hc1_1 hr1_2 hc1_2 hr1_4 hc1_4 hr1_5 hc1_5
 have HQ := GB.hid h
 clear h
 have KA := GB.hid ((GB.Blk.new w 34 [.bool a0_0, .slice A0_1 l0_1.length c0_1, .slice A0_2 l0_2.length c0_2, .bool a0_3, .slice A0_4 l0_4.length c0_4, .slice A0_5 l0_5.length c0_5]).alloc (.cells #[.bool a1_0, .slice A1_1 l1_1.length c1_1, .slice A1_2 l1_2.length c1_2, .bool a1_3, .slice A1_4 l1_4.length c1_4, .slice A1_5 l1_5.length c1_5] 34))
 have KB : Hid (GB.Blk ((w.alloc (.cells #[.bool a0_0, .slice A0_1 l0_1.length c0_1, .slice A0_2 l0_2.length c0_2, .bool a0_3, .slice A0_4 l0_4.length c0_4, .slice A0_5 l0_5.length c0_5] 34)).alloc (.cells #[.bool a1_0, .slice A1_1 l1_1.length c1_1, .slice A1_2 l1_2.length c1_2, .bool a1_3, .slice A1_4 l1_4.length c1_4, .slice A1_5 l1_5.length c1_5] 34)) (w.heap.size + 1) 34 [.bool a1_0, .slice A1_1 l1_1.length c1_1, .slice A1_2 l1_2.length c1_2, .bool a1_3, .slice A1_4 l1_4.length c1_4, .slice A1_5 l1_5.length c1_5]) := by
  have h := GB.Blk.new (w.alloc (.cells #[.bool a0_0, .slice A0_1 l0_1.length c0_1, .slice A0_2 l0_2.length c0_2, .bool a0_3, .slice A0_4 l0_4.length c0_4, .slice A0_5 l0_5.length c0_5] 34)) 34 [.bool a1_0, .slice A1_1 l1_1.length c1_1, .slice A1_2 l1_2.length c1_2, .bool a1_3, .slice A1_4 l1_4.length c1_4, .slice A1_5 l1_5.length c1_5]
  simp only [World.size_alloc] at h
  exact h
 have a0 := KA.out.cell 0 rfl
 have b0 := KB.out.cell 0 rfl
 have a1 := KA.out.cell 1 rfl
 have b1 := KB.out.cell 1 rfl
 have a2 := KA.out.cell 2 rfl
 have b2 := KB.out.cell 2 rfl
 have a3 := KA.out.cell 3 rfl
 have b3 := KB.out.cell 3 rfl
 have a4 := KA.out.cell 4 rfl
 have b4 := KB.out.cell 4 rfl
 have a5 := KA.out.cell 5 rfl
 have b5 := KB.out.cell 5 rfl
 go_enter Try.func25, Try.ntmps25
 go_wp2_with fail
 have hL := GB.Blk.new ((w.alloc (.cells #[.bool a0_0, .slice A0_1 l0_1.length c0_1, .slice A0_2 l0_2.length c0_2, .bool a0_3, .slice A0_4 l0_4.length c0_4, .slice A0_5 l0_5.length c0_5] 34)).alloc (.cells #[.bool a1_0, .slice A1_1 l1_1.length c1_1, .slice A1_2 l1_2.length c1_2, .bool a1_3, .slice A1_4 l1_4.length c1_4, .slice A1_5 l1_5.length c1_5] 34)) 34 [.bool a0_0, .slice A0_1 l0_1.length c0_1, .slice A0_2 l0_2.length c0_2, .bool a0_3, .slice A0_4 l0_4.length c0_4, .slice A0_5 l0_5.length c0_5, .bool a1_0, .slice A1_1 l1_1.length c1_1, .slice A1_2 l1_2.length c1_2, .bool a1_3, .slice A1_4 l1_4.length c1_4, .slice A1_5 l1_5.length c1_5]
 simp only [World.size_alloc] at hL
 refine (asked2 w _ (w.heap.size + 1 + 1) e1 e2 e3 e4 _ _ _ _ _ _ _ _ _ _ _ _ _ _ _ _ _ _ _ _ _ _ _ _ _ _ _ _ (by repeat (first | exact GB.bl0 _ | apply GB.bla)) hL H1.out H2.out H3.out H4.out).mono ?_
 rintro e w1 ⟨gw, rfl, hg, hb, hk, hp⟩
 have HB := GB.hid hb
 have KA := GB.hid (hp _ _ _ (KA.out.alloc _))
 have KB := GB.hid (hp _ _ _ (KB.out.alloc _))
 clear hb hp hL a0 b0 a1 b1 a2 b2 a3 b3 a4 b4 a5 b5
 have k0 := hk.cell 0 rfl
 have a0 := KA.out.cell 0 rfl
 have b0 := KB.out.cell 0 rfl
 have a1 := KA.out.cell 1 rfl
 have b1 := KB.out.cell 1 rfl
 have a2 := KA.out.cell 2 rfl
 have b2 := KB.out.cell 2 rfl
 have a3 := KA.out.cell 3 rfl
 have b3 := KB.out.cell 3 rfl
 have a4 := KA.out.cell 4 rfl
 have b4 := KB.out.cell 4 rfl
 have a5 := KA.out.cell 5 rfl
 have b5 := KB.out.cell 5 rfl
 have h := HQ.out
 clear HQ
 by_cases hc : chk3 (chk3 0 e1 e2) e3 e4 = 0
 ·
  rw [if_pos hc] at h
  have d0 : (chk3 (chk3 0 e1 e2) e3 e4 == 0) = true := beq_iff_eq.2 hc
  obtain ⟨t, h1, h⟩ := Option.bind_eq_some_iff.mp h
  have Q1 := GB.hid h1
  have Q2 := GB.hid h
  clear h h1 hc
  go_wp2_with fail
  refine (S0.out t _ HB.out Q1.out).mono ?_
  rintro e w2 ⟨rfl, hb⟩
  have HB := GB.hid (GB.bls HB.out hb)
  have KA := GB.hid (KA.out.below hb)
  have KB := GB.hid (KB.out.below hb)
  clear hb k0 a0 b0 a1 b1 a2 b2 a3 b3 a4 b4 a5 b5
  have a3 := KA.out.cell 3 rfl
  have b3 := KB.out.cell 3 rfl
  have a4 := KA.out.cell 4 rfl
  have b4 := KB.out.cell 4 rfl
  have a5 := KA.out.cell 5 rfl
  have b5 := KB.out.cell 5 rfl
  have h := Q2.out
  clear Q2
  cases t with
  | true =>
   rw [if_pos rfl] at h
   have Q2 := GB.hid h
   clear h
   go_wp2_with fail
   refine (S3.out r _ HB.out Q2.out).mono ?_
   rintro e w3 ⟨rfl, hb⟩
   have HB := GB.hid (GB.bls HB.out hb)
   clear hb
   go_wp2
   go_ret
   exact ⟨rfl, HB.out⟩
  | false =>
   rw [if_neg (by decide)] at h
   obtain rfl := Option.some.inj h
   go_wp2
   go_ret
   exact ⟨rfl, HB.out⟩
 rw [if_neg hc] at h
 have d0 : (chk3 (chk3 0 e1 e2) e3 e4 == 0) = false := beq_eq_false_iff_ne.2 hc
 obtain rfl := Option.some.inj h
 clear hc
 go_wp2
 go_ret
 exact ⟨rfl, HB.out⟩

/-! ### gauss_Check: function 38 (given) -/
def gauss_Check.f (k : Nat) (a0_0 : Bool) (l0_1 : List Int) (l0_2 : List Int) (a0_3 : Bool) (l0_4 : List Int) (l0_5 : List Int) : Option (Int) :=
 (ratio_Check.f k a0_0 l0_1 l0_2).bind fun e1 => (ratio_Check.f k a0_3 l0_4 l0_5).bind fun e2 => some (chk3 0 e1 e2)
set_option maxHeartbeats 2000000 in
set_option maxRecDepth 100000 in
theorem gauss_Check.calls (k : Nat) (a0_0 : Bool) (A0_1 : Option Addr) (c0_1 : Nat) (l0_1 : List Int) (A0_2 : Option Addr) (c0_2 : Nat) (l0_2 : List Int) (a0_3 : Bool) (A0_4 : Option Addr) (c0_4 : Nat) (l0_4 : List Int) (A0_5 : Option Addr) (c0_5 : Nat) (l0_5 : List Int) (r : Int) (w : World) (hr0_1 : Kd.C (Kd.int .u32) w A0_1 l0_1.length l0_1) (hc0_1 : l0_1.length ≤ c0_1) (hr0_2 : Kd.C (Kd.int .u32) w A0_2 l0_2.length l0_2) (hc0_2 : l0_2.length ≤ c0_2) (hr0_4 : Kd.C (Kd.int .u32) w A0_4 l0_4.length l0_4) (hc0_4 : l0_4.length ≤ c0_4) (hr0_5 : Kd.C (Kd.int .u32) w A0_5 l0_5.length l0_5) (hc0_5 : l0_5.length ≤ c0_5) (h : gauss_Check.f k a0_0 l0_1 l0_2 a0_3 l0_4 l0_5 = some r) :
  Calls Try.prog 38 #[.agg #[.bool a0_0, .slice A0_1 l0_1.length c0_1, .slice A0_2 l0_2.length c0_2, .bool a0_3, .slice A0_4 l0_4.length c0_4, .slice A0_5 l0_5.length c0_5]] w fun e w' => e = .returned (.int .i64 r) ∧ Below w.heap.size w w' := by
 unfold gauss_Check.f at h
 obtain ⟨e1, h1, h⟩ := Option.bind_eq_some_iff.mp h
 obtain ⟨e2, h2, h⟩ := Option.bind_eq_some_iff.mp h
 obtain rfl := Option.some.inj h
 have H1 : Hid (∀ w1, Below w.heap.size w w1 → Calls Try.prog 78 #[.agg #[.bool a0_0, .slice A0_1 l0_1.length c0_1, .slice A0_2 l0_2.length c0_2]] w1 fun e w' => e = .returned (.int .i64 e1) ∧ Below w1.heap.size w1 w') :=
  fun w1 hb => ratio_Check.calls k a0_0 A0_1 c0_1 l0_1 A0_2 c0_2 l0_2 e1 w1 (Kd.C_below hr0_1 hb) hc0_1 (Kd.C_below hr0_2 hb) hc0_2 h1
 have H2 : Hid (∀ w1, Below w.heap.size w w1 → Calls Try.prog 78 #[.agg #[.bool a0_3, .slice A0_4 l0_4.length c0_4, .slice A0_5 l0_5.length c0_5]] w1 fun e w' => e = .returned (.int .i64 e2) ∧ Below w1.heap.size w1 w') :=
  fun w1 hb => ratio_Check.calls k a0_3 A0_4 c0_4 l0_4 A0_5 c0_5 l0_5 e2 w1 (Kd.C_below hr0_4 hb) hc0_4 (Kd.C_below hr0_5 hb) hc0_5 h2
 clear h1 h2 h hr0_1 hr0_2 hr0_4 hr0_5 hc0_1 hc0_2 hc0_4 hc0_5
 generalize l0_1.length = la at *
 generalize l0_2.length = lb at *
 generalize l0_4.length = lc at *
 generalize l0_5.length = ld at *
 have KB := GB.hid (GB.Blk.new w 34 [.bool a0_0, .slice A0_1 la c0_1, .slice A0_2 lb c0_2, .bool a0_3, .slice A0_4 lc c0_4, .slice A0_5 ld c0_5])
 have b0 := KB.out.cell 0 rfl
 have b1 := KB.out.cell 1 rfl
 have b2 := KB.out.cell 2 rfl
 have b3 := KB.out.cell 3 rfl
 have b4 := KB.out.cell 4 rfl
 have b5 := KB.out.cell 5 rfl
 go_enter Try.func38, Try.ntmps38
 go_wp2_with fail
 have hL := GB.Blk.new (w.alloc (.cells #[.bool a0_0, .slice A0_1 la c0_1, .slice A0_2 lb c0_2, .bool a0_3, .slice A0_4 lc c0_4, .slice A0_5 ld c0_5] 34)) 34 [.bool a0_0, .slice A0_1 la c0_1, .slice A0_2 lb c0_2, .bool a0_3, .slice A0_4 lc c0_4, .slice A0_5 ld c0_5]
 simp only [World.size_alloc] at hL
 refine (asked1 w _ (w.heap.size + 1) e1 e2 _ _ _ _ _ _ _ _ _ _ _ _ _ _ (by repeat (first | exact GB.bl0 _ | apply GB.bla)) hL H1.out H2.out).mono ?_
 rintro e w1 ⟨gw, rfl, hg, hb, hk, hp⟩
 have HB := GB.hid hb
 clear b0 b1 b2 b3 b4 b5 hL hp
 have k0 := hk.cell 0 rfl
 go_wp2
 go_ret
 exact ⟨rfl, HB.out⟩

/-! ### ratio_checks: function 76 -/
def ratio_checks.f (k : Nat) (a0_0 : Bool) (l0_1 : List Int) (l0_2 : List Int) (a1_0 : Bool) (l1_1 : List Int) (l1_2 : List Int) : Option (Int) := (ratio_Check.f k a0_0 l0_1 l0_2).bind fun t223 => (if t223 = 0 then ((ratio_Check.f k a1_0 l1_1 l1_2).bind fun t224 => (some t224)) else (some t223))
set_option maxHeartbeats 8000000 in
set_option maxRecDepth 100000 in
theorem ratio_checks.calls (k : Nat) (a0_0 : Bool) (A0_1 : Option Addr) (c0_1 : Nat) (l0_1 : List Int) (A0_2 : Option Addr) (c0_2 : Nat) (l0_2 : List Int) (a1_0 : Bool) (A1_1 : Option Addr) (c1_1 : Nat) (l1_1 : List Int) (A1_2 : Option Addr) (c1_2 : Nat) (l1_2 : List Int) (r : Int) (w : World) (hr0_1 : Kd.C (Kd.int .u32) w A0_1 l0_1.length l0_1) (hc0_1 : l0_1.length ≤ c0_1) (hr0_2 : Kd.C (Kd.int .u32) w A0_2 l0_2.length l0_2) (hc0_2 : l0_2.length ≤ c0_2) (hr1_1 : Kd.C (Kd.int .u32) w A1_1 l1_1.length l1_1) (hc1_1 : l1_1.length ≤ c1_1) (hr1_2 : Kd.C (Kd.int .u32) w A1_2 l1_2.length l1_2) (hc1_2 : l1_2.length ≤ c1_2) (h : ratio_checks.f k a0_0 l0_1 l0_2 a1_0 l1_1 l1_2 = some r) :
  Calls Try.prog 76 #[.agg #[.bool a0_0, .slice A0_1 l0_1.length c0_1, .slice A0_2 l0_2.length c0_2], .agg #[.bool a1_0, .slice A1_1 l1_1.length c1_1, .slice A1_2 l1_2.length c1_2]] w fun e w' => e = .returned (.int .i64 r) ∧ Below w.heap.size w w' := by
 have hu32 := Try.underlying32
 have HR0_1 := Aside0.mk hr0_1
 have HC0_1 := Aside0.mk hc0_1
 clear hr0_1 hc0_1
 have HR0_2 := Aside0.mk hr0_2
 have HC0_2 := Aside0.mk hc0_2
 clear hr0_2 hc0_2
 have HR1_1 := Aside0.mk hr1_1
 have HC1_1 := Aside0.mk hc1_1
 clear hr1_1 hc1_1
 have HR1_2 := Aside0.mk hr1_2
 have HC1_2 := Aside0.mk hc1_2
 clear hr1_2 hc1_2
 have HB := aZ (Below.refl w.heap.size w)
 have H : ((ratio_Check.f k a0_0 l0_1 l0_2).bind fun t223 => (if t223 = 0 then ((ratio_Check.f k a1_0 l1_1 l1_2).bind fun t224 => (some t224)) else (some t223))) = some r := h
 clear h
 replace H := Option.bind_eq_some_iff.mp H
 obtain ⟨t223, A30, H⟩ := H
 replace H : (if t223 = 0 then ((ratio_Check.f k a1_0 l1_1 l1_2).bind fun t224 => (some t224)) else (some t223)) = some r := H
 have A3 := Aside0.mk A30
 clear A30
 by_cases c4 : t223 = 0
 ·
  rw [if_pos c4] at H
  have c4b0 : (t223 == 0) = true := beq_iff_eq.mpr c4
  have c4b1 : (t223 != 0) = false := bne_eq_false_iff_eq.mpr c4
  clear c4
  replace H := Option.bind_eq_some_iff.mp H
  obtain ⟨t224, A50, H⟩ := H
  replace H : (some t224) = some r := H
  have A5 := Aside0.mk A50
  clear A50
  obtain rfl := Option.some.inj H
  go_enter Try.func76, Try.ntmps76
  go_wp2_with (first | ((with_reducible refine gD (N := 2) rfl ?_); refine gB ?hg (N := 2) ?hd (cs := #[.bool a0_0, .slice A0_1 l0_1.length c0_1, .slice A0_2 l0_2.length c0_2]) (t := 32) ?hr ?_; (case hd => rfl); (case hg => rfl); (case hr => first | (go_simp; done) | (go_simp; rfl)); intro gb221 hg w6 hbox hb; have n0_ := aZ (wP (by repeat (first | (with_reducible first | exact HB.out | apply wA | apply wN | apply wD) | exact HB.out)) hb); have n1_ := aZ (hbox); have n2_ := aZ ((by rw [hg]; exact (wZ (by repeat (first | (with_reducible first | exact HB.out | apply wA | apply wN | apply wD) | exact HB.out))) : w.heap.size ≤ gb221)); have n3_ := aZ ((by rw [hg]; exact (wZ (by repeat (first | (with_reducible first | exact HB.out | apply wA | apply wN | apply wD) | exact HB.out))) : w.heap.size ≤ gb221)); clear HB; have HB := n0_; have BK221 := n1_; have GW221 := n2_; have GE221 := n3_; clear n0_ n1_ n2_ n3_; clear hb hbox hg) | ((with_reducible refine gD (N := 3) rfl ?_); refine gB ?hg (N := 3) ?hd (cs := #[.bool a1_0, .slice A1_1 l1_1.length c1_1, .slice A1_2 l1_2.length c1_2]) (t := 32) ?hr ?_; (case hd => rfl); (case hg => rfl); (case hr => first | (go_simp; done) | (go_simp; rfl)); intro gb222 hg w7 hbox hb; have n0_ := aZ (bB (g := gb221) (o := .cells #[.bool a0_0, .slice A0_1 l0_1.length c0_1, .slice A0_2 l0_2.length c0_2] 32 (0, 0)) (by (with_reducible repeat (first | refine bN ?_ _ | refine bW ?_ | refine bA ?_ _)); exact BK221.out) hb); have n1_ := aZ (wP (by repeat (first | (with_reducible first | exact HB.out | apply wA | apply wN | apply wD | refine wS ?_ GE221.out) | exact HB.out)) hb); have n2_ := aZ (hbox); have n3_ := aZ ((by rw [hg]; exact (wZ (by repeat (first | (with_reducible first | exact HB.out | apply wA | apply wN | apply wD | refine wS ?_ GE221.out) | exact HB.out))) : w.heap.size ≤ gb222)); have n4_ := aZ ((by rw [hg]; exact (wZ (by repeat (first | (with_reducible first | exact HB.out | apply wA | apply wN | apply wD | refine wS ?_ GE221.out) | exact HB.out))) : w.heap.size ≤ gb222)); have n5_ := aZ ((by rw [hg]; exact Nat.ne_of_lt (bL (g := gb221) (o := .cells #[.bool a0_0, .slice A0_1 l0_1.length c0_1, .slice A0_2 l0_2.length c0_2] 32 (0, 0)) (by (with_reducible repeat (first | refine bN ?_ _ | refine bW ?_ | refine bA ?_ _)); exact BK221.out)) : gb221 ≠ gb222)); have n6_ := aZ ((by rw [hg]; exact Nat.ne_of_gt (bL (g := gb221) (o := .cells #[.bool a0_0, .slice A0_1 l0_1.length c0_1, .slice A0_2 l0_2.length c0_2] 32 (0, 0)) (by (with_reducible repeat (first | refine bN ?_ _ | refine bW ?_ | refine bA ?_ _)); exact BK221.out)) : gb222 ≠ gb221)); clear BK221 HB; have BK221 := n0_; have HB := n1_; have BK222 := n2_; have GW222 := n3_; have GE222 := n4_; have NB221_222 := n5_; have NB222_221 := n6_; clear n0_ n1_ n2_ n3_ n4_ n5_ n6_; clear hb hbox hg; have hnb8 := NB221_222.out; have hnc8 := NB222_221.out; have hcz9_0 : w7.cell? ⟨gb221, 0, none⟩ = some (.bool a0_0) := (bC BK221.out 0).trans rfl; have hcz9_1 : w7.cell? ⟨gb221, 1, none⟩ = some (.slice A0_1 l0_1.length c0_1) := (bC BK221.out 1).trans rfl; have hcz9_2 : w7.cell? ⟨gb221, 2, none⟩ = some (.slice A0_2 l0_2.length c0_2) := (bC BK221.out 2).trans rfl; have hfz9_0 := bZ BK221.out 0; have hfz9_1 := bZ BK221.out 1; have hfz9_2 := bZ BK221.out 2) | ((with_reducible refine gC (f := 78) rfl ?_); refine goesL_ (some 7) rfl rfl Try.func78 (by kernel_rfl) rfl #[.agg #[.bool a0_0, .slice A0_1 l0_1.length c0_1, .slice A0_2 l0_2.length c0_2]] rfl (by (try simp only [List.map_toArray, List.map_cons, List.map_nil]); first | done | rfl | (simp only [List.length_drop, List.length_take]; rfl)) ?_; (with_reducible refine (ratio_Check.calls k a0_0 _ _ l0_1 _ _ l0_2 t223 _ ?side1 ?side2 ?side3 ?side4 A3.out).mono ?_); (case side1 => repeat (first | exact (Kd.C_below HR0_1.out HB.out) | (with_reducible refine Kd.C_alloc ?_ _) | (with_reducible refine Kd.C_drewN ?_ _) | (with_reducible refine Kd.C_drew ?_))); (case side2 => exact HC0_1.out); (case side3 => repeat (first | exact (Kd.C_below HR0_2.out HB.out) | (with_reducible refine Kd.C_alloc ?_ _) | (with_reducible refine Kd.C_drewN ?_ _) | (with_reducible refine Kd.C_drew ?_))); (case side4 => exact HC0_2.out); rintro e w10 ⟨rfl, hb⟩; refine ⟨_, rfl, ?_⟩; have n0_ := aZ (bB (g := gb221) (o := .cells #[.bool a0_0, .slice A0_1 l0_1.length c0_1, .slice A0_2 l0_2.length c0_2] 32 (0, 0)) (by (with_reducible repeat (first | refine bN ?_ _ | refine bW ?_ | refine bA ?_ _)); exact BK221.out) hb); have n1_ := aZ (bB (g := gb222) (o := .cells #[.bool a1_0, .slice A1_1 l1_1.length c1_1, .slice A1_2 l1_2.length c1_2] 32 (0, 0)) (by (with_reducible repeat (first | refine bN ?_ _ | refine bW ?_ | refine bA ?_ _)); exact BK222.out) hb); have n2_ := aZ (wP (by repeat (first | (with_reducible first | exact HB.out | apply wA | apply wN | apply wD | refine wS ?_ GE221.out | refine wS ?_ GE222.out) | exact HB.out)) hb); clear BK221 BK222 HB; have BK221 := n0_; have BK222 := n1_; have HB := n2_; clear n0_ n1_ n2_; (try clear hb); (try clear hb2); (try clear hk); (try clear hi); have hcz11_0 : w10.cell? ⟨gb222, 0, none⟩ = some (.bool a1_0) := (bC BK222.out 0).trans rfl; have hcz11_1 : w10.cell? ⟨gb222, 1, none⟩ = some (.slice A1_1 l1_1.length c1_1) := (bC BK222.out 1).trans rfl; have hcz11_2 : w10.cell? ⟨gb222, 2, none⟩ = some (.slice A1_2 l1_2.length c1_2) := (bC BK222.out 2).trans rfl; have hfz11_0 := bZ BK222.out 0; have hfz11_1 := bZ BK222.out 1; have hfz11_2 := bZ BK222.out 2) | ((with_reducible refine gC (f := 78) rfl ?_); refine goesL_ (some 12) rfl rfl Try.func78 (by kernel_rfl) rfl #[.agg #[.bool a1_0, .slice A1_1 l1_1.length c1_1, .slice A1_2 l1_2.length c1_2]] rfl (by (try simp only [List.map_toArray, List.map_cons, List.map_nil]); first | done | rfl | (simp only [List.length_drop, List.length_take]; rfl)) ?_; (with_reducible refine (ratio_Check.calls k a1_0 _ _ l1_1 _ _ l1_2 t224 _ ?side1 ?side2 ?side3 ?side4 A5.out).mono ?_); (case side1 => repeat (first | exact (Kd.C_below HR1_1.out HB.out) | (with_reducible refine Kd.C_alloc ?_ _) | (with_reducible refine Kd.C_drewN ?_ _) | (with_reducible refine Kd.C_drew ?_))); (case side2 => exact HC1_1.out); (case side3 => repeat (first | exact (Kd.C_below HR1_2.out HB.out) | (with_reducible refine Kd.C_alloc ?_ _) | (with_reducible refine Kd.C_drewN ?_ _) | (with_reducible refine Kd.C_drew ?_))); (case side4 => exact HC1_2.out); rintro e w12 ⟨rfl, hb⟩; refine ⟨_, rfl, ?_⟩; have n0_ := aZ (bB (g := gb221) (o := .cells #[.bool a0_0, .slice A0_1 l0_1.length c0_1, .slice A0_2 l0_2.length c0_2] 32 (0, 0)) (by (with_reducible repeat (first | refine bN ?_ _ | refine bW ?_ | refine bA ?_ _)); exact BK221.out) hb); have n1_ := aZ (bB (g := gb222) (o := .cells #[.bool a1_0, .slice A1_1 l1_1.length c1_1, .slice A1_2 l1_2.length c1_2] 32 (0, 0)) (by (with_reducible repeat (first | refine bN ?_ _ | refine bW ?_ | refine bA ?_ _)); exact BK222.out) hb); have n2_ := aZ (wP (by repeat (first | (with_reducible first | exact HB.out | apply wA | apply wN | apply wD | refine wS ?_ GE221.out | refine wS ?_ GE222.out) | exact HB.out)) hb); clear BK221 BK222 HB; have BK221 := n0_; have BK222 := n1_; have HB := n2_; clear n0_ n1_ n2_; (try clear hb); (try clear hb2); (try clear hk); (try clear hi)))
  go_ret
  exact ⟨by first | rfl | (simp [errW_none, errW_some] <;> rfl) | (simp [*, errW_none, errW_some] <;> rfl), by repeat (first | (with_reducible first | exact HB.out | apply wA | apply wN | apply wD | refine wS ?_ GE221.out | refine wS ?_ GE222.out) | exact HB.out)⟩
 rw [if_neg c4] at H
 have c4b0 : (t223 == 0) = false := beq_eq_false_iff_ne.mpr c4
 have c4b1 : (t223 != 0) = true := bne_iff_ne.mpr c4
 obtain rfl := Option.some.inj H
 go_enter Try.func76, Try.ntmps76
 go_wp2_with (first | ((with_reducible refine gD (N := 2) rfl ?_); refine gB ?hg (N := 2) ?hd (cs := #[.bool a0_0, .slice A0_1 l0_1.length c0_1, .slice A0_2 l0_2.length c0_2]) (t := 32) ?hr ?_; (case hd => rfl); (case hg => rfl); (case hr => first | (go_simp; done) | (go_simp; rfl)); intro gb221 hg w13 hbox hb; have n0_ := aZ (wP (by repeat (first | (with_reducible first | exact HB.out | apply wA | apply wN | apply wD) | exact HB.out)) hb); have n1_ := aZ (hbox); have n2_ := aZ ((by rw [hg]; exact (wZ (by repeat (first | (with_reducible first | exact HB.out | apply wA | apply wN | apply wD) | exact HB.out))) : w.heap.size ≤ gb221)); have n3_ := aZ ((by rw [hg]; exact (wZ (by repeat (first | (with_reducible first | exact HB.out | apply wA | apply wN | apply wD) | exact HB.out))) : w.heap.size ≤ gb221)); clear HB; have HB := n0_; have BK221 := n1_; have GW221 := n2_; have GE221 := n3_; clear n0_ n1_ n2_ n3_; clear hb hbox hg) | ((with_reducible refine gD (N := 3) rfl ?_); refine gB ?hg (N := 3) ?hd (cs := #[.bool a1_0, .slice A1_1 l1_1.length c1_1, .slice A1_2 l1_2.length c1_2]) (t := 32) ?hr ?_; (case hd => rfl); (case hg => rfl); (case hr => first | (go_simp; done) | (go_simp; rfl)); intro gb222 hg w14 hbox hb; have n0_ := aZ (bB (g := gb221) (o := .cells #[.bool a0_0, .slice A0_1 l0_1.length c0_1, .slice A0_2 l0_2.length c0_2] 32 (0, 0)) (by (with_reducible repeat (first | refine bN ?_ _ | refine bW ?_ | refine bA ?_ _)); exact BK221.out) hb); have n1_ := aZ (wP (by repeat (first | (with_reducible first | exact HB.out | apply wA | apply wN | apply wD | refine wS ?_ GE221.out) | exact HB.out)) hb); have n2_ := aZ (hbox); have n3_ := aZ ((by rw [hg]; exact (wZ (by repeat (first | (with_reducible first | exact HB.out | apply wA | apply wN | apply wD | refine wS ?_ GE221.out) | exact HB.out))) : w.heap.size ≤ gb222)); have n4_ := aZ ((by rw [hg]; exact (wZ (by repeat (first | (with_reducible first | exact HB.out | apply wA | apply wN | apply wD | refine wS ?_ GE221.out) | exact HB.out))) : w.heap.size ≤ gb222)); have n5_ := aZ ((by rw [hg]; exact Nat.ne_of_lt (bL (g := gb221) (o := .cells #[.bool a0_0, .slice A0_1 l0_1.length c0_1, .slice A0_2 l0_2.length c0_2] 32 (0, 0)) (by (with_reducible repeat (first | refine bN ?_ _ | refine bW ?_ | refine bA ?_ _)); exact BK221.out)) : gb221 ≠ gb222)); have n6_ := aZ ((by rw [hg]; exact Nat.ne_of_gt (bL (g := gb221) (o := .cells #[.bool a0_0, .slice A0_1 l0_1.length c0_1, .slice A0_2 l0_2.length c0_2] 32 (0, 0)) (by (with_reducible repeat (first | refine bN ?_ _ | refine bW ?_ | refine bA ?_ _)); exact BK221.out)) : gb222 ≠ gb221)); clear BK221 HB; have BK221 := n0_; have HB := n1_; have BK222 := n2_; have GW222 := n3_; have GE222 := n4_; have NB221_222 := n5_; have NB222_221 := n6_; clear n0_ n1_ n2_ n3_ n4_ n5_ n6_; clear hb hbox hg; have hnb15 := NB221_222.out; have hnc15 := NB222_221.out; have hcz16_0 : w14.cell? ⟨gb221, 0, none⟩ = some (.bool a0_0) := (bC BK221.out 0).trans rfl; have hcz16_1 : w14.cell? ⟨gb221, 1, none⟩ = some (.slice A0_1 l0_1.length c0_1) := (bC BK221.out 1).trans rfl; have hcz16_2 : w14.cell? ⟨gb221, 2, none⟩ = some (.slice A0_2 l0_2.length c0_2) := (bC BK221.out 2).trans rfl; have hfz16_0 := bZ BK221.out 0; have hfz16_1 := bZ BK221.out 1; have hfz16_2 := bZ BK221.out 2) | ((with_reducible refine gC (f := 78) rfl ?_); refine goesL_ (some 7) rfl rfl Try.func78 (by kernel_rfl) rfl #[.agg #[.bool a0_0, .slice A0_1 l0_1.length c0_1, .slice A0_2 l0_2.length c0_2]] rfl (by (try simp only [List.map_toArray, List.map_cons, List.map_nil]); first | done | rfl | (simp only [List.length_drop, List.length_take]; rfl)) ?_; (with_reducible refine (ratio_Check.calls k a0_0 _ _ l0_1 _ _ l0_2 t223 _ ?side1 ?side2 ?side3 ?side4 A3.out).mono ?_); (case side1 => repeat (first | exact (Kd.C_below HR0_1.out HB.out) | (with_reducible refine Kd.C_alloc ?_ _) | (with_reducible refine Kd.C_drewN ?_ _) | (with_reducible refine Kd.C_drew ?_))); (case side2 => exact HC0_1.out); (case side3 => repeat (first | exact (Kd.C_below HR0_2.out HB.out) | (with_reducible refine Kd.C_alloc ?_ _) | (with_reducible refine Kd.C_drewN ?_ _) | (with_reducible refine Kd.C_drew ?_))); (case side4 => exact HC0_2.out); rintro e w17 ⟨rfl, hb⟩; refine ⟨_, rfl, ?_⟩; have n0_ := aZ (bB (g := gb221) (o := .cells #[.bool a0_0, .slice A0_1 l0_1.length c0_1, .slice A0_2 l0_2.length c0_2] 32 (0, 0)) (by (with_reducible repeat (first | refine bN ?_ _ | refine bW ?_ | refine bA ?_ _)); exact BK221.out) hb); have n1_ := aZ (bB (g := gb222) (o := .cells #[.bool a1_0, .slice A1_1 l1_1.length c1_1, .slice A1_2 l1_2.length c1_2] 32 (0, 0)) (by (with_reducible repeat (first | refine bN ?_ _ | refine bW ?_ | refine bA ?_ _)); exact BK222.out) hb); have n2_ := aZ (wP (by repeat (first | (with_reducible first | exact HB.out | apply wA | apply wN | apply wD | refine wS ?_ GE221.out | refine wS ?_ GE222.out) | exact HB.out)) hb); clear BK221 BK222 HB; have BK221 := n0_; have BK222 := n1_; have HB := n2_; clear n0_ n1_ n2_; (try clear hb); (try clear hb2); (try clear hk); (try clear hi)))
 go_ret
 exact ⟨by first | rfl | (simp [errW_none, errW_some] <;> rfl) | (simp [*, errW_none, errW_some] <;> rfl), by repeat (first | (with_reducible first | exact HB.out | apply wA | apply wN | apply wD | refine wS ?_ GE221.out | refine wS ?_ GE222.out) | exact HB.out)⟩

/-! ### nat_Mul: function 110 (given) -/
def nat_Mul.f (l0 : List Int) (l1 : List Int) : Option ((List Int) × Int) := if Q.okw l0 = true ∧ Q.okw l1 = true then some (Q.mulC l0 l1) else none
theorem nat_Mul.calls (A0 : Option Addr) (c0 : Nat) (l0 : List Int) (A1 : Option Addr) (c1 : Nat) (l1 : List Int) (r1 : List Int) (r2 : Int) (w : World) (hr0 : Kd.C (Kd.int .u32) w A0 l0.length l0) (hc0 : l0.length ≤ c0) (hr1 : Kd.C (Kd.int .u32) w A1 l1.length l1) (hc1 : l1.length ≤ c1) (h : nat_Mul.f l0 l1 = some (r1, r2)) :
  Calls Try.prog 110 #[.slice A0 l0.length c0, .slice A1 l1.length c1] w fun e w' => ∃ v0_ : Value, e = .returned (.tuple #[v0_, .int .i64 r2]) ∧ Kd.R (Kd.int .u32) 62 w' w.heap.size (fun _ => True) v0_ r1 ∧ Below w.heap.size w w' := by
 unfold nat_Mul.f at h
 split at h
 ·
  rename_i hk
  have h := Option.some.inj h
  obtain ⟨k0, k1⟩ := hk
  refine (Mul_calls A0 A1 c0 c1 l0 l1 w (In_of_C hr0 hc0 k0) (In_of_C hr1 hc1 k1)).mono ?_
  rw [Q.mul_C]; simp only [h]
  rintro e w' ⟨v, rfl, ho, hB⟩
  exact ⟨v, rfl, R_of_Ow ho, hB⟩
 cases h

/-! ### ratio_times: function 79 -/
def ratio_times.f (l0 : List Int) (l1 : List Int) : Option (List Int) := (nat_Mul.f l0 l1).bind fun bt225 => (some bt225.1)
set_option maxHeartbeats 8000000 in
set_option maxRecDepth 100000 in
theorem ratio_times.calls (A0 : Option Addr) (c0 : Nat) (l0 : List Int) (A1 : Option Addr) (c1 : Nat) (l1 : List Int) (r : List Int) (w : World) (hr0 : Kd.C (Kd.int .u32) w A0 l0.length l0) (hc0 : l0.length ≤ c0) (hr1 : Kd.C (Kd.int .u32) w A1 l1.length l1) (hc1 : l1.length ≤ c1) (h : ratio_times.f l0 l1 = some r) :
  Calls Try.prog 79 #[.slice A0 l0.length c0, .slice A1 l1.length c1] w fun e w' => ∃ v0_ : Value, e = .returned (v0_) ∧ Kd.R (Kd.int .u32) 62 w' w.heap.size (fun _ => True) v0_ r ∧ Below w.heap.size w w' := by
 have HR0 := Aside0.mk hr0
 have HC0 := Aside0.mk hc0
 clear hr0 hc0
 have HR1 := Aside0.mk hr1
 have HC1 := Aside0.mk hc1
 clear hr1 hc1
 have HB := aZ (Below.refl w.heap.size w)
 have H : ((nat_Mul.f l0 l1).bind fun bt225 => (some bt225.1)) = some r := h
 clear h
 replace H := Option.bind_eq_some_iff.mp H
 obtain ⟨⟨t225, t226⟩, A30, H⟩ := H
 replace H : (some t225) = some r := H
 have A3 := Aside0.mk A30
 clear A30
 obtain rfl := Option.some.inj H
 go_enter Try.func79, Try.ntmps79
 go_wp2_with (first | ((with_reducible refine gC (f := 110) rfl ?_); refine goesL_ (some 10) rfl rfl Try.func110 (by kernel_rfl) rfl #[.slice A0 l0.length c0, .slice A1 l1.length c1] rfl (by (try simp only [List.map_toArray, List.map_cons, List.map_nil]); first | done | rfl | (simp only [List.length_drop, List.length_take]; rfl)) ?_; (with_reducible refine (nat_Mul.calls _ _ l0 _ _ l1 t225 t226 _ ?side1 ?side2 ?side3 ?side4 A3.out).mono ?_); (case side1 => repeat (first | exact HR0.out | (with_reducible refine Kd.C_alloc ?_ _) | (with_reducible refine Kd.C_drewN ?_ _) | (with_reducible refine Kd.C_drew ?_))); (case side2 => exact HC0.out); (case side3 => repeat (first | exact HR1.out | (with_reducible refine Kd.C_alloc ?_ _) | (with_reducible refine Kd.C_drewN ?_ _) | (with_reducible refine Kd.C_drew ?_))); (case side4 => exact HC1.out); rintro e w4 ⟨v227, rfl, ho0, hb⟩; refine ⟨_, rfl, ?_⟩; have n0_ := aZ (Kd.R_lower ho0 (wZ (by repeat (first | (with_reducible first | exact HB.out | apply wA | apply wN | apply wD) | exact HB.out)))); have n1_ := aZ (wP (by repeat (first | (with_reducible first | exact HB.out | apply wA | apply wN | apply wD) | exact HB.out)) hb); clear HB; have HO228 := n0_; have HB := n1_; clear n0_ n1_; (try clear hb); (try clear hb2); (try clear hk); (try clear hi); (try clear ho0)))
 go_ret
 exact ⟨_, by first | rfl | (simp [errW_none, errW_some] <;> rfl) | (simp [*, errW_none, errW_some] <;> rfl), by (with_reducible repeat (first | apply Kd.R_alloc | apply Kd.R_drewN | apply Kd.R_drew)); exact HO228.out, by repeat (first | (with_reducible first | exact HB.out | apply wA | apply wN | apply wD) | exact HB.out)⟩

/-! ### nat_Add: function 106 (given) -/
def nat_Add.f (l0 : List Int) (l1 : List Int) : Option ((List Int) × Int) := if Q.okw l0 = true ∧ Q.okw l1 = true then some (Q.addC l0 l1) else none
theorem nat_Add.calls (A0 : Option Addr) (c0 : Nat) (l0 : List Int) (A1 : Option Addr) (c1 : Nat) (l1 : List Int) (r1 : List Int) (r2 : Int) (w : World) (hr0 : Kd.C (Kd.int .u32) w A0 l0.length l0) (hc0 : l0.length ≤ c0) (hr1 : Kd.C (Kd.int .u32) w A1 l1.length l1) (hc1 : l1.length ≤ c1) (h : nat_Add.f l0 l1 = some (r1, r2)) :
  Calls Try.prog 106 #[.slice A0 l0.length c0, .slice A1 l1.length c1] w fun e w' => ∃ v0_ : Value, e = .returned (.tuple #[v0_, .int .i64 r2]) ∧ Kd.R (Kd.int .u32) 62 w' w.heap.size (fun _ => True) v0_ r1 ∧ Below w.heap.size w w' := by
 unfold nat_Add.f at h
 split at h
 ·
  rename_i hk
  have h := Option.some.inj h
  obtain ⟨k0, k1⟩ := hk
  refine (Add_calls A0 A1 c0 c1 l0 l1 w (In_of_C hr0 hc0 k0) (In_of_C hr1 hc1 k1)).mono ?_
  rw [Q.add_C]; simp only [h]
  rintro e w' ⟨v, rfl, ho, hB⟩
  exact ⟨v, rfl, R_of_Ow ho, hB⟩
 cases h

/-! ### nat_Sub: function 108 (given) -/
def nat_Sub.f (l0 : List Int) (l1 : List Int) : Option ((List Int) × Int) := if Q.okw l0 = true ∧ Q.okw l1 = true then some (Q.subC l0 l1) else none
theorem nat_Sub.calls (A0 : Option Addr) (c0 : Nat) (l0 : List Int) (A1 : Option Addr) (c1 : Nat) (l1 : List Int) (r1 : List Int) (r2 : Int) (w : World) (hr0 : Kd.C (Kd.int .u32) w A0 l0.length l0) (hc0 : l0.length ≤ c0) (hr1 : Kd.C (Kd.int .u32) w A1 l1.length l1) (hc1 : l1.length ≤ c1) (h : nat_Sub.f l0 l1 = some (r1, r2)) :
  Calls Try.prog 108 #[.slice A0 l0.length c0, .slice A1 l1.length c1] w fun e w' => ∃ v0_ : Value, e = .returned (.tuple #[v0_, .int .i64 r2]) ∧ Kd.R (Kd.int .u32) 62 w' w.heap.size (fun _ => True) v0_ r1 ∧ Below w.heap.size w w' := by
 unfold nat_Sub.f at h
 split at h
 ·
  rename_i hk
  have h := Option.some.inj h
  obtain ⟨k0, k1⟩ := hk
  refine (Sub_calls A0 A1 c0 c1 l0 l1 w (In_of_C hr0 hc0 k0) (In_of_C hr1 hc1 k1)).mono ?_
  rw [Q.sub_C]; simp only [h]
  rintro e w' ⟨v, rfl, ho, hB⟩
  exact ⟨v, rfl, R_of_Ow ho, hB⟩
 cases h

end Go.Proofs.Ytgjmlbcpjjpegaa.PRB
