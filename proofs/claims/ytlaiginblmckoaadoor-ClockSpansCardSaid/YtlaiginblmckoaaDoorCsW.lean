import Derived.Test.YtlaiginblmckoaaDoorCsP
import Derived.Test.YtlaiginblmckoaaDoorCkA
/- ClockSpans, walked. Printed by wip/gen_csw.py. -/
set_option linter.unusedVariables false
set_option linter.unusedSimpArgs false
namespace Go.Proofs.YtlaiginblmckoaaDoor
open Go Go.RowKit Go.Shelf Go.Proofs.YtlaiginblmckoaaDoor.PK9 Go.Proofs.YtlaiginblmckoaaDoorW.PrintWords
attribute [local go_sem] Oper.semAt_some
theorem ticks_calls (a b : Int) (w : World) : Calls Tryd.prog 5 #[.int .i64 a, .int .i64 b] w fun e w' =>
    e = .returned (.func (.func 12) #[] #[.pointer (some ⟨w.heap.size, 0, none⟩), .pointer (some ⟨w.heap.size + 1, 0, none⟩)]) ∧ w' = (w.alloc (.cells #[.int .i64 a] 3)).alloc (.cells #[.int .i64 b] 3) := by
  go_enter Tryd.func5, Tryd.ntmps5
  go_wp2
  go_ret
  exact ⟨rfl, rfl⟩
/-- what lies below m -/
structure St (W : World) (m g5 g6 g7 g9 ga gb : Nat) (N : Nat) (Av : Option Addr) (cv : Nat) (a b stop r : Int) (Ds : List Nat) : Prop where
  b5 : GB.Blk W g5 3 [.int .i64 stop]
  b6 : GB.Blk W g6 4 [.bool false]
  b7 : GB.Blk W g7 22 [.slice Av N cv]
  b9 : GB.Blk W g9 3 [.int .i64 r]
  ba : GB.Blk W ga 3 [.int .i64 a]
  bb : GB.Blk W gb 3 [.int .i64 b]
  tt : Kd.R (Kd.int .i64) 3 W 0 (fun k => k < m) (.slice Av N cv) (from_ a N)
  ds : ∀ D ∈ Ds, W.heap[D]? = some (.deferred (some [])) ∧ D < m
  lt : g5 < m ∧ g6 < m ∧ g7 < m ∧ g9 < m ∧ ga < m ∧ gb < m
/-- between two rounds: all that lay when the loop began lies so, but for the count in block g -/
structure Mid (W0 W : World) (g : Nat) (pre : List Int) : Prop where
  same : ∀ k, k < W0.heap.size → k ≠ g → W.heap[k]? = W0.heap[k]?
  c : GB.Blk W g 3 [.int .i64 (pre.length : Int)]
  sz : W0.heap.size ≤ W.heap.size
theorem mid_own (W0 : World) (g : Nat) (hg : g < W0.heap.size) : OwnFrom W0.heap.size (fun (pre : List Int) W => Mid W0 W g pre) := fun pre W W' row hs hgr hr =>
  ⟨fun k hk hne => (hgr.block k (Nat.lt_of_lt_of_le hk hs.sz) (fun e => by have := (hr k e.symm).1; omega)).trans (hs.same k hk hne),
   hs.c.grown hgr (fun e => by have := (hr g e.symm).1; omega), Nat.le_trans hs.sz hgr.size⟩
theorem Mid.next {W0 W : World} {g : Nat} {pre : List Int} (h : Mid W0 W g pre) (x : Int) : Mid W0 (W.setCell ⟨g, 0, none⟩ (.int .i64 ((pre.length : Int) + 1))) g (pre ++ [x]) := by
  refine ⟨fun k hk hne => (Below.heap_setCell _ _ _ _ hne).trans (h.same k hk hne), ?_, by rw [World.size_setCell]; exact h.sz⟩
  have := h.c.set 0 (.int .i64 ((pre.length : Int) + 1))
  simpa using this
theorem blk_move {W W' : World} {g t : Nat} {cs : List Value} (h : GB.Blk W g t cs) (e : W'.heap[g]? = W.heap[g]?) : GB.Blk W' g t cs := e.trans h
theorem St.move {W W' : World} {m m' g5 g6 g7 g9 ga gb : Nat} {N : Nat} {Av : Option Addr} {cv : Nat} {a b stop r : Int} {Ds : List Nat} (h : St W m g5 g6 g7 g9 ga gb N Av cv a b stop r Ds) (hm : ∀ k, k < m → k < W.heap.size → W'.heap[k]? = W.heap[k]?) (hmm : m ≤ m') : St W' m' g5 g6 g7 g9 ga gb N Av cv a b stop r Ds := by
  obtain ⟨l5, l6, l7, l9, la, lb⟩ := h.lt
  exact ⟨blk_move h.b5 (hm _ l5 h.b5.lt), blk_move h.b6 (hm _ l6 h.b6.lt), blk_move h.b7 (hm _ l7 h.b7.lt), blk_move h.b9 (hm _ l9 h.b9.lt), blk_move h.ba (hm _ la h.ba.lt), blk_move h.bb (hm _ lb h.bb.lt),
    Kd.R_mono (Kd.R_step h.tt (fun k hk hl => hm k hk hl)) (fun k hk => Nat.lt_of_lt_of_le hk hmm), fun D hD => ⟨(hm D (h.ds D hD).2 (Array.getElem?_eq_some_iff.1 (h.ds D hD).1).1).trans (h.ds D hD).1, Nat.lt_of_lt_of_le (h.ds D hD).2 hmm⟩, by omega⟩

theorem apart_calls (B : Nat) (vx : Value) (xs : List Int) (vy : Value) (ys : List Int) (go : Nat) (w : World) (hx : Kd.R (Kd.int .i64) 3 w B (fun _ => True) vx xs) (hy : Kd.R (Kd.int .i64) 3 w B (fun k => some k ≠ vx.ownBlock) vy ys)
    (ho : GB.Blk w go 22 [vy]) (hB : B ≤ w.heap.size) (hl : xs.length < 100000) (hm : ys.length < 100000) :
    Calls Tryd.prog 9 #[vx, .slice (some ⟨go, 0, none⟩) 1 1] w fun e w' => e = .returned (.bool true) ∧ Below B w w' := by
  have ho' := Kd.own_of_R hx
  have ho2 := ho'
  rcases ho'.2 with ⟨rfl, _⟩ | ⟨g, cap, cur, rfl, _⟩
  · exact apartInts_nil B vy ys go w (Kd.R_mono hy (fun _ _ => trivial)) ho hB hm
  · exact apartInts_calls B g xs.length cap xs vy ys go w ho2 (Kd.R_mono hy (fun k hk e => hk (by rw [e]; rfl))) ho hB hl hm
theorem awake_is (w : World) (hL : LW w) : Calls Tryd.prog 10 #[] w fun e w' => e = .returned (.bool true) ∧ Below w.heap.size w w' :=
  slackwaterlaw09_awake.calls 300 true w hL (Ck.awake_f 300 (by omega))
set_option maxHeartbeats 8000000 in
set_option maxRecDepth 100000 in
theorem ClockSpans_walk (a b stop : Int) (w : World) (hL : LW w) (a0 : -9223372036854775808 ≤ a) (a1 : a < 9223372036854775808) (b0 : -9223372036854775808 ≤ b) (b1 : b < 9223372036854775808) (s0 : -9223372036854775808 ≤ stop) (s1 : stop < 9223372036854775808) :
    Calls Tryd.prog 3 #[.int .i64 a, .int .i64 b, .int .i64 stop] w fun e w' => e = .returned (.bool true) ∧ Below w.heap.size w w' := by
  have HT := GB.hid (ticks_f 5000 (by omega) a b)
  have HD := GB.hid (days_f 5000 (by omega) a b)
  have HR := GB.hid (refdays_f 5000 (by omega) a b)
  have HS := GB.hid (span_f 5000 (by omega) a b)
  have HLW := GB.hid hL
  have hNe : Hid (spanE a b ≠ 0 → spanN a b = 0) := fun h => if_neg h
  have hN0 : Hid (spanE a b = 0 → a + (spanN a b : Int) = b ∧ 0 ≤ a ∧ b ≤ 9223372036854775807) := fun h => by
    have := spanE_0 h
    show a + ((if spanE a b = 0 then (b - a).toNat else 0 : Nat) : Int) = b ∧ _
    rw [if_pos h]; omega
  have hNb : spanN a b ≤ 4096 := by
    unfold spanN
    split
    · rename_i h
      have := spanE_0 h
      omega
    · omega
  have hdl := days_len a b
  have HSS := GB.hid (same_self (daysL a b) hdl 100001 (by omega))
  generalize daysL a b = L at *
  generalize spanN a b = N at *
  generalize spanE a b = E at *
  clear hL
  refine (callsIn_wide (n := 5)).1 ?_
  refine callsIn_of_wp_marks Tryd.func3 rfl trivial ?_ rfl
  simp only [Tryd.ntmps3, List.size_toArray, List.length_cons, List.length_nil, Nat.reduceAdd, Nat.reduceSub, Array.replicate_succ, Array.replicate_zero, List.push_toArray, List.append_toArray, List.nil_append, List.cons_append]
  have K5 : Hid (GB.Blk ((w.alloc (.cells #[.int .i64 stop] 3)).alloc (.cells #[.bool false] 4)) w.heap.size 3 [.int .i64 stop]) := (GB.Blk.new w 3 [.int .i64 stop]).alloc _
  have K6 : Hid (GB.Blk ((w.alloc (.cells #[.int .i64 stop] 3)).alloc (.cells #[.bool false] 4)) (w.heap.size + 1) 4 [.bool false]) := by
    have h := GB.Blk.new (w.alloc (.cells #[.int .i64 stop] 3)) 4 [.bool false]
    rw [World.size_alloc] at h
    exact h
  have HB : Hid (Below w.heap.size w ((w.alloc (.cells #[.int .i64 stop] 3)).alloc (.cells #[.bool false] 4))) := GB.bla (GB.bla (GB.bl0 w) _) _
  gi_wp2
  refine ⟨trivial, ?_⟩
  refine (callsIn_wide.2 (slackwaterref09_Ticks.calls 5000 a b _ _ HT.out)).mono ?_
  rintro e w1 ⟨vt, rfl, hrt, hb⟩
  obtain ⟨Av, cv, rfl⟩ := Kd.R_slice hrt
  rw [from_len] at hrt ⊢
  have HRT := GB.hid hrt
  have K5 := GB.hid (K5.out.below hb)
  have K6 := GB.hid (K6.out.below hb)
  have HB := GB.hid (GB.bls HB.out hb)
  have z1 := hb.size
  simp only [World.size_alloc] at z1
  clear hrt hb
  have K7 : Hid (GB.Blk (w1.alloc (.cells #[.slice Av N cv] 22)) w1.heap.size 22 [.slice Av N cv]) := GB.Blk.new w1 22 [.slice Av N cv]
  gi_wp2
  refine ⟨trivial, ?_⟩
  refine (callsIn_wide.2 (ticks_calls a b _)).mono ?_
  rintro e w2 ⟨rfl, hw2⟩
  simp only [World.size_alloc]
  have hb2 : Below w1.heap.size w1 w2 := by rw [hw2]; exact GB.bla (GB.bla (GB.bla (GB.bl0 w1) _) _) _
  have KA : Hid (GB.Blk w2 (w1.heap.size + 1) 3 [.int .i64 a]) := by
    rw [hw2]
    refine GB.Blk.alloc ?_ _
    have h := GB.Blk.new (w1.alloc (.cells #[.slice Av N cv] 22)) 3 [.int .i64 a]
    rw [World.size_alloc] at h
    exact h
  have KB : Hid (GB.Blk w2 (w1.heap.size + 2) 3 [.int .i64 b]) := by
    rw [hw2]
    have h := GB.Blk.new ((w1.alloc (.cells #[.slice Av N cv] 22)).alloc (.cells #[.int .i64 a] 3)) 3 [.int .i64 b]
    simp only [World.size_alloc] at h
    exact h
  have K7 : Hid (GB.Blk w2 w1.heap.size 22 [.slice Av N cv]) := by rw [hw2]; exact (K7.out.alloc _).alloc _
  have K5 := GB.hid (K5.out.below hb2)
  have K6 := GB.hid (K6.out.below hb2)
  have HB := GB.hid (GB.bls HB.out hb2)
  have z2 : w1.heap.size + 3 ≤ w2.heap.size := by rw [hw2]; simp only [World.size_alloc]; exact Nat.le_refl _
  have HRT : Hid (Kd.R (Kd.int .i64) 3 w2 0 (fun k => k < w2.heap.size) (.slice Av N cv) (from_ a N)) := Kd.R_mono (Kd.R_bound (Kd.R_lower (Kd.R_below HRT.out hb2) (Nat.zero_le _))) (fun k hk => hk.2.2.1)
  have hwz : w.heap.size ≤ w2.heap.size := HB.out.size
  clear hw2 hb2
  have K9 : Hid (GB.Blk (w2.alloc (.cells #[.int .i64 0] 3)) w2.heap.size 3 [.int .i64 0]) := GB.Blk.new w2 3 [.int .i64 0]
  have bw3 : Below w2.heap.size w2 (w2.alloc (.cells #[.int .i64 0] 3)) := GB.bla (GB.bl0 w2) _
  have HST : Hid (St (w2.alloc (.cells #[.int .i64 0] 3)) (w2.heap.size + 1) w.heap.size (w.heap.size + 1) w1.heap.size w2.heap.size (w1.heap.size + 1) (w1.heap.size + 2) N Av cv a b stop 0 []) :=
    ⟨K5.out.below bw3, K6.out.below bw3, K7.out.below bw3, K9.out, KA.out.below bw3, KB.out.below bw3, Kd.R_mono (Kd.R_below HRT.out bw3) (fun k hk => by omega), fun D hD => (by cases hD), by omega⟩
  have HB := GB.hid (GB.bls HB.out bw3)
  clear K5 K6 K7 KA KB HRT bw3
  have c9 := K9.out.cell 0 rfl
  have hnf : ∀ ga gb : Addr, ∀ w, (binOp .eql 25 (.func (.func 12) #[] #[.pointer (some ga), .pointer (some gb)]) .nilFunc).run Tryd.prog w = .ok (.bool false) w := fun ga gb w => by kernel_rfl
  gi_wp2
  refine wpIn_loop_rounds 3 ?_
  rw [roundsIn_succ]
  gi_wp2

  obtain ⟨W0, hW0⟩ : ∃ W0, (w2.alloc (.cells #[.int .i64 0] 3)).alloc (.cells #[.int .i64 0] 3) = W0 := ⟨_, rfl⟩
  have K10 : Hid (GB.Blk W0 (w2.heap.size + 1) 3 [.int .i64 0]) := by
    rw [← hW0]
    have h := GB.Blk.new (w2.alloc (.cells #[.int .i64 0] 3)) 3 [.int .i64 0]
    rw [World.size_alloc] at h
    exact h
  have hzW0 : w2.heap.size + 1 + 1 ≤ W0.heap.size := by rw [← hW0]; simp only [World.size_alloc]; exact Nat.le_refl _
  have HS0 : Hid (St W0 (w2.heap.size + 1) w.heap.size (w.heap.size + 1) w1.heap.size w2.heap.size (w1.heap.size + 1) (w1.heap.size + 2) N Av cv a b stop 0 []) := HST.out.move (fun k hk hl => by rw [← hW0]; exact (GB.bla (GB.bl0 _) _).block k hl) (Nat.le_refl _)
  have HB0 : Hid (Below w.heap.size w W0) := by rw [← hW0]; exact GB.bla HB.out _
  rw [hW0]
  clear hW0 HST HB K9 c9

  have ca := HS0.out.ba.cell 0 rfl
  have cb := HS0.out.bb.cell 0 rfl
  have hl0 := HS0.out.lt
  refine wpIn_rangeFunc_ownF (w := W0) rfl (by decide) (gf := 12) (lb := #[.pointer (some ⟨w1.heap.size + 1, 0, none⟩), .pointer (some ⟨w1.heap.size + 2, 0, none⟩)]) rfl trivial (enters_of Tryd.func12 (by kernel_rfl) rfl)
    (ticks_stops 4 (by omega) (w1.heap.size + 1) (w1.heap.size + 2) (w2.heap.size + 1) a b E N 5000 HS.out hNe.out hN0.out (by omega) (by omega) W0 (by omega) ca cb) belowK_t (belowK_b (by omega)) (Below.refl _ _) (fun _ => rfl)
    (fun pre W => Mid W0 W (w2.heap.size + 1) pre ∧ Below w.heap.size w W ∧ (1 ≤ stop → (pre.length : Int) < stop))
    (fun c pre W => ¬ pre <+: from_ a N ∨ (c = .exit 2 ∧ ((pre.length : Int) = stop ∧ 1 ≤ stop) ∧ Mid W0 W (w2.heap.size + 1) pre ∧ Below w.heap.size w W))
    (OwnFrom.and (mid_own W0 (w2.heap.size + 1) (by omega)) (OwnFrom.and (ownFrom_below (Nat.le_refl _) (by have := HB0.out.size; omega)) (ownFrom_pure _ _)))
    (fun c pre W W' row hs hg hr => by
      rcases hs with h | ⟨h1, h2, h3, h4⟩
      · exact .inl h
      · exact .inr ⟨h1, h2, mid_own W0 (w2.heap.size + 1) (by omega) pre W W' row h3 hg hr, ownFrom_below (Nat.le_refl _) (by have := HB0.out.size; omega) pre W W' row h4 hg hr⟩)
    ⟨⟨fun _ _ _ => rfl, K10.out, Nat.le_refl _⟩, HB0.out, fun h => by simp; omega⟩ ?a10 ?assign0 ?body0 ?done0 ?stop0
  case assign0 =>
    intro l x W K hK
    gi_wp2
    exact hK
  case body0 =>
    rintro l pre x W ⟨hM, hBW, hst⟩ hlt
    have hS := HS0.out.move (W' := W) (m' := w2.heap.size + 1) (fun k hk _ => hM.same k (by omega) (by omega)) (Nat.le_refl _)
    obtain ⟨gt, cap, hv, _⟩ := Kd.R_form hS.tt (by rw [from_len]; omega)
    injection hv with hv1 hv2 hv3
    subst hv1 hv3
    clear hv2
    have hR := hS.tt
    have hR' : Kd.R (Kd.int .i64) 3 W 0 (fun k => k < w2.heap.size + 1) (.slice (some ⟨gt, 0, none⟩) (from_ a N).length cv) (from_ a N) := by rw [from_len]; exact hR
    have cT := (Kd.R_cell (0 : Int) hR' (pre.length : Int) (by omega) (by rw [from_len]; omega)).1
    rw [Int.toNat_natCast, show rdOf (0 : Int) (from_ a N) ((pre.length : Nat) : Int) = a + (pre.length : Int) from from_getD a N pre.length hlt] at cT
    have c5 := hS.b5.cell 0 rfl
    have c6 := hS.b6.cell 0 rfl
    have f6 := hS.b6.free 0
    have c7 := hS.b7.cell 0 rfl
    have c9 := hS.b9.cell 0 rfl
    have c10 := hM.c.cell 0 rfl
    have f10 := hM.c.free 0
    have hlN : (pre.length : Int) < (N : Int) := by omega
    have h0N : (0 : Int) ≤ (pre.length : Int) := by omega
    have HM := GB.hid hM
    have HBW := GB.hid hBW
    have HST := GB.hid hst
    clear hM hBW hst hS hR hR'
    have hb1 : wrap64 ((pre.length : Int) + 1) = (pre.length : Int) + 1 := wrap64_is (by omega) (by omega)
    have HW1 := GB.hid hb1
    clear hb1
    by_cases hx : x = a + (pre.length : Int)
    · have hxb : (x != a + (pre.length : Int)) = false := by rw [hx]; simp
      have HX := GB.hid hx
      clear hx
      by_cases hs : (pre.length : Int) + 1 = stop
      · have hsb : ((pre.length : Int) + 1 == stop) = true := beq_iff_eq.2 hs
        have hsb2 : (stop == stop) = true := beq_self_eq_true stop
        have HSS := GB.hid hs
        clear hs
        gi_wp2
        exact ⟨KeepsOthers.setCell _ _ _, .inr ⟨rfl, ⟨by simp; exact HSS.out, by have := HSS.out; omega⟩, HM.out.next x, HBW.out.setCell (p := ⟨w2.heap.size + 1, 0, none⟩) (show w.heap.size ≤ w2.heap.size + 1 by omega) _⟩⟩
      · have hsb : ((pre.length : Int) + 1 == stop) = false := beq_eq_false_iff_ne.2 hs
        have HSS := GB.hid hs
        clear hs
        gi_wp2
        exact ⟨KeepsOthers.setCell _ _ _, (Below.refl _ W).setCell (p := ⟨w2.heap.size + 1, 0, none⟩) (Nat.le_refl _) _, HM.out.next x, HBW.out.setCell (p := ⟨w2.heap.size + 1, 0, none⟩) (show w.heap.size ≤ w2.heap.size + 1 by omega) _, fun h => by
          have h1 := HST.out h
          have h2 := HSS.out
          simp
          omega⟩
    · have hxb : (x != a + (pre.length : Int)) = true := bne_iff_ne.2 hx
      have HX := GB.hid hx
      clear hx
      gi_wp2
      exact ⟨KeepsOthers.setCell _ _ _, .inl fun hp => HX.out (pre_snoc hp)⟩
  case done0 =>
    rintro D xs V hD rfl ⟨hM, hBW, hst⟩ hK
    have hS := HS0.out.move (W' := V) (m' := W0.heap.size) (fun k hk _ => hM.same k (by omega) (by omega)) (by omega)
    have c5 := hS.b5.cell 0 rfl
    have c7 := hS.b7.cell 0 rfl
    have c9 := hS.b9.cell 0 rfl
    have f9 := hS.b9.free 0
    have c10 := hM.c.cell 0 rfl
    have HSW := GB.hid hS
    have HBW := GB.hid hBW
    have HKD := GB.hid hK
    have hD' := GB.hid hD
    clear hK hD hS hM hBW
    rw [from_len] at c10 hst
    by_cases h1 : 1 ≤ stop
    · have hst' := hst h1
      have g1 : decide (0 < stop) = true := decide_eq_true (by omega)
      have g2 : decide (stop < 1) = false := decide_eq_false (by omega)
      have g3 : min stop (N : Int) = (N : Int) := by omega
      have HST' := GB.hid hst'
      clear hst hst'
      gi_wp2
      clear g1 g2 g3
      have K9 : Hid (GB.Blk (V.alloc (.cells #[.int .i64 1] 3)) V.heap.size 3 [.int .i64 1]) := GB.Blk.new V 3 [.int .i64 1]
      clear c5 c7 c9 f9 c10
      have c9 := K9.out.cell 0 rfl
      rw [roundsIn_succ]
      gi_wp2
      obtain ⟨W1, hW1⟩ : ∃ W1, (V.alloc (.cells #[.int .i64 1] 3)).alloc (.cells #[.int .i64 0] 3) = W1 := ⟨_, rfl⟩
      have K10 : Hid (GB.Blk W1 (V.heap.size + 1) 3 [.int .i64 0]) := by
        rw [← hW1]
        have h := GB.Blk.new (V.alloc (.cells #[.int .i64 1] 3)) 3 [.int .i64 0]
        rw [World.size_alloc] at h
        exact h
      have hzW1 : V.heap.size + 1 + 1 ≤ W1.heap.size := by rw [← hW1]; simp only [World.size_alloc]; exact Nat.le_refl _
      have hbl : Below V.heap.size V W1 := by rw [← hW1]; exact GB.bla (GB.bla (GB.bl0 V) _) _
      have hDl : D < V.heap.size := (Array.getElem?_eq_some_iff.1 HKD.out).1
      have hW0W : W0.heap.size ≤ V.heap.size := by have := hD'.out; omega
      have hwW : w.heap.size ≤ V.heap.size := HBW.out.size
      have HS1 : Hid (St W1 (V.heap.size + 1) w.heap.size (w.heap.size + 1) w1.heap.size V.heap.size (w1.heap.size + 1) (w1.heap.size + 2) N Av cv a b stop 1 [D]) := by
        have h := HSW.out.move (W' := W1) (m' := V.heap.size + 1) (fun k hk hl => hbl.block k hl) (by omega)
        refine ⟨h.b5, h.b6, h.b7, ?_, h.ba, h.bb, h.tt, ?_, by have := h.lt; omega⟩
        · rw [← hW1]; exact K9.out.alloc _
        · intro D' hD'
          obtain rfl : D' = D := by simpa using hD'
          exact ⟨(hbl.block _ hDl).trans HKD.out, by omega⟩
      have HB1 : Hid (Below w.heap.size w W1) := GB.bls HBW.out hbl
      rw [hW1]
      clear hW1 hbl K9 c9 HSW HBW HKD

      have ca := HS1.out.ba.cell 0 rfl
      have cb := HS1.out.bb.cell 0 rfl
      have hl1 := HS1.out.lt
      refine wpIn_rangeFunc_ownF (w := W1) rfl (by decide) (gf := 12) (lb := #[.pointer (some ⟨w1.heap.size + 1, 0, none⟩), .pointer (some ⟨w1.heap.size + 2, 0, none⟩)]) rfl trivial (enters_of Tryd.func12 (by kernel_rfl) rfl)
        (ticks_stops 4 (by omega) (w1.heap.size + 1) (w1.heap.size + 2) (V.heap.size + 1) a b E N 5000 HS.out hNe.out hN0.out (by omega) (by omega) W1 (by omega) ca cb) belowK_t (belowK_b (by omega)) (Below.refl _ _) (fun _ => rfl)
        (fun pre W => Mid W1 W (V.heap.size + 1) pre ∧ Below w.heap.size w W ∧ True)
        (fun c pre W => ¬ pre <+: from_ a N ∨ (c = .exit 2 ∧ False ∧ Mid W1 W (V.heap.size + 1) pre ∧ Below w.heap.size w W))
        (OwnFrom.and (mid_own W1 (V.heap.size + 1) (by omega)) (OwnFrom.and (ownFrom_below (Nat.le_refl _) (by have := HB1.out.size; omega)) (ownFrom_pure _ _)))
        (fun c pre W W' row hs hg hr => by
          rcases hs with h | ⟨h1, h2, h3, h4⟩
          · exact .inl h
          · exact .inr ⟨h1, h2, mid_own W1 (V.heap.size + 1) (by omega) pre W W' row h3 hg hr, ownFrom_below (Nat.le_refl _) (by have := HB1.out.size; omega) pre W W' row h4 hg hr⟩)
        ⟨⟨fun _ _ _ => rfl, K10.out, Nat.le_refl _⟩, HB1.out, trivial⟩ ?a1p0 ?assign1_p0 ?body1_p0 ?done1_p0 ?stop1_p0
      case assign1_p0 =>
        intro l x W K hK
        gi_wp2
        exact hK
      case body1_p0 =>
        rintro l pre x W ⟨hM, hBW, hst⟩ hlt
        have hS := HS1.out.move (W' := W) (m' := V.heap.size + 1) (fun k hk _ => hM.same k (by omega) (by omega)) (Nat.le_refl _)
        obtain ⟨gt, cap, hv, _⟩ := Kd.R_form hS.tt (by rw [from_len]; omega)
        injection hv with hv1 hv2 hv3
        subst hv1 hv3
        clear hv2
        have hR := hS.tt
        have hR' : Kd.R (Kd.int .i64) 3 W 0 (fun k => k < V.heap.size + 1) (.slice (some ⟨gt, 0, none⟩) (from_ a N).length cv) (from_ a N) := by rw [from_len]; exact hR
        have cT := (Kd.R_cell (0 : Int) hR' (pre.length : Int) (by omega) (by rw [from_len]; omega)).1
        rw [Int.toNat_natCast, show rdOf (0 : Int) (from_ a N) ((pre.length : Nat) : Int) = a + (pre.length : Int) from from_getD a N pre.length hlt] at cT
        have c5 := hS.b5.cell 0 rfl
        have c6 := hS.b6.cell 0 rfl
        have f6 := hS.b6.free 0
        have c7 := hS.b7.cell 0 rfl
        have c9 := hS.b9.cell 0 rfl
        have c10 := hM.c.cell 0 rfl
        have f10 := hM.c.free 0
        have hlN : (pre.length : Int) < (N : Int) := by omega
        have h0N : (0 : Int) ≤ (pre.length : Int) := by omega
        have HM := GB.hid hM
        have HBW := GB.hid hBW
        have HST := GB.hid hst
        clear hM hBW hst hS hR hR'
        have hb1 : wrap64 ((pre.length : Int) + 1) = (pre.length : Int) + 1 := wrap64_is (by omega) (by omega)
        have HW1 := GB.hid hb1
        clear hb1
        by_cases hx : x = a + (pre.length : Int)
        · have hxb : (x != a + (pre.length : Int)) = false := by rw [hx]; simp
          have HX := GB.hid hx
          clear hx
          gi_wp2
          exact ⟨KeepsOthers.setCell _ _ _, (Below.refl _ W).setCell (p := ⟨V.heap.size + 1, 0, none⟩) (Nat.le_refl _) _, HM.out.next x, HBW.out.setCell (p := ⟨V.heap.size + 1, 0, none⟩) (show w.heap.size ≤ V.heap.size + 1 by omega) _, trivial⟩
        · have hxb : (x != a + (pre.length : Int)) = true := bne_iff_ne.2 hx
          have HX := GB.hid hx
          clear hx
          gi_wp2
          exact ⟨KeepsOthers.setCell _ _ _, .inl fun hp => HX.out (pre_snoc hp)⟩
      case done1_p0 =>
        rintro D2 xs W3 hD rfl ⟨hM, hBW, _⟩ hK
        have hS := HS1.out.move (W' := W3) (m' := W1.heap.size) (fun k hk _ => hM.same k (by omega) (by omega)) (by omega)
        have c7 := hS.b7.cell 0 rfl
        have c9 := hS.b9.cell 0 rfl
        have f9 := hS.b9.free 0
        have c10 := hM.c.cell 0 rfl
        rw [from_len] at c10
        have HSW := GB.hid hS
        have HBW := GB.hid hBW
        have HKD2 := GB.hid hK
        have hD2' := GB.hid hD
        clear hK hD hS hM hBW
        gi_wp2
        have K9 : Hid (GB.Blk (W3.alloc (.cells #[.int .i64 2] 3)) W3.heap.size 3 [.int .i64 2]) := GB.Blk.new W3 3 [.int .i64 2]
        clear c7 c9 f9 c10
        have c9 := K9.out.cell 0 rfl
        rw [roundsIn_succ]
        gi_wp2
        clear c9 K9
        refine ⟨trivial, ?_⟩
        refine (callsIn_wide.2 (clock_Days.calls 5000 a b _ _ HD.out)).mono ?_
        rintro e w4 ⟨vx, rfl, hRx, hb4⟩
        obtain ⟨Ax, cx, rfl, hcx, hCx⟩ := Kd.R_reads hRx
        have HRX := GB.hid hRx
        have HB4 := GB.hid (GB.bls (GB.bla HBW.out _) hb4)
        have zb4 : Hid (W3.heap.size + 1 ≤ w4.heap.size) := by have h := hb4.size; rw [World.size_alloc] at h; exact h
        have hbx := GB.hid (GB.bls (GB.bla (GB.bl0 W3) _) hb4)
        clear hRx hb4 hCx
        gi_wp2
        refine ⟨trivial, ?_⟩
        refine (callsIn_wide.2 (clock_Days.calls 5000 a b _ _ HD.out)).mono ?_
        rintro e w5 ⟨vy, rfl, hRy, hb5⟩
        obtain ⟨Ay, cy, rfl, hcy, hCy⟩ := Kd.R_reads hRy
        have HRY := GB.hid hRy
        have HB5 := GB.hid (GB.bls HB4.out hb5)
        have hby := GB.hid hb5
        clear hRy hb5 hCy
        gi_wp2
        refine ⟨trivial, ?_⟩
        refine (callsIn_wide.2 (slackwaterref09_Days.calls 5000 a b _ _ HR.out)).mono ?_
        rintro e w6 ⟨vd, rfl, hRd, hb6⟩
        obtain ⟨Ad, cd, rfl, hcd, hCd⟩ := Kd.R_reads hRd
        have HCD := GB.hid hCd
        have HCD' := GB.hid hcd
        have HCX' := GB.hid hcx
        have HCY' := GB.hid hcy
        have HCX := GB.hid (Kd.R_reads' (Kd.R_below (Kd.R_below HRX.out hby.out) hb6)).2.2
        have HCY := GB.hid (Kd.R_reads' (Kd.R_below HRY.out hb6)).2.2
        have hbd := GB.hid hb6
        clear hRd hb6 hCd hcx hcy hcd
        gi_wp2
        refine ⟨trivial, ?_⟩
        refine (callsIn_wide.2 (slackwaterkit_SameInts.calls 100001 Ax cx L Ad cd L true _ HCX.out HCX'.out HCD.out HCD'.out HSS.out)).mono ?_
        rintro e w7 ⟨rfl, hd7⟩
        have hb7 := GB.hid hd7.below
        clear hd7
        gi_wp2
        refine ⟨trivial, ?_⟩
        refine (callsIn_wide.2 (slackwaterkit_SameInts.calls 100001 Ay cy L Ad cd L true _ (Kd.C_below HCY.out hb7.out) HCY'.out (Kd.C_below HCD.out hb7.out) HCD'.out HSS.out)).mono ?_
        rintro e w8 ⟨rfl, hd8⟩
        have hb8 := GB.hid (GB.bls hbd.out (GB.bls hb7.out hd8.below) : Below w5.heap.size w5 w8)
        clear hd8 hbd hb7
        have KO : Hid (GB.Blk (w8.alloc (.cells #[.slice Ay L.length cy] 22)) w8.heap.size 22 [.slice Ay L.length cy]) := GB.Blk.new w8 22 [.slice Ay L.length cy]
        gi_wp2
        refine ⟨trivial, ?_⟩
        have zb := zb4.out
        have hx9 : Kd.R (Kd.int .i64) 3 (w8.alloc (.cells #[.slice Ay L.length cy] 22)) (W3.heap.size + 1) (fun _ => True) (.slice Ax L.length cx) L := Kd.R_lower (Kd.R_alloc (Kd.R_below (Kd.R_below HRX.out hby.out) hb8.out) _) (by rw [World.size_alloc]; exact Nat.le_refl _)
        have hy9 : Kd.R (Kd.int .i64) 3 (w8.alloc (.cells #[.slice Ay L.length cy] 22)) (W3.heap.size + 1) (fun k => some k ≠ (Value.slice Ax L.length cx).ownBlock) (.slice Ay L.length cy) L :=
          Kd.R_alloc (Kd.R_below (Kd.R_lower (Kd.R_mono (Kd.R_new' HRY.out (Kd.R_lt HRX.out)) (fun k hk => hk.2)) zb) hb8.out) _
        have z58 : W3.heap.size + 1 ≤ (w8.alloc (.cells #[.slice Ay L.length cy] 22)).heap.size := by rw [World.size_alloc]; have h1 := hby.out.size; have h2 := hb8.out.size; exact Nat.le_trans zb (Nat.le_trans h1 (Nat.le_trans h2 (Nat.le_succ _)))
        refine (callsIn_wide.2 (apart_calls (W3.heap.size + 1) _ L _ L w8.heap.size _ hx9 hy9 KO.out z58 hdl hdl)).mono ?_
        rintro e w9 ⟨rfl, hb9⟩
        have hz3 : w.heap.size ≤ W3.heap.size := HBW.out.size
        have HB9 := GB.hid ((GB.bla (GB.bls HB5.out hb8.out) (.cells #[.slice Ay L.length cy] 22)).trans (hb9.mono (Nat.le_succ_of_le hz3)))
        have hk9 : Hid (∀ k, k < W3.heap.size → w9.heap[k]? = W3.heap[k]?) := fun k hk =>
          (hb9.block k (Nat.lt_succ_of_lt hk)).trans ((Below.heap_alloc w8 _ k (Nat.lt_of_lt_of_le hk (by have h1 := hby.out.size; have h2 := hb8.out.size; omega))).trans ((hb8.out.block k (by have h1 := hby.out.size; omega)).trans ((hby.out.block k (by omega)).trans (hbx.out.block k hk))))
        have z9 : W3.heap.size ≤ w9.heap.size := by have h1 := hb9.size; omega
        clear hx9 hy9 hb9 KO HRX HRY hb8 hby hbx z58 zb
        gi_wp2
        refine ⟨trivial, ?_⟩
        refine (callsIn_wide.2 (awake_is w9 (HLW.out.below HB9.out))).mono ?_
        rintro e wa ⟨rfl, hba⟩
        have HBA := GB.hid (GB.bls HB9.out hba)
        have hka : Hid (∀ k, k < W3.heap.size → wa.heap[k]? = W3.heap[k]?) := fun k hk => (hba.block k (by omega)).trans (hk9.out k hk)
        have HSA := GB.hid (HSW.out.move (W' := wa) (m' := W1.heap.size) (fun k hk hl => hka.out k hl) (Nat.le_refl _))
        have c6 := HSA.out.b6.cell 0 rfl
        have f6 := HSA.out.b6.free 0
        have hD2l : D2 < W3.heap.size := (Array.getElem?_eq_some_iff.1 HKD2.out).1
        have kd2 : wa.heap[D2]? = some (.deferred (some [])) := (hka.out D2 hD2l).trans HKD2.out
        have KD2 := GB.hid kd2
        have KD1 := GB.hid (HSA.out.ds D (by simp)).1
        clear hba HB9 hk9 hka kd2
        gi_wp2
        have n2 : D2 ≠ w.heap.size + 1 := fun e => by
          have h1 := KD2.out
          have h2 := HSA.out.b6
          rw [e] at h1
          unfold GB.Blk at h2
          rw [h1] at h2
          cases h2
        have n1 : D ≠ w.heap.size + 1 := fun e => by
          have h1 := KD1.out
          have h2 := HSA.out.b6
          rw [e] at h1
          unfold GB.Blk at h2
          rw [h1] at h2
          cases h2
        have n12 : D ≠ D2 := by have := hD2'.out; omega
        have k2 : (wa.setCell ⟨w.heap.size + 1, 0, none⟩ (.bool true)).heap[D2]? = some (.deferred (some [])) := (Below.heap_setCell _ _ _ _ n2).trans KD2.out
        have k1 : ((wa.setCell ⟨w.heap.size + 1, 0, none⟩ (.bool true)).putObj D2 (.deferred none)).heap[D]? = some (.deferred (some [])) := (World.putObj_heap_other n12).trans ((Below.heap_setCell _ _ _ _ n1).trans KD1.out)
        refine ⟨by simp, .inl ⟨_, _, rfl, run_takeDeferred k2, ?_⟩⟩
        refine ⟨by simp, .inl ⟨_, _, rfl, run_takeDeferred k1, ?_⟩⟩
        have hc : (((wa.setCell ⟨w.heap.size + 1, 0, none⟩ (.bool true)).putObj D2 (.deferred none)).putObj D (.deferred none)).cell? ⟨w.heap.size + 1, 0, none⟩ = some (.bool true) :=
          (World.cell?_of_block (World.putObj_heap_other (fun e => n1 e.symm))).trans ((World.cell?_of_block (World.putObj_heap_other (fun e => n2 e.symm))).trans ((HSA.out.b6.set 0 (.bool true)).cell 0 rfl))
        refine ⟨.bool true, ?_, rfl, ?_⟩
        · simp [results, Tryd.f3, go_sem, hc]
        · exact ((HBA.out.setCell (p := ⟨w.heap.size + 1, 0, none⟩) (Nat.le_succ _) _).trans (belowK_b (w := w) (Nat.le_refl _) _ D2 _ _ (by have := hD2'.out; omega) k2 rfl rfl)).trans (belowK_b (w := w) (Nat.le_refl _) _ D _ _ (by have := hD'.out; omega) k1 rfl rfl)

      case stop1_p0 =>
        rintro D2 c pre W3 hD hp (hx | ⟨_, h, _⟩) hK
        · exact absurd hp hx
        · exact h.elim

    · have g1 : decide (0 < stop) = false := decide_eq_false (by omega)
      have g2 : decide (stop < 1) = true := decide_eq_true (by omega)
      clear hst
      gi_wp2
      clear g1 g2
      have K9 : Hid (GB.Blk (V.alloc (.cells #[.int .i64 1] 3)) V.heap.size 3 [.int .i64 1]) := GB.Blk.new V 3 [.int .i64 1]
      clear c5 c7 c9 f9 c10
      have c9 := K9.out.cell 0 rfl
      rw [roundsIn_succ]
      gi_wp2
      obtain ⟨W1, hW1⟩ : ∃ W1, (V.alloc (.cells #[.int .i64 1] 3)).alloc (.cells #[.int .i64 0] 3) = W1 := ⟨_, rfl⟩
      have K10 : Hid (GB.Blk W1 (V.heap.size + 1) 3 [.int .i64 0]) := by
        rw [← hW1]
        have h := GB.Blk.new (V.alloc (.cells #[.int .i64 1] 3)) 3 [.int .i64 0]
        rw [World.size_alloc] at h
        exact h
      have hzW1 : V.heap.size + 1 + 1 ≤ W1.heap.size := by rw [← hW1]; simp only [World.size_alloc]; exact Nat.le_refl _
      have hbl : Below V.heap.size V W1 := by rw [← hW1]; exact GB.bla (GB.bla (GB.bl0 V) _) _
      have hDl : D < V.heap.size := (Array.getElem?_eq_some_iff.1 HKD.out).1
      have hW0W : W0.heap.size ≤ V.heap.size := by have := hD'.out; omega
      have hwW : w.heap.size ≤ V.heap.size := HBW.out.size
      have HS1 : Hid (St W1 (V.heap.size + 1) w.heap.size (w.heap.size + 1) w1.heap.size V.heap.size (w1.heap.size + 1) (w1.heap.size + 2) N Av cv a b stop 1 [D]) := by
        have h := HSW.out.move (W' := W1) (m' := V.heap.size + 1) (fun k hk hl => hbl.block k hl) (by omega)
        refine ⟨h.b5, h.b6, h.b7, ?_, h.ba, h.bb, h.tt, ?_, by have := h.lt; omega⟩
        · rw [← hW1]; exact K9.out.alloc _
        · intro D' hD'
          obtain rfl : D' = D := by simpa using hD'
          exact ⟨(hbl.block _ hDl).trans HKD.out, by omega⟩
      have HB1 : Hid (Below w.heap.size w W1) := GB.bls HBW.out hbl
      rw [hW1]
      clear hW1 hbl K9 c9 HSW HBW HKD

      have ca := HS1.out.ba.cell 0 rfl
      have cb := HS1.out.bb.cell 0 rfl
      have hl1 := HS1.out.lt
      refine wpIn_rangeFunc_ownF (w := W1) rfl (by decide) (gf := 12) (lb := #[.pointer (some ⟨w1.heap.size + 1, 0, none⟩), .pointer (some ⟨w1.heap.size + 2, 0, none⟩)]) rfl trivial (enters_of Tryd.func12 (by kernel_rfl) rfl)
        (ticks_stops 4 (by omega) (w1.heap.size + 1) (w1.heap.size + 2) (V.heap.size + 1) a b E N 5000 HS.out hNe.out hN0.out (by omega) (by omega) W1 (by omega) ca cb) belowK_t (belowK_b (by omega)) (Below.refl _ _) (fun _ => rfl)
        (fun pre W => Mid W1 W (V.heap.size + 1) pre ∧ Below w.heap.size w W ∧ True)
        (fun c pre W => ¬ pre <+: from_ a N ∨ (c = .exit 2 ∧ False ∧ Mid W1 W (V.heap.size + 1) pre ∧ Below w.heap.size w W))
        (OwnFrom.and (mid_own W1 (V.heap.size + 1) (by omega)) (OwnFrom.and (ownFrom_below (Nat.le_refl _) (by have := HB1.out.size; omega)) (ownFrom_pure _ _)))
        (fun c pre W W' row hs hg hr => by
          rcases hs with h | ⟨h1, h2, h3, h4⟩
          · exact .inl h
          · exact .inr ⟨h1, h2, mid_own W1 (V.heap.size + 1) (by omega) pre W W' row h3 hg hr, ownFrom_below (Nat.le_refl _) (by have := HB1.out.size; omega) pre W W' row h4 hg hr⟩)
        ⟨⟨fun _ _ _ => rfl, K10.out, Nat.le_refl _⟩, HB1.out, trivial⟩ ?a1p1 ?assign1_p1 ?body1_p1 ?done1_p1 ?stop1_p1
      case assign1_p1 =>
        intro l x W K hK
        gi_wp2
        exact hK
      case body1_p1 =>
        rintro l pre x W ⟨hM, hBW, hst⟩ hlt
        have hS := HS1.out.move (W' := W) (m' := V.heap.size + 1) (fun k hk _ => hM.same k (by omega) (by omega)) (Nat.le_refl _)
        obtain ⟨gt, cap, hv, _⟩ := Kd.R_form hS.tt (by rw [from_len]; omega)
        injection hv with hv1 hv2 hv3
        subst hv1 hv3
        clear hv2
        have hR := hS.tt
        have hR' : Kd.R (Kd.int .i64) 3 W 0 (fun k => k < V.heap.size + 1) (.slice (some ⟨gt, 0, none⟩) (from_ a N).length cv) (from_ a N) := by rw [from_len]; exact hR
        have cT := (Kd.R_cell (0 : Int) hR' (pre.length : Int) (by omega) (by rw [from_len]; omega)).1
        rw [Int.toNat_natCast, show rdOf (0 : Int) (from_ a N) ((pre.length : Nat) : Int) = a + (pre.length : Int) from from_getD a N pre.length hlt] at cT
        have c5 := hS.b5.cell 0 rfl
        have c6 := hS.b6.cell 0 rfl
        have f6 := hS.b6.free 0
        have c7 := hS.b7.cell 0 rfl
        have c9 := hS.b9.cell 0 rfl
        have c10 := hM.c.cell 0 rfl
        have f10 := hM.c.free 0
        have hlN : (pre.length : Int) < (N : Int) := by omega
        have h0N : (0 : Int) ≤ (pre.length : Int) := by omega
        have HM := GB.hid hM
        have HBW := GB.hid hBW
        have HST := GB.hid hst
        clear hM hBW hst hS hR hR'
        have hb1 : wrap64 ((pre.length : Int) + 1) = (pre.length : Int) + 1 := wrap64_is (by omega) (by omega)
        have HW1 := GB.hid hb1
        clear hb1
        by_cases hx : x = a + (pre.length : Int)
        · have hxb : (x != a + (pre.length : Int)) = false := by rw [hx]; simp
          have HX := GB.hid hx
          clear hx
          gi_wp2
          exact ⟨KeepsOthers.setCell _ _ _, (Below.refl _ W).setCell (p := ⟨V.heap.size + 1, 0, none⟩) (Nat.le_refl _) _, HM.out.next x, HBW.out.setCell (p := ⟨V.heap.size + 1, 0, none⟩) (show w.heap.size ≤ V.heap.size + 1 by omega) _, trivial⟩
        · have hxb : (x != a + (pre.length : Int)) = true := bne_iff_ne.2 hx
          have HX := GB.hid hx
          clear hx
          gi_wp2
          exact ⟨KeepsOthers.setCell _ _ _, .inl fun hp => HX.out (pre_snoc hp)⟩
      case done1_p1 =>
        rintro D2 xs W3 hD rfl ⟨hM, hBW, _⟩ hK
        have hS := HS1.out.move (W' := W3) (m' := W1.heap.size) (fun k hk _ => hM.same k (by omega) (by omega)) (by omega)
        have c7 := hS.b7.cell 0 rfl
        have c9 := hS.b9.cell 0 rfl
        have f9 := hS.b9.free 0
        have c10 := hM.c.cell 0 rfl
        rw [from_len] at c10
        have HSW := GB.hid hS
        have HBW := GB.hid hBW
        have HKD2 := GB.hid hK
        have hD2' := GB.hid hD
        clear hK hD hS hM hBW
        gi_wp2
        have K9 : Hid (GB.Blk (W3.alloc (.cells #[.int .i64 2] 3)) W3.heap.size 3 [.int .i64 2]) := GB.Blk.new W3 3 [.int .i64 2]
        clear c7 c9 f9 c10
        have c9 := K9.out.cell 0 rfl
        rw [roundsIn_succ]
        gi_wp2
        clear c9 K9
        refine ⟨trivial, ?_⟩
        refine (callsIn_wide.2 (clock_Days.calls 5000 a b _ _ HD.out)).mono ?_
        rintro e w4 ⟨vx, rfl, hRx, hb4⟩
        obtain ⟨Ax, cx, rfl, hcx, hCx⟩ := Kd.R_reads hRx
        have HRX := GB.hid hRx
        have HB4 := GB.hid (GB.bls (GB.bla HBW.out _) hb4)
        have zb4 : Hid (W3.heap.size + 1 ≤ w4.heap.size) := by have h := hb4.size; rw [World.size_alloc] at h; exact h
        have hbx := GB.hid (GB.bls (GB.bla (GB.bl0 W3) _) hb4)
        clear hRx hb4 hCx
        gi_wp2
        refine ⟨trivial, ?_⟩
        refine (callsIn_wide.2 (clock_Days.calls 5000 a b _ _ HD.out)).mono ?_
        rintro e w5 ⟨vy, rfl, hRy, hb5⟩
        obtain ⟨Ay, cy, rfl, hcy, hCy⟩ := Kd.R_reads hRy
        have HRY := GB.hid hRy
        have HB5 := GB.hid (GB.bls HB4.out hb5)
        have hby := GB.hid hb5
        clear hRy hb5 hCy
        gi_wp2
        refine ⟨trivial, ?_⟩
        refine (callsIn_wide.2 (slackwaterref09_Days.calls 5000 a b _ _ HR.out)).mono ?_
        rintro e w6 ⟨vd, rfl, hRd, hb6⟩
        obtain ⟨Ad, cd, rfl, hcd, hCd⟩ := Kd.R_reads hRd
        have HCD := GB.hid hCd
        have HCD' := GB.hid hcd
        have HCX' := GB.hid hcx
        have HCY' := GB.hid hcy
        have HCX := GB.hid (Kd.R_reads' (Kd.R_below (Kd.R_below HRX.out hby.out) hb6)).2.2
        have HCY := GB.hid (Kd.R_reads' (Kd.R_below HRY.out hb6)).2.2
        have hbd := GB.hid hb6
        clear hRd hb6 hCd hcx hcy hcd
        gi_wp2
        refine ⟨trivial, ?_⟩
        refine (callsIn_wide.2 (slackwaterkit_SameInts.calls 100001 Ax cx L Ad cd L true _ HCX.out HCX'.out HCD.out HCD'.out HSS.out)).mono ?_
        rintro e w7 ⟨rfl, hd7⟩
        have hb7 := GB.hid hd7.below
        clear hd7
        gi_wp2
        refine ⟨trivial, ?_⟩
        refine (callsIn_wide.2 (slackwaterkit_SameInts.calls 100001 Ay cy L Ad cd L true _ (Kd.C_below HCY.out hb7.out) HCY'.out (Kd.C_below HCD.out hb7.out) HCD'.out HSS.out)).mono ?_
        rintro e w8 ⟨rfl, hd8⟩
        have hb8 := GB.hid (GB.bls hbd.out (GB.bls hb7.out hd8.below) : Below w5.heap.size w5 w8)
        clear hd8 hbd hb7
        have KO : Hid (GB.Blk (w8.alloc (.cells #[.slice Ay L.length cy] 22)) w8.heap.size 22 [.slice Ay L.length cy]) := GB.Blk.new w8 22 [.slice Ay L.length cy]
        gi_wp2
        refine ⟨trivial, ?_⟩
        have zb := zb4.out
        have hx9 : Kd.R (Kd.int .i64) 3 (w8.alloc (.cells #[.slice Ay L.length cy] 22)) (W3.heap.size + 1) (fun _ => True) (.slice Ax L.length cx) L := Kd.R_lower (Kd.R_alloc (Kd.R_below (Kd.R_below HRX.out hby.out) hb8.out) _) (by rw [World.size_alloc]; exact Nat.le_refl _)
        have hy9 : Kd.R (Kd.int .i64) 3 (w8.alloc (.cells #[.slice Ay L.length cy] 22)) (W3.heap.size + 1) (fun k => some k ≠ (Value.slice Ax L.length cx).ownBlock) (.slice Ay L.length cy) L :=
          Kd.R_alloc (Kd.R_below (Kd.R_lower (Kd.R_mono (Kd.R_new' HRY.out (Kd.R_lt HRX.out)) (fun k hk => hk.2)) zb) hb8.out) _
        have z58 : W3.heap.size + 1 ≤ (w8.alloc (.cells #[.slice Ay L.length cy] 22)).heap.size := by rw [World.size_alloc]; have h1 := hby.out.size; have h2 := hb8.out.size; exact Nat.le_trans zb (Nat.le_trans h1 (Nat.le_trans h2 (Nat.le_succ _)))
        refine (callsIn_wide.2 (apart_calls (W3.heap.size + 1) _ L _ L w8.heap.size _ hx9 hy9 KO.out z58 hdl hdl)).mono ?_
        rintro e w9 ⟨rfl, hb9⟩
        have hz3 : w.heap.size ≤ W3.heap.size := HBW.out.size
        have HB9 := GB.hid ((GB.bla (GB.bls HB5.out hb8.out) (.cells #[.slice Ay L.length cy] 22)).trans (hb9.mono (Nat.le_succ_of_le hz3)))
        have hk9 : Hid (∀ k, k < W3.heap.size → w9.heap[k]? = W3.heap[k]?) := fun k hk =>
          (hb9.block k (Nat.lt_succ_of_lt hk)).trans ((Below.heap_alloc w8 _ k (Nat.lt_of_lt_of_le hk (by have h1 := hby.out.size; have h2 := hb8.out.size; omega))).trans ((hb8.out.block k (by have h1 := hby.out.size; omega)).trans ((hby.out.block k (by omega)).trans (hbx.out.block k hk))))
        have z9 : W3.heap.size ≤ w9.heap.size := by have h1 := hb9.size; omega
        clear hx9 hy9 hb9 KO HRX HRY hb8 hby hbx z58 zb
        gi_wp2
        refine ⟨trivial, ?_⟩
        refine (callsIn_wide.2 (awake_is w9 (HLW.out.below HB9.out))).mono ?_
        rintro e wa ⟨rfl, hba⟩
        have HBA := GB.hid (GB.bls HB9.out hba)
        have hka : Hid (∀ k, k < W3.heap.size → wa.heap[k]? = W3.heap[k]?) := fun k hk => (hba.block k (by omega)).trans (hk9.out k hk)
        have HSA := GB.hid (HSW.out.move (W' := wa) (m' := W1.heap.size) (fun k hk hl => hka.out k hl) (Nat.le_refl _))
        have c6 := HSA.out.b6.cell 0 rfl
        have f6 := HSA.out.b6.free 0
        have hD2l : D2 < W3.heap.size := (Array.getElem?_eq_some_iff.1 HKD2.out).1
        have kd2 : wa.heap[D2]? = some (.deferred (some [])) := (hka.out D2 hD2l).trans HKD2.out
        have KD2 := GB.hid kd2
        have KD1 := GB.hid (HSA.out.ds D (by simp)).1
        clear hba HB9 hk9 hka kd2
        gi_wp2
        have n2 : D2 ≠ w.heap.size + 1 := fun e => by
          have h1 := KD2.out
          have h2 := HSA.out.b6
          rw [e] at h1
          unfold GB.Blk at h2
          rw [h1] at h2
          cases h2
        have n1 : D ≠ w.heap.size + 1 := fun e => by
          have h1 := KD1.out
          have h2 := HSA.out.b6
          rw [e] at h1
          unfold GB.Blk at h2
          rw [h1] at h2
          cases h2
        have n12 : D ≠ D2 := by have := hD2'.out; omega
        have k2 : (wa.setCell ⟨w.heap.size + 1, 0, none⟩ (.bool true)).heap[D2]? = some (.deferred (some [])) := (Below.heap_setCell _ _ _ _ n2).trans KD2.out
        have k1 : ((wa.setCell ⟨w.heap.size + 1, 0, none⟩ (.bool true)).putObj D2 (.deferred none)).heap[D]? = some (.deferred (some [])) := (World.putObj_heap_other n12).trans ((Below.heap_setCell _ _ _ _ n1).trans KD1.out)
        refine ⟨by simp, .inl ⟨_, _, rfl, run_takeDeferred k2, ?_⟩⟩
        refine ⟨by simp, .inl ⟨_, _, rfl, run_takeDeferred k1, ?_⟩⟩
        have hc : (((wa.setCell ⟨w.heap.size + 1, 0, none⟩ (.bool true)).putObj D2 (.deferred none)).putObj D (.deferred none)).cell? ⟨w.heap.size + 1, 0, none⟩ = some (.bool true) :=
          (World.cell?_of_block (World.putObj_heap_other (fun e => n1 e.symm))).trans ((World.cell?_of_block (World.putObj_heap_other (fun e => n2 e.symm))).trans ((HSA.out.b6.set 0 (.bool true)).cell 0 rfl))
        refine ⟨.bool true, ?_, rfl, ?_⟩
        · simp [results, Tryd.f3, go_sem, hc]
        · exact ((HBA.out.setCell (p := ⟨w.heap.size + 1, 0, none⟩) (Nat.le_succ _) _).trans (belowK_b (w := w) (Nat.le_refl _) _ D2 _ _ (by have := hD2'.out; omega) k2 rfl rfl)).trans (belowK_b (w := w) (Nat.le_refl _) _ D _ _ (by have := hD'.out; omega) k1 rfl rfl)

      case stop1_p1 =>
        rintro D2 c pre W3 hD hp (hx | ⟨_, h, _⟩) hK
        · exact absurd hp hx
        · exact h.elim


  case stop0 =>
    rintro D c pre V hD hp (hx | ⟨rfl, ⟨hl, hs1⟩, hM, hBW⟩) hK
    · exact absurd hp hx
    · have hpl : pre.length ≤ N := by have := hp.length_le; rw [from_len] at this; exact this
      have hS := HS0.out.move (W' := V) (m' := W0.heap.size) (fun k hk _ => hM.same k (by omega) (by omega)) (by omega)
      have c5 := hS.b5.cell 0 rfl
      have c7 := hS.b7.cell 0 rfl
      have c9 := hS.b9.cell 0 rfl
      have f9 := hS.b9.free 0
      have c10 := hM.c.cell 0 rfl
      have HSW := GB.hid hS
      have HBW := GB.hid hBW
      have HKD := GB.hid hK
      have hD' := GB.hid hD
      clear hK hD hS hM hBW

      rw [hl] at c10
      have g1 : decide (0 < stop) = true := decide_eq_true (by omega)
      have g2 : decide (stop < 1) = false := decide_eq_false (by omega)
      have g3 : min stop (N : Int) = stop := by omega
      clear hl hp
      gi_wp2
      clear g1 g2 g3
      have K9 : Hid (GB.Blk (V.alloc (.cells #[.int .i64 1] 3)) V.heap.size 3 [.int .i64 1]) := GB.Blk.new V 3 [.int .i64 1]
      clear c5 c7 c9 f9 c10
      have c9 := K9.out.cell 0 rfl
      rw [roundsIn_succ]
      gi_wp2
      obtain ⟨W1, hW1⟩ : ∃ W1, (V.alloc (.cells #[.int .i64 1] 3)).alloc (.cells #[.int .i64 0] 3) = W1 := ⟨_, rfl⟩
      have K10 : Hid (GB.Blk W1 (V.heap.size + 1) 3 [.int .i64 0]) := by
        rw [← hW1]
        have h := GB.Blk.new (V.alloc (.cells #[.int .i64 1] 3)) 3 [.int .i64 0]
        rw [World.size_alloc] at h
        exact h
      have hzW1 : V.heap.size + 1 + 1 ≤ W1.heap.size := by rw [← hW1]; simp only [World.size_alloc]; exact Nat.le_refl _
      have hbl : Below V.heap.size V W1 := by rw [← hW1]; exact GB.bla (GB.bla (GB.bl0 V) _) _
      have hDl : D < V.heap.size := (Array.getElem?_eq_some_iff.1 HKD.out).1
      have hW0W : W0.heap.size ≤ V.heap.size := by have := hD'.out; omega
      have hwW : w.heap.size ≤ V.heap.size := HBW.out.size
      have HS1 : Hid (St W1 (V.heap.size + 1) w.heap.size (w.heap.size + 1) w1.heap.size V.heap.size (w1.heap.size + 1) (w1.heap.size + 2) N Av cv a b stop 1 [D]) := by
        have h := HSW.out.move (W' := W1) (m' := V.heap.size + 1) (fun k hk hl => hbl.block k hl) (by omega)
        refine ⟨h.b5, h.b6, h.b7, ?_, h.ba, h.bb, h.tt, ?_, by have := h.lt; omega⟩
        · rw [← hW1]; exact K9.out.alloc _
        · intro D' hD'
          obtain rfl : D' = D := by simpa using hD'
          exact ⟨(hbl.block _ hDl).trans HKD.out, by omega⟩
      have HB1 : Hid (Below w.heap.size w W1) := GB.bls HBW.out hbl
      rw [hW1]
      clear hW1 hbl K9 c9 HSW HBW HKD

      have ca := HS1.out.ba.cell 0 rfl
      have cb := HS1.out.bb.cell 0 rfl
      have hl1 := HS1.out.lt
      refine wpIn_rangeFunc_ownF (w := W1) rfl (by decide) (gf := 12) (lb := #[.pointer (some ⟨w1.heap.size + 1, 0, none⟩), .pointer (some ⟨w1.heap.size + 2, 0, none⟩)]) rfl trivial (enters_of Tryd.func12 (by kernel_rfl) rfl)
        (ticks_stops 4 (by omega) (w1.heap.size + 1) (w1.heap.size + 2) (V.heap.size + 1) a b E N 5000 HS.out hNe.out hN0.out (by omega) (by omega) W1 (by omega) ca cb) belowK_t (belowK_b (by omega)) (Below.refl _ _) (fun _ => rfl)
        (fun pre W => Mid W1 W (V.heap.size + 1) pre ∧ Below w.heap.size w W ∧ True)
        (fun c pre W => ¬ pre <+: from_ a N ∨ (c = .exit 2 ∧ False ∧ Mid W1 W (V.heap.size + 1) pre ∧ Below w.heap.size w W))
        (OwnFrom.and (mid_own W1 (V.heap.size + 1) (by omega)) (OwnFrom.and (ownFrom_below (Nat.le_refl _) (by have := HB1.out.size; omega)) (ownFrom_pure _ _)))
        (fun c pre W W' row hs hg hr => by
          rcases hs with h | ⟨h1, h2, h3, h4⟩
          · exact .inl h
          · exact .inr ⟨h1, h2, mid_own W1 (V.heap.size + 1) (by omega) pre W W' row h3 hg hr, ownFrom_below (Nat.le_refl _) (by have := HB1.out.size; omega) pre W W' row h4 hg hr⟩)
        ⟨⟨fun _ _ _ => rfl, K10.out, Nat.le_refl _⟩, HB1.out, trivial⟩ ?a1q0 ?assign1_q0 ?body1_q0 ?done1_q0 ?stop1_q0
      case assign1_q0 =>
        intro l x W K hK
        gi_wp2
        exact hK
      case body1_q0 =>
        rintro l pre x W ⟨hM, hBW, hst⟩ hlt
        have hS := HS1.out.move (W' := W) (m' := V.heap.size + 1) (fun k hk _ => hM.same k (by omega) (by omega)) (Nat.le_refl _)
        obtain ⟨gt, cap, hv, _⟩ := Kd.R_form hS.tt (by rw [from_len]; omega)
        injection hv with hv1 hv2 hv3
        subst hv1 hv3
        clear hv2
        have hR := hS.tt
        have hR' : Kd.R (Kd.int .i64) 3 W 0 (fun k => k < V.heap.size + 1) (.slice (some ⟨gt, 0, none⟩) (from_ a N).length cv) (from_ a N) := by rw [from_len]; exact hR
        have cT := (Kd.R_cell (0 : Int) hR' (pre.length : Int) (by omega) (by rw [from_len]; omega)).1
        rw [Int.toNat_natCast, show rdOf (0 : Int) (from_ a N) ((pre.length : Nat) : Int) = a + (pre.length : Int) from from_getD a N pre.length hlt] at cT
        have c5 := hS.b5.cell 0 rfl
        have c6 := hS.b6.cell 0 rfl
        have f6 := hS.b6.free 0
        have c7 := hS.b7.cell 0 rfl
        have c9 := hS.b9.cell 0 rfl
        have c10 := hM.c.cell 0 rfl
        have f10 := hM.c.free 0
        have hlN : (pre.length : Int) < (N : Int) := by omega
        have h0N : (0 : Int) ≤ (pre.length : Int) := by omega
        have HM := GB.hid hM
        have HBW := GB.hid hBW
        have HST := GB.hid hst
        clear hM hBW hst hS hR hR'
        have hb1 : wrap64 ((pre.length : Int) + 1) = (pre.length : Int) + 1 := wrap64_is (by omega) (by omega)
        have HW1 := GB.hid hb1
        clear hb1
        by_cases hx : x = a + (pre.length : Int)
        · have hxb : (x != a + (pre.length : Int)) = false := by rw [hx]; simp
          have HX := GB.hid hx
          clear hx
          gi_wp2
          exact ⟨KeepsOthers.setCell _ _ _, (Below.refl _ W).setCell (p := ⟨V.heap.size + 1, 0, none⟩) (Nat.le_refl _) _, HM.out.next x, HBW.out.setCell (p := ⟨V.heap.size + 1, 0, none⟩) (show w.heap.size ≤ V.heap.size + 1 by omega) _, trivial⟩
        · have hxb : (x != a + (pre.length : Int)) = true := bne_iff_ne.2 hx
          have HX := GB.hid hx
          clear hx
          gi_wp2
          exact ⟨KeepsOthers.setCell _ _ _, .inl fun hp => HX.out (pre_snoc hp)⟩
      case done1_q0 =>
        rintro D2 xs W3 hD rfl ⟨hM, hBW, _⟩ hK
        have hS := HS1.out.move (W' := W3) (m' := W1.heap.size) (fun k hk _ => hM.same k (by omega) (by omega)) (by omega)
        have c7 := hS.b7.cell 0 rfl
        have c9 := hS.b9.cell 0 rfl
        have f9 := hS.b9.free 0
        have c10 := hM.c.cell 0 rfl
        rw [from_len] at c10
        have HSW := GB.hid hS
        have HBW := GB.hid hBW
        have HKD2 := GB.hid hK
        have hD2' := GB.hid hD
        clear hK hD hS hM hBW
        gi_wp2
        have K9 : Hid (GB.Blk (W3.alloc (.cells #[.int .i64 2] 3)) W3.heap.size 3 [.int .i64 2]) := GB.Blk.new W3 3 [.int .i64 2]
        clear c7 c9 f9 c10
        have c9 := K9.out.cell 0 rfl
        rw [roundsIn_succ]
        gi_wp2
        clear c9 K9
        refine ⟨trivial, ?_⟩
        refine (callsIn_wide.2 (clock_Days.calls 5000 a b _ _ HD.out)).mono ?_
        rintro e w4 ⟨vx, rfl, hRx, hb4⟩
        obtain ⟨Ax, cx, rfl, hcx, hCx⟩ := Kd.R_reads hRx
        have HRX := GB.hid hRx
        have HB4 := GB.hid (GB.bls (GB.bla HBW.out _) hb4)
        have zb4 : Hid (W3.heap.size + 1 ≤ w4.heap.size) := by have h := hb4.size; rw [World.size_alloc] at h; exact h
        have hbx := GB.hid (GB.bls (GB.bla (GB.bl0 W3) _) hb4)
        clear hRx hb4 hCx
        gi_wp2
        refine ⟨trivial, ?_⟩
        refine (callsIn_wide.2 (clock_Days.calls 5000 a b _ _ HD.out)).mono ?_
        rintro e w5 ⟨vy, rfl, hRy, hb5⟩
        obtain ⟨Ay, cy, rfl, hcy, hCy⟩ := Kd.R_reads hRy
        have HRY := GB.hid hRy
        have HB5 := GB.hid (GB.bls HB4.out hb5)
        have hby := GB.hid hb5
        clear hRy hb5 hCy
        gi_wp2
        refine ⟨trivial, ?_⟩
        refine (callsIn_wide.2 (slackwaterref09_Days.calls 5000 a b _ _ HR.out)).mono ?_
        rintro e w6 ⟨vd, rfl, hRd, hb6⟩
        obtain ⟨Ad, cd, rfl, hcd, hCd⟩ := Kd.R_reads hRd
        have HCD := GB.hid hCd
        have HCD' := GB.hid hcd
        have HCX' := GB.hid hcx
        have HCY' := GB.hid hcy
        have HCX := GB.hid (Kd.R_reads' (Kd.R_below (Kd.R_below HRX.out hby.out) hb6)).2.2
        have HCY := GB.hid (Kd.R_reads' (Kd.R_below HRY.out hb6)).2.2
        have hbd := GB.hid hb6
        clear hRd hb6 hCd hcx hcy hcd
        gi_wp2
        refine ⟨trivial, ?_⟩
        refine (callsIn_wide.2 (slackwaterkit_SameInts.calls 100001 Ax cx L Ad cd L true _ HCX.out HCX'.out HCD.out HCD'.out HSS.out)).mono ?_
        rintro e w7 ⟨rfl, hd7⟩
        have hb7 := GB.hid hd7.below
        clear hd7
        gi_wp2
        refine ⟨trivial, ?_⟩
        refine (callsIn_wide.2 (slackwaterkit_SameInts.calls 100001 Ay cy L Ad cd L true _ (Kd.C_below HCY.out hb7.out) HCY'.out (Kd.C_below HCD.out hb7.out) HCD'.out HSS.out)).mono ?_
        rintro e w8 ⟨rfl, hd8⟩
        have hb8 := GB.hid (GB.bls hbd.out (GB.bls hb7.out hd8.below) : Below w5.heap.size w5 w8)
        clear hd8 hbd hb7
        have KO : Hid (GB.Blk (w8.alloc (.cells #[.slice Ay L.length cy] 22)) w8.heap.size 22 [.slice Ay L.length cy]) := GB.Blk.new w8 22 [.slice Ay L.length cy]
        gi_wp2
        refine ⟨trivial, ?_⟩
        have zb := zb4.out
        have hx9 : Kd.R (Kd.int .i64) 3 (w8.alloc (.cells #[.slice Ay L.length cy] 22)) (W3.heap.size + 1) (fun _ => True) (.slice Ax L.length cx) L := Kd.R_lower (Kd.R_alloc (Kd.R_below (Kd.R_below HRX.out hby.out) hb8.out) _) (by rw [World.size_alloc]; exact Nat.le_refl _)
        have hy9 : Kd.R (Kd.int .i64) 3 (w8.alloc (.cells #[.slice Ay L.length cy] 22)) (W3.heap.size + 1) (fun k => some k ≠ (Value.slice Ax L.length cx).ownBlock) (.slice Ay L.length cy) L :=
          Kd.R_alloc (Kd.R_below (Kd.R_lower (Kd.R_mono (Kd.R_new' HRY.out (Kd.R_lt HRX.out)) (fun k hk => hk.2)) zb) hb8.out) _
        have z58 : W3.heap.size + 1 ≤ (w8.alloc (.cells #[.slice Ay L.length cy] 22)).heap.size := by rw [World.size_alloc]; have h1 := hby.out.size; have h2 := hb8.out.size; exact Nat.le_trans zb (Nat.le_trans h1 (Nat.le_trans h2 (Nat.le_succ _)))
        refine (callsIn_wide.2 (apart_calls (W3.heap.size + 1) _ L _ L w8.heap.size _ hx9 hy9 KO.out z58 hdl hdl)).mono ?_
        rintro e w9 ⟨rfl, hb9⟩
        have hz3 : w.heap.size ≤ W3.heap.size := HBW.out.size
        have HB9 := GB.hid ((GB.bla (GB.bls HB5.out hb8.out) (.cells #[.slice Ay L.length cy] 22)).trans (hb9.mono (Nat.le_succ_of_le hz3)))
        have hk9 : Hid (∀ k, k < W3.heap.size → w9.heap[k]? = W3.heap[k]?) := fun k hk =>
          (hb9.block k (Nat.lt_succ_of_lt hk)).trans ((Below.heap_alloc w8 _ k (Nat.lt_of_lt_of_le hk (by have h1 := hby.out.size; have h2 := hb8.out.size; omega))).trans ((hb8.out.block k (by have h1 := hby.out.size; omega)).trans ((hby.out.block k (by omega)).trans (hbx.out.block k hk))))
        have z9 : W3.heap.size ≤ w9.heap.size := by have h1 := hb9.size; omega
        clear hx9 hy9 hb9 KO HRX HRY hb8 hby hbx z58 zb
        gi_wp2
        refine ⟨trivial, ?_⟩
        refine (callsIn_wide.2 (awake_is w9 (HLW.out.below HB9.out))).mono ?_
        rintro e wa ⟨rfl, hba⟩
        have HBA := GB.hid (GB.bls HB9.out hba)
        have hka : Hid (∀ k, k < W3.heap.size → wa.heap[k]? = W3.heap[k]?) := fun k hk => (hba.block k (by omega)).trans (hk9.out k hk)
        have HSA := GB.hid (HSW.out.move (W' := wa) (m' := W1.heap.size) (fun k hk hl => hka.out k hl) (Nat.le_refl _))
        have c6 := HSA.out.b6.cell 0 rfl
        have f6 := HSA.out.b6.free 0
        have hD2l : D2 < W3.heap.size := (Array.getElem?_eq_some_iff.1 HKD2.out).1
        have kd2 : wa.heap[D2]? = some (.deferred (some [])) := (hka.out D2 hD2l).trans HKD2.out
        have KD2 := GB.hid kd2
        have KD1 := GB.hid (HSA.out.ds D (by simp)).1
        clear hba HB9 hk9 hka kd2
        gi_wp2
        have n2 : D2 ≠ w.heap.size + 1 := fun e => by
          have h1 := KD2.out
          have h2 := HSA.out.b6
          rw [e] at h1
          unfold GB.Blk at h2
          rw [h1] at h2
          cases h2
        have n1 : D ≠ w.heap.size + 1 := fun e => by
          have h1 := KD1.out
          have h2 := HSA.out.b6
          rw [e] at h1
          unfold GB.Blk at h2
          rw [h1] at h2
          cases h2
        have n12 : D ≠ D2 := by have := hD2'.out; omega
        have k2 : (wa.setCell ⟨w.heap.size + 1, 0, none⟩ (.bool true)).heap[D2]? = some (.deferred (some [])) := (Below.heap_setCell _ _ _ _ n2).trans KD2.out
        have k1 : ((wa.setCell ⟨w.heap.size + 1, 0, none⟩ (.bool true)).putObj D2 (.deferred none)).heap[D]? = some (.deferred (some [])) := (World.putObj_heap_other n12).trans ((Below.heap_setCell _ _ _ _ n1).trans KD1.out)
        refine ⟨by simp, .inl ⟨_, _, rfl, run_takeDeferred k2, ?_⟩⟩
        refine ⟨by simp, .inl ⟨_, _, rfl, run_takeDeferred k1, ?_⟩⟩
        have hc : (((wa.setCell ⟨w.heap.size + 1, 0, none⟩ (.bool true)).putObj D2 (.deferred none)).putObj D (.deferred none)).cell? ⟨w.heap.size + 1, 0, none⟩ = some (.bool true) :=
          (World.cell?_of_block (World.putObj_heap_other (fun e => n1 e.symm))).trans ((World.cell?_of_block (World.putObj_heap_other (fun e => n2 e.symm))).trans ((HSA.out.b6.set 0 (.bool true)).cell 0 rfl))
        refine ⟨.bool true, ?_, rfl, ?_⟩
        · simp [results, Tryd.f3, go_sem, hc]
        · exact ((HBA.out.setCell (p := ⟨w.heap.size + 1, 0, none⟩) (Nat.le_succ _) _).trans (belowK_b (w := w) (Nat.le_refl _) _ D2 _ _ (by have := hD2'.out; omega) k2 rfl rfl)).trans (belowK_b (w := w) (Nat.le_refl _) _ D _ _ (by have := hD'.out; omega) k1 rfl rfl)

      case stop1_q0 =>
        rintro D2 c pre W3 hD hp (hx | ⟨_, h, _⟩) hK
        · exact absurd hp hx
        · exact h.elim


end Go.Proofs.YtlaiginblmckoaaDoor
