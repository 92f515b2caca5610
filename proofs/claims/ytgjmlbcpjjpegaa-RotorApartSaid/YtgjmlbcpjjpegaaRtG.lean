import Derived.Test.YtgjmlbcpjjpegaaGBox
import Derived.Test.YtgjmlbcpjjpegaaProg
import Derived.WalkKit
import Derived.LoopN
import Derived.LoopTactic
import Derived.Deep.RegionHeld3
/- gauss: a way behind the looks at numbers: (*way).check, asked, told as 'Check' and 'Same' use them. -/
set_option linter.unusedVariables false
set_option linter.unusedSimpArgs false
namespace Go.Proofs.Ytgjmlbcpjjpegaa
open Go Go.RowKit
/-- the first error of a look at two -/
def chk3 (e0 c1 c2 : Int) : Int := if e0 = 0 then (if c1 = 0 then c2 else c1) else e0
/-- a fraction's value -/
def rv (n : Bool) (A B : Option Addr) (la ca lb cb : Nat) : List Value := [.bool n, .slice A la ca, .slice B lb cb]
set_option maxHeartbeats 2000000 in
set_option maxRecDepth 100000 in
theorem check_no (w0 w : World) (gw gs : Nat) (e0 : Int) (n1 n2 : Bool) (A B C D : Option Addr) (la ca lb cb lc cc ld cd : Nat) (he : e0 ≠ 0)
    (hB : Below w0.heap.size w0 w) (KW : GB.Blk w gw 87 [.int .i64 e0]) (KS : GB.Blk w gs 32 [.bool n1, .slice A la ca, .slice B lb cb, .bool n2, .slice C lc cc, .slice D ld cd]) :
    Calls Try.prog 95 #[.pointer (some ⟨gw, 0, none⟩), .slice (some ⟨gs, 0, none⟩) 2 2] w fun e w' => e = .returned (.tuple #[]) ∧ Below w0.heap.size w0 w' ∧ GB.Blk w' gw 87 [.int .i64 e0] ∧ (∀ g t cs, GB.Blk w g t cs → GB.Blk w' g t cs) := by
  have hb : (e0 == 0) = false := beq_eq_false_iff_ne.2 he
  have H := GB.hid hB
  have K := GB.hid KW
  have S := GB.hid KS
  clear hB KW KS he
  have K2 := GB.hid (K.out.alloc (.cells #[.bool n1, .slice A la ca, .slice B lb cb] 32))
  have S2 := GB.hid (S.out.alloc (.cells #[.bool n1, .slice A la ca, .slice B lb cb] 32))
  have K3 := GB.hid (K2.out.alloc (.cells #[.bool n2, .slice C lc cc, .slice D ld cd] 32))
  have s0 := S.out.cell 0 rfl
  have s1 := S.out.cell 1 rfl
  have s2 := S.out.cell 2 rfl
  have k0 := K2.out.cell 0 rfl
  go_enter Try.func95, Try.ntmps95
  go_wp2
  refine wp_loop_rounds 3 ?_
  rw [rounds_succ]
  go_wp2
  rw [rounds_succ]
  clear k0 s0 s1 s2
  have k0 := K3.out.cell 0 rfl
  have s3 := S2.out.cell 3 rfl
  have s4 := S2.out.cell 4 rfl
  have s5 := S2.out.cell 5 rfl
  go_wp2
  rw [rounds_succ]
  go_wp2
  go_end0
  exact ⟨rfl, by repeat (first | exact H.out | apply GB.bla), K3.out, fun g t cs h => (h.alloc _).alloc _⟩
set_option maxHeartbeats 2000000 in
set_option maxRecDepth 100000 in
theorem check_one (w0 w : World) (gw gs : Nat) (c1 c2 : Int) (n1 n2 : Bool) (A B C D : Option Addr) (la ca lb cb lc cc ld cd : Nat) (he : c1 ≠ 0) (hgw : w0.heap.size ≤ gw) (hne : gw ≠ gs)
    (hB : Below w0.heap.size w0 w) (KW : GB.Blk w gw 87 [.int .i64 0]) (KS : GB.Blk w gs 32 [.bool n1, .slice A la ca, .slice B lb cb, .bool n2, .slice C lc cc, .slice D ld cd])
    (H1 : ∀ w1, Below w0.heap.size w0 w1 → Calls Try.prog 78 #[.agg #[.bool n1, .slice A la ca, .slice B lb cb]] w1 fun e w' => e = .returned (.int .i64 c1) ∧ Below w1.heap.size w1 w')
    (H2 : ∀ w1, Below w0.heap.size w0 w1 → Calls Try.prog 78 #[.agg #[.bool n2, .slice C lc cc, .slice D ld cd]] w1 fun e w' => e = .returned (.int .i64 c2) ∧ Below w1.heap.size w1 w') :
    Calls Try.prog 95 #[.pointer (some ⟨gw, 0, none⟩), .slice (some ⟨gs, 0, none⟩) 2 2] w fun e w' => e = .returned (.tuple #[]) ∧ Below w0.heap.size w0 w' ∧ GB.Blk w' gw 87 [.int .i64 c1] ∧ (∀ g t cs, g ≠ gw → GB.Blk w g t cs → GB.Blk w' g t cs) := by
  have hb1 : (c1 == 0) = false := beq_eq_false_iff_ne.2 he
  have H := GB.hid hB
  have K := GB.hid KW
  have S := GB.hid KS
  have HH1 := GB.hid H1
  have HH2 := GB.hid H2
  have N1 := GB.hid (GB.Blk.new w 32 [.bool n1, .slice A la ca, .slice B lb cb])
  have P1 : Hid (∀ g t cs, g ≠ gw → GB.Blk w g t cs → GB.Blk (w.alloc (.cells #[.bool n1, .slice A la ca, .slice B lb cb] 32)) g t cs) := fun g t cs _ h => h.alloc _
  clear hB KW KS H1 H2
  have K2 := GB.hid (K.out.alloc (.cells #[.bool n1, .slice A la ca, .slice B lb cb] 32))
  have S2 := GB.hid (S.out.alloc (.cells #[.bool n1, .slice A la ca, .slice B lb cb] 32))
  have HB := GB.hid (GB.bla H.out (.cells #[.bool n1, .slice A la ca, .slice B lb cb] 32))
  have s0 := S.out.cell 0 rfl
  have s1 := S.out.cell 1 rfl
  have s2 := S.out.cell 2 rfl
  have k0 := K2.out.cell 0 rfl
  have b0 := N1.out.cell 0 rfl
  have b1 := N1.out.cell 1 rfl
  have b2 := N1.out.cell 2 rfl
  go_enter Try.func95, Try.ntmps95
  go_wp2
  refine wp_loop_rounds 3 ?_
  rw [rounds_succ]
  go_wp2_with fail
  refine (HH1.out _ HB.out).mono ?_
  rintro e1 w1 ⟨rfl, hb⟩
  clear s0 s1 s2 k0 b0 b1 b2
  have K3 := GB.hid (K2.out.below hb)
  have S3 := GB.hid (S2.out.below hb)
  have HB := GB.hid (GB.bls HB.out hb)
  have P2 : Hid (∀ g t cs, g ≠ gw → GB.Blk w g t cs → GB.Blk (w1.setCell ⟨gw, 0, none⟩ (.int .i64 c1)) g t cs) := fun g t cs hg h => ((P1.out g t cs hg h).below hb).far hg.symm _ _
  clear hb P1
  have f0 := K3.out.free 0
  have g0 := K3.out.cell 0 rfl
  go_wp2
  rw [rounds_succ]
  clear f0 g0
  have K4 : Hid (GB.Blk (w1.setCell ⟨gw, 0, none⟩ (.int .i64 c1)) gw 87 [.int .i64 c1]) := K3.out.set 0 (.int .i64 c1)
  have S4 : Hid (GB.Blk (w1.setCell ⟨gw, 0, none⟩ (.int .i64 c1)) gs 32 [.bool n1, .slice A la ca, .slice B lb cb, .bool n2, .slice C lc cc, .slice D ld cd]) := S3.out.far hne 0 (.int .i64 c1)
  have HB := GB.hid (GB.blset HB.out hgw 0 (.int .i64 c1))
  clear K2 K3 S2 S3
  have N2 := GB.hid (GB.Blk.new (w1.setCell ⟨gw, 0, none⟩ (.int .i64 c1)) 32 [.bool n2, .slice C lc cc, .slice D ld cd])
  have K5 := GB.hid (K4.out.alloc (.cells #[.bool n2, .slice C lc cc, .slice D ld cd] 32))
  have s3 := S4.out.cell 3 rfl
  have s4 := S4.out.cell 4 rfl
  have s5 := S4.out.cell 5 rfl
  have k0 := K5.out.cell 0 rfl
  go_wp2
  rw [rounds_succ]
  go_wp2
  go_end0
  exact ⟨rfl, by repeat (first | exact HB.out | apply GB.bla), K5.out, fun g t cs hg h => (P2.out g t cs hg h).alloc _⟩
set_option maxHeartbeats 2000000 in
set_option maxRecDepth 100000 in
theorem check_two (w0 w : World) (gw gs : Nat) (c1 c2 : Int) (n1 n2 : Bool) (A B C D : Option Addr) (la ca lb cb lc cc ld cd : Nat) (he : c1 = 0) (hgw : w0.heap.size ≤ gw) (hne : gw ≠ gs)
    (hB : Below w0.heap.size w0 w) (KW : GB.Blk w gw 87 [.int .i64 0]) (KS : GB.Blk w gs 32 [.bool n1, .slice A la ca, .slice B lb cb, .bool n2, .slice C lc cc, .slice D ld cd])
    (H1 : ∀ w1, Below w0.heap.size w0 w1 → Calls Try.prog 78 #[.agg #[.bool n1, .slice A la ca, .slice B lb cb]] w1 fun e w' => e = .returned (.int .i64 c1) ∧ Below w1.heap.size w1 w')
    (H2 : ∀ w1, Below w0.heap.size w0 w1 → Calls Try.prog 78 #[.agg #[.bool n2, .slice C lc cc, .slice D ld cd]] w1 fun e w' => e = .returned (.int .i64 c2) ∧ Below w1.heap.size w1 w') :
    Calls Try.prog 95 #[.pointer (some ⟨gw, 0, none⟩), .slice (some ⟨gs, 0, none⟩) 2 2] w fun e w' => e = .returned (.tuple #[]) ∧ Below w0.heap.size w0 w' ∧ GB.Blk w' gw 87 [.int .i64 c2] ∧ (∀ g t cs, g ≠ gw → GB.Blk w g t cs → GB.Blk w' g t cs) := by
  subst he
  have H := GB.hid hB
  have K := GB.hid KW
  have S := GB.hid KS
  have HH1 := GB.hid H1
  have HH2 := GB.hid H2
  have N1 := GB.hid (GB.Blk.new w 32 [.bool n1, .slice A la ca, .slice B lb cb])
  have P1 : Hid (∀ g t cs, g ≠ gw → GB.Blk w g t cs → GB.Blk (w.alloc (.cells #[.bool n1, .slice A la ca, .slice B lb cb] 32)) g t cs) := fun g t cs _ h => h.alloc _
  clear hB KW KS H1 H2
  have K2 := GB.hid (K.out.alloc (.cells #[.bool n1, .slice A la ca, .slice B lb cb] 32))
  have S2 := GB.hid (S.out.alloc (.cells #[.bool n1, .slice A la ca, .slice B lb cb] 32))
  have HB := GB.hid (GB.bla H.out (.cells #[.bool n1, .slice A la ca, .slice B lb cb] 32))
  have s0 := S.out.cell 0 rfl
  have s1 := S.out.cell 1 rfl
  have s2 := S.out.cell 2 rfl
  have k0 := K2.out.cell 0 rfl
  have b0 := N1.out.cell 0 rfl
  have b1 := N1.out.cell 1 rfl
  have b2 := N1.out.cell 2 rfl
  go_enter Try.func95, Try.ntmps95
  go_wp2
  refine wp_loop_rounds 3 ?_
  rw [rounds_succ]
  go_wp2_with fail
  refine (HH1.out _ HB.out).mono ?_
  rintro e1 w1 ⟨rfl, hb⟩
  clear s0 s1 s2 k0 b0 b1 b2
  have K3 := GB.hid (K2.out.below hb)
  have S3 := GB.hid (S2.out.below hb)
  have HB := GB.hid (GB.bls HB.out hb)
  have P2 : Hid (∀ g t cs, g ≠ gw → GB.Blk w g t cs → GB.Blk (w1.setCell ⟨gw, 0, none⟩ (.int .i64 0)) g t cs) := fun g t cs hg h => ((P1.out g t cs hg h).below hb).far hg.symm _ _
  clear hb P1
  have f0 := K3.out.free 0
  have g0 := K3.out.cell 0 rfl
  go_wp2
  rw [rounds_succ]
  clear f0 g0
  have K4 : Hid (GB.Blk (w1.setCell ⟨gw, 0, none⟩ (.int .i64 0)) gw 87 [.int .i64 0]) := K3.out.set 0 (.int .i64 0)
  have S4 : Hid (GB.Blk (w1.setCell ⟨gw, 0, none⟩ (.int .i64 0)) gs 32 [.bool n1, .slice A la ca, .slice B lb cb, .bool n2, .slice C lc cc, .slice D ld cd]) := S3.out.far hne 0 (.int .i64 0)
  have HB := GB.hid (GB.blset HB.out hgw 0 (.int .i64 0))
  clear K2 K3 S2 S3
  have N2 := GB.hid (GB.Blk.new (w1.setCell ⟨gw, 0, none⟩ (.int .i64 0)) 32 [.bool n2, .slice C lc cc, .slice D ld cd])
  have K5 := GB.hid (K4.out.alloc (.cells #[.bool n2, .slice C lc cc, .slice D ld cd] 32))
  have s3 := S4.out.cell 3 rfl
  have s4 := S4.out.cell 4 rfl
  have s5 := S4.out.cell 5 rfl
  have k0 := K5.out.cell 0 rfl
  have b0 := N2.out.cell 0 rfl
  have b1 := N2.out.cell 1 rfl
  have b2 := N2.out.cell 2 rfl
  have HB := GB.hid (GB.bla HB.out (.cells #[.bool n2, .slice C lc cc, .slice D ld cd] 32))
  go_wp2_with fail
  refine (HH2.out _ HB.out).mono ?_
  rintro e2 w2 ⟨rfl, hb⟩
  clear s3 s4 s5 k0 b0 b1 b2
  have K6 := GB.hid (K5.out.below hb)
  have HB := GB.hid (GB.bls HB.out hb)
  have P3 : Hid (∀ g t cs, g ≠ gw → GB.Blk w g t cs → GB.Blk (w2.setCell ⟨gw, 0, none⟩ (.int .i64 c2)) g t cs) := fun g t cs hg h => (((P2.out g t cs hg h).alloc _).below hb).far hg.symm _ _
  clear hb
  have f0 := K6.out.free 0
  have g0 := K6.out.cell 0 rfl
  go_wp2
  rw [rounds_succ]
  have K7 : Hid (GB.Blk (w2.setCell ⟨gw, 0, none⟩ (.int .i64 c2)) gw 87 [.int .i64 c2]) := K6.out.set 0 (.int .i64 c2)
  go_wp2
  go_end0
  exact ⟨rfl, GB.blset HB.out hgw 0 _, K7.out, P3.out⟩
/-- a look at two fractions -/
theorem way_check (w0 w : World) (gw gs : Nat) (e0 c1 c2 : Int) (n1 n2 : Bool) (A B C D : Option Addr) (la ca lb cb lc cc ld cd : Nat) (hgw : w0.heap.size ≤ gw) (hne : gw ≠ gs)
    (hB : Below w0.heap.size w0 w) (KW : GB.Blk w gw 87 [.int .i64 e0]) (KS : GB.Blk w gs 32 [.bool n1, .slice A la ca, .slice B lb cb, .bool n2, .slice C lc cc, .slice D ld cd])
    (H1 : ∀ w1, Below w0.heap.size w0 w1 → Calls Try.prog 78 #[.agg #[.bool n1, .slice A la ca, .slice B lb cb]] w1 fun e w' => e = .returned (.int .i64 c1) ∧ Below w1.heap.size w1 w')
    (H2 : ∀ w1, Below w0.heap.size w0 w1 → Calls Try.prog 78 #[.agg #[.bool n2, .slice C lc cc, .slice D ld cd]] w1 fun e w' => e = .returned (.int .i64 c2) ∧ Below w1.heap.size w1 w') :
    Calls Try.prog 95 #[.pointer (some ⟨gw, 0, none⟩), .slice (some ⟨gs, 0, none⟩) 2 2] w fun e w' => e = .returned (.tuple #[]) ∧ Below w0.heap.size w0 w' ∧ GB.Blk w' gw 87 [.int .i64 (chk3 e0 c1 c2)] ∧ (∀ g t cs, g ≠ gw → GB.Blk w g t cs → GB.Blk w' g t cs) := by
  unfold chk3
  by_cases h0 : e0 = 0
  · subst h0
    rw [if_pos rfl]
    by_cases h1 : c1 = 0
    · rw [if_pos h1]
      exact check_two w0 w gw gs c1 c2 n1 n2 A B C D la ca lb cb lc cc ld cd h1 hgw hne hB KW KS H1 H2
    · rw [if_neg h1]
      exact check_one w0 w gw gs c1 c2 n1 n2 A B C D la ca lb cb lc cc ld cd h1 hgw hne hB KW KS H1 H2
  · rw [if_neg h0]
    exact (check_no w0 w gw gs e0 n1 n2 A B C D la ca lb cb lc cc ld cd h0 hB KW KS).mono fun e w' ⟨a, b, c, d⟩ => ⟨a, b, c, fun g t cs _ h => d g t cs h⟩
set_option maxHeartbeats 4000000 in
set_option maxRecDepth 100000 in
/-- a way behind the looks at one number -/
theorem asked1 (w0 w : World) (gl : Nat) (e1 e2 : Int) (n1 n2 : Bool) (A B C D : Option Addr) (lA cA lB cB lC cC lD cD : Nat)
    (hB : Below w0.heap.size w0 w) (KL : GB.Blk w gl 34 [.bool n1, .slice A lA cA, .slice B lB cB, .bool n2, .slice C lC cC, .slice D lD cD])
    (H1 : ∀ w1, Below w0.heap.size w0 w1 → Calls Try.prog 78 #[.agg #[.bool n1, .slice A lA cA, .slice B lB cB]] w1 fun e w' => e = .returned (.int .i64 e1) ∧ Below w1.heap.size w1 w')
    (H2 : ∀ w1, Below w0.heap.size w0 w1 → Calls Try.prog 78 #[.agg #[.bool n2, .slice C lC cC, .slice D lD cD]] w1 fun e w' => e = .returned (.int .i64 e2) ∧ Below w1.heap.size w1 w') :
    Calls Try.prog 62 #[.slice (some ⟨gl, 0, none⟩) 1 1] w fun e w' => ∃ gw, e = .returned (.pointer (some ⟨gw, 0, none⟩)) ∧ w0.heap.size ≤ gw ∧ Below w0.heap.size w0 w' ∧ GB.Blk w' gw 87 [.int .i64 (chk3 0 e1 e2)] ∧ (∀ g t cs, GB.Blk w g t cs → GB.Blk w' g t cs) := by
  have H := GB.hid hB
  have L := GB.hid KL
  have HH1 := GB.hid H1
  have HH2 := GB.hid H2
  have hs := hB.size
  clear hB KL H1 H2
  have LW := GB.hid (L.out.alloc (.cells #[.int .i64 0] 87))
  have KW := GB.hid (GB.Blk.new w 87 [.int .i64 0])
  have KB := GB.hid (GB.Blk.new (w.alloc (.cells #[.int .i64 0] 87)) 34 [.bool n1, .slice A lA cA, .slice B lB cB, .bool n2, .slice C lC cC, .slice D lD cD])
  have l0 := LW.out.cell 0 rfl
  have l1 := LW.out.cell 1 rfl
  have l2 := LW.out.cell 2 rfl
  have l3 := LW.out.cell 3 rfl
  have l4 := LW.out.cell 4 rfl
  have l5 := LW.out.cell 5 rfl
  have b0 := KB.out.cell 0 rfl
  have b1 := KB.out.cell 1 rfl
  have b2 := KB.out.cell 2 rfl
  have b3 := KB.out.cell 3 rfl
  have b4 := KB.out.cell 4 rfl
  have b5 := KB.out.cell 5 rfl
  simp only [World.size_alloc] at b0 b1 b2 b3 b4 b5
  go_enter Try.func62, Try.ntmps62
  go_wp2
  refine wp_loop_rounds 2 ?_
  rw [rounds_succ]
  go_wp2_with fail
  have hK := (KW.out.alloc (.cells #[.bool n1, .slice A lA cA, .slice B lB cB, .bool n2, .slice C lC cC, .slice D lD cD] 34)).alloc (.cells #[.bool n1, .slice A lA cA, .slice B lB cB, .bool n2, .slice C lC cC, .slice D lD cD] 32)
  have hS := GB.Blk.new ((w.alloc (.cells #[.int .i64 0] 87)).alloc (.cells #[.bool n1, .slice A lA cA, .slice B lB cB, .bool n2, .slice C lC cC, .slice D lD cD] 34)) 32 [.bool n1, .slice A lA cA, .slice B lB cB, .bool n2, .slice C lC cC, .slice D lD cD]
  simp only [World.size_alloc] at hS
  refine (way_check w0 _ w.heap.size (w.heap.size + 1 + 1) 0 e1 e2 n1 n2 A B C D lA cA lB cB lC cC lD cD hs (by omega) (by repeat (first | exact H.out | apply GB.bla)) hK hS HH1.out HH2.out).mono ?_
  rintro e w1 ⟨rfl, hb, hk, hp⟩
  have HB := GB.hid hb
  have K := GB.hid hk
  have P := GB.hid hp
  clear hb hk hp hK hS l0 l1 l2 l3 l4 l5 b0 b1 b2 b3 b4 b5
  go_wp2
  rw [rounds_succ]
  go_wp2
  go_ret
  exact ⟨w.heap.size, rfl, hs, HB.out, K.out, fun g t cs h => P.out g t cs (by have := h.lt; omega) (((h.alloc _).alloc _).alloc _)⟩
set_option maxHeartbeats 4000000 in
set_option maxRecDepth 100000 in
/-- a way behind the looks at two numbers -/
theorem asked2 (w0 w : World) (gl : Nat) (e1 e2 e3 e4 : Int) (n1 n2 n3 n4 : Bool) (A B C D E F G H : Option Addr) (lA cA lB cB lC cC lD cD lE cE lF cF lG cG lH cH : Nat)
    (hB : Below w0.heap.size w0 w) (KL : GB.Blk w gl 34 [.bool n1, .slice A lA cA, .slice B lB cB, .bool n2, .slice C lC cC, .slice D lD cD, .bool n3, .slice E lE cE, .slice F lF cF, .bool n4, .slice G lG cG, .slice H lH cH])
    (H1 : ∀ w1, Below w0.heap.size w0 w1 → Calls Try.prog 78 #[.agg #[.bool n1, .slice A lA cA, .slice B lB cB]] w1 fun e w' => e = .returned (.int .i64 e1) ∧ Below w1.heap.size w1 w')
    (H2 : ∀ w1, Below w0.heap.size w0 w1 → Calls Try.prog 78 #[.agg #[.bool n2, .slice C lC cC, .slice D lD cD]] w1 fun e w' => e = .returned (.int .i64 e2) ∧ Below w1.heap.size w1 w')
    (H3 : ∀ w1, Below w0.heap.size w0 w1 → Calls Try.prog 78 #[.agg #[.bool n3, .slice E lE cE, .slice F lF cF]] w1 fun e w' => e = .returned (.int .i64 e3) ∧ Below w1.heap.size w1 w')
    (H4 : ∀ w1, Below w0.heap.size w0 w1 → Calls Try.prog 78 #[.agg #[.bool n4, .slice G lG cG, .slice H lH cH]] w1 fun e w' => e = .returned (.int .i64 e4) ∧ Below w1.heap.size w1 w') :
    Calls Try.prog 62 #[.slice (some ⟨gl, 0, none⟩) 2 2] w fun e w' => ∃ gw, e = .returned (.pointer (some ⟨gw, 0, none⟩)) ∧ w0.heap.size ≤ gw ∧ Below w0.heap.size w0 w' ∧ GB.Blk w' gw 87 [.int .i64 (chk3 (chk3 0 e1 e2) e3 e4)] ∧ (∀ g t cs, GB.Blk w g t cs → GB.Blk w' g t cs) := by
  have HW0 := GB.hid hB
  have L := GB.hid KL
  have HH1 := GB.hid H1
  have HH2 := GB.hid H2
  have HH3 := GB.hid H3
  have HH4 := GB.hid H4
  have hs := hB.size
  have hgl := KL.lt
  clear hB KL H1 H2 H3 H4
  have LW := GB.hid (L.out.alloc (.cells #[.int .i64 0] 87))
  have KW := GB.hid (GB.Blk.new w 87 [.int .i64 0])
  have KB := GB.hid (GB.Blk.new (w.alloc (.cells #[.int .i64 0] 87)) 34 [.bool n1, .slice A lA cA, .slice B lB cB, .bool n2, .slice C lC cC, .slice D lD cD])
  have l0 := LW.out.cell 0 rfl
  have l1 := LW.out.cell 1 rfl
  have l2 := LW.out.cell 2 rfl
  have l3 := LW.out.cell 3 rfl
  have l4 := LW.out.cell 4 rfl
  have l5 := LW.out.cell 5 rfl
  have b0 := KB.out.cell 0 rfl
  have b1 := KB.out.cell 1 rfl
  have b2 := KB.out.cell 2 rfl
  have b3 := KB.out.cell 3 rfl
  have b4 := KB.out.cell 4 rfl
  have b5 := KB.out.cell 5 rfl
  simp only [World.size_alloc] at b0 b1 b2 b3 b4 b5
  go_enter Try.func62, Try.ntmps62
  go_wp2
  refine wp_loop_rounds 3 ?_
  rw [rounds_succ]
  go_wp2_with fail
  have hK := (KW.out.alloc (.cells #[.bool n1, .slice A lA cA, .slice B lB cB, .bool n2, .slice C lC cC, .slice D lD cD] 34)).alloc (.cells #[.bool n1, .slice A lA cA, .slice B lB cB, .bool n2, .slice C lC cC, .slice D lD cD] 32)
  have hS := GB.Blk.new ((w.alloc (.cells #[.int .i64 0] 87)).alloc (.cells #[.bool n1, .slice A lA cA, .slice B lB cB, .bool n2, .slice C lC cC, .slice D lD cD] 34)) 32 [.bool n1, .slice A lA cA, .slice B lB cB, .bool n2, .slice C lC cC, .slice D lD cD]
  simp only [World.size_alloc] at hS
  refine (way_check w0 _ w.heap.size (w.heap.size + 1 + 1) 0 e1 e2 n1 n2 A B C D lA cA lB cB lC cC lD cD hs (by omega) (by repeat (first | exact HW0.out | apply GB.bla)) hK hS HH1.out HH2.out).mono ?_
  rintro e w1 ⟨rfl, hb, hk, hp⟩
  have HB := GB.hid hb
  have K := GB.hid hk
  have P : Hid (∀ g t cs, GB.Blk w g t cs → GB.Blk w1 g t cs) := fun g t cs h => hp g t cs (by have := h.lt; omega) (((h.alloc _).alloc _).alloc _)
  have LL := GB.hid (P.out _ _ _ L.out)
  have hgw : w.heap.size < w1.heap.size := hk.lt
  clear hb hk hp hK hS l0 l1 l2 l3 l4 l5 b0 b1 b2 b3 b4 b5 KB LW
  have KB := GB.hid (GB.Blk.new w1 34 [.bool n3, .slice E lE cE, .slice F lF cF, .bool n4, .slice G lG cG, .slice H lH cH])
  have l6 := LL.out.cell 6 rfl
  have l7 := LL.out.cell 7 rfl
  have l8 := LL.out.cell 8 rfl
  have l9 := LL.out.cell 9 rfl
  have l10 := LL.out.cell 10 rfl
  have l11 := LL.out.cell 11 rfl
  have b0 := KB.out.cell 0 rfl
  have b1 := KB.out.cell 1 rfl
  have b2 := KB.out.cell 2 rfl
  have b3 := KB.out.cell 3 rfl
  have b4 := KB.out.cell 4 rfl
  have b5 := KB.out.cell 5 rfl
  go_wp2
  rw [rounds_succ]
  go_wp2_with fail
  have hK := (K.out.alloc (.cells #[.bool n3, .slice E lE cE, .slice F lF cF, .bool n4, .slice G lG cG, .slice H lH cH] 34)).alloc (.cells #[.bool n3, .slice E lE cE, .slice F lF cF, .bool n4, .slice G lG cG, .slice H lH cH] 32)
  have hS := GB.Blk.new (w1.alloc (.cells #[.bool n3, .slice E lE cE, .slice F lF cF, .bool n4, .slice G lG cG, .slice H lH cH] 34)) 32 [.bool n3, .slice E lE cE, .slice F lF cF, .bool n4, .slice G lG cG, .slice H lH cH]
  simp only [World.size_alloc] at hS
  refine (way_check w0 _ w.heap.size (w1.heap.size + 1) (chk3 0 e1 e2) e3 e4 n3 n4 E F G H lE cE lF cF lG cG lH cH hs (by omega) (by repeat (first | exact HB.out | apply GB.bla)) hK hS HH3.out HH4.out).mono ?_
  rintro e w2 ⟨rfl, hb, hk, hp⟩
  have HB2 := GB.hid hb
  have K2 := GB.hid hk
  have P2 := GB.hid hp
  clear hb hk hp hK hS l6 l7 l8 l9 l10 l11 b0 b1 b2 b3 b4 b5
  go_wp2
  rw [rounds_succ]
  go_wp2
  go_ret
  exact ⟨w.heap.size, rfl, hs, HB2.out, K2.out, fun g t cs h => P2.out g t cs (by have := h.lt; omega) (((P.out g t cs h).alloc _).alloc _)⟩
end Go.Proofs.Ytgjmlbcpjjpegaa
