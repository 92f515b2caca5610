import Derived.RangeFuncNested
import Derived.RangeFuncBound
import Derived.RangeFuncCalls
import Derived.RangeFuncLeaves
import Derived.Shelf.Abstract
import Derived.Shelf.RegionOpen
import Derived.WalkKit
import Derived.OwnWalkIn
import Derived.TacticsInMore
import Derived.LoopNIn
import Derived.LoopIn
import Derived.Test.YtlaiginblmckoaaDoorPK9x
/- clock.Ticks: what it goes over, for every loop body that keeps what lay there. -/
set_option linter.unusedVariables false
set_option linter.unusedSimpArgs false
namespace Go.Proofs.YtlaiginblmckoaaDoor
open Go Go.RowKit Go.Shelf Go.Proofs.YtlaiginblmckoaaDoor.PK9 Go.Proofs.YtlaiginblmckoaaDoorW.PrintWords
attribute [local go_sem] Oper.semAt_some
/-- the whole numbers from a up to b -/
def from_ (a : Int) (n : Nat) : List Int := (List.range n).map fun (i : Nat) => a + (i : Int)
theorem from_len (a : Int) (n : Nat) : (from_ a n).length = n := by simp [from_]
theorem from_succ (a : Int) (n : Nat) : from_ a (n + 1) = from_ a n ++ [a + (n : Int)] := by simp [from_, List.range_succ]
theorem from_prefix (a : Int) {m n : Nat} (h : m ≤ n) : from_ a m <+: from_ a n := by
  induction n with
  | zero => obtain rfl : m = 0 := by omega
            exact List.prefix_refl _
  | succ n ih =>
    by_cases hm : m = n + 1
    · subst hm; exact List.prefix_refl _
    · rw [from_succ]
      exact (ih (by omega)).trans (List.prefix_append _ _)
set_option maxHeartbeats 4000000 in
theorem ticks1_in (F : Fence) (hF : F = Fence.wide) (n : Nat) (hn : 1 ≤ n) (l ga gb n₀ : Nat) (a b e : Int) (N k : Nat) (hspan : clock_Span.f k a b = some e) (he : e ≠ 0 → N = 0) (he0 : e = 0 → a + (N : Int) = b ∧ 0 ≤ a ∧ b ≤ 9223372036854775807)
    (hga : ga < n₀) (hgb : gb < n₀) (J Jx : List Int → World → Prop)
    (hY : ∀ pre x W, J pre W → pre.length < N → YieldAt F (n - 1) Tryd.prog l #[.int .i64 x] W fun e W' =>
      (e = .returned (.bool true) ∧ J (pre ++ [x]) W' ∧ Below n₀ W W') ∨ (e = .returned (.bool false) ∧ Jx (pre ++ [x]) W'))
    (W : World) (hJ : AbidesFrom W.heap.size J) (hW : n₀ ≤ W.heap.size) (ha : W.cell? ⟨ga, 0, none⟩ = some (.int .i64 a)) (hb : W.cell? ⟨gb, 0, none⟩ = some (.int .i64 b)) (h0 : J [] W) :
    CallsIn F n Tryd.prog 12 #[.func (.yield l) #[] #[], .pointer (some ⟨ga, 0, none⟩), .pointer (some ⟨gb, 0, none⟩)] W fun e W' => (∃ v, e = .returned v) ∧
      ((∃ ys, ys = from_ a N ∧ J ys W') ∨ (∃ pre, pre <+: from_ a N ∧ Jx pre W')) := by
  subst hF
  refine callsIn_of_wp Tryd.func12 rfl trivial ?_ rfl
  simp only [Tryd.ntmps12, List.size_toArray, List.length_cons, List.length_nil, Nat.reduceAdd, Nat.reduceSub, Array.replicate_succ, Array.replicate_zero, List.push_toArray, List.append_toArray, List.nil_append, List.cons_append]
  gi_wp2
  refine ⟨trivial, ?_⟩
  refine (callsIn_wide.2 (clock_Span.calls k a b e _ hspan)).mono ?_
  rintro e' w1 ⟨rfl, hd⟩
  have hb1 := hd.below
  have h01 : J [] w1 := hJ _ _ _ none h0 (GB.grown_of_below hb1 none) (fun r h => by cases h)
  have ha1 : w1.cell? ⟨ga, 0, none⟩ = some (.int .i64 a) := (hb1.cell (p := ⟨ga, 0, none⟩) (by show ga < _; omega)).trans ha
  have hb2 : w1.cell? ⟨gb, 0, none⟩ = some (.int .i64 b) := (hb1.cell (p := ⟨gb, 0, none⟩) (by show gb < _; omega)).trans hb
  have hW1 : n₀ ≤ w1.heap.size := Nat.le_trans hW hb1.size
  clear ha hb hb1 hd h0 hW hspan
  by_cases hz : e = 0
  · have hz' : (e != 0) = false := by rw [hz]; rfl
    obtain ⟨hN, a0, bb⟩ := he0 hz
    clear he he0 hz
    gi_wp2
    gi_loopw [4] (fun p wr => ∃ j : Nat, j ≤ N ∧ p = .int .i64 (a + j) ∧ Hid (J (from_ a j) wr) ∧ Hid (wr.cell? ⟨gb, 0, none⟩ = some (.int .i64 b)) ∧ n₀ ≤ wr.heap.size) (fun p _ => (b - intOf p).toNat)
    case atStart => exact ⟨0, by omega, by simp, h01, hb2, hW1⟩
    case round =>
      obtain ⟨j, hj, rfl, hJ', hc', hW'⟩ := hrel
      have hc := hc'.out
      by_cases hlt : a + (j : Int) < b
      · have hd' : decide (a + (j : Int) < b) = true := decide_eq_true hlt
        have hw : wrap64 (a + (j : Int) + 1) = a + (j : Int) + 1 := by unfold wrap64; omega
        obtain ⟨fn, tmps, assign, body, hy, hR⟩ := hY (from_ a j) (a + j) wr hJ'.out (by rw [from_len]; omega)
        gi_wp2
        refine hR.mono ?_
        rintro e W3 (⟨rfl, hJ3, hk3⟩ | ⟨rfl, hJx3⟩)
        · gi_wp2
          go_roundw
          case rel => exact ⟨j + 1, by omega, by congr 1; omega, by rw [from_succ]; exact hJ3, (hk3.cell (p := ⟨gb, 0, none⟩) hgb).trans hc, Nat.le_trans hW' hk3.size⟩
          case measure => simp only [intOf]; omega
        · gi_wp2
          refine bodyPost_ret (results_none rfl _ _ _) rfl ?_
          exact ⟨⟨_, rfl⟩, .inr ⟨_, by rw [← from_succ]; exact from_prefix a (by omega), hJx3⟩⟩
      · have hd' : decide (a + (j : Int) < b) = false := decide_eq_false hlt
        obtain rfl : j = N := by omega
        gi_wp2
        go_end0
        first | exact ⟨⟨_, rfl⟩, .inl ⟨_, rfl, hJ'.out⟩⟩ | exact ⟨⟨_, rfl⟩, .inl hJ'.out⟩ | exact .inl hJ'.out
  · have hz' : (e != 0) = true := bne_iff_ne.2 hz
    obtain rfl := he hz
    gi_wp2
    refine bodyPost_ret (results_none rfl _ _ _) rfl ?_
    exact ⟨⟨_, rfl⟩, .inl ⟨_, rfl, h01⟩⟩
/-- the iterator's contract -/
theorem ticks_stops (n : Nat) (hn : 1 ≤ n) (ga gb n₀ : Nat) (a b e : Int) (N k : Nat) (hspan : clock_Span.f k a b = some e) (he : e ≠ 0 → N = 0) (he0 : e = 0 → a + (N : Int) = b ∧ 0 ≤ a ∧ b ≤ 9223372036854775807)
    (hga : ga < n₀) (hgb : gb < n₀) (w : World) (hw : n₀ ≤ w.heap.size) (ha : w.cell? ⟨ga, 0, none⟩ = some (.int .i64 a)) (hb : w.cell? ⟨gb, 0, none⟩ = some (.int .i64 b)) :
    SeqStopsK Fence.wide n Tryd.prog 12 #[.pointer (some ⟨ga, 0, none⟩), .pointer (some ⟨gb, 0, none⟩)] (fun x : Int => #[.int .i64 x]) (Below n₀) (fun xs => xs = from_ a N) (fun pre => pre <+: from_ a N) N w :=
  fun l J Jx W hW hJ hJx hY h0 =>
    ticks1_in Fence.wide rfl n hn l ga gb n₀ a b e N k hspan he he0 hga hgb J Jx hY W hJ (Nat.le_trans hw hW.size) ((hW.cell (p := ⟨ga, 0, none⟩) (by show ga < _; omega)).trans ha) ((hW.cell (p := ⟨gb, 0, none⟩) (by show gb < _; omega)).trans hb) h0
end Go.Proofs.YtlaiginblmckoaaDoor
