import Derived.Test.YtgnmmifeojfjlaaDoorNtS
/- The walk of NatShifts, whole. -/
set_option linter.unusedVariables false
namespace Go.Proofs.YtgnmmifeojfjlaaDoor
open Go Go.RowKit Q Go.Proofs.YtgnmmifeojfjlaaDoorW.PrintWords
theorem C_of_In {w : World} {A : Option Addr} {c : Nat} {xs : List Int} (h : In w A c xs) : Kd.C (Kd.int .u32) w A xs.length xs := by
  refine Kd.C_of_reads (d := (0 : Int)) (h1 := fun _ => rfl) ⟨rfl, by have := h.small; omega, fun hn => ?_⟩
  obtain ⟨ad, e, _⟩ := h.rd 0 hn
  refine ⟨ad, e, fun j hj => ?_⟩
  obtain ⟨ad', e', hc⟩ := h.rd j hj
  rw [e] at e'
  cases e'
  exact hc
theorem NatShifts_walk (A0 : Option Addr) (c0 : Nat) (l0 : List Int) (n : Int) (W : World) (hL : LW W) (i0 : In W A0 c0 l0) (n0 : 0 ≤ n) (n1 : n < 65536) :
    Calls Tryd.prog 4 #[.slice A0 l0.length c0, .int .u16 n] W fun e W' => e = .returned (.bool true) ∧ Below W.heap.size W W' :=
  PK1.slackwaterlaw01_NatShifts.calls 1000 A0 c0 l0 n true W hL (C_of_In i0) i0.cap (NT.shifts l0 n i0.wds n0 n1)
end Go.Proofs.YtgnmmifeojfjlaaDoor
