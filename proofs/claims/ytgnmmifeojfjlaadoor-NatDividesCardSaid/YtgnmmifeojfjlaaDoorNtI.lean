import Derived.Test.YtgnmmifeojfjlaaDoorNtA
/- Words that come in, in the print's words. -/
set_option linter.unusedVariables false
namespace Go.Proofs.YtgnmmifeojfjlaaDoor
open Go Go.RowKit Q Go.Proofs.YtgnmmifeojfjlaaDoorW.PrintWords
theorem C_of_In {w : World} {A : Option Addr} {c : Nat} {xs : List Int} (h : In w A c xs) : Kd.C (Kd.int .u32) w A xs.length xs := by
  refine Kd.C_of_reads (d := (0 : Int)) (h1 := fun _ => rfl) ⟨rfl, by have := h.small; omega, fun hn => ?_⟩
  obtain ⟨ad, e, _⟩ := h.rd 0 hn
  refine ⟨ad, e, fun j hj => ?_⟩
  obtain ⟨ad', e', hc⟩ := h.rd j hj
  rw [e] at e'
  cases e'
  exact hc
end Go.Proofs.YtgnmmifeojfjlaaDoor
