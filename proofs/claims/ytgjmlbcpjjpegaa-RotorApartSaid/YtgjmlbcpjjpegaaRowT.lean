import Derived.Test.YtgjmlbcpjjpegaaChecked
import Derived.WalkKit
import Derived.ProofKit
import Derived.OpenShut
import Derived.ShutString
import Derived.ChangeOld
import Derived.Below
import Derived.SizedLaws
import Derived.Lib.SmallJoins
/- Arguments opened for a row: structs of two or four whole numbers. -/
set_option linter.unusedVariables false
set_option linter.unusedSimpArgs false
namespace GB
open Go Go.ChangeShapes Go.WideShapes Go.RowKit
theorem int2_open {H : Type} {enc : TypeId × Value → H} {P : Program} {W : World} {base : Nat} {spare : Nat → Bool} {held : Bool} {t : TypeId} {f0 f1 : Field} {cs : Array Value} {d : DataW H} {ps : List MemPlace} {k0 k1 : IntKind}
    (hu : P.underlying t = some (.struct #[f0, f1])) (hb : P.underlying f0.type = some (.int k0)) (hs : P.underlying f1.type = some (.int k1))
    (h0 : f0.offset = 0) (h1 : f1.offset = 1) (c0 : P.cellsOf f0.type = 1) (c1 : P.cellsOf f1.type = 1) (hct : P.cellsOf t = 2)
    (h : DataW.Trod enc P W base spare held t (.agg cs) d ps) : ∃ (x y : Int), cs = #[.int k0 x, .int k1 y] ∧ (Lit.int k0 x).wf = true ∧ (Lit.int k1 y).wf = true := by
  obtain ⟨fuel, hf⟩ := h
  obtain ⟨y0, y1, n, hx, hl, t0, t1⟩ := trod_struct2 hu hf
  rw [hct] at hl
  simp only [Value.cells] at hl t0 t1
  rw [h0, c0] at t0
  rw [h1, c1] at t1
  obtain ⟨l⟩ := cs
  match l, hl with
  | [u, v], _ =>
    simp at t0 t1
    obtain ⟨b, e0, _, w0⟩ := DataW.trod_int hb t0
    obtain ⟨c, e1, _, w1⟩ := DataW.trod_int hs t1
    injection e0 with e0
    injection e1 with e1
    subst e0 e1
    exact ⟨b, c, rfl, w0, w1⟩
end GB
