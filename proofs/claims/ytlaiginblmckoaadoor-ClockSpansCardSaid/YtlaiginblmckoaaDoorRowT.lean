import Derived.Test.YtlaiginblmckoaaDoorChecked
import Derived.WalkKit
import Derived.ProofKit
import Derived.OpenShut
import Derived.ShutString
import Derived.ChangeOld
import Derived.Below
import Derived.SizedLaws
import Derived.Lib.SmallJoins
/- Arguments opened for a row: structs of two or four whole numbers. -/
set_option linter.unusedVariables false
set_option linter.unusedSimpArgs false
namespace GB
open Go Go.ChangeShapes Go.WideShapes Go.RowKit
theorem int2_open {H : Type} {enc : TypeId × Value → H} {P : Program} {W : World} {base : Nat} {spare : Nat → Bool} {held : Bool} {t : TypeId} {f0 f1 : Field} {cs : Array Value} {d : DataW H} {ps : List MemPlace} {k0 k1 : IntKind}
    (hu : P.underlying t = some (.struct #[f0, f1])) (hb : P.underlying f0.type = some (.int k0)) (hs : P.underlying f1.type = some (.int k1))
    (h0 : f0.offset = 0) (h1 : f1.offset = 1) (c0 : P.cellsOf f0.type = 1) (c1 : P.cellsOf f1.type = 1) (hct : P.cellsOf t = 2)
    (h : DataW.Trod enc P W base spare held t (.agg cs) d ps) : ∃ (x y : Int), cs = #[.int k0 x, .int k1 y] ∧ (Lit.int k0 x).wf = true ∧ (Lit.int k1 y).wf = true := by
  obtain ⟨fuel, hf⟩ := h
  obtain ⟨y0, y1, n, hx, hl, t0, t1⟩ := trod_struct2 hu hf
  rw [hct] at hl
  simp only [Value.cells] at hl t0 t1
  rw [h0, c0] at t0
  rw [h1, c1] at t1
  obtain ⟨l⟩ := cs
  match l, hl with
  | [u, v], _ =>
    simp at t0 t1
    obtain ⟨b, e0, _, w0⟩ := DataW.trod_int hb t0
    obtain ⟨c, e1, _, w1⟩ := DataW.trod_int hs t1
    injection e0 with e0
    injection e1 with e1
    subst e0 e1
    exact ⟨b, c, rfl, w0, w1⟩
theorem int4_open {H : Type} {enc : TypeId × Value → H} {P : Program} {W : World} {base : Nat} {spare : Nat → Bool} {held : Bool} {t : TypeId} {f0 f1 f2 f3 : Field} {cs : Array Value} {d : DataW H} {ps : List MemPlace} {k0 k1 k2 k3 : IntKind}
    (hu : P.underlying t = some (.struct #[f0, f1, f2, f3])) (u0 : P.underlying f0.type = some (.int k0)) (u1 : P.underlying f1.type = some (.int k1)) (u2 : P.underlying f2.type = some (.int k2)) (u3 : P.underlying f3.type = some (.int k3))
    (h0 : f0.offset = 0) (h1 : f1.offset = 1) (h2 : f2.offset = 2) (h3 : f3.offset = 3) (c0 : P.cellsOf f0.type = 1) (c1 : P.cellsOf f1.type = 1) (c2 : P.cellsOf f2.type = 1) (c3 : P.cellsOf f3.type = 1) (hct : P.cellsOf t = 4)
    (h : DataW.Trod enc P W base spare held t (.agg cs) d ps) : ∃ (x y z v : Int), cs = #[.int k0 x, .int k1 y, .int k2 z, .int k3 v] ∧ (Lit.int k0 x).wf = true ∧ (Lit.int k1 y).wf = true ∧ (Lit.int k2 z).wf = true ∧ (Lit.int k3 v).wf = true := by
  obtain ⟨fuel, hf⟩ := h
  obtain ⟨y0, y1, y2, y3, n, hx, hl, t0, t1, t2, t3⟩ := Go.Joins.trod_struct4 hu hf
  rw [hct] at hl
  simp only [Value.cells] at hl t0 t1 t2 t3
  rw [h0, c0] at t0
  rw [h1, c1] at t1
  rw [h2, c2] at t2
  rw [h3, c3] at t3
  obtain ⟨l⟩ := cs
  match l, hl with
  | [u, v, a, b], _ =>
    simp at t0 t1 t2 t3
    obtain ⟨x0, e0, _, w0⟩ := DataW.trod_int u0 t0
    obtain ⟨x1, e1, _, w1⟩ := DataW.trod_int u1 t1
    obtain ⟨x2, e2, _, w2⟩ := DataW.trod_int u2 t2
    obtain ⟨x3, e3, _, w3⟩ := DataW.trod_int u3 t3
    injection e0 with e0
    injection e1 with e1
    injection e2 with e2
    injection e3 with e3
    subst e0 e1 e2 e3
    exact ⟨x0, x1, x2, x3, rfl, w0, w1, w2, w3⟩
end GB
