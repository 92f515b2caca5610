/- A row's argument that is a number: a sign and words, opened. -/
import Derived.ChangeSame
import Derived.Test.YtidccoahjpjoaaaRowW
set_option linter.unusedVariables false
set_option linter.unusedSimpArgs false
namespace Q
open Go Go.ChangeShapes Go.WideShapes Go.RowKit
theorem whole_open {H : Type} {enc : TypeId × Value → H} {P : Program} {W : World} {base : Nat} {spare : Nat → Bool} {held : Bool} {t e : TypeId} {f0 f1 : Field} {cs : Array Value} {d : DataW H} {ps : List MemPlace} {ts : List TypeId} {ds : List (DataW H)} {j : Nat}
    (hsz : (DataW.weightsEach P ts ds).all (· ≤ reachBytes) = true) (ht : ts[j]? = some t) (hd : ds[j]? = some d) (hu : P.underlying t = some (.struct #[f0, f1])) (hb : P.underlying f0.type = some .bool) (hs : P.underlying f1.type = some (.slice e))
    (he : P.underlying e = some (.int .u32)) (hc : P.cellsOf e = 1) (hB : P.bytesOf e = 4) (h0 : f0.offset = 0) (h1 : f1.offset = 1) (c0 : P.cellsOf f0.type = 1) (c1 : P.cellsOf f1.type = 1) (hct : P.cellsOf t = 2)
    (h : DataW.Trod enc P W base spare held t (.agg cs) d ps) : ∃ (n : Bool) (A : Option Addr) (c : Nat) (xs : List Int), cs = #[.bool n, .slice A xs.length c] ∧ In W A c xs := by
  obtain ⟨fuel, hf⟩ := h
  obtain ⟨y0, y1, n, hx, hl, t0, t1⟩ := trod_struct2 hu hf
  obtain ⟨hd', _⟩ := Prod.mk.inj hx
  rw [hct] at hl
  simp only [Value.cells] at hl t0 t1
  rw [h0, c0] at t0
  rw [h1, c1] at t1
  obtain ⟨l⟩ := cs
  match l, hl with
  | [u, v], _ =>
    simp at t0 t1
    obtain ⟨b, e0, _⟩ := DataW.trod_bool hb t0
    have hv : ∃ a len cap, v = .slice a len cap := by
      rcases open_ints hs he hc t1 with ⟨hcs, _⟩ | ⟨x, l, c, zs, hcs, _⟩
      · exact ⟨none, 0, 0, by simpa using hcs⟩
      · exact ⟨some x, l, c, by simpa using hcs⟩
    obtain ⟨a, len, cap, rfl⟩ := hv
    have hsz2 : (DataW.weightsEach P [f0.type, f1.type] [y0.1, y1.1]).all (· ≤ reachBytes) = true := by
      rw [List.all_eq_true] at hsz ⊢
      intro k hk
      refine hsz k (DataW.weights_mem_each ht hd k ?_)
      rw [hd']
      unfold DataW.weights
      rw [hu]
      exact hk
    obtain ⟨xs, e1, hi⟩ := words_open hsz2 (j := 1) (t := f1.type) (d := y1.1) rfl rfl hs he hc hB (a := a) (len := len) (cap := cap) (ps := y1.2) ⟨n, t1⟩
    refine ⟨b, a, cap, xs, ?_, hi⟩
    rw [e1]
    simp at e0
    rw [e0]
end Q
