import Derived.Test.YtgjmlbcpjjpegaaRtL
import Derived.Test.YtgjmlbcpjjpegaaRowT
import Derived.Deep.SlicePairs
/- A list of rotors that came in, opened; RotorLists walked whole. -/
set_option linter.unusedVariables false
set_option linter.unusedSimpArgs false
namespace Go.Proofs.Ytgjmlbcpjjpegaa.RT
open Go Go.RowKit Go.ChangeShapes Go.WideShapes Go.Proofs.Ytgjmlbcpjjpegaa.PRL Go.Proofs.YtgjmlbcpjjpegaaW.PrintWords
theorem wf_rng {a : Int} (h : (Lit.int .i32 a).wf = true) : -2147483648 ≤ a ∧ a < 2147483648 := by
  simp [Lit.wf, IntKind.min, IntKind.max, IntKind.bits, IntKind.signed] at h
  omega
theorem rotors_open {H : Type} {enc : TypeId × Value → H} {W : World} {base : Nat} {spare : Nat → Bool} {held : Bool} {a : Option Addr} {len cap : Nat} {d : DataW H} {ps : List MemPlace}
    (h : DataW.Trod enc Try.prog W base spare held 22 (.slice a len cap) d ps) : ∃ xs : List S25, len = xs.length ∧ xs.length ≤ cap ∧ Kd.C k25 W a xs.length xs ∧ ∀ r ∈ xs, Rng r := by
  obtain ⟨fuel, hf⟩ := h
  rcases Go.Deep.open_slice_pairs Try.underlying22 Try.underlying25 (by kernel_rfl) rfl rfl (by kernel_rfl) (by kernel_rfl) hf with ⟨hcs, _⟩ | ⟨a', len', cap', m, n, V0, V1, D0, D1, P0, P1, hcs, hb, hl, hm, hmm, hx, hall⟩
  · simp [Value.cells] at hcs
    obtain ⟨rfl, rfl, rfl⟩ := hcs
    exact ⟨[], rfl, Nat.le_refl _, ⟨rfl, by simp, fun h => absurd h (by simp)⟩, fun r hr => by cases hr⟩
  · simp [Value.cells] at hcs
    obtain ⟨rfl, rfl, rfl⟩ := hcs
    have hlm : len ≤ m := by rw [hmm]; split <;> omega
    have each : ∀ i, i < len → V0 i = .int .i32 (intOf (V0 i)) ∧ V1 i = .int .i32 (intOf (V1 i)) ∧ (Lit.int .i32 (intOf (V0 i))).wf = true ∧ (Lit.int .i32 (intOf (V1 i))).wf = true := by
      intro i hi
      obtain ⟨_, _, t0, t1⟩ := hall i (by omega)
      obtain ⟨b, e0, _, w0⟩ := DataW.trod_int Try.underlying21 t0
      obtain ⟨c, e1, _, w1⟩ := DataW.trod_int Try.underlying21 t1
      injection e0 with e0
      injection e1 with e1
      rw [e0, e1]
      exact ⟨rfl, rfl, w0, w1⟩
    have hlen : ((List.range len).map fun i => (⟨intOf (V0 i), intOf (V1 i)⟩ : S25)).length = len := by rw [List.length_map, List.length_range]
    refine ⟨(List.range len).map fun i => ⟨intOf (V0 i), intOf (V1 i)⟩, hlen.symm, by rw [hlen]; exact hl, ⟨rfl, by rw [hlen]; unfold maxLen at hm; omega, fun _ => ⟨a', rfl, fun j p hj => ?_⟩⟩, fun r hr => ?_⟩
    · obtain ⟨hj1, hj2⟩ := List.getElem?_eq_some_iff.1 hj
      rw [hlen] at hj1
      rw [List.getElem_map, List.getElem_range] at hj2
      subst hj2
      obtain ⟨q0, q1, _, _⟩ := hall j (by omega)
      obtain ⟨e0, e1, _, _⟩ := each j hj1
      refine ⟨[.int .i32 (intOf (V0 j)), .int .i32 (intOf (V1 j))], rfl, k25_mk W _, fun i u hu => ?_⟩
      match i, hu with
      | 0, hu =>
        have : Value.int .i32 (intOf (V0 j)) = u := by simpa using hu
        rw [← this, ← e0]
        exact q0
      | 1, hu =>
        have : Value.int .i32 (intOf (V1 j)) = u := by simpa using hu
        rw [← this, ← e1]
        exact q1
      | i + 2, hu => simp at hu
    · obtain ⟨i, hi, rfl⟩ := List.mem_map.1 hr
      have := each i (List.mem_range.1 hi)
      exact ⟨wf_rng this.2.2.1, wf_rng this.2.2.2⟩
theorem RotorLists_walk (a : Option Addr) (c0 : Nat) (l : List S25) (W : World) (hC : Kd.C k25 W a l.length l) (hc : l.length ≤ c0) (hr : ∀ r ∈ l, Rng r) :
    Calls Try.prog 3 #[.slice a l.length c0] W fun e W' => e = .returned (.bool true) ∧ Below W.heap.size W W' :=
  PRL.slackwaterlaw05_RotorLists.calls 10000 a c0 l true W hC hc (lists l hr)
end Go.Proofs.Ytgjmlbcpjjpegaa.RT
