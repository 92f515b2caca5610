import Derived.Test.YtgjmlbcpjjpegaaProg
import Derived.Maps.Own
import Derived.DeepKeys4
import Derived.Below
import Derived.KernelRfl
/- A map of rotors to true that the call makes: which keys it holds. -/
set_option linter.unusedVariables false
namespace Go.Proofs.Ytgjmlbcpjjpegaa.RM
open Go Go.Maps Go.ChangeShapes Go.ChangeMaps Go.WideElems Go.MapKept Go.WideMaps
open Go.Maps (Keyed)
theorem laidOut : laidOutB Try.prog = true := by kernel_rfl
theorem law : Keyed Try.prog 25 := Keyed.of_law (deep_law_laid laidOut (m := 2) (by omega) (of_decide_eq_true (by kernel_rfl)) (by kernel_rfl) (by kernel_rfl))
theorem zero (w : World) : (zeroValue 4).run Try.prog w = .ok (.bool false) w := by kernel_rfl
def key (a b : Int) : Value := .agg #[.int .i32 a, .int .i32 b]
def Rb (v : Value) : Option (DataW Nat × List MemPlace) := match v with | .bool true => some (.lit (.bool true), []) | _ => none
def Met (w : World) (b n : Nat) (K : Value → Prop) : Prop :=
  ∃ es clock, w.heap[b]? = some (.map es clock) ∧ Fit Try.prog 25 Rb es clock ∧ es.size ≤ n ∧ ∀ v, (∃ x ∈ es.toList, x.key = v) ↔ K v
theorem Met.made (w : World) : Met (w.alloc (.map #[] 0)) w.heap.size 0 (fun _ => False) :=
  ⟨#[], 0, (MapKept.heap_alloc w _).1, ⟨by simp, stamped_empty 0, by simp⟩, Nat.le_refl _, by simp⟩
theorem Met.lt {w : World} {b n : Nat} {K : Value → Prop} (h : Met w b n K) : b < w.heap.size := by
  obtain ⟨es, clock, hb, _⟩ := h
  exact (Array.getElem?_eq_some_iff.1 hb).1
theorem Met.kept {w w' : World} {b n : Nat} {K : Value → Prop} {row : Option Nat} (h : Met w b n K) (hg : w.grownBy w' row) (hne : some b ≠ row) : Met w' b n K := by
  have hlt := h.lt
  obtain ⟨es, clock, hb, F, hs, hD⟩ := h
  exact ⟨es, clock, (hg.block b hlt hne).trans hb, F, hs, hD⟩
theorem Met.below {w w' : World} {b n : Nat} {K : Value → Prop} {B : Nat} (h : Met w b n K) (hg : Go.RowKit.Below B w w') (hB : b < B) : Met w' b n K := by
  obtain ⟨es, clock, hb, F, hs, hD⟩ := h
  exact ⟨es, clock, (hg.block b hB).trans hb, F, hs, hD⟩
theorem Met.store {w : World} {b n : Nat} {K : Value → Prop} (h : Met w b n K) (hn : n < maxLen) {k : Value} {kl : Lit} (hkey : keyOf Try.prog 25 k = some kl) (hno : ¬ K k) :
    ∃ w', (Instr.mapUpdate 64 (.map (some b)) k (.bool true)).run Try.prog w = .ok () w' ∧ Met w' b (n + 1) (fun v => K v ∨ v = k) ∧ w.grownBy w' (some b) := by
  obtain ⟨es, clock, hb, F, hs, hK⟩ := h
  rcases law.find w hkey es.toList F.keys with ⟨h1, h2⟩ | ⟨j, e0, h1, h2, h3⟩
  · refine ⟨setBlock w b (.map (es.push ⟨k, .bool true, clock⟩) (clock + 1)), ?_, ⟨_, _, heap_setBlock_same hb _, ⟨by simp; omega, stamped_push F.stamped h2, ?_⟩, by simp; omega, ?_⟩, ⟨rfl, rfl, rfl, by simp [setBlock], fun i _ hi => heap_setBlock_other hb _ (fun e => hi (by rw [e]))⟩⟩
    · simp [Instr.mapUpdate, run_underlying Try.underlying64, MapKept.run_getObj_map hb, law.check w false hkey, h1, MapKept.run_setObj_map _ hb, Result.andThen, setBlock]
    · intro x hx
      simp only [Array.toList_push, List.mem_append, List.mem_singleton] at hx
      rcases hx with hx | rfl
      · exact F.reads x hx
      · refine ⟨(kl, .lit (.bool true)), ?_⟩
        unfold WideElems.rd
        rw [hkey]
        rfl
    · intro v
      show _ ↔ (K v ∨ v = k)
      rw [← hK v]
      simp only [Array.toList_push, List.mem_append, List.mem_singleton]
      constructor
      · rintro ⟨x, hx | rfl, rfl⟩
        · exact .inl ⟨x, hx, rfl⟩
        · exact .inr rfl
      · rintro (⟨x, hx, rfl⟩ | rfl)
        · exact ⟨x, .inl hx, rfl⟩
        · exact ⟨_, .inr rfl, rfl⟩
  · exact absurd ((hK k).1 ⟨e0, List.mem_of_getElem? h2, h3⟩) hno
end Go.Proofs.Ytgjmlbcpjjpegaa.RM
