import Derived.Test.YtgjmlbcpjjpegaaProg
import Derived.Maps.Own
import Derived.DeepKeys4
import Derived.Below
import Derived.KernelRfl
/- A map of rotors to true that the call makes: which keys it holds. -/
set_option linter.unusedVariables false
namespace Go.Proofs.Ytgjmlbcpjjpegaa.RM
open Go Go.Maps Go.ChangeShapes Go.ChangeMaps Go.WideElems Go.MapKept Go.WideMaps
open Go.Maps (Keyed)
theorem laidOut : laidOutB Try.prog = true := by kernel_rfl
theorem law : Keyed Try.prog 25 := Keyed.of_law (deep_law_laid laidOut (m := 2) (by omega) (of_decide_eq_true (by kernel_rfl)) (by kernel_rfl) (by kernel_rfl))
theorem zero (w : World) : (zeroValue 4).run Try.prog w = .ok (.bool false) w := by kernel_rfl
def key (a b : Int) : Value := .agg #[.int .i32 a, .int .i32 b]
def Rb (v : Value) : Option (DataW Nat × List MemPlace) := match v with | .bool true => some (.lit (.bool true), []) | _ => none
theorem Rb_true : Rb (.bool true) = some (.lit (.bool true), []) := rfl
theorem Rb_inv {v : Value} {z : DataW Nat × List MemPlace} (h : Rb v = some z) : v = .bool true := by
  unfold Rb at h
  split at h
  · rfl
  · cases h
def Met (w : World) (b n : Nat) (K : Value → Prop) : Prop :=
  ∃ es clock, w.heap[b]? = some (.map es clock) ∧ Fit Try.prog 25 Rb es clock ∧ es.size ≤ n ∧ ∀ v, (∃ x ∈ es.toList, x.key = v) ↔ K v
theorem Met.made (w : World) : Met (w.alloc (.map #[] 0)) w.heap.size 0 (fun _ => False) :=
  ⟨#[], 0, (MapKept.heap_alloc w _).1, ⟨by simp, stamped_empty 0, by simp⟩, Nat.le_refl _, by simp⟩
theorem Met.lt {w : World} {b n : Nat} {K : Value → Prop} (h : Met w b n K) : b < w.heap.size := by
  obtain ⟨es, clock, hb, _⟩ := h
  exact (Array.getElem?_eq_some_iff.1 hb).1
theorem Met.kept {w w' : World} {b n : Nat} {K : Value → Prop} {row : Option Nat} (h : Met w b n K) (hg : w.grownBy w' row) (hne : some b ≠ row) : Met w' b n K := by
  have hlt := h.lt
  obtain ⟨es, clock, hb, F, hs, hD⟩ := h
  exact ⟨es, clock, (hg.block b hlt hne).trans hb, F, hs, hD⟩
theorem Met.below {w w' : World} {b n : Nat} {K : Value → Prop} {B : Nat} (h : Met w b n K) (hg : Go.RowKit.Below B w w') (hB : b < B) : Met w' b n K := by
  obtain ⟨es, clock, hb, F, hs, hD⟩ := h
  exact ⟨es, clock, (hg.block b hB).trans hb, F, hs, hD⟩
theorem Met.look {w : World} {b n : Nat} {K : Value → Prop} (h : Met w b n K) {k : Value} {kl : Lit} (hkey : keyOf Try.prog 25 k = some kl) :
    ∃ c : Bool, (Instr.lookup 64 (.map (some b)) k false).run Try.prog w = .ok (.bool c) w ∧ (c = true ↔ K k) := by
  obtain ⟨es, clock, hb, F, _, hK⟩ := h
  rcases Maps.fit_look false law Try.underlying64 (zero w) hb F hkey with ⟨hrun, hne, _⟩ | ⟨e0, y, hm, hk, hrun, hR, _, _⟩
  · refine ⟨false, hrun, ?_⟩
    constructor
    · intro h; cases h
    · intro h
      obtain ⟨x, hx, he⟩ := (hK k).2 h
      exact absurd he (hne x hx)
  · refine ⟨true, ?_, ?_⟩
    · rw [Rb_inv hR] at hrun
      exact hrun
    · exact ⟨fun _ => (hK k).1 ⟨e0, hm, hk⟩, fun _ => rfl⟩
theorem Met.store {w : World} {b n : Nat} {K : Value → Prop} (h : Met w b n K) (hn : n < maxLen) {k : Value} {kl : Lit} (hkey : keyOf Try.prog 25 k = some kl) (hno : ¬ K k) :
    ∃ w', (Instr.mapUpdate 64 (.map (some b)) k (.bool true)).run Try.prog w = .ok () w' ∧ Met w' b (n + 1) (fun v => K v ∨ v = k) ∧ w.grownBy w' (some b) := by
  obtain ⟨es, clock, hb, F, hs, hK⟩ := h
  rcases law.find w hkey es.toList F.keys with ⟨h1, h2⟩ | ⟨j, e0, h1, h2, h3⟩
  · refine ⟨setBlock w b (.map (es.push ⟨k, .bool true, clock⟩) (clock + 1)), ?_, ⟨_, _, heap_setBlock_same hb _, ⟨by simp; omega, stamped_push F.stamped h2, ?_⟩, by simp; omega, ?_⟩, ⟨rfl, rfl, rfl, by simp [setBlock], fun i _ hi => heap_setBlock_other hb _ (fun e => hi (by rw [e]))⟩⟩
    · simp [Instr.mapUpdate, run_underlying Try.underlying64, MapKept.run_getObj_map hb, law.check w false hkey, h1, MapKept.run_setObj_map _ hb, Result.andThen, setBlock]
    · intro x hx
      simp only [Array.toList_push, List.mem_append, List.mem_singleton] at hx
      rcases hx with hx | rfl
      · exact F.reads x hx
      · refine ⟨(kl, .lit (.bool true)), ?_⟩
        unfold WideElems.rd
        rw [hkey]
        rfl
    · intro v
      show _ ↔ (K v ∨ v = k)
      rw [← hK v]
      simp only [Array.toList_push, List.mem_append, List.mem_singleton]
      constructor
      · rintro ⟨x, hx | rfl, rfl⟩
        · exact .inl ⟨x, hx, rfl⟩
        · exact .inr rfl
      · rintro (⟨x, hx, rfl⟩ | rfl)
        · exact ⟨x, .inl hx, rfl⟩
        · exact ⟨_, .inr rfl, rfl⟩
  · exact absurd ((hK k).1 ⟨e0, List.mem_of_getElem? h2, h3⟩) hno
theorem kl32 (n : Nat) {a : Int} (hw : (Lit.int .i32 a).wf = true) : Try.prog.keyLits (n + 1) 21 [.int .i32 a] = some [.int .i32 a] := by
  unfold Program.keyLits
  rw [Try.underlying21]
  simp [hw]
theorem cells32 : Try.prog.cellsOf 21 = 1 := by kernel_rfl
theorem cellsR : Try.prog.cellsOf 25 = 2 := by kernel_rfl
theorem klR (n : Nat) {a b : Int} (ha : (Lit.int .i32 a).wf = true) (hb : (Lit.int .i32 b).wf = true) : Try.prog.keyLits (n + 2) 25 [.int .i32 a, .int .i32 b] = some [.int .i32 a, .int .i32 b] := by
  unfold Program.keyLits
  rw [Try.underlying25]
  simp [cells32, cellsR, kl32 n ha, kl32 n hb]
theorem wf32 {a : Int} (h : -2147483648 ≤ a ∧ a < 2147483648) : (Lit.int .i32 a).wf = true := by
  simp [Lit.wf, IntKind.min, IntKind.max, IntKind.bits, IntKind.signed]
  omega
theorem keyTy : Try.prog.keyType 25 = true := by kernel_rfl
theorem some_types : ∃ n, Try.prog.types.size + 1 = n + 2 := ⟨Try.prog.types.size - 1, by
  have h : 0 < Try.prog.types.size := of_decide_eq_true (by kernel_rfl)
  omega⟩
theorem key_of {a b : Int} (ha : -2147483648 ≤ a ∧ a < 2147483648) (hb : -2147483648 ≤ b ∧ b < 2147483648) : ∃ kl, keyOf Try.prog 25 (key a b) = some kl := by
  have hf : (key a b).formed Try.prog 25 = true := by
    unfold key Value.formed
    simp only [Try.underlying25, cellsR]
    rfl
  refine ⟨.string (keyBytes [.int .i32 a, .int .i32 b]), ?_⟩
  unfold keyOf
  simp only [Try.underlying25]
  rw [keyTy, hf]
  obtain ⟨n, hn⟩ := some_types
  rw [hn]
  have := klR n (wf32 ha) (wf32 hb)
  have e : (key a b).cells.toList = [.int .i32 a, .int .i32 b] := rfl
  rw [e, this]
  rfl
theorem key_inj {a b c d : Int} (h : key a b = key c d) : a = c ∧ b = d := by
  unfold key at h
  simp at h
  exact h
theorem wpList_lookup_met {w : World} {ops : Array Oper} {rest : List Oper} {o : Oper} {a : Act} {Q : Exit → Act → World → Prop}
    (hg : o.guard = none) (m x : Operand) (hop : o.op = Op.lookup 64 m x false) (b n : Nat) (K : Value → Prop)
    (hm : a.eval m = .map (some b)) (hown : Met w b n K) (k : Value) (kl : Lit) (hx : a.eval x = k) (hkey : keyOf Try.prog 25 k = some kl)
    (hK : ∀ c : Bool, (c = true ↔ K k) → wpList Try.prog ops Q rest (a.put o.dst (.bool c)) w) :
    wpList Try.prog ops Q (o :: rest) a w := by
  refine wpList_plain hg fun K' hK' => ?_
  obtain ⟨c, hrun, hat⟩ := hown.look hkey
  unfold Oper.wp
  simp [execOp, hop, hm, hx, hrun, Result.andThen]
  exact hK' _ _ (hK c hat)
theorem wpList_mapUpdate_met {w : World} {ops : Array Oper} {rest : List Oper} {o : Oper} {a : Act} {Q : Exit → Act → World → Prop}
    (hg : o.guard = none) (m x v : Operand) (hop : o.op = Op.mapUpdate 64 m x v) (b n : Nat) (K : Value → Prop)
    (hm : a.eval m = .map (some b)) (hown : Met w b n K) (hn : n < maxLen) (k : Value) (kl : Lit) (hx : a.eval x = k) (hv : a.eval v = .bool true) (hkey : keyOf Try.prog 25 k = some kl) (hno : ¬ K k)
    (hK : ∀ w', Met w' b (n + 1) (fun v => K v ∨ v = k) → w.grownBy w' (some b) → wpList Try.prog ops Q rest (a.put o.dst undef) w') :
    wpList Try.prog ops Q (o :: rest) a w := by
  refine wpList_plain hg fun K' hK' => ?_
  obtain ⟨w', hrun, r1, r2⟩ := hown.store hn hkey hno
  unfold Oper.wp
  simp [execOp, hop, hm, hx, hv, hrun, Result.andThen]
  exact hK' _ _ (hK w' r1 r2)
end Go.Proofs.Ytgjmlbcpjjpegaa.RM
