import Derived.WalkKit
import Derived.WalkSpells
import Derived.WalkLawsBesides
import Derived.Test.YtgjmlbcpjjpegaaQPlain
/- Rows of words in memory: read, or of the call's own; the laws of append and make over them. -/
set_option linter.unusedVariables false
set_option linter.unusedSimpArgs false
namespace Q
open Go Go.RowKit

theorem hid {p : Prop} (h : p) : Hid p := h
/-- the world has been asked, no more -/
def Dr (w w' : World) : Prop := ∃ n, w' = w.drewN n
theorem Dr.refl (w : World) : Dr w w := ⟨0, rfl⟩
theorem Dr.step {w w' : World} (h : Dr w w') (n : Nat) : Dr w (w'.drewN n) := by
  obtain ⟨m, rfl⟩ := h
  exact ⟨m + n, by simp [World.drewN, Nat.add_assoc]⟩
theorem Dr.below {w w' : World} (h : Dr w w') (B : Nat) : Below B w w' := by
  obtain ⟨m, rfl⟩ := h
  exact ⟨rfl, rfl, rfl, Nat.le_refl _, fun _ _ => rfl⟩
/-- words as values -/
def ws (xs : List Int) : List Value := xs.map (Value.int .u32)
theorem ws_length (xs : List Int) : (ws xs).length = xs.length := by simp [ws]
theorem ws_append (xs ys : List Int) : ws (xs ++ ys) = ws xs ++ ws ys := by simp [ws]
theorem ws_get {xs : List Int} {j : Nat} (h : j < xs.length) : (ws xs)[j]? = some (.int .u32 (wd xs j)) := by simp [ws, wd, h]
theorem ws_get' {xs : List Int} {j : Nat} {u : Value} (h : (ws xs)[j]? = some u) : j < xs.length ∧ u = .int .u32 (wd xs j) := by
  obtain ⟨hl, hu⟩ := List.getElem?_eq_some_iff.1 h
  rw [ws_length] at hl
  rw [ws_get hl] at h
  exact ⟨hl, (Option.some.inj h).symm⟩
theorem ws_one (xs : List Int) : ∀ u ∈ ws xs, u.oneCell' = true := by
  intro u hu; simp only [ws, List.mem_map] at hu; obtain ⟨x, _, rfl⟩ := hu; rfl
theorem ws_take (xs : List Int) (n : Nat) : (ws xs).take n = ws (xs.take n) := by simp [ws, List.map_take]
theorem ws_set (xs : List Int) (i : Nat) (x : Int) : (ws xs).set i (.int .u32 x) = ws (xs.set i x) := by simp [ws, List.map_set]

/-- words that can be read -/
def Rd (w : World) (A : Option Addr) (xs : List Int) : Prop := ∀ i, i < xs.length → ∃ ad, A = some ad ∧ w.cell? (ad.add i) = some (.int .u32 (wd xs i))
theorem add_block (a : Addr) (i : Nat) : (a.add i).block = a.block := by unfold Addr.add; split <;> rfl
theorem add_plain (g j : Nat) : (⟨g, 0, none⟩ : Addr).add j = ⟨g, j, none⟩ := by unfold Addr.add; split <;> simp_all
theorem Rd.nil (w : World) (A : Option Addr) : Rd w A [] := fun i h => by simp at h
theorem Rd.below {w w' : World} {A : Option Addr} {xs : List Int} (h : Rd w A xs) (hb : Below w.heap.size w w') : Rd w' A xs := fun i hi => by
  obtain ⟨ad, e, hc⟩ := h i hi
  exact ⟨ad, e, (hb.cell (World.block_lt_of_cell? w _ hc)).trans hc⟩
theorem Rd.grown {w w' : World} {A : Option Addr} {xs : List Int} {row : Option Nat} (h : Rd w A xs) (hg : w.grownBy w' row) (hne : ∀ ad, A = some ad → some ad.block ≠ row) : Rd w' A xs := fun i hi => by
  obtain ⟨ad, e, hc⟩ := h i hi
  exact ⟨ad, e, hg.cell hc (by rw [add_block]; exact hne ad e)⟩
theorem Rd.alloc {w : World} {A : Option Addr} {xs : List Int} (h : Rd w A xs) (o : Obj) : Rd (w.alloc o) A xs := h.below ((Below.refl _ _).alloc (Nat.le_refl _) o)
theorem Rd.drewN {w : World} {A : Option Addr} {xs : List Int} (h : Rd w A xs) (n : Nat) : Rd (w.drewN n) A xs := h
theorem Rd.take {w : World} {A : Option Addr} {xs : List Int} (h : Rd w A xs) (n : Nat) : Rd w A (xs.take n) := fun i hi => by
  rw [List.length_take] at hi
  obtain ⟨ad, e, hc⟩ := h i (by omega)
  exact ⟨ad, e, by rw [wd_take (by omega)]; exact hc⟩
theorem Rd.at {w : World} {A : Option Addr} {xs : List Int} (h : Rd w A xs) {i : Nat} (hi : i < xs.length) : ∃ ad, A = some ad ∧ w.cell? (ad.add i) = some (.int .u32 (wd xs i)) := h i hi

/-- a row of words of the call's own -/
def Ow (w : World) (e B : Nat) (v : Value) (xs : List Int) : Prop := w.ownsRow B e 1 v xs.length (ws xs)
theorem Ow.nil (w : World) (e B : Nat) : Ow w e B (.slice none 0 0) [] := World.ownsRow_nil w B e 1
theorem Ow.slice {w : World} {e B : Nat} {v : Value} {xs : List Int} (h : Ow w e B v xs) : ∃ A c, v = .slice A xs.length c ∧ xs.length ≤ c ∧ c ≤ maxLen ∧ Rd w A xs ∧ (∀ ad, A = some ad → v.ownBlock = some ad.block) := by
  rcases h.2 with ⟨rfl, h0⟩ | ⟨g, cap, cur, rfl, hb, hg, hn, hm, hs, ht⟩
  · exact ⟨none, 0, by rw [h0], by omega, by simp [maxLen], fun i hi => by omega, fun ad e => by cases e⟩
  · refine ⟨some ⟨g, 0, none⟩, cap, rfl, hn, hm, fun i hi => ⟨_, rfl, ?_⟩, fun ad e => by cases e; rfl⟩
    exact World.ownsRow.cells h (g := g) rfl i _ (ws_get hi)
theorem Ow.read {w : World} {e B c n : Nat} {A : Option Addr} {xs : List Int} (h : Ow w e B (.slice A n c) xs) : n = xs.length ∧ xs.length ≤ c ∧ c ≤ maxLen ∧ Rd w A xs := by
  obtain ⟨A', c', e, h1, h2, h3, _⟩ := h.slice
  injection e with e1 e2 e3
  subst e1 e2 e3
  exact ⟨rfl, h1, h2, h3⟩
theorem Ow.base {w : World} {e B : Nat} {v : Value} {xs : List Int} (h : Ow w e B v xs) : ∀ k, v.ownBlock = some k → B ≤ k ∧ k < w.heap.size := World.ownsRow.lt h
theorem Ow.mono {w : World} {e B B' : Nat} {v : Value} {xs : List Int} (h : Ow w e B v xs) (hB : B' ≤ B) : Ow w e B' v xs := by
  refine ⟨h.1, ?_⟩
  rcases h.2 with h2 | ⟨g, cap, cur, hv, hb, r⟩
  · exact .inl h2
  · exact .inr ⟨g, cap, cur, hv, Nat.le_trans hB hb, r⟩
theorem Ow.grown {w w' : World} {e B : Nat} {v : Value} {xs : List Int} {row : Option Nat} (h : Ow w e B v xs) (hg : w.grownBy w' row) (hne : v.ownBlock = none ∨ v.ownBlock ≠ row) : Ow w' e B v xs := World.ownsRow.kept h hg hne
theorem grown_of_below {w w1 : World} (h : Below w.heap.size w w1) (row : Option Nat) : w.grownBy w1 row := ⟨h.os, h.tape, h.output, h.size, fun i hi _ => h.block i hi⟩
theorem Ow.below {w w' : World} {e B : Nat} {v : Value} {xs : List Int} (h : Ow w e B v xs) (hb : Below w.heap.size w w') : Ow w' e B v xs := h.grown (grown_of_below hb none) (by cases v.ownBlock <;> simp)
theorem Ow.alloc {w : World} {e B : Nat} {v : Value} {xs : List Int} (h : Ow w e B v xs) (o : Obj) : Ow (w.alloc o) e B v xs := World.ownsRow.alloc h o
theorem Ow.drewN {w : World} {e B : Nat} {v : Value} {xs : List Int} (h : Ow w e B v xs) (n : Nat) : Ow (w.drewN n) e B v xs := h
/-- a fresh block of words -/
theorem Ow.lit (w : World) (e B : Nat) (xs : List Int) (hB : B ≤ w.heap.size) (hm : xs.length ≤ maxLen) : Ow (w.alloc (.cells (ws xs).toArray e)) e B (.slice (some ⟨w.heap.size, 0, none⟩) xs.length xs.length) xs := by
  refine ⟨by simp [ws_length], .inr ⟨w.heap.size, xs.length, (ws xs).toArray, rfl, hB, heap_alloc_new w _, Nat.le_refl _, hm, by simp [ws_length], ?_⟩⟩
  rw [Nat.mul_one, List.take_of_length_le (by simp [ws_length])]

theorem below_step {w0 w1 w2 : World} (h : Below w0.heap.size w0 w1) (k : Below w1.heap.size w1 w2) : Below w0.heap.size w0 w2 := h.trans (k.mono h.size)
theorem below_grown {w0 w1 w2 : World} {row : Option Nat} (h : Below w0.heap.size w0 w1) (k : w1.grownBy w2 row) (hr : ∀ k, row = some k → w0.heap.size ≤ k) : Below w0.heap.size w0 w2 := h.grown k h.size hr

section
variable {P : Program} (w : World)
/-- append of words that are read to a row of the call's own: what comes of it -/
theorem run_app (B : Nat) (t ty e : TypeId) (ht : P.underlying t = some (.slice e)) (hinfo : (P.info? e).map (fun i => (i.zero, i.size, i.bytes)) = some (some (.int .u32 0), 1, 4))
    (v : Value) (xs : List Int) (hown : Ow w e B v xs) (A : Option Addr) (c : Nat) (ys : List Int) (hr : Rd w A ys) (hl : (xs.length + ys.length) * 4 ≤ 140737488355328) (hbase : B ≤ w.heap.size) :
    ∃ v' w', (Builtin.append_ #[t, t] ty #[v, .slice A ys.length c]).run P w = .ok v' w' ∧ Ow w' e B v' (xs ++ ys) ∧ w.grownBy w' v.ownBlock ∧ (v'.ownBlock = v.ownBlock ∨ v'.ownBlock = some w.heap.size) := by
  obtain ⟨i, hi, hz, hsize, hby⟩ := info_parts hinfo
  have h63 : xs.length + ys.length ≤ maxLen := by simp only [maxLen]; omega
  cases A with
  | none =>
    have hy : ys = [] := by
      cases ys with
      | nil => rfl
      | cons y ys => obtain ⟨ad, e, _⟩ := hr 0 (by simp); cases e
    subst hy
    refine ⟨v, w, ?_, by simpa using hown, ⟨rfl, rfl, rfl, Nat.le_refl _, fun _ _ _ => rfl⟩, .inl rfl⟩
    rcases hown.2 with ⟨rfl, h0⟩ | ⟨g, cap, cur, rfl, hb, hg, hn, hm, hs, htk⟩
    · simp [Builtin.append_, run_underlying ht, Go.sizeOf, typeInfo, hi, Builtin.lenOf, Builtin.firstCells]
    · simp [Builtin.append_, run_underlying ht, Go.sizeOf, typeInfo, hi, Builtin.lenOf, Builtin.firstCells, hn, storeCells]
  | some ad =>
    have hnews : ∀ j u, (ws ys)[j]? = some u → w.cell? (ad.add j) = some u := by
      intro j u hu
      obtain ⟨hj, rfl⟩ := ws_get' hu
      obtain ⟨ad', e', hc⟩ := hr j hj
      cases e'
      exact hc
    have hl2 : (ws ys).length = ys.length * i.size := by rw [hsize, ws_length, Nat.mul_one]
    have hlen : (ws (xs ++ ys)).length = (xs ++ ys).length * 1 := by rw [ws_length, Nat.mul_one]
    -- a new block
    have fresh : ∀ (old : Nat), old < xs.length + ys.length → ∀ (row : Option Nat),
        Ow (w.drew.alloc (.cells ((ws xs).toArray ++ (ws ys).toArray ++ Builtin.zeroCells (Value.int .u32 0).cells (grownCap w (xs.length + ys.length) old e - (xs.length + ys.length))) e)) e B
          (.slice (some ⟨w.heap.size, 0, none⟩) (xs.length + ys.length) (grownCap w (xs.length + ys.length) old e)) (xs ++ ys) ∧
        w.grownBy (w.drew.alloc (.cells ((ws xs).toArray ++ (ws ys).toArray ++ Builtin.zeroCells (Value.int .u32 0).cells (grownCap w (xs.length + ys.length) old e - (xs.length + ys.length))) e)) row := by
      intro old ho row
      have hge := grownCap_ge w (xs.length + ys.length) old e
      have hcm : grownCap w (xs.length + ys.length) old e ≤ maxLen := grownCap_le_maxLen w (xs.length + ys.length) old e h63
      refine ⟨⟨hlen, .inr ⟨w.heap.size, _, _, by rw [List.length_append], hbase, heap_alloc_new w.drew _, by rw [List.length_append]; exact hge, hcm, ?_, ?_⟩⟩, ⟨rfl, rfl, rfl, by simp, fun k hk _ => Below.heap_alloc w.drew _ k hk⟩⟩
      · simp only [Array.size_append, List.size_toArray, size_zeroCells, ws_length]
        rw [show (Value.int .u32 0).cells.size = 1 from rfl]
        omega
      · simp only [Array.toList_append, List.append_assoc]
        rw [← List.append_assoc, ← ws_append, ← hlen]
        exact List.take_left
    rcases hown.2 with ⟨rfl, h0⟩ | ⟨g, cap, cur, rfl, hb, hg, hn, hm, hs, htk⟩
    · have hx : xs = [] := List.eq_nil_of_length_eq_zero h0
      subst hx
      by_cases hm : ys.length = 0
      · have hy : ys = [] := List.eq_nil_of_length_eq_zero hm
        subst hy
        refine ⟨.slice none 0 0, w, ?_, by simpa using hown, ⟨rfl, rfl, rfl, Nat.le_refl _, fun _ _ _ => rfl⟩, .inl rfl⟩
        simp [Builtin.append_, run_underlying ht, Go.sizeOf, typeInfo, hi, Builtin.lenOf, Builtin.firstCells, loadCells, loadCellsFrom]
      · have hr' := run_append_nil (P := P) w t ty e i _ ht hi hz ad ys.length c (ws ys) hl2 hnews (by omega) (by simp only [maxLen] at h63; simp at h63; omega) (by rw [hby]; simp only [List.length_nil] at hl; omega)
        have hf := fresh 0 (by simp; omega) (Value.ownBlock (.slice none 0 0))
        simp only [List.length_nil, Nat.zero_add, ws, List.map_nil, List.nil_append, Array.empty_append] at hf hr' ⊢
        exact ⟨_, _, hr', hf.1, hf.2, .inr rfl⟩
    · by_cases hroom : xs.length + ys.length ≤ cap
      · have hfit : xs.length * i.size + (ws ys).length ≤ cur.size := by rw [hsize, ws_length, hs]; omega
        have hr' := run_append_room (P := P) w t ty e i ht hi g xs.length cap cur hg ad ys.length c (ws ys) hl2 hnews (ws_one ys) hroom hfit
        refine ⟨_, _, hr', ⟨hlen, .inr ⟨g, cap, _, by rw [List.length_append], hb, setRow_heap w g cur _ e _ hg, by rw [List.length_append]; exact hroom, hm, ?_, ?_⟩⟩, ⟨rfl, rfl, rfl, by simp, fun k _ hk => setRow_other w g k _ (fun e => hk (by simp [Value.ownBlock, e]))⟩, .inl rfl⟩
        · simp only [List.size_toArray, List.length_append, List.length_take, List.length_drop, Array.length_toList, hsize, ws_length] at hfit ⊢
          omega
        · rw [hsize, htk, ← ws_append, ← hlen]
          exact List.take_left
      · have holds : ∀ j u, (ws xs)[j]? = some u → w.cell? ((⟨g, 0, none⟩ : Addr).add j) = some u := World.ownsRow.cells hown (g := g) rfl
        have hr' := run_append_grow (P := P) w t ty e i _ ht hi hz ⟨g, 0, none⟩ xs.length cap (ws xs) (by rw [hsize, ws_length, Nat.mul_one]) holds ad ys.length c (ws ys) hl2 hnews (by omega) (by simp only [maxLen] at h63; omega) (growslice_fits (by omega) (by rw [hby]; exact hl))
        have hf := fresh cap (by omega) (Value.ownBlock (.slice (some ⟨g, 0, none⟩) xs.length cap))
        exact ⟨_, _, hr', hf.1, hf.2, .inr rfl⟩
end
section
variable {P : Program} {w : World} {ops : Array Oper} {rest : List Oper} {o : Oper} {a : Act} {Q : Exit → Act → World → Prop}
/-- append(own, rows...) in the walk -/
theorem wp_app (hgd : o.guard = none) (s x : Operand) (t e : TypeId)
    (ho : o.op = .call { callee := .builtin .append, args := #[s, x], argTypes := #[t, t] })
    (ht : P.underlying t = some (.slice e)) (hinfo : (P.info? e).map (fun i => (i.zero, i.size, i.bytes)) = some (some (.int .u32 0), 1, 4))
    (B : Nat) (v : Value) (xs : List Int) (hs : a.eval s = v) (hown : Ow w e B v xs) (A : Option Addr) (n c : Nat) (ys : List Int) (hn : n = ys.length) (hx : a.eval x = .slice A n c) (hr : Rd w A ys)
    (hl : (xs.length + ys.length) * 4 ≤ 140737488355328) (hbase : B ≤ w.heap.size)
    (h : ∀ v' w', Ow w' e B v' (xs ++ ys) → w.grownBy w' v.ownBlock → (v'.ownBlock = v.ownBlock ∨ v'.ownBlock = some w.heap.size) → wpList P ops Q rest (a.put o.dst v') w') : wpList P ops Q (o :: rest) a w := by
  subst hn
  refine wpList_plain hgd fun K hK => ?_
  obtain ⟨v', w', hrun, h1, h2, h3⟩ := run_app (P := P) w B t o.type e ht hinfo v xs hown A c ys hr hl hbase
  unfold Oper.wp
  simp only [execOp, ho, resolve, invoke, builtin, Sem.run_bind, Sem.run_pure, Result.andThen_ok, List.map_toArray, List.map_cons, List.map_nil, hs, hx, hrun]
  exact hK _ _ (h v' w' h1 h2 h3)
end
theorem Ow.cell {w : World} {e B g n cap : Nat} {xs : List Int} (h : Ow w e B (.slice (some ⟨g, 0, none⟩) n cap) xs) {i : Nat} (hi : i < xs.length) : w.cell? ⟨g, i, none⟩ = some (.int .u32 (wd xs i)) := by
  have := World.ownsRow.cells h (g := g) rfl i _ (ws_get hi)
  rwa [add_plain] at this
theorem Ow.free {w : World} {e B g n cap : Nat} {xs : List Int} (h : Ow w e B (.slice (some ⟨g, 0, none⟩) n cap) xs) (i : Nat) : w.frozen? ⟨g, i, none⟩ = false := by
  rcases h.2 with ⟨hh, h0⟩ | ⟨g', cap', cur, hv, hb, hg, hn, hm, hsz, htk⟩
  · cases hh
  · injection hv with e1 e2 e3
    injection e1 with e1
    injection e1 with e1
    subst e1
    simp [World.frozen?, hg]
theorem Ow.store {w : World} {e B g n cap : Nat} {xs : List Int} (h : Ow w e B (.slice (some ⟨g, 0, none⟩) n cap) xs) {i : Nat} (hi : i < xs.length) (x : Int) : Ow (w.setCell ⟨g, i, none⟩ (.int .u32 x)) e B (.slice (some ⟨g, 0, none⟩) n cap) (xs.set i x) := by
  rcases h.2 with ⟨hh, h0⟩ | ⟨g', cap', cur, hv, hb, hg, hn, hm, hsz, htk⟩
  · cases hh
  · injection hv with e1 e2 e3
    injection e1 with e1
    injection e1 with e1
    subst e1 e2 e3
    refine ⟨by simp [ws_length], .inr ⟨g, cap, cur.setIfInBounds i (.int .u32 x), by simp, hb, ?_, by simpa using hn, hm, by simpa using hsz, ?_⟩⟩
    · simp only [World.setCell, Array.getElem?_modify, hg, if_true, Option.map_some]
      simp [Array.setIfInBounds]
    · rw [← ws_set, ← htk]
      simp [List.take_set]
theorem grown_set {w : World} {g i : Nat} (u : Value) : w.grownBy (w.setCell ⟨g, i, none⟩ u) (some g) := ⟨rfl, rfl, rfl, by simp [World.setCell], fun k _ hne => Below.heap_setCell _ _ _ _ (fun e => hne (by rw [e]))⟩
theorem grown_refl (w : World) (row : Option Nat) : w.grownBy w row := ⟨rfl, rfl, rfl, Nat.le_refl _, fun _ _ _ => rfl⟩
theorem grown_trans {w w1 w2 : World} {row : Option Nat} (h : w.grownBy w1 row) (k : w1.grownBy w2 row) : w.grownBy w2 row :=
  ⟨k.os.trans h.os, k.tape.trans h.tape, k.output.trans h.output, Nat.le_trans h.size k.size, fun i hi hne => (k.block i (Nat.lt_of_lt_of_le hi h.size) hne).trans (h.block i hi hne)⟩
end Q
namespace Q
open Go
end Q
namespace Q
open Go Go.RowKit
/-- n times a value, as a block has it -/
def reps (n : Nat) (z : Value) : Array Value := (List.replicate n z).toArray
theorem made_rep (z : Value) (n : Nat) (hz : z.cells = #[z]) : madeCells z.cells n = reps n z := by
  rw [hz]
  unfold reps
  apply Array.ext'
  simp only [madeCells, Array.toList_map, Array.toList_range]
  apply List.ext_getElem (by simp)
  intro i h1 h2
  simp [Nat.mod_one]
section
variable {P : Program} {w : World} {ops : Array Oper} {rest : List Oper} {o : Oper} {a : Act} {Q : Exit → Act → World → Prop}
/-- make([]T, n) in the walk, T of one cell -/
theorem wp_mk (hg : o.guard = none) (l c : Operand) (t e : TypeId) (hop : o.op = Op.makeSlice t l c)
    (z : Value) (bytes : Nat) (h1 : P.underlying t = some (.slice e)) (hinfo : (P.info? e).map (fun i => (i.zero, i.size, i.bytes)) = some (some z, 1, bytes)) (hz : z.cells = #[z])
    (L C : Int) (n : Nat) (hl : a.eval l = .int .i64 L) (hc : a.eval c = .int .i64 C) (hL : L = (n : Int)) (hC : C = (n : Int)) (b2 : bytes * n ≤ 281474976710656) (b3 : n ≤ maxLen)
    (hK : wpList P ops Q rest (a.put o.dst (.slice (some ⟨w.heap.size, 0, none⟩) n n)) (w.alloc (.cells (reps n z) e))) :
    wpList P ops Q (o :: rest) a w := by
  obtain ⟨i, hi, hz', hsize, hby⟩ := info_parts hinfo
  subst hL hC
  have hb : (i.bytes : Int) * (n : Int) ≤ 281474976710656 := by
    have h : ((i.bytes * n : Nat) : Int) ≤ 281474976710656 := by rw [hby]; omega
    rwa [Int.natCast_mul] at h
  have hrun := run_make (P := P) w t e i z h1 hi hz' .i64 .i64 (n : Int) (n : Int) (by omega) (Int.le_refl _) hb (by simp only [maxLen] at b3; omega)
  simp only [Int.toNat_natCast, hsize, Nat.mul_one, made_rep z n hz] at hrun
  refine wpList_plain hg fun K hK' => ?_
  unfold Oper.wp
  simp [execOp, hop, hl, hc, hrun, Result.andThen]
  exact hK' _ _ hK
end
theorem ws_zeros (n : Nat) : List.replicate n (Value.int .u32 0) = ws (List.replicate n 0) := by simp [ws]
theorem Ow.made (w : World) (e B n : Nat) (hB : B ≤ w.heap.size) (hm : n ≤ maxLen) : Ow (w.alloc (.cells (reps n (.int .u32 0)) e)) e B (.slice (some ⟨w.heap.size, 0, none⟩) n n) (List.replicate n 0) := by
  have := Ow.lit w e B (List.replicate n 0) hB (by simpa using hm)
  rw [← ws_zeros, List.length_replicate] at this
  exact this
/-- a block of cells -/
def Blk (w : World) (g t : Nat) (cs : List Value) : Prop := w.heap[g]? = some (.cells cs.toArray t (0, 0))
theorem Blk.new (w : World) (t : Nat) (cs : List Value) : Blk (w.alloc (.cells cs.toArray t)) w.heap.size t cs := heap_alloc_new w _
theorem Blk.made (w : World) (t n : Nat) (z : Value) : Blk (w.alloc (.cells (reps n z) t)) w.heap.size t (List.replicate n z) := heap_alloc_new w _
theorem Blk.lt {w : World} {g t : Nat} {cs : List Value} (h : Blk w g t cs) : g < w.heap.size := (Array.getElem?_eq_some_iff.1 h).1
theorem Blk.cell {w : World} {g t : Nat} {cs : List Value} (h : Blk w g t cs) {i : Nat} {u : Value} (hu : cs[i]? = some u) : w.cell? ⟨g, i, none⟩ = some u := by
  rw [cell_of_row w g i cs.toArray t (0, 0) h]; simpa using hu
theorem Blk.free {w : World} {g t : Nat} {cs : List Value} (h : Blk w g t cs) (i : Nat) : w.frozen? ⟨g, i, none⟩ = false := by
  unfold Blk at h; simp [World.frozen?, h]
theorem Blk.set {w : World} {g t : Nat} {cs : List Value} (h : Blk w g t cs) (i : Nat) (u : Value) : Blk (w.setCell ⟨g, i, none⟩ u) g t (cs.set i u) := by
  unfold Blk at *
  simp only [World.setCell, Array.getElem?_modify, h, if_true, Option.map_some]
  simp
theorem Blk.grown {w w' : World} {g t : Nat} {cs : List Value} {row : Option Nat} (h : Blk w g t cs) (hg : w.grownBy w' row) (hne : some g ≠ row) : Blk w' g t cs := (hg.block g h.lt hne).trans h
theorem Blk.below {w w' : World} {g t : Nat} {cs : List Value} (h : Blk w g t cs) (hb : Below w.heap.size w w') : Blk w' g t cs := h.grown (grown_of_below hb none) (by simp)
theorem Ow.far {w : World} {e B : Nat} {v : Value} {xs : List Int} (h : Ow w e B v xs) {g : Nat} (hne : v.ownBlock ≠ some g) (i : Nat) (u : Value) : Ow (w.setCell ⟨g, i, none⟩ u) e B v xs :=
  h.grown (grown_set u) (by cases hv : v.ownBlock with | none => exact .inl rfl | some k => exact .inr (by rw [← hv]; exact hne))
end Q
namespace Q
open Go Go.RowKit
theorem grown_of_drewN {w w1 : World} {row : Option Nat} {n : Nat} (h : (w.drewN n).grownBy w1 row) : w.grownBy w1 row := ⟨h.os, h.tape, h.output, h.size, h.block⟩
theorem below_of_drewN {w w1 : World} {B n : Nat} (h : Below B (w.drewN n) w1) : Below B w w1 := ⟨h.os, h.tape, h.output, h.size, h.block⟩
end Q
namespace Q
open Go Go.RowKit
/-- words that come in -/
structure In (w : World) (A : Option Addr) (c : Nat) (xs : List Int) : Prop where
  rd : Rd w A xs
  cap : xs.length ≤ c
  small : xs.length * 4 ≤ 140737488351232
  wds : Wds xs
theorem In.below {w w' : World} {A : Option Addr} {c : Nat} {xs : List Int} (h : In w A c xs) (hb : Below w.heap.size w w') : In w' A c xs := ⟨h.rd.below hb, h.cap, h.small, h.wds⟩
theorem In.drewN {w : World} {A : Option Addr} {c : Nat} {xs : List Int} (h : In w A c xs) (n : Nat) : In (w.drewN n) A c xs := ⟨h.rd, h.cap, h.small, h.wds⟩
theorem In.alloc {w : World} {A : Option Addr} {c : Nat} {xs : List Int} (h : In w A c xs) (o : Obj) : In (w.alloc o) A c xs := ⟨h.rd.alloc o, h.cap, h.small, h.wds⟩
theorem In.take {w : World} {A : Option Addr} {c : Nat} {xs : List Int} (h : In w A c xs) (n : Nat) : In w A c (xs.take n) :=
  ⟨h.rd.take n, Nat.le_trans (List.length_take_le' n xs) h.cap, by have := List.length_take_le' n xs; have := h.small; omega, h.wds.take n⟩
theorem In.trim {w : World} {A : Option Addr} {c : Nat} {xs : List Int} (h : In w A c xs) : In w A c (trim xs) := h.take _
theorem In.nil (w : World) (A : Option Addr) (c : Nat) : In w A c [] := ⟨Rd.nil w A, by simp, by simp, Wds.nil⟩
theorem Ow.inn {w : World} {e B : Nat} {v : Value} {xs : List Int} (h : Ow w e B v xs) (hw : Wds xs) (hs : xs.length * 4 ≤ 140737488351232) : ∃ A c, v = .slice A xs.length c ∧ In w A c xs := by
  obtain ⟨A, c, e1, h1, _, h3, _⟩ := h.slice
  exact ⟨A, c, e1, h3, h1, hs, hw⟩
theorem Ow.cut {w : World} {e B n c m : Nat} {A : Option Addr} {xs : List Int} (h : Ow w e B (.slice A n c) xs) (hm : m ≤ xs.length) : Ow w e B (.slice A m c) (xs.take m) := by
  have hlen : (xs.take m).length = m := by rw [List.length_take]; omega
  rcases h.2 with ⟨hh, h0⟩ | ⟨g, cap, cur, hv, hb, hg, hn, hx, hsz, htk⟩
  · injection hh with e1 e2 e3
    subst e1 e3
    have hx : m = 0 := by omega
    subst hx
    exact ⟨by simp [ws], .inl ⟨rfl, by simp⟩⟩
  · injection hv with e1 e2 e3
    subst e1 e2 e3
    refine ⟨by rw [ws_length, Nat.mul_one], .inr ⟨g, c, cur, by rw [hlen], hb, hg, by omega, hx, hsz, ?_⟩⟩
    rw [hlen, ← ws_take, ← htk, List.take_take, Nat.mul_one, Nat.mul_one, Nat.min_eq_left hm]
end Q
namespace Q
open Go
theorem Ow.trim {w : World} {e B n c : Nat} {A : Option Addr} {xs : List Int} (h : Ow w e B (.slice A n c) xs) : Ow w e B (.slice A (trim xs).length c) (trim xs) := by
  rw [len_trim]; exact h.cut (tl_le xs)
end Q
namespace Q
open Go
theorem add_zero' (a : Addr) : a.add 0 = a := by unfold Addr.add; simp
theorem add_pos' (a : Addr) (i : Nat) (h : 0 < i) : a.add i = ⟨a.block, a.off + i, none⟩ := by unfold Addr.add; split <;> simp_all
end Q
namespace Q
open Go Go.RowKit
theorem bs2 {w0 w1 w2 : World} (h1 : Below w0.heap.size w0 w1) (h2 : Below w1.heap.size w1 w2) : Below w0.heap.size w0 w2 := below_step h1 h2
/-- a fact is still so, whatever is made -/
def St (P : World → Prop) (w : World) : Prop := ∀ w', Below w.heap.size w w' → P w'
theorem St.step {P : World → Prop} {w w1 : World} (h : St P w) (hb : Below w.heap.size w w1) : St P w1 := fun w' h' => h w' (bs2 hb h')
end Q
namespace Q
open Go
theorem add_mid (g j i : Nat) : (⟨g, j, none⟩ : Addr).add i = ⟨g, j + i, none⟩ := by unfold Addr.add; split <;> simp_all
/-- a stretch of a row of the call's own, read -/
theorem Ow.seg {w : World} {e B g n cap : Nat} {xs : List Int} (h : Ow w e B (.slice (some ⟨g, 0, none⟩) n cap) xs) (j m : Nat) : Rd w (some ⟨g, j, none⟩) ((xs.drop j).take m) := fun i hi => by
  rw [List.length_take, List.length_drop] at hi
  refine ⟨_, rfl, ?_⟩
  rw [add_mid, h.cell (by omega), wd_take (by omega), wd_drop]
end Q
