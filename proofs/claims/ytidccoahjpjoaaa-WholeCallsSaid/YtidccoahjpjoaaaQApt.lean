/- Rows that share no memory, gathered call by call, in whatever order. -/
import Derived.Test.YtidccoahjpjoaaaQApart
import Derived.Test.YtidccoahjpjoaaaQNat8
set_option linter.unusedVariables false
set_option linter.unusedSimpArgs false
namespace Go.Proofs.Ytidccoahjpjoaaa
open Go Go.RowKit Q

theorem Apart2.symm {u v : Value} (h : Apart2 u v) : Apart2 v u := by
  rcases h with h | h
  · by_cases hv : v.ownBlock = none
    · exact .inl hv
    · exact .inr (by rw [h]; exact hv)
  · exact .inr (Ne.symm h)
/-- rows of the call's own, made between two sizes of the heap, apart from each other -/
structure Apt (w : World) (lo hi : Nat) (l : List (Value × List Int)) : Prop where
  all : ∀ x ∈ l, Ow w 58 lo x.1 x.2 ∧ (∀ k, x.1.ownBlock = some k → k < hi) ∧ Wds x.2 ∧ x.2.length * 4 ≤ 140737488351232
  dis : l.Pairwise (fun a b => Apart2 a.1 b.1)
  le : lo ≤ hi
theorem Apt.nil (w : World) (n : Nat) : Apt w n n [] := ⟨fun x hx => by simp at hx, List.Pairwise.nil, Nat.le_refl _⟩
theorem Apt.one {w : World} {lo : Nat} {v : Value} {xs : List Int} (h : Ow w 58 lo v xs) (hw : Wds xs) (hs : xs.length * 4 ≤ 140737488351232) (hl : lo ≤ w.heap.size) : Apt w lo w.heap.size [(v, xs)] :=
  ⟨fun x hx => by simp at hx; subst hx; exact ⟨h, fun k hk => (h.base k hk).2, hw, hs⟩, List.pairwise_singleton _ _, hl⟩
theorem Apt.two {w : World} {lo : Nat} {u v : Value} {xs ys : List Int} (h : Ow w 58 lo u xs) (h' : Ow w 58 lo v ys) (ha : Apart2 u v) (hw : Wds xs) (hw' : Wds ys) (hs : xs.length * 4 ≤ 140737488351232) (hs' : ys.length * 4 ≤ 140737488351232) (hl : lo ≤ w.heap.size) : Apt w lo w.heap.size [(u, xs), (v, ys)] :=
  ⟨fun x hx => by
    simp at hx
    rcases hx with rfl | rfl
    · exact ⟨h, fun k hk => (h.base k hk).2, hw, hs⟩
    · exact ⟨h', fun k hk => (h'.base k hk).2, hw', hs'⟩,
   by simpa using ha, hl⟩
theorem Apt.below {w w' : World} {lo hi : Nat} {l : List (Value × List Int)} (h : Apt w lo hi l) (hb : Below w.heap.size w w') : Apt w' lo hi l :=
  ⟨fun x hx => ⟨(h.all x hx).1.below hb, (h.all x hx).2⟩, h.dis, h.le⟩
theorem Apt.wider {w : World} {lo hi hi' : Nat} {l : List (Value × List Int)} (h : Apt w lo hi l) (hh : hi ≤ hi') : Apt w lo hi' l :=
  ⟨fun x hx => ⟨(h.all x hx).1, fun k hk => Nat.lt_of_lt_of_le ((h.all x hx).2.1 k hk) hh, (h.all x hx).2.2⟩, h.dis, Nat.le_trans h.le hh⟩
theorem Apt.append {w : World} {lo m hi : Nat} {l r : List (Value × List Int)} (h : Apt w lo m l) (k : Apt w m hi r) : Apt w lo hi (l ++ r) := by
  refine ⟨fun x hx => ?_, List.pairwise_append.2 ⟨h.dis, k.dis, fun a ha b hb => ?_⟩, Nat.le_trans h.le k.le⟩
  · rcases List.mem_append.1 hx with hx | hx
    · obtain ⟨a, b, c⟩ := h.all x hx
      exact ⟨a, fun j hj => Nat.lt_of_lt_of_le (b j hj) k.le, c⟩
    · obtain ⟨a, b, c⟩ := k.all x hx
      exact ⟨a.mono h.le, b, c⟩
  · cases hv : a.1.ownBlock with
    | none => exact .inl hv
    | some j =>
      refine .inr fun he => ?_
      have h1 := (h.all a ha).2.1 j hv
      have h2 := ((k.all b hb).1.base j (by rw [← he]; exact hv)).1
      omega
/-- the rows of one more call -/
theorem Apt.more {w w' : World} {lo hi hi' : Nat} {l r : List (Value × List Int)} (h : Apt w lo hi l) (hb : Below w.heap.size w w') (hh : hi ≤ w.heap.size) (k : Apt w' w.heap.size hi' r) : Apt w' lo hi' (l ++ r) :=
  ((h.below hb).wider hh).append k
theorem Apt.perm {w : World} {lo hi : Nat} {l r : List (Value × List Int)} (h : Apt w lo hi l) (p : l.Perm r) : Apt w lo hi r :=
  ⟨fun x hx => h.all x (p.mem_iff.2 hx), (p.pairwise_iff (fun h => Apart2.symm h)).1 h.dis, h.le⟩
theorem nv_map {l : List (Value × List Int)} {i : Nat} (h : i < l.length) : nv (l.map Prod.fst) i = (l[i]).1 := by simp [nv, h]
theorem nx_map {l : List (Value × List Int)} {i : Nat} (h : i < l.length) : nx (l.map Prod.snd) i = (l[i]).2 := by simp [nx, h]
theorem nx_over {l : List (Value × List Int)} {i : Nat} (h : l.length ≤ i) : nx (l.map Prod.snd) i = [] := by simp [nx, h]
theorem Apt.rows {w : World} {B hi : Nat} {l : List (Value × List Int)} (h : Apt w B hi l) (hh : hi ≤ w.heap.size) :
    Rows (w.alloc (.cells (l.map Prod.fst).toArray 22)) (some ⟨w.heap.size, 0, none⟩) B (l.map Prod.fst) (l.map Prod.snd) := {
  cell := fun i hi => ⟨_, rfl, by rw [add_plain]; exact (Blk.new w 22 (l.map Prod.fst)).cell (nv_get hi)⟩
  far := fun ad e i hlt he => by
    cases e
    have hl : i < l.length := by simpa using hlt
    rw [nv_map hl] at he
    exact absurd ((h.all _ (List.getElem_mem hl)).2.1 _ he) (Nat.not_lt.2 hh)
  own := fun i hlt => by
    have hl : i < l.length := by simpa using hlt
    rw [nv_map hl, nx_map hl]
    exact (h.all _ (List.getElem_mem hl)).1.alloc _
  dis := fun i j hi hj hne => by
    have hi' : i < l.length := by simpa using hi
    have hj' : j < l.length := by simpa using hj
    rw [nv_map hi', nv_map hj']
    have hp := List.pairwise_iff_getElem.1 h.dis
    rcases Nat.lt_or_gt_of_ne hne with h1 | h1
    · exact hp i j hi' hj' h1
    · exact (hp j i hj' hi' h1).symm
  wds := fun i => by
    by_cases hl : i < l.length
    · rw [nx_map hl]; exact (h.all _ (List.getElem_mem hl)).2.2.1
    · rw [nx_over (by omega)]; exact Wds.nil
  small := fun i => by
    by_cases hl : i < l.length
    · rw [nx_map hl]; exact (h.all _ (List.getElem_mem hl)).2.2.2
    · rw [nx_over (by omega)]; simp }
end Go.Proofs.Ytidccoahjpjoaaa
