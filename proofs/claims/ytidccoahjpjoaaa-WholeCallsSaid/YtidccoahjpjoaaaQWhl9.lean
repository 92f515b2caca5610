/- Numbers of any form in boxes, rows of the call's own: what is known as the calls go on. -/
import Derived.Test.YtidccoahjpjoaaaQWhl7
import Derived.Test.YtidccoahjpjoaaaQApt
set_option linter.unusedVariables false
set_option linter.unusedSimpArgs false
namespace Go.Proofs.Ytidccoahjpjoaaa
open Go Go.RowKit Q

theorem Apt.low {w : World} {lo lo' hi : Nat} {l : List (Value × List Int)} (h : Apt w lo hi l) (hl : lo' ≤ lo) : Apt w lo' hi l := ⟨fun x hx => ⟨(h.all x hx).1.mono hl, (h.all x hx).2⟩, h.dis, Nat.le_trans hl h.le⟩
structure Gm where
  g : Nat
  n : Bool
  A : Option Addr
  c : Nat
  xs : List Int
/-- boxes, rows that can be read, rows of the call's own apart from each other -/
structure Sg (w0 w : World) (l : List Gm) (rs : List (Option Addr × List Int)) (own : List (Value × List Int)) : Prop where
  box : ∀ x ∈ l, Bx w x.g x.n (.slice x.A x.xs.length x.c)
  rd : ∀ x ∈ l, Rd w x.A x.xs
  more : ∀ x ∈ rs, Rd w x.1 x.2
  apt : Apt w w0.heap.size w.heap.size own
  below : Below w0.heap.size w0 w
theorem Sg.step {w0 w w' : World} {l : List Gm} {rs : List (Option Addr × List Int)} {own : List (Value × List Int)} (h : Sg w0 w l rs own) (hb : Below w.heap.size w w') : Sg w0 w' l rs own :=
  ⟨fun x hx => (h.box x hx).below hb, fun x hx => (h.rd x hx).below hb, fun x hx => (h.more x hx).below hb, (h.apt.below hb).wider hb.size, bs2 h.below hb⟩
theorem Sg.boxed {w0 w : World} {l : List Gm} {rs : List (Option Addr × List Int)} {own : List (Value × List Int)} (h : Sg w0 w l rs own) (n : Bool) (A : Option Addr) (c : Nat) (ws : List Int) (hr : Rd w A ws) :
    Sg w0 (w.alloc (.cells #[.bool n, .slice A ws.length c] 24)) (l ++ [⟨w.heap.size, n, A, c, ws⟩]) rs own := by
  have hs := h.step (below_alloc1 w (.cells #[.bool n, .slice A ws.length c] 24))
  refine ⟨fun x hx => ?_, fun x hx => ?_, hs.more, hs.apt, hs.below⟩
  · rcases List.mem_append.1 hx with hx | hx
    · exact hs.box x hx
    · simp at hx; subst hx; exact Bx.new _ _ _
  · rcases List.mem_append.1 hx with hx | hx
    · exact hs.rd x hx
    · simp at hx; subst hx; exact hr.alloc _
theorem Sg.row {w0 w w' : World} {l : List Gm} {rs : List (Option Addr × List Int)} {own : List (Value × List Int)} (h : Sg w0 w l rs own) (hb : Below w.heap.size w w') {A : Option Addr} {c : Nat} {ws : List Int} (ho : Ow w' 58 w.heap.size (.slice A ws.length c) ws) (hw : Wds ws) (hl : ws.length ≤ 2048) :
    Sg w0 w' l rs (own ++ [(.slice A ws.length c, ws)]) :=
  ⟨(h.step hb).box, (h.step hb).rd, (h.step hb).more, h.apt.more hb (Nat.le_refl _) (Apt.one ho hw (by omega) hb.size), (h.step hb).below⟩
theorem Sg.own1 {w0 w w' : World} {l : List Gm} {rs : List (Option Addr × List Int)} {own : List (Value × List Int)} (h : Sg w0 w l rs own) (hb : Below w.heap.size w w') {A : Option Addr} {c : Nat} {ws : List Int} (ho : Ow w' 58 w.heap.size (.slice A ws.length c) ws) (n : Bool) (hw : Wds ws) (hl : ws.length ≤ 2048) :
    Sg w0 (w'.alloc (.cells #[.bool n, .slice A ws.length c] 24)) (l ++ [⟨w'.heap.size, n, A, c, ws⟩]) rs (own ++ [(.slice A ws.length c, ws)]) :=
  (h.row hb ho hw hl).boxed n A c ws ho.read.2.2.2
theorem Sg.ref1 {w0 w w' : World} {l : List Gm} {rs : List (Option Addr × List Int)} {own : List (Value × List Int)} (h : Sg w0 w l rs own) (hb : Below w.heap.size w w') {A : Option Addr} {c : Nat} {ws : List Int} (ho : Ow w' 58 w.heap.size (.slice A ws.length c) ws) (n : Bool) :
    Sg w0 (w'.alloc (.cells #[.bool n, .slice A ws.length c] 24)) (l ++ [⟨w'.heap.size, n, A, c, ws⟩]) rs own :=
  (h.step hb).boxed n A c ws ho.read.2.2.2
theorem Sg.two {w0 w : World} {l : List Gm} {rs : List (Option Addr × List Int)} {own : List (Value × List Int)} (h : Sg w0 w l rs own) (n m : Bool) (A A' : Option Addr) (c c' : Nat) (xs ys : List Int) (hr : Rd w A xs) (hr' : Rd w A' ys) :
    Sg w0 ((w.alloc (.cells #[.bool n, .slice A xs.length c] 24)).alloc (.cells #[.bool m, .slice A' ys.length c'] 24)) (l ++ [⟨w.heap.size, n, A, c, xs⟩, ⟨w.heap.size + 1, m, A', c', ys⟩]) rs own := by
  have h1 := (h.boxed n A c xs hr).boxed m A' c' ys (hr'.alloc _)
  rw [World.size_alloc] at h1
  simpa using h1
theorem Sg.own2 {w0 w w' : World} {l : List Gm} {rs : List (Option Addr × List Int)} {own : List (Value × List Int)} (h : Sg w0 w l rs own) (hb : Below w.heap.size w w') {A A' : Option Addr} {c c' : Nat} {xs ys : List Int} (ho : Ow w' 58 w.heap.size (.slice A xs.length c) xs) (ho' : Ow w' 58 w.heap.size (.slice A' ys.length c') ys) (ha : Apart2 (.slice A xs.length c) (.slice A' ys.length c')) (n m : Bool) (hw : Wds xs) (hl : xs.length ≤ 2048) (hw' : Wds ys) (hl' : ys.length ≤ 2048) :
    Sg w0 ((w'.alloc (.cells #[.bool n, .slice A xs.length c] 24)).alloc (.cells #[.bool m, .slice A' ys.length c'] 24)) (l ++ [⟨w'.heap.size, n, A, c, xs⟩, ⟨w'.heap.size + 1, m, A', c', ys⟩]) rs (own ++ [(.slice A xs.length c, xs), (.slice A' ys.length c', ys)]) := by
  have h1 : Sg w0 w' l rs (own ++ [(.slice A xs.length c, xs), (.slice A' ys.length c', ys)]) :=
    ⟨(h.step hb).box, (h.step hb).rd, (h.step hb).more, h.apt.more hb (Nat.le_refl _) (Apt.two ho ho' ha hw hw' (by omega) (by omega) hb.size), (h.step hb).below⟩
  exact h1.two n m A A' c c' xs ys ho.read.2.2.2 ho'.read.2.2.2
theorem Sg.ref2 {w0 w w' : World} {l : List Gm} {rs : List (Option Addr × List Int)} {own : List (Value × List Int)} (h : Sg w0 w l rs own) (hb : Below w.heap.size w w') {A A' : Option Addr} {c c' : Nat} {xs ys : List Int} (ho : Ow w' 58 w.heap.size (.slice A xs.length c) xs) (ho' : Ow w' 58 w.heap.size (.slice A' ys.length c') ys) (n m : Bool) :
    Sg w0 ((w'.alloc (.cells #[.bool n, .slice A xs.length c] 24)).alloc (.cells #[.bool m, .slice A' ys.length c'] 24)) (l ++ [⟨w'.heap.size, n, A, c, xs⟩, ⟨w'.heap.size + 1, m, A', c', ys⟩]) rs own :=
  (h.step hb).two n m A A' c c' xs ys ho.read.2.2.2 ho'.read.2.2.2

/-- what is told is short, and made of words -/
def Wok (r : Wn) : Prop := Wds r.ws ∧ r.ws.length ≤ 2048
theorem wok_told (v : Int) : Wok (toldW v) := ⟨toldW_wds v, toldW_len v⟩
theorem wok_no (e : Int) : Wok (noW e) := ⟨noW_wds e, noW_len e⟩
theorem wok_neg (n : Bool) (xs : List Int) : Wok (negW n xs) := by unfold negW; split; exact wok_told _; exact wok_no _
theorem wok_abs (n : Bool) (xs : List Int) : Wok (absW n xs) := by unfold absW; split; exact wok_told _; exact wok_no _
theorem wok_add (n : Bool) (xs : List Int) (m : Bool) (ys : List Int) : Wok (addW n xs m ys) := by unfold addW; split; exact wok_told _; exact wok_no _
theorem wok_sub (n : Bool) (xs : List Int) (m : Bool) (ys : List Int) : Wok (subW n xs m ys) := by unfold subW; split; exact wok_told _; exact wok_no _
theorem wok_mul (n : Bool) (xs : List Int) (m : Bool) (ys : List Int) : Wok (mulW n xs m ys) := by unfold mulW; split; exact wok_told _; exact wok_no _
theorem wok_gcd (n : Bool) (xs : List Int) (m : Bool) (ys : List Int) : Wok (gcdW n xs m ys) := by unfold gcdW; split; exact wok_told _; exact wok_no _
theorem wok_quo (n : Bool) (xs : List Int) (m : Bool) (ys : List Int) : Wok (quoW n xs m ys) := by
  unfold quoW; split
  · split; exact wok_no _; exact wok_told _
  · exact wok_no _
theorem wok_rem (n : Bool) (xs : List Int) (m : Bool) (ys : List Int) : Wok (remW n xs m ys) := by
  unfold remW; split
  · split; exact wok_no _; exact wok_told _
  · exact wok_no _
theorem alloc_cell {w : World} {b i : Nat} {o : Obj} {v : Value} (h : w.cell? ⟨b, i, none⟩ = some v) : (w.alloc o).cell? ⟨b, i, none⟩ = some v := by
  rw [← h]; exact Below.cell (below_alloc1 w o) (World.block_lt_of_cell? w _ h)
theorem lent_cut (xs : List Int) : (lent xs).take xs.length = xs := by unfold lent; exact List.take_left
theorem bx_new' {w : World} {g : Nat} {n : Bool} {v : Value} (h : g = w.heap.size) : Bx (w.alloc (.cells #[.bool n, v] 24)) g n v := by rw [h]; exact Bx.new w n v
/-- two numbers are lent: the boxes that hold them -/
theorem lents_fin2 {w wf : World} {g5 g6 hi : Nat} {n m : Bool} {A A' A1 A2 : Option Addr} {c c' c1 c2 : Nat} {xs ys : List Int} (h : In w A c xs) (h' : In w A' c' ys)
    (hbf : Below w.heap.size w wf) (bx : Bx wf w.heap.size n (.slice A xs.length c)) (by' : Bx wf (w.heap.size + 1) m (.slice A' ys.length c'))
    (b5 : Bx wf g5 n (.slice A1 xs.length c1)) (b6 : Bx wf g6 m (.slice A2 ys.length c2))
    (f1 : Ow wf 58 w.heap.size (.slice A1 (lent xs).length c1) (lent xs)) (f2 : Ow wf 58 w.heap.size (.slice A2 (lent ys).length c2) (lent ys))
    (r1 : ∀ k, (Value.slice A1 (lent xs).length c1).ownBlock = some k → k < hi) (r2 : ∀ k, (Value.slice A2 (lent ys).length c2).ownBlock = some k → hi ≤ k) :
    Hid (Sg w wf [⟨w.heap.size, n, A, c, xs⟩, ⟨w.heap.size + 1, m, A', c', ys⟩, ⟨g5, n, A1, c1, xs⟩, ⟨g6, m, A2, c2, ys⟩] [(A1, lent xs), (A2, lent ys)] [(.slice A1 xs.length c1, xs), (.slice A2 ys.length c2, ys)]) := by
  have q1 := f1.cut (m := xs.length) (by rw [lent_length]; omega)
  have q2 := f2.cut (m := ys.length) (by rw [lent_length]; omega)
  rw [lent_cut] at q1 q2
  have blk : ∀ {A : Option Addr} {k k' c : Nat}, (Value.slice A k c).ownBlock = (Value.slice A k' c).ownBlock := fun {A k k' c} => by
    cases A with
    | none => rfl
    | some ad => rfl
  have ap : Apart2 (.slice A1 xs.length c1) (.slice A2 ys.length c2) := by
    by_cases hn : (Value.slice A1 xs.length c1).ownBlock = none
    · exact .inl hn
    · obtain ⟨k, hk⟩ := Option.ne_none_iff_exists'.1 hn
      refine .inr fun e => ?_
      have a := r1 k (by rw [← hk]; exact blk)
      have b := r2 k (by rw [← hk, e]; exact blk)
      omega
  refine ⟨fun x hx => ?_, fun x hx => ?_, fun x hx => ?_, Apt.two q1 q2 ap h.wds h'.wds h.small h'.small hbf.size, hbf⟩
  · simp at hx
    rcases hx with rfl | rfl | rfl | rfl
    · exact bx
    · exact by'
    · exact b5
    · exact b6
  · simp at hx
    rcases hx with rfl | rfl | rfl | rfl
    · exact (h.below hbf).rd
    · exact (h'.below hbf).rd
    · exact q1.read.2.2.2
    · exact q2.read.2.2.2
  · simp at hx
    rcases hx with rfl | rfl
    · exact f1.read.2.2.2
    · exact f2.read.2.2.2
end Go.Proofs.Ytidccoahjpjoaaa
