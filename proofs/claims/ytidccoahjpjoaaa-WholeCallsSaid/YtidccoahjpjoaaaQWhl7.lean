/- Numbers in boxes of their own: what is known of them as the calls go on. -/
import Derived.Test.YtidccoahjpjoaaaQWhl6
set_option linter.unusedVariables false
set_option linter.unusedSimpArgs false
namespace Go.Proofs.Ytidccoahjpjoaaa
open Go Go.RowKit Q

/-- a number in a box: the box's block, the number, where its words lie -/
structure Nm where
  g : Nat
  v : Int
  A : Option Addr
  c : Nat
/-- rows that lie in no box g -/
def Off (A : Option Addr) (xs : List Int) (g : Nat) : Prop := xs = [] ∨ ∀ ad, A = some ad → ad.block ≠ g
theorem in_lt {w : World} {A : Option Addr} {c : Nat} {xs : List Int} (h : In w A c xs) : xs = [] ∨ ∀ ad, A = some ad → ad.block < w.heap.size := by
  cases xs with
  | nil => exact .inl rfl
  | cons x xs =>
    obtain ⟨ad, e, hc⟩ := h.rd 0 (by simp)
    refine .inr fun ad' e' => ?_
    rw [e] at e'
    cases e'
    have := World.block_lt_of_cell? w _ hc
    rwa [add_block] at this
theorem in_far {w : World} {A : Option Addr} {c g i : Nat} {xs : List Int} (h : In w A c xs) (ho : Off A xs g) (u : Value) : In (w.setCell ⟨g, i, none⟩ u) A c xs := by
  rcases ho with rfl | ho
  · exact In.nil _ _ _
  · exact ⟨h.rd.grown (grown_set u) (fun ad e => by simpa using ho ad e), h.cap, h.small, h.wds⟩
structure Nums (w0 w : World) (l : List Nm) (os : List Nat) : Prop where
  box : ∀ x ∈ l, Bx w x.g (cn x.v) (.slice x.A (cw x.v).length x.c)
  inn : ∀ x ∈ l, In w x.A x.c (cw x.v)
  oth : ∀ g ∈ os, g < w.heap.size ∧ w0.heap.size ≤ g ∧ ∀ x ∈ l, x.g ≠ g ∧ Off x.A (cw x.v) g
  below : Below w0.heap.size w0 w
theorem Nums.step {w0 w w' : World} {l : List Nm} {os : List Nat} (h : Nums w0 w l os) (hb : Below w.heap.size w w') : Nums w0 w' l os :=
  ⟨fun x hx => (h.box x hx).below hb, fun x hx => (h.inn x hx).below hb, fun g hg => ⟨Nat.lt_of_lt_of_le (h.oth g hg).1 hb.size, (h.oth g hg).2⟩, bs2 h.below hb⟩
/-- a row that a call has made -/
def Made (B : Nat) (A : Option Addr) : Prop := ∀ ad, A = some ad → B ≤ ad.block
theorem made_at {w : World} {e B n c : Nat} {A : Option Addr} {xs : List Int} (h : Ow w e B (.slice A n c) xs) : Made B A := fun ad he => by
  obtain ⟨A', c', e', _, _, _, hk⟩ := h.slice
  injection e' with e1 e2 e3
  subst e1
  exact (h.base _ (hk ad he)).1
theorem Nums.snoc {w0 w w' : World} {l : List Nm} {os : List Nat} (h : Nums w0 w l os) (hb : Below w.heap.size w w') {v : Int} {A : Option Addr} {c : Nat} (hi : In w' A c (cw v)) (hm : Made w.heap.size A) :
    Nums w0 (w'.alloc (.cells #[.bool (cn v), .slice A (cw v).length c] 24)) (l ++ [⟨w'.heap.size, v, A, c⟩]) os := by
  have hs := h.step hb
  refine ⟨fun x hx => ?_, fun x hx => ?_, fun g hg => ⟨?_, (h.oth g hg).2.1, fun x hx => ?_⟩, hs.below.alloc hs.below.size _⟩
  · rcases List.mem_append.1 hx with hx | hx
    · exact (hs.box x hx).alloc _
    · simp at hx; subst hx; exact Bx.new _ _ _
  · rcases List.mem_append.1 hx with hx | hx
    · exact (hs.inn x hx).alloc _
    · simp at hx; subst hx; exact hi.alloc _
  · rw [World.size_alloc]; exact Nat.lt_succ_of_lt (hs.oth g hg).1
  · rcases List.mem_append.1 hx with hx | hx
    · exact (hs.oth g hg).2.2 x hx
    · simp at hx; subst hx
      have := (h.oth g hg).1
      exact ⟨Nat.ne_of_gt (hs.oth g hg).1, .inr fun ad e => Nat.ne_of_gt (Nat.lt_of_lt_of_le this (hm ad e))⟩
theorem Nums.snoc2 {w0 w w' : World} {l : List Nm} {os : List Nat} (h : Nums w0 w l os) (hb : Below w.heap.size w w') {v u : Int} {A A' : Option Addr} {c c' : Nat} (hi : In w' A c (cw v)) (hm : Made w.heap.size A) (hi' : In w' A' c' (cw u)) (hm' : Made w.heap.size A') :
    Nums w0 ((w'.alloc (.cells #[.bool (cn v), .slice A (cw v).length c] 24)).alloc (.cells #[.bool (cn u), .slice A' (cw u).length c'] 24)) (l ++ [⟨w'.heap.size, v, A, c⟩, ⟨w'.heap.size + 1, u, A', c'⟩]) os := by
  have h1 := h.snoc hb hi hm
  have h2 := h1.step (below_alloc1 _ (.cells #[.bool (cn u), .slice A' (cw u).length c'] 24))
  have hsz : (w'.alloc (.cells #[.bool (cn v), .slice A (cw v).length c] 24)).heap.size = w'.heap.size + 1 := World.size_alloc _ _
  have e : l ++ [⟨w'.heap.size, v, A, c⟩, ⟨w'.heap.size + 1, u, A', c'⟩] = (l ++ [⟨w'.heap.size, v, A, c⟩]) ++ [(⟨w'.heap.size + 1, u, A', c'⟩ : Nm)] := by simp
  rw [e]
  refine ⟨fun x hx => ?_, fun x hx => ?_, fun g hg => ⟨(h2.oth g hg).1, (h.oth g hg).2.1, fun x hx => ?_⟩, h2.below⟩
  · rcases List.mem_append.1 hx with hx | hx
    · exact h2.box x hx
    · simp at hx; subst hx
      have := Bx.new (w'.alloc (.cells #[.bool (cn v), .slice A (cw v).length c] 24)) (cn u) (.slice A' (cw u).length c')
      rwa [hsz] at this
  · rcases List.mem_append.1 hx with hx | hx
    · exact h2.inn x hx
    · simp at hx; subst hx; exact (hi'.alloc _).alloc _
  · rcases List.mem_append.1 hx with hx | hx
    · exact (h2.oth g hg).2.2 x hx
    · simp at hx; subst hx
      have h3 := (h.oth g hg).1
      have h4 := hb.size
      exact ⟨by show w'.heap.size + 1 ≠ g; omega, .inr fun ad e => Nat.ne_of_gt (Nat.lt_of_lt_of_le h3 (hm' ad e))⟩
/-- a box that is written over later -/
theorem Nums.other {w0 w w' : World} {l : List Nm} {os : List Nat} (h : Nums w0 w l os) (hb : Below w.heap.size w w') (u v : Value) :
    Nums w0 (w'.alloc (.cells #[u, v] 24)) l (os ++ [w'.heap.size]) := by
  have hs := h.step hb
  refine ⟨fun x hx => (hs.box x hx).alloc _, fun x hx => (hs.inn x hx).alloc _, fun g hg => ?_, hs.below.alloc hs.below.size _⟩
  rcases List.mem_append.1 hg with hg | hg
  · have := hs.oth g hg
    exact ⟨by rw [World.size_alloc]; exact Nat.lt_succ_of_lt this.1, this.2⟩
  · simp at hg; subst hg
    refine ⟨by simp, hs.below.size, fun x hx => ⟨Nat.ne_of_lt (hs.box x hx).lt, ?_⟩⟩
    rcases in_lt (hs.inn x hx) with e | e
    · exact .inl e
    · exact .inr fun ad ha => Nat.ne_of_lt (e ad ha)
theorem Nums.over {w0 w : World} {l : List Nm} {os : List Nat} {g : Nat} (h : Nums w0 w l os) (hg : g ∈ os) (u1 u2 : Value) : Nums w0 ((w.setCell ⟨g, 0, none⟩ u1).setCell ⟨g, 1, none⟩ u2) l os :=
  ⟨fun x hx => ((h.box x hx).far ((h.oth g hg).2.2 x hx).1 _ _).far ((h.oth g hg).2.2 x hx).1 _ _,
   fun x hx => in_far (in_far (h.inn x hx) ((h.oth g hg).2.2 x hx).2 _) ((h.oth g hg).2.2 x hx).2 _,
   fun y hy => ⟨by simpa using (h.oth y hy).1, (h.oth y hy).2⟩, below_set2 h.below (h.oth g hg).2.1 _ _⟩

theorem i64_can {v : Int} (h0 : -9223372036854775808 ≤ v) (h1 : v < 9223372036854775808) : i64ok (cn v) (cw v) = true ∧ i64 (cn v) (cw v) = v := by
  have hs : Sh v := sh_64 (by omega)
  have ho : i64ok (cn v) (cw v) = true := decide_eq_true ⟨chkW_can hs, by rw [wv_can]; exact ⟨h0, h1⟩⟩
  exact ⟨ho, by unfold i64; rw [if_pos ho, wv_can]⟩
theorem is_eq (A : Option Addr) (c : Nat) (x : Int) (w : World) (h : In w A c (cw x)) (h0 : -9223372036854775808 ≤ x) (h1 : x < 9223372036854775808) :
    Calls Try.prog 10 #[.agg #[.bool (cn x), .slice A (cw x).length c], .int .i64 x] w fun e w' => e = .returned (.bool true) ∧ Below w.heap.size w w' :=
  (is_calls (cn x) A c (cw x) x w h).mono fun e w' ⟨he, hb⟩ => ⟨by rw [he, (i64_can h0 h1).1, (i64_can h0 h1).2]; simp, hb⟩
theorem cw_small {v : Int} (h : Sh v) : (cw v).length * 4 ≤ 140737488351232 := by have := cw_len h; omega
theorem inn_of {w : World} {e B n c : Nat} {A : Option Addr} {v : Int} (h : Ow w e B (.slice A n c) (cw v)) (hs : Sh v) : In w A c (cw v) := ⟨h.read.2.2.2, h.read.2.1, cw_small hs, cw_wds v⟩

set_option maxHeartbeats 400000 in
theorem of_calls (x : Int) (w : World) (h0 : -9223372036854775808 ≤ x) (h1 : x < 9223372036854775808) :
    Calls Try.prog 49 #[.int .i64 x] w fun e w' => ∃ B d, e = .returned (.agg #[.bool (cn x), .slice B (cw x).length d]) ∧ Ow w' 58 w.heap.size (.slice B (cw x).length d) (cw x) ∧ Below w.heap.size w w' := by
  go_enter Try.func49, Try.ntmps49
  go_wp2_with fail
  refine (wOf_calls x _ h0 h1).mono ?_
  rintro e w1 ⟨A1, c1, rfl, ho, hb⟩
  have B3 := Q.hid ((Bx.new w false (.slice none 0 0)).below hb)
  have HB := Q.hid ((below_alloc1 w _).trans (hb.mono (by simp)))
  have ho1 := ho
  simp only [World.size_alloc] at ho1
  have HO := Q.hid ho1
  clear ho hb ho1
  have k30 := B3.out.c0
  have k31 := B3.out.c1
  have f30 := B3.out.f0
  have f31 := B3.out.f1
  go_wp2
  refine bodyPost_ret (by rw [results_cell1 rfl]; go_simp; rfl) rfl ?_
  exact ⟨A1, c1, rfl, far2 HO.out (by omega) (by omega) _ _, below_set2 HB.out (Nat.le_refl _) _ _⟩
end Go.Proofs.Ytidccoahjpjoaaa
