/- ApartWords: lists that share no memory are found so; what it writes over are these lists alone. -/
import Derived.Test.YtidccoahjpjoaaaQKit
set_option linter.unusedVariables false
set_option linter.unusedSimpArgs false
namespace Go.Proofs.Ytidccoahjpjoaaa
open Go Go.RowKit Q

theorem infoWW : (Try.prog.info? 22).map (fun i => (i.zero, i.size, i.bytes)) = some (some (.slice none 0 0), 1, 24) := by kernel_rfl
def nv (vs : List Value) (i : Nat) : Value := vs.getD i .nilIface
def nx (xss : List (List Int)) (i : Nat) : List Int := xss.getD i []
theorem nv_get {vs : List Value} {i : Nat} (h : i < vs.length) : vs[i]? = some (nv vs i) := by simp [nv, h]
theorem nv_snoc_lt {vs : List Value} {v : Value} {i : Nat} (h : i < vs.length) : nv (vs ++ [v]) i = nv vs i := by simp [nv, List.getD_eq_getElem?_getD, List.getElem?_append_left h]
theorem nv_snoc_eq {vs : List Value} {v : Value} {i : Nat} (h : i = vs.length) : nv (vs ++ [v]) i = v := by subst h; simp [nv]
/-- rows of words, apart from each other, told by their values; the cells that hold the values -/
structure Rows (w : World) (A : Option Addr) (B : Nat) (vs : List Value) (xss : List (List Int)) : Prop where
  cell : ∀ i, i < vs.length → ∃ ad, A = some ad ∧ w.cell? (ad.add i) = some (nv vs i)
  far : ∀ ad, A = some ad → ∀ i, i < vs.length → (nv vs i).ownBlock ≠ some ad.block
  own : ∀ i, i < vs.length → Ow w 58 B (nv vs i) (nx xss i)
  dis : ∀ i j, i < vs.length → j < vs.length → i ≠ j → (nv vs i).ownBlock = none ∨ (nv vs i).ownBlock ≠ (nv vs j).ownBlock
  wds : ∀ i, Wds (nx xss i)
  small : ∀ i, (nx xss i).length * 4 ≤ 140737488351232
/-- the first k rows are copied -/
structure Copied (w0 w : World) (g n : Nat) (xss : List (List Int)) (k : Nat) (us : List Value) : Prop where
  len : us.length = k
  blk : Blk w g 22 (us ++ List.replicate (n - k) (.slice none 0 0))
  own : ∀ i, i < k → Ow w 58 (g + 1) (nv us i) (nx xss i)
  below : Below g w0 w
theorem Rows.below {w w' : World} {A : Option Addr} {B : Nat} {vs : List Value} {xss : List (List Int)} (h : Rows w A B vs xss) (hb : Below w.heap.size w w') : Rows w' A B vs xss := {
  cell := fun i hi => by
    obtain ⟨ad, e, hc⟩ := h.cell i hi
    exact ⟨ad, e, (hb.cell (World.block_lt_of_cell? w _ hc)).trans hc⟩
  far := h.far
  own := fun i hi => (h.own i hi).below hb
  dis := h.dis
  wds := h.wds
  small := h.small }
theorem Copied.step {w0 w w1 : World} {g n k : Nat} {xss : List (List Int)} {us : List Value} {v : Value} (h : Copied w0 w g n xss k us) (hk : k < n) (hg : g < w.heap.size) (hb : Below w.heap.size w w1) (ho : Ow w1 58 w.heap.size v (nx xss k)) :
    Copied w0 (w1.setCell ⟨g, k, none⟩ v) g n xss (k + 1) (us ++ [v]) := {
  len := by simp [h.len]
  blk := by
    have hb2 := (h.blk.below hb).set k v
    have e : (us ++ List.replicate (n - k) (Value.slice none 0 0)).set k v = us ++ [v] ++ List.replicate (n - (k + 1)) (.slice none 0 0) := by
      rw [List.set_append_right _ _ (by rw [h.len]; omega), h.len, Nat.sub_self, show n - k = (n - (k + 1)) + 1 by omega, List.replicate_succ, List.set_cons_zero]
      simp
    rw [e] at hb2
    exact hb2
  own := fun i hi => by
    have hne : ∀ u : Value, ∀ xs, Ow w1 58 (g + 1) u xs → u.ownBlock ≠ some g := fun u xs hu e => by have := (hu.base g e).1; omega
    rcases Nat.lt_or_eq_of_le (Nat.lt_succ_iff.1 hi) with h1 | h1
    · rw [nv_snoc_lt (by rw [h.len]; exact h1)]
      have := (h.own i h1).below hb
      exact this.far (hne _ _ this) _ _
    · rw [nv_snoc_eq (by rw [h.len]; exact h1), h1]
      have := ho.mono (B' := g + 1) hg
      exact this.far (hne _ _ this) _ _
  below := (h.below.trans (hb.mono (Nat.le_of_lt hg))).setCell (Nat.le_refl _) _ }
/-- of the rows the first k are turned over; the copies stay -/
structure Turned (w0 w : World) (A : Option Addr) (B g : Nat) (vs : List Value) (xss : List (List Int)) (us : List Value) (k : Nat) : Prop where
  cell : ∀ i, i < vs.length → ∃ ad, A = some ad ∧ w.cell? (ad.add i) = some (nv vs i)
  own : ∀ i, i < vs.length → Ow w 58 B (nv vs i) (if i < k then comp (nx xss i) else nx xss i)
  blk : Blk w g 22 us
  copies : ∀ i, i < vs.length → Ow w 58 (g + 1) (nv us i) (nx xss i)
  below : Below B w0 w
theorem Turned.drewN {w0 w : World} {A : Option Addr} {B g k : Nat} {vs : List Value} {xss : List (List Int)} {us : List Value} (h : Turned w0 w A B g vs xss us k) (n : Nat) : Turned w0 (w.drewN n) A B g vs xss us k := ⟨h.cell, fun i hi => (h.own i hi).drewN n, h.blk, fun i hi => (h.copies i hi).drewN n, below_drewN h.below n⟩
theorem Turned.step {w0 w w1 : World} {A : Option Addr} {B g k : Nat} {vs : List Value} {xss : List (List Int)} {us : List Value} (h : Turned w0 w A B g vs xss us k) (hr : Rows w0 A B vs xss) (hg : w0.heap.size ≤ g) (hB : B ≤ w0.heap.size) (hk : k < vs.length)
    (ho : Ow w1 58 B (nv vs k) (comp (nx xss k))) (hgr : w.grownBy w1 (nv vs k).ownBlock) : Turned w0 w1 A B g vs xss us (k + 1) := {
  cell := fun i hi => by
    obtain ⟨ad, e, hc⟩ := h.cell i hi
    exact ⟨ad, e, hgr.cell hc (by rw [add_block]; exact fun e2 => hr.far ad e k hk e2.symm)⟩
  own := fun i hi => by
    by_cases e : i = k
    · subst e; rw [if_pos (by omega)]; exact ho
    · have := (h.own i hi).grown hgr (hr.dis i k hi hk e)
      rcases Nat.lt_or_ge i k with h1 | h1
      · rw [if_pos h1] at this; rw [if_pos (by omega)]; exact this
      · rw [if_neg (by omega)] at this; rw [if_neg (by omega)]; exact this
  blk := h.blk.grown hgr (fun e => by have := ((hr.own k hk).base g e.symm).2; omega)
  copies := fun i hi => by
    refine (h.copies i hi).grown hgr ?_
    cases hv : (nv us i).ownBlock with
    | none => exact .inl rfl
    | some b =>
      refine .inr fun e => ?_
      have h1 := ((h.copies i hi).base b hv).1
      have h2 := ((hr.own k hk).base b e.symm).2
      omega
  below := h.below.trans ⟨hgr.os, hgr.tape, hgr.output, hgr.size, fun j hj => hgr.block j (by have := h.below.size; omega) (fun e => by have := ((hr.own k hk).base j e.symm).1; omega)⟩ }

set_option maxHeartbeats 1000000 in
set_option maxRecDepth 100000 in
theorem ApartWords_calls (A : Option Addr) (c B : Nat) (vs : List Value) (xss : List (List Int)) (w : World) (hr : Rows w A B vs xss) (hB : B ≤ w.heap.size) (hn : vs.length ≤ 1000000) :
    Calls Try.prog 17 #[.slice A vs.length c] w fun e w' => e = .returned (.bool true) ∧ Below B w w' := by
  have HR := Q.hid hr
  have HB0 := Q.hid hB
  clear hr hB
  go_enter Try.func17, Try.ntmps17
  go_wp2_with (at_make; refine wp_mk rfl (.tmp 9) (.tmp 9) 36 22 rfl (.slice none 0 0) 24 Try.underlying36 infoWW rfl _ _ vs.length rfl rfl rfl rfl (by omega) (by simp only [maxLen]; omega) ?_)
  have HC : Hid (Copied w (w.alloc (.cells (reps vs.length (.slice none 0 0)) 22)) w.heap.size vs.length xss 0 []) :=
    ⟨rfl, Blk.made w _ _ _, fun i hi => absurd hi (Nat.not_lt_zero _), (Below.refl _ _).alloc (Nat.le_refl _) _⟩
  go_loopw [4] (fun i wr => ∃ k : Nat, k ≤ vs.length ∧ i = .int .i64 k ∧ Hid (∃ us, Copied w wr w.heap.size vs.length xss k us)) (fun i _ => vs.length - (intOf i).toNat)
  case atStart => exact ⟨0, by omega, rfl, ⟨[], HC.out⟩⟩
  case round =>
    clear HC
    obtain ⟨k, hk, rfl, HC⟩ := hrel
    obtain ⟨us, hc⟩ := HC.out
    by_cases hlt : k < vs.length
    · obtain ⟨ad, rfl, hx⟩ := (HR.out.below ((hc.below.mono (Nat.le_refl _)))).cell k hlt
      have ho := (HR.out.own k hlt).below (hc.below.mono (Nat.le_refl _))
      obtain ⟨A1, c1, e1, h1, h2, h3, _⟩ := ho.slice
      rw [e1] at hx
      have H3 := Q.hid h3
      have HS := Q.hid (HR.out.small k)
      have HC2 := Q.hid hc
      clear h1 h2 h3 ho e1 HC hc
      go_wp2_with fail
      refine (CopyWords_calls A1 c1 (nx xss k) _ H3.out (by have := HS.out; omega)).mono ?_
      rintro e w1 ⟨v1, rfl, ho, hb⟩
      obtain ⟨A2, c2, e2, _⟩ := ho.slice
      subst e2
      have HC3 : Hid (Copied w (w1.setCell ⟨w.heap.size, k, none⟩ (.slice A2 (nx xss k).length c2)) w.heap.size vs.length xss (k + 1) (us ++ [.slice A2 (nx xss k).length c2])) := HC2.out.step hlt HC2.out.blk.lt hb ho
      have hcell : w1.cell? ⟨w.heap.size, k, none⟩ = some (.slice none 0 0) := (HC2.out.blk.below hb).cell (by rw [List.getElem?_append_right (by rw [HC2.out.len]; omega), HC2.out.len, Nat.sub_self, List.getElem?_replicate, if_pos (by omega)])
      have hfree : w1.frozen? ⟨w.heap.size, k, none⟩ = false := (HC2.out.blk.below hb).free k
      clear HC2 ho hb hx H3 HS
      go_wp2
      go_roundw
      case rel => exact ⟨k + 1, by omega, by go_num, ⟨_, HC3.out⟩⟩
      case measure => simp [intOf]; omega
    · obtain rfl : k = vs.length := by omega
      have HT : Hid (Turned w wr A B w.heap.size vs xss us 0) :=
        ⟨fun i hi => (HR.out.below hc.below).cell i hi, fun i hi => (HR.out.own i hi).below hc.below, by simpa using hc.blk, hc.own, hc.below.mono HB0.out⟩
      have HUL := Q.hid hc.len
      clear HC hc
      go_wp2
      obtain ⟨w2, hw2⟩ : ∃ w2 : World, w2 = wr := ⟨_, rfl⟩
      subst hw2
      go_loopw [5] (fun i wr => ∃ k : Nat, k ≤ vs.length ∧ i = .int .i64 k ∧ Hid (Turned w wr A B w.heap.size vs xss us k)) (fun i _ => vs.length - (intOf i).toNat)
      case atStart => exact ⟨0, by omega, rfl, HT⟩
      case round =>
        clear HT
        obtain ⟨k, hk, rfl, HT⟩ := hrel
        by_cases hlt : k < vs.length
        · obtain ⟨ad, rfl, hx⟩ := HT.out.cell k hlt
          have ho := HT.out.own k hlt
          rw [if_neg (Nat.lt_irrefl k)] at ho
          have hcp := HT.out.copies k hlt
          have hy := HT.out.blk.cell (nv_get (i := k) (by rw [HUL.out]; exact hlt))
          obtain ⟨A1, c1, e1, _, _, h3, _⟩ := ho.slice
          obtain ⟨A2, c2, e2, _, _, h4, _⟩ := hcp.slice
          have HV := Q.hid e1
          rw [e1] at hx
          rw [e2] at hy
          have H3 := Q.hid h3
          have H4 := Q.hid h4
          have HO : Hid (∀ n, Ow (wr.drewN n) 58 B (.slice A1 (nx xss k).length c1) (nx xss k)) := fun n => by rw [← e1]; exact ho.drewN n
          have HS := Q.hid (HR.out.small k)
          clear h3 h4 ho e1 e2 hcp
          have hm3 : (nx xss k).length ≤ 9223372036854775807 := by have := HS.out; omega
          go_wp2
          go_quiet ((go_at_call 47; exact Calls.quiet_of (SameWords_eq A1 A2 c1 c2 (nx xss k) _ (Rd.drewN H3.out _) (Rd.drewN H4.out _) hm3)))
          have HXW := Q.hid (HR.out.wds k)
          clear hy H3 H4
          go_wp2_with fail
          refine (OverWords_calls (.slice A1 (nx xss k).length c1) (nx xss k) B _ (HO.out _) HXW.out).mono ?_
          rintro e w1 ⟨rfl, ho, hg⟩
          rw [← HV.out] at ho hg
          have HT2 : Hid (Turned w w1 (some ad) B w.heap.size vs xss us (k + 1)) := HT.out.step HR.out (Nat.le_refl _) HB0.out hlt ho (grown_of_drewN hg)
          clear HT ho hg HO HV HXW hx
          go_wp2
          go_roundw
          case rel => exact ⟨k + 1, by omega, by go_num, HT2⟩
          case measure => simp [intOf]; omega
        · obtain rfl : k = vs.length := by omega
          have HL : Hid (∀ i, i < vs.length → ∃ ad A1 c1, A = some ad ∧ wr.cell? (ad.add i) = some (.slice A1 (nx xss i).length c1) ∧ Rd wr A1 (comp (nx xss i))) := fun i hi => by
            obtain ⟨ad, e, hc⟩ := HT.out.cell i hi
            have ho := HT.out.own i hi
            rw [if_pos hi] at ho
            obtain ⟨A1, c1, e1, _, _, h3, _⟩ := ho.slice
            rw [e1, comp_length] at hc
            exact ⟨ad, A1, c1, e, hc, h3⟩
          have HM : Hid (∀ i, i < vs.length → ∃ A1 c1, wr.cell? ⟨w.heap.size, i, none⟩ = some (.slice A1 (nx xss i).length c1) ∧ Rd wr A1 (nx xss i)) := fun i hi => by
            obtain ⟨A1, c1, e1, _, _, h3, _⟩ := (HT.out.copies i hi).slice
            have hy := HT.out.blk.cell (nv_get (i := i) (by rw [HUL.out]; exact hi))
            rw [e1] at hy
            exact ⟨A1, c1, hy, h3⟩
          have HBE := Q.hid HT.out.below
          clear HT
          obtain ⟨w3, hw3⟩ : ∃ w3 : World, w3 = wr := ⟨_, rfl⟩
          subst hw3
          go_wp2
          go_loopw [6] (fun i wr => ∃ k : Nat, k ≤ vs.length ∧ i = .int .i64 k ∧ Dr w3 wr) (fun i _ => vs.length - (intOf i).toNat)
          case atStart => exact ⟨0, by omega, rfl, Dr.refl _⟩
          case round =>
            obtain ⟨k, hk, rfl, ⟨n, rfl⟩⟩ := hrel
            by_cases hlt : k < vs.length
            · go_wp2
              go_loopw [7] (fun i wr => ∃ j : Nat, j ≤ (nx xss k).length ∧ i = .int .i64 j ∧ Dr w3 wr) (fun i _ => (nx xss k).length - (intOf i).toNat)
              case atStart => exact ⟨0, by omega, rfl, ⟨n, rfl⟩⟩
              case round =>
                obtain ⟨j, hj, rfl, ⟨m, rfl⟩⟩ := hrel
                obtain ⟨ad, A1, c1, rfl, hc1, hr1⟩ := HL.out k hlt
                obtain ⟨A2, c2, hc2, hr2⟩ := HM.out k hlt
                have hs1 := HR.out.small k
                by_cases hlj : j < (nx xss k).length
                · obtain ⟨ad1, rfl, hx1⟩ := hr1 j (by rw [comp_length]; exact hlj)
                  obtain ⟨ad2, rfl, hx2⟩ := hr2 j hlj
                  rw [wd_comp hlj] at hx1
                  have hwd := (HR.out.wds k).wd j
                  have h0 : 0 ≤ wd (nx xss k) j := hwd.1
                  have h1 : wd (nx xss k) j < 4294967296 := hwd.2
                  have hnot := u32_not (wd (nx xss k) j) h0 h1
                  clear hwd hr1 hr2
                  go_wp2
                  go_quiet (fail)
                  go_wp2
                  go_roundw
                  case rel => exact ⟨j + 1, by omega, by go_num, ⟨_, rfl⟩⟩
                  case measure => simp [intOf]; omega
                · clear hr1 hr2
                  go_wp2
                  go_roundw
                  case rel => exact ⟨k + 1, by omega, by go_num, ⟨m, rfl⟩⟩
                  case measure => simp [intOf]; omega
            · go_wp2
              go_ret
              exact ⟨rfl, below_drewN HBE.out _⟩

/-- rows of words that were made one behind the other -/
def Fresh (w : World) : Nat → Nat → List (Value × List Int) → Prop
  | lo, hi, [] => lo ≤ hi
  | lo, hi, (v, xs) :: r => ∃ m, lo ≤ m ∧ Ow w 58 lo v xs ∧ (∀ k, v.ownBlock = some k → k < m) ∧ Wds xs ∧ xs.length * 4 ≤ 140737488351232 ∧ Fresh w m hi r
theorem Fresh.le {w : World} {lo hi : Nat} {l : List (Value × List Int)} (h : Fresh w lo hi l) : lo ≤ hi := by
  induction l generalizing lo with
  | nil => exact h
  | cons x r ih => obtain ⟨m, h1, _, _, _, _, h2⟩ := h; exact Nat.le_trans h1 (ih h2)
theorem Fresh.at {w : World} {lo hi : Nat} {l : List (Value × List Int)} (h : Fresh w lo hi l) {i : Nat} (hi' : i < l.length) :
    Ow w 58 lo (nv (l.map Prod.fst) i) (nx (l.map Prod.snd) i) ∧ (∀ k, (nv (l.map Prod.fst) i).ownBlock = some k → lo ≤ k ∧ k < hi) := by
  induction l generalizing lo i with
  | nil => simp at hi'
  | cons x r ih =>
    obtain ⟨m, h1, h2, h3, _, _, h5⟩ := h
    cases i with
    | zero =>
      refine ⟨h2, fun k hk => ⟨(h2.base k hk).1, ?_⟩⟩
      have := h3 k hk
      have := Fresh.le h5
      omega
    | succ i =>
      obtain ⟨h6, h7⟩ := ih h5 (i := i) (by simpa using hi')
      refine ⟨h6.mono h1, fun k hk => ?_⟩
      have := h7 k hk
      omega
theorem Fresh.apart {w : World} {lo hi : Nat} {l : List (Value × List Int)} (h : Fresh w lo hi l) {i j : Nat} (hij : i < j) (hj : j < l.length) {k : Nat}
    (h1 : (nv (l.map Prod.fst) i).ownBlock = some k) (h2 : (nv (l.map Prod.fst) j).ownBlock = some k) : False := by
  induction l generalizing lo i j with
  | nil => simp at hj
  | cons x r ih =>
    obtain ⟨m, _, _, h3, _, _, h5⟩ := h
    cases i with
    | zero =>
      cases j with
      | zero => omega
      | succ j =>
        have a1 := h3 k h1
        have a2 := (h5.at (i := j) (by simpa using hj)).2 k h2
        omega
    | succ i =>
      cases j with
      | zero => omega
      | succ j => exact ih h5 (by omega : i < j) (by simpa using hj) h1 h2
theorem Fresh.more {w : World} {lo hi : Nat} {l : List (Value × List Int)} (h : Fresh w lo hi l) (i : Nat) : Wds (nx (l.map Prod.snd) i) ∧ (nx (l.map Prod.snd) i).length * 4 ≤ 140737488351232 := by
  induction l generalizing lo i with
  | nil => exact ⟨by simp [nx, Wds.nil], by simp [nx]⟩
  | cons x r ih =>
    obtain ⟨m, _, _, _, h3, h4, h5⟩ := h
    cases i with
    | zero => exact ⟨h3, h4⟩
    | succ i => exact ih h5 i
theorem Fresh.rows {w : World} {B hi : Nat} {l : List (Value × List Int)} (h : Fresh w B hi l) (hh : hi ≤ w.heap.size) :
    Rows (w.alloc (.cells (l.map Prod.fst).toArray 22)) (some ⟨w.heap.size, 0, none⟩) B (l.map Prod.fst) (l.map Prod.snd) := {
  cell := fun i hi => ⟨_, rfl, by rw [add_plain]; exact (Blk.new w 22 (l.map Prod.fst)).cell (nv_get hi)⟩
  far := fun ad e i hlt he => by
    cases e
    exact absurd ((h.at (i := i) (by simpa using hlt)).2 _ he).2 (Nat.not_lt.2 hh)
  own := fun i hi => (h.at (i := i) (by simpa using hi)).1.alloc _
  dis := fun i j hi hj hne => by
    cases hv : (nv (l.map Prod.fst) i).ownBlock with
    | none => exact .inl rfl
    | some k =>
      refine .inr fun e => ?_
      rcases Nat.lt_or_gt_of_ne hne with h1 | h1
      · exact h.apart h1 (by simpa using hj) hv e.symm
      · exact h.apart h1 (by simpa using hi) e.symm hv
  wds := fun i => (h.more i).1
  small := fun i => (h.more i).2 }
end Go.Proofs.Ytidccoahjpjoaaa
