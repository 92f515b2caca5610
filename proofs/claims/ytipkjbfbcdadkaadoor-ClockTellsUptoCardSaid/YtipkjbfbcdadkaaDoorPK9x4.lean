/- Written by wip/xprint.py (the kit's print over given functions). -/
import Derived.Test.YtipkjbfbcdadkaaDoorPK9x0
import Derived.Test.YtipkjbfbcdadkaaDoorPK9x1
import Derived.Test.YtipkjbfbcdadkaaDoorPK9x2
import Derived.Test.YtipkjbfbcdadkaaDoorPK9x3
namespace Go.Proofs.YtipkjbfbcdadkaaDoor.PK9
open Go.RowKit Go.Proofs.YtipkjbfbcdadkaaDoorW.PrintWords Go.Proofs.YtipkjbfbcdadkaaDoorW.PrintLast Go.Proofs.YtipkjbfbcdadkaaDoorW.PrintMore
attribute [local go_sem] max2_int min2_int max_two min_two max_three min_three max_four min_four   -- for this text's walks alone
set_option linter.unusedVariables false
set_option linter.unusedSimpArgs false

/-! ### clock_Parse: function 16 (given) -/
/-- the numbers of texts, all or none -/
def clock_Parse.nums : List ByteArray → Option (List Int)
  | [] => some []
  | p :: ps => match Lib.atoiAll p.data.toList with
    | .ok v => (clock_Parse.nums ps).map (v :: ·)
    | _ => none
def clock_Parse.parts (day : List UInt8) : List ByteArray := Lib.splitB ⟨#[45]⟩ 0 (min 4 (day.length + 1) - 1) ⟨day.toArray⟩
def clock_Parse.tail (k : Nat) (s : ByteArray) : Option (List Int) → Option (Int × Int)
  | some [y, m, d, h] => (clock_From.f k y m d h).bind fun r => if r.2 = 0 then ((clock_Text.f r.1).bind fun t => if t.1.toList = s.toList then some (r.1, 0) else some (0, 190)) else some (0, 190)
  | _ => some (0, 190)
def clock_Parse.f (k : Nat) (s : ByteArray) : Option (Int × Int) :=
  if s.size ≤ 1048576 then
    if (Lib.cut s.data.toList [32]).2.2 = false ∨ (clock_Parse.parts (Lib.cut s.data.toList [32]).1).length ≠ 3 ∨ 20 < s.size then some (0, 190)
    else clock_Parse.tail k s (clock_Parse.nums (clock_Parse.parts (Lib.cut s.data.toList [32]).1 ++ [⟨(Lib.cut s.data.toList [32]).2.1.toArray⟩]))
  else none
theorem clock_Parse.cut_size (s : List UInt8) : (Lib.cut s [32]).1.length ≤ s.length := by
  unfold Lib.cut
  split <;> simp
  exact Nat.min_le_right _ _
theorem clock_Parse.split4 (day : List UInt8) (mx : Int) (w : World) (hs : day.length < 4294967281) (hm : w.cell? ⟨0, 0, none⟩ = some (.int .i64 mx)) :
    Calls Tryd.prog 40 #[.string ⟨day.toArray⟩, .string ⟨#[45]⟩, .int .i64 4] w fun e w' => e = .returned (.slice (some ⟨w.heap.size, 0, none⟩) (clock_Parse.parts day).length (min 4 (day.length + 1))) ∧ w' = w.alloc (.cells (Lib.cellsOf (clock_Parse.parts day) (min 4 (day.length + 1))) 9) := by
  have h := Tryd.strings_SplitN ⟨day.toArray⟩ ⟨#[45]⟩ 4 mx w (by simpa [ByteArray.size] using hs) hm (by decide) (by decide) (by decide)
  have e : (ByteArray.mk day.toArray).size = day.length := by simp [ByteArray.size]
  rw [e] at h
  exact h
theorem clock_Parse.cut_size2 (s : List UInt8) : (Lib.cut s [32]).2.1.length ≤ s.length := by
  unfold Lib.cut
  split <;> simp
set_option maxHeartbeats 2000000 in
set_option maxRecDepth 100000 in
theorem clock_Parse.early (s : ByteArray) (w : World) (hL : LW w) (hs : s.size ≤ 1048576) (day hour : List UInt8) (ok : Bool) (hc : Lib.cut s.data.toList (ByteArray.mk #[32]).data.toList = (day, hour, ok)) (hd : day.length ≤ s.size)
    (h : ok = false ∨ (clock_Parse.parts day).length ≠ 3 ∨ 20 < s.size) :
    Calls Tryd.prog 16 #[.string s] w fun e w' => e = .returned (.tuple #[.int .i64 0, .int .i64 190]) ∧ Below w.heap.size w w' := by
  obtain ⟨mx, hm⟩ := hL.max
  have HC := Tryd.strings_Cut s ⟨#[32]⟩ mx w (by omega) hm
  rw [hc] at HC
  have HC := GB.hid HC
  have hlen : (ByteArray.mk day.toArray).size = day.length := by simp [ByteArray.size]
  generalize hP : clock_Parse.parts day = ps at h
  have HP := GB.hid hP
  have HM := GB.hid hm
  clear hc hP hm
  go_enter Tryd.func16, Tryd.ntmps16
  go_wp2_with fail
  refine HC.out.mono ?_
  rintro e w1 ⟨rfl, nd, rfl⟩
  go_wp2_with fail
  refine (clock_Parse.split4 day mx (w.drewN nd) (by omega) HM.out).mono ?_
  rintro e w2 ⟨rfl, rfl⟩
  rw [HP.out]
  cases ok with
  | false =>
    go_wp2
    go_ret2
    exact ⟨rfl, by repeat (first | exact GB.bl0 _ | apply GB.bla | apply GB.bldN)⟩
  | true =>
    by_cases h3 : ps.length = 3
    · have h20 : 20 < s.size := by simp [h3] at h; exact h
      have b3 : ((ps.length : Int) != 3) = false := by rw [h3]; rfl
      have hd2 : decide (20 < s.size) = true := decide_eq_true h20
      have hd3 : decide ((20 : Int) < s.size) = true := decide_eq_true (by omega)
      clear h
      go_wp2
      go_ret2
      exact ⟨rfl, by repeat (first | exact GB.bl0 _ | apply GB.bla | apply GB.bldN)⟩
    · have b3 : ((ps.length : Int) != 3) = true := bne_iff_ne.2 (by omega)
      clear h
      go_wp2
      go_ret2
      exact ⟨rfl, by repeat (first | exact GB.bl0 _ | apply GB.bla | apply GB.bldN)⟩
theorem clock_Parse.splitB_le (sep : ByteArray) (save : Nat) : ∀ (k : Nat) (s : ByteArray), (Lib.splitB sep save k s).length ≤ k + 1
  | 0, s => by simp [Lib.splitB]
  | k + 1, s => by
    unfold Lib.splitB
    split
    · simp
    · have := clock_Parse.splitB_le sep save k (s.extract ((Lib.indexB s sep).toNat + sep.size) s.size)
      simp only [List.length_cons]
      omega
theorem clock_Parse.parts_le (day : List UInt8) : (clock_Parse.parts day).length ≤ min 4 (day.length + 1) := by
  unfold clock_Parse.parts
  have := clock_Parse.splitB_le ⟨#[45]⟩ 0 (min 4 (day.length + 1) - 1) ⟨day.toArray⟩
  omega
theorem clock_Parse.owns (w : World) (ps : List ByteArray) (N : Nat) (h : ps.length ≤ N) (hN : N ≤ 4) : (w.alloc (.cells (Lib.cellsOf ps N) 9)).ownsRow w.heap.size 9 1 (.slice (some ⟨w.heap.size, 0, none⟩) ps.length N) ps.length (ps.map Value.string) := by
  refine ⟨by simp, .inr ⟨w.heap.size, N, _, rfl, Nat.le_refl _, heap_alloc_new w _, h, by simp [maxLen]; omega, by rw [Lib.cellsOf_size h]; omega, ?_⟩⟩
  rw [Nat.mul_one]
  unfold Lib.cellsOf
  simp
theorem info9_ : (Tryd.prog.info? 9).map (fun i => (i.zero, i.size, i.bytes)) = some (some (.string ByteArray.empty), 1, 16) := by kernel_rfl
theorem clock_Parse.atoi_ok (s : ByteArray) (v : Int) (w : World) (hs : s.size ≤ 1048576) (h : Lib.atoiAll s.data.toList = .ok v) :
    Calls Tryd.prog 41 #[.string s] w fun e w' => e = .returned (.tuple #[.int .i64 v, .nilIface]) ∧ Below w.heap.size w w' := by
  refine (Tryd.strconv_Atoi_ok s (by omega) v h w).mono ?_
  rintro e w' ⟨rfl, rfl | ⟨t, rfl⟩⟩
  · exact ⟨rfl, GB.bl0 _⟩
  · exact ⟨rfl, Lib.bytesWorld_below _ _ _⟩
/-- an error has been told -/
def clock_Parse.Bad (w : World) (e : Ending) (w' : World) : Prop := ∃ (x : Int) (p : Value), e = .returned (.tuple #[.int .i64 x, .iface 78 p]) ∧ Below w.heap.size w w'
theorem clock_Parse.atoi_bad (s : ByteArray) (w : World) (hL : LW w) (hs : s.size ≤ 1048576) (h : ∀ v, Lib.atoiAll s.data.toList ≠ .ok v) : Calls Tryd.prog 41 #[.string s] w (clock_Parse.Bad w) := by
  by_cases ha : Lib.atoiAll s.data.toList = .range
  · obtain ⟨tp, p, hv⟩ := hL.rng
    refine (Tryd.strconv_Atoi_range s (by omega) ha _ w hv (.inr ⟨tp, p, rfl⟩)).mono ?_
    rintro e w' ⟨N, rfl, _, _, hb⟩
    exact ⟨_, _, rfl, hb⟩
  · obtain ⟨tp, p, hv⟩ := hL.syn
    refine (Tryd.strconv_Atoi_syn s (by omega) h ha _ w hv (.inr ⟨tp, p, rfl⟩)).mono ?_
    rintro e w' ⟨N, rfl, _, _, hb⟩
    exact ⟨_, _, rfl, hb⟩
theorem clock_Parse.nums_snoc : ∀ (l : List ByteArray) (p : ByteArray) (xs : List Int) (v : Int), clock_Parse.nums l = some xs → Lib.atoiAll p.data.toList = .ok v → clock_Parse.nums (l ++ [p]) = some (xs ++ [v])
  | [], p, xs, v, h, hv => by
    simp [clock_Parse.nums] at h
    subst h
    simp [clock_Parse.nums, hv]
  | q :: l, p, xs, v, h, hv => by
    unfold clock_Parse.nums at h
    cases hq : Lib.atoiAll q.data.toList with
    | ok u =>
      rw [hq] at h
      simp only [Option.map_eq_some_iff] at h
      obtain ⟨ys, hy, rfl⟩ := h
      simp [clock_Parse.nums, hq, clock_Parse.nums_snoc l p ys v hy hv]
    | _ => rw [hq] at h; cases h
theorem clock_Parse.nums_bad : ∀ (l : List ByteArray) (p : ByteArray) (r : List ByteArray), (∀ v, Lib.atoiAll p.data.toList ≠ .ok v) → clock_Parse.nums (l ++ p :: r) = none
  | [], p, r, h => by
    show (match Lib.atoiAll p.data.toList with
      | .ok v => (clock_Parse.nums r).map (v :: ·)
      | _ => none) = none
    cases hp : Lib.atoiAll p.data.toList with
    | ok u => exact absurd hp (h u)
    | _ => rfl
  | q :: l, p, r, h => by
    simp only [List.cons_append, clock_Parse.nums]
    rw [clock_Parse.nums_bad l p r h]
    cases Lib.atoiAll q.data.toList <;> rfl
theorem clock_Parse.splitB_sz (sep : ByteArray) : ∀ (k : Nat) (s : ByteArray), ∀ p ∈ Lib.splitB sep 0 k s, p.size ≤ s.size
  | 0, s => by simp [Lib.splitB]
  | k + 1, s => by
    unfold Lib.splitB
    split
    · simp
    · intro p hp
      simp only [List.mem_cons] at hp
      rcases hp with rfl | hp
      · simp [ByteArray.size_extract]; omega
      · have := clock_Parse.splitB_sz sep k _ p hp
        simp [ByteArray.size_extract] at this
        omega
theorem clock_Parse.parts_sz (day : List UInt8) : ∀ p ∈ clock_Parse.parts day, p.size ≤ day.length := by
  intro p hp
  have h := clock_Parse.splitB_sz ⟨#[45]⟩ _ _ p hp
  exact h
theorem _root_.GB.grown_set {w : World} {g i : Nat} (u : Value) : w.grownBy (w.setCell ⟨g, i, none⟩ u) (some g) := ⟨rfl, rfl, rfl, by simp [World.setCell], fun k _ hne => Below.heap_setCell _ _ _ _ (fun e => hne (by rw [e]))⟩
theorem clock_Parse.row_at (xs : List Int) (j : Nat) (hx : xs.length = j) (hj : j < 4) : ((xs ++ List.replicate (4 - j) 0).map (Value.int .i64))[j]? = some (.int .i64 0) := by
  rw [List.map_append, List.getElem?_append_right (by simp; omega)]
  simp only [List.length_map, hx, Nat.sub_self, List.map_replicate]
  rw [List.getElem?_replicate, if_pos (by omega)]
theorem clock_Parse.row_set (xs : List Int) (j : Nat) (v : Int) (hx : xs.length = j) (hj : j < 4) : ((xs ++ List.replicate (4 - j) 0).map (Value.int .i64)).set j (.int .i64 v) = ((xs ++ [v]) ++ List.replicate (4 - (j + 1)) 0).map (Value.int .i64) := by
  obtain ⟨m, hm⟩ : ∃ m, 4 - j = m + 1 := ⟨4 - j - 1, by omega⟩
  rw [hm, show 4 - (j + 1) = m by omega, List.replicate_succ]
  simp only [List.map_append, List.map_cons, List.append_assoc]
  rw [List.set_append_right _ _ (by simp; omega)]
  simp [hx]
theorem clock_Parse.take_snoc (vs : List ByteArray) (j : Nat) (p : ByteArray) (h : vs[j]? = some p) : vs.take (j + 1) = vs.take j ++ [p] := by
  obtain ⟨hj, rfl⟩ := List.getElem?_eq_some_iff.1 h
  exact List.take_succ_eq_append_getElem hj
theorem clock_Parse.bad_at (vs : List ByteArray) (j : Nat) (p : ByteArray) (h : vs[j]? = some p) (hb : ∀ v, Lib.atoiAll p.data.toList ≠ .ok v) : clock_Parse.nums vs = none := by
  obtain ⟨hj, rfl⟩ := List.getElem?_eq_some_iff.1 h
  have e : vs = vs.take j ++ vs[j] :: vs.drop (j + 1) := by rw [← List.drop_eq_getElem_cons hj, List.take_append_drop]
  rw [e]
  exact clock_Parse.nums_bad _ _ _ hb
theorem clock_Parse.four (xs : List Int) (h : xs.length = 4) : ∃ a b c d, xs = [a, b, c, d] := by
  match xs, h with
  | [a, b, c, d], _ => exact ⟨a, b, c, d, rfl⟩
set_option maxHeartbeats 8000000 in
set_option maxRecDepth 100000 in
theorem clock_Parse.main (k : Nat) (s : ByteArray) (w : World) (r1 r2 : Int) (hL : LW w) (hs : s.size ≤ 20) (day hour : List UInt8) (hc : Lib.cut s.data.toList (ByteArray.mk #[32]).data.toList = (day, hour, true)) (hd : day.length ≤ s.size) (hh : hour.length ≤ s.size)
    (h3 : (clock_Parse.parts day).length = 3) (h : clock_Parse.tail k s (clock_Parse.nums (clock_Parse.parts day ++ [⟨hour.toArray⟩])) = some (r1, r2)) :
    Calls Tryd.prog 16 #[.string s] w fun e w' => e = .returned (.tuple #[.int .i64 r1, .int .i64 r2]) ∧ Below w.heap.size w w' := by
  obtain ⟨mx, hm⟩ := hL.max
  have HC := Tryd.strings_Cut s ⟨#[32]⟩ mx w (by omega) hm
  rw [hc] at HC
  have HC := GB.hid HC
  have hN := clock_Parse.parts_le day
  rw [h3] at hN
  have HS := GB.hid (clock_Parse.split4 day mx)
  have hown := fun w => clock_Parse.owns w (clock_Parse.parts day) (min 4 (day.length + 1)) (clock_Parse.parts_le day) (Nat.min_le_left _ _)
  have hpz := clock_Parse.parts_sz day
  generalize hP : clock_Parse.parts day = ps at *
  have HPZ : Hid (∀ p ∈ ps, p.size ≤ 20) := fun p hp => by have := hpz p hp; omega
  clear hpz
  generalize hNN : min 4 (day.length + 1) = N at *
  have hN4 : N ≤ 4 := by omega
  rw [h3] at hown HS
  have HOW := GB.hid hown
  have HM := GB.hid hm
  have HH := GB.hid h
  have HL := GB.hid hL
  obtain ⟨i0, hi, hz0, hz1, hz2⟩ := info_parts info9_
  have H3 := GB.hid h3
  clear hc hP hm hown hNN h h3 hL
  have hd3 : decide ((20 : Int) < s.size) = false := decide_eq_false (by omega)
  go_enter Tryd.func16, Tryd.ntmps16
  go_wp2_with fail
  refine HC.out.mono ?_
  rintro e w1 ⟨rfl, nd, rfl⟩
  go_wp2_with fail
  refine (HS.out (w.drewN nd) (by omega) HM.out).mono ?_
  rintro e w2 ⟨rfl, rfl⟩
  have hO := ((HOW.out (w.drewN nd)).alloc (.cells #[.int .i64 0, .int .i64 0, .int .i64 0, .int .i64 0] 61)).alloc (.cells #[.string ⟨hour.toArray⟩] 9)
  have hB4 : GB.Blk ((((w.drewN nd).alloc (.cells (Lib.cellsOf ps N) 9)).alloc (.cells #[.int .i64 0, .int .i64 0, .int .i64 0, .int .i64 0] 61)).alloc (.cells #[.string ⟨hour.toArray⟩] 9)) (w.heap.size + 1) 61 [.int .i64 0, .int .i64 0, .int .i64 0, .int .i64 0] := by
    have hz := (GB.Blk.new ((w.drewN nd).alloc (.cells (Lib.cellsOf ps N) 9)) 61 [.int .i64 0, .int .i64 0, .int .i64 0, .int .i64 0]).alloc (.cells #[.string ⟨hour.toArray⟩] 9)
    rw [World.size_alloc] at hz
    exact hz
  have hB1 : GB.Blk ((((w.drewN nd).alloc (.cells (Lib.cellsOf ps N) 9)).alloc (.cells #[.int .i64 0, .int .i64 0, .int .i64 0, .int .i64 0] 61)).alloc (.cells #[.string ⟨hour.toArray⟩] 9)) (w.heap.size + 1 + 1) 9 [.string ⟨hour.toArray⟩] := by
    have hz := GB.Blk.new (((w.drewN nd).alloc (.cells (Lib.cellsOf ps N) 9)).alloc (.cells #[.int .i64 0, .int .i64 0, .int .i64 0, .int .i64 0] 61)) 9 [.string ⟨hour.toArray⟩]
    rw [World.size_alloc, World.size_alloc] at hz
    exact hz
  have hBB : Below w.heap.size w ((((w.drewN nd).alloc (.cells (Lib.cellsOf ps N) 9)).alloc (.cells #[.int .i64 0, .int .i64 0, .int .i64 0, .int .i64 0] 61)).alloc (.cells #[.string ⟨hour.toArray⟩] 9)) := by repeat (first | exact GB.bl0 _ | apply GB.bla | apply GB.bldN)
  have HO := GB.hid hO
  have HB4 := GB.hid hB4
  have HB1 := GB.hid hB1
  have HBB := GB.hid hBB
  clear hO hB4 hB1 hBB
  go_wp2_with (at_builtin; refine wpList_append_own _ rfl _ _ 46 rfl w.heap.size 9 i0 (.string ByteArray.empty) 1 16 Tryd.underlying46 hi hz0 hz1 hz2 rfl (by decide) _ _ _ rfl HO.out ⟨w.heap.size + 1 + 1, 0, none⟩ 1 1 [.string ⟨hour.toArray⟩] rfl rfl ?c1 ?c2 ?c3 ?c4 ?c5 ?_)
  case c1 =>
    intro j u hu
    match j, hu with
    | 0, hu =>
      injection hu with hu
      subst hu
      exact HB1.out.cell 0 rfl
  case c2 => intro u hu; simp at hu; subst hu; rfl
  case c3 => simp [maxLen]
  case c4 => omega
  case c5 => simp; omega
  intro v' w3 hown4 hg hne
  have hHsz : (ByteArray.mk hour.toArray).size ≤ 20 := by simp [ByteArray.size]; omega
  generalize hvs : ps ++ [⟨hour.toArray⟩] = vs at *
  have hvl : vs.length = 4 := by rw [← hvs]; simp [H3.out]
  have hvm : ps.map Value.string ++ [Value.string ⟨hour.toArray⟩] = vs.map Value.string := by rw [← hvs]; simp
  rw [hvm] at hown4
  have hvz : ∀ p ∈ vs, p.size ≤ 20 := by
    intro p hp
    rw [← hvs] at hp
    rcases List.mem_append.1 hp with hp | hp
    · have := HPZ.out p hp; omega
    · simp at hp; subst hp; exact hHsz
  obtain ⟨g, cap, rfl⟩ : ∃ g cap, v' = .slice (some ⟨g, 0, none⟩) 4 cap := by
    rcases hown4.2 with ⟨rfl, h0⟩ | ⟨g, cap, cur, rfl, _⟩
    · exact absurd h0 (by omega)
    · exact ⟨g, cap, rfl⟩
  have hgB : w.heap.size ≤ g := by
    rcases hown4.2 with ⟨hh, h0⟩ | ⟨g', cap', cur, hh, hb, _⟩
    · cases hh
    · injection hh with hh; injection hh with hh; injection hh with hh; omega
  have hB4 := HB4.out.grown hg (by simp [Value.ownBlock])
  have hBB := GB.blgrown HBB.out hg (by simp [Value.ownBlock])
  have hgn : g ≠ w.heap.size + 1 := by
    intro e
    rcases hown4.2 with ⟨hh, h0⟩ | ⟨g', cap', cur, hh, hb, hb2, _⟩
    · cases hh
    · injection hh with hh; injection hh with hh; injection hh with hh
      have h4 := hB4
      unfold GB.Blk at h4
      rw [← hh, e, h4] at hb2
      injection hb2 with hb2; injection hb2 with _ ht
      exact absurd ht (by decide)
  have HGN := GB.hid hgn
  have HVL := GB.hid hvl
  have HVZ := GB.hid hvz
  have HO4 := GB.hid hown4
  have HB4 := GB.hid hB4
  have HBB := GB.hid hBB
  clear hgn hvs hvl hvm hvz hown4 hg hne hB4 hBB HO HB1 HOW H3 HM HS
  go_wp2
  go_loopw [42] (fun i wr => ∃ (j : Nat) (xs : List Int), j ≤ 4 ∧ i = .int .i64 j ∧ Hid (xs.length = j) ∧ Hid (clock_Parse.nums (vs.take j) = some xs) ∧ Hid (GB.Blk wr (w.heap.size + 1) 61 ((xs ++ List.replicate (4 - j) 0).map (Value.int .i64))) ∧ Hid (wr.ownsRow w.heap.size 9 1 (.slice (some ⟨g, 0, none⟩) 4 cap) 4 (vs.map Value.string)) ∧ Hid (Below w.heap.size w wr)) (fun i _ => 4 - (intOf i).toNat)
  case atStart => exact ⟨0, [], by omega, rfl, rfl, rfl, HB4.out, HO4.out, HBB.out⟩
  case round =>
    clear HB4 HO4 HBB
    obtain ⟨j, xs, hj, rfl, HX, HN, HB4, HO4, HBB⟩ := hrel
    have HLr := GB.hid (HL.out.below HBB.out)
    by_cases hlt : j < 4
    · obtain ⟨p, hp⟩ : ∃ p, vs[j]? = some p := ⟨vs[j]'(by rw [HVL.out]; exact hlt), List.getElem?_eq_getElem _⟩
      have hps : p.size ≤ 20 := HVZ.out p (List.mem_of_getElem? hp)
      have cp : wr.cell? ⟨g, j, none⟩ = some (.string p) := by
        have := World.ownsRow.cells HO4.out (g := g) rfl j (.string p) (by simp [hp])
        rwa [add_plain] at this
      have HP2 := GB.hid hp
      clear hp
      by_cases hok : ∃ v, Lib.atoiAll p.data.toList = .ok v
      · obtain ⟨v, hv⟩ := hok
        have HVV := GB.hid hv
        have c4 : wr.cell? ⟨w.heap.size + 1, j, none⟩ = some (.int .i64 0) := HB4.out.cell j (clock_Parse.row_at xs j HX.out hlt)
        have f4 := HB4.out.free j
        clear hv
        go_wp2_with fail
        refine (clock_Parse.atoi_ok p v _ (by omega) HVV.out).mono ?_
        rintro e w4 ⟨rfl, hb⟩
        have HB4 := GB.hid (HB4.out.below hb)
        have HO4 := GB.hid (HO4.out.kept (GB.grown_of_below hb none) (.inr (by simp [Value.ownBlock])))
        have HBB := GB.hid (GB.bls HBB.out hb)
        have c4 : w4.cell? ⟨w.heap.size + 1, j, none⟩ = some (.int .i64 0) := HB4.out.cell j (clock_Parse.row_at xs j HX.out hlt)
        have f4 := HB4.out.free j
        clear hb
        have w1 : IntKind.i64.wrap ((j : Int) + 1) = (j : Int) + 1 := IntWalk.i64_in _ (by omega)
        go_wp2
        go_roundw
        case rel =>
          refine ⟨j + 1, xs ++ [v], by omega, by go_num, ?_, ?_, ?_, ?_, ?_⟩
          · show (xs ++ [v]).length = j + 1
            simp [HX.out]
          · show clock_Parse.nums (vs.take (j + 1)) = some (xs ++ [v])
            rw [clock_Parse.take_snoc vs j p HP2.out]
            exact clock_Parse.nums_snoc _ _ _ _ HN.out HVV.out
          · have := HB4.out.set j (.int .i64 v)
            rw [clock_Parse.row_set xs j v HX.out hlt] at this
            exact this
          · exact HO4.out.kept (w' := w4.setCell ⟨w.heap.size + 1, j, none⟩ (.int .i64 v)) (row := some (w.heap.size + 1)) (GB.grown_set _) (.inr (by simp [Value.ownBlock]; exact HGN.out))
          · exact GB.blset HBB.out (by omega) _ _
        case measure => simp [intOf]; omega
      · have hbad : ∀ v, Lib.atoiAll p.data.toList ≠ .ok v := fun v hv => hok ⟨v, hv⟩
        have hnone := clock_Parse.bad_at vs j p HP2.out hbad
        have hh' := HH.out
        rw [hnone] at hh'
        have hh2 : (0 : Int) = r1 ∧ (190 : Int) = r2 := by
          have : some ((0 : Int), (190 : Int)) = some (r1, r2) := hh'
          injection this with this
          injection this with t1 t2
          exact ⟨t1, t2⟩
        obtain ⟨rfl, rfl⟩ := hh2
        clear hok hnone hh'
        go_wp2_with fail
        refine (clock_Parse.atoi_bad p _ HLr.out (by omega) hbad).mono ?_
        rintro e w4 ⟨x, q, rfl, hb⟩
        have HBB := GB.hid (GB.bls HBB.out hb)
        clear hb hbad
        go_wp2
        go_ret2
        exact ⟨rfl, by repeat (first | exact HBB.out | apply GB.bla | apply GB.bldN)⟩
    · have hj4 : j = 4 := by omega
      subst hj4
      have hn := HN.out
      rw [List.take_of_length_le (by rw [HVL.out]; omega)] at hn
      obtain ⟨y, m, d, hr, rfl⟩ := clock_Parse.four xs HX.out
      have hh' := HH.out
      rw [hn] at hh'
      have HT : Hid (((clock_From.f k y m d hr).bind fun r => if r.2 = 0 then ((clock_Text.f r.1).bind fun t => if t.1.toList = s.toList then some (r.1, 0) else some (0, 190)) else some (0, 190)) = some (r1, r2)) := hh'
      clear hh' hn
      obtain ⟨⟨t0, e0⟩, hF, hT⟩ := Option.bind_eq_some_iff.mp HT.out
      have HF := GB.hid hF
      have c0 := HB4.out.cell 0 rfl
      have c1 := HB4.out.cell 1 rfl
      have c2 := HB4.out.cell 2 rfl
      have c3 := HB4.out.cell 3 rfl
      clear hF HT
      go_wp2_with fail
      refine (clock_From.calls k y m d hr t0 e0 _ HF.out).mono ?_
      rintro e w4 ⟨rfl, hb⟩
      have HBB := GB.hid (GB.bls HBB.out hb)
      clear hb
      by_cases he : e0 = 0
      · subst he
        simp only [if_true] at hT
        obtain ⟨⟨tx, e1⟩, hX, hT⟩ := Option.bind_eq_some_iff.mp hT
        have HX2 := GB.hid hX
        by_cases hq : tx.toList = s.toList
        · rw [if_pos hq] at hT
          cases hT
          have q1 : (tx.toList != s.toList) = false := bne_eq_false_iff_eq.mpr hq
          have q2 : (tx.toList == s.toList) = true := beq_iff_eq.mpr hq
          clear hX hq
          go_wp2_with fail
          refine (clock_Text.calls r1 tx e1 _ (HL.out.below HBB.out) HX2.out).mono ?_
          rintro e w5 ⟨rfl, hb⟩
          have HBB := GB.hid (GB.bls HBB.out hb)
          clear hb
          go_wp2
          go_ret2
          exact ⟨rfl, by repeat (first | exact HBB.out | apply GB.bla | apply GB.bldN)⟩
        · rw [if_neg hq] at hT
          cases hT
          have q1 : (tx.toList != s.toList) = true := bne_iff_ne.mpr hq
          have q2 : (tx.toList == s.toList) = false := beq_eq_false_iff_ne.mpr hq
          clear hX hq
          go_wp2_with fail
          refine (clock_Text.calls t0 tx e1 _ (HL.out.below HBB.out) HX2.out).mono ?_
          rintro e w5 ⟨rfl, hb⟩
          have HBB := GB.hid (GB.bls HBB.out hb)
          clear hb
          go_wp2
          go_ret2
          exact ⟨rfl, by repeat (first | exact HBB.out | apply GB.bla | apply GB.bldN)⟩
      · rw [if_neg he] at hT
        cases hT
        have q1 : (e0 != 0) = true := bne_iff_ne.mpr he
        clear he
        go_wp2
        go_ret2
        exact ⟨rfl, by repeat (first | exact HBB.out | apply GB.bla | apply GB.bldN)⟩
theorem clock_Parse.mono : ∀ a0 k, LeO (clock_Parse.f k a0) (clock_Parse.f (k + 1) a0) := by
  intro a0 k
  unfold clock_Parse.f
  refine LeO.ite ?_ (LeO.none _)
  refine LeO.ite (LeO.refl _) ?_
  unfold clock_Parse.tail
  split
  · refine LeO.bind (clock_From.mono _ _ _ _ _) (fun _ => ?_)
    exact LeO.refl _
  · exact LeO.refl _
theorem clock_Parse.calls (k : Nat) (a0 : ByteArray) (r1 : Int) (r2 : Int) (w : World) (hL : LW w) (h : clock_Parse.f k a0 = some (r1, r2)) :
    Calls Tryd.prog 16 #[.string a0] w fun e w' => e = .returned (.tuple #[.int .i64 r1, .int .i64 r2]) ∧ Below w.heap.size w w' := by
  unfold clock_Parse.f at h
  by_cases hs : a0.size ≤ 1048576
  · rw [if_pos hs] at h
    have hl : a0.data.toList.length = a0.size := Array.length_toList
    have hd := clock_Parse.cut_size a0.data.toList
    have hh := clock_Parse.cut_size2 a0.data.toList
    rw [hl] at hd hh
    by_cases hc : (Lib.cut a0.data.toList [32]).2.2 = false ∨ (clock_Parse.parts (Lib.cut a0.data.toList [32]).1).length ≠ 3 ∨ 20 < a0.size
    · rw [if_pos hc] at h
      cases h
      exact clock_Parse.early a0 w hL hs _ _ _ rfl hd hc
    · rw [if_neg hc] at h
      have h1 : (Lib.cut a0.data.toList [32]).2.2 = true := by
        cases hb : (Lib.cut a0.data.toList [32]).2.2 with
        | true => rfl
        | false => exact absurd (.inl hb) hc
      have h3 : (clock_Parse.parts (Lib.cut a0.data.toList [32]).1).length = 3 := by
        by_cases h3 : (clock_Parse.parts (Lib.cut a0.data.toList [32]).1).length = 3
        · exact h3
        · exact absurd (.inr (.inl h3)) hc
      have h20 : a0.size ≤ 20 := by
        by_cases h20 : 20 < a0.size
        · exact absurd (.inr (.inr h20)) hc
        · omega
      exact clock_Parse.main k a0 w r1 r2 hL h20 _ _ (by
        show Lib.cut a0.data.toList [32] = _
        rw [← h1]) hd hh h3 h
  · rw [if_neg hs] at h
    cases h


/-! ### clock_Week: function 18 -/
def clock_Week.f (a0 : Int) : Option (Int × Int) := (clock_Of.f a0).bind fun bt120 => (if bt120.2.2 = 0 then (some (Int.tmod (wrap64 (bt120.1 + 5)) 7, 0)) else (some (0, bt120.2.2)))
set_option maxHeartbeats 8000000 in
set_option maxRecDepth 100000 in
theorem clock_Week.calls (a0 : Int) (r1 : Int) (r2 : Int) (w : World) (h : clock_Week.f a0 = some (r1, r2)) :
    Calls Tryd.prog 18 #[.int .i64 a0] w fun e w' => e = .returned (.tuple #[.int .i64 r1, .int .i64 r2]) ∧ Drawn0 w w' := by
  have H : ((clock_Of.f a0).bind fun bt120 => (if bt120.2.2 = 0 then (some (Int.tmod (wrap64 (bt120.1 + 5)) 7, 0)) else (some (0, bt120.2.2)))) = some (r1, r2) := h
  clear h
  replace H := Option.bind_eq_some_iff.mp H
  obtain ⟨⟨t120, t121, t122⟩, A20, H⟩ := H
  replace H : (if t122 = 0 then (some (Int.tmod (wrap64 (t120 + 5)) 7, 0)) else (some (0, t122))) = some (r1, r2) := H
  have A2 := Aside0.mk A20
  clear A20
  by_cases c3 : t122 = 0
  · rw [if_pos c3] at H
    have c3b0 : (t122 == 0) = true := beq_iff_eq.mpr c3
    have c3b1 : (t122 != 0) = false := bne_eq_false_iff_eq.mpr c3
    clear c3
    simp only [Option.some.injEq, Prod.mk.injEq] at H
    obtain ⟨rfl, rfl⟩ := H
    go_enter Tryd.func18, Tryd.ntmps18
    go_wp2_with (first | ((with_reducible refine gate_callee (f := 9) rfl ?_); refine goesL_ (some 9) rfl rfl Tryd.func9 (by kernel_rfl) rfl #[.int .i64 a0] rfl (by (try simp only [List.map_toArray, List.map_cons, List.map_nil]); first | done | rfl | (simp only [List.length_drop, List.length_take]; rfl)) ?_; (with_reducible refine (clock_Of.calls a0 t120 t121 t122 _ A2.out).mono ?_); rintro e w' ⟨rfl, ⟨nd, rfl⟩⟩; refine ⟨_, rfl, ?_⟩))
    go_ret2
    exact ⟨by first | rfl | (simp; done) | (simp [*]; done), by repeat (first | exact Drawn0.refl _ | apply Drawn0.step)⟩
  · rw [if_neg c3] at H
    have c3b0 : (t122 == 0) = false := beq_eq_false_iff_ne.mpr c3
    have c3b1 : (t122 != 0) = true := bne_iff_ne.mpr c3
    simp only [Option.some.injEq, Prod.mk.injEq] at H
    obtain ⟨rfl, rfl⟩ := H
    go_enter Tryd.func18, Tryd.ntmps18
    go_wp2_with (first | ((with_reducible refine gate_callee (f := 9) rfl ?_); refine goesL_ (some 9) rfl rfl Tryd.func9 (by kernel_rfl) rfl #[.int .i64 a0] rfl (by (try simp only [List.map_toArray, List.map_cons, List.map_nil]); first | done | rfl | (simp only [List.length_drop, List.length_take]; rfl)) ?_; (with_reducible refine (clock_Of.calls a0 t120 t121 t122 _ A2.out).mono ?_); rintro e w' ⟨rfl, ⟨nd, rfl⟩⟩; refine ⟨_, rfl, ?_⟩))
    go_ret2
    exact ⟨by first | rfl | (simp; done) | (simp [*]; done), by repeat (first | exact Drawn0.refl _ | apply Drawn0.step)⟩

/-! ### slackwaterref09_At: function 20 -/
def slackwaterref09_At.f (a0 : Int) (a1 : Int) : Option (Int × Int) := if a1 < 0 then (some (0, 2)) else (if a1 > 23 then (some (0, 2)) else (if a0 < 0 then (some (0, 2)) else (if a0 > 43690 then (some (0, 2)) else (if (wrap64 ((wrap64 (24 * a0)) + a1)) > 1048576 then (some (0, 2)) else (some (wrap64 ((wrap64 (24 * a0)) + a1), 0))))))
set_option maxHeartbeats 8000000 in
set_option maxRecDepth 100000 in
theorem slackwaterref09_At.calls (a0 : Int) (a1 : Int) (r1 : Int) (r2 : Int) (w : World) (h : slackwaterref09_At.f a0 a1 = some (r1, r2)) :
    Calls Tryd.prog 20 #[.int .i64 a0, .int .i64 a1] w fun e w' => e = .returned (.tuple #[.int .i64 r1, .int .i64 r2]) ∧ Drawn0 w w' := by
  have H : (if a1 < 0 then (some (0, 2)) else (if a1 > 23 then (some (0, 2)) else (if a0 < 0 then (some (0, 2)) else (if a0 > 43690 then (some (0, 2)) else (if (wrap64 ((wrap64 (24 * a0)) + a1)) > 1048576 then (some (0, 2)) else (some (wrap64 ((wrap64 (24 * a0)) + a1), 0))))))) = some (r1, r2) := h
  clear h
  by_cases c3 : a1 < 0
  · rw [if_pos c3] at H
    have c3b0 : decide (a1 < 0) = true := decide_eq_true c3
    clear c3
    simp only [Option.some.injEq, Prod.mk.injEq] at H
    obtain ⟨rfl, rfl⟩ := H
    go_enter Tryd.func20, Tryd.ntmps20
    go_wp2
    go_ret2
    exact ⟨by first | rfl | (simp; done) | (simp [*]; done), by repeat (first | exact Drawn0.refl _ | apply Drawn0.step)⟩
  · rw [if_neg c3] at H
    have c3b0 : decide (a1 < 0) = false := decide_eq_false c3
    clear c3
    by_cases c4 : a1 > 23
    · rw [if_pos c4] at H
      have c4b0 : decide (23 < a1) = true := decide_eq_true c4
      clear c4
      simp only [Option.some.injEq, Prod.mk.injEq] at H
      obtain ⟨rfl, rfl⟩ := H
      go_enter Tryd.func20, Tryd.ntmps20
      go_wp2
      go_ret2
      exact ⟨by first | rfl | (simp; done) | (simp [*]; done), by repeat (first | exact Drawn0.refl _ | apply Drawn0.step)⟩
    · rw [if_neg c4] at H
      have c4b0 : decide (23 < a1) = false := decide_eq_false c4
      clear c4
      by_cases c5 : a0 < 0
      · rw [if_pos c5] at H
        have c5b0 : decide (a0 < 0) = true := decide_eq_true c5
        clear c5
        simp only [Option.some.injEq, Prod.mk.injEq] at H
        obtain ⟨rfl, rfl⟩ := H
        go_enter Tryd.func20, Tryd.ntmps20
        go_wp2
        go_ret2
        exact ⟨by first | rfl | (simp; done) | (simp [*]; done), by repeat (first | exact Drawn0.refl _ | apply Drawn0.step)⟩
      · rw [if_neg c5] at H
        have c5b0 : decide (a0 < 0) = false := decide_eq_false c5
        clear c5
        by_cases c6 : a0 > 43690
        · rw [if_pos c6] at H
          have c6b0 : decide (43690 < a0) = true := decide_eq_true c6
          clear c6
          simp only [Option.some.injEq, Prod.mk.injEq] at H
          obtain ⟨rfl, rfl⟩ := H
          go_enter Tryd.func20, Tryd.ntmps20
          go_wp2
          go_ret2
          exact ⟨by first | rfl | (simp; done) | (simp [*]; done), by repeat (first | exact Drawn0.refl _ | apply Drawn0.step)⟩
        · rw [if_neg c6] at H
          have c6b0 : decide (43690 < a0) = false := decide_eq_false c6
          clear c6
          by_cases c7 : (wrap64 ((wrap64 (24 * a0)) + a1)) > 1048576
          · rw [if_pos c7] at H
            have c7b0 : decide (1048576 < (wrap64 ((wrap64 (24 * a0)) + a1))) = true := decide_eq_true c7
            clear c7
            simp only [Option.some.injEq, Prod.mk.injEq] at H
            obtain ⟨rfl, rfl⟩ := H
            go_enter Tryd.func20, Tryd.ntmps20
            go_wp2
            go_ret2
            exact ⟨by first | rfl | (simp; done) | (simp [*]; done), by repeat (first | exact Drawn0.refl _ | apply Drawn0.step)⟩
          · rw [if_neg c7] at H
            have c7b0 : decide (1048576 < (wrap64 ((wrap64 (24 * a0)) + a1))) = false := decide_eq_false c7
            clear c7
            simp only [Option.some.injEq, Prod.mk.injEq] at H
            obtain ⟨rfl, rfl⟩ := H
            go_enter Tryd.func20, Tryd.ntmps20
            go_wp2
            go_ret2
            exact ⟨by first | rfl | (simp; done) | (simp [*]; done), by repeat (first | exact Drawn0.refl _ | apply Drawn0.step)⟩

/-! ### slackwaterref09_Check: function 27 -/
def slackwaterref09_Check.f (a0 : Int) : Option (Int) := if a0 < 0 then (some 2) else (if a0 > 1048576 then (some 2) else (some 0))
set_option maxHeartbeats 8000000 in
set_option maxRecDepth 100000 in
theorem slackwaterref09_Check.calls (a0 : Int) (r : Int) (w : World) (h : slackwaterref09_Check.f a0 = some r) :
    Calls Tryd.prog 27 #[.int .i64 a0] w fun e w' => e = .returned (.int .i64 r) ∧ Drawn0 w w' := by
  have H : (if a0 < 0 then (some 2) else (if a0 > 1048576 then (some 2) else (some 0))) = some r := h
  clear h
  by_cases c2 : a0 < 0
  · rw [if_pos c2] at H
    have c2b0 : decide (a0 < 0) = true := decide_eq_true c2
    clear c2
    obtain rfl := Option.some.inj H
    go_enter Tryd.func27, Tryd.ntmps27
    go_wp2
    go_ret
    exact ⟨by first | rfl | (simp; done) | (simp [*]; done), by repeat (first | exact Drawn0.refl _ | apply Drawn0.step)⟩
  · rw [if_neg c2] at H
    have c2b0 : decide (a0 < 0) = false := decide_eq_false c2
    clear c2
    by_cases c3 : a0 > 1048576
    · rw [if_pos c3] at H
      have c3b0 : decide (1048576 < a0) = true := decide_eq_true c3
      clear c3
      obtain rfl := Option.some.inj H
      go_enter Tryd.func27, Tryd.ntmps27
      go_wp2
      go_ret
      exact ⟨by first | rfl | (simp; done) | (simp [*]; done), by repeat (first | exact Drawn0.refl _ | apply Drawn0.step)⟩
    · rw [if_neg c3] at H
      have c3b0 : decide (1048576 < a0) = false := decide_eq_false c3
      clear c3
      obtain rfl := Option.some.inj H
      go_enter Tryd.func27, Tryd.ntmps27
      go_wp2
      go_ret
      exact ⟨by first | rfl | (simp; done) | (simp [*]; done), by repeat (first | exact Drawn0.refl _ | apply Drawn0.step)⟩

/-! ### slackwaterref09_Of: function 21 -/
def slackwaterref09_Of.f (a0 : Int) : Option (Int × Int × Int) := (slackwaterref09_Check.f a0).bind fun t123 => (if t123 = 0 then (some (wrap64 (Int.tdiv a0 24), Int.tmod a0 24, 0)) else (some (0, 0, t123)))
set_option maxHeartbeats 8000000 in
set_option maxRecDepth 100000 in
theorem slackwaterref09_Of.calls (a0 : Int) (r1 : Int) (r2 : Int) (r3 : Int) (w : World) (h : slackwaterref09_Of.f a0 = some (r1, r2, r3)) :
    Calls Tryd.prog 21 #[.int .i64 a0] w fun e w' => e = .returned (.tuple #[.int .i64 r1, .int .i64 r2, .int .i64 r3]) ∧ Drawn0 w w' := by
  have H : ((slackwaterref09_Check.f a0).bind fun t123 => (if t123 = 0 then (some (wrap64 (Int.tdiv a0 24), Int.tmod a0 24, 0)) else (some (0, 0, t123)))) = some (r1, r2, r3) := h
  clear h
  replace H := Option.bind_eq_some_iff.mp H
  obtain ⟨t123, A20, H⟩ := H
  replace H : (if t123 = 0 then (some (wrap64 (Int.tdiv a0 24), Int.tmod a0 24, 0)) else (some (0, 0, t123))) = some (r1, r2, r3) := H
  have A2 := Aside0.mk A20
  clear A20
  by_cases c3 : t123 = 0
  · rw [if_pos c3] at H
    have c3b0 : (t123 == 0) = true := beq_iff_eq.mpr c3
    have c3b1 : (t123 != 0) = false := bne_eq_false_iff_eq.mpr c3
    clear c3
    simp only [Option.some.injEq, Prod.mk.injEq] at H
    obtain ⟨rfl, rfl, rfl⟩ := H
    go_enter Tryd.func21, Tryd.ntmps21
    go_wp2_with (first | ((with_reducible refine gate_callee (f := 27) rfl ?_); refine goesL_ (some 7) rfl rfl Tryd.func27 (by kernel_rfl) rfl #[.int .i64 a0] rfl (by (try simp only [List.map_toArray, List.map_cons, List.map_nil]); first | done | rfl | (simp only [List.length_drop, List.length_take]; rfl)) ?_; (with_reducible refine (slackwaterref09_Check.calls a0 t123 _ A2.out).mono ?_); rintro e w' ⟨rfl, ⟨nd, rfl⟩⟩; refine ⟨_, rfl, ?_⟩))
    go_ret3
    exact ⟨by first | rfl | (simp; done) | (simp [*]; done), by repeat (first | exact Drawn0.refl _ | apply Drawn0.step)⟩
  · rw [if_neg c3] at H
    have c3b0 : (t123 == 0) = false := beq_eq_false_iff_ne.mpr c3
    have c3b1 : (t123 != 0) = true := bne_iff_ne.mpr c3
    simp only [Option.some.injEq, Prod.mk.injEq] at H
    obtain ⟨rfl, rfl, rfl⟩ := H
    go_enter Tryd.func21, Tryd.ntmps21
    go_wp2_with (first | ((with_reducible refine gate_callee (f := 27) rfl ?_); refine goesL_ (some 7) rfl rfl Tryd.func27 (by kernel_rfl) rfl #[.int .i64 a0] rfl (by (try simp only [List.map_toArray, List.map_cons, List.map_nil]); first | done | rfl | (simp only [List.length_drop, List.length_take]; rfl)) ?_; (with_reducible refine (slackwaterref09_Check.calls a0 t123 _ A2.out).mono ?_); rintro e w' ⟨rfl, ⟨nd, rfl⟩⟩; refine ⟨_, rfl, ?_⟩))
    go_ret3
    exact ⟨by first | rfl | (simp; done) | (simp [*]; done), by repeat (first | exact Drawn0.refl _ | apply Drawn0.step)⟩

/-! ### slackwaterref09_leap: function 43 -/
def slackwaterref09_leap.f (a0 : Int) : Option (Bool) := if (Int.tmod a0 4) = 0 then (if (Int.tmod a0 100) = 0 then (some ((Int.tmod a0 400) == 0)) else (some true)) else (some ((Int.tmod a0 400) == 0))
set_option maxHeartbeats 8000000 in
set_option maxRecDepth 100000 in
theorem slackwaterref09_leap.calls (a0 : Int) (r : Bool) (w : World) (h : slackwaterref09_leap.f a0 = some r) :
    Calls Tryd.prog 43 #[.int .i64 a0] w fun e w' => e = .returned (.bool r) ∧ Drawn0 w w' := by
  have H : (if (Int.tmod a0 4) = 0 then (if (Int.tmod a0 100) = 0 then (some ((Int.tmod a0 400) == 0)) else (some true)) else (some ((Int.tmod a0 400) == 0))) = some r := h
  clear h
  by_cases c2 : (Int.tmod a0 4) = 0
  · rw [if_pos c2] at H
    have c2b0 : ((Int.tmod a0 4) == 0) = true := beq_iff_eq.mpr c2
    have c2b1 : ((Int.tmod a0 4) != 0) = false := bne_eq_false_iff_eq.mpr c2
    clear c2
    by_cases c3 : (Int.tmod a0 100) = 0
    · rw [if_pos c3] at H
      have c3b0 : ((Int.tmod a0 100) == 0) = true := beq_iff_eq.mpr c3
      have c3b1 : ((Int.tmod a0 100) != 0) = false := bne_eq_false_iff_eq.mpr c3
      clear c3
      obtain rfl := Option.some.inj H
      go_enter Tryd.func43, Tryd.ntmps43
      go_wp2
      go_ret
      exact ⟨by first | rfl | (simp; done) | (simp [*]; done), by repeat (first | exact Drawn0.refl _ | apply Drawn0.step)⟩
    · rw [if_neg c3] at H
      have c3b0 : ((Int.tmod a0 100) == 0) = false := beq_eq_false_iff_ne.mpr c3
      have c3b1 : ((Int.tmod a0 100) != 0) = true := bne_iff_ne.mpr c3
      obtain rfl := Option.some.inj H
      go_enter Tryd.func43, Tryd.ntmps43
      go_wp2
      go_ret
      exact ⟨by first | rfl | (simp; done) | (simp [*]; done), by repeat (first | exact Drawn0.refl _ | apply Drawn0.step)⟩
  · rw [if_neg c2] at H
    have c2b0 : ((Int.tmod a0 4) == 0) = false := beq_eq_false_iff_ne.mpr c2
    have c2b1 : ((Int.tmod a0 4) != 0) = true := bne_iff_ne.mpr c2
    obtain rfl := Option.some.inj H
    go_enter Tryd.func43, Tryd.ntmps43
    go_wp2
    go_ret
    exact ⟨by first | rfl | (simp; done) | (simp [*]; done), by repeat (first | exact Drawn0.refl _ | apply Drawn0.step)⟩

/-! ### slackwaterref09_days: function 42 -/
def slackwaterref09_days.f (a0 : Int) (a1 : Int) : Option (Int) := if a1 = 2 then ((slackwaterref09_leap.f a0).bind fun t124 => (if t124 = true then (some 29) else (some 28))) else (if a1 = 4 then (some 30) else (if a1 = 6 then (some 30) else (if a1 = 9 then (some 30) else (if a1 = 11 then (some 30) else (some 31)))))
set_option maxHeartbeats 8000000 in
set_option maxRecDepth 100000 in
theorem slackwaterref09_days.calls (a0 : Int) (a1 : Int) (r : Int) (w : World) (h : slackwaterref09_days.f a0 a1 = some r) :
    Calls Tryd.prog 42 #[.int .i64 a0, .int .i64 a1] w fun e w' => e = .returned (.int .i64 r) ∧ Drawn0 w w' := by
  have H : (if a1 = 2 then ((slackwaterref09_leap.f a0).bind fun t124 => (if t124 = true then (some 29) else (some 28))) else (if a1 = 4 then (some 30) else (if a1 = 6 then (some 30) else (if a1 = 9 then (some 30) else (if a1 = 11 then (some 30) else (some 31)))))) = some r := h
  clear h
  by_cases c3 : a1 = 2
  · rw [if_pos c3] at H
    have c3b0 : (a1 == 2) = true := beq_iff_eq.mpr c3
    have c3b1 : (a1 != 2) = false := bne_eq_false_iff_eq.mpr c3
    clear c3
    replace H := Option.bind_eq_some_iff.mp H
    obtain ⟨t124, A40, H⟩ := H
    replace H : (if t124 = true then (some 29) else (some 28)) = some r := H
    have A4 := Aside0.mk A40
    clear A40
    by_cases c5 : t124 = true
    · subst c5
      have H1 : (some 29) = some r := by rw [if_pos rfl] at H; exact H
      clear H
      have H := H1
      clear H1
      obtain rfl := Option.some.inj H
      go_enter Tryd.func42, Tryd.ntmps42
      go_wp2_with (first | ((with_reducible refine gate_callee (f := 43) rfl ?_); refine goesL_ (some 9) rfl rfl Tryd.func43 (by kernel_rfl) rfl #[.int .i64 a0] rfl (by (try simp only [List.map_toArray, List.map_cons, List.map_nil]); first | done | rfl | (simp only [List.length_drop, List.length_take]; rfl)) ?_; (with_reducible refine (slackwaterref09_leap.calls a0 true _ A4.out).mono ?_); rintro e w' ⟨rfl, ⟨nd, rfl⟩⟩; refine ⟨_, rfl, ?_⟩))
      go_ret
      exact ⟨by first | rfl | (simp; done) | (simp [*]; done), by repeat (first | exact Drawn0.refl _ | apply Drawn0.step)⟩
    · replace c5 := Bool.eq_false_iff.mpr c5
      subst c5
      have H1 : (some 28) = some r := by rw [if_neg (show ¬ (false = true) by decide)] at H; exact H
      clear H
      have H := H1
      clear H1
      obtain rfl := Option.some.inj H
      go_enter Tryd.func42, Tryd.ntmps42
      go_wp2_with (first | ((with_reducible refine gate_callee (f := 43) rfl ?_); refine goesL_ (some 9) rfl rfl Tryd.func43 (by kernel_rfl) rfl #[.int .i64 a0] rfl (by (try simp only [List.map_toArray, List.map_cons, List.map_nil]); first | done | rfl | (simp only [List.length_drop, List.length_take]; rfl)) ?_; (with_reducible refine (slackwaterref09_leap.calls a0 false _ A4.out).mono ?_); rintro e w' ⟨rfl, ⟨nd, rfl⟩⟩; refine ⟨_, rfl, ?_⟩))
      go_ret
      exact ⟨by first | rfl | (simp; done) | (simp [*]; done), by repeat (first | exact Drawn0.refl _ | apply Drawn0.step)⟩
  · rw [if_neg c3] at H
    have c3b0 : (a1 == 2) = false := beq_eq_false_iff_ne.mpr c3
    have c3b1 : (a1 != 2) = true := bne_iff_ne.mpr c3
    by_cases c6 : a1 = 4
    · rw [if_pos c6] at H
      have c6b0 : (a1 == 4) = true := beq_iff_eq.mpr c6
      have c6b1 : (a1 != 4) = false := bne_eq_false_iff_eq.mpr c6
      clear c6
      obtain rfl := Option.some.inj H
      go_enter Tryd.func42, Tryd.ntmps42
      go_wp2
      go_ret
      exact ⟨by first | rfl | (simp; done) | (simp [*]; done), by repeat (first | exact Drawn0.refl _ | apply Drawn0.step)⟩
    · rw [if_neg c6] at H
      have c6b0 : (a1 == 4) = false := beq_eq_false_iff_ne.mpr c6
      have c6b1 : (a1 != 4) = true := bne_iff_ne.mpr c6
      by_cases c7 : a1 = 6
      · rw [if_pos c7] at H
        have c7b0 : (a1 == 6) = true := beq_iff_eq.mpr c7
        have c7b1 : (a1 != 6) = false := bne_eq_false_iff_eq.mpr c7
        clear c7
        obtain rfl := Option.some.inj H
        go_enter Tryd.func42, Tryd.ntmps42
        go_wp2
        go_ret
        exact ⟨by first | rfl | (simp; done) | (simp [*]; done), by repeat (first | exact Drawn0.refl _ | apply Drawn0.step)⟩
      · rw [if_neg c7] at H
        have c7b0 : (a1 == 6) = false := beq_eq_false_iff_ne.mpr c7
        have c7b1 : (a1 != 6) = true := bne_iff_ne.mpr c7
        by_cases c8 : a1 = 9
        · rw [if_pos c8] at H
          have c8b0 : (a1 == 9) = true := beq_iff_eq.mpr c8
          have c8b1 : (a1 != 9) = false := bne_eq_false_iff_eq.mpr c8
          clear c8
          obtain rfl := Option.some.inj H
          go_enter Tryd.func42, Tryd.ntmps42
          go_wp2
          go_ret
          exact ⟨by first | rfl | (simp; done) | (simp [*]; done), by repeat (first | exact Drawn0.refl _ | apply Drawn0.step)⟩
        · rw [if_neg c8] at H
          have c8b0 : (a1 == 9) = false := beq_eq_false_iff_ne.mpr c8
          have c8b1 : (a1 != 9) = true := bne_iff_ne.mpr c8
          by_cases c9 : a1 = 11
          · rw [if_pos c9] at H
            have c9b0 : (a1 == 11) = true := beq_iff_eq.mpr c9
            have c9b1 : (a1 != 11) = false := bne_eq_false_iff_eq.mpr c9
            clear c9
            obtain rfl := Option.some.inj H
            go_enter Tryd.func42, Tryd.ntmps42
            go_wp2
            go_ret
            exact ⟨by first | rfl | (simp; done) | (simp [*]; done), by repeat (first | exact Drawn0.refl _ | apply Drawn0.step)⟩
          · rw [if_neg c9] at H
            have c9b0 : (a1 == 11) = false := beq_eq_false_iff_ne.mpr c9
            have c9b1 : (a1 != 11) = true := bne_iff_ne.mpr c9
            obtain rfl := Option.some.inj H
            go_enter Tryd.func42, Tryd.ntmps42
            go_wp2
            go_ret
            exact ⟨by first | rfl | (simp; done) | (simp [*]; done), by repeat (first | exact Drawn0.refl _ | apply Drawn0.step)⟩

/-! ### slackwaterref09_Date: function 22 -/
def slackwaterref09_Date.l0 : Nat → Int → Int → Int → Int → Option (Int × Int × Int × Int × Int)
  | 0, _, _, _, _ => none
  | k + 1, x0, x5, x6, x7 => (slackwaterref09_days.f x5 x6).bind fun t127 => (if x7 ≥ t127 then ((slackwaterref09_days.f x5 x6).bind fun t128 => (if (wrap64 (x6 + 1)) > 12 then (slackwaterref09_Date.l0 k x0 (wrap64 (x5 + 1)) 1 (wrap64 (x7 - t128))) else (slackwaterref09_Date.l0 k x0 x5 (wrap64 (x6 + 1)) (wrap64 (x7 - t128))))) else (some (x5, x6, wrap64 (x7 + 1), Int.tmod x0 24, 0)))
def slackwaterref09_Date.f (k : Nat) (a0 : Int) : Option (Int × Int × Int × Int × Int) := (slackwaterref09_Check.f a0).bind fun t126 => (if t126 = 0 then (slackwaterref09_Date.l0 k a0 2000 1 (wrap64 (Int.tdiv a0 24))) else (some (0, 0, 0, 0, t126)))
theorem slackwaterref09_Date.mono_l : ∀ k, (∀ y0 y1 y2 y3, LeO (slackwaterref09_Date.l0 k y0 y1 y2 y3) (slackwaterref09_Date.l0 (k + 1) y0 y1 y2 y3))
  | 0 => fun _ _ _ _ r h => by simp [slackwaterref09_Date.l0] at h
  | k + 1 => by
    have ih0 := slackwaterref09_Date.mono_l k
    · intro y0 y1 y2 y3
      unfold slackwaterref09_Date.l0
      repeat' first
      | (with_reducible exact ih0 _ _ _ _)
      | (with_reducible exact LeO.refl _)
      | (with_reducible exact LeO.none _)
      | (with_reducible refine LeO.ite ?_ ?_)
      | (with_reducible refine LeO.bind ?_ (fun _ => ?_))
      | exact ih0 _ _ _ _
      | exact LeO.none _
      | refine LeO.ite ?_ ?_
      | refine LeO.bind ?_ (fun _ => ?_)
theorem slackwaterref09_Date.mono : ∀ a0 k, LeO (slackwaterref09_Date.f k a0) (slackwaterref09_Date.f (k + 1) a0) := by
  intro a0 k
  have ih0 := slackwaterref09_Date.mono_l k
  unfold slackwaterref09_Date.f
  repeat' first
      | (with_reducible exact ih0 _ _ _ _)
      | (with_reducible exact LeO.refl _)
      | (with_reducible exact LeO.none _)
      | (with_reducible refine LeO.ite ?_ ?_)
      | (with_reducible refine LeO.bind ?_ (fun _ => ?_))
      | exact ih0 _ _ _ _
      | exact LeO.none _
      | refine LeO.ite ?_ ?_
      | refine LeO.bind ?_ (fun _ => ?_)
set_option maxHeartbeats 8000000 in
set_option maxRecDepth 100000 in
theorem slackwaterref09_Date.calls (k : Nat) (a0 : Int) (r1 : Int) (r2 : Int) (r3 : Int) (r4 : Int) (r5 : Int) (w : World) (h : slackwaterref09_Date.f k a0 = some (r1, r2, r3, r4, r5)) :
    Calls Tryd.prog 22 #[.int .i64 a0] w fun e w' => e = .returned (.tuple #[.agg #[.int .i64 r1, .int .i64 r2, .int .i64 r3, .int .i64 r4], .int .i64 r5]) ∧ Below w.heap.size w w' := by
  have hu23 := Tryd.underlying23
  have HB := Aside0.mk (Below.refl w.heap.size w)
  have H : ((slackwaterref09_Check.f a0).bind fun t126 => (if t126 = 0 then (slackwaterref09_Date.l0 k a0 2000 1 (wrap64 (Int.tdiv a0 24))) else (some (0, 0, 0, 0, t126)))) = some (r1, r2, r3, r4, r5) := h
  clear h
  replace H := Option.bind_eq_some_iff.mp H
  obtain ⟨t126, A20, H⟩ := H
  replace H : (if t126 = 0 then (slackwaterref09_Date.l0 k a0 2000 1 (wrap64 (Int.tdiv a0 24))) else (some (0, 0, 0, 0, t126))) = some (r1, r2, r3, r4, r5) := H
  have A2 := Aside0.mk A20
  clear A20
  by_cases c3 : t126 = 0
  · rw [if_pos c3] at H
    have c3b0 : (t126 == 0) = true := beq_iff_eq.mpr c3
    have c3b1 : (t126 != 0) = false := bne_eq_false_iff_eq.mpr c3
    clear c3
    have H' := Aside0.mk H
    clear H
    go_enter Tryd.func22, Tryd.ntmps22
    go_wp2_with (first | ((with_reducible refine gate_dst (N := 2) rfl ?_); refine box_event ?hg (N := 2) ?hd (cs := #[.int .i64 0, .int .i64 0, .int .i64 0, .int .i64 0]) (t := 23) ?hr ?_; (case hd => rfl); (case hg => rfl); (case hr => first | (go_simp; done) | (go_simp; rfl)); intro gb125 hg w4 hbox hb; have n0_ := Aside0.mk (below_step (by repeat (first | (with_reducible first | exact HB.out | apply below_alloc | apply pw_below_drewN | apply below_drew1) | exact HB.out)) hb); have n1_ := Aside0.mk (hbox); have n2_ := Aside0.mk ((by rw [hg]; exact (below_size (by repeat (first | (with_reducible first | exact HB.out | apply below_alloc | apply pw_below_drewN | apply below_drew1) | exact HB.out))) : w.heap.size ≤ gb125)); have n3_ := Aside0.mk ((by rw [hg]; exact (below_size (by repeat (first | (with_reducible first | exact HB.out | apply below_alloc | apply pw_below_drewN | apply below_drew1) | exact HB.out))) : w.heap.size ≤ gb125)); clear HB; have HB := n0_; have BK125 := n1_; have GW125 := n2_; have GE125 := n3_; clear n0_ n1_ n2_ n3_; clear hb hbox hg) | ((with_reducible refine gate_callee (f := 27) rfl ?_); refine goesL_ (some 9) rfl rfl Tryd.func27 (by kernel_rfl) rfl #[.int .i64 a0] rfl (by (try simp only [List.map_toArray, List.map_cons, List.map_nil]); first | done | rfl | (simp only [List.length_drop, List.length_take]; rfl)) ?_; (with_reducible refine (slackwaterref09_Check.calls a0 t126 _ A2.out).mono ?_); rintro e w' ⟨rfl, ⟨nd, rfl⟩⟩; refine ⟨_, rfl, ?_⟩))
    go_loopg [5, 6, 7] k (fun kq v5 v6 v7 w' => ∃ (x5_1 : Int) (x6_1 : Int) (x7_1 : Int), v5 = .int .i64 x5_1 ∧ v6 = .int .i64 x6_1 ∧ v7 = .int .i64 x7_1 ∧ Aside0 (slackwaterref09_Date.l0 kq a0 x5_1 x6_1 x7_1 = some (r1, r2, r3, r4, r5)) ∧ Aside0 (kq ≤ k) ∧ Aside0 (w'.heap[gb125]? = some (.cells #[.int .i64 0, .int .i64 0, .int .i64 0, .int .i64 0] 23 (0, 0))) ∧ Aside0 (Below w.heap.size w w'))
    case atStart => exact ⟨(2000), (1), (wrap64 (Int.tdiv a0 24)), (by first | rfl | (simp; done) | (simp [*]; done)), (by first | rfl | (simp; done) | (simp [*]; done)), (by first | rfl | (simp; done) | (simp [*]; done)), H', ⟨Nat.le_refl _⟩, ⟨by (with_reducible repeat (first | refine blk_drewN ?_ _ | refine blk_drew ?_ | refine blk_alloc ?_ _)); exact BK125.out⟩, ⟨by repeat (first | (with_reducible first | exact HB.out | apply below_alloc | apply pw_below_drewN | apply below_drew1 | refine below_set ?_ GE125.out) | exact HB.out)⟩⟩
    case round =>
      clear H'
      try clear c2
      try clear p2
      try clear c3
      try clear c3b0
      try clear c3b1
      obtain ⟨x5_1, x6_1, x7_1, rfl, rfl, rfl, HA, HK1, BK125, HB⟩ := hrel
      cases gk with
      | zero => exact absurd HA.out (by simp [slackwaterref09_Date.l0])
      | succ k1 =>
        have H := HA.out
        clear HA
        simp only [slackwaterref09_Date.l0] at H
        replace H := Option.bind_eq_some_iff.mp H
        obtain ⟨t127, A50, H⟩ := H
        replace H : (if x7_1 ≥ t127 then ((slackwaterref09_days.f x5_1 x6_1).bind fun t128 => (if (wrap64 (x6_1 + 1)) > 12 then (slackwaterref09_Date.l0 k1 a0 (wrap64 (x5_1 + 1)) 1 (wrap64 (x7_1 - t128))) else (slackwaterref09_Date.l0 k1 a0 x5_1 (wrap64 (x6_1 + 1)) (wrap64 (x7_1 - t128))))) else (some (x5_1, x6_1, wrap64 (x7_1 + 1), Int.tmod a0 24, 0))) = some (r1, r2, r3, r4, r5) := H
        have A5 := Aside0.mk A50
        clear A50
        by_cases c6 : x7_1 ≥ t127
        · rw [if_pos c6] at H
          have c6b0 : decide (t127 ≤ x7_1) = true := decide_eq_true c6
          clear c6
          replace H := Option.bind_eq_some_iff.mp H
          obtain ⟨t128, A70, H⟩ := H
          replace H : (if (wrap64 (x6_1 + 1)) > 12 then (slackwaterref09_Date.l0 k1 a0 (wrap64 (x5_1 + 1)) 1 (wrap64 (x7_1 - t128))) else (slackwaterref09_Date.l0 k1 a0 x5_1 (wrap64 (x6_1 + 1)) (wrap64 (x7_1 - t128)))) = some (r1, r2, r3, r4, r5) := H
          have A7 := Aside0.mk A70
          clear A70
          by_cases c8 : (wrap64 (x6_1 + 1)) > 12
          · rw [if_pos c8] at H
            have c8b0 : decide (12 < (wrap64 (x6_1 + 1))) = true := decide_eq_true c8
            clear c8
            have H' := Aside0.mk H
            clear H
            go_wp2_with (first | ((with_reducible refine gate_callee (f := 42) rfl ?_); refine goesL_ (some 19) rfl rfl Tryd.func42 (by kernel_rfl) rfl #[.int .i64 x5_1, .int .i64 x6_1] rfl (by (try simp only [List.map_toArray, List.map_cons, List.map_nil]); first | done | rfl | (simp only [List.length_drop, List.length_take]; rfl)) ?_; (with_reducible refine (slackwaterref09_days.calls x5_1 x6_1 t127 _ A5.out).mono ?_); rintro e w' ⟨rfl, ⟨nd, rfl⟩⟩; refine ⟨_, rfl, ?_⟩) | ((with_reducible refine gate_callee (f := 42) rfl ?_); refine goesL_ (some 24) rfl rfl Tryd.func42 (by kernel_rfl) rfl #[.int .i64 x5_1, .int .i64 x6_1] rfl (by (try simp only [List.map_toArray, List.map_cons, List.map_nil]); first | done | rfl | (simp only [List.length_drop, List.length_take]; rfl)) ?_; (with_reducible refine (slackwaterref09_days.calls x5_1 x6_1 t128 _ A7.out).mono ?_); rintro e w' ⟨rfl, ⟨nd, rfl⟩⟩; refine ⟨_, rfl, ?_⟩))
            go_roundg k1
            case measure => have := HK1.out; omega
            case rel => exact ⟨(wrap64 (x5_1 + 1)), (1), (wrap64 (x7_1 - t128)), (by first | rfl | (simp; done) | (simp [*]; done)), (by first | rfl | (simp; done) | (simp [*]; done)), (by first | rfl | (simp; done) | (simp [*]; done)), H', ⟨by have := HK1.out; omega⟩, ⟨by (with_reducible repeat (first | refine blk_drewN ?_ _ | refine blk_drew ?_ | refine blk_alloc ?_ _)); exact BK125.out⟩, ⟨by repeat (first | (with_reducible first | exact HB.out | apply below_alloc | apply pw_below_drewN | apply below_drew1 | refine below_set ?_ GE125.out) | exact HB.out)⟩⟩
          · rw [if_neg c8] at H
            have c8b0 : decide (12 < (wrap64 (x6_1 + 1))) = false := decide_eq_false c8
            clear c8
            have H' := Aside0.mk H
            clear H
            go_wp2_with (first | ((with_reducible refine gate_callee (f := 42) rfl ?_); refine goesL_ (some 19) rfl rfl Tryd.func42 (by kernel_rfl) rfl #[.int .i64 x5_1, .int .i64 x6_1] rfl (by (try simp only [List.map_toArray, List.map_cons, List.map_nil]); first | done | rfl | (simp only [List.length_drop, List.length_take]; rfl)) ?_; (with_reducible refine (slackwaterref09_days.calls x5_1 x6_1 t127 _ A5.out).mono ?_); rintro e w' ⟨rfl, ⟨nd, rfl⟩⟩; refine ⟨_, rfl, ?_⟩) | ((with_reducible refine gate_callee (f := 42) rfl ?_); refine goesL_ (some 24) rfl rfl Tryd.func42 (by kernel_rfl) rfl #[.int .i64 x5_1, .int .i64 x6_1] rfl (by (try simp only [List.map_toArray, List.map_cons, List.map_nil]); first | done | rfl | (simp only [List.length_drop, List.length_take]; rfl)) ?_; (with_reducible refine (slackwaterref09_days.calls x5_1 x6_1 t128 _ A7.out).mono ?_); rintro e w' ⟨rfl, ⟨nd, rfl⟩⟩; refine ⟨_, rfl, ?_⟩))
            go_roundg k1
            case measure => have := HK1.out; omega
            case rel => exact ⟨(x5_1), (wrap64 (x6_1 + 1)), (wrap64 (x7_1 - t128)), (by first | rfl | (simp; done) | (simp [*]; done)), (by first | rfl | (simp; done) | (simp [*]; done)), (by first | rfl | (simp; done) | (simp [*]; done)), H', ⟨by have := HK1.out; omega⟩, ⟨by (with_reducible repeat (first | refine blk_drewN ?_ _ | refine blk_drew ?_ | refine blk_alloc ?_ _)); exact BK125.out⟩, ⟨by repeat (first | (with_reducible first | exact HB.out | apply below_alloc | apply pw_below_drewN | apply below_drew1 | refine below_set ?_ GE125.out) | exact HB.out)⟩⟩
        · rw [if_neg c6] at H
          have c6b0 : decide (t127 ≤ x7_1) = false := decide_eq_false c6
          clear c6
          simp only [Option.some.injEq, Prod.mk.injEq] at H
          obtain ⟨rfl, rfl, rfl, rfl, rfl⟩ := H
          go_wp2_with (first | ((with_reducible refine gate_callee (f := 42) rfl ?_); refine goesL_ (some 19) rfl rfl Tryd.func42 (by kernel_rfl) rfl #[.int .i64 x5_1, .int .i64 x6_1] rfl (by (try simp only [List.map_toArray, List.map_cons, List.map_nil]); first | done | rfl | (simp only [List.length_drop, List.length_take]; rfl)) ?_; (with_reducible refine (slackwaterref09_days.calls x5_1 x6_1 t127 _ A5.out).mono ?_); rintro e w' ⟨rfl, ⟨nd, rfl⟩⟩; refine ⟨_, rfl, ?_⟩; (try (rw [drewN_self wr]; generalize hq_ : World.drewN wr _ = wr; have n0_ : Aside0 (wr.heap[gb125]? = some (.cells #[.int .i64 0, .int .i64 0, .int .i64 0, .int .i64 0] 23 (0, 0))) := ⟨by rw [← hq_]; exact (by (with_reducible repeat (first | refine blk_drewN ?_ _ | refine blk_drew ?_ | refine blk_alloc ?_ _)); exact BK125.out)⟩; have n1_ : Aside0 (Below w.heap.size w wr) := ⟨by rw [← hq_]; exact (by repeat (first | (with_reducible first | exact HB.out | apply below_alloc | apply pw_below_drewN | apply below_drew1 | refine below_set ?_ GE125.out) | exact HB.out))⟩; clear BK125 HB hq_; have BK125 := n0_; have HB := n1_; clear n0_ n1_)); have hcz9_0 : wr.cell? ⟨gb125, 0, none⟩ = some (.int .i64 0) := (blk_cell BK125.out 0).trans rfl; have hcz9_1 : wr.cell? ⟨gb125, 1, none⟩ = some (.int .i64 0) := (blk_cell BK125.out 1).trans rfl; have hcz9_2 : wr.cell? ⟨gb125, 2, none⟩ = some (.int .i64 0) := (blk_cell BK125.out 2).trans rfl; have hcz9_3 : wr.cell? ⟨gb125, 3, none⟩ = some (.int .i64 0) := (blk_cell BK125.out 3).trans rfl; have hfz9_0 := blk_frozen BK125.out 0; have hfz9_1 := blk_frozen BK125.out 1; have hfz9_2 := blk_frozen BK125.out 2; have hfz9_3 := blk_frozen BK125.out 3))
          refine bodyPost_ret (results_ct rfl _ _ gb125 23 #[.int .i64 x5_1, .int .i64 x6_1, .int .i64 (wrap64 (x7_1 + 1)), .int .i64 (Int.tmod a0 24)] (0, 0) _ rfl (by (with_reducible repeat (first | refine blk_drewN ?_ _ | refine blk_drew ?_ | refine blk_alloc ?_ _)); refine blk_put (cs := #[.int .i64 x5_1, .int .i64 x6_1, .int .i64 (wrap64 (x7_1 + 1)), .int .i64 0]) ?_ 3 _ rfl; (with_reducible repeat (first | refine blk_drewN ?_ _ | refine blk_drew ?_ | refine blk_alloc ?_ _)); refine blk_put (cs := #[.int .i64 x5_1, .int .i64 x6_1, .int .i64 0, .int .i64 0]) ?_ 2 _ rfl; (with_reducible repeat (first | refine blk_drewN ?_ _ | refine blk_drew ?_ | refine blk_alloc ?_ _)); refine blk_put (cs := #[.int .i64 x5_1, .int .i64 0, .int .i64 0, .int .i64 0]) ?_ 1 _ rfl; (with_reducible repeat (first | refine blk_drewN ?_ _ | refine blk_drew ?_ | refine blk_alloc ?_ _)); refine blk_put (cs := #[.int .i64 0, .int .i64 0, .int .i64 0, .int .i64 0]) ?_ 0 _ rfl; (with_reducible repeat (first | refine blk_drewN ?_ _ | refine blk_drew ?_ | refine blk_alloc ?_ _)); exact BK125.out) Tryd.underlying23 rfl (by kernel_rfl)) rfl ?_
          exact ⟨by first | rfl | (simp [errW_none, errW_some] <;> rfl) | (simp [*, errW_none, errW_some] <;> rfl), by repeat (first | (with_reducible first | exact HB.out | apply below_alloc | apply pw_below_drewN | apply below_drew1 | refine below_set ?_ GE125.out) | exact HB.out)⟩
  · rw [if_neg c3] at H
    have c3b0 : (t126 == 0) = false := beq_eq_false_iff_ne.mpr c3
    have c3b1 : (t126 != 0) = true := bne_iff_ne.mpr c3
    simp only [Option.some.injEq, Prod.mk.injEq] at H
    obtain ⟨rfl, rfl, rfl, rfl, rfl⟩ := H
    go_enter Tryd.func22, Tryd.ntmps22
    go_wp2_with (first | ((with_reducible refine gate_dst (N := 2) rfl ?_); refine box_event ?hg (N := 2) ?hd (cs := #[.int .i64 0, .int .i64 0, .int .i64 0, .int .i64 0]) (t := 23) ?hr ?_; (case hd => rfl); (case hg => rfl); (case hr => first | (go_simp; done) | (go_simp; rfl)); intro gb125 hg w10 hbox hb; have n0_ := Aside0.mk (below_step (by repeat (first | (with_reducible first | exact HB.out | apply below_alloc | apply pw_below_drewN | apply below_drew1) | exact HB.out)) hb); have n1_ := Aside0.mk (hbox); have n2_ := Aside0.mk ((by rw [hg]; exact (below_size (by repeat (first | (with_reducible first | exact HB.out | apply below_alloc | apply pw_below_drewN | apply below_drew1) | exact HB.out))) : w.heap.size ≤ gb125)); have n3_ := Aside0.mk ((by rw [hg]; exact (below_size (by repeat (first | (with_reducible first | exact HB.out | apply below_alloc | apply pw_below_drewN | apply below_drew1) | exact HB.out))) : w.heap.size ≤ gb125)); clear HB; have HB := n0_; have BK125 := n1_; have GW125 := n2_; have GE125 := n3_; clear n0_ n1_ n2_ n3_; clear hb hbox hg) | ((with_reducible refine gate_callee (f := 27) rfl ?_); refine goesL_ (some 9) rfl rfl Tryd.func27 (by kernel_rfl) rfl #[.int .i64 a0] rfl (by (try simp only [List.map_toArray, List.map_cons, List.map_nil]); first | done | rfl | (simp only [List.length_drop, List.length_take]; rfl)) ?_; (with_reducible refine (slackwaterref09_Check.calls a0 t126 _ A2.out).mono ?_); rintro e w' ⟨rfl, ⟨nd, rfl⟩⟩; refine ⟨_, rfl, ?_⟩; (try (rw [drewN_self w10]; generalize hq_ : World.drewN w10 _ = w10; have n0_ : Aside0 (w10.heap[gb125]? = some (.cells #[.int .i64 0, .int .i64 0, .int .i64 0, .int .i64 0] 23 (0, 0))) := ⟨by rw [← hq_]; exact (by (with_reducible repeat (first | refine blk_drewN ?_ _ | refine blk_drew ?_ | refine blk_alloc ?_ _)); exact BK125.out)⟩; have n1_ : Aside0 (Below w.heap.size w w10) := ⟨by rw [← hq_]; exact (by repeat (first | (with_reducible first | exact HB.out | apply below_alloc | apply pw_below_drewN | apply below_drew1 | refine below_set ?_ GE125.out) | exact HB.out))⟩; clear BK125 HB hq_; have BK125 := n0_; have HB := n1_; clear n0_ n1_)); have hcz11_0 : w10.cell? ⟨gb125, 0, none⟩ = some (.int .i64 0) := (blk_cell BK125.out 0).trans rfl; have hcz11_1 : w10.cell? ⟨gb125, 1, none⟩ = some (.int .i64 0) := (blk_cell BK125.out 1).trans rfl; have hcz11_2 : w10.cell? ⟨gb125, 2, none⟩ = some (.int .i64 0) := (blk_cell BK125.out 2).trans rfl; have hcz11_3 : w10.cell? ⟨gb125, 3, none⟩ = some (.int .i64 0) := (blk_cell BK125.out 3).trans rfl; have hfz11_0 := blk_frozen BK125.out 0; have hfz11_1 := blk_frozen BK125.out 1; have hfz11_2 := blk_frozen BK125.out 2; have hfz11_3 := blk_frozen BK125.out 3))
    refine bodyPost_ret (results_ct rfl _ _ gb125 23 #[.int .i64 0, .int .i64 0, .int .i64 0, .int .i64 0] (0, 0) _ rfl (by (with_reducible repeat (first | refine blk_drewN ?_ _ | refine blk_drew ?_ | refine blk_alloc ?_ _)); refine blk_put (cs := #[.int .i64 0, .int .i64 0, .int .i64 0, .int .i64 0]) ?_ 3 _ rfl; (with_reducible repeat (first | refine blk_drewN ?_ _ | refine blk_drew ?_ | refine blk_alloc ?_ _)); refine blk_put (cs := #[.int .i64 0, .int .i64 0, .int .i64 0, .int .i64 0]) ?_ 2 _ rfl; (with_reducible repeat (first | refine blk_drewN ?_ _ | refine blk_drew ?_ | refine blk_alloc ?_ _)); refine blk_put (cs := #[.int .i64 0, .int .i64 0, .int .i64 0, .int .i64 0]) ?_ 1 _ rfl; (with_reducible repeat (first | refine blk_drewN ?_ _ | refine blk_drew ?_ | refine blk_alloc ?_ _)); refine blk_put (cs := #[.int .i64 0, .int .i64 0, .int .i64 0, .int .i64 0]) ?_ 0 _ rfl; (with_reducible repeat (first | refine blk_drewN ?_ _ | refine blk_drew ?_ | refine blk_alloc ?_ _)); exact BK125.out) Tryd.underlying23 rfl (by kernel_rfl)) rfl ?_
    exact ⟨by first | rfl | (simp [errW_none, errW_some] <;> rfl) | (simp [*, errW_none, errW_some] <;> rfl), by repeat (first | (with_reducible first | exact HB.out | apply below_alloc | apply pw_below_drewN | apply below_drew1 | refine below_set ?_ GE125.out) | exact HB.out)⟩

end Go.Proofs.YtipkjbfbcdadkaaDoor.PK9
