/- Written by wip/xprint.py (the kit's print over given functions). -/
import Derived.Test.YtlaiginblmckoaaDoorPK9x0
import Derived.Test.YtlaiginblmckoaaDoorPK9x1
import Derived.Test.YtlaiginblmckoaaDoorPK9x2
namespace Go.Proofs.YtlaiginblmckoaaDoor.PK9
open Go.RowKit Go.Proofs.YtlaiginblmckoaaDoorW.PrintWords Go.Proofs.YtlaiginblmckoaaDoorW.PrintLast Go.Proofs.YtlaiginblmckoaaDoorW.PrintMore
attribute [local go_sem] max2_int min2_int max_two min_two max_three min_three max_four min_four   -- for this text's walks alone
set_option linter.unusedVariables false
set_option linter.unusedSimpArgs false

/-! ### clock_Parse: function 17 (given) -/
/-- the numbers of texts, all or none -/
def clock_Parse.nums : List ByteArray → Option (List Int)
  | [] => some []
  | p :: ps => match Lib.atoiAll p.data.toList with
    | .ok v => (clock_Parse.nums ps).map (v :: ·)
    | _ => none
def clock_Parse.parts (day : List UInt8) : List ByteArray := Lib.splitB ⟨#[45]⟩ 0 (min 4 (day.length + 1) - 1) ⟨day.toArray⟩
def clock_Parse.tail (k : Nat) (s : ByteArray) : Option (List Int) → Option (Int × Int)
  | some [y, m, d, h] => (clock_From.f k y m d h).bind fun r => if r.2 = 0 then ((clock_Text.f r.1).bind fun t => if t.1.toList = s.toList then some (r.1, 0) else some (0, 190)) else some (0, 190)
  | _ => some (0, 190)
def clock_Parse.f (k : Nat) (s : ByteArray) : Option (Int × Int) :=
  if s.size ≤ 1048576 then
    if (Lib.cut s.data.toList [32]).2.2 = false ∨ (clock_Parse.parts (Lib.cut s.data.toList [32]).1).length ≠ 3 ∨ 20 < s.size then some (0, 190)
    else clock_Parse.tail k s (clock_Parse.nums (clock_Parse.parts (Lib.cut s.data.toList [32]).1 ++ [⟨(Lib.cut s.data.toList [32]).2.1.toArray⟩]))
  else none
theorem clock_Parse.cut_size (s : List UInt8) : (Lib.cut s [32]).1.length ≤ s.length := by
  unfold Lib.cut
  split <;> simp
  exact Nat.min_le_right _ _
theorem clock_Parse.split4 (day : List UInt8) (mx : Int) (w : World) (hs : day.length < 4294967281) (hm : w.cell? ⟨0, 0, none⟩ = some (.int .i64 mx)) :
    Calls Tryd.prog 24 #[.string ⟨day.toArray⟩, .string ⟨#[45]⟩, .int .i64 4] w fun e w' => e = .returned (.slice (some ⟨w.heap.size, 0, none⟩) (clock_Parse.parts day).length (min 4 (day.length + 1))) ∧ w' = w.alloc (.cells (Lib.cellsOf (clock_Parse.parts day) (min 4 (day.length + 1))) 9) := by
  have h := Tryd.strings_SplitN ⟨day.toArray⟩ ⟨#[45]⟩ 4 mx w (by simpa [ByteArray.size] using hs) hm (by decide) (by decide) (by decide)
  have e : (ByteArray.mk day.toArray).size = day.length := by simp [ByteArray.size]
  rw [e] at h
  exact h
theorem clock_Parse.cut_size2 (s : List UInt8) : (Lib.cut s [32]).2.1.length ≤ s.length := by
  unfold Lib.cut
  split <;> simp
set_option maxHeartbeats 2000000 in
set_option maxRecDepth 100000 in
theorem clock_Parse.early (s : ByteArray) (w : World) (hL : LW w) (hs : s.size ≤ 1048576) (day hour : List UInt8) (ok : Bool) (hc : Lib.cut s.data.toList (ByteArray.mk #[32]).data.toList = (day, hour, ok)) (hd : day.length ≤ s.size)
    (h : ok = false ∨ (clock_Parse.parts day).length ≠ 3 ∨ 20 < s.size) :
    Calls Tryd.prog 17 #[.string s] w fun e w' => e = .returned (.tuple #[.int .i64 0, .int .i64 190]) ∧ Below w.heap.size w w' := by
  obtain ⟨mx, hm⟩ := hL.max
  have HC := Tryd.strings_Cut s ⟨#[32]⟩ mx w (by omega) hm
  rw [hc] at HC
  have HC := GB.hid HC
  have hlen : (ByteArray.mk day.toArray).size = day.length := by simp [ByteArray.size]
  generalize hP : clock_Parse.parts day = ps at h
  have HP := GB.hid hP
  have HM := GB.hid hm
  clear hc hP hm
  go_enter Tryd.func17, Tryd.ntmps17
  go_wp2_with fail
  refine HC.out.mono ?_
  rintro e w1 ⟨rfl, nd, rfl⟩
  go_wp2_with fail
  refine (clock_Parse.split4 day mx (w.drewN nd) (by omega) HM.out).mono ?_
  rintro e w2 ⟨rfl, rfl⟩
  rw [HP.out]
  cases ok with
  | false =>
    go_wp2
    go_ret2
    exact ⟨rfl, by repeat (first | exact GB.bl0 _ | apply GB.bla | apply GB.bldN)⟩
  | true =>
    by_cases h3 : ps.length = 3
    · have h20 : 20 < s.size := by simp [h3] at h; exact h
      have b3 : ((ps.length : Int) != 3) = false := by rw [h3]; rfl
      have hd2 : decide (20 < s.size) = true := decide_eq_true h20
      have hd3 : decide ((20 : Int) < s.size) = true := decide_eq_true (by omega)
      clear h
      go_wp2
      go_ret2
      exact ⟨rfl, by repeat (first | exact GB.bl0 _ | apply GB.bla | apply GB.bldN)⟩
    · have b3 : ((ps.length : Int) != 3) = true := bne_iff_ne.2 (by omega)
      clear h
      go_wp2
      go_ret2
      exact ⟨rfl, by repeat (first | exact GB.bl0 _ | apply GB.bla | apply GB.bldN)⟩
theorem clock_Parse.splitB_le (sep : ByteArray) (save : Nat) : ∀ (k : Nat) (s : ByteArray), (Lib.splitB sep save k s).length ≤ k + 1
  | 0, s => by simp [Lib.splitB]
  | k + 1, s => by
    unfold Lib.splitB
    split
    · simp
    · have := clock_Parse.splitB_le sep save k (s.extract ((Lib.indexB s sep).toNat + sep.size) s.size)
      simp only [List.length_cons]
      omega
theorem clock_Parse.parts_le (day : List UInt8) : (clock_Parse.parts day).length ≤ min 4 (day.length + 1) := by
  unfold clock_Parse.parts
  have := clock_Parse.splitB_le ⟨#[45]⟩ 0 (min 4 (day.length + 1) - 1) ⟨day.toArray⟩
  omega
theorem clock_Parse.owns (w : World) (ps : List ByteArray) (N : Nat) (h : ps.length ≤ N) (hN : N ≤ 4) : (w.alloc (.cells (Lib.cellsOf ps N) 9)).ownsRow w.heap.size 9 1 (.slice (some ⟨w.heap.size, 0, none⟩) ps.length N) ps.length (ps.map Value.string) := by
  refine ⟨by simp, .inr ⟨w.heap.size, N, _, rfl, Nat.le_refl _, heap_alloc_new w _, h, by simp [maxLen]; omega, by rw [Lib.cellsOf_size h]; omega, ?_⟩⟩
  rw [Nat.mul_one]
  unfold Lib.cellsOf
  simp
theorem info9_ : (Tryd.prog.info? 9).map (fun i => (i.zero, i.size, i.bytes)) = some (some (.string ByteArray.empty), 1, 16) := by kernel_rfl
theorem clock_Parse.atoi_ok (s : ByteArray) (v : Int) (w : World) (hs : s.size ≤ 1048576) (h : Lib.atoiAll s.data.toList = .ok v) :
    Calls Tryd.prog 25 #[.string s] w fun e w' => e = .returned (.tuple #[.int .i64 v, .nilIface]) ∧ Below w.heap.size w w' := by
  refine (Tryd.strconv_Atoi_ok s (by omega) v h w).mono ?_
  rintro e w' ⟨rfl, rfl | ⟨t, rfl⟩⟩
  · exact ⟨rfl, GB.bl0 _⟩
  · exact ⟨rfl, Lib.bytesWorld_below _ _ _⟩
/-- an error has been told -/
def clock_Parse.Bad (w : World) (e : Ending) (w' : World) : Prop := ∃ (x : Int) (p : Value), e = .returned (.tuple #[.int .i64 x, .iface 71 p]) ∧ Below w.heap.size w w'
theorem clock_Parse.atoi_bad (s : ByteArray) (w : World) (hL : LW w) (hs : s.size ≤ 1048576) (h : ∀ v, Lib.atoiAll s.data.toList ≠ .ok v) : Calls Tryd.prog 25 #[.string s] w (clock_Parse.Bad w) := by
  by_cases ha : Lib.atoiAll s.data.toList = .range
  · obtain ⟨tp, p, hv⟩ := hL.rng
    refine (Tryd.strconv_Atoi_range s (by omega) ha _ w hv (.inr ⟨tp, p, rfl⟩)).mono ?_
    rintro e w' ⟨N, rfl, _, _, hb⟩
    exact ⟨_, _, rfl, hb⟩
  · obtain ⟨tp, p, hv⟩ := hL.syn
    refine (Tryd.strconv_Atoi_syn s (by omega) h ha _ w hv (.inr ⟨tp, p, rfl⟩)).mono ?_
    rintro e w' ⟨N, rfl, _, _, hb⟩
    exact ⟨_, _, rfl, hb⟩
theorem clock_Parse.nums_snoc : ∀ (l : List ByteArray) (p : ByteArray) (xs : List Int) (v : Int), clock_Parse.nums l = some xs → Lib.atoiAll p.data.toList = .ok v → clock_Parse.nums (l ++ [p]) = some (xs ++ [v])
  | [], p, xs, v, h, hv => by
    simp [clock_Parse.nums] at h
    subst h
    simp [clock_Parse.nums, hv]
  | q :: l, p, xs, v, h, hv => by
    unfold clock_Parse.nums at h
    cases hq : Lib.atoiAll q.data.toList with
    | ok u =>
      rw [hq] at h
      simp only [Option.map_eq_some_iff] at h
      obtain ⟨ys, hy, rfl⟩ := h
      simp [clock_Parse.nums, hq, clock_Parse.nums_snoc l p ys v hy hv]
    | _ => rw [hq] at h; cases h
theorem clock_Parse.nums_bad : ∀ (l : List ByteArray) (p : ByteArray) (r : List ByteArray), (∀ v, Lib.atoiAll p.data.toList ≠ .ok v) → clock_Parse.nums (l ++ p :: r) = none
  | [], p, r, h => by
    show (match Lib.atoiAll p.data.toList with
      | .ok v => (clock_Parse.nums r).map (v :: ·)
      | _ => none) = none
    cases hp : Lib.atoiAll p.data.toList with
    | ok u => exact absurd hp (h u)
    | _ => rfl
  | q :: l, p, r, h => by
    simp only [List.cons_append, clock_Parse.nums]
    rw [clock_Parse.nums_bad l p r h]
    cases Lib.atoiAll q.data.toList <;> rfl
theorem clock_Parse.splitB_sz (sep : ByteArray) : ∀ (k : Nat) (s : ByteArray), ∀ p ∈ Lib.splitB sep 0 k s, p.size ≤ s.size
  | 0, s => by simp [Lib.splitB]
  | k + 1, s => by
    unfold Lib.splitB
    split
    · simp
    · intro p hp
      simp only [List.mem_cons] at hp
      rcases hp with rfl | hp
      · simp [ByteArray.size_extract]; omega
      · have := clock_Parse.splitB_sz sep k _ p hp
        simp [ByteArray.size_extract] at this
        omega
theorem clock_Parse.parts_sz (day : List UInt8) : ∀ p ∈ clock_Parse.parts day, p.size ≤ day.length := by
  intro p hp
  have h := clock_Parse.splitB_sz ⟨#[45]⟩ _ _ p hp
  exact h
theorem _root_.GB.grown_set {w : World} {g i : Nat} (u : Value) : w.grownBy (w.setCell ⟨g, i, none⟩ u) (some g) := ⟨rfl, rfl, rfl, by simp [World.setCell], fun k _ hne => Below.heap_setCell _ _ _ _ (fun e => hne (by rw [e]))⟩
theorem clock_Parse.row_at (xs : List Int) (j : Nat) (hx : xs.length = j) (hj : j < 4) : ((xs ++ List.replicate (4 - j) 0).map (Value.int .i64))[j]? = some (.int .i64 0) := by
  rw [List.map_append, List.getElem?_append_right (by simp; omega)]
  simp only [List.length_map, hx, Nat.sub_self, List.map_replicate]
  rw [List.getElem?_replicate, if_pos (by omega)]
theorem clock_Parse.row_set (xs : List Int) (j : Nat) (v : Int) (hx : xs.length = j) (hj : j < 4) : ((xs ++ List.replicate (4 - j) 0).map (Value.int .i64)).set j (.int .i64 v) = ((xs ++ [v]) ++ List.replicate (4 - (j + 1)) 0).map (Value.int .i64) := by
  obtain ⟨m, hm⟩ : ∃ m, 4 - j = m + 1 := ⟨4 - j - 1, by omega⟩
  rw [hm, show 4 - (j + 1) = m by omega, List.replicate_succ]
  simp only [List.map_append, List.map_cons, List.append_assoc]
  rw [List.set_append_right _ _ (by simp; omega)]
  simp [hx]
theorem clock_Parse.take_snoc (vs : List ByteArray) (j : Nat) (p : ByteArray) (h : vs[j]? = some p) : vs.take (j + 1) = vs.take j ++ [p] := by
  obtain ⟨hj, rfl⟩ := List.getElem?_eq_some_iff.1 h
  exact List.take_succ_eq_append_getElem hj
theorem clock_Parse.bad_at (vs : List ByteArray) (j : Nat) (p : ByteArray) (h : vs[j]? = some p) (hb : ∀ v, Lib.atoiAll p.data.toList ≠ .ok v) : clock_Parse.nums vs = none := by
  obtain ⟨hj, rfl⟩ := List.getElem?_eq_some_iff.1 h
  have e : vs = vs.take j ++ vs[j] :: vs.drop (j + 1) := by rw [← List.drop_eq_getElem_cons hj, List.take_append_drop]
  rw [e]
  exact clock_Parse.nums_bad _ _ _ hb
theorem clock_Parse.four (xs : List Int) (h : xs.length = 4) : ∃ a b c d, xs = [a, b, c, d] := by
  match xs, h with
  | [a, b, c, d], _ => exact ⟨a, b, c, d, rfl⟩
set_option maxHeartbeats 8000000 in
set_option maxRecDepth 100000 in
theorem clock_Parse.main (k : Nat) (s : ByteArray) (w : World) (r1 r2 : Int) (hL : LW w) (hs : s.size ≤ 20) (day hour : List UInt8) (hc : Lib.cut s.data.toList (ByteArray.mk #[32]).data.toList = (day, hour, true)) (hd : day.length ≤ s.size) (hh : hour.length ≤ s.size)
    (h3 : (clock_Parse.parts day).length = 3) (h : clock_Parse.tail k s (clock_Parse.nums (clock_Parse.parts day ++ [⟨hour.toArray⟩])) = some (r1, r2)) :
    Calls Tryd.prog 17 #[.string s] w fun e w' => e = .returned (.tuple #[.int .i64 r1, .int .i64 r2]) ∧ Below w.heap.size w w' := by
  obtain ⟨mx, hm⟩ := hL.max
  have HC := Tryd.strings_Cut s ⟨#[32]⟩ mx w (by omega) hm
  rw [hc] at HC
  have HC := GB.hid HC
  have hN := clock_Parse.parts_le day
  rw [h3] at hN
  have HS := GB.hid (clock_Parse.split4 day mx)
  have hown := fun w => clock_Parse.owns w (clock_Parse.parts day) (min 4 (day.length + 1)) (clock_Parse.parts_le day) (Nat.min_le_left _ _)
  have hpz := clock_Parse.parts_sz day
  generalize hP : clock_Parse.parts day = ps at *
  have HPZ : Hid (∀ p ∈ ps, p.size ≤ 20) := fun p hp => by have := hpz p hp; omega
  clear hpz
  generalize hNN : min 4 (day.length + 1) = N at *
  have hN4 : N ≤ 4 := by omega
  rw [h3] at hown HS
  have HOW := GB.hid hown
  have HM := GB.hid hm
  have HH := GB.hid h
  have HL := GB.hid hL
  obtain ⟨i0, hi, hz0, hz1, hz2⟩ := info_parts info9_
  have H3 := GB.hid h3
  clear hc hP hm hown hNN h h3 hL
  have hd3 : decide ((20 : Int) < s.size) = false := decide_eq_false (by omega)
  go_enter Tryd.func17, Tryd.ntmps17
  go_wp2_with fail
  refine HC.out.mono ?_
  rintro e w1 ⟨rfl, nd, rfl⟩
  go_wp2_with fail
  refine (HS.out (w.drewN nd) (by omega) HM.out).mono ?_
  rintro e w2 ⟨rfl, rfl⟩
  have hO := ((HOW.out (w.drewN nd)).alloc (.cells #[.int .i64 0, .int .i64 0, .int .i64 0, .int .i64 0] 53)).alloc (.cells #[.string ⟨hour.toArray⟩] 9)
  have hB4 : GB.Blk ((((w.drewN nd).alloc (.cells (Lib.cellsOf ps N) 9)).alloc (.cells #[.int .i64 0, .int .i64 0, .int .i64 0, .int .i64 0] 53)).alloc (.cells #[.string ⟨hour.toArray⟩] 9)) (w.heap.size + 1) 53 [.int .i64 0, .int .i64 0, .int .i64 0, .int .i64 0] := by
    have hz := (GB.Blk.new ((w.drewN nd).alloc (.cells (Lib.cellsOf ps N) 9)) 53 [.int .i64 0, .int .i64 0, .int .i64 0, .int .i64 0]).alloc (.cells #[.string ⟨hour.toArray⟩] 9)
    rw [World.size_alloc] at hz
    exact hz
  have hB1 : GB.Blk ((((w.drewN nd).alloc (.cells (Lib.cellsOf ps N) 9)).alloc (.cells #[.int .i64 0, .int .i64 0, .int .i64 0, .int .i64 0] 53)).alloc (.cells #[.string ⟨hour.toArray⟩] 9)) (w.heap.size + 1 + 1) 9 [.string ⟨hour.toArray⟩] := by
    have hz := GB.Blk.new (((w.drewN nd).alloc (.cells (Lib.cellsOf ps N) 9)).alloc (.cells #[.int .i64 0, .int .i64 0, .int .i64 0, .int .i64 0] 53)) 9 [.string ⟨hour.toArray⟩]
    rw [World.size_alloc, World.size_alloc] at hz
    exact hz
  have hBB : Below w.heap.size w ((((w.drewN nd).alloc (.cells (Lib.cellsOf ps N) 9)).alloc (.cells #[.int .i64 0, .int .i64 0, .int .i64 0, .int .i64 0] 53)).alloc (.cells #[.string ⟨hour.toArray⟩] 9)) := by repeat (first | exact GB.bl0 _ | apply GB.bla | apply GB.bldN)
  have HO := GB.hid hO
  have HB4 := GB.hid hB4
  have HB1 := GB.hid hB1
  have HBB := GB.hid hBB
  clear hO hB4 hB1 hBB
  go_wp2_with (at_builtin; refine wpList_append_own _ rfl _ _ 51 rfl w.heap.size 9 i0 (.string ByteArray.empty) 1 16 Tryd.underlying51 hi hz0 hz1 hz2 rfl (by decide) _ _ _ rfl HO.out ⟨w.heap.size + 1 + 1, 0, none⟩ 1 1 [.string ⟨hour.toArray⟩] rfl rfl ?c1 ?c2 ?c3 ?c4 ?c5 ?_)
  case c1 =>
    intro j u hu
    match j, hu with
    | 0, hu =>
      injection hu with hu
      subst hu
      exact HB1.out.cell 0 rfl
  case c2 => intro u hu; simp at hu; subst hu; rfl
  case c3 => simp [maxLen]
  case c4 => omega
  case c5 => simp; omega
  intro v' w3 hown4 hg hne
  have hHsz : (ByteArray.mk hour.toArray).size ≤ 20 := by simp [ByteArray.size]; omega
  generalize hvs : ps ++ [⟨hour.toArray⟩] = vs at *
  have hvl : vs.length = 4 := by rw [← hvs]; simp [H3.out]
  have hvm : ps.map Value.string ++ [Value.string ⟨hour.toArray⟩] = vs.map Value.string := by rw [← hvs]; simp
  rw [hvm] at hown4
  have hvz : ∀ p ∈ vs, p.size ≤ 20 := by
    intro p hp
    rw [← hvs] at hp
    rcases List.mem_append.1 hp with hp | hp
    · have := HPZ.out p hp; omega
    · simp at hp; subst hp; exact hHsz
  obtain ⟨g, cap, rfl⟩ : ∃ g cap, v' = .slice (some ⟨g, 0, none⟩) 4 cap := by
    rcases hown4.2 with ⟨rfl, h0⟩ | ⟨g, cap, cur, rfl, _⟩
    · exact absurd h0 (by omega)
    · exact ⟨g, cap, rfl⟩
  have hgB : w.heap.size ≤ g := by
    rcases hown4.2 with ⟨hh, h0⟩ | ⟨g', cap', cur, hh, hb, _⟩
    · cases hh
    · injection hh with hh; injection hh with hh; injection hh with hh; omega
  have hB4 := HB4.out.grown hg (by simp [Value.ownBlock])
  have hBB := GB.blgrown HBB.out hg (by simp [Value.ownBlock])
  have hgn : g ≠ w.heap.size + 1 := by
    intro e
    rcases hown4.2 with ⟨hh, h0⟩ | ⟨g', cap', cur, hh, hb, hb2, _⟩
    · cases hh
    · injection hh with hh; injection hh with hh; injection hh with hh
      have h4 := hB4
      unfold GB.Blk at h4
      rw [← hh, e, h4] at hb2
      injection hb2 with hb2; injection hb2 with _ ht
      exact absurd ht (by decide)
  have HGN := GB.hid hgn
  have HVL := GB.hid hvl
  have HVZ := GB.hid hvz
  have HO4 := GB.hid hown4
  have HB4 := GB.hid hB4
  have HBB := GB.hid hBB
  clear hgn hvs hvl hvm hvz hown4 hg hne hB4 hBB HO HB1 HOW H3 HM HS
  go_wp2
  go_loopw [42] (fun i wr => ∃ (j : Nat) (xs : List Int), j ≤ 4 ∧ i = .int .i64 j ∧ Hid (xs.length = j) ∧ Hid (clock_Parse.nums (vs.take j) = some xs) ∧ Hid (GB.Blk wr (w.heap.size + 1) 53 ((xs ++ List.replicate (4 - j) 0).map (Value.int .i64))) ∧ Hid (wr.ownsRow w.heap.size 9 1 (.slice (some ⟨g, 0, none⟩) 4 cap) 4 (vs.map Value.string)) ∧ Hid (Below w.heap.size w wr)) (fun i _ => 4 - (intOf i).toNat)
  case atStart => exact ⟨0, [], by omega, rfl, rfl, rfl, HB4.out, HO4.out, HBB.out⟩
  case round =>
    clear HB4 HO4 HBB
    obtain ⟨j, xs, hj, rfl, HX, HN, HB4, HO4, HBB⟩ := hrel
    have HLr := GB.hid (HL.out.below HBB.out)
    by_cases hlt : j < 4
    · obtain ⟨p, hp⟩ : ∃ p, vs[j]? = some p := ⟨vs[j]'(by rw [HVL.out]; exact hlt), List.getElem?_eq_getElem _⟩
      have hps : p.size ≤ 20 := HVZ.out p (List.mem_of_getElem? hp)
      have cp : wr.cell? ⟨g, j, none⟩ = some (.string p) := by
        have := World.ownsRow.cells HO4.out (g := g) rfl j (.string p) (by simp [hp])
        rwa [add_plain] at this
      have HP2 := GB.hid hp
      clear hp
      by_cases hok : ∃ v, Lib.atoiAll p.data.toList = .ok v
      · obtain ⟨v, hv⟩ := hok
        have HVV := GB.hid hv
        have c4 : wr.cell? ⟨w.heap.size + 1, j, none⟩ = some (.int .i64 0) := HB4.out.cell j (clock_Parse.row_at xs j HX.out hlt)
        have f4 := HB4.out.free j
        clear hv
        go_wp2_with fail
        refine (clock_Parse.atoi_ok p v _ (by omega) HVV.out).mono ?_
        rintro e w4 ⟨rfl, hb⟩
        have HB4 := GB.hid (HB4.out.below hb)
        have HO4 := GB.hid (HO4.out.kept (GB.grown_of_below hb none) (.inr (by simp [Value.ownBlock])))
        have HBB := GB.hid (GB.bls HBB.out hb)
        have c4 : w4.cell? ⟨w.heap.size + 1, j, none⟩ = some (.int .i64 0) := HB4.out.cell j (clock_Parse.row_at xs j HX.out hlt)
        have f4 := HB4.out.free j
        clear hb
        have w1 : IntKind.i64.wrap ((j : Int) + 1) = (j : Int) + 1 := IntWalk.i64_in _ (by omega)
        go_wp2
        go_roundw
        case rel =>
          refine ⟨j + 1, xs ++ [v], by omega, by go_num, ?_, ?_, ?_, ?_, ?_⟩
          · show (xs ++ [v]).length = j + 1
            simp [HX.out]
          · show clock_Parse.nums (vs.take (j + 1)) = some (xs ++ [v])
            rw [clock_Parse.take_snoc vs j p HP2.out]
            exact clock_Parse.nums_snoc _ _ _ _ HN.out HVV.out
          · have := HB4.out.set j (.int .i64 v)
            rw [clock_Parse.row_set xs j v HX.out hlt] at this
            exact this
          · exact HO4.out.kept (w' := w4.setCell ⟨w.heap.size + 1, j, none⟩ (.int .i64 v)) (row := some (w.heap.size + 1)) (GB.grown_set _) (.inr (by simp [Value.ownBlock]; exact HGN.out))
          · exact GB.blset HBB.out (by omega) _ _
        case measure => simp [intOf]; omega
      · have hbad : ∀ v, Lib.atoiAll p.data.toList ≠ .ok v := fun v hv => hok ⟨v, hv⟩
        have hnone := clock_Parse.bad_at vs j p HP2.out hbad
        have hh' := HH.out
        rw [hnone] at hh'
        have hh2 : (0 : Int) = r1 ∧ (190 : Int) = r2 := by
          have : some ((0 : Int), (190 : Int)) = some (r1, r2) := hh'
          injection this with this
          injection this with t1 t2
          exact ⟨t1, t2⟩
        obtain ⟨rfl, rfl⟩ := hh2
        clear hok hnone hh'
        go_wp2_with fail
        refine (clock_Parse.atoi_bad p _ HLr.out (by omega) hbad).mono ?_
        rintro e w4 ⟨x, q, rfl, hb⟩
        have HBB := GB.hid (GB.bls HBB.out hb)
        clear hb hbad
        go_wp2
        go_ret2
        exact ⟨rfl, by repeat (first | exact HBB.out | apply GB.bla | apply GB.bldN)⟩
    · have hj4 : j = 4 := by omega
      subst hj4
      have hn := HN.out
      rw [List.take_of_length_le (by rw [HVL.out]; omega)] at hn
      obtain ⟨y, m, d, hr, rfl⟩ := clock_Parse.four xs HX.out
      have hh' := HH.out
      rw [hn] at hh'
      have HT : Hid (((clock_From.f k y m d hr).bind fun r => if r.2 = 0 then ((clock_Text.f r.1).bind fun t => if t.1.toList = s.toList then some (r.1, 0) else some (0, 190)) else some (0, 190)) = some (r1, r2)) := hh'
      clear hh' hn
      obtain ⟨⟨t0, e0⟩, hF, hT⟩ := Option.bind_eq_some_iff.mp HT.out
      have HF := GB.hid hF
      have c0 := HB4.out.cell 0 rfl
      have c1 := HB4.out.cell 1 rfl
      have c2 := HB4.out.cell 2 rfl
      have c3 := HB4.out.cell 3 rfl
      clear hF HT
      go_wp2_with fail
      refine (clock_From.calls k y m d hr t0 e0 _ HF.out).mono ?_
      rintro e w4 ⟨rfl, hb⟩
      have HBB := GB.hid (GB.bls HBB.out hb)
      clear hb
      by_cases he : e0 = 0
      · subst he
        simp only [if_true] at hT
        obtain ⟨⟨tx, e1⟩, hX, hT⟩ := Option.bind_eq_some_iff.mp hT
        have HX2 := GB.hid hX
        by_cases hq : tx.toList = s.toList
        · rw [if_pos hq] at hT
          cases hT
          have q1 : (tx.toList != s.toList) = false := bne_eq_false_iff_eq.mpr hq
          have q2 : (tx.toList == s.toList) = true := beq_iff_eq.mpr hq
          clear hX hq
          go_wp2_with fail
          refine (clock_Text.calls r1 tx e1 _ (HL.out.below HBB.out) HX2.out).mono ?_
          rintro e w5 ⟨rfl, hb⟩
          have HBB := GB.hid (GB.bls HBB.out hb)
          clear hb
          go_wp2
          go_ret2
          exact ⟨rfl, by repeat (first | exact HBB.out | apply GB.bla | apply GB.bldN)⟩
        · rw [if_neg hq] at hT
          cases hT
          have q1 : (tx.toList != s.toList) = true := bne_iff_ne.mpr hq
          have q2 : (tx.toList == s.toList) = false := beq_eq_false_iff_ne.mpr hq
          clear hX hq
          go_wp2_with fail
          refine (clock_Text.calls t0 tx e1 _ (HL.out.below HBB.out) HX2.out).mono ?_
          rintro e w5 ⟨rfl, hb⟩
          have HBB := GB.hid (GB.bls HBB.out hb)
          clear hb
          go_wp2
          go_ret2
          exact ⟨rfl, by repeat (first | exact HBB.out | apply GB.bla | apply GB.bldN)⟩
      · rw [if_neg he] at hT
        cases hT
        have q1 : (e0 != 0) = true := bne_iff_ne.mpr he
        clear he
        go_wp2
        go_ret2
        exact ⟨rfl, by repeat (first | exact HBB.out | apply GB.bla | apply GB.bldN)⟩
theorem clock_Parse.mono : ∀ a0 k, LeO (clock_Parse.f k a0) (clock_Parse.f (k + 1) a0) := by
  intro a0 k
  unfold clock_Parse.f
  refine LeO.ite ?_ (LeO.none _)
  refine LeO.ite (LeO.refl _) ?_
  unfold clock_Parse.tail
  split
  · refine LeO.bind (clock_From.mono _ _ _ _ _) (fun _ => ?_)
    exact LeO.refl _
  · exact LeO.refl _
theorem clock_Parse.calls (k : Nat) (a0 : ByteArray) (r1 : Int) (r2 : Int) (w : World) (hL : LW w) (h : clock_Parse.f k a0 = some (r1, r2)) :
    Calls Tryd.prog 17 #[.string a0] w fun e w' => e = .returned (.tuple #[.int .i64 r1, .int .i64 r2]) ∧ Below w.heap.size w w' := by
  unfold clock_Parse.f at h
  by_cases hs : a0.size ≤ 1048576
  · rw [if_pos hs] at h
    have hl : a0.data.toList.length = a0.size := Array.length_toList
    have hd := clock_Parse.cut_size a0.data.toList
    have hh := clock_Parse.cut_size2 a0.data.toList
    rw [hl] at hd hh
    by_cases hc : (Lib.cut a0.data.toList [32]).2.2 = false ∨ (clock_Parse.parts (Lib.cut a0.data.toList [32]).1).length ≠ 3 ∨ 20 < a0.size
    · rw [if_pos hc] at h
      cases h
      exact clock_Parse.early a0 w hL hs _ _ _ rfl hd hc
    · rw [if_neg hc] at h
      have h1 : (Lib.cut a0.data.toList [32]).2.2 = true := by
        cases hb : (Lib.cut a0.data.toList [32]).2.2 with
        | true => rfl
        | false => exact absurd (.inl hb) hc
      have h3 : (clock_Parse.parts (Lib.cut a0.data.toList [32]).1).length = 3 := by
        by_cases h3 : (clock_Parse.parts (Lib.cut a0.data.toList [32]).1).length = 3
        · exact h3
        · exact absurd (.inr (.inl h3)) hc
      have h20 : a0.size ≤ 20 := by
        by_cases h20 : 20 < a0.size
        · exact absurd (.inr (.inr h20)) hc
        · omega
      exact clock_Parse.main k a0 w r1 r2 hL h20 _ _ (by
        show Lib.cut a0.data.toList [32] = _
        rw [← h1]) hd hh h3 h
  · rw [if_neg hs] at h
    cases h


/-! ### clock_Week: function 18 -/
def clock_Week.f (a0 : Int) : Option (Int × Int) := (clock_Of.f a0).bind fun bt120 => (if bt120.2.2 = 0 then (some (Int.tmod (wrap64 (bt120.1 + 5)) 7, 0)) else (some (0, bt120.2.2)))
set_option maxHeartbeats 8000000 in
set_option maxRecDepth 100000 in
theorem clock_Week.calls (a0 : Int) (r1 : Int) (r2 : Int) (w : World) (h : clock_Week.f a0 = some (r1, r2)) :
    Calls Tryd.prog 18 #[.int .i64 a0] w fun e w' => e = .returned (.tuple #[.int .i64 r1, .int .i64 r2]) ∧ Drawn0 w w' := by
  have H : ((clock_Of.f a0).bind fun bt120 => (if bt120.2.2 = 0 then (some (Int.tmod (wrap64 (bt120.1 + 5)) 7, 0)) else (some (0, bt120.2.2)))) = some (r1, r2) := h
  clear h
  replace H := Option.bind_eq_some_iff.mp H
  obtain ⟨⟨t120, t121, t122⟩, A20, H⟩ := H
  replace H : (if t122 = 0 then (some (Int.tmod (wrap64 (t120 + 5)) 7, 0)) else (some (0, t122))) = some (r1, r2) := H
  have A2 := Aside0.mk A20
  clear A20
  by_cases c3 : t122 = 0
  · rw [if_pos c3] at H
    have c3b0 : (t122 == 0) = true := beq_iff_eq.mpr c3
    have c3b1 : (t122 != 0) = false := bne_eq_false_iff_eq.mpr c3
    clear c3
    simp only [Option.some.injEq, Prod.mk.injEq] at H
    obtain ⟨rfl, rfl⟩ := H
    go_enter Tryd.func18, Tryd.ntmps18
    go_wp2_with (first | ((with_reducible refine gate_callee (f := 20) rfl ?_); refine goesL_ (some 9) rfl rfl Tryd.func20 (by kernel_rfl) rfl #[.int .i64 a0] rfl (by (try simp only [List.map_toArray, List.map_cons, List.map_nil]); first | done | rfl | (simp only [List.length_drop, List.length_take]; rfl)) ?_; (with_reducible refine (clock_Of.calls a0 t120 t121 t122 _ A2.out).mono ?_); rintro e w' ⟨rfl, ⟨nd, rfl⟩⟩; refine ⟨_, rfl, ?_⟩))
    go_ret2
    exact ⟨by first | rfl | (simp; done) | (simp [*]; done), by repeat (first | exact Drawn0.refl _ | apply Drawn0.step)⟩
  · rw [if_neg c3] at H
    have c3b0 : (t122 == 0) = false := beq_eq_false_iff_ne.mpr c3
    have c3b1 : (t122 != 0) = true := bne_iff_ne.mpr c3
    simp only [Option.some.injEq, Prod.mk.injEq] at H
    obtain ⟨rfl, rfl⟩ := H
    go_enter Tryd.func18, Tryd.ntmps18
    go_wp2_with (first | ((with_reducible refine gate_callee (f := 20) rfl ?_); refine goesL_ (some 9) rfl rfl Tryd.func20 (by kernel_rfl) rfl #[.int .i64 a0] rfl (by (try simp only [List.map_toArray, List.map_cons, List.map_nil]); first | done | rfl | (simp only [List.length_drop, List.length_take]; rfl)) ?_; (with_reducible refine (clock_Of.calls a0 t120 t121 t122 _ A2.out).mono ?_); rintro e w' ⟨rfl, ⟨nd, rfl⟩⟩; refine ⟨_, rfl, ?_⟩))
    go_ret2
    exact ⟨by first | rfl | (simp; done) | (simp [*]; done), by repeat (first | exact Drawn0.refl _ | apply Drawn0.step)⟩

/-! ### slackwaterlaw09_is: function 19 -/
def slackwaterlaw09_is.f (a0_0 : Int) (a0_1 : Int) (a0_2 : Int) (a0_3 : Int) (a1 : Int) (a2 : Int) (a3 : Int) (a4 : Int) : Option (Bool) := if a0_0 = a1 then (if a0_1 = a2 then (if a0_2 = a3 then (some (a0_3 == a4)) else (some false)) else (some false)) else (some false)
set_option maxHeartbeats 8000000 in
set_option maxRecDepth 100000 in
theorem slackwaterlaw09_is.calls (a0_0 : Int) (a0_1 : Int) (a0_2 : Int) (a0_3 : Int) (a1 : Int) (a2 : Int) (a3 : Int) (a4 : Int) (r : Bool) (w : World) (h : slackwaterlaw09_is.f a0_0 a0_1 a0_2 a0_3 a1 a2 a3 a4 = some r) :
    Calls Tryd.prog 19 #[.agg #[.int .i64 a0_0, .int .i64 a0_1, .int .i64 a0_2, .int .i64 a0_3], .int .i64 a1, .int .i64 a2, .int .i64 a3, .int .i64 a4] w fun e w' => e = .returned (.bool r) ∧ Below w.heap.size w w' := by
  have hu39 := Tryd.underlying39
  have HB := Aside0.mk (Below.refl w.heap.size w)
  have H : (if a0_0 = a1 then (if a0_1 = a2 then (if a0_2 = a3 then (some (a0_3 == a4)) else (some false)) else (some false)) else (some false)) = some r := h
  clear h
  by_cases c6 : a0_0 = a1
  · rw [if_pos c6] at H
    have c6b0 : (a0_0 == a1) = true := beq_iff_eq.mpr c6
    have c6b1 : (a0_0 != a1) = false := bne_eq_false_iff_eq.mpr c6
    clear c6
    by_cases c7 : a0_1 = a2
    · rw [if_pos c7] at H
      have c7b0 : (a0_1 == a2) = true := beq_iff_eq.mpr c7
      have c7b1 : (a0_1 != a2) = false := bne_eq_false_iff_eq.mpr c7
      clear c7
      by_cases c8 : a0_2 = a3
      · rw [if_pos c8] at H
        have c8b0 : (a0_2 == a3) = true := beq_iff_eq.mpr c8
        have c8b1 : (a0_2 != a3) = false := bne_eq_false_iff_eq.mpr c8
        clear c8
        obtain rfl := Option.some.inj H
        go_enter Tryd.func19, Tryd.ntmps19
        go_wp2_with (first | ((with_reducible refine gate_dst (N := 5) rfl ?_); refine box_event ?hg (N := 5) ?hd (cs := #[.int .i64 a0_0, .int .i64 a0_1, .int .i64 a0_2, .int .i64 a0_3]) (t := 39) ?hr ?_; (case hd => rfl); (case hg => rfl); (case hr => first | (go_simp; done) | (go_simp; rfl)); intro gb123 hg w9 hbox hb; have n0_ := Aside0.mk (below_step (by repeat (first | (with_reducible first | exact HB.out | apply below_alloc | apply pw_below_drewN | apply below_drew1) | exact HB.out)) hb); have n1_ := Aside0.mk (hbox); have n2_ := Aside0.mk ((by rw [hg]; exact (below_size (by repeat (first | (with_reducible first | exact HB.out | apply below_alloc | apply pw_below_drewN | apply below_drew1) | exact HB.out))) : w.heap.size ≤ gb123)); have n3_ := Aside0.mk ((by rw [hg]; exact (below_size (by repeat (first | (with_reducible first | exact HB.out | apply below_alloc | apply pw_below_drewN | apply below_drew1) | exact HB.out))) : w.heap.size ≤ gb123)); clear HB; have HB := n0_; have BK123 := n1_; have GW123 := n2_; have GE123 := n3_; clear n0_ n1_ n2_ n3_; clear hb hbox hg; have hcz10_0 : w9.cell? ⟨gb123, 0, none⟩ = some (.int .i64 a0_0) := (blk_cell BK123.out 0).trans rfl; have hcz10_1 : w9.cell? ⟨gb123, 1, none⟩ = some (.int .i64 a0_1) := (blk_cell BK123.out 1).trans rfl; have hcz10_2 : w9.cell? ⟨gb123, 2, none⟩ = some (.int .i64 a0_2) := (blk_cell BK123.out 2).trans rfl; have hcz10_3 : w9.cell? ⟨gb123, 3, none⟩ = some (.int .i64 a0_3) := (blk_cell BK123.out 3).trans rfl; have hfz10_0 := blk_frozen BK123.out 0; have hfz10_1 := blk_frozen BK123.out 1; have hfz10_2 := blk_frozen BK123.out 2; have hfz10_3 := blk_frozen BK123.out 3))
        go_ret
        exact ⟨by first | rfl | (simp [errW_none, errW_some] <;> rfl) | (simp [*, errW_none, errW_some] <;> rfl), by repeat (first | (with_reducible first | exact HB.out | apply below_alloc | apply pw_below_drewN | apply below_drew1 | refine below_set ?_ GE123.out) | exact HB.out)⟩
      · rw [if_neg c8] at H
        have c8b0 : (a0_2 == a3) = false := beq_eq_false_iff_ne.mpr c8
        have c8b1 : (a0_2 != a3) = true := bne_iff_ne.mpr c8
        obtain rfl := Option.some.inj H
        go_enter Tryd.func19, Tryd.ntmps19
        go_wp2_with (first | ((with_reducible refine gate_dst (N := 5) rfl ?_); refine box_event ?hg (N := 5) ?hd (cs := #[.int .i64 a0_0, .int .i64 a0_1, .int .i64 a0_2, .int .i64 a0_3]) (t := 39) ?hr ?_; (case hd => rfl); (case hg => rfl); (case hr => first | (go_simp; done) | (go_simp; rfl)); intro gb123 hg w11 hbox hb; have n0_ := Aside0.mk (below_step (by repeat (first | (with_reducible first | exact HB.out | apply below_alloc | apply pw_below_drewN | apply below_drew1) | exact HB.out)) hb); have n1_ := Aside0.mk (hbox); have n2_ := Aside0.mk ((by rw [hg]; exact (below_size (by repeat (first | (with_reducible first | exact HB.out | apply below_alloc | apply pw_below_drewN | apply below_drew1) | exact HB.out))) : w.heap.size ≤ gb123)); have n3_ := Aside0.mk ((by rw [hg]; exact (below_size (by repeat (first | (with_reducible first | exact HB.out | apply below_alloc | apply pw_below_drewN | apply below_drew1) | exact HB.out))) : w.heap.size ≤ gb123)); clear HB; have HB := n0_; have BK123 := n1_; have GW123 := n2_; have GE123 := n3_; clear n0_ n1_ n2_ n3_; clear hb hbox hg; have hcz12_0 : w11.cell? ⟨gb123, 0, none⟩ = some (.int .i64 a0_0) := (blk_cell BK123.out 0).trans rfl; have hcz12_1 : w11.cell? ⟨gb123, 1, none⟩ = some (.int .i64 a0_1) := (blk_cell BK123.out 1).trans rfl; have hcz12_2 : w11.cell? ⟨gb123, 2, none⟩ = some (.int .i64 a0_2) := (blk_cell BK123.out 2).trans rfl; have hcz12_3 : w11.cell? ⟨gb123, 3, none⟩ = some (.int .i64 a0_3) := (blk_cell BK123.out 3).trans rfl; have hfz12_0 := blk_frozen BK123.out 0; have hfz12_1 := blk_frozen BK123.out 1; have hfz12_2 := blk_frozen BK123.out 2; have hfz12_3 := blk_frozen BK123.out 3))
        go_ret
        exact ⟨by first | rfl | (simp [errW_none, errW_some] <;> rfl) | (simp [*, errW_none, errW_some] <;> rfl), by repeat (first | (with_reducible first | exact HB.out | apply below_alloc | apply pw_below_drewN | apply below_drew1 | refine below_set ?_ GE123.out) | exact HB.out)⟩
    · rw [if_neg c7] at H
      have c7b0 : (a0_1 == a2) = false := beq_eq_false_iff_ne.mpr c7
      have c7b1 : (a0_1 != a2) = true := bne_iff_ne.mpr c7
      obtain rfl := Option.some.inj H
      go_enter Tryd.func19, Tryd.ntmps19
      go_wp2_with (first | ((with_reducible refine gate_dst (N := 5) rfl ?_); refine box_event ?hg (N := 5) ?hd (cs := #[.int .i64 a0_0, .int .i64 a0_1, .int .i64 a0_2, .int .i64 a0_3]) (t := 39) ?hr ?_; (case hd => rfl); (case hg => rfl); (case hr => first | (go_simp; done) | (go_simp; rfl)); intro gb123 hg w13 hbox hb; have n0_ := Aside0.mk (below_step (by repeat (first | (with_reducible first | exact HB.out | apply below_alloc | apply pw_below_drewN | apply below_drew1) | exact HB.out)) hb); have n1_ := Aside0.mk (hbox); have n2_ := Aside0.mk ((by rw [hg]; exact (below_size (by repeat (first | (with_reducible first | exact HB.out | apply below_alloc | apply pw_below_drewN | apply below_drew1) | exact HB.out))) : w.heap.size ≤ gb123)); have n3_ := Aside0.mk ((by rw [hg]; exact (below_size (by repeat (first | (with_reducible first | exact HB.out | apply below_alloc | apply pw_below_drewN | apply below_drew1) | exact HB.out))) : w.heap.size ≤ gb123)); clear HB; have HB := n0_; have BK123 := n1_; have GW123 := n2_; have GE123 := n3_; clear n0_ n1_ n2_ n3_; clear hb hbox hg; have hcz14_0 : w13.cell? ⟨gb123, 0, none⟩ = some (.int .i64 a0_0) := (blk_cell BK123.out 0).trans rfl; have hcz14_1 : w13.cell? ⟨gb123, 1, none⟩ = some (.int .i64 a0_1) := (blk_cell BK123.out 1).trans rfl; have hcz14_2 : w13.cell? ⟨gb123, 2, none⟩ = some (.int .i64 a0_2) := (blk_cell BK123.out 2).trans rfl; have hcz14_3 : w13.cell? ⟨gb123, 3, none⟩ = some (.int .i64 a0_3) := (blk_cell BK123.out 3).trans rfl; have hfz14_0 := blk_frozen BK123.out 0; have hfz14_1 := blk_frozen BK123.out 1; have hfz14_2 := blk_frozen BK123.out 2; have hfz14_3 := blk_frozen BK123.out 3))
      go_ret
      exact ⟨by first | rfl | (simp [errW_none, errW_some] <;> rfl) | (simp [*, errW_none, errW_some] <;> rfl), by repeat (first | (with_reducible first | exact HB.out | apply below_alloc | apply pw_below_drewN | apply below_drew1 | refine below_set ?_ GE123.out) | exact HB.out)⟩
  · rw [if_neg c6] at H
    have c6b0 : (a0_0 == a1) = false := beq_eq_false_iff_ne.mpr c6
    have c6b1 : (a0_0 != a1) = true := bne_iff_ne.mpr c6
    obtain rfl := Option.some.inj H
    go_enter Tryd.func19, Tryd.ntmps19
    go_wp2_with (first | ((with_reducible refine gate_dst (N := 5) rfl ?_); refine box_event ?hg (N := 5) ?hd (cs := #[.int .i64 a0_0, .int .i64 a0_1, .int .i64 a0_2, .int .i64 a0_3]) (t := 39) ?hr ?_; (case hd => rfl); (case hg => rfl); (case hr => first | (go_simp; done) | (go_simp; rfl)); intro gb123 hg w15 hbox hb; have n0_ := Aside0.mk (below_step (by repeat (first | (with_reducible first | exact HB.out | apply below_alloc | apply pw_below_drewN | apply below_drew1) | exact HB.out)) hb); have n1_ := Aside0.mk (hbox); have n2_ := Aside0.mk ((by rw [hg]; exact (below_size (by repeat (first | (with_reducible first | exact HB.out | apply below_alloc | apply pw_below_drewN | apply below_drew1) | exact HB.out))) : w.heap.size ≤ gb123)); have n3_ := Aside0.mk ((by rw [hg]; exact (below_size (by repeat (first | (with_reducible first | exact HB.out | apply below_alloc | apply pw_below_drewN | apply below_drew1) | exact HB.out))) : w.heap.size ≤ gb123)); clear HB; have HB := n0_; have BK123 := n1_; have GW123 := n2_; have GE123 := n3_; clear n0_ n1_ n2_ n3_; clear hb hbox hg; have hcz16_0 : w15.cell? ⟨gb123, 0, none⟩ = some (.int .i64 a0_0) := (blk_cell BK123.out 0).trans rfl; have hcz16_1 : w15.cell? ⟨gb123, 1, none⟩ = some (.int .i64 a0_1) := (blk_cell BK123.out 1).trans rfl; have hcz16_2 : w15.cell? ⟨gb123, 2, none⟩ = some (.int .i64 a0_2) := (blk_cell BK123.out 2).trans rfl; have hcz16_3 : w15.cell? ⟨gb123, 3, none⟩ = some (.int .i64 a0_3) := (blk_cell BK123.out 3).trans rfl; have hfz16_0 := blk_frozen BK123.out 0; have hfz16_1 := blk_frozen BK123.out 1; have hfz16_2 := blk_frozen BK123.out 2; have hfz16_3 := blk_frozen BK123.out 3))
    go_ret
    exact ⟨by first | rfl | (simp [errW_none, errW_some] <;> rfl) | (simp [*, errW_none, errW_some] <;> rfl), by repeat (first | (with_reducible first | exact HB.out | apply below_alloc | apply pw_below_drewN | apply below_drew1 | refine below_set ?_ GE123.out) | exact HB.out)⟩

/-! ### slackwaterlaw09_awake: function 10 -/
def slackwaterlaw09_awake.f (k : Nat)  : Option (Bool) := (clock_At.f 1 2).bind fun bt124 => ((clock_Date.f 1416).bind fun bt126 => ((clock_Parse.f k (⟨#[50, 48, 48, 48, 45, 49, 45, 49, 32, 48]⟩ : ByteArray)).bind fun bt132 => ((clock_Week.f 0).bind fun bt134 => (if bt124.1 = 26 then (if bt124.2 = 0 then ((slackwaterlaw09_is.f bt126.1 bt126.2.1 bt126.2.2.1 bt126.2.2.2.1 2000 2 29 0).bind fun t136 => (if t136 = true then (if bt126.2.2.2.2 = 0 then (if bt132.1 = 0 then (if bt132.2 = 0 then (if bt134.1 = 5 then (some (bt134.2 == 0)) else (none)) else (none)) else (none)) else (none)) else (none))) else (none)) else (none)))))
theorem slackwaterlaw09_awake.mono : ∀ k, LeO (slackwaterlaw09_awake.f k ) (slackwaterlaw09_awake.f (k + 1) ) := by
  intro  k
  unfold slackwaterlaw09_awake.f
  repeat' first
      | (with_reducible exact clock_Parse.mono _ _)
      | (with_reducible exact LeO.refl _)
      | (with_reducible exact LeO.none _)
      | (with_reducible refine LeO.ite ?_ ?_)
      | (with_reducible refine LeO.bind ?_ (fun _ => ?_))
      | exact clock_Parse.mono _ _
      | exact LeO.none _
      | refine LeO.ite ?_ ?_
      | refine LeO.bind ?_ (fun _ => ?_)
set_option maxHeartbeats 8000000 in
set_option maxRecDepth 100000 in
theorem slackwaterlaw09_awake.calls (k : Nat)  (r : Bool) (w : World) (hL : LW w) (h : slackwaterlaw09_awake.f k  = some r) :
    Calls Tryd.prog 10 #[] w fun e w' => e = .returned (.bool r) ∧ Below w.heap.size w w' := by
  have hu39 := Tryd.underlying39
  have HB := Aside0.mk (Below.refl w.heap.size w)
  have H : ((clock_At.f 1 2).bind fun bt124 => ((clock_Date.f 1416).bind fun bt126 => ((clock_Parse.f k (⟨#[50, 48, 48, 48, 45, 49, 45, 49, 32, 48]⟩ : ByteArray)).bind fun bt132 => ((clock_Week.f 0).bind fun bt134 => (if bt124.1 = 26 then (if bt124.2 = 0 then ((slackwaterlaw09_is.f bt126.1 bt126.2.1 bt126.2.2.1 bt126.2.2.2.1 2000 2 29 0).bind fun t136 => (if t136 = true then (if bt126.2.2.2.2 = 0 then (if bt132.1 = 0 then (if bt132.2 = 0 then (if bt134.1 = 5 then (some (bt134.2 == 0)) else (none)) else (none)) else (none)) else (none)) else (none))) else (none)) else (none)))))) = some r := h
  clear h
  replace H := Option.bind_eq_some_iff.mp H
  obtain ⟨⟨t124, t125⟩, A10, H⟩ := H
  replace H : ((clock_Date.f 1416).bind fun bt126 => ((clock_Parse.f k (⟨#[50, 48, 48, 48, 45, 49, 45, 49, 32, 48]⟩ : ByteArray)).bind fun bt132 => ((clock_Week.f 0).bind fun bt134 => (if t124 = 26 then (if t125 = 0 then ((slackwaterlaw09_is.f bt126.1 bt126.2.1 bt126.2.2.1 bt126.2.2.2.1 2000 2 29 0).bind fun t136 => (if t136 = true then (if bt126.2.2.2.2 = 0 then (if bt132.1 = 0 then (if bt132.2 = 0 then (if bt134.1 = 5 then (some (bt134.2 == 0)) else (none)) else (none)) else (none)) else (none)) else (none))) else (none)) else (none))))) = some r := H
  have A1 := Aside0.mk A10
  clear A10
  replace H := Option.bind_eq_some_iff.mp H
  obtain ⟨⟨t126, t127, t128, t129, t130⟩, A20, H⟩ := H
  replace H : ((clock_Parse.f k (⟨#[50, 48, 48, 48, 45, 49, 45, 49, 32, 48]⟩ : ByteArray)).bind fun bt132 => ((clock_Week.f 0).bind fun bt134 => (if t124 = 26 then (if t125 = 0 then ((slackwaterlaw09_is.f t126 t127 t128 t129 2000 2 29 0).bind fun t136 => (if t136 = true then (if t130 = 0 then (if bt132.1 = 0 then (if bt132.2 = 0 then (if bt134.1 = 5 then (some (bt134.2 == 0)) else (none)) else (none)) else (none)) else (none)) else (none))) else (none)) else (none)))) = some r := H
  have A2 := Aside0.mk A20
  clear A20
  replace H := Option.bind_eq_some_iff.mp H
  obtain ⟨⟨t132, t133⟩, A30, H⟩ := H
  replace H : ((clock_Week.f 0).bind fun bt134 => (if t124 = 26 then (if t125 = 0 then ((slackwaterlaw09_is.f t126 t127 t128 t129 2000 2 29 0).bind fun t136 => (if t136 = true then (if t130 = 0 then (if t132 = 0 then (if t133 = 0 then (if bt134.1 = 5 then (some (bt134.2 == 0)) else (none)) else (none)) else (none)) else (none)) else (none))) else (none)) else (none))) = some r := H
  have A3 := Aside0.mk A30
  clear A30
  replace H := Option.bind_eq_some_iff.mp H
  obtain ⟨⟨t134, t135⟩, A40, H⟩ := H
  replace H : (if t124 = 26 then (if t125 = 0 then ((slackwaterlaw09_is.f t126 t127 t128 t129 2000 2 29 0).bind fun t136 => (if t136 = true then (if t130 = 0 then (if t132 = 0 then (if t133 = 0 then (if t134 = 5 then (some (t135 == 0)) else (none)) else (none)) else (none)) else (none)) else (none))) else (none)) else (none)) = some r := H
  have A4 := Aside0.mk A40
  clear A40
  by_cases c5 : t124 = 26
  · rw [if_pos c5] at H
    have c5b0 : (t124 == 26) = true := beq_iff_eq.mpr c5
    have c5b1 : (t124 != 26) = false := bne_eq_false_iff_eq.mpr c5
    clear c5
    by_cases c6 : t125 = 0
    · rw [if_pos c6] at H
      have c6b0 : (t125 == 0) = true := beq_iff_eq.mpr c6
      have c6b1 : (t125 != 0) = false := bne_eq_false_iff_eq.mpr c6
      clear c6
      replace H := Option.bind_eq_some_iff.mp H
      obtain ⟨t136, A70, H⟩ := H
      replace H : (if t136 = true then (if t130 = 0 then (if t132 = 0 then (if t133 = 0 then (if t134 = 5 then (some (t135 == 0)) else (none)) else (none)) else (none)) else (none)) else (none)) = some r := H
      have A7 := Aside0.mk A70
      clear A70
      by_cases c8 : t136 = true
      · subst c8
        have H1 : (if t130 = 0 then (if t132 = 0 then (if t133 = 0 then (if t134 = 5 then (some (t135 == 0)) else (none)) else (none)) else (none)) else (none)) = some r := by rw [if_pos rfl] at H; exact H
        clear H
        have H := H1
        clear H1
        by_cases c9 : t130 = 0
        · rw [if_pos c9] at H
          have c9b0 : (t130 == 0) = true := beq_iff_eq.mpr c9
          have c9b1 : (t130 != 0) = false := bne_eq_false_iff_eq.mpr c9
          clear c9
          by_cases c10 : t132 = 0
          · rw [if_pos c10] at H
            have c10b0 : (t132 == 0) = true := beq_iff_eq.mpr c10
            have c10b1 : (t132 != 0) = false := bne_eq_false_iff_eq.mpr c10
            clear c10
            by_cases c11 : t133 = 0
            · rw [if_pos c11] at H
              have c11b0 : (t133 == 0) = true := beq_iff_eq.mpr c11
              have c11b1 : (t133 != 0) = false := bne_eq_false_iff_eq.mpr c11
              clear c11
              by_cases c12 : t134 = 5
              · rw [if_pos c12] at H
                have c12b0 : (t134 == 5) = true := beq_iff_eq.mpr c12
                have c12b1 : (t134 != 5) = false := bne_eq_false_iff_eq.mpr c12
                clear c12
                obtain rfl := Option.some.inj H
                go_enter Tryd.func10, Tryd.ntmps10
                go_wp2_with (first | ((with_reducible refine gate_callee (f := 15) rfl ?_); refine goesL_ (some 10) rfl rfl Tryd.func15 (by kernel_rfl) rfl #[.int .i64 1, .int .i64 2] rfl (by (try simp only [List.map_toArray, List.map_cons, List.map_nil]); first | done | rfl | (simp only [List.length_drop, List.length_take]; rfl)) ?_; (with_reducible refine (clock_At.calls 1 2 t124 t125 _ A1.out).mono ?_); rintro e w' ⟨rfl, ⟨nd, rfl⟩⟩; refine ⟨_, rfl, ?_⟩) | ((with_reducible refine gate_callee (f := 16) rfl ?_); refine goesL_ (some 14) rfl rfl Tryd.func16 (by kernel_rfl) rfl #[.int .i64 1416] rfl (by (try simp only [List.map_toArray, List.map_cons, List.map_nil]); first | done | rfl | (simp only [List.length_drop, List.length_take]; rfl)) ?_; (with_reducible refine (clock_Date.calls 1416 t126 t127 t128 t129 t130 _ A2.out).mono ?_); rintro e w13 ⟨rfl, hb⟩; refine ⟨_, rfl, ?_⟩; have n0_ := Aside0.mk (below_step (by repeat (first | (with_reducible first | exact HB.out | apply below_alloc | apply pw_below_drewN | apply below_drew1) | exact HB.out)) hb); clear HB; have HB := n0_; clear n0_; (try clear hb); (try clear hb2); (try clear hk); (try clear hi)) | ((with_reducible refine gate_dst (N := 3) rfl ?_); refine box_event ?hg (N := 3) ?hd (cs := #[.int .i64 0, .int .i64 0, .int .i64 0, .int .i64 0]) (t := 39) ?hr ?_; (case hd => rfl); (case hg => rfl); (case hr => first | (go_simp; done) | (go_simp; rfl)); intro gb131 hg w14 hbox hb; have n0_ := Aside0.mk (below_step (by repeat (first | (with_reducible first | exact HB.out | apply below_alloc | apply pw_below_drewN | apply below_drew1) | exact HB.out)) hb); have n1_ := Aside0.mk (hbox); have n2_ := Aside0.mk ((by rw [hg]; exact (below_size (by repeat (first | (with_reducible first | exact HB.out | apply below_alloc | apply pw_below_drewN | apply below_drew1) | exact HB.out))) : w.heap.size ≤ gb131)); have n3_ := Aside0.mk ((by rw [hg]; exact (below_size (by repeat (first | (with_reducible first | exact HB.out | apply below_alloc | apply pw_below_drewN | apply below_drew1) | exact HB.out))) : w.heap.size ≤ gb131)); clear HB; have HB := n0_; have BK131 := n1_; have GW131 := n2_; have GE131 := n3_; clear n0_ n1_ n2_ n3_; clear hb hbox hg; have hcz15_0 : w14.cell? ⟨gb131, 0, none⟩ = some (.int .i64 0) := (blk_cell BK131.out 0).trans rfl; have hcz15_1 : w14.cell? ⟨gb131, 1, none⟩ = some (.int .i64 0) := (blk_cell BK131.out 1).trans rfl; have hcz15_2 : w14.cell? ⟨gb131, 2, none⟩ = some (.int .i64 0) := (blk_cell BK131.out 2).trans rfl; have hcz15_3 : w14.cell? ⟨gb131, 3, none⟩ = some (.int .i64 0) := (blk_cell BK131.out 3).trans rfl; have hfz15_0 := blk_frozen BK131.out 0; have hfz15_1 := blk_frozen BK131.out 1; have hfz15_2 := blk_frozen BK131.out 2; have hfz15_3 := blk_frozen BK131.out 3) | ((with_reducible refine gate_callee (f := 17) rfl ?_); refine goesL_ (some 18) rfl rfl Tryd.func17 (by kernel_rfl) rfl #[.string (⟨#[50, 48, 48, 48, 45, 49, 45, 49, 32, 48]⟩ : ByteArray)] rfl (by (try simp only [List.map_toArray, List.map_cons, List.map_nil]); first | done | rfl | (simp only [List.length_drop, List.length_take]; rfl)) ?_; (with_reducible refine (clock_Parse.calls k (⟨#[50, 48, 48, 48, 45, 49, 45, 49, 32, 48]⟩ : ByteArray) t132 t133 _ (hL.below (by repeat (first | (with_reducible first | exact HB.out | apply below_alloc | apply pw_below_drewN | apply below_drew1 | refine below_set ?_ GE131.out) | exact HB.out))) A3.out).mono ?_); rintro e w16 ⟨rfl, hb⟩; refine ⟨_, rfl, ?_⟩; have n0_ := Aside0.mk (blk_below (g := gb131) (o := .cells #[.int .i64 t126, .int .i64 t127, .int .i64 t128, .int .i64 t129] 39 (0, 0)) (by (with_reducible repeat (first | refine blk_drewN ?_ _ | refine blk_drew ?_ | refine blk_alloc ?_ _)); refine blk_put (cs := #[.int .i64 t126, .int .i64 t127, .int .i64 t128, .int .i64 0]) ?_ 3 _ rfl; (with_reducible repeat (first | refine blk_drewN ?_ _ | refine blk_drew ?_ | refine blk_alloc ?_ _)); refine blk_put (cs := #[.int .i64 t126, .int .i64 t127, .int .i64 0, .int .i64 0]) ?_ 2 _ rfl; (with_reducible repeat (first | refine blk_drewN ?_ _ | refine blk_drew ?_ | refine blk_alloc ?_ _)); refine blk_put (cs := #[.int .i64 t126, .int .i64 0, .int .i64 0, .int .i64 0]) ?_ 1 _ rfl; (with_reducible repeat (first | refine blk_drewN ?_ _ | refine blk_drew ?_ | refine blk_alloc ?_ _)); refine blk_put (cs := #[.int .i64 0, .int .i64 0, .int .i64 0, .int .i64 0]) ?_ 0 _ rfl; (with_reducible repeat (first | refine blk_drewN ?_ _ | refine blk_drew ?_ | refine blk_alloc ?_ _)); exact BK131.out) hb); have n1_ := Aside0.mk (below_step (by repeat (first | (with_reducible first | exact HB.out | apply below_alloc | apply pw_below_drewN | apply below_drew1 | refine below_set ?_ GE131.out) | exact HB.out)) hb); clear BK131; clear HB; have BK131 := n0_; have HB := n1_; clear n0_ n1_; (try clear hb); (try clear hb2); (try clear hk); (try clear hi)) | ((with_reducible refine gate_callee (f := 18) rfl ?_); refine goesL_ (some 22) rfl rfl Tryd.func18 (by kernel_rfl) rfl #[.int .i64 0] rfl (by (try simp only [List.map_toArray, List.map_cons, List.map_nil]); first | done | rfl | (simp only [List.length_drop, List.length_take]; rfl)) ?_; (with_reducible refine (clock_Week.calls 0 t134 t135 _ A4.out).mono ?_); rintro e w' ⟨rfl, ⟨nd, rfl⟩⟩; refine ⟨_, rfl, ?_⟩; have hcz17_0 : w16.cell? ⟨gb131, 0, none⟩ = some (.int .i64 t126) := (blk_cell BK131.out 0).trans rfl; have hcz17_1 : w16.cell? ⟨gb131, 1, none⟩ = some (.int .i64 t127) := (blk_cell BK131.out 1).trans rfl; have hcz17_2 : w16.cell? ⟨gb131, 2, none⟩ = some (.int .i64 t128) := (blk_cell BK131.out 2).trans rfl; have hcz17_3 : w16.cell? ⟨gb131, 3, none⟩ = some (.int .i64 t129) := (blk_cell BK131.out 3).trans rfl; have hfz17_0 := blk_frozen BK131.out 0; have hfz17_1 := blk_frozen BK131.out 1; have hfz17_2 := blk_frozen BK131.out 2; have hfz17_3 := blk_frozen BK131.out 3) | (go_at_call 19; (with_reducible refine (slackwaterlaw09_is.calls t126 t127 t128 t129 2000 2 29 0 true _ A7.out).mono ?_); rintro e w18 ⟨rfl, hb⟩; have n0_ := Aside0.mk (blk_below (g := gb131) (o := .cells #[.int .i64 t126, .int .i64 t127, .int .i64 t128, .int .i64 t129] 39 (0, 0)) (by (with_reducible repeat (first | refine blk_drewN ?_ _ | refine blk_drew ?_ | refine blk_alloc ?_ _)); exact BK131.out) hb); have n1_ := Aside0.mk (below_step (by repeat (first | (with_reducible first | exact HB.out | apply below_alloc | apply pw_below_drewN | apply below_drew1 | refine below_set ?_ GE131.out) | exact HB.out)) hb); clear BK131; clear HB; have BK131 := n0_; have HB := n1_; clear n0_ n1_; (try clear hb); (try clear hb2); (try clear hk); (try clear hi)))
                go_ret
                exact ⟨by first | rfl | (simp [errW_none, errW_some] <;> rfl) | (simp [*, errW_none, errW_some] <;> rfl), by repeat (first | (with_reducible first | exact HB.out | apply below_alloc | apply pw_below_drewN | apply below_drew1 | refine below_set ?_ GE131.out) | exact HB.out)⟩
              · rw [if_neg c12] at H
                exact absurd H (by simp)
            · rw [if_neg c11] at H
              exact absurd H (by simp)
          · rw [if_neg c10] at H
            exact absurd H (by simp)
        · rw [if_neg c9] at H
          exact absurd H (by simp)
      · replace c8 := Bool.eq_false_iff.mpr c8
        subst c8
        have H1 : (none) = some r := by rw [if_neg (show ¬ (false = true) by decide)] at H; exact H
        clear H
        have H := H1
        clear H1
        exact absurd H (by simp)
    · rw [if_neg c6] at H
      exact absurd H (by simp)
  · rw [if_neg c5] at H
    exact absurd H (by simp)

/-- THE ONE PURE STATEMENT of slackwaterlaw09_awake: yours. -/
def slackwaterlaw09_awake.Pure : Prop := ∃ k, slackwaterlaw09_awake.f k  = some true
theorem slackwaterlaw09_awake.walk (P : slackwaterlaw09_awake.Pure)  (w : World) (hL : LW w)  :
    Calls Tryd.prog 10 #[] w fun e w' => e = .returned (.bool true) ∧ Below w.heap.size w w' := by
  obtain ⟨k, h⟩ := P  
  refine (slackwaterlaw09_awake.calls k  true w hL h).mono ?_
  rintro e w' ⟨rfl, hd⟩
  exact ⟨rfl, hd⟩

/-! ### clock_Span: function 13 -/
def clock_Span.j0 : Nat → Int → Int → Bool → Option (Int)
  | 0, _, _, _ => none
  | k + 1, x0, x1, x5 => if x5 = true then (some 2) else (if (wrap64 (x1 - x0)) > 4096 then (some 3) else (some 0))
def clock_Span.f (k : Nat) (a0 : Int) (a1 : Int) : Option (Int) := if a0 < 0 then (clock_Span.j0 k a0 a1 true) else (if a1 > 1048577 then (clock_Span.j0 k a0 a1 true) else (clock_Span.j0 k a0 a1 (decide (a0 > a1))))
theorem clock_Span.mono_l : ∀ k, (∀ y0 y1 y2, LeO (clock_Span.j0 k y0 y1 y2) (clock_Span.j0 (k + 1) y0 y1 y2))
  | 0 => fun _ _ _ r h => by simp [clock_Span.j0] at h
  | k + 1 => by
    have ih0 := clock_Span.mono_l k
    · intro y0 y1 y2
      unfold clock_Span.j0
      repeat' first
      | (with_reducible exact ih0 _ _ _)
      | (with_reducible exact LeO.refl _)
      | (with_reducible exact LeO.none _)
      | (with_reducible refine LeO.ite ?_ ?_)
      | (with_reducible refine LeO.bind ?_ (fun _ => ?_))
      | exact ih0 _ _ _
      | exact LeO.none _
      | refine LeO.ite ?_ ?_
      | refine LeO.bind ?_ (fun _ => ?_)
theorem clock_Span.mono : ∀ a0 a1 k, LeO (clock_Span.f k a0 a1) (clock_Span.f (k + 1) a0 a1) := by
  intro a0 a1 k
  have ih0 := clock_Span.mono_l k
  unfold clock_Span.f
  repeat' first
      | (with_reducible exact ih0 _ _ _)
      | (with_reducible exact LeO.refl _)
      | (with_reducible exact LeO.none _)
      | (with_reducible refine LeO.ite ?_ ?_)
      | (with_reducible refine LeO.bind ?_ (fun _ => ?_))
      | exact ih0 _ _ _
      | exact LeO.none _
      | refine LeO.ite ?_ ?_
      | refine LeO.bind ?_ (fun _ => ?_)
set_option maxHeartbeats 8000000 in
set_option maxRecDepth 100000 in
theorem clock_Span.calls (k : Nat) (a0 : Int) (a1 : Int) (r : Int) (w : World) (h : clock_Span.f k a0 a1 = some r) :
    Calls Tryd.prog 13 #[.int .i64 a0, .int .i64 a1] w fun e w' => e = .returned (.int .i64 r) ∧ Drawn0 w w' := by
  have H : (if a0 < 0 then (clock_Span.j0 k a0 a1 true) else (if a1 > 1048577 then (clock_Span.j0 k a0 a1 true) else (clock_Span.j0 k a0 a1 (decide (a0 > a1))))) = some r := h
  clear h
  have HC3 := Aside0.mk H
  clear H
  go_enter Tryd.func13, Tryd.ntmps13
  go_upto_region 1 with (fail)
  go_cut [5] (fun v5 wc => ∃ (kq : Nat) (x5_2 : Bool), v5 = .bool x5_2 ∧ Aside0 (clock_Span.j0 kq a0 a1 x5_2 = some r) ∧ Aside0 (kq ≤ k) ∧ Drawn0 w wc)
  case first =>
    have H := HC3.out
    clear HC3
    by_cases c4 : a0 < 0
    · rw [if_pos c4] at H
      have c4b0 : decide (a0 < 0) = true := decide_eq_true c4
      clear c4
      (first | rw [c4b0] | (simp only [i64_w, i32_w]; rw [c4b0]) | skip)
      have H' := Aside0.mk H
      clear H
      go_wp2
      go_meet
      case rel => exact ⟨_, (true), (by first | rfl | (simp; done) | (simp [*]; done)), H', ⟨by first | omega | exact Nat.le_refl _⟩, by repeat (first | exact Drawn0.refl _ | apply Drawn0.step)⟩
    · rw [if_neg c4] at H
      have c4b0 : decide (a0 < 0) = false := decide_eq_false c4
      clear c4
      (first | rw [c4b0] | (simp only [i64_w, i32_w]; rw [c4b0]) | skip)
      by_cases c5 : a1 > 1048577
      · rw [if_pos c5] at H
        have c5b0 : decide (1048577 < a1) = true := decide_eq_true c5
        clear c5
        have H' := Aside0.mk H
        clear H
        go_wp2
        go_meet
        case rel => exact ⟨_, (true), (by first | rfl | (simp; done) | (simp [*]; done)), H', ⟨by first | omega | exact Nat.le_refl _⟩, by repeat (first | exact Drawn0.refl _ | apply Drawn0.step)⟩
      · rw [if_neg c5] at H
        have c5b0 : decide (1048577 < a1) = false := decide_eq_false c5
        clear c5
        have H' := Aside0.mk H
        clear H
        go_wp2
        go_meet
        case rel => exact ⟨_, (decide (a0 > a1)), (by first | rfl | (simp; done) | (simp [*]; done)), H', ⟨by first | omega | exact Nat.le_refl _⟩, by repeat (first | exact Drawn0.refl _ | apply Drawn0.step)⟩
  case rest =>
    clear HC3
    try clear c1
    try clear p2
    try clear c4
    try clear c4b0
    try clear c5
    try clear c5b0
    obtain ⟨kq, x5_2, rfl, HA, HJ2, ⟨mc2, rfl⟩⟩ := hcut
    cases kq with
    | zero => exact absurd HA.out (by simp [clock_Span.j0])
    | succ kj2 =>
      have H := HA.out
      clear HA
      simp only [clock_Span.j0] at H
      by_cases c6 : x5_2 = true
      · subst c6
        have H1 : (some 2) = some r := by rw [if_pos rfl] at H; exact H
        clear H
        have H := H1
        clear H1
        obtain rfl := Option.some.inj H
        go_wp2
        go_ret
        exact ⟨by first | rfl | (simp; done) | (simp [*]; done), by repeat (first | exact Drawn0.refl _ | apply Drawn0.step)⟩
      · replace c6 := Bool.eq_false_iff.mpr c6
        subst c6
        have H1 : (if (wrap64 (a1 - a0)) > 4096 then (some 3) else (some 0)) = some r := by rw [if_neg (show ¬ (false = true) by decide)] at H; exact H
        clear H
        have H := H1
        clear H1
        by_cases c7 : (wrap64 (a1 - a0)) > 4096
        · rw [if_pos c7] at H
          have c7b0 : decide (4096 < (wrap64 (a1 - a0))) = true := decide_eq_true c7
          clear c7
          obtain rfl := Option.some.inj H
          go_wp2
          go_ret
          exact ⟨by first | rfl | (simp; done) | (simp [*]; done), by repeat (first | exact Drawn0.refl _ | apply Drawn0.step)⟩
        · rw [if_neg c7] at H
          have c7b0 : decide (4096 < (wrap64 (a1 - a0))) = false := decide_eq_false c7
          clear c7
          obtain rfl := Option.some.inj H
          go_wp2
          go_ret
          exact ⟨by first | rfl | (simp; done) | (simp [*]; done), by repeat (first | exact Drawn0.refl _ | apply Drawn0.step)⟩

/-! ### clock_Days: function 6 -/
def clock_Days.l0 : Nat → Int → List Int → Int → Option (List Int)
  | 0, _, _, _ => none
  | k + 1, x1, x5, x6 => if (wrap64 ((wrap64 (x6 + 1)) * 24)) ≤ x1 then (if x5.length < 17592186044416 then (clock_Days.l0 k x1 (x5 ++ [x6]) (wrap64 (x6 + 1))) else (none)) else (some x5)
def clock_Days.f (k : Nat) (a0 : Int) (a1 : Int) : Option (List Int) := (clock_Span.f k a0 a1).bind fun t137 => (if t137 = 0 then (clock_Days.l0 k a1 ([] : List Int) (wrap64 (Int.tdiv (wrap64 ((wrap64 (a0 + 24)) - 1)) 24))) else (some ([] : List Int)))
theorem clock_Days.mono_l : ∀ k, (∀ y0 y1 y2, LeO (clock_Days.l0 k y0 y1 y2) (clock_Days.l0 (k + 1) y0 y1 y2))
  | 0 => fun _ _ _ r h => by simp [clock_Days.l0] at h
  | k + 1 => by
    have ih0 := clock_Days.mono_l k
    · intro y0 y1 y2
      unfold clock_Days.l0
      repeat' first
      | (with_reducible exact ih0 _ _ _)
      | (with_reducible exact clock_Span.mono _ _ _)
      | (with_reducible exact LeO.refl _)
      | (with_reducible exact LeO.none _)
      | (with_reducible refine LeO.ite ?_ ?_)
      | (with_reducible refine LeO.bind ?_ (fun _ => ?_))
      | exact ih0 _ _ _
      | exact clock_Span.mono _ _ _
      | exact LeO.none _
      | refine LeO.ite ?_ ?_
      | refine LeO.bind ?_ (fun _ => ?_)
theorem clock_Days.mono : ∀ a0 a1 k, LeO (clock_Days.f k a0 a1) (clock_Days.f (k + 1) a0 a1) := by
  intro a0 a1 k
  have ih0 := clock_Days.mono_l k
  unfold clock_Days.f
  repeat' first
      | (with_reducible exact ih0 _ _ _)
      | (with_reducible exact clock_Span.mono _ _ _)
      | (with_reducible exact LeO.refl _)
      | (with_reducible exact LeO.none _)
      | (with_reducible refine LeO.ite ?_ ?_)
      | (with_reducible refine LeO.bind ?_ (fun _ => ?_))
      | exact ih0 _ _ _
      | exact clock_Span.mono _ _ _
      | exact LeO.none _
      | refine LeO.ite ?_ ?_
      | refine LeO.bind ?_ (fun _ => ?_)
set_option maxHeartbeats 8000000 in
set_option maxRecDepth 100000 in
theorem clock_Days.calls (k : Nat) (a0 : Int) (a1 : Int) (r : List Int) (w : World) (h : clock_Days.f k a0 a1 = some r) :
    Calls Tryd.prog 6 #[.int .i64 a0, .int .i64 a1] w fun e w' => ∃ v0_ : Value, e = .returned (v0_) ∧ Kd.R (Kd.int .i64) 3 w' w.heap.size (fun _ => True) v0_ r ∧ Below w.heap.size w w' := by
  have HB := Aside0.mk (Below.refl w.heap.size w)
  have H : ((clock_Span.f k a0 a1).bind fun t137 => (if t137 = 0 then (clock_Days.l0 k a1 ([] : List Int) (wrap64 (Int.tdiv (wrap64 ((wrap64 (a0 + 24)) - 1)) 24))) else (some ([] : List Int)))) = some r := h
  clear h
  replace H := Option.bind_eq_some_iff.mp H
  obtain ⟨t137, A30, H⟩ := H
  replace H : (if t137 = 0 then (clock_Days.l0 k a1 ([] : List Int) (wrap64 (Int.tdiv (wrap64 ((wrap64 (a0 + 24)) - 1)) 24))) else (some ([] : List Int))) = some r := H
  have A3 := Aside0.mk A30
  clear A30
  by_cases c4 : t137 = 0
  · rw [if_pos c4] at H
    have c4b0 : (t137 == 0) = true := beq_iff_eq.mpr c4
    have c4b1 : (t137 != 0) = false := bne_eq_false_iff_eq.mpr c4
    clear c4
    have H' := Aside0.mk H
    clear H
    go_enter Tryd.func6, Tryd.ntmps6
    go_wp2_with (first | ((with_reducible refine gate_callee (f := 13) rfl ?_); refine goesL_ (some 9) rfl rfl Tryd.func13 (by kernel_rfl) rfl #[.int .i64 a0, .int .i64 a1] rfl (by (try simp only [List.map_toArray, List.map_cons, List.map_nil]); first | done | rfl | (simp only [List.length_drop, List.length_take]; rfl)) ?_; (with_reducible refine (clock_Span.calls k a0 a1 t137 _ A3.out).mono ?_); rintro e w' ⟨rfl, ⟨nd, rfl⟩⟩; refine ⟨_, rfl, ?_⟩))
    go_loopg [5, 6] k (fun kq v5 v6 w' => ∃ (x5_1 : List Int) (x6_1 : Int), v6 = .int .i64 x6_1 ∧ Aside0 (clock_Days.l0 kq a1 x5_1 x6_1 = some r) ∧ Aside0 (kq ≤ k) ∧ Aside0 (Kd.R (Kd.int .i64) 3 w' w.heap.size (fun _ => True) v5 x5_1) ∧ Aside0 (Below w.heap.size w w'))
    case atStart => exact ⟨(([] : List Int)), (wrap64 (Int.tdiv (wrap64 ((wrap64 (a0 + 24)) - 1)) 24)), (by first | rfl | (simp; done) | (simp [*]; done)), H', ⟨Nat.le_refl _⟩, ⟨by first | exact Kd.R_nil _ _ _ _ _ | exact Kd.N_nil _ _ _ _ _ | exact Kd.V_nil _ _ _ _ _ | exact Kd.Q_nil _ _ _ _ _ | exact Kd.S_nil _ _ _ _ _⟩, ⟨by repeat (first | (with_reducible first | exact HB.out | apply below_alloc | apply pw_below_drewN | apply below_drew1) | exact HB.out)⟩⟩
    case round =>
      clear H'
      try clear c1
      try clear p2
      try clear c4
      try clear c4b0
      try clear c4b1
      obtain ⟨x5_1, x6_1, rfl, HA, HK1, HO_5, HB⟩ := hrel
      cases gk with
      | zero => exact absurd HA.out (by simp [clock_Days.l0])
      | succ k1 =>
        have H := HA.out
        clear HA
        simp only [clock_Days.l0] at H
        by_cases c5 : (wrap64 ((wrap64 (x6_1 + 1)) * 24)) ≤ a1
        · rw [if_pos c5] at H
          have c5b0 : decide ((wrap64 ((wrap64 (x6_1 + 1)) * 24)) ≤ a1) = true := decide_eq_true c5
          clear c5
          by_cases c6 : x5_1.length < 17592186044416
          · rw [if_pos c6] at H
            have LMc6 := Aside0.mk c6
            clear c6
            obtain ⟨y138, hy138⟩ : ∃ y_ : List Int, y_ = (x5_1 ++ [x6_1]) := ⟨_, rfl⟩
            replace H : (clock_Days.l0 k1 a1 y138 (wrap64 (x6_1 + 1))) = some r := by first | (rw [hy138]; with_reducible exact H) | (have H2_ := (Option.bind_some _ _).symm.trans H; rw [hy138]; with_reducible exact H2_) | (have H2_ := (Option.bind_some _ _).symm.trans H; with_reducible exact H2_) | with_reducible exact H | (rw [hy138]; exact H) | exact H
            have Ny138 := Aside0.mk hy138
            clear hy138
            have H' := Aside0.mk H
            clear H
            go_wp2_with (first | ((with_reducible refine gate_builtin (b := .append) (xs := #[.tmp 22, .tmp 24]) rfl ?_); at_builtin; refine Kd.R_append (Kd.int .i64) (w0 := w) w.heap.size rfl (.tmp 22) (.tmp 24) 22 3 (.int .i64 0) 8 rfl Tryd.underlying22 info3 rfl (by decide) (by omega) u5 x5_1 x6_1 [.int .i64 x6_1] (fun _ => True) (fun _ => False) rfl rfl ?aP (fun _ hk => hk.elim) ?aF ?aO ?aB ?aS ?aL ?_; (case aP => exact rfl); (case aB => exact (by repeat (first | (with_reducible first | exact HB.out | apply below_alloc | apply pw_below_drewN | apply below_drew1) | exact HB.out))); (case aF => exact (fun _ _ => trivial)); (case aO => exact (by (with_reducible repeat (first | apply Kd.R_alloc | apply Kd.R_drewN | apply Kd.R_drew)); exact HO_5.out)); (case aS => exact (below_size (by repeat (first | (with_reducible first | exact HB.out | apply below_alloc | apply pw_below_drewN | apply below_drew1) | exact HB.out)))); (case aL => have := LMc6.out; omega); intro v139 w7 ho hb hg hat; rw [← Ny138.out] at ho; have n0_ := Aside0.mk (hb); have n1_ := Aside0.mk (ho); clear HB; clear HO_5; have HB := n0_; have HO140 := n1_; clear n0_ n1_; clear ho hb hg hat))
            go_roundg k1
            case measure => have := HK1.out; omega
            case rel => exact ⟨(y138), (wrap64 (x6_1 + 1)), (by first | rfl | (simp; done) | (simp [*]; done)), H', ⟨by have := HK1.out; omega⟩, ⟨by (with_reducible repeat (first | apply Kd.R_alloc | apply Kd.R_drewN | apply Kd.R_drew)); exact HO140.out⟩, ⟨by repeat (first | (with_reducible first | exact HB.out | apply below_alloc | apply pw_below_drewN | apply below_drew1) | exact HB.out)⟩⟩
          · rw [if_neg c6] at H
            exact absurd H (by simp)
        · rw [if_neg c5] at H
          have c5b0 : decide ((wrap64 ((wrap64 (x6_1 + 1)) * 24)) ≤ a1) = false := decide_eq_false c5
          clear c5
          obtain rfl := Option.some.inj H
          go_wp2
          go_ret
          exact ⟨_, by first | rfl | (simp [errW_none, errW_some] <;> rfl) | (simp [*, errW_none, errW_some] <;> rfl), by (with_reducible repeat (first | apply Kd.R_alloc | apply Kd.R_drewN | apply Kd.R_drew)); exact HO_5.out, by repeat (first | (with_reducible first | exact HB.out | apply below_alloc | apply pw_below_drewN | apply below_drew1) | exact HB.out)⟩
  · rw [if_neg c4] at H
    have c4b0 : (t137 == 0) = false := beq_eq_false_iff_ne.mpr c4
    have c4b1 : (t137 != 0) = true := bne_iff_ne.mpr c4
    obtain rfl := Option.some.inj H
    go_enter Tryd.func6, Tryd.ntmps6
    go_wp2_with (first | ((with_reducible refine gate_callee (f := 13) rfl ?_); refine goesL_ (some 9) rfl rfl Tryd.func13 (by kernel_rfl) rfl #[.int .i64 a0, .int .i64 a1] rfl (by (try simp only [List.map_toArray, List.map_cons, List.map_nil]); first | done | rfl | (simp only [List.length_drop, List.length_take]; rfl)) ?_; (with_reducible refine (clock_Span.calls k a0 a1 t137 _ A3.out).mono ?_); rintro e w' ⟨rfl, ⟨nd, rfl⟩⟩; refine ⟨_, rfl, ?_⟩))
    go_ret
    exact ⟨_, by first | rfl | (simp [errW_none, errW_some] <;> rfl) | (simp [*, errW_none, errW_some] <;> rfl), by first | exact Kd.R_nil _ _ _ _ _ | exact Kd.N_nil _ _ _ _ _ | exact Kd.V_nil _ _ _ _ _ | exact Kd.Q_nil _ _ _ _ _ | exact Kd.S_nil _ _ _ _ _, by repeat (first | (with_reducible first | exact HB.out | apply below_alloc | apply pw_below_drewN | apply below_drew1) | exact HB.out)⟩

end Go.Proofs.YtlaiginblmckoaaDoor.PK9
