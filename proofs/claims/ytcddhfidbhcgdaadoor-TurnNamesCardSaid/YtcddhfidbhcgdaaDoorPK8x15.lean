/- Written by wip/xprint.py (the kit's print over given functions). -/
import Derived.Test.YtcddhfidbhcgdaaDoorPK8x0
import Derived.Test.YtcddhfidbhcgdaaDoorPK8x14
namespace Go.Proofs.YtcddhfidbhcgdaaDoor.PK8
open Go.RowKit Go.Proofs.YtcddhfidbhcgdaaDoorW.PrintWords Go.Proofs.YtcddhfidbhcgdaaDoorW.PrintLast Go.Proofs.YtcddhfidbhcgdaaDoorW.PrintMore
attribute [local go_sem] max2_int min2_int max_two min_two max_three min_three max_four min_four   -- for this text's walks alone
set_option linter.unusedVariables false
set_option linter.unusedSimpArgs false

/-! ### turn_Parse: function 27 (given) -/
/-- what a text is read as, the error left aside -/
def turn_Parse.pv (l : List UInt8) : Int := match Lib.parseIntB 64 l with
  | .ok v => v
  | .range => Lib.intSat 64 l
  | _ => 0
def turn_Parse.tail (k : Nat) (s : ByteArray) (x y : Int) : Option (Int × Int × Int) :=
  (turn_Print.f k x y).bind fun r => if r.2 = 0 then (if r.1.toList = s.toList then some (x, y, 0) else some (0, 0, 180)) else some (0, 0, 180)
def turn_Parse.f (k : Nat) (s : ByteArray) : Option (Int × Int × Int) :=
  if s.size ≤ 1048576 then
    if 10 < (Lib.cut s.data.toList [47]).1.length ∨ 10 < (Lib.cut s.data.toList [47]).2.1.length then some (0, 0, 180)
    else turn_Parse.tail k s (turn_Parse.pv (Lib.cut s.data.toList [47]).1) (turn_Parse.pv (Lib.cut s.data.toList [47]).2.1)
  else none
theorem turn_Parse.pint (l : List UInt8) (w : World) (hL : LW w) (hs : l.length ≤ 1048576) :
    Calls Tryd.prog 48 #[.string ⟨l.toArray⟩, .int .i64 10, .int .i64 64] w fun e w' => (∃ x, e = .returned (.tuple #[.int .i64 (turn_Parse.pv l), x])) ∧ Below w.heap.size w w' := by
  have hz : (ByteArray.mk l.toArray).size = l.length := by simp [ByteArray.size]
  have hd : (ByteArray.mk l.toArray).data.toList = l := by simp
  unfold turn_Parse.pv
  by_cases ho : ∃ v, Lib.parseIntB 64 l = .ok v
  · obtain ⟨v, hv⟩ := ho
    rw [hv]
    refine (Tryd.strconv_ParseInt_10_at64_ok ⟨l.toArray⟩ (by omega) v (by rw [hd]; exact hv) w).mono ?_
    rintro e w' ⟨rfl, rfl | ⟨t, rfl⟩⟩
    · exact ⟨⟨_, rfl⟩, GB.bl0 _⟩
    · exact ⟨⟨_, rfl⟩, Lib.bytesWorld_below _ _ _⟩
  · by_cases hr : Lib.parseIntB 64 l = .range
    · rw [hr]
      obtain ⟨tp, p, hv⟩ := hL.rng
      refine (Tryd.strconv_ParseInt_10_at64_range ⟨l.toArray⟩ (by omega) (by rw [hd]; exact hr) _ w hv (.inr ⟨tp, p, rfl⟩)).mono ?_
      rintro e w' ⟨N, rfl, _, _, hb⟩
      exact ⟨⟨_, by rw [hd]⟩, hb⟩
    · obtain ⟨tp, p, hv⟩ := hL.syn
      have h0 : (match Lib.parseIntB 64 l with
        | .ok v => v
        | .range => Lib.intSat 64 l
        | _ => 0) = 0 := by
        cases h : Lib.parseIntB 64 l with
        | ok v => exact absurd (Exists.intro v h) ho
        | range => exact absurd h hr
        | _ => rfl
      rw [h0]
      refine (Tryd.strconv_ParseInt_10_at64_syn ⟨l.toArray⟩ (by omega) (by rw [hd]; exact fun v hv => ho ⟨v, hv⟩) (by rw [hd]; exact hr) _ w hv (.inr ⟨tp, p, rfl⟩)).mono ?_
      rintro e w' ⟨N, rfl, _, _, hb⟩
      exact ⟨⟨_, rfl⟩, hb⟩
theorem turn_Parse.cut_size (s : List UInt8) : (Lib.cut s [47]).1.length ≤ s.length := by
  unfold Lib.cut
  split <;> simp
  exact Nat.min_le_right _ _
theorem turn_Parse.cut_size2 (s : List UInt8) : (Lib.cut s [47]).2.1.length ≤ s.length := by
  unfold Lib.cut
  split <;> simp
set_option maxHeartbeats 2000000 in
set_option maxRecDepth 100000 in
theorem turn_Parse.early (s : ByteArray) (w : World) (hL : LW w) (hs : s.size ≤ 1048576) (a b : List UInt8) (ok : Bool) (hc : Lib.cut s.data.toList (ByteArray.mk #[47]).data.toList = (a, b, ok)) (h : 10 < a.length ∨ 10 < b.length) :
    Calls Tryd.prog 27 #[.string s] w fun e w' => e = .returned (.tuple #[.agg #[.int .i64 0, .int .i64 0], .int .i64 180]) ∧ Below w.heap.size w w' := by
  obtain ⟨mx, hm⟩ := (hL.below (GB.bla (GB.bl0 w) (.cells #[.int .i64 0, .int .i64 0] 23))).max
  have HC := Tryd.strings_Cut s ⟨#[47]⟩ mx (w.alloc (.cells #[.int .i64 0, .int .i64 0] 23)) (by omega) hm
  rw [hc] at HC
  have HC := GB.hid HC
  have K := GB.hid (GB.Blk.new w 23 [.int .i64 0, .int .i64 0])
  have hla : (ByteArray.mk a.toArray).size = a.length := by simp [ByteArray.size]
  have hlb : (ByteArray.mk b.toArray).size = b.length := by simp [ByteArray.size]
  clear hc hm
  go_enter Tryd.func27, Tryd.ntmps27
  go_wp2_with fail
  refine HC.out.mono ?_
  rintro e w1 ⟨rfl, nd, rfl⟩
  have K := GB.hid (K.out.drewN nd)
  have c0 := K.out.cell 0 rfl
  have c1 := K.out.cell 1 rfl
  have f0 := K.out.free 0
  have f1 := K.out.free 1
  by_cases ha : 10 < a.length
  · have d1 : decide ((10 : Int) < a.length) = true := decide_eq_true (by omega)
    have d2 : decide ((10 : Int) < (ByteArray.mk a.toArray).size) = true := decide_eq_true (by omega)
    clear h ha
    go_wp2
    refine bodyPost_ret (v := .tuple #[.agg #[.int .i64 0, .int .i64 0], .int .i64 180]) (by simp [results, Tryd.results27, go_sem, c0, c1]) rfl ⟨rfl, ?_⟩
    repeat (first | exact GB.bl0 _ | apply GB.bla | apply GB.bldN | refine GB.blset ?_ (by omega) _ _)
  · have hb' : 10 < b.length := by omega
    have d1 : decide ((10 : Int) < a.length) = false := decide_eq_false (by omega)
    have d2 : decide ((10 : Int) < (ByteArray.mk a.toArray).size) = false := decide_eq_false (by omega)
    have d3 : decide ((10 : Int) < b.length) = true := decide_eq_true (by omega)
    have d4 : decide ((10 : Int) < (ByteArray.mk b.toArray).size) = true := decide_eq_true (by omega)
    clear h ha hb'
    go_wp2
    refine bodyPost_ret (v := .tuple #[.agg #[.int .i64 0, .int .i64 0], .int .i64 180]) (by simp [results, Tryd.results27, go_sem, c0, c1]) rfl ⟨rfl, ?_⟩
    repeat (first | exact GB.bl0 _ | apply GB.bla | apply GB.bldN | refine GB.blset ?_ (by omega) _ _)
set_option maxHeartbeats 4000000 in
set_option maxRecDepth 100000 in
theorem turn_Parse.main (k : Nat) (s : ByteArray) (w : World) (r1 r2 r3 : Int) (hL : LW w) (hs : s.size ≤ 1048576) (a b : List UInt8) (ok : Bool) (hc : Lib.cut s.data.toList (ByteArray.mk #[47]).data.toList = (a, b, ok)) (ha : a.length ≤ 10) (hb : b.length ≤ 10)
    (x y : Int) (hx : turn_Parse.pv a = x) (hy : turn_Parse.pv b = y) (h : turn_Parse.tail k s x y = some (r1, r2, r3)) :
    Calls Tryd.prog 27 #[.string s] w fun e w' => e = .returned (.tuple #[.agg #[.int .i64 r1, .int .i64 r2], .int .i64 r3]) ∧ Below w.heap.size w w' := by
  obtain ⟨mx, hm⟩ := (hL.below (GB.bla (GB.bl0 w) (.cells #[.int .i64 0, .int .i64 0] 23))).max
  have HC := Tryd.strings_Cut s ⟨#[47]⟩ mx (w.alloc (.cells #[.int .i64 0, .int .i64 0] 23)) (by omega) hm
  rw [hc] at HC
  have HC := GB.hid HC
  have K := GB.hid (GB.Blk.new w 23 [.int .i64 0, .int .i64 0])
  have hla : (ByteArray.mk a.toArray).size = a.length := by simp [ByteArray.size]
  have hlb : (ByteArray.mk b.toArray).size = b.length := by simp [ByteArray.size]
  have HA := GB.hid (fun w hL => turn_Parse.pint a w hL (by omega))
  have HBI := GB.hid (fun w hL => turn_Parse.pint b w hL (by omega))
  rw [hx] at HA
  rw [hy] at HBI
  have HL := GB.hid hL
  obtain ⟨⟨tx, e1⟩, hX, hT⟩ := Option.bind_eq_some_iff.mp h
  have HX := GB.hid hX
  have HT := GB.hid hT
  have d1 : decide ((10 : Int) < a.length) = false := decide_eq_false (by omega)
  have d2 : decide ((10 : Int) < (ByteArray.mk a.toArray).size) = false := decide_eq_false (by omega)
  have d3 : decide ((10 : Int) < b.length) = false := decide_eq_false (by omega)
  have d4 : decide ((10 : Int) < (ByteArray.mk b.toArray).size) = false := decide_eq_false (by omega)
  clear hc hm hL hx hy h hX hT
  go_enter Tryd.func27, Tryd.ntmps27
  go_wp2_with fail
  refine HC.out.mono ?_
  rintro e w1 ⟨rfl, nd, rfl⟩
  have K := GB.hid (K.out.drewN nd)
  have HB := GB.hid (GB.bldN (GB.bla (GB.bl0 w) (.cells #[.int .i64 0, .int .i64 0] 23)) nd)
  go_wp2_with fail
  refine (HA.out _ (HL.out.below HB.out)).mono ?_
  rintro e w2 ⟨⟨x1, rfl⟩, hb2⟩
  have K := GB.hid (K.out.below hb2)
  have HB := GB.hid (GB.bls HB.out hb2)
  clear hb2
  go_wp2_with fail
  refine (HBI.out _ (HL.out.below HB.out)).mono ?_
  rintro e w3 ⟨⟨x2, rfl⟩, hb2⟩
  have K := GB.hid (K.out.below hb2)
  have HB := GB.hid (GB.bls HB.out hb2)
  clear hb2
  go_wp2_with fail
  refine (turn_Print.calls k x y tx e1 _ (HL.out.below (by repeat (first | exact HB.out | apply GB.bla | apply GB.bldN))) HX.out).mono ?_
  rintro e w4 ⟨rfl, hb2⟩
  have KT := GB.hid ((GB.Blk.new w3 23 [.int .i64 x, .int .i64 y]).below hb2)
  have K := GB.hid ((K.out.alloc (.cells #[.int .i64 x, .int .i64 y] 23)).below hb2)
  have HB := GB.hid (GB.bls (by repeat (first | exact HB.out | apply GB.bla | apply GB.bldN)) hb2 : Below w.heap.size w w4)
  clear hb2
  have c0 := K.out.cell 0 rfl
  have c1 := K.out.cell 1 rfl
  have f0 := K.out.free 0
  have f1 := K.out.free 1
  have t0 := KT.out.cell 0 rfl
  have t1 := KT.out.cell 1 rfl
  have hT := HT.out
  try simp only at hT
  by_cases he : e1 = 0
  · subst he
    rw [if_pos rfl] at hT
    by_cases hq : tx.toList = s.toList
    · rw [if_pos hq] at hT
      cases hT
      have q1 : (tx.toList != s.toList) = false := bne_eq_false_iff_eq.mpr hq
      have q2 : (tx.toList == s.toList) = true := beq_iff_eq.mpr hq
      clear hq
      go_wp2
      refine bodyPost_ret (v := .tuple #[.agg #[.int .i64 r1, .int .i64 r2], .int .i64 0]) (by simp [results, Tryd.results27, go_sem, c0, c1]) rfl ⟨rfl, ?_⟩
      repeat (first | exact HB.out | apply GB.bla | refine GB.blset ?_ (by omega) _ _)
    · rw [if_neg hq] at hT
      cases hT
      have q1 : (tx.toList != s.toList) = true := bne_iff_ne.mpr hq
      have q2 : (tx.toList == s.toList) = false := beq_eq_false_iff_ne.mpr hq
      clear hq
      go_wp2
      refine bodyPost_ret (v := .tuple #[.agg #[.int .i64 0, .int .i64 0], .int .i64 180]) (by simp [results, Tryd.results27, go_sem, c0, c1]) rfl ⟨rfl, ?_⟩
      repeat (first | exact HB.out | apply GB.bla | refine GB.blset ?_ (by omega) _ _)
  · rw [if_neg he] at hT
    cases hT
    have q1 : (e1 != 0) = true := bne_iff_ne.mpr he
    clear he
    go_wp2
    refine bodyPost_ret (v := .tuple #[.agg #[.int .i64 0, .int .i64 0], .int .i64 180]) (by simp [results, Tryd.results27, go_sem, c0, c1]) rfl ⟨rfl, ?_⟩
    repeat (first | exact HB.out | apply GB.bla | refine GB.blset ?_ (by omega) _ _)
theorem turn_Parse.mono : ∀ a0 k, LeO (turn_Parse.f k a0) (turn_Parse.f (k + 1) a0) := by
  intro a0 k
  unfold turn_Parse.f turn_Parse.tail
  refine LeO.ite (LeO.ite (LeO.refl _) ?_) (LeO.none _)
  refine LeO.bind (turn_Print.mono _ _ _) (fun _ => ?_)
  exact LeO.refl _
theorem turn_Parse.calls (k : Nat) (a0 : ByteArray) (r1 : Int) (r2 : Int) (r3 : Int) (w : World) (hL : LW w) (h : turn_Parse.f k a0 = some (r1, r2, r3)) :
    Calls Tryd.prog 27 #[.string a0] w fun e w' => e = .returned (.tuple #[.agg #[.int .i64 r1, .int .i64 r2], .int .i64 r3]) ∧ Below w.heap.size w w' := by
  unfold turn_Parse.f at h
  by_cases hs : a0.size ≤ 1048576
  · rw [if_pos hs] at h
    by_cases hc : 10 < (Lib.cut a0.data.toList [47]).1.length ∨ 10 < (Lib.cut a0.data.toList [47]).2.1.length
    · rw [if_pos hc] at h
      cases h
      exact turn_Parse.early a0 w hL hs _ _ (Lib.cut a0.data.toList [47]).2.2 rfl hc
    · rw [if_neg hc] at h
      exact turn_Parse.main k a0 w r1 r2 r3 hL hs (Lib.cut a0.data.toList [47]).1 (Lib.cut a0.data.toList [47]).2.1 (Lib.cut a0.data.toList [47]).2.2 rfl (by omega) (by omega) _ _ rfl rfl h
  · rw [if_neg hs] at h
    cases h


end Go.Proofs.YtcddhfidbhcgdaaDoor.PK8
