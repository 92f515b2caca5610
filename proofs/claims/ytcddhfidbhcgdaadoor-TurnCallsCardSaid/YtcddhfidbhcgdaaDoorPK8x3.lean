/- Written by wip/xprint.py (the kit's print over given functions). -/
import Derived.Test.YtcddhfidbhcgdaaDoorPK8x0
import Derived.Test.YtcddhfidbhcgdaaDoorPK8x1
namespace Go.Proofs.YtcddhfidbhcgdaaDoor.PK8
open Go.RowKit Go.Proofs.YtcddhfidbhcgdaaDoorW.PrintWords Go.Proofs.YtcddhfidbhcgdaaDoorW.PrintLast Go.Proofs.YtcddhfidbhcgdaaDoorW.PrintMore
attribute [local go_sem] max2_int min2_int max_two min_two max_three min_three max_four min_four   -- for this text's walks alone
set_option linter.unusedVariables false
set_option linter.unusedSimpArgs false

/-! ### turn_Root: function 18 (given) -/
section
theorem unary_negf (k : FloatKind) (n : Nat) : Op.unary .neg (.float k n) = pure (.float k (Op.negFloat k n)) := rfl
attribute [local go_sem] unary_negf
def turn_over.v (x : Nat) : Option Nat := if (FloatKind.f64.format.order x 0 == some .lt) = true then floatBits .quo .f64 13830554455654793216 (Op.negFloat .f64 x) else floatBits .quo .f64 4607182418800017408 x
theorem turn_over.calls (x r : Nat) (w : World) (h : turn_over.v x = some r) : Calls Tryd.prog 51 #[.float .f64 x] w fun e w' => e = .returned (.float .f64 r) ∧ w = w' := by
  unfold turn_over.v at h
  by_cases h0 : (FloatKind.f64.format.order x 0 == some .lt) = true
  · rw [if_pos h0] at h
    have H : ∀ w, (binOp BinOp.quo 56 (Value.float FloatKind.f64 13830554455654793216) (Value.float FloatKind.f64 (Op.negFloat .f64 x))).run Tryd.prog w = .ok (.float .f64 r) w := fun w => run_float_arith w _ _ _ _ _ _ h
    clear h
    go_enter Tryd.func51, Tryd.ntmps51
    go_wp2
    go_ret
    exact ⟨rfl, rfl⟩
  · have h0 : (FloatKind.f64.format.order x 0 == some .lt) = false := by simpa using h0
    rw [if_neg (by simp [h0])] at h
    have H : ∀ w, (binOp BinOp.quo 56 (Value.float FloatKind.f64 4607182418800017408) (Value.float FloatKind.f64 x)).run Tryd.prog w = .ok (.float .f64 r) w := fun w => run_float_arith w _ _ _ _ _ _ h
    clear h
    go_enter Tryd.func51, Tryd.ntmps51
    go_wp2
    go_ret
    exact ⟨rfl, rfl⟩
/-- from a place on: the rest of the series -/
def turn_series.go (q : Nat) : List Nat → Nat → Option Nat
  | [], h => some h
  | x :: t, h => (floatBits .mul .f64 h q).bind fun m => (turn_over.v x).bind fun o => (floatBits .add .f64 m o).bind fun s => turn_series.go q t s
def turn_series.v (l : List Nat) (q : Nat) : Option Nat := match l with
  | [] => none
  | a :: t => (turn_over.v a).bind fun h => turn_series.go q t h
theorem turn_series.go_at (q : Nat) (l : List Nat) (k h r : Nat) (hk : k < l.length) (H : turn_series.go q (l.drop k) h = some r) :
    ∃ m o s, floatBits .mul .f64 h q = some m ∧ turn_over.v (l.getD k 0) = some o ∧ floatBits .add .f64 m o = some s ∧ turn_series.go q (l.drop (k + 1)) s = some r := by
  rw [List.drop_eq_getElem_cons hk] at H
  unfold turn_series.go at H
  obtain ⟨m, hm, H⟩ := Option.bind_eq_some_iff.mp H
  obtain ⟨o, ho, H⟩ := Option.bind_eq_some_iff.mp H
  obtain ⟨s, hs, H⟩ := Option.bind_eq_some_iff.mp H
  refine ⟨m, o, s, hm, ?_, hs, H⟩
  rw [List.getD_eq_getElem?_getD, List.getElem?_eq_getElem hk]; exact ho
set_option maxHeartbeats 1000000 in
theorem turn_series.calls (l : List Nat) (q r b : Nat) (w : World) (hl : l.length ≤ 100) (hl2 : 2 ≤ l.length) (hc : ∀ i, i < l.length → w.cell? ⟨b, i, none⟩ = some (.float .f64 (l.getD i 0))) (h : turn_series.v l q = some r) :
    Calls Tryd.prog 39 #[.slice (some ⟨b, 0, none⟩) l.length l.length, .float .f64 q] w fun e w' => e = .returned (.float .f64 r) ∧ w = w' := by
  cases l with
  | nil => cases h
  | cons a t =>
    unfold turn_series.v at h
    obtain ⟨h0, ho, h⟩ := Option.bind_eq_some_iff.mp h
    have c0 : w.cell? ⟨b, 0, none⟩ = some (.float .f64 a) := hc 0 (by simp)
    have HC := GB.hid hc
    have HO := GB.hid ho
    have H := GB.hid h
    simp only [List.length_cons] at hl hl2 ⊢
    obtain ⟨n, hn⟩ : ∃ n, n = t.length := ⟨_, rfl⟩
    rw [← hn] at hl hl2 ⊢
    have n1 : 0 < n := by omega
    have n2 : (n = 0) = False := eq_false (by omega)
    have HN := GB.hid hn
    clear hc ho h hn
    go_enter Tryd.func39, Tryd.ntmps39
    go_wp2_with fail
    refine (turn_over.calls a h0 _ HO.out).mono ?_
    rintro e w' ⟨rfl, rfl⟩
    go_wp2
    go_loop [5, 15] (fun hv i => ∃ (k s : Nat), k ≤ n ∧ i = .int .i64 k ∧ hv = .float .f64 s ∧ Hid (turn_series.go q (t.drop k) s = some r)) (fun _ i => n - (intOf i).toNat)
    case atStart => exact ⟨0, h0, by omega, rfl, rfl, by simpa using H⟩
    case round =>
      obtain ⟨k, s, hk, rfl, rfl, HS⟩ := hrel
      by_cases hlt : k < n
      · obtain ⟨m, o, s', hm, ho, hs, hgo⟩ := turn_series.go_at q t k s r (by rw [← HN.out]; exact hlt) HS.out
        have c1 : w.cell? ⟨b, 1 + k, none⟩ = some (.float .f64 (t.getD k 0)) := by
          have := HC.out (k + 1) (by simp; rw [← HN.out]; omega)
          rw [Nat.add_comm 1 k, this]; simp
        have HM : ∀ w, (binOp BinOp.mul 56 (Value.float FloatKind.f64 s) (Value.float FloatKind.f64 q)).run Tryd.prog w = .ok (.float .f64 m) w := fun w => run_float_arith w _ _ _ _ _ _ hm
        have HA : ∀ w, (binOp BinOp.add 56 (Value.float FloatKind.f64 m) (Value.float FloatKind.f64 o)).run Tryd.prog w = .ok (.float .f64 s') w := fun w => run_float_arith w _ _ _ _ _ _ hs
        have HO2 := GB.hid ho
        have HG := GB.hid hgo
        clear hm ho hs hgo
        go_wp2_with fail
        refine (turn_over.calls _ o _ HO2.out).mono ?_
        rintro e w' ⟨rfl, rfl⟩
        go_wp2
        go_round
        case rel => exact ⟨k + 1, s', by omega, by go_num, rfl, HG⟩
        case measure => simp [intOf]; omega
      · have hk' : k = n := by omega
        subst hk'
        have HS' : turn_series.go q (t.drop k) s = some r := HS.out
        rw [HN.out, List.drop_length] at HS'
        have e1 : s = r := by simpa [turn_series.go] using HS'
        subst e1
        clear HS' HS
        go_wp2
        go_ret
        exact ⟨rfl, rfl⟩
theorem run_store_float {P : Program} {w : World} {m : Mode} (a : Addr) (k : FloatKind) (n : Nat) : (store a (.float k n) m).run P w = stored P w a (.float k n) m := run_store P w a _ m rfl
attribute [local go_sem] run_store_float
theorem fl_frombits (n : Nat) (w : World) : (callFunc 36 #[.int .u64 n]).run Tryd.prog w = .ok (.value (.float .f64 n)) w := by
  rw [run_callFunc_extern (fn := Tryd.f36) (by kernel_rfl) (by kernel_rfl) (by kernel_rfl) (by kernel_rfl) (e := Extern.MathFloatBits.float64frombits) (by kernel_rfl)]
  rfl
def turn_sines.l : List Nat := [14011551075333570560, 4753323511810883584, 13943998388916715520, 4689977843394805760, 13885635590159859712, 4638144666238189568, 13841813454723219456]
def turn_cosines.l : List Nat := [4806193436988276736, 13993893759104843776, 4736815922046566400, 13928419236864065536, 4675774352187195392, 13872916439649746944, 4627448617123184640, 13835058055282163712]
set_option maxHeartbeats 1000000 in
theorem turn_sines.calls (w : World) : Calls Tryd.prog 37 #[] w fun e w' => e = .returned (.agg #[.float .f64 14011551075333570560, .float .f64 4753323511810883584, .float .f64 13943998388916715520, .float .f64 4689977843394805760, .float .f64 13885635590159859712, .float .f64 4638144666238189568, .float .f64 13841813454723219456]) ∧ Below w.heap.size w w' := by
  have h43 := Tryd.underlying58
  go_enter Tryd.func37, Tryd.ntmps37
  go_wp2
  refine bodyPost_ret (v := .agg #[.float .f64 14011551075333570560, .float .f64 4753323511810883584, .float .f64 13943998388916715520, .float .f64 4689977843394805760, .float .f64 13885635590159859712, .float .f64 4638144666238189568, .float .f64 13841813454723219456]) (by simp [results, Tryd.results37, go_sem, h43]) rfl ⟨rfl, ?_⟩
  repeat (first | exact GB.bl0 _ | apply GB.bla | refine GB.blset ?_ (by omega) _ _)
set_option maxHeartbeats 1000000 in
theorem turn_cosines.calls (w : World) : Calls Tryd.prog 38 #[] w fun e w' => e = .returned (.agg #[.float .f64 4806193436988276736, .float .f64 13993893759104843776, .float .f64 4736815922046566400, .float .f64 13928419236864065536, .float .f64 4675774352187195392, .float .f64 13872916439649746944, .float .f64 4627448617123184640, .float .f64 13835058055282163712]) ∧ Below w.heap.size w w' := by
  have h45 := Tryd.underlying60
  go_enter Tryd.func38, Tryd.ntmps38
  go_wp2
  refine bodyPost_ret (v := .agg #[.float .f64 4806193436988276736, .float .f64 13993893759104843776, .float .f64 4736815922046566400, .float .f64 13928419236864065536, .float .f64 4675774352187195392, .float .f64 13872916439649746944, .float .f64 4627448617123184640, .float .f64 13835058055282163712]) (by simp [results, Tryd.results38, go_sem, h45]) rfl ⟨rfl, ?_⟩
  repeat (first | exact GB.bl0 _ | apply GB.bla | refine GB.blset ?_ (by omega) _ _)
def turn_plus.v (x : Nat) : Nat := if (FloatKind.f64.format.order x 0 == some .eq) = true then 0 else x
theorem turn_plus.calls (x : Nat) (w : World) : Calls Tryd.prog 52 #[.float .f64 x] w fun e w' => e = .returned (.float .f64 (turn_plus.v x)) ∧ w = w' := by
  unfold turn_plus.v
  by_cases h0 : (FloatKind.f64.format.order x 0 == some .eq) = true
  · rw [if_pos h0]
    go_enter Tryd.func52, Tryd.ntmps52
    go_wp2
    go_ret
    exact ⟨rfl, rfl⟩
  · rw [if_neg h0]
    have h1 : (FloatKind.f64.format.order x 0 == some .eq) = false := by simpa using h0
    clear h0
    go_enter Tryd.func52, Tryd.ntmps52
    go_wp2
    go_ret
    exact ⟨rfl, rfl⟩
def turn_placed.v (e : Int) (s c : Nat) : Nat × Nat :=
  if e = 1 then (s, c) else if e = 2 then (Op.negFloat .f64 s, c) else if e = 3 then (Op.negFloat .f64 c, s) else if e = 4 then (Op.negFloat .f64 c, Op.negFloat .f64 s)
  else if e = 5 then (Op.negFloat .f64 s, Op.negFloat .f64 c) else if e = 6 then (s, Op.negFloat .f64 c) else if e = 7 then (c, Op.negFloat .f64 s) else (c, s)
set_option maxHeartbeats 2000000 in
theorem turn_placed.calls (e : Int) (s c : Nat) (w : World) (h0 : 0 ≤ e) (h7 : e ≤ 7) : Calls Tryd.prog 40 #[.int .i64 e, .float .f64 s, .float .f64 c] w fun e' w' => e' = .returned (.complex .f64 (turn_plus.v (turn_placed.v e s c).1) (turn_plus.v (turn_placed.v e s c).2)) ∧ w = w' := by
  have he : e = 0 ∨ e = 1 ∨ e = 2 ∨ e = 3 ∨ e = 4 ∨ e = 5 ∨ e = 6 ∨ e = 7 := by omega
  rcases he with rfl | rfl | rfl | rfl | rfl | rfl | rfl | rfl
  all_goals
    clear h0 h7
    simp (config := {decide := true}) only [turn_placed.v, if_true, if_false]
    go_enter Tryd.func40, Tryd.ntmps40
    go_wp2_with fail
    refine (turn_plus.calls _ _).mono ?_
    rintro e' w' ⟨rfl, rfl⟩
    go_wp2_with fail
    refine (turn_plus.calls _ _).mono ?_
    rintro e' w' ⟨rfl, rfl⟩
    go_wp2
    go_ret
    exact ⟨rfl, rfl⟩
theorem fl_cells {w : World} {g t : Nat} {l : List Nat} (h : GB.Blk w g t (l.map (Value.float .f64))) : ∀ i, i < l.length → w.cell? ⟨g, i, none⟩ = some (.float .f64 (l.getD i 0)) := fun i hi =>
  h.cell i (by simp [List.getElem?_eq_getElem hi, List.getD_eq_getElem?_getD])
def turn_Root.fl (e a u : Int) : Option (Nat × Nat) :=
  (floatBits .quo .f64 (floatOfInt .f64 a) (floatOfInt .f64 u)).bind fun f =>
  (floatBits .mul .f64 f 4605249457297304856).bind fun y =>
  (floatBits .mul .f64 y y).bind fun q =>
  (floatBits .mul .f64 y q).bind fun yq =>
  (turn_series.v turn_sines.l q).bind fun S =>
  (floatBits .mul .f64 yq S).bind fun t =>
  (floatBits .add .f64 y t).bind fun s =>
  (turn_series.v turn_cosines.l q).bind fun C =>
  (floatBits .mul .f64 q C).bind fun m =>
  (floatBits .add .f64 4607182418800017408 m).bind fun c => some (turn_plus.v (turn_placed.v e s c).1, turn_plus.v (turn_placed.v e s c).2)
set_option maxHeartbeats 4000000 in
set_option maxRecDepth 100000 in
theorem turn_Root.fine (k : Nat) (p u e a a0 : Int) (x y : Nat) (w : World) (h0 : turn_Check.f k p u = some 0) (p0 : 0 ≤ p) (p1 : p < u) (u1 : u ≤ 4294967296)
    (he : 8 * p / u = e) (ha0 : 8 * p % u = a0) (ha : a = if e % 2 = 1 then u - a0 else a0) (h : turn_Root.fl e a u = some (x, y)) :
    Calls Tryd.prog 18 #[.agg #[.int .i64 p, .int .i64 u]] w fun e' w' => e' = .returned (.tuple #[.complex .f64 x y, .int .i64 0]) ∧ Below w.heap.size w w' := by
  have e0 : 0 ≤ e := by rw [← he]; exact Int.ediv_nonneg (by omega) (by omega)
  have e7 : e ≤ 7 := by
    rw [← he]
    have : 8 * p / u < 8 := Int.ediv_lt_of_lt_mul (by omega) (by omega)
    omega
  have a00 : 0 ≤ a0 := by rw [← ha0]; exact Int.emod_nonneg _ (by omega)
  have a01 : a0 < u := by rw [← ha0]; exact Int.emod_lt_of_pos _ (by omega)
  have h29 := Tryd.underlying56
  have h2 := Tryd.underlying2
  have h43 := Tryd.underlying58
  have h45 := Tryd.underlying60
  unfold turn_Root.fl at h
  obtain ⟨f, hf, h⟩ := Option.bind_eq_some_iff.mp h
  obtain ⟨y', hy, h⟩ := Option.bind_eq_some_iff.mp h
  obtain ⟨q, hq, h⟩ := Option.bind_eq_some_iff.mp h
  obtain ⟨yq, hyq, h⟩ := Option.bind_eq_some_iff.mp h
  obtain ⟨S, hS, h⟩ := Option.bind_eq_some_iff.mp h
  obtain ⟨t, ht, h⟩ := Option.bind_eq_some_iff.mp h
  obtain ⟨s, hs, h⟩ := Option.bind_eq_some_iff.mp h
  obtain ⟨C, hC, h⟩ := Option.bind_eq_some_iff.mp h
  obtain ⟨m, hm, h⟩ := Option.bind_eq_some_iff.mp h
  obtain ⟨c, hc, h⟩ := Option.bind_eq_some_iff.mp h
  injection h with h
  injection h with hx hy2
  have F1 : ∀ w, (binOp BinOp.quo 56 (Value.float FloatKind.f64 (floatOfInt .f64 a)) (Value.float FloatKind.f64 (floatOfInt .f64 u))).run Tryd.prog w = .ok (.float .f64 f) w := fun w => run_float_arith w _ _ _ _ _ _ hf
  have F2 : ∀ w, (binOp BinOp.mul 56 (Value.float FloatKind.f64 f) (Value.float FloatKind.f64 4605249457297304856)).run Tryd.prog w = .ok (.float .f64 y') w := fun w => run_float_arith w _ _ _ _ _ _ hy
  have F3 : ∀ w, (binOp BinOp.mul 56 (Value.float FloatKind.f64 y') (Value.float FloatKind.f64 y')).run Tryd.prog w = .ok (.float .f64 q) w := fun w => run_float_arith w _ _ _ _ _ _ hq
  have F4 : ∀ w, (binOp BinOp.mul 56 (Value.float FloatKind.f64 y') (Value.float FloatKind.f64 q)).run Tryd.prog w = .ok (.float .f64 yq) w := fun w => run_float_arith w _ _ _ _ _ _ hyq
  have F5 : ∀ w, (binOp BinOp.mul 56 (Value.float FloatKind.f64 yq) (Value.float FloatKind.f64 S)).run Tryd.prog w = .ok (.float .f64 t) w := fun w => run_float_arith w _ _ _ _ _ _ ht
  have F6 : ∀ w, (binOp BinOp.add 56 (Value.float FloatKind.f64 y') (Value.float FloatKind.f64 t)).run Tryd.prog w = .ok (.float .f64 s) w := fun w => run_float_arith w _ _ _ _ _ _ hs
  have F7 : ∀ w, (binOp BinOp.mul 56 (Value.float FloatKind.f64 q) (Value.float FloatKind.f64 C)).run Tryd.prog w = .ok (.float .f64 m) w := fun w => run_float_arith w _ _ _ _ _ _ hm
  have F8 : ∀ w, (binOp BinOp.add 56 (Value.float FloatKind.f64 4607182418800017408) (Value.float FloatKind.f64 m)).run Tryd.prog w = .ok (.float .f64 c) w := fun w => run_float_arith w _ _ _ _ _ _ hc
  have HS := GB.hid hS
  have HC := GB.hid hC
  have HE := GB.hid he
  have HA0 := GB.hid ha0
  have HA := GB.hid ha
  have HX := GB.hid hx
  have HY := GB.hid hy2
  have H0 := GB.hid h0
  clear h0 hf hy hq hyq hS ht hs hC hm hc he ha0 ha hx hy2
  have E1 : IntKind.i64.wrap (8 * p) = 8 * p := IntWalk.i64_in _ (by omega)
  have E2 : IntKind.i64.wrap (Int.tdiv (8 * p) u) = e := by rw [Int.tdiv_eq_ediv_of_nonneg (by omega), HE.out]; exact IntWalk.i64_in _ (by omega)
  have E3 : Int.tmod (8 * p) u = a0 := by rw [Int.tmod_eq_emod_of_nonneg (by omega), HA0.out]
  have hfb : ∀ w, (callFunc 36 #[.int .u64 4605249457297304856]).run Tryd.prog w = .ok (.value (.float .f64 4605249457297304856)) w := fun w => by have := fl_frombits 4605249457297304856 w; simpa using this
  go_enter Tryd.func18, Tryd.ntmps18
  go_wp2_with fail
  refine (turn_Check.calls k _ _ _ _ H0.out).mono ?_
  rintro e' w1 ⟨rfl, hB⟩
  have K := GB.hid ((GB.Blk.new w 23 [.int .i64 p, .int .i64 u]).below hB)
  have HB := GB.hid (GB.bls (by repeat (first | exact GB.bl0 _ | apply GB.bla)) hB : Below w.heap.size w w1)
  clear hB
  have c0 := K.out.cell 0 rfl
  have c1 := K.out.cell 1 rfl
  go_wp2
  go_quiet (fail)
  by_cases h2e : e % 2 = 1
  · have b1 : (e % 2 == 1) = true := beq_iff_eq.2 h2e
    have HA' := HA.out
    rw [if_pos h2e] at HA'
    clear h2e
    have E4 : IntKind.i64.wrap (u - a0) = a := by rw [← HA']; exact IntWalk.i64_in _ (by omega)
    have a2 : 0 ≤ a := by omega
    have HA2 := GB.hid HA'
    clear HA'
    go_wp2_with fail
    refine (turn_sines.calls _).mono ?_
    rintro e' w2 ⟨rfl, hB⟩
    have HB := GB.hid (GB.bls (GB.bldN HB.out _) hB : Below w.heap.size w w2)
    clear hB
    go_wp2_with fail
    refine (turn_cosines.calls _).mono ?_
    rintro e' w3 ⟨rfl, hB⟩
    have HB := GB.hid (GB.bls HB.out hB : Below w.heap.size w w3)
    clear hB
    go_wp2_with fail
    have hs1 : ∀ i, i < turn_sines.l.length → ((w3.alloc (.cells (turn_sines.l.map (Value.float .f64)).toArray 58)).alloc (.cells (turn_cosines.l.map (Value.float .f64)).toArray 60)).cell? ⟨w3.heap.size, i, none⟩ = some (.float .f64 (turn_sines.l.getD i 0)) := fl_cells ((GB.Blk.new w3 58 (turn_sines.l.map (Value.float .f64))).alloc _)
    have hs2 : ∀ i, i < turn_cosines.l.length → ((w3.alloc (.cells (turn_sines.l.map (Value.float .f64)).toArray 58)).alloc (.cells (turn_cosines.l.map (Value.float .f64)).toArray 60)).cell? ⟨w3.heap.size + 1, i, none⟩ = some (.float .f64 (turn_cosines.l.getD i 0)) := by
      have := fl_cells (GB.Blk.new (w3.alloc (.cells (turn_sines.l.map (Value.float .f64)).toArray 58)) 60 (turn_cosines.l.map (Value.float .f64)))
      rw [World.size_alloc] at this
      exact this
    have HS1 := GB.hid hs1
    have HS2 := GB.hid hs2
    clear hs1 hs2
    refine (turn_series.calls turn_sines.l q S w3.heap.size _ (by decide) (by decide) HS1.out HS.out).mono ?_
    rintro e' w4 ⟨rfl, rfl⟩
    go_wp2_with fail
    refine (turn_series.calls turn_cosines.l q C (w3.heap.size + 1) _ (by decide) (by decide) HS2.out HC.out).mono ?_
    rintro e' w4 ⟨rfl, rfl⟩
    go_wp2_with fail
    refine (turn_placed.calls e s c _ e0 e7).mono ?_
    rintro e' w4 ⟨rfl, rfl⟩
    go_wp2
    go_ret2
    exact ⟨by rw [HX.out, HY.out]; rfl, by repeat (first | exact HB.out | apply GB.bla)⟩
  · have b1 : (e % 2 == 1) = false := beq_eq_false_iff_ne.2 h2e
    have HA' := HA.out
    rw [if_neg h2e] at HA'
    clear h2e
    clear HA
    subst HA'
    go_wp2_with fail
    refine (turn_sines.calls _).mono ?_
    rintro e' w2 ⟨rfl, hB⟩
    have HB := GB.hid (GB.bls (GB.bldN HB.out _) hB : Below w.heap.size w w2)
    clear hB
    go_wp2_with fail
    refine (turn_cosines.calls _).mono ?_
    rintro e' w3 ⟨rfl, hB⟩
    have HB := GB.hid (GB.bls HB.out hB : Below w.heap.size w w3)
    clear hB
    go_wp2_with fail
    have hs1 : ∀ i, i < turn_sines.l.length → ((w3.alloc (.cells (turn_sines.l.map (Value.float .f64)).toArray 58)).alloc (.cells (turn_cosines.l.map (Value.float .f64)).toArray 60)).cell? ⟨w3.heap.size, i, none⟩ = some (.float .f64 (turn_sines.l.getD i 0)) := fl_cells ((GB.Blk.new w3 58 (turn_sines.l.map (Value.float .f64))).alloc _)
    have hs2 : ∀ i, i < turn_cosines.l.length → ((w3.alloc (.cells (turn_sines.l.map (Value.float .f64)).toArray 58)).alloc (.cells (turn_cosines.l.map (Value.float .f64)).toArray 60)).cell? ⟨w3.heap.size + 1, i, none⟩ = some (.float .f64 (turn_cosines.l.getD i 0)) := by
      have := fl_cells (GB.Blk.new (w3.alloc (.cells (turn_sines.l.map (Value.float .f64)).toArray 58)) 60 (turn_cosines.l.map (Value.float .f64)))
      rw [World.size_alloc] at this
      exact this
    have HS1 := GB.hid hs1
    have HS2 := GB.hid hs2
    clear hs1 hs2
    refine (turn_series.calls turn_sines.l q S w3.heap.size _ (by decide) (by decide) HS1.out HS.out).mono ?_
    rintro e' w4 ⟨rfl, rfl⟩
    go_wp2_with fail
    refine (turn_series.calls turn_cosines.l q C (w3.heap.size + 1) _ (by decide) (by decide) HS2.out HC.out).mono ?_
    rintro e' w4 ⟨rfl, rfl⟩
    go_wp2_with fail
    refine (turn_placed.calls e s c _ e0 e7).mono ?_
    rintro e' w4 ⟨rfl, rfl⟩
    go_wp2
    go_ret2
    exact ⟨by rw [HX.out, HY.out]; rfl, by repeat (first | exact HB.out | apply GB.bla)⟩
set_option maxHeartbeats 1000000 in
theorem turn_Root.err (k : Nat) (p u e : Int) (w : World) (h0 : turn_Check.f k p u = some e) (he : e ≠ 0) :
    Calls Tryd.prog 18 #[.agg #[.int .i64 p, .int .i64 u]] w fun e' w' => e' = .returned (.tuple #[.complex .f64 0 0, .int .i64 e]) ∧ Below w.heap.size w w' := by
  have H0 := GB.hid h0
  have hb : (e != 0) = true := bne_iff_ne.2 he
  clear h0
  go_enter Tryd.func18, Tryd.ntmps18
  go_wp2_with fail
  refine (turn_Check.calls k _ _ _ _ H0.out).mono ?_
  rintro e' w1 ⟨rfl, hB⟩
  have HB := GB.hid (GB.bls (by repeat (first | exact GB.bl0 _ | apply GB.bla)) hB : Below w.heap.size w w1)
  clear hB
  go_wp2
  go_ret2
  exact ⟨rfl, by repeat (first | exact HB.out | apply GB.bla)⟩
end


/-! ### strconv_FormatInt: function 44 (given) -/
def strconv_FormatInt.f (a0 : Int) (a1 : Int) : Option ByteArray := if -9223372036854775808 ≤ a0 ∧ a0 ≤ 9223372036854775807 ∧ a1 = 10 then some ⟨(Lib.itoa a0).toArray⟩ else none
theorem itoa_sz {a b : Int} {r : ByteArray} (h : strconv_FormatInt.f a b = some r) : r.size ≤ 21 := by
  unfold strconv_FormatInt.f at h
  split at h
  · rename_i hc
    cases h
    have := Lib.itoa_length_le a hc.1 hc.2.1
    simpa [ByteArray.size] using this
  · cases h
theorem strconv_FormatInt.calls (a0 : Int) (a1 : Int) (r : ByteArray) (w : World) (hL : LW w) (h : strconv_FormatInt.f a0 a1 = some r) :
    Calls Tryd.prog 44 #[.int .i64 a0, .int .i64 a1] w fun e w' => e = .returned (.string r) ∧ Below w.heap.size w w' := by
  unfold strconv_FormatInt.f at h
  split at h
  · rename_i hc
    obtain ⟨h0, h1, rfl⟩ := hc
    cases h
    refine (Tryd.strconv_FormatInt_10 a0 h0 h1 w hL.tab).mono ?_
    rintro e w' ⟨rfl, k, os, rfl⟩
    exact ⟨rfl, below_grow_ w k os⟩
  · cases h


/-! ### turn_Print: function 20 -/
def turn_Print.f (k : Nat) (a0_0 : Int) (a0_1 : Int) : Option (ByteArray × Int) := (turn_Check.f k a0_0 a0_1).bind fun t128 => (if t128 = 0 then ((strconv_FormatInt.f a0_0 10).bind fun t129 => (if t129.size + 1 ≤ 9223372036854775807 then ((strconv_FormatInt.f a0_1 10).bind fun t130 => (if (t129 ++ (⟨#[47]⟩ : ByteArray)).size + t130.size ≤ 9223372036854775807 then (some ((t129 ++ (⟨#[47]⟩ : ByteArray)) ++ t130, 0)) else (none))) else (none))) else (some ((⟨#[]⟩ : ByteArray), t128)))
theorem turn_Print.mono : ∀ a0 a1 k, LeO (turn_Print.f k a0 a1) (turn_Print.f (k + 1) a0 a1) := by
  intro a0 a1 k
  unfold turn_Print.f
  repeat' first
      | (with_reducible exact turn_Check.mono _ _ _)
      | (with_reducible exact LeO.refl _)
      | (with_reducible exact LeO.none _)
      | (with_reducible refine LeO.ite ?_ ?_)
      | (with_reducible refine LeO.bind ?_ (fun _ => ?_))
      | exact turn_Check.mono _ _ _
      | exact LeO.none _
      | refine LeO.ite ?_ ?_
      | refine LeO.bind ?_ (fun _ => ?_)
def turn_Print.T4 : Bool × List (List Nat × List Nat) := (true, [([], []), ([0], [0]), ([1], [1]), ([2], [2]), ([], []), ([4], [4]), ([5, 2], [5]), ([3, 6], [3, 6]), ([7, 6, 0, 1, 2, 3, 4, 5, 6, 7], [7]), ([8, 0, 1, 2, 3, 4, 5, 6, 7, 8], [])])
def turn_Print.B4 : List Nat := [0, 1, 3, 7, 0, 16, 55, 127, 255, 511]
theorem turn_Print.tab4 : rtab .any (opsOf Tryd.f20 4) = turn_Print.T4 := by kernel_rfl
theorem turn_Print.bits4 : waitsOk turn_Print.T4.2 turn_Print.B4 = true := by kernel_rfl
set_option maxHeartbeats 8000000 in
set_option maxRecDepth 100000 in
theorem turn_Print.calls (k : Nat) (a0_0 : Int) (a0_1 : Int) (r1 : ByteArray) (r2 : Int) (w : World) (hL : LW w) (h : turn_Print.f k a0_0 a0_1 = some (r1, r2)) :
    Calls Tryd.prog 20 #[.agg #[.int .i64 a0_0, .int .i64 a0_1]] w fun e w' => e = .returned (.tuple #[.string r1, .int .i64 r2]) ∧ Below w.heap.size w w' := by
  have hu23 := Tryd.underlying23
  have HB := Aside0.mk (Below.refl w.heap.size w)
  have H : ((turn_Check.f k a0_0 a0_1).bind fun t128 => (if t128 = 0 then ((strconv_FormatInt.f a0_0 10).bind fun t129 => (if t129.size + 1 ≤ 9223372036854775807 then ((strconv_FormatInt.f a0_1 10).bind fun t130 => (if (t129 ++ (⟨#[47]⟩ : ByteArray)).size + t130.size ≤ 9223372036854775807 then (some ((t129 ++ (⟨#[47]⟩ : ByteArray)) ++ t130, 0)) else (none))) else (none))) else (some ((⟨#[]⟩ : ByteArray), t128)))) = some (r1, r2) := h
  clear h
  replace H := Option.bind_eq_some_iff.mp H
  obtain ⟨t128, A20, H⟩ := H
  replace H : (if t128 = 0 then ((strconv_FormatInt.f a0_0 10).bind fun t129 => (if t129.size + 1 ≤ 9223372036854775807 then ((strconv_FormatInt.f a0_1 10).bind fun t130 => (if (t129 ++ (⟨#[47]⟩ : ByteArray)).size + t130.size ≤ 9223372036854775807 then (some ((t129 ++ (⟨#[47]⟩ : ByteArray)) ++ t130, 0)) else (none))) else (none))) else (some ((⟨#[]⟩ : ByteArray), t128))) = some (r1, r2) := H
  have A2 := Aside0.mk A20
  clear A20
  by_cases c3 : t128 = 0
  · rw [if_pos c3] at H
    have c3b0 : (t128 == 0) = true := beq_iff_eq.mpr c3
    have c3b1 : (t128 != 0) = false := bne_eq_false_iff_eq.mpr c3
    clear c3
    replace H := Option.bind_eq_some_iff.mp H
    obtain ⟨t129, A40, H⟩ := H
    replace H : (if t129.size + 1 ≤ 9223372036854775807 then ((strconv_FormatInt.f a0_1 10).bind fun t130 => (if (t129 ++ (⟨#[47]⟩ : ByteArray)).size + t130.size ≤ 9223372036854775807 then (some ((t129 ++ (⟨#[47]⟩ : ByteArray)) ++ t130, 0)) else (none))) else (none)) = some (r1, r2) := H
    have A4 := Aside0.mk A40
    clear A40
    by_cases c5 : t129.size + 1 ≤ 9223372036854775807
    · rw [if_pos c5] at H
      have c5b0 := eq_true c5
      have c5b1 : decide (t129.size + 1 ≤ 9223372036854775807) = true := decide_eq_true c5
      try have c5b2 : (9223372036854775807 < t129.size + 1) = False := eq_false (Nat.not_lt.2 c5)
      replace H := Option.bind_eq_some_iff.mp H
      obtain ⟨t130, A60, H⟩ := H
      replace H : (if (t129 ++ (⟨#[47]⟩ : ByteArray)).size + t130.size ≤ 9223372036854775807 then (some ((t129 ++ (⟨#[47]⟩ : ByteArray)) ++ t130, 0)) else (none)) = some (r1, r2) := H
      have A6 := Aside0.mk A60
      clear A60
      by_cases c7 : (t129 ++ (⟨#[47]⟩ : ByteArray)).size + t130.size ≤ 9223372036854775807
      · rw [if_pos c7] at H
        have c7b0 := eq_true c7
        have c7b1 : decide ((t129 ++ (⟨#[47]⟩ : ByteArray)).size + t130.size ≤ 9223372036854775807) = true := decide_eq_true c7
        try have c7b2 : (9223372036854775807 < (t129 ++ (⟨#[47]⟩ : ByteArray)).size + t130.size) = False := eq_false (Nat.not_lt.2 c7)
        simp only [Option.some.injEq, Prod.mk.injEq] at H
        obtain ⟨rfl, rfl⟩ := H
        go_enter Tryd.func20, Tryd.ntmps20
        try go_wp2_with (first | ((with_reducible refine gate_dst (N := 1) rfl ?_); refine box_event ?hg (N := 1) ?hd (cs := #[.int .i64 a0_0, .int .i64 a0_1]) (t := 23) ?hr ?_; (case hd => rfl); (case hg => rfl); (case hr => first | (go_simp; done) | (go_simp; rfl)); intro gb127 hg w8 hbox hb; have n0_ := Aside0.mk (below_step (by repeat (first | (with_reducible first | exact HB.out | apply below_alloc | apply pw_below_drewN | apply below_drew1) | exact HB.out)) hb); have n1_ := Aside0.mk (hbox); have n2_ := Aside0.mk ((by rw [hg]; exact (below_size (by repeat (first | (with_reducible first | exact HB.out | apply below_alloc | apply pw_below_drewN | apply below_drew1) | exact HB.out))) : w.heap.size ≤ gb127)); have n3_ := Aside0.mk ((by rw [hg]; exact (below_size (by repeat (first | (with_reducible first | exact HB.out | apply below_alloc | apply pw_below_drewN | apply below_drew1) | exact HB.out))) : w.heap.size ≤ gb127)); clear HB; have HB := n0_; have BK127 := n1_; have GW127 := n2_; have GE127 := n3_; clear n0_ n1_ n2_ n3_; clear hb hbox hg; have hcz9_0 : w8.cell? ⟨gb127, 0, none⟩ = some (.int .i64 a0_0) := (blk_cell BK127.out 0).trans rfl; have hcz9_1 : w8.cell? ⟨gb127, 1, none⟩ = some (.int .i64 a0_1) := (blk_cell BK127.out 1).trans rfl; have hfz9_0 := blk_frozen BK127.out 0; have hfz9_1 := blk_frozen BK127.out 1) | ((with_reducible refine gate_callee (f := 23) rfl ?_); refine goesL_ (some 6) rfl rfl Tryd.func23 (by kernel_rfl) rfl #[.agg #[.int .i64 a0_0, .int .i64 a0_1]] rfl (by (try simp only [List.map_toArray, List.map_cons, List.map_nil]); first | done | rfl | (simp only [List.length_drop, List.length_take]; rfl)) ?_; (with_reducible refine (turn_Check.calls k a0_0 a0_1 t128 _ A2.out).mono ?_); rintro e w10 ⟨rfl, hb⟩; refine ⟨_, rfl, ?_⟩; have n0_ := Aside0.mk (blk_below (g := gb127) (o := .cells #[.int .i64 a0_0, .int .i64 a0_1] 23 (0, 0)) (by (with_reducible repeat (first | refine blk_drewN ?_ _ | refine blk_drew ?_ | refine blk_alloc ?_ _)); exact BK127.out) hb); have n1_ := Aside0.mk (below_step (by repeat (first | (with_reducible first | exact HB.out | apply below_alloc | apply pw_below_drewN | apply below_drew1 | refine below_set ?_ GE127.out) | exact HB.out)) hb); clear BK127; clear HB; have BK127 := n0_; have HB := n1_; clear n0_ n1_; (try clear hb); (try clear hb2); (try clear hk); (try clear hi)))
        have n0_ := Aside0.mk (blk_drew BK127.out)
        have n1_ := Aside0.mk (below_drew1 HB.out)
        clear BK127
        clear HB
        have BK127 := n0_
        have HB := n1_
        clear n0_ n1_
        have zA4_ := itoa_sz A4.out
        have zA6_ := itoa_sz A6.out
        have P0_ : (9223372036854775807 < t129.size + 1) = False := eq_false (by omega)
        have P1_ : (9223372036854775807 < t129.size + 1 + t130.size) = False := eq_false (by omega)
        clear zA4_ zA6_
        refine start_ (n := 10) (S := fun w' => w'.cell? ⟨gb127, 0, none⟩ = some (.int .i64 a0_0) ∧ w'.cell? ⟨gb127, 1, none⟩ = some (.int .i64 a0_1)) (ds := []) #[false, false, false, false, false, false, false, false, false, false] (by kernel_rfl) rfl rfl ⟨(blk_cell BK127.out 0).trans rfl, (blk_cell BK127.out 1).trans rfl⟩ (fun hHeld => ?_); refine with_tabW turn_Print.tab4 turn_Print.bits4 (fun HT_ HW_ => ?_)
        generalize w10.drew = w11 at BK127 HB hHeld ⊢
        refine pure_ (i := 0) (N := some 10) (v := ?_) (a' := ?_) #[true, false, false, false, false, false, false, false, false, false] rfl rfl (any_of HT_.out (by kernel_rfl)) (fun _ _ _ h => h) (Or.inl ⟨by rfl, ?_⟩) ?_ ?_
        rotate_left
        · intro w'
          go_simp
          with_reducible rfl
        rotate_left
        · simp only [Act.put, List.setIfInBounds_toArray, List.set_cons_zero, List.set_cons_succ, i64_w, i32_w]
          rfl
        refine pure_ (i := 4) (N := some 14) (v := ?_) (a' := ?_) #[true, false, false, false, true, false, false, false, false, false] rfl rfl (any_of HT_.out (by kernel_rfl)) (fun _ _ _ h => h) (Or.inl ⟨by rfl, ?_⟩) ?_ ?_
        rotate_left
        · intro w'
          go_simp
          with_reducible rfl
        rotate_left
        · simp only [Act.put, List.setIfInBounds_toArray, List.set_cons_zero, List.set_cons_succ, i64_w, i32_w]
          rfl
        refine take_ (i := 1) (N := some 11) (v := ?_) (a' := ?_) #[true, true, false, false, true, false, false, false, false, false] rfl rfl (take_ofW HT_.out HW_.out (by kernel_rfl)) (fun _ _ _ h => h) (Or.inl ⟨by rfl, ?_⟩) hHeld ?_ ?_
        rotate_left
        · rintro w' ⟨s0, s1⟩
          go_simp
          with_reducible rfl
        rotate_left
        · simp only [Act.put, List.setIfInBounds_toArray, List.set_cons_zero, List.set_cons_succ, i64_w, i32_w]
          rfl
        refine take_ (i := 5) (N := some 15) (v := ?_) (a' := ?_) #[true, true, false, false, true, true, false, false, false, false] rfl rfl (take_ofW HT_.out HW_.out (by kernel_rfl)) (fun _ _ _ h => h) (Or.inl ⟨by rfl, ?_⟩) hHeld ?_ ?_
        rotate_left
        · rintro w' ⟨s0, s1⟩
          go_simp
          with_reducible rfl
        rotate_left
        · simp only [Act.put, List.setIfInBounds_toArray, List.set_cons_zero, List.set_cons_succ, i64_w, i32_w]
          rfl
        refine one_ (i := 2) (N := some 12) #[true, true, true, false, true, true, false, false, false, false] rfl rfl (one_of HT_.out (by kernel_rfl)) (by decide) (fun K hK => ?_)
        refine goes_ Tryd.func44 (by kernel_rfl) rfl #[.int .i64 a0_0, .int .i64 10] (by rfl) rfl rfl (by (try simp only [List.map_toArray, List.map_cons, List.map_nil]); first | done | rfl | (simp only [List.length_drop, List.length_take]; rfl)) ?_
        with_reducible refine (strconv_FormatInt.calls a0_0 10 t129 _ (hL.below (by repeat (first | (with_reducible first | exact HB.out | apply below_alloc | apply pw_below_drewN | apply below_drew1 | refine below_set ?_ GE127.out) | exact HB.out))) A4.out).mono ?_
        rintro e w12 ⟨rfl, hb⟩
        refine ⟨_, rfl, ?_⟩
        have n0_ := Aside0.mk (blk_below (g := gb127) (o := .cells #[.int .i64 a0_0, .int .i64 a0_1] 23 (0, 0)) (by (with_reducible repeat (first | refine blk_drewN ?_ _ | refine blk_drew ?_ | refine blk_alloc ?_ _)); exact BK127.out) hb)
        have n1_ := Aside0.mk (below_step (by repeat (first | (with_reducible first | exact HB.out | apply below_alloc | apply pw_below_drewN | apply below_drew1 | refine below_set ?_ GE127.out) | exact HB.out)) hb)
        clear BK127
        clear HB
        have BK127 := n0_
        have HB := n1_
        clear n0_ n1_
        (try clear hb)
        (try clear hb2)
        (try clear hk)
        (try clear hi)
        refine hK.out _ _ ⟨(blk_cell BK127.out 0).trans rfl, (blk_cell BK127.out 1).trans rfl⟩ (fun hHeld => ?_)
        clear hK K
        refine norm_ (a' := ?_) ?_ ?_
        rotate_left
        · show Act.put _ (some 12) _ = _
          simp only [Act.put, List.setIfInBounds_toArray, List.set_cons_zero, List.set_cons_succ, i64_w, i32_w]
          rfl
        refine pure_ (i := 3) (N := some 13) (v := ?_) (a' := ?_) #[true, true, true, true, true, true, false, false, false, false] rfl rfl (any_of HT_.out (by kernel_rfl)) (fun _ _ _ h => h) (Or.inl ⟨by rfl, ?_⟩) ?_ ?_
        rotate_left
        · intro w'
          go_simp
          with_reducible rfl
        rotate_left
        · simp only [Act.put, List.setIfInBounds_toArray, List.set_cons_zero, List.set_cons_succ, i64_w, i32_w]
          rfl
        refine one_ (i := 6) (N := some 16) #[true, true, true, true, true, true, true, false, false, false] rfl rfl (one_of HT_.out (by kernel_rfl)) (by decide) (fun K hK => ?_)
        refine goes_ Tryd.func44 (by kernel_rfl) rfl #[.int .i64 a0_1, .int .i64 10] (by rfl) rfl rfl (by (try simp only [List.map_toArray, List.map_cons, List.map_nil]); first | done | rfl | (simp only [List.length_drop, List.length_take]; rfl)) ?_
        with_reducible refine (strconv_FormatInt.calls a0_1 10 t130 _ (hL.below (by repeat (first | (with_reducible first | exact HB.out | apply below_alloc | apply pw_below_drewN | apply below_drew1 | refine below_set ?_ GE127.out) | exact HB.out))) A6.out).mono ?_
        rintro e w13 ⟨rfl, hb⟩
        refine ⟨_, rfl, ?_⟩
        have n0_ := Aside0.mk (blk_below (g := gb127) (o := .cells #[.int .i64 a0_0, .int .i64 a0_1] 23 (0, 0)) (by (with_reducible repeat (first | refine blk_drewN ?_ _ | refine blk_drew ?_ | refine blk_alloc ?_ _)); exact BK127.out) hb)
        have n1_ := Aside0.mk (below_step (by repeat (first | (with_reducible first | exact HB.out | apply below_alloc | apply pw_below_drewN | apply below_drew1 | refine below_set ?_ GE127.out) | exact HB.out)) hb)
        clear BK127
        clear HB
        have BK127 := n0_
        have HB := n1_
        clear n0_ n1_
        (try clear hb)
        (try clear hb2)
        (try clear hk)
        (try clear hi)
        refine hK.out _ _ ⟨(blk_cell BK127.out 0).trans rfl, (blk_cell BK127.out 1).trans rfl⟩ (fun hHeld => ?_)
        clear hK K
        refine norm_ (a' := ?_) ?_ ?_
        rotate_left
        · show Act.put _ (some 16) _ = _
          simp only [Act.put, List.setIfInBounds_toArray, List.set_cons_zero, List.set_cons_succ, i64_w, i32_w]
          rfl
        refine pure_ (i := 7) (N := some 17) (v := ?_) (a' := ?_) #[true, true, true, true, true, true, true, true, false, false] rfl rfl (any_of HT_.out (by kernel_rfl)) (fun _ _ _ h => h) (Or.inl ⟨by rfl, ?_⟩) ?_ ?_
        rotate_left
        · intro w'
          go_simp
          with_reducible rfl
        rotate_left
        · simp only [Act.put, List.setIfInBounds_toArray, List.set_cons_zero, List.set_cons_succ, i64_w, i32_w]
          rfl
        refine pure_ (i := 8) (N := some 2) (v := ?_) (a' := ?_) #[true, true, true, true, true, true, true, true, true, false] rfl rfl (any_of HT_.out (by kernel_rfl)) (fun _ _ _ h => h) (Or.inl ⟨by rfl, ?_⟩) ?_ ?_
        rotate_left
        · intro w'
          go_simp
          with_reducible rfl
        rotate_left
        · simp only [Act.put, List.setIfInBounds_toArray, List.set_cons_zero, List.set_cons_succ, i64_w, i32_w]
          rfl
        refine pure_ (i := 9) (N := some 3) (v := ?_) (a' := ?_) #[true, true, true, true, true, true, true, true, true, true] rfl rfl (any_of HT_.out (by kernel_rfl)) (fun _ _ _ h => h) (Or.inl ⟨by rfl, ?_⟩) ?_ ?_
        rotate_left
        · intro w'
          go_simp
          with_reducible rfl
        rotate_left
        · simp only [Act.put, List.setIfInBounds_toArray, List.set_cons_zero, List.set_cons_succ, i64_w, i32_w]
          rfl
        refine done_ (done_of HT_.out (by kernel_rfl)) ?_
        try go_wp2
        go_ret2
        exact ⟨by first | rfl | (simp [errW_none, errW_some] <;> rfl) | (simp [*, errW_none, errW_some] <;> rfl), by repeat (first | (with_reducible first | exact HB.out | apply below_alloc | apply pw_below_drewN | apply below_drew1 | refine below_set ?_ GE127.out) | exact HB.out)⟩
      · rw [if_neg c7] at H
        exact absurd H (by simp)
    · rw [if_neg c5] at H
      exact absurd H (by simp)
  · rw [if_neg c3] at H
    have c3b0 : (t128 == 0) = false := beq_eq_false_iff_ne.mpr c3
    have c3b1 : (t128 != 0) = true := bne_iff_ne.mpr c3
    simp only [Option.some.injEq, Prod.mk.injEq] at H
    obtain ⟨rfl, rfl⟩ := H
    go_enter Tryd.func20, Tryd.ntmps20
    go_wp2_with (first | ((with_reducible refine gate_dst (N := 1) rfl ?_); refine box_event ?hg (N := 1) ?hd (cs := #[.int .i64 a0_0, .int .i64 a0_1]) (t := 23) ?hr ?_; (case hd => rfl); (case hg => rfl); (case hr => first | (go_simp; done) | (go_simp; rfl)); intro gb127 hg w14 hbox hb; have n0_ := Aside0.mk (below_step (by repeat (first | (with_reducible first | exact HB.out | apply below_alloc | apply pw_below_drewN | apply below_drew1) | exact HB.out)) hb); have n1_ := Aside0.mk (hbox); have n2_ := Aside0.mk ((by rw [hg]; exact (below_size (by repeat (first | (with_reducible first | exact HB.out | apply below_alloc | apply pw_below_drewN | apply below_drew1) | exact HB.out))) : w.heap.size ≤ gb127)); have n3_ := Aside0.mk ((by rw [hg]; exact (below_size (by repeat (first | (with_reducible first | exact HB.out | apply below_alloc | apply pw_below_drewN | apply below_drew1) | exact HB.out))) : w.heap.size ≤ gb127)); clear HB; have HB := n0_; have BK127 := n1_; have GW127 := n2_; have GE127 := n3_; clear n0_ n1_ n2_ n3_; clear hb hbox hg; have hcz15_0 : w14.cell? ⟨gb127, 0, none⟩ = some (.int .i64 a0_0) := (blk_cell BK127.out 0).trans rfl; have hcz15_1 : w14.cell? ⟨gb127, 1, none⟩ = some (.int .i64 a0_1) := (blk_cell BK127.out 1).trans rfl; have hfz15_0 := blk_frozen BK127.out 0; have hfz15_1 := blk_frozen BK127.out 1) | ((with_reducible refine gate_callee (f := 23) rfl ?_); refine goesL_ (some 6) rfl rfl Tryd.func23 (by kernel_rfl) rfl #[.agg #[.int .i64 a0_0, .int .i64 a0_1]] rfl (by (try simp only [List.map_toArray, List.map_cons, List.map_nil]); first | done | rfl | (simp only [List.length_drop, List.length_take]; rfl)) ?_; (with_reducible refine (turn_Check.calls k a0_0 a0_1 t128 _ A2.out).mono ?_); rintro e w16 ⟨rfl, hb⟩; refine ⟨_, rfl, ?_⟩; have n0_ := Aside0.mk (blk_below (g := gb127) (o := .cells #[.int .i64 a0_0, .int .i64 a0_1] 23 (0, 0)) (by (with_reducible repeat (first | refine blk_drewN ?_ _ | refine blk_drew ?_ | refine blk_alloc ?_ _)); exact BK127.out) hb); have n1_ := Aside0.mk (below_step (by repeat (first | (with_reducible first | exact HB.out | apply below_alloc | apply pw_below_drewN | apply below_drew1 | refine below_set ?_ GE127.out) | exact HB.out)) hb); clear BK127; clear HB; have BK127 := n0_; have HB := n1_; clear n0_ n1_; (try clear hb); (try clear hb2); (try clear hk); (try clear hi)))
    go_ret2
    exact ⟨by first | rfl | (simp [errW_none, errW_some] <;> rfl) | (simp [*, errW_none, errW_some] <;> rfl), by repeat (first | (with_reducible first | exact HB.out | apply below_alloc | apply pw_below_drewN | apply below_drew1 | refine below_set ?_ GE127.out) | exact HB.out)⟩

/-! ### slackwaterref08_gcd: function 32 -/
def slackwaterref08_gcd.l0 : Nat → Int → Int → Option (Int)
  | 0, _, _ => none
  | k + 1, x0, x1 => if x1 = 0 then (some x0) else (slackwaterref08_gcd.l0 k x1 (Int.tmod x0 x1))
def slackwaterref08_gcd.f (k : Nat) (a0 : Int) (a1 : Int) : Option (Int) := slackwaterref08_gcd.l0 k a0 a1
theorem slackwaterref08_gcd.mono_l : ∀ k, (∀ y0 y1, LeO (slackwaterref08_gcd.l0 k y0 y1) (slackwaterref08_gcd.l0 (k + 1) y0 y1))
  | 0 => fun _ _ r h => by simp [slackwaterref08_gcd.l0] at h
  | k + 1 => by
    have ih0 := slackwaterref08_gcd.mono_l k
    · intro y0 y1
      unfold slackwaterref08_gcd.l0
      repeat' first
      | (with_reducible exact ih0 _ _)
      | (with_reducible exact LeO.refl _)
      | (with_reducible exact LeO.none _)
      | (with_reducible refine LeO.ite ?_ ?_)
      | (with_reducible refine LeO.bind ?_ (fun _ => ?_))
      | exact ih0 _ _
      | exact LeO.none _
      | refine LeO.ite ?_ ?_
      | refine LeO.bind ?_ (fun _ => ?_)
theorem slackwaterref08_gcd.mono : ∀ a0 a1 k, LeO (slackwaterref08_gcd.f k a0 a1) (slackwaterref08_gcd.f (k + 1) a0 a1) := by
  intro a0 a1 k
  have ih0 := slackwaterref08_gcd.mono_l k
  unfold slackwaterref08_gcd.f
  repeat' first
      | (with_reducible exact ih0 _ _)
      | (with_reducible exact LeO.refl _)
      | (with_reducible exact LeO.none _)
      | (with_reducible refine LeO.ite ?_ ?_)
      | (with_reducible refine LeO.bind ?_ (fun _ => ?_))
      | exact ih0 _ _
      | exact LeO.none _
      | refine LeO.ite ?_ ?_
      | refine LeO.bind ?_ (fun _ => ?_)
set_option maxHeartbeats 8000000 in
set_option maxRecDepth 100000 in
theorem slackwaterref08_gcd.calls (k : Nat) (a0 : Int) (a1 : Int) (r : Int) (w : World) (h : slackwaterref08_gcd.f k a0 a1 = some r) :
    Calls Tryd.prog 32 #[.int .u64 a0, .int .u64 a1] w fun e w' => e = .returned (.int .u64 r) ∧ Drawn0 w w' := by
  have H : (slackwaterref08_gcd.l0 k a0 a1) = some r := h
  clear h
  have H' := Aside0.mk H
  clear H
  go_enter Tryd.func32, Tryd.ntmps32
  go_wp2
  repeat (go_quiet (fail); try go_wp2)
  go_loopg [0, 1] k (fun kq v0 v1 w' => ∃ (x0_1 : Int) (x1_1 : Int), v0 = .int .u64 x0_1 ∧ v1 = .int .u64 x1_1 ∧ Aside0 (slackwaterref08_gcd.l0 kq x0_1 x1_1 = some r) ∧ Aside0 (kq ≤ k) ∧ Drawn0 w w')
  case atStart => exact ⟨(a0), (a1), (by first | rfl | (simp; done) | (simp [*]; done)), (by first | rfl | (simp; done) | (simp [*]; done)), H', ⟨Nat.le_refl _⟩, by repeat (first | exact Drawn0.refl _ | apply Drawn0.step)⟩
  case round =>
    clear H'
    try clear p2
    obtain ⟨x0_1, x1_1, rfl, rfl, HA, HK1, ⟨m1, rfl⟩⟩ := hrel
    cases gk with
    | zero => exact absurd HA.out (by simp [slackwaterref08_gcd.l0])
    | succ k1 =>
      have H := HA.out
      clear HA
      simp only [slackwaterref08_gcd.l0] at H
      by_cases c3 : x1_1 = 0
      · rw [if_pos c3] at H
        have c3b0 : (x1_1 == 0) = true := beq_iff_eq.mpr c3
        have c3b1 : (x1_1 != 0) = false := bne_eq_false_iff_eq.mpr c3
        clear c3
        obtain rfl := Option.some.inj H
        go_wp2
        repeat (go_quiet (fail); try go_wp2)
        go_ret
        exact ⟨by first | rfl | (simp; done) | (simp [*]; done), by repeat (first | exact Drawn0.refl _ | apply Drawn0.step)⟩
      · rw [if_neg c3] at H
        have c3b0 : (x1_1 == 0) = false := beq_eq_false_iff_ne.mpr c3
        have c3b1 : (x1_1 != 0) = true := bne_iff_ne.mpr c3
        have H' := Aside0.mk H
        clear H
        go_wp2
        repeat (go_quiet (fail); try go_wp2)
        go_roundg k1
        case measure => have := HK1.out; omega
        case rel => exact ⟨(x1_1), (Int.tmod x0_1 x1_1), (by first | rfl | (simp; done) | (simp [*]; done)), (by first | rfl | (simp; done) | (simp [*]; done)), H', ⟨by have := HK1.out; omega⟩, by repeat (first | exact Drawn0.refl _ | apply Drawn0.step)⟩

/-! ### slackwaterref08_Check: function 24 -/
def slackwaterref08_Check.f (k : Nat) (a0_0 : Int) (a0_1 : Int) : Option (Int) := if a0_1 < 1 then (some 180) else (if a0_1 > 4294967296 then (some 180) else (if a0_0 < 0 then (some 180) else (if a0_0 ≥ a0_1 then (some 180) else ((slackwaterref08_gcd.f k (IntKind.u64.wrap (a0_0)) (IntKind.u64.wrap (a0_1))).bind fun t132 => (if t132 = 1 then (some 0) else (some 180))))))
theorem slackwaterref08_Check.mono : ∀ a0 a1 k, LeO (slackwaterref08_Check.f k a0 a1) (slackwaterref08_Check.f (k + 1) a0 a1) := by
  intro a0 a1 k
  unfold slackwaterref08_Check.f
  repeat' first
      | (with_reducible exact slackwaterref08_gcd.mono _ _ _)
      | (with_reducible exact LeO.refl _)
      | (with_reducible exact LeO.none _)
      | (with_reducible refine LeO.ite ?_ ?_)
      | (with_reducible refine LeO.bind ?_ (fun _ => ?_))
      | exact slackwaterref08_gcd.mono _ _ _
      | exact LeO.none _
      | refine LeO.ite ?_ ?_
      | refine LeO.bind ?_ (fun _ => ?_)
set_option maxHeartbeats 8000000 in
set_option maxRecDepth 100000 in
theorem slackwaterref08_Check.calls (k : Nat) (a0_0 : Int) (a0_1 : Int) (r : Int) (w : World) (h : slackwaterref08_Check.f k a0_0 a0_1 = some r) :
    Calls Tryd.prog 24 #[.agg #[.int .i64 a0_0, .int .i64 a0_1]] w fun e w' => e = .returned (.int .i64 r) ∧ Below w.heap.size w w' := by
  have hu23 := Tryd.underlying23
  have HB := Aside0.mk (Below.refl w.heap.size w)
  have H : (if a0_1 < 1 then (some 180) else (if a0_1 > 4294967296 then (some 180) else (if a0_0 < 0 then (some 180) else (if a0_0 ≥ a0_1 then (some 180) else ((slackwaterref08_gcd.f k (IntKind.u64.wrap (a0_0)) (IntKind.u64.wrap (a0_1))).bind fun t132 => (if t132 = 1 then (some 0) else (some 180))))))) = some r := h
  clear h
  by_cases c2 : a0_1 < 1
  · rw [if_pos c2] at H
    have c2b0 : decide (a0_1 < 1) = true := decide_eq_true c2
    clear c2
    obtain rfl := Option.some.inj H
    go_enter Tryd.func24, Tryd.ntmps24
    go_wp2_with (first | ((with_reducible refine gate_dst (N := 1) rfl ?_); refine box_event ?hg (N := 1) ?hd (cs := #[.int .i64 a0_0, .int .i64 a0_1]) (t := 23) ?hr ?_; (case hd => rfl); (case hg => rfl); (case hr => first | (go_simp; done) | (go_simp; rfl)); intro gb131 hg w3 hbox hb; have n0_ := Aside0.mk (below_step (by repeat (first | (with_reducible first | exact HB.out | apply below_alloc | apply pw_below_drewN | apply below_drew1) | exact HB.out)) hb); have n1_ := Aside0.mk (hbox); have n2_ := Aside0.mk ((by rw [hg]; exact (below_size (by repeat (first | (with_reducible first | exact HB.out | apply below_alloc | apply pw_below_drewN | apply below_drew1) | exact HB.out))) : w.heap.size ≤ gb131)); have n3_ := Aside0.mk ((by rw [hg]; exact (below_size (by repeat (first | (with_reducible first | exact HB.out | apply below_alloc | apply pw_below_drewN | apply below_drew1) | exact HB.out))) : w.heap.size ≤ gb131)); clear HB; have HB := n0_; have BK131 := n1_; have GW131 := n2_; have GE131 := n3_; clear n0_ n1_ n2_ n3_; clear hb hbox hg; have hcz4_0 : w3.cell? ⟨gb131, 0, none⟩ = some (.int .i64 a0_0) := (blk_cell BK131.out 0).trans rfl; have hcz4_1 : w3.cell? ⟨gb131, 1, none⟩ = some (.int .i64 a0_1) := (blk_cell BK131.out 1).trans rfl; have hfz4_0 := blk_frozen BK131.out 0; have hfz4_1 := blk_frozen BK131.out 1))
    go_ret
    exact ⟨by first | rfl | (simp [errW_none, errW_some] <;> rfl) | (simp [*, errW_none, errW_some] <;> rfl), by repeat (first | (with_reducible first | exact HB.out | apply below_alloc | apply pw_below_drewN | apply below_drew1 | refine below_set ?_ GE131.out) | exact HB.out)⟩
  · rw [if_neg c2] at H
    have c2b0 : decide (a0_1 < 1) = false := decide_eq_false c2
    clear c2
    by_cases c5 : a0_1 > 4294967296
    · rw [if_pos c5] at H
      have c5b0 : decide (4294967296 < a0_1) = true := decide_eq_true c5
      clear c5
      obtain rfl := Option.some.inj H
      go_enter Tryd.func24, Tryd.ntmps24
      go_wp2_with (first | ((with_reducible refine gate_dst (N := 1) rfl ?_); refine box_event ?hg (N := 1) ?hd (cs := #[.int .i64 a0_0, .int .i64 a0_1]) (t := 23) ?hr ?_; (case hd => rfl); (case hg => rfl); (case hr => first | (go_simp; done) | (go_simp; rfl)); intro gb131 hg w6 hbox hb; have n0_ := Aside0.mk (below_step (by repeat (first | (with_reducible first | exact HB.out | apply below_alloc | apply pw_below_drewN | apply below_drew1) | exact HB.out)) hb); have n1_ := Aside0.mk (hbox); have n2_ := Aside0.mk ((by rw [hg]; exact (below_size (by repeat (first | (with_reducible first | exact HB.out | apply below_alloc | apply pw_below_drewN | apply below_drew1) | exact HB.out))) : w.heap.size ≤ gb131)); have n3_ := Aside0.mk ((by rw [hg]; exact (below_size (by repeat (first | (with_reducible first | exact HB.out | apply below_alloc | apply pw_below_drewN | apply below_drew1) | exact HB.out))) : w.heap.size ≤ gb131)); clear HB; have HB := n0_; have BK131 := n1_; have GW131 := n2_; have GE131 := n3_; clear n0_ n1_ n2_ n3_; clear hb hbox hg; have hcz7_0 : w6.cell? ⟨gb131, 0, none⟩ = some (.int .i64 a0_0) := (blk_cell BK131.out 0).trans rfl; have hcz7_1 : w6.cell? ⟨gb131, 1, none⟩ = some (.int .i64 a0_1) := (blk_cell BK131.out 1).trans rfl; have hfz7_0 := blk_frozen BK131.out 0; have hfz7_1 := blk_frozen BK131.out 1))
      go_ret
      exact ⟨by first | rfl | (simp [errW_none, errW_some] <;> rfl) | (simp [*, errW_none, errW_some] <;> rfl), by repeat (first | (with_reducible first | exact HB.out | apply below_alloc | apply pw_below_drewN | apply below_drew1 | refine below_set ?_ GE131.out) | exact HB.out)⟩
    · rw [if_neg c5] at H
      have c5b0 : decide (4294967296 < a0_1) = false := decide_eq_false c5
      clear c5
      by_cases c8 : a0_0 < 0
      · rw [if_pos c8] at H
        have c8b0 : decide (a0_0 < 0) = true := decide_eq_true c8
        clear c8
        obtain rfl := Option.some.inj H
        go_enter Tryd.func24, Tryd.ntmps24
        go_wp2_with (first | ((with_reducible refine gate_dst (N := 1) rfl ?_); refine box_event ?hg (N := 1) ?hd (cs := #[.int .i64 a0_0, .int .i64 a0_1]) (t := 23) ?hr ?_; (case hd => rfl); (case hg => rfl); (case hr => first | (go_simp; done) | (go_simp; rfl)); intro gb131 hg w9 hbox hb; have n0_ := Aside0.mk (below_step (by repeat (first | (with_reducible first | exact HB.out | apply below_alloc | apply pw_below_drewN | apply below_drew1) | exact HB.out)) hb); have n1_ := Aside0.mk (hbox); have n2_ := Aside0.mk ((by rw [hg]; exact (below_size (by repeat (first | (with_reducible first | exact HB.out | apply below_alloc | apply pw_below_drewN | apply below_drew1) | exact HB.out))) : w.heap.size ≤ gb131)); have n3_ := Aside0.mk ((by rw [hg]; exact (below_size (by repeat (first | (with_reducible first | exact HB.out | apply below_alloc | apply pw_below_drewN | apply below_drew1) | exact HB.out))) : w.heap.size ≤ gb131)); clear HB; have HB := n0_; have BK131 := n1_; have GW131 := n2_; have GE131 := n3_; clear n0_ n1_ n2_ n3_; clear hb hbox hg; have hcz10_0 : w9.cell? ⟨gb131, 0, none⟩ = some (.int .i64 a0_0) := (blk_cell BK131.out 0).trans rfl; have hcz10_1 : w9.cell? ⟨gb131, 1, none⟩ = some (.int .i64 a0_1) := (blk_cell BK131.out 1).trans rfl; have hfz10_0 := blk_frozen BK131.out 0; have hfz10_1 := blk_frozen BK131.out 1))
        go_ret
        exact ⟨by first | rfl | (simp [errW_none, errW_some] <;> rfl) | (simp [*, errW_none, errW_some] <;> rfl), by repeat (first | (with_reducible first | exact HB.out | apply below_alloc | apply pw_below_drewN | apply below_drew1 | refine below_set ?_ GE131.out) | exact HB.out)⟩
      · rw [if_neg c8] at H
        have c8b0 : decide (a0_0 < 0) = false := decide_eq_false c8
        clear c8
        by_cases c11 : a0_0 ≥ a0_1
        · rw [if_pos c11] at H
          have c11b0 : decide (a0_1 ≤ a0_0) = true := decide_eq_true c11
          clear c11
          obtain rfl := Option.some.inj H
          go_enter Tryd.func24, Tryd.ntmps24
          go_wp2_with (first | ((with_reducible refine gate_dst (N := 1) rfl ?_); refine box_event ?hg (N := 1) ?hd (cs := #[.int .i64 a0_0, .int .i64 a0_1]) (t := 23) ?hr ?_; (case hd => rfl); (case hg => rfl); (case hr => first | (go_simp; done) | (go_simp; rfl)); intro gb131 hg w12 hbox hb; have n0_ := Aside0.mk (below_step (by repeat (first | (with_reducible first | exact HB.out | apply below_alloc | apply pw_below_drewN | apply below_drew1) | exact HB.out)) hb); have n1_ := Aside0.mk (hbox); have n2_ := Aside0.mk ((by rw [hg]; exact (below_size (by repeat (first | (with_reducible first | exact HB.out | apply below_alloc | apply pw_below_drewN | apply below_drew1) | exact HB.out))) : w.heap.size ≤ gb131)); have n3_ := Aside0.mk ((by rw [hg]; exact (below_size (by repeat (first | (with_reducible first | exact HB.out | apply below_alloc | apply pw_below_drewN | apply below_drew1) | exact HB.out))) : w.heap.size ≤ gb131)); clear HB; have HB := n0_; have BK131 := n1_; have GW131 := n2_; have GE131 := n3_; clear n0_ n1_ n2_ n3_; clear hb hbox hg; have hcz13_0 : w12.cell? ⟨gb131, 0, none⟩ = some (.int .i64 a0_0) := (blk_cell BK131.out 0).trans rfl; have hcz13_1 : w12.cell? ⟨gb131, 1, none⟩ = some (.int .i64 a0_1) := (blk_cell BK131.out 1).trans rfl; have hfz13_0 := blk_frozen BK131.out 0; have hfz13_1 := blk_frozen BK131.out 1))
          go_ret
          exact ⟨by first | rfl | (simp [errW_none, errW_some] <;> rfl) | (simp [*, errW_none, errW_some] <;> rfl), by repeat (first | (with_reducible first | exact HB.out | apply below_alloc | apply pw_below_drewN | apply below_drew1 | refine below_set ?_ GE131.out) | exact HB.out)⟩
        · rw [if_neg c11] at H
          have c11b0 : decide (a0_1 ≤ a0_0) = false := decide_eq_false c11
          clear c11
          replace H := Option.bind_eq_some_iff.mp H
          obtain ⟨t132, A140, H⟩ := H
          replace H : (if t132 = 1 then (some 0) else (some 180)) = some r := H
          have A14 := Aside0.mk A140
          clear A140
          by_cases c15 : t132 = 1
          · rw [if_pos c15] at H
            have c15b0 : (t132 == 1) = true := beq_iff_eq.mpr c15
            have c15b1 : (t132 != 1) = false := bne_eq_false_iff_eq.mpr c15
            clear c15
            obtain rfl := Option.some.inj H
            go_enter Tryd.func24, Tryd.ntmps24
            go_wp2_with (first | ((with_reducible refine gate_dst (N := 1) rfl ?_); refine box_event ?hg (N := 1) ?hd (cs := #[.int .i64 a0_0, .int .i64 a0_1]) (t := 23) ?hr ?_; (case hd => rfl); (case hg => rfl); (case hr => first | (go_simp; done) | (go_simp; rfl)); intro gb131 hg w16 hbox hb; have n0_ := Aside0.mk (below_step (by repeat (first | (with_reducible first | exact HB.out | apply below_alloc | apply pw_below_drewN | apply below_drew1) | exact HB.out)) hb); have n1_ := Aside0.mk (hbox); have n2_ := Aside0.mk ((by rw [hg]; exact (below_size (by repeat (first | (with_reducible first | exact HB.out | apply below_alloc | apply pw_below_drewN | apply below_drew1) | exact HB.out))) : w.heap.size ≤ gb131)); have n3_ := Aside0.mk ((by rw [hg]; exact (below_size (by repeat (first | (with_reducible first | exact HB.out | apply below_alloc | apply pw_below_drewN | apply below_drew1) | exact HB.out))) : w.heap.size ≤ gb131)); clear HB; have HB := n0_; have BK131 := n1_; have GW131 := n2_; have GE131 := n3_; clear n0_ n1_ n2_ n3_; clear hb hbox hg; have hcz17_0 : w16.cell? ⟨gb131, 0, none⟩ = some (.int .i64 a0_0) := (blk_cell BK131.out 0).trans rfl; have hcz17_1 : w16.cell? ⟨gb131, 1, none⟩ = some (.int .i64 a0_1) := (blk_cell BK131.out 1).trans rfl; have hfz17_0 := blk_frozen BK131.out 0; have hfz17_1 := blk_frozen BK131.out 1) | (go_at_call 32; (with_reducible refine (slackwaterref08_gcd.calls k (IntKind.u64.wrap (a0_0)) (IntKind.u64.wrap (a0_1)) t132 _ A14.out).mono ?_); rintro e w' ⟨rfl, ⟨nd, rfl⟩⟩))
            go_ret
            exact ⟨by first | rfl | (simp [errW_none, errW_some] <;> rfl) | (simp [*, errW_none, errW_some] <;> rfl), by repeat (first | (with_reducible first | exact HB.out | apply below_alloc | apply pw_below_drewN | apply below_drew1 | refine below_set ?_ GE131.out) | exact HB.out)⟩
          · rw [if_neg c15] at H
            have c15b0 : (t132 == 1) = false := beq_eq_false_iff_ne.mpr c15
            have c15b1 : (t132 != 1) = true := bne_iff_ne.mpr c15
            obtain rfl := Option.some.inj H
            go_enter Tryd.func24, Tryd.ntmps24
            go_wp2_with (first | ((with_reducible refine gate_dst (N := 1) rfl ?_); refine box_event ?hg (N := 1) ?hd (cs := #[.int .i64 a0_0, .int .i64 a0_1]) (t := 23) ?hr ?_; (case hd => rfl); (case hg => rfl); (case hr => first | (go_simp; done) | (go_simp; rfl)); intro gb131 hg w18 hbox hb; have n0_ := Aside0.mk (below_step (by repeat (first | (with_reducible first | exact HB.out | apply below_alloc | apply pw_below_drewN | apply below_drew1) | exact HB.out)) hb); have n1_ := Aside0.mk (hbox); have n2_ := Aside0.mk ((by rw [hg]; exact (below_size (by repeat (first | (with_reducible first | exact HB.out | apply below_alloc | apply pw_below_drewN | apply below_drew1) | exact HB.out))) : w.heap.size ≤ gb131)); have n3_ := Aside0.mk ((by rw [hg]; exact (below_size (by repeat (first | (with_reducible first | exact HB.out | apply below_alloc | apply pw_below_drewN | apply below_drew1) | exact HB.out))) : w.heap.size ≤ gb131)); clear HB; have HB := n0_; have BK131 := n1_; have GW131 := n2_; have GE131 := n3_; clear n0_ n1_ n2_ n3_; clear hb hbox hg; have hcz19_0 : w18.cell? ⟨gb131, 0, none⟩ = some (.int .i64 a0_0) := (blk_cell BK131.out 0).trans rfl; have hcz19_1 : w18.cell? ⟨gb131, 1, none⟩ = some (.int .i64 a0_1) := (blk_cell BK131.out 1).trans rfl; have hfz19_0 := blk_frozen BK131.out 0; have hfz19_1 := blk_frozen BK131.out 1) | (go_at_call 32; (with_reducible refine (slackwaterref08_gcd.calls k (IntKind.u64.wrap (a0_0)) (IntKind.u64.wrap (a0_1)) t132 _ A14.out).mono ?_); rintro e w' ⟨rfl, ⟨nd, rfl⟩⟩))
            go_ret
            exact ⟨by first | rfl | (simp [errW_none, errW_some] <;> rfl) | (simp [*, errW_none, errW_some] <;> rfl), by repeat (first | (with_reducible first | exact HB.out | apply below_alloc | apply pw_below_drewN | apply below_drew1 | refine below_set ?_ GE131.out) | exact HB.out)⟩

end Go.Proofs.YtcddhfidbhcgdaaDoor.PK8
