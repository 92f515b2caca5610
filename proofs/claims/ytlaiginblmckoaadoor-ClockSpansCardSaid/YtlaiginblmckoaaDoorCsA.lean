import Derived.Test.YtlaiginblmckoaaDoorCsI
import Derived.LoopTactic
import Derived.LoopN
import Derived.Laws.AppendOwn
import Derived.BigQuiet
import Derived.Deep.DeepAppendRoom
import Derived.Deep.RegionHeld3
/- slackwaterkit.ApartInts of one list: what is told lies apart. -/
set_option linter.unusedVariables false
set_option linter.unusedSimpArgs false
namespace Go.Proofs.YtlaiginblmckoaaDoor
open Go Go.RowKit Go.Proofs.YtlaiginblmckoaaDoor.PK9 Go.Proofs.YtlaiginblmckoaaDoorW.PrintWords
theorem info3_ : ∃ i0, Tryd.prog.info? 3 = some i0 ∧ i0.zero = some (.int .i64 0) ∧ i0.size = 1 ∧ i0.bytes = 8 := by
  have h : (Tryd.prog.info? 3).map (fun i => (i.zero, i.size, i.bytes)) = some (some (.int .i64 0), 1, 8) := by kernel_rfl
  cases hi : Tryd.prog.info? 3 with
  | none => rw [hi] at h; cases h
  | some i0 =>
    rw [hi] at h
    simp only [Option.map_some, Option.some.injEq, Prod.mk.injEq] at h
    exact ⟨i0, rfl, h.1, h.2.1, h.2.2⟩
theorem info22_ : ∃ i0, Tryd.prog.info? 22 = some i0 ∧ i0.zero = some (.slice none 0 0) ∧ i0.size = 1 ∧ i0.bytes = 24 := by
  have h : (Tryd.prog.info? 22).map (fun i => (i.zero, i.size, i.bytes)) = some (some (.slice none 0 0), 1, 24) := by kernel_rfl
  cases hi : Tryd.prog.info? 22 with
  | none => rw [hi] at h; cases h
  | some i0 =>
    rw [hi] at h
    simp only [Option.map_some, Option.some.injEq, Prod.mk.injEq] at h
    exact ⟨i0, rfl, h.1, h.2.1, h.2.2⟩
theorem make_one (w : World) : (Instr.makeSlice 29 (.int .i64 1) (.int .i64 1)).run Tryd.prog w = .ok (.slice (some ⟨w.heap.size, 0, none⟩) 1 1) (w.alloc (.cells #[.slice none 0 0] 22)) := by
  obtain ⟨i0, h1, h2, h3, h4⟩ := info22_
  have h := run_makeSlice (P := Tryd.prog) w 29 22 i0 _ Tryd.underlying29 h1 h2 .i64 .i64 1 1 (by decide) (by decide) (by rw [h3]; decide) (by rw [h4]; decide) (by decide)
  rw [h, h3]
  simp only [madeCells, Value.cells]
  rw [show Array.range (Int.toNat 1 * 1) = #[0] from rfl]
  simp
/-- what the other list's rows say, beside the row that is turned (block gx) -/
structure Ap (wr : World) (B go gw gx : Nat) (vy vc : Value) (ys : List Int) : Prop where
  o : GB.Blk wr go 22 [vy]
  s : GB.Blk wr gw 22 [vc]
  y : Kd.R (Kd.int .i64) 3 wr B (fun k => k ≠ gx) vy ys
  c : Kd.R (Kd.int .i64) 3 wr B (fun k => k ≠ gx) vc ys
  n : go ≠ gx ∧ gw ≠ gx ∧ B ≤ gx
theorem Ap.setx {wr : World} {B go gw gx : Nat} {vy vc : Value} {ys : List Int} (h : Ap wr B go gw gx vy vc ys) (i : Nat) (u : Value) : Ap (wr.setCell ⟨gx, i, none⟩ u) B go gw gx vy vc ys :=
  ⟨h.o.far (fun e => h.n.1 e.symm) i u, h.s.far (fun e => h.n.2.1 e.symm) i u, Kd.R_far (p := ⟨gx, i, none⟩) h.y (fun k hk => hk) u, Kd.R_far (p := ⟨gx, i, none⟩) h.c (fun k hk => hk) u, h.n⟩
theorem Ap.grown {wr w' : World} {B go gw gx : Nat} {vy vc : Value} {ys : List Int} (h : Ap wr B go gw gx vy vc ys) (hg : wr.grownBy w' (some gx)) : Ap w' B go gw gx vy vc ys :=
  ⟨h.o.grown hg (fun e => h.n.1 (Option.some.inj e)), h.s.grown hg (fun e => h.n.2.1 (Option.some.inj e)), Kd.R_grown h.y hg (fun k hk e => hk (Option.some.inj e)), Kd.R_grown h.c hg (fun k hk e => hk (Option.some.inj e)), h.n⟩
theorem Ap.below {wr w' : World} {B go gw gx : Nat} {vy vc : Value} {ys : List Int} (h : Ap wr B go gw gx vy vc ys) (hb : Below wr.heap.size wr w') : Ap w' B go gw gx vy vc ys :=
  ⟨h.o.below hb, h.s.below hb, Kd.R_below h.y hb, Kd.R_below h.c hb, h.n⟩
theorem same_self (ys : List Int) (hy : ys.length < 100000) (k : Nat) (hk : ys.length < k) : slackwaterkit_SameInts.f k ys ys = some true := by
  have l0 : ∀ (d i k : Nat), i + d = ys.length → d < k → slackwaterkit_SameInts.l0 k ys ys (i : Int) = some true := by
    intro d
    induction d with
    | zero =>
      intro i k h hk
      obtain ⟨k, rfl⟩ : ∃ m, k = m + 1 := ⟨k - 1, by omega⟩
      simp only [slackwaterkit_SameInts.l0]
      rw [if_neg (by omega)]
    | succ d ih =>
      intro i k h hk
      obtain ⟨k, rfl⟩ : ∃ m, k = m + 1 := ⟨k - 1, by omega⟩
      simp only [slackwaterkit_SameInts.l0]
      have hw : wrap64 ((i : Int) + 1) = ((i + 1 : Nat) : Int) := by unfold wrap64; omega
      rw [if_pos (by omega), if_pos (by omega), if_pos (by omega), if_pos trivial, hw]
      exact ih (i + 1) k (by omega) (by omega)
  unfold slackwaterkit_SameInts.f
  rw [if_pos rfl]
  exact l0 ys.length 0 k (by omega) hk
theorem w64_nat (i : Nat) (h : i < 100000) : wrap64 ((i : Int) + 1) = ((i + 1 : Nat) : Int) := by unfold wrap64; omega
theorem w64_3 (i : Nat) (h : i < 3) : wrap64 ((i : Int) + 1) = ((i + 1 : Nat) : Int) := by unfold wrap64; omega
theorem meas_nat (n i : Nat) (h : i < n) : n - (intOf (.int .i64 ((i + 1 : Nat) : Int))).toNat < n - (intOf (.int .i64 (i : Int))).toNat := by simp only [intOf]; omega
theorem ty_ne : ∀ q, q ∈ 3 :: (Kd.int .i64).E → q ≠ 22 := by
  intro q hq
  have : q = 3 := by simpa [Kd.int, Kd.scalar] using hq
  subst this
  decide
structure Ap0 (wr : World) (B go gw : Nat) (vy vc : Value) (ys : List Int) : Prop where
  o : GB.Blk wr go 22 [vy]
  s : GB.Blk wr gw 22 [vc]
  y : Kd.R (Kd.int .i64) 3 wr B (fun _ => True) vy ys
  c : Kd.R (Kd.int .i64) 3 wr B (fun _ => True) vc ys
set_option maxHeartbeats 4000000 in
set_option maxRecDepth 20000 in
theorem apartInts_nil (B : Nat) (vy : Value) (ys : List Int) (go : Nat) (w : World) (hy : Kd.R (Kd.int .i64) 3 w B (fun _ => True) vy ys)
    (ho : GB.Blk w go 22 [vy]) (hB : B ≤ w.heap.size) (hm : ys.length < 100000) :
    Calls Tryd.prog 9 #[.slice none 0 0, .slice (some ⟨go, 0, none⟩) 1 1] w fun e w' => e = .returned (.bool true) ∧ Below B w w' := by
  obtain ⟨Ay, cy, rfl, hcy, hCy⟩ := Kd.R_reads hy
  have hgo : go < w.heap.size := ho.lt
  have HCY := GB.hid hCy
  have HCC := GB.hid hcy
  have HY := GB.hid hy
  have HO := GB.hid ho
  have c0 := ho.cell 0 rfl
  have HCF : Hid (slackwaterkit_CopyInts.f ys = some ys) := by
    unfold slackwaterkit_CopyInts.f
    show (if ([] : List Int).length + ys.length < 17592186044416 then some ([] ++ ys) else none) = _
    rw [if_pos (by simp; omega), List.nil_append]
  have hmk : ∀ w, (Instr.makeSlice 29 (.int .i64 1) (.int .i64 1)).run Tryd.prog w = .ok (.slice (some ⟨w.heap.size, 0, none⟩) 1 1) (w.alloc (.cells #[.slice none 0 0] 22)) := make_one
  clear hy ho hCy hcy
  go_enter Tryd.func9, Tryd.ntmps9
  have HS : Hid (GB.Blk (w.alloc (.cells #[.slice none 0 0] 22)) w.heap.size 22 [.slice none 0 0]) := GB.Blk.new w 22 [.slice none 0 0]
  have c0 := (HO.out.alloc (.cells #[.slice none 0 0] 22)).cell 0 rfl
  go_wp2
  refine wp_loop_rounds 3 ?_
  rw [rounds_succ]
  go_wp2_with fail
  clear hmk
  refine (slackwaterkit_CopyInts.calls Ay cy ys ys _ (Kd.C_below HCY.out (GB.bla (GB.bl0 w) _)) HCC.out HCF.out).mono ?_
  rintro e w1 ⟨vc, rfl, hr, hb⟩
  have hbw : Below w.heap.size w w1 := GB.bls (GB.bla (GB.bl0 w) _) hb
  obtain ⟨Ac, cc, rfl, hcc, hCc⟩ := Kd.R_reads hr
  have HS := GB.hid (HS.out.below hb)
  have HO := GB.hid (HO.out.below hbw)
  have HY := GB.hid (Kd.R_below HY.out hbw)
  have HC : Hid (Kd.R (Kd.int .i64) 3 w1 B (fun _ => True) (.slice Ac ys.length cc) ys) := Kd.R_lower hr (by simp only [World.size_alloc]; omega)
  have s0 := HS.out.cell 0 rfl
  have f0 := HS.out.free 0
  have HA : Hid (Ap0 (w1.setCell ⟨w.heap.size, 0, none⟩ (.slice Ac ys.length cc)) B go w.heap.size (.slice Ay ys.length cy) (.slice Ac ys.length cc) ys) :=
    ⟨HO.out.far (by omega) 0 _, HS.out.set 0 _, Kd.R_set HY.out HS.out ty_ne 0 _, Kd.R_set HC.out HS.out ty_ne 0 _⟩
  have HBW : Hid (Below B w (w1.setCell ⟨w.heap.size, 0, none⟩ (.slice Ac ys.length cc))) := (hbw.mono hB).setCell (p := ⟨w.heap.size, 0, none⟩) hB _
  clear hr hb hbw hCc
  go_wp2
  rw [rounds_succ]
  clear s0 f0 c0
  go_wp2
  generalize (w1.setCell ⟨w.heap.size, 0, none⟩ (.slice Ac ys.length cc)) = w2 at *
  clear HS HO HY HC HCY HCF
  refine wp_loop_rounds 1 ?_
  rw [rounds_succ]
  go_wp2
  refine wp_loop_rounds 1 ?_
  rw [rounds_succ]
  have c1 := HA.out.o.cell 0 rfl
  have c2 := HA.out.s.cell 0 rfl
  have HCY : Hid (Kd.C (Kd.int .i64) w2 Ay ys.length ys) := (Kd.R_reads' HA.out.y).2.2
  have HCC' : Hid (Kd.C (Kd.int .i64) w2 Ac ys.length ys) := (Kd.R_reads' HA.out.c).2.2
  have HS : Hid (slackwaterkit_SameInts.f 100001 ys ys = some true) := same_self ys hm 100001 (by omega)
  have hcc' := GB.hid hcc
  clear hcc
  have size_r := HBW.out.size
  go_upto_region 14 with (fail)
  go_wp2
  refine wp_loop_rounds 3 ?_
  rw [rounds_succ]
  go_upto_region 17 with (fail)
  go_region_held3 (fun w' => w'.cell? ⟨go, 0, none⟩ = some (.slice Ay ys.length cy) ∧ w'.cell? ⟨w.heap.size, 0, none⟩ = some (.slice Ac ys.length cc)) (first | exact ⟨c1, c2⟩ | exact ⟨k1, k2⟩) (first
    | (go_at_call 8
       refine (slackwaterkit_SameInts.calls 100001 Ay cy ys Ac cc ys true _ (Kd.C_drew HCY.out) HCC.out (Kd.C_drew HCC'.out) hcc'.out HS.out).mono ?_
       rintro e w5 ⟨rfl, hd5⟩
       have hb5 := GB.bls (GB.bld (GB.bl0 w2)) hd5.below
       have k1 := (HA.out.o.below hb5).cell 0 rfl
       have k2 := (HA.out.s.below hb5).cell 0 rfl
       clear hd5))
  go_wp2
  rw [rounds_succ]
  go_wp2
  go_ret
  exact ⟨rfl, HBW.out.trans (hb5.mono (Nat.le_trans hB size_r))⟩
set_option maxHeartbeats 4000000 in
set_option maxRecDepth 20000 in
theorem apartInts_calls (B gx n cx : Nat) (xs : List Int) (vy : Value) (ys : List Int) (go : Nat) (w : World) (hx : w.ownsRow B 3 1 (.slice (some ⟨gx, 0, none⟩) n cx) n (xs.map (Value.int .i64))) (hy : Kd.R (Kd.int .i64) 3 w B (fun k => k ≠ gx) vy ys)
    (ho : GB.Blk w go 22 [vy]) (hB : B ≤ w.heap.size) (hl : n < 100000) (hm : ys.length < 100000) :
    Calls Tryd.prog 9 #[.slice (some ⟨gx, 0, none⟩) n cx, .slice (some ⟨go, 0, none⟩) 1 1] w fun e w' => e = .returned (.bool true) ∧ Below B w w' := by
  obtain ⟨Ay, cy, rfl, hcy, hCy⟩ := Kd.R_reads hy
  have hgx : B ≤ gx ∧ gx < w.heap.size := ⟨own_base hx gx rfl, own_lt hx gx rfl⟩
  have hgo : go < w.heap.size := ho.lt
  have HCY := GB.hid hCy
  have HCC := GB.hid hcy
  have HX := GB.hid hx
  have HY := GB.hid hy
  have HO := GB.hid ho
  have c0 := ho.cell 0 rfl
  have HCF : Hid (slackwaterkit_CopyInts.f ys = some ys) := by
    unfold slackwaterkit_CopyInts.f
    show (if ([] : List Int).length + ys.length < 17592186044416 then some ([] ++ ys) else none) = _
    rw [if_pos (by simp; omega), List.nil_append]
  have hmk : ∀ w, (Instr.makeSlice 29 (.int .i64 1) (.int .i64 1)).run Tryd.prog w = .ok (.slice (some ⟨w.heap.size, 0, none⟩) 1 1) (w.alloc (.cells #[.slice none 0 0] 22)) := make_one
  clear hx hy ho hCy hcy
  go_enter Tryd.func9, Tryd.ntmps9
  have HS : Hid (GB.Blk (w.alloc (.cells #[.slice none 0 0] 22)) w.heap.size 22 [.slice none 0 0]) := GB.Blk.new w 22 [.slice none 0 0]
  have c0 := (HO.out.alloc (.cells #[.slice none 0 0] 22)).cell 0 rfl
  go_wp2
  refine wp_loop_rounds 3 ?_
  rw [rounds_succ]
  go_wp2_with fail
  clear hmk
  refine (slackwaterkit_CopyInts.calls Ay cy ys ys _ (Kd.C_below HCY.out (GB.bla (GB.bl0 w) _)) HCC.out HCF.out).mono ?_
  rintro e w1 ⟨vc, rfl, hr, hb⟩
  have hbw : Below w.heap.size w w1 := GB.bls (GB.bla (GB.bl0 w) _) hb
  obtain ⟨Ac, cc, rfl, hcc, hCc⟩ := Kd.R_reads hr
  have hne : go ≠ gx := by
    intro e
    obtain ⟨cells, hx⟩ := own_typed HX.out gx rfl
    have := HO.out
    rw [e] at this
    unfold GB.Blk at this
    rw [hx] at this
    cases this
  have HX := GB.hid (own_move HX.out (fun k hk => hbw.block k (own_lt HX.out k hk)))
  have HS := GB.hid (HS.out.below hb)
  have HO := GB.hid (HO.out.below hbw)
  have HY := GB.hid (Kd.R_below HY.out hbw)
  have HC : Hid (Kd.R (Kd.int .i64) 3 w1 B (fun k => k ≠ gx) (.slice Ac ys.length cc) ys) := Kd.R_lower (Kd.R_mono (Kd.R_bound hr) (fun k hk e => by
    have h1 := hk.2.1
    simp only [World.size_alloc] at h1
    omega)) (by simp only [World.size_alloc]; omega)
  have s0 := HS.out.cell 0 rfl
  have f0 := HS.out.free 0
  have HA : Hid (Ap (w1.setCell ⟨w.heap.size, 0, none⟩ (.slice Ac ys.length cc)) B go w.heap.size gx (.slice Ay ys.length cy) (.slice Ac ys.length cc) ys) :=
    ⟨HO.out.far (by omega) 0 _, HS.out.set 0 _, Kd.R_set HY.out HS.out ty_ne 0 _, Kd.R_set HC.out HS.out ty_ne 0 _, hne, by omega, hgx.1⟩
  have HX : Hid ((w1.setCell ⟨w.heap.size, 0, none⟩ (.slice Ac ys.length cc)).ownsRow B 3 1 (.slice (some ⟨gx, 0, none⟩) n cx) n (xs.map (Value.int .i64))) := own_move HX.out (fun k hk => Below.heap_setCell _ _ _ k (by have e : gx = k := Option.some.inj hk; rw [← e]; exact Nat.ne_of_lt hgx.2))
  have HBW : Hid (Below B w (w1.setCell ⟨w.heap.size, 0, none⟩ (.slice Ac ys.length cc))) := (hbw.mono hB).setCell (p := ⟨w.heap.size, 0, none⟩) hB _
  clear hr hb hbw hCc
  go_wp2
  rw [rounds_succ]
  clear s0 f0 c0
  go_wp2
  generalize (w1.setCell ⟨w.heap.size, 0, none⟩ (.slice Ac ys.length cc)) = w2 at *
  clear HS HO HY HC HCY HCF
  have hxl : xs.length = n := by simpa using HX.out.1
  go_loopw [7] (fun p wr => ∃ (i : Nat) (zs : List Int), i ≤ n ∧ p = .int .i64 i ∧ Hid (zs.length = n) ∧ Hid (wr.ownsRow B 3 1 (.slice (some ⟨gx, 0, none⟩) n cx) n (zs.map (Value.int .i64))) ∧ Hid (Ap wr B go w.heap.size gx (.slice Ay ys.length cy) (.slice Ac ys.length cc) ys) ∧ Hid (Below B w wr)) (fun p _ => n - (intOf p).toNat)
  case atStart => exact ⟨0, xs, by omega, rfl, hxl, HX.out, HA.out, HBW.out⟩
  case round =>
    obtain ⟨i, zs, hi, rfl, hz, HX, HA, HBW⟩ := hrel
    by_cases hlt : i < n
    · have hd : decide ((i : Int) < (n : Int)) = true := decide_eq_true (by omega)
      have h0 : (0 : Int) ≤ (i : Int) := by omega
      have h1 : (i : Int) < (n : Int) := by omega
      have q1 : i + 1 ≤ n := hlt
      have hR : Kd.R (Kd.int .i64) 3 wr B (fun _ => True) (.slice (some ⟨gx, 0, none⟩) zs.length cx) zs := by
        have := HX.out
        rw [← hz.out] at this
        exact Kd.R_of_own (h1 := fun _ => rfl) this (fun _ _ => trivial)
      obtain ⟨hc, hf⟩ := Kd.R_cell (0 : Int) hR (i : Int) h0 (by have := hz.out; omega)
      rw [Int.toNat_natCast] at hc hf
      go_wp2
      case roundEnd =>
        refine ⟨⟨i + 1, zs.set i (Go.bits .xor .i64 (rdOf 0 zs (i : Int)) 1), q1, rfl, by simp; exact hz.out, ?_, HA.out.setx i _, HBW.out.setCell (p := ⟨gx, i, none⟩) hgx.1 _⟩, meas_nat n i hlt⟩
        have := Kd.own_of_R (Kd.R_put hR (i : Int) (Go.bits .xor .i64 (rdOf 0 zs (i : Int)) 1)).1
        rw [Int.toNat_natCast] at this
        simp only [List.length_set, hz.out] at this
        exact this
    · have hd : decide ((i : Int) < (n : Int)) = false := decide_eq_false (by omega)
      go_wp2
      clear hi hlt hd
      go_loopw [0, 8] (fun v p wr => ∃ (m i : Nat) (zs : List Int), v = .slice (some ⟨gx, 0, none⟩) m cx ∧ i ≤ 3 ∧ p = .int .i64 i ∧ m ≤ n + i ∧ Hid (wr.ownsRow B 3 1 (.slice (some ⟨gx, 0, none⟩) m cx) m (zs.map (Value.int .i64))) ∧ Hid (Ap wr B go w.heap.size gx (.slice Ay ys.length cy) (.slice Ac ys.length cc) ys) ∧ Hid (Below B w wr)) (fun _ p _ => 3 - (intOf p).toNat)
      case atStart => exact ⟨n, 0, zs, rfl, by omega, rfl, by omega, HX.out, HA.out, HBW.out⟩
      case round =>
        obtain ⟨m, i, zs, rfl, hi, rfl, hm', HX, HA, HBW⟩ := hrel
        by_cases hlt : i < 3 ∧ m < cx
        · have hd : decide ((i : Int) < 3) = true := decide_eq_true (by omega)
          have hd2 : decide ((m : Int) < (cx : Int)) = true := decide_eq_true (by omega)
          have q1 : i + 1 ≤ 3 := by omega
          have q3 : m + 1 ≤ n + (i + 1) := by omega
          have q4 : m + 1 ≤ cx := by omega
          have hszb := HBW.out.size
          obtain ⟨i0, hi0, hz0, hz1, hz2⟩ := info3_
          have hown : (wr.alloc (.cells #[.int .i64 55] 3)).ownsRow B 3 1 (.slice (some ⟨gx, 0, none⟩) m cx) m (zs.map (Value.int .i64)) := own_move HX.out (fun k hk => (GB.bla (GB.bl0 wr) _).block k (own_lt HX.out k hk))
          have hnew : ∀ j u, ([.int .i64 55] : List Value)[j]? = some u → (wr.alloc (.cells #[.int .i64 55] 3)).cell? ((⟨wr.heap.size, 0, none⟩ : Addr).add j) = some u := fun j u h => by
            rw [Addr.add_mid, Nat.zero_add]
            exact (GB.Blk.new wr 3 [.int .i64 55]).cell j h
          have hOWN := GB.hid hown
          have hNEW := GB.hid hnew
          clear hown hnew
          have hlt3 := GB.hid hlt.1
          go_upto_region 13 with (fail)
          go_wp2_with (at_builtin; refine wpList_append_own_spare _ rfl _ _ 22 rfl B 3 i0 1 Tryd.underlying22 hi0 hz1 gx m cx _ rfl hOWN.out ⟨wr.heap.size, 0, none⟩ 1 1 [.int .i64 55] rfl rfl hNEW.out (by simp [Value.oneCell']) q4 ?_; intro w3 hown3 hgrow3)
          have e1 : (zs.map (Value.int .i64)) ++ [.int .i64 55] = (zs ++ [(55 : Int)]).map (Value.int .i64) := by simp
          rw [e1] at hown3
          refine ⟨⟨m + 1, i + 1, zs ++ [55], rfl, q1, rfl, q3, hown3, (HA.out.below (GB.bla (GB.bl0 wr) _)).grown hgrow3, ?_⟩, meas_nat 3 i hlt3.out⟩
          exact (HBW.out.alloc (Nat.le_trans hB HBW.out.size) _).grown hgrow3 (by simp only [World.size_alloc]; exact Nat.le_trans hB (Nat.le_succ_of_le hszb)) (fun k hk => by cases hk; exact hgx.1)
        · have last : ∀ (K : Prop), True := fun _ => trivial
          have c1 := HA.out.o.cell 0 rfl
          have c2 := HA.out.s.cell 0 rfl
          have HCY : Hid (Kd.C (Kd.int .i64) wr Ay ys.length ys) := (Kd.R_reads' HA.out.y).2.2
          have HCC' : Hid (Kd.C (Kd.int .i64) wr Ac ys.length ys) := (Kd.R_reads' HA.out.c).2.2
          have HS : Hid (slackwaterkit_SameInts.f 100001 ys ys = some true) := same_self ys hm 100001 (by omega)
          have hcc' := GB.hid hcc
          clear hcc
          have hex : (decide ((i : Int) < 3) = false) ∨ (decide ((i : Int) < 3) = true ∧ decide ((m : Int) < (cx : Int)) = false ∧ decide (m < cx) = false ∧ ¬ m < cx) := by
            by_cases h3 : i < 3
            · exact .inr ⟨decide_eq_true (by omega), decide_eq_false (by omega), decide_eq_false (by omega), by omega⟩
            · exact .inl (decide_eq_false (by omega))
          have size_r := HBW.out.size
          rcases hex with hd | ⟨hd, hd2, hd3, hd4⟩
          all_goals
            go_upto_region 14 with (fail)
            go_wp2
            refine wp_loop_rounds 3 ?_
            rw [rounds_succ]
            go_upto_region 17 with (fail)
            go_region_held3 (fun w' => w'.cell? ⟨go, 0, none⟩ = some (.slice Ay ys.length cy) ∧ w'.cell? ⟨w.heap.size, 0, none⟩ = some (.slice Ac ys.length cc)) (first | exact ⟨c1, c2⟩ | exact ⟨k1, k2⟩) (first
              | (go_at_call 8
                 refine (slackwaterkit_SameInts.calls 100001 Ay cy ys Ac cc ys true _ (Kd.C_drew HCY.out) HCC.out (Kd.C_drew HCC'.out) hcc'.out HS.out).mono ?_
                 rintro e w5 ⟨rfl, hd5⟩
                 have hb5 := GB.bls (GB.bld (GB.bl0 wr)) hd5.below
                 have k1 := (HA.out.o.below hb5).cell 0 rfl
                 have k2 := (HA.out.s.below hb5).cell 0 rfl
                 clear hd5))
            go_wp2
            rw [rounds_succ]
            go_wp2
            go_ret
            exact ⟨rfl, HBW.out.trans (hb5.mono (Nat.le_trans hB size_r))⟩
end Go.Proofs.YtlaiginblmckoaaDoor
