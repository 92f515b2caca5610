import Derived.Test.YtgnmmifeojfjlaaGreatDoorQNat9
import Derived.IntWalk
/- nat.grow: an own row times a thousand million, and more. -/
set_option linter.unusedVariables false
set_option linter.unusedSimpArgs false
namespace Go.Proofs.YtgnmmifeojfjlaaGreatDoor
open Go Go.RowKit Q
structure GrV (xs : List Int) (m : Int) (zs : List Int) (c : Int) (k : Nat) : Prop where
  len : zs.length = xs.length
  wds : Wds zs
  c0 : 0 ≤ c
  c1 : c < 4294967296
  sum : val (zs.take k) + Bp k * c = val (xs.take k) * 1000000000 + m
theorem GrV.start {xs : List Int} {m : Int} (hx : Wds xs) (m0 : 0 ≤ m) (m1 : m < 4294967296) : GrV xs m xs m 0 := ⟨rfl, hx, m0, m1, by rw [List.take_zero, Bp_zero, Int.one_mul]; show (0 : Int) + m = 0 * 1000000000 + m; omega⟩
theorem GrV.step {xs zs : List Int} {m c : Int} {k : Nat} (h : GrV xs m zs c k) (hx : Wds xs) (hk : k < xs.length) :
    GrV xs m (zs.set k ((c + wd xs k * 1000000000) % 4294967296)) ((c + wd xs k * 1000000000) / 4294967296) (k + 1) := by
  have hw := hx.wd k
  have h0 := h.c0
  have h1 := h.c1
  refine ⟨by rw [List.length_set]; exact h.len, h.wds.set k (by omega) (by omega), by omega, by omega, ?_⟩
  rw [val_take_set (by rw [h.len]; exact hk), val_take_succ hk, Bp_succ]
  have e := Int.mul_ediv_add_emod (c + wd xs k * 1000000000) 4294967296
  have s := h.sum
  generalize hq : (c + wd xs k * 1000000000) / 4294967296 = q at *
  generalize hr : (c + wd xs k * 1000000000) % 4294967296 = r at *
  have e1 : Bp k * (4294967296 * q + r) = Bp k * (c + wd xs k * 1000000000) := by rw [e]
  rw [Int.mul_add, Int.mul_add, ← Int.mul_assoc, ← Int.mul_assoc (Bp k) (wd xs k), Int.mul_comm (Bp k) 4294967296] at e1
  generalize 4294967296 * Bp k * q = u1 at *
  generalize Bp k * r = u2 at *
  generalize Bp k * c = u3 at *
  generalize Bp k * wd xs k = u4 at *
  omega
theorem gr_w64 {k n : Nat} (h : k < n) (hn : n ≤ 100000) : wrap64 ((k : Int) + 1) = ((k + 1 : Nat) : Int) := by unfold wrap64; omega
theorem gr_io (x : Int) : intOf (.int .i64 x) = x := rfl
theorem gr_ms {k n : Nat} (h : k < n) (hn : n ≤ 100000) : n - (intOf (.int .i64 (wrap64 ((k : Int) + 1)))).toNat < n - (intOf (.int .i64 (k : Int))).toNat := by
  rw [gr_io, gr_io, gr_w64 h hn, Int.toNat_natCast, Int.toNat_natCast]
  omega
theorem GrV.fin {xs zs : List Int} {m c : Int} (h : GrV xs m zs c xs.length) : val zs + Bp xs.length * c = val xs * 1000000000 + m := by
  have := h.sum
  rwa [val_take_ge (by rw [h.len]; exact Nat.le_refl _), val_take_ge (Nat.le_refl _)] at this
set_option maxHeartbeats 2000000 in
set_option maxRecDepth 100000 in
theorem grow_calls (A : Option Addr) (c0 B : Nat) (xs : List Int) (m : Int) (w : World) (ho : Ow w 36 B (.slice A xs.length c0) xs) (hx : Wds xs) (hl : xs.length ≤ 100000) (m0 : 0 ≤ m) (m1 : m < 4294967296) (hB : B ≤ w.heap.size) :
    Calls Tryz.prog 45 #[.slice A xs.length c0, .int .u32 1000000000, .int .u32 m] w fun e w' => ∃ v : Value, e = .returned v ∧ ∃ zs : List Int, Ow w' 36 B v zs ∧ Wds zs ∧ zs.length ≤ xs.length + 1 ∧ val zs = val xs * 1000000000 + m ∧ Below B w w' := by
  have HX : Hid (Wds xs) := hx
  have HL : Hid (xs.length ≤ 100000) := hl
  have HB : Hid (B ≤ w.heap.size) := hB
  rcases ho.2 with ⟨e, h0⟩ | ⟨g, cap, cur, e, hb, hg, hn, hmx, hsz, ht⟩
  · injection e with e1 e2 e3
    have hxe : xs = [] := List.eq_nil_of_length_eq_zero (by omega)
    subst e1 e3 hxe
    have HN : Hid (Ow w 36 B (.slice none 0 0) []) := Ow.nil _ _ _
    clear ho hx h0 hB
    go_enter Tryz.func45, Tryz.ntmps45
    go_wp2
    go_loopw [7, 14] (fun v i wr => i = .int .i64 0 ∧ v = .int .u64 m ∧ Hid (wr = w)) (fun _ i _ => 0)
    case atStart => exact ⟨rfl, rfl, rfl⟩
    case round =>
      obtain ⟨rfl, rfl, hwr⟩ := hrel
      obtain rfl := hwr.out
      clear hwr
      by_cases hc : 0 < m
      · have hcd : decide (0 < m) = true := decide_eq_true hc
        go_wp2_with (at_builtin; refine wp_app1 rfl (.tmp 36) (.tmp 39) 22 36 rfl Tryz.underlying22 infoW B _ [] m rfl HN.out rfl (by simp) HB.out ?_; intro v2 w2 ho hg hat)
        go_ret
        refine ⟨v2, rfl, [m], ho, Wds.cons m0 m1 Wds.nil, by simp, ?_, ?_⟩
        · show m + 4294967296 * 0 = 0 * 1000000000 + m
          omega
        · exact (Below.refl B _).grown hg HB.out (fun k hk => by cases hk)
      · have hcd : decide (0 < m) = false := decide_eq_false hc
        go_wp2
        go_ret
        refine ⟨_, rfl, [], HN.out, Wds.nil, by simp, ?_, Below.refl _ _⟩
        show (0 : Int) = 0 * 1000000000 + m
        omega
  · injection e with e1 e2 e3
    subst e1 e3
    have HO : Hid (Ow w 36 B (.slice (some ⟨g, 0, none⟩) xs.length c0) xs) := ho
    have HS : Hid (GrV xs m xs m 0) := GrV.start hx m0 m1
    have HG : Hid (w.grownBy w (some g)) := grown_refl _ _
    have HR : Hid (SameGe xs xs 0) := fun _ _ => rfl
    have HGB : Hid (B ≤ g) := hb
    clear ho hx hb hg hn hmx hsz ht hl hB
    go_enter Tryz.func45, Tryz.ntmps45
    go_wp2
    go_loopw [7, 14] (fun v i wr => ∃ (k : Nat) (c : Int) (zs : List Int), k ≤ xs.length ∧ i = .int .i64 k ∧ v = .int .u64 c ∧ Hid (Ow wr 36 B (.slice (some ⟨g, 0, none⟩) xs.length c0) zs) ∧ Hid (GrV xs m zs c k) ∧ Hid (SameGe zs xs k) ∧ Hid (w.grownBy wr (some g))) (fun _ i _ => xs.length - (intOf i).toNat)
    case atStart => exact ⟨0, m, xs, by omega, rfl, rfl, HO, HS, HR, HG⟩
    case round =>
      clear HO HS HR HG
      obtain ⟨k, c, zs, hk, rfl, rfl, HO, HS, HR, HG⟩ := hrel
      by_cases hlt : k < xs.length
      · have hw := HX.out.wd k
        have p1 : 0 ≤ wd xs k := hw.1
        have p2 : wd xs k < 4294967296 := hw.2
        have q1 : 0 ≤ c := HS.out.c0
        have q2 : c < 4294967296 := HS.out.c1
        have hcell := HO.out.cell (i := k) (by rw [HS.out.len]; omega)
        rw [HR.out k (by omega)] at hcell
        have hfree := HO.out.free k
        have HS2 := Q.hid (HS.out.step HX.out hlt)
        have hw1 : IntKind.u64.wrap (wd xs k * 1000000000) = wd xs k * 1000000000 := by rw [IntKind.wrap_u64]; omega
        have hw2 : IntKind.u64.wrap (c + wd xs k * 1000000000) = c + wd xs k * 1000000000 := by rw [IntKind.wrap_u64]; omega
        have HO2 := Q.hid (HO.out.store (i := k) (by rw [HS.out.len]; omega) ((c + wd xs k * 1000000000) % 4294967296))
        have HR2 : Hid (SameGe (zs.set k ((c + wd xs k * 1000000000) % 4294967296)) xs (k + 1)) := fun i hi => by rw [wd_set _ (by rw [HS.out.len]; omega), if_neg (by omega)]; exact HR.out i (by omega)
        have HG2 : Hid (w.grownBy (wr.setCell ⟨g, k, none⟩ (.int .u32 ((c + wd xs k * 1000000000) % 4294967296))) (some g)) := grown_trans HG.out (grown_set _)
        clear HO HS HR HG hw
        go_wp2
        go_roundw
        case rel => exact ⟨k + 1, _, _, by omega, by rw [gr_w64 hlt HL.out], rfl, HO2, HS2, HR2, HG2⟩
        case measure => exact gr_ms hlt HL.out
      · obtain rfl : k = xs.length := by omega
        have HF := Q.hid HS.out.fin
        have HZ := Q.hid HS.out.len
        have HW := Q.hid HS.out.wds
        have HBL : Hid (Below B w wr) := (Below.refl B w).grown HG.out HB.out (fun k hk => by cases hk; exact HGB.out)
        have hle : (zs.length + 1) * 4 ≤ 140737488355328 := by have := HZ.out; have := HL.out; omega
        have q1 : 0 ≤ c := HS.out.c0
        have q2 : c < 4294967296 := HS.out.c1
        clear HS HR HG
        by_cases hc : 0 < c
        · have hcd : decide (0 < c) = true := decide_eq_true hc
          go_wp2_with (at_builtin; refine wp_app1 rfl (.tmp 36) (.tmp 39) 22 36 rfl Tryz.underlying22 infoW B _ zs c rfl HO.out rfl hle (Nat.le_trans HB.out HBL.out.size) ?_; intro v2 w2 ho hg hat)
          go_ret
          refine ⟨v2, rfl, zs ++ [c], ho, HW.out.append (Wds.cons q1 q2 Wds.nil), by rw [List.length_append, HZ.out]; simp, ?_, ?_⟩
          · rw [val_append, HZ.out]
            have := HF.out
            rw [← this]
            have e1 : val [c] = c := by show c + 4294967296 * 0 = c; omega
            rw [e1]
          · exact HBL.out.grown hg (Nat.le_trans HB.out HBL.out.size) (fun k hk => by cases hk; exact HGB.out)
        · have hcd : decide (0 < c) = false := decide_eq_false hc
          go_wp2
          go_ret
          refine ⟨_, rfl, zs, HO.out, HW.out, by rw [HZ.out]; omega, ?_, HBL.out⟩
          have := HF.out
          have e : c = 0 := by omega
          rw [e, Int.mul_zero] at this
          omega
end Go.Proofs.YtgnmmifeojfjlaaGreatDoor
