/- Package nat: quotients by a word, shifts by less than a word. -/
import Derived.Test.YtgnmmifeojfjlaaGreatDoorQNat5
import Derived.Test.YtgnmmifeojfjlaaGreatDoorQDivP
set_option linter.unusedVariables false
set_option linter.unusedSimpArgs false
namespace Go.Proofs.YtgnmmifeojfjlaaGreatDoor
open Go Go.RowKit Q

/-- the words below a place are alike -/
def SameLt (zs xs : List Int) (k : Nat) : Prop := ∀ j, j < k → wd zs j = wd xs j
theorem hor32 (x y : Int) (h0 : 0 ≤ x) (h1 : x < 4294967296) (h2 : 0 ≤ y) (h3 : y < 4294967296) : bits .or .u64 (x * 4294967296) y = x * 4294967296 + y := by
  rw [u64_or (x * 4294967296) y (by omega) (by omega) (by omega) (by omega), nat_join32 _ _ (by omega) (by omega)]
  omega
theorem tdiv_of_nonneg {t d : Int} (h : 0 ≤ t) : t.tdiv d = t / d := Int.tdiv_eq_ediv_of_nonneg h
theorem tmod_of_nonneg {t d : Int} (h : 0 ≤ t) : t.tmod d = t % d := Int.tmod_eq_emod_of_nonneg h

set_option maxHeartbeats 1000000 in
set_option maxRecDepth 100000 in
theorem small_calls (A : Option Addr) (c B : Nat) (xs : List Int) (d : Int) (w : World) (ho : Ow w 36 B (.slice A xs.length c) xs) (hx : In w A c xs) (hd0 : 0 < d) (hd1 : d < 4294967296) :
    Calls Tryz.prog 37 #[.slice A xs.length c, .int .u32 d] w fun e w' => ∃ v, e = .returned (.tuple #[v, .int .u32 (val xs % d)]) ∧ Ow w' 36 B v (nwd (val xs / d)) ∧ v.ownBlock = (Value.slice A xs.length c).ownBlock ∧ w.grownBy w' (Value.slice A xs.length c).ownBlock := by
  have hm : xs.length ≤ 35184372087808 := by have := hx.small; omega
  have H := Q.hid hx
  rcases ho.2 with ⟨e, h0⟩ | ⟨g, cap, cur, e, hb, hg, hn, hmx, hs, ht⟩
  · injection e with e1 e2 e3
    have hxe : xs = [] := List.eq_nil_of_length_eq_zero (by omega)
    subst e1 e3 hxe
    have HN : Hid (nwd (val [] / d) = [] ∧ val [] % d = 0) := ⟨by show nwd (0 / d) = []; rw [Int.zero_ediv]; exact nwd_zero, by show (0 : Int) % d = 0; exact Int.zero_emod d⟩
    clear ho hx h0
    go_enter Tryz.func37, Tryz.ntmps37
    go_wp2
    go_loop [6, 7] (fun r i => i = .int .i64 (-1) ∧ r = .int .u64 0) (fun _ _ => 0)
    case atStart => exact ⟨rfl, rfl⟩
    case round =>
      obtain ⟨rfl, rfl⟩ := hrel
      go_wp2_with fail
      refine (cut_calls none 0 [] _ H.out).mono ?_
      rintro e w1 ⟨rfl, rfl⟩
      go_wp2
      go_ret2
      exact ⟨.slice none 0 0, by rw [HN.out.2]; rfl, by rw [HN.out.1]; exact Ow.nil _ _ _, rfl, grown_refl _ _⟩
  · injection e with e1 e2 e3
    subst e1 e3
    have HO : Hid (Ow w 36 B (.slice (some ⟨g, 0, none⟩) xs.length c) xs) := ho
    have HS : Hid (SmV xs d xs xs.length 0) := SmV.start rfl hx.wds hd0
    have HG : Hid (w.grownBy w (some g)) := grown_refl _ _
    have HR : Hid (SameLt xs xs xs.length) := fun _ _ => rfl
    clear ho hx hb hg hn hmx hs ht
    go_enter Tryz.func37, Tryz.ntmps37
    go_wp2
    go_loopw [6, 7] (fun rv i wr => ∃ (k : Nat) (r : Int) (zs : List Int), k ≤ xs.length ∧ i = .int .i64 ((k : Int) - 1) ∧ rv = .int .u64 r ∧ 0 ≤ r ∧ r < d ∧ Hid (Ow wr 36 B (.slice (some ⟨g, 0, none⟩) xs.length c) zs) ∧ Hid (SmV xs d zs k r) ∧ Hid (SameLt zs xs k) ∧ Hid (w.grownBy wr (some g))) (fun _ i _ => (intOf i + 1).toNat)
    case atStart => exact ⟨xs.length, 0, xs, by omega, rfl, rfl, by omega, by omega, HO, HS, HR, HG⟩
    case round =>
      clear HO HS HR HG
      obtain ⟨k, r, zs, hk, rfl, rfl, hr0, hr1, HO, HS, HR, HG⟩ := hrel
      by_cases hk0 : 0 < k
      · obtain ⟨j, rfl⟩ : ∃ j, k = j + 1 := ⟨k - 1, by omega⟩
        have hj : j < xs.length := by omega
        have hkj : ((j + 1 : Nat) : Int) - 1 = (j : Int) := by omega
        have hw := H.out.wds.wd j
        have p1 : 0 ≤ wd xs j := hw.1
        have p2 : wd xs j < 4294967296 := hw.2
        have hcell := HO.out.cell (i := j) (by rw [HS.out.len]; omega)
        rw [HR.out j (by omega)] at hcell
        have hfree := HO.out.free j
        obtain ⟨t, ht⟩ : ∃ t : Int, t = r * 4294967296 + wd xs j := ⟨_, rfl⟩
        have hor : bits BinOp.or IntKind.u64 (r * 4294967296) (wd xs j) = t := by rw [ht]; exact hor32 r _ hr0 (by omega) p1 p2
        have ht0 : 0 ≤ t := by omega
        have hbn := HS.out.bnd H.out.wds
        have HS2 := Q.hid (HS.out.step hj H.out.wds)
        rw [← ht] at hbn HS2
        obtain ⟨q, hq⟩ : ∃ q : Int, q = t / d := ⟨_, rfl⟩
        have hdv : t.tdiv d = q := by rw [hq]; exact tdiv_of_nonneg ht0
        have hmd : t.tmod d = t % d := tmod_of_nonneg ht0
        have m0 : 0 ≤ t % d := Int.emod_nonneg _ (by omega)
        have m1 : t % d < d := Int.emod_lt_of_pos _ hd0
        rw [← hq] at hbn HS2
        have q1 : 0 ≤ q := hbn.1
        have q2 : q < 4294967296 := hbn.2
        have HO2 : Hid (Ow (wr.setCell ⟨g, j, none⟩ (.int .u32 q)) 36 B (.slice (some ⟨g, 0, none⟩) xs.length c) (zs.set j q)) := HO.out.store (by rw [HS.out.len]; omega) _
        have HR2 : Hid (SameLt (zs.set j q) xs j) := fun i hi => by rw [wd_set _ (by rw [HS.out.len]; omega), if_neg (by omega)]; exact HR.out i (by omega)
        have HG2 : Hid (w.grownBy (wr.setCell ⟨g, j, none⟩ (.int .u32 q)) (some g)) := grown_trans HG.out (grown_set _)
        clear HO HS HR HG hw hbn ht hq
        generalize t % d = r2 at *
        rw [hkj]
        go_wp2
        go_roundw
        case rel => exact ⟨j, r2, _, by omega, rfl, rfl, m0, m1, HO2, HS2, HR2, HG2⟩
        case measure => simp [intOf]
      · obtain rfl : k = 0 := by omega
        have HF : Hid (val zs = val xs / d ∧ r = val xs % d) := HS.out.fin
        have HLZ : Hid (zs.length = xs.length) := HS.out.len
        have HI : Hid (In wr (some ⟨g, 0, none⟩) c zs) := ⟨HO.out.read.2.2.2, by rw [HLZ.out]; exact H.out.cap, by rw [HLZ.out]; exact H.out.small, HS.out.wds⟩
        have HT : Hid (trim zs = nwd (val xs / d)) := nwd_trim HS.out.wds HF.out.1
        have HO2 : Hid (Ow wr 36 B (.slice (some ⟨g, 0, none⟩) (trim zs).length c) (nwd (val xs / d))) := by rw [← HT.out]; exact HO.out.trim
        have h0k : ((0 : Nat) : Int) - 1 = -1 := rfl
        clear HO HS HR
        rw [h0k]
        go_wp2_with fail
        have HC := cut_calls (some ⟨g, 0, none⟩) c zs _ HI.out
        rw [HLZ.out] at HC
        refine HC.mono ?_
        rintro e w2 ⟨rfl, rfl⟩
        go_wp2
        go_ret2
        exact ⟨_, by rw [← HF.out.2]; rfl, HO2.out, rfl, HG.out⟩

set_option maxHeartbeats 1000000 in
set_option maxRecDepth 100000 in
theorem up_calls (A : Option Addr) (c s : Nat) (xs : List Int) (w : World) (h : In w A c xs) (hs : s < 32) (hl : xs.length ≤ 1000000) :
    Calls Tryz.prog 31 #[.slice A xs.length c, .int .u64 s] w fun e w' => ∃ zs, e = .returned (.slice (some ⟨w.heap.size, 0, none⟩) (xs.length + 1) (xs.length + 1)) ∧ Ow w' 36 w.heap.size (.slice (some ⟨w.heap.size, 0, none⟩) (xs.length + 1) (xs.length + 1)) zs ∧ Wds zs ∧ zs.length = xs.length + 1 ∧ val zs = val xs * 2 ^ s ∧ wd zs xs.length < 2 ^ s ∧ Below w.heap.size w w' := by
  have H := Q.hid h
  clear h
  have HS : Hid (UpV xs s 0 (List.replicate (xs.length + 1) 0) 0) := UpV.start xs s 0
  have HO : Hid (Ow (w.alloc (.cells (reps (xs.length + 1) (.int .u32 0)) 36)) 36 w.heap.size (.slice (some ⟨w.heap.size, 0, none⟩) (xs.length + 1) (xs.length + 1)) (List.replicate (xs.length + 1) 0)) := Ow.made w _ _ _ (Nat.le_refl _) (by simp only [maxLen]; omega)
  have HB : Hid (Below w.heap.size w (w.alloc (.cells (reps (xs.length + 1) (.int .u32 0)) 36))) := (Below.refl _ _).alloc (Nat.le_refl _) _
  go_enter Tryz.func31, Tryz.ntmps31
  go_wp2_with (at_make; refine wp_mk rfl (.tmp 11) (.tmp 11) 22 36 rfl (.int .u32 0) 4 Tryz.underlying22 infoW rfl _ _ (xs.length + 1) rfl rfl (by omega) (by omega) (by omega) (by simp only [maxLen]; omega) ?_)
  go_loopw [15] (fun i wr => ∃ (k : Nat) (zs : List Int), k ≤ xs.length ∧ i = .int .i64 k ∧ Hid (UpV xs s 0 zs k) ∧ Hid (Ow wr 36 w.heap.size (.slice (some ⟨w.heap.size, 0, none⟩) (xs.length + 1) (xs.length + 1)) zs) ∧ Hid (Below w.heap.size w wr)) (fun i _ => xs.length - (intOf i).toNat)
  case atStart => exact ⟨0, _, by omega, rfl, HS, HO, HB⟩
  case round =>
    clear HS HO HB
    obtain ⟨k, zs, hk, rfl, HS, HO, HB⟩ := hrel
    by_cases hlt : k < xs.length
    · obtain ⟨ad, rfl, hx⟩ := (H.out.rd.below HB.out) k hlt
      have hw := H.out.wds.wd k
      have p1 : 0 ≤ wd xs k := hw.1
      have p2 : wd xs k < 4294967296 := hw.2
      clear hw
      have hcell := HO.out.cell (i := k) (by rw [HS.out.len]; omega)
      have hfree := HO.out.free k
      obtain ⟨a0, a1, a2, a3, a4, a5, a6⟩ := up_parts hs p1 p2
      have z0 := (HS.out.wds.wd k).1
      have z1 : wd zs k < 2 ^ s := HS.out.low
      have HS2 : Hid (UpV xs s 0 ((zs.set k (wd zs k + (wd xs k * 2 ^ s) % 4294967296)).set (k + 1) (wd xs k * 2 ^ s / 4294967296)) (k + 1)) := HS.out.step hs H.out.wds hlt
      have hz2 : k + 1 < zs.length := by rw [HS.out.len]; omega
      have hor : bits BinOp.or IntKind.u32 (wd zs k) ((wd xs k * 2 ^ s) % 4294967296) = wd zs k + (wd xs k * 2 ^ s) % 4294967296 := by
        rw [u32_or _ _ (by omega) (by omega) (by omega) (by omega), Nat.or_comm, nat_join s _ _ ?_ ?_]
        · omega
        · have : (((wd xs k * 2 ^ s) % 4294967296).toNat : Int) % ((2 ^ s : Nat) : Int) = 0 := by rw [Int.toNat_of_nonneg (by omega), Int.natCast_pow]; exact a6
          omega
        · have : ((wd zs k).toNat : Int) < ((2 ^ s : Nat) : Int) := by rw [Int.toNat_of_nonneg (by omega), Int.natCast_pow]; exact z1
          omega
      generalize ht : wd xs k * 2 ^ s = t at *
      have b0 : 0 ≤ wd zs k + t % 4294967296 := by omega
      have b1 : wd zs k + t % 4294967296 < 4294967296 := by omega
      have b2 : t / 4294967296 < 4294967296 := by omega
      have hwr : IntKind.u64.wrap t = t := by rw [IntKind.wrap_u64]; omega
      obtain ⟨y, hy⟩ : ∃ y : Int, y = wd zs k + t % 4294967296 := ⟨_, rfl⟩
      rw [← hy] at b0 b1 hor HS2
      have HO2 := HO.out.store (i := k) (by omega) y
      have HO3 : Hid (Ow ((wr.setCell ⟨w.heap.size, k, none⟩ (.int .u32 y)).setCell ⟨w.heap.size, k + 1, none⟩ (.int .u32 (t / 4294967296))) 36 w.heap.size (.slice (some ⟨w.heap.size, 0, none⟩) (xs.length + 1) (xs.length + 1)) ((zs.set k y).set (k + 1) (t / 4294967296))) := HO2.store (by simp; omega) _
      have hcell2 := HO2.cell (i := k + 1) (by simp; omega)
      have hfree2 := HO2.free (k + 1)
      have HB2 : Hid (Below w.heap.size w ((wr.setCell ⟨w.heap.size, k, none⟩ (.int .u32 y)).setCell ⟨w.heap.size, k + 1, none⟩ (.int .u32 (t / 4294967296)))) := (HB.out.setCell (Nat.le_refl _) _).setCell (Nat.le_refl _) _
      clear HO2 HS HO HB z0 z1 hz2 hy a6 a5 a4 a3
      go_wp2
      go_roundw
      case rel => exact ⟨k + 1, _, by omega, by go_num, HS2, HO3, HB2⟩
      case measure => simp [intOf]; omega
    · obtain rfl : k = xs.length := by omega
      have HV := Q.hid HS.out.fin
      have HL : Hid (wd zs xs.length < 2 ^ s) := HS.out.low
      go_wp2
      go_ret
      exact ⟨zs, rfl, HO.out, HS.out.wds, HS.out.len, by rw [HV.out, Bp_zero, Int.mul_one], HL.out, HB.out⟩

/-- the words from a place on are alike -/
def SameGe (zs xs : List Int) (k : Nat) : Prop := ∀ j, k ≤ j → wd zs j = wd xs j
set_option maxHeartbeats 1000000 in
set_option maxRecDepth 100000 in
theorem down_calls (A : Option Addr) (c B s : Nat) (xs : List Int) (w : World) (ho : Ow w 36 B (.slice A xs.length c) xs) (hx : In w A c xs) (hs : s < 32) :
    Calls Tryz.prog 28 #[.slice A xs.length c, .int .u64 s] w fun e w' => ∃ v, e = .returned v ∧ Ow w' 36 B v (nwd (val xs / 2 ^ s)) ∧ v.ownBlock = (Value.slice A xs.length c).ownBlock ∧ w.grownBy w' (Value.slice A xs.length c).ownBlock := by
  have hm : xs.length ≤ 35184372087808 := by have := hx.small; omega
  have H := Q.hid hx
  rcases ho.2 with ⟨e, h0⟩ | ⟨g, cap, cur, e, hb, hg, hn, hmx, hsz, ht⟩
  · injection e with e1 e2 e3
    have hxe : xs = [] := List.eq_nil_of_length_eq_zero (by omega)
    subst e1 e3 hxe
    have HN : Hid (nwd (val [] / 2 ^ s) = []) := by show nwd (0 / 2 ^ s) = []; rw [Int.zero_ediv]; exact nwd_zero
    clear ho hx h0
    go_enter Tryz.func28, Tryz.ntmps28
    go_wp2
    go_loop [9] (fun i => i = .int .i64 0) (fun _ => 0)
    case atStart => exact rfl
    case round =>
      obtain rfl := hrel
      go_wp2_with fail
      refine (cut_calls none 0 [] _ H.out).mono ?_
      rintro e w1 ⟨rfl, rfl⟩
      go_wp2
      go_ret
      exact ⟨.slice none 0 0, rfl, by rw [HN.out]; exact Ow.nil _ _ _, rfl, grown_refl _ _⟩
  · injection e with e1 e2 e3
    subst e1 e3
    have HO : Hid (Ow w 36 B (.slice (some ⟨g, 0, none⟩) xs.length c) xs) := ho
    have HS : Hid (DnV xs s xs 0) := DnV.start s rfl hx.wds
    have HG : Hid (w.grownBy w (some g)) := grown_refl _ _
    have HR : Hid (SameGe xs xs 0) := fun _ _ => rfl
    clear ho hx hb hg hn hmx hsz ht
    go_enter Tryz.func28, Tryz.ntmps28
    go_wp2
    go_loopw [9] (fun i wr => ∃ (k : Nat) (zs : List Int), k ≤ xs.length ∧ i = .int .i64 k ∧ Hid (Ow wr 36 B (.slice (some ⟨g, 0, none⟩) xs.length c) zs) ∧ Hid (DnV xs s zs k) ∧ Hid (SameGe zs xs k) ∧ Hid (w.grownBy wr (some g))) (fun i _ => xs.length - (intOf i).toNat)
    case atStart => exact ⟨0, xs, by omega, rfl, HO, HS, HR, HG⟩
    case round =>
      clear HO HS HR HG
      obtain ⟨k, zs, hk, rfl, HO, HS, HR, HG⟩ := hrel
      by_cases hlt : k < xs.length
      · have hw := H.out.wds.wd k
        have hw' := H.out.wds.wd (k + 1)
        have p1 : 0 ≤ wd xs k := hw.1
        have p2 : wd xs k < 4294967296 := hw.2
        have p3 : 0 ≤ wd xs (k + 1) := hw'.1
        have p4 : wd xs (k + 1) < 4294967296 := hw'.2
        have hcell := HO.out.cell (i := k) (by rw [HS.out.len]; omega)
        rw [HR.out k (by omega)] at hcell
        have hfree := HO.out.free k
        have hdn := dn_parts hs p1 p2 p3 p4
        have HS2 := Q.hid (HS.out.step hs H.out.wds hlt)
        obtain ⟨t, ht⟩ : ∃ t : Int, t = wd xs k + wd xs (k + 1) * 4294967296 := ⟨_, rfl⟩
        rw [← ht] at hdn HS2
        have t0 : 0 ≤ t := by omega
        have t1 : t < 18446744073709551616 := by omega
        have q0 : 0 ≤ t / 2 ^ s := hdn.1
        have HO2 : Hid (Ow (wr.setCell ⟨g, k, none⟩ (.int .u32 (t / 2 ^ s % 4294967296))) 36 B (.slice (some ⟨g, 0, none⟩) xs.length c) (zs.set k (t / 2 ^ s % 4294967296))) := HO.out.store (by rw [HS.out.len]; omega) _
        have HR2 : Hid (SameGe (zs.set k (t / 2 ^ s % 4294967296)) xs (k + 1)) := fun i hi => by rw [wd_set _ (by rw [HS.out.len]; omega), if_neg (by omega)]; exact HR.out i (by omega)
        have HG2 : Hid (w.grownBy (wr.setCell ⟨g, k, none⟩ (.int .u32 (t / 2 ^ s % 4294967296))) (some g)) := grown_trans HG.out (grown_set _)
        by_cases hl2 : k + 1 < xs.length
        · have hlc : decide ((k : Int) + 1 < (xs.length : Int)) = true := decide_eq_true (by omega)
          have hcell2 := HO.out.cell (i := k + 1) (by rw [HS.out.len]; omega)
          rw [HR.out (k + 1) (by omega)] at hcell2
          have hor : bits BinOp.or IntKind.u64 (wd xs k) (wd xs (k + 1) * 4294967296) = t := by rw [ht, or32 _ _ p1 p2 p3 p4]; omega
          clear HO HS HR HG hw hw' hdn ht
          go_wp2
          go_roundw
          case rel => exact ⟨k + 1, _, by omega, by go_num, HO2, HS2, HR2, HG2⟩
          case measure => simp [intOf]; omega
        · have hlc : decide ((k : Int) + 1 < (xs.length : Int)) = false := decide_eq_false (by omega)
          have hxt : wd xs k = t := by rw [ht, wd_ge (xs := xs) (i := k + 1) (by omega)]; omega
          rw [hxt] at hcell
          clear HO HS HR HG hw hw' hdn ht hxt
          go_wp2
          go_roundw
          case rel => exact ⟨k + 1, _, by omega, by go_num, HO2, HS2, HR2, HG2⟩
          case measure => simp [intOf]; omega
      · obtain rfl : k = xs.length := by omega
        have HLZ : Hid (zs.length = xs.length) := HS.out.len
        have HI : Hid (In wr (some ⟨g, 0, none⟩) c zs) := ⟨HO.out.read.2.2.2, by rw [HLZ.out]; exact H.out.cap, by rw [HLZ.out]; exact H.out.small, HS.out.wds⟩
        have HT : Hid (trim zs = nwd (val xs / 2 ^ s)) := nwd_trim HS.out.wds HS.out.fin
        have HO2 : Hid (Ow wr 36 B (.slice (some ⟨g, 0, none⟩) (trim zs).length c) (nwd (val xs / 2 ^ s))) := by rw [← HT.out]; exact HO.out.trim
        clear HO HS HR
        go_wp2_with fail
        have HC := cut_calls (some ⟨g, 0, none⟩) c zs _ HI.out
        rw [HLZ.out] at HC
        refine HC.mono ?_
        rintro e w2 ⟨rfl, rfl⟩
        go_wp2
        go_ret
        exact ⟨_, rfl, HO2.out, rfl, HG.out⟩
end Go.Proofs.YtgnmmifeojfjlaaGreatDoor
