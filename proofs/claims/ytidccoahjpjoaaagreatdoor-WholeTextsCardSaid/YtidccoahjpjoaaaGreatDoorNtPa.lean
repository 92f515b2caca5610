import Derived.Test.YtidccoahjpjoaaaGreatDoorTShelf
import Derived.Shelf.Strings.SlTrimAscii
import Derived.Test.YtidccoahjpjoaaaGreatDoorNtNu
import Derived.WalkKit
import Derived.Below
import Derived.Test.YtidccoahjpjoaaaGreatDoorQNat9
import Derived.IntWalk
import Derived.Test.YtidccoahjpjoaaaGreatDoorShelf
import Derived.Test.YtidccoahjpjoaaaGreatDoorNtC
/- strings.Trim by the ten digits; numerals. -/
set_option linter.unusedVariables false
set_option linter.unusedSimpArgs false
namespace Go.Proofs.YtidccoahjpjoaaaGreatDoor.PA
open Go Go.RowKit Go.Proofs
def tens : ByteArray := ⟨#[48, 49, 50, 51, 52, 53, 54, 55, 56, 57]⟩
theorem tens_has (b : UInt8) : tens.data.toList.contains b = dig b := by
  have h : ∀ n : Fin 256, tens.data.toList.contains (UInt8.ofNat n.val) = dig (UInt8.ofNat n.val) := by decide +kernel
  have := h ⟨b.toNat, b.toNat_lt⟩
  rwa [UInt8.ofNat_toNat] at this
theorem dropWhile_nil {p : UInt8 → Bool} : ∀ l : List UInt8, l.dropWhile p = [] ↔ l.all p = true
  | [] => by simp
  | b :: r => by
    rw [List.dropWhile_cons, List.all_cons]
    by_cases h : p b = true
    · rw [if_pos h, h, Bool.true_and]; exact dropWhile_nil r
    · rw [if_neg h, Bool.eq_false_iff.2 h]; simp
theorem dropWhile_all {p : UInt8 → Bool} (l : List UInt8) : (l.dropWhile p).all p = true ↔ l.all p = true := by
  rw [← dropWhile_nil, ← dropWhile_nil]
  constructor
  · intro h
    cases hl : l.dropWhile p with
    | nil => rfl
    | cons b r =>
      have hb : p b = false := by
        have := List.head_dropWhile_not (p := p) (l := l) (by rw [hl]; simp)
        simpa [hl] using this
      rw [hl, List.dropWhile_cons, if_neg (by rw [hb]; simp)] at h
      cases h
  · intro h; rw [h]; rfl
theorem trim_nil (l : List UInt8) : Lib.trimS l tens.data.toList = [] ↔ l.all dig = true := by
  have e : (fun b => tens.data.toList.contains b) = dig := funext tens_has
  unfold Lib.trimS Lib.trimLeftS Lib.trimRightS
  show List.dropWhile (fun b => tens.data.toList.contains b) (List.dropWhile (fun b => tens.data.toList.contains b) l.reverse).reverse = [] ↔ _
  rw [e, dropWhile_nil, List.all_reverse, dropWhile_all, List.all_reverse]
theorem size0 (t : List UInt8) : (⟨t.toArray⟩ : ByteArray).size = 0 ↔ t = [] := by
  show t.toArray.size = 0 ↔ t = []
  simp
theorem trim_calls (s : ByteArray) (w : World) (h0 : 0 < s.size) (hs : s.size ≤ 65536) :
    Calls Tryz.prog 66 #[.string s, .string tens] w fun e w' => ∃ t : ByteArray, e = .returned (.string t) ∧ (t.size = 0 ↔ s.data.toList.all dig = true) ∧ Below w.heap.size w w' := by
  refine (Any.strings_Trim_set Tryz.lays160 (fun _ => by kernel_rfl) (by kernel_rfl) s tens w (by decide) h0 (by omega) (by decide) ?_).mono ?_
  · intro j b hj
    have hm := List.mem_of_getElem? hj
    have : dig b = true := by
      rw [← tens_has]
      exact List.contains_iff_mem.2 hm
    have := of_decide_eq_true this
    omega
  · rintro e w' ⟨rfl, q, rfl⟩
    refine ⟨_, rfl, ?_, ?_⟩
    · rw [← trim_nil]
      exact size0 _
    · have h1 := ((Below.refl w.heap.size w).alloc (Nat.le_refl _) (.cells (Lib.setCells tens.data.toList) (Tryz.lays160_ren.t 116)))
      have h2 := h1.alloc h1.size (.cells (Lib.setCells tens.data.toList) (Tryz.lays160_ren.t 116))
      exact ⟨h2.os, h2.tape, h2.output, h2.size, h2.block⟩
end Go.Proofs.YtidccoahjpjoaaaGreatDoor.PA
/- nat.grow: an own row times a thousand million, and more. -/
set_option linter.unusedVariables false
set_option linter.unusedSimpArgs false
namespace Go.Proofs.YtidccoahjpjoaaaGreatDoor
open Go Go.RowKit Q
structure GrV (xs : List Int) (m : Int) (zs : List Int) (c : Int) (k : Nat) : Prop where
  len : zs.length = xs.length
  wds : Wds zs
  c0 : 0 ≤ c
  c1 : c < 4294967296
  sum : val (zs.take k) + Bp k * c = val (xs.take k) * 1000000000 + m
theorem GrV.start {xs : List Int} {m : Int} (hx : Wds xs) (m0 : 0 ≤ m) (m1 : m < 4294967296) : GrV xs m xs m 0 := ⟨rfl, hx, m0, m1, by rw [List.take_zero, Bp_zero, Int.one_mul]; show (0 : Int) + m = 0 * 1000000000 + m; omega⟩
theorem GrV.step {xs zs : List Int} {m c : Int} {k : Nat} (h : GrV xs m zs c k) (hx : Wds xs) (hk : k < xs.length) :
    GrV xs m (zs.set k ((c + wd xs k * 1000000000) % 4294967296)) ((c + wd xs k * 1000000000) / 4294967296) (k + 1) := by
  have hw := hx.wd k
  have h0 := h.c0
  have h1 := h.c1
  refine ⟨by rw [List.length_set]; exact h.len, h.wds.set k (by omega) (by omega), by omega, by omega, ?_⟩
  rw [val_take_set (by rw [h.len]; exact hk), val_take_succ hk, Bp_succ]
  have e := Int.mul_ediv_add_emod (c + wd xs k * 1000000000) 4294967296
  have s := h.sum
  generalize hq : (c + wd xs k * 1000000000) / 4294967296 = q at *
  generalize hr : (c + wd xs k * 1000000000) % 4294967296 = r at *
  have e1 : Bp k * (4294967296 * q + r) = Bp k * (c + wd xs k * 1000000000) := by rw [e]
  rw [Int.mul_add, Int.mul_add, ← Int.mul_assoc, ← Int.mul_assoc (Bp k) (wd xs k), Int.mul_comm (Bp k) 4294967296] at e1
  generalize 4294967296 * Bp k * q = u1 at *
  generalize Bp k * r = u2 at *
  generalize Bp k * c = u3 at *
  generalize Bp k * wd xs k = u4 at *
  omega
theorem gr_w64 {k n : Nat} (h : k < n) (hn : n ≤ 100000) : wrap64 ((k : Int) + 1) = ((k + 1 : Nat) : Int) := by unfold wrap64; omega
theorem gr_io (x : Int) : intOf (.int .i64 x) = x := rfl
theorem gr_ms {k n : Nat} (h : k < n) (hn : n ≤ 100000) : n - (intOf (.int .i64 (wrap64 ((k : Int) + 1)))).toNat < n - (intOf (.int .i64 (k : Int))).toNat := by
  rw [gr_io, gr_io, gr_w64 h hn, Int.toNat_natCast, Int.toNat_natCast]
  omega
theorem GrV.fin {xs zs : List Int} {m c : Int} (h : GrV xs m zs c xs.length) : val zs + Bp xs.length * c = val xs * 1000000000 + m := by
  have := h.sum
  rwa [val_take_ge (by rw [h.len]; exact Nat.le_refl _), val_take_ge (Nat.le_refl _)] at this
set_option maxHeartbeats 2000000 in
set_option maxRecDepth 100000 in
theorem grow_calls (A : Option Addr) (c0 B : Nat) (xs : List Int) (m : Int) (w : World) (ho : Ow w 50 B (.slice A xs.length c0) xs) (hx : Wds xs) (hl : xs.length ≤ 100000) (m0 : 0 ≤ m) (m1 : m < 4294967296) (hB : B ≤ w.heap.size) :
    Calls Tryz.prog 68 #[.slice A xs.length c0, .int .u32 1000000000, .int .u32 m] w fun e w' => ∃ v : Value, e = .returned v ∧ ∃ zs : List Int, Ow w' 50 B v zs ∧ Wds zs ∧ zs.length ≤ xs.length + 1 ∧ val zs = val xs * 1000000000 + m ∧ Below B w w' := by
  have HX : Hid (Wds xs) := hx
  have HL : Hid (xs.length ≤ 100000) := hl
  have HB : Hid (B ≤ w.heap.size) := hB
  rcases ho.2 with ⟨e, h0⟩ | ⟨g, cap, cur, e, hb, hg, hn, hmx, hsz, ht⟩
  · injection e with e1 e2 e3
    have hxe : xs = [] := List.eq_nil_of_length_eq_zero (by omega)
    subst e1 e3 hxe
    have HN : Hid (Ow w 50 B (.slice none 0 0) []) := Ow.nil _ _ _
    clear ho hx h0 hB
    go_enter Tryz.func68, Tryz.ntmps68
    go_wp2
    go_loopw [7, 14] (fun v i wr => i = .int .i64 0 ∧ v = .int .u64 m ∧ Hid (wr = w)) (fun _ i _ => 0)
    case atStart => exact ⟨rfl, rfl, rfl⟩
    case round =>
      obtain ⟨rfl, rfl, hwr⟩ := hrel
      obtain rfl := hwr.out
      clear hwr
      by_cases hc : 0 < m
      · have hcd : decide (0 < m) = true := decide_eq_true hc
        go_wp2_with (at_builtin; refine wp_app1 rfl (.tmp 36) (.tmp 39) 22 50 rfl Tryz.underlying22 infoW B _ [] m rfl HN.out rfl (by simp) HB.out ?_; intro v2 w2 ho hg hat)
        go_ret
        refine ⟨v2, rfl, [m], ho, Wds.cons m0 m1 Wds.nil, by simp, ?_, ?_⟩
        · show m + 4294967296 * 0 = 0 * 1000000000 + m
          omega
        · exact (Below.refl B _).grown hg HB.out (fun k hk => by cases hk)
      · have hcd : decide (0 < m) = false := decide_eq_false hc
        go_wp2
        go_ret
        refine ⟨_, rfl, [], HN.out, Wds.nil, by simp, ?_, Below.refl _ _⟩
        show (0 : Int) = 0 * 1000000000 + m
        omega
  · injection e with e1 e2 e3
    subst e1 e3
    have HO : Hid (Ow w 50 B (.slice (some ⟨g, 0, none⟩) xs.length c0) xs) := ho
    have HS : Hid (GrV xs m xs m 0) := GrV.start hx m0 m1
    have HG : Hid (w.grownBy w (some g)) := grown_refl _ _
    have HR : Hid (SameGe xs xs 0) := fun _ _ => rfl
    have HGB : Hid (B ≤ g) := hb
    clear ho hx hb hg hn hmx hsz ht hl hB
    go_enter Tryz.func68, Tryz.ntmps68
    go_wp2
    go_loopw [7, 14] (fun v i wr => ∃ (k : Nat) (c : Int) (zs : List Int), k ≤ xs.length ∧ i = .int .i64 k ∧ v = .int .u64 c ∧ Hid (Ow wr 50 B (.slice (some ⟨g, 0, none⟩) xs.length c0) zs) ∧ Hid (GrV xs m zs c k) ∧ Hid (SameGe zs xs k) ∧ Hid (w.grownBy wr (some g))) (fun _ i _ => xs.length - (intOf i).toNat)
    case atStart => exact ⟨0, m, xs, by omega, rfl, rfl, HO, HS, HR, HG⟩
    case round =>
      clear HO HS HR HG
      obtain ⟨k, c, zs, hk, rfl, rfl, HO, HS, HR, HG⟩ := hrel
      by_cases hlt : k < xs.length
      · have hw := HX.out.wd k
        have p1 : 0 ≤ wd xs k := hw.1
        have p2 : wd xs k < 4294967296 := hw.2
        have q1 : 0 ≤ c := HS.out.c0
        have q2 : c < 4294967296 := HS.out.c1
        have hcell := HO.out.cell (i := k) (by rw [HS.out.len]; omega)
        rw [HR.out k (by omega)] at hcell
        have hfree := HO.out.free k
        have HS2 := Q.hid (HS.out.step HX.out hlt)
        have hw1 : IntKind.u64.wrap (wd xs k * 1000000000) = wd xs k * 1000000000 := by rw [IntKind.wrap_u64]; omega
        have hw2 : IntKind.u64.wrap (c + wd xs k * 1000000000) = c + wd xs k * 1000000000 := by rw [IntKind.wrap_u64]; omega
        have HO2 := Q.hid (HO.out.store (i := k) (by rw [HS.out.len]; omega) ((c + wd xs k * 1000000000) % 4294967296))
        have HR2 : Hid (SameGe (zs.set k ((c + wd xs k * 1000000000) % 4294967296)) xs (k + 1)) := fun i hi => by rw [wd_set _ (by rw [HS.out.len]; omega), if_neg (by omega)]; exact HR.out i (by omega)
        have HG2 : Hid (w.grownBy (wr.setCell ⟨g, k, none⟩ (.int .u32 ((c + wd xs k * 1000000000) % 4294967296))) (some g)) := grown_trans HG.out (grown_set _)
        clear HO HS HR HG hw
        go_wp2
        go_roundw
        case rel => exact ⟨k + 1, _, _, by omega, by rw [gr_w64 hlt HL.out], rfl, HO2, HS2, HR2, HG2⟩
        case measure => exact gr_ms hlt HL.out
      · obtain rfl : k = xs.length := by omega
        have HF := Q.hid HS.out.fin
        have HZ := Q.hid HS.out.len
        have HW := Q.hid HS.out.wds
        have HBL : Hid (Below B w wr) := (Below.refl B w).grown HG.out HB.out (fun k hk => by cases hk; exact HGB.out)
        have hle : (zs.length + 1) * 4 ≤ 140737488355328 := by have := HZ.out; have := HL.out; omega
        have q1 : 0 ≤ c := HS.out.c0
        have q2 : c < 4294967296 := HS.out.c1
        clear HS HR HG
        by_cases hc : 0 < c
        · have hcd : decide (0 < c) = true := decide_eq_true hc
          go_wp2_with (at_builtin; refine wp_app1 rfl (.tmp 36) (.tmp 39) 22 50 rfl Tryz.underlying22 infoW B _ zs c rfl HO.out rfl hle (Nat.le_trans HB.out HBL.out.size) ?_; intro v2 w2 ho hg hat)
          go_ret
          refine ⟨v2, rfl, zs ++ [c], ho, HW.out.append (Wds.cons q1 q2 Wds.nil), by rw [List.length_append, HZ.out]; simp, ?_, ?_⟩
          · rw [val_append, HZ.out]
            have := HF.out
            rw [← this]
            have e1 : val [c] = c := by show c + 4294967296 * 0 = c; omega
            rw [e1]
          · exact HBL.out.grown hg (Nat.le_trans HB.out HBL.out.size) (fun k hk => by cases hk; exact HGB.out)
        · have hcd : decide (0 < c) = false := decide_eq_false hc
          go_wp2
          go_ret
          refine ⟨_, rfl, zs, HO.out, HW.out, by rw [HZ.out]; omega, ?_, HBL.out⟩
          have := HF.out
          have e : c = 0 := by omega
          rw [e, Int.mul_zero] at this
          omega
end Go.Proofs.YtidccoahjpjoaaaGreatDoor
/- nat.Parse, walked. -/
set_option linter.unusedVariables false
set_option linter.unusedSimpArgs false
namespace Go.Proofs.YtidccoahjpjoaaaGreatDoor
open Go Go.RowKit Q
/-- may a text be a natural number's? -/
def okT (l : List UInt8) : Bool := l.all PA.dig && (match l with | [] => false | b :: r => b.toNat != 48 || r.isEmpty)
theorem toList_eq (s : ByteArray) : s.toList = s.data.toList := Lib.toList_data s
theorem empty_of {s : ByteArray} (h : 0 < s.size) : s.toList.isEmpty = false := by
  rw [toList_eq]
  cases hl : s.data.toList with
  | nil => have := Lib.size_eq s; rw [hl, List.length_nil] at this; omega
  | cons _ _ => rfl
theorem empty_iff (s : ByteArray) : s.toList.isEmpty = true ↔ s.size = 0 := by
  rw [toList_eq, Lib.size_eq]
  cases s.data.toList <;> simp
set_option maxHeartbeats 2000000 in
set_option maxRecDepth 100000 in
theorem Parse_no (s : ByteArray) (w : World) (h0 : 0 < s.size) (h1 : s.size ≤ 65536) (hb : s.data.toList.all PA.dig = false ∨ (s[0].toNat = 48 ∧ 1 < s.size)) :
    Calls Tryz.prog 34 #[.string s] w fun e w' => ∃ v, e = .returned (.tuple #[v, .int .i64 110]) ∧ Ow w' 50 w.heap.size v [] ∧ Below w.heap.size w w' := by
  have d1 : decide (65536 < (s.size : Int)) = false := decide_eq_false (by omega)
  have d2 : decide (65536 < s.size) = false := decide_eq_false (by omega)
  have he := empty_of h0
  go_enter Tryz.func34, Tryz.ntmps34
  go_wp2_with fail
  refine (PA.trim_calls s _ h0 h1).mono ?_
  rintro e w1 ⟨t, rfl, ht, hB0⟩
  have hB := Q.hid hB0
  clear hB0
  by_cases ha : s.data.toList.all PA.dig = true
  · have ht2 : t.toList.isEmpty = true := (empty_iff t).2 (ht.2 ha)
    obtain ⟨b0, b1⟩ : s[0].toNat = 48 ∧ 1 < s.size := by
      rcases hb with hb | hb
      · rw [ha] at hb; cases hb
      · exact hb
    have b2 : ((s[0].toNat : Int)) = 48 := by omega
    have b3 : decide (1 < (s.size : Int)) = true := decide_eq_true (by omega)
    have b4 : decide (1 < s.size) = true := decide_eq_true (by omega)
    clear b0 b1
    go_wp2_with fail
    go_ret2
    exact ⟨.slice none 0 0, rfl, Ow.nil _ _ _, hB.out⟩
  · have ht2 : t.toList.isEmpty = false := Bool.eq_false_iff.2 (fun h => ha (ht.1 ((empty_iff t).1 h)))
    go_wp2_with fail
    go_ret2
    exact ⟨.slice none 0 0, rfl, Ow.nil _ _ _, hB.out⟩
/-- what has been read so far -/
structure PaV (s : ByteArray) (q : ByteArray) (xs : List Int) (pre : List UInt8) : Prop where
  cut : s.data.toList = pre ++ q.data.toList
  val : val xs = (PA.num 0 pre : Int)
  wds : Wds xs
  nine : (pre = [] ∧ xs = []) ∨ q.size % 9 = 0
  len : xs.length ≤ pre.length
def szOf (v : Value) : Nat := match v with | .string q => q.size | _ => 0
theorem PaV.digs {s q : ByteArray} {xs : List Int} {pre : List UInt8} (h : PaV s q xs pre) (ha : s.data.toList.all PA.dig = true) : q.data.toList.all PA.dig = true := by
  rw [h.cut, List.all_append, Bool.and_eq_true] at ha
  exact ha.2
theorem take_digs {l : List UInt8} (h : l.all PA.dig = true) (n : Nat) : (l.take n).all PA.dig = true :=
  List.all_eq_true.2 (fun x hx => List.all_eq_true.1 h x (List.mem_of_mem_take hx))
theorem take_len {q : ByteArray} {n : Nat} (h2 : n ≤ q.size) : (q.data.toList.take n).length = n := by
  rw [List.length_take, ← Lib.size_eq]; omega
theorem take_parse {q : ByteArray} (h : q.data.toList.all PA.dig = true) {n : Nat} (h1 : 1 ≤ n) (h2 : n ≤ q.size) (h9 : n ≤ 9) : Lib.parseUintB 32 (q.extract 0 n).data.toList = .ok (PA.num 0 (q.data.toList.take n)) := by
  rw [Lib.extract_from_zero]
  refine PA.parse9 (take_digs h n) (fun e => ?_) (by rw [take_len h2]; exact h9)
  have := take_len h2
  rw [e, List.length_nil] at this
  omega
theorem num9 {l : List UInt8} (h : l.all PA.dig = true) (h9 : l.length ≤ 9) : PA.num 0 l < 1000000000 := by
  refine Nat.lt_of_lt_of_le (PA.num_lt l h) ?_
  exact Nat.pow_le_pow_right (n := 10) (by omega) h9
theorem PaV.step {s q : ByteArray} {xs : List Int} {pre : List UInt8} (h : PaV s q xs pre) {n : Nat} (h1 : 1 ≤ n) (h2 : n ≤ q.size) (hx : (pre = [] ∧ xs = []) ∨ n = 9) (hr : (q.size - n) % 9 = 0)
    {zs : List Int} (hz : Wds zs) (hv : Q.val zs = Q.val xs * 1000000000 + (PA.num 0 (q.data.toList.take n) : Int)) (hl : zs.length ≤ xs.length + 1) : PaV s (q.extract n q.size) zs (pre ++ q.data.toList.take n) := by
  have e : (q.extract n q.size).data.toList = q.data.toList.drop n := by
    rw [Lib.extract_data, List.take_of_length_le]
    rw [List.length_drop, ← Lib.size_eq]
    exact Nat.le_refl _
  refine ⟨by rw [e, List.append_assoc, List.take_append_drop]; exact h.cut, ?_, hz, .inr ?_, ?_⟩
  · rw [hv, h.val, PA.num_append, PA.num_acc _ (PA.num 0 pre), take_len h2]
    rcases hx with ⟨rfl, rfl⟩ | rfl
    · rw [PA.num_nil]
      simp
    · rw [Int.natCast_add, Int.natCast_mul]
      rfl
  · rw [Lib.size_eq, e, List.length_drop, ← Lib.size_eq]
    exact hr
  · rw [List.length_append, take_len h2]
    have := h.len
    omega
theorem num_Bp {l : List UInt8} (h : l.all PA.dig = true) {m : Nat} (hm : l.length ≤ 8 * m) : (PA.num 0 l : Int) < Bp m := by
  have h1 : PA.num 0 l < 4294967296 ^ m := by
    refine Nat.lt_of_lt_of_le (PA.num_lt l h) (Nat.le_trans (Nat.pow_le_pow_left (show 10 ≤ 16 by omega) _) (Nat.le_trans (Nat.pow_le_pow_right (n := 16) (by omega) hm) ?_))
    rw [Nat.pow_mul]
    exact Nat.le_refl _
  have h2 : (PA.num 0 l : Int) < ((4294967296 ^ m : Nat) : Int) := Int.ofNat_lt.2 h1
  rw [Int.natCast_pow] at h2
  exact h2
theorem PaV.told {s q : ByteArray} {xs : List Int} {pre : List UInt8} (h : PaV s q xs pre) (hq : q.size = 0) (ha : s.data.toList.all PA.dig = true) (hs : s.size ≤ 65536) : Q.told (Q.val xs) = (nwd (PA.num 0 s.data.toList), 0) := by
  have e : q.data.toList = [] := List.eq_nil_of_length_eq_zero (by rw [← Lib.size_eq]; exact hq)
  have ep : s.data.toList = pre := by rw [h.cut, e, List.append_nil]
  have hb : (PA.num 0 s.data.toList : Int) < Bp 8192 := num_Bp ha (by rw [← Lib.size_eq]; omega)
  rw [h.val, ← ep]
  unfold Q.told
  rw [if_neg]
  have := nwd_len_le hb (by omega)
  omega
theorem PaV.small {s q : ByteArray} {xs : List Int} {pre : List UInt8} (h : PaV s q xs pre) (hs : s.size ≤ 65536) : xs.length ≤ 65536 := by
  have h1 := h.len
  have h2 := congrArg List.length h.cut
  rw [List.length_append, ← Lib.size_eq] at h2
  omega
theorem sz_step {q : ByteArray} {n : Nat} (h1 : 1 ≤ n) (h2 : n ≤ q.size) : szOf (.string (q.extract n q.size)) < szOf (.string q) := by
  show (q.extract n q.size).size < q.size
  rw [Lib.size_eq, Lib.extract_data, List.length_take, List.length_drop, ← Lib.size_eq]
  omega
set_option maxHeartbeats 2000000 in
set_option maxRecDepth 100000 in
theorem Parse_ok (s : ByteArray) (w : World) (h0 : 0 < s.size) (h1 : s.size ≤ 65536) (ha0 : s.data.toList.all PA.dig = true) (hb : ¬ (s[0].toNat = 48 ∧ 1 < s.size)) :
    Calls Tryz.prog 34 #[.string s] w fun e w' => ∃ v, e = .returned (.tuple #[v, .int .i64 0]) ∧ Ow w' 50 w.heap.size v (nwd (PA.num 0 s.data.toList)) ∧ Below w.heap.size w w' := by
  have d1 : decide (65536 < (s.size : Int)) = false := decide_eq_false (by omega)
  have d2 : decide (65536 < s.size) = false := decide_eq_false (by omega)
  have he := empty_of h0
  have ha := Q.hid ha0
  have hs := Q.hid h1
  have hbb := Q.hid hb
  clear hb ha0
  go_enter Tryz.func34, Tryz.ntmps34
  go_wp2_with fail
  refine (PA.trim_calls s _ h0 h1).mono ?_
  rintro e w1 ⟨t, rfl, ht, hB0⟩
  have hB := Q.hid hB0
  have ht2 : t.toList.isEmpty = true := (empty_iff t).2 (ht.2 ha.out)
  clear hB0 ht
  have b2 : ((s[0].toNat : Int)) = 48 → 1 < (s.size : Int) → False := fun u v => hbb.out ⟨by omega, by omega⟩
  go_wp2_with fail
  all_goals first | (exfalso; exact b2 (by assumption) (by assumption)) | skip
  all_goals
    clear b2 ht2 he d1 d2
    have HV : Hid (PaV s s [] []) := ⟨rfl, rfl, Wds.nil, .inl ⟨rfl, rfl⟩, Nat.le_refl _⟩
    go_loopw [0, 4] (fun sv av wr => ∃ (q : ByteArray) (xs : List Int) (pre : List UInt8), sv = .string q ∧ Hid (Ow wr 50 w.heap.size av xs) ∧ Hid (PaV s q xs pre) ∧ Hid (Below w.heap.size w wr)) (fun sv _ _ => szOf sv)
    case atStart => exact ⟨s, [], [], rfl, Ow.nil _ _ _, HV, hB⟩
    case round =>
      clear HV hB
      obtain ⟨q, xs, pre, rfl, HO, HV, HB⟩ := hrel
      obtain ⟨A, c, rfl, hc1, hc2, hrd, _⟩ := HO.out.slice
      have HI : Hid (In wr A c xs) := ⟨hrd, hc1, by have := HV.out.small hs.out; omega, HV.out.wds⟩
      have hqs : Hid (q.size ≤ 65536) := by
        have h2 := congrArg List.length HV.out.cut
        rw [List.length_append, ← Lib.size_eq, ← Lib.size_eq] at h2
        have h3 : s.size ≤ 65536 := hs.out
        show q.size ≤ 65536
        omega
      clear hc1 hc2 hrd
      by_cases hq : q.size = 0
      · have he : q.toList.isEmpty = true := (empty_iff q).2 hq
        have HT := Q.hid (HV.out.told hq ha.out hs.out)
        go_wp2_with fail
        refine (told_calls A c w.heap.size xs _ HO.out HI.out).mono ?_
        rw [HT.out]
        rintro e w2 ⟨⟨v, rfl, ho⟩, rfl⟩
        go_wp2
        go_ret2
        exact ⟨v, rfl, ho, HB.out⟩
      · have he : q.toList.isEmpty = false := empty_of (by omega)
        by_cases hz : q.size % 9 = 0
        · have hz1 : ((q.size : Int) % 9 == 0) = true := beq_iff_eq.2 (by omega)
          have hz2 : (q.size : Int) % 9 = 0 := by omega
          have hz3 : (9 : Int) ≤ (q.size : Int) := by omega
          have hz4 : 9 ≤ q.size := by omega
          have HN1 : Hid (1 ≤ 9) := by show (1 : Nat) ≤ 9; omega
          have HN2 : Hid (9 ≤ q.size) := hz4
          have HP := Q.hid (take_parse (HV.out.digs ha.out) HN1.out HN2.out (Nat.le_refl 9))
          have HU : Hid (PA.num 0 (q.data.toList.take (9)) < 1000000000) := num9 (take_digs (HV.out.digs ha.out) _) (by rw [take_len HN2.out]; exact (Nat.le_refl 9))
          have HX : Hid ((pre = [] ∧ xs = []) ∨ 9 = 9) := .inr rfl
          have HR : Hid ((q.size - 9) % 9 = 0) := by show (q.size - 9) % 9 = 0; omega
          generalize hu : PA.num 0 (q.data.toList.take (9)) = u at HP HU
          have hU := Q.hid hu
          clear hu
          have hwr : IntKind.u32.wrap (u : Int) = (u : Int) := by have := HU.out; rw [IntKind.wrap_u32]; omega
          go_wp2_with fail
          refine (Tryz.strconv_ParseUint_10_at32_ok (q.extract 0 (9)) (by have := hqs.out; rw [Lib.size_eq, Lib.extract_from_zero, take_len HN2.out]; omega) u HP.out _).mono ?_
          rintro e w2 ⟨rfl, hw⟩
          have HB2 : Hid (Below wr.heap.size wr w2) := by
            rcases hw with rfl | rfl
            · exact Below.refl _ _
            · exact Lib.bytesWorld_below _ _ _
          clear hw
          have HO2 := Q.hid (HO.out.below HB2.out)
          go_wp2_with fail
          refine (grow_calls A c w.heap.size xs (u : Int) _ HO2.out HV.out.wds (by have := HV.out.small hs.out; omega) (by omega) (by have := HU.out; omega) (Nat.le_trans HB.out.size HB2.out.size)).mono ?_
          rintro e w3 ⟨v3, rfl, zs, ho3, hz3, hl3, hv3, hB3⟩
          have HO3 := Q.hid ho3
          have HV3 : Hid (PaV s (q.extract (9) q.size) zs (pre ++ q.data.toList.take (9))) := HV.out.step HN1.out HN2.out (by first | exact HX.out | exact .inr rfl) HR.out hz3 (by rw [hU.out]; exact hv3) hl3
          have HB3 : Hid (Below w.heap.size w w3) := (HB.out.trans (HB2.out.mono HB.out.size)).trans hB3
          clear HO HV HB HB2 HO2 HP ho3 hv3 hz3 hl3 hB3 hwr
          go_wp2
          go_roundw
          case rel => exact ⟨_, zs, _, rfl, HO3, HV3, HB3⟩
          case measure => exact sz_step HN1.out HN2.out
        · have hz1 : ((q.size : Int) % 9 == 0) = false := beq_eq_false_iff_ne.2 (by omega)
          have hz2 : ¬ (q.size : Int) % 9 = 0 := by omega
          have hz3 : (q.size : Int) % 9 ≤ (q.size : Int) := by omega
          have hz4 : q.size % 9 ≤ q.size := by omega
          have hz5 : q.size % 9 ≤ 9 := by omega
          have HN1 : Hid (1 ≤ q.size % 9) := by show 1 ≤ q.size % 9; omega
          have HN2 : Hid (q.size % 9 ≤ q.size) := hz4
          have HP := Q.hid (take_parse (HV.out.digs ha.out) HN1.out HN2.out hz5)
          have HU : Hid (PA.num 0 (q.data.toList.take (q.size % 9)) < 1000000000) := num9 (take_digs (HV.out.digs ha.out) _) (by rw [take_len HN2.out]; exact hz5)
          have HX : Hid ((pre = [] ∧ xs = []) ∨ q.size % 9 = 9) := .inl (HV.out.nine.resolve_right hz)
          have HR : Hid ((q.size - q.size % 9) % 9 = 0) := by show (q.size - q.size % 9) % 9 = 0; omega
          generalize hu : PA.num 0 (q.data.toList.take (q.size % 9)) = u at HP HU
          have hU := Q.hid hu
          clear hu
          have hwr : IntKind.u32.wrap (u : Int) = (u : Int) := by have := HU.out; rw [IntKind.wrap_u32]; omega
          go_wp2_with fail
          refine (Tryz.strconv_ParseUint_10_at32_ok (q.extract 0 (q.size % 9)) (by have := hqs.out; rw [Lib.size_eq, Lib.extract_from_zero, take_len HN2.out]; omega) u HP.out _).mono ?_
          rintro e w2 ⟨rfl, hw⟩
          have HB2 : Hid (Below wr.heap.size wr w2) := by
            rcases hw with rfl | rfl
            · exact Below.refl _ _
            · exact Lib.bytesWorld_below _ _ _
          clear hw
          have HO2 := Q.hid (HO.out.below HB2.out)
          go_wp2_with fail
          refine (grow_calls A c w.heap.size xs (u : Int) _ HO2.out HV.out.wds (by have := HV.out.small hs.out; omega) (by omega) (by have := HU.out; omega) (Nat.le_trans HB.out.size HB2.out.size)).mono ?_
          rintro e w3 ⟨v3, rfl, zs, ho3, hz3, hl3, hv3, hB3⟩
          have HO3 := Q.hid ho3
          have HV3 : Hid (PaV s (q.extract (q.size % 9) q.size) zs (pre ++ q.data.toList.take (q.size % 9))) := HV.out.step HN1.out HN2.out (by first | exact HX.out | exact .inr rfl) HR.out hz3 (by rw [hU.out]; exact hv3) hl3
          have HB3 : Hid (Below w.heap.size w w3) := (HB.out.trans (HB2.out.mono HB.out.size)).trans hB3
          clear HO HV HB HB2 HO2 HP ho3 hv3 hz3 hl3 hB3 hwr
          go_wp2
          go_roundw
          case rel => exact ⟨_, zs, _, rfl, HO3, HV3, HB3⟩
          case measure => exact sz_step HN1.out HN2.out
theorem okT_list : ∀ (l : List UInt8) (hn : 0 < l.length), okT l = true ↔ l.all PA.dig = true ∧ ¬ (l[0].toNat = 48 ∧ 1 < l.length)
  | b :: r, _ => by
    unfold okT
    rw [Bool.and_eq_true]
    refine and_congr_right (fun _ => ?_)
    simp only [List.getElem_cons_zero, List.length_cons, Bool.or_eq_true, bne_iff_ne, List.isEmpty_iff]
    constructor
    · rintro (h | h) ⟨h1, h2⟩
      · exact h h1
      · subst h; simp at h2
    · intro h
      by_cases hb : b.toNat = 48
      · right
        cases r with
        | nil => rfl
        | cons _ _ => exact absurd ⟨hb, by simp⟩ h
      · exact .inl hb
theorem okT_iff {s : ByteArray} (h0 : 0 < s.size) : okT s.data.toList = true ↔ s.data.toList.all PA.dig = true ∧ ¬ (s[0].toNat = 48 ∧ 1 < s.size) := by
  have hn : 0 < s.data.toList.length := by rw [← Lib.size_eq]; exact h0
  have e : s[0] = s.data.toList[0] := by rw [Array.getElem_toList]; rfl
  have es : (1 < s.data.toList.length) ↔ (1 < s.size) := by rw [← Lib.size_eq]
  rw [e]
  exact (okT_list _ hn).trans (and_congr_right fun _ => not_congr (and_congr_right fun _ => es))
def parC (l : List UInt8) : List Int × Int := if okT l = true then (Q.nw (PA.num 0 l : Int), 0) else ([], 110)
set_option maxHeartbeats 2000000 in
set_option maxRecDepth 100000 in
theorem Parse_long (s : ByteArray) (w : World) (h1 : 65536 < s.size) (h2 : s.size ≤ 140737488351232) :
    Calls Tryz.prog 34 #[.string s] w fun e w' => ∃ v, e = .returned (.tuple #[v, .int .i64 3]) ∧ Ow w' 50 w.heap.size v [] ∧ Below w.heap.size w w' := by
  have d1 : decide (65536 < (s.size : Int)) = true := decide_eq_true (by omega)
  have d2 : decide (65536 < s.size) = true := decide_eq_true (by omega)
  go_enter Tryz.func34, Tryz.ntmps34
  go_wp2_with fail
  go_ret2
  exact ⟨.slice none 0 0, rfl, Ow.nil _ _ _, Below.refl _ _⟩
set_option maxHeartbeats 2000000 in
set_option maxRecDepth 100000 in
theorem Parse_nil (s : ByteArray) (w : World) (h1 : s.size = 0) :
    Calls Tryz.prog 34 #[.string s] w fun e w' => ∃ v, e = .returned (.tuple #[v, .int .i64 110]) ∧ Ow w' 50 w.heap.size v [] ∧ Below w.heap.size w w' := by
  have d1 : decide (65536 < (s.size : Int)) = false := decide_eq_false (by omega)
  have d2 : decide (65536 < s.size) = false := decide_eq_false (by omega)
  have he : s.toList.isEmpty = true := (empty_iff s).2 h1
  go_enter Tryz.func34, Tryz.ntmps34
  go_wp2_with fail
  go_ret2
  exact ⟨.slice none 0 0, rfl, Ow.nil _ _ _, Below.refl _ _⟩
theorem Parse_calls (s : ByteArray) (w : World) (h2 : s.size ≤ 65536) :
    Calls Tryz.prog 34 #[.string s] w fun e w' => ∃ v, e = .returned (.tuple #[v, .int .i64 (parC s.data.toList).2]) ∧ Ow w' 50 w.heap.size v (parC s.data.toList).1 ∧ Below w.heap.size w w' := by
  by_cases h0 : s.size = 0
  · have e : s.data.toList = [] := List.eq_nil_of_length_eq_zero (by rw [← Lib.size_eq]; exact h0)
    rw [e]
    exact Parse_nil s w h0
  · have h0' : 0 < s.size := by omega
    have hi := okT_iff h0'
    unfold parC
    by_cases hk : okT s.data.toList = true
    · rw [if_pos hk]
      have := Parse_ok s w h0' h2 (hi.1 hk).1 (hi.1 hk).2
      rwa [nwd_nw] at this
    · rw [if_neg hk]
      refine Parse_no s w h0' h2 ?_
      by_cases ha : s.data.toList.all PA.dig = true
      · right
        by_cases hb : s[0].toNat = 48 ∧ 1 < s.size
        · exact hb
        · exact absurd (hi.2 ⟨ha, hb⟩) hk
      · exact .inl (Bool.eq_false_iff.2 ha)
end Go.Proofs.YtidccoahjpjoaaaGreatDoor
