/- The helpers of the statements over words: copies, lists that are lent, comparisons; what each call does. -/
import Derived.Test.YtidccoahjpjoaaaGreatDoorProg
import Derived.Test.YtidccoahjpjoaaaGreatDoorQMem
import Derived.Deep.QuietTactic
import Derived.BigQuiet
import Derived.Deep.LoopGhost
set_option linter.unusedVariables false
set_option linter.unusedSimpArgs false
namespace Go.Proofs.YtidccoahjpjoaaaGreatDoor
open Go Go.RowKit Q

theorem infoW : (Tryz.prog.info? 50).map (fun i => (i.zero, i.size, i.bytes)) = some (some (.int .u32 0), 1, 4) := by kernel_rfl

set_option maxHeartbeats 400000 in
theorem CopyWords_calls (A : Option Addr) (c : Nat) (xs : List Int) (w : World) (h : Rd w A xs) (hm : xs.length * 4 ≤ 140737488355328) :
    Calls Tryz.prog 40 #[.slice A xs.length c] w fun e w' => ∃ v, e = .returned v ∧ Ow w' 50 w.heap.size v xs ∧ Below w.heap.size w w' := by
  have H := Q.hid h
  have HM := Q.hid hm
  clear h hm
  go_enter Tryz.func40, Tryz.ntmps40
  go_wp2_with (at_builtin; refine wp_app rfl (.tmp 3) (.tmp 4) 22 50 rfl Tryz.underlying22 infoW w.heap.size _ [] rfl (Ow.lit w _ _ [] (Nat.le_refl _) (by simp)) A xs.length c xs rfl rfl (Rd.alloc H.out _) (by have := HM.out; simp; omega) (by simp) ?_; intro v1 w1 ho hg hat)
  go_ret
  exact ⟨v1, rfl, by simpa using ho, below_grown ((Below.refl _ _).alloc (Nat.le_refl _) _) hg (fun k hk => by cases hk; simp)⟩

/-- a list that is lent: the words, and three marks behind them -/
def lent (xs : List Int) : List Int := xs ++ [2882343476, 2882343477, 2882343478]
theorem lent_length (xs : List Int) : (lent xs).length = xs.length + 3 := by simp [lent]
def marks (k : Nat) : List Int := ([2882343476, 2882343477, 2882343478] : List Int).take k

set_option maxHeartbeats 400000 in
theorem LentWords_calls (A : Option Addr) (c : Nat) (xs : List Int) (w : World) (h : Rd w A xs) (hm : xs.length * 4 ≤ 140737488351232) :
    Calls Tryz.prog 30 #[.slice A xs.length c] w fun e w' => ∃ v, e = .returned v ∧ Ow w' 50 w.heap.size v (lent xs) ∧ Below w.heap.size w w' := by
  have H := Q.hid h
  have HM := Q.hid hm
  clear h hm
  go_enter Tryz.func30, Tryz.ntmps30
  go_wp2_with (go_at_call 40; refine (CopyWords_calls A c xs _ H.out (by have := HM.out; omega)).mono ?_; rintro e w1 ⟨v1, rfl, ho, hb⟩)
  have HO := Q.hid ho
  have HB := Q.hid hb
  clear ho hb
  go_loopw [3, 4] (fun v i wr => ∃ k : Nat, k ≤ 3 ∧ i = .int .i64 k ∧ Hid (Ow wr 50 w.heap.size v (xs ++ marks k)) ∧ Hid (Below w.heap.size w wr)) (fun _ i _ => 3 - (intOf i).toNat)
  case atStart => exact ⟨0, by omega, rfl, by simpa [marks] using HO, HB⟩
  case round =>
    clear HO HB
    obtain ⟨k, hk, rfl, HO, HB⟩ := hrel
    by_cases hlt : k < 3
    · have hmk : marks (k + 1) = marks k ++ [2882343476 + (k : Int)] := by
        match k, hlt with
        | 0, _ => rfl
        | 1, _ => rfl
        | 2, _ => rfl
      have HMK := Q.hid hmk
      clear hmk
      go_wp2_with (at_builtin; refine wp_app1 rfl (.tmp 11) (.tmp 15) 22 50 rfl Tryz.underlying22 infoW w.heap.size _ (xs ++ marks k) (2882343476 + (k : Int)) rfl HO.out rfl ?_ HB.out.size ?_; (have := HM.out; simp [marks]; omega); intro v2 w2 ho hg hat)
      have HO2 : Hid (Ow w2 50 w.heap.size v2 (xs ++ marks (k + 1))) := by rw [HMK.out, ← List.append_assoc]; exact ho
      have HB2 : Hid (Below w.heap.size w w2) := below_grown HB.out hg (fun j hj => (HO.out.base j hj).1)
      clear HO HB HMK ho hg hat
      go_wp2
      go_roundw
      case rel => exact ⟨k + 1, by omega, by go_num, HO2, HB2⟩
      case measure => simp [intOf]; omega
    · obtain rfl : k = 3 := by omega
      go_wp2
      go_ret
      exact ⟨_, rfl, HO.out, HB.out⟩

set_option maxHeartbeats 400000 in
theorem SameWords_calls (A A' : Option Addr) (c c' : Nat) (xs ys : List Int) (w : World) (h : Rd w A xs) (h' : Rd w A' ys) (hm : xs.length ≤ 9223372036854775807) :
    Calls Tryz.prog 28 #[.slice A xs.length c, .slice A' ys.length c'] w fun e w' => e = .returned (.bool (decide (xs = ys))) ∧ Dr w w' := by
  by_cases hl : xs.length = ys.length
  · have hlb : (xs.length == ys.length) = true := by simp [hl]
    have hln : ((xs.length : Int) != (ys.length : Int)) = false := by simp [hl]
    have HL := Q.hid hl
    clear hl
    go_enter Tryz.func28, Tryz.ntmps28
    go_wp2
    go_loopw [5] (fun i wr => ∃ k : Nat, k ≤ xs.length ∧ i = .int .i64 k ∧ Hid (∀ j, j < k → wd xs j = wd ys j) ∧ Dr w wr) (fun i _ => xs.length - (intOf i).toNat)
    case atStart => exact ⟨0, by omega, rfl, (fun j hj => absurd hj (Nat.not_lt_zero _) : ∀ j, j < 0 → wd xs j = wd ys j), Dr.refl w⟩
    case round =>
      obtain ⟨k, hk, rfl, HE, ⟨n, rfl⟩⟩ := hrel
      by_cases hlt : k < xs.length
      · have hlt' : k < ys.length := by rw [← HL.out]; exact hlt
        obtain ⟨ad, rfl, hx⟩ := h k hlt
        obtain ⟨ad', rfl, hx'⟩ := h' k hlt'
        by_cases he : wd xs k = wd ys k
        · have he1 : (wd xs k == wd ys k) = true := by simp [he]
          have he2 : (wd xs k != wd ys k) = false := by simp [he]
          have HE2 : Hid (∀ j, j < k + 1 → wd xs j = wd ys j) := fun j hj => by
            rcases Nat.lt_or_eq_of_le (Nat.lt_succ_iff.1 hj) with h1 | h1
            · exact HE.out j h1
            · subst h1; exact he
          clear he HE
          go_wp2
          go_quiet (fail)
          go_wp2
          go_roundw
          case rel => exact ⟨k + 1, by omega, by go_num, HE2, ⟨_, rfl⟩⟩
          case measure => simp [intOf]; omega
        · have he1 : (wd xs k == wd ys k) = false := by simp [he]
          have he2 : (wd xs k != wd ys k) = true := by simp [he]
          have HF : Hid (decide (xs = ys) = false) := by
            have : ¬ xs = ys := fun e => he (by rw [e])
            simp [Hid, this]
          clear he HE
          go_wp2
          go_quiet (fail)
          go_wp2
          go_ret
          exact ⟨by rw [HF.out]; rfl, Dr.step ⟨n, rfl⟩ _⟩
      · have HF : Hid (decide (xs = ys) = true) := by
          obtain rfl : k = xs.length := by omega
          have : xs = ys := ext_wd HL.out HE.out
          simp [Hid, this]
        go_wp2
        go_ret
        exact ⟨by rw [HF.out]; rfl, ⟨_, rfl⟩⟩
  · have hlb : (xs.length == ys.length) = false := by simp [hl]
    have hln : ((xs.length : Int) != (ys.length : Int)) = true := by simp; omega
    have HF : Hid (decide (xs = ys) = false) := by
      have : ¬ xs = ys := fun e => hl (by rw [e])
      simp [Hid, this]
    clear hl
    go_enter Tryz.func28, Tryz.ntmps28
    go_wp2
    go_ret
    exact ⟨by rw [HF.out]; rfl, Dr.refl w⟩

theorem SameWords_eq (A A' : Option Addr) (c c' : Nat) (xs : List Int) (w : World) (h : Rd w A xs) (h' : Rd w A' xs) (hm : xs.length ≤ 9223372036854775807) :
    Calls Tryz.prog 28 #[.slice A xs.length c, .slice A' xs.length c'] w fun e w' => e = .returned (.bool true) ∧ Dr w w' :=
  (SameWords_calls A A' c c' xs xs w h h' hm).mono fun _ _ ⟨he, hw⟩ => ⟨by rw [he]; simp, hw⟩
set_option maxHeartbeats 400000 in
theorem KeptWords_calls (A A' : Option Addr) (c c' : Nat) (xs ys : List Int) (w : World) (h : Rd w A xs) (h' : Rd w A' ys) (hm : ys.length * 4 ≤ 140737488351232) (hx : xs.length ≤ 9223372036854775807) :
    Calls Tryz.prog 39 #[.slice A xs.length c, .slice A' ys.length c'] w fun e w' => e = .returned (.bool (decide (xs = lent ys))) ∧ Below w.heap.size w w' := by
  have H := Q.hid h
  have H' := Q.hid h'
  have HM := Q.hid hm
  clear h h' hm
  go_enter Tryz.func39, Tryz.ntmps39
  go_wp2_with fail
  refine (LentWords_calls A' c' ys _ H'.out HM.out).mono ?_
  rintro e w1 ⟨v1, rfl, ho, hb⟩
  obtain ⟨A1, c1, rfl, hc1, hc2, hr1, _⟩ := ho.slice
  have HR := Q.hid hr1
  have HX := Q.hid (H.out.below hb)
  have HB := Q.hid hb
  clear hr1 ho hb hc1 hc2
  go_wp2_with fail
  refine (SameWords_calls A A1 c c1 xs (lent ys) _ HX.out HR.out hx).mono ?_
  rintro e w2 ⟨rfl, ⟨n, rfl⟩⟩
  go_wp2
  go_ret
  exact ⟨rfl, below_step HB.out (Dr.below ⟨n, rfl⟩ _)⟩

/-- each word turned over -/
def comp (xs : List Int) : List Int := xs.map fun x => 4294967295 - x
theorem comp_length (xs : List Int) : (comp xs).length = xs.length := by simp [comp]
theorem wd_comp {xs : List Int} {i : Nat} (h : i < xs.length) : wd (comp xs) i = 4294967295 - wd xs i := by
  rw [wd_lt (by rw [comp_length]; exact h), wd_lt h]; simp [comp]
/-- turned over up to a place -/
def comps (k : Nat) (xs : List Int) : List Int := comp (xs.take k) ++ xs.drop k
theorem comps_zero (xs : List Int) : comps 0 xs = xs := by simp [comps, comp]
theorem comps_all (xs : List Int) : comps xs.length xs = comp xs := by simp [comps]
theorem comps_length {k : Nat} {xs : List Int} : (comps k xs).length = xs.length := by simp [comps, comp_length]; omega
theorem wd_comps {k : Nat} {xs : List Int} (h : k < xs.length) : wd (comps k xs) k = wd xs k := by
  have hl : (comp (xs.take k)).length = k := by rw [comp_length, List.length_take]; omega
  unfold comps
  rw [wd_append_right (by omega), hl, Nat.sub_self, wd_drop]; rfl
theorem comps_succ {k : Nat} {xs : List Int} (h : k < xs.length) : comps (k + 1) xs = (comps k xs).set k (4294967295 - wd xs k) := by
  have hl : (comp (xs.take k)).length = k := by rw [comp_length, List.length_take]; omega
  unfold comps
  rw [List.set_append_right _ _ (by omega), hl, Nat.sub_self, drop_eq h, List.set_cons_zero, take_succ h]
  simp [comp, List.map_append]

set_option maxHeartbeats 400000 in
theorem OverWords_calls (v : Value) (xs : List Int) (B : Nat) (w : World) (ho : Ow w 50 B v xs) (hw : Wds xs) :
    Calls Tryz.prog 41 #[v] w fun e w' => e = .returned (.tuple #[]) ∧ Ow w' 50 B v (comp xs) ∧ w.grownBy w' v.ownBlock := by
  rcases ho.2 with ⟨rfl, h0⟩ | ⟨g, cap, cur, rfl, hb, hg, hn, hm, hs, ht⟩
  · have hx : xs = [] := List.eq_nil_of_length_eq_zero h0
    subst hx
    go_enter Tryz.func41, Tryz.ntmps41
    go_wp2
    go_loop [3] (fun i => i = .int .i64 0) (fun _ => 0)
    case atStart => rfl
    case round =>
      subst hrel
      go_wp2
      go_loop [4] (fun i => i = .int .i64 0) (fun _ => 0)
      case atStart => rfl
      case round =>
        subst hrel
        go_wp2
        go_end0
        exact ⟨rfl, ho, grown_refl _ _⟩
  · have HO := Q.hid ho
    have hmx : cap ≤ 9223372036854775807 := by simpa [maxLen] using hm
    have HW := Q.hid hw
    clear ho hb hg hm hs ht hw
    go_enter Tryz.func41, Tryz.ntmps41
    go_wp2
    go_loopw [3] (fun i wr => ∃ k : Nat, k ≤ xs.length ∧ i = .int .i64 k ∧ Hid (Ow wr 50 B (.slice (some ⟨g, 0, none⟩) xs.length cap) (comps k xs)) ∧ Hid (w.grownBy wr (some g))) (fun i _ => xs.length - (intOf i).toNat)
    case atStart => exact ⟨0, by omega, rfl, by rw [comps_zero]; exact HO, grown_refl _ _⟩
    case round =>
      clear HO
      obtain ⟨k, hk, rfl, HO, HG⟩ := hrel
      by_cases hlt : k < xs.length
      · have hcell := HO.out.cell (i := k) (by rw [comps_length]; exact hlt)
        rw [wd_comps hlt] at hcell
        have hfree := HO.out.free k
        have hx := HW.out.wd k
        have h0 : 0 ≤ wd xs k := hx.1
        have h1 : wd xs k < 4294967296 := hx.2
        clear hx
        have HO2 : Hid (∀ y, y = 4294967295 - wd xs k → Ow (wr.setCell ⟨g, k, none⟩ (.int .u32 y)) 50 B (.slice (some ⟨g, 0, none⟩) xs.length cap) (comps (k + 1) xs)) := fun y hy => by
          rw [comps_succ hlt, ← hy]; exact HO.out.store (by rw [comps_length]; exact hlt) _
        have HX := Q.hid (u32_not (wd xs k) h0 h1)
        clear HO
        go_wp2
        go_roundw
        case rel => exact ⟨k + 1, by omega, by go_num, HO2.out _ HX.out, grown_trans HG.out (grown_set _)⟩
        case measure => simp [intOf]; omega
      · obtain rfl : k = xs.length := by omega
        rw [comps_all] at HO
        have HL : Hid (xs.length = (comp xs).length) := (comp_length xs).symm
        go_wp2
        go_loopw [0, 4] (fun u i wr => ∃ k : Nat, xs.length ≤ k ∧ k ≤ cap ∧ i = .int .i64 k ∧ u = .slice (some ⟨g, 0, none⟩) k cap ∧ Hid (Ow wr 50 B (.slice (some ⟨g, 0, none⟩) xs.length cap) (comp xs)) ∧ Hid (w.grownBy wr (some g))) (fun _ i _ => cap - (intOf i).toNat)
        case atStart => exact ⟨xs.length, by omega, hn, rfl, rfl, HO, HG⟩
        case round =>
          clear HO HG
          obtain ⟨k, hk1, hk2, rfl, rfl, HO, HG⟩ := hrel
          by_cases hlt : k < cap
          · go_wp2_with (at_builtin; refine wp_over rfl (.tmp 28) (.tmp 29) 22 50 rfl Tryz.underlying22 infoW B g xs.length cap k (comp xs) 2882343476 rfl HO.out rfl hk1 hlt ?_; intro w2 ho hg)
            have HO2 := Q.hid ho
            have HG2 := Q.hid (grown_trans HG.out hg)
            clear HO HG ho hg
            go_wp2
            go_roundw
            case rel => exact ⟨k + 1, by omega, by omega, by go_num, by go_num, HO2, HG2⟩
            case measure => simp [intOf]; omega
          · go_wp2
            go_end0
            exact ⟨rfl, HO.out, HG.out⟩
end Go.Proofs.YtidccoahjpjoaaaGreatDoor
