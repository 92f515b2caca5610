/- The helpers of the statements over words: copies, lists that are lent, comparisons; what each call does. -/
import Derived.Test.YtgnmmifeojfjlaaDoorProg
import Derived.Test.YtgnmmifeojfjlaaDoorQMem
import Derived.Deep.QuietTactic
import Derived.BigQuiet
import Derived.Deep.LoopGhost
set_option linter.unusedVariables false
set_option linter.unusedSimpArgs false
namespace Go.Proofs.YtgnmmifeojfjlaaDoor
open Go Go.RowKit Q

theorem infoW : (Tryd.prog.info? 34).map (fun i => (i.zero, i.size, i.bytes)) = some (some (.int .u32 0), 1, 4) := by kernel_rfl

/-- a list that is lent: the words, and three marks behind them -/
def lent (xs : List Int) : List Int := xs ++ [2882343476, 2882343477, 2882343478]
theorem lent_length (xs : List Int) : (lent xs).length = xs.length + 3 := by simp [lent]
def marks (k : Nat) : List Int := ([2882343476, 2882343477, 2882343478] : List Int).take k

set_option maxHeartbeats 400000 in
theorem SameWords_calls (A A' : Option Addr) (c c' : Nat) (xs ys : List Int) (w : World) (h : Rd w A xs) (h' : Rd w A' ys) (hm : xs.length ≤ 9223372036854775807) :
    Calls Tryd.prog 8 #[.slice A xs.length c, .slice A' ys.length c'] w fun e w' => e = .returned (.bool (decide (xs = ys))) ∧ Dr w w' := by
  by_cases hl : xs.length = ys.length
  · have hlb : (xs.length == ys.length) = true := by simp [hl]
    have hln : ((xs.length : Int) != (ys.length : Int)) = false := by simp [hl]
    have HL := Q.hid hl
    clear hl
    go_enter Tryd.func8, Tryd.ntmps8
    go_wp2
    go_loopw [5] (fun i wr => ∃ k : Nat, k ≤ xs.length ∧ i = .int .i64 k ∧ Hid (∀ j, j < k → wd xs j = wd ys j) ∧ Dr w wr) (fun i _ => xs.length - (intOf i).toNat)
    case atStart => exact ⟨0, by omega, rfl, (fun j hj => absurd hj (Nat.not_lt_zero _) : ∀ j, j < 0 → wd xs j = wd ys j), Dr.refl w⟩
    case round =>
      obtain ⟨k, hk, rfl, HE, ⟨n, rfl⟩⟩ := hrel
      by_cases hlt : k < xs.length
      · have hlt' : k < ys.length := by rw [← HL.out]; exact hlt
        obtain ⟨ad, rfl, hx⟩ := h k hlt
        obtain ⟨ad', rfl, hx'⟩ := h' k hlt'
        by_cases he : wd xs k = wd ys k
        · have he1 : (wd xs k == wd ys k) = true := by simp [he]
          have he2 : (wd xs k != wd ys k) = false := by simp [he]
          have HE2 : Hid (∀ j, j < k + 1 → wd xs j = wd ys j) := fun j hj => by
            rcases Nat.lt_or_eq_of_le (Nat.lt_succ_iff.1 hj) with h1 | h1
            · exact HE.out j h1
            · subst h1; exact he
          clear he HE
          go_wp2
          go_quiet (fail)
          go_wp2
          go_roundw
          case rel => exact ⟨k + 1, by omega, by go_num, HE2, ⟨_, rfl⟩⟩
          case measure => simp [intOf]; omega
        · have he1 : (wd xs k == wd ys k) = false := by simp [he]
          have he2 : (wd xs k != wd ys k) = true := by simp [he]
          have HF : Hid (decide (xs = ys) = false) := by
            have : ¬ xs = ys := fun e => he (by rw [e])
            simp [Hid, this]
          clear he HE
          go_wp2
          go_quiet (fail)
          go_wp2
          go_ret
          exact ⟨by rw [HF.out]; rfl, Dr.step ⟨n, rfl⟩ _⟩
      · have HF : Hid (decide (xs = ys) = true) := by
          obtain rfl : k = xs.length := by omega
          have : xs = ys := ext_wd HL.out HE.out
          simp [Hid, this]
        go_wp2
        go_ret
        exact ⟨by rw [HF.out]; rfl, ⟨_, rfl⟩⟩
  · have hlb : (xs.length == ys.length) = false := by simp [hl]
    have hln : ((xs.length : Int) != (ys.length : Int)) = true := by simp; omega
    have HF : Hid (decide (xs = ys) = false) := by
      have : ¬ xs = ys := fun e => hl (by rw [e])
      simp [Hid, this]
    clear hl
    go_enter Tryd.func8, Tryd.ntmps8
    go_wp2
    go_ret
    exact ⟨by rw [HF.out]; rfl, Dr.refl w⟩

theorem SameWords_eq (A A' : Option Addr) (c c' : Nat) (xs : List Int) (w : World) (h : Rd w A xs) (h' : Rd w A' xs) (hm : xs.length ≤ 9223372036854775807) :
    Calls Tryd.prog 8 #[.slice A xs.length c, .slice A' xs.length c'] w fun e w' => e = .returned (.bool true) ∧ Dr w w' :=
  (SameWords_calls A A' c c' xs xs w h h' hm).mono fun _ _ ⟨he, hw⟩ => ⟨by rw [he]; simp, hw⟩
/-- each word turned over -/
def comp (xs : List Int) : List Int := xs.map fun x => 4294967295 - x
theorem comp_length (xs : List Int) : (comp xs).length = xs.length := by simp [comp]
theorem wd_comp {xs : List Int} {i : Nat} (h : i < xs.length) : wd (comp xs) i = 4294967295 - wd xs i := by
  rw [wd_lt (by rw [comp_length]; exact h), wd_lt h]; simp [comp]
/-- turned over up to a place -/
def comps (k : Nat) (xs : List Int) : List Int := comp (xs.take k) ++ xs.drop k
theorem comps_zero (xs : List Int) : comps 0 xs = xs := by simp [comps, comp]
theorem comps_all (xs : List Int) : comps xs.length xs = comp xs := by simp [comps]
theorem comps_length {k : Nat} {xs : List Int} : (comps k xs).length = xs.length := by simp [comps, comp_length]; omega
theorem wd_comps {k : Nat} {xs : List Int} (h : k < xs.length) : wd (comps k xs) k = wd xs k := by
  have hl : (comp (xs.take k)).length = k := by rw [comp_length, List.length_take]; omega
  unfold comps
  rw [wd_append_right (by omega), hl, Nat.sub_self, wd_drop]; rfl
theorem comps_succ {k : Nat} {xs : List Int} (h : k < xs.length) : comps (k + 1) xs = (comps k xs).set k (4294967295 - wd xs k) := by
  have hl : (comp (xs.take k)).length = k := by rw [comp_length, List.length_take]; omega
  unfold comps
  rw [List.set_append_right _ _ (by omega), hl, Nat.sub_self, drop_eq h, List.set_cons_zero, take_succ h]
  simp [comp, List.map_append]

end Go.Proofs.YtgnmmifeojfjlaaDoor
