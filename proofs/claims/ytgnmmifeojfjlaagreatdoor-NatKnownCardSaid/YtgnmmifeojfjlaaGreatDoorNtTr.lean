import Derived.Test.YtgnmmifeojfjlaaGreatDoorTShelf
import Derived.Shelf.Strings.SlTrimAscii
import Derived.Test.YtgnmmifeojfjlaaGreatDoorNtNu
import Derived.WalkKit
import Derived.Below
/- strings.Trim by the ten digits; numerals. -/
set_option linter.unusedVariables false
set_option linter.unusedSimpArgs false
namespace Go.Proofs.YtgnmmifeojfjlaaGreatDoor.PA
open Go Go.RowKit Go.Proofs
def tens : ByteArray := ⟨#[48, 49, 50, 51, 52, 53, 54, 55, 56, 57]⟩
theorem tens_has (b : UInt8) : tens.data.toList.contains b = dig b := by
  have h : ∀ n : Fin 256, tens.data.toList.contains (UInt8.ofNat n.val) = dig (UInt8.ofNat n.val) := by decide +kernel
  have := h ⟨b.toNat, b.toNat_lt⟩
  rwa [UInt8.ofNat_toNat] at this
theorem dropWhile_nil {p : UInt8 → Bool} : ∀ l : List UInt8, l.dropWhile p = [] ↔ l.all p = true
  | [] => by simp
  | b :: r => by
    rw [List.dropWhile_cons, List.all_cons]
    by_cases h : p b = true
    · rw [if_pos h, h, Bool.true_and]; exact dropWhile_nil r
    · rw [if_neg h, Bool.eq_false_iff.2 h]; simp
theorem dropWhile_all {p : UInt8 → Bool} (l : List UInt8) : (l.dropWhile p).all p = true ↔ l.all p = true := by
  rw [← dropWhile_nil, ← dropWhile_nil]
  constructor
  · intro h
    cases hl : l.dropWhile p with
    | nil => rfl
    | cons b r =>
      have hb : p b = false := by
        have := List.head_dropWhile_not (p := p) (l := l) (by rw [hl]; simp)
        simpa [hl] using this
      rw [hl, List.dropWhile_cons, if_neg (by rw [hb]; simp)] at h
      cases h
  · intro h; rw [h]; rfl
theorem trim_nil (l : List UInt8) : Lib.trimS l tens.data.toList = [] ↔ l.all dig = true := by
  have e : (fun b => tens.data.toList.contains b) = dig := funext tens_has
  unfold Lib.trimS Lib.trimLeftS Lib.trimRightS
  show List.dropWhile (fun b => tens.data.toList.contains b) (List.dropWhile (fun b => tens.data.toList.contains b) l.reverse).reverse = [] ↔ _
  rw [e, dropWhile_nil, List.all_reverse, dropWhile_all, List.all_reverse]
theorem size0 (t : List UInt8) : (⟨t.toArray⟩ : ByteArray).size = 0 ↔ t = [] := by
  show t.toArray.size = 0 ↔ t = []
  simp
theorem trim_calls (s : ByteArray) (w : World) (h0 : 0 < s.size) (hs : s.size ≤ 65536) :
    Calls Tryz.prog 43 #[.string s, .string tens] w fun e w' => ∃ t : ByteArray, e = .returned (.string t) ∧ (t.size = 0 ↔ s.data.toList.all dig = true) ∧ Below w.heap.size w w' := by
  refine (Any.strings_Trim_set Tryz.lays160 (fun _ => by kernel_rfl) (by kernel_rfl) s tens w (by decide) h0 (by omega) (by decide) ?_).mono ?_
  · intro j b hj
    have hm := List.mem_of_getElem? hj
    have : dig b = true := by
      rw [← tens_has]
      exact List.contains_iff_mem.2 hm
    have := of_decide_eq_true this
    omega
  · rintro e w' ⟨rfl, q, rfl⟩
    refine ⟨_, rfl, ?_, ?_⟩
    · rw [← trim_nil]
      exact size0 _
    · have h1 := ((Below.refl w.heap.size w).alloc (Nat.le_refl _) (.cells (Lib.setCells tens.data.toList) (Tryz.lays160_ren.t 116)))
      have h2 := h1.alloc h1.size (.cells (Lib.setCells tens.data.toList) (Tryz.lays160_ren.t 116))
      exact ⟨h2.os, h2.tape, h2.output, h2.size, h2.block⟩
end Go.Proofs.YtgnmmifeojfjlaaGreatDoor.PA
