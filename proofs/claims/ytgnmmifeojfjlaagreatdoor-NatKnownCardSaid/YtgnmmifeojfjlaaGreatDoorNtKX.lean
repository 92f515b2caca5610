import Derived.Test.YtgnmmifeojfjlaaGreatDoorNtC
import Derived.Test.YtgnmmifeojfjlaaGreatDoorPK1x
import Derived.Test.YtgnmmifeojfjlaaGreatDoorQNat10
import Derived.Test.YtgnmmifeojfjlaaGreatDoorRows
import Derived.Test.YtgnmmifeojfjlaaGreatDoorGLaid1
import Derived.WalkKit
import Derived.ProofKit
import Derived.Lib.LaidTab
import Derived.Stop.LaidErr
import Derived.Shelf.Vars
import Derived.MakeChecks
import Derived.Lay
import Derived.LaidLaws
/- The calls of package nat at numbers told by their values. Plain Lean. -/
set_option linter.unusedVariables false
set_option linter.unusedSimpArgs false
namespace Q
theorem nw_wds (v : Int) : Wds (nw v) := by rw [← nwd_nw]; exact nwd_wds v
theorem nw_tr (v : Int) : Tr (nw v) := by rw [← nwd_nw]; exact nwd_tr v
theorem val_nw {v : Int} (h : 0 ≤ v) : val (nw v) = v := by rw [← nwd_nw]; exact val_nwd h
theorem nw_len {v : Int} {n : Nat} (h : v < Bp n) (h0 : 0 ≤ v) : (nw v).length ≤ n := by rw [← nwd_nw]; exact nwd_len_le h h0
theorem nw_val {xs : List Int} (h : Wds xs) (t : Tr xs) : nw (val xs) = xs := by rw [← nwd_nw]; exact nwd_eq h t rfl
theorem nw_zero : nw 0 = [] := by rw [← nwd_nw]; exact nwd_zero
theorem toldC_ok {v : Int} (h0 : 0 ≤ v) (h : v < Bp 8192) : toldC v = (nw v, 0) := by
  unfold toldC
  rw [if_neg (by have := nw_len h h0; omega)]
theorem toldC_long {v : Int} (h0 : 0 ≤ v) (h : Bp 8192 ≤ v) : toldC v = ([], 3) := by
  unfold toldC
  have hl : 8192 < (nw v).length := by
    by_cases hc : (nw v).length ≤ 8192
    · have h1 := val_lt (nw_wds v)
      have h2 := Bp_mono hc
      rw [val_nw h0] at h1
      omega
    · omega
  rw [if_pos hl]
end Q

/- NatKnown as a plain law: a closed one. -/
set_option linter.unusedVariables false
set_option linter.unusedSimpArgs false
namespace Go.Proofs.YtgnmmifeojfjlaaGreatDoor.NT
open Go.RowKit Go.Proofs.YtgnmmifeojfjlaaGreatDoor.PK1 Go.Proofs.YtgnmmifeojfjlaaGreatDoorW.PrintWords Q
/-- the greatest power of two of so many words -/
theorem wide_v (n m : Nat) (hm : m = 32 * n + 31) : Bp n ≤ 2 ^ m ∧ (2 : Int) ^ m < Bp (n + 1) ∧ Bp (n + 1) = 2 ^ m + 2 ^ m := by
  subst hm
  have h1 : (2 : Int) ^ (32 * n + 31) = Bp n * 2147483648 := by rw [Int.pow_add, Bp_two']; rfl
  have h2 := Bp_succ n
  have h3 := Bp_pos n
  rw [h1, h2]
  omega
theorem wide_len {n : Nat} {v : Int} (h0 : Bp n ≤ v) (h1 : v < Bp (n + 1)) : (nw v).length = n + 1 := by
  have p := Bp_pos n
  have a := nw_len h1 (by omega)
  by_cases h : (nw v).length ≤ n
  · have h2 := val_lt (nw_wds v)
    rw [val_nw (by omega)] at h2
    have h3 := Bp_mono h
    omega
  · omega
theorem wide_facts {v : Int} (h0 : Bp 8191 ≤ v) (h1 : v < Bp (8191 + 1)) (h2 : Bp (8191 + 1) = v + v) :
    (nw v).length = 8192 ∧ nat_Add.f (nw v) (nw v) = some ([], 3) ∧ nat_Mul.f (nw v) [2] = some ([], 3) := by
  have p := Bp_pos 8191
  have hl : (nw v).length = 8191 + 1 := wide_len h0 h1
  have hc : chk (nw v) = 0 := chk_zero.2 ⟨by omega, nw_tr v⟩
  have ho : okw (nw v) = true := okw_iff.2 ⟨by omega, nw_wds v⟩
  have hv : val (nw v) = v := val_nw (by omega)
  have hB : Bp (8191 + 1) = Bp 8192 := rfl
  have hlong : toldC (v + v) = ([], 3) := toldC_long (by omega) (by rw [← hB]; omega)
  refine ⟨hl, ?_, ?_⟩
  · unfold nat_Add.f addC chk2
    rw [if_pos ⟨ho, ho⟩, hc, if_pos rfl, if_pos rfl, hv, hlong]
  · have h2v : val [2] = 2 := by decide +kernel
    have hc2 : chk [2] = 0 := by decide +kernel
    unfold nat_Mul.f mulC chk2
    rw [if_pos ⟨ho, by decide +kernel⟩, hc, if_pos rfl, hc2, if_pos rfl, if_neg, if_neg, hv, h2v, show v * 2 = v + v by omega, hlong]
    · rw [hl]; simp
    · intro h
      rcases h with h | h
      · rw [h] at hl; simp at hl
      · cases h
theorem shift_wide : nat_Shift.f [1] 262143 = some (nw (2 ^ 262143), 0) := by
  have h1 : chk [1] = 0 := by decide +kernel
  have h2 : val [1] = 1 := by decide +kernel
  have h3 : ¬ (262144 < bl [1] + 262143) := by decide +kernel
  have h4 : okw [1] = true := by decide +kernel
  unfold nat_Shift.f shC
  rw [if_pos ⟨h4, by omega, by omega⟩, if_pos h1, if_neg (by omega), if_neg (by omega), if_neg (by simp), if_neg h3, h2, Int.one_mul]
  rfl
theorem k_f : slackwaterlaw01_NatKnown.f 5000 = slackwaterlaw01_NatKnown.j0 5000 true := by
  unfold slackwaterlaw01_NatKnown.f
  rw [show nat_Trim.f [5, 0, 0] = some [5] by decide +kernel, Option.bind_some, show slackwaterkit_SameWords.f 5000 [5] [5] = some true by decide +kernel, Option.bind_some, if_pos rfl,
    show nat_Check.f [5, 0] = some 11 by decide +kernel, Option.bind_some, if_pos rfl, show nat_Check.f [] = some 0 by decide +kernel, Option.bind_some, if_pos rfl,
    show nat_Compare.f [5, 0] [5] = some 0 by decide +kernel, Option.bind_some]
  rfl
theorem k_j0 (x : Bool) : slackwaterlaw01_NatKnown.j0 (4999 + 1) x = slackwaterlaw01_NatKnown.j1 4999 x true := by
  unfold slackwaterlaw01_NatKnown.j0; try dsimp only
  rw [show nat_Sub.f [0, 1] [1] = some ([4294967295], 0) by decide +kernel, Option.bind_some, show nat_Sub.f [1] [2] = some ([], 2) by decide +kernel, Option.bind_some,
    show nat_Mul.f [4294967295] [4294967295] = some ([1, 4294967294], 0) by decide +kernel, Option.bind_some, show nat_DivMod.f [1] [] = some ([], [], 7) by decide +kernel, Option.bind_some,
    show nat_Gcd.f [12] [18] = some ([6], 0) by decide +kernel, Option.bind_some, show nat_Gcd.f [] [7] = some ([7], 0) by decide +kernel, Option.bind_some, show nat_Gcd.f [] [] = some ([], 0) by decide +kernel, Option.bind_some]
  simp only [if_true]
  rw [show slackwaterkit_SameWords.f 4999 [4294967295] [4294967295] = some true by decide +kernel, Option.bind_some, if_pos rfl, show slackwaterkit_SameWords.f 4999 [1, 4294967294] [1, 4294967294] = some true by decide +kernel, Option.bind_some, if_pos rfl,
    show slackwaterkit_SameWords.f 4999 [6] [6] = some true by decide +kernel, Option.bind_some, if_pos rfl, show slackwaterkit_SameWords.f 4999 [7] [7] = some true by decide +kernel, Option.bind_some, if_pos rfl]
  rfl
theorem k_j1 (x y : Bool) : slackwaterlaw01_NatKnown.j1 (4998 + 1) x y = slackwaterlaw01_NatKnown.j2 4998 x y (nw (2 ^ 262143)) true := by
  obtain ⟨h0, h1, h2⟩ := wide_v 8191 262143 rfl
  have hw := wide_facts h0 h1 h2
  have hs := shift_wide
  clear h0 h1 h2
  generalize nw (2 ^ 262143) = W at *
  unfold slackwaterlaw01_NatKnown.j1; try dsimp only
  rw [show nat_Shift.f [1] 33 = some ([0, 2], 0) by decide +kernel, Option.bind_some, show nat_Shift.f [7] (-1) = some ([3], 0) by decide +kernel, Option.bind_some, show nat_Shift.f [1] 262144 = some ([], 3) by decide +kernel, Option.bind_some,
    hs, Option.bind_some, show nat_Shift.f [1] 262145 = some ([], 2) by decide +kernel, Option.bind_some, show nat_Shift.f [] 262144 = some ([], 0) by decide +kernel, Option.bind_some]
  simp only [if_true]
  rw [if_pos (by rfl), show slackwaterkit_SameWords.f 4998 [0, 2] [0, 2] = some true by decide +kernel, Option.bind_some, if_pos rfl, show slackwaterkit_SameWords.f 4998 [3] [3] = some true by decide +kernel, Option.bind_some, if_pos rfl,
    if_pos (by rw [hw.1]; rfl), show nat_Bits.f [0, 1] = some 33 by decide +kernel, Option.bind_some, if_pos rfl, show nat_Bits.f [] = some 0 by decide +kernel, Option.bind_some]
  rfl
theorem k_j2 (x y z : Bool) : slackwaterlaw01_NatKnown.j2 (4997 + 1) x y (nw (2 ^ 262143)) z = slackwaterlaw01_NatKnown.l0 4997 x y z 3 3 [⟨#[48, 48, 55]⟩, ⟨#[]⟩, ⟨#[45, 49]⟩, ⟨#[32, 49]⟩, ⟨#[49, 32]⟩, ⟨#[43, 49]⟩, ⟨#[49, 97]⟩] 0 := by
  obtain ⟨h0, h1, h2⟩ := wide_v 8191 262143 rfl
  have hw := wide_facts h0 h1 h2
  clear h0 h1 h2
  generalize nw (2 ^ 262143) = W at *
  unfold slackwaterlaw01_NatKnown.j2; try dsimp only
  rw [hw.2.1, Option.bind_some, hw.2.2, Option.bind_some]
theorem k_l0 : slackwaterlaw01_NatKnown.l0 4997 true true true 3 3 [⟨#[48, 48, 55]⟩, ⟨#[]⟩, ⟨#[45, 49]⟩, ⟨#[32, 49]⟩, ⟨#[49, 32]⟩, ⟨#[43, 49]⟩, ⟨#[49, 97]⟩] 0 = some true := by decide +kernel
theorem known : slackwaterlaw01_NatKnown.f 5000 = some true :=
  k_f.trans ((k_j0 true).trans ((k_j1 true true).trans ((k_j2 true true true).trans k_l0)))
end Go.Proofs.YtgnmmifeojfjlaaGreatDoor.NT

/- The walk of NatKnown, whole. -/
set_option linter.unusedVariables false
namespace Go.Proofs.YtgnmmifeojfjlaaGreatDoor
open Go Go.RowKit Q Go.Proofs.YtgnmmifeojfjlaaGreatDoorW.PrintWords
theorem NatKnown_walk (W : World) (hL : LW W) :
    Calls Tryz.prog 4 #[] W fun e W' => e = .returned (.bool true) ∧ Below W.heap.size W W' :=
  PK1.slackwaterlaw01_NatKnown.calls 5000 true W hL NT.known
end Go.Proofs.YtgnmmifeojfjlaaGreatDoor

/- What the row's list of variables gives: the library's table that the numbers' texts read. -/
set_option linter.unusedVariables false
namespace Go.Proofs.YtgnmmifeojfjlaaGreatDoor
open Go Go.RowKit Go.Proofs
theorem gTab8 : Tryz.prog.globalNamed "internal/strconv.uint64pow10" = some 0 := by kernel_rfl
theorem gTab8Type : (Tryz.prog.globals[0]?).map (·.type) = some 121 := by kernel_rfl
theorem cells99_8 : Tryz.prog.cellsOf 121 = 20 := by kernel_rfl
theorem cells82_8 : Tryz.prog.cellsOf 52 = 1 := by kernel_rfl
theorem lw_of {W : World} (h : laidMet Tryz.prog Rows.natKnownRow.laid W) (hsh : W.ShapedOpen Tryz.prog) : LW W := by
  have h2 : laidMet Tryz.prog (("internal/strconv.uint64pow10", Lib.tabData .u64 Lib.pow10Tab) :: Rows.natKnownRow.laid.drop 3) W := h.tail.tail
  exact ⟨Lib.tabIs_of_head gTab8 gTab8Type Tryz.underlying121 Tryz.underlying52 cells82_8 cells99_8 h2⟩
/-- a world that holds what is listed -/
theorem laid_metn (os : Os) (args : Array Value) : laidMet Tryz.prog Rows.natKnownRow.laid ((World.laidAll Tryz.prog os Rows.natKnownRow.laid).forCall (fun _ _ => 0) ⟨#[], args, []⟩).memory := laidMet_laidAll _ (by kernel_rfl) (by kernel_rfl)
theorem laid_shapedn (os : Os) (args : Array Value) : ((World.laidAll Tryz.prog os Rows.natKnownRow.laid).forCall (fun _ _ => 0) ⟨#[], args, []⟩).Shaped Tryz.prog := World.shaped_of_ZipB (by kernel_rfl) (by kernel_rfl)
end Go.Proofs.YtgnmmifeojfjlaaGreatDoor

