/- The walk of WholeOf. -/
import Derived.Test.YtidccoahjpjoaaaLWholeLives
import Derived.Test.YtidccoahjpjoaaaRWhl4
set_option linter.unusedVariables false
set_option linter.unusedSimpArgs false
namespace Go.Proofs.Ytidccoahjpjoaaa
open Go Go.RowKit Q

set_option maxHeartbeats 1000000 in
theorem WholeOf_walk (x : Int) (w : World) (h0 : -9223372036854775808 ≤ x) (h1 : x < 9223372036854775808) :
    Calls Try.prog 3 #[.int .i64 x] w fun e w' => e = .returned (.bool true) ∧ Below w.heap.size w w' := by
  have hsx : Sh x := sh_small (by omega)
  have hlx := cw_len hsx
  go_enter Try.func3, Try.ntmps3
  go_wp2_with fail
  refine (wOf_calls x _ h0 h1).mono ?_
  rintro e w1 ⟨A1, c1, rfl, ho, hb⟩
  have HO := Q.hid (ho.alloc (.cells #[.bool (cn x), .slice A1 (cw x).length c1] 24))
  have B1 := Q.hid (Bx.new w1 (cn x) (.slice A1 (cw x).length c1))
  have HB := Q.hid (hb.alloc hb.size (.cells #[.bool (cn x), .slice A1 (cw x).length c1] 24))
  clear ho hb
  obtain ⟨W, hW⟩ : ∃ W, W = w1.alloc (.cells #[.bool (cn x), .slice A1 (cw x).length c1] 24) := ⟨_, rfl⟩
  rw [← hW] at HO B1 HB
  have HI := Q.hid (inn_of HO.out hsx)
  have k10 := B1.out.c0
  have k11 := B1.out.c1
  go_wp2
  rw [← hW]
  clear hW
  go_region_held3 (fun w' => w'.cell? ⟨w1.heap.size, 0, none⟩ = some (.bool (cn x)) ∧ w'.cell? ⟨w1.heap.size, 1, none⟩ = some (.slice A1 (cw x).length c1)) (exact ⟨k10, k11⟩) (first
    | (go_at_call 9
       refine (rWOf_calls x _ h0 h1).mono ?_
       rintro e w2 ⟨A2, c2, rfl, ho, hb⟩
       have hbb : Below W.heap.size W w2 := ⟨hb.os, hb.tape, hb.output, hb.size, hb.block⟩
       have B1 := Q.hid (B1.out.below hbb)
       have HB := Q.hid (bs2 HB.out hbb)
       have HI := Q.hid (HI.out.below hbb)
       have HI2 := Q.hid (inn_of ho hsx)
       clear ho hb hbb k10 k11
       have k10 := B1.out.c0
       have k11 := B1.out.c1)
    | (go_at_call 8
       refine (SameWhole_eq (cn x) A1 A2 c1 c2 (cw x) _ ?_ ?_ (by omega)).mono ?_
       exact HI.out.rd
       exact HI2.out.rd
       rintro e w3 ⟨rfl, hb⟩
       have hbb : Below w2.heap.size w2 w3 := ⟨hb.os, hb.tape, hb.output, hb.size, hb.block⟩
       have B1 := Q.hid (B1.out.below hbb)
       have HB := Q.hid (bs2 HB.out hbb)
       have HI := Q.hid (HI.out.below hbb)
       clear hb hbb k10 k11
       have k10 := B1.out.c0
       have k11 := B1.out.c1)
    | (go_at_call 10
       refine (is_eq A1 c1 x _ ?_ h0 h1).mono ?_
       exact ⟨HI.out.rd, HI.out.cap, HI.out.small, HI.out.wds⟩
       rintro e w4 ⟨rfl, hb⟩
       have hbb : Below w3.heap.size w3 w4 := ⟨hb.os, hb.tape, hb.output, hb.size, hb.block⟩
       have B1 := Q.hid (B1.out.below hbb)
       have HB := Q.hid (bs2 HB.out hbb)
       clear hb hbb k10 k11
       have k10 := B1.out.c0
       have k11 := B1.out.c1)
    | (go_at_call 11
       refine (lives_calls _).mono ?_
       rintro e w5 ⟨rfl, hb⟩
       have hbb : Below w4.heap.size w4 w5 := ⟨hb.os, hb.tape, hb.output, hb.size, hb.block⟩
       have B1 := Q.hid (B1.out.below hbb)
       have HB := Q.hid (bs2 HB.out hbb)
       clear hb hbb k10 k11
       have k10 := B1.out.c0
       have k11 := B1.out.c1))
  all_goals
    go_wp2
    go_ret
    exact ⟨rfl, HB.out⟩
end Go.Proofs.Ytidccoahjpjoaaa
