/- Proved: whatever the input, RotorApart answers true, and what came in reads as it did. No condition. -/
import Derived.Test.YtgjmlbcpjjpegaaRows
import Derived.Test.YtgjmlbcpjjpegaaRoV
import Derived.Test.YtgjmlbcpjjpegaaRowT
set_option linter.unusedVariables false
set_option linter.unusedSimpArgs false
namespace Go.Proofs.Ytgjmlbcpjjpegaa.rotorApart
open Go Go.ChangeShapes Go.WideShapes Go.ChangeAt Go.RowKit GB
open Go.ChangeMaps (open_string shut_string)
theorem own : ownKnob Try.prog.godebug = none := by kernel_rfl
theorem laidOut : laidOutB Try.prog = true := by kernel_rfl
set_option maxRecDepth 100000 in
theorem lifted (os : Os) (started : os.Started) (H : Type) (enc : TypeId × Value → H) :
    ReturnsInHanded {} Try.checked os 6 .any (Rows.rotorApartSpec.pre6 enc Try.prog Try.f6 Rows.rotorApartRow.domain false) (Rows.rotorApartSpec.post enc Try.prog Try.f6 false true false false) := by
  refine returnsInHanded_of_change_sized (C := Try.checked) own started (by kernel_rfl) Try.func6
    (ChangeSpec.witness6 (enc := enc) (C := Try.checked) false ⟨#[], #[.agg #[.int .i32 0, .int .i32 0], .agg #[.int .i32 0, .int .i32 0], .agg #[.int .i32 0, .int .i32 0]], []⟩ 8 (by kernel_rfl) (by kernel_rfl) (by kernel_rfl) (by kernel_rfl)) ?_
  intro W base args ds gs before hval0 hW hcnd hsz0 _
  have hsz : (DataW.weightsEach Try.prog (Try.f6.params.toList ++ Rows.rotorApartSpec.plain.varTypes Try.prog) (ds ++ gs)).all (· ≤ reachBytes) = true := hsz0
  have hval : ∀ (j : Nat) t v, Try.f6.params[j]? = some t → args[j]? = some v → Value.okWide Try.prog W .any base t v := hval0
  have hW' := hW
  obtain ⟨p, q, hA0, hV, rfl, hfz, hnd⟩ := hW
  have hA : DataW.TrodAll enc Try.prog W 0 (fun _ => true) true Try.f6.params.toList args.toList ds p := hA0
  rw [Try.params6] at hA hval hsz
  obtain ⟨v0, vs0, d0, ds0, p0, q0, hargs, rfl, rfl, h0, r0⟩ := trodAll_cons hA
  obtain ⟨v1, vs1, d1, ds1, p1, q1, rfl, rfl, rfl, h1, r1⟩ := trodAll_cons r0
  obtain ⟨v2, vs2, d2, ds2, p2, q2, rfl, rfl, rfl, h2, r2⟩ := trodAll_cons r1
  obtain ⟨rfl, rfl, rfl⟩ := trodAll_nil r2
  obtain rfl : args = #[v0, v1, v2] := by cases args; simp_all
  obtain ⟨rfl, rfl⟩ := trodVars_none hV
  have lt0 : ∀ x ∈ p0, x.block < W.heap.size := by obtain ⟨m, hm⟩ := h0; exact DataW.trod_lt m _ _ _ hm
  obtain ⟨cs0, rfl, _⟩ := okWide_struct Try.underlying25 (hval 0 25 v0 rfl rfl)
  obtain ⟨x0_0, x0_1, rfl, wf0_0, wf0_1⟩ := GB.int2_open Try.underlying25 Try.underlying21 Try.underlying21 rfl rfl (by kernel_rfl) (by kernel_rfl) (by kernel_rfl) h0
  have bdx0_0 : -2147483648 ≤ x0_0 ∧ x0_0 < 2147483648 := by
    simp [Lit.wf, IntKind.min, IntKind.max, IntKind.bits, IntKind.signed] at wf0_0
    omega
  have bdx0_1 : -2147483648 ≤ x0_1 ∧ x0_1 < 2147483648 := by
    simp [Lit.wf, IntKind.min, IntKind.max, IntKind.bits, IntKind.signed] at wf0_1
    omega
  have lt1 : ∀ x ∈ p1, x.block < W.heap.size := by obtain ⟨m, hm⟩ := h1; exact DataW.trod_lt m _ _ _ hm
  obtain ⟨cs1, rfl, _⟩ := okWide_struct Try.underlying25 (hval 1 25 v1 rfl rfl)
  obtain ⟨x1_0, x1_1, rfl, wf1_0, wf1_1⟩ := GB.int2_open Try.underlying25 Try.underlying21 Try.underlying21 rfl rfl (by kernel_rfl) (by kernel_rfl) (by kernel_rfl) h1
  have bdx1_0 : -2147483648 ≤ x1_0 ∧ x1_0 < 2147483648 := by
    simp [Lit.wf, IntKind.min, IntKind.max, IntKind.bits, IntKind.signed] at wf1_0
    omega
  have bdx1_1 : -2147483648 ≤ x1_1 ∧ x1_1 < 2147483648 := by
    simp [Lit.wf, IntKind.min, IntKind.max, IntKind.bits, IntKind.signed] at wf1_1
    omega
  have lt2 : ∀ x ∈ p2, x.block < W.heap.size := by obtain ⟨m, hm⟩ := h2; exact DataW.trod_lt m _ _ _ hm
  obtain ⟨cs2, rfl, _⟩ := okWide_struct Try.underlying25 (hval 2 25 v2 rfl rfl)
  obtain ⟨x2_0, x2_1, rfl, wf2_0, wf2_1⟩ := GB.int2_open Try.underlying25 Try.underlying21 Try.underlying21 rfl rfl (by kernel_rfl) (by kernel_rfl) (by kernel_rfl) h2
  have bdx2_0 : -2147483648 ≤ x2_0 ∧ x2_0 < 2147483648 := by
    simp [Lit.wf, IntKind.min, IntKind.max, IntKind.bits, IntKind.signed] at wf2_0
    omega
  have bdx2_1 : -2147483648 ≤ x2_1 ∧ x2_1 < 2147483648 := by
    simp [Lit.wf, IntKind.min, IntKind.max, IntKind.bits, IntKind.signed] at wf2_1
    omega
  clear hA0 hval0 hsz0 hsz
  refine (RT.RotorApart_walk x0_0 x0_1 x1_0 x1_1 x2_0 x2_1 W bdx0_0.1 bdx0_0.2 bdx0_1.1 bdx0_1.2 bdx1_0.1 bdx1_0.2 bdx1_1.1 bdx1_1.2 bdx2_0.1 bdx2_0.2 bdx2_1.1 bdx2_1.2).mono fun e W' ⟨he, bel⟩ => ?_
  subst he
  exact ⟨_, rfl, _, _, _, [], _, [], hW', trodAll_mk1 (shut_bool Try.underlying4 _), (trodAll_cons_mk (Below.trod laidOut (by kernel_rfl) (of_decide_eq_true (by kernel_rfl)) h0 bel lt0) (trodAll_cons_mk (Below.trod laidOut (by kernel_rfl) (of_decide_eq_true (by kernel_rfl)) h1 bel lt1) (trodAll_cons_mk (Below.trod laidOut (by kernel_rfl) (of_decide_eq_true (by kernel_rfl)) h2 bel lt2) trodAll_mk0))), rfl, bel.frame _, fun h => by cases h⟩
theorem over : Rows.rotorApartRow.holds Try.pinned (OpenSpec.ofChange Rows.rotorApartSpec) :=
  OpenClaim.holds_of_wide 6 Try.f6 rfl rfl rfl rfl rfl rfl rfl ⟨rfl, rfl, rfl, rfl, rfl⟩ rfl rfl rfl rfl rfl (by kernel_rfl) Try.func6 (by kernel_rfl)
    (of_decide_eq_true (by kernel_rfl)) (by unfold Func.isWrapper; first | (rw [if_pos (by decide +kernel)]; kernel_rfl) | (rw [if_neg (by decide +kernel)]; exact ⟨rfl, rfl⟩))
    (fun os started H enc _ => lifted os started H enc)
end Go.Proofs.Ytgjmlbcpjjpegaa.rotorApart
namespace Go.Proofs.Ytgjmlbcpjjpegaa
theorem rotorApart_holds : Rows.RotorApartSaid := rotorApart.over
#print axioms rotorApart_holds
end Go.Proofs.Ytgjmlbcpjjpegaa
