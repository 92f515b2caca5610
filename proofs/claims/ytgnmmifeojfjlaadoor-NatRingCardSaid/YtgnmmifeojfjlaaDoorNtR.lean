import Derived.Test.YtgnmmifeojfjlaaDoorNtB
/- NatRing as a plain law: sums and products are those of whole numbers. -/
set_option linter.unusedVariables false
set_option linter.unusedSimpArgs false
namespace Go.Proofs.YtgnmmifeojfjlaaDoor.NT
open Go.RowKit Go.Proofs.YtgnmmifeojfjlaaDoor.PK1 Go.Proofs.YtgnmmifeojfjlaaDoorW.PrintWords Q
theorem j2_ok (k : Nat) (hk : 600 ≤ k) {a b : Int} (ha : Sm 60 a) (hb : Sm 60 b) : slackwaterlaw01_NatRing.j2 (k + 1) (nw a) (nw b) true true (nw a) 0 true = some true := by
  simp only [slackwaterlaw01_NatRing.j2]
  rw [nsub (ha.up (by omega)) (hb.up (by omega)), Option.bind_some, awake k (by omega), Option.bind_some]
  simp only [if_true, reduceIte]
  rw [same_eq k ha.le (ha.up (by omega)).lt (by omega), Option.bind_some, if_pos rfl, ncmp (ha.up (by omega)) (hb.up (by omega)), Option.bind_some, cmp_ge]
  by_cases h : a < b
  · rw [if_pos h, decide_eq_true h]; rfl
  · rw [if_neg h, decide_eq_false h]; rfl
theorem j1_ok (k : Nat) (hk : 601 ≤ k) {a b c : Int} (ha : Sm 60 a) (hb : Sm 60 b) (hc : Sm 60 c) : slackwaterlaw01_NatRing.j1 (k + 1) (nw a) (nw b) (nw c) true true = some true := by
  obtain ⟨k, rfl⟩ : ∃ m, k = m + 1 := ⟨k - 1, by omega⟩
  have hab := ha.add hb
  have hac := ha.add hc
  have hbc := hb.add hc
  simp only [slackwaterlaw01_NatRing.j1]
  rw [ladd (ha.up (by omega)) (hb.up (by omega)), Option.bind_some, nsub (hab.up (by omega)) (hb.up (by omega)), Option.bind_some, if_neg (by have := ha.le; omega), ncmp (ha.up (by omega)) (hb.up (by omega)), Option.bind_some,
    ladd (ha.up (by omega)) (hc.up (by omega)), Option.bind_some, ladd (hb.up (by omega)) (hc.up (by omega)), Option.bind_some, ncmp (hac.up (by omega)) (hbc.up (by omega)), Option.bind_some, cmp_add, if_pos rfl, Option.bind_some,
    ncmp (hb.up (by omega)) (ha.up (by omega)), Option.bind_some, if_pos (cmp_neg a b), Option.bind_some, same_nw (k + 1) ha.le hb.le (ha.up (by omega)).lt (by omega), Option.bind_some, cmp_zero, Int.add_sub_cancel]
  simp only [beq_self_eq_true]
  exact j2_ok k (by omega) ha hb
theorem j0_ok (k : Nat) (hk : 602 ≤ k) {a b c : Int} (ha : Sm 60 a) (hb : Sm 60 b) (hc : Sm 60 c) : slackwaterlaw01_NatRing.j0 (k + 1) (nw a) (nw b) (nw c) true = some true := by
  obtain ⟨k, rfl⟩ : ∃ m, k = m + 1 := ⟨k - 1, by omega⟩
  have hab := ha.mul hb
  have hac := ha.mul hc
  have hbc := hb.mul hc
  have hba := hb.mul ha
  have habc := hab.mul hc
  have hs := hb.add hc
  have has := ha.mul hs
  have hsum := (hab.up (show 120 ≤ 121 by omega)).add (hac.up (show 120 ≤ 121 by omega))
  simp only [slackwaterlaw01_NatRing.j0]
  rw [lmul (ha.up (by omega)) (hb.up (by omega)), Option.bind_some, lmul (hb.up (by omega)) (ha.up (by omega)), Option.bind_some, Int.mul_comm b a, same_eq (k + 1) hab.le (hab.up (by omega)).lt (by omega), Option.bind_some, if_pos rfl, Option.bind_some,
    lmul (hab.up (by omega)) (hc.up (by omega)), Option.bind_some, lmul (hb.up (by omega)) (hc.up (by omega)), Option.bind_some, lmul (ha.up (by omega)) (hbc.up (by omega)), Option.bind_some, ← Int.mul_assoc, same_eq (k + 1) habc.le (habc.up (by omega)).lt (by omega), Option.bind_some, if_pos rfl,
    ladd (hb.up (by omega)) (hc.up (by omega)), Option.bind_some, lmul (ha.up (by omega)) (hs.up (by omega)), Option.bind_some, Option.bind_some, lmul (ha.up (by omega)) (hc.up (by omega)), Option.bind_some, ladd (hab.up (by omega)) (hac.up (by omega)), Option.bind_some, Int.mul_add,
    same_eq (k + 1) hsum.le (hsum.up (by omega)).lt (by omega), Option.bind_some]
  exact j1_ok k (by omega) ha hb hc
/-- NatRing is true -/
theorem ring (l m n : List Int) (hl : Wds l) (hm : Wds m) (hn : Wds n) : slackwaterlaw01_NatRing.f 1000 l m n = some true := by
  obtain ⟨a, ha, ea, _⟩ := put_f l hl
  obtain ⟨b, hb, eb, _⟩ := put_f m hm
  obtain ⟨c, hc, ec, _⟩ := put_f n hn
  have hab := ha.add hb
  have hbc := hb.add hc
  have h1 := hab.add (hc.up (show 60 ≤ 61 by omega))
  unfold slackwaterlaw01_NatRing.f
  rw [ea, Option.bind_some, eb, Option.bind_some, ec, Option.bind_some, ladd (ha.up (by omega)) (hb.up (by omega)), Option.bind_some, ladd (hb.up (by omega)) (ha.up (by omega)), Option.bind_some, Int.add_comm b a, same_eq 1000 hab.le (hab.up (by omega)).lt (by omega), Option.bind_some, if_pos rfl, Option.bind_some,
    ladd (hab.up (by omega)) (hc.up (by omega)), Option.bind_some, ladd (hb.up (by omega)) (hc.up (by omega)), Option.bind_some, ladd (ha.up (by omega)) (hbc.up (by omega)), Option.bind_some, ← Int.add_assoc, same_eq 1000 h1.le (h1.up (by omega)).lt (by omega), Option.bind_some]
  exact j0_ok 999 (by omega) ha hb hc
end Go.Proofs.YtgnmmifeojfjlaaDoor.NT
