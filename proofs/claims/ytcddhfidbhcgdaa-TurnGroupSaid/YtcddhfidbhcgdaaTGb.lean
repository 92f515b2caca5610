/- TurnGroup as a plain law. -/
import Derived.Laws.BitsLemmas
import Derived.Test.YtcddhfidbhcgdaaTGa
set_option linter.unusedVariables false
set_option linter.unusedSimpArgs false
namespace Go.Proofs.Ytcddhfidbhcgdaa.TG
open Go.RowKit Go.Proofs.Ytcddhfidbhcgdaa.PTG Go.Proofs.YtcddhfidbhcgdaaW.PrintWords
theorem wraps_u64 (n : Int) (h0 : 0 ≤ n) (h1 : n < 2 ^ 64) : IntKind.u64.wrap n = n := u64_in h0 (by have : (2 : Int) ^ 64 = 18446744073709551616 := by decide
                                                                                                     omega)
theorem and_mask {x : Int} (h0 : 0 ≤ x) (h1 : x < 18446744073709551616) : Go.bits .and .u64 x 4294967295 = x % 4294967296 :=
  bits_mask .u64 64 (by decide) wraps_u64 32 (by decide) x h0 h1
theorem mul64 {a b : Int} (a0 : 0 ≤ a) (a1 : a < 4294967296) (b0 : 0 ≤ b) (b1 : b < 4294967296) : bits_Mul64.f a b = some (0, a * b) := by
  have h1 : a * b ≤ 4294967295 * 4294967295 := mul_bd a0 b0 (by omega) (by omega)
  have h0 : 0 ≤ a * b := Int.mul_nonneg a0 b0
  unfold bits_Mul64.f
  rw [show a / 4294967296 = 0 by omega, show b / 4294967296 = 0 by omega, and_mask a0 (by omega), and_mask b0 (by omega), Int.emod_eq_of_lt a0 a1, Int.emod_eq_of_lt b0 b1]
  rw [u64_in h0 (by omega)]
  simp only [Int.zero_mul, Int.mul_zero]
  have d0 : 0 ≤ a * b / 4294967296 := by omega
  have d1 : a * b / 4294967296 < 4294967296 := by omega
  generalize a * b / 4294967296 = c at *
  rw [u64_in (x := 0) (by omega) (by omega)]
  simp only [Int.zero_add]
  have z : IntKind.u64.wrap 0 = 0 := u64_in (by omega) (by omega)
  simp [z, u64_in d0 (show c ≤ 18446744073709551615 by omega), and_mask d0 (by omega), Int.emod_eq_of_lt d0 d1, show c / 4294967296 = 0 by omega]
theorem q_nat_step (k : Int) (p u : Int) : ((k + 1 : Int) : Rat) * q p u = (k : Rat) * q p u + q p u := by
  rw [Rat.intCast_add]
  have : ((1 : Int) : Rat) = 1 := rfl
  rw [this]; grind
/-- n times a turn -/
theorem times (k : Nat) (hk : big ≤ k) {p u : Int} (ha : Ok p u) (n : Int) (n0 : 0 ≤ n) (n1 : n ≤ 20) : ∃ x w, Ok x w ∧ Same (q x w) ((n : Rat) * q p u) ∧ turn_Times.f k p u n = some (x, w, 0) := by
  have u0 : 0 < u := by have := ha.p0; have := ha.pw; omega
  have c := chk_ok k hk ha
  obtain ⟨⟨p0, pu, cp⟩, u1⟩ := ha
  have hn : wrap64 n = n := wrap64_in (by omega) (by omega)
  have r0 : 0 ≤ n % u := Int.emod_nonneg _ (by omega)
  have r1 : n % u < u := Int.emod_lt_of_pos _ u0
  have e1 : n.tmod u = n % u := Int.tmod_eq_emod_of_nonneg n0
  have e2 : wrap64 (n % u + u) = n % u + u := wrap64_in (by omega) (by omega)
  have e3 : (n % u + u).tmod u = n % u := by rw [Int.tmod_eq_emod_of_nonneg (by omega), Int.add_emod_right, Int.emod_emod]
  have m0 : 0 ≤ p * (n % u) := Int.mul_nonneg p0 r0
  have m1 : p * (n % u) ≤ 4294967295 * 4294967295 := mul_bd p0 r0 (by omega) (by omega)
  have P0 : 0 ≤ p * (n % u) % u := Int.emod_nonneg _ (by omega)
  have P1 : p * (n % u) % u < u := Int.emod_lt_of_pos _ u0
  obtain ⟨x, w, hl, hs, hw, hf⟩ := low k hk P0 P1 (by omega)
  refine ⟨x, w, ⟨hl, by omega⟩, ?_, ?_⟩
  · rw [hs]
    have d1 := Int.mul_ediv_add_emod (p * (n % u)) u
    have d2 := Int.mul_ediv_add_emod n u
    refine ⟨-(p * (n % u) / u) - p * (n / u), ?_⟩
    have nz := cast_ne u0
    generalize n % u = r at *
    generalize p * r % u = s at *
    generalize p * r / u = t at *
    generalize n / u = v at *
    have f1 : (u : Rat) * t + s = p * r := by exact_mod_cast d1
    have f2 : (u : Rat) * v + r = n := by exact_mod_cast d2
    unfold q
    rw [Rat.intCast_sub, Rat.intCast_neg, Rat.intCast_mul]
    grind
  · unfold turn_Times.f
    rw [c, Option.bind_some, if_pos rfl, if_neg (by omega), hn, e1, e2, e3, u64_in p0 (by omega), u64_in r0 (by omega), u64_in (x := u) (by omega) (by omega), mul64 p0 (by omega) r0 (by omega), Option.bind_some]
    unfold bits_Rem64.f
    rw [if_pos ⟨rfl, m0, u0⟩, Option.bind_some, hf, if_neg (by omega)]
    rfl
theorem add_is (k : Nat) (hk : big ≤ k) {p u r v x w : Int} (ha : Ok p u) (hb : Ok r v) (hx : Ok x w) (hs : Same (q x w) (q p u + q r v)) : slackwaterlaw08_add.f k p u r v = some (x, w, true) := by
  unfold slackwaterlaw08_add.f
  rw [sum_is k hk ha hb hx hs]
  rfl
theorem add_ok (k : Nat) (hk : big ≤ k) {p u r v : Int} (ha : Ok p u) (hb : Ok r v) : (∃ x w, Ok x w ∧ Same (q x w) (q p u + q r v) ∧ ∀ k, big ≤ k → slackwaterlaw08_add.f k p u r v = some (x, w, true)) ∨ ∀ k, big ≤ k → slackwaterlaw08_add.f k p u r v = some (0, 0, false) := by
  obtain ⟨x, w, hl, hs, hf⟩ := sum k hk ha hb
  by_cases hc : w > 4294967296
  · refine .inr fun k' hk' => ?_
    unfold slackwaterlaw08_add.f
    obtain ⟨x', w', hl', hs', hf'⟩ := sum k' hk' ha hb
    obtain ⟨rfl, rfl⟩ := uniq hl hl' (hs.trans hs'.symm)
    rw [hf', if_pos hc]
    rfl
  · exact .inl ⟨x, w, ⟨hl, by omega⟩, hs, fun k' hk' => add_is k' hk' ha hb ⟨hl, by omega⟩ hs⟩
theorem chk_bad (k : Nat) : turn_Check.f k 0 0 = some 180 := by unfold turn_Check.f; simp
theorem add_badr (k : Nat) (hk : big ≤ k) {p u : Int} (ha : Ok p u) : slackwaterlaw08_add.f k p u 0 0 = some (0, 0, false) := by
  unfold slackwaterlaw08_add.f turn_Add.f
  rw [chk_ok k hk ha, Option.bind_some, if_pos rfl, chk_bad]
  rfl
theorem add_badl (k : Nat) (s w : Int) : slackwaterlaw08_add.f k 0 0 s w = some (0, 0, false) := by
  unfold slackwaterlaw08_add.f turn_Add.f
  rw [chk_bad]
  rfl
theorem sub_bad (k : Nat) (s w : Int) : turn_Sub.f k 0 0 s w = some (0, 0, 180) := by
  unfold turn_Sub.f
  rw [chk_bad]
  rfl
theorem loop (n : Int) (n0 : 0 ≤ n) (n1 : n ≤ 20) {p u : Int} (ha : Ok p u) (d : Nat) : ∀ (k : Nat) (i x w : Int), big + d + 1 ≤ k → 0 ≤ i → n - i = d → Ok x w → Same (q x w) ((i : Rat) * q p u) → slackwaterlaw08_TurnGroup.l0 k n i p u x w = some true := by
  induction d with
  | zero =>
    intro k i x w hk i0 hd hx hs
    obtain ⟨k, rfl⟩ : ∃ m, k = m + 1 := ⟨k - 1, by omega⟩
    obtain rfl : i = n := by omega
    obtain ⟨x', w', hx', hs', hf⟩ := times k (by omega) ha i n0 n1
    obtain ⟨rfl, rfl⟩ := uniq hx.toLow hx'.toLow (hs.trans hs'.symm)
    simp only [slackwaterlaw08_TurnGroup.l0]
    rw [if_neg (by omega), wrap32_in (by omega) (by omega), hf]
    simp
  | succ d ih =>
    intro k i x w hk i0 hd hx hs
    obtain ⟨k, rfl⟩ : ∃ m, k = m + 1 := ⟨k - 1, by omega⟩
    obtain ⟨x', w', hx', hs', _⟩ := times k (by omega) ha (i + 1) (by omega) (by omega)
    have hadd : Same (q x' w') (q x w + q p u) := by
      refine hs'.trans ?_
      rw [q_nat_step]
      exact Same.add hs.symm (Same.refl _)
    simp only [slackwaterlaw08_TurnGroup.l0]
    rw [if_pos (by omega), add_is k (by omega) hx ha hx' hadd, Option.bind_some, if_pos rfl, wrap64_in (by omega) (by omega)]
    exact ih k (i + 1) x' w' (by omega) (by omega) (by omega) hx' hs'
theorem sub_is (k : Nat) (hk : big ≤ k) {p u r v x w : Int} (ha : Ok p u) (hb : Ok r v) (hx : Ok x w) (hs : Same (q x w) (q p u + -q r v)) : turn_Sub.f k p u r v = some (x, w, 0) := by
  obtain ⟨y, hy, hys, hyf⟩ := neg k hk hb
  unfold turn_Sub.f
  rw [chk_ok k hk ha, Option.bind_some, if_pos rfl, hyf, Option.bind_some, if_pos rfl, sum_is k hk ha hy hx (hs.trans (Same.add (Same.refl _) hys.symm))]
  rfl
theorem one_ok : Ok 0 1 := ⟨⟨by omega, by omega, by decide⟩, by omega⟩
theorem q01 : q 0 1 = 0 := by unfold q; simp; grind
set_option maxHeartbeats 2000000 in
theorem group (k : Nat) (hk : big + 100 ≤ k) (p u r v s w n : Int) : slackwaterlaw08_TurnGroup.f k p u r v s w n = some true := by
  obtain ⟨k, rfl⟩ : ∃ m, k = m + 1 := ⟨k - 1, by omega⟩
  have early : ∀ x1 x2 x3 x4 x5 x6 x7, slackwaterlaw08_TurnGroup.j0 (k + 1) x1 true x2 x3 x4 x5 x6 x7 = some true := fun _ _ _ _ _ _ _ => by simp only [slackwaterlaw08_TurnGroup.j0, if_true]
  unfold slackwaterlaw08_TurnGroup.f slackwaterlaw08_lives.f
  rw [Option.bind_some, if_pos rfl]
  obtain ⟨e1, c1, d1⟩ := chk (k + 1) (by omega) p u
  rw [c1, Option.bind_some]
  by_cases h1 : e1 = 0
  · rw [if_pos h1]
    obtain ⟨e2, c2, d2⟩ := chk (k + 1) (by omega) r v
    rw [c2, Option.bind_some]
    by_cases h2 : e2 = 0
    · rw [if_pos h2]
      obtain ⟨e3, c3, d3⟩ := chk (k + 1) (by omega) s w
      rw [c3, Option.bind_some]
      by_cases h3 : e3 = 0
      · rw [if_pos h3]
        have ha := d1.1 h1
        have hb := d2.1 h2
        have hc := d3.1 h3
        clear c1 c2 c3 d1 d2 d3 h1 h2 h3
        by_cases hn : n < 0
        · rw [if_pos hn]; exact early ..
        · rw [if_neg hn]
          by_cases hn' : n > 20
          · rw [decide_eq_true hn']; exact early ..
          · rw [decide_eq_false hn']
            clear early
            have tail : ∀ k, big + 50 ≤ k → slackwaterlaw08_TurnGroup.j3 k n false p u = some true := by
              intro k hk
              obtain ⟨k, rfl⟩ : ∃ m, k = m + 1 := ⟨k - 1, by omega⟩
              obtain ⟨k, rfl⟩ : ∃ m, k = m + 1 := ⟨k - 1, by omega⟩
              simp only [slackwaterlaw08_TurnGroup.j3]
              obtain ⟨y, hy, hys, hyf⟩ := neg (k + 1) (by omega) ha
              have hz : Same (q 0 1) (q p u + q y u) := by
                rw [q01]
                have := Same.add (Same.refl (q p u)) hys
                refine Same.symm (this.trans ?_)
                rw [show q p u + -q p u = 0 by grind]
                exact Same.refl _
              rw [hyf, Option.bind_some, add_is (k + 1) (by omega) ha hy one_ok hz, Option.bind_some]
              simp [slackwaterlaw08_TurnGroup.j4]
              exact loop n (by omega) (by omega) ha n.toNat k 0 0 1 (by omega) (by omega) (by omega) one_ok (by rw [q01]; simp; exact Same.refl _)
            obtain ⟨k, rfl⟩ : ∃ m, k = m + 1 := ⟨k - 1, by omega⟩
            obtain ⟨k, rfl⟩ : ∃ m, k = m + 1 := ⟨k - 1, by omega⟩
            simp only [slackwaterlaw08_TurnGroup.j0]
            rcases add_ok k (by omega) ha hb with ⟨x, y, hx, hxs, hxf⟩ | hxf
            · have hba := add_is (k + 1 + 1) (by omega) hb ha hx (by rw [Rat.add_comm]; exact hxs)
              have hsub := fun k hk => sub_is k hk hx hb ha (by
                have := Same.add hxs (Same.refl (-q r v))
                refine Same.symm (this.trans ?_)
                rw [show q p u + q r v + -q r v = q p u by grind]
                exact Same.refl _)
              rw [hxf _ (by omega), hba]
              have hd : ∀ k, big + 60 ≤ k → slackwaterlaw08_TurnGroup.j2 k n true false p u r v x y = some true := by
                intro k hk
                obtain ⟨k, rfl⟩ : ∃ m, k = m + 1 := ⟨k - 1, by omega⟩
                simp only [slackwaterlaw08_TurnGroup.j2]
                rw [hsub k (by omega)]
                simp
                exact tail k (by omega)
              rcases add_ok k (by omega) hb hc with ⟨x2, y2, hx2, hxs2, hxf2⟩ | hxf2
              · rw [hxf2 _ (by omega)]
                simp [chk_ok (k + 1 + 1) (by omega) hx, slackwaterlaw08_TurnGroup.j1]
                rcases add_ok k (by omega) hx hc with ⟨x3, y3, hx3, hxs3, hxf3⟩ | hxf3
                · rw [hxf3 _ (by omega)]
                  rcases add_ok k (by omega) ha hx2 with ⟨x4, y4, hx4, hxs4, hxf4⟩ | hxf4
                  · have he : x3 = x4 ∧ y3 = y4 := by
                      refine uniq hx3.toLow hx4.toLow (hxs3.trans ((Same.add hxs (Same.refl _)).trans ?_))
                      refine Same.symm (hxs4.trans ((Same.add (Same.refl _) hxs2).trans ?_))
                      rw [Rat.add_assoc]
                      exact Same.refl _
                    rw [hxf4 _ (by omega)]
                    simp [he.1, he.2]
                    exact hd _ (by omega)
                  · rw [hxf4 _ (by omega)]
                    simp
                    exact hd _ (by omega)
                · rw [hxf3 _ (by omega)]
                  rcases add_ok k (by omega) ha hx2 with ⟨x4, y4, hx4, hxs4, hxf4⟩ | hxf4
                  · rw [hxf4 _ (by omega)]
                    simp
                    exact hd _ (by omega)
                  · rw [hxf4 _ (by omega)]
                    simp
                    exact hd _ (by omega)
              · rw [hxf2 _ (by omega)]
                simp [chk_ok (k + 1 + 1) (by omega) hx, slackwaterlaw08_TurnGroup.j1]
                rw [add_badr _ (by omega) ha]
                rcases add_ok k (by omega) hx hc with ⟨x3, y3, hx3, hxs3, hxf3⟩ | hxf3
                · rw [hxf3 _ (by omega)]
                  simp
                  exact hd _ (by omega)
                · rw [hxf3 _ (by omega)]
                  simp
                  exact hd _ (by omega)
            · have hba : ∀ k, big ≤ k → slackwaterlaw08_add.f k r v p u = some (0, 0, false) := by
                rcases add_ok k (by omega) hb ha with ⟨x, y, hx, hxs, _⟩ | h
                · have := add_is (k + 1) (by omega) ha hb hx (by rw [Rat.add_comm]; exact hxs)
                  rw [hxf (k + 1) (by omega)] at this
                  cases this
                · exact h
              have hd : ∀ k, big + 60 ≤ k → slackwaterlaw08_TurnGroup.j2 k n false false p u r v 0 0 = some true := by
                intro k hk
                obtain ⟨k, rfl⟩ : ∃ m, k = m + 1 := ⟨k - 1, by omega⟩
                simp only [slackwaterlaw08_TurnGroup.j2]
                rw [sub_bad]
                simp
                exact tail k (by omega)
              rw [hxf _ (by omega), hba _ (by omega)]
              rcases add_ok k (by omega) hb hc with ⟨x2, y2, hx2, hxs2, hxf2⟩ | hxf2
              · rw [hxf2 _ (by omega)]
                simp [slackwaterlaw08_TurnGroup.j1, add_badl]
                rcases add_ok k (by omega) ha hx2 with ⟨x4, y4, hx4, hxs4, hxf4⟩ | hxf4
                · rw [hxf4 _ (by omega)]
                  simp
                  exact hd _ (by omega)
                · rw [hxf4 _ (by omega)]
                  simp
                  exact hd _ (by omega)
              · rw [hxf2 _ (by omega)]
                simp [slackwaterlaw08_TurnGroup.j1, add_badl]
                rw [add_badr _ (by omega) ha]
                simp
                exact hd _ (by omega)
      · rw [if_neg h3]; exact early ..
    · rw [if_neg h2]; exact early ..
  · rw [if_neg h1]; exact early ..
end Go.Proofs.Ytcddhfidbhcgdaa.TG
