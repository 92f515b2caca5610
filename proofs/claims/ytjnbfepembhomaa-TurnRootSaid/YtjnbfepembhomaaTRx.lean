import Derived.Test.YtjnbfepembhomaaTRw
/- The walk of TurnRoot, whole. -/
set_option linter.unusedVariables false
set_option linter.unusedSimpArgs false
namespace Go.Proofs.Ytjnbfepembhomaa
open Go Go.RowKit Go.Proofs.Ytjnbfepembhomaa.PTG Go.Proofs.YtjnbfepembhomaaW.PrintWords TG Fl
theorem add_two (k : Nat) (hk : big ≤ k) {p u r v : Int} (ha : Ok p u) (hb : Ok r v) : (∃ x w, Ok x w ∧ Same (q x w) (q p u + q r v) ∧ slackwaterlaw08_add.f k p u r v = some (x, w, true)) ∨ slackwaterlaw08_add.f k p u r v = some (0, 0, false) := by
  rcases sum_ok k hk ha hb with ⟨x, w, h1, h2, hf⟩ | hf
  · refine .inl ⟨x, w, h1, h2, ?_⟩
    unfold slackwaterlaw08_add.f
    rw [hf]
    rfl
  · refine .inr ?_
    unfold slackwaterlaw08_add.f
    rw [hf]
    rfl
theorem neg1_is : Is 13830554455654793216 (-1) := ⟨true, 2 ^ 52, -52, by decide +kernel, by decide +kernel⟩
theorem lim_is : Is 4386506037058863104 (2 ^ (-49 : Int)) := ⟨false, 2 ^ 52, -101, by decide +kernel, by decide +kernel⟩
theorem nlim_is : Is 13609878073913638912 (-2 ^ (-49 : Int)) := ⟨true, 2 ^ 52, -101, by decide +kernel, by decide +kernel⟩
theorem eq_of {v w : Nat} {x y : Rat} (h : Is v x) (h' : Is w y) (e : x = y) : (FloatKind.f64.format.order v w == some .eq) = true := by
  rw [ord_eq h h', decide_eq_true e]
theorem TurnRoot_walk (p u : Int) (W : World) (p0 : -9223372036854775808 ≤ p) (p1 : p < 9223372036854775808) (u0 : -9223372036854775808 ≤ u) (u1 : u < 9223372036854775808) :
    Calls Try.prog 3 #[.agg #[.int .i64 p, .int .i64 u]] W fun e W' => e = .returned (.bool true) ∧ Below W.heap.size W W' := by
  have hk : TG.big ≤ TG.big + 10 := by omega
  generalize TG.big + 10 = k at hk
  obtain ⟨ch, hch, hok⟩ := TG.chk k (by omega) p u
  by_cases h : TG.Ok p u
  · have hA := ai_bd h
    obtain ⟨s, c, S, C, hr, iS, iC, bS, bC, hd⟩ := root_num (ai p u) u hA.1 hA.2 (by have := h.p0; have := h.pw; omega) h.top
    have hR := root_at k hk h hr
    have i1 := plus_is (placed_is (ei p u) iS iC).1
    have i2 := plus_is (placed_is (ei p u) iS iC).2
    obtain ⟨b1, b2⟩ := pv_ab (ei p u) bS bC
    rw [← pv_sq (ei p u) S C] at hd
    obtain ⟨r1, r2, r3, r4, D, f1, f2, f3, f4, iD, bD⟩ := dist i1 i2 b1 b2 hd
    have h14 : Ok 1 4 := ⟨⟨by omega, by omega, by decide⟩, by omega⟩
    have h12 : Ok 1 2 := ⟨⟨by omega, by omega, by decide⟩, by omega⟩
    obtain ⟨np, x3, y3, X3, Y3, hn, hRn, j1, j2, hj⟩ := back k hk h hr iS iC
    have Hn : ∃ a b, RootAt np u a b ∧ (u ≠ 8 → (FloatKind.f64.format.order a (turn_plus.v (turn_placed.v (ei p u) s c).1) == some .eq) = true ∧ (FloatKind.f64.format.order b (Op.negFloat .f64 (turn_plus.v (turn_placed.v (ei p u) s c).2)) == some .eq) = true) :=
      ⟨x3, y3, hRn, fun h8 => ⟨eq_of j1 i1 (hj h8).1, eq_of j2 (neg_is i2) (hj h8).2⟩⟩
    have Hq : ∃ qp qu qo, slackwaterlaw08_add.f k p u 1 4 = some (qp, qu, qo) ∧ (qo = true → ∃ a b, RootAt qp qu a b ∧ (FloatKind.f64.format.order a (Op.negFloat .f64 (turn_plus.v (turn_placed.v (ei p u) s c).2)) == some .eq) = true ∧ (FloatKind.f64.format.order b (turn_plus.v (turn_placed.v (ei p u) s c).1) == some .eq) = true) := by
      rcases add_two k hk h h14 with ⟨x, w, hx, hs, hf⟩ | hf
      · obtain ⟨a, b, hra, k1, k2⟩ := quarter k hk h hx hs hr iS iC
        exact ⟨x, w, true, hf, fun _ => ⟨a, b, hra, eq_of k1 (neg_is i2) rfl, eq_of k2 i1 rfl⟩⟩
      · exact ⟨0, 0, false, hf, fun h => by cases h⟩
    have Hh : ∃ qp qu qo, slackwaterlaw08_add.f k p u 1 2 = some (qp, qu, qo) ∧ (qo = true → ∃ a b, RootAt qp qu a b ∧ (FloatKind.f64.format.order a (Op.negFloat .f64 (turn_plus.v (turn_placed.v (ei p u) s c).1)) == some .eq) = true ∧ (FloatKind.f64.format.order b (Op.negFloat .f64 (turn_plus.v (turn_placed.v (ei p u) s c).2)) == some .eq) = true) := by
      rcases add_two k hk h h12 with ⟨x, w, hx, hs, hf⟩ | hf
      · obtain ⟨a, b, hra, k1, k2⟩ := half k hk h hx hs hr iS iC
        exact ⟨x, w, true, hf, fun _ => ⟨a, b, hra, eq_of k1 (neg_is i1) rfl, eq_of k2 (neg_is i2) rfl⟩⟩
      · exact ⟨0, 0, false, hf, fun h => by cases h⟩
    obtain ⟨qp, qu, qo, hq, hrq⟩ := Hq
    obtain ⟨hp, hu, ho, hh, hrh⟩ := Hh
    exact TurnRoot_good k p u _ _ r1 r2 r3 r4 qp qu hp hu np u qo ho W hR f1 f2 f3 f4 (ord_gt i1 one_is b1.2) (ord_lt i1 neg1_is b1.1) (ord_gt i2 one_is b2.2) (ord_lt i2 neg1_is b2.1)
      (ord_gt iD lim_is bD.2) (ord_lt iD nlim_is bD.1) hq hh hn hrq hrh Hn
  · have he : ch ≠ 0 := fun e => h (hok.1 e)
    exact TurnRoot_bad p u ch W he fun w => turn_Root.err k p u ch w hch he
end Go.Proofs.Ytjnbfepembhomaa
