import Derived.Test.YtgjmlbcpjjpegaaRoT
/- RotorApart as a plain law. -/
set_option linter.unusedVariables false
set_option linter.unusedSimpArgs false
namespace Go.Proofs.Ytgjmlbcpjjpegaa.RT
open Go.RowKit Go.Proofs.Ytgjmlbcpjjpegaa.PRB Go.Proofs.YtgjmlbcpjjpegaaW.PrintWords Q RO
theorem lives_30 : slackwaterlaw05_lives.f 30 = some true := by decide +kernel
theorem lives (k : Nat) (hk : 30 ≤ k) : slackwaterlaw05_lives.f k = some true := at_rounds (g := fun k => slackwaterlaw05_lives.f k) (fun k => slackwaterlaw05_lives.mono k) hk lives_30
theorem of_rep (k : Nat) {f n : Int} (h : Okr f n) : rotor_Of.f (k + 1002) f n = some (neg (reQ f n), nu (reQ f n), de (reQ f n), neg (imQ f n), nu (imQ f n), de (imQ f n), 0) := by
  obtain ⟨h1, h2, h3⟩ := id h
  unfold rotor_Of.f
  rw [check_of k h, Option.bind_some, if_pos rfl, number_rep h1.1 h1.2 h2.1 h2.2, Option.bind_some]
theorem conj_rep (k : Nat) {f n : Int} (h : Okr f n) : rotor_Conj.f (k + 1002) f n = some (f, -n, 0) := by
  obtain ⟨h1, h2, h3⟩ := id h
  unfold rotor_Conj.f
  rw [check_of k h, Option.bind_some, if_pos rfl, w32 (by omega) (by omega)]
theorem okr_conj {f n : Int} (h : Okr f n) : Okr f (-n) := by
  obtain ⟨h1, h2, h3, h4, h5, h6⟩ := h
  exact ⟨h1, by omega, by omega, by omega, by omega, by rw [Int.gcd_neg]; exact h6⟩
theorem ok_of {f n : Int} (h : Okr f n) : Ok f n := by
  obtain ⟨h1, h2, h3, h4, h5, h6⟩ := h
  exact ⟨by omega, h3, by omega, by omega⟩
theorem order_rep (k : Nat) {f n g m : Int} (h : Okr f n) (h' : Okr g m) : rotor_Order.f (k + 1002) f n g m = some (if RO.ahead f n g m then -1 else if RO.ahead g m f n then 1 else 0, 0) := by
  obtain ⟨h1, h2, h3⟩ := id h
  obtain ⟨g1, g2, g3⟩ := id h'
  unfold rotor_Order.f
  rw [check_of k h, Option.bind_some, if_pos rfl, check_of k h', Option.bind_some, if_pos rfl, if_pos (show rotor_Order.okB f n g m = true from decide_eq_true ⟨h1.1, h1.2, h2.1, h2.2, g1.1, g1.2, g2.1, g2.2⟩), ord_is (ok_of h) (ok_of h')]
theorem num_inj {f n g m : Int} (h : Okr f n) (h' : Okr g m) : (decide (reQ f n = reQ g m) && decide (imQ f n = imQ g m)) = (f == g && n == m) := by
  apply Bool.eq_iff_iff.2
  simp only [Bool.and_eq_true, decide_eq_true_iff, beq_iff_eq]
  constructor
  · rintro ⟨e1, e2⟩
    exact rot_inj h.1.1 h'.1.1 h.2.2.2.2.2 h'.2.2.2.2.2 e1 e2
  · rintro ⟨rfl, rfl⟩
    exact ⟨rfl, rfl⟩
/-- what is said of the order, of three rotors -/
theorem orders {f n g m h p : Int} (a : Okr f n) (b : Okr g m) (c : Okr h p) (r : Bool)
    (hr : r = !(decide ((if RO.ahead f n h p then (-1 : Int) else if RO.ahead h p f n then 1 else 0) ≥ 0)))
    (A B C : Int) (hA : A = if RO.ahead f n g m then (-1 : Int) else if RO.ahead g m f n then 1 else 0) (hB : B = if RO.ahead g m f n then (-1 : Int) else if RO.ahead f n g m then 1 else 0)
    (hC : C = if RO.ahead g m h p then (-1 : Int) else if RO.ahead h p g m then 1 else 0) :
    A = wrap64 (-B) ∧ (A == 0) = (f == g && n == m) ∧ (if RO.ahead f (-n) g (-m) then (-1 : Int) else if RO.ahead g (-m) f (-n) then 1 else 0) = B ∧ (A < 0 → C < 0 → r = true) := by
  have nn := a.2.2.1
  have mn := b.2.2.1
  have pn := c.2.2.1
  have t1 := fun h1 : RO.ahead f n g m => ahead_asym h1
  have t2 := fun h1 : RO.ahead g m f n => ahead_asym h1
  have t3 := fun (h1 : RO.ahead f n g m) (h2 : RO.ahead g m h p) => ahead_trans (by have := a.1.1; omega) (by have := b.1.1; omega) (by have := c.1.1; omega) nn mn pn h1 h2
  have t4 := ahead_conj (f := f) (g := g) nn mn
  have t5 := ahead_conj (f := g) (g := f) mn nn
  have t6 : ¬ RO.ahead f n g m → ¬ RO.ahead g m f n → f = g ∧ n = m := same_of (by have := a.1.1; omega) (by have := b.1.1; omega) nn mn a.2.2.2.2.2 b.2.2.2.2.2
  have t7 : f = g ∧ n = m → ¬ RO.ahead f n g m := by
    rintro ⟨rfl, rfl⟩ h1
    exact t1 h1 h1
  refine ⟨?_, ?_, ?_, ?_⟩
  · rw [hA, hB]
    by_cases h1 : RO.ahead f n g m
    · rw [if_pos h1, if_neg (t1 h1), if_pos h1]; unfold wrap64; omega
    · rw [if_neg h1, if_neg h1]
      by_cases h2 : RO.ahead g m f n
      · rw [if_pos h2, if_pos h2]; unfold wrap64; omega
      · rw [if_neg h2, if_neg h2]; unfold wrap64; omega
  · rw [hA]
    apply Bool.eq_iff_iff.2
    simp only [beq_iff_eq, Bool.and_eq_true]
    by_cases h1 : RO.ahead f n g m
    · rw [if_pos h1]
      exact ⟨fun h => by omega, fun h => absurd h1 (t7 h)⟩
    · rw [if_neg h1]
      by_cases h2 : RO.ahead g m f n
      · rw [if_pos h2]
        exact ⟨fun h => by omega, fun h => by
          obtain ⟨rfl, rfl⟩ := h
          exact absurd h2 h1⟩
      · rw [if_neg h2]
        exact ⟨fun _ => t6 h1 h2, fun _ => rfl⟩
  · rw [hB]
    by_cases h2 : RO.ahead g m f n
    · rw [if_pos (t4.2 h2), if_pos h2]
    · rw [if_neg (fun c => h2 (t4.1 c)), if_neg h2]
      by_cases h1 : RO.ahead f n g m
      · rw [if_pos (t5.2 h1), if_pos h1]
      · rw [if_neg (fun c => h1 (t5.1 c)), if_neg h1]
  · intro h1 h2
    have a1 : RO.ahead f n g m := by
      by_cases h3 : RO.ahead f n g m
      · exact h3
      · rw [hA, if_neg h3] at h1
        split at h1 <;> omega
    have a2 : RO.ahead g m h p := by
      by_cases h3 : RO.ahead g m h p
      · exact h3
      · rw [hC, if_neg h3] at h2
        split at h2 <;> omega
    rw [hr, if_pos (t3 a1 a2)]
    rfl
theorem apart_all (k : Nat) {f n g m h p : Int} (a : Okr f n) (b : Okr g m) (c : Okr h p) : slackwaterlaw05_RotorApart.j0 (k + 4002) false f n g m h p = some true := by
  obtain ⟨a1, a2, _⟩ := id a
  obtain ⟨b1, b2, _⟩ := id b
  obtain ⟨A, hA⟩ : ∃ A : Int, A = if RO.ahead f n g m then (-1 : Int) else if RO.ahead g m f n then 1 else 0 := ⟨_, rfl⟩
  obtain ⟨B, hB⟩ : ∃ A : Int, A = if RO.ahead g m f n then (-1 : Int) else if RO.ahead f n g m then 1 else 0 := ⟨_, rfl⟩
  obtain ⟨C, hC⟩ : ∃ A : Int, A = if RO.ahead g m h p then (-1 : Int) else if RO.ahead h p g m then 1 else 0 := ⟨_, rfl⟩
  obtain ⟨o1, o2, o3, o4⟩ := orders a b c _ rfl A B C hA hB hC
  unfold slackwaterlaw05_RotorApart.j0; try dsimp only
  rw [if_neg (by decide), of_rep (k + 2999) a, Option.bind_some]
  dsimp only
  rw [of_rep (k + 2999) b, Option.bind_some]
  dsimp only
  rw [find_rep (k + 1001) a, Option.bind_some]
  dsimp only
  rw [gsame_rep _ (by omega) (Sz_re a1.1 a1.2 a2.1 a2.2) (Sz_im a1.1 a1.2 a2.1 a2.2) (Sz_re b1.1 b1.2 b2.1 b2.2) (Sz_im b1.1 b1.2 b2.1 b2.2), Option.bind_some, num_inj a b, if_neg (by simp), if_pos rfl]
  have e0 : (!(f == f) || (!(n == n))) = false := by simp
  rw [e0]
  unfold slackwaterlaw05_RotorApart.j1; try dsimp only
  rw [if_neg (by decide), conj_rep (k + 2998) a, Option.bind_some]
  dsimp only
  rw [conj_rep (k + 2998) b, Option.bind_some]
  dsimp only
  rw [order_rep (k + 2998) a b, Option.bind_some]
  dsimp only
  rw [order_rep (k + 2998) b a, Option.bind_some]
  dsimp only
  rw [order_rep (k + 2998) b c, Option.bind_some]
  dsimp only
  rw [order_rep (k + 2998) a c, Option.bind_some]
  dsimp only
  rw [order_rep (k + 2998) (okr_conj a) (okr_conj b), Option.bind_some]
  dsimp only
  rw [← hA, ← hB, ← hC, if_pos o1, if_pos (beq_iff_eq.2 o2), if_pos o3]
  by_cases h1 : A < 0
  · rw [if_pos h1]
    by_cases h2 : C < 0
    · rw [if_pos h2, o4 h1 h2]
    · rw [if_neg h2]; rfl
  · rw [if_neg h1]; rfl
theorem apart (x0 x1 x2 x3 x4 x5 : Int) (r0 : -2147483648 ≤ x0 ∧ x0 < 2147483648) (r1 : -2147483648 ≤ x1 ∧ x1 < 2147483648) (r2 : -2147483648 ≤ x2 ∧ x2 < 2147483648) (r3 : -2147483648 ≤ x3 ∧ x3 < 2147483648)
    (r4 : -2147483648 ≤ x4 ∧ x4 < 2147483648) (r5 : -2147483648 ≤ x5 ∧ x5 < 2147483648) : slackwaterlaw05_RotorApart.f 5000 x0 x1 x2 x3 x4 x5 = some true := by
  have out : slackwaterlaw05_RotorApart.j0 5000 true x0 x1 x2 x3 x4 x5 = some true := by
    unfold slackwaterlaw05_RotorApart.j0; try dsimp only
    rw [if_pos rfl]
  unfold slackwaterlaw05_RotorApart.f
  rw [lives 5000 (by omega), Option.bind_some, if_pos rfl, check_is 5000 (by omega) r0 r1, Option.bind_some]
  by_cases a : Okr x0 x1
  · rw [if_pos a, if_pos rfl, check_is 5000 (by omega) r2 r3, Option.bind_some]
    by_cases b : Okr x2 x3
    · rw [if_pos b, if_pos rfl, check_is 5000 (by omega) r4 r5, Option.bind_some]
      by_cases c : Okr x4 x5
      · rw [if_pos c]
        exact apart_all 998 a b c
      · rw [if_neg c]
        exact out
    · rw [if_neg b, if_neg (by decide)]
      exact out
  · rw [if_neg a, if_neg (by decide)]
    exact out
theorem RotorApart_walk (x0 x1 x2 x3 x4 x5 : Int) (W : World) (h00 : -2147483648 ≤ x0) (h01 : x0 < 2147483648) (h10 : -2147483648 ≤ x1) (h11 : x1 < 2147483648) (h20 : -2147483648 ≤ x2) (h21 : x2 < 2147483648)
    (h30 : -2147483648 ≤ x3) (h31 : x3 < 2147483648) (h40 : -2147483648 ≤ x4) (h41 : x4 < 2147483648) (h50 : -2147483648 ≤ x5) (h51 : x5 < 2147483648) :
    Calls Try.prog 6 #[.agg #[.int .i32 x0, .int .i32 x1], .agg #[.int .i32 x2, .int .i32 x3], .agg #[.int .i32 x4, .int .i32 x5]] W fun e W' => e = .returned (.bool true) ∧ Below W.heap.size W W' :=
  slackwaterlaw05_RotorApart.calls 5000 x0 x1 x2 x3 x4 x5 true W (apart x0 x1 x2 x3 x4 x5 ⟨h00, h01⟩ ⟨h10, h11⟩ ⟨h20, h21⟩ ⟨h30, h31⟩ ⟨h40, h41⟩ ⟨h50, h51⟩)
end Go.Proofs.Ytgjmlbcpjjpegaa.RT
