import Derived.Test.YtgjmlbcpjjpegaaPRLx
/- RotorLists as a plain law: rotor.Apart and the reference's Apart tell the same of every list. -/
set_option linter.unusedVariables false
set_option linter.unusedSimpArgs false
namespace Go.Proofs.Ytgjmlbcpjjpegaa.RT
open Go.RowKit Go.Proofs.Ytgjmlbcpjjpegaa.PRL Go.Proofs.YtgjmlbcpjjpegaaW.PrintWords
theorem lives_30 : slackwaterlaw05_lives.f 30 = some true := by decide +kernel
theorem lives (k : Nat) (hk : 30 ≤ k) : slackwaterlaw05_lives.f k = some true := at_rounds (g := fun k => slackwaterlaw05_lives.f k) (fun k => slackwaterlaw05_lives.mono k) hk lives_30
theorem w64 {x : Int} (h : -9223372036854775808 ≤ x) (h' : x < 9223372036854775808) : wrap64 x = x := by unfold wrap64; omega
theorem w32 {x : Int} (h : -2147483648 ≤ x) (h' : x < 2147483648) : wrap32 x = x := by unfold wrap32; omega
theorem gcd_eq : ∀ k a b, slackwaterref05_gcd.l0 k a b = rotor_common.l0 k a b
  | 0, _, _ => rfl
  | k + 1, a, b => by
    unfold slackwaterref05_gcd.l0 rotor_common.l0
    rw [gcd_eq k]
theorem gcd_ends : ∀ (k : Nat) (a b : Int), b.natAbs < k → ∃ r, rotor_common.l0 k a b = some r
  | 0, _, _, h => by omega
  | k + 1, a, b, h => by
    unfold rotor_common.l0
    by_cases hb : b = 0
    · exact ⟨_, if_pos hb⟩
    · rw [if_neg hb]
      refine gcd_ends k _ _ ?_
      rw [Int.natAbs_tmod]
      have := Nat.mod_lt a.natAbs (show 0 < b.natAbs by omega)
      omega
theorem gcd_up {k k' : Nat} (h : k ≤ k') {a b r : Int} (e : rotor_common.l0 k a b = some r) : rotor_common.l0 k' a b = some r :=
  at_rounds (g := fun k => rotor_common.f k a b) (fun k => rotor_common.mono a b k) h e
/-- what both Checks tell -/
def Rng (r : S25) : Prop := (-2147483648 ≤ r.f0 ∧ r.f0 < 2147483648) ∧ (-2147483648 ≤ r.f1 ∧ r.f1 < 2147483648)
theorem chk {a b : Int} (ha : -2147483648 ≤ a ∧ a < 2147483648) (hb : -2147483648 ≤ b ∧ b < 2147483648) : ∃ e, (e = 0 ∨ e = 150) ∧ ∀ k, 1002 ≤ k → rotor_Check.f k a b = some e ∧ slackwaterref05_Check.f k a b = some e := by
  by_cases g : a < 1 ∨ a > 1000 ∨ b < -1000 ∨ b > 1000 ∨ b = 0 ∨ a = b ∨ a = -b
  · refine ⟨150, .inr rfl, fun k hk => ?_⟩
    unfold rotor_Check.f slackwaterref05_Check.f
    rw [w64 (x := a) (by omega) (by omega), w64 (x := b) (by omega) (by omega)]
    by_cases c1 : a < 1
    · rw [if_pos c1, if_pos c1]; exact ⟨rfl, rfl⟩
    rw [if_neg c1, if_neg c1]
    by_cases c2 : a > 1000
    · rw [if_pos c2, if_pos c2]; exact ⟨rfl, rfl⟩
    rw [if_neg c2, if_neg c2]
    by_cases c3 : b < -1000
    · rw [if_pos c3, if_pos c3]; exact ⟨rfl, rfl⟩
    rw [if_neg c3, if_neg c3]
    by_cases c4 : b > 1000
    · rw [if_pos c4, if_pos c4]; exact ⟨rfl, rfl⟩
    rw [if_neg c4, if_neg c4]
    by_cases c5 : b = 0
    · rw [if_pos c5, if_pos c5]; exact ⟨rfl, rfl⟩
    rw [if_neg c5, if_neg c5]
    by_cases c6 : a = b
    · rw [if_pos c6, if_pos c6]; exact ⟨rfl, rfl⟩
    rw [if_neg c6, if_neg c6, w64 (x := -b) (by omega) (by omega), w32 (x := -b) (by omega) (by omega), if_pos (by omega), if_pos (by omega)]
    exact ⟨rfl, rfl⟩
  · obtain ⟨t, ht⟩ := gcd_ends 1002 a b (by omega)
    refine ⟨if t = 1 then 0 else 150, by split <;> simp, fun k hk => ?_⟩
    have hk' := gcd_up hk ht
    have hk2 := (gcd_eq k a b).trans hk'
    unfold rotor_Check.f slackwaterref05_Check.f
    rw [w64 (x := a) (by omega) (by omega), w64 (x := b) (by omega) (by omega), w64 (x := -b) (by omega) (by omega), w32 (x := -b) (by omega) (by omega)]
    have n1 : ¬ a < 1 := by omega
    have n2 : ¬ a > 1000 := by omega
    have n3 : ¬ b < -1000 := by omega
    have n4 : ¬ b > 1000 := by omega
    have n5 : ¬ b = 0 := by omega
    have n6 : ¬ a = b := by omega
    have n7 : ¬ a = -b := by omega
    have p1 : rotor_common.f k a b = some t := hk'
    have p2 : slackwaterref05_gcd.f k a b = some t := hk2
    simp only [n1, n2, n3, n4, n5, n6, n7, if_false, p1, p2, Option.bind_some]
    constructor <;> split <;> rfl
theorem rng_at {l : List S25} (h : ∀ r ∈ l, Rng r) {j : Nat} (hj : j < l.length) : Rng (rd_T25 l j) := by
  refine h _ ?_
  unfold rd_T25
  rw [Int.toNat_natCast, List.getD_eq_getElem?_getD, List.getElem?_eq_getElem hj]
  exact List.getElem_mem hj
theorem succ64 {j : Nat} (h : j < 1000) : wrap64 ((j : Int) + 1) = ((j + 1 : Nat) : Int) := by unfold wrap64; omega
theorem l2_eq (l : List S25) (j : Nat) (hj : j < l.length) (hl : l.length ≤ 64) : ∀ m i k, m + i = j → m + 1 ≤ k →
    slackwaterref05_Apart.l2 k l j i = if ((l.take j).drop i).any (fun s => rotor_Apart.same s (rd_T25 l j)) then some ((j : Int), 0) else slackwaterref05_Apart.l1 (k - (m + 1)) l ((j + 1 : Nat) : Int)
  | 0, i, 0, _, h => by omega
  | 0, i, k + 1, e, _ => by
    obtain rfl : i = j := by omega
    unfold slackwaterref05_Apart.l2
    rw [if_neg (by omega), List.drop_of_length_le (by rw [List.length_take]; omega), succ64 (by omega)]
    simp
  | m + 1, i, 0, _, h => by omega
  | m + 1, i, k + 1, e, h => by
    have ih := l2_eq l j hj hl m (i + 1) k (by omega) (by omega)
    have hd : (l.take j).drop i = rd_T25 l i :: (l.take j).drop (i + 1) := by
      rw [List.drop_eq_getElem_cons (by rw [List.length_take]; omega)]
      congr 1
      unfold rd_T25
      rw [Int.toNat_natCast, List.getD_eq_getElem?_getD, List.getElem?_eq_getElem (by omega), List.getElem_take]
      rfl
    unfold slackwaterref05_Apart.l2
    rw [if_pos (by omega), if_pos (by omega), if_pos (by omega), if_pos (by omega), if_pos (by omega), hd, List.any_cons, succ64 (by omega), ih]
    have es : rotor_Apart.same (rd_T25 l i) (rd_T25 l j) = ((rd_T25 l i).f0 == (rd_T25 l j).f0 && (rd_T25 l i).f1 == (rd_T25 l j).f1) := rfl
    rw [← es]
    by_cases q : rotor_Apart.same (rd_T25 l i) (rd_T25 l j) = true
    · rw [if_pos q, q, Bool.true_or, if_pos rfl]
    · rw [if_neg q, Bool.eq_false_iff.2 q, Bool.false_or, Nat.add_sub_add_right]
theorem l1_eq (l : List S25) (hl : l.length ≤ 64) : ∀ n j k, n + j = l.length → 70 * n + 1 ≤ k → slackwaterref05_Apart.l1 k l j = some (rotor_Apart.twice l n j)
  | _, _, 0, _, h => by omega
  | 0, j, k + 1, e, _ => by
    unfold slackwaterref05_Apart.l1 rotor_Apart.twice
    rw [if_neg (by omega)]
  | n + 1, j, k + 1, e, h => by
    unfold slackwaterref05_Apart.l1 rotor_Apart.twice
    have := l2_eq l j (by omega) hl j 0 k (by omega) (by omega)
    rw [if_pos (by omega)]
    refine this.trans ?_
    rw [List.drop_zero]
    split
    · rfl
    · exact l1_eq l hl n (j + 1) _ (by omega) (by omega)
theorem l0_eq (l : List S25) (hl : l.length ≤ 64) (hr : ∀ r ∈ l, Rng r) (K : Nat) (hK : 1002 ≤ K) : ∀ n j k, n + j = l.length → 5600 + n ≤ k →
    ∃ o, rotor_Apart.bad K l n j = some o ∧ slackwaterref05_Apart.l0 k l j = some (rotor_Apart.tail l o)
  | _, _, 0, _, h => by omega
  | 0, j, k + 1, e, h => by
    refine ⟨none, rfl, ?_⟩
    unfold slackwaterref05_Apart.l0 rotor_Apart.tail
    rw [if_neg (by omega)]
    exact l1_eq l hl l.length 0 k (by omega) (by omega)
  | n + 1, j, k + 1, e, h => by
    obtain ⟨c, hc, hk⟩ := chk (rng_at hr (show j < l.length by omega)).1 (rng_at hr (show j < l.length by omega)).2
    unfold slackwaterref05_Apart.l0 rotor_Apart.bad
    rw [if_pos (by omega), if_pos (by omega), (hk K hK).1, (hk k (by omega)).2, Option.bind_some, Option.bind_some]
    rcases hc with rfl | rfl
    · rw [if_pos rfl, if_pos rfl, succ64 (by omega)]
      exact l0_eq l hl hr K hK n (j + 1) k (by omega) (by omega)
    · rw [if_neg (by omega), if_neg (by omega)]
      exact ⟨_, rfl, rfl⟩
theorem apart (l : List S25) (hr : ∀ r ∈ l, Rng r) (K : Nat) (hK : 6000 ≤ K) : ∃ p, rotor_Apart.f K l = some p ∧ slackwaterref05_Apart.f K l = some p := by
  unfold rotor_Apart.f slackwaterref05_Apart.f
  by_cases c : (l.length : Int) > 64
  · rw [if_pos c, if_pos c]
    exact ⟨_, rfl, rfl⟩
  · have ha : l.all rotor_Apart.i32 = true := List.all_eq_true.2 (fun r h => decide_eq_true (by have := hr r h; unfold Rng at this; omega))
    obtain ⟨o, h1, h2⟩ := l0_eq l (by omega) hr K (by omega) l.length 0 K (by omega) (by omega)
    rw [if_neg c, if_neg c, if_pos ha, h1, Option.bind_some]
    exact ⟨_, rfl, h2⟩
theorem rd_app {l : List S25} {z : S25} {j : Nat} (hj : j < l.length) : rd_T25 (l ++ [z]) j = rd_T25 l j := by
  unfold rd_T25
  rw [Int.toNat_natCast, List.getD_eq_getElem?_getD, List.getD_eq_getElem?_getD, List.getElem?_append_left hj]
theorem rd_end {l : List S25} {z : S25} : rd_T25 (l ++ [z]) (l.length : Int) = z := by
  unfold rd_T25
  rw [Int.toNat_natCast, List.getD_eq_getElem?_getD, List.getElem?_append_right (by omega)]
  simp
theorem loop (l : List S25) (hl : l.length ≤ 100) (x y : Int) : ∀ n j k, n + j = l.length → 31 + n ≤ k → slackwaterlaw05_RotorLists.l0 k l (l ++ [⟨9, 0⟩]) x y x y j = some true
  | _, _, 0, _, h => by omega
  | 0, j, k + 1, e, h => by
    obtain rfl : j = l.length := by omega
    unfold slackwaterlaw05_RotorLists.l0
    rw [if_neg (by omega), if_pos rfl, if_pos rfl, if_pos (by omega), if_pos (by rw [List.length_append]; simp; omega), rd_end, if_pos (by decide), lives k (by omega)]
    rfl
  | n + 1, j, k + 1, e, h => by
    unfold slackwaterlaw05_RotorLists.l0
    rw [if_pos (by omega), if_pos (by omega), if_pos (by rw [List.length_append]; simp; omega), rd_app (by omega), if_neg (by simp), succ64 (by omega)]
    exact loop l hl x y n (j + 1) k (by omega) (by omega)
theorem lists (l : List S25) (hr : ∀ r ∈ l, Rng r) : slackwaterlaw05_RotorLists.f 10000 l = some true := by
  unfold slackwaterlaw05_RotorLists.f
  by_cases c : (l.length : Int) > 100
  · rw [if_pos c, lives 10000 (by omega)]; rfl
  · obtain ⟨p, h1, h2⟩ := apart l hr 10000 (by omega)
    have ht : (l ++ [(⟨9, 0⟩ : S25)]).take ((l.length : Int)).toNat = l := by rw [Int.toNat_natCast, List.take_left']; rfl
    rw [if_neg c, Option.bind_some, if_pos (by simp only [List.length_nil]; omega), Option.bind_some, List.nil_append, if_pos (by omega), Option.bind_some, if_pos (by omega), if_pos (by rw [List.length_append]; simp; omega), ht, h1, Option.bind_some, h2, Option.bind_some]
    exact loop l (by omega) p.1 p.2 l.length 0 10000 (by omega) (by omega)
end Go.Proofs.Ytgjmlbcpjjpegaa.RT
