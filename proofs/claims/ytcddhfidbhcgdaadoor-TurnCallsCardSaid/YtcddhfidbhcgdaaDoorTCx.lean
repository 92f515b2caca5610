import Derived.Test.YtcddhfidbhcgdaaDoorTCw
/- The walk of TurnCalls, whole. -/
set_option linter.unusedVariables false
set_option linter.unusedSimpArgs false
namespace Go.Proofs.YtcddhfidbhcgdaaDoor
open Go Go.RowKit Go.Proofs.YtcddhfidbhcgdaaDoor.PK8 Go.Proofs.YtcddhfidbhcgdaaDoorW.PrintWords
theorem TurnCalls_walk (p u a b n : Int) (W : World) (hL : LW W) (p0 : -9223372036854775808 ≤ p) (p1 : p < 9223372036854775808) (u0 : -9223372036854775808 ≤ u) (u1 : u < 9223372036854775808) (a0 : -9223372036854775808 ≤ a) (a1 : a < 9223372036854775808) (b0 : -9223372036854775808 ≤ b) (b1 : b < 9223372036854775808) (n0 : -2147483648 ≤ n) (n1 : n < 2147483648) :
    Calls Tryd.prog 3 #[.agg #[.int .i64 p, .int .i64 u], .agg #[.int .i64 a, .int .i64 b], .int .i32 n] W fun e W' => e = .returned (.bool true) ∧ Below W.heap.size W W' := by
  have hk : TG.big + 2 ≤ TG.big + 10 := by omega
  generalize TG.big + 10 = k at hk
  obtain ⟨⟨a1', a2', a3'⟩, ha, ha'⟩ := TG.add_eq k (by omega) p u a b
  obtain ⟨⟨s1, s2, s3⟩, hs, hs'⟩ := TG.sub_eq k hk p u a b
  obtain ⟨⟨g1, g2, g3⟩, hg, hg'⟩ := TG.neg_eq k hk p u
  obtain ⟨⟨t1, t2, t3⟩, ht, ht'⟩ := TG.times_eq k hk p u n n0 n1
  obtain ⟨⟨c1, c2⟩, hc, hc'⟩ := TG.cmp_eq k hk p u a b
  obtain ⟨⟨tx, te⟩, hp, hp'⟩ := TG.print_eq k (by omega) p u
  obtain ⟨ch, hch, hok⟩ := TG.chk k (by omega) p u
  have hch' : slackwaterref08_Check.f k p u = some ch := by rw [TG.ref_chk k (by omega), hch]
  by_cases h : TG.Ok p u
  · have h0 := hok.2 h
    subst h0
    obtain ⟨⟨P0, PU, co⟩, U1⟩ := h
    have m0 : 0 ≤ 8 * p % u := Int.emod_nonneg _ (by omega)
    have m1 : 8 * p % u < u := Int.emod_lt_of_pos _ (by omega)
    obtain ⟨x, y, hf⟩ := TG.root_fl (8 * p / u) (if (8 * p / u) % 2 = 1 then u - 8 * p % u else 8 * p % u) u (by split <;> omega) (by split <;> omega) (by omega) U1
    exact TurnCalls_core k p u a b n W hL a1' a2' a3' s1 s2 s3 g1 g2 g3 t1 t2 t3 c1 c2 0 x y tx te 0 ha ha' hs hs' hg hg' ht ht' hc hc'
      (fun w => turn_Root.fine k p u _ _ _ x y w hch P0 PU U1 rfl rfl rfl hf)
      (fun w => ref_Root.fine p u _ _ _ x y w (fun w => slackwaterref08_Check.calls k p u 0 w hch') P0 PU U1 rfl rfl rfl hf) hp hp' hch hch'
  · have he : ch ≠ 0 := fun e => h (hok.1 e)
    exact TurnCalls_core k p u a b n W hL a1' a2' a3' s1 s2 s3 g1 g2 g3 t1 t2 t3 c1 c2 ch 0 0 tx te ch ha ha' hs hs' hg hg' ht ht' hc hc'
      (fun w => turn_Root.err k p u ch w hch he) (fun w => ref_Root.err k p u ch w hch' he) hp hp' hch hch'
end Go.Proofs.YtcddhfidbhcgdaaDoor
