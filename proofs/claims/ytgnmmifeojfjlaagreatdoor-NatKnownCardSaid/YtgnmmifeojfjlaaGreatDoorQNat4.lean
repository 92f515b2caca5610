/- Package nat: differences; what each call does. -/
import Derived.Test.YtgnmmifeojfjlaaGreatDoorQNat3
set_option linter.unusedVariables false
set_option linter.unusedSimpArgs false
namespace Go.Proofs.YtgnmmifeojfjlaaGreatDoor
open Go Go.RowKit Q

/-- the state of a difference, a word at a time, in place -/
structure SubSt (w wr : World) (B g n cap : Nat) (xs ys : List Int) (k : Nat) (c : Int) (zs : List Int) : Prop where
  own : Ow wr 36 B (.slice (some ⟨g, 0, none⟩) n cap) zs
  len : zs.length = xs.length
  wds : Wds zs
  rest : ∀ i, k ≤ i → wd zs i = wd xs i
  sum : val (zs.take k) - Bp k * c = val (xs.take k) - val (ys.take k)
  grown : w.grownBy wr (some g)
theorem SubSt.step {w wr : World} {B g n cap : Nat} {xs ys : List Int} {k : Nat} {c : Int} {zs : List Int} (h : SubSt w wr B g n cap xs ys k c zs) (hk : k < xs.length) (t : Int) (ht : t = wd xs k - c - wd ys k) (h0 : -4294967296 ≤ t) (h1 : t < 4294967296) :
    SubSt w (wr.setCell ⟨g, k, none⟩ (.int .u32 (t % 4294967296))) B g n cap xs ys (k + 1) ((t % 18446744073709551616) / 9223372036854775808) (zs.set k (t % 4294967296)) := {
  own := h.own.store (by rw [h.len]; exact hk) _
  len := by rw [List.length_set]; exact h.len
  wds := h.wds.set _ (by omega) (by omega)
  rest := fun i hi => by rw [wd_set _ (by rw [h.len]; exact hk), if_neg (by omega)]; exact h.rest i (by omega)
  sum := less_step (by rw [h.len]; exact hk) h.sum t ht h0 h1
  grown := grown_trans h.grown (grown_set _) }
theorem SubSt.step' {w wr : World} {B g n cap : Nat} {xs ys : List Int} {k : Nat} {c : Int} {zs : List Int} (h : SubSt w wr B g n cap xs ys k c zs) (hk : k < xs.length) (t : Int) (ht : t = wd xs k - c - wd ys k) (h0 : -4294967296 ≤ t) (h1 : t < 4294967296) (d : Int) (hd : d = t % 18446744073709551616) :
    SubSt w (wr.setCell ⟨g, k, none⟩ (.int .u32 (d % 4294967296))) B g n cap xs ys (k + 1) (d / 9223372036854775808) (zs.set k (d % 4294967296)) := by
  have e : d % 4294967296 = t % 4294967296 := by omega
  rw [e, hd]
  exact h.step hk t ht h0 h1
theorem u64_sub1 (a b : Int) : IntKind.u64.wrap (a - b) = (a - b - 0) % 18446744073709551616 := by rw [IntKind.wrap_u64]; omega
theorem u64_sub2 (a b c : Int) : IntKind.u64.wrap (IntKind.u64.wrap (a - b) - c) = (a - b - c) % 18446744073709551616 := by rw [IntKind.wrap_u64, IntKind.wrap_u64]; omega

set_option maxHeartbeats 2000000 in
set_option maxRecDepth 100000 in
theorem less_calls (A A' : Option Addr) (c c' B : Nat) (xs ys : List Int) (w : World) (ho : Ow w 36 B (.slice A xs.length c) xs) (hx : In w A c xs) (hy : In w A' c' ys) (hne : ∀ ad ad', A = some ad → A' = some ad' → 0 < ys.length → ad'.block ≠ ad.block)
    (hl : ys.length ≤ xs.length) (hv : val ys ≤ val xs) :
    Calls Tryz.prog 50 #[.slice A xs.length c, .slice A' ys.length c'] w fun e w' => ∃ v, e = .returned v ∧ Ow w' 36 B v (nwd (val xs - val ys)) ∧ w.grownBy w' (Value.slice A xs.length c).ownBlock := by
  have hm : xs.length ≤ 35184372087808 := by have := hx.small; omega
  have hm' : ys.length ≤ 35184372087808 := by have := hy.small; omega
  have H := Q.hid hx
  have H' := Q.hid hy
  have HV := Q.hid hv
  have HL := Q.hid hl
  rcases ho.2 with ⟨e, h0⟩ | ⟨g, cap, cur, e, hb, hg, hn, hmx, hs, ht⟩
  · injection e with e1 e2 e3
    have hxe : xs = [] := List.eq_nil_of_length_eq_zero (by omega)
    subst e1 e3 hxe
    have hye : ys = [] := List.eq_nil_of_length_eq_zero (by simpa using hl)
    subst hye
    have HN : Hid (nwd (val [] - val []) = []) := nwd_zero
    clear ho hx hy hne hl hv h0
    go_enter Tryz.func50, Tryz.ntmps50
    go_wp2
    go_loop [5, 10] (fun b i => i = .int .i64 0 ∧ b = .int .u64 0) (fun _ _ => 0)
    case atStart => exact ⟨rfl, rfl⟩
    case round =>
      obtain ⟨rfl, rfl⟩ := hrel
      go_wp2_with fail
      refine (cut_calls none 0 [] _ H.out).mono ?_
      rintro e w1 ⟨rfl, rfl⟩
      go_wp2
      go_ret
      exact ⟨.slice none 0 0, rfl, by rw [HN.out]; exact Ow.nil _ _ _, grown_refl _ _⟩
  · injection e with e1 e2 e3
    subst e1 e3
    have HNE : Hid (0 < ys.length → ∀ ad', A' = some ad' → some ad'.block ≠ some g) := fun hp ad' e he => hne ⟨g, 0, none⟩ ad' rfl e hp (Option.some.inj he)
    have HS : Hid (SubSt w w B g xs.length c xs ys 0 0 xs) := ⟨ho, rfl, hx.wds, fun _ _ => rfl, by simp [val], grown_refl _ _⟩
    clear ho hx hy hne hl hv hb hg hn hmx hs ht
    go_enter Tryz.func50, Tryz.ntmps50
    go_wp2
    go_loopw [5, 6, 7, 10] (fun b _ _ i wr => ∃ (k : Nat) (br : Int) (zs : List Int), k ≤ xs.length ∧ i = .int .i64 k ∧ b = .int .u64 br ∧ 0 ≤ br ∧ br ≤ 1 ∧ Hid (SubSt w wr B g xs.length c xs ys k br zs)) (fun _ _ _ i _ => xs.length - (intOf i).toNat)
    case atStart => exact ⟨0, 0, xs, by omega, rfl, rfl, by omega, by omega, HS⟩
    case round =>
      clear HS
      obtain ⟨k, br, zs, hk, rfl, rfl, hc0, hc1, HS⟩ := hrel
      by_cases hlt : k < xs.length
      · have hw := H.out.wds.wd k
        have hw' := H'.out.wds.wd k
        have p1 : 0 ≤ wd xs k := hw.1
        have p2 : wd xs k < 4294967296 := hw.2
        have p3 : 0 ≤ wd ys k := hw'.1
        have p4 : wd ys k < 4294967296 := hw'.2
        have hcell := HS.out.own.cell (i := k) (by rw [HS.out.len]; exact hlt)
        rw [HS.out.rest k (Nat.le_refl _)] at hcell
        have hfree := HS.out.own.free k
        clear hw hw'
        by_cases hly : k < ys.length
        · obtain ⟨ad', rfl, hy⟩ := (H'.out.rd.grown HS.out.grown (HNE.out (by omega))) k hly
          have HT : Hid (∀ d, d = (wd xs k - br - wd ys k) % 18446744073709551616 → SubSt w (wr.setCell ⟨g, k, none⟩ (.int .u32 (d % 4294967296))) B g xs.length c xs ys (k + 1) (d / 9223372036854775808) (zs.set k (d % 4294967296))) := fun d hd => HS.out.step' hlt _ rfl (by omega) (by omega) d hd
          have HD := Q.hid (u64_sub2 (wd xs k) br (wd ys k))
          clear HS
          go_wp2
          go_roundw
          case rel => exact ⟨k + 1, _, _, by omega, by go_num, rfl, by rw [HD.out]; omega, by rw [HD.out]; omega, HT.out _ HD.out⟩
          case measure => simp [intOf]; omega
        · have hz : wd ys k = 0 := wd_ge (by omega)
          have HT : Hid (∀ d, d = (wd xs k - br - 0) % 18446744073709551616 → SubSt w (wr.setCell ⟨g, k, none⟩ (.int .u32 (d % 4294967296))) B g xs.length c xs ys (k + 1) (d / 9223372036854775808) (zs.set k (d % 4294967296))) := fun d hd => HS.out.step' hlt _ (by rw [hz]) (by omega) (by omega) d hd
          have HD := Q.hid (u64_sub1 (wd xs k) br)
          clear HS hz
          go_wp2
          go_roundw
          case rel => exact ⟨k + 1, _, _, by omega, by go_num, rfl, by rw [HD.out]; omega, by rw [HD.out]; omega, HT.out _ HD.out⟩
          case measure => simp [intOf]; omega
      · obtain rfl : k = xs.length := by omega
        have HN : Hid (val zs = val xs - val ys) := by
          have h1 := HS.out.sum
          have h2 := HS.out.len
          rw [List.take_of_length_le (l := zs) (by omega), List.take_of_length_le (l := xs) (by omega), List.take_of_length_le (l := ys) (by have := HL.out; omega)] at h1
          have h3 := val_lt HS.out.wds
          rw [h2] at h3
          have h4 := HV.out
          have h5 := Bp_pos xs.length
          show val zs = val xs - val ys
          rcases (by omega : br = 0 ∨ br = 1) with rfl | rfl
          · simp at h1; omega
          · rw [Int.mul_one] at h1; omega
        have HLZ : Hid (zs.length = xs.length) := HS.out.len
        have HTR : Hid (trim zs = nwd (val xs - val ys)) := nwd_trim HS.out.wds HN.out
        have HI : Hid (In wr (some ⟨g, 0, none⟩) c zs) := ⟨HS.out.own.read.2.2.2, by rw [HLZ.out]; exact H.out.cap, by rw [HLZ.out]; exact H.out.small, HS.out.wds⟩
        have HO : Hid (Ow wr 36 B (.slice (some ⟨g, 0, none⟩) (trim zs).length c) (nwd (val xs - val ys))) := by
          rw [← HTR.out]; exact HS.out.own.trim
        have HG := Q.hid HS.out.grown
        clear HS
        go_wp2_with fail
        have HC := cut_calls (some ⟨g, 0, none⟩) c zs _ HI.out
        rw [HLZ.out] at HC
        refine HC.mono ?_
        rintro e w2 ⟨rfl, rfl⟩
        go_wp2
        go_ret
        exact ⟨_, rfl, HO.out, HG.out⟩

set_option maxHeartbeats 1000000 in
theorem Sub_calls (A A' : Option Addr) (c c' : Nat) (xs ys : List Int) (w : World) (h : In w A c xs) (h' : In w A' c' ys) :
    Calls Tryz.prog 20 #[.slice A xs.length c, .slice A' ys.length c'] w fun e w' => ∃ v, e = .returned (.tuple #[v, .int .i64 (subS xs ys).2]) ∧ Ow w' 36 w.heap.size v (subS xs ys).1 ∧ Below w.heap.size w w' := by
  have H := Q.hid h
  have H' := Q.hid h'
  clear h h'
  by_cases h0 : chk2 xs ys = 0
  · have hb : (chk2 xs ys != 0) = false := by simp [h0]
    have HC2 := Q.hid (chk2_zero h0)
    by_cases hv : val xs < val ys
    · have HF : Hid (subS xs ys = ([], 2)) := by unfold subS; rw [if_pos h0, if_pos hv]; rfl
      have hc : cmp (val xs) (val ys) = -1 := cmp_lt hv
      clear h0 hv
      go_enter Tryz.func20, Tryz.ntmps20
      go_wp2_with fail
      refine (checked_calls A A' c c' xs ys _ H.out H'.out).mono ?_
      rintro e w1 ⟨rfl, rfl⟩
      go_wp2_with fail
      have HC := Compare_calls A A' c c' xs ys _ H.out H'.out
      rw [hc] at HC
      refine HC.mono ?_
      rintro e w1 ⟨rfl, ⟨n, rfl⟩⟩
      go_wp2
      go_ret2
      exact ⟨_, by rw [HF.out]; rfl, by rw [HF.out]; exact Ow.nil _ _ _, Dr.below ⟨n, rfl⟩ _⟩
    · have HF : Hid (subS xs ys = (nwd (val xs - val ys), 0)) := by unfold subS; rw [if_pos h0, if_neg hv]; rfl
      have hc : decide (cmp (val xs) (val ys) < 0) = false := by
        rcases Int.lt_or_eq_of_le (by omega : val ys ≤ val xs) with h1 | h1
        · rw [cmp_gt h1]; rfl
        · rw [cmp_eq h1.symm]; rfl
      have HV : Hid (val ys ≤ val xs) := by show val ys ≤ val xs; omega
      clear h0 hv
      go_enter Tryz.func20, Tryz.ntmps20
      go_wp2_with fail
      refine (checked_calls A A' c c' xs ys _ H.out H'.out).mono ?_
      rintro e w1 ⟨rfl, rfl⟩
      go_wp2_with fail
      refine (Compare_calls A A' c c' xs ys _ H.out H'.out).mono ?_
      rintro e w1 ⟨rfl, ⟨n, rfl⟩⟩
      go_wp2_with fail
      refine (Clone_calls A c xs _ (H.out.drewN _)).mono ?_
      rintro e w2 ⟨v2, rfl, ho, hb2⟩
      obtain ⟨A2, c2, e2, i2⟩ := ho.inn H.out.wds H.out.small
      subst e2
      have HO : Hid (Ow w2 36 w.heap.size (.slice A2 xs.length c2) xs) := ho
      have HI := Q.hid i2
      have HB : Hid (Below w.heap.size w w2) := below_of_drewN hb2
      have HNE : Hid (∀ ad ad', A2 = some ad → A' = some ad' → 0 < ys.length → ad'.block ≠ ad.block) := fun ad ad' e e' hp => by
        obtain ⟨ad2, e2, hx⟩ := H'.out.rd 0 hp
        rw [e'] at e2
        cases e2
        have h1 := World.block_lt_of_cell? w _ hx
        rw [add_block] at h1
        subst e
        have h2 := (HO.out.base ad.block rfl).1
        omega
      clear ho hb2 i2
      go_wp2_with fail
      refine (less_calls A2 A' c2 c' w.heap.size xs ys _ HO.out HI.out (H'.out.below HB.out) HNE.out ?_ HV.out).mono ?_
      · have h1 := HC2.out
        apply Nat.le_of_not_lt
        intro hlt
        have h2 := val_lt_of_len H.out.wds H'.out.wds h1.2.2.2 hlt
        have := HV.out
        omega
      rintro e w3 ⟨v, rfl, ho, hg⟩
      go_wp2
      go_ret2
      exact ⟨v, by rw [HF.out]; rfl, by rw [HF.out]; exact ho, below_grown HB.out hg (fun j hj => (HO.out.base j hj).1)⟩
  · have hb : (chk2 xs ys != 0) = true := by simp [h0]
    have HF : Hid (subS xs ys = ([], chk2 xs ys)) := if_neg h0
    clear h0
    go_enter Tryz.func20, Tryz.ntmps20
    go_wp2_with fail
    refine (checked_calls A A' c c' xs ys _ H.out H'.out).mono ?_
    rintro e w1 ⟨rfl, rfl⟩
    go_wp2
    go_ret2
    exact ⟨_, by rw [HF.out]; rfl, by rw [HF.out]; exact Ow.nil _ _ _, Below.refl _ _⟩
end Go.Proofs.YtgnmmifeojfjlaaGreatDoor
