/- Package nat: products; what the call does. -/
import Derived.Test.YtgnmmifeojfjlaaGreatDoorQNat4
set_option linter.unusedVariables false
set_option linter.unusedSimpArgs false
namespace Go.Proofs.YtgnmmifeojfjlaaGreatDoor
open Go Go.RowKit Q

/-- the state of a product ahead of a word of the first number -/
structure MulSt (w wr : World) (g N : Nat) (xs ys : List Int) (i : Nat) (zs : List Int) : Prop where
  own : Ow wr 36 w.heap.size (.slice (some ⟨g, 0, none⟩) N N) zs
  len : zs.length = N
  wds : Wds zs
  zero : ∀ j, i + ys.length ≤ j → wd zs j = 0
  sum : val zs = val (xs.take i) * val ys
  below : Below w.heap.size w wr
/-- and within it -/
structure MulIn (w wr : World) (g N : Nat) (xs ys : List Int) (i k : Nat) (c : Int) (zs : List Int) : Prop where
  own : Ow wr 36 w.heap.size (.slice (some ⟨g, 0, none⟩) N N) zs
  len : zs.length = N
  wds : Wds zs
  zero : ∀ j, i + ys.length ≤ j → wd zs j = 0
  sum : val zs + Bp (i + k) * c = val (xs.take i) * val ys + Bp i * (wd xs i * val (ys.take k))
  below : Below w.heap.size w wr
theorem MulSt.begin {w wr : World} {g N : Nat} {xs ys : List Int} {i : Nat} {zs : List Int} (h : MulSt w wr g N xs ys i zs) : MulIn w wr g N xs ys i 0 0 zs :=
  ⟨h.own, h.len, h.wds, h.zero, by rw [h.sum]; simp [val], h.below⟩
theorem MulIn.step {w wr : World} {g N : Nat} {xs ys : List Int} {i k : Nat} {c : Int} {zs : List Int} (h : MulIn w wr g N xs ys i k c zs) (hN : N = xs.length + ys.length) (hi : i < xs.length) (hk : k < ys.length) (hg : w.heap.size ≤ g) (s : Int) (hs : s = c + (wd xs i * wd ys k + wd zs (i + k))) :
    MulIn w (wr.setCell ⟨g, i + k, none⟩ (.int .u32 (s % 4294967296))) g N xs ys i (k + 1) (s / 4294967296) (zs.set (i + k) (s % 4294967296)) := {
  own := h.own.store (by rw [h.len]; omega) _
  len := by rw [List.length_set]; exact h.len
  wds := h.wds.set _ (by omega) (by omega)
  zero := fun j hj => by rw [wd_set _ (by rw [h.len]; omega), if_neg (by omega)]; exact h.zero j hj
  sum := by
    rw [val_set (by rw [h.len]; omega), val_take_step ys]
    have h1 := carry_step (i + k) s
    have h2 := h.sum
    have e : Bp (i + k) * s = Bp (i + k) * c + Bp (i + k) * (wd xs i * wd ys k) + Bp (i + k) * wd zs (i + k) := by rw [hs]; grind
    have e2 : Bp i * (wd xs i * (val (ys.take k) + Bp k * wd ys k)) = Bp i * (wd xs i * val (ys.take k)) + Bp (i + k) * (wd xs i * wd ys k) := by rw [Bp_add]; grind
    rw [e2, Int.mul_sub]
    have e3 : i + (k + 1) = i + k + 1 := by omega
    rw [e3]
    omega
  below := h.below.setCell hg _ }
theorem MulIn.done {w wr : World} {g N : Nat} {xs ys : List Int} {i : Nat} {c : Int} {zs : List Int} (h : MulIn w wr g N xs ys i ys.length c zs) (hN : N = xs.length + ys.length) (hi : i < xs.length) (hg : w.heap.size ≤ g) (h0 : 0 ≤ c) (h1 : c < 4294967296) :
    MulSt w (wr.setCell ⟨g, i + ys.length, none⟩ (.int .u32 c)) g N xs ys (i + 1) (zs.set (i + ys.length) c) := {
  own := h.own.store (by rw [h.len]; omega) _
  len := by rw [List.length_set]; exact h.len
  wds := h.wds.set _ h0 h1
  zero := fun j hj => by rw [wd_set _ (by rw [h.len]; omega), if_neg (by omega)]; exact h.zero j (by omega)
  sum := by
    rw [val_set (by rw [h.len]; omega), h.zero _ (Nat.le_refl _), val_take_step xs]
    have h2 := h.sum
    rw [List.take_length] at h2
    have e : (val (xs.take i) + Bp i * wd xs i) * val ys = val (xs.take i) * val ys + Bp i * (wd xs i * val ys) := by grind
    rw [e]
    simp only [Int.sub_zero]
    omega
  below := h.below.setCell hg _ }
theorem mul_le (x y : Int) (h0 : 0 ≤ x) (h1 : x < 4294967296) (h2 : 0 ≤ y) (h3 : y < 4294967296) : 0 ≤ x * y ∧ x * y ≤ 18446744065119617025 := by
  refine ⟨Int.mul_nonneg h0 h2, ?_⟩
  have : x * y ≤ 4294967295 * 4294967295 := Int.mul_le_mul (by omega) (by omega) h2 (by omega)
  omega

set_option maxHeartbeats 2000000 in
set_option maxRecDepth 100000 in
theorem Mul_calls (A A' : Option Addr) (c c' : Nat) (xs ys : List Int) (w : World) (h : In w A c xs) (h' : In w A' c' ys) :
    Calls Tryz.prog 21 #[.slice A xs.length c, .slice A' ys.length c'] w fun e w' => ∃ v, e = .returned (.tuple #[v, .int .i64 (mulS xs ys).2]) ∧ Ow w' 36 w.heap.size v (mulS xs ys).1 ∧ Below w.heap.size w w' := by
  have H := Q.hid h
  have H' := Q.hid h'
  have hm : xs.length ≤ 35184372087808 := by have := h.small; omega
  have hm' : ys.length ≤ 35184372087808 := by have := h'.small; omega
  clear h h'
  by_cases h0 : chk2 xs ys = 0
  · have hb : (chk2 xs ys != 0) = false := by simp [h0]
    by_cases hx : xs.length = 0
    · have hx1 : ((xs.length : Int) == 0) = true := beq_iff_eq.2 (by omega)
      have HF : Hid (mulS xs ys = ([], 0)) := by unfold mulS; rw [if_pos h0, if_pos (.inl (List.eq_nil_of_length_eq_zero hx))]; rfl
      clear hx h0
      go_enter Tryz.func21, Tryz.ntmps21
      go_wp2_with fail
      refine (checked_calls A A' c c' xs ys _ H.out H'.out).mono ?_
      rintro e w1 ⟨rfl, rfl⟩
      go_wp2
      go_ret2
      exact ⟨_, by rw [HF.out]; rfl, by rw [HF.out]; exact Ow.nil _ _ _, Below.refl _ _⟩
    · have hx1 : ((xs.length : Int) == 0) = false := beq_eq_false_iff_ne.2 (by omega)
      by_cases hy : ys.length = 0
      · have hy1 : ((ys.length : Int) == 0) = true := beq_iff_eq.2 (by omega)
        have HF : Hid (mulS xs ys = ([], 0)) := by unfold mulS; rw [if_pos h0, if_pos (.inr (List.eq_nil_of_length_eq_zero hy))]; rfl
        clear hx hy h0
        go_enter Tryz.func21, Tryz.ntmps21
        go_wp2_with fail
        refine (checked_calls A A' c c' xs ys _ H.out H'.out).mono ?_
        rintro e w1 ⟨rfl, rfl⟩
        go_wp2
        go_ret2
        exact ⟨_, by rw [HF.out]; rfl, by rw [HF.out]; exact Ow.nil _ _ _, Below.refl _ _⟩
      · have hy1 : ((ys.length : Int) == 0) = false := beq_eq_false_iff_ne.2 (by omega)
        have hne : ¬ (xs = [] ∨ ys = []) := by rintro (e | e) <;> simp [e] at hx hy
        by_cases hl : 8193 < xs.length + ys.length
        · have HF : Hid (mulS xs ys = ([], 3)) := by unfold mulS; rw [if_pos h0, if_neg hne, if_pos hl]; rfl
          clear hx hy h0 hne
          go_enter Tryz.func21, Tryz.ntmps21
          go_wp2_with fail
          refine (checked_calls A A' c c' xs ys _ H.out H'.out).mono ?_
          rintro e w1 ⟨rfl, rfl⟩
          go_wp2
          go_ret2
          exact ⟨_, by rw [HF.out]; rfl, by rw [HF.out]; exact Ow.nil _ _ _, Below.refl _ _⟩
        · have HF : Hid (mulS xs ys = told (val xs * val ys)) := by unfold mulS; rw [if_pos h0, if_neg hne, if_neg hl]; rfl
          clear hx hy h0 hne
          obtain ⟨N, hN⟩ : ∃ N : Nat, N = xs.length + ys.length := ⟨_, rfl⟩
          have hNi : (xs.length : Int) + (ys.length : Int) = (N : Int) := by omega
          have HN := Q.hid hN
          have HS : Hid (MulSt w (w.alloc (.cells (reps N (.int .u32 0)) 36)) w.heap.size N xs ys 0 (List.replicate N 0)) :=
            ⟨Ow.made w _ _ _ (Nat.le_refl _) (by simp only [maxLen]; omega), by simp, Wds.zeros _, fun j _ => wd_zeros _ _, by rw [val_zeros]; simp [val], (Below.refl _ _).alloc (Nat.le_refl _) _⟩
          have hN8 : N ≤ 8193 := by omega
          clear hN
          go_enter Tryz.func21, Tryz.ntmps21
          go_wp2_with fail
          refine (checked_calls A A' c c' xs ys _ H.out H'.out).mono ?_
          rintro e w1 ⟨rfl, rfl⟩
          go_wp2_with (at_make; refine wp_mk rfl (.tmp 37) (.tmp 37) 22 36 rfl (.int .u32 0) 4 Tryz.underlying22 infoW rfl _ _ N rfl rfl rfl rfl (by omega) (by simp only [maxLen]; omega) ?_)
          go_loopw [41] (fun i wr => ∃ (k : Nat) (zs : List Int), k ≤ xs.length ∧ i = .int .i64 k ∧ Hid (MulSt w wr w.heap.size N xs ys k zs)) (fun i _ => xs.length - (intOf i).toNat)
          case atStart => exact ⟨0, _, by omega, rfl, HS⟩
          case round =>
            clear HS
            obtain ⟨i, zs, hi, rfl, HS⟩ := hrel
            by_cases hlt : i < xs.length
            · obtain ⟨ad, rfl, hx⟩ := (H.out.rd.below HS.out.below) i hlt
              have hw := H.out.wds.wd i
              have p1 : 0 ≤ wd xs i := hw.1
              have p2 : wd xs i < 4294967296 := hw.2
              clear hw
              have HT : Hid (MulIn w wr w.heap.size N xs ys i 0 0 zs) := HS.out.begin
              clear HS
              obtain ⟨wo, hwo⟩ : ∃ wo : World, wo = wr := ⟨_, rfl⟩
              subst hwo
              go_wp2
              go_loopw [10, 48] (fun cv i2 wr => ∃ (k : Nat) (cr : Int) (zs : List Int), k ≤ ys.length ∧ i2 = .int .i64 k ∧ cv = .int .u64 cr ∧ 0 ≤ cr ∧ cr < 4294967296 ∧ Hid (MulIn w wr w.heap.size N xs ys i k cr zs)) (fun _ i2 _ => ys.length - (intOf i2).toNat)
              case atStart => exact ⟨0, 0, zs, by omega, rfl, rfl, by omega, by omega, HT⟩
              case round =>
                clear HT hx
                obtain ⟨k, cr, zs, hk, rfl, rfl, hc0, hc1, HT⟩ := hrel
                by_cases hky : k < ys.length
                · obtain ⟨ad', rfl, hy⟩ := (H'.out.rd.below HT.out.below) k hky
                  have hw := H'.out.wds.wd k
                  have p3 : 0 ≤ wd ys k := hw.1
                  have p4 : wd ys k < 4294967296 := hw.2
                  have hz := HT.out.wds.wd (i + k)
                  have p5 : 0 ≤ wd zs (i + k) := hz.1
                  have p6 : wd zs (i + k) < 4294967296 := hz.2
                  have hpm := mul_le (wd xs i) (wd ys k) p1 p2 p3 p4
                  have p7 : 0 ≤ wd xs i * wd ys k := hpm.1
                  have p8 : wd xs i * wd ys k ≤ 18446744065119617025 := hpm.2
                  have hcell := HT.out.own.cell (i := i + k) (by rw [HT.out.len, HN.out]; omega)
                  have hfree := HT.out.own.free (i + k)
                  have hik : i + k < N := by rw [HN.out]; omega
                  have hik2 : ((i : Int) + (k : Int)).toNat = i + k := by omega
                  clear hw hz hpm
                  have HT2 : Hid (∀ s, s = cr + (wd xs i * wd ys k + wd zs (i + k)) → MulIn w (wr.setCell ⟨w.heap.size, i + k, none⟩ (.int .u32 (s % 4294967296))) w.heap.size N xs ys i (k + 1) (s / 4294967296) (zs.set (i + k) (s % 4294967296))) := fun s hs => HT.out.step HN.out hlt hky (Nat.le_refl _) s hs
                  clear HT
                  go_wp2
                  go_roundw
                  case rel => exact ⟨k + 1, _, _, by omega, by go_num, rfl, by omega, by omega, HT2.out _ rfl⟩
                  case measure => simp [intOf]; omega
                · obtain rfl : k = ys.length := by omega
                  have hcell := HT.out.own.cell (i := i + ys.length) (by rw [HT.out.len, HN.out]; omega)
                  have hfree := HT.out.own.free (i + ys.length)
                  have hik : i + ys.length < N := by rw [HN.out]; omega
                  have hik2 : ((i : Int) + (ys.length : Int)).toNat = i + ys.length := by omega
                  have hcm : cr % 4294967296 = cr := by omega
                  have HT2 : Hid (MulSt w (wr.setCell ⟨w.heap.size, i + ys.length, none⟩ (.int .u32 cr)) w.heap.size N xs ys (i + 1) (zs.set (i + ys.length) cr)) := HT.out.done HN.out hlt (Nat.le_refl _) hc0 hc1
                  clear HT
                  go_wp2
                  go_roundw
                  case rel => exact ⟨i + 1, _, by omega, by go_num, HT2⟩
                  case measure => simp [intOf]; omega
            · obtain rfl : i = xs.length := by omega
              have HV : Hid (val zs = val xs * val ys) := by have := HS.out.sum; rw [List.take_length] at this; exact this
              have HL : Hid (zs.length = N) := HS.out.len
              have HO2 : Hid (Ow wr 36 w.heap.size (.slice (some ⟨w.heap.size, 0, none⟩) zs.length N) zs) := by rw [HL.out]; exact HS.out.own
              have HI2 : Hid (In wr (some ⟨w.heap.size, 0, none⟩) N zs) := ⟨HO2.out.read.2.2.2, by rw [HL.out]; exact Nat.le_refl _, by rw [HL.out]; omega, HS.out.wds⟩
              have HB2 := Q.hid HS.out.below
              clear HS
              go_wp2_with fail
              have HC := told_calls _ _ w.heap.size zs _ HO2.out HI2.out
              rw [HL.out] at HC
              refine HC.mono ?_
              rintro e w2 ⟨⟨v, rfl, ho⟩, rfl⟩
              rw [HV.out] at ho
              go_wp2
              go_ret2
              exact ⟨v, by rw [HF.out, ← HV.out]; rfl, by rw [HF.out]; exact ho, HB2.out⟩
  · have hb : (chk2 xs ys != 0) = true := by simp [h0]
    have HF : Hid (mulS xs ys = ([], chk2 xs ys)) := if_neg h0
    clear h0
    go_enter Tryz.func21, Tryz.ntmps21
    go_wp2_with fail
    refine (checked_calls A A' c c' xs ys _ H.out H'.out).mono ?_
    rintro e w1 ⟨rfl, rfl⟩
    go_wp2
    go_ret2
    exact ⟨_, by rw [HF.out]; rfl, by rw [HF.out]; exact Ow.nil _ _ _, Below.refl _ _⟩
end Go.Proofs.YtgnmmifeojfjlaaGreatDoor
