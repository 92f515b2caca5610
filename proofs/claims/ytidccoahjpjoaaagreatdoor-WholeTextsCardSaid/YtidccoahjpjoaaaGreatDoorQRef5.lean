import Derived.Test.YtidccoahjpjoaaaGreatDoorQNat9
/- The reference of layer 1, the first calls; what each call does. -/
set_option linter.unusedVariables false
set_option linter.unusedSimpArgs false
namespace Go.Proofs.YtidccoahjpjoaaaGreatDoor
open Go Go.RowKit Q


set_option maxHeartbeats 400000 in
theorem rTrim_calls (A : Option Addr) (c : Nat) (xs : List Int) (w : World) (h : In w A c xs) :
    Calls Tryz.prog 70 #[.slice A xs.length c] w fun e w' => ∃ v, e = .returned v ∧ Ow w' 50 w.heap.size v (trim xs) ∧ Below w.heap.size w w' := by
  have hm : xs.length ≤ 9223372036854775807 := by have := h.small; omega
  have hc : xs.length ≤ c := h.cap
  have HT : Hid ((trim xs).length = tl xs) := len_trim xs
  have HI := Q.hid h
  have H := Q.hid h.rd
  clear h
  go_enter Tryz.func70, Tryz.ntmps70
  go_wp2
  go_loop [3] (fun n => ∃ k : Nat, k ≤ xs.length ∧ n = .int .i64 k ∧ Hid (tl (xs.take k) = tl xs)) (fun n => (intOf n).toNat)
  case atStart => exact ⟨xs.length, Nat.le_refl _, rfl, (by simp : tl (xs.take xs.length) = tl xs)⟩
  case round =>
    obtain ⟨k, hk, rfl, hr⟩ := hrel
    have fin : ∀ j : Nat, j = tl xs → Hid (∀ j2 : Nat, j2 = j → Rd w A (trim xs) ∧ j2 = (trim xs).length ∧ ((trim xs).length) * 4 ≤ 140737488355328) := fun j hj j2 hj2 => ⟨HI.out.trim.rd, by rw [HT.out]; omega, by have := HI.out.trim.small; omega⟩
    have FIN := Q.hid fin
    clear fin
    by_cases hk0 : k = 0
    · have HF := FIN.out 0 (by have := hr.out; subst hk0; simp only [List.take_zero, tl] at this; exact this)
      subst hk0
      clear hr FIN
      go_wp2_with (at_builtin; refine wp_app rfl (.tmp 19) (.tmp 22) 22 50 rfl Tryz.underlying22 infoW w.heap.size _ [] rfl (Ow.nil _ _ _) A 0 c (trim xs) (HF.out 0 rfl).2.1 rfl (HF.out 0 rfl).1 (by have := (HF.out 0 rfl).2.2; simp; omega) (by simp) ?_; intro v1 w1 ho hg hat)
      go_ret
      exact ⟨v1, rfl, by simpa using ho, below_grown (Below.refl _ _) hg (fun k hk => by cases hk)⟩
    · obtain ⟨k, rfl⟩ : ∃ j, k = j + 1 := ⟨k - 1, by omega⟩
      clear hk0
      obtain ⟨ad, rfl, hx⟩ := H.out k (by omega)
      have hs := tl_take_succ (xs := xs) (k := k) (by omega)
      by_cases hz : wd xs k = 0
      · have hz1 : (wd xs k == 0) = true := by simp [hz]
        have HR : Hid (tl (xs.take k) = tl xs) := by rw [if_pos hz] at hs; rw [← hs]; exact hr.out
        clear hz hs hr FIN
        go_wp2
        go_round
        case rel => exact ⟨k, by omega, by go_num, HR⟩
        case measure => simp [intOf]
      · have hz1 : (wd xs k == 0) = false := by simp [hz]
        have HF := FIN.out (k + 1) (by rw [if_neg hz] at hs; rw [← hs]; exact hr.out)
        clear hz hs hr FIN
        go_wp2_with (at_builtin; refine wp_app rfl (.tmp 19) (.tmp 22) 22 50 rfl Tryz.underlying22 infoW w.heap.size _ [] rfl (Ow.nil _ _ _) (some ad) (k + 1) c (trim xs) (HF.out (k + 1) rfl).2.1 rfl (HF.out (k + 1) rfl).1 (by have := (HF.out (k + 1) rfl).2.2; simp; omega) (by simp) ?_; intro v1 w1 ho hg hat)
        go_ret
        exact ⟨v1, rfl, by simpa using ho, below_grown (Below.refl _ _) hg (fun k hk => by cases hk)⟩



end Go.Proofs.YtidccoahjpjoaaaGreatDoor
/- The reference of layer 1: numbers of 64 bits, comparing, bits; what each call does. -/
set_option linter.unusedVariables false
set_option linter.unusedSimpArgs false
namespace Go.Proofs.YtidccoahjpjoaaaGreatDoor
open Go Go.RowKit Q

theorem val2 {xs : List Int} (h : xs.length ≤ 2) : val xs = wd xs 0 + 4294967296 * wd xs 1 := by
  match xs, h with
  | [], _ => rfl
  | [x], _ => simp [val, wd]
  | [x, y], _ => simp [val, wd]



theorem bitLen_step (x : Int) (h0 : 0 < x) (h1 : x < 4294967296) : Lib.bitLen x.toNat = 1 + Lib.bitLen (x / 2).toNat := by
  have := Lib.bitLen_half x.toNat (by omega) (by omega)
  rw [this]; congr 2; omega


end Go.Proofs.YtidccoahjpjoaaaGreatDoor
/- The reference of layer 1: sums, differences, products; what each call does. -/
set_option linter.unusedVariables false
set_option linter.unusedSimpArgs false
namespace Go.Proofs.YtidccoahjpjoaaaGreatDoor
open Go Go.RowKit Q





/-- the reference's answer, written as the program's -/
theorem nwd_inn {w : World} {e B : Nat} {v : Value} {x : Int} (h : Ow w e B v (nwd x)) (hs : (nwd x).length * 4 ≤ 140737488351232) : ∃ A c, v = .slice A (nwd x).length c ∧ In w A c (nwd x) := h.inn (nwd_wds x) hs


end Go.Proofs.YtidccoahjpjoaaaGreatDoor
/- The reference of layer 1: differences, products; what each call does. -/
set_option linter.unusedVariables false
set_option linter.unusedSimpArgs false
namespace Go.Proofs.YtidccoahjpjoaaaGreatDoor
open Go Go.RowKit Q

/-- the state of a difference in new memory -/
structure DifSt (w wr : World) (g N : Nat) (xs ys : List Int) (k : Nat) (c : Int) (zs : List Int) : Prop where
  own : Ow wr 50 w.heap.size (.slice (some ⟨g, 0, none⟩) N N) zs
  len : zs.length = N
  wds : Wds zs
  sum : val (zs.take k) - Bp k * c = val (xs.take k) - val (ys.take k)
  below : Below w.heap.size w wr
theorem DifSt.drewN {w wr : World} {g N : Nat} {xs ys : List Int} {k : Nat} {c : Int} {zs : List Int} (h : DifSt w wr g N xs ys k c zs) (m : Nat) : DifSt w (wr.drewN m) g N xs ys k c zs := ⟨h.own.drewN m, h.len, h.wds, h.sum, below_drewN h.below m⟩
theorem DifSt.step {w wr : World} {g N : Nat} {xs ys : List Int} {k : Nat} {c : Int} {zs : List Int} (h : DifSt w wr g N xs ys k c zs) (hk : k < N) (hg : w.heap.size ≤ g) (t : Int) (ht : t = wd xs k - c - wd ys k) (h0 : -4294967296 ≤ t) (h1 : t < 4294967296) (d c' : Int) (hd : d = t % 4294967296) (hc : c' = if t < 0 then 1 else 0) :
    DifSt w (wr.setCell ⟨g, k, none⟩ (.int .u32 d)) g N xs ys (k + 1) c' (zs.set k d) := by
  have e : c' = (t % 18446744073709551616) / 9223372036854775808 := by rw [hc]; split <;> omega
  subst hd
  rw [e]
  exact {
    own := h.own.store (by rw [h.len]; exact hk) _
    len := by rw [List.length_set]; exact h.len
    wds := h.wds.set _ (by omega) (by omega)
    sum := less_step (by rw [h.len]; exact hk) h.sum t ht h0 h1
    below := h.below.setCell hg _ }



theorem MulIn.drewN {w wr : World} {g N : Nat} {xs ys : List Int} {i k : Nat} {c : Int} {zs : List Int} (h : MulIn w wr g N xs ys i k c zs) (m : Nat) : MulIn w (wr.drewN m) g N xs ys i k c zs := ⟨h.own.drewN m, h.len, h.wds, h.zero, h.sum, below_drewN h.below m⟩



end Go.Proofs.YtidccoahjpjoaaaGreatDoor
/- The reference of layer 1: quotients by a word, shifts. -/
set_option linter.unusedVariables false
set_option linter.unusedSimpArgs false
namespace Go.Proofs.YtidccoahjpjoaaaGreatDoor
open Go Go.RowKit Q

set_option maxHeartbeats 1000000 in
set_option maxRecDepth 100000 in
theorem rsmall_calls (A : Option Addr) (c : Nat) (xs : List Int) (d : Int) (w : World) (hx : In w A c xs) (hl : xs.length ≤ 1000000) (hd0 : 0 < d) (hd1 : d < 4294967296) :
    Calls Tryz.prog 65 #[.slice A xs.length c, .int .u32 d] w fun e w' => ∃ v, e = .returned (.tuple #[v, .int .u32 (val xs % d)]) ∧ Ow w' 50 w.heap.size v (nwd (val xs / d)) ∧ Below w.heap.size w w' := by
  have H := Q.hid hx
  have HS : Hid (SmV xs d (List.replicate xs.length 0) xs.length 0) := SmV.start (by simp) (Wds.zeros _) hd0
  have HO : Hid (Ow (w.alloc (.cells (reps xs.length (.int .u32 0)) 50)) 50 w.heap.size (.slice (some ⟨w.heap.size, 0, none⟩) xs.length xs.length) (List.replicate xs.length 0)) := Ow.made w _ _ _ (Nat.le_refl _) (by simp only [maxLen]; omega)
  have HB : Hid (Below w.heap.size w (w.alloc (.cells (reps xs.length (.int .u32 0)) 50))) := (Below.refl _ _).alloc (Nat.le_refl _) _
  clear hx
  go_enter Tryz.func65, Tryz.ntmps65
  go_wp2_with (at_make; refine wp_mk rfl (.tmp 11) (.tmp 11) 22 50 rfl (.int .u32 0) 4 Tryz.underlying22 infoW rfl _ _ xs.length rfl rfl rfl rfl (by omega) (by simp only [maxLen]; omega) ?_)
  go_loopw [7, 8] (fun rv i wr => ∃ (k : Nat) (r : Int) (zs : List Int), k ≤ xs.length ∧ i = .int .i64 ((k : Int) - 1) ∧ rv = .int .u64 r ∧ 0 ≤ r ∧ r < d ∧ Hid (Ow wr 50 w.heap.size (.slice (some ⟨w.heap.size, 0, none⟩) xs.length xs.length) zs) ∧ Hid (SmV xs d zs k r) ∧ Hid (Below w.heap.size w wr)) (fun _ i _ => (intOf i + 1).toNat)
  case atStart => exact ⟨xs.length, 0, _, by omega, rfl, rfl, by omega, by omega, HO, HS, HB⟩
  case round =>
    clear HO HS HB
    obtain ⟨k, r, zs, hk, rfl, rfl, hr0, hr1, HO, HS, HB⟩ := hrel
    by_cases hk0 : 0 < k
    · obtain ⟨j, rfl⟩ : ∃ j, k = j + 1 := ⟨k - 1, by omega⟩
      have hj : j < xs.length := by omega
      have hkj : ((j + 1 : Nat) : Int) - 1 = (j : Int) := by omega
      obtain ⟨ad, rfl, hx⟩ := (H.out.rd.below HB.out) j hj
      have p1 : 0 ≤ wd xs j := (H.out.wds.wd j).1
      have p2 : wd xs j < 4294967296 := (H.out.wds.wd j).2
      have hcell := HO.out.cell (i := j) (by rw [HS.out.len]; omega)
      have hfree := HO.out.free j
      obtain ⟨t, ht⟩ : ∃ t : Int, t = r * 4294967296 + wd xs j := ⟨_, rfl⟩
      have ht0 : 0 ≤ t := by omega
      have hbn := HS.out.bnd H.out.wds
      have HS2 := Q.hid (HS.out.step hj H.out.wds)
      have m0 : 0 ≤ (r * 4294967296 + wd xs j) % d := Int.emod_nonneg _ (by omega)
      have m1 : (r * 4294967296 + wd xs j) % d < d := Int.emod_lt_of_pos _ hd0
      have q1 := hbn.1
      have q2 := hbn.2
      have HO2 : Hid (Ow (wr.setCell ⟨w.heap.size, j, none⟩ (.int .u32 ((r * 4294967296 + wd xs j) / d))) 50 w.heap.size (.slice (some ⟨w.heap.size, 0, none⟩) xs.length xs.length) (zs.set j ((r * 4294967296 + wd xs j) / d))) := HO.out.store (by rw [HS.out.len]; omega) _
      have HB2 : Hid (Below w.heap.size w (wr.setCell ⟨w.heap.size, j, none⟩ (.int .u32 ((r * 4294967296 + wd xs j) / d)))) := HB.out.setCell (Nat.le_refl _) _
      clear HO HS HB hbn ht
      rw [hkj]
      go_wp2
      go_roundw
      case rel => exact ⟨j, _, _, by omega, rfl, rfl, m0, m1, HO2, HS2, HB2⟩
      case measure => simp [intOf]
    · obtain rfl : k = 0 := by omega
      have HF : Hid (val zs = val xs / d ∧ r = val xs % d) := HS.out.fin
      have HLZ : Hid (zs.length = xs.length) := HS.out.len
      have HI : Hid (In wr (some ⟨w.heap.size, 0, none⟩) xs.length zs) := ⟨HO.out.read.2.2.2, by rw [HLZ.out]; exact Nat.le_refl _, by rw [HLZ.out]; omega, HS.out.wds⟩
      have HT : Hid (trim zs = nwd (val xs / d)) := nwd_trim HS.out.wds HF.out.1
      have h0k : ((0 : Nat) : Int) - 1 = -1 := rfl
      clear HO HS
      rw [h0k]
      go_wp2_with fail
      have HC := rTrim_calls (some ⟨w.heap.size, 0, none⟩) xs.length zs _ HI.out
      rw [HLZ.out, HT.out] at HC
      refine HC.mono ?_
      rintro e w2 ⟨v, rfl, ho, hb⟩
      go_wp2
      go_ret2
      exact ⟨v, by rw [← HF.out.2]; rfl, ho.mono HB.out.size, bs2 HB.out hb⟩

theorem Bp_two (m : Nat) : Bp m = 2 ^ (32 * m) := by
  unfold Bp
  rw [show (4294967296 : Int) = 2 ^ 32 by rfl, ← Int.pow_mul]
theorem two_parts (n : Nat) : (2 : Int) ^ n = 2 ^ (n % 32) * Bp (n / 32) := by
  rw [Bp_two, ← Int.pow_add]
  congr 1; omega


theorem add_add (a : Addr) (m i : Nat) : (a.add m).add i = a.add (m + i) := by
  rcases Nat.eq_zero_or_pos i with h | h
  · subst h; rw [add_zero', Nat.add_zero]
  · rcases Nat.eq_zero_or_pos m with h2 | h2
    · subst h2; rw [add_zero', Nat.zero_add]
    · rw [add_pos' _ i h, add_pos' a m h2, add_pos' a (m + i) (by omega), Nat.add_assoc]
theorem in_drop {w : World} {a : Addr} {c : Nat} {xs : List Int} (h : In w (some a) c xs) (m : Nat) : In w (some (a.add m)) (c - m) (xs.drop m) :=
  ⟨fun i hi => by
    rw [List.length_drop] at hi
    obtain ⟨ad, e, hc⟩ := h.rd (m + i) (by omega)
    cases e
    exact ⟨_, rfl, by rw [add_add, wd_drop]; exact hc⟩, by rw [List.length_drop]; have := h.cap; omega, by rw [List.length_drop]; have := h.small; omega, h.wds.drop m⟩
theorem shift_down (xs : List Int) (hx : Wds xs) (n : Nat) : val xs / 2 ^ n = val (xs.drop (n / 32)) / 2 ^ (n % 32) := by
  have e : val xs / Bp (n / 32) / 2 ^ (n % 32) = val xs / (Bp (n / 32) * 2 ^ (n % 32)) := by
    rw [Int.ediv_ediv, if_neg (fun h => by have := Bp_pos (n / 32); omega), Int.sub_zero]
  rw [two_parts, Int.mul_comm, ← e]
  congr 1
  have h := val_split xs (n / 32)
  have h0 := val_nonneg (hx.take (n / 32))
  have h1 := val_take_lt hx (n / 32)
  exact ((div_unique (x := val xs) (d := Bp (n / 32)) (q := val (xs.drop (n / 32))) (r := val (xs.take (n / 32))) (by omega) h0 h1).1).symm


end Go.Proofs.YtidccoahjpjoaaaGreatDoor
