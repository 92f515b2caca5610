import Derived.Test.YtgnmmifeojfjlaaGreatDoorQNat2
import Derived.Test.YtgnmmifeojfjlaaGreatDoorQNat5
import Derived.Test.YtgnmmifeojfjlaaGreatDoorQNat9
/- The reference of layer 1, the first calls; what each call does. -/
set_option linter.unusedVariables false
set_option linter.unusedSimpArgs false
namespace Go.Proofs.YtgnmmifeojfjlaaGreatDoor
open Go Go.RowKit Q

set_option maxHeartbeats 400000 in
theorem rCheck_calls (A : Option Addr) (c : Nat) (xs : List Int) (w : World) (h : In w A c xs) :
    Calls Tryz.prog 32 #[.slice A xs.length c] w fun e w' => e = .returned (.int .i64 (chk xs)) ∧ w = w' := by
  have hm : xs.length ≤ 9223372036854775807 := by have := h.small; omega
  have H := Q.hid h.rd
  clear h
  by_cases h1 : 8192 < xs.length
  · have HE : Hid (chk xs = 3) := if_pos h1
    go_enter Tryz.func32, Tryz.ntmps32
    go_wp2
    go_ret
    exact ⟨by rw [HE.out]; rfl, rfl⟩
  · by_cases h2 : 0 < xs.length
    · obtain ⟨ad, rfl, hx⟩ := H.out (xs.length - 1) (by omega)
      have hl := tl_last h2
      by_cases hz : wd xs (xs.length - 1) = 0
      · have hz1 : (wd xs (xs.length - 1) == 0) = true := by simp [hz]
        have HE : Hid (chk xs = 11) := by unfold chk; rw [if_neg (by omega), if_neg (by rw [hl]; simp [hz])]; rfl
        have hi : (((xs.length : Int) - 1).toNat) = xs.length - 1 := by omega
        clear hz hl
        go_enter Tryz.func32, Tryz.ntmps32
        go_wp2
        go_ret
        exact ⟨by rw [HE.out]; rfl, rfl⟩
      · have hz1 : (wd xs (xs.length - 1) == 0) = false := by simp [hz]
        have HE : Hid (chk xs = 0) := by unfold chk; rw [if_neg (by omega), if_pos (by rw [hl]; exact hz)]; rfl
        have hi : (((xs.length : Int) - 1).toNat) = xs.length - 1 := by omega
        clear hz hl
        go_enter Tryz.func32, Tryz.ntmps32
        go_wp2
        go_ret
        exact ⟨by rw [HE.out]; rfl, rfl⟩
    · have hx : xs = [] := List.eq_nil_of_length_eq_zero (by omega)
      subst hx
      go_enter Tryz.func32, Tryz.ntmps32
      go_wp2
      go_ret
      exact ⟨rfl, rfl⟩

set_option maxHeartbeats 400000 in
theorem rTrim_calls (A : Option Addr) (c : Nat) (xs : List Int) (w : World) (h : In w A c xs) :
    Calls Tryz.prog 56 #[.slice A xs.length c] w fun e w' => ∃ v, e = .returned v ∧ Ow w' 36 w.heap.size v (trim xs) ∧ Below w.heap.size w w' := by
  have hm : xs.length ≤ 9223372036854775807 := by have := h.small; omega
  have hc : xs.length ≤ c := h.cap
  have HT : Hid ((trim xs).length = tl xs) := len_trim xs
  have HI := Q.hid h
  have H := Q.hid h.rd
  clear h
  go_enter Tryz.func56, Tryz.ntmps56
  go_wp2
  go_loop [3] (fun n => ∃ k : Nat, k ≤ xs.length ∧ n = .int .i64 k ∧ Hid (tl (xs.take k) = tl xs)) (fun n => (intOf n).toNat)
  case atStart => exact ⟨xs.length, Nat.le_refl _, rfl, (by simp : tl (xs.take xs.length) = tl xs)⟩
  case round =>
    obtain ⟨k, hk, rfl, hr⟩ := hrel
    have fin : ∀ j : Nat, j = tl xs → Hid (∀ j2 : Nat, j2 = j → Rd w A (trim xs) ∧ j2 = (trim xs).length ∧ ((trim xs).length) * 4 ≤ 140737488355328) := fun j hj j2 hj2 => ⟨HI.out.trim.rd, by rw [HT.out]; omega, by have := HI.out.trim.small; omega⟩
    have FIN := Q.hid fin
    clear fin
    by_cases hk0 : k = 0
    · have HF := FIN.out 0 (by have := hr.out; subst hk0; simp only [List.take_zero, tl] at this; exact this)
      subst hk0
      clear hr FIN
      go_wp2_with (at_builtin; refine wp_app rfl (.tmp 19) (.tmp 22) 22 36 rfl Tryz.underlying22 infoW w.heap.size _ [] rfl (Ow.nil _ _ _) A 0 c (trim xs) (HF.out 0 rfl).2.1 rfl (HF.out 0 rfl).1 (by have := (HF.out 0 rfl).2.2; simp; omega) (by simp) ?_; intro v1 w1 ho hg hat)
      go_ret
      exact ⟨v1, rfl, by simpa using ho, below_grown (Below.refl _ _) hg (fun k hk => by cases hk)⟩
    · obtain ⟨k, rfl⟩ : ∃ j, k = j + 1 := ⟨k - 1, by omega⟩
      clear hk0
      obtain ⟨ad, rfl, hx⟩ := H.out k (by omega)
      have hs := tl_take_succ (xs := xs) (k := k) (by omega)
      by_cases hz : wd xs k = 0
      · have hz1 : (wd xs k == 0) = true := by simp [hz]
        have HR : Hid (tl (xs.take k) = tl xs) := by rw [if_pos hz] at hs; rw [← hs]; exact hr.out
        clear hz hs hr FIN
        go_wp2
        go_round
        case rel => exact ⟨k, by omega, by go_num, HR⟩
        case measure => simp [intOf]
      · have hz1 : (wd xs k == 0) = false := by simp [hz]
        have HF := FIN.out (k + 1) (by rw [if_neg hz] at hs; rw [← hs]; exact hr.out)
        clear hz hs hr FIN
        go_wp2_with (at_builtin; refine wp_app rfl (.tmp 19) (.tmp 22) 22 36 rfl Tryz.underlying22 infoW w.heap.size _ [] rfl (Ow.nil _ _ _) (some ad) (k + 1) c (trim xs) (HF.out (k + 1) rfl).2.1 rfl (HF.out (k + 1) rfl).1 (by have := (HF.out (k + 1) rfl).2.2; simp; omega) (by simp) ?_; intro v1 w1 ho hg hat)
        go_ret
        exact ⟨v1, rfl, by simpa using ho, below_grown (Below.refl _ _) hg (fun k hk => by cases hk)⟩

set_option maxHeartbeats 400000 in
theorem rword_calls (A : Option Addr) (c : Nat) (xs : List Int) (i : Nat) (w : World) (h : Rd w A xs) (hm : xs.length ≤ 9223372036854775807) :
    Calls Tryz.prog 55 #[.slice A xs.length c, .int .i64 i] w fun e w' => e = .returned (.int .u32 (wd xs i)) ∧ w = w' := by
  by_cases hi : i < xs.length
  · obtain ⟨ad, rfl, hx⟩ := h i hi
    clear h
    go_enter Tryz.func55, Tryz.ntmps55
    go_wp2
    go_ret
    exact ⟨rfl, rfl⟩
  · have HZ : Hid (wd xs i = 0) := wd_ge (by omega)
    clear h
    go_enter Tryz.func55, Tryz.ntmps55
    go_wp2
    go_ret
    exact ⟨by rw [HZ.out]; rfl, rfl⟩


end Go.Proofs.YtgnmmifeojfjlaaGreatDoor
/- The reference of layer 1: numbers of 64 bits, comparing, bits; what each call does. -/
set_option linter.unusedVariables false
set_option linter.unusedSimpArgs false
namespace Go.Proofs.YtgnmmifeojfjlaaGreatDoor
open Go Go.RowKit Q

theorem val2 {xs : List Int} (h : xs.length ≤ 2) : val xs = wd xs 0 + 4294967296 * wd xs 1 := by
  match xs, h with
  | [], _ => rfl
  | [x], _ => simp [val, wd]
  | [x, y], _ => simp [val, wd]



theorem bitLen_step (x : Int) (h0 : 0 < x) (h1 : x < 4294967296) : Lib.bitLen x.toNat = 1 + Lib.bitLen (x / 2).toNat := by
  have := Lib.bitLen_half x.toNat (by omega) (by omega)
  rw [this]; congr 2; omega

set_option maxHeartbeats 400000 in
theorem rBits_calls (A : Option Addr) (c : Nat) (xs : List Int) (w : World) (h : In w A c xs) :
    Calls Tryz.prog 34 #[.slice A xs.length c] w fun e w' => e = .returned (.int .i64 (bl xs)) ∧ Below w.heap.size w w' := by
  have H := Q.hid h
  have HT : Hid ((trim xs).length = tl xs) := len_trim xs
  have hm : (trim xs).length * 4 ≤ 140737488351232 := h.trim.small
  have HW := Q.hid (h.trim.wds.wd ((trim xs).length - 1))
  have HD : Hid (wd (trim xs) (tl xs - 1) = wd xs (tl xs - 1)) := wd_trim _ _
  clear h
  go_enter Tryz.func34, Tryz.ntmps34
  go_wp2_with fail
  refine (rTrim_calls A c xs _ H.out).mono ?_
  rintro e w1 ⟨v, rfl, ho, hb⟩
  obtain ⟨A1, c1, e1, _, _, h3, _⟩ := ho.slice
  subst e1
  have HB := Q.hid hb
  have H3 := Q.hid h3
  clear h3 hb ho
  by_cases h0 : (trim xs).length = 0
  · have e1 : (((trim xs).length : Int) == 0) = true := beq_iff_eq.2 (by omega)
    have HF : Hid (bl xs = 0) := by unfold bl; rw [if_pos (by rw [← HT.out]; exact h0)]; rfl
    clear h0
    go_wp2
    go_ret
    exact ⟨by rw [HF.out]; rfl, HB.out⟩
  · have e1 : (((trim xs).length : Int) == 0) = false := beq_eq_false_iff_ne.2 (by omega)
    have HF : Hid (bl xs = 32 * (((trim xs).length : Int) - 1) + (Lib.bitLen (wd (trim xs) ((trim xs).length - 1)).toNat : Int)) := by
      unfold bl; rw [if_neg (by rw [← HT.out]; exact h0), HT.out, HD.out]; rfl
    have hp : 0 < (trim xs).length := by omega
    obtain ⟨ad, rfl, hx⟩ := H3.out ((trim xs).length - 1) (by omega)
    have hi : ((((trim xs).length : Int) - 1).toNat) = (trim xs).length - 1 := by omega
    have hwm : (trim xs).length - 1 ≤ 35184372088000 := by omega
    clear h0
    go_wp2
    go_loop [4, 5] (fun n x => ∃ N X : Int, n = .int .i64 N ∧ x = .int .u32 X ∧ 0 ≤ X ∧ X < 4294967296 ∧ 0 ≤ N ∧ Hid (N + (Lib.bitLen X.toNat : Int) = bl xs)) (fun _ x => (intOf x).toNat)
    case atStart => exact ⟨_, _, rfl, rfl, HW.out.1, HW.out.2, by omega, HF.out.symm⟩
    case round =>
      obtain ⟨N, X, rfl, rfl, h1, h2, h4, HN⟩ := hrel
      by_cases hp : 0 < X
      · have hb := bitLen_step X hp h2
        have HN2 : Hid (N + 1 + (Lib.bitLen (X / 2).toNat : Int) = bl xs) := by rw [← HN.out, hb]; simp only [Hid]; omega
        have hb32 := Lib.bitLen_le (X / 2).toNat 32 (by omega) (by omega)
        have hN : N ≤ 9000000000000000000 := by
          have := HF.out; have := HN.out; have := Lib.bitLen_le (wd (trim xs) ((trim xs).length - 1)).toNat 32 (by omega) (by have := HW.out; omega)
          omega
        clear hb hb32
        go_wp2
        go_round
        case rel => exact ⟨_, _, rfl, rfl, by omega, by omega, by omega, HN2⟩
        case measure => simp [intOf]; omega
      · have HN2 : Hid (N = bl xs) := by
          have hX : X = 0 := by omega
          have := HN.out; rw [hX] at this; show N = bl xs; simpa [Lib.bitLen, Lib.bitLenAux] using this
        go_wp2
        go_ret
        exact ⟨by rw [← HN2.out]; rfl, HB.out⟩
end Go.Proofs.YtgnmmifeojfjlaaGreatDoor
/- The reference of layer 1: sums, differences, products; what each call does. -/
set_option linter.unusedVariables false
set_option linter.unusedSimpArgs false
namespace Go.Proofs.YtgnmmifeojfjlaaGreatDoor
open Go Go.RowKit Q


set_option maxHeartbeats 400000 in
theorem rtold_calls (A : Option Addr) (c B : Nat) (zs : List Int) (v : Int) (w : World) (ho : Ow w 36 B (.slice A zs.length c) zs) (hm : zs.length ≤ 9223372036854775807) (hz : zs = nwd v) :
    Calls Tryz.prog 35 #[.slice A zs.length c] w fun e w' => (∃ u, e = .returned (.tuple #[u, .int .i64 (told v).2]) ∧ Ow w 36 B u (told v).1) ∧ w = w' := by
  have HO := Q.hid ho
  have HZ := Q.hid hz
  clear ho hz
  by_cases h1 : 8192 < zs.length
  · have HF : Hid (told v = ([], 3)) := by unfold told; rw [← HZ.out]; exact if_pos h1
    go_enter Tryz.func35, Tryz.ntmps35
    go_wp2
    go_ret2
    exact ⟨⟨.slice none 0 0, by rw [HF.out]; rfl, by rw [HF.out]; exact Ow.nil _ _ _⟩, rfl⟩
  · have HF : Hid (told v = (zs, 0)) := by unfold told; rw [← HZ.out]; exact if_neg h1
    go_enter Tryz.func35, Tryz.ntmps35
    go_wp2
    go_ret2
    exact ⟨⟨.slice A zs.length c, by rw [HF.out]; rfl, by rw [HF.out]; exact HO.out⟩, rfl⟩

theorem rword_quiet (A : Option Addr) (c : Nat) (xs : List Int) (i : Nat) (w : World) (n : Nat) (h : Rd w A xs) (hm : xs.length ≤ 9223372036854775807) :
    Calls Tryz.prog 55 #[.slice A xs.length c, .int .i64 i] (w.drewN n) fun e w' => e = .returned (.int .u32 (wd xs i)) ∧ ∃ m, w' = w.drewN m :=
  (rword_calls A c xs i (w.drewN n) (h.drewN n) hm).mono fun _ _ ⟨he, hw⟩ => ⟨he, n, hw.symm⟩


/-- the reference's answer, written as the program's -/
theorem nwd_inn {w : World} {e B : Nat} {v : Value} {x : Int} (h : Ow w e B v (nwd x)) (hs : (nwd x).length * 4 ≤ 140737488351232) : ∃ A c, v = .slice A (nwd x).length c ∧ In w A c (nwd x) := h.inn (nwd_wds x) hs


end Go.Proofs.YtgnmmifeojfjlaaGreatDoor
/- The reference of layer 1: differences, products; what each call does. -/
set_option linter.unusedVariables false
set_option linter.unusedSimpArgs false
namespace Go.Proofs.YtgnmmifeojfjlaaGreatDoor
open Go Go.RowKit Q

/-- the state of a difference in new memory -/
structure DifSt (w wr : World) (g N : Nat) (xs ys : List Int) (k : Nat) (c : Int) (zs : List Int) : Prop where
  own : Ow wr 36 w.heap.size (.slice (some ⟨g, 0, none⟩) N N) zs
  len : zs.length = N
  wds : Wds zs
  sum : val (zs.take k) - Bp k * c = val (xs.take k) - val (ys.take k)
  below : Below w.heap.size w wr
theorem DifSt.drewN {w wr : World} {g N : Nat} {xs ys : List Int} {k : Nat} {c : Int} {zs : List Int} (h : DifSt w wr g N xs ys k c zs) (m : Nat) : DifSt w (wr.drewN m) g N xs ys k c zs := ⟨h.own.drewN m, h.len, h.wds, h.sum, below_drewN h.below m⟩
theorem DifSt.step {w wr : World} {g N : Nat} {xs ys : List Int} {k : Nat} {c : Int} {zs : List Int} (h : DifSt w wr g N xs ys k c zs) (hk : k < N) (hg : w.heap.size ≤ g) (t : Int) (ht : t = wd xs k - c - wd ys k) (h0 : -4294967296 ≤ t) (h1 : t < 4294967296) (d c' : Int) (hd : d = t % 4294967296) (hc : c' = if t < 0 then 1 else 0) :
    DifSt w (wr.setCell ⟨g, k, none⟩ (.int .u32 d)) g N xs ys (k + 1) c' (zs.set k d) := by
  have e : c' = (t % 18446744073709551616) / 9223372036854775808 := by rw [hc]; split <;> omega
  subst hd
  rw [e]
  exact {
    own := h.own.store (by rw [h.len]; exact hk) _
    len := by rw [List.length_set]; exact h.len
    wds := h.wds.set _ (by omega) (by omega)
    sum := less_step (by rw [h.len]; exact hk) h.sum t ht h0 h1
    below := h.below.setCell hg _ }



theorem MulIn.drewN {w wr : World} {g N : Nat} {xs ys : List Int} {i k : Nat} {c : Int} {zs : List Int} (h : MulIn w wr g N xs ys i k c zs) (m : Nat) : MulIn w (wr.drewN m) g N xs ys i k c zs := ⟨h.own.drewN m, h.len, h.wds, h.zero, h.sum, below_drewN h.below m⟩



end Go.Proofs.YtgnmmifeojfjlaaGreatDoor
/- The reference of layer 1: quotients by a word, shifts. -/
set_option linter.unusedVariables false
set_option linter.unusedSimpArgs false
namespace Go.Proofs.YtgnmmifeojfjlaaGreatDoor
open Go Go.RowKit Q

set_option maxHeartbeats 1000000 in
set_option maxRecDepth 100000 in
theorem rsmall_calls (A : Option Addr) (c : Nat) (xs : List Int) (d : Int) (w : World) (hx : In w A c xs) (hl : xs.length ≤ 1000000) (hd0 : 0 < d) (hd1 : d < 4294967296) :
    Calls Tryz.prog 64 #[.slice A xs.length c, .int .u32 d] w fun e w' => ∃ v, e = .returned (.tuple #[v, .int .u32 (val xs % d)]) ∧ Ow w' 36 w.heap.size v (nwd (val xs / d)) ∧ Below w.heap.size w w' := by
  have H := Q.hid hx
  have HS : Hid (SmV xs d (List.replicate xs.length 0) xs.length 0) := SmV.start (by simp) (Wds.zeros _) hd0
  have HO : Hid (Ow (w.alloc (.cells (reps xs.length (.int .u32 0)) 36)) 36 w.heap.size (.slice (some ⟨w.heap.size, 0, none⟩) xs.length xs.length) (List.replicate xs.length 0)) := Ow.made w _ _ _ (Nat.le_refl _) (by simp only [maxLen]; omega)
  have HB : Hid (Below w.heap.size w (w.alloc (.cells (reps xs.length (.int .u32 0)) 36))) := (Below.refl _ _).alloc (Nat.le_refl _) _
  clear hx
  go_enter Tryz.func64, Tryz.ntmps64
  go_wp2_with (at_make; refine wp_mk rfl (.tmp 11) (.tmp 11) 22 36 rfl (.int .u32 0) 4 Tryz.underlying22 infoW rfl _ _ xs.length rfl rfl rfl rfl (by omega) (by simp only [maxLen]; omega) ?_)
  go_loopw [7, 8] (fun rv i wr => ∃ (k : Nat) (r : Int) (zs : List Int), k ≤ xs.length ∧ i = .int .i64 ((k : Int) - 1) ∧ rv = .int .u64 r ∧ 0 ≤ r ∧ r < d ∧ Hid (Ow wr 36 w.heap.size (.slice (some ⟨w.heap.size, 0, none⟩) xs.length xs.length) zs) ∧ Hid (SmV xs d zs k r) ∧ Hid (Below w.heap.size w wr)) (fun _ i _ => (intOf i + 1).toNat)
  case atStart => exact ⟨xs.length, 0, _, by omega, rfl, rfl, by omega, by omega, HO, HS, HB⟩
  case round =>
    clear HO HS HB
    obtain ⟨k, r, zs, hk, rfl, rfl, hr0, hr1, HO, HS, HB⟩ := hrel
    by_cases hk0 : 0 < k
    · obtain ⟨j, rfl⟩ : ∃ j, k = j + 1 := ⟨k - 1, by omega⟩
      have hj : j < xs.length := by omega
      have hkj : ((j + 1 : Nat) : Int) - 1 = (j : Int) := by omega
      obtain ⟨ad, rfl, hx⟩ := (H.out.rd.below HB.out) j hj
      have p1 : 0 ≤ wd xs j := (H.out.wds.wd j).1
      have p2 : wd xs j < 4294967296 := (H.out.wds.wd j).2
      have hcell := HO.out.cell (i := j) (by rw [HS.out.len]; omega)
      have hfree := HO.out.free j
      obtain ⟨t, ht⟩ : ∃ t : Int, t = r * 4294967296 + wd xs j := ⟨_, rfl⟩
      have ht0 : 0 ≤ t := by omega
      have hbn := HS.out.bnd H.out.wds
      have HS2 := Q.hid (HS.out.step hj H.out.wds)
      have m0 : 0 ≤ (r * 4294967296 + wd xs j) % d := Int.emod_nonneg _ (by omega)
      have m1 : (r * 4294967296 + wd xs j) % d < d := Int.emod_lt_of_pos _ hd0
      have q1 := hbn.1
      have q2 := hbn.2
      have HO2 : Hid (Ow (wr.setCell ⟨w.heap.size, j, none⟩ (.int .u32 ((r * 4294967296 + wd xs j) / d))) 36 w.heap.size (.slice (some ⟨w.heap.size, 0, none⟩) xs.length xs.length) (zs.set j ((r * 4294967296 + wd xs j) / d))) := HO.out.store (by rw [HS.out.len]; omega) _
      have HB2 : Hid (Below w.heap.size w (wr.setCell ⟨w.heap.size, j, none⟩ (.int .u32 ((r * 4294967296 + wd xs j) / d)))) := HB.out.setCell (Nat.le_refl _) _
      clear HO HS HB hbn ht
      rw [hkj]
      go_wp2
      go_roundw
      case rel => exact ⟨j, _, _, by omega, rfl, rfl, m0, m1, HO2, HS2, HB2⟩
      case measure => simp [intOf]
    · obtain rfl : k = 0 := by omega
      have HF : Hid (val zs = val xs / d ∧ r = val xs % d) := HS.out.fin
      have HLZ : Hid (zs.length = xs.length) := HS.out.len
      have HI : Hid (In wr (some ⟨w.heap.size, 0, none⟩) xs.length zs) := ⟨HO.out.read.2.2.2, by rw [HLZ.out]; exact Nat.le_refl _, by rw [HLZ.out]; omega, HS.out.wds⟩
      have HT : Hid (trim zs = nwd (val xs / d)) := nwd_trim HS.out.wds HF.out.1
      have h0k : ((0 : Nat) : Int) - 1 = -1 := rfl
      clear HO HS
      rw [h0k]
      go_wp2_with fail
      have HC := rTrim_calls (some ⟨w.heap.size, 0, none⟩) xs.length zs _ HI.out
      rw [HLZ.out, HT.out] at HC
      refine HC.mono ?_
      rintro e w2 ⟨v, rfl, ho, hb⟩
      go_wp2
      go_ret2
      exact ⟨v, by rw [← HF.out.2]; rfl, ho.mono HB.out.size, bs2 HB.out hb⟩

theorem Bp_two (m : Nat) : Bp m = 2 ^ (32 * m) := by
  unfold Bp
  rw [show (4294967296 : Int) = 2 ^ 32 by rfl, ← Int.pow_mul]
theorem two_parts (n : Nat) : (2 : Int) ^ n = 2 ^ (n % 32) * Bp (n / 32) := by
  rw [Bp_two, ← Int.pow_add]
  congr 1; omega

set_option maxHeartbeats 1000000 in
set_option maxRecDepth 100000 in
theorem rUp_calls (A : Option Addr) (c n : Nat) (xs : List Int) (w : World) (h : In w A c xs) (hl : xs.length ≤ 1000000) (hn : n ≤ 1000000) :
    Calls Tryz.prog 36 #[.slice A xs.length c, .int .i64 n] w fun e w' => ∃ v, e = .returned v ∧ Ow w' 36 w.heap.size v (nwd (val xs * 2 ^ n)) ∧ Below w.heap.size w w' := by
  have H := Q.hid h
  clear h
  by_cases h0 : xs.length = 0
  · have hb : ((xs.length : Int) == 0) = true := beq_iff_eq.2 (by omega)
    have HR : Hid (nwd (val xs * 2 ^ n) = []) := by
      rw [List.eq_nil_of_length_eq_zero h0]; show nwd (0 * 2 ^ n) = []; rw [Int.zero_mul]; exact nwd_zero
    clear h0
    go_enter Tryz.func36, Tryz.ntmps36
    go_wp2
    go_ret
    exact ⟨_, rfl, by rw [HR.out]; exact Ow.nil _ _ _, Below.refl _ _⟩
  · have hb : ((xs.length : Int) == 0) = false := beq_eq_false_iff_ne.2 (by omega)
    obtain ⟨m, hm⟩ : ∃ m : Nat, m = n / 32 := ⟨_, rfl⟩
    obtain ⟨s, hs⟩ : ∃ s : Nat, s = n % 32 := ⟨_, rfl⟩
    have hs32 : s < 32 := by omega
    have hq1 : (n : Int) / 32 = (m : Int) := by omega
    have hq2 : (n : Int).tdiv 32 = (m : Int) := by rw [tdiv_of_nonneg (by omega)]; omega
    have hq3 : (n : Int) % 32 = (s : Int) := by omega
    have hq4 : (n : Int).tmod 32 = (s : Int) := by rw [tmod_of_nonneg (by omega)]; omega
    have hm0 : m ≤ 1000000 := by omega
    have HV : Hid ((2 : Int) ^ n = 2 ^ s * Bp m) := by rw [hs, hm]; exact two_parts n
    have HS : Hid (UpV xs s m (List.replicate (xs.length + m + 1) 0) 0) := UpV.start xs s m
    obtain ⟨N, hN⟩ : ∃ N : Nat, N = xs.length + m + 1 := ⟨_, rfl⟩
    have hNi : (xs.length : Int) + (m : Int) + 1 = (N : Int) := by omega
    have HN := Q.hid hN
    have hN1 : N ≤ 2000001 := by omega
    rw [← hN] at HS
    have HO : Hid (Ow (w.alloc (.cells (reps N (.int .u32 0)) 36)) 36 w.heap.size (.slice (some ⟨w.heap.size, 0, none⟩) N N) (List.replicate N 0)) := Ow.made w _ _ _ (Nat.le_refl _) (by simp only [maxLen]; omega)
    have HB : Hid (Below w.heap.size w (w.alloc (.cells (reps N (.int .u32 0)) 36))) := (Below.refl _ _).alloc (Nat.le_refl _) _
    clear h0 hm hs hN
    go_enter Tryz.func36, Tryz.ntmps36
    go_wp2_with (at_make; refine wp_mk rfl (.tmp 16) (.tmp 16) 22 36 rfl (.int .u32 0) 4 Tryz.underlying22 infoW rfl _ _ N rfl rfl (by omega) (by omega) (by omega) (by simp only [maxLen]; omega) ?_)
    go_loopw [6] (fun i wr => ∃ (k : Nat) (zs : List Int), k ≤ xs.length ∧ i = .int .i64 k ∧ Hid (UpV xs s m zs k) ∧ Hid (Ow wr 36 w.heap.size (.slice (some ⟨w.heap.size, 0, none⟩) N N) zs) ∧ Hid (Below w.heap.size w wr)) (fun i _ => xs.length - (intOf i).toNat)
    case atStart => exact ⟨0, _, by omega, rfl, HS, HO, HB⟩
    case round =>
      clear HS HO HB
      obtain ⟨k, zs, hk, rfl, HS, HO, HB⟩ := hrel
      by_cases hlt : k < xs.length
      · obtain ⟨ad, rfl, hx⟩ := (H.out.rd.below HB.out) k hlt
        have p1 : 0 ≤ wd xs k := (H.out.wds.wd k).1
        have p2 : wd xs k < 4294967296 := (H.out.wds.wd k).2
        have hzl : zs.length = N := by rw [HS.out.len, HN.out]
        have hkm : k + m + 1 < N := by rw [HN.out]; omega
        have hcell := HO.out.cell (i := k + m) (by omega)
        have hfree := HO.out.free (k + m)
        obtain ⟨a0, a1, a2, a3, a4, a5, a6⟩ := up_parts hs32 p1 p2
        have z0 := (HS.out.wds.wd (k + m)).1
        have z1 : wd zs (k + m) < 2 ^ s := HS.out.low
        have HS2 := Q.hid (HS.out.step hs32 H.out.wds hlt)
        generalize ht : wd xs k * 2 ^ s = t at *
        have b0 : 0 ≤ wd zs (k + m) + t % 4294967296 := by omega
        have b1 : wd zs (k + m) + t % 4294967296 < 4294967296 := by omega
        have b2 : t / 4294967296 < 4294967296 := by omega
        have hwr : IntKind.u64.wrap t = t := by rw [IntKind.wrap_u64]; omega
        obtain ⟨y, hy⟩ : ∃ y : Int, y = wd zs (k + m) + t % 4294967296 := ⟨_, rfl⟩
        rw [← hy] at HS2
        have hys : wd zs (k + m) + t % 4294967296 = y := hy.symm
        have HO2 := HO.out.store (i := k + m) (by omega) y
        have HO3 : Hid (Ow ((wr.setCell ⟨w.heap.size, k + m, none⟩ (.int .u32 y)).setCell ⟨w.heap.size, k + m + 1, none⟩ (.int .u32 (t / 4294967296))) 36 w.heap.size (.slice (some ⟨w.heap.size, 0, none⟩) N N) ((zs.set (k + m) y).set (k + m + 1) (t / 4294967296))) := HO2.store (by simp; omega) _
        have hcell2 := HO2.cell (i := k + m + 1) (by simp; omega)
        have hfree2 := HO2.free (k + m + 1)
        have HB2 : Hid (Below w.heap.size w ((wr.setCell ⟨w.heap.size, k + m, none⟩ (.int .u32 y)).setCell ⟨w.heap.size, k + m + 1, none⟩ (.int .u32 (t / 4294967296)))) := (HB.out.setCell (Nat.le_refl _) _).setCell (Nat.le_refl _) _
        have n1 : ((k : Int) + (m : Int)).toNat = k + m := by omega
        have n2 : ((k : Int) + (m : Int) + 1).toNat = k + m + 1 := by omega
        clear HO2 HS HO HB z0 z1 hzl hy a6 a5 a4 a3
        go_wp2
        go_roundw
        case rel => exact ⟨k + 1, _, by omega, by go_num, HS2, HO3, HB2⟩
        case measure => simp [intOf]; omega
      · obtain rfl : k = xs.length := by omega
        have HZL : Hid (zs.length = N) := by show zs.length = N; rw [HS.out.len, HN.out]
        have HI : Hid (In wr (some ⟨w.heap.size, 0, none⟩) N zs) := ⟨HO.out.read.2.2.2, by rw [HZL.out]; exact Nat.le_refl _, by rw [HZL.out]; omega, HS.out.wds⟩
        have HT : Hid (trim zs = nwd (val xs * 2 ^ n)) := by rw [HV.out]; exact nwd_trim HS.out.wds HS.out.fin
        clear HO HS
        go_wp2_with fail
        have HC := rTrim_calls (some ⟨w.heap.size, 0, none⟩) N zs _ HI.out
        rw [HZL.out, HT.out] at HC
        refine HC.mono ?_
        rintro e w2 ⟨v, rfl, ho, hb⟩
        go_wp2
        go_ret
        exact ⟨v, rfl, ho.mono HB.out.size, bs2 HB.out hb⟩

theorem add_add (a : Addr) (m i : Nat) : (a.add m).add i = a.add (m + i) := by
  rcases Nat.eq_zero_or_pos i with h | h
  · subst h; rw [add_zero', Nat.add_zero]
  · rcases Nat.eq_zero_or_pos m with h2 | h2
    · subst h2; rw [add_zero', Nat.zero_add]
    · rw [add_pos' _ i h, add_pos' a m h2, add_pos' a (m + i) (by omega), Nat.add_assoc]
theorem in_drop {w : World} {a : Addr} {c : Nat} {xs : List Int} (h : In w (some a) c xs) (m : Nat) : In w (some (a.add m)) (c - m) (xs.drop m) :=
  ⟨fun i hi => by
    rw [List.length_drop] at hi
    obtain ⟨ad, e, hc⟩ := h.rd (m + i) (by omega)
    cases e
    exact ⟨_, rfl, by rw [add_add, wd_drop]; exact hc⟩, by rw [List.length_drop]; have := h.cap; omega, by rw [List.length_drop]; have := h.small; omega, h.wds.drop m⟩
theorem shift_down (xs : List Int) (hx : Wds xs) (n : Nat) : val xs / 2 ^ n = val (xs.drop (n / 32)) / 2 ^ (n % 32) := by
  have e : val xs / Bp (n / 32) / 2 ^ (n % 32) = val xs / (Bp (n / 32) * 2 ^ (n % 32)) := by
    rw [Int.ediv_ediv, if_neg (fun h => by have := Bp_pos (n / 32); omega), Int.sub_zero]
  rw [two_parts, Int.mul_comm, ← e]
  congr 1
  have h := val_split xs (n / 32)
  have h0 := val_nonneg (hx.take (n / 32))
  have h1 := val_take_lt hx (n / 32)
  exact ((div_unique (x := val xs) (d := Bp (n / 32)) (q := val (xs.drop (n / 32))) (r := val (xs.take (n / 32))) (by omega) h0 h1).1).symm

set_option maxHeartbeats 1000000 in
set_option maxRecDepth 100000 in
theorem rDown_calls (A : Option Addr) (c n : Nat) (xs : List Int) (w : World) (h : In w A c xs) (hl : xs.length ≤ 1000000) (hn : n ≤ 1000000) :
    Calls Tryz.prog 33 #[.slice A xs.length c, .int .i64 n] w fun e w' => ∃ v, e = .returned v ∧ Ow w' 36 w.heap.size v (nwd (val xs / 2 ^ n)) ∧ Below w.heap.size w w' := by
  have H := Q.hid h
  obtain ⟨m, hm⟩ : ∃ m : Nat, m = n / 32 := ⟨_, rfl⟩
  obtain ⟨s, hs⟩ : ∃ s : Nat, s = n % 32 := ⟨_, rfl⟩
  have hs32 : s < 32 := by omega
  have hq1 : (n : Int) / 32 = (m : Int) := by omega
  have hq2 : (n : Int).tdiv 32 = (m : Int) := by rw [tdiv_of_nonneg (by omega)]; omega
  have hq3 : (n : Int) % 32 = (s : Int) := by omega
  have hq4 : (n : Int).tmod 32 = (s : Int) := by rw [tmod_of_nonneg (by omega)]; omega
  have HV : Hid (val xs / 2 ^ n = val (xs.drop m) / 2 ^ s) := by rw [hs, hm]; exact shift_down xs h.wds n
  by_cases h0 : xs.length ≤ m
  · have HR : Hid (nwd (val xs / 2 ^ n) = []) := by
      rw [HV.out, List.drop_of_length_le h0]; show nwd (0 / 2 ^ s) = []; rw [Int.zero_ediv]; exact nwd_zero
    have hb : decide (m ≥ xs.length) = true := decide_eq_true h0
    clear hm hs h
    go_enter Tryz.func33, Tryz.ntmps33
    go_wp2
    go_ret
    exact ⟨_, rfl, by rw [HR.out]; exact Ow.nil _ _ _, Below.refl _ _⟩
  · have hb : decide (m ≥ xs.length) = false := decide_eq_false h0
    have hmx : m < xs.length := by omega
    obtain ⟨ad, rfl, _⟩ := h.rd m hmx
    have hcap : xs.length ≤ c := h.cap
    obtain ⟨ys, hys⟩ : ∃ ys, ys = xs.drop m := ⟨_, rfl⟩
    have HI : Hid (In w (some (ad.add m)) (c - m) ys) := by rw [hys]; exact in_drop h m
    have hyl : xs.length - m = ys.length := by rw [hys, List.length_drop]
    rw [← hys] at HV
    have HS : Hid (DnV ys s (List.replicate ys.length 0) 0) := DnV.start s (by simp) (Wds.zeros _)
    have hyl2 : ys.length ≤ 1000000 := by omega
    have hyp : 0 < ys.length := by omega
    have HO : Hid (Ow (w.alloc (.cells (reps ys.length (.int .u32 0)) 36)) 36 w.heap.size (.slice (some ⟨w.heap.size, 0, none⟩) ys.length ys.length) (List.replicate ys.length 0)) := Ow.made w _ _ _ (Nat.le_refl _) (by simp only [maxLen]; omega)
    have HB : Hid (Below w.heap.size w (w.alloc (.cells (reps ys.length (.int .u32 0)) 36))) := (Below.refl _ _).alloc (Nat.le_refl _) _
    clear hm hs h h0 hys
    go_enter Tryz.func33, Tryz.ntmps33
    go_wp2_with (at_make; refine wp_mk rfl (.tmp 19) (.tmp 19) 22 36 rfl (.int .u32 0) 4 Tryz.underlying22 infoW rfl _ _ ys.length rfl rfl rfl rfl (by omega) (by simp only [maxLen]; omega) ?_)
    go_loopw [7] (fun i wr => ∃ (k : Nat) (zs : List Int), k ≤ ys.length ∧ i = .int .i64 k ∧ Hid (DnV ys s zs k) ∧ Hid (Ow wr 36 w.heap.size (.slice (some ⟨w.heap.size, 0, none⟩) ys.length ys.length) zs) ∧ Hid (Below w.heap.size w wr)) (fun i _ => ys.length - (intOf i).toNat)
    case atStart => exact ⟨0, _, by omega, rfl, HS, HO, HB⟩
    case round =>
      clear HS HO HB
      obtain ⟨k, zs, hk, rfl, HS, HO, HB⟩ := hrel
      by_cases hlt : k < ys.length
      · obtain ⟨ad2, e2, hx⟩ := (HI.out.rd.below HB.out) k hlt
        cases e2
        have p1 : 0 ≤ wd ys k := (HI.out.wds.wd k).1
        have p2 : wd ys k < 4294967296 := (HI.out.wds.wd k).2
        have p3 : 0 ≤ wd ys (k + 1) := (HI.out.wds.wd (k + 1)).1
        have p4 : wd ys (k + 1) < 4294967296 := (HI.out.wds.wd (k + 1)).2
        have hcell := HO.out.cell (i := k) (by rw [HS.out.len]; exact hlt)
        have hfree := HO.out.free k
        have hdn := dn_parts hs32 p1 p2 p3 p4
        have HS2 := Q.hid (HS.out.step hs32 HI.out.wds hlt)
        obtain ⟨t, ht⟩ : ∃ t : Int, t = wd ys (k + 1) * 4294967296 + wd ys k := ⟨_, rfl⟩
        have ht2 : wd ys k + wd ys (k + 1) * 4294967296 = t := by omega
        rw [ht2] at hdn HS2
        have hts : IntKind.u64.wrap (wd ys (k + 1) * 4294967296 + wd ys k) = t := by rw [IntKind.wrap_u64]; omega
        have t0 : 0 ≤ t := by omega
        have t1 : t < 18446744073709551616 := by omega
        have q0 : 0 ≤ t / 2 ^ s := hdn.1
        have HO2 : Hid (∀ q, Ow ((wr.drewN q).setCell ⟨w.heap.size, k, none⟩ (.int .u32 (t / 2 ^ s % 4294967296))) 36 w.heap.size (.slice (some ⟨w.heap.size, 0, none⟩) ys.length ys.length) (zs.set k (t / 2 ^ s % 4294967296))) := fun q => (HO.out.drewN q).store (by rw [HS.out.len]; exact hlt) _
        have HB2 : Hid (∀ q, Below w.heap.size w ((wr.drewN q).setCell ⟨w.heap.size, k, none⟩ (.int .u32 (t / 2 ^ s % 4294967296)))) := fun q => (below_drewN HB.out q).setCell (Nat.le_refl _) _
        have R := Q.hid (HI.out.rd.below HB.out)
        have k1 : IntKind.i64.wrap ((k : Int) + 1) = ((k + 1 : Nat) : Int) := by rw [IntKind.wrap_i64]; omega
        clear HS HO HB hdn ht2
        go_wp2
        go_quiet ((go_at_call 55; exact rword_quiet (some (ad.add m)) (c - m) ys (k + 1) wr _ R.out (by omega)))
        rw [← ht]
        clear ht hts
        go_wp2
        go_roundw
        case rel => exact ⟨k + 1, _, by omega, by go_num, HS2, HO2.out _, HB2.out _⟩
        case measure => simp [intOf]; omega
      · obtain rfl : k = ys.length := by omega
        have HZL : Hid (zs.length = ys.length) := HS.out.len
        have HI : Hid (In wr (some ⟨w.heap.size, 0, none⟩) ys.length zs) := ⟨HO.out.read.2.2.2, by rw [HZL.out]; exact Nat.le_refl _, by rw [HZL.out]; omega, HS.out.wds⟩
        have HT : Hid (trim zs = nwd (val xs / 2 ^ n)) := by rw [HV.out]; exact nwd_trim HS.out.wds HS.out.fin
        clear HO HS
        go_wp2_with fail
        have HC := rTrim_calls (some ⟨w.heap.size, 0, none⟩) ys.length zs _ HI.out
        rw [HZL.out, HT.out] at HC
        refine HC.mono ?_
        rintro e w2 ⟨v, rfl, ho, hb⟩
        go_wp2
        go_ret
        exact ⟨v, rfl, ho.mono HB.out.size, bs2 HB.out hb⟩
end Go.Proofs.YtgnmmifeojfjlaaGreatDoor
