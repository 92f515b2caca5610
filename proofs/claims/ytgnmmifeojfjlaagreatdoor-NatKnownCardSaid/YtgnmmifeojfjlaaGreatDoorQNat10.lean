/- Package nat: shifts; what the call does. -/
import Derived.Test.YtgnmmifeojfjlaaGreatDoorQNat9
import Derived.IntWalk
set_option linter.unusedVariables false
set_option linter.unusedSimpArgs false
namespace Q
open Go Go.RowKit
section
variable {P : Program} {w : World} {ops : Array Oper} {rest : List Oper} {o : Oper} {a : Act} {Q : Exit → Act → World → Prop}
/-- make([]T, m, n) in the walk, T of one cell -/
theorem wp_mk2 (hg : o.guard = none) (l c : Operand) (t e : TypeId) (hop : o.op = Op.makeSlice t l c)
    (z : Value) (bytes : Nat) (h1 : P.underlying t = some (.slice e)) (hinfo : (P.info? e).map (fun i => (i.zero, i.size, i.bytes)) = some (some z, 1, bytes)) (hz : z.cells = #[z])
    (L C : Int) (m n : Nat) (hl : a.eval l = .int .i64 L) (hc : a.eval c = .int .i64 C) (hL : L = (m : Int)) (hC : C = (n : Int)) (hmn : m ≤ n) (b2 : bytes * n ≤ 281474976710656) (b3 : n ≤ maxLen)
    (hK : wpList P ops Q rest (a.put o.dst (.slice (some ⟨w.heap.size, 0, none⟩) m n)) (w.alloc (.cells (reps n z) e))) :
    wpList P ops Q (o :: rest) a w := by
  obtain ⟨i, hi, hz', hsize, hby⟩ := info_parts hinfo
  subst hL hC
  have hb : (i.bytes : Int) * (n : Int) ≤ 281474976710656 := by
    have h : ((i.bytes * n : Nat) : Int) ≤ 281474976710656 := by rw [hby]; omega
    rwa [Int.natCast_mul] at h
  have hrun := run_make (P := P) w t e i z h1 hi hz' .i64 .i64 (m : Int) (n : Int) (by omega) (by omega) hb (by simp only [maxLen] at b3; omega)
  simp only [Int.toNat_natCast, hsize, Nat.mul_one, made_rep z n hz] at hrun
  refine wpList_plain hg fun K hK' => ?_
  unfold Oper.wp
  simp [execOp, hop, hl, hc, hrun, Result.andThen]
  exact hK' _ _ hK
end
theorem Ow.made2 (w : World) (e B m n : Nat) (hB : B ≤ w.heap.size) (hmn : m ≤ n) (hm : n ≤ maxLen) : Ow (w.alloc (.cells (reps n (.int .u32 0)) e)) e B (.slice (some ⟨w.heap.size, 0, none⟩) m n) (List.replicate m 0) := by
  have := (Ow.made w e B n hB hm).cut (m := m) (by simpa using hmn)
  rwa [List.take_replicate, Nat.min_eq_left hmn] at this
end Q
namespace Go.Proofs.YtgnmmifeojfjlaaGreatDoor
open Go Go.RowKit Q

theorem Bp_two' (m : Nat) : Bp m = 2 ^ (32 * m) := by
  unfold Bp
  rw [show (4294967296 : Int) = 2 ^ 32 by rfl, ← Int.pow_mul]
theorem two_parts' (n : Nat) : (2 : Int) ^ n = 2 ^ (n % 32) * Bp (n / 32) := by
  rw [Bp_two', ← Int.pow_add]
  congr 1; omega
theorem shift_down' (xs : List Int) (hx : Wds xs) (n : Nat) : val xs / 2 ^ n = val (xs.drop (n / 32)) / 2 ^ (n % 32) := by
  have e : val xs / Bp (n / 32) / 2 ^ (n % 32) = val xs / (Bp (n / 32) * 2 ^ (n % 32)) := by
    rw [Int.ediv_ediv, if_neg (fun h => by have := Bp_pos (n / 32); omega), Int.sub_zero]
  rw [two_parts', Int.mul_comm, ← e]
  congr 1
  have h := val_split xs (n / 32)
  have h0 := val_nonneg (hx.take (n / 32))
  have h1 := val_take_lt hx (n / 32)
  exact ((div_unique (x := val xs) (d := Bp (n / 32)) (q := val (xs.drop (n / 32))) (r := val (xs.take (n / 32))) (by omega) h0 h1).1).symm
theorem add_add' (a : Addr) (m i : Nat) : (a.add m).add i = a.add (m + i) := by
  rcases Nat.eq_zero_or_pos i with h | h
  · subst h; rw [add_zero', Nat.add_zero]
  · rcases Nat.eq_zero_or_pos m with h2 | h2
    · subst h2; rw [add_zero', Nat.zero_add]
    · rw [add_pos' _ i h, add_pos' a m h2, add_pos' a (m + i) (by omega), Nat.add_assoc]
theorem in_drop' {w : World} {a : Addr} {c : Nat} {xs : List Int} (h : In w (some a) c xs) (m : Nat) : In w (some (a.add m)) (c - m) (xs.drop m) :=
  ⟨fun i hi => by
    rw [List.length_drop] at hi
    obtain ⟨ad, e, hc⟩ := h.rd (m + i) (by omega)
    cases e
    exact ⟨_, rfl, by rw [add_add', wd_drop]; exact hc⟩, by rw [List.length_drop]; have := h.cap; omega, by rw [List.length_drop]; have := h.small; omega, h.wds.drop m⟩
/-- how many bits: what they bound -/
theorem bl_lt {xs : List Int} (hx : Wds xs) (ht : Tr xs) (hn : xs ≠ []) : ∃ b : Nat, bl xs = b ∧ val xs < 2 ^ b ∧ 0 < b ∧ 2 ^ (b - 1) ≤ val xs := by
  have hl := List.length_pos_iff.2 hn
  have htop : wd xs (xs.length - 1) ≠ 0 := by
    rcases (Tr_iff xs).1 ht with h | h
    · exact absurd h hn
    · exact h
  obtain ⟨t, htt⟩ : ∃ t : Nat, wd xs (xs.length - 1) = t := ⟨(wd xs (xs.length - 1)).toNat, by have := (hx.wd (xs.length - 1)).1; omega⟩
  have h32 := (hx.wd (xs.length - 1)).2
  obtain ⟨a, b, c⟩ := bits_bnd 64 t (by omega) (by omega)
  have e : Lib.bitLenAux 64 t = Lib.bitLen t := rfl
  rw [e] at a b c
  refine ⟨32 * (xs.length - 1) + Lib.bitLen t, ?_, ?_, by omega, ?_⟩
  · unfold bl
    rw [show tl xs = xs.length from ht, if_neg (by omega), htt, Int.toNat_natCast]
    omega
  · have h1 := val_top rfl hl
    have h2 := val_take_lt hx (xs.length - 1)
    rw [htt] at h1
    rw [Int.pow_add, ← Bp_two']
    have h3 : ((t + 1 : Nat) : Int) ≤ ((2 ^ Lib.bitLen t : Nat) : Int) := by exact_mod_cast c
    rw [Int.natCast_pow] at h3
    have h4 : Bp (xs.length - 1) * ((t + 1 : Nat) : Int) ≤ Bp (xs.length - 1) * ((2 : Nat) : Int) ^ Lib.bitLen t := Int.mul_le_mul_of_nonneg_left h3 (Int.le_of_lt (Bp_pos _))
    rw [show ((t + 1 : Nat) : Int) = (t : Int) + 1 by omega, Int.mul_add, Int.mul_one] at h4
    have h5 : ((2 : Nat) : Int) = 2 := rfl
    rw [h5] at h4
    omega
  · have h1 := val_top rfl hl
    have h2 := val_nonneg (hx.take (xs.length - 1))
    rw [htt] at h1
    rw [show 32 * (xs.length - 1) + Lib.bitLen t - 1 = 32 * (xs.length - 1) + (Lib.bitLen t - 1) by omega, Int.pow_add, ← Bp_two']
    have h3 : ((2 ^ (Lib.bitLen t - 1) : Nat) : Int) ≤ (t : Int) := by exact_mod_cast b
    rw [Int.natCast_pow] at h3
    have h4 : Bp (xs.length - 1) * ((2 : Nat) : Int) ^ (Lib.bitLen t - 1) ≤ Bp (xs.length - 1) * (t : Int) := Int.mul_le_mul_of_nonneg_left h3 (Int.le_of_lt (Bp_pos _))
    have h5 : ((2 : Nat) : Int) = 2 := rfl
    rw [h5] at h4
    omega
theorem bl_bound (xs : List Int) (hx : Wds xs) : bl xs ≤ 32 * (xs.length : Int) + 64 := by
  unfold bl
  have h1 := tl_le xs
  have h3 := hx.wd (tl xs - 1)
  have h2 : Lib.bitLen (wd xs (tl xs - 1)).toNat ≤ 32 := Lib.bitLen_le _ 32 (by omega) (by omega)
  split <;> omega
theorem bl_nonneg (xs : List Int) : 0 ≤ bl xs := by
  unfold bl
  split <;> omega
/-- what is answered: a number shifted -/
noncomputable def shS (xs : List Int) (n : Int) : List Int × Int :=
  if chk xs = 0 then (if n < -262144 ∨ 262144 < n then ([], 2) else if n < 0 then (nwd (val xs / 2 ^ (-n).toNat), 0) else if xs = [] then ([], 0) else if 262144 < bl xs + n then ([], 3) else (nwd (val xs * 2 ^ n.toNat), 0)) else ([], chk xs)
theorem sh_len {xs : List Int} {k : Nat} (hx : Wds xs) (ht : Tr xs) (hn : xs ≠ []) (h : bl xs + (k : Int) ≤ 262144) : (nwd (val xs * 2 ^ k)).length ≤ 8192 := by
  obtain ⟨b, e, h1, _, _⟩ := bl_lt hx ht hn
  have hp : (0 : Int) < 2 ^ k := Int.pow_pos (by omega)
  have key : ∀ E : Nat, b + k ≤ E → val xs * 2 ^ k < 2 ^ E := by
    intro E hE
    have h2 : val xs * 2 ^ k < 2 ^ b * 2 ^ k := Int.mul_lt_mul_of_pos_right h1 hp
    rw [← Int.pow_add] at h2
    have h3 : (2 : Nat) ^ (b + k) ≤ 2 ^ E := Nat.pow_le_pow_right (by omega) hE
    have h4 : ((2 ^ (b + k) : Nat) : Int) ≤ ((2 ^ E : Nat) : Int) := Int.ofNat_le.2 h3
    rw [Int.natCast_pow, Int.natCast_pow] at h4
    exact Int.lt_of_lt_of_le h2 h4
  refine nwd_len_le ?_ (Int.mul_nonneg (val_nonneg hx) (by omega))
  rw [Bp_two']
  exact key _ (by omega)

set_option maxHeartbeats 4000000 in
set_option maxRecDepth 100000 in
theorem Shift_calls (A : Option Addr) (c : Nat) (xs : List Int) (n : Int) (w : World) (h : In w A c xs) (hn0 : -9223372036854775808 ≤ n) (hn1 : n ≤ 9223372036854775807) :
    Calls Tryz.prog 7 #[.slice A xs.length c, .int .i64 n] w fun e w' => ∃ v, e = .returned (.tuple #[v, .int .i64 (shS xs n).2]) ∧ Ow w' 36 w.heap.size v (shS xs n).1 ∧ Below w.heap.size w w' := by
  have H := Q.hid h
  by_cases h0 : chk xs = 0
  · have hb : (chk xs != 0) = false := by simp [h0]
    have hc8 := chk_zero.1 h0
    by_cases hfar : n < -262144 ∨ 262144 < n
    · have HF : Hid (shS xs n = ([], 2)) := by unfold shS; rw [if_pos h0, if_pos hfar]; rfl
      rcases (by omega : n < -262144 ∨ (¬ n < -262144 ∧ 262144 < n)) with hf | ⟨hf, hf2⟩
      · have d1 : decide (n < -262144) = true := decide_eq_true hf
        clear h0 hc8 hfar h
        go_enter Tryz.func7, Tryz.ntmps7
        go_wp2_with fail
        refine (Check_calls A c xs _ H.out).mono ?_
        rintro e w1 ⟨rfl, rfl⟩
        go_wp2
        go_ret2
        exact ⟨_, by rw [HF.out]; rfl, by rw [HF.out]; exact Ow.nil _ _ _, Below.refl _ _⟩
      · have d1 : decide (n < -262144) = false := decide_eq_false hf
        have d2 : decide (262144 < n) = true := decide_eq_true hf2
        clear h0 hc8 hfar h
        go_enter Tryz.func7, Tryz.ntmps7
        go_wp2_with fail
        refine (Check_calls A c xs _ H.out).mono ?_
        rintro e w1 ⟨rfl, rfl⟩
        go_wp2
        go_ret2
        exact ⟨_, by rw [HF.out]; rfl, by rw [HF.out]; exact Ow.nil _ _ _, Below.refl _ _⟩
    · have d1 : decide (n < -262144) = false := decide_eq_false (by omega)
      have d2 : decide (262144 < n) = false := decide_eq_false (by omega)
      have hT : Tr xs := by
        unfold chk at h0
        by_cases h3 : xs.length > 8192
        · rw [if_pos h3] at h0; omega
        · rw [if_neg h3] at h0
          by_cases h4 : tl xs = xs.length
          · exact h4
          · rw [if_neg h4] at h0; omega
      by_cases hneg : n < 0
      · obtain ⟨m, rfl⟩ : ∃ m : Nat, n = -(m : Int) := ⟨(-n).toNat, by omega⟩
        have d3 : decide (-(m : Int) < 0) = true := decide_eq_true hneg
        have d5 : decide (262144 < (m : Int)) = false := decide_eq_false (by omega)
        have hm9 : m ≤ 262144 := by omega
        have E1 : IntKind.i64.wrap (-(-(m : Int))) = (m : Int) := by rw [Int.neg_neg]; exact IntWalk.i64_in _ (by omega)
        have E2 : IntKind.i64.wrap (Int.tdiv (m : Int) 32) = ((m / 32 : Nat) : Int) := by
          rw [Int.tdiv_eq_ediv_of_nonneg (by omega), show (m : Int) / 32 = ((m / 32 : Nat) : Int) by omega]; exact IntWalk.i64_in _ (by omega)
        have E3 : Int.tmod (m : Int) 32 = ((m % 32 : Nat) : Int) := by rw [Int.tmod_eq_emod_of_nonneg (by omega)]; omega
        have E4 : IntKind.u64.wrap ((m % 32 : Nat) : Int) = ((m % 32 : Nat) : Int) := IntWalk.u64_in _ (by omega)
        have HF : Hid (shS xs (-(m : Int)) = (nwd (val xs / 2 ^ m), 0)) := by
          unfold shS; rw [if_pos h0, if_neg hfar, if_pos hneg, Int.neg_neg, Int.toNat_natCast]; rfl
        by_cases hw : xs.length ≤ m / 32
        · have d4 : decide ((xs.length : Int) ≤ (m : Int) / 32) = true := decide_eq_true (by omega)
          have hz : nwd (val xs / 2 ^ m) = [] := by
            rw [shift_down' xs h.wds m, List.drop_of_length_le hw]
            simp [val, nwd_zero]
          have HZ := Q.hid hz
          clear h0 hc8 hfar h hz hT
          go_enter Tryz.func7, Tryz.ntmps7
          go_wp2_with fail
          refine (Check_calls A c xs _ H.out).mono ?_
          rintro e w1 ⟨rfl, rfl⟩
          go_wp2
          go_ret2
          exact ⟨_, by rw [HF.out]; rfl, by rw [HF.out, HZ.out]; exact Ow.nil _ _ _, Below.refl _ _⟩
        · have d4 : decide ((xs.length : Int) ≤ (m : Int) / 32) = false := decide_eq_false (by omega)
          cases A with
          | none =>
            have : xs = [] := by
              cases xs with
              | nil => rfl
              | cons x xs => obtain ⟨ad, e, _⟩ := h.rd 0 (by simp); cases e
            subst this
            simp at hw
          | some a =>
            have HD := Q.hid (in_drop' h (m / 32))
            have hl : (xs.drop (m / 32)).length = xs.length - m / 32 := List.length_drop
            have HL := Q.hid hl
            have hcm : m / 32 < c := by have := h.cap; omega
            have hcn : (c = m / 32) = False := eq_false (by omega)
            have HV := Q.hid (shift_down' xs h.wds m)
            clear h0 hfar hT hl h
            go_enter Tryz.func7, Tryz.ntmps7
            go_wp2_with fail
            refine (Check_calls (some a) c xs _ H.out).mono ?_
            rintro e w1 ⟨rfl, rfl⟩
            go_wp2_with fail
            have HC := Clone_calls (some (a.add (m / 32))) (c - m / 32) (xs.drop (m / 32)) w HD.out
            rw [HL.out] at HC
            refine HC.mono ?_
            rintro e w1 ⟨v, rfl, ho, hB⟩
            obtain ⟨A2, c2, e2, hc2, _, hrd2, _⟩ := ho.slice
            subst e2
            have HI := Q.hid (show In w1 A2 c2 (xs.drop (m / 32)) from ⟨hrd2, hc2, HD.out.small, HD.out.wds⟩)
            have HO := Q.hid ho
            have HB := Q.hid hB
            clear ho hB hrd2 HC
            go_wp2_with fail
            have HN := down_calls A2 c2 w.heap.size (m % 32) (xs.drop (m / 32)) w1 HO.out HI.out (by omega)
            rw [HL.out, show ((m % 32 : Nat) : Int) = (m : Int) % 32 by omega, ← HV.out] at HN
            refine HN.mono ?_
            rintro e w2 ⟨v, rfl, ho, hv, hg⟩
            have HB2 := Q.hid (below_grown HB.out hg (fun k hk => (HO.out.base k (by rw [HL.out]; exact hk)).1))
            have HO2 := Q.hid ho
            clear HN ho hg
            go_wp2
            go_ret2
            exact ⟨v, by rw [HF.out]; rfl, by rw [HF.out]; exact HO2.out, HB2.out⟩
      · obtain ⟨m, rfl⟩ : ∃ m : Nat, n = (m : Int) := ⟨n.toNat, by omega⟩
        have hm9 : m ≤ 262144 := by omega
        by_cases hx : xs = []
        · subst hx
          have HF : Hid (shS [] (m : Int) = ([], 0)) := by
            unfold shS; rw [if_pos h0, if_neg hfar, if_neg hneg, if_pos rfl]; rfl
          clear h0 hc8 hfar h hT
          go_enter Tryz.func7, Tryz.ntmps7
          go_wp2_with fail
          refine (Check_calls A c [] _ H.out).mono ?_
          rintro e w1 ⟨rfl, rfl⟩
          go_wp2
          go_ret2
          exact ⟨_, by rw [HF.out]; rfl, by rw [HF.out]; exact Ow.nil _ _ _, Below.refl _ _⟩
        · have hl0 : 0 < xs.length := List.length_pos_iff.2 hx
          have hbl := bl_bound xs h.wds
          have hbl0 := bl_nonneg xs
          have hl8 : xs.length ≤ 8192 := hc8.1
          have E1 : IntKind.i64.wrap (bl xs + (m : Int)) = bl xs + (m : Int) := IntWalk.i64_in _ (by omega)
          have hz : ((xs.length : Int) == 0) = false := beq_eq_false_iff_ne.2 (by omega)
          by_cases hbig : 262144 < bl xs + (m : Int)
          · have d6 : decide (262144 < bl xs + (m : Int)) = true := decide_eq_true hbig
            have HF : Hid (shS xs (m : Int) = ([], 3)) := by
              unfold shS; rw [if_pos h0, if_neg hfar, if_neg hneg, if_neg hx, if_pos hbig]; rfl
            clear h0 hc8 hfar h hT hx
            go_enter Tryz.func7, Tryz.ntmps7
            go_wp2_with fail
            refine (Check_calls A c xs _ H.out).mono ?_
            rintro e w1 ⟨rfl, rfl⟩
            go_wp2_with fail
            refine (Bits_calls A c xs _ H.out).mono ?_
            rintro e w1 ⟨rfl, rfl⟩
            go_wp2
            go_ret2
            exact ⟨_, by rw [HF.out]; rfl, by rw [HF.out]; exact Ow.nil _ _ _, Below.refl _ _⟩
          · have d6 : decide (262144 < bl xs + (m : Int)) = false := decide_eq_false hbig
            have hlen := sh_len h.wds hT hx (show bl xs + (m : Int) ≤ 262144 by omega)
            have HF : Hid (shS xs (m : Int) = told (val xs * 2 ^ m)) := by
              unfold shS told; rw [if_pos h0, if_neg hfar, if_neg hneg, if_neg hx, if_neg hbig, Int.toNat_natCast, if_neg (by omega)]; rfl
            clear h0 hc8 hfar h hT hx hlen
            have HM := Ow.made2 w 36 w.heap.size (m / 32) (m / 32 + xs.length + 1) (Nat.le_refl _) (by omega) (by simp only [maxLen]; omega)
            have HM := Q.hid HM
            go_enter Tryz.func7, Tryz.ntmps7
            go_wp2_with fail
            refine (Check_calls A c xs _ H.out).mono ?_
            rintro e w1 ⟨rfl, rfl⟩
            go_wp2_with fail
            refine (Bits_calls A c xs _ H.out).mono ?_
            rintro e w1 ⟨rfl, rfl⟩
            go_wp2_with (at_make; refine wp_mk2 rfl (.tmp 47) (.tmp 53) 22 36 rfl (.int .u32 0) 4 Tryz.underlying22 infoW rfl _ _ (m / 32) (m / 32 + xs.length + 1) rfl rfl (by omega) (by omega) (by omega) (by omega) (by simp only [maxLen]; omega) ?_)
            have HU := up_calls A c (m % 32) xs _ (H.out.alloc (.cells (reps (m / 32 + xs.length + 1) (.int .u32 0)) 36)) (by omega) (by omega)
            rw [show ((m % 32 : Nat) : Int) = (m : Int) % 32 by omega] at HU
            refine HU.mono ?_
            rintro e w2 ⟨zs, rfl, hoz, hzw, hzl, hzv, _, hB⟩
            rw [World.size_alloc] at hoz
            have HO := Q.hid (HM.out.below hB)
            have HZ := Q.hid hoz
            have HB : Hid (Below w.heap.size w w2) := Q.hid (below_step ((Below.refl _ w).alloc (Nat.le_refl _) _) hB)
            have HW := Q.hid hzw
            have HV := Q.hid hzv
            have hs2 := hB.size
            rw [World.size_alloc] at hs2
            clear hoz hzw hzv hB HM HU
            have hzr := Q.hid HZ.out.read.2.2.2
            go_wp2_with (at_builtin; refine wp_app rfl (.tmp 55) (.tmp 60) 22 36 rfl Tryz.underlying22 infoW w.heap.size _ (List.replicate (m / 32) 0) rfl HO.out (some ⟨w.heap.size + 1, 0, none⟩) (xs.length + 1) (xs.length + 1) zs (by omega) rfl hzr.out (by rw [List.length_replicate]; omega) (by omega) ?_; intro v3 w3 ho hg hp)
            have HB3 := Q.hid (below_grown HB.out hg (fun k hk => (HO.out.base k hk).1))
            obtain ⟨A3, c3, e3, hc3, _, hrd3, _⟩ := ho.slice
            subst e3
            have hl3 : (List.replicate (m / 32) 0 ++ zs).length = m / 32 + (xs.length + 1) := by rw [List.length_append, List.length_replicate, hzl]
            have HI3 : In w3 A3 c3 (List.replicate (m / 32) 0 ++ zs) := ⟨hrd3, hc3, by omega, (Wds.zeros _).append HW.out⟩
            have hval : val (List.replicate (m / 32) 0 ++ zs) = val xs * 2 ^ m := by
              rw [val_append, val_zeros, List.length_replicate, HV.out, two_parts' m]; grind
            have HT := told_calls A3 c3 w.heap.size _ w3 ho HI3
            rw [hval] at HT
            refine HT.mono ?_
            rintro e w4 ⟨⟨v, rfl, hov⟩, rfl⟩
            have HOV := Q.hid hov
            clear HT hval HI3 hrd3 ho hg hp hov
            go_wp2
            go_ret2
            exact ⟨v, by rw [HF.out]; rfl, by rw [HF.out]; exact HOV.out, HB3.out⟩
  · have hb : (chk xs != 0) = true := by simp [h0]
    have HF : Hid (shS xs n = ([], chk xs)) := if_neg h0
    clear h0 h
    go_enter Tryz.func7, Tryz.ntmps7
    go_wp2_with fail
    refine (Check_calls A c xs _ H.out).mono ?_
    rintro e w1 ⟨rfl, rfl⟩
    go_wp2
    go_ret2
    exact ⟨_, by rw [HF.out]; rfl, by rw [HF.out]; exact Ow.nil _ _ _, Below.refl _ _⟩
end Go.Proofs.YtgnmmifeojfjlaaGreatDoor
