/- Package whole: powers of short numbers; what the call does. -/
import Derived.Test.YtidccoahjpjoaaaQWhl7
import Derived.Test.YtidccoahjpjoaaaRWhl6
set_option linter.unusedVariables false
set_option linter.unusedSimpArgs false
namespace Go.Proofs.Ytidccoahjpjoaaa
open Go Go.RowKit Q

theorem far_off {w : World} {e B n c g : Nat} {A : Option Addr} {xs : List Int} (h : Ow w e B (.slice A n c) xs) (hg : g < B) : Off A xs g := .inr fun ad ha => by have := made_at h ad ha; omega
/-- the state of a power: what is gathered, and the square -/
structure PwW (w wr : World) (g3 gp gh : Nat) (P H : Int) (A1 : Option Addr) (c1 : Nat) (A2 : Option Addr) (c2 : Nat) : Prop where
  b3 : Bx wr g3 false (.slice none 0 0)
  bp : Bx wr gp (cn P) (.slice A1 (cw P).length c1)
  bh : Bx wr gh (cn H) (.slice A2 (cw H).length c2)
  ip : In wr A1 c1 (cw P)
  ih : In wr A2 c2 (cw H)
  ne : gp < gh
  lo : g3 < gp
  low : w.heap.size ≤ g3
  op : Off A1 (cw P) gp
  oh : Off A2 (cw H) gp
  oph : Off A1 (cw P) gh
  ohh : Off A2 (cw H) gh
  below : Below w.heap.size w wr
theorem PwW.lt {w wr : World} {g3 gp gh : Nat} {P H : Int} {A1 A2 : Option Addr} {c1 c2 : Nat} (h : PwW w wr g3 gp gh P H A1 c1 A2 c2) : gh < wr.heap.size := h.bh.lt
/-- the gathered number is written anew -/
theorem PwW.mulP {w wr w' : World} {g3 gp gh : Nat} {P H R : Int} {A1 A2 A4 : Option Addr} {c1 c2 c4 : Nat} (h : PwW w wr g3 gp gh P H A1 c1 A2 c2) (hb : Below wr.heap.size wr w') (ho : Ow w' 58 wr.heap.size (.slice A4 (cw R).length c4) (cw R)) (hs : Sh R) :
    PwW w ((w'.setCell ⟨gp, 0, none⟩ (.bool (cn R))).setCell ⟨gp, 1, none⟩ (.slice A4 (cw R).length c4)) g3 gp gh R H A4 c4 A2 c2 := by
  have h1 := h.ne
  have h2 := h.lo
  have h3 := h.lt
  have h4 := h.low
  exact ⟨((h.b3.below hb).far (by omega) _ _).far (by omega) _ _, (h.bp.below hb).over _ _, ((h.bh.below hb).far (by omega) _ _).far (by omega) _ _,
    in_far (in_far (inn_of ho hs) (far_off ho (by omega)) _) (far_off ho (by omega)) _, in_far (in_far (h.ih.below hb) h.oh _) h.oh _, h1, h2, h4, far_off ho (by omega), h.oh, far_off ho (by omega), h.ohh, below_set2 (bs2 h.below hb) (by omega) _ _⟩
/-- the square is written anew -/
theorem PwW.mulH {w wr w' : World} {g3 gp gh : Nat} {P H R : Int} {A1 A2 A4 : Option Addr} {c1 c2 c4 : Nat} (h : PwW w wr g3 gp gh P H A1 c1 A2 c2) (hb : Below wr.heap.size wr w') (ho : Ow w' 58 wr.heap.size (.slice A4 (cw R).length c4) (cw R)) (hs : Sh R) :
    PwW w ((w'.setCell ⟨gh, 0, none⟩ (.bool (cn R))).setCell ⟨gh, 1, none⟩ (.slice A4 (cw R).length c4)) g3 gp gh P R A1 c1 A4 c4 := by
  have h1 := h.ne
  have h2 := h.lo
  have h3 := h.lt
  have h4 := h.low
  exact ⟨((h.b3.below hb).far (by omega) _ _).far (by omega) _ _, ((h.bp.below hb).far (by omega) _ _).far (by omega) _ _, (h.bh.below hb).over _ _,
    in_far (in_far (h.ip.below hb) h.oph _) h.oph _, in_far (in_far (inn_of ho hs) (far_off ho (by omega)) _) (far_off ho (by omega)) _, h1, h2, h4, h.op, far_off ho (by omega), h.oph, far_off ho (by omega), below_set2 (bs2 h.below hb) (by omega) _ _⟩
/-- the square moves to the next round's variable -/
theorem PwW.next {w wr : World} {g3 gp gh : Nat} {P H : Int} {A1 A2 : Option Addr} {c1 c2 : Nat} (h : PwW w wr g3 gp gh P H A1 c1 A2 c2) :
    PwW w (wr.alloc (.cells #[.bool (cn H), .slice A2 (cw H).length c2] 24)) g3 gp wr.heap.size P H A1 c1 A2 c2 := by
  have h1 := h.ne
  have h3 := h.lt
  have lt : ∀ {A : Option Addr} {c : Nat} {v : Int}, In wr A c (cw v) → Off A (cw v) wr.heap.size := fun hi => by
    rcases in_lt hi with e | e
    · exact .inl e
    · exact .inr fun ad ha => Nat.ne_of_lt (e ad ha)
  exact ⟨h.b3.alloc _, h.bp.alloc _, Bx.new _ _ _, h.ip.alloc _, h.ih.alloc _, by omega, h.lo, h.low, h.op, h.oh, lt h.ip, lt h.ih, h.below.alloc h.below.size _⟩

set_option maxHeartbeats 2000000 in
set_option maxRecDepth 100000 in
theorem wPower_calls (n : Bool) (A : Option Addr) (c : Nat) (xs : List Int) (k : Int) (w : World) (h : In w A c xs) (h4 : chkW n xs = 0 → xs.length ≤ 4) (hk : k ≤ 300 ∨ 4096 < k) (hk0 : -9223372036854775808 ≤ k) (hk1 : k ≤ 9223372036854775807) :
    Calls Try.prog 13 #[.agg #[.bool n, .slice A xs.length c], .int .i64 k] w fun e w' => ∃ B d, e = .returned (.tuple #[.agg #[.bool (powW n xs k).neg, .slice B (powW n xs k).ws.length d], .int .i64 (powW n xs k).err]) ∧ Ow w' 58 w.heap.size (.slice B (powW n xs k).ws.length d) (powW n xs k).ws ∧ Below w.heap.size w w' := by
  have H := Q.hid h
  obtain ⟨W, hW⟩ : ∃ W, W = ((w.alloc (.cells #[.bool n, .slice A xs.length c] 24)).alloc (.cells #[.bool false, .slice none 0 0] 24)) := ⟨_, rfl⟩
  have B1 : Hid (Bx W w.heap.size n (.slice A xs.length c)) := by rw [hW]; exact (Bx.new w n (.slice A xs.length c)).alloc _
  have B3 : Hid (Bx W (w.heap.size + 1) false (.slice none 0 0)) := by
    have := Bx.new (w.alloc (.cells #[.bool n, .slice A xs.length c] 24)) false (.slice none 0 0)
    simp only [World.size_alloc] at this
    rw [hW]; exact this
  have HB : Hid (Below w.heap.size w W) := by rw [hW]; exact below_alloc2 w _ _
  have hg3 : w.heap.size + 1 < W.heap.size := B3.out.lt
  have HX : Hid (In W A c xs) := H.out.below HB.out
  by_cases h0 : chkW n xs = 0
  · have hb0 : (chkW n xs != 0) = false := by simp [h0]
    by_cases hr : k < 0 ∨ 4096 < k
    · have HF : Hid (powW n xs k = noW 2) := (if_pos h0).trans (if_pos hr)
      have hcs : decide (k < 0) = true ∨ (decide (k < 0) = false ∧ decide (4096 < k) = true) := by
        rcases (by omega : k < 0 ∨ (¬ k < 0 ∧ 4096 < k)) with hf | ⟨hf, hf2⟩
        · exact .inl (decide_eq_true hf)
        · exact .inr ⟨decide_eq_false hf, decide_eq_true hf2⟩
      clear h h0 hr h4
      rcases hcs with d1 | ⟨d1, d2⟩
      all_goals
        go_enter Try.func13, Try.ntmps13
        go_wp2_with fail
        rw [← hW]
        clear hW
        refine (wCheck_calls n A c xs _ HX.out).mono ?_
        rintro e w1 ⟨rfl, hb⟩
        have B3 := Q.hid (B3.out.below hb)
        have HB := Q.hid (bs2 HB.out hb)
        clear hb
        have k30 := B3.out.c0
        have k31 := B3.out.c1
        have f30 := B3.out.f0
        have f31 := B3.out.f1
        go_wp2
        refine bodyPost_ret (by rw [results_cell_tmp rfl]; go_simp; rfl) rfl ?_
        exact ⟨none, 0, by rw [HF.out]; rfl, by rw [HF.out]; exact Ow.nil _ _ _, below_set2 HB.out (by omega) _ _⟩
    · obtain ⟨K, rfl⟩ : ∃ K : Nat, k = (K : Int) := ⟨k.toNat, by omega⟩
      have hK : K ≤ 300 := by omega
      have hx4 : xs.length ≤ 4 := h4 h0
      have hv : ((wv n xs).natAbs : Int) < Bp 4 := can_len h.wds hx4
      obtain ⟨hcs, hcn, hcw⟩ := can_of h.wds h0
      obtain ⟨V, hV⟩ : ∃ V, V = wv n xs := ⟨_, rfl⟩
      have HF : Hid (powW n xs (K : Int) = ⟨cn (V ^ K), cw (V ^ K), 0⟩) := by rw [hV]; exact (if_pos h0).trans ((if_neg hr).trans (by rw [Int.toNat_natCast]; exact toldW_can (pow_sh hv hK)))
      rw [← hV] at hv hcs hcn hcw
      have HV := Q.hid hv
      have d1 : decide ((K : Int) < 0) = false := decide_eq_false (by omega)
      have d2 : decide (4096 < (K : Int)) = false := decide_eq_false (by omega)
      subst hcn
      subst hcw
      clear h h0 hr h4 hv hk hk0 hk1 hV hcs
      go_enter Try.func13, Try.ntmps13
      go_wp2_with fail
      rw [← hW]
      clear hW
      refine (wCheck_calls (cn V) A c (cw V) _ HX.out).mono ?_
      rintro e w1 ⟨rfl, hb⟩
      have HX := Q.hid (HX.out.below hb)
      have B1 := Q.hid (B1.out.below hb)
      have B3 := Q.hid (B3.out.below hb)
      have HB := Q.hid (bs2 HB.out hb)
      have hg3 : w.heap.size + 1 < w1.heap.size := Nat.lt_of_lt_of_le hg3 hb.size
      clear hb
      go_wp2_with fail
      refine (wOf_calls 1 _ (by omega) (by omega)).mono ?_
      rintro e w2 ⟨A1, c1, rfl, ho, hb⟩
      have B1 := Q.hid ((B1.out.below hb).alloc (.cells #[.bool (cn 1), .slice A1 (cw 1).length c1] 24))
      have k10 := B1.out.c0
      have k11 := B1.out.c1
      have hz := hb.size
      have hof : ∀ {v : Int} {A : Option Addr} {c : Nat} {wq : World} {g : Nat}, In wq A c (cw v) → wq.heap.size ≤ g → Off A (cw v) g := fun hi hg => by
        rcases in_lt hi with e | e
        · exact .inl e
        · exact .inr fun ad ha => by have := e ad ha; omega
      have HP : Hid (PwW w ((w2.alloc (.cells #[.bool (cn 1), .slice A1 (cw 1).length c1] 24)).alloc (.cells #[.bool (cn V), .slice A (cw V).length c] 24)) (w.heap.size + 1) w2.heap.size (w2.heap.size + 1) 1 V A1 c1 A c) := by
        have hi1 := inn_of ho (sh_64 (by omega))
        have hi2 := HX.out.below hb
        have bb := Bx.new (w2.alloc (.cells #[.bool (cn 1), .slice A1 (cw 1).length c1] 24)) (cn V) (.slice A (cw V).length c)
        rw [World.size_alloc] at bb
        exact ⟨((B3.out.below hb).alloc _).alloc _, (Bx.new _ _ _).alloc _, bb, (hi1.alloc _).alloc _, (hi2.alloc _).alloc _, by omega, by omega, by omega, hof hi1 (by omega), hof hi2 (by omega), hof hi1 (by omega), hof hi2 (by omega), ((bs2 HB.out hb).alloc (bs2 HB.out hb).size _).alloc (by have := (bs2 HB.out hb).size; rw [World.size_alloc]; omega) _⟩
      clear ho hb B1 B3 HB HX hof
      go_wp2
      have HMD : Hid (mdW (cn (V ^ K)) (cw (V ^ K)) = ⟨cn (V ^ K), cw (V ^ K), 0⟩) := toldW_can (pow_sh HV.out hK)
      go_loopw [1, 8] (fun nv hp wr => ∃ (a b k gh : Nat) (A1 : Option Addr) (c1 : Nat) (A2 : Option Addr) (c2 : Nat), nv = .int .i64 k ∧ hp = .pointer (some ⟨gh, 0, none⟩) ∧ a + b * k = K ∧ k ≤ K ∧ Hid (PwW w wr (w.heap.size + 1) w2.heap.size gh (V ^ a) (V ^ b) A1 c1 A2 c2)) (fun nv _ _ => (intOf nv).toNat)
      case atStart => exact ⟨0, 1, K, w2.heap.size + 1, A1, c1, A, c, rfl, rfl, by omega, Nat.le_refl _, by rw [Int.pow_zero, Int.pow_succ, Int.pow_zero, Int.one_mul]; exact HP⟩
      case round =>
        clear HP k10 k11
        obtain ⟨a, b, k, gh, A1, c1, A2, c2, rfl, rfl, hE, hkK, HP⟩ := hrel
        by_cases hk0 : k = 0
        · subst hk0
          have ha : a = K := by omega
          have kp0 := HP.out.bp.c0
          have kp1 := HP.out.bp.c1
          rw [ha] at HP kp0 kp1
          clear hE hkK ha
          go_wp2
          go_region_held3 (fun w' => w'.cell? ⟨w2.heap.size, 0, none⟩ = some (.bool (cn (V ^ K))) ∧ w'.cell? ⟨w2.heap.size, 1, none⟩ = some (.slice A1 (cw (V ^ K)).length c1)) (first | exact ⟨kp0, kp1⟩ | exact ⟨set2_cell (by omega) kp0, set2_cell (by omega) kp1⟩) (first
            | (go_at_call 51
               refine (own_calls A1 c1 (cw (V ^ K)) _ ?_).mono ?_
               exact ⟨HP.out.ip.rd, HP.out.ip.cap, HP.out.ip.small, HP.out.ip.wds⟩
               rintro e w3 ⟨v, rfl, ho, hb⟩
               obtain ⟨A4, c4, e4, _⟩ := ho.slice
               subst e4
               have hbb : Below wr.heap.size wr w3 := ⟨hb.os, hb.tape, hb.output, hb.size, hb.block⟩
               have hg : w.heap.size + 1 < wr.heap.size := HP.out.b3.lt
               have HO : Hid (Ow w3 58 wr.heap.size (.slice A4 (cw (V ^ K)).length c4) (cw (V ^ K))) := ho
               have B3 := Q.hid (HP.out.b3.below hbb)
               have BP := Q.hid (HP.out.bp.below hbb)
               have HB := Q.hid (bs2 HP.out.below hbb)
               clear ho hb hbb kp0 kp1
               have kp0 := BP.out.c0
               have kp1 := BP.out.c1)
            | (go_at_call 45
               refine (wmade_calls (cn (V ^ K)) A4 c4 wr.heap.size (cw (V ^ K)) _ ?_).mono ?_
               exact HO.out
               rintro e w4 ⟨A5, c5, rfl, ho, hb⟩
               rw [HMD.out] at ho ⊢
               have hbb : Below w3.heap.size w3 w4 := ⟨hb.os, hb.tape, hb.output, hb.size, hb.block⟩
               have HO5 := Q.hid ho
               have B3 := Q.hid (B3.out.below hbb)
               have BP := Q.hid (BP.out.below hbb)
               have HB := Q.hid (bs2 HB.out hbb)
               clear ho hb hbb kp0 kp1
               have kp0 := BP.out.c0
               have kp1 := BP.out.c1
               have k30 := B3.out.c0
               have k31 := B3.out.c1
               have f30 := B3.out.f0
               have f31 := B3.out.f1))
          all_goals
            go_wp2
            refine bodyPost_ret (by rw [results_cell_tmp rfl]; go_simp; rfl) rfl ?_
            exact ⟨A5, c5, by rw [HF.out], by rw [HF.out]; exact far2 HO5.out (by omega) (by have := HP.out.below.size; omega) _ _, below_set2 HB.out (by omega) _ _⟩
        · have hd0 : decide (0 < (k : Int)) = true := decide_eq_true (by omega)
          have hd00 : decide (0 < k) = true := decide_eq_true (by omega)
          have hdv : (k : Int).tdiv 2 = ((k / 2 : Nat) : Int) := by rw [Int.tdiv_eq_ediv_of_nonneg (by omega)]; rfl
          by_cases hod : k % 2 = 1
          · have hm1 : (k : Int).tmod 2 = 1 := by rw [Int.tmod_eq_emod_of_nonneg (by omega)]; omega
            by_cases h1 : 1 < k
            · have hd1 : decide (1 < (k : Int)) = true := decide_eq_true (by omega)
              have hd11 : decide (1 < k) = true := decide_eq_true h1
              have hb2 : b * 2 ≤ b * k := Nat.mul_le_mul_left b (by omega)
              have HE : Hid (a + b + 2 * b * (k / 2) = K) := by
                have e : b * k = 2 * b * (k / 2) + b := by
                  have : k = 2 * (k / 2) + 1 := by omega
                  conv => lhs; rw [this]
                  rw [Nat.mul_add, Nat.mul_one, ← Nat.mul_assoc, Nat.mul_comm b 2]
                show a + b + 2 * b * (k / 2) = K
                omega
              have HM : Hid (mulW (cn (V ^ a)) (cw (V ^ a)) (cn (V ^ b)) (cw (V ^ b)) = ⟨cn (V ^ (a + b)), cw (V ^ (a + b)), 0⟩) := by
                rw [mulW_can (pow_sh HV.out (by omega)) (pow_sh HV.out (by omega)) (by rw [← Int.pow_add]; exact pow_sh HV.out (by omega)), ← Int.pow_add]; rfl
              have HM2 : Hid (mulW (cn (V ^ b)) (cw (V ^ b)) (cn (V ^ b)) (cw (V ^ b)) = ⟨cn (V ^ (2 * b)), cw (V ^ (2 * b)), 0⟩) := by
                have e : V ^ b * V ^ b = V ^ (2 * b) := by rw [← Int.pow_add]; congr 1; omega
                rw [mulW_can (pow_sh HV.out (by omega)) (pow_sh HV.out (by omega)) (by rw [e]; exact pow_sh HV.out (by omega)), e]; rfl
              clear hod h1
              have kp0 := HP.out.bp.c0
              have kp1 := HP.out.bp.c1
              have kh0 := HP.out.bh.c0
              have kh1 := HP.out.bh.c1
              go_wp2_with fail
              refine (wMul_calls (cn (V ^ a)) (cn (V ^ b)) A1 A2 c1 c2 (cw (V ^ a)) (cw (V ^ b)) _ HP.out.ip HP.out.ih).mono ?_
              rintro e w3 ⟨A4, c4, rfl, ho, hb⟩
              rw [HM.out] at ho ⊢
              have BP := HP.out.bp.below hb
              clear kp0 kp1 kh0 kh1
              have kp0 := BP.c0
              have kp1 := BP.c1
              have fp0 := BP.f0
              have fp1 := BP.f1
              clear BP
              have HP := Q.hid (HP.out.mulP hb ho (pow_sh HV.out (by omega)))
              clear ho hb
              have kh0 := HP.out.bh.c0
              have kh1 := HP.out.bh.c1
              go_wp2_with fail
              refine (wMul_calls (cn (V ^ b)) (cn (V ^ b)) A2 A2 c2 c2 (cw (V ^ b)) (cw (V ^ b)) _ HP.out.ih HP.out.ih).mono ?_
              rintro e w4 ⟨A5, c5, rfl, ho, hb⟩
              rw [HM2.out] at ho ⊢
              have BH := HP.out.bh.below hb
              clear kh0 kh1 kp0 kp1 fp0 fp1
              have kh0 := BH.c0
              have kh1 := BH.c1
              have fh0 := BH.f0
              have fh1 := BH.f1
              clear BH
              have HP := Q.hid (HP.out.mulH hb ho (pow_sh HV.out (by omega)))
              clear ho hb
              have jh0 := HP.out.bh.c0
              have jh1 := HP.out.bh.c1
              go_wp2
              have hpn := HP.out.next
              simp only [World.size_setCell] at hpn
              have HP := Q.hid hpn
              clear hpn
              go_roundw
              case rel => exact ⟨a + b, 2 * b, k / 2, _, A4, c4, A5, c5, by go_num, rfl, HE.out, by omega, HP⟩
              case measure => simp [intOf]; omega
            · obtain rfl : k = 1 := by omega
              have hd1 : decide ((1 : Int) < 1) = false := rfl
              have HE : Hid (a + b + b * (1 / 2) = K) := by
                show a + b + b * 0 = K
                omega
              have HM : Hid (mulW (cn (V ^ a)) (cw (V ^ a)) (cn (V ^ b)) (cw (V ^ b)) = ⟨cn (V ^ (a + b)), cw (V ^ (a + b)), 0⟩) := by
                rw [mulW_can (pow_sh HV.out (by omega)) (pow_sh HV.out (by omega)) (by rw [← Int.pow_add]; exact pow_sh HV.out (by omega)), ← Int.pow_add]; rfl
              clear hod h1 hdv hm1 hd0 hd00
              have kp0 := HP.out.bp.c0
              have kp1 := HP.out.bp.c1
              have kh0 := HP.out.bh.c0
              have kh1 := HP.out.bh.c1
              go_wp2_with fail
              refine (wMul_calls (cn (V ^ a)) (cn (V ^ b)) A1 A2 c1 c2 (cw (V ^ a)) (cw (V ^ b)) _ HP.out.ip HP.out.ih).mono ?_
              rintro e w3 ⟨A4, c4, rfl, ho, hb⟩
              rw [HM.out] at ho ⊢
              have BP := HP.out.bp.below hb
              clear kp0 kp1 kh0 kh1
              have kp0 := BP.c0
              have kp1 := BP.c1
              have fp0 := BP.f0
              have fp1 := BP.f1
              clear BP
              have HP := Q.hid (HP.out.mulP hb ho (pow_sh HV.out (by omega)))
              clear ho hb
              have kh0 := HP.out.bh.c0
              have kh1 := HP.out.bh.c1
              go_wp2
              have hpn := HP.out.next
              simp only [World.size_setCell] at hpn
              have HP := Q.hid hpn
              clear hpn
              go_roundw
              case rel => exact ⟨a + b, b, 0, _, A4, c4, A2, c2, rfl, rfl, HE.out, by omega, HP⟩
              case measure => simp [intOf]
          · have hm1 : (k : Int).tmod 2 = 0 := by rw [Int.tmod_eq_emod_of_nonneg (by omega)]; omega
            have hd1 : decide (1 < (k : Int)) = true := decide_eq_true (by omega)
            have hd11 : decide (1 < k) = true := decide_eq_true (by omega)
            have hb2 : b * 2 ≤ b * k := Nat.mul_le_mul_left b (by omega)
            have HE : Hid (a + 2 * b * (k / 2) = K) := by
              have e : b * k = 2 * b * (k / 2) := by
                have : k = 2 * (k / 2) := by omega
                conv => lhs; rw [this]
                rw [← Nat.mul_assoc, Nat.mul_comm b 2]
              show a + 2 * b * (k / 2) = K
              omega
            have HM2 : Hid (mulW (cn (V ^ b)) (cw (V ^ b)) (cn (V ^ b)) (cw (V ^ b)) = ⟨cn (V ^ (2 * b)), cw (V ^ (2 * b)), 0⟩) := by
              have e : V ^ b * V ^ b = V ^ (2 * b) := by rw [← Int.pow_add]; congr 1; omega
              rw [mulW_can (pow_sh HV.out (by omega)) (pow_sh HV.out (by omega)) (by rw [e]; exact pow_sh HV.out (by omega)), e]; rfl
            clear hod
            have kp0 := HP.out.bp.c0
            have kp1 := HP.out.bp.c1
            have kh0 := HP.out.bh.c0
            have kh1 := HP.out.bh.c1
            go_wp2_with fail
            refine (wMul_calls (cn (V ^ b)) (cn (V ^ b)) A2 A2 c2 c2 (cw (V ^ b)) (cw (V ^ b)) _ HP.out.ih HP.out.ih).mono ?_
            rintro e w4 ⟨A5, c5, rfl, ho, hb⟩
            rw [HM2.out] at ho ⊢
            have BH := HP.out.bh.below hb
            clear kh0 kh1 kp0 kp1
            have kh0 := BH.c0
            have kh1 := BH.c1
            have fh0 := BH.f0
            have fh1 := BH.f1
            clear BH
            have HP := Q.hid (HP.out.mulH hb ho (pow_sh HV.out (by omega)))
            clear ho hb
            have jh0 := HP.out.bh.c0
            have jh1 := HP.out.bh.c1
            go_wp2
            have hpn := HP.out.next
            simp only [World.size_setCell] at hpn
            have HP := Q.hid hpn
            clear hpn
            go_roundw
            case rel => exact ⟨a, 2 * b, k / 2, _, A1, c1, A5, c5, by go_num, rfl, HE.out, by omega, HP⟩
            case measure => simp [intOf]; omega
  · have hb0 : (chkW n xs != 0) = true := by simp [h0]
    have HF : Hid (powW n xs k = noW (chkW n xs)) := if_neg h0
    clear h h0 h4
    go_enter Try.func13, Try.ntmps13
    go_wp2_with fail
    rw [← hW]
    clear hW
    refine (wCheck_calls n A c xs _ HX.out).mono ?_
    rintro e w1 ⟨rfl, hb⟩
    have B3 := Q.hid (B3.out.below hb)
    have HB := Q.hid (bs2 HB.out hb)
    clear hb
    have k30 := B3.out.c0
    have k31 := B3.out.c1
    have f30 := B3.out.f0
    have f31 := B3.out.f1
    go_wp2
    refine bodyPost_ret (by rw [results_cell_tmp rfl]; go_simp; rfl) rfl ?_
    exact ⟨none, 0, by rw [HF.out]; rfl, by rw [HF.out]; exact Ow.nil _ _ _, below_set2 HB.out (by omega) _ _⟩
end Go.Proofs.Ytidccoahjpjoaaa
