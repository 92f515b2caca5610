/- Package whole: comparisons, differences; lent numbers; what each call does. -/
import Derived.Test.YtidccoahjpjoaaaQWhl3
set_option linter.unusedVariables false
set_option linter.unusedSimpArgs false
namespace Go.Proofs.Ytidccoahjpjoaaa
open Go Go.RowKit Q

def sgW (n : Bool) (xs : List Int) : Int := if xs = [] then 0 else if n = true then -1 else 1
theorem sign_val {n : Bool} {xs : List Int} (hw : Wds xs) (h : chkW n xs = 0) : cmp (wv n xs) 0 = sgW n xs := by
  unfold sgW
  obtain ⟨h1, h2, h3⟩ := chkW_zero.1 h
  by_cases e : xs = []
  · rw [if_pos e, e, h3 e]; rfl
  · rw [if_neg e]
    have := val_pos hw h2 e
    cases n with
    | true => rw [if_pos rfl]; exact cmp_lt (by unfold wv; rw [if_pos rfl]; omega)
    | false => rw [if_neg (by simp)]; exact cmp_gt (by unfold wv; rw [if_neg (by simp)]; omega)

set_option maxHeartbeats 1000000 in
theorem wsign_calls (n : Bool) (A : Option Addr) (c : Nat) (xs : List Int) (w : World) (hm : xs.length ≤ 9223372036854775807) (h : xs = [] → n = false) :
    Calls Try.prog 63 #[.agg #[.bool n, .slice A xs.length c]] w fun e w' => e = .returned (.int .i64 (sgW n xs)) ∧ Below w.heap.size w w' := by
  by_cases e : xs = []
  · subst e
    have hn := h rfl
    subst hn
    go_enter Try.func63, Try.ntmps63
    go_wp2
    go_ret
    exact ⟨rfl, below_alloc1 _ _⟩
  · have h1 : ((xs.length : Int) == 0) = false := by have := List.length_pos_iff.2 e; simp; omega
    have h2 : (xs.length == 0) = false := by have := List.length_pos_iff.2 e; simp; omega
    have HE : Hid (sgW n xs = if n = true then -1 else 1) := if_neg e
    clear h e
    cases n
    all_goals
      go_enter Try.func63, Try.ntmps63
      go_wp2
      go_ret
      exact ⟨by rw [HE.out]; rfl, below_alloc1 _ _⟩

set_option maxHeartbeats 1000000 in
theorem wSign_calls (n : Bool) (A : Option Addr) (c : Nat) (xs : List Int) (w : World) (h : In w A c xs) :
    Calls Try.prog 31 #[.agg #[.bool n, .slice A xs.length c]] w fun e w' => e = .returned (.tuple #[.int .i64 (signW n xs), .int .i64 (chkW n xs)]) ∧ Below w.heap.size w w' := by
  have H := Q.hid h
  have hm : xs.length ≤ 9223372036854775807 := by have := h.small; omega
  have hw := h.wds
  clear h
  by_cases h0 : chkW n xs = 0
  · have hb0 : (chkW n xs != 0) = false := by simp [h0]
    have HF : Hid (signW n xs = sgW n xs) := by unfold signW; rw [if_pos h0, sign_val hw h0]; rfl
    have HC : Hid (chkW n xs = 0) := h0
    have HN : Hid (xs = [] → n = false) := (chkW_zero.1 h0).2.2
    clear h0
    go_enter Try.func31, Try.ntmps31
    go_wp2_with fail
    refine (wCheck_calls n A c xs _ (H.out.below (below_alloc1 _ _))).mono ?_
    rintro e w1 ⟨rfl, hb1⟩
    have B1 := Q.hid ((Bx.new w n (.slice A xs.length c)).below hb1)
    have HB := Q.hid ((below_alloc1 w _).trans (hb1.mono (by simp)))
    clear hb1
    have k10 := B1.out.c0
    have k11 := B1.out.c1
    go_wp2_with fail
    refine (wsign_calls n A c xs _ hm HN.out).mono ?_
    rintro e w2 ⟨rfl, hb2⟩
    go_wp2
    go_ret2
    exact ⟨by rw [HF.out, HC.out]; rfl, bs2 HB.out hb2⟩
  · have hb0 : (chkW n xs != 0) = true := by simp [h0]
    have HF : Hid (signW n xs = 0) := if_neg h0
    clear h0
    go_enter Try.func31, Try.ntmps31
    go_wp2_with fail
    refine (wCheck_calls n A c xs _ (H.out.below (below_alloc1 _ _))).mono ?_
    rintro e w1 ⟨rfl, hb1⟩
    have HB := Q.hid ((below_alloc1 w _).trans (hb1.mono (by simp)))
    clear hb1
    go_wp2
    go_ret2
    exact ⟨by rw [HF.out]; rfl, HB.out⟩

theorem cmp_bnd (x y : Int) : -1 ≤ cmp x y ∧ cmp x y ≤ 1 := by
  unfold cmp
  split
  · omega
  · split <;> omega
theorem wcmp_neg (x y : Int) : cmp (-x) (-y) = - cmp x y := by
  unfold cmp
  rcases Int.lt_trichotomy x y with h | h | h
  · rw [if_neg (by omega), if_neg (by omega), if_pos h]; rfl
  · subst h; simp
  · rw [if_pos (by omega), if_neg (by omega), if_neg (by omega)]
theorem cmp_signs {n m : Bool} {xs ys : List Int} (hx : Wds xs) (hy : Wds ys) (h : chkW2 n xs m ys = 0) (hne : n ≠ m) : cmp (wv n xs) (wv m ys) = if n = true then -1 else 1 := by
  obtain ⟨h1, h2⟩ := chkW2_zero.1 h
  obtain ⟨a1, a2, a3⟩ := chkW_zero.1 h1
  obtain ⟨b1, b2, b3⟩ := chkW_zero.1 h2
  have x0 := val_nonneg hx
  have y0 := val_nonneg hy
  cases n with
  | true =>
    have : m = false := by cases m <;> simp_all
    subst this
    have hp := val_pos hx a2 (fun e => by simpa using a3 e)
    rw [if_pos rfl]; exact cmp_lt (by simp only [wv]; simp; omega)
  | false =>
    have : m = true := by cases m <;> simp_all
    subst this
    have hp := val_pos hy b2 (fun e => by simpa using b3 e)
    rw [if_neg (by simp)]; exact cmp_gt (by simp only [wv]; simp; omega)

set_option maxHeartbeats 1000000 in
theorem wCompare_calls (n m : Bool) (A A' : Option Addr) (c c' : Nat) (xs ys : List Int) (w : World) (h : In w A c xs) (h' : In w A' c' ys) :
    Calls Try.prog 32 #[.agg #[.bool n, .slice A xs.length c], .agg #[.bool m, .slice A' ys.length c']] w fun e w' => e = .returned (.tuple #[.int .i64 (cmpW n xs m ys), .int .i64 (chkW2 n xs m ys)]) ∧ Below w.heap.size w w' := by
  have H := Q.hid h
  have H' := Q.hid h'
  have hw := h.wds
  have hw' := h'.wds
  clear h h'
  by_cases h0 : chkW2 n xs m ys = 0
  · have hb0 : (chkW2 n xs m ys != 0) = false := by simp [h0]
    have HC : Hid (chkW2 n xs m ys = 0) := h0
    by_cases hnm : n = m
    · subst hnm
      have HF : Hid (cmpW n xs n ys = if n = true then - cmp (val xs) (val ys) else cmp (val xs) (val ys)) := by
        unfold cmpW; rw [if_pos h0]
        cases n with
        | true => rw [if_pos rfl]; exact wcmp_neg _ _
        | false => rfl
      clear h0
      have hcb := cmp_bnd (val xs) (val ys)
      have hwr : IntKind.i64.wrap (-(cmp (val xs) (val ys))) = -(cmp (val xs) (val ys)) := by rw [IntKind.wrap_i64]; omega
      cases n
      all_goals
        go_enter Try.func32, Try.ntmps32
        go_wp2_with fail
        refine (wboth_calls _ _ A A' c c' xs ys _ (H.out.below (below_alloc2 _ _ _)) (H'.out.below (below_alloc2 _ _ _))).mono ?_
        rintro e w1 ⟨rfl, hb1⟩
        have B1 := Q.hid (((Bx.new w _ (.slice A xs.length c)).alloc (.cells #[.bool _, .slice A' ys.length c'] 24)).below hb1)
        have B2 := Q.hid ((Bx.new (w.alloc (.cells #[.bool _, .slice A xs.length c] 24)) _ (.slice A' ys.length c')).below hb1)
        simp only [World.size_alloc] at B2
        have HB := Q.hid ((below_alloc2 w _ _).trans (hb1.mono (by simp; omega)))
        clear hb1
        have k10 := B1.out.c0
        have k11 := B1.out.c1
        have k20 := B2.out.c0
        have k21 := B2.out.c1
        go_wp2_with fail
        refine (Compare_calls A A' c c' xs ys _ (H.out.below HB.out) (H'.out.below HB.out)).mono ?_
        rintro e w2 ⟨rfl, ⟨q, rfl⟩⟩
        go_wp2
        go_ret2
        exact ⟨by rw [HF.out, HC.out]; rfl, below_drewN HB.out q⟩
    · have HF : Hid (cmpW n xs m ys = if n = true then -1 else 1) := by unfold cmpW; rw [if_pos h0, cmp_signs hw hw' h0 hnm]; rfl
      clear h0
      have hcs : n = true ∧ m = false ∨ n = false ∧ m = true := by cases n <;> cases m <;> simp_all
      clear hnm
      rcases hcs with ⟨rfl, rfl⟩ | ⟨rfl, rfl⟩
      all_goals
        go_enter Try.func32, Try.ntmps32
        go_wp2_with fail
        refine (wboth_calls _ _ A A' c c' xs ys _ (H.out.below (below_alloc2 _ _ _)) (H'.out.below (below_alloc2 _ _ _))).mono ?_
        rintro e w1 ⟨rfl, hb1⟩
        have B1 := Q.hid (((Bx.new w _ (.slice A xs.length c)).alloc (.cells #[.bool _, .slice A' ys.length c'] 24)).below hb1)
        have B2 := Q.hid ((Bx.new (w.alloc (.cells #[.bool _, .slice A xs.length c] 24)) _ (.slice A' ys.length c')).below hb1)
        simp only [World.size_alloc] at B2
        have HB := Q.hid ((below_alloc2 w _ _).trans (hb1.mono (by simp; omega)))
        clear hb1
        have k10 := B1.out.c0
        have k11 := B1.out.c1
        have k20 := B2.out.c0
        have k21 := B2.out.c1
        go_wp2
        go_ret2
        exact ⟨by rw [HF.out, HC.out]; rfl, HB.out⟩
  · have hb0 : (chkW2 n xs m ys != 0) = true := by simp [h0]
    have HF : Hid (cmpW n xs m ys = 0) := if_neg h0
    clear h0
    go_enter Try.func32, Try.ntmps32
    go_wp2_with fail
    refine (wboth_calls n m A A' c c' xs ys _ (H.out.below (below_alloc2 _ _ _)) (H'.out.below (below_alloc2 _ _ _))).mono ?_
    rintro e w1 ⟨rfl, hb1⟩
    have HB := Q.hid ((below_alloc2 w _ _).trans (hb1.mono (by simp; omega)))
    clear hb1
    go_wp2
    go_ret2
    exact ⟨by rw [HF.out]; rfl, HB.out⟩

theorem sub_opp {n m : Bool} {xs ys : List Int} (h : chkW2 n xs m ys = 0) (M : Bool) (hM : M = (!m && !ys.isEmpty)) : subW n xs m ys = addW n xs M ys := by
  obtain ⟨h1, h2⟩ := chkW2_zero.1 h
  obtain ⟨b1, b2, b3⟩ := chkW_zero.1 h2
  have h3 : chkW M ys = 0 := chkW_zero.2 ⟨b1, b2, fun e => by rw [hM, e]; simp⟩
  have hv : wv M ys = - wv m ys := by
    cases ys with
    | nil => rw [hM]; simp [wv, val]
    | cons y ys => rw [hM]; cases m <;> simp [wv]
  unfold subW addW
  rw [if_pos h, if_pos (chkW2_zero.2 ⟨h1, h3⟩), hv, Int.sub_eq_add_neg]

set_option maxHeartbeats 1000000 in
theorem wSub_calls (n m : Bool) (A A' : Option Addr) (c c' : Nat) (xs ys : List Int) (w : World) (h : In w A c xs) (h' : In w A' c' ys) :
    Calls Try.prog 21 #[.agg #[.bool n, .slice A xs.length c], .agg #[.bool m, .slice A' ys.length c']] w fun e w' => ∃ B d, e = .returned (.tuple #[.agg #[.bool (subW n xs m ys).neg, .slice B (subW n xs m ys).ws.length d], .int .i64 (subW n xs m ys).err]) ∧ Ow w' 58 w.heap.size (.slice B (subW n xs m ys).ws.length d) (subW n xs m ys).ws ∧ Below w.heap.size w w' := by
  have H := Q.hid h
  have H' := Q.hid h'
  clear h h'
  by_cases h0 : chkW2 n xs m ys = 0
  · have hb0 : (chkW2 n xs m ys != 0) = false := by simp [h0]
    obtain ⟨M, hM⟩ : ∃ M : Bool, M = (!m && !ys.isEmpty) := ⟨_, rfl⟩
    have HF : Hid (subW n xs m ys = addW n xs M ys) := sub_opp h0 M hM
    have hcs : m = true ∧ M = false ∨ (m = false ∧ M = false ∧ decide (0 < (ys.length : Int)) = false ∧ decide (0 < ys.length) = false) ∨ (m = false ∧ M = true ∧ decide (0 < (ys.length : Int)) = true ∧ decide (0 < ys.length) = true) := by
      cases m with
      | true => exact .inl ⟨rfl, by rw [hM]; rfl⟩
      | false =>
        cases ys with
        | nil => exact .inr (.inl ⟨rfl, by rw [hM]; rfl, rfl, rfl⟩)
        | cons y ys => exact .inr (.inr ⟨rfl, by rw [hM]; rfl, decide_eq_true (by simp only [List.length_cons]; omega), decide_eq_true (by simp)⟩)
    clear h0 hM
    rcases hcs with ⟨rfl, rfl⟩ | ⟨rfl, rfl, hl1, hl2⟩ | ⟨rfl, rfl, hl1, hl2⟩
    all_goals
      go_enter Try.func21, Try.ntmps21
      go_wp2_with fail
      refine (wboth_calls _ _ A A' c c' xs ys _ (H.out.below (below_alloc3 _ _ _ _)) (H'.out.below (below_alloc3 _ _ _ _))).mono ?_
      rintro e w1 ⟨rfl, hb1⟩
      have B1 := Q.hid ((((Bx.new w _ (.slice A xs.length c)).alloc (.cells #[.bool _, .slice A' ys.length c'] 24)).alloc (.cells #[.bool false, .slice none 0 0] 24)).below hb1)
      have B2 := Q.hid (((Bx.new (w.alloc (.cells #[.bool _, .slice A xs.length c] 24)) _ (.slice A' ys.length c')).alloc (.cells #[.bool false, .slice none 0 0] 24)).below hb1)
      have B3 := Q.hid ((Bx.new ((w.alloc (.cells #[.bool _, .slice A xs.length c] 24)).alloc (.cells #[.bool _, .slice A' ys.length c'] 24)) false (.slice none 0 0)).below hb1)
      simp only [World.size_alloc] at B2 B3
      have HB := Q.hid ((below_alloc3 w _ _ _).trans (hb1.mono (by simp; omega)))
      have hg3 : w.heap.size + 1 + 1 < w1.heap.size := B3.out.lt
      clear hb1
      have k10 := B1.out.c0
      have k11 := B1.out.c1
      have k20 := B2.out.c0
      have k21 := B2.out.c1
      have f20 := B2.out.f0
      go_wp2_with fail
      have HBs := Q.hid (fun b : Bool => HB.out.setCell (p := ⟨w.heap.size + 1, 0, none⟩) (Nat.le_succ _) (.bool b))
      have B3s := Q.hid (fun b : Bool => B3.out.far (g' := w.heap.size + 1) (by omega) 0 (.bool b))
      refine (wAdd_calls _ _ A A' c c' xs ys _ (H.out.below (HBs.out _)) (H'.out.below (HBs.out _))).mono ?_
      rintro e w2 ⟨A2, c2, rfl, ho, hb⟩
      have ho2 := ho
      simp only [World.size_setCell] at ho2
      have HO := Q.hid ho2
      have B3 := Q.hid ((B3s.out _).below hb)
      have HB := Q.hid (bs2 (HBs.out _) hb)
      clear ho ho2 hb k10 k11 k20 k21 f20 HBs B3s
      have k30 := B3.out.c0
      have k31 := B3.out.c1
      have f30 := B3.out.f0
      have f31 := B3.out.f1
      go_wp2
      refine bodyPost_ret (by rw [results_cell_tmp rfl]; go_simp; rfl) rfl ?_
      exact ⟨A2, c2, by rw [HF.out], by rw [HF.out]; exact far2 HO.out hg3 (by omega) _ _, below_set2 HB.out (by omega) _ _⟩
  · have hb0 : (chkW2 n xs m ys != 0) = true := by simp [h0]
    have HF : Hid (subW n xs m ys = noW (chkW2 n xs m ys)) := if_neg h0
    clear h0
    go_enter Try.func21, Try.ntmps21
    go_wp2_with fail
    refine (wboth_calls n m A A' c c' xs ys _ (H.out.below (below_alloc3 _ _ _ _)) (H'.out.below (below_alloc3 _ _ _ _))).mono ?_
    rintro e w1 ⟨rfl, hb1⟩
    have B3 := Q.hid ((Bx.new ((w.alloc (.cells #[.bool n, .slice A xs.length c] 24)).alloc (.cells #[.bool m, .slice A' ys.length c'] 24)) false (.slice none 0 0)).below hb1)
    simp only [World.size_alloc] at B3
    have HB := Q.hid ((below_alloc3 w _ _ _).trans (hb1.mono (by simp; omega)))
    clear hb1
    have k30 := B3.out.c0
    have k31 := B3.out.c1
    have f30 := B3.out.f0
    have f31 := B3.out.f1
    go_wp2
    refine bodyPost_ret (by rw [results_cell_tmp rfl]; go_simp; rfl) rfl ?_
    exact ⟨none, 0, by rw [HF.out]; rfl, by rw [HF.out]; exact Ow.nil _ _ _, below_set2 HB.out (by omega) _ _⟩

/-- is a number more than is gone through? -/
def largeB (n : Nat) : Bool := decide (40 < n) && decide (n ≤ 2048)
set_option maxHeartbeats 400000 in
theorem large_calls (n : Bool) (A : Option Addr) (c : Nat) (xs : List Int) (w : World) (hm : xs.length ≤ 9223372036854775807) :
    Calls Try.prog 24 #[.agg #[.bool n, .slice A xs.length c]] w fun e w' => e = .returned (.bool (largeB xs.length)) ∧ Below w.heap.size w w' := by
  by_cases h1 : 40 < xs.length
  · have d1 : decide (40 < (xs.length : Int)) = true := decide_eq_true (by omega)
    have d2 : decide (40 < xs.length) = true := decide_eq_true h1
    by_cases h2 : xs.length ≤ 2048
    · have d3 : decide ((xs.length : Int) ≤ 2048) = true := decide_eq_true (by omega)
      have d4 : decide (xs.length ≤ 2048) = true := decide_eq_true h2
      have HF : Hid (largeB xs.length = true) := by unfold largeB; rw [d2, d4]; rfl
      go_enter Try.func24, Try.ntmps24
      go_wp2
      go_ret
      exact ⟨by rw [HF.out]; rfl, below_alloc1 _ _⟩
    · have d3 : decide ((xs.length : Int) ≤ 2048) = false := decide_eq_false (by omega)
      have d4 : decide (xs.length ≤ 2048) = false := decide_eq_false h2
      have HF : Hid (largeB xs.length = false) := by unfold largeB; rw [d2, d4]; rfl
      go_enter Try.func24, Try.ntmps24
      go_wp2
      go_ret
      exact ⟨by rw [HF.out]; rfl, below_alloc1 _ _⟩
  · have d1 : decide (40 < (xs.length : Int)) = false := decide_eq_false (by omega)
    have d2 : decide (40 < xs.length) = false := decide_eq_false h1
    have HF : Hid (largeB xs.length = false) := by unfold largeB; rw [d2]; rfl
    go_enter Try.func24, Try.ntmps24
    go_wp2
    go_ret
    exact ⟨by rw [HF.out]; rfl, below_alloc1 _ _⟩

end Go.Proofs.Ytidccoahjpjoaaa
