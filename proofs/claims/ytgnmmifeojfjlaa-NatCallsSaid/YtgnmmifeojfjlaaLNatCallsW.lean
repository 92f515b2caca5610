/- The walk of NatCalls. -/
import Derived.Test.YtgnmmifeojfjlaaQRef8
import Derived.Test.YtgnmmifeojfjlaaQApt
import Derived.Test.YtgnmmifeojfjlaaLNatListsW
set_option linter.unusedVariables false
set_option linter.unusedSimpArgs false
namespace Go.Proofs.Ytgnmmifeojfjlaa
open Go Go.RowKit Q

set_option maxHeartbeats 400000 in
theorem one_calls (A A' A'' : Option Addr) (c c' c'' : Nat) (xs : List Int) (e : Int) (w : World) (h : Rd w A xs) (h' : Rd w A' xs) (h'' : Rd w A'' xs) (hl : xs.length ≤ 9223372036854775807) :
    Calls Try.prog 32 #[.slice A xs.length c, .slice A' xs.length c', .slice A'' xs.length c'', .int .i64 e, .int .i64 e, .int .i64 e] w fun r w' => r = .returned (.bool true) ∧ Dr w w' := by
  have H := Q.hid h
  have H' := Q.hid h'
  have H'' := Q.hid h''
  clear h h' h''
  have he : (e == e) = true := by simp
  go_enter Try.func32, Try.ntmps32
  go_wp2_with fail
  refine (SameWords_eq A A'' c c'' xs _ H.out H''.out hl).mono ?_
  rintro r w1 ⟨rfl, ⟨n1, rfl⟩⟩
  go_wp2_with fail
  refine (SameWords_eq A' A'' c' c'' xs _ (H'.out.drewN _) (H''.out.drewN _) hl).mono ?_
  rintro r w1 ⟨rfl, ⟨n2, rfl⟩⟩
  go_wp2
  go_ret
  exact ⟨rfl, by first | exact ⟨_, rfl⟩ | exact Dr.step ⟨_, rfl⟩ _⟩

/-- rows that can be read -/
def Kp (w : World) (l : List (Value × List Int)) : Prop := ∀ x ∈ l, ∃ A c, x.1 = .slice A x.2.length c ∧ Rd w A x.2
/-- what is known as the calls go on -/
structure Sq (w0 wk : World) (A A' A1 A2 : Option Addr) (c c' c1 c2 : Nat) (xs ys : List Int) (l m : List (Value × List Int)) : Prop where
  p : In wk A1 c1 xs
  q : In wk A2 c2 ys
  x : In wk A c xs
  y : In wk A' c' ys
  own : Apt wk w0.heap.size wk.heap.size l
  ref : Kp wk m
  below : Below w0.heap.size w0 wk
theorem Sq.more {w0 wk w' : World} {A A' A1 A2 : Option Addr} {c c' c1 c2 : Nat} {xs ys : List Int} {l m r : List (Value × List Int)} (h : Sq w0 wk A A' A1 A2 c c' c1 c2 xs ys l m) (hb : Below wk.heap.size wk w') (k : Apt w' wk.heap.size w'.heap.size r) : Sq w0 w' A A' A1 A2 c c' c1 c2 xs ys (l ++ r) m :=
  ⟨h.p.below hb, h.q.below hb, h.x.below hb, h.y.below hb, h.own.more hb (Nat.le_refl _) k, fun x hx => by
    obtain ⟨a, b, e, hr⟩ := h.ref x hx
    exact ⟨a, b, e, hr.below hb⟩, bs2 h.below hb⟩
theorem Sq.ref1 {w0 wk w' : World} {A A' A1 A2 A3 : Option Addr} {c c' c1 c2 : Nat} {xs ys zs : List Int} {l m : List (Value × List Int)} (h : Sq w0 wk A A' A1 A2 c c' c1 c2 xs ys l m) (hb : Below wk.heap.size wk w') (k : Rd w' A3 zs) (c3 : Nat) : Sq w0 w' A A' A1 A2 c c' c1 c2 xs ys l (m ++ [(.slice A3 zs.length c3, zs)]) :=
  ⟨h.p.below hb, h.q.below hb, h.x.below hb, h.y.below hb, (h.own.below hb).wider hb.size, fun x hx => by
    rcases List.mem_append.1 hx with hx | hx
    · obtain ⟨a, b, e, hr⟩ := h.ref x hx
      exact ⟨a, b, e, hr.below hb⟩
    · simp at hx; subst hx; exact ⟨A3, c3, rfl, k⟩, bs2 h.below hb⟩
theorem Sq.drewN {w0 wk : World} {A A' A1 A2 : Option Addr} {c c' c1 c2 : Nat} {xs ys : List Int} {l m : List (Value × List Int)} (h : Sq w0 wk A A' A1 A2 c c' c1 c2 xs ys l m) (n : Nat) : Sq w0 (wk.drewN n) A A' A1 A2 c c' c1 c2 xs ys l m :=
  ⟨h.p.drewN n, h.q.drewN n, h.x.drewN n, h.y.drewN n, ⟨fun x hx => ⟨(h.own.all x hx).1.drewN n, (h.own.all x hx).2⟩, h.own.dis, h.own.le⟩, fun x hx => h.ref x hx, below_drewN h.below n⟩
theorem Sq.rd {w0 wk : World} {A A' A1 A2 B : Option Addr} {c c' c1 c2 b : Nat} {xs ys zs : List Int} {l m : List (Value × List Int)} (h : Sq w0 wk A A' A1 A2 c c' c1 c2 xs ys l m) (hx : (Value.slice B zs.length b, zs) ∈ l) : Rd wk B zs := (h.own.all _ hx).1.read.2.2.2
theorem Sq.rr {w0 wk : World} {A A' A1 A2 B : Option Addr} {c c' c1 c2 b : Nat} {xs ys zs : List Int} {l m : List (Value × List Int)} (h : Sq w0 wk A A' A1 A2 c c' c1 c2 xs ys l m) (hx : (Value.slice B zs.length b, zs) ∈ m) : Rd wk B zs := by
  obtain ⟨a, d, e, hr⟩ := h.ref _ hx
  injection e with e1 e2 e3
  subst e1
  exact hr

set_option maxHeartbeats 4000000 in
set_option maxRecDepth 100000 in
theorem NatCalls_walk (A A' : Option Addr) (c c' : Nat) (xs ys : List Int) (w : World) (h : In w A c xs) (h' : In w A' c' ys) :
    Calls Try.prog 4 #[.slice A xs.length c, .slice A' ys.length c'] w fun e w' => e = .returned (.bool true) ∧ Below w.heap.size w w' := by
  have H := Q.hid h
  have H' := Q.hid h'
  clear h h'
  have hm : xs.length ≤ 9223372036854775807 := by have := H.out.small; omega
  have hm' : ys.length ≤ 9223372036854775807 := by have := H'.out.small; omega
  go_enter Try.func4, Try.ntmps4
  go_wp2_with fail
  refine (heavy_calls A c xs.length _ hm).mono ?_
  rintro e w1 ⟨rfl, rfl⟩
  cases hb : heavyB xs.length with
  | true =>
    clear hb
    go_wp2
    go_ret
    exact ⟨rfl, Below.refl _ _⟩
  | false =>
    have hs : xs.length ≤ 8201 := heavy_small hb
    clear hb
    go_wp2_with fail
    refine (heavy_calls A' c' ys.length _ hm').mono ?_
    rintro e w1 ⟨rfl, rfl⟩
    cases hb : heavyB ys.length with
    | true =>
      clear hb
      go_wp2
      go_ret
      exact ⟨rfl, Below.refl _ _⟩
    | false =>
      have hs' : ys.length ≤ 8201 := heavy_small hb
      clear hb
      go_wp2_with fail
      refine (LentWords_calls A c xs _ H.out.rd H.out.small).mono ?_
      rintro e w1 ⟨v1, rfl, ho, hb⟩
      obtain ⟨A1, c1, e1, _⟩ := ho.slice
      subst e1
      have HB1 := Q.hid hb
      have F1 := Q.hid ho
      clear hb ho
      go_wp2_with fail
      refine (LentWords_calls A' c' ys _ (H'.out.rd.below HB1.out) H'.out.small).mono ?_
      rintro e w2 ⟨v2, rfl, ho, hb⟩
      obtain ⟨A2, c2, e2, _⟩ := ho.slice
      subst e2
      have HB2 := Q.hid hb
      have F2 := Q.hid ho
      clear hb ho
      have hc1 : (lent xs).length ≤ c1 := F1.out.read.2.1
      have hc2 : (lent ys).length ≤ c2 := F2.out.read.2.1
      have hd1 : xs.length ≤ c1 := by rw [lent_length] at hc1; omega
      have hd2 : ys.length ≤ c2 := by rw [lent_length] at hc2; omega
      clear hc1 hc2
      have FP : Hid (In w2 A1 c1 xs) := ⟨by have := (F1.out.below HB2.out).read.2.2.2.take xs.length; rwa [lent_take] at this, hd1, by omega, H.out.wds⟩
      have FQ : Hid (In w2 A2 c2 ys) := ⟨by have := F2.out.read.2.2.2.take ys.length; rwa [lent_take] at this, hd2, by omega, H'.out.wds⟩
      have SQ : Hid (∀ n, Sq w (w2.drewN n) A A' A1 A2 c c' c1 c2 xs ys [(.slice A1 (lent xs).length c1, lent xs), (.slice A2 (lent ys).length c2, lent ys)] []) := fun n =>
        Sq.drewN ⟨FP.out, FQ.out, H.out.below (bs2 HB1.out HB2.out), H'.out.below (bs2 HB1.out HB2.out),
          (Apt.one F1.out (lent_wds H.out.wds) (by rw [lent_length]; omega) HB1.out.size).more HB2.out (Nat.le_refl _) (Apt.one F2.out (lent_wds H'.out.wds) (by rw [lent_length]; omega) HB2.out.size),
          fun x hx => by simp at hx, bs2 HB1.out HB2.out⟩ n
      go_wp2
      go_quiet (fail)
      have SQ2 := Q.hid (SQ.out nq)
      clear SQ FP FQ hd1 hd2
      go_wp2_with fail
      refine (Add_calls A1 A2 c1 c2 xs ys _ SQ2.out.p SQ2.out.q).mono ?_
      rintro e w3 ⟨v, rfl, ho, hb⟩
      obtain ⟨A3, c3, e3, _⟩ := ho.slice
      subst e3
      have SQ3 := Q.hid (SQ2.out.more hb (Apt.one ho (addS_wds xs ys) (by have := addS_len xs ys; omega) hb.size))
      clear ho hb SQ2
      go_wp2_with fail
      refine (Add_calls A1 A2 c1 c2 xs ys _ SQ3.out.p SQ3.out.q).mono ?_
      rintro e w4 ⟨v, rfl, ho, hb⟩
      obtain ⟨A4, c4, e4, _⟩ := ho.slice
      subst e4
      have SQ4 := Q.hid (SQ3.out.more hb (Apt.one ho (addS_wds xs ys) (by have := addS_len xs ys; omega) hb.size))
      clear ho hb SQ3
      go_wp2_with fail
      refine (rAdd_calls A A' c c' xs ys _ SQ4.out.x SQ4.out.y).mono ?_
      rintro e w5 ⟨v, rfl, ho, hb⟩
      obtain ⟨A5, c5, e5, _⟩ := ho.slice
      subst e5
      have SQ5 := Q.hid (SQ4.out.ref1 hb ho.read.2.2.2 c5)
      clear ho hb SQ4
      go_wp2_with fail
      refine (Sub_calls A1 A2 c1 c2 xs ys _ SQ5.out.p SQ5.out.q).mono ?_
      rintro e w6 ⟨v, rfl, ho, hb⟩
      obtain ⟨A6, c6, e6, _⟩ := ho.slice
      subst e6
      have SQ6 := Q.hid (SQ5.out.more hb (Apt.one ho (subS_wds xs ys) (by have := subS_len xs ys H.out.wds H'.out.wds; omega) hb.size))
      clear ho hb SQ5
      go_wp2_with fail
      refine (Sub_calls A1 A2 c1 c2 xs ys _ SQ6.out.p SQ6.out.q).mono ?_
      rintro e w7 ⟨v, rfl, ho, hb⟩
      obtain ⟨A7, c7, e7, _⟩ := ho.slice
      subst e7
      have SQ7 := Q.hid (SQ6.out.more hb (Apt.one ho (subS_wds xs ys) (by have := subS_len xs ys H.out.wds H'.out.wds; omega) hb.size))
      clear ho hb SQ6
      go_wp2_with fail
      refine (rSub_calls A A' c c' xs ys _ SQ7.out.x SQ7.out.y).mono ?_
      rintro e w8 ⟨v, rfl, ho, hb⟩
      obtain ⟨A8, c8, e8, _⟩ := ho.slice
      subst e8
      have SQ8 := Q.hid (SQ7.out.ref1 hb ho.read.2.2.2 c8)
      clear ho hb SQ7
      go_wp2_with fail
      refine (Mul_calls A1 A2 c1 c2 xs ys _ SQ8.out.p SQ8.out.q).mono ?_
      rintro e w9 ⟨v, rfl, ho, hb⟩
      obtain ⟨A9, c9, e9, _⟩ := ho.slice
      subst e9
      have SQ9 := Q.hid (SQ8.out.more hb (Apt.one ho (mulS_wds xs ys) (by have := mulS_len xs ys; omega) hb.size))
      clear ho hb SQ8
      go_wp2_with fail
      refine (Mul_calls A1 A2 c1 c2 xs ys _ SQ9.out.p SQ9.out.q).mono ?_
      rintro e w10 ⟨v, rfl, ho, hb⟩
      obtain ⟨A10, c10, e10, _⟩ := ho.slice
      subst e10
      have SQ10 := Q.hid (SQ9.out.more hb (Apt.one ho (mulS_wds xs ys) (by have := mulS_len xs ys; omega) hb.size))
      clear ho hb SQ9
      go_wp2_with fail
      refine (rMul_calls A A' c c' xs ys _ SQ10.out.x SQ10.out.y).mono ?_
      rintro e w11 ⟨v, rfl, ho, hb⟩
      obtain ⟨A11, c11, e11, _⟩ := ho.slice
      subst e11
      have SQ11 := Q.hid (SQ10.out.ref1 hb ho.read.2.2.2 c11)
      clear ho hb SQ10
      go_wp2_with fail
      refine (DivMod_calls A1 A2 c1 c2 xs ys _ SQ11.out.p SQ11.out.q).mono ?_
      rintro e w12 ⟨v, v', rfl, ho, ho', ha, hb⟩
      obtain ⟨A12, c12, e12, _⟩ := ho.slice
      subst e12
      obtain ⟨B12, b12, e12, _⟩ := ho'.slice
      subst e12
      have SQ12 := Q.hid (SQ11.out.more hb (Apt.two ho ho' ha (divS_wds xs ys).1 (divS_wds xs ys).2 (by have := (divS_len xs ys H.out.wds H'.out.wds).1; omega) (by have := (divS_len xs ys H.out.wds H'.out.wds).2; omega) hb.size))
      clear ho' ha
      clear ho hb SQ11
      go_wp2_with fail
      refine (DivMod_calls A1 A2 c1 c2 xs ys _ SQ12.out.p SQ12.out.q).mono ?_
      rintro e w13 ⟨v, v', rfl, ho, ho', ha, hb⟩
      obtain ⟨A13, c13, e13, _⟩ := ho.slice
      subst e13
      obtain ⟨B13, b13, e13, _⟩ := ho'.slice
      subst e13
      have SQ13 := Q.hid (SQ12.out.more hb (Apt.two ho ho' ha (divS_wds xs ys).1 (divS_wds xs ys).2 (by have := (divS_len xs ys H.out.wds H'.out.wds).1; omega) (by have := (divS_len xs ys H.out.wds H'.out.wds).2; omega) hb.size))
      clear ho' ha
      clear ho hb SQ12
      go_wp2_with fail
      refine (rDivMod_calls A A' c c' xs ys _ SQ13.out.x SQ13.out.y).mono ?_
      rintro e w14 ⟨v, v', rfl, ho, ho', hb⟩
      obtain ⟨A14, c14, e14, _⟩ := ho.slice
      subst e14
      obtain ⟨B14, b14, e14, _⟩ := ho'.slice
      subst e14
      have SQ14 := Q.hid ((SQ13.out.ref1 hb ho.read.2.2.2 c14).ref1 (Below.refl _ _) ho'.read.2.2.2 b14)
      clear ho'
      clear ho hb SQ13
      go_wp2_with fail
      refine (Gcd_calls A1 A2 c1 c2 xs ys _ SQ14.out.p SQ14.out.q).mono ?_
      rintro e w15 ⟨v, rfl, ho, hb⟩
      obtain ⟨A15, c15, e15, _⟩ := ho.slice
      subst e15
      have SQ15 := Q.hid (SQ14.out.more hb (Apt.one ho (gcdS_wds xs ys) (by have := gcdS_len xs ys H.out.wds H'.out.wds; omega) hb.size))
      clear ho hb SQ14
      go_wp2_with fail
      refine (Gcd_calls A1 A2 c1 c2 xs ys _ SQ15.out.p SQ15.out.q).mono ?_
      rintro e w16 ⟨v, rfl, ho, hb⟩
      obtain ⟨A16, c16, e16, _⟩ := ho.slice
      subst e16
      have SQ16 := Q.hid (SQ15.out.more hb (Apt.one ho (gcdS_wds xs ys) (by have := gcdS_len xs ys H.out.wds H'.out.wds; omega) hb.size))
      clear ho hb SQ15
      go_wp2_with fail
      refine (rGcd_calls A A' c c' xs ys _ SQ16.out.x SQ16.out.y).mono ?_
      rintro e w17 ⟨v, rfl, ho, hb⟩
      obtain ⟨A17, c17, e17, _⟩ := ho.slice
      subst e17
      have SQ17 := Q.hid (SQ16.out.ref1 hb ho.read.2.2.2 c17)
      clear ho hb SQ16
      -- END SQ17 w17
      go_wp2_with fail
      refine (one_calls A3 A4 A5 c3 c4 c5 ((addS xs ys).1) ((addS xs ys).2) _ (SQ17.out.rd (b := c3) (by simp)) (SQ17.out.rd (b := c4) (by simp)) (SQ17.out.rr (b := c5) (by simp)) (by have := addS_len xs ys; omega)).mono ?_
      rintro e w18 ⟨rfl, ⟨n0, rfl⟩⟩
      go_wp2_with fail
      refine (one_calls A6 A7 A8 c6 c7 c8 ((subS xs ys).1) ((subS xs ys).2) _ ((SQ17.out.drewN _).rd (b := c6) (by simp)) ((SQ17.out.drewN _).rd (b := c7) (by simp)) ((SQ17.out.drewN _).rr (b := c8) (by simp)) (by have := subS_len xs ys H.out.wds H'.out.wds; omega)).mono ?_
      rintro e w18 ⟨rfl, ⟨n1, rfl⟩⟩
      go_wp2_with fail
      refine (one_calls A9 A10 A11 c9 c10 c11 ((mulS xs ys).1) ((mulS xs ys).2) _ ((SQ17.out.drewN _).rd (b := c9) (by simp)) ((SQ17.out.drewN _).rd (b := c10) (by simp)) ((SQ17.out.drewN _).rr (b := c11) (by simp)) (by have := mulS_len xs ys; omega)).mono ?_
      rintro e w18 ⟨rfl, ⟨n2, rfl⟩⟩
      go_wp2_with fail
      refine (one_calls A12 A13 A14 c12 c13 c14 ((divS xs ys).1) ((divS xs ys).2.2) _ ((SQ17.out.drewN _).rd (b := c12) (by simp)) ((SQ17.out.drewN _).rd (b := c13) (by simp)) ((SQ17.out.drewN _).rr (b := c14) (by simp)) (by have := (divS_len xs ys H.out.wds H'.out.wds).1; omega)).mono ?_
      rintro e w18 ⟨rfl, ⟨n3, rfl⟩⟩
      go_wp2_with fail
      refine (one_calls B12 B13 B14 b12 b13 b14 ((divS xs ys).2.1) ((divS xs ys).2.2) _ ((SQ17.out.drewN _).rd (b := b12) (by simp)) ((SQ17.out.drewN _).rd (b := b13) (by simp)) ((SQ17.out.drewN _).rr (b := b14) (by simp)) (by have := (divS_len xs ys H.out.wds H'.out.wds).2; omega)).mono ?_
      rintro e w18 ⟨rfl, ⟨n4, rfl⟩⟩
      go_wp2_with fail
      refine (one_calls A15 A16 A17 c15 c16 c17 ((gcdS xs ys).1) ((gcdS xs ys).2) _ ((SQ17.out.drewN _).rd (b := c15) (by simp)) ((SQ17.out.drewN _).rd (b := c16) (by simp)) ((SQ17.out.drewN _).rr (b := c17) (by simp)) (by have := gcdS_len xs ys H.out.wds H'.out.wds; omega)).mono ?_
      rintro e w18 ⟨rfl, ⟨n5, rfl⟩⟩
      have hk1 : decide (lent xs = lent xs) = true := by simp
      have hk2 : decide (lent ys = lent ys) = true := by simp
      go_wp2_with fail
      refine (KeptWords_calls A1 A c1 c (lent xs) xs _ ((SQ17.out.drewN _).rd (b := c1) (by simp)) (SQ17.out.drewN _).x.rd H.out.small (by rw [lent_length]; omega)).mono ?_
      rintro e w18 ⟨rfl, hb⟩
      have HB18 : Hid (Below w17.heap.size w17 w18) := below_of_drewN hb
      clear hb
      go_wp2_with fail
      refine (KeptWords_calls A2 A' c2 c' (lent ys) ys _ ((SQ17.out.rd (b := c2) (by simp)).below HB18.out) (SQ17.out.y.rd.below HB18.out) H'.out.small (by rw [lent_length]; omega)).mono ?_
      rintro e w19 ⟨rfl, hb⟩
      have HB19 : Hid (Below w17.heap.size w17 w19) := bs2 HB18.out hb
      clear hb
      have HA : Hid (Apt w19 w.heap.size w17.heap.size [(Value.slice A1 (lent xs).length c1, lent xs), (Value.slice A2 (lent ys).length c2, lent ys), (Value.slice A3 ((addS xs ys).1).length c3, (addS xs ys).1), (Value.slice A4 ((addS xs ys).1).length c4, (addS xs ys).1), (Value.slice A6 ((subS xs ys).1).length c6, (subS xs ys).1), (Value.slice A7 ((subS xs ys).1).length c7, (subS xs ys).1), (Value.slice A9 ((mulS xs ys).1).length c9, (mulS xs ys).1), (Value.slice A10 ((mulS xs ys).1).length c10, (mulS xs ys).1), (Value.slice A12 ((divS xs ys).1).length c12, (divS xs ys).1), (Value.slice A13 ((divS xs ys).1).length c13, (divS xs ys).1), (Value.slice B12 ((divS xs ys).2.1).length b12, (divS xs ys).2.1), (Value.slice B13 ((divS xs ys).2.1).length b13, (divS xs ys).2.1), (Value.slice A15 ((gcdS xs ys).1).length c15, (gcdS xs ys).1), (Value.slice A16 ((gcdS xs ys).1).length c16, (gcdS xs ys).1)]) :=
        (SQ17.out.own.below HB19.out).perm (List.Perm.append_left [(Value.slice A1 (lent xs).length c1, lent xs), (Value.slice A2 (lent ys).length c2, lent ys), (Value.slice A3 ((addS xs ys).1).length c3, (addS xs ys).1), (Value.slice A4 ((addS xs ys).1).length c4, (addS xs ys).1), (Value.slice A6 ((subS xs ys).1).length c6, (subS xs ys).1), (Value.slice A7 ((subS xs ys).1).length c7, (subS xs ys).1), (Value.slice A9 ((mulS xs ys).1).length c9, (mulS xs ys).1), (Value.slice A10 ((mulS xs ys).1).length c10, (mulS xs ys).1)] (List.Perm.cons _ (List.Perm.swap _ _ _)))
      have HR : Hid (Below w.heap.size w w19) := bs2 SQ17.out.below HB19.out
      go_wp2_with fail
      refine (ApartWords_calls _ 14 w.heap.size _ _ _ (HA.out.rows HB19.out.size) (Nat.le_trans HR.out.size (by simp)) (by simp)).mono ?_
      rintro e w20 ⟨rfl, hb⟩
      have HB20 := Q.hid hb
      clear hb
      go_wp2
      go_ret
      exact ⟨rfl, (HR.out.alloc HR.out.size _).trans HB20.out⟩
end Go.Proofs.Ytgnmmifeojfjlaa
