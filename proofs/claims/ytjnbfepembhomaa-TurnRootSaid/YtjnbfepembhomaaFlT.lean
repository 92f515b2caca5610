import Derived.Test.YtjnbfepembhomaaFlS
/- The series of a sine and of a cosine in doubles: how near the squares' sum is to 1. Plain Lean. -/
set_option linter.unusedVariables false
set_option linter.unusedSimpArgs false
namespace Fl
open Ieee Go
/-! ### polynomials -/
def ev : List Rat → Rat → Rat
  | [], _ => 0
  | a :: l, x => a + x * ev l x
def pa : List Rat → List Rat → List Rat
  | [], q => q
  | p, [] => p
  | a :: p, b :: q => (a + b) :: pa p q
def pc (c : Rat) (p : List Rat) : List Rat := p.map (c * ·)
def pm : List Rat → List Rat → List Rat
  | [], _ => []
  | a :: p, q => pa (pc a q) (0 :: pm p q)
theorem ev_pa : ∀ (p q : List Rat) (x : Rat), ev (pa p q) x = ev p x + ev q x
  | [], q, x => by simp [pa, ev, Rat.zero_add]
  | a :: p, [], x => by simp [pa, ev, Rat.add_zero]
  | a :: p, b :: q, x => by simp only [pa, ev, ev_pa p q x]; grind
theorem ev_pc (c : Rat) : ∀ (p : List Rat) (x : Rat), ev (pc c p) x = c * ev p x
  | [], x => by simp [pc, ev, Rat.mul_zero]
  | a :: p, x => by
    have := ev_pc c p x
    unfold pc at this ⊢
    simp only [List.map_cons, ev, this]; grind
theorem ev_pm : ∀ (p q : List Rat) (x : Rat), ev (pm p q) x = ev p x * ev q x
  | [], q, x => by simp [pm, ev, Rat.zero_mul]
  | a :: p, q, x => by simp only [pm, ev_pa, ev_pc, ev, ev_pm p q x]; grind
def ra (a : Rat) : Rat := if a < 0 then -a else a
theorem ra_ab (a : Rat) : Ab a (ra a) := by
  unfold ra
  split <;> constructor <;> grind
def sb (b : Rat) : List Rat → Rat
  | [] => 0
  | a :: l => ra a + b * sb b l
theorem ab_addg {x y a b : Rat} (h : Ab x a) (k : Ab y b) : Ab (x + y) (a + b) := by
  obtain ⟨h1, h2⟩ := h
  obtain ⟨k1, k2⟩ := k
  constructor <;> grind
theorem ab_mono {x a b : Rat} (h : Ab x a) (k : a ≤ b) : Ab x b := by
  obtain ⟨h1, h2⟩ := h
  constructor <;> grind
theorem ev_sb (b : Rat) : ∀ (p : List Rat) (x : Rat), 0 ≤ x → x ≤ b → Ab (ev p x) (sb b p)
  | [], x, _, _ => by simp only [ev, sb]; constructor <;> decide
  | a :: p, x, h0, h1 => by
    have ih := ev_sb b p x h0 h1
    have hx : Ab x b := ⟨by grind, h1⟩
    exact ab_addg (ra_ab a) (ab_mulr hx ih)
/-! ### errors -/
def eps : Rat := 2 ^ (-53 : Int)
def eta : Rat := 2 ^ (-1075 : Int)
theorem nr_ab {c x B : Rat} (h : Nr c x) (hB : Ab x B) : Ab (c - x) (eps * B + eta) := by
  obtain ⟨e, e0, he, hc⟩ := h
  have : e ≤ B := by
    obtain ⟨h1, h2⟩ := hB
    rcases he with rfl | rfl <;> grind
  have h2 := Rat.mul_le_mul_of_nonneg_left this (Rat.le_of_lt (z2pos (-53)))
  refine ab_mono hc ?_
  unfold eps eta
  grind
theorem ab_near {a A M e : Rat} (h : Ab (a - A) e) (hM : Ab A M) : Ab a (M + e) := by
  have := ab_addg hM h
  rwa [show A + (a - A) = a by grind] at this
theorem mul_err {a A b B ea eb MA Mb : Rat} (ha : Ab (a - A) ea) (hb : Ab (b - B) eb) (hA : Ab A MA) (hM : Ab b Mb) : Ab (a * b - A * B) (ea * Mb + MA * eb) := by
  have := ab_addg (ab_mulr ha hM) (ab_mulr hA hb)
  rwa [show (a - A) * b + A * (b - B) = a * b - A * B by grind] at this
/-! ### the series -/
/-- the number of a word -/
def vl (w : Nat) : Rat := match Ieee.double.read w with
  | .number s m p => sg s * ((m : Rat) * 2 ^ p)
  | _ => 0
def fin (w : Nat) : Bool := match Ieee.double.read w with
  | .number _ _ _ => true
  | _ => false
theorem vl_is {w : Nat} (h : fin w = true) : Is w (vl w) := by
  unfold fin at h
  unfold vl
  split at h
  · rename_i s m p hr
    exact ⟨s, m, p, hr, rfl⟩
  · cases h
def go (q : Nat) : List Nat → Nat → Option Nat
  | [], h => some h
  | o :: t, h => (floatBits .mul .f64 h q).bind fun m => (floatBits .add .f64 m o).bind fun s => go q t s
/-- one step: the error e and the bound M, the constant's number o, the square's error d and its bound 5/8 -/
def stp (d e M o : Rat) : Option (Rat × Rat) :=
  let e2 := e * (5 / 8) + M * d + (eps * ((M + e) * (5 / 8)) + eta)
  let B2 := M * (5 / 8) + e2 + ra o
  if (M + e) * (5 / 8) ≤ 1 ∧ B2 ≤ 1 then some (e2 + (eps * B2 + eta), M * (5 / 8) + ra o) else none
def run (d : Rat) : List Nat → Rat → Rat → Option (Rat × Rat)
  | [], e, M => some (e, M)
  | o :: t, e, M => if fin o then (stp d e M (vl o)).bind fun r => run d t r.1 r.2 else none
theorem add_isS {x y : Nat} {a b : Rat} (hx : Is x a) (hy : Is y b) (h : Ab (a + b) 1) : ∃ r c, floatBits .add .f64 x y = some r ∧ Is r c ∧ Ab c 1 ∧ Nr c (a + b) := add_is hx hy 0 (by decide) (by decide) h
theorem go_err (q : Nat) (cq Q d : Rat) (hq : Is q cq) (hqQ : Ab (cq - Q) d) (hQ : Ab Q (5 / 8)) (hcq : Ab cq (5 / 8)) : ∀ (t : List Nat) (h : Nat) (ch : Rat) (p : List Rat) (e M e' M' : Rat), run d t e M = some (e', M') →
    Is h ch → Ab (ch - ev p Q) e → Ab (ev p Q) M → ∃ r c, go q t h = some r ∧ Is r c ∧ Ab (c - ev ((t.map vl).reverse ++ p) Q) e' ∧ Ab (ev ((t.map vl).reverse ++ p) Q) M'
  | [], h, ch, p, e, M, e', M', hr, hh, he, hM => by
    simp only [run, Option.some.injEq, Prod.mk.injEq] at hr
    obtain ⟨rfl, rfl⟩ := hr
    exact ⟨h, ch, rfl, hh, he, hM⟩
  | o :: t, h, ch, p, e, M, e', M', hr, hh, he, hM => by
    unfold run at hr
    split at hr
    · rename_i hf
      obtain ⟨⟨e1, M1⟩, hs, hr⟩ := Option.bind_eq_some_iff.mp hr
      unfold stp at hs
      dsimp only at hs
      split at hs
      · rename_i hb
        obtain ⟨b1, b2⟩ := hb
        injection hs with hs
        injection hs with s1 s2
        have ho := vl_is hf
        have hP : Ab (ch * cq) ((M + e) * (5 / 8)) := ab_mulr (ab_near he hM) hcq
        obtain ⟨m, cm, hm1, hm2, _, hm4⟩ := mul_is hh hq 0 (by decide) (by decide) (ab_mono hP b1)
        have hE := ab_addg (nr_ab hm4 hP) (mul_err he hqQ hM hcq)
        rw [show cm - ch * cq + (ch * cq - ev p Q * Q) = cm - ev p Q * Q by grind] at hE
        generalize hE2 : e * (5 / 8) + M * d + (eps * ((M + e) * (5 / 8)) + eta) = e2 at *
        have hE : Ab (cm - ev p Q * Q) e2 := ab_mono hE (by rw [← hE2]; grind)
        have hMQ := ab_mulr hM hQ
        have hB2 : Ab (cm + vl o) (M * (5 / 8) + e2 + ra (vl o)) := ab_addg (ab_near hE hMQ) (ra_ab _)
        obtain ⟨s, cs, hs1, hs2, _, hs4⟩ := add_isS hm2 ho (ab_mono hB2 b2)
        have hE3 := ab_addg (nr_ab hs4 hB2) hE
        rw [show cs - (cm + vl o) + (cm - ev p Q * Q) = cs - ev (vl o :: p) Q by simp only [ev]; grind] at hE3
        have hE4 : Ab (cs - ev (vl o :: p) Q) e1 := ab_mono hE3 (by rw [← s1]; grind)
        have hM1 : Ab (ev (vl o :: p) Q) M1 := by
          have := ab_addg (ra_ab (vl o)) hMQ
          rw [show vl o + ev p Q * Q = ev (vl o :: p) Q by simp only [ev]; grind] at this
          exact ab_mono this (by rw [← s2]; grind)
        obtain ⟨r, c, hg, hc, hec, hMc⟩ := go_err q cq Q d hq hqQ hQ hcq t s cs (vl o :: p) e1 M1 e' M' hr hs2 hE4 hM1
        refine ⟨r, c, ?_, hc, ?_, ?_⟩
        · unfold go
          rw [hm1, Option.bind_some, hs1, Option.bind_some, hg]
        · simpa using hec
        · simpa using hMc
      · cases hs
    · cases hr

def dq : Rat := eps * (5 / 8) + eta
def sinW : List Nat := [4460272573143870729, 13716528800881525988, 4523617214285662004, 13774824197408792602, 4575957461383581969, 13818544856648471893]
def sin0 : Nat := 13648976655441704991
def cosW : List Nat := [13666517717442657437, 4477122120089393304, 13732177094651715420, 4537941361671905306, 13787419979223755799, 4586165620538955093, 13826050856027422720]
def cos0 : Nat := 4407590220077447199
def sinP : List Rat := (sinW.map vl).reverse ++ [vl sin0]
def cosP : List Rat := (cosW.map vl).reverse ++ [vl cos0]
def res : List Rat := pa (pm (1 :: sinP) (1 :: sinP)) (pa (pc 2 cosP) (0 :: pm cosP cosP))

/-- the two series of a part of an eighth -/
def rootf (a u : Int) : Option (Nat × Nat) :=
  (floatBits .quo .f64 (floatOfInt .f64 a) (floatOfInt .f64 u)).bind fun f =>
  (floatBits .mul .f64 f 4605249457297304856).bind fun y =>
  (floatBits .mul .f64 y y).bind fun q =>
  (floatBits .mul .f64 y q).bind fun yq =>
  (go q sinW sin0).bind fun S =>
  (floatBits .mul .f64 yq S).bind fun t =>
  (floatBits .add .f64 y t).bind fun s =>
  (go q cosW cos0).bind fun C =>
  (floatBits .mul .f64 q C).bind fun m =>
  (floatBits .add .f64 4607182418800017408 m).bind fun c => some (s, c)
theorem rootf_two (a u : Nat) (h0 : 0 < u) (h1 : u < 2 ^ 49) (ha : a < 2 ^ 49) : rootf ((2 * a : Nat) : Int) ((2 * u : Nat) : Int) = rootf (a : Int) (u : Int) := by
  unfold rootf
  rw [quo_two a u h0 h1 ha]
theorem one_is : Is 4607182418800017408 1 := ⟨false, 2 ^ 52, -52, by decide +kernel, by decide +kernel⟩
theorem pi_is : Is 4605249457297304856 (vl 4605249457297304856) := vl_is (by decide +kernel)
theorem run_sin : ∃ e M, run dq sinW 0 (ra (vl sin0)) = some (e, M) ∧ e ≤ 1 / 5 * eps ∧ M ≤ 1 / 5 := by
  refine ⟨((run dq sinW 0 (ra (vl sin0))).getD (0, 0)).1, ((run dq sinW 0 (ra (vl sin0))).getD (0, 0)).2, ?_, ?_, ?_⟩
  · have : (run dq sinW 0 (ra (vl sin0))).isSome = true := by decide +kernel
    obtain ⟨r, hr⟩ := Option.isSome_iff_exists.1 this
    rw [hr]; rfl
  · decide +kernel
  · decide +kernel
theorem run_cos : ∃ e M, run dq cosW 0 (ra (vl cos0)) = some (e, M) ∧ e ≤ 5 / 8 * eps ∧ M ≤ 8 / 15 := by
  refine ⟨((run dq cosW 0 (ra (vl cos0))).getD (0, 0)).1, ((run dq cosW 0 (ra (vl cos0))).getD (0, 0)).2, ?_, ?_, ?_⟩
  · have : (run dq cosW 0 (ra (vl cos0))).isSome = true := by decide +kernel
    obtain ⟨r, hr⟩ := Option.isSome_iff_exists.1 this
    rw [hr]; rfl
  · decide +kernel
  · decide +kernel
theorem res_small : sb (5 / 8) res ≤ 4 / 3 * eps := by decide +kernel
theorem cos_neg : ∃ o r, cosP = o :: r ∧ o = -1 / 2 ∧ 5 / 8 * sb (5 / 8) r ≤ 1 / 4 := by
  refine ⟨cosP.headD 0, cosP.tail, ?_, ?_, ?_⟩
  · decide +kernel
  · decide +kernel
  · decide +kernel
theorem series_at (q : Nat) (cq Q : Rat) (hq : Is q cq) (hqQ : Ab (cq - Q) dq) (hQ : Ab Q (5 / 8)) (hcq : Ab cq (5 / 8)) :
    (∃ S cS, go q sinW sin0 = some S ∧ Is S cS ∧ Ab (cS - ev sinP Q) (1 / 5 * eps) ∧ Ab (ev sinP Q) (1 / 5)) ∧
    (∃ C cC, go q cosW cos0 = some C ∧ Is C cC ∧ Ab (cC - ev cosP Q) (5 / 8 * eps) ∧ Ab (ev cosP Q) (8 / 15)) := by
  have h0 : ∀ o : Rat, Ab (o - ev [o] Q) 0 := fun o => by
    simp only [ev]; constructor <;> grind
  have h1 : ∀ o : Rat, Ab (ev [o] Q) (ra o) := fun o => by
    have := ra_ab o
    simp only [ev]
    rwa [show o + Q * 0 = o by grind]
  constructor
  · obtain ⟨e, M, hr, he, hM⟩ := run_sin
    obtain ⟨r, c, hg, hc, h2, h3⟩ := go_err q cq Q dq hq hqQ hQ hcq sinW sin0 (vl sin0) [vl sin0] 0 (ra (vl sin0)) e M hr (vl_is (by decide +kernel)) (h0 _) (h1 _)
    exact ⟨r, c, hg, hc, ab_mono h2 he, ab_mono h3 hM⟩
  · obtain ⟨e, M, hr, he, hM⟩ := run_cos
    obtain ⟨r, c, hg, hc, h2, h3⟩ := go_err q cq Q dq hq hqQ hQ hcq cosW cos0 (vl cos0) [vl cos0] 0 (ra (vl cos0)) e M hr (vl_is (by decide +kernel)) (h0 _) (h1 _)
    exact ⟨r, c, hg, hc, ab_mono h2 he, ab_mono h3 hM⟩
theorem res_is (Y : Rat) : (Y + Y * (Y * Y) * ev sinP (Y * Y)) * (Y + Y * (Y * Y) * ev sinP (Y * Y)) + (1 + Y * Y * ev cosP (Y * Y)) * (1 + Y * Y * ev cosP (Y * Y)) - 1 = Y * Y * ev res (Y * Y) := by
  unfold res
  simp only [ev_pa, ev_pm, ev_pc, ev]
  grind
theorem root_num (a u : Int) (a0 : 0 ≤ a) (au : a ≤ u) (u0 : 1 ≤ u) (u1 : u ≤ 4294967296) :
    ∃ s c X Z, rootf a u = some (s, c) ∧ Is s X ∧ Is c Z ∧ Ab X 1 ∧ Ab Z 1 ∧ Ab (X * X + Z * Z - 1) (9 * eps) := by
  have ha := int_is a a0 (by omega)
  have hu := int_is u (by omega) (by omega)
  have une : (u : Rat) ≠ 0 := by
    intro h
    have : u = 0 := by exact_mod_cast h
    omega
  have upos : (0 : Rat) < (u : Rat) := by exact_mod_cast (by omega : 0 < u)
  have hq : (a : Rat) / u * u = a := Rat.div_mul_cancel une
  have hqb : Ab ((a : Rat) / u) (2 ^ (0 : Int)) := by
    have h1 : (0 : Rat) ≤ (a : Rat) := by exact_mod_cast a0
    have h2 : (a : Rat) ≤ (u : Rat) := by exact_mod_cast au
    rw [show (2 : Rat) ^ (0 : Int) = 1 from rfl]
    have hnn : (0 : Rat) ≤ (a : Rat) / u := by
      have h3 : 0 * (u : Rat) ≤ (a : Rat) / u * u := by rw [hq, Rat.zero_mul]; exact h1
      exact Rat.le_of_mul_le_mul_right h3 upos
    refine ⟨by grind, ?_⟩
    have h3 : (a : Rat) / u * u ≤ 1 * u := by rw [hq, Rat.one_mul]; exact h2
    exact Rat.le_of_mul_le_mul_right h3 upos
  have E0 : (0 : Rat) < eps := z2pos _
  have E1 : eta ≤ 1 / 1000 * eps := by decide +kernel
  have E2 : eps ≤ 1 / 1000000 := by decide +kernel
  have E3 : (0 : Rat) < eta := z2pos _
  have P0 : Ab (vl 4605249457297304856) (11 / 14 - 1 / 10000) := by constructor <;> decide +kernel
  obtain ⟨f, cf, hf, hfi, hfb⟩ := div_is ha hu une hq 0 (by decide) (by decide) hqb
  rw [show (2 : Rat) ^ (0 : Int) = 1 from rfl] at hfb
  have hfP := ab_mulr hfb P0
  rw [Rat.one_mul] at hfP
  obtain ⟨y, Y, hy, hyi, _, hyn⟩ := mul_is hfi pi_is 0 (by decide) (by decide) (ab_mono hfP (by decide +kernel))
  have hY : Ab Y (11 / 14) := ab_mono (ab_near (nr_ab hyn hfP) hfP) (by decide +kernel)
  have hYY : Ab (Y * Y) (121 / 196) := ab_mono (ab_mulr hY hY) (by decide +kernel)
  have hQ0 : 0 ≤ Y * Y := by
    rcases Rat.le_total (a := 0) (b := Y) with h | h
    · exact Rat.mul_nonneg h h
    · have := Rat.mul_nonneg (show 0 ≤ -Y by grind) (show 0 ≤ -Y by grind)
      grind
  obtain ⟨q, cq, hqq, hqi, _, hqn, hq0, _⟩ := mulS hyi hyi 0 (by decide) (by decide) (ab_mono hYY (by decide +kernel))
  have cq0 : 0 ≤ cq := hq0 hQ0
  have hQ : Ab (Y * Y) (5 / 8) := ab_mono hYY (by decide +kernel)
  have hqQ : Ab (cq - Y * Y) dq := nr_ab hqn hQ
  have hcq : Ab cq (5 / 8) := ab_mono (ab_near (nr_ab hqn hYY) hYY) (by decide +kernel)
  obtain ⟨⟨S, cS, hS, hSi, hSe, hSM⟩, ⟨C, cC, hC, hCi, hCe, hCM⟩⟩ := series_at q cq (Y * Y) hqi hqQ hQ hcq
  generalize hpS : ev sinP (Y * Y) = pS at *
  -- the sine
  have hyq := ab_mulr hY hcq
  obtain ⟨yq, cyq, hyq1, hyqi, _, hyqn⟩ := mul_is hyi hqi 0 (by decide) (by decide) (ab_mono hyq (by decide +kernel))
  have z0 : Ab (Y - Y) 0 := by constructor <;> grind
  have hyqe : Ab (cyq - Y * (Y * Y)) (eps * (11 / 14 * (5 / 8)) + eta + (0 * (5 / 8) + 11 / 14 * dq)) := by
    have := ab_addg (nr_ab hyqn hyq) (mul_err z0 hqQ hY hcq)
    rwa [show cyq - Y * cq + (Y * cq - Y * (Y * Y)) = cyq - Y * (Y * Y) by grind] at this
  have hyqe : Ab (cyq - Y * (Y * Y)) eps := ab_mono hyqe (by decide +kernel)
  have hYQ : Ab (Y * (Y * Y)) (1 / 2) := ab_mono (ab_mulr hY hQ) (by decide +kernel)
  have hcyq := ab_near hyqe hYQ
  have hcS := ab_near hSe hSM
  have hts := ab_mulr hcyq hcS
  obtain ⟨t, ct, ht, hti, _, htn⟩ := mul_is hyqi hSi 0 (by decide) (by decide) (ab_mono hts (by decide +kernel))
  have hte : Ab (ct - Y * (Y * Y) * pS) (1 / 2 * eps) := by
    have := ab_addg (nr_ab htn hts) (mul_err hyqe hSe hYQ hcS)
    rw [show ct - cyq * cS + (cyq * cS - Y * (Y * Y) * pS) = ct - Y * (Y * Y) * pS by grind] at this
    refine ab_mono this ?_
    decide +kernel
  have hYS : Ab (Y * (Y * Y) * pS) (1 / 10) := ab_mono (ab_mulr hYQ hSM) (by decide +kernel)
  have hst := ab_addg hY (ab_near hte hYS)
  obtain ⟨s, X, hs, hsi, _, hsn⟩ := add_isS hyi hti (ab_mono hst (by decide +kernel))
  have hXe : Ab (X - (Y + Y * (Y * Y) * pS)) (3 / 2 * eps) := by
    have := ab_addg (nr_ab hsn hst) hte
    rw [show X - (Y + ct) + (ct - Y * (Y * Y) * pS) = X - (Y + Y * (Y * Y) * pS) by grind] at this
    exact ab_mono this (by decide +kernel)
  have hXE : Ab (Y + Y * (Y * Y) * pS) (9 / 10) := ab_mono (ab_addg hY hYS) (by decide +kernel)
  have hX := ab_near hXe hXE
  -- the cosine
  have hCneg : cC ≤ 0 := by
    obtain ⟨o, r, hp, ho, hr⟩ := cos_neg
    have h1 := ev_sb (5 / 8) r (Y * Y) hQ0 hQ.2
    have h2 := ab_mulr hQ h1
    have h3 : ev cosP (Y * Y) = o + Y * Y * ev r (Y * Y) := by rw [hp]; rfl
    rw [h3] at hCe
    have h4 := hCe.2
    have h5 := h2.2
    grind
  generalize hpC : ev cosP (Y * Y) = pC at *
  have hcC := ab_near hCe hCM
  have hmb := ab_mulr hcq hcC
  have hm0 : cq * cC ≤ 0 := by
    have := Rat.mul_nonneg cq0 (show 0 ≤ -cC by grind)
    grind
  obtain ⟨m, cm, hm, hmi, hmb1, hmn, _, hmneg⟩ := mulS hqi hCi 0 (by decide) (by decide) (ab_mono hmb (by decide +kernel))
  have hme : Ab (cm - Y * Y * pC) (11 / 10 * eps) := by
    have := ab_addg (nr_ab hmn hmb) (mul_err hqQ hCe hQ hcC)
    rw [show cm - cq * cC + (cq * cC - Y * Y * pC) = cm - Y * Y * pC by grind] at this
    exact ab_mono this (by decide +kernel)
  have h1m : Ab (1 + cm) 1 := by
    have h1 := hmneg hm0
    have h2 := hmb1.1
    rw [show (2 : Rat) ^ (0 : Int) = 1 from rfl] at h2
    constructor <;> grind
  obtain ⟨c, Z, hc, hci, hcb, hcn⟩ := add_isS one_is hmi h1m
  have hZe : Ab (Z - (1 + Y * Y * pC)) (11 / 5 * eps) := by
    have := ab_addg (nr_ab hcn h1m) hme
    rw [show Z - (1 + cm) + (cm - Y * Y * pC) = Z - (1 + Y * Y * pC) by grind] at this
    exact ab_mono this (by decide +kernel)
  have hZE : Ab (1 + Y * Y * pC) (1 + 1 / 1000) := by
    have := ab_near (show Ab (1 + Y * Y * pC - Z) (11 / 5 * eps) by
      obtain ⟨h1, h2⟩ := hZe
      constructor <;> grind) hcb
    exact ab_mono this (by decide +kernel)
  refine ⟨s, c, X, Z, ?_, hsi, hci, ab_mono hX (by decide +kernel), hcb, ?_⟩
  · unfold rootf
    rw [hf, Option.bind_some, hy, Option.bind_some, hqq, Option.bind_some, hyq1, Option.bind_some, hS, Option.bind_some, ht, Option.bind_some, hs, Option.bind_some, hC, Option.bind_some, hm, Option.bind_some, hc, Option.bind_some]
  · have hR := ab_mulr hQ (ev_sb (5 / 8) res (Y * Y) hQ0 hQ.2)
    rw [← res_is, hpS, hpC] at hR
    have hR := ab_mono hR (show 5 / 8 * sb (5 / 8) res ≤ 5 / 6 * eps by have := res_small; grind)
    generalize hX0 : Y + Y * (Y * Y) * pS = X0 at *
    generalize hZ0 : 1 + Y * Y * pC = Z0 at *
    have k1 := mul_err hXe hXe hXE hX
    have k2 := mul_err hZe hZe hZE hcb
    have := ab_addg hR (ab_addg k1 k2)
    rw [show X0 * X0 + Z0 * Z0 - 1 + (X * X - X0 * X0 + (Z * Z - Z0 * Z0)) = X * X + Z * Z - 1 by grind] at this
    exact ab_mono this (by decide +kernel)
theorem sub_is {x y : Nat} {a b : Rat} (hx : Is x a) (hy : Is y b) (k : Int) (hk0 : -1074 ≤ k) (hk1 : k ≤ 1023) (h : Ab (a - b) (2 ^ k)) :
    ∃ r c, floatBits .sub .f64 x y = some r ∧ Is r c ∧ Ab c (2 ^ k) ∧ Nr c (a - b) := by
  obtain ⟨s, m, i, hr, rfl⟩ := hx
  obtain ⟨t, n, j, hr', rfl⟩ := hy
  generalize hT : signed s m (i - min i j).toNat + signed (!t) n (j - min i j).toNat = T
  have hv : sg (if T = 0 then s && !t else decide (T < 0)) * (((T.natAbs : Nat) : Rat) * 2 ^ (min i j)) = sg s * ((m : Rat) * 2 ^ i) - sg t * ((n : Rat) * 2 ^ j) := by
    rw [← Rat.mul_assoc, sg_abs, ← hT, Rat.intCast_add, signed_rat, signed_rat, Int.toNat_of_nonneg (by omega), Int.toNat_of_nonneg (by omega)]
    have e1 : (2 : Rat) ^ i = 2 ^ (i - min i j) * 2 ^ (min i j) := by rw [← z2]; congr 1; omega
    have e2 : (2 : Rat) ^ j = 2 ^ (j - min i j) * 2 ^ (min i j) := by rw [← z2]; congr 1; omega
    have e3 : sg (!t) = -sg t := by cases t <;> decide +kernel
    rw [e1, e2, e3]
    grind
  obtain ⟨c, hc, hb, _, hn⟩ := wr _ T.natAbs (min i j) k _ hv hk0 hk1 h
  refine ⟨_, c, ?_, hc, hb, hn⟩
  show Option.map Ieee.double.write ((Ieee.double.read x).sum (Ieee.double.read y).opposite) = _
  rw [hr, hr']
  simp only [Datum.opposite, Datum.sum, hT]
  rfl
/-- the size's distance from 1, as doubles tell it -/
theorem dist {x z : Nat} {X Z : Rat} (hx : Is x X) (hz : Is z Z) (X1 : Ab X 1) (Z1 : Ab Z 1) (h : Ab (X * X + Z * Z - 1) (9 * eps)) :
    ∃ r1 r2 r3 r4 D, floatBits .mul .f64 x x = some r1 ∧ floatBits .mul .f64 z z = some r2 ∧ floatBits .add .f64 r1 r2 = some r3 ∧ floatBits .sub .f64 r3 4607182418800017408 = some r4 ∧ Is r4 D ∧ Ab D (2 ^ (-49 : Int)) := by
  have b1 := ab_mulr X1 X1
  have b2 := ab_mulr Z1 Z1
  rw [Rat.one_mul] at b1 b2
  obtain ⟨r1, c1, h1, i1, _, n1⟩ := mul_is hx hx 0 (by decide) (by decide) (ab_mono b1 (by decide +kernel))
  obtain ⟨r2, c2, h2, i2, _, n2⟩ := mul_is hz hz 0 (by decide) (by decide) (ab_mono b2 (by decide +kernel))
  have e1 := nr_ab n1 b1
  have e2 := nr_ab n2 b2
  have e12 := ab_addg e1 e2
  rw [show c1 - X * X + (c2 - Z * Z) = c1 + c2 - (X * X + Z * Z) by grind] at e12
  have b3 : Ab (c1 + c2) 3 := by
    have := ab_near e12 (ab_addg b1 b2)
    exact ab_mono this (by decide +kernel)
  obtain ⟨r3, c3, h3, i3, _, n3⟩ := add_is i1 i2 2 (by decide) (by decide) (ab_mono b3 (by decide +kernel))
  have e3 := ab_addg (ab_addg (nr_ab n3 b3) e12) h
  rw [show c3 - (c1 + c2) + (c1 + c2 - (X * X + Z * Z)) + (X * X + Z * Z - 1) = c3 - 1 by grind] at e3
  obtain ⟨r4, c4, h4, i4, _, n4⟩ := sub_is i3 one_is 0 (by decide) (by decide) (ab_mono e3 (by decide +kernel))
  refine ⟨r1, r2, r3, r4, c4, h1, h2, h3, h4, i4, ?_⟩
  have := ab_near (nr_ab n4 e3) e3
  exact ab_mono this (by decide +kernel)
end Fl
