import Derived.Test.YtcddhfidbhcgdaaDoorTCo
import Derived.Test.YtcddhfidbhcgdaaDoorFl
/- The number at a turn is never a NaN: no step of the series is. -/
set_option linter.unusedVariables false
set_option linter.unusedSimpArgs false
namespace Go.Proofs.YtcddhfidbhcgdaaDoor.TG
open Go Go.RowKit Go.Proofs.YtcddhfidbhcgdaaDoor.PK8 Go.Proofs.YtcddhfidbhcgdaaDoorW.PrintWords Fl
def okc (x : Nat) : Bool := match turn_over.v x with
  | some r => bnd r 0
  | none => false
theorem okc_is {x : Nat} (h : okc x = true) : ∃ r c, turn_over.v x = some r ∧ Is r c ∧ Ab c (2 ^ (0 : Int)) := by
  unfold okc at h
  split at h
  · rename_i r hr
    obtain ⟨c, h1, h2⟩ := bnd_is h
    exact ⟨r, c, hr, h1, h2⟩
  · cases h
theorem go_fin (q : Nat) (cq : Rat) (hq : Is q cq) (hqb : Ab cq (2 ^ (0 : Int))) : ∀ (t : List Nat) (h : Nat) (ch : Rat) (k : Int), t.all okc = true → Is h ch → Ab ch (2 ^ k) → 0 ≤ k → k + t.length ≤ 1000 →
    ∃ r c, turn_series.go q t h = some r ∧ Is r c ∧ Ab c (2 ^ (k + t.length))
  | [], h, ch, k, _, hh, hb, _, _ => ⟨h, ch, rfl, hh, by simpa using hb⟩
  | x :: t, h, ch, k, ha, hh, hb, k0, hk => by
    simp only [List.all_cons, Bool.and_eq_true] at ha
    simp only [List.length_cons] at hk
    obtain ⟨o, co, ho, hoi, hob⟩ := okc_is ha.1
    have hm := ab_mul_ k hb hqb (Int.add_zero k)
    obtain ⟨m, cm, hm1, hm2, hm3, _⟩ := mul_is hh hq k (by omega) (by omega) hm
    have hs := ab_add_ (k + 1) hm3 hob (by omega) (by omega)
    obtain ⟨s, cs, hs1, hs2, hs3, _⟩ := add_is hm2 hoi (k + 1) (by omega) (by omega) hs
    obtain ⟨r, c, hr, hc, hcb⟩ := go_fin q cq hq hqb t s cs (k + 1) ha.2 hs2 hs3 (by omega) (by omega)
    refine ⟨r, c, ?_, hc, ?_⟩
    · unfold turn_series.go
      rw [hm1, Option.bind_some, ho, Option.bind_some, hs1, Option.bind_some, hr]
    · rw [List.length_cons, show k + ((t.length + 1 : Nat) : Int) = k + 1 + (t.length : Int) by omega]; exact hcb
theorem series_fin (q : Nat) (cq : Rat) (hq : Is q cq) (hqb : Ab cq (2 ^ (0 : Int))) (l : List Nat) (ha : l.all okc = true) (hne : l ≠ []) (hl : l.length ≤ 101) : ∃ r c, turn_series.v l q = some r ∧ Is r c ∧ Ab c (2 ^ (100 : Int)) := by
  cases l with
  | nil => exact absurd rfl hne
  | cons a t =>
    simp only [List.all_cons, Bool.and_eq_true] at ha
    simp only [List.length_cons] at hl
    obtain ⟨o, co, ho, hoi, hob⟩ := okc_is ha.1
    obtain ⟨r, c, hr, hc, hcb⟩ := go_fin q cq hq hqb t o co 0 ha.2 hoi hob (by omega) (by omega)
    refine ⟨r, c, ?_, hc, ab_le hcb (by omega)⟩
    show ((turn_over.v a).bind fun h => turn_series.go q t h) = _
    rw [ho, Option.bind_some, hr]
theorem sines_ok : turn_sines.l.all okc = true := by decide +kernel
theorem cosines_ok : turn_cosines.l.all okc = true := by decide +kernel
theorem pi_ok : bnd 4605249457297304856 0 = true := by decide +kernel
theorem one_okw : bnd 4607182418800017408 1 = true := by decide +kernel
theorem root_fl (e a u : Int) (a0 : 0 ≤ a) (au : a ≤ u) (u0 : 1 ≤ u) (u1 : u ≤ 4294967296) : ∃ x y, turn_Root.fl e a u = some (x, y) := by
  have ha := int_is a a0 (by omega)
  have hu := int_is u (by omega) (by omega)
  have une : (u : Rat) ≠ 0 := by
    intro h
    have : u = 0 := by exact_mod_cast h
    omega
  have upos : (0 : Rat) < (u : Rat) := by exact_mod_cast (by omega : 0 < u)
  have hq : (a : Rat) / u * u = a := Rat.div_mul_cancel une
  have hqb : Ab ((a : Rat) / u) (2 ^ (0 : Int)) := by
    have h1 : (0 : Rat) ≤ (a : Rat) := by exact_mod_cast a0
    have h2 : (a : Rat) ≤ (u : Rat) := by exact_mod_cast au
    rw [show (2 : Rat) ^ (0 : Int) = 1 from rfl]
    have hnn : (0 : Rat) ≤ (a : Rat) / u := by
      have h3 : 0 * (u : Rat) ≤ (a : Rat) / u * u := by rw [hq, Rat.zero_mul]; exact h1
      exact Rat.le_of_mul_le_mul_right h3 upos
    refine ⟨by grind, ?_⟩
    have h3 : (a : Rat) / u * u ≤ 1 * u := by rw [hq, Rat.one_mul]; exact h2
    exact Rat.le_of_mul_le_mul_right h3 upos
  obtain ⟨f, cf, hf, hfi, hfb⟩ := div_is ha hu une hq 0 (by decide) (by decide) hqb
  obtain ⟨cp, hpi, hpb⟩ := bnd_is pi_ok
  obtain ⟨y, cy, hy, hyi, hyb, _⟩ := mul_is hfi hpi 0 (by decide) (by decide) (ab_mul_ 0 hfb hpb rfl)
  obtain ⟨q, cq, hqq, hqi, hqb2, _⟩ := mul_is hyi hyi 0 (by decide) (by decide) (ab_mul_ 0 hyb hyb rfl)
  obtain ⟨yq, cyq, hyq, hyqi, hyqb, _⟩ := mul_is hyi hqi 0 (by decide) (by decide) (ab_mul_ 0 hyb hqb2 rfl)
  obtain ⟨S, cS, hS, hSi, hSb⟩ := series_fin q cq hqi hqb2 turn_sines.l sines_ok (by decide) (by decide)
  obtain ⟨t, ct, ht, hti, htb, _⟩ := mul_is hyqi hSi 100 (by decide) (by decide) (ab_mul_ 100 hyqb hSb rfl)
  obtain ⟨s, cs, hs, hsi, hsb, _⟩ := add_is hyi hti 101 (by decide) (by decide) (ab_add_ 101 hyb htb (by decide) (by decide))
  obtain ⟨C, cC, hC, hCi, hCb⟩ := series_fin q cq hqi hqb2 turn_cosines.l cosines_ok (by decide) (by decide)
  obtain ⟨m, cm, hm, hmi, hmb, _⟩ := mul_is hqi hCi 100 (by decide) (by decide) (ab_mul_ 100 hqb2 hCb rfl)
  obtain ⟨co, hoi, hob⟩ := bnd_is one_okw
  obtain ⟨c, cc, hc, hci, hcb, _⟩ := add_is hoi hmi 101 (by decide) (by decide) (ab_add_ 101 hob hmb (by decide) (by decide))
  refine ⟨turn_plus.v (turn_placed.v e s c).1, turn_plus.v (turn_placed.v e s c).2, ?_⟩
  unfold turn_Root.fl
  rw [hf, Option.bind_some, hy, Option.bind_some, hqq, Option.bind_some, hyq, Option.bind_some]
  rw [hS, Option.bind_some, ht, Option.bind_some, hs, Option.bind_some, hC, Option.bind_some, hm, Option.bind_some, hc, Option.bind_some]
end Go.Proofs.YtcddhfidbhcgdaaDoor.TG
