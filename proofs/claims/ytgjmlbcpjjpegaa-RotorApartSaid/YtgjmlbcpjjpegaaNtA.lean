import Derived.Test.YtgjmlbcpjjpegaaNtC
import Derived.Test.YtgjmlbcpjjpegaaQNat9

import Derived.Test.YtgjmlbcpjjpegaaWWords
/- From the print's words on rows of whole numbers to the texts' own, and back. -/
set_option linter.unusedVariables false
set_option linter.unusedSimpArgs false
namespace Go.Proofs.Ytgjmlbcpjjpegaa
open Go Go.RowKit Q Go.Proofs.YtgjmlbcpjjpegaaW.PrintWords
theorem In_of_C {w : World} {A : Option Addr} {c : Nat} {xs : List Int} (h : Kd.C (Kd.int .u32) w A xs.length xs) (hc : xs.length ≤ c) (hk : okw xs = true) : In w A c xs := by
  obtain ⟨hl, hw⟩ := okw_iff.1 hk
  have hr := Kd.reads_of_C (d := (0 : Int)) h
  refine ⟨fun i hi => ?_, hc, by omega, hw⟩
  obtain ⟨ad, e, hcell⟩ := hr.2.2 (by omega)
  exact ⟨ad, e, hcell i hi⟩
theorem R_of_Ow {w : World} {e B : Nat} {v : Value} {xs : List Int} (h : Ow w e B v xs) : Kd.R (Kd.int .u32) e w B (fun _ => True) v xs := Kd.R_of_own h (fun _ _ => trivial)
theorem R_of_Ow2 {w : World} {e B : Nat} {u v : Value} {xs : List Int} (h : Ow w e B u xs) (ha : Apart2 u v) : Kd.R (Kd.int .u32) e w B (fun k_ => some k_ ≠ (v : Value).ownBlock) u xs := Kd.R_of_own h (fun k hk => by
  rcases ha with h0 | h0
  · rw [h0] at hk; cases hk
  · rw [← hk]; exact h0)
theorem apart2_symm {u v : Value} (h : Apart2 u v) : Apart2 v u := by
  rcases h with h | h
  · by_cases hv : v.ownBlock = none
    · exact .inl hv
    · exact .inr (by rw [h]; exact hv)
  · by_cases hv : v.ownBlock = none
    · exact .inl hv
    · exact .inr (fun e => h e.symm)
end Go.Proofs.Ytgjmlbcpjjpegaa
