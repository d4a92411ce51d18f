/- Plain law of the coefficients of spread polynomials. -/
import Derived.Test.YtccbmdpikalpfaaP5
namespace Go.Proofs.Ytccbmdpikalpfaa
open Go Go.RowKit
set_option linter.unusedVariables false
set_option linter.unusedSimpArgs false
theorem implC {K : Nat} (hK : 5000 ≤ K) {p n : Int} : impl_CoefficientsOf.f K p n = some (ansC p n) := by
  have ha : impl_asked__impl_CoefficientsOf_1.f K p n = some (codeC p n) := by
    unfold impl_asked__impl_CoefficientsOf_1.f impl_CoefficientsOf_1.f
    rw [isField_nice]
    unfold codeC
    by_cases hp : isP p <;> by_cases hn : 0 ≤ n <;> by_cases hn2 : n ≤ 40 <;> simp [hp, hn, hn2]
  unfold impl_CoefficientsOf.f ansC
  rw [ha]
  by_cases h : codeC p n = 0
  · obtain ⟨hp, h1, h2⟩ := codeC_zero h
    obtain ⟨m, rfl⟩ := Int.eq_ofNat_of_zero_le h1
    have hm : m ≤ 40 := by omega
    have d2 : decide ((0 : Int) ≤ ((m + 2 : Nat) : Int)) = true := decide_eq_true (by omega)
    have d3 : decide (((m + 2 : Nat) : Int) ≤ 1000000) = true := decide_eq_true (by omega)
    rw [if_pos h, h, Option.bind_some, if_pos (show ((0 : Int) == 0) = true from rfl)]
    rw [w2 hm, if_pos d2, if_pos d3, Int.toNat_natCast, repl, first_get, Option.bind_some, Int.toNat_natCast]
    rcases m with _ | m
    · simp [cutHi, tk, cf]
    · have e0 : (((m + 1 : Nat) : Int) == 0) = false := by
        rw [beq_eq_false_iff_ne]
        omega
      have hF : m * (m + 1 + 4) < K := by
        have : m * (m + 1 + 4) ≤ 40 * 45 := Nat.mul_le_mul (by omega) (by omega)
        omega
      have hr := implRows (K := K) hp hm m 0 K (by omega) hF
      rw [e0, if_neg (by decide), show ((1 : Int)).toNat = 1 from rfl, fr_one (p := p), fr_zero (p := p)]
      exact hr
  · rw [if_neg h]
    simp [h]
end Go.Proofs.Ytccbmdpikalpfaa
