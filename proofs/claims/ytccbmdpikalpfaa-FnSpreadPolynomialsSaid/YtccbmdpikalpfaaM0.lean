/- Plain laws of the first functions: remainders, the check of the arguments. -/
import Derived.Test.YtccbmdpikalpfaaL
import Derived.Test.YtccbmdpikalpfaaD1
namespace Go.Proofs.Ytccbmdpikalpfaa
open Go Go.RowKit
set_option linter.unusedVariables false
set_option linter.unusedSimpArgs false
theorem mod_nice {K : Nat} {p x : Int} (hp : isP p) : spec_l01Mod.f K x p = some (x % p) := by
  have := hp.lt
  unfold spec_l01Mod.f
  rw [if_neg (by simp; omega), w_eq (Sm.of ((B.tmod hp x).add (B.p hp)) rfl), rest_eq hp]
theorem rest_nice {K : Nat} {p x : Int} (hp : isP p) : impl_rest.f K p x = some (x % p) := by
  have := hp.lt
  unfold impl_rest.f
  rw [if_neg (by simp; omega), w_eq (Sm.of ((B.tmod hp x).add (B.p hp)) rfl), rest_eq hp]
theorem in_nice {K : Nat} {x a b : Int} : spec_l01In.f K x a b = some (decide (a ≤ x ∧ x ≤ b)) := by
  unfold spec_l01In.f
  by_cases h : a ≤ x <;> simp [h]
theorem field_nice {K : Nat} {p : Int} (hK : 10 ≤ K) : spec_l01Field.f K p = some (decide (isP p)) := by
  obtain ⟨k, rfl⟩ : ∃ k, K = k + 10 := ⟨K - 10, by omega⟩
  unfold spec_l01Field.f
  rw [in_nice]
  by_cases h : 3 ≤ p ∧ p ≤ 31
  · obtain ⟨m, hm⟩ := Int.eq_ofNat_of_zero_le (show 0 ≤ p by omega)
    have h3 : m = 3 ∨ m = 4 ∨ m = 5 ∨ m = 6 ∨ m = 7 ∨ m = 8 ∨ m = 9 ∨ m = 10 ∨ m = 11 ∨ m = 12 ∨ m = 13 ∨ m = 14 ∨ m = 15 ∨ m = 16 ∨ m = 17 ∨ m = 18 ∨ m = 19 ∨ m = 20 ∨ m = 21 ∨ m = 22 ∨ m = 23 ∨ m = 24 ∨ m = 25 ∨ m = 26 ∨ m = 27 ∨ m = 28 ∨ m = 29 ∨ m = 30 ∨ m = 31 := by omega
    subst hm
    rcases h3 with rfl | rfl | rfl | rfl | rfl | rfl | rfl | rfl | rfl | rfl | rfl | rfl | rfl | rfl | rfl | rfl | rfl | rfl | rfl | rfl | rfl | rfl | rfl | rfl | rfl | rfl | rfl | rfl | rfl <;>
      simp [spec_l01Field.l0, wrap64, isP]
  · simp only [h, Option.bind_some, decide_false, Bool.false_eq_true, if_false]
    congr 1
    refine (decide_eq_false (fun hp => h hp.lt)).symm
theorem isField_nice {K : Nat} {p : Int} : impl_IsField.f K p = some (decide (isP p)) := by
  unfold impl_IsField.f isP
  simp only [beq_iff_eq]
  repeat' split
  all_goals simp_all
theorem idx_nat {α : Type} (xs : List α) (i : Nat) : idx xs (i : Int) = xs[i]? := by simp [idx]
theorem w_nat {i : Nat} (h : i ≤ 1000000000) : wrap64 ((i : Int) + 1) = ((i + 1 : Nat) : Int) := by rw [w_eq ⟨by omega⟩]; omega
end Go.Proofs.Ytccbmdpikalpfaa
