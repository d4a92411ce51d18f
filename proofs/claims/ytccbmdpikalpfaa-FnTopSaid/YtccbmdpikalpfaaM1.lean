/- Plain laws of the first functions: remainders, the check of the arguments. -/
import Derived.Test.YtccbmdpikalpfaaL
import Derived.Test.YtccbmdpikalpfaaD1
namespace Go.Proofs.Ytccbmdpikalpfaa
open Go Go.RowKit
set_option linter.unusedVariables false
set_option linter.unusedSimpArgs false
theorem rest_nice {K : Nat} {p x : Int} (hp : isP p) : impl_rest.f K p x = some (x % p) := by
  have := hp.lt
  unfold impl_rest.f
  rw [if_neg (by simp; omega), w_eq (Sm.of ((B.tmod hp x).add (B.p hp)) rfl), rest_eq hp]
theorem isField_nice {K : Nat} {p : Int} : impl_IsField.f K p = some (decide (isP p)) := by
  unfold impl_IsField.f isP
  simp only [beq_iff_eq]
  repeat' split
  all_goals simp_all
def inB (p : Int) (x : Int × Int) : Bool := decide (0 ≤ x.1 ∧ x.1 < p ∧ 0 ≤ x.2 ∧ x.2 < p)
theorem isPoint_nice {K : Nat} {p x y : Int} (hK : 10 ≤ K) : impl_isPoint.f K p x y = some (inB p (x, y)) := by
  obtain ⟨k, rfl⟩ : ∃ k, K = k + 10 := ⟨K - 10, by omega⟩
  unfold impl_isPoint.f impl_areNumbers.f inB
  by_cases h1 : 0 ≤ x <;> by_cases h2 : x < p <;> by_cases h3 : 0 ≤ y <;> by_cases h4 : y < p <;> simp [impl_areNumbers.l0, impl_isNumber.f, idx, wrap64, h1, h2, h3, h4]
theorem idx_nat {α : Type} (xs : List α) (i : Nat) : idx xs (i : Int) = xs[i]? := by simp [idx]
theorem w_nat {i : Nat} (h : i ≤ 1000000000) : wrap64 ((i : Int) + 1) = ((i + 1 : Nat) : Int) := by rw [w_eq ⟨by omega⟩]; omega
theorem isColour_nice {K : Nat} {c : Int} : impl_isColour.f K c = some (decide (0 ≤ c ∧ c ≤ 2)) := by
  unfold impl_isColour.f
  by_cases h : 0 ≤ c <;> simp [h]
theorem arePoints_l0 {K : Nat} {p : Int} (hK : 10 ≤ K) (pts : List (Int × Int)) (hl : pts.length ≤ 1000000) : ∀ (m k i : Nat), pts.length - i = m → m < k → i ≤ pts.length → impl_arePoints.l0 K p pts k i = some ((pts.drop i).all (inB p))
  | 0, k + 1, i, hm, _, hi => by
    have : i = pts.length := by omega
    subst this
    simp [impl_arePoints.l0]
  | m + 1, k + 1, i, hm, hk, hi => by
    have hlt : i < pts.length := by omega
    rw [impl_arePoints.l0, if_pos (by simpa using hlt), idx_nat, List.getElem?_eq_getElem hlt, w_nat (by omega), List.drop_eq_getElem_cons hlt, List.all_cons, arePoints_l0 hK pts hl m k (i + 1) (by omega) (by omega) (by omega)]
    simp only [Option.bind_some, isPoint_nice hK]
    cases inB p pts[i] <;> simp
theorem arePoints_nice {K : Nat} {p : Int} (pts : List (Int × Int)) (hl : pts.length ≤ 1000000) (hK : pts.length + 10 ≤ K) : impl_arePoints.f K p pts = some (pts.all (inB p)) := by
  unfold impl_arePoints.f
  have := arePoints_l0 (K := K) (p := p) (by omega) pts hl pts.length K 0 (by omega) (by omega) (by omega)
  simpa using this
end Go.Proofs.Ytccbmdpikalpfaa
