/- Plain laws of the first functions: remainders, the check of the arguments. -/
import Derived.Test.YtccbmdpikalpfaaGreatL
import Derived.Test.YtccbmdpikalpfaaGreatD1
namespace Go.Proofs.YtccbmdpikalpfaaGreat
open Go Go.RowKit
set_option linter.unusedVariables false
set_option linter.unusedSimpArgs false
theorem mod_nice {K : Nat} {p x : Int} (hp : isP p) : spec_l01Mod.f K x p = some (x % p) := by
  have := hp.lt
  unfold spec_l01Mod.f
  rw [if_neg (by simp; omega), w_eq (Sm.of ((B.tmod hp x).add (B.p hp)) rfl), rest_eq hp]
theorem rest_nice {K : Nat} {p x : Int} (hp : isP p) : impl_rest.f K p x = some (x % p) := by
  have := hp.lt
  unfold impl_rest.f
  rw [if_neg (by simp; omega), w_eq (Sm.of ((B.tmod hp x).add (B.p hp)) rfl), rest_eq hp]
theorem in_nice {K : Nat} {x a b : Int} : spec_l01In.f K x a b = some (decide (a ≤ x ∧ x ≤ b)) := by
  unfold spec_l01In.f
  by_cases h : a ≤ x <;> simp [h]
theorem field_nice {K : Nat} {p : Int} (hK : 10 ≤ K) : spec_l01Field.f K p = some (decide (isP p)) := by
  obtain ⟨k, rfl⟩ : ∃ k, K = k + 10 := ⟨K - 10, by omega⟩
  unfold spec_l01Field.f
  rw [in_nice]
  by_cases h : 3 ≤ p ∧ p ≤ 31
  · obtain ⟨m, hm⟩ := Int.eq_ofNat_of_zero_le (show 0 ≤ p by omega)
    have h3 : m = 3 ∨ m = 4 ∨ m = 5 ∨ m = 6 ∨ m = 7 ∨ m = 8 ∨ m = 9 ∨ m = 10 ∨ m = 11 ∨ m = 12 ∨ m = 13 ∨ m = 14 ∨ m = 15 ∨ m = 16 ∨ m = 17 ∨ m = 18 ∨ m = 19 ∨ m = 20 ∨ m = 21 ∨ m = 22 ∨ m = 23 ∨ m = 24 ∨ m = 25 ∨ m = 26 ∨ m = 27 ∨ m = 28 ∨ m = 29 ∨ m = 30 ∨ m = 31 := by omega
    subst hm
    rcases h3 with rfl | rfl | rfl | rfl | rfl | rfl | rfl | rfl | rfl | rfl | rfl | rfl | rfl | rfl | rfl | rfl | rfl | rfl | rfl | rfl | rfl | rfl | rfl | rfl | rfl | rfl | rfl | rfl | rfl <;>
      simp [spec_l01Field.l0, wrap64, isP]
  · simp only [h, Option.bind_some, decide_false, Bool.false_eq_true, if_false]
    congr 1
    refine (decide_eq_false (fun hp => h hp.lt)).symm
theorem isField_nice {K : Nat} {p : Int} : impl_IsField.f K p = some (decide (isP p)) := by
  unfold impl_IsField.f isP
  simp only [beq_iff_eq]
  repeat' split
  all_goals simp_all
def inB (p : Int) (x : Int × Int) : Bool := decide (0 ≤ x.1 ∧ x.1 < p ∧ 0 ≤ x.2 ∧ x.2 < p)
theorem point_nice {K : Nat} {p x y : Int} (hp : isP p) : spec_l01Point.f K p x y = some (inB p (x, y)) := by
  have := hp.lt
  unfold spec_l01Point.f inB
  rw [w_eq (Sm.of ((B.p hp).sub (B.const 1)) rfl), in_nice, in_nice]
  simp only [Option.bind_some]
  by_cases h : 0 ≤ x ∧ x ≤ p - 1
  · have h2 : x < p := by omega
    have h3 : (y ≤ p - 1) = (y < p) := by simp; omega
    simp [h, h2, h3]
  · by_cases h1 : 0 ≤ x
    · have : ¬ x < p := by omega
      simp [h1, this]; omega
    · simp [h1]
theorem isPoint_nice {K : Nat} {p x y : Int} (hK : 10 ≤ K) : impl_isPoint.f K p x y = some (inB p (x, y)) := by
  obtain ⟨k, rfl⟩ : ∃ k, K = k + 10 := ⟨K - 10, by omega⟩
  unfold impl_isPoint.f impl_areNumbers.f inB
  by_cases h1 : 0 ≤ x <;> by_cases h2 : x < p <;> by_cases h3 : 0 ≤ y <;> by_cases h4 : y < p <;> simp [impl_areNumbers.l0, impl_isNumber.f, idx, wrap64, h1, h2, h3, h4]
theorem idx_nat {α : Type} (xs : List α) (i : Nat) : idx xs (i : Int) = xs[i]? := by simp [idx]
theorem w_nat {i : Nat} (h : i ≤ 1000000000) : wrap64 ((i : Int) + 1) = ((i + 1 : Nat) : Int) := by rw [w_eq ⟨by omega⟩]; omega
theorem code_l0 {K : Nat} {p : Int} (hp : isP p) (pts : List (Int × Int)) (hl : pts.length ≤ 1000000) : ∀ (m k i : Nat), pts.length - i = m → m < k → i ≤ pts.length → spec_l01Code.l0 K p pts k i = some (if (pts.drop i).all (inB p) then 0 else 2)
  | 0, k + 1, i, hm, _, hi => by
    have : i = pts.length := by omega
    subst this
    simp [spec_l01Code.l0]
  | m + 1, k + 1, i, hm, hk, hi => by
    have hlt : i < pts.length := by omega
    rw [spec_l01Code.l0, if_pos (by simpa using hlt), idx_nat, List.getElem?_eq_getElem hlt, w_nat (by omega), List.drop_eq_getElem_cons hlt, List.all_cons, code_l0 hp pts hl m k (i + 1) (by omega) (by omega) (by omega)]
    simp only [Option.bind_some, point_nice hp]
    cases inB p pts[i] <;> first | rfl | (simp; done)
theorem code_nice {K : Nat} {p : Int} (pts : List (Int × Int)) (hl : pts.length ≤ 1000000) (hK : pts.length + 10 ≤ K) : spec_l01Code.f K p pts = some (if isP p then if pts.all (inB p) then 0 else 2 else 1) := by
  unfold spec_l01Code.f
  rw [field_nice (by omega)]
  by_cases hp : isP p
  · have := code_l0 (K := K) hp pts hl pts.length K 0 (by omega) (by omega) (by omega)
    simp only [Int.ofNat_zero, Int.natCast_zero] at this
    simp only [Option.bind_some, decide_true, hp, if_true, this, List.drop_zero]
  · simp [hp]
theorem colour_nice {K : Nat} {c : Int} : spec_l02Colour.f K c = some (decide (0 ≤ c ∧ c ≤ 2)) := by
  unfold spec_l02Colour.f
  rw [in_nice]
  rfl
theorem isColour_nice {K : Nat} {c : Int} : impl_isColour.f K c = some (decide (0 ≤ c ∧ c ≤ 2)) := by
  unfold impl_isColour.f
  by_cases h : 0 ≤ c <;> simp [h]
theorem code2_nice {K : Nat} {p c : Int} (pts : List (Int × Int)) (hl : pts.length ≤ 1000000) (hK : pts.length + 10 ≤ K) : spec_l02Code.f K p c pts = some (if isP p then if pts.all (inB p) then if 0 ≤ c ∧ c ≤ 2 then 0 else 2 else 2 else 1) := by
  unfold spec_l02Code.f
  rw [code_nice pts hl hK, colour_nice]
  by_cases hp : isP p <;> by_cases h : pts.all (inB p) = true <;> by_cases hc : 0 ≤ c ∧ c ≤ 2 <;> simp [hp, h, hc]
theorem arePoints_l0 {K : Nat} {p : Int} (hK : 10 ≤ K) (pts : List (Int × Int)) (hl : pts.length ≤ 1000000) : ∀ (m k i : Nat), pts.length - i = m → m < k → i ≤ pts.length → impl_arePoints.l0 K p pts k i = some ((pts.drop i).all (inB p))
  | 0, k + 1, i, hm, _, hi => by
    have : i = pts.length := by omega
    subst this
    simp [impl_arePoints.l0]
  | m + 1, k + 1, i, hm, hk, hi => by
    have hlt : i < pts.length := by omega
    rw [impl_arePoints.l0, if_pos (by simpa using hlt), idx_nat, List.getElem?_eq_getElem hlt, w_nat (by omega), List.drop_eq_getElem_cons hlt, List.all_cons, arePoints_l0 hK pts hl m k (i + 1) (by omega) (by omega) (by omega)]
    simp only [Option.bind_some, isPoint_nice hK]
    cases inB p pts[i] <;> simp
theorem arePoints_nice {K : Nat} {p : Int} (pts : List (Int × Int)) (hl : pts.length ≤ 1000000) (hK : pts.length + 10 ≤ K) : impl_arePoints.f K p pts = some (pts.all (inB p)) := by
  unfold impl_arePoints.f
  have := arePoints_l0 (K := K) (p := p) (by omega) pts hl pts.length K 0 (by omega) (by omega) (by omega)
  simpa using this
end Go.Proofs.YtccbmdpikalpfaaGreat
