/- Plain law of the shifts. -/
import Derived.Test.YthpbbnffgfjdbaaDoorM1
namespace Go.Proofs.YthpbbnffgfjdbaaDoor
open Go Go.RowKit
set_option linter.unusedVariables false
set_option linter.unusedSimpArgs false
theorem eqMove_nice {K : Nat} {a b c d e f : Int} : laws_eqMove.f K a b c d e f a b c d e f = some true := by simp [laws_eqMove.f, laws_eqInt64A4.f, laws_eqPoint.f]
theorem law_FnExactShiftBy {K : Nat} (hK : 5000 ≤ K) (p x y : Int) : laws_FnExactShiftBy.f K p x y = some true := by
  unfold laws_FnExactShiftBy.f spec_ShiftBy.f impl_ShiftBy.f impl_asked__impl_ShiftBy_1.f impl_ShiftBy_1.f
  have e0 : ∀ a b : Int, laws_toPoint.f K a b = some (a, b) := fun _ _ => rfl
  have e1 := code_nice (K := K) (p := p) [(x, y)] (by simp) (by simp; omega)
  simp only [e0, Option.bind_some, e1, isField_nice, isPoint_nice (show 10 ≤ K by omega), List.all_cons, List.all_nil, Bool.and_true]
  by_cases hp : isP p <;> cases hb : inB p (x, y) <;> simp [hp, hb, eqMove_nice]
end Go.Proofs.YthpbbnffgfjdbaaDoor
