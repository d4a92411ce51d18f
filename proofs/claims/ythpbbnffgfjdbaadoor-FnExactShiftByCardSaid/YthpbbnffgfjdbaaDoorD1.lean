/- What the functions of the program compute, in plain Lean. -/
import Derived.Test.YthpbbnffgfjdbaaDoorK
namespace Go.Proofs.YthpbbnffgfjdbaaDoor
open Go Go.RowKit
attribute [local go_sem] Oper.quiet Oper.quietAt Oper.quietUpon
attribute [local irreducible] wpList
set_option linter.unusedVariables false
set_option linter.unusedSimpArgs false

/-! ### laws_toPoint: function 5 -/
def laws_toPoint.f (K : Nat) (a0_0 : Int) (a0_1 : Int) : Option (Int × Int) := some (a0_0, a0_1)

/-! ### spec_l01In: function 18 -/
def spec_l01In.f (K : Nat) (a0 : Int) (a1 : Int) (a2 : Int) : Option (Bool) := (if decide (a1 ≤ a0) = true then some (decide (a0 ≤ a2)) else some false)

/-! ### spec_l01Field: function 14 -/

def spec_l01Field.l0 (K : Nat) (a0 : Int) : Nat → Int → Option (Bool)
  | 0, _ => none
  | k16 + 1, x11 => (if decide ((wrap64 (x11 * x11)) ≤ a0) = true then (if (x11 == 0) = true then none else (if ((Int.tmod a0 x11) == 0) = true then some false else (spec_l01Field.l0 K a0 k16 (wrap64 (x11 + 1))))) else some true)
def spec_l01Field.f (K : Nat) (a0 : Int) : Option (Bool) := ((spec_l01In.f K a0 3 31).bind fun t4 => (if t4 = true then (spec_l01Field.l0 K a0 K 2) else some false))

/-! ### spec_l01Point: function 15 -/
def spec_l01Point.f (K : Nat) (a0 : Int) (a1_0 : Int) (a1_1 : Int) : Option (Bool) := ((spec_l01In.f K a1_0 0 (wrap64 (a0 - 1))).bind fun t6 => (if t6 = true then ((spec_l01In.f K a1_1 0 (wrap64 (a0 - 1))).bind fun t11 => some t11) else some false))

/-! ### spec_l01Code: function 8 -/

def spec_l01Code.l0 (K : Nat) (a0 : Int) (a1 : List (Int × Int)) : Nat → Int → Option (Int)
  | 0, _ => none
  | k16 + 1, x11 => (if decide (x11 < (a1.length : Int)) = true then ((idx a1 x11).bind fun (t26, t27) => ((spec_l01Point.f K a0 t26 t27).bind fun t32 => (if t32 = true then (spec_l01Code.l0 K a0 a1 k16 (wrap64 (x11 + 1))) else some 2))) else some 0)
def spec_l01Code.f (K : Nat) (a0 : Int) (a1 : List (Int × Int)) : Option (Int) := ((spec_l01Field.f K a0).bind fun t4 => (if t4 = true then (spec_l01Code.l0 K a0 a1 K 0) else some 1))

/-! ### spec_ShiftBy: function 4 -/
def spec_ShiftBy.f (K : Nat) (a0 : Int) (a1_0 : Int) (a1_1 : Int) : Option (Int × Int × Int × Int × Int × Int × Int) := ((spec_l01Code.f K a0 ([(a1_0, a1_1)])).bind fun t13 => (if (t13 == 0) = true then some (1, 0, 0, 1, a1_0, a1_1, 0) else some (0, 0, 0, 0, 0, 0, t13)))

/-! ### impl_IsField: function 16 -/
def impl_IsField.f (K : Nat) (a0 : Int) : Option (Bool) := (if (a0 == 3) = true then some true else (if (a0 == 5) = true then some true else (if (a0 == 7) = true then some true else (if (a0 == 11) = true then some true else (if (a0 == 13) = true then some true else (if (a0 == 17) = true then some true else (if (a0 == 19) = true then some true else (if (a0 == 23) = true then some true else (if (a0 == 29) = true then some true else (if (a0 == 31) = true then some true else some false))))))))))

/-! ### impl_isNumber: function 19 -/
def impl_isNumber.f (K : Nat) (a0 : Int) (a1 : Int) : Option (Bool) := (if decide (0 ≤ a1) = true then some (decide (a1 < a0)) else some false)

/-! ### impl_areNumbers: function 17 -/

def impl_areNumbers.l0 (K : Nat) (a0 : Int) (a1 : List (Int)) : Nat → Int → Option (Bool)
  | 0, _ => none
  | k9 + 1, x4 => (if decide (x4 < (a1.length : Int)) = true then ((idx a1 x4).bind fun t19 => ((impl_isNumber.f K a0 t19).bind fun t25 => (if t25 = true then (impl_areNumbers.l0 K a0 a1 k9 (wrap64 (x4 + 1))) else some false))) else some true)
def impl_areNumbers.f (K : Nat) (a0 : Int) (a1 : List (Int)) : Option (Bool) := (impl_areNumbers.l0 K a0 a1 K 0)

/-! ### impl_isPoint: function 11 -/
def impl_isPoint.f (K : Nat) (a0 : Int) (a1_0 : Int) (a1_1 : Int) : Option (Bool) := ((impl_areNumbers.f K a0 ([a1_0, a1_1])).bind fun t6 => some t6)

/-! ### impl_ShiftBy_1: function 10 -/
def impl_ShiftBy_1.f (K : Nat) (f0_0 : Int) (f1_0 : Int) (f1_1 : Int) : Option (Bool) := ((impl_isPoint.f K f0_0 f1_0 f1_1).bind fun t3 => some t3)

/-! ### impl_asked__impl_ShiftBy_1: function 9 -/
def impl_asked__impl_ShiftBy_1.f (K : Nat) (a0 : Int) (c1_0_0 : Int) (c1_1_0 : Int) (c1_1_1 : Int) : Option (Int) := ((impl_IsField.f K a0).bind fun t4 => (if t4 = true then ((impl_ShiftBy_1.f K c1_0_0 c1_1_0 c1_1_1).bind fun t11 => (if t11 = true then some 0 else some 2)) else some 1))

/-! ### impl_ShiftBy: function 6 -/
def impl_ShiftBy.f (K : Nat) (a0 : Int) (a1_0 : Int) (a1_1 : Int) : Option (Int × Int × Int × Int × Int × Int × Int) := ((impl_asked__impl_ShiftBy_1.f K a0 a0 a1_0 a1_1).bind fun t13 => (if (t13 == 0) = true then some (1, 0, 0, 1, a1_0, a1_1, 0) else some (0, 0, 0, 0, 0, 0, t13)))

/-! ### laws_eqInt64A4: function 12 -/
def laws_eqInt64A4.f (K : Nat) (a0_0 : Int) (a0_1 : Int) (a0_2 : Int) (a0_3 : Int) (a1_0 : Int) (a1_1 : Int) (a1_2 : Int) (a1_3 : Int) : Option (Bool) := (if (a0_0 == a1_0) = true then (if (a0_1 == a1_1) = true then (if (a0_2 == a1_2) = true then (if (a0_3 == a1_3) = true then some true else some false) else some false) else some false) else some false)

/-! ### laws_eqPoint: function 13 -/
def laws_eqPoint.f (K : Nat) (a0_0 : Int) (a0_1 : Int) (a1_0 : Int) (a1_1 : Int) : Option (Bool) := (if (a0_0 == a1_0) = true then (if (a0_1 == a1_1) = true then some true else some false) else some false)

/-! ### laws_eqMove: function 7 -/
def laws_eqMove.f (K : Nat) (a0_0 : Int) (a0_1 : Int) (a0_2 : Int) (a0_3 : Int) (a0_4 : Int) (a0_5 : Int) (a1_0 : Int) (a1_1 : Int) (a1_2 : Int) (a1_3 : Int) (a1_4 : Int) (a1_5 : Int) : Option (Bool) := ((laws_eqInt64A4.f K a0_0 a0_1 a0_2 a0_3 a1_0 a1_1 a1_2 a1_3).bind fun t10 => (if t10 = true then ((laws_eqPoint.f K a0_4 a0_5 a1_4 a1_5).bind fun t17 => (if t17 = true then some true else some false)) else some false))

/-! ### laws_FnExactShiftBy: function 3 -/
def laws_FnExactShiftBy.f (K : Nat) (a0 : Int) (a1_0 : Int) (a1_1 : Int) : Option (Bool) := ((laws_toPoint.f K a1_0 a1_1).bind fun (t6, t7) => ((spec_ShiftBy.f K a0 t6 t7).bind fun (t11, t12, t13, t14, t15, t16, t17) => ((laws_toPoint.f K a1_0 a1_1).bind fun (t28, t29) => ((impl_ShiftBy.f K a0 t28 t29).bind fun (t33, t34, t35, t36, t37, t38, t39) => ((laws_eqMove.f K t33 t34 t35 t36 t37 t38 t11 t12 t13 t14 t15 t16).bind fun t51 => (if t51 = true then (if (t39 == t17) = true then some true else some false) else some false))))))

end Go.Proofs.YthpbbnffgfjdbaaDoor
