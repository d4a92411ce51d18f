/- What the functions of the program compute, in plain Lean. -/
import Derived.Test.YthaopanhdmakbaaK
namespace Go.Proofs.Ythaopanhdmakbaa
open Go Go.RowKit
attribute [local go_sem] Oper.quiet Oper.quietAt Oper.quietUpon
set_option linter.unusedVariables false
set_option linter.unusedSimpArgs false

/-! ### laws_toPoint: function 18 -/
def laws_toPoint.f (K : Nat) (a0_0 : Int) (a0_1 : Int) : Option (Int × Int) := some (a0_0, a0_1)

/-! ### laws_toCircle: function 15 -/
def laws_toCircle.f (K : Nat) (a0_0 : Int) (a0_1 : Int) (a0_2 : Int) : Option (Int × Int × Int) := ((laws_toPoint.f K a0_0 a0_1).bind fun (t13, t14) => some (t13, t14, a0_2))

/-! ### spec_l01In: function 106 -/
def spec_l01In.f (K : Nat) (a0 : Int) (a1 : Int) (a2 : Int) : Option (Bool) := (if decide (a1 ≤ a0) = true then some (decide (a0 ≤ a2)) else some false)

/-! ### spec_l01Field: function 48 -/

def spec_l01Field.l0 (K : Nat) (a0 : Int) : Nat → Int → Option (Bool)
  | 0, _ => none
  | k16 + 1, x11 => (if decide ((wrap64 (x11 * x11)) ≤ a0) = true then (if (x11 == 0) = true then none else (if ((Int.tmod a0 x11) == 0) = true then some false else (spec_l01Field.l0 K a0 k16 (wrap64 (x11 + 1))))) else some true)
def spec_l01Field.f (K : Nat) (a0 : Int) : Option (Bool) := ((spec_l01In.f K a0 3 31).bind fun t4 => (if t4 = true then (spec_l01Field.l0 K a0 K 2) else some false))

/-! ### spec_l01Point: function 107 -/
def spec_l01Point.f (K : Nat) (a0 : Int) (a1_0 : Int) (a1_1 : Int) : Option (Bool) := ((spec_l01In.f K a1_0 0 (wrap64 (a0 - 1))).bind fun t6 => (if t6 = true then ((spec_l01In.f K a1_1 0 (wrap64 (a0 - 1))).bind fun t11 => some t11) else some false))

/-! ### spec_l06Is: function 49 -/
def spec_l06Is.f (K : Nat) (a0 : Int) (a1_0 : Int) (a1_1 : Int) (a1_2 : Int) : Option (Bool) := ((spec_l01Point.f K a0 a1_0 a1_1).bind fun t6 => (if t6 = true then ((spec_l01In.f K a1_2 0 (wrap64 (a0 - 1))).bind fun t11 => some t11) else some false))

/-! ### spec_IsCircle: function 14 -/
def spec_IsCircle.f (K : Nat) (a0 : Int) (a1_0 : Int) (a1_1 : Int) (a1_2 : Int) : Option (Bool × Int) := ((spec_l01Field.f K a0).bind fun t7 => (if t7 = true then ((spec_l06Is.f K a0 a1_0 a1_1 a1_2).bind fun t13 => some (t13, 0)) else some (false, 1)))

/-! ### impl_IsField: function 50 -/
def impl_IsField.f (K : Nat) (a0 : Int) : Option (Bool) := (if (a0 == 3) = true then some true else (if (a0 == 5) = true then some true else (if (a0 == 7) = true then some true else (if (a0 == 11) = true then some true else (if (a0 == 13) = true then some true else (if (a0 == 17) = true then some true else (if (a0 == 19) = true then some true else (if (a0 == 23) = true then some true else (if (a0 == 29) = true then some true else (if (a0 == 31) = true then some true else some false))))))))))

/-! ### impl_isNumber: function 108 -/
def impl_isNumber.f (K : Nat) (a0 : Int) (a1 : Int) : Option (Bool) := (if decide (0 ≤ a1) = true then some (decide (a1 < a0)) else some false)

/-! ### impl_areNumbers: function 110 -/

def impl_areNumbers.l0 (K : Nat) (a0 : Int) (a1 : List (Int)) : Nat → Int → Option (Bool)
  | 0, _ => none
  | k9 + 1, x4 => (if decide (x4 < (a1.length : Int)) = true then ((idx a1 x4).bind fun t19 => ((impl_isNumber.f K a0 t19).bind fun t25 => (if t25 = true then (impl_areNumbers.l0 K a0 a1 k9 (wrap64 (x4 + 1))) else some false))) else some true)
def impl_areNumbers.f (K : Nat) (a0 : Int) (a1 : List (Int)) : Option (Bool) := (impl_areNumbers.l0 K a0 a1 K 0)

/-! ### impl_isPoint: function 57 -/
def impl_isPoint.f (K : Nat) (a0 : Int) (a1_0 : Int) (a1_1 : Int) : Option (Bool) := ((impl_areNumbers.f K a0 ([a1_0, a1_1])).bind fun t6 => some t6)

/-! ### impl_isCircle: function 51 -/
def impl_isCircle.f (K : Nat) (a0 : Int) (a1_0 : Int) (a1_1 : Int) (a1_2 : Int) : Option (Bool) := ((impl_isPoint.f K a0 a1_0 a1_1).bind fun t6 => (if t6 = true then ((impl_isNumber.f K a0 a1_2).bind fun t11 => some t11) else some false))

/-! ### impl_IsCircle: function 16 -/
def impl_IsCircle.f (K : Nat) (a0 : Int) (a1_0 : Int) (a1_1 : Int) (a1_2 : Int) : Option (Bool × Int) := ((impl_IsField.f K a0).bind fun t7 => (if t7 = true then ((impl_isCircle.f K a0 a1_0 a1_1 a1_2).bind fun t13 => some (t13, 0)) else some (false, 1)))

/-! ### laws_FnExactIsCircle: function 3 -/
def laws_FnExactIsCircle.f (K : Nat) (a0 : Int) (a1_0 : Int) (a1_1 : Int) (a1_2 : Int) : Option (Bool) := ((laws_toCircle.f K a1_0 a1_1 a1_2).bind fun (t6, t7, t8) => ((spec_IsCircle.f K a0 t6 t7 t8).bind fun (t12, t13) => ((laws_toCircle.f K a1_0 a1_1 a1_2).bind fun (t18, t19, t20) => ((impl_IsCircle.f K a0 t18 t19 t20).bind fun (t24, t25) => (if t24 = true then (if t12 = true then (if (t25 == t13) = true then some true else some false) else some false) else (if t12 = true then some false else (if (t25 == t13) = true then some true else some false)))))))

/-! ### spec_l01Code: function 109 -/

def spec_l01Code.l0 (K : Nat) (a0 : Int) (a1 : List (Int × Int)) : Nat → Int → Option (Int)
  | 0, _ => none
  | k16 + 1, x11 => (if decide (x11 < (a1.length : Int)) = true then ((idx a1 x11).bind fun (t26, t27) => ((spec_l01Point.f K a0 t26 t27).bind fun t32 => (if t32 = true then (spec_l01Code.l0 K a0 a1 k16 (wrap64 (x11 + 1))) else some 2))) else some 0)
def spec_l01Code.f (K : Nat) (a0 : Int) (a1 : List (Int × Int)) : Option (Int) := ((spec_l01Field.f K a0).bind fun t4 => (if t4 = true then (spec_l01Code.l0 K a0 a1 K 0) else some 1))

/-! ### spec_l02Colour: function 116 -/
def spec_l02Colour.f (K : Nat) (a0 : Int) : Option (Bool) := ((spec_l01In.f K a0 0 2).bind fun t3 => some t3)

/-! ### spec_l02Code: function 84 -/
def spec_l02Code.f (K : Nat) (a0 : Int) (a1 : Int) (a2 : List (Int × Int)) : Option (Int) := ((spec_l01Code.f K a0 a2).bind fun t3 => (if (t3 == 0) = true then ((spec_l02Colour.f K a1).bind fun t10 => (if t10 = true then some t3 else some 2)) else some t3))

/-! ### spec_l06Code: function 69 -/

def spec_l06Code.l0 (K : Nat) (a0 : Int) (a2 : List (Int × Int × Int)) : Nat → Int → Int → Option (Int)
  | 0, _, _ => none
  | k15 + 1, x9, x10 => (if decide (x10 < (a2.length : Int)) = true then (if (x9 == 0) = true then ((idx a2 x10).bind fun (t26, t27, t28) => ((spec_l06Is.f K a0 t26 t27 t28).bind fun t33 => (if t33 = true then (spec_l06Code.l0 K a0 a2 k15 x9 (wrap64 (x10 + 1))) else (spec_l06Code.l0 K a0 a2 k15 2 (wrap64 (x10 + 1)))))) else some x9) else some x9)
def spec_l06Code.f (K : Nat) (a0 : Int) (a1 : Int) (a2 : List (Int × Int × Int)) : Option (Int) := ((spec_l02Code.f K a0 a1 ([])).bind fun t3 => (spec_l06Code.l0 K a0 a2 K t3 0))

/-! ### spec_l06Given: function 52 -/
def spec_l06Given.f (K : Nat) (a0 : Int) (a1 : Int) (a2_0 : Int) (a2_1 : Int) (a2_2 : Int) (a3_0 : Int) (a3_1 : Int) : Option (Int) := ((spec_l06Code.f K a0 a1 ([(a2_0, a2_1, a2_2)])).bind fun t12 => (if (t12 == 0) = true then ((spec_l01Code.f K a0 ([(a3_0, a3_1)])).bind fun t22 => some t22) else some t12))

/-! ### spec_l01Mod: function 60 -/
def spec_l01Mod.f (K : Nat) (a0 : Int) (a1 : Int) : Option (Int) := (if (a1 == 0) = true then none else some (Int.tmod (wrap64 ((Int.tmod a0 a1) + a1)) a1))

/-! ### spec_l01Minus: function 64 -/
def spec_l01Minus.f (K : Nat) (a0 : Int) (a1_0 : Int) (a1_1 : Int) (a2_0 : Int) (a2_1 : Int) : Option (Int × Int) := ((spec_l01Mod.f K (wrap64 (a1_0 - a2_0)) a0).bind fun t12 => ((spec_l01Mod.f K (wrap64 (a1_1 - a2_1)) a0).bind fun t14 => some (t12, t14)))

/-! ### spec_l02Product: function 111 -/
def spec_l02Product.f (K : Nat) (a0 : Int) (a1 : Int) (a2_0 : Int) (a2_1 : Int) (a3_0 : Int) (a3_1 : Int) : Option (Int) := (if (a1 == 0) = true then ((spec_l01Mod.f K (wrap64 ((wrap64 (a2_0 * a3_0)) + (wrap64 (a2_1 * a3_1)))) a0).bind fun t13 => some t13) else (if (a1 == 1) = true then ((spec_l01Mod.f K (wrap64 ((wrap64 (a2_0 * a3_0)) - (wrap64 (a2_1 * a3_1)))) a0).bind fun t20 => some t20) else ((spec_l01Mod.f K (wrap64 ((wrap64 (a2_0 * a3_1)) + (wrap64 (a2_1 * a3_0)))) a0).bind fun t25 => some t25)))

/-! ### spec_l02Quadrance: function 59 -/
def spec_l02Quadrance.f (K : Nat) (a0 : Int) (a1 : Int) (a2_0 : Int) (a2_1 : Int) (a3_0 : Int) (a3_1 : Int) : Option (Int) := ((spec_l01Minus.f K a0 a3_0 a3_1 a2_0 a2_1).bind fun (t9, t10) => ((spec_l02Product.f K a0 a1 t9 t10 t9 t10).bind fun t21 => some t21))

/-! ### spec_l06Power: function 53 -/
def spec_l06Power.f (K : Nat) (a0 : Int) (a1 : Int) (a2_0 : Int) (a2_1 : Int) (a2_2 : Int) (a3_0 : Int) (a3_1 : Int) : Option (Int) := ((spec_l02Quadrance.f K a0 a1 a2_0 a2_1 a3_0 a3_1).bind fun t9 => ((spec_l01Mod.f K (wrap64 (t9 - a2_2)) a0).bind fun t11 => some t11))

/-! ### spec_PowerOf: function 17 -/
def spec_PowerOf.f (K : Nat) (a0 : Int) (a1 : Int) (a2_0 : Int) (a2_1 : Int) (a2_2 : Int) (a3_0 : Int) (a3_1 : Int) : Option (Int × Int) := ((spec_l06Given.f K a0 a1 a2_0 a2_1 a2_2 a3_0 a3_1).bind fun t10 => (if (t10 == 0) = true then ((spec_l06Power.f K a0 a1 a2_0 a2_1 a2_2 a3_0 a3_1).bind fun t17 => some (t17, 0)) else some (0, t10)))

/-! ### impl_isColour: function 56 -/
def impl_isColour.f (K : Nat) (a0 : Int) : Option (Bool) := (if decide (0 ≤ a0) = true then some (decide (a0 ≤ 2)) else some false)

/-! ### impl_PowerOf_1: function 55 -/
def impl_PowerOf_1.f (K : Nat) (f0_0 : Int) (f1_0 : Int) (f2_0 : Int) (f2_1 : Int) (f2_2 : Int) (f3_0 : Int) (f3_1 : Int) : Option (Bool) := ((impl_isColour.f K f0_0).bind fun t3 => (if t3 = true then ((impl_isCircle.f K f1_0 f2_0 f2_1 f2_2).bind fun t8 => (if t8 = true then ((impl_isPoint.f K f1_0 f3_0 f3_1).bind fun t13 => some t13) else some false)) else some false))

/-! ### impl_asked__impl_PowerOf_1: function 54 -/
def impl_asked__impl_PowerOf_1.f (K : Nat) (a0 : Int) (c1_0_0 : Int) (c1_1_0 : Int) (c1_2_0 : Int) (c1_2_1 : Int) (c1_2_2 : Int) (c1_3_0 : Int) (c1_3_1 : Int) : Option (Int) := ((impl_IsField.f K a0).bind fun t4 => (if t4 = true then ((impl_PowerOf_1.f K c1_0_0 c1_1_0 c1_2_0 c1_2_1 c1_2_2 c1_3_0 c1_3_1).bind fun t11 => (if t11 = true then some 0 else some 2)) else some 1))

/-! ### impl_rest: function 73 -/
def impl_rest.f (K : Nat) (a0 : Int) (a1 : Int) : Option (Int) := (if (a0 == 0) = true then none else some (Int.tmod (wrap64 ((Int.tmod a1 a0) + a0)) a0))

/-! ### impl_less: function 112 -/
def impl_less.f (K : Nat) (a0 : Int) (a1_0 : Int) (a1_1 : Int) (a2_0 : Int) (a2_1 : Int) : Option (Int × Int) := ((impl_rest.f K a0 (wrap64 (a1_0 - a2_0))).bind fun t12 => ((impl_rest.f K a0 (wrap64 (a1_1 - a2_1))).bind fun t14 => some (t12, t14)))

/-! ### impl_product: function 113 -/
def impl_product.f (K : Nat) (a0 : Int) (a1 : Int) (a2_0 : Int) (a2_1 : Int) (a3_0 : Int) (a3_1 : Int) : Option (Int) := (if (a1 == 0) = true then ((impl_rest.f K a0 (wrap64 ((wrap64 (a2_0 * a3_0)) + (wrap64 (a2_1 * a3_1))))).bind fun t13 => some t13) else (if (a1 == 1) = true then ((impl_rest.f K a0 (wrap64 ((wrap64 (a2_0 * a3_0)) - (wrap64 (a2_1 * a3_1))))).bind fun t20 => some t20) else ((impl_rest.f K a0 (wrap64 ((wrap64 (a2_0 * a3_1)) + (wrap64 (a2_1 * a3_0))))).bind fun t25 => some t25)))

/-! ### impl_quadrance: function 66 -/
def impl_quadrance.f (K : Nat) (a0 : Int) (a1 : Int) (a2_0 : Int) (a2_1 : Int) (a3_0 : Int) (a3_1 : Int) : Option (Int) := ((impl_less.f K a0 a2_0 a2_1 a3_0 a3_1).bind fun (t9, t10) => ((impl_product.f K a0 a1 t9 t10 t9 t10).bind fun t21 => some t21))

/-! ### impl_power: function 58 -/
def impl_power.f (K : Nat) (a0 : Int) (a1 : Int) (a2_0 : Int) (a2_1 : Int) (a2_2 : Int) (a3_0 : Int) (a3_1 : Int) : Option (Int) := ((impl_quadrance.f K a0 a1 a2_0 a2_1 a3_0 a3_1).bind fun t9 => ((impl_rest.f K a0 (wrap64 (t9 - a2_2))).bind fun t11 => some t11))

/-! ### impl_PowerOf: function 19 -/
def impl_PowerOf.f (K : Nat) (a0 : Int) (a1 : Int) (a2_0 : Int) (a2_1 : Int) (a2_2 : Int) (a3_0 : Int) (a3_1 : Int) : Option (Int × Int) := ((impl_asked__impl_PowerOf_1.f K a0 a1 a0 a2_0 a2_1 a2_2 a3_0 a3_1).bind fun t16 => (if (t16 == 0) = true then ((impl_power.f K a0 a1 a2_0 a2_1 a2_2 a3_0 a3_1).bind fun t23 => some (t23, 0)) else some (0, t16)))

/-! ### laws_FnExactPowerOf: function 4 -/
def laws_FnExactPowerOf.f (K : Nat) (a0 : Int) (a1 : Int) (a2_0 : Int) (a2_1 : Int) (a2_2 : Int) (a3_0 : Int) (a3_1 : Int) : Option (Bool) := ((laws_toCircle.f K a2_0 a2_1 a2_2).bind fun (t9, t10, t11) => ((laws_toPoint.f K a3_0 a3_1).bind fun (t13, t14) => ((spec_PowerOf.f K a0 a1 t9 t10 t11 t13 t14).bind fun (t16, t17) => ((laws_toCircle.f K a2_0 a2_1 a2_2).bind fun (t22, t23, t24) => ((laws_toPoint.f K a3_0 a3_1).bind fun (t26, t27) => ((impl_PowerOf.f K a0 a1 t22 t23 t24 t26 t27).bind fun (t29, t30) => (if (t29 == t16) = true then (if (t30 == t17) = true then some true else some false) else some false)))))))

/-! ### spec_l01Inverse: function 61 -/

def spec_l01Inverse.l0 (K : Nat) (a1 : Int) : Nat → Int → Int → Int → Option (Int)
  | 0, _, _, _ => none
  | k16 + 1, x9, x10, x11 => (if decide (0 < x11) = true then (if ((Int.tmod x11 2) == 1) = true then (if (a1 == 0) = true then none else (spec_l01Inverse.l0 K a1 k16 (Int.tmod (wrap64 (x9 * x10)) a1) (Int.tmod (wrap64 (x10 * x10)) a1) (wrap64 (Int.tdiv x11 2)))) else (if (a1 == 0) = true then none else (spec_l01Inverse.l0 K a1 k16 x9 (Int.tmod (wrap64 (x10 * x10)) a1) (wrap64 (Int.tdiv x11 2))))) else some x9)
def spec_l01Inverse.f (K : Nat) (a0 : Int) (a1 : Int) : Option (Int) := ((spec_l01Mod.f K a0 a1).bind fun t3 => (spec_l01Inverse.l0 K a1 K 1 t3 (wrap64 (a1 - 2))))

/-! ### spec_l01Times: function 63 -/
def spec_l01Times.f (K : Nat) (a0 : Int) (a1 : Int) (a2_0 : Int) (a2_1 : Int) : Option (Int × Int) := ((spec_l01Mod.f K (wrap64 (a1 * a2_0)) a0).bind fun t9 => ((spec_l01Mod.f K (wrap64 (a1 * a2_1)) a0).bind fun t11 => some (t9, t11)))

/-! ### spec_l01Plus: function 62 -/
def spec_l01Plus.f (K : Nat) (a0 : Int) (a1_0 : Int) (a1_1 : Int) (a2_0 : Int) (a2_1 : Int) : Option (Int × Int) := ((spec_l01Mod.f K (wrap64 (a1_0 + a2_0)) a0).bind fun t12 => ((spec_l01Mod.f K (wrap64 (a1_1 + a2_1)) a0).bind fun t14 => some (t12, t14)))

/-! ### spec_InversePoint: function 20 -/
def spec_InversePoint.f (K : Nat) (a0 : Int) (a1 : Int) (a2_0 : Int) (a2_1 : Int) (a2_2 : Int) (a3_0 : Int) (a3_1 : Int) : Option (Int × Int × Int) := ((spec_l06Given.f K a0 a1 a2_0 a2_1 a2_2 a3_0 a3_1).bind fun t13 => (if (t13 == 0) = true then ((spec_l02Quadrance.f K a0 a1 a2_0 a2_1 a3_0 a3_1).bind fun t20 => (if (t20 == 0) = true then some (0, 0, 5) else ((spec_l01Inverse.f K t20 a0).bind fun t32 => ((spec_l01Mod.f K (wrap64 (a2_2 * t32)) a0).bind fun t34 => ((spec_l01Minus.f K a0 a3_0 a3_1 a2_0 a2_1).bind fun (t39, t40) => ((spec_l01Times.f K a0 t34 t39 t40).bind fun (t42, t43) => ((spec_l01Plus.f K a0 a2_0 a2_1 t42 t43).bind fun (t45, t46) => some (t45, t46, 0)))))))) else some (0, 0, t13)))

/-! ### impl_InversePoint_1: function 65 -/
def impl_InversePoint_1.f (K : Nat) (f0_0 : Int) (f1_0 : Int) (f2_0 : Int) (f2_1 : Int) (f2_2 : Int) (f3_0 : Int) (f3_1 : Int) : Option (Bool) := ((impl_isColour.f K f0_0).bind fun t3 => (if t3 = true then ((impl_isCircle.f K f1_0 f2_0 f2_1 f2_2).bind fun t8 => (if t8 = true then ((impl_isPoint.f K f1_0 f3_0 f3_1).bind fun t13 => some t13) else some false)) else some false))

/-! ### impl_asked__impl_InversePoint_1: function 54 -/
def impl_asked__impl_InversePoint_1.f (K : Nat) (a0 : Int) (c1_0_0 : Int) (c1_1_0 : Int) (c1_2_0 : Int) (c1_2_1 : Int) (c1_2_2 : Int) (c1_3_0 : Int) (c1_3_1 : Int) : Option (Int) := ((impl_IsField.f K a0).bind fun t4 => (if t4 = true then ((impl_InversePoint_1.f K c1_0_0 c1_1_0 c1_2_0 c1_2_1 c1_2_2 c1_3_0 c1_3_1).bind fun t11 => (if t11 = true then some 0 else some 2)) else some 1))

/-! ### impl_inverse: function 114 -/

def impl_inverse.l0 (K : Nat) (a0 : Int) (a1 : Int) : Nat → Int → Option (Int)
  | 0, _ => none
  | k9 + 1, x4 => (if decide (x4 < a0) = true then (if (a0 == 0) = true then none else (if ((Int.tmod (wrap64 (a1 * x4)) a0) == 1) = true then some x4 else (impl_inverse.l0 K a0 a1 k9 (wrap64 (x4 + 1))))) else some 0)
def impl_inverse.f (K : Nat) (a0 : Int) (a1 : Int) : Option (Int) := (impl_inverse.l0 K a0 a1 K 1)

/-! ### impl_divide: function 68 -/
def impl_divide.f (K : Nat) (a0 : Int) (a1 : Int) (a2 : Int) : Option (Int) := ((impl_inverse.f K a0 a2).bind fun t3 => ((impl_rest.f K a0 (wrap64 (a1 * t3))).bind fun t7 => some t7))

/-! ### impl_combination: function 67 -/
def impl_combination.f (K : Nat) (a0 : Int) (a1_0 : Int) (a1_1 : Int) (a2_0 : Int) (a2_1 : Int) (a3 : Int) : Option (Int × Int) := ((impl_rest.f K a0 (wrap64 (a1_0 + (wrap64 (a3 * (wrap64 (a2_0 - a1_0))))))).bind fun t12 => ((impl_rest.f K a0 (wrap64 (a1_1 + (wrap64 (a3 * (wrap64 (a2_1 - a1_1))))))).bind fun t14 => some (t12, t14)))

/-! ### impl_InversePoint: function 21 -/
def impl_InversePoint.f (K : Nat) (a0 : Int) (a1 : Int) (a2_0 : Int) (a2_1 : Int) (a2_2 : Int) (a3_0 : Int) (a3_1 : Int) : Option (Int × Int × Int) := ((impl_asked__impl_InversePoint_1.f K a0 a1 a0 a2_0 a2_1 a2_2 a3_0 a3_1).bind fun t19 => (if (t19 == 0) = true then ((impl_quadrance.f K a0 a1 a2_0 a2_1 a3_0 a3_1).bind fun t26 => (if (t26 == 0) = true then some (0, 0, 5) else ((impl_divide.f K a0 a2_2 t26).bind fun t38 => ((impl_combination.f K a0 a2_0 a2_1 a3_0 a3_1 t38).bind fun (t40, t41) => some (t40, t41, 0))))) else some (0, 0, t19)))

/-! ### laws_eqPoint: function 22 -/
def laws_eqPoint.f (K : Nat) (a0_0 : Int) (a0_1 : Int) (a1_0 : Int) (a1_1 : Int) : Option (Bool) := (if (a0_0 == a1_0) = true then (if (a0_1 == a1_1) = true then some true else some false) else some false)

/-! ### laws_FnExactInversePoint: function 5 -/
def laws_FnExactInversePoint.f (K : Nat) (a0 : Int) (a1 : Int) (a2_0 : Int) (a2_1 : Int) (a2_2 : Int) (a3_0 : Int) (a3_1 : Int) : Option (Bool) := ((laws_toCircle.f K a2_0 a2_1 a2_2).bind fun (t9, t10, t11) => ((laws_toPoint.f K a3_0 a3_1).bind fun (t13, t14) => ((spec_InversePoint.f K a0 a1 t9 t10 t11 t13 t14).bind fun (t16, t17, t18) => ((laws_toCircle.f K a2_0 a2_1 a2_2).bind fun (t28, t29, t30) => ((laws_toPoint.f K a3_0 a3_1).bind fun (t32, t33) => ((impl_InversePoint.f K a0 a1 t28 t29 t30 t32 t33).bind fun (t35, t36, t37) => ((laws_eqPoint.f K t35 t36 t16 t17).bind fun t48 => (if t48 = true then (if (t37 == t18) = true then some true else some false) else some false))))))))

/-! ### spec_l01Normal: function 115 -/
def spec_l01Normal.f (K : Nat) (a0 : Int) (a1 : Int) (a2 : Int) (a3 : Int) : Option (Int × Int × Int) := ((spec_l01Mod.f K a1 a0).bind fun t6 => (if (t6 == 0) = true then ((spec_l01Mod.f K a2 a0).bind fun t13 => ((spec_l01Inverse.f K t13 a0).bind fun t18 => ((spec_l01Mod.f K (wrap64 (a1 * t18)) a0).bind fun t23 => ((spec_l01Mod.f K (wrap64 (a2 * t18)) a0).bind fun t27 => ((spec_l01Mod.f K (wrap64 (a3 * t18)) a0).bind fun t31 => some (t23, t27, t31)))))) else ((spec_l01Inverse.f K t6 a0).bind fun t39 => ((spec_l01Mod.f K (wrap64 (a1 * t39)) a0).bind fun t44 => ((spec_l01Mod.f K (wrap64 (a2 * t39)) a0).bind fun t48 => ((spec_l01Mod.f K (wrap64 (a3 * t39)) a0).bind fun t52 => some (t44, t48, t52)))))))

/-! ### spec_l06Radical: function 70 -/
def spec_l06Radical.f (K : Nat) (a0 : Int) (a1 : Int) (a2_0 : Int) (a2_1 : Int) (a2_2 : Int) (a3_0 : Int) (a3_1 : Int) (a3_2 : Int) : Option (Int × Int × Int) := ((spec_l01Minus.f K a0 a3_0 a3_1 a2_0 a2_1).bind fun (t12, t13) => ((spec_l02Quadrance.f K a0 a1 0 0 a2_0 a2_1).bind fun t31 => ((spec_l02Quadrance.f K a0 a1 0 0 a3_0 a3_1).bind fun t33 => (if (a1 == 1) = true then ((spec_l01Normal.f K a0 (wrap64 (2 * t12)) (wrap64 (2 * (wrap64 (-t13)))) (wrap64 ((wrap64 ((wrap64 (t31 - t33)) - a2_2)) + a3_2))).bind fun (t45, t46, t47) => some (t45, t46, t47)) else (if (a1 == 2) = true then ((spec_l01Normal.f K a0 (wrap64 (2 * t13)) (wrap64 (2 * t12)) (wrap64 ((wrap64 ((wrap64 (t31 - t33)) - a2_2)) + a3_2))).bind fun (t60, t61, t62) => some (t60, t61, t62)) else ((spec_l01Normal.f K a0 (wrap64 (2 * t12)) (wrap64 (2 * t13)) (wrap64 ((wrap64 ((wrap64 (t31 - t33)) - a2_2)) + a3_2))).bind fun (t72, t73, t74) => some (t72, t73, t74)))))))

/-! ### spec_RadicalLine: function 23 -/
def spec_RadicalLine.f (K : Nat) (a0 : Int) (a1 : Int) (a2_0 : Int) (a2_1 : Int) (a2_2 : Int) (a3_0 : Int) (a3_1 : Int) (a3_2 : Int) : Option (Int × Int × Int × Int) := ((spec_l06Code.f K a0 a1 ([(a2_0, a2_1, a2_2), (a3_0, a3_1, a3_2)])).bind fun t15 => (if (t15 == 0) = true then (if (a2_0 == a3_0 && a2_1 == a3_1) = true then some (0, 0, 0, 5) else ((spec_l06Radical.f K a0 a1 a2_0 a2_1 a2_2 a3_0 a3_1 a3_2).bind fun (t33, t34, t35) => some (t33, t34, t35, 0))) else some (0, 0, 0, t15)))

/-! ### impl_RadicalLine_1: function 71 -/
def impl_RadicalLine_1.f (K : Nat) (f0_0 : Int) (f1_0 : Int) (f2_0 : Int) (f2_1 : Int) (f2_2 : Int) (f3_0 : Int) (f3_1 : Int) (f3_2 : Int) : Option (Bool) := ((impl_isColour.f K f0_0).bind fun t3 => (if t3 = true then ((impl_isCircle.f K f1_0 f2_0 f2_1 f2_2).bind fun t8 => (if t8 = true then ((impl_isCircle.f K f1_0 f3_0 f3_1 f3_2).bind fun t13 => some t13) else some false)) else some false))

/-! ### impl_asked__impl_RadicalLine_1: function 54 -/
def impl_asked__impl_RadicalLine_1.f (K : Nat) (a0 : Int) (c1_0_0 : Int) (c1_1_0 : Int) (c1_2_0 : Int) (c1_2_1 : Int) (c1_2_2 : Int) (c1_3_0 : Int) (c1_3_1 : Int) (c1_3_2 : Int) : Option (Int) := ((impl_IsField.f K a0).bind fun t4 => (if t4 = true then ((impl_RadicalLine_1.f K c1_0_0 c1_1_0 c1_2_0 c1_2_1 c1_2_2 c1_3_0 c1_3_1 c1_3_2).bind fun t11 => (if t11 = true then some 0 else some 2)) else some 1))

/-! ### impl_RadicalLine_2: function 72 -/
def impl_RadicalLine_2.f (K : Nat) (a0_0 : Int) (a0_1 : Int) (f0_0 : Int) (f1_0 : Int) (f2_0 : Int) (f2_1 : Int) (f2_2 : Int) (f3_0 : Int) (f3_1 : Int) (f3_2 : Int) : Option (Int) := ((impl_power.f K f0_0 f1_0 f2_0 f2_1 f2_2 a0_0 a0_1).bind fun t6 => ((impl_power.f K f0_0 f1_0 f3_0 f3_1 f3_2 a0_0 a0_1).bind fun t8 => ((impl_rest.f K f0_0 (wrap64 (t6 - t8))).bind fun t10 => some t10)))

/-! ### impl_makeLine: function 74 -/
def impl_makeLine.f (K : Nat) (a0 : Int) (a1 : Int) (a2 : Int) (a3 : Int) : Option (Int × Int × Int) := ((impl_rest.f K a0 a1).bind fun t6 => ((impl_rest.f K a0 a2).bind fun t10 => ((impl_rest.f K a0 a3).bind fun t14 => (if (t6 == 0) = true then ((impl_divide.f K a0 t6 t10).bind fun t23 => ((impl_divide.f K a0 t10 t10).bind fun t27 => ((impl_divide.f K a0 t14 t10).bind fun t31 => some (t23, t27, t31)))) else ((impl_divide.f K a0 t6 t6).bind fun t39 => ((impl_divide.f K a0 t10 t6).bind fun t43 => ((impl_divide.f K a0 t14 t6).bind fun t47 => some (t39, t43, t47))))))))

/-! ### impl_RadicalLine: function 24 -/
def impl_RadicalLine.f (K : Nat) (a0 : Int) (a1 : Int) (a2_0 : Int) (a2_1 : Int) (a2_2 : Int) (a3_0 : Int) (a3_1 : Int) (a3_2 : Int) : Option (Int × Int × Int × Int) := ((impl_asked__impl_RadicalLine_1.f K a0 a1 a0 a2_0 a2_1 a2_2 a3_0 a3_1 a3_2).bind fun t19 => (if (t19 == 0) = true then (if (a2_0 == a3_0 && a2_1 == a3_1) = true then some (0, 0, 0, 5) else ((impl_RadicalLine_2.f K 0 0 a0 a1 a2_0 a2_1 a2_2 a3_0 a3_1 a3_2).bind fun t34 => ((impl_RadicalLine_2.f K 1 0 a0 a1 a2_0 a2_1 a2_2 a3_0 a3_1 a3_2).bind fun t39 => ((impl_RadicalLine_2.f K 0 1 a0 a1 a2_0 a2_1 a2_2 a3_0 a3_1 a3_2).bind fun t41 => ((impl_makeLine.f K a0 (wrap64 (t39 - t34)) (wrap64 (t41 - t34)) t34).bind fun (t43, t44, t45) => some (t43, t44, t45, 0)))))) else some (0, 0, 0, t19)))

/-! ### laws_eqLine: function 25 -/
def laws_eqLine.f (K : Nat) (a0_0 : Int) (a0_1 : Int) (a0_2 : Int) (a1_0 : Int) (a1_1 : Int) (a1_2 : Int) : Option (Bool) := (if (a0_0 == a1_0) = true then (if (a0_1 == a1_1) = true then (if (a0_2 == a1_2) = true then some true else some false) else some false) else some false)

/-! ### laws_FnExactRadicalLine: function 6 -/
def laws_FnExactRadicalLine.f (K : Nat) (a0 : Int) (a1 : Int) (a2_0 : Int) (a2_1 : Int) (a2_2 : Int) (a3_0 : Int) (a3_1 : Int) (a3_2 : Int) : Option (Bool) := ((laws_toCircle.f K a2_0 a2_1 a2_2).bind fun (t9, t10, t11) => ((laws_toCircle.f K a3_0 a3_1 a3_2).bind fun (t13, t14, t15) => ((spec_RadicalLine.f K a0 a1 t9 t10 t11 t13 t14 t15).bind fun (t17, t18, t19, t20) => ((laws_toCircle.f K a2_0 a2_1 a2_2).bind fun (t30, t31, t32) => ((laws_toCircle.f K a3_0 a3_1 a3_2).bind fun (t34, t35, t36) => ((impl_RadicalLine.f K a0 a1 t30 t31 t32 t34 t35 t36).bind fun (t38, t39, t40, t41) => ((laws_eqLine.f K t38 t39 t40 t17 t18 t19).bind fun t52 => (if t52 = true then (if (t41 == t20) = true then some true else some false) else some false))))))))

/-! ### spec_l01Area: function 79 -/
def spec_l01Area.f (K : Nat) (a0 : Int) (a1_0 : Int) (a1_1 : Int) (a2_0 : Int) (a2_1 : Int) (a3_0 : Int) (a3_1 : Int) : Option (Int) := ((spec_l01Mod.f K (wrap64 ((wrap64 ((wrap64 (a2_0 - a1_0)) * (wrap64 (a3_1 - a1_1)))) - (wrap64 ((wrap64 (a2_1 - a1_1)) * (wrap64 (a3_0 - a1_0)))))) a0).bind fun t12 => some t12)

/-! ### spec_l01Meet: function 80 -/
def spec_l01Meet.f (K : Nat) (a0 : Int) (a1_0 : Int) (a1_1 : Int) (a1_2 : Int) (a2_0 : Int) (a2_1 : Int) (a2_2 : Int) : Option (Int × Int × Bool) := ((spec_l01Mod.f K (wrap64 ((wrap64 (a1_0 * a2_1)) - (wrap64 (a1_1 * a2_0)))) a0).bind fun t12 => (if (t12 == 0) = true then some (0, 0, false) else ((spec_l01Inverse.f K t12 a0).bind fun t24 => (if (a0 == 0) = true then none else ((spec_l01Mod.f K (wrap64 ((Int.tmod (wrap64 ((wrap64 (a1_1 * a2_2)) - (wrap64 (a2_1 * a1_2)))) a0) * t24)) a0).bind fun t30 => ((spec_l01Mod.f K (wrap64 ((Int.tmod (wrap64 ((wrap64 (a2_0 * a1_2)) - (wrap64 (a1_0 * a2_2)))) a0) * t24)) a0).bind fun t32 => some (t30, t32, true)))))))

/-! ### spec_RadicalCentre: function 31 -/
def spec_RadicalCentre.f (K : Nat) (a0 : Int) (a1 : Int) (a2_0 : Int) (a2_1 : Int) (a2_2 : Int) (a3_0 : Int) (a3_1 : Int) (a3_2 : Int) (a4_0 : Int) (a4_1 : Int) (a4_2 : Int) : Option (Int × Int × Int) := ((spec_l06Code.f K a0 a1 ([(a2_0, a2_1, a2_2), (a3_0, a3_1, a3_2), (a4_0, a4_1, a4_2)])).bind fun t18 => (if (t18 == 0) = true then ((spec_l01Area.f K a0 a2_0 a2_1 a3_0 a3_1 a4_0 a4_1).bind fun t25 => (if (t25 == 0) = true then some (0, 0, 5) else ((spec_l06Radical.f K a0 a1 a2_0 a2_1 a2_2 a3_0 a3_1 a3_2).bind fun (t40, t41, t42) => ((spec_l06Radical.f K a0 a1 a2_0 a2_1 a2_2 a4_0 a4_1 a4_2).bind fun (t44, t45, t46) => ((spec_l01Meet.f K a0 t40 t41 t42 t44 t45 t46).bind fun (t48, t49, t50) => some (t48, t49, 0)))))) else some (0, 0, t18)))

/-! ### impl_RadicalCentre_1: function 81 -/
def impl_RadicalCentre_1.f (K : Nat) (f0_0 : Int) (f1_0 : Int) (f2_0 : Int) (f2_1 : Int) (f2_2 : Int) (f3_0 : Int) (f3_1 : Int) (f3_2 : Int) (f4_0 : Int) (f4_1 : Int) (f4_2 : Int) : Option (Bool) := ((impl_isColour.f K f0_0).bind fun t3 => (if t3 = true then ((impl_isCircle.f K f1_0 f2_0 f2_1 f2_2).bind fun t8 => (if t8 = true then ((impl_isCircle.f K f1_0 f3_0 f3_1 f3_2).bind fun t13 => (if t13 = true then ((impl_isCircle.f K f1_0 f4_0 f4_1 f4_2).bind fun t18 => some t18) else some false)) else some false)) else some false))

/-! ### impl_asked__impl_RadicalCentre_1: function 54 -/
def impl_asked__impl_RadicalCentre_1.f (K : Nat) (a0 : Int) (c1_0_0 : Int) (c1_1_0 : Int) (c1_2_0 : Int) (c1_2_1 : Int) (c1_2_2 : Int) (c1_3_0 : Int) (c1_3_1 : Int) (c1_3_2 : Int) (c1_4_0 : Int) (c1_4_1 : Int) (c1_4_2 : Int) : Option (Int) := ((impl_IsField.f K a0).bind fun t4 => (if t4 = true then ((impl_RadicalCentre_1.f K c1_0_0 c1_1_0 c1_2_0 c1_2_1 c1_2_2 c1_3_0 c1_3_1 c1_3_2 c1_4_0 c1_4_1 c1_4_2).bind fun t11 => (if t11 = true then some 0 else some 2)) else some 1))

/-! ### impl_area: function 82 -/
def impl_area.f (K : Nat) (a0 : Int) (a1_0 : Int) (a1_1 : Int) (a2_0 : Int) (a2_1 : Int) (a3_0 : Int) (a3_1 : Int) : Option (Int) := ((impl_less.f K a0 a2_0 a2_1 a1_0 a1_1).bind fun (t12, t13) => ((impl_less.f K a0 a3_0 a3_1 a1_0 a1_1).bind fun (t15, t16) => ((impl_rest.f K a0 (wrap64 ((wrap64 (t12 * t16)) - (wrap64 (t13 * t15))))).bind fun t34 => some t34)))

/-! ### impl_allPoints: function 83 -/
mutual
def impl_allPoints.l0 (K : Nat) (a0 : Int) : Nat → Int → List (Int × Int) → Option (List (Int × Int))
  | 0, _, _ => none
  | k19 + 1, x10, x11 => (if decide (x10 < a0) = true then (impl_allPoints.l1 K a0 x10 k19 0 x11) else some x11)
def impl_allPoints.l1 (K : Nat) (a0 : Int) (x10 : Int) : Nat → Int → List (Int × Int) → Option (List (Int × Int))
  | 0, _, _ => none
  | k38 + 1, x29, x30 => (if decide (x29 < a0) = true then (if decide (x30.length ≤ 1000000) = true then (impl_allPoints.l1 K a0 x10 k38 (wrap64 (x29 + 1)) (x30 ++ [(x10, x29)])) else none) else (impl_allPoints.l0 K a0 k38 (wrap64 (x10 + 1)) x30))
end
def impl_allPoints.f (K : Nat) (a0 : Int) : Option (List (Int × Int)) := (impl_allPoints.l0 K a0 K 0 ([] : List (Int × Int)))

/-! ### impl_RadicalCentre: function 32 -/

def impl_RadicalCentre.l0 (K : Nat) (a0 : Int) (a1 : Int) (a2_0 : Int) (a2_1 : Int) (a2_2 : Int) (a3_0 : Int) (a3_1 : Int) (a3_2 : Int) (a4_0 : Int) (a4_1 : Int) (a4_2 : Int) (t41 : List (Int × Int)) : Nat → Int → Int → Int → Option (Int × Int × Int)
  | 0, _, _, _ => none
  | k56 + 1, x47, x48, x49 => (if decide (x47 < (t41.length : Int)) = true then ((idx t41 x47).bind fun (t66, t67) => ((impl_power.f K a0 a1 a2_0 a2_1 a2_2 t66 t67).bind fun t79 => ((impl_power.f K a0 a1 a3_0 a3_1 a3_2 t66 t67).bind fun t84 => (if (t79 == t84) = true then ((impl_power.f K a0 a1 a4_0 a4_1 a4_2 t66 t67).bind fun t89 => (if (t79 == t89) = true then some (t66, t67, 0) else (impl_RadicalCentre.l0 K a0 a1 a2_0 a2_1 a2_2 a3_0 a3_1 a3_2 a4_0 a4_1 a4_2 t41 k56 (wrap64 (x47 + 1)) x48 x49))) else (impl_RadicalCentre.l0 K a0 a1 a2_0 a2_1 a2_2 a3_0 a3_1 a3_2 a4_0 a4_1 a4_2 t41 k56 (wrap64 (x47 + 1)) x48 x49))))) else some (0, 0, 5))
def impl_RadicalCentre.f (K : Nat) (a0 : Int) (a1 : Int) (a2_0 : Int) (a2_1 : Int) (a2_2 : Int) (a3_0 : Int) (a3_1 : Int) (a3_2 : Int) (a4_0 : Int) (a4_1 : Int) (a4_2 : Int) : Option (Int × Int × Int) := ((impl_asked__impl_RadicalCentre_1.f K a0 a1 a0 a2_0 a2_1 a2_2 a3_0 a3_1 a3_2 a4_0 a4_1 a4_2).bind fun t22 => (if (t22 == 0) = true then ((impl_area.f K a0 a2_0 a2_1 a3_0 a3_1 a4_0 a4_1).bind fun t30 => (if (t30 == 0) = true then some (0, 0, 5) else ((impl_allPoints.f K a0).bind fun t41 => (impl_RadicalCentre.l0 K a0 a1 a2_0 a2_1 a2_2 a3_0 a3_1 a3_2 a4_0 a4_1 a4_2 t41 K 0 0 0)))) else some (0, 0, t22)))

/-! ### laws_FnExactRadicalCentre: function 8 -/
def laws_FnExactRadicalCentre.f (K : Nat) (a0 : Int) (a1 : Int) (a2_0 : Int) (a2_1 : Int) (a2_2 : Int) (a3_0 : Int) (a3_1 : Int) (a3_2 : Int) (a4_0 : Int) (a4_1 : Int) (a4_2 : Int) : Option (Bool) := ((laws_toCircle.f K a2_0 a2_1 a2_2).bind fun (t12, t13, t14) => ((laws_toCircle.f K a3_0 a3_1 a3_2).bind fun (t16, t17, t18) => ((laws_toCircle.f K a4_0 a4_1 a4_2).bind fun (t20, t21, t22) => ((spec_RadicalCentre.f K a0 a1 t12 t13 t14 t16 t17 t18 t20 t21 t22).bind fun (t24, t25, t26) => ((laws_toCircle.f K a2_0 a2_1 a2_2).bind fun (t36, t37, t38) => ((laws_toCircle.f K a3_0 a3_1 a3_2).bind fun (t40, t41, t42) => ((laws_toCircle.f K a4_0 a4_1 a4_2).bind fun (t44, t45, t46) => ((impl_RadicalCentre.f K a0 a1 t36 t37 t38 t40 t41 t42 t44 t45 t46).bind fun (t48, t49, t50) => ((laws_eqPoint.f K t48 t49 t24 t25).bind fun t61 => (if t61 = true then (if (t50 == t26) = true then some true else some false) else some false))))))))))

/-! ### spec_l04Code: function 85 -/
def spec_l04Code.f (K : Nat) (a0 : Int) (a1 : Int) (a2_0 : Int) (a2_1 : Int) (a3_0 : Int) (a3_1 : Int) (a4_0 : Int) (a4_1 : Int) : Option (Int) := ((spec_l02Code.f K a0 a1 ([(a2_0, a2_1), (a3_0, a3_1), (a4_0, a4_1)])).bind fun t15 => (if (t15 == 0) = true then ((spec_l01Area.f K a0 a2_0 a2_1 a3_0 a3_1 a4_0 a4_1).bind fun t22 => (if (t22 == 0) = true then some 5 else some t15)) else some t15))

/-! ### spec_l01Middle: function 131 -/
def spec_l01Middle.f (K : Nat) (a0 : Int) (a1_0 : Int) (a1_1 : Int) (a2_0 : Int) (a2_1 : Int) : Option (Int × Int) := ((spec_l01Plus.f K a0 a1_0 a1_1 a2_0 a2_1).bind fun (t12, t13) => ((spec_l01Times.f K a0 (wrap64 (Int.tdiv (wrap64 (a0 + 1)) 2)) t12 t13).bind fun (t17, t18) => some (t17, t18)))

/-! ### spec_l02Through: function 119 -/
def spec_l02Through.f (K : Nat) (a0 : Int) (a1 : Int) (a2_0 : Int) (a2_1 : Int) (a3_0 : Int) (a3_1 : Int) : Option (Int × Int × Int) := (if (a1 == 1) = true then ((spec_l01Mod.f K (wrap64 (-a2_1)) a0).bind fun t18 => ((spec_l01Mod.f K (wrap64 (-(wrap64 ((wrap64 (a2_0 * a3_0)) + (wrap64 (t18 * a3_1)))))) a0).bind fun t23 => ((spec_l01Normal.f K a0 a2_0 t18 t23).bind fun (t27, t28, t29) => some (t27, t28, t29)))) else (if (a1 == 2) = true then ((spec_l01Mod.f K (wrap64 (-(wrap64 ((wrap64 (a2_1 * a3_0)) + (wrap64 (a2_0 * a3_1)))))) a0).bind fun t40 => ((spec_l01Normal.f K a0 a2_1 a2_0 t40).bind fun (t44, t45, t46) => some (t44, t45, t46))) else ((spec_l01Mod.f K (wrap64 (-(wrap64 ((wrap64 (a2_0 * a3_0)) + (wrap64 (a2_1 * a3_1)))))) a0).bind fun t54 => ((spec_l01Normal.f K a0 a2_0 a2_1 t54).bind fun (t58, t59, t60) => some (t58, t59, t60)))))

/-! ### spec_l04Circumcentre: function 117 -/
def spec_l04Circumcentre.f (K : Nat) (a0 : Int) (a1 : Int) (a2_0 : Int) (a2_1 : Int) (a3_0 : Int) (a3_1 : Int) (a4_0 : Int) (a4_1 : Int) : Option (Int × Int) := ((spec_l01Minus.f K a0 a2_0 a2_1 a3_0 a3_1).bind fun (t15, t16) => ((spec_l01Middle.f K a0 a2_0 a2_1 a3_0 a3_1).bind fun (t18, t19) => ((spec_l02Through.f K a0 a1 t15 t16 t18 t19).bind fun (t21, t22, t23) => ((spec_l01Minus.f K a0 a2_0 a2_1 a4_0 a4_1).bind fun (t33, t34) => ((spec_l01Middle.f K a0 a2_0 a2_1 a4_0 a4_1).bind fun (t36, t37) => ((spec_l02Through.f K a0 a1 t33 t34 t36 t37).bind fun (t39, t40, t41) => ((spec_l01Meet.f K a0 t21 t22 t23 t39 t40 t41).bind fun (t51, t52, t53) => some (t51, t52))))))))

/-! ### spec_l06Through: function 86 -/
def spec_l06Through.f (K : Nat) (a0 : Int) (a1 : Int) (a2_0 : Int) (a2_1 : Int) (a3_0 : Int) (a3_1 : Int) (a4_0 : Int) (a4_1 : Int) : Option (Int × Int × Int) := ((spec_l04Circumcentre.f K a0 a1 a2_0 a2_1 a3_0 a3_1 a4_0 a4_1).bind fun (t15, t16) => ((spec_l02Quadrance.f K a0 a1 t15 t16 a2_0 a2_1).bind fun t27 => some (t15, t16, t27)))

/-! ### spec_AreCyclic: function 33 -/
def spec_AreCyclic.f (K : Nat) (a0 : Int) (a1 : Int) (a2_0 : Int) (a2_1 : Int) (a3_0 : Int) (a3_1 : Int) (a4_0 : Int) (a4_1 : Int) (a5_0 : Int) (a5_1 : Int) : Option (Bool × Int) := ((spec_l02Code.f K a0 a1 ([(a2_0, a2_1), (a3_0, a3_1), (a4_0, a4_1), (a5_0, a5_1)])).bind fun t18 => (if (t18 == 0) = true then ((spec_l04Code.f K a0 a1 a2_0 a2_1 a3_0 a3_1 a4_0 a4_1).bind fun t25 => (if (t25 == 0) = true then ((spec_l06Through.f K a0 a1 a2_0 a2_1 a3_0 a3_1 a4_0 a4_1).bind fun (t33, t34, t35) => ((spec_l06Power.f K a0 a1 t33 t34 t35 a5_0 a5_1).bind fun t37 => some (t37 == 0, 0))) else some (false, t25))) else some (false, t18)))

/-! ### impl_arePoints: function 88 -/

def impl_arePoints.l0 (K : Nat) (a0 : Int) (a1 : List (Int × Int)) : Nat → Int → Option (Bool)
  | 0, _ => none
  | k9 + 1, x4 => (if decide (x4 < (a1.length : Int)) = true then ((idx a1 x4).bind fun (t19, t20) => ((impl_isPoint.f K a0 t19 t20).bind fun t32 => (if t32 = true then (impl_arePoints.l0 K a0 a1 k9 (wrap64 (x4 + 1))) else some false))) else some true)
def impl_arePoints.f (K : Nat) (a0 : Int) (a1 : List (Int × Int)) : Option (Bool) := (impl_arePoints.l0 K a0 a1 K 0)

/-! ### impl_AreCyclic_1: function 87 -/
def impl_AreCyclic_1.f (K : Nat) (f0_0 : Int) (f1_0 : Int) (f2_0 : Int) (f2_1 : Int) (f3_0 : Int) (f3_1 : Int) (f4_0 : Int) (f4_1 : Int) (f5_0 : Int) (f5_1 : Int) : Option (Bool) := ((impl_isColour.f K f0_0).bind fun t3 => (if t3 = true then ((impl_arePoints.f K f1_0 ([(f2_0, f2_1), (f3_0, f3_1), (f4_0, f4_1), (f5_0, f5_1)])).bind fun t11 => some t11) else some false))

/-! ### impl_asked__impl_AreCyclic_1: function 54 -/
def impl_asked__impl_AreCyclic_1.f (K : Nat) (a0 : Int) (c1_0_0 : Int) (c1_1_0 : Int) (c1_2_0 : Int) (c1_2_1 : Int) (c1_3_0 : Int) (c1_3_1 : Int) (c1_4_0 : Int) (c1_4_1 : Int) (c1_5_0 : Int) (c1_5_1 : Int) : Option (Int) := ((impl_IsField.f K a0).bind fun t4 => (if t4 = true then ((impl_AreCyclic_1.f K c1_0_0 c1_1_0 c1_2_0 c1_2_1 c1_3_0 c1_3_1 c1_4_0 c1_4_1 c1_5_0 c1_5_1).bind fun t11 => (if t11 = true then some 0 else some 2)) else some 1))

/-! ### impl_circumcentre: function 118 -/

def impl_circumcentre.l0 (K : Nat) (a0 : Int) (a1 : Int) (a2_0 : Int) (a2_1 : Int) (a3_0 : Int) (a3_1 : Int) (a4_0 : Int) (a4_1 : Int) (t16 : List (Int × Int)) : Nat → Int → Int → Int → Option (Int × Int)
  | 0, _, _, _ => none
  | k31 + 1, x22, x23, x24 => (if decide (x22 < (t16.length : Int)) = true then ((idx t16 x22).bind fun (t41, t42) => ((impl_quadrance.f K a0 a1 t41 t42 a2_0 a2_1).bind fun t54 => ((impl_quadrance.f K a0 a1 t41 t42 a3_0 a3_1).bind fun t59 => (if (t54 == t59) = true then ((impl_quadrance.f K a0 a1 t41 t42 a4_0 a4_1).bind fun t64 => (if (t54 == t64) = true then some (t41, t42) else (impl_circumcentre.l0 K a0 a1 a2_0 a2_1 a3_0 a3_1 a4_0 a4_1 t16 k31 (wrap64 (x22 + 1)) x23 x24))) else (impl_circumcentre.l0 K a0 a1 a2_0 a2_1 a3_0 a3_1 a4_0 a4_1 t16 k31 (wrap64 (x22 + 1)) x23 x24))))) else some (0, 0))
def impl_circumcentre.f (K : Nat) (a0 : Int) (a1 : Int) (a2_0 : Int) (a2_1 : Int) (a3_0 : Int) (a3_1 : Int) (a4_0 : Int) (a4_1 : Int) : Option (Int × Int) := ((impl_allPoints.f K a0).bind fun t16 => (impl_circumcentre.l0 K a0 a1 a2_0 a2_1 a3_0 a3_1 a4_0 a4_1 t16 K 0 0 0))

/-! ### impl_circleThrough: function 89 -/
def impl_circleThrough.f (K : Nat) (a0 : Int) (a1 : Int) (a2_0 : Int) (a2_1 : Int) (a3_0 : Int) (a3_1 : Int) (a4_0 : Int) (a4_1 : Int) : Option (Int × Int × Int) := ((impl_circumcentre.f K a0 a1 a2_0 a2_1 a3_0 a3_1 a4_0 a4_1).bind fun (t15, t16) => ((impl_quadrance.f K a0 a1 t15 t16 a2_0 a2_1).bind fun t27 => some (t15, t16, t27)))

/-! ### impl_AreCyclic: function 34 -/
def impl_AreCyclic.f (K : Nat) (a0 : Int) (a1 : Int) (a2_0 : Int) (a2_1 : Int) (a3_0 : Int) (a3_1 : Int) (a4_0 : Int) (a4_1 : Int) (a5_0 : Int) (a5_1 : Int) : Option (Bool × Int) := ((impl_asked__impl_AreCyclic_1.f K a0 a1 a0 a2_0 a2_1 a3_0 a3_1 a4_0 a4_1 a5_0 a5_1).bind fun t22 => (if (t22 == 0) = true then ((impl_area.f K a0 a2_0 a2_1 a3_0 a3_1 a4_0 a4_1).bind fun t30 => (if (t30 == 0) = true then some (false, 5) else ((impl_circleThrough.f K a0 a1 a2_0 a2_1 a3_0 a3_1 a4_0 a4_1).bind fun (t37, t38, t39) => ((impl_power.f K a0 a1 t37 t38 t39 a5_0 a5_1).bind fun t41 => some (t41 == 0, 0))))) else some (false, t22)))

/-! ### laws_FnExactAreCyclic: function 9 -/
def laws_FnExactAreCyclic.f (K : Nat) (a0 : Int) (a1 : Int) (a2_0 : Int) (a2_1 : Int) (a3_0 : Int) (a3_1 : Int) (a4_0 : Int) (a4_1 : Int) (a5_0 : Int) (a5_1 : Int) : Option (Bool) := ((laws_toPoint.f K a2_0 a2_1).bind fun (t15, t16) => ((laws_toPoint.f K a3_0 a3_1).bind fun (t18, t19) => ((laws_toPoint.f K a4_0 a4_1).bind fun (t21, t22) => ((laws_toPoint.f K a5_0 a5_1).bind fun (t24, t25) => ((spec_AreCyclic.f K a0 a1 t15 t16 t18 t19 t21 t22 t24 t25).bind fun (t27, t28) => ((laws_toPoint.f K a2_0 a2_1).bind fun (t33, t34) => ((laws_toPoint.f K a3_0 a3_1).bind fun (t36, t37) => ((laws_toPoint.f K a4_0 a4_1).bind fun (t39, t40) => ((laws_toPoint.f K a5_0 a5_1).bind fun (t42, t43) => ((impl_AreCyclic.f K a0 a1 t33 t34 t36 t37 t39 t40 t42 t43).bind fun (t45, t46) => (if t45 = true then (if t27 = true then (if (t46 == t28) = true then some true else some false) else some false) else (if t27 = true then some false else (if (t46 == t28) = true then some true else some false)))))))))))))

/-! ### spec_l06Tangent: function 90 -/
def spec_l06Tangent.f (K : Nat) (a0 : Int) (a1 : Int) (a2_0 : Int) (a2_1 : Int) (a2_2 : Int) (a3_0 : Int) (a3_1 : Int) : Option (Int × Int × Int) := ((spec_l01Minus.f K a0 a3_0 a3_1 a2_0 a2_1).bind fun (t12, t13) => ((spec_l02Through.f K a0 a1 t12 t13 a3_0 a3_1).bind fun (t15, t16, t17) => some (t15, t16, t17)))

/-! ### spec_TangentAt: function 35 -/
def spec_TangentAt.f (K : Nat) (a0 : Int) (a1 : Int) (a2_0 : Int) (a2_1 : Int) (a2_2 : Int) (a3_0 : Int) (a3_1 : Int) : Option (Int × Int × Int × Int) := ((spec_l06Given.f K a0 a1 a2_0 a2_1 a2_2 a3_0 a3_1).bind fun t12 => (if (t12 == 0) = true then ((spec_l06Power.f K a0 a1 a2_0 a2_1 a2_2 a3_0 a3_1).bind fun t19 => (if (t19 == 0) = true then (if (a3_0 == a2_0 && a3_1 == a2_1) = true then some (0, 0, 0, 5) else ((spec_l06Tangent.f K a0 a1 a2_0 a2_1 a2_2 a3_0 a3_1).bind fun (t34, t35, t36) => some (t34, t35, t36, 0))) else some (0, 0, 0, 5))) else some (0, 0, 0, t12)))

/-! ### impl_TangentAt_1: function 91 -/
def impl_TangentAt_1.f (K : Nat) (f0_0 : Int) (f1_0 : Int) (f2_0 : Int) (f2_1 : Int) (f2_2 : Int) (f3_0 : Int) (f3_1 : Int) : Option (Bool) := ((impl_isColour.f K f0_0).bind fun t3 => (if t3 = true then ((impl_isCircle.f K f1_0 f2_0 f2_1 f2_2).bind fun t8 => (if t8 = true then ((impl_isPoint.f K f1_0 f3_0 f3_1).bind fun t13 => some t13) else some false)) else some false))

/-! ### impl_asked__impl_TangentAt_1: function 54 -/
def impl_asked__impl_TangentAt_1.f (K : Nat) (a0 : Int) (c1_0_0 : Int) (c1_1_0 : Int) (c1_2_0 : Int) (c1_2_1 : Int) (c1_2_2 : Int) (c1_3_0 : Int) (c1_3_1 : Int) : Option (Int) := ((impl_IsField.f K a0).bind fun t4 => (if t4 = true then ((impl_TangentAt_1.f K c1_0_0 c1_1_0 c1_2_0 c1_2_1 c1_2_2 c1_3_0 c1_3_1).bind fun t11 => (if t11 = true then some 0 else some 2)) else some 1))

/-! ### impl_through: function 134 -/
def impl_through.f (K : Nat) (a0 : Int) (a1_0 : Int) (a1_1 : Int) (a2_0 : Int) (a2_1 : Int) : Option (Int × Int × Int) := ((impl_makeLine.f K a0 a2_1 (wrap64 (-a2_0)) (wrap64 (-(wrap64 ((wrap64 (a2_1 * a1_0)) + (wrap64 ((wrap64 (-a2_0)) * a1_1))))))).bind fun (t15, t16, t17) => some (t15, t16, t17))

/-! ### impl_lineThrough: function 121 -/
def impl_lineThrough.f (K : Nat) (a0 : Int) (a1_0 : Int) (a1_1 : Int) (a2_0 : Int) (a2_1 : Int) : Option (Int × Int × Int) := ((impl_less.f K a0 a2_0 a2_1 a1_0 a1_1).bind fun (t12, t13) => ((impl_through.f K a0 a1_0 a1_1 t12 t13).bind fun (t15, t16, t17) => some (t15, t16, t17)))

/-! ### impl_linesThrough: function 132 -/

def impl_linesThrough.l0 (K : Nat) (a0 : Int) (a1_0 : Int) (a1_1 : Int) : Nat → Int → List (Int × Int × Int) → Option (List (Int × Int × Int))
  | 0, _, _ => none
  | k27 + 1, x17, x18 => (if decide (x17 < a0) = true then ((impl_rest.f K a0 (wrap64 ((wrap64 (-a1_0)) - (wrap64 (x17 * a1_1))))).bind fun t36 => (if decide (x18.length ≤ 1000000) = true then (impl_linesThrough.l0 K a0 a1_0 a1_1 k27 (wrap64 (x17 + 1)) (x18 ++ [(1, x17, t36)])) else none)) else some x18)
def impl_linesThrough.f (K : Nat) (a0 : Int) (a1_0 : Int) (a1_1 : Int) : Option (List (Int × Int × Int)) := ((impl_rest.f K a0 (wrap64 (-a1_1))).bind fun t6 => (impl_linesThrough.l0 K a0 a1_0 a1_1 K 0 ([(0, 1, t6)])))

/-! ### impl_way: function 154 -/
def impl_way.f (K : Nat) (a0 : Int) (a1_0 : Int) (a1_1 : Int) (a1_2 : Int) : Option (Int × Int) := ((impl_rest.f K a0 (wrap64 (-a1_1))).bind fun t9 => some (t9, a1_0))

/-! ### impl_arePerpendicular: function 133 -/
def impl_arePerpendicular.f (K : Nat) (a0 : Int) (a1 : Int) (a2_0 : Int) (a2_1 : Int) (a2_2 : Int) (a3_0 : Int) (a3_1 : Int) (a3_2 : Int) : Option (Bool) := ((impl_way.f K a0 a2_0 a2_1 a2_2).bind fun (t9, t10) => ((impl_way.f K a0 a3_0 a3_1 a3_2).bind fun (t12, t13) => ((impl_product.f K a0 a1 t9 t10 t12 t13).bind fun t15 => some (t15 == 0))))

/-! ### impl_perpendicular: function 120 -/

def impl_perpendicular.l0 (K : Nat) (a0 : Int) (a1 : Int) (a2_0 : Int) (a2_1 : Int) (a2_2 : Int) (t13 : List (Int × Int × Int)) : Nat → Int → Int → Int → Int → Option (Int × Int × Int)
  | 0, _, _, _, _ => none
  | k29 + 1, x19, x20, x21, x22 => (if decide (x19 < (t13.length : Int)) = true then ((idx t13 x19).bind fun (t39, t40, t41) => ((impl_arePerpendicular.f K a0 a1 a2_0 a2_1 a2_2 t39 t40 t41).bind fun t53 => (if t53 = true then some (t39, t40, t41) else (impl_perpendicular.l0 K a0 a1 a2_0 a2_1 a2_2 t13 k29 (wrap64 (x19 + 1)) x20 x21 x22)))) else some (0, 0, 0))
def impl_perpendicular.f (K : Nat) (a0 : Int) (a1 : Int) (a2_0 : Int) (a2_1 : Int) (a2_2 : Int) (a3_0 : Int) (a3_1 : Int) : Option (Int × Int × Int) := ((impl_linesThrough.f K a0 a3_0 a3_1).bind fun t13 => (impl_perpendicular.l0 K a0 a1 a2_0 a2_1 a2_2 t13 K 0 0 0 0))

/-! ### impl_tangent: function 92 -/
def impl_tangent.f (K : Nat) (a0 : Int) (a1 : Int) (a2_0 : Int) (a2_1 : Int) (a2_2 : Int) (a3_0 : Int) (a3_1 : Int) : Option (Int × Int × Int) := ((impl_lineThrough.f K a0 a2_0 a2_1 a3_0 a3_1).bind fun (t12, t13, t14) => ((impl_perpendicular.f K a0 a1 t12 t13 t14 a3_0 a3_1).bind fun (t16, t17, t18) => some (t16, t17, t18)))

/-! ### impl_TangentAt: function 36 -/
def impl_TangentAt.f (K : Nat) (a0 : Int) (a1 : Int) (a2_0 : Int) (a2_1 : Int) (a2_2 : Int) (a3_0 : Int) (a3_1 : Int) : Option (Int × Int × Int × Int) := ((impl_asked__impl_TangentAt_1.f K a0 a1 a0 a2_0 a2_1 a2_2 a3_0 a3_1).bind fun t19 => (if (t19 == 0) = true then ((impl_power.f K a0 a1 a2_0 a2_1 a2_2 a3_0 a3_1).bind fun t27 => (if (t27 == 0) = true then (if (a3_0 == a2_0 && a3_1 == a2_1) = true then some (0, 0, 0, 5) else ((impl_tangent.f K a0 a1 a2_0 a2_1 a2_2 a3_0 a3_1).bind fun (t38, t39, t40) => some (t38, t39, t40, 0))) else some (0, 0, 0, 5))) else some (0, 0, 0, t19)))

/-! ### laws_FnExactTangentAt: function 10 -/
def laws_FnExactTangentAt.f (K : Nat) (a0 : Int) (a1 : Int) (a2_0 : Int) (a2_1 : Int) (a2_2 : Int) (a3_0 : Int) (a3_1 : Int) : Option (Bool) := ((laws_toCircle.f K a2_0 a2_1 a2_2).bind fun (t9, t10, t11) => ((laws_toPoint.f K a3_0 a3_1).bind fun (t13, t14) => ((spec_TangentAt.f K a0 a1 t9 t10 t11 t13 t14).bind fun (t16, t17, t18, t19) => ((laws_toCircle.f K a2_0 a2_1 a2_2).bind fun (t29, t30, t31) => ((laws_toPoint.f K a3_0 a3_1).bind fun (t33, t34) => ((impl_TangentAt.f K a0 a1 t29 t30 t31 t33 t34).bind fun (t36, t37, t38, t39) => ((laws_eqLine.f K t36 t37 t38 t16 t17 t18).bind fun t50 => (if t50 = true then (if (t39 == t19) = true then some true else some false) else some false))))))))

/-! ### spec_CircleThrough: function 37 -/
def spec_CircleThrough.f (K : Nat) (a0 : Int) (a1 : Int) (a2_0 : Int) (a2_1 : Int) (a3_0 : Int) (a3_1 : Int) (a4_0 : Int) (a4_1 : Int) : Option (Int × Int × Int × Int) := ((spec_l04Code.f K a0 a1 a2_0 a2_1 a3_0 a3_1 a4_0 a4_1).bind fun t16 => (if (t16 == 0) = true then ((spec_l06Through.f K a0 a1 a2_0 a2_1 a3_0 a3_1 a4_0 a4_1).bind fun (t23, t24, t25) => some (t23, t24, t25, 0)) else some (0, 0, 0, t16)))

/-! ### impl_triangle_1: function 122 -/
def impl_triangle_1.f (K : Nat) (f0_0 : Int) (f1_0 : Int) (f2_0 : Int) (f2_1 : Int) (f3_0 : Int) (f3_1 : Int) (f4_0 : Int) (f4_1 : Int) : Option (Bool) := ((impl_isColour.f K f0_0).bind fun t3 => (if t3 = true then ((impl_arePoints.f K f1_0 ([(f2_0, f2_1), (f3_0, f3_1), (f4_0, f4_1)])).bind fun t11 => some t11) else some false))

/-! ### impl_asked__impl_triangle_1: function 54 -/
def impl_asked__impl_triangle_1.f (K : Nat) (a0 : Int) (c1_0_0 : Int) (c1_1_0 : Int) (c1_2_0 : Int) (c1_2_1 : Int) (c1_3_0 : Int) (c1_3_1 : Int) (c1_4_0 : Int) (c1_4_1 : Int) : Option (Int) := ((impl_IsField.f K a0).bind fun t4 => (if t4 = true then ((impl_triangle_1.f K c1_0_0 c1_1_0 c1_2_0 c1_2_1 c1_3_0 c1_3_1 c1_4_0 c1_4_1).bind fun t11 => (if t11 = true then some 0 else some 2)) else some 1))

/-! ### impl_triangle: function 93 -/
def impl_triangle.f (K : Nat) (a0 : Int) (a1 : Int) (a2_0 : Int) (a2_1 : Int) (a3_0 : Int) (a3_1 : Int) (a4_0 : Int) (a4_1 : Int) : Option (Int) := ((impl_asked__impl_triangle_1.f K a0 a1 a0 a2_0 a2_1 a3_0 a3_1 a4_0 a4_1).bind fun t18 => (if (t18 == 0) = true then ((impl_area.f K a0 a2_0 a2_1 a3_0 a3_1 a4_0 a4_1).bind fun t25 => (if (t25 == 0) = true then some 5 else some t18)) else some t18))

/-! ### impl_CircleThrough: function 38 -/
def impl_CircleThrough.f (K : Nat) (a0 : Int) (a1 : Int) (a2_0 : Int) (a2_1 : Int) (a3_0 : Int) (a3_1 : Int) (a4_0 : Int) (a4_1 : Int) : Option (Int × Int × Int × Int) := ((impl_triangle.f K a0 a1 a2_0 a2_1 a3_0 a3_1 a4_0 a4_1).bind fun t16 => (if (t16 == 0) = true then ((impl_circleThrough.f K a0 a1 a2_0 a2_1 a3_0 a3_1 a4_0 a4_1).bind fun (t23, t24, t25) => some (t23, t24, t25, 0)) else some (0, 0, 0, t16)))

/-! ### laws_eqCircle: function 39 -/
def laws_eqCircle.f (K : Nat) (a0_0 : Int) (a0_1 : Int) (a0_2 : Int) (a1_0 : Int) (a1_1 : Int) (a1_2 : Int) : Option (Bool) := ((laws_eqPoint.f K a0_0 a0_1 a1_0 a1_1).bind fun t10 => (if t10 = true then (if (a0_2 == a1_2) = true then some true else some false) else some false))

/-! ### laws_FnExactCircleThrough: function 11 -/
def laws_FnExactCircleThrough.f (K : Nat) (a0 : Int) (a1 : Int) (a2_0 : Int) (a2_1 : Int) (a3_0 : Int) (a3_1 : Int) (a4_0 : Int) (a4_1 : Int) : Option (Bool) := ((laws_toPoint.f K a2_0 a2_1).bind fun (t12, t13) => ((laws_toPoint.f K a3_0 a3_1).bind fun (t15, t16) => ((laws_toPoint.f K a4_0 a4_1).bind fun (t18, t19) => ((spec_CircleThrough.f K a0 a1 t12 t13 t15 t16 t18 t19).bind fun (t21, t22, t23, t24) => ((laws_toPoint.f K a2_0 a2_1).bind fun (t34, t35) => ((laws_toPoint.f K a3_0 a3_1).bind fun (t37, t38) => ((laws_toPoint.f K a4_0 a4_1).bind fun (t40, t41) => ((impl_CircleThrough.f K a0 a1 t34 t35 t37 t38 t40 t41).bind fun (t43, t44, t45, t46) => ((laws_eqCircle.f K t43 t44 t45 t21 t22 t23).bind fun t57 => (if t57 = true then (if (t46 == t24) = true then some true else some false) else some false))))))))))

/-! ### spec_l02At: function 75 -/
mutual
def spec_l02At.l0 (K : Nat) (a0 : Int) (a1 : Int) (a2_0 : Int) (a2_1 : Int) (a3 : Int) : Nat → Int → List (Int × Int) → Option (List (Int × Int))
  | 0, _, _ => none
  | k23 + 1, x13, x14 => (if decide (x13 < a0) = true then (spec_l02At.l1 K a0 a1 a2_0 a2_1 a3 x13 k23 0 x14) else some x14)
def spec_l02At.l1 (K : Nat) (a0 : Int) (a1 : Int) (a2_0 : Int) (a2_1 : Int) (a3 : Int) (x13 : Int) : Nat → Int → List (Int × Int) → Option (List (Int × Int))
  | 0, _, _ => none
  | k43 + 1, x33, x34 => (if decide (x33 < a0) = true then ((spec_l02Quadrance.f K a0 a1 a2_0 a2_1 x13 x33).bind fun t60 => (if (t60 == a3) = true then (if decide (x34.length ≤ 1000000) = true then (spec_l02At.l1 K a0 a1 a2_0 a2_1 a3 x13 k43 (wrap64 (x33 + 1)) (x34 ++ [(x13, x33)])) else none) else (spec_l02At.l1 K a0 a1 a2_0 a2_1 a3 x13 k43 (wrap64 (x33 + 1)) x34))) else (spec_l02At.l0 K a0 a1 a2_0 a2_1 a3 k43 (wrap64 (x13 + 1)) x34))
end
def spec_l02At.f (K : Nat) (a0 : Int) (a1 : Int) (a2_0 : Int) (a2_1 : Int) (a3 : Int) : Option (List (Int × Int)) := (spec_l02At.l0 K a0 a1 a2_0 a2_1 a3 K 0 ([] : List (Int × Int)))

/-! ### spec_MeetCircles: function 26 -/

def spec_MeetCircles.l0 (K : Nat) (a0 : Int) (a1 : Int) (a3_0 : Int) (a3_1 : Int) (a3_2 : Int) (t20 : List (Int × Int)) : Nat → Int → List (Int × Int) → Option (List (Int × Int) × Int)
  | 0, _, _ => none
  | k46 + 1, x33, x34 => (if decide (x33 < (t20.length : Int)) = true then ((idx t20 x33).bind fun (t56, t57) => ((spec_l06Power.f K a0 a1 a3_0 a3_1 a3_2 t56 t57).bind fun t63 => (if (t63 == 0) = true then ((idx t20 x33).bind fun (t68, t69) => (if decide (x34.length ≤ 1000000) = true then (spec_MeetCircles.l0 K a0 a1 a3_0 a3_1 a3_2 t20 k46 (wrap64 (x33 + 1)) (x34 ++ [(t68, t69)])) else none)) else (spec_MeetCircles.l0 K a0 a1 a3_0 a3_1 a3_2 t20 k46 (wrap64 (x33 + 1)) x34)))) else some (x34, 0))
def spec_MeetCircles.f (K : Nat) (a0 : Int) (a1 : Int) (a2_0 : Int) (a2_1 : Int) (a2_2 : Int) (a3_0 : Int) (a3_1 : Int) (a3_2 : Int) : Option (List (Int × Int) × Int) := ((spec_l06Code.f K a0 a1 ([(a2_0, a2_1, a2_2), (a3_0, a3_1, a3_2)])).bind fun t13 => (if (t13 == 0) = true then ((spec_l02At.f K a0 a1 a2_0 a2_1 a2_2).bind fun t20 => (spec_MeetCircles.l0 K a0 a1 a3_0 a3_1 a3_2 t20 K 0 ([] : List (Int × Int)))) else some ([], t13)))

/-! ### impl_MeetCircles_1: function 76 -/
def impl_MeetCircles_1.f (K : Nat) (f0_0 : Int) (f1_0 : Int) (f2_0 : Int) (f2_1 : Int) (f2_2 : Int) (f3_0 : Int) (f3_1 : Int) (f3_2 : Int) : Option (Bool) := ((impl_isColour.f K f0_0).bind fun t3 => (if t3 = true then ((impl_isCircle.f K f1_0 f2_0 f2_1 f2_2).bind fun t8 => (if t8 = true then ((impl_isCircle.f K f1_0 f3_0 f3_1 f3_2).bind fun t13 => some t13) else some false)) else some false))

/-! ### impl_asked__impl_MeetCircles_1: function 54 -/
def impl_asked__impl_MeetCircles_1.f (K : Nat) (a0 : Int) (c1_0_0 : Int) (c1_1_0 : Int) (c1_2_0 : Int) (c1_2_1 : Int) (c1_2_2 : Int) (c1_3_0 : Int) (c1_3_1 : Int) (c1_3_2 : Int) : Option (Int) := ((impl_IsField.f K a0).bind fun t4 => (if t4 = true then ((impl_MeetCircles_1.f K c1_0_0 c1_1_0 c1_2_0 c1_2_1 c1_2_2 c1_3_0 c1_3_1 c1_3_2).bind fun t11 => (if t11 = true then some 0 else some 2)) else some 1))

/-! ### impl_MeetCircles_2: function 78 -/
def impl_MeetCircles_2.f (K : Nat) (a0_0 : Int) (a0_1 : Int) (f0_0 : Int) (f1_0 : Int) (f2_0 : Int) (f2_1 : Int) (f2_2 : Int) (f3_0 : Int) (f3_1 : Int) (f3_2 : Int) : Option (Bool) := ((impl_power.f K f0_0 f1_0 f2_0 f2_1 f2_2 a0_0 a0_1).bind fun t6 => (if (t6 == 0) = true then ((impl_power.f K f0_0 f1_0 f3_0 f3_1 f3_2 a0_0 a0_1).bind fun t11 => some (t11 == 0)) else some false))

/-! ### impl_pointsWith__impl_MeetCircles_2: function 77 -/

def impl_pointsWith__impl_MeetCircles_2.l0 (K : Nat) (c1_0_0 : Int) (c1_1_0 : Int) (c1_2_0 : Int) (c1_2_1 : Int) (c1_2_2 : Int) (c1_3_0 : Int) (c1_3_1 : Int) (c1_3_2 : Int) (t8 : List (Int × Int)) : Nat → Int → List (Int × Int) → Option (List (Int × Int))
  | 0, _, _ => none
  | k28 + 1, x17, x18 => (if decide (x17 < (t8.length : Int)) = true then ((idx t8 x17).bind fun (t38, t39) => ((impl_MeetCircles_2.f K t38 t39 c1_0_0 c1_1_0 c1_2_0 c1_2_1 c1_2_2 c1_3_0 c1_3_1 c1_3_2).bind fun t51 => (if t51 = true then (if decide (x18.length ≤ 1000000) = true then (impl_pointsWith__impl_MeetCircles_2.l0 K c1_0_0 c1_1_0 c1_2_0 c1_2_1 c1_2_2 c1_3_0 c1_3_1 c1_3_2 t8 k28 (wrap64 (x17 + 1)) (x18 ++ [(t38, t39)])) else none) else (impl_pointsWith__impl_MeetCircles_2.l0 K c1_0_0 c1_1_0 c1_2_0 c1_2_1 c1_2_2 c1_3_0 c1_3_1 c1_3_2 t8 k28 (wrap64 (x17 + 1)) x18)))) else some x18)
def impl_pointsWith__impl_MeetCircles_2.f (K : Nat) (a0 : Int) (c1_0_0 : Int) (c1_1_0 : Int) (c1_2_0 : Int) (c1_2_1 : Int) (c1_2_2 : Int) (c1_3_0 : Int) (c1_3_1 : Int) (c1_3_2 : Int) : Option (List (Int × Int)) := ((impl_allPoints.f K a0).bind fun t8 => (impl_pointsWith__impl_MeetCircles_2.l0 K c1_0_0 c1_1_0 c1_2_0 c1_2_1 c1_2_2 c1_3_0 c1_3_1 c1_3_2 t8 K 0 ([] : List (Int × Int))))

/-! ### impl_MeetCircles: function 27 -/
def impl_MeetCircles.f (K : Nat) (a0 : Int) (a1 : Int) (a2_0 : Int) (a2_1 : Int) (a2_2 : Int) (a3_0 : Int) (a3_1 : Int) (a3_2 : Int) : Option (List (Int × Int) × Int) := ((impl_asked__impl_MeetCircles_1.f K a0 a1 a0 a2_0 a2_1 a2_2 a3_0 a3_1 a3_2).bind fun t16 => (if (t16 == 0) = true then ((impl_pointsWith__impl_MeetCircles_2.f K a0 a0 a1 a2_0 a2_1 a2_2 a3_0 a3_1 a3_2).bind fun t23 => some (t23, 0)) else some ([], t16)))

/-! ### laws_eqPointS: function 28 -/

def laws_eqPointS.l0 (K : Nat) (a0 : List (Int × Int)) (a1 : List (Int × Int)) : Nat → Int → Option (Bool)
  | 0, _ => none
  | k12 + 1, x7 => (if decide (x7 < (a0.length : Int)) = true then ((idx a0 x7).bind fun (t22, t23) => ((idx a1 x7).bind fun (t29, t30) => ((laws_eqPoint.f K t22 t23 t29 t30).bind fun t36 => (if t36 = true then (laws_eqPointS.l0 K a0 a1 k12 (wrap64 (x7 + 1))) else some false)))) else some true)
def laws_eqPointS.f (K : Nat) (a0 : List (Int × Int)) (a1 : List (Int × Int)) : Option (Bool) := (if ((a0.length : Int) == (a1.length : Int)) = true then (laws_eqPointS.l0 K a0 a1 K 0) else some false)

/-! ### laws_markPointS: function 29 -/

def laws_markPointS.l0 (K : Nat) (a0 : List (Int × Int)) : Nat → Int → Int → List (Int × Int) → Option (Int × List (Int × Int))
  | 0, _, _, _ => none
  | k13 + 1, x4, x5, x6 => (if decide (x5 < (a0.length : Int)) = true then ((idx x6 x5).bind fun (t28, t29) => ((idx (x6.set (x5).toNat (x4, t29)) x5).bind fun (t45, t46) => (laws_markPointS.l0 K a0 k13 (wrap64 ((wrap64 (x4 + 1)) + 1)) (wrap64 (x5 + 1)) ((x6.set (x5).toNat (x4, t29)).set (x5).toNat (t45, wrap64 (x4 + 1)))))) else some (x4, x6))
def laws_markPointS.f (K : Nat) (a0 : List (Int × Int)) (a1 : Int) : Option (Int × List (Int × Int)) := (laws_markPointS.l0 K a0 K a1 0 a0)

/-! ### laws_heldPointS: function 30 -/

def laws_heldPointS.l0 (K : Nat) (a0 : List (Int × Int)) : Nat → Int → Int → Option (Int)
  | 0, _, _ => none
  | k10 + 1, x4, x5 => (if decide (x5 < (a0.length : Int)) = true then ((idx a0 x5).bind fun (t26, t27) => (if (t26 == x4) = true then ((idx a0 x5).bind fun (t39, t40) => (if (t40 == (wrap64 (x4 + 1))) = true then (laws_heldPointS.l0 K a0 k10 (wrap64 ((wrap64 (x4 + 1)) + 1)) (wrap64 (x5 + 1))) else some (-1))) else some (-1))) else some x4)
def laws_heldPointS.f (K : Nat) (a0 : List (Int × Int)) (a1 : Int) : Option (Int) := (laws_heldPointS.l0 K a0 K a1 0)

/-! ### laws_FnExactMeetCircles: function 7 -/
def laws_FnExactMeetCircles.f (K : Nat) (a0 : Int) (a1 : Int) (a2_0 : Int) (a2_1 : Int) (a2_2 : Int) (a3_0 : Int) (a3_1 : Int) (a3_2 : Int) : Option (Bool) := ((laws_toCircle.f K a2_0 a2_1 a2_2).bind fun (t9, t10, t11) => ((laws_toCircle.f K a3_0 a3_1 a3_2).bind fun (t13, t14, t15) => ((spec_MeetCircles.f K a0 a1 t9 t10 t11 t13 t14 t15).bind fun (t17, t20) => ((laws_toCircle.f K a2_0 a2_1 a2_2).bind fun (t28, t29, t30) => ((laws_toCircle.f K a3_0 a3_1 a3_2).bind fun (t32, t33, t34) => ((impl_MeetCircles.f K a0 a1 t28 t29 t30 t32 t33 t34).bind fun (t36, t39) => ((laws_eqPointS.f K t36 t17).bind fun t48 => (if t48 = true then (if (t39 == t20) = true then ((laws_markPointS.f K t36 1).bind fun (t56, t57) => ((laws_heldPointS.f K t57 1).bind fun t67 => (if decide (t67 < 0) = true then some false else (if (t67 == t56) = true then ((laws_toCircle.f K a2_0 a2_1 a2_2).bind fun (t79, t80, t81) => ((laws_toCircle.f K a3_0 a3_1 a3_2).bind fun (t83, t84, t85) => ((impl_MeetCircles.f K a0 a1 t79 t80 t81 t83 t84 t85).bind fun (t87, t90) => ((laws_eqPointS.f K t87 t17).bind fun t99 => (if t99 = true then (if (t90 == t20) = true then ((laws_heldPointS.f K t57 1).bind fun t107 => (if decide (t107 < 0) = true then some false else (if (t107 == t56) = true then some true else some false))) else some false) else some false))))) else some false)))) else some false) else some false))))))))

/-! ### laws_toLine: function 41 -/
def laws_toLine.f (K : Nat) (a0_0 : Int) (a0_1 : Int) (a0_2 : Int) : Option (Int × Int × Int) := some (a0_0, a0_1, a0_2)

/-! ### spec_l01Line: function 123 -/
def spec_l01Line.f (K : Nat) (a0 : Int) (a1_0 : Int) (a1_1 : Int) (a1_2 : Int) : Option (Bool) := ((spec_l01In.f K a1_0 0 (wrap64 (a0 - 1))).bind fun t6 => (if t6 = true then ((spec_l01In.f K a1_1 0 (wrap64 (a0 - 1))).bind fun t11 => (if t11 = true then ((spec_l01In.f K a1_2 0 (wrap64 (a0 - 1))).bind fun t16 => (if t16 = true then (if (a1_0 == 1) = true then some true else (if (a1_0 == 0) = true then some (a1_1 == 1) else some false)) else some false)) else some false)) else some false))

/-! ### spec_l01Lines: function 94 -/

def spec_l01Lines.l0 (K : Nat) (a0 : Int) (a1 : List (Int × Int × Int)) : Nat → Int → Option (Int)
  | 0, _ => none
  | k16 + 1, x11 => (if decide (x11 < (a1.length : Int)) = true then ((idx a1 x11).bind fun (t26, t27, t28) => ((spec_l01Line.f K a0 t26 t27 t28).bind fun t33 => (if t33 = true then (spec_l01Lines.l0 K a0 a1 k16 (wrap64 (x11 + 1))) else some 2))) else some 0)
def spec_l01Lines.f (K : Nat) (a0 : Int) (a1 : List (Int × Int × Int)) : Option (Int) := ((spec_l01Field.f K a0).bind fun t4 => (if t4 = true then (spec_l01Lines.l0 K a0 a1 K 0) else some 1))

/-! ### spec_l01On: function 95 -/
def spec_l01On.f (K : Nat) (a0 : Int) (a1_0 : Int) (a1_1 : Int) (a2_0 : Int) (a2_1 : Int) (a2_2 : Int) : Option (Bool) := (if (a0 == 0) = true then none else some ((Int.tmod (wrap64 ((wrap64 ((wrap64 (a2_0 * a1_0)) + (wrap64 (a2_1 * a1_1)))) + a2_2)) a0) == 0))

/-! ### spec_MeetLine: function 40 -/

def spec_MeetLine.l0 (K : Nat) (a0 : Int) (a3_0 : Int) (a3_1 : Int) (a3_2 : Int) (t30 : List (Int × Int)) : Nat → Int → List (Int × Int) → Option (List (Int × Int) × Int)
  | 0, _, _ => none
  | k57 + 1, x43, x44 => (if decide (x43 < (t30.length : Int)) = true then ((idx t30 x43).bind fun (t67, t68) => ((spec_l01On.f K a0 t67 t68 a3_0 a3_1 a3_2).bind fun t74 => (if t74 = true then ((idx t30 x43).bind fun (t79, t80) => (if decide (x44.length ≤ 1000000) = true then (spec_MeetLine.l0 K a0 a3_0 a3_1 a3_2 t30 k57 (wrap64 (x43 + 1)) (x44 ++ [(t79, t80)])) else none)) else (spec_MeetLine.l0 K a0 a3_0 a3_1 a3_2 t30 k57 (wrap64 (x43 + 1)) x44)))) else some (x44, 0))
def spec_MeetLine.f (K : Nat) (a0 : Int) (a1 : Int) (a2_0 : Int) (a2_1 : Int) (a2_2 : Int) (a3_0 : Int) (a3_1 : Int) (a3_2 : Int) : Option (List (Int × Int) × Int) := ((spec_l06Code.f K a0 a1 ([(a2_0, a2_1, a2_2)])).bind fun t12 => (if (t12 == 0) = true then ((spec_l01Lines.f K a0 ([(a3_0, a3_1, a3_2)])).bind fun t22 => (if (t22 == 0) = true then ((spec_l02At.f K a0 a1 a2_0 a2_1 a2_2).bind fun t30 => (spec_MeetLine.l0 K a0 a3_0 a3_1 a3_2 t30 K 0 ([] : List (Int × Int)))) else some ([], t22))) else some ([], t12)))

/-! ### impl_isLine: function 97 -/
def impl_isLine.f (K : Nat) (a0 : Int) (a1_0 : Int) (a1_1 : Int) (a1_2 : Int) : Option (Bool) := ((impl_areNumbers.f K a0 ([a1_0, a1_1, a1_2])).bind fun t7 => (if t7 = true then (if (a1_0 == 1) = true then some true else (if (a1_0 == 0) = true then some (a1_1 == 1) else some false)) else some false))

/-! ### impl_MeetLine_1: function 96 -/
def impl_MeetLine_1.f (K : Nat) (f0_0 : Int) (f1_0 : Int) (f2_0 : Int) (f2_1 : Int) (f2_2 : Int) (f3_0 : Int) (f3_1 : Int) (f3_2 : Int) : Option (Bool) := ((impl_isColour.f K f0_0).bind fun t3 => (if t3 = true then ((impl_isCircle.f K f1_0 f2_0 f2_1 f2_2).bind fun t8 => (if t8 = true then ((impl_isLine.f K f1_0 f3_0 f3_1 f3_2).bind fun t13 => some t13) else some false)) else some false))

/-! ### impl_asked__impl_MeetLine_1: function 54 -/
def impl_asked__impl_MeetLine_1.f (K : Nat) (a0 : Int) (c1_0_0 : Int) (c1_1_0 : Int) (c1_2_0 : Int) (c1_2_1 : Int) (c1_2_2 : Int) (c1_3_0 : Int) (c1_3_1 : Int) (c1_3_2 : Int) : Option (Int) := ((impl_IsField.f K a0).bind fun t4 => (if t4 = true then ((impl_MeetLine_1.f K c1_0_0 c1_1_0 c1_2_0 c1_2_1 c1_2_2 c1_3_0 c1_3_1 c1_3_2).bind fun t11 => (if t11 = true then some 0 else some 2)) else some 1))

/-! ### impl_isOn: function 99 -/
def impl_isOn.f (K : Nat) (a0 : Int) (a1_0 : Int) (a1_1 : Int) (a2_0 : Int) (a2_1 : Int) (a2_2 : Int) : Option (Bool) := (if (a0 == 0) = true then none else some ((Int.tmod (wrap64 ((wrap64 ((wrap64 (a2_0 * a1_0)) + (wrap64 (a2_1 * a1_1)))) + a2_2)) a0) == 0))

/-! ### impl_MeetLine_2: function 98 -/
def impl_MeetLine_2.f (K : Nat) (a0_0 : Int) (a0_1 : Int) (f0_0 : Int) (f1_0 : Int) (f1_1 : Int) (f1_2 : Int) (f2_0 : Int) (f3_0 : Int) (f3_1 : Int) (f3_2 : Int) : Option (Bool) := ((impl_isOn.f K f0_0 a0_0 a0_1 f1_0 f1_1 f1_2).bind fun t6 => (if t6 = true then ((impl_power.f K f0_0 f2_0 f3_0 f3_1 f3_2 a0_0 a0_1).bind fun t11 => some (t11 == 0)) else some false))

/-! ### impl_pointsWith__impl_MeetLine_2: function 77 -/

def impl_pointsWith__impl_MeetLine_2.l0 (K : Nat) (c1_0_0 : Int) (c1_1_0 : Int) (c1_1_1 : Int) (c1_1_2 : Int) (c1_2_0 : Int) (c1_3_0 : Int) (c1_3_1 : Int) (c1_3_2 : Int) (t8 : List (Int × Int)) : Nat → Int → List (Int × Int) → Option (List (Int × Int))
  | 0, _, _ => none
  | k28 + 1, x17, x18 => (if decide (x17 < (t8.length : Int)) = true then ((idx t8 x17).bind fun (t38, t39) => ((impl_MeetLine_2.f K t38 t39 c1_0_0 c1_1_0 c1_1_1 c1_1_2 c1_2_0 c1_3_0 c1_3_1 c1_3_2).bind fun t51 => (if t51 = true then (if decide (x18.length ≤ 1000000) = true then (impl_pointsWith__impl_MeetLine_2.l0 K c1_0_0 c1_1_0 c1_1_1 c1_1_2 c1_2_0 c1_3_0 c1_3_1 c1_3_2 t8 k28 (wrap64 (x17 + 1)) (x18 ++ [(t38, t39)])) else none) else (impl_pointsWith__impl_MeetLine_2.l0 K c1_0_0 c1_1_0 c1_1_1 c1_1_2 c1_2_0 c1_3_0 c1_3_1 c1_3_2 t8 k28 (wrap64 (x17 + 1)) x18)))) else some x18)
def impl_pointsWith__impl_MeetLine_2.f (K : Nat) (a0 : Int) (c1_0_0 : Int) (c1_1_0 : Int) (c1_1_1 : Int) (c1_1_2 : Int) (c1_2_0 : Int) (c1_3_0 : Int) (c1_3_1 : Int) (c1_3_2 : Int) : Option (List (Int × Int)) := ((impl_allPoints.f K a0).bind fun t8 => (impl_pointsWith__impl_MeetLine_2.l0 K c1_0_0 c1_1_0 c1_1_1 c1_1_2 c1_2_0 c1_3_0 c1_3_1 c1_3_2 t8 K 0 ([] : List (Int × Int))))

/-! ### impl_MeetLine: function 42 -/
def impl_MeetLine.f (K : Nat) (a0 : Int) (a1 : Int) (a2_0 : Int) (a2_1 : Int) (a2_2 : Int) (a3_0 : Int) (a3_1 : Int) (a3_2 : Int) : Option (List (Int × Int) × Int) := ((impl_asked__impl_MeetLine_1.f K a0 a1 a0 a2_0 a2_1 a2_2 a3_0 a3_1 a3_2).bind fun t16 => (if (t16 == 0) = true then ((impl_pointsWith__impl_MeetLine_2.f K a0 a0 a3_0 a3_1 a3_2 a1 a2_0 a2_1 a2_2).bind fun t23 => some (t23, 0)) else some ([], t16)))

/-! ### laws_FnExactMeetLine: function 12 -/
def laws_FnExactMeetLine.f (K : Nat) (a0 : Int) (a1 : Int) (a2_0 : Int) (a2_1 : Int) (a2_2 : Int) (a3_0 : Int) (a3_1 : Int) (a3_2 : Int) : Option (Bool) := ((laws_toCircle.f K a2_0 a2_1 a2_2).bind fun (t9, t10, t11) => ((laws_toLine.f K a3_0 a3_1 a3_2).bind fun (t13, t14, t15) => ((spec_MeetLine.f K a0 a1 t9 t10 t11 t13 t14 t15).bind fun (t17, t20) => ((laws_toCircle.f K a2_0 a2_1 a2_2).bind fun (t28, t29, t30) => ((laws_toLine.f K a3_0 a3_1 a3_2).bind fun (t32, t33, t34) => ((impl_MeetLine.f K a0 a1 t28 t29 t30 t32 t33 t34).bind fun (t36, t39) => ((laws_eqPointS.f K t36 t17).bind fun t48 => (if t48 = true then (if (t39 == t20) = true then ((laws_markPointS.f K t36 1).bind fun (t56, t57) => ((laws_heldPointS.f K t57 1).bind fun t67 => (if decide (t67 < 0) = true then some false else (if (t67 == t56) = true then ((laws_toCircle.f K a2_0 a2_1 a2_2).bind fun (t79, t80, t81) => ((laws_toLine.f K a3_0 a3_1 a3_2).bind fun (t83, t84, t85) => ((impl_MeetLine.f K a0 a1 t79 t80 t81 t83 t84 t85).bind fun (t87, t90) => ((laws_eqPointS.f K t87 t17).bind fun t99 => (if t99 = true then (if (t90 == t20) = true then ((laws_heldPointS.f K t57 1).bind fun t107 => (if decide (t107 < 0) = true then some false else (if (t107 == t56) = true then some true else some false))) else some false) else some false))))) else some false)))) else some false) else some false))))))))

end Go.Proofs.Ythaopanhdmakbaa
