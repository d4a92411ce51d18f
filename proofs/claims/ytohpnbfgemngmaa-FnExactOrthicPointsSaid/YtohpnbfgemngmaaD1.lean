/- What the functions of the program compute, in plain Lean. -/
import Derived.Test.YtohpnbfgemngmaaK
namespace Go.Proofs.Ytohpnbfgemngmaa
open Go Go.RowKit
attribute [local go_sem] Oper.quiet Oper.quietAt Oper.quietUpon
set_option linter.unusedVariables false
set_option linter.unusedSimpArgs false

/-! ### laws_toPoint: function 14 -/
def laws_toPoint.f (K : Nat) (a0_0 : Int) (a0_1 : Int) : Option (Int × Int) := some (a0_0, a0_1)

/-! ### spec_l01In: function 97 -/
def spec_l01In.f (K : Nat) (a0 : Int) (a1 : Int) (a2 : Int) : Option (Bool) := (if decide (a1 ≤ a0) = true then some (decide (a0 ≤ a2)) else some false)

/-! ### spec_l01Field: function 95 -/

def spec_l01Field.l0 (K : Nat) (a0 : Int) : Nat → Int → Option (Bool)
  | 0, _ => none
  | k16 + 1, x11 => (if decide ((wrap64 (x11 * x11)) ≤ a0) = true then (if (x11 == 0) = true then none else (if ((Int.tmod a0 x11) == 0) = true then some false else (spec_l01Field.l0 K a0 k16 (wrap64 (x11 + 1))))) else some true)
def spec_l01Field.f (K : Nat) (a0 : Int) : Option (Bool) := ((spec_l01In.f K a0 3 31).bind fun t4 => (if t4 = true then (spec_l01Field.l0 K a0 K 2) else some false))

/-! ### spec_l01Point: function 96 -/
def spec_l01Point.f (K : Nat) (a0 : Int) (a1_0 : Int) (a1_1 : Int) : Option (Bool) := ((spec_l01In.f K a1_0 0 (wrap64 (a0 - 1))).bind fun t6 => (if t6 = true then ((spec_l01In.f K a1_1 0 (wrap64 (a0 - 1))).bind fun t11 => some t11) else some false))

/-! ### spec_l01Code: function 79 -/

def spec_l01Code.l0 (K : Nat) (a0 : Int) (a1 : List (Int × Int)) : Nat → Int → Option (Int)
  | 0, _ => none
  | k16 + 1, x11 => (if decide (x11 < (a1.length : Int)) = true then ((idx a1 x11).bind fun (t26, t27) => ((spec_l01Point.f K a0 t26 t27).bind fun t32 => (if t32 = true then (spec_l01Code.l0 K a0 a1 k16 (wrap64 (x11 + 1))) else some 2))) else some 0)
def spec_l01Code.f (K : Nat) (a0 : Int) (a1 : List (Int × Int)) : Option (Int) := ((spec_l01Field.f K a0).bind fun t4 => (if t4 = true then (spec_l01Code.l0 K a0 a1 K 0) else some 1))

/-! ### spec_l02Colour: function 80 -/
def spec_l02Colour.f (K : Nat) (a0 : Int) : Option (Bool) := ((spec_l01In.f K a0 0 2).bind fun t3 => some t3)

/-! ### spec_l02Code: function 51 -/
def spec_l02Code.f (K : Nat) (a0 : Int) (a1 : Int) (a2 : List (Int × Int)) : Option (Int) := ((spec_l01Code.f K a0 a2).bind fun t3 => (if (t3 == 0) = true then ((spec_l02Colour.f K a1).bind fun t10 => (if t10 = true then some t3 else some 2)) else some t3))

/-! ### spec_l01Mod: function 53 -/
def spec_l01Mod.f (K : Nat) (a0 : Int) (a1 : Int) : Option (Int) := (if (a1 == 0) = true then none else some (Int.tmod (wrap64 ((Int.tmod a0 a1) + a1)) a1))

/-! ### spec_l01Area: function 52 -/
def spec_l01Area.f (K : Nat) (a0 : Int) (a1_0 : Int) (a1_1 : Int) (a2_0 : Int) (a2_1 : Int) (a3_0 : Int) (a3_1 : Int) : Option (Int) := ((spec_l01Mod.f K (wrap64 ((wrap64 ((wrap64 (a2_0 - a1_0)) * (wrap64 (a3_1 - a1_1)))) - (wrap64 ((wrap64 (a2_1 - a1_1)) * (wrap64 (a3_0 - a1_0)))))) a0).bind fun t12 => some t12)

/-! ### spec_l04Code: function 42 -/
def spec_l04Code.f (K : Nat) (a0 : Int) (a1 : Int) (a2_0 : Int) (a2_1 : Int) (a3_0 : Int) (a3_1 : Int) (a4_0 : Int) (a4_1 : Int) : Option (Int) := ((spec_l02Code.f K a0 a1 ([(a2_0, a2_1), (a3_0, a3_1), (a4_0, a4_1)])).bind fun t15 => (if (t15 == 0) = true then ((spec_l01Area.f K a0 a2_0 a2_1 a3_0 a3_1 a4_0 a4_1).bind fun t22 => (if (t22 == 0) = true then some 5 else some t15)) else some t15))

/-! ### spec_l01Minus: function 87 -/
def spec_l01Minus.f (K : Nat) (a0 : Int) (a1_0 : Int) (a1_1 : Int) (a2_0 : Int) (a2_1 : Int) : Option (Int × Int) := ((spec_l01Mod.f K (wrap64 (a1_0 - a2_0)) a0).bind fun t12 => ((spec_l01Mod.f K (wrap64 (a1_1 - a2_1)) a0).bind fun t14 => some (t12, t14)))

/-! ### spec_l02Product: function 91 -/
def spec_l02Product.f (K : Nat) (a0 : Int) (a1 : Int) (a2_0 : Int) (a2_1 : Int) (a3_0 : Int) (a3_1 : Int) : Option (Int) := (if (a1 == 0) = true then ((spec_l01Mod.f K (wrap64 ((wrap64 (a2_0 * a3_0)) + (wrap64 (a2_1 * a3_1)))) a0).bind fun t13 => some t13) else (if (a1 == 1) = true then ((spec_l01Mod.f K (wrap64 ((wrap64 (a2_0 * a3_0)) - (wrap64 (a2_1 * a3_1)))) a0).bind fun t20 => some t20) else ((spec_l01Mod.f K (wrap64 ((wrap64 (a2_0 * a3_1)) + (wrap64 (a2_1 * a3_0)))) a0).bind fun t25 => some t25)))

/-! ### spec_l02Quadrance: function 66 -/
def spec_l02Quadrance.f (K : Nat) (a0 : Int) (a1 : Int) (a2_0 : Int) (a2_1 : Int) (a3_0 : Int) (a3_1 : Int) : Option (Int) := ((spec_l01Minus.f K a0 a3_0 a3_1 a2_0 a2_1).bind fun (t9, t10) => ((spec_l02Product.f K a0 a1 t9 t10 t9 t10).bind fun t21 => some t21))

/-! ### spec_l02Archimedes: function 72 -/
def spec_l02Archimedes.f (K : Nat) (a0 : Int) (a1 : Int) (a2 : Int) (a3 : Int) : Option (Int) := ((spec_l01Mod.f K (wrap64 ((wrap64 ((wrap64 ((wrap64 (a1 + a2)) + a3)) * (wrap64 ((wrap64 (a1 + a2)) + a3)))) - (wrap64 (2 * (wrap64 ((wrap64 ((wrap64 (a1 * a1)) + (wrap64 (a2 * a2)))) + (wrap64 (a3 * a3)))))))) a0).bind fun t4 => some t4)

/-! ### spec_l04Quadrea: function 43 -/
def spec_l04Quadrea.f (K : Nat) (a0 : Int) (a1 : Int) (a2_0 : Int) (a2_1 : Int) (a3_0 : Int) (a3_1 : Int) (a4_0 : Int) (a4_1 : Int) : Option (Int) := ((spec_l02Quadrance.f K a0 a1 a3_0 a3_1 a4_0 a4_1).bind fun t12 => ((spec_l02Quadrance.f K a0 a1 a2_0 a2_1 a4_0 a4_1).bind fun t14 => ((spec_l02Quadrance.f K a0 a1 a2_0 a2_1 a3_0 a3_1).bind fun t16 => ((spec_l02Archimedes.f K a0 t12 t14 t16).bind fun t18 => some t18))))

/-! ### spec_QuadreaOf: function 13 -/
def spec_QuadreaOf.f (K : Nat) (a0 : Int) (a1 : Int) (a2_0 : Int) (a2_1 : Int) (a3_0 : Int) (a3_1 : Int) (a4_0 : Int) (a4_1 : Int) : Option (Int × Int) := ((spec_l04Code.f K a0 a1 a2_0 a2_1 a3_0 a3_1 a4_0 a4_1).bind fun t13 => (if (t13 == 0) = true then ((spec_l04Quadrea.f K a0 a1 a2_0 a2_1 a3_0 a3_1 a4_0 a4_1).bind fun t20 => some (t20, 0)) else some (0, t13)))

/-! ### impl_IsField: function 81 -/
def impl_IsField.f (K : Nat) (a0 : Int) : Option (Bool) := (if (a0 == 3) = true then some true else (if (a0 == 5) = true then some true else (if (a0 == 7) = true then some true else (if (a0 == 11) = true then some true else (if (a0 == 13) = true then some true else (if (a0 == 17) = true then some true else (if (a0 == 19) = true then some true else (if (a0 == 23) = true then some true else (if (a0 == 29) = true then some true else (if (a0 == 31) = true then some true else some false))))))))))

/-! ### impl_isColour: function 74 -/
def impl_isColour.f (K : Nat) (a0 : Int) : Option (Bool) := (if decide (0 ≤ a0) = true then some (decide (a0 ≤ 2)) else some false)

/-! ### impl_isNumber: function 102 -/
def impl_isNumber.f (K : Nat) (a0 : Int) (a1 : Int) : Option (Bool) := (if decide (0 ≤ a1) = true then some (decide (a1 < a0)) else some false)

/-! ### impl_areNumbers: function 98 -/

def impl_areNumbers.l0 (K : Nat) (a0 : Int) (a1 : List (Int)) : Nat → Int → Option (Bool)
  | 0, _ => none
  | k9 + 1, x4 => (if decide (x4 < (a1.length : Int)) = true then ((idx a1 x4).bind fun t19 => ((impl_isNumber.f K a0 t19).bind fun t25 => (if t25 = true then (impl_areNumbers.l0 K a0 a1 k9 (wrap64 (x4 + 1))) else some false))) else some true)
def impl_areNumbers.f (K : Nat) (a0 : Int) (a1 : List (Int)) : Option (Bool) := (impl_areNumbers.l0 K a0 a1 K 0)

/-! ### impl_isPoint: function 82 -/
def impl_isPoint.f (K : Nat) (a0 : Int) (a1_0 : Int) (a1_1 : Int) : Option (Bool) := ((impl_areNumbers.f K a0 ([a1_0, a1_1])).bind fun t6 => some t6)

/-! ### impl_arePoints: function 56 -/

def impl_arePoints.l0 (K : Nat) (a0 : Int) (a1 : List (Int × Int)) : Nat → Int → Option (Bool)
  | 0, _ => none
  | k9 + 1, x4 => (if decide (x4 < (a1.length : Int)) = true then ((idx a1 x4).bind fun (t19, t20) => ((impl_isPoint.f K a0 t19 t20).bind fun t32 => (if t32 = true then (impl_arePoints.l0 K a0 a1 k9 (wrap64 (x4 + 1))) else some false))) else some true)
def impl_arePoints.f (K : Nat) (a0 : Int) (a1 : List (Int × Int)) : Option (Bool) := (impl_arePoints.l0 K a0 a1 K 0)

/-! ### impl_triangle_1: function 73 -/
def impl_triangle_1.f (K : Nat) (f0_0 : Int) (f1_0 : Int) (f2_0 : Int) (f2_1 : Int) (f3_0 : Int) (f3_1 : Int) (f4_0 : Int) (f4_1 : Int) : Option (Bool) := ((impl_isColour.f K f0_0).bind fun t3 => (if t3 = true then ((impl_arePoints.f K f1_0 ([(f2_0, f2_1), (f3_0, f3_1), (f4_0, f4_1)])).bind fun t11 => some t11) else some false))

/-! ### impl_asked__impl_triangle_1: function 54 -/
def impl_asked__impl_triangle_1.f (K : Nat) (a0 : Int) (c1_0_0 : Int) (c1_1_0 : Int) (c1_2_0 : Int) (c1_2_1 : Int) (c1_3_0 : Int) (c1_3_1 : Int) (c1_4_0 : Int) (c1_4_1 : Int) : Option (Int) := ((impl_IsField.f K a0).bind fun t4 => (if t4 = true then ((impl_triangle_1.f K c1_0_0 c1_1_0 c1_2_0 c1_2_1 c1_3_0 c1_3_1 c1_4_0 c1_4_1).bind fun t11 => (if t11 = true then some 0 else some 2)) else some 1))

/-! ### impl_rest: function 75 -/
def impl_rest.f (K : Nat) (a0 : Int) (a1 : Int) : Option (Int) := (if (a0 == 0) = true then none else some (Int.tmod (wrap64 ((Int.tmod a1 a0) + a0)) a0))

/-! ### impl_less: function 76 -/
def impl_less.f (K : Nat) (a0 : Int) (a1_0 : Int) (a1_1 : Int) (a2_0 : Int) (a2_1 : Int) : Option (Int × Int) := ((impl_rest.f K a0 (wrap64 (a1_0 - a2_0))).bind fun t12 => ((impl_rest.f K a0 (wrap64 (a1_1 - a2_1))).bind fun t14 => some (t12, t14)))

/-! ### impl_area: function 57 -/
def impl_area.f (K : Nat) (a0 : Int) (a1_0 : Int) (a1_1 : Int) (a2_0 : Int) (a2_1 : Int) (a3_0 : Int) (a3_1 : Int) : Option (Int) := ((impl_less.f K a0 a2_0 a2_1 a1_0 a1_1).bind fun (t12, t13) => ((impl_less.f K a0 a3_0 a3_1 a1_0 a1_1).bind fun (t15, t16) => ((impl_rest.f K a0 (wrap64 ((wrap64 (t12 * t16)) - (wrap64 (t13 * t15))))).bind fun t34 => some t34)))

/-! ### impl_triangle: function 44 -/
def impl_triangle.f (K : Nat) (a0 : Int) (a1 : Int) (a2_0 : Int) (a2_1 : Int) (a3_0 : Int) (a3_1 : Int) (a4_0 : Int) (a4_1 : Int) : Option (Int) := ((impl_asked__impl_triangle_1.f K a0 a1 a0 a2_0 a2_1 a3_0 a3_1 a4_0 a4_1).bind fun t18 => (if (t18 == 0) = true then ((impl_area.f K a0 a2_0 a2_1 a3_0 a3_1 a4_0 a4_1).bind fun t25 => (if (t25 == 0) = true then some 5 else some t18)) else some t18))

/-! ### impl_product: function 77 -/
def impl_product.f (K : Nat) (a0 : Int) (a1 : Int) (a2_0 : Int) (a2_1 : Int) (a3_0 : Int) (a3_1 : Int) : Option (Int) := (if (a1 == 0) = true then ((impl_rest.f K a0 (wrap64 ((wrap64 (a2_0 * a3_0)) + (wrap64 (a2_1 * a3_1))))).bind fun t13 => some t13) else (if (a1 == 1) = true then ((impl_rest.f K a0 (wrap64 ((wrap64 (a2_0 * a3_0)) - (wrap64 (a2_1 * a3_1))))).bind fun t20 => some t20) else ((impl_rest.f K a0 (wrap64 ((wrap64 (a2_0 * a3_1)) + (wrap64 (a2_1 * a3_0))))).bind fun t25 => some t25)))

/-! ### impl_quadrance: function 46 -/
def impl_quadrance.f (K : Nat) (a0 : Int) (a1 : Int) (a2_0 : Int) (a2_1 : Int) (a3_0 : Int) (a3_1 : Int) : Option (Int) := ((impl_less.f K a0 a2_0 a2_1 a3_0 a3_1).bind fun (t9, t10) => ((impl_product.f K a0 a1 t9 t10 t9 t10).bind fun t21 => some t21))

/-! ### impl_archimedes: function 45 -/
def impl_archimedes.f (K : Nat) (a0 : Int) (a1 : Int) (a2 : Int) (a3 : Int) : Option (Int) := ((impl_rest.f K a0 (wrap64 ((wrap64 ((wrap64 ((wrap64 (a1 + a2)) + a3)) * (wrap64 ((wrap64 (a1 + a2)) + a3)))) - (wrap64 (2 * (wrap64 ((wrap64 ((wrap64 (a1 * a1)) + (wrap64 (a2 * a2)))) + (wrap64 (a3 * a3))))))))).bind fun t3 => some t3)

/-! ### impl_QuadreaOf: function 15 -/
def impl_QuadreaOf.f (K : Nat) (a0 : Int) (a1 : Int) (a2_0 : Int) (a2_1 : Int) (a3_0 : Int) (a3_1 : Int) (a4_0 : Int) (a4_1 : Int) : Option (Int × Int) := ((impl_triangle.f K a0 a1 a2_0 a2_1 a3_0 a3_1 a4_0 a4_1).bind fun t13 => (if (t13 == 0) = true then ((impl_quadrance.f K a0 a1 a3_0 a3_1 a4_0 a4_1).bind fun t20 => ((impl_quadrance.f K a0 a1 a2_0 a2_1 a4_0 a4_1).bind fun t22 => ((impl_quadrance.f K a0 a1 a2_0 a2_1 a3_0 a3_1).bind fun t24 => ((impl_archimedes.f K a0 t20 t22 t24).bind fun t26 => some (t26, 0))))) else some (0, t13)))

/-! ### laws_FnExactQuadreaOf: function 3 -/
def laws_FnExactQuadreaOf.f (K : Nat) (a0 : Int) (a1 : Int) (a2_0 : Int) (a2_1 : Int) (a3_0 : Int) (a3_1 : Int) (a4_0 : Int) (a4_1 : Int) : Option (Bool) := ((laws_toPoint.f K a2_0 a2_1).bind fun (t12, t13) => ((laws_toPoint.f K a3_0 a3_1).bind fun (t15, t16) => ((laws_toPoint.f K a4_0 a4_1).bind fun (t18, t19) => ((spec_QuadreaOf.f K a0 a1 t12 t13 t15 t16 t18 t19).bind fun (t21, t22) => ((laws_toPoint.f K a2_0 a2_1).bind fun (t27, t28) => ((laws_toPoint.f K a3_0 a3_1).bind fun (t30, t31) => ((laws_toPoint.f K a4_0 a4_1).bind fun (t33, t34) => ((impl_QuadreaOf.f K a0 a1 t27 t28 t30 t31 t33 t34).bind fun (t36, t37) => (if (t36 == t21) = true then (if (t37 == t22) = true then some true else some false) else some false)))))))))

/-! ### spec_l01Plus: function 49 -/
def spec_l01Plus.f (K : Nat) (a0 : Int) (a1_0 : Int) (a1_1 : Int) (a2_0 : Int) (a2_1 : Int) : Option (Int × Int) := ((spec_l01Mod.f K (wrap64 (a1_0 + a2_0)) a0).bind fun t12 => ((spec_l01Mod.f K (wrap64 (a1_1 + a2_1)) a0).bind fun t14 => some (t12, t14)))

/-! ### spec_l01Times: function 47 -/
def spec_l01Times.f (K : Nat) (a0 : Int) (a1 : Int) (a2_0 : Int) (a2_1 : Int) : Option (Int × Int) := ((spec_l01Mod.f K (wrap64 (a1 * a2_0)) a0).bind fun t9 => ((spec_l01Mod.f K (wrap64 (a1 * a2_1)) a0).bind fun t11 => some (t9, t11)))

/-! ### spec_l01Middle: function 59 -/
def spec_l01Middle.f (K : Nat) (a0 : Int) (a1_0 : Int) (a1_1 : Int) (a2_0 : Int) (a2_1 : Int) : Option (Int × Int) := ((spec_l01Plus.f K a0 a1_0 a1_1 a2_0 a2_1).bind fun (t12, t13) => ((spec_l01Times.f K a0 (wrap64 (Int.tdiv (wrap64 (a0 + 1)) 2)) t12 t13).bind fun (t17, t18) => some (t17, t18)))

/-! ### spec_l01Inverse: function 48 -/

def spec_l01Inverse.l0 (K : Nat) (a1 : Int) : Nat → Int → Int → Int → Option (Int)
  | 0, _, _, _ => none
  | k16 + 1, x9, x10, x11 => (if decide (0 < x11) = true then (if ((Int.tmod x11 2) == 1) = true then (if (a1 == 0) = true then none else (spec_l01Inverse.l0 K a1 k16 (Int.tmod (wrap64 (x9 * x10)) a1) (Int.tmod (wrap64 (x10 * x10)) a1) (wrap64 (Int.tdiv x11 2)))) else (if (a1 == 0) = true then none else (spec_l01Inverse.l0 K a1 k16 x9 (Int.tmod (wrap64 (x10 * x10)) a1) (wrap64 (Int.tdiv x11 2))))) else some x9)
def spec_l01Inverse.f (K : Nat) (a0 : Int) (a1 : Int) : Option (Int) := ((spec_l01Mod.f K a0 a1).bind fun t3 => (spec_l01Inverse.l0 K a1 K 1 t3 (wrap64 (a1 - 2))))

/-! ### spec_l01Normal: function 83 -/
def spec_l01Normal.f (K : Nat) (a0 : Int) (a1 : Int) (a2 : Int) (a3 : Int) : Option (Int × Int × Int) := ((spec_l01Mod.f K a1 a0).bind fun t6 => (if (t6 == 0) = true then ((spec_l01Mod.f K a2 a0).bind fun t13 => ((spec_l01Inverse.f K t13 a0).bind fun t18 => ((spec_l01Mod.f K (wrap64 (a1 * t18)) a0).bind fun t23 => ((spec_l01Mod.f K (wrap64 (a2 * t18)) a0).bind fun t27 => ((spec_l01Mod.f K (wrap64 (a3 * t18)) a0).bind fun t31 => some (t23, t27, t31)))))) else ((spec_l01Inverse.f K t6 a0).bind fun t39 => ((spec_l01Mod.f K (wrap64 (a1 * t39)) a0).bind fun t44 => ((spec_l01Mod.f K (wrap64 (a2 * t39)) a0).bind fun t48 => ((spec_l01Mod.f K (wrap64 (a3 * t39)) a0).bind fun t52 => some (t44, t48, t52)))))))

/-! ### spec_l01Through: function 58 -/
def spec_l01Through.f (K : Nat) (a0 : Int) (a1_0 : Int) (a1_1 : Int) (a2_0 : Int) (a2_1 : Int) : Option (Int × Int × Int) := ((spec_l01Normal.f K a0 (wrap64 (a1_1 - a2_1)) (wrap64 (a2_0 - a1_0)) (wrap64 ((wrap64 (a1_0 * a2_1)) - (wrap64 (a2_0 * a1_1))))).bind fun (t12, t13, t14) => some (t12, t13, t14))

/-! ### spec_MedianOf: function 24 -/
def spec_MedianOf.f (K : Nat) (a0 : Int) (a1_0 : Int) (a1_1 : Int) (a2_0 : Int) (a2_1 : Int) (a3_0 : Int) (a3_1 : Int) : Option (Int × Int × Int × Int) := ((spec_l04Code.f K a0 0 a1_0 a1_1 a2_0 a2_1 a3_0 a3_1).bind fun t16 => (if (t16 == 0) = true then ((spec_l01Middle.f K a0 a2_0 a2_1 a3_0 a3_1).bind fun (t23, t24) => ((spec_l01Through.f K a0 a1_0 a1_1 t23 t24).bind fun (t26, t27, t28) => some (t26, t27, t28, 0))) else some (0, 0, 0, t16)))

/-! ### impl_inverse: function 78 -/

def impl_inverse.l0 (K : Nat) (a0 : Int) (a1 : Int) : Nat → Int → Option (Int)
  | 0, _ => none
  | k9 + 1, x4 => (if decide (x4 < a0) = true then (if (a0 == 0) = true then none else (if ((Int.tmod (wrap64 (a1 * x4)) a0) == 1) = true then some x4 else (impl_inverse.l0 K a0 a1 k9 (wrap64 (x4 + 1))))) else some 0)
def impl_inverse.f (K : Nat) (a0 : Int) (a1 : Int) : Option (Int) := (impl_inverse.l0 K a0 a1 K 1)

/-! ### impl_combination: function 85 -/
def impl_combination.f (K : Nat) (a0 : Int) (a1_0 : Int) (a1_1 : Int) (a2_0 : Int) (a2_1 : Int) (a3 : Int) : Option (Int × Int) := ((impl_rest.f K a0 (wrap64 (a1_0 + (wrap64 (a3 * (wrap64 (a2_0 - a1_0))))))).bind fun t12 => ((impl_rest.f K a0 (wrap64 (a1_1 + (wrap64 (a3 * (wrap64 (a2_1 - a1_1))))))).bind fun t14 => some (t12, t14)))

/-! ### impl_midpoint: function 61 -/
def impl_midpoint.f (K : Nat) (a0 : Int) (a1_0 : Int) (a1_1 : Int) (a2_0 : Int) (a2_1 : Int) : Option (Int × Int) := ((impl_inverse.f K a0 2).bind fun t12 => ((impl_combination.f K a0 a1_0 a1_1 a2_0 a2_1 t12).bind fun (t14, t15) => some (t14, t15)))

/-! ### impl_divide: function 50 -/
def impl_divide.f (K : Nat) (a0 : Int) (a1 : Int) (a2 : Int) : Option (Int) := ((impl_inverse.f K a0 a2).bind fun t3 => ((impl_rest.f K a0 (wrap64 (a1 * t3))).bind fun t7 => some t7))

/-! ### impl_makeLine: function 99 -/
def impl_makeLine.f (K : Nat) (a0 : Int) (a1 : Int) (a2 : Int) (a3 : Int) : Option (Int × Int × Int) := ((impl_rest.f K a0 a1).bind fun t6 => ((impl_rest.f K a0 a2).bind fun t10 => ((impl_rest.f K a0 a3).bind fun t14 => (if (t6 == 0) = true then ((impl_divide.f K a0 t6 t10).bind fun t23 => ((impl_divide.f K a0 t10 t10).bind fun t27 => ((impl_divide.f K a0 t14 t10).bind fun t31 => some (t23, t27, t31)))) else ((impl_divide.f K a0 t6 t6).bind fun t39 => ((impl_divide.f K a0 t10 t6).bind fun t43 => ((impl_divide.f K a0 t14 t6).bind fun t47 => some (t39, t43, t47))))))))

/-! ### impl_through: function 84 -/
def impl_through.f (K : Nat) (a0 : Int) (a1_0 : Int) (a1_1 : Int) (a2_0 : Int) (a2_1 : Int) : Option (Int × Int × Int) := ((impl_makeLine.f K a0 a2_1 (wrap64 (-a2_0)) (wrap64 (-(wrap64 ((wrap64 (a2_1 * a1_0)) + (wrap64 ((wrap64 (-a2_0)) * a1_1))))))).bind fun (t15, t16, t17) => some (t15, t16, t17))

/-! ### impl_lineThrough: function 60 -/
def impl_lineThrough.f (K : Nat) (a0 : Int) (a1_0 : Int) (a1_1 : Int) (a2_0 : Int) (a2_1 : Int) : Option (Int × Int × Int) := ((impl_less.f K a0 a2_0 a2_1 a1_0 a1_1).bind fun (t12, t13) => ((impl_through.f K a0 a1_0 a1_1 t12 t13).bind fun (t15, t16, t17) => some (t15, t16, t17)))

/-! ### impl_MedianOf: function 25 -/
def impl_MedianOf.f (K : Nat) (a0 : Int) (a1_0 : Int) (a1_1 : Int) (a2_0 : Int) (a2_1 : Int) (a3_0 : Int) (a3_1 : Int) : Option (Int × Int × Int × Int) := ((impl_triangle.f K a0 0 a1_0 a1_1 a2_0 a2_1 a3_0 a3_1).bind fun t16 => (if (t16 == 0) = true then ((impl_midpoint.f K a0 a2_0 a2_1 a3_0 a3_1).bind fun (t23, t24) => ((impl_lineThrough.f K a0 a1_0 a1_1 t23 t24).bind fun (t26, t27, t28) => some (t26, t27, t28, 0))) else some (0, 0, 0, t16)))

/-! ### laws_eqLine: function 26 -/
def laws_eqLine.f (K : Nat) (a0_0 : Int) (a0_1 : Int) (a0_2 : Int) (a1_0 : Int) (a1_1 : Int) (a1_2 : Int) : Option (Bool) := (if (a0_0 == a1_0) = true then (if (a0_1 == a1_1) = true then (if (a0_2 == a1_2) = true then some true else some false) else some false) else some false)

/-! ### laws_FnExactMedianOf: function 6 -/
def laws_FnExactMedianOf.f (K : Nat) (a0 : Int) (a1_0 : Int) (a1_1 : Int) (a2_0 : Int) (a2_1 : Int) (a3_0 : Int) (a3_1 : Int) : Option (Bool) := ((laws_toPoint.f K a1_0 a1_1).bind fun (t12, t13) => ((laws_toPoint.f K a2_0 a2_1).bind fun (t15, t16) => ((laws_toPoint.f K a3_0 a3_1).bind fun (t18, t19) => ((spec_MedianOf.f K a0 t12 t13 t15 t16 t18 t19).bind fun (t21, t22, t23, t24) => ((laws_toPoint.f K a1_0 a1_1).bind fun (t34, t35) => ((laws_toPoint.f K a2_0 a2_1).bind fun (t37, t38) => ((laws_toPoint.f K a3_0 a3_1).bind fun (t40, t41) => ((impl_MedianOf.f K a0 t34 t35 t37 t38 t40 t41).bind fun (t43, t44, t45, t46) => ((laws_eqLine.f K t43 t44 t45 t21 t22 t23).bind fun t57 => (if t57 = true then (if (t46 == t24) = true then some true else some false) else some false))))))))))

/-! ### spec_CentroidOf: function 16 -/
def spec_CentroidOf.f (K : Nat) (a0 : Int) (a1_0 : Int) (a1_1 : Int) (a2_0 : Int) (a2_1 : Int) (a3_0 : Int) (a3_1 : Int) : Option (Int × Int × Int) := ((spec_l04Code.f K a0 0 a1_0 a1_1 a2_0 a2_1 a3_0 a3_1).bind fun t15 => (if (t15 == 0) = true then (if (a0 == 3) = true then some (0, 0, 5) else (if (a0 == 0) = true then none else ((spec_l01Inverse.f K (Int.tmod 3 a0) a0).bind fun t33 => ((spec_l01Plus.f K a0 a2_0 a2_1 a3_0 a3_1).bind fun (t35, t36) => ((spec_l01Plus.f K a0 a1_0 a1_1 t35 t36).bind fun (t38, t39) => ((spec_l01Times.f K a0 t33 t38 t39).bind fun (t41, t42) => some (t41, t42, 0))))))) else some (0, 0, t15)))

/-! ### impl_CentroidOf: function 17 -/
def impl_CentroidOf.f (K : Nat) (a0 : Int) (a1_0 : Int) (a1_1 : Int) (a2_0 : Int) (a2_1 : Int) (a3_0 : Int) (a3_1 : Int) : Option (Int × Int × Int) := ((impl_triangle.f K a0 0 a1_0 a1_1 a2_0 a2_1 a3_0 a3_1).bind fun t16 => (if (t16 == 0) = true then (if (a0 == 3) = true then some (0, 0, 5) else ((impl_divide.f K a0 (wrap64 ((wrap64 (a1_0 + a2_0)) + a3_0)) 3).bind fun t30 => ((impl_divide.f K a0 (wrap64 ((wrap64 (a1_1 + a2_1)) + a3_1)) 3).bind fun t32 => some (t30, t32, 0)))) else some (0, 0, t16)))

/-! ### laws_eqPoint: function 18 -/
def laws_eqPoint.f (K : Nat) (a0_0 : Int) (a0_1 : Int) (a1_0 : Int) (a1_1 : Int) : Option (Bool) := (if (a0_0 == a1_0) = true then (if (a0_1 == a1_1) = true then some true else some false) else some false)

/-! ### laws_FnExactCentroidOf: function 4 -/
def laws_FnExactCentroidOf.f (K : Nat) (a0 : Int) (a1_0 : Int) (a1_1 : Int) (a2_0 : Int) (a2_1 : Int) (a3_0 : Int) (a3_1 : Int) : Option (Bool) := ((laws_toPoint.f K a1_0 a1_1).bind fun (t12, t13) => ((laws_toPoint.f K a2_0 a2_1).bind fun (t15, t16) => ((laws_toPoint.f K a3_0 a3_1).bind fun (t18, t19) => ((spec_CentroidOf.f K a0 t12 t13 t15 t16 t18 t19).bind fun (t21, t22, t23) => ((laws_toPoint.f K a1_0 a1_1).bind fun (t33, t34) => ((laws_toPoint.f K a2_0 a2_1).bind fun (t36, t37) => ((laws_toPoint.f K a3_0 a3_1).bind fun (t39, t40) => ((impl_CentroidOf.f K a0 t33 t34 t36 t37 t39 t40).bind fun (t42, t43, t44) => ((laws_eqPoint.f K t42 t43 t21 t22).bind fun t55 => (if t55 = true then (if (t44 == t23) = true then some true else some false) else some false))))))))))

/-! ### spec_l02Through: function 86 -/
def spec_l02Through.f (K : Nat) (a0 : Int) (a1 : Int) (a2_0 : Int) (a2_1 : Int) (a3_0 : Int) (a3_1 : Int) : Option (Int × Int × Int) := (if (a1 == 1) = true then ((spec_l01Mod.f K (wrap64 (-a2_1)) a0).bind fun t18 => ((spec_l01Mod.f K (wrap64 (-(wrap64 ((wrap64 (a2_0 * a3_0)) + (wrap64 (t18 * a3_1)))))) a0).bind fun t23 => ((spec_l01Normal.f K a0 a2_0 t18 t23).bind fun (t27, t28, t29) => some (t27, t28, t29)))) else (if (a1 == 2) = true then ((spec_l01Mod.f K (wrap64 (-(wrap64 ((wrap64 (a2_1 * a3_0)) + (wrap64 (a2_0 * a3_1)))))) a0).bind fun t40 => ((spec_l01Normal.f K a0 a2_1 a2_0 t40).bind fun (t44, t45, t46) => some (t44, t45, t46))) else ((spec_l01Mod.f K (wrap64 (-(wrap64 ((wrap64 (a2_0 * a3_0)) + (wrap64 (a2_1 * a3_1)))))) a0).bind fun t54 => ((spec_l01Normal.f K a0 a2_0 a2_1 t54).bind fun (t58, t59, t60) => some (t58, t59, t60)))))

/-! ### spec_l04Altitude: function 64 -/
def spec_l04Altitude.f (K : Nat) (a0 : Int) (a1 : Int) (a2_0 : Int) (a2_1 : Int) (a3_0 : Int) (a3_1 : Int) (a4_0 : Int) (a4_1 : Int) : Option (Int × Int × Int) := ((spec_l01Minus.f K a0 a3_0 a3_1 a4_0 a4_1).bind fun (t15, t16) => ((spec_l02Through.f K a0 a1 t15 t16 a2_0 a2_1).bind fun (t18, t19, t20) => some (t18, t19, t20)))

/-! ### spec_AltitudeOf: function 29 -/
def spec_AltitudeOf.f (K : Nat) (a0 : Int) (a1 : Int) (a2_0 : Int) (a2_1 : Int) (a3_0 : Int) (a3_1 : Int) (a4_0 : Int) (a4_1 : Int) : Option (Int × Int × Int × Int) := ((spec_l04Code.f K a0 a1 a2_0 a2_1 a3_0 a3_1 a4_0 a4_1).bind fun t16 => (if (t16 == 0) = true then ((spec_l04Altitude.f K a0 a1 a2_0 a2_1 a3_0 a3_1 a4_0 a4_1).bind fun (t23, t24, t25) => some (t23, t24, t25, 0)) else some (0, 0, 0, t16)))

/-! ### impl_linesThrough: function 100 -/

def impl_linesThrough.l0 (K : Nat) (a0 : Int) (a1_0 : Int) (a1_1 : Int) : Nat → Int → List (Int × Int × Int) → Option (List (Int × Int × Int))
  | 0, _, _ => none
  | k27 + 1, x17, x18 => (if decide (x17 < a0) = true then ((impl_rest.f K a0 (wrap64 ((wrap64 (-a1_0)) - (wrap64 (x17 * a1_1))))).bind fun t36 => (if decide (x18.length ≤ 1000000) = true then (impl_linesThrough.l0 K a0 a1_0 a1_1 k27 (wrap64 (x17 + 1)) (x18 ++ [(1, x17, t36)])) else none)) else some x18)
def impl_linesThrough.f (K : Nat) (a0 : Int) (a1_0 : Int) (a1_1 : Int) : Option (List (Int × Int × Int)) := ((impl_rest.f K a0 (wrap64 (-a1_1))).bind fun t6 => (impl_linesThrough.l0 K a0 a1_0 a1_1 K 0 ([(0, 1, t6)])))

/-! ### impl_way: function 101 -/
def impl_way.f (K : Nat) (a0 : Int) (a1_0 : Int) (a1_1 : Int) (a1_2 : Int) : Option (Int × Int) := ((impl_rest.f K a0 (wrap64 (-a1_1))).bind fun t9 => some (t9, a1_0))

/-! ### impl_arePerpendicular: function 94 -/
def impl_arePerpendicular.f (K : Nat) (a0 : Int) (a1 : Int) (a2_0 : Int) (a2_1 : Int) (a2_2 : Int) (a3_0 : Int) (a3_1 : Int) (a3_2 : Int) : Option (Bool) := ((impl_way.f K a0 a2_0 a2_1 a2_2).bind fun (t9, t10) => ((impl_way.f K a0 a3_0 a3_1 a3_2).bind fun (t12, t13) => ((impl_product.f K a0 a1 t9 t10 t12 t13).bind fun t15 => some (t15 == 0))))

/-! ### impl_perpendicular: function 90 -/

def impl_perpendicular.l0 (K : Nat) (a0 : Int) (a1 : Int) (a2_0 : Int) (a2_1 : Int) (a2_2 : Int) (t13 : List (Int × Int × Int)) : Nat → Int → Int → Int → Int → Option (Int × Int × Int)
  | 0, _, _, _, _ => none
  | k29 + 1, x19, x20, x21, x22 => (if decide (x19 < (t13.length : Int)) = true then ((idx t13 x19).bind fun (t39, t40, t41) => ((impl_arePerpendicular.f K a0 a1 a2_0 a2_1 a2_2 t39 t40 t41).bind fun t53 => (if t53 = true then some (t39, t40, t41) else (impl_perpendicular.l0 K a0 a1 a2_0 a2_1 a2_2 t13 k29 (wrap64 (x19 + 1)) x20 x21 x22)))) else some (0, 0, 0))
def impl_perpendicular.f (K : Nat) (a0 : Int) (a1 : Int) (a2_0 : Int) (a2_1 : Int) (a2_2 : Int) (a3_0 : Int) (a3_1 : Int) : Option (Int × Int × Int) := ((impl_linesThrough.f K a0 a3_0 a3_1).bind fun t13 => (impl_perpendicular.l0 K a0 a1 a2_0 a2_1 a2_2 t13 K 0 0 0 0))

/-! ### impl_altitude: function 65 -/
def impl_altitude.f (K : Nat) (a0 : Int) (a1 : Int) (a2_0 : Int) (a2_1 : Int) (a3_0 : Int) (a3_1 : Int) (a4_0 : Int) (a4_1 : Int) : Option (Int × Int × Int) := ((impl_lineThrough.f K a0 a3_0 a3_1 a4_0 a4_1).bind fun (t15, t16, t17) => ((impl_perpendicular.f K a0 a1 t15 t16 t17 a2_0 a2_1).bind fun (t19, t20, t21) => some (t19, t20, t21)))

/-! ### impl_AltitudeOf: function 30 -/
def impl_AltitudeOf.f (K : Nat) (a0 : Int) (a1 : Int) (a2_0 : Int) (a2_1 : Int) (a3_0 : Int) (a3_1 : Int) (a4_0 : Int) (a4_1 : Int) : Option (Int × Int × Int × Int) := ((impl_triangle.f K a0 a1 a2_0 a2_1 a3_0 a3_1 a4_0 a4_1).bind fun t16 => (if (t16 == 0) = true then ((impl_altitude.f K a0 a1 a2_0 a2_1 a3_0 a3_1 a4_0 a4_1).bind fun (t23, t24, t25) => some (t23, t24, t25, 0)) else some (0, 0, 0, t16)))

/-! ### laws_FnExactAltitudeOf: function 8 -/
def laws_FnExactAltitudeOf.f (K : Nat) (a0 : Int) (a1 : Int) (a2_0 : Int) (a2_1 : Int) (a3_0 : Int) (a3_1 : Int) (a4_0 : Int) (a4_1 : Int) : Option (Bool) := ((laws_toPoint.f K a2_0 a2_1).bind fun (t12, t13) => ((laws_toPoint.f K a3_0 a3_1).bind fun (t15, t16) => ((laws_toPoint.f K a4_0 a4_1).bind fun (t18, t19) => ((spec_AltitudeOf.f K a0 a1 t12 t13 t15 t16 t18 t19).bind fun (t21, t22, t23, t24) => ((laws_toPoint.f K a2_0 a2_1).bind fun (t34, t35) => ((laws_toPoint.f K a3_0 a3_1).bind fun (t37, t38) => ((laws_toPoint.f K a4_0 a4_1).bind fun (t40, t41) => ((impl_AltitudeOf.f K a0 a1 t34 t35 t37 t38 t40 t41).bind fun (t43, t44, t45, t46) => ((laws_eqLine.f K t43 t44 t45 t21 t22 t23).bind fun t57 => (if t57 = true then (if (t46 == t24) = true then some true else some false) else some false))))))))))

/-! ### spec_l01Meet: function 88 -/
def spec_l01Meet.f (K : Nat) (a0 : Int) (a1_0 : Int) (a1_1 : Int) (a1_2 : Int) (a2_0 : Int) (a2_1 : Int) (a2_2 : Int) : Option (Int × Int × Bool) := ((spec_l01Mod.f K (wrap64 ((wrap64 (a1_0 * a2_1)) - (wrap64 (a1_1 * a2_0)))) a0).bind fun t12 => (if (t12 == 0) = true then some (0, 0, false) else ((spec_l01Inverse.f K t12 a0).bind fun t24 => (if (a0 == 0) = true then none else ((spec_l01Mod.f K (wrap64 ((Int.tmod (wrap64 ((wrap64 (a1_1 * a2_2)) - (wrap64 (a2_1 * a1_2)))) a0) * t24)) a0).bind fun t30 => ((spec_l01Mod.f K (wrap64 ((Int.tmod (wrap64 ((wrap64 (a2_0 * a1_2)) - (wrap64 (a1_0 * a2_2)))) a0) * t24)) a0).bind fun t32 => some (t30, t32, true)))))))

/-! ### spec_l04Orthocentre: function 67 -/
def spec_l04Orthocentre.f (K : Nat) (a0 : Int) (a1 : Int) (a2_0 : Int) (a2_1 : Int) (a3_0 : Int) (a3_1 : Int) (a4_0 : Int) (a4_1 : Int) : Option (Int × Int) := ((spec_l04Altitude.f K a0 a1 a2_0 a2_1 a3_0 a3_1 a4_0 a4_1).bind fun (t15, t16, t17) => ((spec_l04Altitude.f K a0 a1 a3_0 a3_1 a2_0 a2_1 a4_0 a4_1).bind fun (t19, t20, t21) => ((spec_l01Meet.f K a0 t15 t16 t17 t19 t20 t21).bind fun (t23, t24, t25) => some (t23, t24))))

/-! ### spec_OrthocentreOf: function 33 -/
def spec_OrthocentreOf.f (K : Nat) (a0 : Int) (a1 : Int) (a2_0 : Int) (a2_1 : Int) (a3_0 : Int) (a3_1 : Int) (a4_0 : Int) (a4_1 : Int) : Option (Int × Int × Int) := ((spec_l04Code.f K a0 a1 a2_0 a2_1 a3_0 a3_1 a4_0 a4_1).bind fun t16 => (if (t16 == 0) = true then ((spec_l04Orthocentre.f K a0 a1 a2_0 a2_1 a3_0 a3_1 a4_0 a4_1).bind fun (t23, t24) => some (t23, t24, 0)) else some (0, 0, t16)))

/-! ### impl_meet: function 92 -/
def impl_meet.f (K : Nat) (a0 : Int) (a1_0 : Int) (a1_1 : Int) (a1_2 : Int) (a2_0 : Int) (a2_1 : Int) (a2_2 : Int) : Option (Int × Int) := ((impl_rest.f K a0 (wrap64 ((wrap64 (a1_0 * a2_1)) - (wrap64 (a1_1 * a2_0))))).bind fun t12 => ((impl_rest.f K a0 (wrap64 ((wrap64 (a1_1 * a2_2)) - (wrap64 (a1_2 * a2_1))))).bind fun t17 => ((impl_divide.f K a0 t17 t12).bind fun t19 => ((impl_rest.f K a0 (wrap64 ((wrap64 (a1_2 * a2_0)) - (wrap64 (a1_0 * a2_2))))).bind fun t21 => ((impl_divide.f K a0 t21 t12).bind fun t23 => some (t19, t23))))))

/-! ### impl_orthocentre: function 68 -/
def impl_orthocentre.f (K : Nat) (a0 : Int) (a1 : Int) (a2_0 : Int) (a2_1 : Int) (a3_0 : Int) (a3_1 : Int) (a4_0 : Int) (a4_1 : Int) : Option (Int × Int) := ((impl_altitude.f K a0 a1 a2_0 a2_1 a3_0 a3_1 a4_0 a4_1).bind fun (t15, t16, t17) => ((impl_altitude.f K a0 a1 a3_0 a3_1 a2_0 a2_1 a4_0 a4_1).bind fun (t19, t20, t21) => ((impl_meet.f K a0 t15 t16 t17 t19 t20 t21).bind fun (t23, t24) => some (t23, t24))))

/-! ### impl_OrthocentreOf: function 34 -/
def impl_OrthocentreOf.f (K : Nat) (a0 : Int) (a1 : Int) (a2_0 : Int) (a2_1 : Int) (a3_0 : Int) (a3_1 : Int) (a4_0 : Int) (a4_1 : Int) : Option (Int × Int × Int) := ((impl_triangle.f K a0 a1 a2_0 a2_1 a3_0 a3_1 a4_0 a4_1).bind fun t16 => (if (t16 == 0) = true then ((impl_orthocentre.f K a0 a1 a2_0 a2_1 a3_0 a3_1 a4_0 a4_1).bind fun (t23, t24) => some (t23, t24, 0)) else some (0, 0, t16)))

/-! ### laws_FnExactOrthocentreOf: function 10 -/
def laws_FnExactOrthocentreOf.f (K : Nat) (a0 : Int) (a1 : Int) (a2_0 : Int) (a2_1 : Int) (a3_0 : Int) (a3_1 : Int) (a4_0 : Int) (a4_1 : Int) : Option (Bool) := ((laws_toPoint.f K a2_0 a2_1).bind fun (t12, t13) => ((laws_toPoint.f K a3_0 a3_1).bind fun (t15, t16) => ((laws_toPoint.f K a4_0 a4_1).bind fun (t18, t19) => ((spec_OrthocentreOf.f K a0 a1 t12 t13 t15 t16 t18 t19).bind fun (t21, t22, t23) => ((laws_toPoint.f K a2_0 a2_1).bind fun (t33, t34) => ((laws_toPoint.f K a3_0 a3_1).bind fun (t36, t37) => ((laws_toPoint.f K a4_0 a4_1).bind fun (t39, t40) => ((impl_OrthocentreOf.f K a0 a1 t33 t34 t36 t37 t39 t40).bind fun (t42, t43, t44) => ((laws_eqPoint.f K t42 t43 t21 t22).bind fun t55 => (if t55 = true then (if (t44 == t23) = true then some true else some false) else some false))))))))))

/-! ### spec_l04Circumcentre: function 62 -/
def spec_l04Circumcentre.f (K : Nat) (a0 : Int) (a1 : Int) (a2_0 : Int) (a2_1 : Int) (a3_0 : Int) (a3_1 : Int) (a4_0 : Int) (a4_1 : Int) : Option (Int × Int) := ((spec_l01Minus.f K a0 a2_0 a2_1 a3_0 a3_1).bind fun (t15, t16) => ((spec_l01Middle.f K a0 a2_0 a2_1 a3_0 a3_1).bind fun (t18, t19) => ((spec_l02Through.f K a0 a1 t15 t16 t18 t19).bind fun (t21, t22, t23) => ((spec_l01Minus.f K a0 a2_0 a2_1 a4_0 a4_1).bind fun (t33, t34) => ((spec_l01Middle.f K a0 a2_0 a2_1 a4_0 a4_1).bind fun (t36, t37) => ((spec_l02Through.f K a0 a1 t33 t34 t36 t37).bind fun (t39, t40, t41) => ((spec_l01Meet.f K a0 t21 t22 t23 t39 t40 t41).bind fun (t51, t52, t53) => some (t51, t52))))))))

/-! ### spec_CircumcentreOf: function 27 -/
def spec_CircumcentreOf.f (K : Nat) (a0 : Int) (a1 : Int) (a2_0 : Int) (a2_1 : Int) (a3_0 : Int) (a3_1 : Int) (a4_0 : Int) (a4_1 : Int) : Option (Int × Int × Int) := ((spec_l04Code.f K a0 a1 a2_0 a2_1 a3_0 a3_1 a4_0 a4_1).bind fun t16 => (if (t16 == 0) = true then ((spec_l04Circumcentre.f K a0 a1 a2_0 a2_1 a3_0 a3_1 a4_0 a4_1).bind fun (t23, t24) => some (t23, t24, 0)) else some (0, 0, t16)))

/-! ### impl_allPoints: function 89 -/
mutual
def impl_allPoints.l0 (K : Nat) (a0 : Int) : Nat → Int → List (Int × Int) → Option (List (Int × Int))
  | 0, _, _ => none
  | k19 + 1, x10, x11 => (if decide (x10 < a0) = true then (impl_allPoints.l1 K a0 x10 k19 0 x11) else some x11)
def impl_allPoints.l1 (K : Nat) (a0 : Int) (x10 : Int) : Nat → Int → List (Int × Int) → Option (List (Int × Int))
  | 0, _, _ => none
  | k38 + 1, x29, x30 => (if decide (x29 < a0) = true then (if decide (x30.length ≤ 1000000) = true then (impl_allPoints.l1 K a0 x10 k38 (wrap64 (x29 + 1)) (x30 ++ [(x10, x29)])) else none) else (impl_allPoints.l0 K a0 k38 (wrap64 (x10 + 1)) x30))
end
def impl_allPoints.f (K : Nat) (a0 : Int) : Option (List (Int × Int)) := (impl_allPoints.l0 K a0 K 0 ([] : List (Int × Int)))

/-! ### impl_circumcentre: function 63 -/

def impl_circumcentre.l0 (K : Nat) (a0 : Int) (a1 : Int) (a2_0 : Int) (a2_1 : Int) (a3_0 : Int) (a3_1 : Int) (a4_0 : Int) (a4_1 : Int) (t16 : List (Int × Int)) : Nat → Int → Int → Int → Option (Int × Int)
  | 0, _, _, _ => none
  | k31 + 1, x22, x23, x24 => (if decide (x22 < (t16.length : Int)) = true then ((idx t16 x22).bind fun (t41, t42) => ((impl_quadrance.f K a0 a1 t41 t42 a2_0 a2_1).bind fun t54 => ((impl_quadrance.f K a0 a1 t41 t42 a3_0 a3_1).bind fun t59 => (if (t54 == t59) = true then ((impl_quadrance.f K a0 a1 t41 t42 a4_0 a4_1).bind fun t64 => (if (t54 == t64) = true then some (t41, t42) else (impl_circumcentre.l0 K a0 a1 a2_0 a2_1 a3_0 a3_1 a4_0 a4_1 t16 k31 (wrap64 (x22 + 1)) x23 x24))) else (impl_circumcentre.l0 K a0 a1 a2_0 a2_1 a3_0 a3_1 a4_0 a4_1 t16 k31 (wrap64 (x22 + 1)) x23 x24))))) else some (0, 0))
def impl_circumcentre.f (K : Nat) (a0 : Int) (a1 : Int) (a2_0 : Int) (a2_1 : Int) (a3_0 : Int) (a3_1 : Int) (a4_0 : Int) (a4_1 : Int) : Option (Int × Int) := ((impl_allPoints.f K a0).bind fun t16 => (impl_circumcentre.l0 K a0 a1 a2_0 a2_1 a3_0 a3_1 a4_0 a4_1 t16 K 0 0 0))

/-! ### impl_CircumcentreOf: function 28 -/
def impl_CircumcentreOf.f (K : Nat) (a0 : Int) (a1 : Int) (a2_0 : Int) (a2_1 : Int) (a3_0 : Int) (a3_1 : Int) (a4_0 : Int) (a4_1 : Int) : Option (Int × Int × Int) := ((impl_triangle.f K a0 a1 a2_0 a2_1 a3_0 a3_1 a4_0 a4_1).bind fun t16 => (if (t16 == 0) = true then ((impl_circumcentre.f K a0 a1 a2_0 a2_1 a3_0 a3_1 a4_0 a4_1).bind fun (t23, t24) => some (t23, t24, 0)) else some (0, 0, t16)))

/-! ### laws_FnExactCircumcentreOf: function 7 -/
def laws_FnExactCircumcentreOf.f (K : Nat) (a0 : Int) (a1 : Int) (a2_0 : Int) (a2_1 : Int) (a3_0 : Int) (a3_1 : Int) (a4_0 : Int) (a4_1 : Int) : Option (Bool) := ((laws_toPoint.f K a2_0 a2_1).bind fun (t12, t13) => ((laws_toPoint.f K a3_0 a3_1).bind fun (t15, t16) => ((laws_toPoint.f K a4_0 a4_1).bind fun (t18, t19) => ((spec_CircumcentreOf.f K a0 a1 t12 t13 t15 t16 t18 t19).bind fun (t21, t22, t23) => ((laws_toPoint.f K a2_0 a2_1).bind fun (t33, t34) => ((laws_toPoint.f K a3_0 a3_1).bind fun (t36, t37) => ((laws_toPoint.f K a4_0 a4_1).bind fun (t39, t40) => ((impl_CircumcentreOf.f K a0 a1 t33 t34 t36 t37 t39 t40).bind fun (t42, t43, t44) => ((laws_eqPoint.f K t42 t43 t21 t22).bind fun t55 => (if t55 = true then (if (t44 == t23) = true then some true else some false) else some false))))))))))

/-! ### spec_CircumquadranceOf: function 31 -/
def spec_CircumquadranceOf.f (K : Nat) (a0 : Int) (a1 : Int) (a2_0 : Int) (a2_1 : Int) (a3_0 : Int) (a3_1 : Int) (a4_0 : Int) (a4_1 : Int) : Option (Int × Int) := ((spec_l04Code.f K a0 a1 a2_0 a2_1 a3_0 a3_1 a4_0 a4_1).bind fun t13 => (if (t13 == 0) = true then ((spec_l04Circumcentre.f K a0 a1 a2_0 a2_1 a3_0 a3_1 a4_0 a4_1).bind fun (t20, t21) => ((spec_l02Quadrance.f K a0 a1 t20 t21 a2_0 a2_1).bind fun t23 => some (t23, 0))) else some (0, t13)))

/-! ### impl_CircumquadranceOf: function 32 -/
def impl_CircumquadranceOf.f (K : Nat) (a0 : Int) (a1 : Int) (a2_0 : Int) (a2_1 : Int) (a3_0 : Int) (a3_1 : Int) (a4_0 : Int) (a4_1 : Int) : Option (Int × Int) := ((impl_triangle.f K a0 a1 a2_0 a2_1 a3_0 a3_1 a4_0 a4_1).bind fun t13 => (if (t13 == 0) = true then ((impl_circumcentre.f K a0 a1 a2_0 a2_1 a3_0 a3_1 a4_0 a4_1).bind fun (t20, t21) => ((impl_quadrance.f K a0 a1 t20 t21 a2_0 a2_1).bind fun t23 => some (t23, 0))) else some (0, t13)))

/-! ### laws_FnExactCircumquadranceOf: function 9 -/
def laws_FnExactCircumquadranceOf.f (K : Nat) (a0 : Int) (a1 : Int) (a2_0 : Int) (a2_1 : Int) (a3_0 : Int) (a3_1 : Int) (a4_0 : Int) (a4_1 : Int) : Option (Bool) := ((laws_toPoint.f K a2_0 a2_1).bind fun (t12, t13) => ((laws_toPoint.f K a3_0 a3_1).bind fun (t15, t16) => ((laws_toPoint.f K a4_0 a4_1).bind fun (t18, t19) => ((spec_CircumquadranceOf.f K a0 a1 t12 t13 t15 t16 t18 t19).bind fun (t21, t22) => ((laws_toPoint.f K a2_0 a2_1).bind fun (t27, t28) => ((laws_toPoint.f K a3_0 a3_1).bind fun (t30, t31) => ((laws_toPoint.f K a4_0 a4_1).bind fun (t33, t34) => ((impl_CircumquadranceOf.f K a0 a1 t27 t28 t30 t31 t33 t34).bind fun (t36, t37) => (if (t36 == t21) = true then (if (t37 == t22) = true then some true else some false) else some false)))))))))

/-! ### spec_EulerLineOf: function 35 -/
def spec_EulerLineOf.f (K : Nat) (a0 : Int) (a1 : Int) (a2_0 : Int) (a2_1 : Int) (a3_0 : Int) (a3_1 : Int) (a4_0 : Int) (a4_1 : Int) : Option (Int × Int × Int × Int) := ((spec_l04Code.f K a0 a1 a2_0 a2_1 a3_0 a3_1 a4_0 a4_1).bind fun t16 => (if (t16 == 0) = true then ((spec_l04Orthocentre.f K a0 a1 a2_0 a2_1 a3_0 a3_1 a4_0 a4_1).bind fun (t23, t24) => ((spec_l04Circumcentre.f K a0 a1 a2_0 a2_1 a3_0 a3_1 a4_0 a4_1).bind fun (t26, t27) => (if (t23 == t26 && t24 == t27) = true then some (0, 0, 0, 5) else ((spec_l01Through.f K a0 t23 t24 t26 t27).bind fun (t54, t55, t56) => some (t54, t55, t56, 0))))) else some (0, 0, 0, t16)))

/-! ### impl_EulerLineOf: function 36 -/
def impl_EulerLineOf.f (K : Nat) (a0 : Int) (a1 : Int) (a2_0 : Int) (a2_1 : Int) (a3_0 : Int) (a3_1 : Int) (a4_0 : Int) (a4_1 : Int) : Option (Int × Int × Int × Int) := ((impl_triangle.f K a0 a1 a2_0 a2_1 a3_0 a3_1 a4_0 a4_1).bind fun t16 => (if (t16 == 0) = true then ((impl_orthocentre.f K a0 a1 a2_0 a2_1 a3_0 a3_1 a4_0 a4_1).bind fun (t23, t24) => ((impl_circumcentre.f K a0 a1 a2_0 a2_1 a3_0 a3_1 a4_0 a4_1).bind fun (t26, t27) => (if (t23 == t26 && t24 == t27) = true then some (0, 0, 0, 5) else ((impl_lineThrough.f K a0 t23 t24 t26 t27).bind fun (t54, t55, t56) => some (t54, t55, t56, 0))))) else some (0, 0, 0, t16)))

/-! ### laws_FnExactEulerLineOf: function 11 -/
def laws_FnExactEulerLineOf.f (K : Nat) (a0 : Int) (a1 : Int) (a2_0 : Int) (a2_1 : Int) (a3_0 : Int) (a3_1 : Int) (a4_0 : Int) (a4_1 : Int) : Option (Bool) := ((laws_toPoint.f K a2_0 a2_1).bind fun (t12, t13) => ((laws_toPoint.f K a3_0 a3_1).bind fun (t15, t16) => ((laws_toPoint.f K a4_0 a4_1).bind fun (t18, t19) => ((spec_EulerLineOf.f K a0 a1 t12 t13 t15 t16 t18 t19).bind fun (t21, t22, t23, t24) => ((laws_toPoint.f K a2_0 a2_1).bind fun (t34, t35) => ((laws_toPoint.f K a3_0 a3_1).bind fun (t37, t38) => ((laws_toPoint.f K a4_0 a4_1).bind fun (t40, t41) => ((impl_EulerLineOf.f K a0 a1 t34 t35 t37 t38 t40 t41).bind fun (t43, t44, t45, t46) => ((laws_eqLine.f K t43 t44 t45 t21 t22 t23).bind fun t57 => (if t57 = true then (if (t46 == t24) = true then some true else some false) else some false))))))))))

/-! ### spec_WeightsOf: function 19 -/
def spec_WeightsOf.f (K : Nat) (a0 : Int) (a1_0 : Int) (a1_1 : Int) (a2_0 : Int) (a2_1 : Int) (a3_0 : Int) (a3_1 : Int) (a4_0 : Int) (a4_1 : Int) : Option (List (Int) × Int) := ((spec_l02Code.f K a0 0 ([(a1_0, a1_1), (a2_0, a2_1), (a3_0, a3_1), (a4_0, a4_1)])).bind fun t18 => (if (t18 == 0) = true then ((spec_l04Code.f K a0 0 a1_0 a1_1 a2_0 a2_1 a3_0 a3_1).bind fun t25 => (if (t25 == 0) = true then ((spec_l01Area.f K a0 a1_0 a1_1 a2_0 a2_1 a3_0 a3_1).bind fun t33 => ((spec_l01Inverse.f K t33 a0).bind fun t37 => ((spec_l01Area.f K a0 a4_0 a4_1 a2_0 a2_1 a3_0 a3_1).bind fun t42 => ((spec_l01Mod.f K (wrap64 (t42 * t37)) a0).bind fun t44 => ((spec_l01Area.f K a0 a1_0 a1_1 a4_0 a4_1 a3_0 a3_1).bind fun t46 => ((spec_l01Mod.f K (wrap64 (t46 * t37)) a0).bind fun t48 => ((spec_l01Area.f K a0 a1_0 a1_1 a2_0 a2_1 a4_0 a4_1).bind fun t50 => ((spec_l01Mod.f K (wrap64 (t50 * t37)) a0).bind fun t52 => some ([t44, t48, t52], 0))))))))) else some ([], t25))) else some ([], t18)))

/-! ### impl_WeightsOf_1: function 55 -/
def impl_WeightsOf_1.f (K : Nat) (f0_0 : Int) (f1_0 : Int) (f1_1 : Int) (f2_0 : Int) (f2_1 : Int) (f3_0 : Int) (f3_1 : Int) (f4_0 : Int) (f4_1 : Int) : Option (Bool) := ((impl_arePoints.f K f0_0 ([(f1_0, f1_1), (f2_0, f2_1), (f3_0, f3_1), (f4_0, f4_1)])).bind fun t6 => some t6)

/-! ### impl_asked__impl_WeightsOf_1: function 54 -/
def impl_asked__impl_WeightsOf_1.f (K : Nat) (a0 : Int) (c1_0_0 : Int) (c1_1_0 : Int) (c1_1_1 : Int) (c1_2_0 : Int) (c1_2_1 : Int) (c1_3_0 : Int) (c1_3_1 : Int) (c1_4_0 : Int) (c1_4_1 : Int) : Option (Int) := ((impl_IsField.f K a0).bind fun t4 => (if t4 = true then ((impl_WeightsOf_1.f K c1_0_0 c1_1_0 c1_1_1 c1_2_0 c1_2_1 c1_3_0 c1_3_1 c1_4_0 c1_4_1).bind fun t11 => (if t11 = true then some 0 else some 2)) else some 1))

/-! ### impl_WeightsOf: function 20 -/
def impl_WeightsOf.f (K : Nat) (a0 : Int) (a1_0 : Int) (a1_1 : Int) (a2_0 : Int) (a2_1 : Int) (a3_0 : Int) (a3_1 : Int) (a4_0 : Int) (a4_1 : Int) : Option (List (Int) × Int) := ((impl_asked__impl_WeightsOf_1.f K a0 a0 a1_0 a1_1 a2_0 a2_1 a3_0 a3_1 a4_0 a4_1).bind fun t19 => (if (t19 == 0) = true then ((impl_area.f K a0 a1_0 a1_1 a2_0 a2_1 a3_0 a3_1).bind fun t26 => (if (t26 == 0) = true then some ([], 5) else ((impl_area.f K a0 a4_0 a4_1 a2_0 a2_1 a3_0 a3_1).bind fun t37 => ((impl_divide.f K a0 t37 t26).bind fun t39 => ((impl_area.f K a0 a1_0 a1_1 a4_0 a4_1 a3_0 a3_1).bind fun t41 => ((impl_divide.f K a0 t41 t26).bind fun t43 => ((impl_area.f K a0 a1_0 a1_1 a2_0 a2_1 a4_0 a4_1).bind fun t45 => ((impl_divide.f K a0 t45 t26).bind fun t47 => some ([t39, t43, t47], 0))))))))) else some ([], t19)))

/-! ### laws_eqInt64S: function 21 -/

def laws_eqInt64S.l0 (K : Nat) (a0 : List (Int)) (a1 : List (Int)) : Nat → Int → Option (Bool)
  | 0, _ => none
  | k12 + 1, x7 => (if decide (x7 < (a0.length : Int)) = true then ((idx a0 x7).bind fun t22 => ((idx a1 x7).bind fun t28 => (if (t22 == t28) = true then (laws_eqInt64S.l0 K a0 a1 k12 (wrap64 (x7 + 1))) else some false))) else some true)
def laws_eqInt64S.f (K : Nat) (a0 : List (Int)) (a1 : List (Int)) : Option (Bool) := (if ((a0.length : Int) == (a1.length : Int)) = true then (laws_eqInt64S.l0 K a0 a1 K 0) else some false)

/-! ### laws_markInt64S: function 22 -/

def laws_markInt64S.l0 (K : Nat) (a0 : List (Int)) : Nat → Int → Int → List (Int) → Option (Int × List (Int))
  | 0, _, _, _ => none
  | k13 + 1, x4, x5, x6 => (if decide (x5 < (a0.length : Int)) = true then ((idx x6 x5).bind fun t23 => (laws_markInt64S.l0 K a0 k13 (wrap64 (x4 + 1)) (wrap64 (x5 + 1)) (x6.set (x5).toNat x4))) else some (x4, x6))
def laws_markInt64S.f (K : Nat) (a0 : List (Int)) (a1 : Int) : Option (Int × List (Int)) := (laws_markInt64S.l0 K a0 K a1 0 a0)

/-! ### laws_heldInt64S: function 23 -/

def laws_heldInt64S.l0 (K : Nat) (a0 : List (Int)) : Nat → Int → Int → Option (Int)
  | 0, _, _ => none
  | k10 + 1, x4, x5 => (if decide (x5 < (a0.length : Int)) = true then ((idx a0 x5).bind fun t21 => (if (t21 == x4) = true then (laws_heldInt64S.l0 K a0 k10 (wrap64 (x4 + 1)) (wrap64 (x5 + 1))) else some (-1))) else some x4)
def laws_heldInt64S.f (K : Nat) (a0 : List (Int)) (a1 : Int) : Option (Int) := (laws_heldInt64S.l0 K a0 K a1 0)

/-! ### laws_FnExactWeightsOf: function 5 -/
def laws_FnExactWeightsOf.f (K : Nat) (a0 : Int) (a1_0 : Int) (a1_1 : Int) (a2_0 : Int) (a2_1 : Int) (a3_0 : Int) (a3_1 : Int) (a4_0 : Int) (a4_1 : Int) : Option (Bool) := ((laws_toPoint.f K a1_0 a1_1).bind fun (t15, t16) => ((laws_toPoint.f K a2_0 a2_1).bind fun (t18, t19) => ((laws_toPoint.f K a3_0 a3_1).bind fun (t21, t22) => ((laws_toPoint.f K a4_0 a4_1).bind fun (t24, t25) => ((spec_WeightsOf.f K a0 t15 t16 t18 t19 t21 t22 t24 t25).bind fun (t27, t30) => ((laws_toPoint.f K a1_0 a1_1).bind fun (t38, t39) => ((laws_toPoint.f K a2_0 a2_1).bind fun (t41, t42) => ((laws_toPoint.f K a3_0 a3_1).bind fun (t44, t45) => ((laws_toPoint.f K a4_0 a4_1).bind fun (t47, t48) => ((impl_WeightsOf.f K a0 t38 t39 t41 t42 t44 t45 t47 t48).bind fun (t50, t53) => ((laws_eqInt64S.f K t50 t27).bind fun t62 => (if t62 = true then (if (t53 == t30) = true then ((laws_markInt64S.f K t50 1).bind fun (t70, t71) => ((laws_heldInt64S.f K t71 1).bind fun t81 => (if decide (t81 < 0) = true then some false else (if (t81 == t70) = true then ((laws_toPoint.f K a1_0 a1_1).bind fun (t93, t94) => ((laws_toPoint.f K a2_0 a2_1).bind fun (t96, t97) => ((laws_toPoint.f K a3_0 a3_1).bind fun (t99, t100) => ((laws_toPoint.f K a4_0 a4_1).bind fun (t102, t103) => ((impl_WeightsOf.f K a0 t93 t94 t96 t97 t99 t100 t102 t103).bind fun (t105, t108) => ((laws_eqInt64S.f K t105 t27).bind fun t117 => (if t117 = true then (if (t108 == t30) = true then ((laws_heldInt64S.f K t71 1).bind fun t125 => (if decide (t125 < 0) = true then some false else (if (t125 == t70) = true then some true else some false))) else some false) else some false))))))) else some false)))) else some false) else some false))))))))))))

/-! ### spec_l02Direction: function 93 -/
def spec_l02Direction.f (K : Nat) (a0 : Int) (a1_0 : Int) (a1_1 : Int) (a1_2 : Int) : Option (Int × Int) := ((spec_l01Mod.f K (wrap64 (-a1_1)) a0).bind fun t9 => some (t9, a1_0))

/-! ### spec_l02Foot: function 69 -/
def spec_l02Foot.f (K : Nat) (a0 : Int) (a1 : Int) (a2_0 : Int) (a2_1 : Int) (a3_0 : Int) (a3_1 : Int) (a3_2 : Int) : Option (Int × Int × Bool) := ((spec_l02Direction.f K a0 a3_0 a3_1 a3_2).bind fun (t12, t13) => ((spec_l02Through.f K a0 a1 t12 t13 a2_0 a2_1).bind fun (t15, t16, t17) => ((spec_l01Meet.f K a0 a3_0 a3_1 a3_2 t15 t16 t17).bind fun (t19, t20, t21) => some (t19, t20, t21))))

/-! ### spec_OrthicPoints: function 37 -/
def spec_OrthicPoints.f (K : Nat) (a0 : Int) (a1 : Int) (a2_0 : Int) (a2_1 : Int) (a3_0 : Int) (a3_1 : Int) (a4_0 : Int) (a4_1 : Int) : Option (List (Int × Int) × Int) := ((spec_l04Code.f K a0 a1 a2_0 a2_1 a3_0 a3_1 a4_0 a4_1).bind fun t13 => (if (t13 == 0) = true then ((spec_l01Through.f K a0 a3_0 a3_1 a4_0 a4_1).bind fun (t20, t21, t22) => ((spec_l01Through.f K a0 a2_0 a2_1 a4_0 a4_1).bind fun (t24, t25, t26) => ((spec_l01Through.f K a0 a2_0 a2_1 a3_0 a3_1).bind fun (t28, t29, t30) => ((spec_l02Foot.f K a0 a1 a2_0 a2_1 t20 t21 t22).bind fun (t50, t51, t52) => (if t52 = true then ((spec_l02Foot.f K a0 a1 a3_0 a3_1 t24 t25 t26).bind fun (t85, t86, t87) => (if t87 = true then (if decide ((([] : List (Int × Int)) ++ [(t50, t51)]).length ≤ 1000000) = true then ((spec_l02Foot.f K a0 a1 a4_0 a4_1 t28 t29 t30).bind fun (t120, t121, t122) => (if t122 = true then (if decide (((([] : List (Int × Int)) ++ [(t50, t51)]) ++ [(t85, t86)]).length ≤ 1000000) = true then some ((((([] : List (Int × Int)) ++ [(t50, t51)]) ++ [(t85, t86)]) ++ [(t120, t121)]), 0) else none) else some ([], 5))) else none) else some ([], 5))) else some ([], 5)))))) else some ([], t13)))

/-! ### impl_isNull: function 70 -/
def impl_isNull.f (K : Nat) (a0 : Int) (a1 : Int) (a2_0 : Int) (a2_1 : Int) (a2_2 : Int) : Option (Bool) := ((impl_arePerpendicular.f K a0 a1 a2_0 a2_1 a2_2 a2_0 a2_1 a2_2).bind fun t6 => some t6)

/-! ### impl_foot: function 71 -/
def impl_foot.f (K : Nat) (a0 : Int) (a1 : Int) (a2_0 : Int) (a2_1 : Int) (a3_0 : Int) (a3_1 : Int) (a3_2 : Int) : Option (Int × Int) := ((impl_perpendicular.f K a0 a1 a3_0 a3_1 a3_2 a2_0 a2_1).bind fun (t12, t13, t14) => ((impl_meet.f K a0 a3_0 a3_1 a3_2 t12 t13 t14).bind fun (t16, t17) => some (t16, t17)))

/-! ### impl_OrthicPoints: function 38 -/
def impl_OrthicPoints.f (K : Nat) (a0 : Int) (a1 : Int) (a2_0 : Int) (a2_1 : Int) (a3_0 : Int) (a3_1 : Int) (a4_0 : Int) (a4_1 : Int) : Option (List (Int × Int) × Int) := ((impl_triangle.f K a0 a1 a2_0 a2_1 a3_0 a3_1 a4_0 a4_1).bind fun t13 => (if (t13 == 0) = true then ((impl_lineThrough.f K a0 a3_0 a3_1 a4_0 a4_1).bind fun (t20, t21, t22) => ((impl_lineThrough.f K a0 a2_0 a2_1 a4_0 a4_1).bind fun (t24, t25, t26) => ((impl_lineThrough.f K a0 a2_0 a2_1 a3_0 a3_1).bind fun (t28, t29, t30) => ((impl_isNull.f K a0 a1 t20 t21 t22).bind fun t58 => (if t58 = true then some ([], 5) else ((impl_foot.f K a0 a1 a2_0 a2_1 t20 t21 t22).bind fun (t66, t67) => ((impl_isNull.f K a0 a1 t24 t25 t26).bind fun t100 => (if t100 = true then some ([], 5) else ((impl_foot.f K a0 a1 a3_0 a3_1 t24 t25 t26).bind fun (t108, t109) => (if decide ((([] : List (Int × Int)) ++ [(t66, t67)]).length ≤ 1000000) = true then ((impl_isNull.f K a0 a1 t28 t29 t30).bind fun t142 => (if t142 = true then some ([], 5) else ((impl_foot.f K a0 a1 a4_0 a4_1 t28 t29 t30).bind fun (t150, t151) => (if decide (((([] : List (Int × Int)) ++ [(t66, t67)]) ++ [(t108, t109)]).length ≤ 1000000) = true then some ((((([] : List (Int × Int)) ++ [(t66, t67)]) ++ [(t108, t109)]) ++ [(t150, t151)]), 0) else none)))) else none)))))))))) else some ([], t13)))

/-! ### laws_eqPointS: function 39 -/

def laws_eqPointS.l0 (K : Nat) (a0 : List (Int × Int)) (a1 : List (Int × Int)) : Nat → Int → Option (Bool)
  | 0, _ => none
  | k12 + 1, x7 => (if decide (x7 < (a0.length : Int)) = true then ((idx a0 x7).bind fun (t22, t23) => ((idx a1 x7).bind fun (t29, t30) => ((laws_eqPoint.f K t22 t23 t29 t30).bind fun t36 => (if t36 = true then (laws_eqPointS.l0 K a0 a1 k12 (wrap64 (x7 + 1))) else some false)))) else some true)
def laws_eqPointS.f (K : Nat) (a0 : List (Int × Int)) (a1 : List (Int × Int)) : Option (Bool) := (if ((a0.length : Int) == (a1.length : Int)) = true then (laws_eqPointS.l0 K a0 a1 K 0) else some false)

/-! ### laws_markPointS: function 40 -/

def laws_markPointS.l0 (K : Nat) (a0 : List (Int × Int)) : Nat → Int → Int → List (Int × Int) → Option (Int × List (Int × Int))
  | 0, _, _, _ => none
  | k13 + 1, x4, x5, x6 => (if decide (x5 < (a0.length : Int)) = true then ((idx x6 x5).bind fun (t28, t29) => ((idx (x6.set (x5).toNat (x4, t29)) x5).bind fun (t45, t46) => (laws_markPointS.l0 K a0 k13 (wrap64 ((wrap64 (x4 + 1)) + 1)) (wrap64 (x5 + 1)) ((x6.set (x5).toNat (x4, t29)).set (x5).toNat (t45, wrap64 (x4 + 1)))))) else some (x4, x6))
def laws_markPointS.f (K : Nat) (a0 : List (Int × Int)) (a1 : Int) : Option (Int × List (Int × Int)) := (laws_markPointS.l0 K a0 K a1 0 a0)

/-! ### laws_heldPointS: function 41 -/

def laws_heldPointS.l0 (K : Nat) (a0 : List (Int × Int)) : Nat → Int → Int → Option (Int)
  | 0, _, _ => none
  | k10 + 1, x4, x5 => (if decide (x5 < (a0.length : Int)) = true then ((idx a0 x5).bind fun (t26, t27) => (if (t26 == x4) = true then ((idx a0 x5).bind fun (t39, t40) => (if (t40 == (wrap64 (x4 + 1))) = true then (laws_heldPointS.l0 K a0 k10 (wrap64 ((wrap64 (x4 + 1)) + 1)) (wrap64 (x5 + 1))) else some (-1))) else some (-1))) else some x4)
def laws_heldPointS.f (K : Nat) (a0 : List (Int × Int)) (a1 : Int) : Option (Int) := (laws_heldPointS.l0 K a0 K a1 0)

/-! ### laws_FnExactOrthicPoints: function 12 -/
def laws_FnExactOrthicPoints.f (K : Nat) (a0 : Int) (a1 : Int) (a2_0 : Int) (a2_1 : Int) (a3_0 : Int) (a3_1 : Int) (a4_0 : Int) (a4_1 : Int) : Option (Bool) := ((laws_toPoint.f K a2_0 a2_1).bind fun (t12, t13) => ((laws_toPoint.f K a3_0 a3_1).bind fun (t15, t16) => ((laws_toPoint.f K a4_0 a4_1).bind fun (t18, t19) => ((spec_OrthicPoints.f K a0 a1 t12 t13 t15 t16 t18 t19).bind fun (t21, t24) => ((laws_toPoint.f K a2_0 a2_1).bind fun (t32, t33) => ((laws_toPoint.f K a3_0 a3_1).bind fun (t35, t36) => ((laws_toPoint.f K a4_0 a4_1).bind fun (t38, t39) => ((impl_OrthicPoints.f K a0 a1 t32 t33 t35 t36 t38 t39).bind fun (t41, t44) => ((laws_eqPointS.f K t41 t21).bind fun t53 => (if t53 = true then (if (t44 == t24) = true then ((laws_markPointS.f K t41 1).bind fun (t61, t62) => ((laws_heldPointS.f K t62 1).bind fun t72 => (if decide (t72 < 0) = true then some false else (if (t72 == t61) = true then ((laws_toPoint.f K a2_0 a2_1).bind fun (t84, t85) => ((laws_toPoint.f K a3_0 a3_1).bind fun (t87, t88) => ((laws_toPoint.f K a4_0 a4_1).bind fun (t90, t91) => ((impl_OrthicPoints.f K a0 a1 t84 t85 t87 t88 t90 t91).bind fun (t93, t96) => ((laws_eqPointS.f K t93 t21).bind fun t105 => (if t105 = true then (if (t96 == t24) = true then ((laws_heldPointS.f K t62 1).bind fun t113 => (if decide (t113 < 0) = true then some false else (if (t113 == t61) = true then some true else some false))) else some false) else some false)))))) else some false)))) else some false) else some false))))))))))

end Go.Proofs.Ytohpnbfgemngmaa
