/- What the functions of the program compute, in plain Lean. -/
import Derived.Test.YtbibgeoohpgaeaaDoorK
namespace Go.Proofs.YtbibgeoohpgaeaaDoor
open Go Go.RowKit
attribute [local go_sem] Oper.quiet Oper.quietAt Oper.quietUpon
attribute [local irreducible] wpList
set_option linter.unusedVariables false
set_option linter.unusedSimpArgs false

/-! ### laws_toInt64A4: function 12 -/
def laws_toInt64A4.f (K : Nat) (a0_0 : Int) (a0_1 : Int) (a0_2 : Int) (a0_3 : Int) : Option (Int × Int × Int × Int) := some (a0_0, a0_1, a0_2, a0_3)

/-! ### laws_toPoint: function 13 -/
def laws_toPoint.f (K : Nat) (a0_0 : Int) (a0_1 : Int) : Option (Int × Int) := some (a0_0, a0_1)

/-! ### laws_toMove: function 6 -/
def laws_toMove.f (K : Nat) (a0_0 : Int) (a0_1 : Int) (a0_2 : Int) (a0_3 : Int) (a0_4 : Int) (a0_5 : Int) : Option (Int × Int × Int × Int × Int × Int) := ((laws_toInt64A4.f K a0_0 a0_1 a0_2 a0_3).bind fun (t13, t14, t15, t16) => ((laws_toPoint.f K a0_4 a0_5).bind fun (t24, t25) => some (t13, t14, t15, t16, t24, t25)))

/-! ### spec_l01In: function 22 -/
def spec_l01In.f (K : Nat) (a0 : Int) (a1 : Int) (a2 : Int) : Option (Bool) := (if decide (a1 ≤ a0) = true then some (decide (a0 ≤ a2)) else some false)

/-! ### spec_l01Field: function 36 -/

def spec_l01Field.l0 (K : Nat) (a0 : Int) : Nat → Int → Option (Bool)
  | 0, _ => none
  | k16 + 1, x11 => (if decide ((wrap64 (x11 * x11)) ≤ a0) = true then (if (x11 == 0) = true then none else (if ((Int.tmod a0 x11) == 0) = true then some false else (spec_l01Field.l0 K a0 k16 (wrap64 (x11 + 1))))) else some true)
def spec_l01Field.f (K : Nat) (a0 : Int) : Option (Bool) := ((spec_l01In.f K a0 3 31).bind fun t4 => (if t4 = true then (spec_l01Field.l0 K a0 K 2) else some false))

/-! ### spec_l01Point: function 47 -/
def spec_l01Point.f (K : Nat) (a0 : Int) (a1_0 : Int) (a1_1 : Int) : Option (Bool) := ((spec_l01In.f K a1_0 0 (wrap64 (a0 - 1))).bind fun t6 => (if t6 = true then ((spec_l01In.f K a1_1 0 (wrap64 (a0 - 1))).bind fun t11 => some t11) else some false))

/-! ### spec_l07Is: function 37 -/
def spec_l07Is.f (K : Nat) (a0 : Int) (a1_0 : Int) (a1_1 : Int) (a1_2 : Int) (a1_3 : Int) (a1_4 : Int) (a1_5 : Int) : Option (Bool) := ((spec_l01In.f K a1_0 0 (wrap64 (a0 - 1))).bind fun t12 => (if t12 = true then ((spec_l01In.f K a1_1 0 (wrap64 (a0 - 1))).bind fun t22 => (if t22 = true then ((spec_l01In.f K a1_2 0 (wrap64 (a0 - 1))).bind fun t32 => (if t32 = true then ((spec_l01In.f K a1_3 0 (wrap64 (a0 - 1))).bind fun t42 => (if t42 = true then ((spec_l01Point.f K a0 a1_4 a1_5).bind fun t51 => some t51) else some false)) else some false)) else some false)) else some false))

/-! ### spec_l07Maps: function 21 -/

def spec_l07Maps.l0 (K : Nat) (a0 : Int) (a1 : List (Int × Int × Int × Int × Int × Int)) : Nat → Int → Option (Int)
  | 0, _ => none
  | k16 + 1, x11 => (if decide (x11 < (a1.length : Int)) = true then ((idx a1 x11).bind fun (t26, t27, t28, t29, t30, t31) => ((spec_l07Is.f K a0 t26 t27 t28 t29 t30 t31).bind fun t36 => (if t36 = true then (spec_l07Maps.l0 K a0 a1 k16 (wrap64 (x11 + 1))) else some 2))) else some 0)
def spec_l07Maps.f (K : Nat) (a0 : Int) (a1 : List (Int × Int × Int × Int × Int × Int)) : Option (Int) := ((spec_l01Field.f K a0).bind fun t4 => (if t4 = true then (spec_l07Maps.l0 K a0 a1 K 0) else some 1))

/-! ### spec_l01Mod: function 33 -/
def spec_l01Mod.f (K : Nat) (a0 : Int) (a1 : Int) : Option (Int) := (if (a1 == 0) = true then none else some (Int.tmod (wrap64 ((Int.tmod a0 a1) + a1)) a1))

/-! ### spec_l07Lead: function 24 -/
def spec_l07Lead.f (K : Nat) (a0 : Int) (a1_0 : Int) (a1_1 : Int) (a1_2 : Int) (a1_3 : Int) (a1_4 : Int) (a1_5 : Int) (a2_0 : Int) (a2_1 : Int) : Option (Int × Int) := ((spec_l01Mod.f K (wrap64 ((wrap64 (a1_0 * a2_0)) + (wrap64 (a1_1 * a2_1)))) a0).bind fun t12 => ((spec_l01Mod.f K (wrap64 ((wrap64 (a1_2 * a2_0)) + (wrap64 (a1_3 * a2_1)))) a0).bind fun t14 => some (t12, t14)))

/-! ### spec_l02Product: function 38 -/
def spec_l02Product.f (K : Nat) (a0 : Int) (a1 : Int) (a2_0 : Int) (a2_1 : Int) (a3_0 : Int) (a3_1 : Int) : Option (Int) := (if (a1 == 0) = true then ((spec_l01Mod.f K (wrap64 ((wrap64 (a2_0 * a3_0)) + (wrap64 (a2_1 * a3_1)))) a0).bind fun t13 => some t13) else (if (a1 == 1) = true then ((spec_l01Mod.f K (wrap64 ((wrap64 (a2_0 * a3_0)) - (wrap64 (a2_1 * a3_1)))) a0).bind fun t20 => some t20) else ((spec_l01Mod.f K (wrap64 ((wrap64 (a2_0 * a3_1)) + (wrap64 (a2_1 * a3_0)))) a0).bind fun t25 => some t25)))

/-! ### spec_l07Good: function 23 -/
def spec_l07Good.f (K : Nat) (a0 : Int) (a1 : Int) (a2_0 : Int) (a2_1 : Int) (a2_2 : Int) (a2_3 : Int) (a2_4 : Int) (a2_5 : Int) : Option (Bool) := ((spec_l07Lead.f K a0 a2_0 a2_1 a2_2 a2_3 a2_4 a2_5 1 0).bind fun (t21, t22) => ((spec_l07Lead.f K a0 a2_0 a2_1 a2_2 a2_3 a2_4 a2_5 0 1).bind fun (t24, t25) => ((spec_l02Product.f K a0 a1 t21 t22 t21 t22).bind fun t43 => ((spec_l02Product.f K a0 a1 1 0 1 0).bind fun t45 => (if (t43 == t45) = true then ((spec_l02Product.f K a0 a1 t24 t25 t24 t25).bind fun t48 => ((spec_l02Product.f K a0 a1 0 1 0 1).bind fun t50 => (if (t48 == t50) = true then ((spec_l02Product.f K a0 a1 t21 t22 t24 t25).bind fun t53 => ((spec_l02Product.f K a0 a1 1 0 0 1).bind fun t55 => some (t53 == t55))) else some false))) else some false)))))

/-! ### spec_l07Code: function 10 -/
def spec_l07Code.f (K : Nat) (a0 : Int) (a1 : Int) (a2_0 : Int) (a2_1 : Int) (a2_2 : Int) (a2_3 : Int) (a2_4 : Int) (a2_5 : Int) : Option (Int) := ((spec_l07Maps.f K a0 ([(a2_0, a2_1, a2_2, a2_3, a2_4, a2_5)])).bind fun t9 => (if (t9 == 0) = true then ((spec_l01In.f K a1 0 2).bind fun t16 => (if t16 = true then ((spec_l07Good.f K a0 a1 a2_0 a2_1 a2_2 a2_3 a2_4 a2_5).bind fun t23 => (if t23 = true then some t9 else some 5)) else some 2)) else some t9))

/-! ### spec_l07Sign: function 17 -/
def spec_l07Sign.f (K : Nat) (a0 : Int) (a1_0 : Int) (a1_1 : Int) (a1_2 : Int) (a1_3 : Int) (a1_4 : Int) (a1_5 : Int) : Option (Int) := ((spec_l01Mod.f K (wrap64 ((wrap64 (a1_0 * a1_3)) - (wrap64 (a1_1 * a1_2)))) a0).bind fun t6 => some t6)

/-! ### spec_l01Plus: function 39 -/
def spec_l01Plus.f (K : Nat) (a0 : Int) (a1_0 : Int) (a1_1 : Int) (a2_0 : Int) (a2_1 : Int) : Option (Int × Int) := ((spec_l01Mod.f K (wrap64 (a1_0 + a2_0)) a0).bind fun t12 => ((spec_l01Mod.f K (wrap64 (a1_1 + a2_1)) a0).bind fun t14 => some (t12, t14)))

/-! ### spec_l07Move: function 25 -/
def spec_l07Move.f (K : Nat) (a0 : Int) (a1_0 : Int) (a1_1 : Int) (a1_2 : Int) (a1_3 : Int) (a1_4 : Int) (a1_5 : Int) (a2_0 : Int) (a2_1 : Int) : Option (Int × Int) := ((spec_l07Lead.f K a0 a1_0 a1_1 a1_2 a1_3 a1_4 a1_5 a2_0 a2_1).bind fun (t12, t13) => ((spec_l01Plus.f K a0 t12 t13 a1_4 a1_5).bind fun (t15, t16) => some (t15, t16)))

/-! ### spec_l07Fixed: function 18 -/
mutual
def spec_l07Fixed.l0 (K : Nat) (a0 : Int) (a1_0 : Int) (a1_1 : Int) (a1_2 : Int) (a1_3 : Int) (a1_4 : Int) (a1_5 : Int) : Nat → Int → List (Int × Int) → Option (List (Int × Int))
  | 0, _, _ => none
  | k23 + 1, x13, x14 => (if decide (x13 < a0) = true then (spec_l07Fixed.l1 K a0 a1_0 a1_1 a1_2 a1_3 a1_4 a1_5 x13 k23 0 x14) else some x14)
def spec_l07Fixed.l1 (K : Nat) (a0 : Int) (a1_0 : Int) (a1_1 : Int) (a1_2 : Int) (a1_3 : Int) (a1_4 : Int) (a1_5 : Int) (x13 : Int) : Nat → Int → List (Int × Int) → Option (List (Int × Int))
  | 0, _, _ => none
  | k43 + 1, x33, x34 => (if decide (x33 < a0) = true then ((spec_l07Move.f K a0 a1_0 a1_1 a1_2 a1_3 a1_4 a1_5 x13 x33).bind fun (t60, t61) => (if (t60 == x13 && t61 == x33) = true then (if decide (x34.length ≤ 1000000) = true then (spec_l07Fixed.l1 K a0 a1_0 a1_1 a1_2 a1_3 a1_4 a1_5 x13 k43 (wrap64 (x33 + 1)) (x34 ++ [(x13, x33)])) else none) else (spec_l07Fixed.l1 K a0 a1_0 a1_1 a1_2 a1_3 a1_4 a1_5 x13 k43 (wrap64 (x33 + 1)) x34))) else (spec_l07Fixed.l0 K a0 a1_0 a1_1 a1_2 a1_3 a1_4 a1_5 k43 (wrap64 (x13 + 1)) x34))
end
def spec_l07Fixed.f (K : Nat) (a0 : Int) (a1_0 : Int) (a1_1 : Int) (a1_2 : Int) (a1_3 : Int) (a1_4 : Int) (a1_5 : Int) : Option (List (Int × Int)) := (spec_l07Fixed.l0 K a0 a1_0 a1_1 a1_2 a1_3 a1_4 a1_5 K 0 ([] : List (Int × Int)))

/-! ### spec_KindOfMove: function 8 -/
def spec_KindOfMove.f (K : Nat) (a0 : Int) (a1 : Int) (a2_0 : Int) (a2_1 : Int) (a2_2 : Int) (a2_3 : Int) (a2_4 : Int) (a2_5 : Int) : Option (Int × Int) := ((spec_l07Code.f K a0 a1 a2_0 a2_1 a2_2 a2_3 a2_4 a2_5).bind fun t7 => (if (t7 == 0) = true then (if (a2_0 == 1 && (a2_1 == 0 && (a2_2 == 0 && a2_3 == 1))) = true then (if (a2_4 == 0 && a2_5 == 0) = true then some (0, 0) else some (1, 0)) else ((spec_l07Sign.f K a0 a2_0 a2_1 a2_2 a2_3 a2_4 a2_5).bind fun t22 => (if (t22 == 1) = true then some (2, 0) else ((spec_l07Fixed.f K a0 a2_0 a2_1 a2_2 a2_3 a2_4 a2_5).bind fun t29 => (if decide (0 < (t29.length : Int)) = true then some (3, 0) else some (4, 0)))))) else some (0, t7)))

/-! ### impl_IsField: function 40 -/
def impl_IsField.f (K : Nat) (a0 : Int) : Option (Bool) := (if (a0 == 3) = true then some true else (if (a0 == 5) = true then some true else (if (a0 == 7) = true then some true else (if (a0 == 11) = true then some true else (if (a0 == 13) = true then some true else (if (a0 == 17) = true then some true else (if (a0 == 19) = true then some true else (if (a0 == 23) = true then some true else (if (a0 == 29) = true then some true else (if (a0 == 31) = true then some true else some false))))))))))

/-! ### impl_isColour: function 28 -/
def impl_isColour.f (K : Nat) (a0 : Int) : Option (Bool) := (if decide (0 ≤ a0) = true then some (decide (a0 ≤ 2)) else some false)

/-! ### impl_isNumber: function 48 -/
def impl_isNumber.f (K : Nat) (a0 : Int) (a1 : Int) : Option (Bool) := (if decide (0 ≤ a1) = true then some (decide (a1 < a0)) else some false)

/-! ### impl_areNumbers: function 41 -/

def impl_areNumbers.l0 (K : Nat) (a0 : Int) (a1 : List (Int)) : Nat → Int → Option (Bool)
  | 0, _ => none
  | k9 + 1, x4 => (if decide (x4 < (a1.length : Int)) = true then ((idx a1 x4).bind fun t19 => ((impl_isNumber.f K a0 t19).bind fun t25 => (if t25 = true then (impl_areNumbers.l0 K a0 a1 k9 (wrap64 (x4 + 1))) else some false))) else some true)
def impl_areNumbers.f (K : Nat) (a0 : Int) (a1 : List (Int)) : Option (Bool) := (impl_areNumbers.l0 K a0 a1 K 0)

/-! ### impl_isPoint: function 42 -/
def impl_isPoint.f (K : Nat) (a0 : Int) (a1_0 : Int) (a1_1 : Int) : Option (Bool) := ((impl_areNumbers.f K a0 ([a1_0, a1_1])).bind fun t6 => some t6)

/-! ### impl_isMap: function 29 -/
def impl_isMap.f (K : Nat) (a0 : Int) (a1_0 : Int) (a1_1 : Int) (a1_2 : Int) (a1_3 : Int) (a1_4 : Int) (a1_5 : Int) : Option (Bool) := ((impl_areNumbers.f K a0 ([a1_0, a1_1, a1_2, a1_3])).bind fun t6 => (if t6 = true then ((impl_isPoint.f K a0 a1_4 a1_5).bind fun t11 => some t11) else some false))

/-! ### impl_always: function 15 -/
def impl_always.f (K : Nat)  : Option (Bool) := some true

/-! ### impl_moveAsked_1__impl_always: function 27 -/
def impl_moveAsked_1__impl_always.f (K : Nat) (f0_0 : Int) (f1_0 : Int) (f2_0 : Int) (f2_1 : Int) (f2_2 : Int) (f2_3 : Int) (f2_4 : Int) (f2_5 : Int) : Option (Bool) := ((impl_isColour.f K f0_0).bind fun t3 => (if t3 = true then ((impl_isMap.f K f1_0 f2_0 f2_1 f2_2 f2_3 f2_4 f2_5).bind fun t8 => (if t8 = true then ((impl_always.f K ).bind fun t13 => some t13) else some false)) else some false))

/-! ### impl_asked__impl_moveAsked_1_impl_always: function 26 -/
def impl_asked__impl_moveAsked_1_impl_always.f (K : Nat) (a0 : Int) (c1_0_0 : Int) (c1_1_0 : Int) (c1_2_0 : Int) (c1_2_1 : Int) (c1_2_2 : Int) (c1_2_3 : Int) (c1_2_4 : Int) (c1_2_5 : Int) : Option (Int) := ((impl_IsField.f K a0).bind fun t4 => (if t4 = true then ((impl_moveAsked_1__impl_always.f K c1_0_0 c1_1_0 c1_2_0 c1_2_1 c1_2_2 c1_2_3 c1_2_4 c1_2_5).bind fun t11 => (if t11 = true then some 0 else some 2)) else some 1))

/-! ### impl_rest: function 31 -/
def impl_rest.f (K : Nat) (a0 : Int) (a1 : Int) : Option (Int) := (if (a0 == 0) = true then none else some (Int.tmod (wrap64 ((Int.tmod a1 a0) + a0)) a0))

/-! ### impl_turned: function 43 -/
def impl_turned.f (K : Nat) (a0 : Int) (a1_0 : Int) (a1_1 : Int) (a1_2 : Int) (a1_3 : Int) (a2_0 : Int) (a2_1 : Int) : Option (Int × Int) := ((impl_rest.f K a0 (wrap64 ((wrap64 (a1_0 * a2_0)) + (wrap64 (a1_1 * a2_1))))).bind fun t12 => ((impl_rest.f K a0 (wrap64 ((wrap64 (a1_2 * a2_0)) + (wrap64 (a1_3 * a2_1))))).bind fun t14 => some (t12, t14)))

/-! ### impl_product: function 44 -/
def impl_product.f (K : Nat) (a0 : Int) (a1 : Int) (a2_0 : Int) (a2_1 : Int) (a3_0 : Int) (a3_1 : Int) : Option (Int) := (if (a1 == 0) = true then ((impl_rest.f K a0 (wrap64 ((wrap64 (a2_0 * a3_0)) + (wrap64 (a2_1 * a3_1))))).bind fun t13 => some t13) else (if (a1 == 1) = true then ((impl_rest.f K a0 (wrap64 ((wrap64 (a2_0 * a3_0)) - (wrap64 (a2_1 * a3_1))))).bind fun t20 => some t20) else ((impl_rest.f K a0 (wrap64 ((wrap64 (a2_0 * a3_1)) + (wrap64 (a2_1 * a3_0))))).bind fun t25 => some t25)))

/-! ### impl_keeps: function 30 -/
def impl_keeps.f (K : Nat) (a0 : Int) (a1 : Int) (a2_0 : Int) (a2_1 : Int) (a2_2 : Int) (a2_3 : Int) : Option (Bool) := ((impl_turned.f K a0 a2_0 a2_1 a2_2 a2_3 1 0).bind fun (t22, t23) => ((impl_product.f K a0 a1 1 0 1 0).bind fun t34 => ((impl_product.f K a0 a1 t22 t23 t22 t23).bind fun t36 => (if (t34 == t36) = true then ((impl_turned.f K a0 a2_0 a2_1 a2_2 a2_3 0 1).bind fun (t53, t54) => ((impl_product.f K a0 a1 0 1 0 1).bind fun t65 => ((impl_product.f K a0 a1 t53 t54 t53 t54).bind fun t67 => (if (t65 == t67) = true then ((impl_turned.f K a0 a2_0 a2_1 a2_2 a2_3 1 1).bind fun (t84, t85) => ((impl_product.f K a0 a1 1 1 1 1).bind fun t96 => ((impl_product.f K a0 a1 t84 t85 t84 t85).bind fun t98 => (if (t96 == t98) = true then some true else some false)))) else some false)))) else some false))))

/-! ### impl_moveAsked__impl_always: function 14 -/
def impl_moveAsked__impl_always.f (K : Nat) (a0 : Int) (a1 : Int) (a2_0 : Int) (a2_1 : Int) (a2_2 : Int) (a2_3 : Int) (a2_4 : Int) (a2_5 : Int) : Option (Int) := ((impl_asked__impl_moveAsked_1_impl_always.f K a0 a1 a0 a2_0 a2_1 a2_2 a2_3 a2_4 a2_5).bind fun t15 => (if (t15 == 0) = true then ((impl_keeps.f K a0 a1 a2_0 a2_1 a2_2 a2_3).bind fun t22 => (if t22 = true then some t15 else some 5)) else some t15))

/-! ### impl_allPoints: function 46 -/
mutual
def impl_allPoints.l0 (K : Nat) (a0 : Int) : Nat → Int → List (Int × Int) → Option (List (Int × Int))
  | 0, _, _ => none
  | k19 + 1, x10, x11 => (if decide (x10 < a0) = true then (impl_allPoints.l1 K a0 x10 k19 0 x11) else some x11)
def impl_allPoints.l1 (K : Nat) (a0 : Int) (x10 : Int) : Nat → Int → List (Int × Int) → Option (List (Int × Int))
  | 0, _, _ => none
  | k38 + 1, x29, x30 => (if decide (x29 < a0) = true then (if decide (x30.length ≤ 1000000) = true then (impl_allPoints.l1 K a0 x10 k38 (wrap64 (x29 + 1)) (x30 ++ [(x10, x29)])) else none) else (impl_allPoints.l0 K a0 k38 (wrap64 (x10 + 1)) x30))
end
def impl_allPoints.f (K : Nat) (a0 : Int) : Option (List (Int × Int)) := (impl_allPoints.l0 K a0 K 0 ([] : List (Int × Int)))

/-! ### impl_sum: function 45 -/
def impl_sum.f (K : Nat) (a0 : Int) (a1_0 : Int) (a1_1 : Int) (a2_0 : Int) (a2_1 : Int) : Option (Int × Int) := ((impl_rest.f K a0 (wrap64 (a1_0 + a2_0))).bind fun t12 => ((impl_rest.f K a0 (wrap64 (a1_1 + a2_1))).bind fun t14 => some (t12, t14)))

/-! ### impl_moved: function 32 -/
def impl_moved.f (K : Nat) (a0 : Int) (a1_0 : Int) (a1_1 : Int) (a1_2 : Int) (a1_3 : Int) (a1_4 : Int) (a1_5 : Int) (a2_0 : Int) (a2_1 : Int) : Option (Int × Int) := ((impl_turned.f K a0 a1_0 a1_1 a1_2 a1_3 a2_0 a2_1).bind fun (t12, t13) => ((impl_sum.f K a0 t12 t13 a1_4 a1_5).bind fun (t15, t16) => some (t15, t16)))

/-! ### impl_fixedPoints_1: function 35 -/
def impl_fixedPoints_1.f (K : Nat) (a0_0 : Int) (a0_1 : Int) (f0_0 : Int) (f1_0 : Int) (f1_1 : Int) (f1_2 : Int) (f1_3 : Int) (f1_4 : Int) (f1_5 : Int) : Option (Bool) := ((impl_moved.f K f0_0 f1_0 f1_1 f1_2 f1_3 f1_4 f1_5 a0_0 a0_1).bind fun (t6, t7) => some (t6 == a0_0 && t7 == a0_1))

/-! ### impl_pointsWith__impl_fixedPoints_1: function 34 -/

def impl_pointsWith__impl_fixedPoints_1.l0 (K : Nat) (c1_0_0 : Int) (c1_1_0 : Int) (c1_1_1 : Int) (c1_1_2 : Int) (c1_1_3 : Int) (c1_1_4 : Int) (c1_1_5 : Int) (t8 : List (Int × Int)) : Nat → Int → List (Int × Int) → Option (List (Int × Int))
  | 0, _, _ => none
  | k28 + 1, x17, x18 => (if decide (x17 < (t8.length : Int)) = true then ((idx t8 x17).bind fun (t38, t39) => ((impl_fixedPoints_1.f K t38 t39 c1_0_0 c1_1_0 c1_1_1 c1_1_2 c1_1_3 c1_1_4 c1_1_5).bind fun t51 => (if t51 = true then (if decide (x18.length ≤ 1000000) = true then (impl_pointsWith__impl_fixedPoints_1.l0 K c1_0_0 c1_1_0 c1_1_1 c1_1_2 c1_1_3 c1_1_4 c1_1_5 t8 k28 (wrap64 (x17 + 1)) (x18 ++ [(t38, t39)])) else none) else (impl_pointsWith__impl_fixedPoints_1.l0 K c1_0_0 c1_1_0 c1_1_1 c1_1_2 c1_1_3 c1_1_4 c1_1_5 t8 k28 (wrap64 (x17 + 1)) x18)))) else some x18)
def impl_pointsWith__impl_fixedPoints_1.f (K : Nat) (a0 : Int) (c1_0_0 : Int) (c1_1_0 : Int) (c1_1_1 : Int) (c1_1_2 : Int) (c1_1_3 : Int) (c1_1_4 : Int) (c1_1_5 : Int) : Option (List (Int × Int)) := ((impl_allPoints.f K a0).bind fun t8 => (impl_pointsWith__impl_fixedPoints_1.l0 K c1_0_0 c1_1_0 c1_1_1 c1_1_2 c1_1_3 c1_1_4 c1_1_5 t8 K 0 ([] : List (Int × Int))))

/-! ### impl_fixedPoints: function 19 -/
def impl_fixedPoints.f (K : Nat) (a0 : Int) (a1_0 : Int) (a1_1 : Int) (a1_2 : Int) (a1_3 : Int) (a1_4 : Int) (a1_5 : Int) : Option (List (Int × Int)) := ((impl_pointsWith__impl_fixedPoints_1.f K a0 a0 a1_0 a1_1 a1_2 a1_3 a1_4 a1_5).bind fun t9 => some t9)

/-! ### impl_sign: function 20 -/
def impl_sign.f (K : Nat) (a0 : Int) (a1_0 : Int) (a1_1 : Int) (a1_2 : Int) (a1_3 : Int) : Option (Int) := ((impl_rest.f K a0 (wrap64 ((wrap64 (a1_0 * a1_3)) - (wrap64 (a1_1 * a1_2))))).bind fun t6 => some t6)

/-! ### impl_KindOfMove: function 9 -/
def impl_KindOfMove.f (K : Nat) (a0 : Int) (a1 : Int) (a2_0 : Int) (a2_1 : Int) (a2_2 : Int) (a2_3 : Int) (a2_4 : Int) (a2_5 : Int) : Option (Int × Int) := ((impl_moveAsked__impl_always.f K a0 a1 a2_0 a2_1 a2_2 a2_3 a2_4 a2_5).bind fun t7 => (if (t7 == 0) = true then ((impl_fixedPoints.f K a0 a2_0 a2_1 a2_2 a2_3 a2_4 a2_5).bind fun t14 => (if (a2_0 == 1 && (a2_1 == 0 && (a2_2 == 0 && (a2_3 == 1 && (a2_4 == 0 && a2_5 == 0))))) = true then some (0, 0) else (if (a2_0 == 1 && (a2_1 == 0 && (a2_2 == 0 && a2_3 == 1))) = true then some (1, 0) else ((impl_sign.f K a0 a2_0 a2_1 a2_2 a2_3).bind fun t28 => (if (t28 == 1) = true then (if decide (0 < (t14.length : Int)) = true then some (2, 0) else ((impl_sign.f K a0 a2_0 a2_1 a2_2 a2_3).bind fun t36 => (if (t36 == 1) = true then some (4, 0) else some (4, 0)))) else ((impl_sign.f K a0 a2_0 a2_1 a2_2 a2_3).bind fun t44 => (if (t44 == 1) = true then some (4, 0) else (if decide (0 < (t14.length : Int)) = true then some (3, 0) else some (4, 0))))))))) else some (0, t7)))

/-! ### laws_FnExactKindOfMove: function 4 -/
def laws_FnExactKindOfMove.f (K : Nat) (a0 : Int) (a1 : Int) (a2_0 : Int) (a2_1 : Int) (a2_2 : Int) (a2_3 : Int) (a2_4 : Int) (a2_5 : Int) : Option (Bool) := ((laws_toMove.f K a2_0 a2_1 a2_2 a2_3 a2_4 a2_5).bind fun (t6, t7, t8, t9, t10, t11) => ((spec_KindOfMove.f K a0 a1 t6 t7 t8 t9 t10 t11).bind fun (t15, t16) => ((laws_toMove.f K a2_0 a2_1 a2_2 a2_3 a2_4 a2_5).bind fun (t21, t22, t23, t24, t25, t26) => ((impl_KindOfMove.f K a0 a1 t21 t22 t23 t24 t25 t26).bind fun (t30, t31) => (if (t30 == t15) = true then (if (t31 == t16) = true then some true else some false) else some false)))))

/-! ### spec_l07Times: function 11 -/
def spec_l07Times.f (K : Nat) (a0 : Int) (a1_0 : Int) (a1_1 : Int) (a1_2 : Int) (a1_3 : Int) (a1_4 : Int) (a1_5 : Int) (a2_0 : Int) (a2_1 : Int) (a2_2 : Int) (a2_3 : Int) (a2_4 : Int) (a2_5 : Int) : Option (Int × Int × Int × Int × Int × Int) := ((spec_l07Lead.f K a0 a1_0 a1_1 a1_2 a1_3 a1_4 a1_5 1 0).bind fun (t12, t13) => ((spec_l07Lead.f K a0 a2_0 a2_1 a2_2 a2_3 a2_4 a2_5 t12 t13).bind fun (t15, t16) => ((spec_l07Lead.f K a0 a1_0 a1_1 a1_2 a1_3 a1_4 a1_5 0 1).bind fun (t18, t19) => ((spec_l07Lead.f K a0 a2_0 a2_1 a2_2 a2_3 a2_4 a2_5 t18 t19).bind fun (t21, t22) => ((spec_l07Move.f K a0 a2_0 a2_1 a2_2 a2_3 a2_4 a2_5 a1_4 a1_5).bind fun (t40, t41) => some (t15, t21, t16, t22, t40, t41))))))

/-! ### spec_OrderOfMove: function 5 -/

def spec_OrderOfMove.l0 (K : Nat) (a0 : Int) (a2_0 : Int) (a2_1 : Int) (a2_2 : Int) (a2_3 : Int) (a2_4 : Int) (a2_5 : Int) : Nat → Int → Int → Int → Int → Int → Int → Int → Option (Int × Int)
  | 0, _, _, _, _, _, _, _ => none
  | k43 + 1, x28, x30, x31, x32, x33, x34, x35 => (if (x30 == 1 && (x31 == 0 && (x32 == 0 && (x33 == 1 && (x34 == 0 && x35 == 0))))) = true then some (x28, 0) else ((spec_l07Times.f K a0 x30 x31 x32 x33 x34 x35 a2_0 a2_1 a2_2 a2_3 a2_4 a2_5).bind fun (t61, t62, t63, t64, t65, t66) => (spec_OrderOfMove.l0 K a0 a2_0 a2_1 a2_2 a2_3 a2_4 a2_5 k43 (wrap64 (x28 + 1)) t61 t62 t63 t64 t65 t66)))
def spec_OrderOfMove.f (K : Nat) (a0 : Int) (a1 : Int) (a2_0 : Int) (a2_1 : Int) (a2_2 : Int) (a2_3 : Int) (a2_4 : Int) (a2_5 : Int) : Option (Int × Int) := ((spec_l07Code.f K a0 a1 a2_0 a2_1 a2_2 a2_3 a2_4 a2_5).bind fun t7 => (if (t7 == 0) = true then (spec_OrderOfMove.l0 K a0 a2_0 a2_1 a2_2 a2_3 a2_4 a2_5 K 1 a2_0 a2_1 a2_2 a2_3 a2_4 a2_5) else some (0, t7)))

/-! ### impl_then: function 16 -/
def impl_then.f (K : Nat) (a0 : Int) (a1_0 : Int) (a1_1 : Int) (a1_2 : Int) (a1_3 : Int) (a1_4 : Int) (a1_5 : Int) (a2_0 : Int) (a2_1 : Int) (a2_2 : Int) (a2_3 : Int) (a2_4 : Int) (a2_5 : Int) : Option (Int × Int × Int × Int × Int × Int) := ((impl_rest.f K a0 (wrap64 ((wrap64 (a2_0 * a1_0)) + (wrap64 (a2_1 * a1_2))))).bind fun t28 => ((impl_rest.f K a0 (wrap64 ((wrap64 (a2_0 * a1_1)) + (wrap64 (a2_1 * a1_3))))).bind fun t30 => ((impl_rest.f K a0 (wrap64 ((wrap64 (a2_2 * a1_0)) + (wrap64 (a2_3 * a1_2))))).bind fun t32 => ((impl_rest.f K a0 (wrap64 ((wrap64 (a2_2 * a1_1)) + (wrap64 (a2_3 * a1_3))))).bind fun t34 => ((impl_moved.f K a0 a2_0 a2_1 a2_2 a2_3 a2_4 a2_5 a1_4 a1_5).bind fun (t36, t37) => some (t28, t30, t32, t34, t36, t37))))))

/-! ### impl_OrderOfMove: function 7 -/

def impl_OrderOfMove.l0 (K : Nat) (a0 : Int) (a2_0 : Int) (a2_1 : Int) (a2_2 : Int) (a2_3 : Int) (a2_4 : Int) (a2_5 : Int) : Nat → Int → Int → Int → Int → Int → Int → Int → Option (Int × Int)
  | 0, _, _, _, _, _, _, _ => none
  | k37 + 1, x22, x24, x25, x26, x27, x28, x29 => (if (x24 == 1 && (x25 == 0 && (x26 == 0 && (x27 == 1 && (x28 == 0 && x29 == 0))))) = true then some (x22, 0) else ((impl_then.f K a0 x24 x25 x26 x27 x28 x29 a2_0 a2_1 a2_2 a2_3 a2_4 a2_5).bind fun (t55, t56, t57, t58, t59, t60) => (impl_OrderOfMove.l0 K a0 a2_0 a2_1 a2_2 a2_3 a2_4 a2_5 k37 (wrap64 (x22 + 1)) t55 t56 t57 t58 t59 t60)))
def impl_OrderOfMove.f (K : Nat) (a0 : Int) (a1 : Int) (a2_0 : Int) (a2_1 : Int) (a2_2 : Int) (a2_3 : Int) (a2_4 : Int) (a2_5 : Int) : Option (Int × Int) := ((impl_moveAsked__impl_always.f K a0 a1 a2_0 a2_1 a2_2 a2_3 a2_4 a2_5).bind fun t7 => (if (t7 == 0) = true then (impl_OrderOfMove.l0 K a0 a2_0 a2_1 a2_2 a2_3 a2_4 a2_5 K 1 a2_0 a2_1 a2_2 a2_3 a2_4 a2_5) else some (0, t7)))

/-! ### laws_FnExactOrderOfMove: function 3 -/
def laws_FnExactOrderOfMove.f (K : Nat) (a0 : Int) (a1 : Int) (a2_0 : Int) (a2_1 : Int) (a2_2 : Int) (a2_3 : Int) (a2_4 : Int) (a2_5 : Int) : Option (Bool) := ((laws_toMove.f K a2_0 a2_1 a2_2 a2_3 a2_4 a2_5).bind fun (t6, t7, t8, t9, t10, t11) => ((spec_OrderOfMove.f K a0 a1 t6 t7 t8 t9 t10 t11).bind fun (t15, t16) => ((laws_toMove.f K a2_0 a2_1 a2_2 a2_3 a2_4 a2_5).bind fun (t21, t22, t23, t24, t25, t26) => ((impl_OrderOfMove.f K a0 a1 t21 t22 t23 t24 t25 t26).bind fun (t30, t31) => (if (t30 == t15) = true then (if (t31 == t16) = true then some true else some false) else some false)))))

end Go.Proofs.YtbibgeoohpgaeaaDoor
