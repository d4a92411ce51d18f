/- What the functions of the program compute, in plain Lean. -/
import Derived.Test.YtbibgeoohpgaeaaK
namespace Go.Proofs.Ytbibgeoohpgaeaa
open Go Go.RowKit
attribute [local go_sem] Oper.quiet Oper.quietAt Oper.quietUpon
set_option linter.unusedVariables false
set_option linter.unusedSimpArgs false

/-! ### laws_toInt64A4: function 48 -/
def laws_toInt64A4.f (K : Nat) (a0_0 : Int) (a0_1 : Int) (a0_2 : Int) (a0_3 : Int) : Option (Int × Int × Int × Int) := some (a0_0, a0_1, a0_2, a0_3)

/-! ### laws_toPoint: function 15 -/
def laws_toPoint.f (K : Nat) (a0_0 : Int) (a0_1 : Int) : Option (Int × Int) := some (a0_0, a0_1)

/-! ### laws_toMove: function 14 -/
def laws_toMove.f (K : Nat) (a0_0 : Int) (a0_1 : Int) (a0_2 : Int) (a0_3 : Int) (a0_4 : Int) (a0_5 : Int) : Option (Int × Int × Int × Int × Int × Int) := ((laws_toInt64A4.f K a0_0 a0_1 a0_2 a0_3).bind fun (t13, t14, t15, t16) => ((laws_toPoint.f K a0_4 a0_5).bind fun (t24, t25) => some (t13, t14, t15, t16, t24, t25)))

/-! ### spec_l01In: function 90 -/
def spec_l01In.f (K : Nat) (a0 : Int) (a1 : Int) (a2 : Int) : Option (Bool) := (if decide (a1 ≤ a0) = true then some (decide (a0 ≤ a2)) else some false)

/-! ### spec_l01Field: function 87 -/

def spec_l01Field.l0 (K : Nat) (a0 : Int) : Nat → Int → Option (Bool)
  | 0, _ => none
  | k16 + 1, x11 => (if decide ((wrap64 (x11 * x11)) ≤ a0) = true then (if (x11 == 0) = true then none else (if ((Int.tmod a0 x11) == 0) = true then some false else (spec_l01Field.l0 K a0 k16 (wrap64 (x11 + 1))))) else some true)
def spec_l01Field.f (K : Nat) (a0 : Int) : Option (Bool) := ((spec_l01In.f K a0 3 31).bind fun t4 => (if t4 = true then (spec_l01Field.l0 K a0 K 2) else some false))

/-! ### spec_l01Point: function 108 -/
def spec_l01Point.f (K : Nat) (a0 : Int) (a1_0 : Int) (a1_1 : Int) : Option (Bool) := ((spec_l01In.f K a1_0 0 (wrap64 (a0 - 1))).bind fun t6 => (if t6 = true then ((spec_l01In.f K a1_1 0 (wrap64 (a0 - 1))).bind fun t11 => some t11) else some false))

/-! ### spec_l07Is: function 89 -/
def spec_l07Is.f (K : Nat) (a0 : Int) (a1_0 : Int) (a1_1 : Int) (a1_2 : Int) (a1_3 : Int) (a1_4 : Int) (a1_5 : Int) : Option (Bool) := ((spec_l01In.f K a1_0 0 (wrap64 (a0 - 1))).bind fun t12 => (if t12 = true then ((spec_l01In.f K a1_1 0 (wrap64 (a0 - 1))).bind fun t22 => (if t22 = true then ((spec_l01In.f K a1_2 0 (wrap64 (a0 - 1))).bind fun t32 => (if t32 = true then ((spec_l01In.f K a1_3 0 (wrap64 (a0 - 1))).bind fun t42 => (if t42 = true then ((spec_l01Point.f K a0 a1_4 a1_5).bind fun t51 => some t51) else some false)) else some false)) else some false)) else some false))

/-! ### spec_l07Maps: function 45 -/

def spec_l07Maps.l0 (K : Nat) (a0 : Int) (a1 : List (Int × Int × Int × Int × Int × Int)) : Nat → Int → Option (Int)
  | 0, _ => none
  | k16 + 1, x11 => (if decide (x11 < (a1.length : Int)) = true then ((idx a1 x11).bind fun (t26, t27, t28, t29, t30, t31) => ((spec_l07Is.f K a0 t26 t27 t28 t29 t30 t31).bind fun t36 => (if t36 = true then (spec_l07Maps.l0 K a0 a1 k16 (wrap64 (x11 + 1))) else some 2))) else some 0)
def spec_l07Maps.f (K : Nat) (a0 : Int) (a1 : List (Int × Int × Int × Int × Int × Int)) : Option (Int) := ((spec_l01Field.f K a0).bind fun t4 => (if t4 = true then (spec_l07Maps.l0 K a0 a1 K 0) else some 1))

/-! ### spec_l01Code: function 46 -/

def spec_l01Code.l0 (K : Nat) (a0 : Int) (a1 : List (Int × Int)) : Nat → Int → Option (Int)
  | 0, _ => none
  | k16 + 1, x11 => (if decide (x11 < (a1.length : Int)) = true then ((idx a1 x11).bind fun (t26, t27) => ((spec_l01Point.f K a0 t26 t27).bind fun t32 => (if t32 = true then (spec_l01Code.l0 K a0 a1 k16 (wrap64 (x11 + 1))) else some 2))) else some 0)
def spec_l01Code.f (K : Nat) (a0 : Int) (a1 : List (Int × Int)) : Option (Int) := ((spec_l01Field.f K a0).bind fun t4 => (if t4 = true then (spec_l01Code.l0 K a0 a1 K 0) else some 1))

/-! ### spec_l01Mod: function 118 -/
def spec_l01Mod.f (K : Nat) (a0 : Int) (a1 : Int) : Option (Int) := (if (a1 == 0) = true then none else some (Int.tmod (wrap64 ((Int.tmod a0 a1) + a1)) a1))

/-! ### spec_l07Lead: function 102 -/
def spec_l07Lead.f (K : Nat) (a0 : Int) (a1_0 : Int) (a1_1 : Int) (a1_2 : Int) (a1_3 : Int) (a1_4 : Int) (a1_5 : Int) (a2_0 : Int) (a2_1 : Int) : Option (Int × Int) := ((spec_l01Mod.f K (wrap64 ((wrap64 (a1_0 * a2_0)) + (wrap64 (a1_1 * a2_1)))) a0).bind fun t12 => ((spec_l01Mod.f K (wrap64 ((wrap64 (a1_2 * a2_0)) + (wrap64 (a1_3 * a2_1)))) a0).bind fun t14 => some (t12, t14)))

/-! ### spec_l01Plus: function 109 -/
def spec_l01Plus.f (K : Nat) (a0 : Int) (a1_0 : Int) (a1_1 : Int) (a2_0 : Int) (a2_1 : Int) : Option (Int × Int) := ((spec_l01Mod.f K (wrap64 (a1_0 + a2_0)) a0).bind fun t12 => ((spec_l01Mod.f K (wrap64 (a1_1 + a2_1)) a0).bind fun t14 => some (t12, t14)))

/-! ### spec_l07Move: function 47 -/
def spec_l07Move.f (K : Nat) (a0 : Int) (a1_0 : Int) (a1_1 : Int) (a1_2 : Int) (a1_3 : Int) (a1_4 : Int) (a1_5 : Int) (a2_0 : Int) (a2_1 : Int) : Option (Int × Int) := ((spec_l07Lead.f K a0 a1_0 a1_1 a1_2 a1_3 a1_4 a1_5 a2_0 a2_1).bind fun (t12, t13) => ((spec_l01Plus.f K a0 t12 t13 a1_4 a1_5).bind fun (t15, t16) => some (t15, t16)))

/-! ### spec_MovePoint: function 13 -/
def spec_MovePoint.f (K : Nat) (a0 : Int) (a1_0 : Int) (a1_1 : Int) (a1_2 : Int) (a1_3 : Int) (a1_4 : Int) (a1_5 : Int) (a2_0 : Int) (a2_1 : Int) : Option (Int × Int × Int) := ((spec_l07Maps.f K a0 ([(a1_0, a1_1, a1_2, a1_3, a1_4, a1_5)])).bind fun t15 => (if (t15 == 0) = true then ((spec_l01Code.f K a0 ([(a2_0, a2_1)])).bind fun t25 => (if (t25 == 0) = true then ((spec_l07Move.f K a0 a1_0 a1_1 a1_2 a1_3 a1_4 a1_5 a2_0 a2_1).bind fun (t33, t34) => some (t33, t34, 0)) else some (0, 0, t25))) else some (0, 0, t15)))

/-! ### impl_IsField: function 110 -/
def impl_IsField.f (K : Nat) (a0 : Int) : Option (Bool) := (if (a0 == 3) = true then some true else (if (a0 == 5) = true then some true else (if (a0 == 7) = true then some true else (if (a0 == 11) = true then some true else (if (a0 == 13) = true then some true else (if (a0 == 17) = true then some true else (if (a0 == 19) = true then some true else (if (a0 == 23) = true then some true else (if (a0 == 29) = true then some true else (if (a0 == 31) = true then some true else some false))))))))))

/-! ### impl_isNumber: function 134 -/
def impl_isNumber.f (K : Nat) (a0 : Int) (a1 : Int) : Option (Bool) := (if decide (0 ≤ a1) = true then some (decide (a1 < a0)) else some false)

/-! ### impl_areNumbers: function 111 -/

def impl_areNumbers.l0 (K : Nat) (a0 : Int) (a1 : List (Int)) : Nat → Int → Option (Bool)
  | 0, _ => none
  | k9 + 1, x4 => (if decide (x4 < (a1.length : Int)) = true then ((idx a1 x4).bind fun t19 => ((impl_isNumber.f K a0 t19).bind fun t25 => (if t25 = true then (impl_areNumbers.l0 K a0 a1 k9 (wrap64 (x4 + 1))) else some false))) else some true)
def impl_areNumbers.f (K : Nat) (a0 : Int) (a1 : List (Int)) : Option (Bool) := (impl_areNumbers.l0 K a0 a1 K 0)

/-! ### impl_isPoint: function 52 -/
def impl_isPoint.f (K : Nat) (a0 : Int) (a1_0 : Int) (a1_1 : Int) : Option (Bool) := ((impl_areNumbers.f K a0 ([a1_0, a1_1])).bind fun t6 => some t6)

/-! ### impl_isMap: function 51 -/
def impl_isMap.f (K : Nat) (a0 : Int) (a1_0 : Int) (a1_1 : Int) (a1_2 : Int) (a1_3 : Int) (a1_4 : Int) (a1_5 : Int) : Option (Bool) := ((impl_areNumbers.f K a0 ([a1_0, a1_1, a1_2, a1_3])).bind fun t6 => (if t6 = true then ((impl_isPoint.f K a0 a1_4 a1_5).bind fun t11 => some t11) else some false))

/-! ### impl_MovePoint_1: function 50 -/
def impl_MovePoint_1.f (K : Nat) (f0_0 : Int) (f1_0 : Int) (f1_1 : Int) (f1_2 : Int) (f1_3 : Int) (f1_4 : Int) (f1_5 : Int) (f2_0 : Int) (f2_1 : Int) : Option (Bool) := ((impl_isMap.f K f0_0 f1_0 f1_1 f1_2 f1_3 f1_4 f1_5).bind fun t3 => (if t3 = true then ((impl_isPoint.f K f0_0 f2_0 f2_1).bind fun t8 => some t8) else some false))

/-! ### impl_asked__impl_MovePoint_1: function 49 -/
def impl_asked__impl_MovePoint_1.f (K : Nat) (a0 : Int) (c1_0_0 : Int) (c1_1_0 : Int) (c1_1_1 : Int) (c1_1_2 : Int) (c1_1_3 : Int) (c1_1_4 : Int) (c1_1_5 : Int) (c1_2_0 : Int) (c1_2_1 : Int) : Option (Int) := ((impl_IsField.f K a0).bind fun t4 => (if t4 = true then ((impl_MovePoint_1.f K c1_0_0 c1_1_0 c1_1_1 c1_1_2 c1_1_3 c1_1_4 c1_1_5 c1_2_0 c1_2_1).bind fun t11 => (if t11 = true then some 0 else some 2)) else some 1))

/-! ### impl_rest: function 70 -/
def impl_rest.f (K : Nat) (a0 : Int) (a1 : Int) : Option (Int) := (if (a0 == 0) = true then none else some (Int.tmod (wrap64 ((Int.tmod a1 a0) + a0)) a0))

/-! ### impl_turned: function 72 -/
def impl_turned.f (K : Nat) (a0 : Int) (a1_0 : Int) (a1_1 : Int) (a1_2 : Int) (a1_3 : Int) (a2_0 : Int) (a2_1 : Int) : Option (Int × Int) := ((impl_rest.f K a0 (wrap64 ((wrap64 (a1_0 * a2_0)) + (wrap64 (a1_1 * a2_1))))).bind fun t12 => ((impl_rest.f K a0 (wrap64 ((wrap64 (a1_2 * a2_0)) + (wrap64 (a1_3 * a2_1))))).bind fun t14 => some (t12, t14)))

/-! ### impl_sum: function 112 -/
def impl_sum.f (K : Nat) (a0 : Int) (a1_0 : Int) (a1_1 : Int) (a2_0 : Int) (a2_1 : Int) : Option (Int × Int) := ((impl_rest.f K a0 (wrap64 (a1_0 + a2_0))).bind fun t12 => ((impl_rest.f K a0 (wrap64 (a1_1 + a2_1))).bind fun t14 => some (t12, t14)))

/-! ### impl_moved: function 53 -/
def impl_moved.f (K : Nat) (a0 : Int) (a1_0 : Int) (a1_1 : Int) (a1_2 : Int) (a1_3 : Int) (a1_4 : Int) (a1_5 : Int) (a2_0 : Int) (a2_1 : Int) : Option (Int × Int) := ((impl_turned.f K a0 a1_0 a1_1 a1_2 a1_3 a2_0 a2_1).bind fun (t12, t13) => ((impl_sum.f K a0 t12 t13 a1_4 a1_5).bind fun (t15, t16) => some (t15, t16)))

/-! ### impl_MovePoint: function 16 -/
def impl_MovePoint.f (K : Nat) (a0 : Int) (a1_0 : Int) (a1_1 : Int) (a1_2 : Int) (a1_3 : Int) (a1_4 : Int) (a1_5 : Int) (a2_0 : Int) (a2_1 : Int) : Option (Int × Int × Int) := ((impl_asked__impl_MovePoint_1.f K a0 a0 a1_0 a1_1 a1_2 a1_3 a1_4 a1_5 a2_0 a2_1).bind fun t16 => (if (t16 == 0) = true then ((impl_moved.f K a0 a1_0 a1_1 a1_2 a1_3 a1_4 a1_5 a2_0 a2_1).bind fun (t23, t24) => some (t23, t24, 0)) else some (0, 0, t16)))

/-! ### laws_eqPoint: function 17 -/
def laws_eqPoint.f (K : Nat) (a0_0 : Int) (a0_1 : Int) (a1_0 : Int) (a1_1 : Int) : Option (Bool) := (if (a0_0 == a1_0) = true then (if (a0_1 == a1_1) = true then some true else some false) else some false)

/-! ### laws_FnExactMovePoint: function 3 -/
def laws_FnExactMovePoint.f (K : Nat) (a0 : Int) (a1_0 : Int) (a1_1 : Int) (a1_2 : Int) (a1_3 : Int) (a1_4 : Int) (a1_5 : Int) (a2_0 : Int) (a2_1 : Int) : Option (Bool) := ((laws_toMove.f K a1_0 a1_1 a1_2 a1_3 a1_4 a1_5).bind fun (t9, t10, t11, t12, t13, t14) => ((laws_toPoint.f K a2_0 a2_1).bind fun (t16, t17) => ((spec_MovePoint.f K a0 t9 t10 t11 t12 t13 t14 t16 t17).bind fun (t19, t20, t21) => ((laws_toMove.f K a1_0 a1_1 a1_2 a1_3 a1_4 a1_5).bind fun (t31, t32, t33, t34, t35, t36) => ((laws_toPoint.f K a2_0 a2_1).bind fun (t38, t39) => ((impl_MovePoint.f K a0 t31 t32 t33 t34 t35 t36 t38 t39).bind fun (t41, t42, t43) => ((laws_eqPoint.f K t41 t42 t19 t20).bind fun t54 => (if t54 = true then (if (t43 == t21) = true then some true else some false) else some false))))))))

/-! ### spec_l02Product: function 124 -/
def spec_l02Product.f (K : Nat) (a0 : Int) (a1 : Int) (a2_0 : Int) (a2_1 : Int) (a3_0 : Int) (a3_1 : Int) : Option (Int) := (if (a1 == 0) = true then ((spec_l01Mod.f K (wrap64 ((wrap64 (a2_0 * a3_0)) + (wrap64 (a2_1 * a3_1)))) a0).bind fun t13 => some t13) else (if (a1 == 1) = true then ((spec_l01Mod.f K (wrap64 ((wrap64 (a2_0 * a3_0)) - (wrap64 (a2_1 * a3_1)))) a0).bind fun t20 => some t20) else ((spec_l01Mod.f K (wrap64 ((wrap64 (a2_0 * a3_1)) + (wrap64 (a2_1 * a3_0)))) a0).bind fun t25 => some t25)))

/-! ### spec_l07Good: function 113 -/
def spec_l07Good.f (K : Nat) (a0 : Int) (a1 : Int) (a2_0 : Int) (a2_1 : Int) (a2_2 : Int) (a2_3 : Int) (a2_4 : Int) (a2_5 : Int) : Option (Bool) := ((spec_l07Lead.f K a0 a2_0 a2_1 a2_2 a2_3 a2_4 a2_5 1 0).bind fun (t21, t22) => ((spec_l07Lead.f K a0 a2_0 a2_1 a2_2 a2_3 a2_4 a2_5 0 1).bind fun (t24, t25) => ((spec_l02Product.f K a0 a1 t21 t22 t21 t22).bind fun t43 => ((spec_l02Product.f K a0 a1 1 0 1 0).bind fun t45 => (if (t43 == t45) = true then ((spec_l02Product.f K a0 a1 t24 t25 t24 t25).bind fun t48 => ((spec_l02Product.f K a0 a1 0 1 0 1).bind fun t50 => (if (t48 == t50) = true then ((spec_l02Product.f K a0 a1 t21 t22 t24 t25).bind fun t53 => ((spec_l02Product.f K a0 a1 1 0 0 1).bind fun t55 => some (t53 == t55))) else some false))) else some false)))))

/-! ### spec_l07Code: function 54 -/
def spec_l07Code.f (K : Nat) (a0 : Int) (a1 : Int) (a2_0 : Int) (a2_1 : Int) (a2_2 : Int) (a2_3 : Int) (a2_4 : Int) (a2_5 : Int) : Option (Int) := ((spec_l07Maps.f K a0 ([(a2_0, a2_1, a2_2, a2_3, a2_4, a2_5)])).bind fun t9 => (if (t9 == 0) = true then ((spec_l01In.f K a1 0 2).bind fun t16 => (if t16 = true then ((spec_l07Good.f K a0 a1 a2_0 a2_1 a2_2 a2_3 a2_4 a2_5).bind fun t23 => (if t23 = true then some t9 else some 5)) else some 2)) else some t9))

/-! ### spec_IsMove: function 18 -/
def spec_IsMove.f (K : Nat) (a0 : Int) (a1 : Int) (a2_0 : Int) (a2_1 : Int) (a2_2 : Int) (a2_3 : Int) (a2_4 : Int) (a2_5 : Int) : Option (Bool × Int) := ((spec_l07Code.f K a0 a1 a2_0 a2_1 a2_2 a2_3 a2_4 a2_5).bind fun t6 => (if (t6 == 5) = true then some (false, 0) else some (t6 == 0, t6)))

/-! ### impl_isColour: function 56 -/
def impl_isColour.f (K : Nat) (a0 : Int) : Option (Bool) := (if decide (0 ≤ a0) = true then some (decide (a0 ≤ 2)) else some false)

/-! ### impl_IsMove_1: function 55 -/
def impl_IsMove_1.f (K : Nat) (f0_0 : Int) (f1_0 : Int) (f2_0 : Int) (f2_1 : Int) (f2_2 : Int) (f2_3 : Int) (f2_4 : Int) (f2_5 : Int) : Option (Bool) := ((impl_isColour.f K f0_0).bind fun t3 => (if t3 = true then ((impl_isMap.f K f1_0 f2_0 f2_1 f2_2 f2_3 f2_4 f2_5).bind fun t8 => some t8) else some false))

/-! ### impl_asked__impl_IsMove_1: function 49 -/
def impl_asked__impl_IsMove_1.f (K : Nat) (a0 : Int) (c1_0_0 : Int) (c1_1_0 : Int) (c1_2_0 : Int) (c1_2_1 : Int) (c1_2_2 : Int) (c1_2_3 : Int) (c1_2_4 : Int) (c1_2_5 : Int) : Option (Int) := ((impl_IsField.f K a0).bind fun t4 => (if t4 = true then ((impl_IsMove_1.f K c1_0_0 c1_1_0 c1_2_0 c1_2_1 c1_2_2 c1_2_3 c1_2_4 c1_2_5).bind fun t11 => (if t11 = true then some 0 else some 2)) else some 1))

/-! ### impl_product: function 114 -/
def impl_product.f (K : Nat) (a0 : Int) (a1 : Int) (a2_0 : Int) (a2_1 : Int) (a3_0 : Int) (a3_1 : Int) : Option (Int) := (if (a1 == 0) = true then ((impl_rest.f K a0 (wrap64 ((wrap64 (a2_0 * a3_0)) + (wrap64 (a2_1 * a3_1))))).bind fun t13 => some t13) else (if (a1 == 1) = true then ((impl_rest.f K a0 (wrap64 ((wrap64 (a2_0 * a3_0)) - (wrap64 (a2_1 * a3_1))))).bind fun t20 => some t20) else ((impl_rest.f K a0 (wrap64 ((wrap64 (a2_0 * a3_1)) + (wrap64 (a2_1 * a3_0))))).bind fun t25 => some t25)))

/-! ### impl_keeps: function 57 -/
def impl_keeps.f (K : Nat) (a0 : Int) (a1 : Int) (a2_0 : Int) (a2_1 : Int) (a2_2 : Int) (a2_3 : Int) : Option (Bool) := ((impl_turned.f K a0 a2_0 a2_1 a2_2 a2_3 1 0).bind fun (t22, t23) => ((impl_product.f K a0 a1 1 0 1 0).bind fun t34 => ((impl_product.f K a0 a1 t22 t23 t22 t23).bind fun t36 => (if (t34 == t36) = true then ((impl_turned.f K a0 a2_0 a2_1 a2_2 a2_3 0 1).bind fun (t53, t54) => ((impl_product.f K a0 a1 0 1 0 1).bind fun t65 => ((impl_product.f K a0 a1 t53 t54 t53 t54).bind fun t67 => (if (t65 == t67) = true then ((impl_turned.f K a0 a2_0 a2_1 a2_2 a2_3 1 1).bind fun (t84, t85) => ((impl_product.f K a0 a1 1 1 1 1).bind fun t96 => ((impl_product.f K a0 a1 t84 t85 t84 t85).bind fun t98 => (if (t96 == t98) = true then some true else some false)))) else some false)))) else some false))))

/-! ### impl_IsMove: function 19 -/
def impl_IsMove.f (K : Nat) (a0 : Int) (a1 : Int) (a2_0 : Int) (a2_1 : Int) (a2_2 : Int) (a2_3 : Int) (a2_4 : Int) (a2_5 : Int) : Option (Bool × Int) := ((impl_asked__impl_IsMove_1.f K a0 a1 a0 a2_0 a2_1 a2_2 a2_3 a2_4 a2_5).bind fun t13 => (if (t13 == 0) = true then ((impl_keeps.f K a0 a1 a2_0 a2_1 a2_2 a2_3).bind fun t20 => some (t20, 0)) else some (false, t13)))

/-! ### laws_FnExactIsMove: function 4 -/
def laws_FnExactIsMove.f (K : Nat) (a0 : Int) (a1 : Int) (a2_0 : Int) (a2_1 : Int) (a2_2 : Int) (a2_3 : Int) (a2_4 : Int) (a2_5 : Int) : Option (Bool) := ((laws_toMove.f K a2_0 a2_1 a2_2 a2_3 a2_4 a2_5).bind fun (t6, t7, t8, t9, t10, t11) => ((spec_IsMove.f K a0 a1 t6 t7 t8 t9 t10 t11).bind fun (t15, t16) => ((laws_toMove.f K a2_0 a2_1 a2_2 a2_3 a2_4 a2_5).bind fun (t21, t22, t23, t24, t25, t26) => ((impl_IsMove.f K a0 a1 t21 t22 t23 t24 t25 t26).bind fun (t30, t31) => (if t30 = true then (if t15 = true then (if (t31 == t16) = true then some true else some false) else some false) else (if t15 = true then some false else (if (t31 == t16) = true then some true else some false)))))))

/-! ### spec_l07Times: function 58 -/
def spec_l07Times.f (K : Nat) (a0 : Int) (a1_0 : Int) (a1_1 : Int) (a1_2 : Int) (a1_3 : Int) (a1_4 : Int) (a1_5 : Int) (a2_0 : Int) (a2_1 : Int) (a2_2 : Int) (a2_3 : Int) (a2_4 : Int) (a2_5 : Int) : Option (Int × Int × Int × Int × Int × Int) := ((spec_l07Lead.f K a0 a1_0 a1_1 a1_2 a1_3 a1_4 a1_5 1 0).bind fun (t12, t13) => ((spec_l07Lead.f K a0 a2_0 a2_1 a2_2 a2_3 a2_4 a2_5 t12 t13).bind fun (t15, t16) => ((spec_l07Lead.f K a0 a1_0 a1_1 a1_2 a1_3 a1_4 a1_5 0 1).bind fun (t18, t19) => ((spec_l07Lead.f K a0 a2_0 a2_1 a2_2 a2_3 a2_4 a2_5 t18 t19).bind fun (t21, t22) => ((spec_l07Move.f K a0 a2_0 a2_1 a2_2 a2_3 a2_4 a2_5 a1_4 a1_5).bind fun (t40, t41) => some (t15, t21, t16, t22, t40, t41))))))

/-! ### spec_ProductOfMoves: function 20 -/
def spec_ProductOfMoves.f (K : Nat) (a0 : Int) (a1_0 : Int) (a1_1 : Int) (a1_2 : Int) (a1_3 : Int) (a1_4 : Int) (a1_5 : Int) (a2_0 : Int) (a2_1 : Int) (a2_2 : Int) (a2_3 : Int) (a2_4 : Int) (a2_5 : Int) : Option (Int × Int × Int × Int × Int × Int × Int) := ((spec_l07Maps.f K a0 ([(a1_0, a1_1, a1_2, a1_3, a1_4, a1_5), (a2_0, a2_1, a2_2, a2_3, a2_4, a2_5)])).bind fun t16 => (if (t16 == 0) = true then ((spec_l07Times.f K a0 a1_0 a1_1 a1_2 a1_3 a1_4 a1_5 a2_0 a2_1 a2_2 a2_3 a2_4 a2_5).bind fun (t23, t24, t25, t26, t27, t28) => some (t23, t24, t25, t26, t27, t28, 0)) else some (0, 0, 0, 0, 0, 0, t16)))

/-! ### impl_ProductOfMoves_1: function 59 -/
def impl_ProductOfMoves_1.f (K : Nat) (f0_0 : Int) (f1_0 : Int) (f1_1 : Int) (f1_2 : Int) (f1_3 : Int) (f1_4 : Int) (f1_5 : Int) (f2_0 : Int) (f2_1 : Int) (f2_2 : Int) (f2_3 : Int) (f2_4 : Int) (f2_5 : Int) : Option (Bool) := ((impl_isMap.f K f0_0 f1_0 f1_1 f1_2 f1_3 f1_4 f1_5).bind fun t3 => (if t3 = true then ((impl_isMap.f K f0_0 f2_0 f2_1 f2_2 f2_3 f2_4 f2_5).bind fun t8 => some t8) else some false))

/-! ### impl_asked__impl_ProductOfMoves_1: function 49 -/
def impl_asked__impl_ProductOfMoves_1.f (K : Nat) (a0 : Int) (c1_0_0 : Int) (c1_1_0 : Int) (c1_1_1 : Int) (c1_1_2 : Int) (c1_1_3 : Int) (c1_1_4 : Int) (c1_1_5 : Int) (c1_2_0 : Int) (c1_2_1 : Int) (c1_2_2 : Int) (c1_2_3 : Int) (c1_2_4 : Int) (c1_2_5 : Int) : Option (Int) := ((impl_IsField.f K a0).bind fun t4 => (if t4 = true then ((impl_ProductOfMoves_1.f K c1_0_0 c1_1_0 c1_1_1 c1_1_2 c1_1_3 c1_1_4 c1_1_5 c1_2_0 c1_2_1 c1_2_2 c1_2_3 c1_2_4 c1_2_5).bind fun t11 => (if t11 = true then some 0 else some 2)) else some 1))

/-! ### impl_then: function 60 -/
def impl_then.f (K : Nat) (a0 : Int) (a1_0 : Int) (a1_1 : Int) (a1_2 : Int) (a1_3 : Int) (a1_4 : Int) (a1_5 : Int) (a2_0 : Int) (a2_1 : Int) (a2_2 : Int) (a2_3 : Int) (a2_4 : Int) (a2_5 : Int) : Option (Int × Int × Int × Int × Int × Int) := ((impl_rest.f K a0 (wrap64 ((wrap64 (a2_0 * a1_0)) + (wrap64 (a2_1 * a1_2))))).bind fun t28 => ((impl_rest.f K a0 (wrap64 ((wrap64 (a2_0 * a1_1)) + (wrap64 (a2_1 * a1_3))))).bind fun t30 => ((impl_rest.f K a0 (wrap64 ((wrap64 (a2_2 * a1_0)) + (wrap64 (a2_3 * a1_2))))).bind fun t32 => ((impl_rest.f K a0 (wrap64 ((wrap64 (a2_2 * a1_1)) + (wrap64 (a2_3 * a1_3))))).bind fun t34 => ((impl_moved.f K a0 a2_0 a2_1 a2_2 a2_3 a2_4 a2_5 a1_4 a1_5).bind fun (t36, t37) => some (t28, t30, t32, t34, t36, t37))))))

/-! ### impl_ProductOfMoves: function 21 -/
def impl_ProductOfMoves.f (K : Nat) (a0 : Int) (a1_0 : Int) (a1_1 : Int) (a1_2 : Int) (a1_3 : Int) (a1_4 : Int) (a1_5 : Int) (a2_0 : Int) (a2_1 : Int) (a2_2 : Int) (a2_3 : Int) (a2_4 : Int) (a2_5 : Int) : Option (Int × Int × Int × Int × Int × Int × Int) := ((impl_asked__impl_ProductOfMoves_1.f K a0 a0 a1_0 a1_1 a1_2 a1_3 a1_4 a1_5 a2_0 a2_1 a2_2 a2_3 a2_4 a2_5).bind fun t16 => (if (t16 == 0) = true then ((impl_then.f K a0 a1_0 a1_1 a1_2 a1_3 a1_4 a1_5 a2_0 a2_1 a2_2 a2_3 a2_4 a2_5).bind fun (t23, t24, t25, t26, t27, t28) => some (t23, t24, t25, t26, t27, t28, 0)) else some (0, 0, 0, 0, 0, 0, t16)))

/-! ### laws_eqInt64A4: function 61 -/
def laws_eqInt64A4.f (K : Nat) (a0_0 : Int) (a0_1 : Int) (a0_2 : Int) (a0_3 : Int) (a1_0 : Int) (a1_1 : Int) (a1_2 : Int) (a1_3 : Int) : Option (Bool) := (if (a0_0 == a1_0) = true then (if (a0_1 == a1_1) = true then (if (a0_2 == a1_2) = true then (if (a0_3 == a1_3) = true then some true else some false) else some false) else some false) else some false)

/-! ### laws_eqMove: function 22 -/
def laws_eqMove.f (K : Nat) (a0_0 : Int) (a0_1 : Int) (a0_2 : Int) (a0_3 : Int) (a0_4 : Int) (a0_5 : Int) (a1_0 : Int) (a1_1 : Int) (a1_2 : Int) (a1_3 : Int) (a1_4 : Int) (a1_5 : Int) : Option (Bool) := ((laws_eqInt64A4.f K a0_0 a0_1 a0_2 a0_3 a1_0 a1_1 a1_2 a1_3).bind fun t10 => (if t10 = true then ((laws_eqPoint.f K a0_4 a0_5 a1_4 a1_5).bind fun t17 => (if t17 = true then some true else some false)) else some false))

/-! ### laws_FnExactProductOfMoves: function 5 -/
def laws_FnExactProductOfMoves.f (K : Nat) (a0 : Int) (a1_0 : Int) (a1_1 : Int) (a1_2 : Int) (a1_3 : Int) (a1_4 : Int) (a1_5 : Int) (a2_0 : Int) (a2_1 : Int) (a2_2 : Int) (a2_3 : Int) (a2_4 : Int) (a2_5 : Int) : Option (Bool) := ((laws_toMove.f K a1_0 a1_1 a1_2 a1_3 a1_4 a1_5).bind fun (t9, t10, t11, t12, t13, t14) => ((laws_toMove.f K a2_0 a2_1 a2_2 a2_3 a2_4 a2_5).bind fun (t16, t17, t18, t19, t20, t21) => ((spec_ProductOfMoves.f K a0 t9 t10 t11 t12 t13 t14 t16 t17 t18 t19 t20 t21).bind fun (t23, t24, t25, t26, t27, t28, t29) => ((laws_toMove.f K a1_0 a1_1 a1_2 a1_3 a1_4 a1_5).bind fun (t39, t40, t41, t42, t43, t44) => ((laws_toMove.f K a2_0 a2_1 a2_2 a2_3 a2_4 a2_5).bind fun (t46, t47, t48, t49, t50, t51) => ((impl_ProductOfMoves.f K a0 t39 t40 t41 t42 t43 t44 t46 t47 t48 t49 t50 t51).bind fun (t53, t54, t55, t56, t57, t58, t59) => ((laws_eqMove.f K t53 t54 t55 t56 t57 t58 t23 t24 t25 t26 t27 t28).bind fun t70 => (if t70 = true then (if (t59 == t29) = true then some true else some false) else some false))))))))

/-! ### spec_l07Fixed: function 62 -/
mutual
def spec_l07Fixed.l0 (K : Nat) (a0 : Int) (a1_0 : Int) (a1_1 : Int) (a1_2 : Int) (a1_3 : Int) (a1_4 : Int) (a1_5 : Int) : Nat → Int → List (Int × Int) → Option (List (Int × Int))
  | 0, _, _ => none
  | k23 + 1, x13, x14 => (if decide (x13 < a0) = true then (spec_l07Fixed.l1 K a0 a1_0 a1_1 a1_2 a1_3 a1_4 a1_5 x13 k23 0 x14) else some x14)
def spec_l07Fixed.l1 (K : Nat) (a0 : Int) (a1_0 : Int) (a1_1 : Int) (a1_2 : Int) (a1_3 : Int) (a1_4 : Int) (a1_5 : Int) (x13 : Int) : Nat → Int → List (Int × Int) → Option (List (Int × Int))
  | 0, _, _ => none
  | k43 + 1, x33, x34 => (if decide (x33 < a0) = true then ((spec_l07Move.f K a0 a1_0 a1_1 a1_2 a1_3 a1_4 a1_5 x13 x33).bind fun (t60, t61) => (if (t60 == x13 && t61 == x33) = true then (if decide (x34.length ≤ 1000000) = true then (spec_l07Fixed.l1 K a0 a1_0 a1_1 a1_2 a1_3 a1_4 a1_5 x13 k43 (wrap64 (x33 + 1)) (x34 ++ [(x13, x33)])) else none) else (spec_l07Fixed.l1 K a0 a1_0 a1_1 a1_2 a1_3 a1_4 a1_5 x13 k43 (wrap64 (x33 + 1)) x34))) else (spec_l07Fixed.l0 K a0 a1_0 a1_1 a1_2 a1_3 a1_4 a1_5 k43 (wrap64 (x13 + 1)) x34))
end
def spec_l07Fixed.f (K : Nat) (a0 : Int) (a1_0 : Int) (a1_1 : Int) (a1_2 : Int) (a1_3 : Int) (a1_4 : Int) (a1_5 : Int) : Option (List (Int × Int)) := (spec_l07Fixed.l0 K a0 a1_0 a1_1 a1_2 a1_3 a1_4 a1_5 K 0 ([] : List (Int × Int)))

/-! ### spec_FixedPoints: function 23 -/
def spec_FixedPoints.f (K : Nat) (a0 : Int) (a1_0 : Int) (a1_1 : Int) (a1_2 : Int) (a1_3 : Int) (a1_4 : Int) (a1_5 : Int) : Option (List (Int × Int) × Int) := ((spec_l07Maps.f K a0 ([(a1_0, a1_1, a1_2, a1_3, a1_4, a1_5)])).bind fun t10 => (if (t10 == 0) = true then ((spec_l07Fixed.f K a0 a1_0 a1_1 a1_2 a1_3 a1_4 a1_5).bind fun t17 => some (t17, 0)) else some ([], t10)))

/-! ### impl_FixedPoints_1: function 63 -/
def impl_FixedPoints_1.f (K : Nat) (f0_0 : Int) (f1_0 : Int) (f1_1 : Int) (f1_2 : Int) (f1_3 : Int) (f1_4 : Int) (f1_5 : Int) : Option (Bool) := ((impl_isMap.f K f0_0 f1_0 f1_1 f1_2 f1_3 f1_4 f1_5).bind fun t3 => some t3)

/-! ### impl_asked__impl_FixedPoints_1: function 49 -/
def impl_asked__impl_FixedPoints_1.f (K : Nat) (a0 : Int) (c1_0_0 : Int) (c1_1_0 : Int) (c1_1_1 : Int) (c1_1_2 : Int) (c1_1_3 : Int) (c1_1_4 : Int) (c1_1_5 : Int) : Option (Int) := ((impl_IsField.f K a0).bind fun t4 => (if t4 = true then ((impl_FixedPoints_1.f K c1_0_0 c1_1_0 c1_1_1 c1_1_2 c1_1_3 c1_1_4 c1_1_5).bind fun t11 => (if t11 = true then some 0 else some 2)) else some 1))

/-! ### impl_allPoints: function 135 -/
mutual
def impl_allPoints.l0 (K : Nat) (a0 : Int) : Nat → Int → List (Int × Int) → Option (List (Int × Int))
  | 0, _, _ => none
  | k19 + 1, x10, x11 => (if decide (x10 < a0) = true then (impl_allPoints.l1 K a0 x10 k19 0 x11) else some x11)
def impl_allPoints.l1 (K : Nat) (a0 : Int) (x10 : Int) : Nat → Int → List (Int × Int) → Option (List (Int × Int))
  | 0, _, _ => none
  | k38 + 1, x29, x30 => (if decide (x29 < a0) = true then (if decide (x30.length ≤ 1000000) = true then (impl_allPoints.l1 K a0 x10 k38 (wrap64 (x29 + 1)) (x30 ++ [(x10, x29)])) else none) else (impl_allPoints.l0 K a0 k38 (wrap64 (x10 + 1)) x30))
end
def impl_allPoints.f (K : Nat) (a0 : Int) : Option (List (Int × Int)) := (impl_allPoints.l0 K a0 K 0 ([] : List (Int × Int)))

/-! ### impl_fixedPoints_1: function 116 -/
def impl_fixedPoints_1.f (K : Nat) (a0_0 : Int) (a0_1 : Int) (f0_0 : Int) (f1_0 : Int) (f1_1 : Int) (f1_2 : Int) (f1_3 : Int) (f1_4 : Int) (f1_5 : Int) : Option (Bool) := ((impl_moved.f K f0_0 f1_0 f1_1 f1_2 f1_3 f1_4 f1_5 a0_0 a0_1).bind fun (t6, t7) => some (t6 == a0_0 && t7 == a0_1))

/-! ### impl_pointsWith__impl_fixedPoints_1: function 115 -/

def impl_pointsWith__impl_fixedPoints_1.l0 (K : Nat) (c1_0_0 : Int) (c1_1_0 : Int) (c1_1_1 : Int) (c1_1_2 : Int) (c1_1_3 : Int) (c1_1_4 : Int) (c1_1_5 : Int) (t8 : List (Int × Int)) : Nat → Int → List (Int × Int) → Option (List (Int × Int))
  | 0, _, _ => none
  | k28 + 1, x17, x18 => (if decide (x17 < (t8.length : Int)) = true then ((idx t8 x17).bind fun (t38, t39) => ((impl_fixedPoints_1.f K t38 t39 c1_0_0 c1_1_0 c1_1_1 c1_1_2 c1_1_3 c1_1_4 c1_1_5).bind fun t51 => (if t51 = true then (if decide (x18.length ≤ 1000000) = true then (impl_pointsWith__impl_fixedPoints_1.l0 K c1_0_0 c1_1_0 c1_1_1 c1_1_2 c1_1_3 c1_1_4 c1_1_5 t8 k28 (wrap64 (x17 + 1)) (x18 ++ [(t38, t39)])) else none) else (impl_pointsWith__impl_fixedPoints_1.l0 K c1_0_0 c1_1_0 c1_1_1 c1_1_2 c1_1_3 c1_1_4 c1_1_5 t8 k28 (wrap64 (x17 + 1)) x18)))) else some x18)
def impl_pointsWith__impl_fixedPoints_1.f (K : Nat) (a0 : Int) (c1_0_0 : Int) (c1_1_0 : Int) (c1_1_1 : Int) (c1_1_2 : Int) (c1_1_3 : Int) (c1_1_4 : Int) (c1_1_5 : Int) : Option (List (Int × Int)) := ((impl_allPoints.f K a0).bind fun t8 => (impl_pointsWith__impl_fixedPoints_1.l0 K c1_0_0 c1_1_0 c1_1_1 c1_1_2 c1_1_3 c1_1_4 c1_1_5 t8 K 0 ([] : List (Int × Int))))

/-! ### impl_fixedPoints: function 64 -/
def impl_fixedPoints.f (K : Nat) (a0 : Int) (a1_0 : Int) (a1_1 : Int) (a1_2 : Int) (a1_3 : Int) (a1_4 : Int) (a1_5 : Int) : Option (List (Int × Int)) := ((impl_pointsWith__impl_fixedPoints_1.f K a0 a0 a1_0 a1_1 a1_2 a1_3 a1_4 a1_5).bind fun t9 => some t9)

/-! ### impl_FixedPoints: function 24 -/
def impl_FixedPoints.f (K : Nat) (a0 : Int) (a1_0 : Int) (a1_1 : Int) (a1_2 : Int) (a1_3 : Int) (a1_4 : Int) (a1_5 : Int) : Option (List (Int × Int) × Int) := ((impl_asked__impl_FixedPoints_1.f K a0 a0 a1_0 a1_1 a1_2 a1_3 a1_4 a1_5).bind fun t10 => (if (t10 == 0) = true then ((impl_fixedPoints.f K a0 a1_0 a1_1 a1_2 a1_3 a1_4 a1_5).bind fun t17 => some (t17, 0)) else some ([], t10)))

/-! ### laws_eqPointS: function 25 -/

def laws_eqPointS.l0 (K : Nat) (a0 : List (Int × Int)) (a1 : List (Int × Int)) : Nat → Int → Option (Bool)
  | 0, _ => none
  | k12 + 1, x7 => (if decide (x7 < (a0.length : Int)) = true then ((idx a0 x7).bind fun (t22, t23) => ((idx a1 x7).bind fun (t29, t30) => ((laws_eqPoint.f K t22 t23 t29 t30).bind fun t36 => (if t36 = true then (laws_eqPointS.l0 K a0 a1 k12 (wrap64 (x7 + 1))) else some false)))) else some true)
def laws_eqPointS.f (K : Nat) (a0 : List (Int × Int)) (a1 : List (Int × Int)) : Option (Bool) := (if ((a0.length : Int) == (a1.length : Int)) = true then (laws_eqPointS.l0 K a0 a1 K 0) else some false)

/-! ### laws_markPointS: function 26 -/

def laws_markPointS.l0 (K : Nat) (a0 : List (Int × Int)) : Nat → Int → Int → List (Int × Int) → Option (Int × List (Int × Int))
  | 0, _, _, _ => none
  | k13 + 1, x4, x5, x6 => (if decide (x5 < (a0.length : Int)) = true then ((idx x6 x5).bind fun (t28, t29) => ((idx (x6.set (x5).toNat (x4, t29)) x5).bind fun (t45, t46) => (laws_markPointS.l0 K a0 k13 (wrap64 ((wrap64 (x4 + 1)) + 1)) (wrap64 (x5 + 1)) ((x6.set (x5).toNat (x4, t29)).set (x5).toNat (t45, wrap64 (x4 + 1)))))) else some (x4, x6))
def laws_markPointS.f (K : Nat) (a0 : List (Int × Int)) (a1 : Int) : Option (Int × List (Int × Int)) := (laws_markPointS.l0 K a0 K a1 0 a0)

/-! ### laws_heldPointS: function 27 -/

def laws_heldPointS.l0 (K : Nat) (a0 : List (Int × Int)) : Nat → Int → Int → Option (Int)
  | 0, _, _ => none
  | k10 + 1, x4, x5 => (if decide (x5 < (a0.length : Int)) = true then ((idx a0 x5).bind fun (t26, t27) => (if (t26 == x4) = true then ((idx a0 x5).bind fun (t39, t40) => (if (t40 == (wrap64 (x4 + 1))) = true then (laws_heldPointS.l0 K a0 k10 (wrap64 ((wrap64 (x4 + 1)) + 1)) (wrap64 (x5 + 1))) else some (-1))) else some (-1))) else some x4)
def laws_heldPointS.f (K : Nat) (a0 : List (Int × Int)) (a1 : Int) : Option (Int) := (laws_heldPointS.l0 K a0 K a1 0)

/-! ### laws_FnExactFixedPoints: function 6 -/
def laws_FnExactFixedPoints.f (K : Nat) (a0 : Int) (a1_0 : Int) (a1_1 : Int) (a1_2 : Int) (a1_3 : Int) (a1_4 : Int) (a1_5 : Int) : Option (Bool) := ((laws_toMove.f K a1_0 a1_1 a1_2 a1_3 a1_4 a1_5).bind fun (t6, t7, t8, t9, t10, t11) => ((spec_FixedPoints.f K a0 t6 t7 t8 t9 t10 t11).bind fun (t15, t18) => ((laws_toMove.f K a1_0 a1_1 a1_2 a1_3 a1_4 a1_5).bind fun (t23, t24, t25, t26, t27, t28) => ((impl_FixedPoints.f K a0 t23 t24 t25 t26 t27 t28).bind fun (t32, t35) => ((laws_eqPointS.f K t32 t15).bind fun t41 => (if t41 = true then (if (t35 == t18) = true then ((laws_markPointS.f K t32 1).bind fun (t49, t50) => ((laws_heldPointS.f K t50 1).bind fun t60 => (if decide (t60 < 0) = true then some false else (if (t60 == t49) = true then ((laws_toMove.f K a1_0 a1_1 a1_2 a1_3 a1_4 a1_5).bind fun (t72, t73, t74, t75, t76, t77) => ((impl_FixedPoints.f K a0 t72 t73 t74 t75 t76 t77).bind fun (t81, t84) => ((laws_eqPointS.f K t81 t15).bind fun t90 => (if t90 = true then (if (t84 == t18) = true then ((laws_heldPointS.f K t50 1).bind fun t98 => (if decide (t98 < 0) = true then some false else (if (t98 == t49) = true then some true else some false))) else some false) else some false)))) else some false)))) else some false) else some false))))))

/-! ### spec_l07Sign: function 117 -/
def spec_l07Sign.f (K : Nat) (a0 : Int) (a1_0 : Int) (a1_1 : Int) (a1_2 : Int) (a1_3 : Int) (a1_4 : Int) (a1_5 : Int) : Option (Int) := ((spec_l01Mod.f K (wrap64 ((wrap64 (a1_0 * a1_3)) - (wrap64 (a1_1 * a1_2)))) a0).bind fun t6 => some t6)

/-! ### spec_l01Minus: function 101 -/
def spec_l01Minus.f (K : Nat) (a0 : Int) (a1_0 : Int) (a1_1 : Int) (a2_0 : Int) (a2_1 : Int) : Option (Int × Int) := ((spec_l01Mod.f K (wrap64 (a1_0 - a2_0)) a0).bind fun t12 => ((spec_l01Mod.f K (wrap64 (a1_1 - a2_1)) a0).bind fun t14 => some (t12, t14)))

/-! ### spec_l07Inverse: function 65 -/
def spec_l07Inverse.f (K : Nat) (a0 : Int) (a1_0 : Int) (a1_1 : Int) (a1_2 : Int) (a1_3 : Int) (a1_4 : Int) (a1_5 : Int) : Option (Int × Int × Int × Int × Int × Int) := ((spec_l07Sign.f K a0 a1_0 a1_1 a1_2 a1_3 a1_4 a1_5).bind fun t9 => ((spec_l01Mod.f K (wrap64 (t9 * a1_3)) a0).bind fun t14 => ((spec_l01Mod.f K (wrap64 ((wrap64 (-t9)) * a1_1)) a0).bind fun t16 => ((spec_l01Mod.f K (wrap64 ((wrap64 (-t9)) * a1_2)) a0).bind fun t18 => ((spec_l01Mod.f K (wrap64 (t9 * a1_0)) a0).bind fun t20 => ((spec_l07Lead.f K a0 t14 t16 t18 t20 0 0 a1_4 a1_5).bind fun (t30, t31) => ((spec_l01Minus.f K a0 0 0 t30 t31).bind fun (t35, t36) => some (t14, t16, t18, t20, t35, t36))))))))

/-! ### spec_InverseMove: function 28 -/
def spec_InverseMove.f (K : Nat) (a0 : Int) (a1 : Int) (a2_0 : Int) (a2_1 : Int) (a2_2 : Int) (a2_3 : Int) (a2_4 : Int) (a2_5 : Int) : Option (Int × Int × Int × Int × Int × Int × Int) := ((spec_l07Code.f K a0 a1 a2_0 a2_1 a2_2 a2_3 a2_4 a2_5).bind fun t10 => (if (t10 == 0) = true then ((spec_l07Inverse.f K a0 a2_0 a2_1 a2_2 a2_3 a2_4 a2_5).bind fun (t17, t18, t19, t20, t21, t22) => some (t17, t18, t19, t20, t21, t22, 0)) else some (0, 0, 0, 0, 0, 0, t10)))

/-! ### impl_always: function 67 -/
def impl_always.f (K : Nat)  : Option (Bool) := some true

/-! ### impl_moveAsked_1__impl_always: function 119 -/
def impl_moveAsked_1__impl_always.f (K : Nat) (f0_0 : Int) (f1_0 : Int) (f2_0 : Int) (f2_1 : Int) (f2_2 : Int) (f2_3 : Int) (f2_4 : Int) (f2_5 : Int) : Option (Bool) := ((impl_isColour.f K f0_0).bind fun t3 => (if t3 = true then ((impl_isMap.f K f1_0 f2_0 f2_1 f2_2 f2_3 f2_4 f2_5).bind fun t8 => (if t8 = true then ((impl_always.f K ).bind fun t13 => some t13) else some false)) else some false))

/-! ### impl_asked__impl_moveAsked_1_impl_always: function 49 -/
def impl_asked__impl_moveAsked_1_impl_always.f (K : Nat) (a0 : Int) (c1_0_0 : Int) (c1_1_0 : Int) (c1_2_0 : Int) (c1_2_1 : Int) (c1_2_2 : Int) (c1_2_3 : Int) (c1_2_4 : Int) (c1_2_5 : Int) : Option (Int) := ((impl_IsField.f K a0).bind fun t4 => (if t4 = true then ((impl_moveAsked_1__impl_always.f K c1_0_0 c1_1_0 c1_2_0 c1_2_1 c1_2_2 c1_2_3 c1_2_4 c1_2_5).bind fun t11 => (if t11 = true then some 0 else some 2)) else some 1))

/-! ### impl_moveAsked__impl_always: function 66 -/
def impl_moveAsked__impl_always.f (K : Nat) (a0 : Int) (a1 : Int) (a2_0 : Int) (a2_1 : Int) (a2_2 : Int) (a2_3 : Int) (a2_4 : Int) (a2_5 : Int) : Option (Int) := ((impl_asked__impl_moveAsked_1_impl_always.f K a0 a1 a0 a2_0 a2_1 a2_2 a2_3 a2_4 a2_5).bind fun t15 => (if (t15 == 0) = true then ((impl_keeps.f K a0 a1 a2_0 a2_1 a2_2 a2_3).bind fun t22 => (if t22 = true then some t15 else some 5)) else some t15))

/-! ### impl_sign: function 69 -/
def impl_sign.f (K : Nat) (a0 : Int) (a1_0 : Int) (a1_1 : Int) (a1_2 : Int) (a1_3 : Int) : Option (Int) := ((impl_rest.f K a0 (wrap64 ((wrap64 (a1_0 * a1_3)) - (wrap64 (a1_1 * a1_2))))).bind fun t6 => some t6)

/-! ### impl_inverse: function 68 -/

def impl_inverse.l0 (K : Nat) (a0 : Int) (a1 : Int) : Nat → Int → Option (Int)
  | 0, _ => none
  | k9 + 1, x4 => (if decide (x4 < a0) = true then (if (a0 == 0) = true then none else (if ((Int.tmod (wrap64 (a1 * x4)) a0) == 1) = true then some x4 else (impl_inverse.l0 K a0 a1 k9 (wrap64 (x4 + 1))))) else some 0)
def impl_inverse.f (K : Nat) (a0 : Int) (a1 : Int) : Option (Int) := (impl_inverse.l0 K a0 a1 K 1)

/-! ### impl_less: function 71 -/
def impl_less.f (K : Nat) (a0 : Int) (a1_0 : Int) (a1_1 : Int) (a2_0 : Int) (a2_1 : Int) : Option (Int × Int) := ((impl_rest.f K a0 (wrap64 (a1_0 - a2_0))).bind fun t12 => ((impl_rest.f K a0 (wrap64 (a1_1 - a2_1))).bind fun t14 => some (t12, t14)))

/-! ### impl_InverseMove: function 29 -/
def impl_InverseMove.f (K : Nat) (a0 : Int) (a1 : Int) (a2_0 : Int) (a2_1 : Int) (a2_2 : Int) (a2_3 : Int) (a2_4 : Int) (a2_5 : Int) : Option (Int × Int × Int × Int × Int × Int × Int) := ((impl_moveAsked__impl_always.f K a0 a1 a2_0 a2_1 a2_2 a2_3 a2_4 a2_5).bind fun t10 => (if (t10 == 0) = true then ((impl_sign.f K a0 a2_0 a2_1 a2_2 a2_3).bind fun t24 => ((impl_inverse.f K a0 t24).bind fun t28 => ((impl_rest.f K a0 (wrap64 (t28 * a2_3))).bind fun t33 => ((impl_rest.f K a0 (wrap64 ((wrap64 (-t28)) * a2_1))).bind fun t35 => ((impl_rest.f K a0 (wrap64 ((wrap64 (-t28)) * a2_2))).bind fun t37 => ((impl_rest.f K a0 (wrap64 (t28 * a2_0))).bind fun t39 => ((impl_turned.f K a0 t33 t35 t37 t39 a2_4 a2_5).bind fun (t49, t50) => ((impl_less.f K a0 0 0 t49 t50).bind fun (t52, t53) => some (t33, t35, t37, t39, t52, t53, 0))))))))) else some (0, 0, 0, 0, 0, 0, t10)))

/-! ### laws_FnExactInverseMove: function 7 -/
def laws_FnExactInverseMove.f (K : Nat) (a0 : Int) (a1 : Int) (a2_0 : Int) (a2_1 : Int) (a2_2 : Int) (a2_3 : Int) (a2_4 : Int) (a2_5 : Int) : Option (Bool) := ((laws_toMove.f K a2_0 a2_1 a2_2 a2_3 a2_4 a2_5).bind fun (t6, t7, t8, t9, t10, t11) => ((spec_InverseMove.f K a0 a1 t6 t7 t8 t9 t10 t11).bind fun (t15, t16, t17, t18, t19, t20, t21) => ((laws_toMove.f K a2_0 a2_1 a2_2 a2_3 a2_4 a2_5).bind fun (t32, t33, t34, t35, t36, t37) => ((impl_InverseMove.f K a0 a1 t32 t33 t34 t35 t36 t37).bind fun (t41, t42, t43, t44, t45, t46, t47) => ((laws_eqMove.f K t41 t42 t43 t44 t45 t46 t15 t16 t17 t18 t19 t20).bind fun t59 => (if t59 = true then (if (t47 == t21) = true then some true else some false) else some false))))))

/-! ### laws_toLine: function 33 -/
def laws_toLine.f (K : Nat) (a0_0 : Int) (a0_1 : Int) (a0_2 : Int) : Option (Int × Int × Int) := some (a0_0, a0_1, a0_2)

/-! ### spec_l01Line: function 88 -/
def spec_l01Line.f (K : Nat) (a0 : Int) (a1_0 : Int) (a1_1 : Int) (a1_2 : Int) : Option (Bool) := ((spec_l01In.f K a1_0 0 (wrap64 (a0 - 1))).bind fun t6 => (if t6 = true then ((spec_l01In.f K a1_1 0 (wrap64 (a0 - 1))).bind fun t11 => (if t11 = true then ((spec_l01In.f K a1_2 0 (wrap64 (a0 - 1))).bind fun t16 => (if t16 = true then (if (a1_0 == 1) = true then some true else (if (a1_0 == 0) = true then some (a1_1 == 1) else some false)) else some false)) else some false)) else some false))

/-! ### spec_l01Lines: function 122 -/

def spec_l01Lines.l0 (K : Nat) (a0 : Int) (a1 : List (Int × Int × Int)) : Nat → Int → Option (Int)
  | 0, _ => none
  | k16 + 1, x11 => (if decide (x11 < (a1.length : Int)) = true then ((idx a1 x11).bind fun (t26, t27, t28) => ((spec_l01Line.f K a0 t26 t27 t28).bind fun t33 => (if t33 = true then (spec_l01Lines.l0 K a0 a1 k16 (wrap64 (x11 + 1))) else some 2))) else some 0)
def spec_l01Lines.f (K : Nat) (a0 : Int) (a1 : List (Int × Int × Int)) : Option (Int) := ((spec_l01Field.f K a0).bind fun t4 => (if t4 = true then (spec_l01Lines.l0 K a0 a1 K 0) else some 1))

/-! ### spec_l03Colour: function 77 -/
def spec_l03Colour.f (K : Nat) (a0 : Int) (a1 : Int) (a2 : List (Int × Int × Int)) : Option (Int) := ((spec_l01Lines.f K a0 a2).bind fun t3 => (if (t3 == 0) = true then ((spec_l01In.f K a1 0 2).bind fun t10 => (if t10 = true then some t3 else some 2)) else some t3))

/-! ### spec_l02Direction: function 123 -/
def spec_l02Direction.f (K : Nat) (a0 : Int) (a1_0 : Int) (a1_1 : Int) (a1_2 : Int) : Option (Int × Int) := ((spec_l01Mod.f K (wrap64 (-a1_1)) a0).bind fun t9 => some (t9, a1_0))

/-! ### spec_l03Null: function 78 -/
def spec_l03Null.f (K : Nat) (a0 : Int) (a1 : Int) (a2_0 : Int) (a2_1 : Int) (a2_2 : Int) : Option (Bool) := ((spec_l02Direction.f K a0 a2_0 a2_1 a2_2).bind fun (t6, t7) => ((spec_l02Product.f K a0 a1 t6 t7 t6 t7).bind fun t18 => some (t18 == 0)))

/-! ### spec_l01Inverse: function 120 -/

def spec_l01Inverse.l0 (K : Nat) (a1 : Int) : Nat → Int → Int → Int → Option (Int)
  | 0, _, _, _ => none
  | k16 + 1, x9, x10, x11 => (if decide (0 < x11) = true then (if ((Int.tmod x11 2) == 1) = true then (if (a1 == 0) = true then none else (spec_l01Inverse.l0 K a1 k16 (Int.tmod (wrap64 (x9 * x10)) a1) (Int.tmod (wrap64 (x10 * x10)) a1) (wrap64 (Int.tdiv x11 2)))) else (if (a1 == 0) = true then none else (spec_l01Inverse.l0 K a1 k16 x9 (Int.tmod (wrap64 (x10 * x10)) a1) (wrap64 (Int.tdiv x11 2))))) else some x9)
def spec_l01Inverse.f (K : Nat) (a0 : Int) (a1 : Int) : Option (Int) := ((spec_l01Mod.f K a0 a1).bind fun t3 => (spec_l01Inverse.l0 K a1 K 1 t3 (wrap64 (a1 - 2))))

/-! ### spec_l01Times: function 136 -/
def spec_l01Times.f (K : Nat) (a0 : Int) (a1 : Int) (a2_0 : Int) (a2_1 : Int) : Option (Int × Int) := ((spec_l01Mod.f K (wrap64 (a1 * a2_0)) a0).bind fun t9 => ((spec_l01Mod.f K (wrap64 (a1 * a2_1)) a0).bind fun t11 => some (t9, t11)))

/-! ### spec_l07Along: function 125 -/
def spec_l07Along.f (K : Nat) (a0 : Int) (a1 : Int) (a2_0 : Int) (a2_1 : Int) (a3 : Int) (a4_0 : Int) (a4_1 : Int) : Option (Int × Int) := ((spec_l02Product.f K a0 a1 a4_0 a4_1 a2_0 a2_1).bind fun t12 => (if (a0 == 0) = true then none else ((spec_l01Times.f K a0 (Int.tmod (wrap64 (a3 * t12)) a0) a2_0 a2_1).bind fun (t15, t16) => ((spec_l01Minus.f K a0 t15 t16 a4_0 a4_1).bind fun (t18, t19) => some (t18, t19)))))

/-! ### spec_l07Two: function 91 -/
def spec_l07Two.f (K : Nat) (a0 : Int) (a1_0 : Int) (a1_1 : Int) (a1_2 : Int) : Option (Int × Int × Int × Int) := (if (a1_0 == 1) = true then ((spec_l01Mod.f K (wrap64 (-a1_2)) a0).bind fun t21 => ((spec_l02Direction.f K a0 a1_0 a1_1 a1_2).bind fun (t29, t30) => ((spec_l01Plus.f K a0 t21 0 t29 t30).bind fun (t32, t33) => some (t21, 0, t32, t33)))) else ((spec_l01Mod.f K (wrap64 (-a1_2)) a0).bind fun t47 => ((spec_l02Direction.f K a0 a1_0 a1_1 a1_2).bind fun (t55, t56) => ((spec_l01Plus.f K a0 0 t47 t55 t56).bind fun (t58, t59) => some (0, t47, t58, t59)))))

/-! ### spec_l07Reflection: function 79 -/
def spec_l07Reflection.f (K : Nat) (a0 : Int) (a1 : Int) (a2_0 : Int) (a2_1 : Int) (a2_2 : Int) : Option (Int × Int × Int × Int × Int × Int) := ((spec_l02Direction.f K a0 a2_0 a2_1 a2_2).bind fun (t9, t10) => ((spec_l02Product.f K a0 a1 t9 t10 t9 t10).bind fun t21 => ((spec_l01Inverse.f K t21 a0).bind fun t25 => ((spec_l07Along.f K a0 a1 t9 t10 (wrap64 (2 * t25)) 1 0).bind fun (t30, t31) => ((spec_l07Along.f K a0 a1 t9 t10 (wrap64 (2 * t25)) 0 1).bind fun (t42, t43) => ((spec_l07Two.f K a0 a2_0 a2_1 a2_2).bind fun (t61, t62, t63, t64) => ((spec_l07Lead.f K a0 t30 t42 t31 t43 0 0 t61 t62).bind fun (t83, t84) => ((spec_l01Minus.f K a0 t61 t62 t83 t84).bind fun (t86, t87) => some (t30, t42, t31, t43, t86, t87)))))))))

/-! ### spec_ReflectionIn: function 32 -/
def spec_ReflectionIn.f (K : Nat) (a0 : Int) (a1 : Int) (a2_0 : Int) (a2_1 : Int) (a2_2 : Int) : Option (Int × Int × Int × Int × Int × Int × Int) := ((spec_l03Colour.f K a0 a1 ([(a2_0, a2_1, a2_2)])).bind fun t12 => (if (t12 == 0) = true then ((spec_l03Null.f K a0 a1 a2_0 a2_1 a2_2).bind fun t19 => (if t19 = true then some (0, 0, 0, 0, 0, 0, 5) else ((spec_l07Reflection.f K a0 a1 a2_0 a2_1 a2_2).bind fun (t34, t35, t36, t37, t38, t39) => some (t34, t35, t36, t37, t38, t39, 0)))) else some (0, 0, 0, 0, 0, 0, t12)))

/-! ### impl_isLine: function 81 -/
def impl_isLine.f (K : Nat) (a0 : Int) (a1_0 : Int) (a1_1 : Int) (a1_2 : Int) : Option (Bool) := ((impl_areNumbers.f K a0 ([a1_0, a1_1, a1_2])).bind fun t7 => (if t7 = true then (if (a1_0 == 1) = true then some true else (if (a1_0 == 0) = true then some (a1_1 == 1) else some false)) else some false))

/-! ### impl_ReflectionIn_1: function 80 -/
def impl_ReflectionIn_1.f (K : Nat) (f0_0 : Int) (f1_0 : Int) (f2_0 : Int) (f2_1 : Int) (f2_2 : Int) : Option (Bool) := ((impl_isColour.f K f0_0).bind fun t3 => (if t3 = true then ((impl_isLine.f K f1_0 f2_0 f2_1 f2_2).bind fun t8 => some t8) else some false))

/-! ### impl_asked__impl_ReflectionIn_1: function 49 -/
def impl_asked__impl_ReflectionIn_1.f (K : Nat) (a0 : Int) (c1_0_0 : Int) (c1_1_0 : Int) (c1_2_0 : Int) (c1_2_1 : Int) (c1_2_2 : Int) : Option (Int) := ((impl_IsField.f K a0).bind fun t4 => (if t4 = true then ((impl_ReflectionIn_1.f K c1_0_0 c1_1_0 c1_2_0 c1_2_1 c1_2_2).bind fun t11 => (if t11 = true then some 0 else some 2)) else some 1))

/-! ### impl_way: function 96 -/
def impl_way.f (K : Nat) (a0 : Int) (a1_0 : Int) (a1_1 : Int) (a1_2 : Int) : Option (Int × Int) := ((impl_rest.f K a0 (wrap64 (-a1_1))).bind fun t9 => some (t9, a1_0))

/-! ### impl_arePerpendicular: function 126 -/
def impl_arePerpendicular.f (K : Nat) (a0 : Int) (a1 : Int) (a2_0 : Int) (a2_1 : Int) (a2_2 : Int) (a3_0 : Int) (a3_1 : Int) (a3_2 : Int) : Option (Bool) := ((impl_way.f K a0 a2_0 a2_1 a2_2).bind fun (t9, t10) => ((impl_way.f K a0 a3_0 a3_1 a3_2).bind fun (t12, t13) => ((impl_product.f K a0 a1 t9 t10 t12 t13).bind fun t15 => some (t15 == 0))))

/-! ### impl_isNull: function 82 -/
def impl_isNull.f (K : Nat) (a0 : Int) (a1 : Int) (a2_0 : Int) (a2_1 : Int) (a2_2 : Int) : Option (Bool) := ((impl_arePerpendicular.f K a0 a1 a2_0 a2_1 a2_2 a2_0 a2_1 a2_2).bind fun t6 => some t6)

/-! ### impl_linesThrough: function 138 -/

def impl_linesThrough.l0 (K : Nat) (a0 : Int) (a1_0 : Int) (a1_1 : Int) : Nat → Int → List (Int × Int × Int) → Option (List (Int × Int × Int))
  | 0, _, _ => none
  | k27 + 1, x17, x18 => (if decide (x17 < a0) = true then ((impl_rest.f K a0 (wrap64 ((wrap64 (-a1_0)) - (wrap64 (x17 * a1_1))))).bind fun t36 => (if decide (x18.length ≤ 1000000) = true then (impl_linesThrough.l0 K a0 a1_0 a1_1 k27 (wrap64 (x17 + 1)) (x18 ++ [(1, x17, t36)])) else none)) else some x18)
def impl_linesThrough.f (K : Nat) (a0 : Int) (a1_0 : Int) (a1_1 : Int) : Option (List (Int × Int × Int)) := ((impl_rest.f K a0 (wrap64 (-a1_1))).bind fun t6 => (impl_linesThrough.l0 K a0 a1_0 a1_1 K 0 ([(0, 1, t6)])))

/-! ### impl_perpendicular: function 128 -/

def impl_perpendicular.l0 (K : Nat) (a0 : Int) (a1 : Int) (a2_0 : Int) (a2_1 : Int) (a2_2 : Int) (t13 : List (Int × Int × Int)) : Nat → Int → Int → Int → Int → Option (Int × Int × Int)
  | 0, _, _, _, _ => none
  | k29 + 1, x19, x20, x21, x22 => (if decide (x19 < (t13.length : Int)) = true then ((idx t13 x19).bind fun (t39, t40, t41) => ((impl_arePerpendicular.f K a0 a1 a2_0 a2_1 a2_2 t39 t40 t41).bind fun t53 => (if t53 = true then some (t39, t40, t41) else (impl_perpendicular.l0 K a0 a1 a2_0 a2_1 a2_2 t13 k29 (wrap64 (x19 + 1)) x20 x21 x22)))) else some (0, 0, 0))
def impl_perpendicular.f (K : Nat) (a0 : Int) (a1 : Int) (a2_0 : Int) (a2_1 : Int) (a2_2 : Int) (a3_0 : Int) (a3_1 : Int) : Option (Int × Int × Int) := ((impl_linesThrough.f K a0 a3_0 a3_1).bind fun t13 => (impl_perpendicular.l0 K a0 a1 a2_0 a2_1 a2_2 t13 K 0 0 0 0))

/-! ### impl_divide: function 137 -/
def impl_divide.f (K : Nat) (a0 : Int) (a1 : Int) (a2 : Int) : Option (Int) := ((impl_inverse.f K a0 a2).bind fun t3 => ((impl_rest.f K a0 (wrap64 (a1 * t3))).bind fun t7 => some t7))

/-! ### impl_meet: function 127 -/
def impl_meet.f (K : Nat) (a0 : Int) (a1_0 : Int) (a1_1 : Int) (a1_2 : Int) (a2_0 : Int) (a2_1 : Int) (a2_2 : Int) : Option (Int × Int) := ((impl_rest.f K a0 (wrap64 ((wrap64 (a1_0 * a2_1)) - (wrap64 (a1_1 * a2_0))))).bind fun t12 => ((impl_rest.f K a0 (wrap64 ((wrap64 (a1_1 * a2_2)) - (wrap64 (a1_2 * a2_1))))).bind fun t17 => ((impl_divide.f K a0 t17 t12).bind fun t19 => ((impl_rest.f K a0 (wrap64 ((wrap64 (a1_2 * a2_0)) - (wrap64 (a1_0 * a2_2))))).bind fun t21 => ((impl_divide.f K a0 t21 t12).bind fun t23 => some (t19, t23))))))

/-! ### impl_foot: function 86 -/
def impl_foot.f (K : Nat) (a0 : Int) (a1 : Int) (a2_0 : Int) (a2_1 : Int) (a3_0 : Int) (a3_1 : Int) (a3_2 : Int) : Option (Int × Int) := ((impl_perpendicular.f K a0 a1 a3_0 a3_1 a3_2 a2_0 a2_1).bind fun (t12, t13, t14) => ((impl_meet.f K a0 a3_0 a3_1 a3_2 t12 t13 t14).bind fun (t16, t17) => some (t16, t17)))

/-! ### impl_combination: function 85 -/
def impl_combination.f (K : Nat) (a0 : Int) (a1_0 : Int) (a1_1 : Int) (a2_0 : Int) (a2_1 : Int) (a3 : Int) : Option (Int × Int) := ((impl_rest.f K a0 (wrap64 (a1_0 + (wrap64 (a3 * (wrap64 (a2_0 - a1_0))))))).bind fun t12 => ((impl_rest.f K a0 (wrap64 (a1_1 + (wrap64 (a3 * (wrap64 (a2_1 - a1_1))))))).bind fun t14 => some (t12, t14)))

/-! ### impl_ReflectionIn_2: function 84 -/
def impl_ReflectionIn_2.f (K : Nat) (a0_0 : Int) (a0_1 : Int) (f0_0 : Int) (f1_0 : Int) (f2_0 : Int) (f2_1 : Int) (f2_2 : Int) : Option (Int × Int) := ((impl_foot.f K f0_0 f1_0 a0_0 a0_1 f2_0 f2_1 f2_2).bind fun (t9, t10) => ((impl_combination.f K f0_0 a0_0 a0_1 t9 t10 2).bind fun (t12, t13) => some (t12, t13)))

/-! ### impl_mapOf__impl_ReflectionIn_2: function 83 -/
def impl_mapOf__impl_ReflectionIn_2.f (K : Nat) (a0 : Int) (c1_0_0 : Int) (c1_1_0 : Int) (c1_2_0 : Int) (c1_2_1 : Int) (c1_2_2 : Int) : Option (Int × Int × Int × Int × Int × Int) := ((impl_ReflectionIn_2.f K 0 0 c1_0_0 c1_1_0 c1_2_0 c1_2_1 c1_2_2).bind fun (t6, t7) => ((impl_ReflectionIn_2.f K 1 0 c1_0_0 c1_1_0 c1_2_0 c1_2_1 c1_2_2).bind fun (t18, t19) => ((impl_less.f K a0 t18 t19 t6 t7).bind fun (t21, t22) => ((impl_ReflectionIn_2.f K 0 1 c1_0_0 c1_1_0 c1_2_0 c1_2_1 c1_2_2).bind fun (t24, t25) => ((impl_less.f K a0 t24 t25 t6 t7).bind fun (t27, t28) => some (t21, t27, t22, t28, t6, t7))))))

/-! ### impl_ReflectionIn: function 34 -/
def impl_ReflectionIn.f (K : Nat) (a0 : Int) (a1 : Int) (a2_0 : Int) (a2_1 : Int) (a2_2 : Int) : Option (Int × Int × Int × Int × Int × Int × Int) := ((impl_asked__impl_ReflectionIn_1.f K a0 a1 a0 a2_0 a2_1 a2_2).bind fun t16 => (if (t16 == 0) = true then ((impl_isNull.f K a0 a1 a2_0 a2_1 a2_2).bind fun t24 => (if t24 = true then some (0, 0, 0, 0, 0, 0, 5) else ((impl_mapOf__impl_ReflectionIn_2.f K a0 a0 a1 a2_0 a2_1 a2_2).bind fun (t34, t35, t36, t37, t38, t39) => some (t34, t35, t36, t37, t38, t39, 0)))) else some (0, 0, 0, 0, 0, 0, t16)))

/-! ### laws_FnExactReflectionIn: function 9 -/
def laws_FnExactReflectionIn.f (K : Nat) (a0 : Int) (a1 : Int) (a2_0 : Int) (a2_1 : Int) (a2_2 : Int) : Option (Bool) := ((laws_toLine.f K a2_0 a2_1 a2_2).bind fun (t6, t7, t8) => ((spec_ReflectionIn.f K a0 a1 t6 t7 t8).bind fun (t12, t13, t14, t15, t16, t17, t18) => ((laws_toLine.f K a2_0 a2_1 a2_2).bind fun (t29, t30, t31) => ((impl_ReflectionIn.f K a0 a1 t29 t30 t31).bind fun (t35, t36, t37, t38, t39, t40, t41) => ((laws_eqMove.f K t35 t36 t37 t38 t39 t40 t12 t13 t14 t15 t16 t17).bind fun t53 => (if t53 = true then (if (t41 == t18) = true then some true else some false) else some false))))))

/-! ### spec_l01Normal: function 129 -/
def spec_l01Normal.f (K : Nat) (a0 : Int) (a1 : Int) (a2 : Int) (a3 : Int) : Option (Int × Int × Int) := ((spec_l01Mod.f K a1 a0).bind fun t6 => (if (t6 == 0) = true then ((spec_l01Mod.f K a2 a0).bind fun t13 => ((spec_l01Inverse.f K t13 a0).bind fun t18 => ((spec_l01Mod.f K (wrap64 (a1 * t18)) a0).bind fun t23 => ((spec_l01Mod.f K (wrap64 (a2 * t18)) a0).bind fun t27 => ((spec_l01Mod.f K (wrap64 (a3 * t18)) a0).bind fun t31 => some (t23, t27, t31)))))) else ((spec_l01Inverse.f K t6 a0).bind fun t39 => ((spec_l01Mod.f K (wrap64 (a1 * t39)) a0).bind fun t44 => ((spec_l01Mod.f K (wrap64 (a2 * t39)) a0).bind fun t48 => ((spec_l01Mod.f K (wrap64 (a3 * t39)) a0).bind fun t52 => some (t44, t48, t52)))))))

/-! ### spec_l01Through: function 92 -/
def spec_l01Through.f (K : Nat) (a0 : Int) (a1_0 : Int) (a1_1 : Int) (a2_0 : Int) (a2_1 : Int) : Option (Int × Int × Int) := ((spec_l01Normal.f K a0 (wrap64 (a1_1 - a2_1)) (wrap64 (a2_0 - a1_0)) (wrap64 ((wrap64 (a1_0 * a2_1)) - (wrap64 (a2_0 * a1_1))))).bind fun (t12, t13, t14) => some (t12, t13, t14))

/-! ### spec_MoveLine: function 35 -/
def spec_MoveLine.f (K : Nat) (a0 : Int) (a1 : Int) (a2_0 : Int) (a2_1 : Int) (a2_2 : Int) (a2_3 : Int) (a2_4 : Int) (a2_5 : Int) (a3_0 : Int) (a3_1 : Int) (a3_2 : Int) : Option (Int × Int × Int × Int) := ((spec_l01Field.f K a0).bind fun t13 => (if t13 = true then ((spec_l01Line.f K a0 a3_0 a3_1 a3_2).bind fun t18 => (if t18 = true then ((spec_l07Is.f K a0 a2_0 a2_1 a2_2 a2_3 a2_4 a2_5).bind fun t23 => (if t23 = true then ((spec_l01In.f K a1 0 2).bind fun t28 => (if t28 = true then ((spec_l07Code.f K a0 a1 a2_0 a2_1 a2_2 a2_3 a2_4 a2_5).bind fun t35 => (if (t35 == 0) = true then ((spec_l07Two.f K a0 a3_0 a3_1 a3_2).bind fun (t42, t43, t44, t45) => ((spec_l07Move.f K a0 a2_0 a2_1 a2_2 a2_3 a2_4 a2_5 t42 t43).bind fun (t64, t65) => ((spec_l07Move.f K a0 a2_0 a2_1 a2_2 a2_3 a2_4 a2_5 t44 t45).bind fun (t67, t68) => ((spec_l01Through.f K a0 t64 t65 t67 t68).bind fun (t70, t71, t72) => some (t70, t71, t72, 0))))) else some (0, 0, 0, t35))) else some (0, 0, 0, 2))) else some (0, 0, 0, 2))) else some (0, 0, 0, 2))) else ((spec_l07Code.f K a0 a1 a2_0 a2_1 a2_2 a2_3 a2_4 a2_5).bind fun t99 => (if (t99 == 0) = true then ((spec_l07Two.f K a0 a3_0 a3_1 a3_2).bind fun (t106, t107, t108, t109) => ((spec_l07Move.f K a0 a2_0 a2_1 a2_2 a2_3 a2_4 a2_5 t106 t107).bind fun (t128, t129) => ((spec_l07Move.f K a0 a2_0 a2_1 a2_2 a2_3 a2_4 a2_5 t108 t109).bind fun (t131, t132) => ((spec_l01Through.f K a0 t128 t129 t131 t132).bind fun (t134, t135, t136) => some (t134, t135, t136, 0))))) else some (0, 0, 0, t99)))))

/-! ### impl_MoveLine_1: function 93 -/
def impl_MoveLine_1.f (K : Nat) (f0_0 : Int) (f1_0 : Int) (f1_1 : Int) (f1_2 : Int) : Option (Bool) := ((impl_isLine.f K f0_0 f1_0 f1_1 f1_2).bind fun t3 => some t3)

/-! ### impl_moveAsked_1__impl_MoveLine_1: function 119 -/
def impl_moveAsked_1__impl_MoveLine_1.f (K : Nat) (f0_0 : Int) (f1_0 : Int) (f2_0 : Int) (f2_1 : Int) (f2_2 : Int) (f2_3 : Int) (f2_4 : Int) (f2_5 : Int) (f3n0_0 : Int) (f3n1_0 : Int) (f3n1_1 : Int) (f3n1_2 : Int) : Option (Bool) := ((impl_isColour.f K f0_0).bind fun t3 => (if t3 = true then ((impl_isMap.f K f1_0 f2_0 f2_1 f2_2 f2_3 f2_4 f2_5).bind fun t8 => (if t8 = true then ((impl_MoveLine_1.f K f3n0_0 f3n1_0 f3n1_1 f3n1_2).bind fun t13 => some t13) else some false)) else some false))

/-! ### impl_asked__impl_moveAsked_1_impl_MoveLine_1: function 49 -/
def impl_asked__impl_moveAsked_1_impl_MoveLine_1.f (K : Nat) (a0 : Int) (c1_0_0 : Int) (c1_1_0 : Int) (c1_2_0 : Int) (c1_2_1 : Int) (c1_2_2 : Int) (c1_2_3 : Int) (c1_2_4 : Int) (c1_2_5 : Int) (c1_3n0_0 : Int) (c1_3n1_0 : Int) (c1_3n1_1 : Int) (c1_3n1_2 : Int) : Option (Int) := ((impl_IsField.f K a0).bind fun t4 => (if t4 = true then ((impl_moveAsked_1__impl_MoveLine_1.f K c1_0_0 c1_1_0 c1_2_0 c1_2_1 c1_2_2 c1_2_3 c1_2_4 c1_2_5 c1_3n0_0 c1_3n1_0 c1_3n1_1 c1_3n1_2).bind fun t11 => (if t11 = true then some 0 else some 2)) else some 1))

/-! ### impl_moveAsked__impl_MoveLine_1: function 66 -/
def impl_moveAsked__impl_MoveLine_1.f (K : Nat) (a0 : Int) (a1 : Int) (a2_0 : Int) (a2_1 : Int) (a2_2 : Int) (a2_3 : Int) (a2_4 : Int) (a2_5 : Int) (c3_0_0 : Int) (c3_1_0 : Int) (c3_1_1 : Int) (c3_1_2 : Int) : Option (Int) := ((impl_asked__impl_moveAsked_1_impl_MoveLine_1.f K a0 a1 a0 a2_0 a2_1 a2_2 a2_3 a2_4 a2_5 c3_0_0 c3_1_0 c3_1_1 c3_1_2).bind fun t15 => (if (t15 == 0) = true then ((impl_keeps.f K a0 a1 a2_0 a2_1 a2_2 a2_3).bind fun t22 => (if t22 = true then some t15 else some 5)) else some t15))

/-! ### impl_onLine: function 95 -/
def impl_onLine.f (K : Nat) (a0 : Int) (a1_0 : Int) (a1_1 : Int) (a1_2 : Int) : Option (Int × Int) := (if (a1_0 == 1) = true then ((impl_rest.f K a0 (wrap64 (-a1_2))).bind fun t12 => some (t12, 0)) else ((impl_rest.f K a0 (wrap64 (-a1_2))).bind fun t20 => some (0, t20)))

/-! ### impl_makeLine: function 130 -/
def impl_makeLine.f (K : Nat) (a0 : Int) (a1 : Int) (a2 : Int) (a3 : Int) : Option (Int × Int × Int) := ((impl_rest.f K a0 a1).bind fun t6 => ((impl_rest.f K a0 a2).bind fun t10 => ((impl_rest.f K a0 a3).bind fun t14 => (if (t6 == 0) = true then ((impl_divide.f K a0 t6 t10).bind fun t23 => ((impl_divide.f K a0 t10 t10).bind fun t27 => ((impl_divide.f K a0 t14 t10).bind fun t31 => some (t23, t27, t31)))) else ((impl_divide.f K a0 t6 t6).bind fun t39 => ((impl_divide.f K a0 t10 t6).bind fun t43 => ((impl_divide.f K a0 t14 t6).bind fun t47 => some (t39, t43, t47))))))))

/-! ### impl_through: function 94 -/
def impl_through.f (K : Nat) (a0 : Int) (a1_0 : Int) (a1_1 : Int) (a2_0 : Int) (a2_1 : Int) : Option (Int × Int × Int) := ((impl_makeLine.f K a0 a2_1 (wrap64 (-a2_0)) (wrap64 (-(wrap64 ((wrap64 (a2_1 * a1_0)) + (wrap64 ((wrap64 (-a2_0)) * a1_1))))))).bind fun (t15, t16, t17) => some (t15, t16, t17))

/-! ### impl_MoveLine: function 36 -/
def impl_MoveLine.f (K : Nat) (a0 : Int) (a1 : Int) (a2_0 : Int) (a2_1 : Int) (a2_2 : Int) (a2_3 : Int) (a2_4 : Int) (a2_5 : Int) (a3_0 : Int) (a3_1 : Int) (a3_2 : Int) : Option (Int × Int × Int × Int) := ((impl_moveAsked__impl_MoveLine_1.f K a0 a1 a2_0 a2_1 a2_2 a2_3 a2_4 a2_5 a0 a3_0 a3_1 a3_2).bind fun t16 => (if (t16 == 0) = true then ((impl_onLine.f K a0 a3_0 a3_1 a3_2).bind fun (t23, t24) => ((impl_moved.f K a0 a2_0 a2_1 a2_2 a2_3 a2_4 a2_5 t23 t24).bind fun (t26, t27) => ((impl_way.f K a0 a3_0 a3_1 a3_2).bind fun (t29, t30) => ((impl_turned.f K a0 a2_0 a2_1 a2_2 a2_3 t29 t30).bind fun (t32, t33) => ((impl_through.f K a0 t26 t27 t32 t33).bind fun (t35, t36, t37) => some (t35, t36, t37, 0)))))) else some (0, 0, 0, t16)))

/-! ### laws_eqLine: function 37 -/
def laws_eqLine.f (K : Nat) (a0_0 : Int) (a0_1 : Int) (a0_2 : Int) (a1_0 : Int) (a1_1 : Int) (a1_2 : Int) : Option (Bool) := (if (a0_0 == a1_0) = true then (if (a0_1 == a1_1) = true then (if (a0_2 == a1_2) = true then some true else some false) else some false) else some false)

/-! ### laws_FnExactMoveLine: function 10 -/
def laws_FnExactMoveLine.f (K : Nat) (a0 : Int) (a1 : Int) (a2_0 : Int) (a2_1 : Int) (a2_2 : Int) (a2_3 : Int) (a2_4 : Int) (a2_5 : Int) (a3_0 : Int) (a3_1 : Int) (a3_2 : Int) : Option (Bool) := ((laws_toMove.f K a2_0 a2_1 a2_2 a2_3 a2_4 a2_5).bind fun (t9, t10, t11, t12, t13, t14) => ((laws_toLine.f K a3_0 a3_1 a3_2).bind fun (t16, t17, t18) => ((spec_MoveLine.f K a0 a1 t9 t10 t11 t12 t13 t14 t16 t17 t18).bind fun (t20, t21, t22, t23) => ((laws_toMove.f K a2_0 a2_1 a2_2 a2_3 a2_4 a2_5).bind fun (t33, t34, t35, t36, t37, t38) => ((laws_toLine.f K a3_0 a3_1 a3_2).bind fun (t40, t41, t42) => ((impl_MoveLine.f K a0 a1 t33 t34 t35 t36 t37 t38 t40 t41 t42).bind fun (t44, t45, t46, t47) => ((laws_eqLine.f K t44 t45 t46 t20 t21 t22).bind fun t58 => (if t58 = true then (if (t47 == t23) = true then some true else some false) else some false))))))))

end Go.Proofs.Ytbibgeoohpgaeaa
