/- What the functions of the program compute, in plain Lean. -/
import Derived.Test.YtccbmdpikalpfaaK
namespace Go.Proofs.Ytccbmdpikalpfaa
open Go Go.RowKit
attribute [local go_sem] Oper.quiet Oper.quietAt Oper.quietUpon
attribute [local irreducible] wpList
set_option linter.unusedVariables false
set_option linter.unusedSimpArgs false

/-! ### laws_big: function 7 -/
def laws_big.f (K : Nat) (a0 : List (Int)) : Option (Bool) := some (decide (4096 < (a0.length : Int)))

/-! ### laws_roll: function 8 -/

def laws_roll.l0 (K : Nat) (a0 : List (Int)) : Nat → Int → Int → Int → Option (Int × Int)
  | 0, _, _, _ => none
  | k16 + 1, x8, x9, x10 => (if decide (x8 < (a0.length : Int)) = true then ((idx a0 x8).bind fun t25 => (laws_roll.l0 K a0 k16 (wrap64 (x8 + 1)) x9 (IntKind.u64.wrap ((IntKind.u64.wrap ((IntKind.u64.wrap (x10 * 1099511628211)) + (IntKind.u64.wrap (t25)))) + 5)))) else some (x9, x10))
def laws_roll.f (K : Nat) (a0 : List (Int)) (a1 : Int) : Option (Int × Int) := (laws_roll.l0 K a0 K 0 0 (IntKind.u64.wrap ((IntKind.u64.wrap (a1 * 6257)) + (IntKind.u64.wrap ((a0.length : Int))))))

/-! ### laws_dice_below: function 9 -/
def laws_dice_below.f (K : Nat) (a0_0 : List (Int)) (a0_1 : Int) (a0_2 : Int) (a1 : Int) : Option (Int × Int × Int) := (if decide (a1 < 1) = true then some (0, a0_1, a0_2) else (if decide (a0_1 < (a0_0.length : Int)) = true then ((idx a0_0 a0_1).bind fun t18 => (if (a1 == 0) = true then none else some (Int.tmod (wrap64 ((wrap64 (bits .and .u64 ((IntKind.u64.wrap ((IntKind.u64.wrap (a0_2 * 6364136223846793005)) + 1442695040888963407)) / 8589934592) 16777215)) + (wrap64 (t18)))) a1, wrap64 (a0_1 + 1), IntKind.u64.wrap ((IntKind.u64.wrap (a0_2 * 6364136223846793005)) + 1442695040888963407)))) else (if (a1 == 0) = true then none else some (Int.tmod (wrap64 (bits .and .u64 ((IntKind.u64.wrap ((IntKind.u64.wrap (a0_2 * 6364136223846793005)) + 1442695040888963407)) / 8589934592) 16777215)) a1, a0_1, IntKind.u64.wrap ((IntKind.u64.wrap (a0_2 * 6364136223846793005)) + 1442695040888963407)))))

/-! ### impl_IsField: function 170 -/
def impl_IsField.f (K : Nat) (a0 : Int) : Option (Bool) := (if (a0 == 3) = true then some true else (if (a0 == 5) = true then some true else (if (a0 == 7) = true then some true else (if (a0 == 11) = true then some true else (if (a0 == 13) = true then some true else (if (a0 == 17) = true then some true else (if (a0 == 19) = true then some true else (if (a0 == 23) = true then some true else (if (a0 == 29) = true then some true else (if (a0 == 31) = true then some true else some false))))))))))

/-! ### impl_isColour: function 69 -/
def impl_isColour.f (K : Nat) (a0 : Int) : Option (Bool) := (if decide (0 ≤ a0) = true then some (decide (a0 ≤ 2)) else some false)

/-! ### impl_isNumber: function 92 -/
def impl_isNumber.f (K : Nat) (a0 : Int) (a1 : Int) : Option (Bool) := (if decide (0 ≤ a1) = true then some (decide (a1 < a0)) else some false)

/-! ### impl_areNumbers: function 73 -/

def impl_areNumbers.l0 (K : Nat) (a0 : Int) (a1 : List (Int)) : Nat → Int → Option (Bool)
  | 0, _ => none
  | k9 + 1, x4 => (if decide (x4 < (a1.length : Int)) = true then ((idx a1 x4).bind fun t19 => ((impl_isNumber.f K a0 t19).bind fun t25 => (if t25 = true then (impl_areNumbers.l0 K a0 a1 k9 (wrap64 (x4 + 1))) else some false))) else some true)
def impl_areNumbers.f (K : Nat) (a0 : Int) (a1 : List (Int)) : Option (Bool) := (impl_areNumbers.l0 K a0 a1 K 0)

/-! ### impl_isPoint: function 84 -/
def impl_isPoint.f (K : Nat) (a0 : Int) (a1_0 : Int) (a1_1 : Int) : Option (Bool) := ((impl_areNumbers.f K a0 ([a1_0, a1_1])).bind fun t6 => some t6)

/-! ### impl_arePoints: function 70 -/

def impl_arePoints.l0 (K : Nat) (a0 : Int) (a1 : List (Int × Int)) : Nat → Int → Option (Bool)
  | 0, _ => none
  | k9 + 1, x4 => (if decide (x4 < (a1.length : Int)) = true then ((idx a1 x4).bind fun (t19, t20) => ((impl_isPoint.f K a0 t19 t20).bind fun t32 => (if t32 = true then (impl_arePoints.l0 K a0 a1 k9 (wrap64 (x4 + 1))) else some false))) else some true)
def impl_arePoints.f (K : Nat) (a0 : Int) (a1 : List (Int × Int)) : Option (Bool) := (impl_arePoints.l0 K a0 a1 K 0)

/-! ### impl_Quadrance_1: function 68 -/
def impl_Quadrance_1.f (K : Nat) (f0_0 : Int) (f1_0 : Int) (f2_0 : Int) (f2_1 : Int) (f3_0 : Int) (f3_1 : Int) : Option (Bool) := ((impl_isColour.f K f0_0).bind fun t3 => (if t3 = true then ((impl_arePoints.f K f1_0 ([(f2_0, f2_1), (f3_0, f3_1)])).bind fun t11 => some t11) else some false))

/-! ### impl_asked__impl_Quadrance_1: function 67 -/
def impl_asked__impl_Quadrance_1.f (K : Nat) (a0 : Int) (c1_0_0 : Int) (c1_1_0 : Int) (c1_2_0 : Int) (c1_2_1 : Int) (c1_3_0 : Int) (c1_3_1 : Int) : Option (Int) := ((impl_IsField.f K a0).bind fun t4 => (if t4 = true then ((impl_Quadrance_1.f K c1_0_0 c1_1_0 c1_2_0 c1_2_1 c1_3_0 c1_3_1).bind fun t11 => (if t11 = true then some 0 else some 2)) else some 1))

/-! ### impl_rest: function 110 -/
def impl_rest.f (K : Nat) (a0 : Int) (a1 : Int) : Option (Int) := (if (a0 == 0) = true then none else some (Int.tmod (wrap64 ((Int.tmod a1 a0) + a0)) a0))

/-! ### impl_less: function 171 -/
def impl_less.f (K : Nat) (a0 : Int) (a1_0 : Int) (a1_1 : Int) (a2_0 : Int) (a2_1 : Int) : Option (Int × Int) := ((impl_rest.f K a0 (wrap64 (a1_0 - a2_0))).bind fun t12 => ((impl_rest.f K a0 (wrap64 (a1_1 - a2_1))).bind fun t14 => some (t12, t14)))

/-! ### impl_product: function 172 -/
def impl_product.f (K : Nat) (a0 : Int) (a1 : Int) (a2_0 : Int) (a2_1 : Int) (a3_0 : Int) (a3_1 : Int) : Option (Int) := (if (a1 == 0) = true then ((impl_rest.f K a0 (wrap64 ((wrap64 (a2_0 * a3_0)) + (wrap64 (a2_1 * a3_1))))).bind fun t13 => some t13) else (if (a1 == 1) = true then ((impl_rest.f K a0 (wrap64 ((wrap64 (a2_0 * a3_0)) - (wrap64 (a2_1 * a3_1))))).bind fun t20 => some t20) else ((impl_rest.f K a0 (wrap64 ((wrap64 (a2_0 * a3_1)) + (wrap64 (a2_1 * a3_0))))).bind fun t25 => some t25)))

/-! ### impl_quadrance: function 71 -/
def impl_quadrance.f (K : Nat) (a0 : Int) (a1 : Int) (a2_0 : Int) (a2_1 : Int) (a3_0 : Int) (a3_1 : Int) : Option (Int) := ((impl_less.f K a0 a2_0 a2_1 a3_0 a3_1).bind fun (t9, t10) => ((impl_product.f K a0 a1 t9 t10 t9 t10).bind fun t21 => some t21))

/-! ### impl_Quadrance: function 10 -/
def impl_Quadrance.f (K : Nat) (a0 : Int) (a1 : Int) (a2_0 : Int) (a2_1 : Int) (a3_0 : Int) (a3_1 : Int) : Option (Int × Int) := ((impl_asked__impl_Quadrance_1.f K a0 a1 a0 a2_0 a2_1 a3_0 a3_1).bind fun t16 => (if (t16 == 0) = true then ((impl_quadrance.f K a0 a1 a2_0 a2_1 a3_0 a3_1).bind fun t25 => some (t25, 0)) else some (0, t16)))

/-! ### impl_LineOf_1: function 72 -/
def impl_LineOf_1.f (K : Nat) (f0_0 : Int) (f1_0 : Int) (f2_0 : Int) (f3_0 : Int) : Option (Bool) := ((impl_areNumbers.f K f0_0 ([f1_0, f2_0, f3_0])).bind fun t6 => some t6)

/-! ### impl_asked__impl_LineOf_1: function 67 -/
def impl_asked__impl_LineOf_1.f (K : Nat) (a0 : Int) (c1_0_0 : Int) (c1_1_0 : Int) (c1_2_0 : Int) (c1_3_0 : Int) : Option (Int) := ((impl_IsField.f K a0).bind fun t4 => (if t4 = true then ((impl_LineOf_1.f K c1_0_0 c1_1_0 c1_2_0 c1_3_0).bind fun t11 => (if t11 = true then some 0 else some 2)) else some 1))

/-! ### impl_inverse: function 187 -/

def impl_inverse.l0 (K : Nat) (a0 : Int) (a1 : Int) : Nat → Int → Option (Int)
  | 0, _ => none
  | k9 + 1, x4 => (if decide (x4 < a0) = true then (if (a0 == 0) = true then none else (if ((Int.tmod (wrap64 (a1 * x4)) a0) == 1) = true then some x4 else (impl_inverse.l0 K a0 a1 k9 (wrap64 (x4 + 1))))) else some 0)
def impl_inverse.f (K : Nat) (a0 : Int) (a1 : Int) : Option (Int) := (impl_inverse.l0 K a0 a1 K 1)

/-! ### impl_divide: function 127 -/
def impl_divide.f (K : Nat) (a0 : Int) (a1 : Int) (a2 : Int) : Option (Int) := ((impl_inverse.f K a0 a2).bind fun t3 => ((impl_rest.f K a0 (wrap64 (a1 * t3))).bind fun t7 => some t7))

/-! ### impl_makeLine: function 74 -/
def impl_makeLine.f (K : Nat) (a0 : Int) (a1 : Int) (a2 : Int) (a3 : Int) : Option (Int × Int × Int) := ((impl_rest.f K a0 a1).bind fun t6 => ((impl_rest.f K a0 a2).bind fun t10 => ((impl_rest.f K a0 a3).bind fun t14 => (if (t6 == 0) = true then ((impl_divide.f K a0 t6 t10).bind fun t24 => ((impl_divide.f K a0 t10 t10).bind fun t28 => ((impl_divide.f K a0 t14 t10).bind fun t32 => some (t24, t28, t32)))) else ((impl_divide.f K a0 t6 t6).bind fun t40 => ((impl_divide.f K a0 t10 t6).bind fun t44 => ((impl_divide.f K a0 t14 t6).bind fun t48 => some (t40, t44, t48))))))))

/-! ### impl_LineOf: function 11 -/
def impl_LineOf.f (K : Nat) (a0 : Int) (a1 : Int) (a2 : Int) (a3 : Int) : Option (Int × Int × Int × Int) := ((impl_asked__impl_LineOf_1.f K a0 a0 a1 a2 a3).bind fun t19 => (if (t19 == 0) = true then (if (a1 == 0) = true then (if (a2 == 0) = true then some (0, 0, 0, 5) else ((impl_makeLine.f K a0 a1 a2 a3).bind fun (t40, t41, t42) => some (t40, t41, t42, 0))) else ((impl_makeLine.f K a0 a1 a2 a3).bind fun (t52, t53, t54) => some (t52, t53, t54, 0))) else some (0, 0, 0, t19)))

/-! ### impl_isLine: function 76 -/
def impl_isLine.f (K : Nat) (a0 : Int) (a1_0 : Int) (a1_1 : Int) (a1_2 : Int) : Option (Bool) := ((impl_areNumbers.f K a0 ([a1_0, a1_1, a1_2])).bind fun t7 => (if t7 = true then (if (a1_0 == 1) = true then some true else (if (a1_0 == 0) = true then some (a1_1 == 1) else some false)) else some false))

/-! ### impl_ReflectionIn_1: function 75 -/
def impl_ReflectionIn_1.f (K : Nat) (f0_0 : Int) (f1_0 : Int) (f2_0 : Int) (f2_1 : Int) (f2_2 : Int) : Option (Bool) := ((impl_isColour.f K f0_0).bind fun t3 => (if t3 = true then ((impl_isLine.f K f1_0 f2_0 f2_1 f2_2).bind fun t8 => some t8) else some false))

/-! ### impl_asked__impl_ReflectionIn_1: function 67 -/
def impl_asked__impl_ReflectionIn_1.f (K : Nat) (a0 : Int) (c1_0_0 : Int) (c1_1_0 : Int) (c1_2_0 : Int) (c1_2_1 : Int) (c1_2_2 : Int) : Option (Int) := ((impl_IsField.f K a0).bind fun t4 => (if t4 = true then ((impl_ReflectionIn_1.f K c1_0_0 c1_1_0 c1_2_0 c1_2_1 c1_2_2).bind fun t11 => (if t11 = true then some 0 else some 2)) else some 1))

/-! ### impl_way: function 190 -/
def impl_way.f (K : Nat) (a0 : Int) (a1_0 : Int) (a1_1 : Int) (a1_2 : Int) : Option (Int × Int) := ((impl_rest.f K a0 (wrap64 (-a1_1))).bind fun t9 => some (t9, a1_0))

/-! ### impl_arePerpendicular: function 140 -/
def impl_arePerpendicular.f (K : Nat) (a0 : Int) (a1 : Int) (a2_0 : Int) (a2_1 : Int) (a2_2 : Int) (a3_0 : Int) (a3_1 : Int) (a3_2 : Int) : Option (Bool) := ((impl_way.f K a0 a2_0 a2_1 a2_2).bind fun (t9, t10) => ((impl_way.f K a0 a3_0 a3_1 a3_2).bind fun (t12, t13) => ((impl_product.f K a0 a1 t9 t10 t12 t13).bind fun t15 => some (t15 == 0))))

/-! ### impl_isNull: function 77 -/
def impl_isNull.f (K : Nat) (a0 : Int) (a1 : Int) (a2_0 : Int) (a2_1 : Int) (a2_2 : Int) : Option (Bool) := ((impl_arePerpendicular.f K a0 a1 a2_0 a2_1 a2_2 a2_0 a2_1 a2_2).bind fun t6 => some t6)

/-! ### impl_linesThrough: function 198 -/

def impl_linesThrough.l0 (K : Nat) (a0 : Int) (a1_0 : Int) (a1_1 : Int) : Nat → Int → List (Int × Int × Int) → Option (List (Int × Int × Int))
  | 0, _, _ => none
  | k27 + 1, x17, x18 => (if decide (x17 < a0) = true then ((impl_rest.f K a0 (wrap64 ((wrap64 (-a1_0)) - (wrap64 (x17 * a1_1))))).bind fun t37 => (if decide (x18.length ≤ 1000000) = true then (impl_linesThrough.l0 K a0 a1_0 a1_1 k27 (wrap64 (x17 + 1)) (x18 ++ [(1, x17, t37)])) else none)) else some x18)
def impl_linesThrough.f (K : Nat) (a0 : Int) (a1_0 : Int) (a1_1 : Int) : Option (List (Int × Int × Int)) := ((impl_rest.f K a0 (wrap64 (-a1_1))).bind fun t6 => (impl_linesThrough.l0 K a0 a1_0 a1_1 K 0 ([(0, 1, t6)])))

/-! ### impl_perpendicular: function 174 -/

def impl_perpendicular.l0 (K : Nat) (a0 : Int) (a1 : Int) (a2_0 : Int) (a2_1 : Int) (a2_2 : Int) (t13 : List (Int × Int × Int)) : Nat → Int → Int → Int → Int → Option (Int × Int × Int)
  | 0, _, _, _, _ => none
  | k29 + 1, x19, x20, x21, x22 => (if decide (x19 < (t13.length : Int)) = true then ((idx t13 x19).bind fun (t40, t41, t42) => ((impl_arePerpendicular.f K a0 a1 a2_0 a2_1 a2_2 t40 t41 t42).bind fun t54 => (if t54 = true then some (t40, t41, t42) else (impl_perpendicular.l0 K a0 a1 a2_0 a2_1 a2_2 t13 k29 (wrap64 (x19 + 1)) x20 x21 x22)))) else some (0, 0, 0))
def impl_perpendicular.f (K : Nat) (a0 : Int) (a1 : Int) (a2_0 : Int) (a2_1 : Int) (a2_2 : Int) (a3_0 : Int) (a3_1 : Int) : Option (Int × Int × Int) := ((impl_linesThrough.f K a0 a3_0 a3_1).bind fun t13 => (impl_perpendicular.l0 K a0 a1 a2_0 a2_1 a2_2 t13 K 0 0 0 0))

/-! ### impl_meet: function 173 -/
def impl_meet.f (K : Nat) (a0 : Int) (a1_0 : Int) (a1_1 : Int) (a1_2 : Int) (a2_0 : Int) (a2_1 : Int) (a2_2 : Int) : Option (Int × Int) := ((impl_rest.f K a0 (wrap64 ((wrap64 (a1_0 * a2_1)) - (wrap64 (a1_1 * a2_0))))).bind fun t12 => ((impl_rest.f K a0 (wrap64 ((wrap64 (a1_1 * a2_2)) - (wrap64 (a1_2 * a2_1))))).bind fun t17 => ((impl_divide.f K a0 t17 t12).bind fun t19 => ((impl_rest.f K a0 (wrap64 ((wrap64 (a1_2 * a2_0)) - (wrap64 (a1_0 * a2_2))))).bind fun t21 => ((impl_divide.f K a0 t21 t12).bind fun t23 => some (t19, t23))))))

/-! ### impl_foot: function 81 -/
def impl_foot.f (K : Nat) (a0 : Int) (a1 : Int) (a2_0 : Int) (a2_1 : Int) (a3_0 : Int) (a3_1 : Int) (a3_2 : Int) : Option (Int × Int) := ((impl_perpendicular.f K a0 a1 a3_0 a3_1 a3_2 a2_0 a2_1).bind fun (t12, t13, t14) => ((impl_meet.f K a0 a3_0 a3_1 a3_2 t12 t13 t14).bind fun (t16, t17) => some (t16, t17)))

/-! ### impl_combination: function 80 -/
def impl_combination.f (K : Nat) (a0 : Int) (a1_0 : Int) (a1_1 : Int) (a2_0 : Int) (a2_1 : Int) (a3 : Int) : Option (Int × Int) := ((impl_rest.f K a0 (wrap64 (a1_0 + (wrap64 (a3 * (wrap64 (a2_0 - a1_0))))))).bind fun t12 => ((impl_rest.f K a0 (wrap64 (a1_1 + (wrap64 (a3 * (wrap64 (a2_1 - a1_1))))))).bind fun t14 => some (t12, t14)))

/-! ### impl_ReflectionIn_2: function 79 -/
def impl_ReflectionIn_2.f (K : Nat) (a0_0 : Int) (a0_1 : Int) (f0_0 : Int) (f1_0 : Int) (f2_0 : Int) (f2_1 : Int) (f2_2 : Int) : Option (Int × Int) := ((impl_foot.f K f0_0 f1_0 a0_0 a0_1 f2_0 f2_1 f2_2).bind fun (t9, t10) => ((impl_combination.f K f0_0 a0_0 a0_1 t9 t10 2).bind fun (t12, t13) => some (t12, t13)))

/-! ### impl_mapOf__impl_ReflectionIn_2: function 78 -/
def impl_mapOf__impl_ReflectionIn_2.f (K : Nat) (a0 : Int) (c1_0_0 : Int) (c1_1_0 : Int) (c1_2_0 : Int) (c1_2_1 : Int) (c1_2_2 : Int) : Option (Int × Int × Int × Int × Int × Int) := ((impl_ReflectionIn_2.f K 0 0 c1_0_0 c1_1_0 c1_2_0 c1_2_1 c1_2_2).bind fun (t6, t7) => ((impl_ReflectionIn_2.f K 1 0 c1_0_0 c1_1_0 c1_2_0 c1_2_1 c1_2_2).bind fun (t18, t19) => ((impl_less.f K a0 t18 t19 t6 t7).bind fun (t21, t22) => ((impl_ReflectionIn_2.f K 0 1 c1_0_0 c1_1_0 c1_2_0 c1_2_1 c1_2_2).bind fun (t24, t25) => ((impl_less.f K a0 t24 t25 t6 t7).bind fun (t27, t28) => some (t21, t27, t22, t28, t6, t7))))))

/-! ### impl_ReflectionIn: function 12 -/
def impl_ReflectionIn.f (K : Nat) (a0 : Int) (a1 : Int) (a2_0 : Int) (a2_1 : Int) (a2_2 : Int) : Option (Int × Int × Int × Int × Int × Int × Int) := ((impl_asked__impl_ReflectionIn_1.f K a0 a1 a0 a2_0 a2_1 a2_2).bind fun t16 => (if (t16 == 0) = true then ((impl_isNull.f K a0 a1 a2_0 a2_1 a2_2).bind fun t26 => (if t26 = true then some (0, 0, 0, 0, 0, 0, 5) else ((impl_mapOf__impl_ReflectionIn_2.f K a0 a0 a1 a2_0 a2_1 a2_2).bind fun (t40, t41, t42, t43, t44, t45) => some (t40, t41, t42, t43, t44, t45, 0)))) else some (0, 0, 0, 0, 0, 0, t16)))

/-! ### impl_isMap: function 83 -/
def impl_isMap.f (K : Nat) (a0 : Int) (a1_0 : Int) (a1_1 : Int) (a1_2 : Int) (a1_3 : Int) (a1_4 : Int) (a1_5 : Int) : Option (Bool) := ((impl_areNumbers.f K a0 ([a1_0, a1_1, a1_2, a1_3])).bind fun t6 => (if t6 = true then ((impl_isPoint.f K a0 a1_4 a1_5).bind fun t11 => some t11) else some false))

/-! ### impl_MovePoint_1: function 82 -/
def impl_MovePoint_1.f (K : Nat) (f0_0 : Int) (f1_0 : Int) (f1_1 : Int) (f1_2 : Int) (f1_3 : Int) (f1_4 : Int) (f1_5 : Int) (f2_0 : Int) (f2_1 : Int) : Option (Bool) := ((impl_isMap.f K f0_0 f1_0 f1_1 f1_2 f1_3 f1_4 f1_5).bind fun t3 => (if t3 = true then ((impl_isPoint.f K f0_0 f2_0 f2_1).bind fun t8 => some t8) else some false))

/-! ### impl_asked__impl_MovePoint_1: function 67 -/
def impl_asked__impl_MovePoint_1.f (K : Nat) (a0 : Int) (c1_0_0 : Int) (c1_1_0 : Int) (c1_1_1 : Int) (c1_1_2 : Int) (c1_1_3 : Int) (c1_1_4 : Int) (c1_1_5 : Int) (c1_2_0 : Int) (c1_2_1 : Int) : Option (Int) := ((impl_IsField.f K a0).bind fun t4 => (if t4 = true then ((impl_MovePoint_1.f K c1_0_0 c1_1_0 c1_1_1 c1_1_2 c1_1_3 c1_1_4 c1_1_5 c1_2_0 c1_2_1).bind fun t11 => (if t11 = true then some 0 else some 2)) else some 1))

/-! ### impl_turned: function 176 -/
def impl_turned.f (K : Nat) (a0 : Int) (a1_0 : Int) (a1_1 : Int) (a1_2 : Int) (a1_3 : Int) (a2_0 : Int) (a2_1 : Int) : Option (Int × Int) := ((impl_rest.f K a0 (wrap64 ((wrap64 (a1_0 * a2_0)) + (wrap64 (a1_1 * a2_1))))).bind fun t12 => ((impl_rest.f K a0 (wrap64 ((wrap64 (a1_2 * a2_0)) + (wrap64 (a1_3 * a2_1))))).bind fun t14 => some (t12, t14)))

/-! ### impl_sum: function 175 -/
def impl_sum.f (K : Nat) (a0 : Int) (a1_0 : Int) (a1_1 : Int) (a2_0 : Int) (a2_1 : Int) : Option (Int × Int) := ((impl_rest.f K a0 (wrap64 (a1_0 + a2_0))).bind fun t12 => ((impl_rest.f K a0 (wrap64 (a1_1 + a2_1))).bind fun t14 => some (t12, t14)))

/-! ### impl_moved: function 85 -/
def impl_moved.f (K : Nat) (a0 : Int) (a1_0 : Int) (a1_1 : Int) (a1_2 : Int) (a1_3 : Int) (a1_4 : Int) (a1_5 : Int) (a2_0 : Int) (a2_1 : Int) : Option (Int × Int) := ((impl_turned.f K a0 a1_0 a1_1 a1_2 a1_3 a2_0 a2_1).bind fun (t12, t13) => ((impl_sum.f K a0 t12 t13 a1_4 a1_5).bind fun (t15, t16) => some (t15, t16)))

/-! ### impl_MovePoint: function 13 -/
def impl_MovePoint.f (K : Nat) (a0 : Int) (a1_0 : Int) (a1_1 : Int) (a1_2 : Int) (a1_3 : Int) (a1_4 : Int) (a1_5 : Int) (a2_0 : Int) (a2_1 : Int) : Option (Int × Int × Int) := ((impl_asked__impl_MovePoint_1.f K a0 a0 a1_0 a1_1 a1_2 a1_3 a1_4 a1_5 a2_0 a2_1).bind fun t16 => (if (t16 == 0) = true then ((impl_moved.f K a0 a1_0 a1_1 a1_2 a1_3 a1_4 a1_5 a2_0 a2_1).bind fun (t25, t26) => some (t25, t26, 0)) else some (0, 0, t16)))

/-! ### impl_spreadTriangle_1: function 177 -/
def impl_spreadTriangle_1.f (K : Nat) (f0_0 : Int) (f1_0 : Int) (f2_0 : Int) (f2_1 : Int) (f3_0 : Int) (f3_1 : Int) (f4_0 : Int) (f4_1 : Int) : Option (Bool) := ((impl_isColour.f K f0_0).bind fun t3 => (if t3 = true then ((impl_arePoints.f K f1_0 ([(f2_0, f2_1), (f3_0, f3_1), (f4_0, f4_1)])).bind fun t11 => some t11) else some false))

/-! ### impl_asked__impl_spreadTriangle_1: function 67 -/
def impl_asked__impl_spreadTriangle_1.f (K : Nat) (a0 : Int) (c1_0_0 : Int) (c1_1_0 : Int) (c1_2_0 : Int) (c1_2_1 : Int) (c1_3_0 : Int) (c1_3_1 : Int) (c1_4_0 : Int) (c1_4_1 : Int) : Option (Int) := ((impl_IsField.f K a0).bind fun t4 => (if t4 = true then ((impl_spreadTriangle_1.f K c1_0_0 c1_1_0 c1_2_0 c1_2_1 c1_3_0 c1_3_1 c1_4_0 c1_4_1).bind fun t11 => (if t11 = true then some 0 else some 2)) else some 1))

/-! ### impl_area: function 89 -/
def impl_area.f (K : Nat) (a0 : Int) (a1_0 : Int) (a1_1 : Int) (a2_0 : Int) (a2_1 : Int) (a3_0 : Int) (a3_1 : Int) : Option (Int) := ((impl_less.f K a0 a2_0 a2_1 a1_0 a1_1).bind fun (t12, t13) => ((impl_less.f K a0 a3_0 a3_1 a1_0 a1_1).bind fun (t15, t16) => ((impl_rest.f K a0 (wrap64 ((wrap64 (t12 * t16)) - (wrap64 (t13 * t15))))).bind fun t34 => some t34)))

/-! ### impl_spreadTriangle: function 86 -/
def impl_spreadTriangle.f (K : Nat) (a0 : Int) (a1 : Int) (a2_0 : Int) (a2_1 : Int) (a3_0 : Int) (a3_1 : Int) (a4_0 : Int) (a4_1 : Int) : Option (Int) := ((impl_asked__impl_spreadTriangle_1.f K a0 a1 a0 a2_0 a2_1 a3_0 a3_1 a4_0 a4_1).bind fun t19 => (if (t19 == 0) = true then ((impl_area.f K a0 a2_0 a2_1 a3_0 a3_1 a4_0 a4_1).bind fun t31 => (if (t31 == 0) = true then some 5 else ((impl_quadrance.f K a0 a1 a2_0 a2_1 a3_0 a3_1).bind fun t38 => (if (t38 == 0) = true then some 5 else ((impl_quadrance.f K a0 a1 a2_0 a2_1 a4_0 a4_1).bind fun t45 => (if (t45 == 0) = true then some 5 else ((impl_quadrance.f K a0 a1 a3_0 a3_1 a4_0 a4_1).bind fun t53 => (if (t53 == 0) = true then some 5 else some 0)))))))) else some t19))

/-! ### impl_through: function 188 -/
def impl_through.f (K : Nat) (a0 : Int) (a1_0 : Int) (a1_1 : Int) (a2_0 : Int) (a2_1 : Int) : Option (Int × Int × Int) := ((impl_makeLine.f K a0 a2_1 (wrap64 (-a2_0)) (wrap64 (-(wrap64 ((wrap64 (a2_1 * a1_0)) + (wrap64 ((wrap64 (-a2_0)) * a1_1))))))).bind fun (t15, t16, t17) => some (t15, t16, t17))

/-! ### impl_lineThrough: function 131 -/
def impl_lineThrough.f (K : Nat) (a0 : Int) (a1_0 : Int) (a1_1 : Int) (a2_0 : Int) (a2_1 : Int) : Option (Int × Int × Int) := ((impl_less.f K a0 a2_0 a2_1 a1_0 a1_1).bind fun (t12, t13) => ((impl_through.f K a0 a1_0 a1_1 t12 t13).bind fun (t15, t16, t17) => some (t15, t16, t17)))

/-! ### impl_cross: function 199 -/
def impl_cross.f (K : Nat) (a0 : Int) (a1 : Int) (a2_0 : Int) (a2_1 : Int) (a2_2 : Int) (a3_0 : Int) (a3_1 : Int) (a3_2 : Int) : Option (Int) := ((impl_way.f K a0 a2_0 a2_1 a2_2).bind fun (t9, t10) => ((impl_way.f K a0 a3_0 a3_1 a3_2).bind fun (t12, t13) => ((impl_product.f K a0 a1 t9 t10 t12 t13).bind fun t31 => ((impl_product.f K a0 a1 t9 t10 t9 t10).bind fun t36 => ((impl_product.f K a0 a1 t12 t13 t12 t13).bind fun t38 => ((impl_rest.f K a0 (wrap64 (t36 * t38))).bind fun t40 => ((impl_divide.f K a0 (wrap64 (t31 * t31)) t40).bind fun t42 => some t42)))))))

/-! ### impl_spread: function 178 -/
def impl_spread.f (K : Nat) (a0 : Int) (a1 : Int) (a2_0 : Int) (a2_1 : Int) (a2_2 : Int) (a3_0 : Int) (a3_1 : Int) (a3_2 : Int) : Option (Int) := ((impl_cross.f K a0 a1 a2_0 a2_1 a2_2 a3_0 a3_1 a3_2).bind fun t9 => ((impl_rest.f K a0 (wrap64 (1 - t9))).bind fun t13 => some t13))

/-! ### impl_spreadAt: function 87 -/
def impl_spreadAt.f (K : Nat) (a0 : Int) (a1 : Int) (a2_0 : Int) (a2_1 : Int) (a3_0 : Int) (a3_1 : Int) (a4_0 : Int) (a4_1 : Int) : Option (Int × Bool) := (if (a2_0 == a3_0 && a2_1 == a3_1) = true then some (0, false) else (if (a2_0 == a4_0 && a2_1 == a4_1) = true then some (0, false) else ((impl_lineThrough.f K a0 a2_0 a2_1 a3_0 a3_1).bind fun (t18, t19, t20) => ((impl_lineThrough.f K a0 a2_0 a2_1 a4_0 a4_1).bind fun (t22, t23, t24) => ((impl_isNull.f K a0 a1 t18 t19 t20).bind fun t43 => (if t43 = true then some (0, false) else ((impl_isNull.f K a0 a1 t22 t23 t24).bind fun t54 => (if t54 = true then some (0, false) else ((impl_spread.f K a0 a1 t18 t19 t20 t22 t23 t24).bind fun t61 => some (t61, true))))))))))

/-! ### impl_SpreadsOfTriangle: function 14 -/
def impl_SpreadsOfTriangle.f (K : Nat) (a0 : Int) (a1 : Int) (a2_0 : Int) (a2_1 : Int) (a3_0 : Int) (a3_1 : Int) (a4_0 : Int) (a4_1 : Int) : Option (List (Int) × Int) := ((impl_spreadTriangle.f K a0 a1 a2_0 a2_1 a3_0 a3_1 a4_0 a4_1).bind fun t13 => (if (t13 == 0) = true then ((impl_spreadAt.f K a0 a1 a2_0 a2_1 a3_0 a3_1 a4_0 a4_1).bind fun (t21, t22) => ((impl_spreadAt.f K a0 a1 a3_0 a3_1 a2_0 a2_1 a4_0 a4_1).bind fun (t27, t28) => ((impl_spreadAt.f K a0 a1 a4_0 a4_1 a2_0 a2_1 a3_0 a3_1).bind fun (t33, t34) => some ([t21, t27, t33], 0)))) else some ([], t13)))

/-! ### impl_DoubledArea_1: function 88 -/
def impl_DoubledArea_1.f (K : Nat) (f0_0 : Int) (f1_0 : Int) (f1_1 : Int) (f2_0 : Int) (f2_1 : Int) (f3_0 : Int) (f3_1 : Int) : Option (Bool) := ((impl_arePoints.f K f0_0 ([(f1_0, f1_1), (f2_0, f2_1), (f3_0, f3_1)])).bind fun t6 => some t6)

/-! ### impl_asked__impl_DoubledArea_1: function 67 -/
def impl_asked__impl_DoubledArea_1.f (K : Nat) (a0 : Int) (c1_0_0 : Int) (c1_1_0 : Int) (c1_1_1 : Int) (c1_2_0 : Int) (c1_2_1 : Int) (c1_3_0 : Int) (c1_3_1 : Int) : Option (Int) := ((impl_IsField.f K a0).bind fun t4 => (if t4 = true then ((impl_DoubledArea_1.f K c1_0_0 c1_1_0 c1_1_1 c1_2_0 c1_2_1 c1_3_0 c1_3_1).bind fun t11 => (if t11 = true then some 0 else some 2)) else some 1))

/-! ### impl_DoubledArea: function 15 -/
def impl_DoubledArea.f (K : Nat) (a0 : Int) (a1_0 : Int) (a1_1 : Int) (a2_0 : Int) (a2_1 : Int) (a3_0 : Int) (a3_1 : Int) : Option (Int × Int) := ((impl_asked__impl_DoubledArea_1.f K a0 a0 a1_0 a1_1 a2_0 a2_1 a3_0 a3_1).bind fun t16 => (if (t16 == 0) = true then ((impl_area.f K a0 a1_0 a1_1 a2_0 a2_1 a3_0 a3_1).bind fun t25 => some (t25, 0)) else some (0, t16)))

/-! ### laws_FnTop: function 3 -/

def laws_FnTop.l0 (K : Nat) (a0 : List (Int)) (t30 : Int) (t36 : Int) (t44 : Int) (t52 : Int) (t60 : Int) (t68 : Int) (t76 : Int) : Nat → Int → Int → Int → Option (Bool)
  | 0, _, _, _ => none
  | k122 + 1, x110, x111, x112 => (if decide (x110 < 3) = true then ((impl_Quadrance.f K t30 x110 t52 t60 t68 t76).bind fun (t134, t135) => ((impl_Quadrance.f K t30 x110 t36 t44 t68 t76).bind fun (t140, t141) => ((impl_Quadrance.f K t30 x110 t36 t44 t52 t60).bind fun (t146, t147) => (if (t135 == 0) = true then (if (t141 == 0) = true then (if (t147 == 0) = true then ((laws_dice_below.f K a0 x111 x112 (wrap64 (t30 - 2))).bind fun (t160, t161, t162) => ((laws_dice_below.f K a0 t161 t162 t30).bind fun (t171, t172, t173) => ((impl_LineOf.f K t30 1 (wrap64 (2 + t160)) t171).bind fun (t182, t183, t184, t185) => ((impl_ReflectionIn.f K t30 x110 t182 t183 t184).bind fun (t196, t197, t198, t199, t200, t201, t202) => (if (t185 == 0) = true then (if (t202 == 0) = true then ((impl_MovePoint.f K t30 t196 t197 t198 t199 t200 t201 t52 t60).bind fun (t230, t231, t232) => ((impl_MovePoint.f K t30 t196 t197 t198 t199 t200 t201 t68 t76).bind fun (t243, t244, t245) => ((impl_Quadrance.f K t30 x110 t230 t231 t243 t244).bind fun (t256, t257) => (if (t232 == 0) = true then (if (t245 == 0) = true then (if (t257 == 0) = true then (if (t256 == t134) = true then ((impl_SpreadsOfTriangle.f K t30 x110 t36 t44 t52 t60 t68 t76).bind fun (t280, t283) => ((impl_DoubledArea.f K t30 t36 t44 t52 t60 t68 t76).bind fun (t288, t289) => (if (t289 == 0) = true then (if (t288 == 0) = true then (if (t283 == 0) = true then some false else (laws_FnTop.l0 K a0 t30 t36 t44 t52 t60 t68 t76 k122 (wrap64 (x110 + 1)) t172 t173)) else (if (t134 == 0) = true then (if (t283 == 0) = true then some false else (laws_FnTop.l0 K a0 t30 t36 t44 t52 t60 t68 t76 k122 (wrap64 (x110 + 1)) t172 t173)) else (if (t140 == 0) = true then (if (t283 == 0) = true then some false else (laws_FnTop.l0 K a0 t30 t36 t44 t52 t60 t68 t76 k122 (wrap64 (x110 + 1)) t172 t173)) else (if (t283 == 0) = true then (if (t146 == 0) = true then some false else (if ((t280.length : Int) == 3) = true then ((idx t280 0).bind fun t322 => (if (t30 == 0) = true then none else ((idx t280 1).bind fun t329 => (if ((Int.tmod (wrap64 (t322 * t140)) t30) == (Int.tmod (wrap64 (t329 * t134)) t30)) = true then ((idx t280 1).bind fun t336 => ((idx t280 2).bind fun t342 => (if ((Int.tmod (wrap64 (t336 * t146)) t30) == (Int.tmod (wrap64 (t342 * t140)) t30)) = true then ((idx t280 0).bind fun t357 => (if ((Int.tmod (wrap64 ((Int.tmod (wrap64 ((wrap64 ((wrap64 (t140 + t146)) - t134)) + t30)) t30) * (Int.tmod (wrap64 ((wrap64 ((wrap64 (t140 + t146)) - t134)) + t30)) t30))) t30) == (Int.tmod (wrap64 ((Int.tmod (wrap64 ((wrap64 (4 * t140)) * t146)) t30) * (wrap64 ((wrap64 (1 - t357)) + t30)))) t30)) = true then (laws_FnTop.l0 K a0 t30 t36 t44 t52 t60 t68 t76 k122 (wrap64 (x110 + 1)) t172 t173) else some false)) else some false))) else some false)))) else some false)) else (if (t146 == 0) = true then (laws_FnTop.l0 K a0 t30 t36 t44 t52 t60 t68 t76 k122 (wrap64 (x110 + 1)) t172 t173) else some false))))) else some false))) else some false) else some false) else some false) else some false)))) else (if (t202 == 5) = true then ((impl_SpreadsOfTriangle.f K t30 x110 t36 t44 t52 t60 t68 t76).bind fun (t397, t400) => ((impl_DoubledArea.f K t30 t36 t44 t52 t60 t68 t76).bind fun (t405, t406) => (if (t406 == 0) = true then (if (t405 == 0) = true then (if (t400 == 0) = true then some false else (laws_FnTop.l0 K a0 t30 t36 t44 t52 t60 t68 t76 k122 (wrap64 (x110 + 1)) t172 t173)) else (if (t134 == 0) = true then (if (t400 == 0) = true then some false else (laws_FnTop.l0 K a0 t30 t36 t44 t52 t60 t68 t76 k122 (wrap64 (x110 + 1)) t172 t173)) else (if (t140 == 0) = true then (if (t400 == 0) = true then some false else (laws_FnTop.l0 K a0 t30 t36 t44 t52 t60 t68 t76 k122 (wrap64 (x110 + 1)) t172 t173)) else (if (t400 == 0) = true then (if (t146 == 0) = true then some false else (if ((t397.length : Int) == 3) = true then ((idx t397 0).bind fun t439 => (if (t30 == 0) = true then none else ((idx t397 1).bind fun t446 => (if ((Int.tmod (wrap64 (t439 * t140)) t30) == (Int.tmod (wrap64 (t446 * t134)) t30)) = true then ((idx t397 1).bind fun t453 => ((idx t397 2).bind fun t459 => (if ((Int.tmod (wrap64 (t453 * t146)) t30) == (Int.tmod (wrap64 (t459 * t140)) t30)) = true then ((idx t397 0).bind fun t473 => (if ((Int.tmod (wrap64 ((Int.tmod (wrap64 ((wrap64 ((wrap64 (t140 + t146)) - t134)) + t30)) t30) * (Int.tmod (wrap64 ((wrap64 ((wrap64 (t140 + t146)) - t134)) + t30)) t30))) t30) == (Int.tmod (wrap64 ((Int.tmod (wrap64 ((wrap64 (4 * t140)) * t146)) t30) * (wrap64 ((wrap64 (1 - t473)) + t30)))) t30)) = true then (laws_FnTop.l0 K a0 t30 t36 t44 t52 t60 t68 t76 k122 (wrap64 (x110 + 1)) t172 t173) else some false)) else some false))) else some false)))) else some false)) else (if (t146 == 0) = true then (laws_FnTop.l0 K a0 t30 t36 t44 t52 t60 t68 t76 k122 (wrap64 (x110 + 1)) t172 t173) else some false))))) else some false))) else some false)) else some false))))) else some false) else some false) else some false)))) else some true)
def laws_FnTop.f (K : Nat) (a0 : List (Int)) : Option (Bool) := ((laws_big.f K a0).bind fun t4 => (if t4 = true then some true else ((laws_roll.f K a0 70).bind fun (t12, t13) => ((laws_dice_below.f K a0 t12 t13 4).bind fun (t22, t23, t24) => ((idx ([5, 7, 11, 13]) t22).bind fun t30 => ((laws_dice_below.f K a0 t23 t24 t30).bind fun (t36, t37, t38) => ((laws_dice_below.f K a0 t37 t38 t30).bind fun (t44, t45, t46) => ((laws_dice_below.f K a0 t45 t46 t30).bind fun (t52, t53, t54) => ((laws_dice_below.f K a0 t53 t54 t30).bind fun (t60, t61, t62) => ((laws_dice_below.f K a0 t61 t62 t30).bind fun (t68, t69, t70) => ((laws_dice_below.f K a0 t69 t70 t30).bind fun (t76, t77, t78) => (laws_FnTop.l0 K a0 t30 t36 t44 t52 t60 t68 t76 K 0 t77 t78))))))))))))

end Go.Proofs.Ytccbmdpikalpfaa
