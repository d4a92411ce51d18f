/- What the functions of the program compute, in plain Lean. -/
import Derived.Test.YtccbmdpikalpfaaK
namespace Go.Proofs.Ytccbmdpikalpfaa
open Go Go.RowKit
attribute [local go_sem] Oper.quiet Oper.quietAt Oper.quietUpon Act.put nm1 nm2 nm3 i64_w run_max2 run_min2 mkT_getD mkT_get mkT_set lookT_cons lookT_nil
attribute [local irreducible] wpList
set_option linter.unusedVariables false
set_option linter.unusedSimpArgs false

def laws_big.f (K : Nat) (a0 : List (Int)) : Option (Bool) := some (decide (4096 < (a0.length : Int)))


def spec_l01From.l0 (K : Nat) (a0 : List (Int)) : Nat → Int → Int → Int → Option (Int × Int)
  | 0, _, _, _ => none
  | k16 + 1, x8, x9, x10 => (if decide (x8 < (a0.length : Int)) = true then (if decide (x8 < 4096) = true then ((idx a0 x8).bind fun t26 => (spec_l01From.l0 K a0 k16 (wrap64 (x8 + 1)) x9 (IntKind.u64.wrap ((IntKind.u64.wrap ((IntKind.u64.wrap (x10 * 1099511628211)) + (IntKind.u64.wrap (t26)))) + 199)))) else some (x9, x10)) else some (x9, x10))
def spec_l01From.f (K : Nat) (a0 : List (Int)) : Option (Int × Int) := (spec_l01From.l0 K a0 K 0 0 (IntKind.u64.wrap (13701 + (IntKind.u64.wrap ((a0.length : Int))))))

def spec_l01Next.f (K : Nat) (a0_0 : List (Int)) (a0_1 : Int) (a0_2 : Int) (a1 : Int) : Option (Int × Int × Int) := (if decide (a1 < 1) = true then some (0, a0_1, a0_2) else (if decide (a0_1 < (a0_0.length : Int)) = true then ((idx a0_0 a0_1).bind fun t18 => (if (a1 == 0) = true then none else some (Int.tmod (wrap64 ((wrap64 (bits .and .u64 ((IntKind.u64.wrap ((IntKind.u64.wrap (a0_2 * 6364136223846793005)) + 1442695040888963407)) / 8589934592) 16777215)) + (wrap64 (t18)))) a1, wrap64 (a0_1 + 1), IntKind.u64.wrap ((IntKind.u64.wrap (a0_2 * 6364136223846793005)) + 1442695040888963407)))) else (if (a1 == 0) = true then none else some (Int.tmod (wrap64 (bits .and .u64 ((IntKind.u64.wrap ((IntKind.u64.wrap (a0_2 * 6364136223846793005)) + 1442695040888963407)) / 8589934592) 16777215)) a1, a0_1, IntKind.u64.wrap ((IntKind.u64.wrap (a0_2 * 6364136223846793005)) + 1442695040888963407)))))

def spec_l01Pick.f (K : Nat) (a0_0 : List (Int)) (a0_1 : Int) (a0_2 : Int) (a1 : List (Int)) : Option (Int × Int × Int) := ((spec_l01Next.f K a0_0 a0_1 a0_2 (a1.length : Int)).bind fun (t3, t4, t5) => ((idx a1 t3).bind fun t12 => some (t12, t4, t5)))

def spec_l01DrawField.f (K : Nat) (a0_0 : List (Int)) (a0_1 : Int) (a0_2 : Int) : Option (Int × Int × Int) := ((spec_l01Pick.f K a0_0 a0_1 a0_2 ([3, 5, 5, 7, 7, 11, 13, 13, 17, 19, 23, 29, 31])).bind fun (t6, t7, t8) => some (t6, t7, t8))

def spec_l01DrawPoint.f (K : Nat) (a0_0 : List (Int)) (a0_1 : Int) (a0_2 : Int) (a1 : Int) : Option (Int × Int × Int × Int) := ((spec_l01Next.f K a0_0 a0_1 a0_2 4).bind fun (t7, t8, t9) => (if (t7 == 0) = true then ((spec_l01Next.f K a0_0 t8 t9 3).bind fun (t18, t19, t20) => ((spec_l01Next.f K a0_0 t19 t20 3).bind fun (t27, t28, t29) => some (t18, t27, t28, t29))) else ((spec_l01Next.f K a0_0 t8 t9 a1).bind fun (t42, t43, t44) => ((spec_l01Next.f K a0_0 t43 t44 a1).bind fun (t51, t52, t53) => some (t42, t51, t52, t53)))))

def spec_l06DrawOf.f (K : Nat) (a0_0 : List (Int)) (a0_1 : Int) (a0_2 : Int) (a1 : Int) : Option (Int × Int × Int × Int × Int) := ((spec_l01DrawPoint.f K a0_0 a0_1 a0_2 a1).bind fun (t6, t7, t8, t9) => ((spec_l01Next.f K a0_0 t8 t9 a1).bind fun (t16, t17, t18) => some (t6, t7, t16, t17, t18)))

def spec_l02DrawColour.f (K : Nat) (a0_0 : List (Int)) (a0_1 : Int) (a0_2 : Int) : Option (Int × Int × Int) := ((spec_l01Next.f K a0_0 a0_1 a0_2 40).bind fun (t4, t5, t6) => (if (t4 == 0) = true then ((spec_l01Pick.f K a0_0 t5 t6 ([(-1), 3, 1099511627776])).bind fun (t17, t18, t19) => some (t17, t18, t19)) else ((spec_l01Next.f K a0_0 t5 t6 3).bind fun (t27, t28, t29) => some (t27, t28, t29))))

def spec_l01BadField.f (K : Nat) (a0_0 : List (Int)) (a0_1 : Int) (a0_2 : Int) (a1 : Int) : Option (Int × Int × Int) := ((spec_l01Next.f K a0_0 a0_1 a0_2 40).bind fun (t4, t5, t6) => (if (t4 == 0) = true then ((spec_l01Pick.f K a0_0 t5 t6 ([2, 1, 0, (-3), 9, 15, 37, 1099511627776])).bind fun (t17, t18, t19) => some (t17, t18, t19)) else some (a1, t5, t6)))

def spec_l01BadPoint.f (K : Nat) (a0_0 : List (Int)) (a0_1 : Int) (a0_2 : Int) (a1 : Int) (a2_0 : Int) (a2_1 : Int) : Option (Int × Int × Int × Int) := ((spec_l01Next.f K a0_0 a0_1 a0_2 40).bind fun (t10, t11, t12) => (if (t10 == 0) = true then ((spec_l01Next.f K a0_0 t11 t12 2).bind fun (t21, t22, t23) => ((spec_l01Pick.f K a0_0 t22 t23 ([(-1), a1, 1099511627776])).bind fun (t34, t35, t36) => (if (t21 == 0) = true then some (t34, a2_1, t35, t36) else (if (t21 == 1) = true then some (a2_0, t34, t35, t36) else none)))) else some (a2_0, a2_1, t11, t12)))

def spec_l06Bad.f (K : Nat) (a0_0 : List (Int)) (a0_1 : Int) (a0_2 : Int) (a1 : Int) (a2_0 : Int) (a2_1 : Int) (a2_2 : Int) : Option (Int × Int × Int × Int × Int) := ((spec_l01Next.f K a0_0 a0_1 a0_2 40).bind fun (t10, t11, t12) => (if (t10 == 0) = true then ((spec_l01BadPoint.f K a0_0 t11 t12 a1 (-1) 0).bind fun (t22, t23, t24, t25) => some (t22, t23, a2_2, t24, t25)) else (if (t10 == 1) = true then ((spec_l01Pick.f K a0_0 t11 t12 ([(-1), a1, 1099511627776])).bind fun (t51, t52, t53) => some (a2_0, a2_1, t51, t52, t53)) else some (a2_0, a2_1, a2_2, t11, t12))))

def spec_l06Two.f (K : Nat) (a0 : List (Int)) : Option (Int × Int × Int × Int × Int × Int × Int × Int) := ((spec_l01From.f K a0).bind fun (t10, t11) => ((spec_l01DrawField.f K a0 t10 t11).bind fun (t16, t17, t18) => ((spec_l06DrawOf.f K a0 t17 t18 t16).bind fun (t24, t25, t26, t27, t28) => ((spec_l06DrawOf.f K a0 t27 t28 t16).bind fun (t33, t34, t35, t36, t37) => ((spec_l02DrawColour.f K a0 t36 t37).bind fun (t42, t43, t44) => ((spec_l01Next.f K a0 t43 t44 8).bind fun (t65, t66, t67) => (if (t65 == 0) = true then ((spec_l01BadField.f K a0 t66 t67 t16).bind fun (t90, t91, t92) => ((spec_l06Bad.f K a0 t91 t92 t16 t24 t25 t26).bind fun (t101, t102, t103, t104, t105) => ((spec_l06Bad.f K a0 t104 t105 t16 t24 t25 t35).bind fun (t114, t115, t116, t117, t118) => some (t90, t42, t101, t102, t103, t114, t115, t116)))) else ((spec_l01BadField.f K a0 t66 t67 t16).bind fun (t146, t147, t148) => ((spec_l06Bad.f K a0 t147 t148 t16 t24 t25 t26).bind fun (t157, t158, t159, t160, t161) => ((spec_l06Bad.f K a0 t160 t161 t16 t33 t34 t35).bind fun (t170, t171, t172, t173, t174) => some (t146, t42, t157, t158, t159, t170, t171, t172)))))))))))

def spec_DrawRadicalLine.f (K : Nat) (a0 : List (Int)) : Option (Int × Int × Int × Int × Int × Int × Int × Int) := ((spec_l06Two.f K a0).bind fun (t9, t10, t11, t12, t13, t14, t15, t16) => some (t9, t10, t11, t12, t13, t14, t15, t16))

def impl_IsField.f (K : Nat) (a0 : Int) : Option (Bool) := (if (a0 == 3) = true then some true else (if (a0 == 5) = true then some true else (if (a0 == 7) = true then some true else (if (a0 == 11) = true then some true else (if (a0 == 13) = true then some true else (if (a0 == 17) = true then some true else (if (a0 == 19) = true then some true else (if (a0 == 23) = true then some true else (if (a0 == 29) = true then some true else (if (a0 == 31) = true then some true else some false))))))))))

def impl_isColour.f (K : Nat) (a0 : Int) : Option (Bool) := (if decide (0 ≤ a0) = true then some (decide (a0 ≤ 2)) else some false)

def impl_isNumber.f (K : Nat) (a0 : Int) (a1 : Int) : Option (Bool) := (if decide (0 ≤ a1) = true then some (decide (a1 < a0)) else some false)


def impl_areNumbers.l0 (K : Nat) (a0 : Int) (a1 : List (Int)) : Nat → Int → Option (Bool)
  | 0, _ => none
  | k9 + 1, x4 => (if decide (x4 < (a1.length : Int)) = true then ((idx a1 x4).bind fun t19 => ((impl_isNumber.f K a0 t19).bind fun t25 => (if t25 = true then (impl_areNumbers.l0 K a0 a1 k9 (wrap64 (x4 + 1))) else some false))) else some true)
def impl_areNumbers.f (K : Nat) (a0 : Int) (a1 : List (Int)) : Option (Bool) := (impl_areNumbers.l0 K a0 a1 K 0)

def impl_isPoint.f (K : Nat) (a0 : Int) (a1_0 : Int) (a1_1 : Int) : Option (Bool) := ((impl_areNumbers.f K a0 ([a1_0, a1_1])).bind fun t6 => some t6)

def impl_isCircle.f (K : Nat) (a0 : Int) (a1_0 : Int) (a1_1 : Int) (a1_2 : Int) : Option (Bool) := ((impl_isPoint.f K a0 a1_0 a1_1).bind fun t6 => (if t6 = true then ((impl_isNumber.f K a0 a1_2).bind fun t11 => some t11) else some false))

def impl_RadicalLine_1.f (K : Nat) (f0_0 : Int) (f1_0 : Int) (f2_0 : Int) (f2_1 : Int) (f2_2 : Int) (f3_0 : Int) (f3_1 : Int) (f3_2 : Int) : Option (Bool) := ((impl_isColour.f K f0_0).bind fun t3 => (if t3 = true then ((impl_isCircle.f K f1_0 f2_0 f2_1 f2_2).bind fun t8 => (if t8 = true then ((impl_isCircle.f K f1_0 f3_0 f3_1 f3_2).bind fun t13 => some t13) else some false)) else some false))

def impl_asked__impl_RadicalLine_1.f (K : Nat) (a0 : Int) (c1_0_0 : Int) (c1_1_0 : Int) (c1_2_0 : Int) (c1_2_1 : Int) (c1_2_2 : Int) (c1_3_0 : Int) (c1_3_1 : Int) (c1_3_2 : Int) : Option (Int) := ((impl_IsField.f K a0).bind fun t4 => (if t4 = true then ((impl_RadicalLine_1.f K c1_0_0 c1_1_0 c1_2_0 c1_2_1 c1_2_2 c1_3_0 c1_3_1 c1_3_2).bind fun t11 => (if t11 = true then some 0 else some 2)) else some 1))

def impl_rest.f (K : Nat) (a0 : Int) (a1 : Int) : Option (Int) := (if (a0 == 0) = true then none else some (Int.tmod (wrap64 ((Int.tmod a1 a0) + a0)) a0))

def impl_less.f (K : Nat) (a0 : Int) (a1_0 : Int) (a1_1 : Int) (a2_0 : Int) (a2_1 : Int) : Option (Int × Int) := ((impl_rest.f K a0 (wrap64 (a1_0 - a2_0))).bind fun t12 => ((impl_rest.f K a0 (wrap64 (a1_1 - a2_1))).bind fun t14 => some (t12, t14)))

def impl_product.f (K : Nat) (a0 : Int) (a1 : Int) (a2_0 : Int) (a2_1 : Int) (a3_0 : Int) (a3_1 : Int) : Option (Int) := (if (a1 == 0) = true then ((impl_rest.f K a0 (wrap64 ((wrap64 (a2_0 * a3_0)) + (wrap64 (a2_1 * a3_1))))).bind fun t13 => some t13) else (if (a1 == 1) = true then ((impl_rest.f K a0 (wrap64 ((wrap64 (a2_0 * a3_0)) - (wrap64 (a2_1 * a3_1))))).bind fun t20 => some t20) else ((impl_rest.f K a0 (wrap64 ((wrap64 (a2_0 * a3_1)) + (wrap64 (a2_1 * a3_0))))).bind fun t25 => some t25)))

def impl_quadrance.f (K : Nat) (a0 : Int) (a1 : Int) (a2_0 : Int) (a2_1 : Int) (a3_0 : Int) (a3_1 : Int) : Option (Int) := ((impl_less.f K a0 a2_0 a2_1 a3_0 a3_1).bind fun (t9, t10) => ((impl_product.f K a0 a1 t9 t10 t9 t10).bind fun t21 => some t21))

def impl_power.f (K : Nat) (a0 : Int) (a1 : Int) (a2_0 : Int) (a2_1 : Int) (a2_2 : Int) (a3_0 : Int) (a3_1 : Int) : Option (Int) := ((impl_quadrance.f K a0 a1 a2_0 a2_1 a3_0 a3_1).bind fun t9 => ((impl_rest.f K a0 (wrap64 (t9 - a2_2))).bind fun t11 => some t11))

def impl_RadicalLine_2.f (K : Nat) (a0_0 : Int) (a0_1 : Int) (f0_0 : Int) (f1_0 : Int) (f2_0 : Int) (f2_1 : Int) (f2_2 : Int) (f3_0 : Int) (f3_1 : Int) (f3_2 : Int) : Option (Int) := ((impl_power.f K f0_0 f1_0 f2_0 f2_1 f2_2 a0_0 a0_1).bind fun t6 => ((impl_power.f K f0_0 f1_0 f3_0 f3_1 f3_2 a0_0 a0_1).bind fun t8 => ((impl_rest.f K f0_0 (wrap64 (t6 - t8))).bind fun t10 => some t10)))


def impl_inverse.l0 (K : Nat) (a0 : Int) (a1 : Int) : Nat → Int → Option (Int)
  | 0, _ => none
  | k9 + 1, x4 => (if decide (x4 < a0) = true then (if (a0 == 0) = true then none else (if ((Int.tmod (wrap64 (a1 * x4)) a0) == 1) = true then some x4 else (impl_inverse.l0 K a0 a1 k9 (wrap64 (x4 + 1))))) else some 0)
def impl_inverse.f (K : Nat) (a0 : Int) (a1 : Int) : Option (Int) := (impl_inverse.l0 K a0 a1 K 1)

def impl_divide.f (K : Nat) (a0 : Int) (a1 : Int) (a2 : Int) : Option (Int) := ((impl_inverse.f K a0 a2).bind fun t3 => ((impl_rest.f K a0 (wrap64 (a1 * t3))).bind fun t7 => some t7))

def impl_makeLine.f (K : Nat) (a0 : Int) (a1 : Int) (a2 : Int) (a3 : Int) : Option (Int × Int × Int) := ((impl_rest.f K a0 a1).bind fun t6 => ((impl_rest.f K a0 a2).bind fun t10 => ((impl_rest.f K a0 a3).bind fun t14 => (if (t6 == 0) = true then ((impl_divide.f K a0 t6 t10).bind fun t24 => ((impl_divide.f K a0 t10 t10).bind fun t28 => ((impl_divide.f K a0 t14 t10).bind fun t32 => some (t24, t28, t32)))) else ((impl_divide.f K a0 t6 t6).bind fun t40 => ((impl_divide.f K a0 t10 t6).bind fun t44 => ((impl_divide.f K a0 t14 t6).bind fun t48 => some (t40, t44, t48))))))))

def impl_RadicalLine.f (K : Nat) (a0 : Int) (a1 : Int) (a2_0 : Int) (a2_1 : Int) (a2_2 : Int) (a3_0 : Int) (a3_1 : Int) (a3_2 : Int) : Option (Int × Int × Int × Int) := ((impl_asked__impl_RadicalLine_1.f K a0 a1 a0 a2_0 a2_1 a2_2 a3_0 a3_1 a3_2).bind fun t19 => (if (t19 == 0) = true then (if (a2_0 == a3_0 && a2_1 == a3_1) = true then some (0, 0, 0, 5) else ((impl_RadicalLine_2.f K 0 0 a0 a1 a2_0 a2_1 a2_2 a3_0 a3_1 a3_2).bind fun t39 => ((impl_RadicalLine_2.f K 1 0 a0 a1 a2_0 a2_1 a2_2 a3_0 a3_1 a3_2).bind fun t44 => ((impl_RadicalLine_2.f K 0 1 a0 a1 a2_0 a2_1 a2_2 a3_0 a3_1 a3_2).bind fun t46 => ((impl_makeLine.f K a0 (wrap64 (t44 - t39)) (wrap64 (t46 - t39)) t39).bind fun (t48, t49, t50) => some (t48, t49, t50, 0)))))) else some (0, 0, 0, t19)))

def spec_l01In.f (K : Nat) (a0 : Int) (a1 : Int) (a2 : Int) : Option (Bool) := (if decide (a1 ≤ a0) = true then some (decide (a0 ≤ a2)) else some false)


def spec_l01Field.l0 (K : Nat) (a0 : Int) : Nat → Int → Option (Bool)
  | 0, _ => none
  | k16 + 1, x11 => (if decide ((wrap64 (x11 * x11)) ≤ a0) = true then (if (x11 == 0) = true then none else (if ((Int.tmod a0 x11) == 0) = true then some false else (spec_l01Field.l0 K a0 k16 (wrap64 (x11 + 1))))) else some true)
def spec_l01Field.f (K : Nat) (a0 : Int) : Option (Bool) := ((spec_l01In.f K a0 3 31).bind fun t4 => (if t4 = true then (spec_l01Field.l0 K a0 K 2) else some false))

def spec_l01Point.f (K : Nat) (a0 : Int) (a1_0 : Int) (a1_1 : Int) : Option (Bool) := ((spec_l01In.f K a1_0 0 (wrap64 (a0 - 1))).bind fun t6 => (if t6 = true then ((spec_l01In.f K a1_1 0 (wrap64 (a0 - 1))).bind fun t11 => some t11) else some false))


def spec_l01Code.l0 (K : Nat) (a0 : Int) (a1 : List (Int × Int)) : Nat → Int → Option (Int)
  | 0, _ => none
  | k16 + 1, x11 => (if decide (x11 < (a1.length : Int)) = true then ((idx a1 x11).bind fun (t26, t27) => ((spec_l01Point.f K a0 t26 t27).bind fun t32 => (if t32 = true then (spec_l01Code.l0 K a0 a1 k16 (wrap64 (x11 + 1))) else some 2))) else some 0)
def spec_l01Code.f (K : Nat) (a0 : Int) (a1 : List (Int × Int)) : Option (Int) := ((spec_l01Field.f K a0).bind fun t4 => (if t4 = true then (spec_l01Code.l0 K a0 a1 K 0) else some 1))

def spec_l02Colour.f (K : Nat) (a0 : Int) : Option (Bool) := ((spec_l01In.f K a0 0 2).bind fun t3 => some t3)

def spec_l02Code.f (K : Nat) (a0 : Int) (a1 : Int) (a2 : List (Int × Int)) : Option (Int) := ((spec_l01Code.f K a0 a2).bind fun t3 => (if (t3 == 0) = true then ((spec_l02Colour.f K a1).bind fun t10 => (if t10 = true then some t3 else some 2)) else some t3))

def spec_l06Is.f (K : Nat) (a0 : Int) (a1_0 : Int) (a1_1 : Int) (a1_2 : Int) : Option (Bool) := ((spec_l01Point.f K a0 a1_0 a1_1).bind fun t6 => (if t6 = true then ((spec_l01In.f K a1_2 0 (wrap64 (a0 - 1))).bind fun t11 => some t11) else some false))


def spec_l06Code.l0 (K : Nat) (a0 : Int) (a2 : List (Int × Int × Int)) : Nat → Int → Int → Option (Int)
  | 0, _, _ => none
  | k15 + 1, x9, x10 => (if decide (x10 < (a2.length : Int)) = true then (if (x9 == 0) = true then ((idx a2 x10).bind fun (t26, t27, t28) => ((spec_l06Is.f K a0 t26 t27 t28).bind fun t33 => (if t33 = true then (spec_l06Code.l0 K a0 a2 k15 x9 (wrap64 (x10 + 1))) else (spec_l06Code.l0 K a0 a2 k15 2 (wrap64 (x10 + 1)))))) else some x9) else some x9)
def spec_l06Code.f (K : Nat) (a0 : Int) (a1 : Int) (a2 : List (Int × Int × Int)) : Option (Int) := ((spec_l02Code.f K a0 a1 ([])).bind fun t3 => (spec_l06Code.l0 K a0 a2 K t3 0))

def spec_l01Mod.f (K : Nat) (a0 : Int) (a1 : Int) : Option (Int) := (if (a1 == 0) = true then none else some (Int.tmod (wrap64 ((Int.tmod a0 a1) + a1)) a1))

def spec_l01Minus.f (K : Nat) (a0 : Int) (a1_0 : Int) (a1_1 : Int) (a2_0 : Int) (a2_1 : Int) : Option (Int × Int) := ((spec_l01Mod.f K (wrap64 (a1_0 - a2_0)) a0).bind fun t12 => ((spec_l01Mod.f K (wrap64 (a1_1 - a2_1)) a0).bind fun t14 => some (t12, t14)))

def spec_l02Product.f (K : Nat) (a0 : Int) (a1 : Int) (a2_0 : Int) (a2_1 : Int) (a3_0 : Int) (a3_1 : Int) : Option (Int) := (if (a1 == 0) = true then ((spec_l01Mod.f K (wrap64 ((wrap64 (a2_0 * a3_0)) + (wrap64 (a2_1 * a3_1)))) a0).bind fun t13 => some t13) else (if (a1 == 1) = true then ((spec_l01Mod.f K (wrap64 ((wrap64 (a2_0 * a3_0)) - (wrap64 (a2_1 * a3_1)))) a0).bind fun t20 => some t20) else ((spec_l01Mod.f K (wrap64 ((wrap64 (a2_0 * a3_1)) + (wrap64 (a2_1 * a3_0)))) a0).bind fun t25 => some t25)))

def spec_l02Quadrance.f (K : Nat) (a0 : Int) (a1 : Int) (a2_0 : Int) (a2_1 : Int) (a3_0 : Int) (a3_1 : Int) : Option (Int) := ((spec_l01Minus.f K a0 a3_0 a3_1 a2_0 a2_1).bind fun (t9, t10) => ((spec_l02Product.f K a0 a1 t9 t10 t9 t10).bind fun t21 => some t21))


def spec_l01Inverse.l0 (K : Nat) (a1 : Int) : Nat → Int → Int → Int → Option (Int)
  | 0, _, _, _ => none
  | k16 + 1, x9, x10, x11 => (if decide (0 < x11) = true then (if ((Int.tmod x11 2) == 1) = true then (if (a1 == 0) = true then none else (spec_l01Inverse.l0 K a1 k16 (Int.tmod (wrap64 (x9 * x10)) a1) (Int.tmod (wrap64 (x10 * x10)) a1) (wrap64 (Int.tdiv x11 2)))) else (if (a1 == 0) = true then none else (spec_l01Inverse.l0 K a1 k16 x9 (Int.tmod (wrap64 (x10 * x10)) a1) (wrap64 (Int.tdiv x11 2))))) else some x9)
def spec_l01Inverse.f (K : Nat) (a0 : Int) (a1 : Int) : Option (Int) := ((spec_l01Mod.f K a0 a1).bind fun t3 => (spec_l01Inverse.l0 K a1 K 1 t3 (wrap64 (a1 - 2))))

def spec_l01Normal.f (K : Nat) (a0 : Int) (a1 : Int) (a2 : Int) (a3 : Int) : Option (Int × Int × Int) := ((spec_l01Mod.f K a1 a0).bind fun t6 => (if (t6 == 0) = true then ((spec_l01Mod.f K a2 a0).bind fun t13 => ((spec_l01Inverse.f K t13 a0).bind fun t18 => ((spec_l01Mod.f K (wrap64 (a1 * t18)) a0).bind fun t23 => ((spec_l01Mod.f K (wrap64 (a2 * t18)) a0).bind fun t27 => ((spec_l01Mod.f K (wrap64 (a3 * t18)) a0).bind fun t31 => some (t23, t27, t31)))))) else ((spec_l01Inverse.f K t6 a0).bind fun t39 => ((spec_l01Mod.f K (wrap64 (a1 * t39)) a0).bind fun t44 => ((spec_l01Mod.f K (wrap64 (a2 * t39)) a0).bind fun t48 => ((spec_l01Mod.f K (wrap64 (a3 * t39)) a0).bind fun t52 => some (t44, t48, t52)))))))

def spec_l06Radical.f (K : Nat) (a0 : Int) (a1 : Int) (a2_0 : Int) (a2_1 : Int) (a2_2 : Int) (a3_0 : Int) (a3_1 : Int) (a3_2 : Int) : Option (Int × Int × Int) := ((spec_l01Minus.f K a0 a3_0 a3_1 a2_0 a2_1).bind fun (t12, t13) => ((spec_l02Quadrance.f K a0 a1 0 0 a2_0 a2_1).bind fun t31 => ((spec_l02Quadrance.f K a0 a1 0 0 a3_0 a3_1).bind fun t33 => (if (a1 == 1) = true then ((spec_l01Normal.f K a0 (wrap64 (2 * t12)) (wrap64 (2 * (wrap64 (-t13)))) (wrap64 ((wrap64 ((wrap64 (t31 - t33)) - a2_2)) + a3_2))).bind fun (t48, t49, t50) => some (t48, t49, t50)) else (if (a1 == 2) = true then ((spec_l01Normal.f K a0 (wrap64 (2 * t13)) (wrap64 (2 * t12)) (wrap64 ((wrap64 ((wrap64 (t31 - t33)) - a2_2)) + a3_2))).bind fun (t61, t62, t63) => some (t61, t62, t63)) else ((spec_l01Normal.f K a0 (wrap64 (2 * t12)) (wrap64 (2 * t13)) (wrap64 ((wrap64 ((wrap64 (t31 - t33)) - a2_2)) + a3_2))).bind fun (t71, t72, t73) => some (t71, t72, t73)))))))

def spec_RadicalLine.f (K : Nat) (a0 : Int) (a1 : Int) (a2_0 : Int) (a2_1 : Int) (a2_2 : Int) (a3_0 : Int) (a3_1 : Int) (a3_2 : Int) : Option (Int × Int × Int × Int) := ((spec_l06Code.f K a0 a1 ([(a2_0, a2_1, a2_2), (a3_0, a3_1, a3_2)])).bind fun t15 => (if (t15 == 0) = true then (if (a2_0 == a3_0 && a2_1 == a3_1) = true then some (0, 0, 0, 5) else ((spec_l06Radical.f K a0 a1 a2_0 a2_1 a2_2 a3_0 a3_1 a3_2).bind fun (t35, t36, t37) => some (t35, t36, t37, 0))) else some (0, 0, 0, t15)))

def impl_MeetCircles_1.f (K : Nat) (f0_0 : Int) (f1_0 : Int) (f2_0 : Int) (f2_1 : Int) (f2_2 : Int) (f3_0 : Int) (f3_1 : Int) (f3_2 : Int) : Option (Bool) := ((impl_isColour.f K f0_0).bind fun t3 => (if t3 = true then ((impl_isCircle.f K f1_0 f2_0 f2_1 f2_2).bind fun t8 => (if t8 = true then ((impl_isCircle.f K f1_0 f3_0 f3_1 f3_2).bind fun t13 => some t13) else some false)) else some false))

def impl_asked__impl_MeetCircles_1.f (K : Nat) (a0 : Int) (c1_0_0 : Int) (c1_1_0 : Int) (c1_2_0 : Int) (c1_2_1 : Int) (c1_2_2 : Int) (c1_3_0 : Int) (c1_3_1 : Int) (c1_3_2 : Int) : Option (Int) := ((impl_IsField.f K a0).bind fun t4 => (if t4 = true then ((impl_MeetCircles_1.f K c1_0_0 c1_1_0 c1_2_0 c1_2_1 c1_2_2 c1_3_0 c1_3_1 c1_3_2).bind fun t11 => (if t11 = true then some 0 else some 2)) else some 1))

mutual
def impl_allPoints.l0 (K : Nat) (a0 : Int) : Nat → Int → List (Int × Int) → Option (List (Int × Int))
  | 0, _, _ => none
  | k19 + 1, x10, x11 => (if decide (x10 < a0) = true then (impl_allPoints.l1 K a0 x10 k19 0 x11) else some x11)
def impl_allPoints.l1 (K : Nat) (a0 : Int) (x10 : Int) : Nat → Int → List (Int × Int) → Option (List (Int × Int))
  | 0, _, _ => none
  | k38 + 1, x29, x30 => (if decide (x29 < a0) = true then (if decide (x30.length ≤ 1000000) = true then (impl_allPoints.l1 K a0 x10 k38 (wrap64 (x29 + 1)) (x30 ++ [(x10, x29)])) else none) else (impl_allPoints.l0 K a0 k38 (wrap64 (x10 + 1)) x30))
end
def impl_allPoints.f (K : Nat) (a0 : Int) : Option (List (Int × Int)) := (impl_allPoints.l0 K a0 K 0 ([] : List (Int × Int)))

def impl_MeetCircles_2.f (K : Nat) (a0_0 : Int) (a0_1 : Int) (f0_0 : Int) (f1_0 : Int) (f2_0 : Int) (f2_1 : Int) (f2_2 : Int) (f3_0 : Int) (f3_1 : Int) (f3_2 : Int) : Option (Bool) := ((impl_power.f K f0_0 f1_0 f2_0 f2_1 f2_2 a0_0 a0_1).bind fun t6 => (if (t6 == 0) = true then ((impl_power.f K f0_0 f1_0 f3_0 f3_1 f3_2 a0_0 a0_1).bind fun t11 => some (t11 == 0)) else some false))


def impl_pointsWith__impl_MeetCircles_2.l0 (K : Nat) (c1_0_0 : Int) (c1_1_0 : Int) (c1_2_0 : Int) (c1_2_1 : Int) (c1_2_2 : Int) (c1_3_0 : Int) (c1_3_1 : Int) (c1_3_2 : Int) (t8 : List (Int × Int)) : Nat → Int → List (Int × Int) → Option (List (Int × Int))
  | 0, _, _ => none
  | k28 + 1, x17, x18 => (if decide (x17 < (t8.length : Int)) = true then ((idx t8 x17).bind fun (t39, t40) => ((impl_MeetCircles_2.f K t39 t40 c1_0_0 c1_1_0 c1_2_0 c1_2_1 c1_2_2 c1_3_0 c1_3_1 c1_3_2).bind fun t52 => (if t52 = true then (if decide (x18.length ≤ 1000000) = true then (impl_pointsWith__impl_MeetCircles_2.l0 K c1_0_0 c1_1_0 c1_2_0 c1_2_1 c1_2_2 c1_3_0 c1_3_1 c1_3_2 t8 k28 (wrap64 (x17 + 1)) (x18 ++ [(t39, t40)])) else none) else (impl_pointsWith__impl_MeetCircles_2.l0 K c1_0_0 c1_1_0 c1_2_0 c1_2_1 c1_2_2 c1_3_0 c1_3_1 c1_3_2 t8 k28 (wrap64 (x17 + 1)) x18)))) else some x18)
def impl_pointsWith__impl_MeetCircles_2.f (K : Nat) (a0 : Int) (c1_0_0 : Int) (c1_1_0 : Int) (c1_2_0 : Int) (c1_2_1 : Int) (c1_2_2 : Int) (c1_3_0 : Int) (c1_3_1 : Int) (c1_3_2 : Int) : Option (List (Int × Int)) := ((impl_allPoints.f K a0).bind fun t8 => (impl_pointsWith__impl_MeetCircles_2.l0 K c1_0_0 c1_1_0 c1_2_0 c1_2_1 c1_2_2 c1_3_0 c1_3_1 c1_3_2 t8 K 0 ([] : List (Int × Int))))

def impl_MeetCircles.f (K : Nat) (a0 : Int) (a1 : Int) (a2_0 : Int) (a2_1 : Int) (a2_2 : Int) (a3_0 : Int) (a3_1 : Int) (a3_2 : Int) : Option (List (Int × Int) × Int) := ((impl_asked__impl_MeetCircles_1.f K a0 a1 a0 a2_0 a2_1 a2_2 a3_0 a3_1 a3_2).bind fun t16 => (if (t16 == 0) = true then ((impl_pointsWith__impl_MeetCircles_2.f K a0 a0 a1 a2_0 a2_1 a2_2 a3_0 a3_1 a3_2).bind fun t25 => some (t25, 0)) else some ([], t16)))

mutual
def spec_l02At.l0 (K : Nat) (a0 : Int) (a1 : Int) (a2_0 : Int) (a2_1 : Int) (a3 : Int) : Nat → Int → List (Int × Int) → Option (List (Int × Int))
  | 0, _, _ => none
  | k23 + 1, x13, x14 => (if decide (x13 < a0) = true then (spec_l02At.l1 K a0 a1 a2_0 a2_1 a3 x13 k23 0 x14) else some x14)
def spec_l02At.l1 (K : Nat) (a0 : Int) (a1 : Int) (a2_0 : Int) (a2_1 : Int) (a3 : Int) (x13 : Int) : Nat → Int → List (Int × Int) → Option (List (Int × Int))
  | 0, _, _ => none
  | k44 + 1, x34, x35 => (if decide (x34 < a0) = true then ((spec_l02Quadrance.f K a0 a1 a2_0 a2_1 x13 x34).bind fun t61 => (if (t61 == a3) = true then (if decide (x35.length ≤ 1000000) = true then (spec_l02At.l1 K a0 a1 a2_0 a2_1 a3 x13 k44 (wrap64 (x34 + 1)) (x35 ++ [(x13, x34)])) else none) else (spec_l02At.l1 K a0 a1 a2_0 a2_1 a3 x13 k44 (wrap64 (x34 + 1)) x35))) else (spec_l02At.l0 K a0 a1 a2_0 a2_1 a3 k44 (wrap64 (x13 + 1)) x35))
end
def spec_l02At.f (K : Nat) (a0 : Int) (a1 : Int) (a2_0 : Int) (a2_1 : Int) (a3 : Int) : Option (List (Int × Int)) := (spec_l02At.l0 K a0 a1 a2_0 a2_1 a3 K 0 ([] : List (Int × Int)))

def spec_l06Power.f (K : Nat) (a0 : Int) (a1 : Int) (a2_0 : Int) (a2_1 : Int) (a2_2 : Int) (a3_0 : Int) (a3_1 : Int) : Option (Int) := ((spec_l02Quadrance.f K a0 a1 a2_0 a2_1 a3_0 a3_1).bind fun t9 => ((spec_l01Mod.f K (wrap64 (t9 - a2_2)) a0).bind fun t11 => some t11))


def spec_MeetCircles.l0 (K : Nat) (a0 : Int) (a1 : Int) (a3_0 : Int) (a3_1 : Int) (a3_2 : Int) (t21 : List (Int × Int)) : Nat → Int → List (Int × Int) → Option (List (Int × Int) × Int)
  | 0, _, _ => none
  | k45 + 1, x34, x35 => (if decide (x34 < (t21.length : Int)) = true then ((idx t21 x34).bind fun (t56, t57) => ((spec_l06Power.f K a0 a1 a3_0 a3_1 a3_2 t56 t57).bind fun t63 => (if (t63 == 0) = true then ((idx t21 x34).bind fun (t69, t70) => (if decide (x35.length ≤ 1000000) = true then (spec_MeetCircles.l0 K a0 a1 a3_0 a3_1 a3_2 t21 k45 (wrap64 (x34 + 1)) (x35 ++ [(t69, t70)])) else none)) else (spec_MeetCircles.l0 K a0 a1 a3_0 a3_1 a3_2 t21 k45 (wrap64 (x34 + 1)) x35)))) else some (x35, 0))
def spec_MeetCircles.f (K : Nat) (a0 : Int) (a1 : Int) (a2_0 : Int) (a2_1 : Int) (a2_2 : Int) (a3_0 : Int) (a3_1 : Int) (a3_2 : Int) : Option (List (Int × Int) × Int) := ((spec_l06Code.f K a0 a1 ([(a2_0, a2_1, a2_2), (a3_0, a3_1, a3_2)])).bind fun t13 => (if (t13 == 0) = true then ((spec_l02At.f K a0 a1 a2_0 a2_1 a2_2).bind fun t21 => (spec_MeetCircles.l0 K a0 a1 a3_0 a3_1 a3_2 t21 K 0 ([] : List (Int × Int)))) else some ([], t13)))


def laws_points9.l0 (K : Nat) (a0 : List (Int × Int)) (a1 : List (Int × Int)) : Nat → Int → Option (Bool)
  | 0, _ => none
  | k12 + 1, x7 => (if decide (x7 < (a0.length : Int)) = true then ((idx a0 x7).bind fun (t22, t23) => ((idx a1 x7).bind fun (t29, t30) => (if (t22 == t29 && t23 == t30) = true then (laws_points9.l0 K a0 a1 k12 (wrap64 (x7 + 1))) else some false))) else some true)
def laws_points9.f (K : Nat) (a0 : List (Int × Int)) (a1 : List (Int × Int)) : Option (Bool) := (if ((a0.length : Int) == (a1.length : Int)) = true then (laws_points9.l0 K a0 a1 K 0) else some false)

def spec_DrawRadicalCentre.f (K : Nat) (a0 : List (Int)) : Option (Int × Int × Int × Int × Int × Int × Int × Int × Int × Int × Int) := ((spec_l01From.f K a0).bind fun (t13, t14) => ((spec_l06Two.f K a0).bind fun (t19, t20, t21, t22, t23, t24, t25, t26) => ((spec_l06DrawOf.f K a0 t13 t14 (imin (imax t19 3) 31)).bind fun (t45, t46, t47, t48, t49) => some (t19, t20, t21, t22, t23, t24, t25, t26, t45, t46, t47))))

def impl_RadicalCentre_1.f (K : Nat) (f0_0 : Int) (f1_0 : Int) (f2_0 : Int) (f2_1 : Int) (f2_2 : Int) (f3_0 : Int) (f3_1 : Int) (f3_2 : Int) (f4_0 : Int) (f4_1 : Int) (f4_2 : Int) : Option (Bool) := ((impl_isColour.f K f0_0).bind fun t3 => (if t3 = true then ((impl_isCircle.f K f1_0 f2_0 f2_1 f2_2).bind fun t8 => (if t8 = true then ((impl_isCircle.f K f1_0 f3_0 f3_1 f3_2).bind fun t13 => (if t13 = true then ((impl_isCircle.f K f1_0 f4_0 f4_1 f4_2).bind fun t18 => some t18) else some false)) else some false)) else some false))

def impl_asked__impl_RadicalCentre_1.f (K : Nat) (a0 : Int) (c1_0_0 : Int) (c1_1_0 : Int) (c1_2_0 : Int) (c1_2_1 : Int) (c1_2_2 : Int) (c1_3_0 : Int) (c1_3_1 : Int) (c1_3_2 : Int) (c1_4_0 : Int) (c1_4_1 : Int) (c1_4_2 : Int) : Option (Int) := ((impl_IsField.f K a0).bind fun t4 => (if t4 = true then ((impl_RadicalCentre_1.f K c1_0_0 c1_1_0 c1_2_0 c1_2_1 c1_2_2 c1_3_0 c1_3_1 c1_3_2 c1_4_0 c1_4_1 c1_4_2).bind fun t11 => (if t11 = true then some 0 else some 2)) else some 1))

def impl_area.f (K : Nat) (a0 : Int) (a1_0 : Int) (a1_1 : Int) (a2_0 : Int) (a2_1 : Int) (a3_0 : Int) (a3_1 : Int) : Option (Int) := ((impl_less.f K a0 a2_0 a2_1 a1_0 a1_1).bind fun (t12, t13) => ((impl_less.f K a0 a3_0 a3_1 a1_0 a1_1).bind fun (t15, t16) => ((impl_rest.f K a0 (wrap64 ((wrap64 (t12 * t16)) - (wrap64 (t13 * t15))))).bind fun t34 => some t34)))


def impl_RadicalCentre.l0 (K : Nat) (a0 : Int) (a1 : Int) (a2_0 : Int) (a2_1 : Int) (a2_2 : Int) (a3_0 : Int) (a3_1 : Int) (a3_2 : Int) (a4_0 : Int) (a4_1 : Int) (a4_2 : Int) (t50 : List (Int × Int)) : Nat → Int → Int → Int → Option (Int × Int × Int)
  | 0, _, _, _ => none
  | k65 + 1, x56, x57, x58 => (if decide (x56 < (t50.length : Int)) = true then ((idx t50 x56).bind fun (t80, t81) => ((impl_power.f K a0 a1 a2_0 a2_1 a2_2 t80 t81).bind fun t93 => ((impl_power.f K a0 a1 a3_0 a3_1 a3_2 t80 t81).bind fun t98 => (if (t93 == t98) = true then ((impl_power.f K a0 a1 a4_0 a4_1 a4_2 t80 t81).bind fun t105 => (if (t93 == t105) = true then some (t80, t81, 0) else (impl_RadicalCentre.l0 K a0 a1 a2_0 a2_1 a2_2 a3_0 a3_1 a3_2 a4_0 a4_1 a4_2 t50 k65 (wrap64 (x56 + 1)) x57 x58))) else (impl_RadicalCentre.l0 K a0 a1 a2_0 a2_1 a2_2 a3_0 a3_1 a3_2 a4_0 a4_1 a4_2 t50 k65 (wrap64 (x56 + 1)) x57 x58))))) else some (0, 0, 5))
def impl_RadicalCentre.f (K : Nat) (a0 : Int) (a1 : Int) (a2_0 : Int) (a2_1 : Int) (a2_2 : Int) (a3_0 : Int) (a3_1 : Int) (a3_2 : Int) (a4_0 : Int) (a4_1 : Int) (a4_2 : Int) : Option (Int × Int × Int) := ((impl_asked__impl_RadicalCentre_1.f K a0 a1 a0 a2_0 a2_1 a2_2 a3_0 a3_1 a3_2 a4_0 a4_1 a4_2).bind fun t22 => (if (t22 == 0) = true then ((impl_area.f K a0 a2_0 a2_1 a3_0 a3_1 a4_0 a4_1).bind fun t34 => (if (t34 == 0) = true then some (0, 0, 5) else ((impl_allPoints.f K a0).bind fun t50 => (impl_RadicalCentre.l0 K a0 a1 a2_0 a2_1 a2_2 a3_0 a3_1 a3_2 a4_0 a4_1 a4_2 t50 K 0 0 0)))) else some (0, 0, t22)))

def spec_l01Area.f (K : Nat) (a0 : Int) (a1_0 : Int) (a1_1 : Int) (a2_0 : Int) (a2_1 : Int) (a3_0 : Int) (a3_1 : Int) : Option (Int) := ((spec_l01Mod.f K (wrap64 ((wrap64 ((wrap64 (a2_0 - a1_0)) * (wrap64 (a3_1 - a1_1)))) - (wrap64 ((wrap64 (a2_1 - a1_1)) * (wrap64 (a3_0 - a1_0)))))) a0).bind fun t12 => some t12)

def spec_l01Meet.f (K : Nat) (a0 : Int) (a1_0 : Int) (a1_1 : Int) (a1_2 : Int) (a2_0 : Int) (a2_1 : Int) (a2_2 : Int) : Option (Int × Int × Bool) := ((spec_l01Mod.f K (wrap64 ((wrap64 (a1_0 * a2_1)) - (wrap64 (a1_1 * a2_0)))) a0).bind fun t12 => (if (t12 == 0) = true then some (0, 0, false) else ((spec_l01Inverse.f K t12 a0).bind fun t25 => (if (a0 == 0) = true then none else ((spec_l01Mod.f K (wrap64 ((Int.tmod (wrap64 ((wrap64 (a1_1 * a2_2)) - (wrap64 (a2_1 * a1_2)))) a0) * t25)) a0).bind fun t32 => ((spec_l01Mod.f K (wrap64 ((Int.tmod (wrap64 ((wrap64 (a2_0 * a1_2)) - (wrap64 (a1_0 * a2_2)))) a0) * t25)) a0).bind fun t34 => some (t32, t34, true)))))))

def spec_RadicalCentre.f (K : Nat) (a0 : Int) (a1 : Int) (a2_0 : Int) (a2_1 : Int) (a2_2 : Int) (a3_0 : Int) (a3_1 : Int) (a3_2 : Int) (a4_0 : Int) (a4_1 : Int) (a4_2 : Int) : Option (Int × Int × Int) := ((spec_l06Code.f K a0 a1 ([(a2_0, a2_1, a2_2), (a3_0, a3_1, a3_2), (a4_0, a4_1, a4_2)])).bind fun t18 => (if (t18 == 0) = true then ((spec_l01Area.f K a0 a2_0 a2_1 a3_0 a3_1 a4_0 a4_1).bind fun t28 => (if (t28 == 0) = true then some (0, 0, 5) else ((spec_l06Radical.f K a0 a1 a2_0 a2_1 a2_2 a3_0 a3_1 a3_2).bind fun (t46, t47, t48) => ((spec_l06Radical.f K a0 a1 a2_0 a2_1 a2_2 a4_0 a4_1 a4_2).bind fun (t50, t51, t52) => ((spec_l01Meet.f K a0 t46 t47 t48 t50 t51 t52).bind fun (t54, t55, t56) => some (t54, t55, 0)))))) else some (0, 0, t18)))


def spec_l04DrawOf.l0 (K : Nat) (a0_0 : List (Int)) (a1 : Int) (t12 : Int) (t13 : Int) : Nat → Int → Int → Int → Int → Int → Int → Int → Int → Int → Int → Int → Int → Int → Option (Int × Int × Int × Int × Int × Int × Int × Int)
  | 0, _, _, _, _, _, _, _, _, _, _, _, _, _ => none
  | k99 + 1, x74, x75, x76, x77, x78, x79, x80, x81, x82, x83, x84, x85, x86 => (if decide (x74 < 6) = true then ((spec_l01Area.f K a1 t12 t13 x83 x84 x85 x86).bind fun t108 => (if (t108 == 0) = true then ((spec_l01DrawPoint.f K a0_0 x75 x76 a1).bind fun (t115, t116, t117, t118) => ((spec_l01DrawPoint.f K a0_0 t117 t118 a1).bind fun (t140, t141, t142, t143) => (spec_l04DrawOf.l0 K a0_0 a1 t12 t13 k99 (wrap64 (x74 + 1)) t142 t143 x77 x78 x79 x80 x81 x82 t115 t116 t140 t141))) else some (t12, t13, x83, x84, x85, x86, x75, x76))) else some (t12, t13, x83, x84, x85, x86, x75, x76))
def spec_l04DrawOf.f (K : Nat) (a0_0 : List (Int)) (a0_1 : Int) (a0_2 : Int) (a1 : Int) : Option (Int × Int × Int × Int × Int × Int × Int × Int) := ((spec_l01DrawPoint.f K a0_0 a0_1 a0_2 a1).bind fun (t12, t13, t14, t15) => ((spec_l01DrawPoint.f K a0_0 t14 t15 a1).bind fun (t24, t25, t26, t27) => ((spec_l01DrawPoint.f K a0_0 t26 t27 a1).bind fun (t36, t37, t38, t39) => (spec_l04DrawOf.l0 K a0_0 a1 t12 t13 K 0 t38 t39 0 0 0 0 0 0 t24 t25 t36 t37))))

def spec_l01Plus.f (K : Nat) (a0 : Int) (a1_0 : Int) (a1_1 : Int) (a2_0 : Int) (a2_1 : Int) : Option (Int × Int) := ((spec_l01Mod.f K (wrap64 (a1_0 + a2_0)) a0).bind fun t12 => ((spec_l01Mod.f K (wrap64 (a1_1 + a2_1)) a0).bind fun t14 => some (t12, t14)))

def spec_l01Times.f (K : Nat) (a0 : Int) (a1 : Int) (a2_0 : Int) (a2_1 : Int) : Option (Int × Int) := ((spec_l01Mod.f K (wrap64 (a1 * a2_0)) a0).bind fun t9 => ((spec_l01Mod.f K (wrap64 (a1 * a2_1)) a0).bind fun t11 => some (t9, t11)))

def spec_l01Middle.f (K : Nat) (a0 : Int) (a1_0 : Int) (a1_1 : Int) (a2_0 : Int) (a2_1 : Int) : Option (Int × Int) := ((spec_l01Plus.f K a0 a1_0 a1_1 a2_0 a2_1).bind fun (t12, t13) => ((spec_l01Times.f K a0 (wrap64 (Int.tdiv (wrap64 (a0 + 1)) 2)) t12 t13).bind fun (t17, t18) => some (t17, t18)))

def spec_l04Draw.f (K : Nat) (a0 : List (Int)) : Option (Int × Int × Int × Int × Int × Int × Int × Int) := ((spec_l01From.f K a0).bind fun (t13, t14) => ((spec_l01DrawField.f K a0 t13 t14).bind fun (t19, t20, t21) => ((spec_l04DrawOf.f K a0 t20 t21 t19).bind fun (t27, t28, t29, t30, t31, t32, t33, t34) => ((spec_l02DrawColour.f K a0 t33 t34).bind fun (t64, t65, t66) => ((spec_l01Next.f K a0 t65 t66 24).bind fun (t76, t77, t78) => (if (t76 == 0) = true then ((spec_l01Middle.f K t19 t27 t28 t29 t30).bind fun (t91, t92) => ((spec_l01BadField.f K a0 t77 t78 t19).bind fun (t110, t111, t112) => ((spec_l01BadPoint.f K a0 t111 t112 t19 t27 t28).bind fun (t123, t124, t125, t126) => ((spec_l01BadPoint.f K a0 t125 t126 t19 t29 t30).bind fun (t137, t138, t139, t140) => ((spec_l01BadPoint.f K a0 t139 t140 t19 t91 t92).bind fun (t151, t152, t153, t154) => some (t110, t64, t123, t124, t137, t138, t151, t152)))))) else ((spec_l01BadField.f K a0 t77 t78 t19).bind fun (t197, t198, t199) => ((spec_l01BadPoint.f K a0 t198 t199 t19 t27 t28).bind fun (t210, t211, t212, t213) => ((spec_l01BadPoint.f K a0 t212 t213 t19 t29 t30).bind fun (t224, t225, t226, t227) => ((spec_l01BadPoint.f K a0 t226 t227 t19 t31 t32).bind fun (t238, t239, t240, t241) => some (t197, t64, t210, t211, t224, t225, t238, t239)))))))))))

def spec_l04Code.f (K : Nat) (a0 : Int) (a1 : Int) (a2_0 : Int) (a2_1 : Int) (a3_0 : Int) (a3_1 : Int) (a4_0 : Int) (a4_1 : Int) : Option (Int) := ((spec_l02Code.f K a0 a1 ([(a2_0, a2_1), (a3_0, a3_1), (a4_0, a4_1)])).bind fun t15 => (if (t15 == 0) = true then ((spec_l01Area.f K a0 a2_0 a2_1 a3_0 a3_1 a4_0 a4_1).bind fun t24 => (if (t24 == 0) = true then some 5 else some t15)) else some t15))

def spec_l02Through.f (K : Nat) (a0 : Int) (a1 : Int) (a2_0 : Int) (a2_1 : Int) (a3_0 : Int) (a3_1 : Int) : Option (Int × Int × Int) := (if (a1 == 1) = true then ((spec_l01Mod.f K (wrap64 (-a2_1)) a0).bind fun t19 => ((spec_l01Mod.f K (wrap64 (-(wrap64 ((wrap64 (a2_0 * a3_0)) + (wrap64 (t19 * a3_1)))))) a0).bind fun t24 => ((spec_l01Normal.f K a0 a2_0 t19 t24).bind fun (t28, t29, t30) => some (t28, t29, t30)))) else (if (a1 == 2) = true then ((spec_l01Mod.f K (wrap64 (-(wrap64 ((wrap64 (a2_1 * a3_0)) + (wrap64 (a2_0 * a3_1)))))) a0).bind fun t41 => ((spec_l01Normal.f K a0 a2_1 a2_0 t41).bind fun (t45, t46, t47) => some (t45, t46, t47))) else ((spec_l01Mod.f K (wrap64 (-(wrap64 ((wrap64 (a2_0 * a3_0)) + (wrap64 (a2_1 * a3_1)))))) a0).bind fun t55 => ((spec_l01Normal.f K a0 a2_0 a2_1 t55).bind fun (t59, t60, t61) => some (t59, t60, t61)))))

def spec_l04Circumcentre.f (K : Nat) (a0 : Int) (a1 : Int) (a2_0 : Int) (a2_1 : Int) (a3_0 : Int) (a3_1 : Int) (a4_0 : Int) (a4_1 : Int) : Option (Int × Int) := ((spec_l01Minus.f K a0 a2_0 a2_1 a3_0 a3_1).bind fun (t15, t16) => ((spec_l01Middle.f K a0 a2_0 a2_1 a3_0 a3_1).bind fun (t18, t19) => ((spec_l02Through.f K a0 a1 t15 t16 t18 t19).bind fun (t21, t22, t23) => ((spec_l01Minus.f K a0 a2_0 a2_1 a4_0 a4_1).bind fun (t33, t34) => ((spec_l01Middle.f K a0 a2_0 a2_1 a4_0 a4_1).bind fun (t36, t37) => ((spec_l02Through.f K a0 a1 t33 t34 t36 t37).bind fun (t39, t40, t41) => ((spec_l01Meet.f K a0 t21 t22 t23 t39 t40 t41).bind fun (t51, t52, t53) => some (t51, t52))))))))

def spec_l06Through.f (K : Nat) (a0 : Int) (a1 : Int) (a2_0 : Int) (a2_1 : Int) (a3_0 : Int) (a3_1 : Int) (a4_0 : Int) (a4_1 : Int) : Option (Int × Int × Int) := ((spec_l04Circumcentre.f K a0 a1 a2_0 a2_1 a3_0 a3_1 a4_0 a4_1).bind fun (t15, t16) => ((spec_l02Quadrance.f K a0 a1 t15 t16 a2_0 a2_1).bind fun t27 => some (t15, t16, t27)))

def spec_DrawAreCyclic.f (K : Nat) (a0 : List (Int)) : Option (Int × Int × Int × Int × Int × Int × Int × Int × Int × Int) := ((spec_l01From.f K a0).bind fun (t16, t17) => ((spec_l04Draw.f K a0).bind fun (t22, t23, t24, t25, t26, t27, t28, t29) => ((spec_l01DrawPoint.f K a0 t16 t17 (imin (imax t22 3) 31)).bind fun (t58, t59, t60, t61) => ((spec_l04Code.f K t22 t23 t24 t25 t26 t27 t28 t29).bind fun t77 => (if (t77 == 0) = true then ((spec_l01Next.f K a0 t60 t61 2).bind fun (t91, t92, t93) => (if (t91 == 0) = true then ((spec_l06Through.f K t22 t23 t24 t25 t26 t27 t28 t29).bind fun (t109, t110, t111) => ((spec_l02At.f K t22 t23 t109 t110 t111).bind fun t122 => ((spec_l01Next.f K a0 t92 t93 (t122.length : Int)).bind fun (t128, t129, t130) => ((idx t122 t128).bind fun (t144, t145) => some (t22, t23, t24, t25, t26, t27, t28, t29, t144, t145))))) else some (t22, t23, t24, t25, t26, t27, t28, t29, t58, t59))) else some (t22, t23, t24, t25, t26, t27, t28, t29, t58, t59))))))


def impl_arePoints.l0 (K : Nat) (a0 : Int) (a1 : List (Int × Int)) : Nat → Int → Option (Bool)
  | 0, _ => none
  | k9 + 1, x4 => (if decide (x4 < (a1.length : Int)) = true then ((idx a1 x4).bind fun (t19, t20) => ((impl_isPoint.f K a0 t19 t20).bind fun t32 => (if t32 = true then (impl_arePoints.l0 K a0 a1 k9 (wrap64 (x4 + 1))) else some false))) else some true)
def impl_arePoints.f (K : Nat) (a0 : Int) (a1 : List (Int × Int)) : Option (Bool) := (impl_arePoints.l0 K a0 a1 K 0)

def impl_AreCyclic_1.f (K : Nat) (f0_0 : Int) (f1_0 : Int) (f2_0 : Int) (f2_1 : Int) (f3_0 : Int) (f3_1 : Int) (f4_0 : Int) (f4_1 : Int) (f5_0 : Int) (f5_1 : Int) : Option (Bool) := ((impl_isColour.f K f0_0).bind fun t3 => (if t3 = true then ((impl_arePoints.f K f1_0 ([(f2_0, f2_1), (f3_0, f3_1), (f4_0, f4_1), (f5_0, f5_1)])).bind fun t11 => some t11) else some false))

def impl_asked__impl_AreCyclic_1.f (K : Nat) (a0 : Int) (c1_0_0 : Int) (c1_1_0 : Int) (c1_2_0 : Int) (c1_2_1 : Int) (c1_3_0 : Int) (c1_3_1 : Int) (c1_4_0 : Int) (c1_4_1 : Int) (c1_5_0 : Int) (c1_5_1 : Int) : Option (Int) := ((impl_IsField.f K a0).bind fun t4 => (if t4 = true then ((impl_AreCyclic_1.f K c1_0_0 c1_1_0 c1_2_0 c1_2_1 c1_3_0 c1_3_1 c1_4_0 c1_4_1 c1_5_0 c1_5_1).bind fun t11 => (if t11 = true then some 0 else some 2)) else some 1))


def impl_circumcentre.l0 (K : Nat) (a0 : Int) (a1 : Int) (a2_0 : Int) (a2_1 : Int) (a3_0 : Int) (a3_1 : Int) (a4_0 : Int) (a4_1 : Int) (t16 : List (Int × Int)) : Nat → Int → Int → Int → Option (Int × Int)
  | 0, _, _, _ => none
  | k31 + 1, x22, x23, x24 => (if decide (x22 < (t16.length : Int)) = true then ((idx t16 x22).bind fun (t42, t43) => ((impl_quadrance.f K a0 a1 t42 t43 a2_0 a2_1).bind fun t55 => ((impl_quadrance.f K a0 a1 t42 t43 a3_0 a3_1).bind fun t60 => (if (t55 == t60) = true then ((impl_quadrance.f K a0 a1 t42 t43 a4_0 a4_1).bind fun t68 => (if (t55 == t68) = true then some (t42, t43) else (impl_circumcentre.l0 K a0 a1 a2_0 a2_1 a3_0 a3_1 a4_0 a4_1 t16 k31 (wrap64 (x22 + 1)) x23 x24))) else (impl_circumcentre.l0 K a0 a1 a2_0 a2_1 a3_0 a3_1 a4_0 a4_1 t16 k31 (wrap64 (x22 + 1)) x23 x24))))) else some (0, 0))
def impl_circumcentre.f (K : Nat) (a0 : Int) (a1 : Int) (a2_0 : Int) (a2_1 : Int) (a3_0 : Int) (a3_1 : Int) (a4_0 : Int) (a4_1 : Int) : Option (Int × Int) := ((impl_allPoints.f K a0).bind fun t16 => (impl_circumcentre.l0 K a0 a1 a2_0 a2_1 a3_0 a3_1 a4_0 a4_1 t16 K 0 0 0))

def impl_circleThrough.f (K : Nat) (a0 : Int) (a1 : Int) (a2_0 : Int) (a2_1 : Int) (a3_0 : Int) (a3_1 : Int) (a4_0 : Int) (a4_1 : Int) : Option (Int × Int × Int) := ((impl_circumcentre.f K a0 a1 a2_0 a2_1 a3_0 a3_1 a4_0 a4_1).bind fun (t15, t16) => ((impl_quadrance.f K a0 a1 t15 t16 a2_0 a2_1).bind fun t27 => some (t15, t16, t27)))

def impl_AreCyclic.f (K : Nat) (a0 : Int) (a1 : Int) (a2_0 : Int) (a2_1 : Int) (a3_0 : Int) (a3_1 : Int) (a4_0 : Int) (a4_1 : Int) (a5_0 : Int) (a5_1 : Int) : Option (Bool × Int) := ((impl_asked__impl_AreCyclic_1.f K a0 a1 a0 a2_0 a2_1 a3_0 a3_1 a4_0 a4_1 a5_0 a5_1).bind fun t22 => (if (t22 == 0) = true then ((impl_area.f K a0 a2_0 a2_1 a3_0 a3_1 a4_0 a4_1).bind fun t34 => (if (t34 == 0) = true then some (false, 5) else ((impl_circleThrough.f K a0 a1 a2_0 a2_1 a3_0 a3_1 a4_0 a4_1).bind fun (t42, t43, t44) => ((impl_power.f K a0 a1 t42 t43 t44 a5_0 a5_1).bind fun t46 => some (t46 == 0, 0))))) else some (false, t22)))

def impl_isLine.f (K : Nat) (a0 : Int) (a1_0 : Int) (a1_1 : Int) (a1_2 : Int) : Option (Bool) := ((impl_areNumbers.f K a0 ([a1_0, a1_1, a1_2])).bind fun t7 => (if t7 = true then (if (a1_0 == 1) = true then some true else (if (a1_0 == 0) = true then some (a1_1 == 1) else some false)) else some false))

def impl_PointsOn_1.f (K : Nat) (f0_0 : Int) (f1_0 : Int) (f1_1 : Int) (f1_2 : Int) : Option (Bool) := ((impl_isLine.f K f0_0 f1_0 f1_1 f1_2).bind fun t3 => some t3)

def impl_asked__impl_PointsOn_1.f (K : Nat) (a0 : Int) (c1_0_0 : Int) (c1_1_0 : Int) (c1_1_1 : Int) (c1_1_2 : Int) : Option (Int) := ((impl_IsField.f K a0).bind fun t4 => (if t4 = true then ((impl_PointsOn_1.f K c1_0_0 c1_1_0 c1_1_1 c1_1_2).bind fun t11 => (if t11 = true then some 0 else some 2)) else some 1))

def impl_isOn.f (K : Nat) (a0 : Int) (a1_0 : Int) (a1_1 : Int) (a2_0 : Int) (a2_1 : Int) (a2_2 : Int) : Option (Bool) := (if (a0 == 0) = true then none else some ((Int.tmod (wrap64 ((wrap64 ((wrap64 (a2_0 * a1_0)) + (wrap64 (a2_1 * a1_1)))) + a2_2)) a0) == 0))

def impl_PointsOn_2.f (K : Nat) (a0_0 : Int) (a0_1 : Int) (f0_0 : Int) (f1_0 : Int) (f1_1 : Int) (f1_2 : Int) : Option (Bool) := ((impl_isOn.f K f0_0 a0_0 a0_1 f1_0 f1_1 f1_2).bind fun t6 => some t6)


def impl_pointsWith__impl_PointsOn_2.l0 (K : Nat) (c1_0_0 : Int) (c1_1_0 : Int) (c1_1_1 : Int) (c1_1_2 : Int) (t8 : List (Int × Int)) : Nat → Int → List (Int × Int) → Option (List (Int × Int))
  | 0, _, _ => none
  | k28 + 1, x17, x18 => (if decide (x17 < (t8.length : Int)) = true then ((idx t8 x17).bind fun (t39, t40) => ((impl_PointsOn_2.f K t39 t40 c1_0_0 c1_1_0 c1_1_1 c1_1_2).bind fun t52 => (if t52 = true then (if decide (x18.length ≤ 1000000) = true then (impl_pointsWith__impl_PointsOn_2.l0 K c1_0_0 c1_1_0 c1_1_1 c1_1_2 t8 k28 (wrap64 (x17 + 1)) (x18 ++ [(t39, t40)])) else none) else (impl_pointsWith__impl_PointsOn_2.l0 K c1_0_0 c1_1_0 c1_1_1 c1_1_2 t8 k28 (wrap64 (x17 + 1)) x18)))) else some x18)
def impl_pointsWith__impl_PointsOn_2.f (K : Nat) (a0 : Int) (c1_0_0 : Int) (c1_1_0 : Int) (c1_1_1 : Int) (c1_1_2 : Int) : Option (List (Int × Int)) := ((impl_allPoints.f K a0).bind fun t8 => (impl_pointsWith__impl_PointsOn_2.l0 K c1_0_0 c1_1_0 c1_1_1 c1_1_2 t8 K 0 ([] : List (Int × Int))))

def impl_PointsOn.f (K : Nat) (a0 : Int) (a1_0 : Int) (a1_1 : Int) (a1_2 : Int) : Option (List (Int × Int) × Int) := ((impl_asked__impl_PointsOn_1.f K a0 a0 a1_0 a1_1 a1_2).bind fun t10 => (if (t10 == 0) = true then ((impl_pointsWith__impl_PointsOn_2.f K a0 a0 a1_0 a1_1 a1_2).bind fun t18 => some (t18, 0)) else some ([], t10)))

def impl_PowerOf_1.f (K : Nat) (f0_0 : Int) (f1_0 : Int) (f2_0 : Int) (f2_1 : Int) (f2_2 : Int) (f3_0 : Int) (f3_1 : Int) : Option (Bool) := ((impl_isColour.f K f0_0).bind fun t3 => (if t3 = true then ((impl_isCircle.f K f1_0 f2_0 f2_1 f2_2).bind fun t8 => (if t8 = true then ((impl_isPoint.f K f1_0 f3_0 f3_1).bind fun t13 => some t13) else some false)) else some false))

def impl_asked__impl_PowerOf_1.f (K : Nat) (a0 : Int) (c1_0_0 : Int) (c1_1_0 : Int) (c1_2_0 : Int) (c1_2_1 : Int) (c1_2_2 : Int) (c1_3_0 : Int) (c1_3_1 : Int) : Option (Int) := ((impl_IsField.f K a0).bind fun t4 => (if t4 = true then ((impl_PowerOf_1.f K c1_0_0 c1_1_0 c1_2_0 c1_2_1 c1_2_2 c1_3_0 c1_3_1).bind fun t11 => (if t11 = true then some 0 else some 2)) else some 1))

def impl_PowerOf.f (K : Nat) (a0 : Int) (a1 : Int) (a2_0 : Int) (a2_1 : Int) (a2_2 : Int) (a3_0 : Int) (a3_1 : Int) : Option (Int × Int) := ((impl_asked__impl_PowerOf_1.f K a0 a1 a0 a2_0 a2_1 a2_2 a3_0 a3_1).bind fun t16 => (if (t16 == 0) = true then ((impl_power.f K a0 a1 a2_0 a2_1 a2_2 a3_0 a3_1).bind fun t25 => some (t25, 0)) else some (0, t16)))


def laws_hasPoint9.l0 (K : Nat) (a0 : List (Int × Int)) (a1_0 : Int) (a1_1 : Int) : Nat → Int → Option (Bool)
  | 0, _ => none
  | k12 + 1, x7 => (if decide (x7 < (a0.length : Int)) = true then ((idx a0 x7).bind fun (t22, t23) => (if (t22 == a1_0 && t23 == a1_1) = true then some true else (laws_hasPoint9.l0 K a0 a1_0 a1_1 k12 (wrap64 (x7 + 1))))) else some false)
def laws_hasPoint9.f (K : Nat) (a0 : List (Int × Int)) (a1_0 : Int) (a1_1 : Int) : Option (Bool) := (laws_hasPoint9.l0 K a0 a1_0 a1_1 K 0)

def impl_Quadrance_1.f (K : Nat) (f0_0 : Int) (f1_0 : Int) (f2_0 : Int) (f2_1 : Int) (f3_0 : Int) (f3_1 : Int) : Option (Bool) := ((impl_isColour.f K f0_0).bind fun t3 => (if t3 = true then ((impl_arePoints.f K f1_0 ([(f2_0, f2_1), (f3_0, f3_1)])).bind fun t11 => some t11) else some false))

def impl_asked__impl_Quadrance_1.f (K : Nat) (a0 : Int) (c1_0_0 : Int) (c1_1_0 : Int) (c1_2_0 : Int) (c1_2_1 : Int) (c1_3_0 : Int) (c1_3_1 : Int) : Option (Int) := ((impl_IsField.f K a0).bind fun t4 => (if t4 = true then ((impl_Quadrance_1.f K c1_0_0 c1_1_0 c1_2_0 c1_2_1 c1_3_0 c1_3_1).bind fun t11 => (if t11 = true then some 0 else some 2)) else some 1))

def impl_Quadrance.f (K : Nat) (a0 : Int) (a1 : Int) (a2_0 : Int) (a2_1 : Int) (a3_0 : Int) (a3_1 : Int) : Option (Int × Int) := ((impl_asked__impl_Quadrance_1.f K a0 a1 a0 a2_0 a2_1 a3_0 a3_1).bind fun t16 => (if (t16 == 0) = true then ((impl_quadrance.f K a0 a1 a2_0 a2_1 a3_0 a3_1).bind fun t25 => some (t25, 0)) else some (0, t16)))

def impl_ArchimedesOf_1.f (K : Nat) (f0_0 : Int) (f1_0 : Int) (f2_0 : Int) (f3_0 : Int) : Option (Bool) := ((impl_areNumbers.f K f0_0 ([f1_0, f2_0, f3_0])).bind fun t6 => some t6)

def impl_asked__impl_ArchimedesOf_1.f (K : Nat) (a0 : Int) (c1_0_0 : Int) (c1_1_0 : Int) (c1_2_0 : Int) (c1_3_0 : Int) : Option (Int) := ((impl_IsField.f K a0).bind fun t4 => (if t4 = true then ((impl_ArchimedesOf_1.f K c1_0_0 c1_1_0 c1_2_0 c1_3_0).bind fun t11 => (if t11 = true then some 0 else some 2)) else some 1))

def impl_archimedes.f (K : Nat) (a0 : Int) (a1 : Int) (a2 : Int) (a3 : Int) : Option (Int) := ((impl_rest.f K a0 (wrap64 ((wrap64 ((wrap64 ((wrap64 (a1 + a2)) + a3)) * (wrap64 ((wrap64 (a1 + a2)) + a3)))) - (wrap64 (2 * (wrap64 ((wrap64 ((wrap64 (a1 * a1)) + (wrap64 (a2 * a2)))) + (wrap64 (a3 * a3))))))))).bind fun t3 => some t3)

def impl_ArchimedesOf.f (K : Nat) (a0 : Int) (a1 : Int) (a2 : Int) (a3 : Int) : Option (Int × Int) := ((impl_asked__impl_ArchimedesOf_1.f K a0 a0 a1 a2 a3).bind fun t16 => (if (t16 == 0) = true then ((impl_archimedes.f K a0 a1 a2 a3).bind fun t25 => some (t25, 0)) else some (0, t16)))

def spec_AreCyclic.f (K : Nat) (a0 : Int) (a1 : Int) (a2_0 : Int) (a2_1 : Int) (a3_0 : Int) (a3_1 : Int) (a4_0 : Int) (a4_1 : Int) (a5_0 : Int) (a5_1 : Int) : Option (Bool × Int) := ((spec_l02Code.f K a0 a1 ([(a2_0, a2_1), (a3_0, a3_1), (a4_0, a4_1), (a5_0, a5_1)])).bind fun t18 => (if (t18 == 0) = true then ((spec_l04Code.f K a0 a1 a2_0 a2_1 a3_0 a3_1 a4_0 a4_1).bind fun t28 => (if (t28 == 0) = true then ((spec_l06Through.f K a0 a1 a2_0 a2_1 a3_0 a3_1 a4_0 a4_1).bind fun (t37, t38, t39) => ((spec_l06Power.f K a0 a1 t37 t38 t39 a5_0 a5_1).bind fun t41 => some (t41 == 0, 0))) else some (false, t28))) else some (false, t18)))


def laws_FnRadicals.l1 (K : Nat) (t73 : List (Int × Int)) (t76 : Int) (t243 : List (Int × Int)) : Nat → Int → Option (Bool)
  | 0, _ => none
  | k332 + 1, x327 => (if decide (x327 < (t73.length : Int)) = true then ((idx t73 x327).bind fun (t343, t344) => ((laws_hasPoint9.f K t243 t343 t344).bind fun t349 => (if t349 = true then (laws_FnRadicals.l1 K t73 t76 t243 k332 (wrap64 (x327 + 1))) else some false))) else some (t76 == 0))

def laws_FnRadicals.l0 (K : Nat) (t11 : Int) (t12 : Int) (t13 : Int) (t14 : Int) (t15 : Int) (t16 : Int) (t17 : Int) (t18 : Int) (t73 : List (Int × Int)) (t76 : Int) (t243 : List (Int × Int)) : Nat → Int → Option (Bool)
  | 0, _ => none
  | k261 + 1, x256 => (if decide (x256 < (t243.length : Int)) = true then ((idx t243 x256).bind fun (t271, t272) => ((impl_PowerOf.f K t11 t12 t13 t14 t15 t271 t272).bind fun (t278, t279) => ((idx t243 x256).bind fun (t284, t285) => ((impl_PowerOf.f K t11 t12 t16 t17 t18 t284 t285).bind fun (t291, t292) => (if (t279 == 0) = true then (if (t292 == 0) = true then (if (t278 == t291) = true then ((idx t243 x256).bind fun (t305, t306) => ((laws_hasPoint9.f K t73 t305 t306).bind fun t311 => (if (t278 == 0) = true then (if t311 = true then (laws_FnRadicals.l0 K t11 t12 t13 t14 t15 t16 t17 t18 t73 t76 t243 k261 (wrap64 (x256 + 1))) else some false) else (if t311 = true then some false else (laws_FnRadicals.l0 K t11 t12 t13 t14 t15 t16 t17 t18 t73 t76 t243 k261 (wrap64 (x256 + 1))))))) else some false) else some false) else some false))))) else (laws_FnRadicals.l1 K t73 t76 t243 k261 0))

def laws_FnRadicals.j2 (K : Nat) (t11 : Int) (t12 : Int) (t13 : Int) (t14 : Int) (t15 : Int) (t16 : Int) (t17 : Int) (t18 : Int) (t37 : Int) (t38 : Int) (t39 : Int) (t40 : Int) (t73 : List (Int × Int)) (t76 : Int) : Option (Bool) := (if (t40 == 0) = true then ((impl_PointsOn.f K t11 t37 t38 t39).bind fun (t243, t246) => (if (t246 == 0) = true then (if ((t243.length : Int) == t11) = true then (laws_FnRadicals.l0 K t11 t12 t13 t14 t15 t16 t17 t18 t73 t76 t243 K 0) else some false) else some false)) else some (t37 == 0 && (t38 == 0 && t39 == 0)))

def laws_FnRadicals.j1 (K : Nat) (t11 : Int) (t12 : Int) (t13 : Int) (t14 : Int) (t15 : Int) (t16 : Int) (t17 : Int) (t18 : Int) (t37 : Int) (t38 : Int) (t39 : Int) (t40 : Int) (t73 : List (Int × Int)) (t76 : Int) (t98 : Int) (t99 : Int) (t100 : Int) (t101 : Int) (t102 : Int) (t103 : Int) (t104 : Int) (t105 : Int) (t106 : Int) (t107 : Int) (t108 : Int) (t137 : Int) (t138 : Int) (t139 : Int) : Option (Bool) := (if (t139 == 0) = true then ((impl_PowerOf.f K t98 t99 t100 t101 t102 t137 t138).bind fun (t367, t368) => ((impl_PowerOf.f K t98 t99 t103 t104 t105 t137 t138).bind fun (t373, t374) => ((impl_PowerOf.f K t98 t99 t106 t107 t108 t137 t138).bind fun (t379, t380) => (if (t368 == 0) = true then (if (t374 == 0) = true then (if (t380 == 0) = true then (if (t367 == t373) = true then (if (t373 == t379) = true then (laws_FnRadicals.j2 K t11 t12 t13 t14 t15 t16 t17 t18 t37 t38 t39 t40 t73 t76) else some false) else some false) else some false) else some false) else some false)))) else (laws_FnRadicals.j2 K t11 t12 t13 t14 t15 t16 t17 t18 t37 t38 t39 t40 t73 t76))

def laws_FnRadicals.j0 (K : Nat) (t11 : Int) (t12 : Int) (t13 : Int) (t14 : Int) (t15 : Int) (t16 : Int) (t17 : Int) (t18 : Int) (t37 : Int) (t38 : Int) (t39 : Int) (t40 : Int) (t73 : List (Int × Int)) (t76 : Int) (t98 : Int) (t99 : Int) (t100 : Int) (t101 : Int) (t102 : Int) (t103 : Int) (t104 : Int) (t105 : Int) (t106 : Int) (t107 : Int) (t108 : Int) (t137 : Int) (t138 : Int) (t139 : Int) (t176 : Int) (t177 : Int) (t178 : Int) (t179 : Int) (t180 : Int) (t181 : Int) (t182 : Int) (t183 : Int) (t184 : Int) (t185 : Int) (t226 : Bool) (t227 : Int) : Option (Bool) := (if (t227 == 0) = true then (if t226 = true then ((impl_Quadrance.f K t176 t177 t178 t179 t180 t181).bind fun (t423, t424) => ((impl_Quadrance.f K t176 t177 t182 t183 t184 t185).bind fun (t429, t430) => (if (t424 == 0) = true then (if (t430 == 0) = true then (if (t176 == 0) = true then none else ((impl_Quadrance.f K t176 t177 t180 t181 t182 t183).bind fun (t470, t471) => ((impl_Quadrance.f K t176 t177 t184 t185 t178 t179).bind fun (t476, t477) => (if (t471 == 0) = true then (if (t477 == 0) = true then (if decide ((([] : List (Int)) ++ [Int.tmod (wrap64 (t423 * t429)) t176]).length ≤ 1000000) = true then ((impl_Quadrance.f K t176 t177 t178 t179 t182 t183).bind fun (t528, t529) => ((impl_Quadrance.f K t176 t177 t180 t181 t184 t185).bind fun (t534, t535) => (if (t529 == 0) = true then (if (t535 == 0) = true then (if decide (((([] : List (Int)) ++ [Int.tmod (wrap64 (t423 * t429)) t176]) ++ [Int.tmod (wrap64 (t470 * t476)) t176]).length ≤ 1000000) = true then ((idx (((([] : List (Int)) ++ [Int.tmod (wrap64 (t423 * t429)) t176]) ++ [Int.tmod (wrap64 (t470 * t476)) t176]) ++ [Int.tmod (wrap64 (t528 * t534)) t176]) 0).bind fun t578 => ((idx (((([] : List (Int)) ++ [Int.tmod (wrap64 (t423 * t429)) t176]) ++ [Int.tmod (wrap64 (t470 * t476)) t176]) ++ [Int.tmod (wrap64 (t528 * t534)) t176]) 1).bind fun t584 => ((idx (((([] : List (Int)) ++ [Int.tmod (wrap64 (t423 * t429)) t176]) ++ [Int.tmod (wrap64 (t470 * t476)) t176]) ++ [Int.tmod (wrap64 (t528 * t534)) t176]) 2).bind fun t590 => ((impl_ArchimedesOf.f K t176 t578 t584 t590).bind fun (t596, t597) => (if (t597 == 0) = true then (if (t596 == 0) = true then (laws_FnRadicals.j1 K t11 t12 t13 t14 t15 t16 t17 t18 t37 t38 t39 t40 t73 t76 t98 t99 t100 t101 t102 t103 t104 t105 t106 t107 t108 t137 t138 t139) else some false) else some false))))) else none) else some false) else some false))) else none) else some false) else some false)))) else some false) else some false))) else (laws_FnRadicals.j1 K t11 t12 t13 t14 t15 t16 t17 t18 t37 t38 t39 t40 t73 t76 t98 t99 t100 t101 t102 t103 t104 t105 t106 t107 t108 t137 t138 t139)) else (laws_FnRadicals.j1 K t11 t12 t13 t14 t15 t16 t17 t18 t37 t38 t39 t40 t73 t76 t98 t99 t100 t101 t102 t103 t104 t105 t106 t107 t108 t137 t138 t139))
def laws_FnRadicals.f (K : Nat) (a0 : List (Int)) : Option (Bool) := ((laws_big.f K a0).bind fun t4 => (if t4 = true then some true else ((spec_DrawRadicalLine.f K a0).bind fun (t11, t12, t13, t14, t15, t16, t17, t18) => ((impl_RadicalLine.f K t11 t12 t13 t14 t15 t16 t17 t18).bind fun (t37, t38, t39, t40) => ((spec_RadicalLine.f K t11 t12 t13 t14 t15 t16 t17 t18).bind fun (t52, t53, t54, t55) => (if (t40 == t55) = true then (if (t37 == t52 && (t38 == t53 && t39 == t54)) = true then ((impl_MeetCircles.f K t11 t12 t13 t14 t15 t16 t17 t18).bind fun (t73, t76) => ((spec_MeetCircles.f K t11 t12 t13 t14 t15 t16 t17 t18).bind fun (t82, t85) => (if (t76 == t85) = true then ((laws_points9.f K t73 t82).bind fun t92 => (if t92 = true then ((spec_DrawRadicalCentre.f K a0).bind fun (t98, t99, t100, t101, t102, t103, t104, t105, t106, t107, t108) => ((impl_RadicalCentre.f K t98 t99 t100 t101 t102 t103 t104 t105 t106 t107 t108).bind fun (t137, t138, t139) => ((spec_RadicalCentre.f K t98 t99 t100 t101 t102 t103 t104 t105 t106 t107 t108).bind fun (t151, t152, t153) => (if (t139 == t153) = true then (if (t137 == t151 && t138 == t152) = true then ((spec_DrawAreCyclic.f K a0).bind fun (t176, t177, t178, t179, t180, t181, t182, t183, t184, t185) => ((impl_AreCyclic.f K t176 t177 t178 t179 t180 t181 t182 t183 t184 t185).bind fun (t226, t227) => ((spec_AreCyclic.f K t176 t177 t178 t179 t180 t181 t182 t183 t184 t185).bind fun (t616, t617) => (if (t227 == t617) = true then (if t226 = true then (if t616 = true then (laws_FnRadicals.j0 K t11 t12 t13 t14 t15 t16 t17 t18 t37 t38 t39 t40 t73 t76 t98 t99 t100 t101 t102 t103 t104 t105 t106 t107 t108 t137 t138 t139 t176 t177 t178 t179 t180 t181 t182 t183 t184 t185 t226 t227) else some false) else (if t616 = true then some false else (laws_FnRadicals.j0 K t11 t12 t13 t14 t15 t16 t17 t18 t37 t38 t39 t40 t73 t76 t98 t99 t100 t101 t102 t103 t104 t105 t106 t107 t108 t137 t138 t139 t176 t177 t178 t179 t180 t181 t182 t183 t184 t185 t226 t227))) else some false)))) else some false) else some false)))) else some false)) else some false))) else some false) else some false))))))

end Go.Proofs.Ytccbmdpikalpfaa
