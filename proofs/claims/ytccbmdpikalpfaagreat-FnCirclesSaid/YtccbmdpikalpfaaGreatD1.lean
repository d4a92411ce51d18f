/- What the functions of the program compute, in plain Lean. -/
import Derived.Test.YtccbmdpikalpfaaGreatK
import Derived.Test.YtccbmdpikalpfaaGreatB3
namespace Go.Proofs.YtccbmdpikalpfaaGreat
open Go Go.RowKit
attribute [local go_sem] Oper.quiet Oper.quietAt Oper.quietUpon Act.put nm1 nm2 nm3 i64_w run_max2 run_min2 mkT_getD mkT_get mkT_set lookT_cons lookT_nil
attribute [local irreducible] wpList
set_option linter.unusedVariables false
set_option linter.unusedSimpArgs false

def laws_big.f (K : Nat) (a0 : List (Int)) : Option (Bool) := some (decide (4096 < (a0.length : Int)))


def spec_l01From.l0 (K : Nat) (a0 : List (Int)) : Nat → Int → Int → Int → Option (Int × Int)
  | 0, _, _, _ => none
  | k16 + 1, x8, x9, x10 => (if decide (x8 < (a0.length : Int)) = true then (if decide (x8 < 4096) = true then ((idx a0 x8).bind fun t26 => (spec_l01From.l0 K a0 k16 (wrap64 (x8 + 1)) x9 (IntKind.u64.wrap ((IntKind.u64.wrap ((IntKind.u64.wrap (x10 * 1099511628211)) + (IntKind.u64.wrap (t26)))) + 199)))) else some (x9, x10)) else some (x9, x10))
def spec_l01From.f (K : Nat) (a0 : List (Int)) : Option (Int × Int) := (spec_l01From.l0 K a0 K 0 0 (IntKind.u64.wrap (13701 + (IntKind.u64.wrap ((a0.length : Int))))))

def spec_l01Next.f (K : Nat) (a0_0 : List (Int)) (a0_1 : Int) (a0_2 : Int) (a1 : Int) : Option (Int × Int × Int) := (if decide (a1 < 1) = true then some (0, a0_1, a0_2) else (if decide (a0_1 < (a0_0.length : Int)) = true then ((idx a0_0 a0_1).bind fun t18 => (if (a1 == 0) = true then none else some (Int.tmod (wrap64 ((wrap64 (bits .and .u64 ((IntKind.u64.wrap ((IntKind.u64.wrap (a0_2 * 6364136223846793005)) + 1442695040888963407)) / 8589934592) 16777215)) + (wrap64 (t18)))) a1, wrap64 (a0_1 + 1), IntKind.u64.wrap ((IntKind.u64.wrap (a0_2 * 6364136223846793005)) + 1442695040888963407)))) else (if (a1 == 0) = true then none else some (Int.tmod (wrap64 (bits .and .u64 ((IntKind.u64.wrap ((IntKind.u64.wrap (a0_2 * 6364136223846793005)) + 1442695040888963407)) / 8589934592) 16777215)) a1, a0_1, IntKind.u64.wrap ((IntKind.u64.wrap (a0_2 * 6364136223846793005)) + 1442695040888963407)))))

def spec_l01Pick.f (K : Nat) (a0_0 : List (Int)) (a0_1 : Int) (a0_2 : Int) (a1 : List (Int)) : Option (Int × Int × Int) := ((spec_l01Next.f K a0_0 a0_1 a0_2 (a1.length : Int)).bind fun (t3, t4, t5) => ((idx a1 t3).bind fun t12 => some (t12, t4, t5)))

def spec_l01DrawField.f (K : Nat) (a0_0 : List (Int)) (a0_1 : Int) (a0_2 : Int) : Option (Int × Int × Int) := ((spec_l01Pick.f K a0_0 a0_1 a0_2 ([3, 5, 5, 7, 7, 11, 13, 13, 17, 19, 23, 29, 31])).bind fun (t6, t7, t8) => some (t6, t7, t8))

def spec_l01DrawPoint.f (K : Nat) (a0_0 : List (Int)) (a0_1 : Int) (a0_2 : Int) (a1 : Int) : Option (Int × Int × Int × Int) := ((spec_l01Next.f K a0_0 a0_1 a0_2 4).bind fun (t7, t8, t9) => (if (t7 == 0) = true then ((spec_l01Next.f K a0_0 t8 t9 3).bind fun (t18, t19, t20) => ((spec_l01Next.f K a0_0 t19 t20 3).bind fun (t27, t28, t29) => some (t18, t27, t28, t29))) else ((spec_l01Next.f K a0_0 t8 t9 a1).bind fun (t42, t43, t44) => ((spec_l01Next.f K a0_0 t43 t44 a1).bind fun (t51, t52, t53) => some (t42, t51, t52, t53)))))

def spec_l06DrawOf.f (K : Nat) (a0_0 : List (Int)) (a0_1 : Int) (a0_2 : Int) (a1 : Int) : Option (Int × Int × Int × Int × Int) := ((spec_l01DrawPoint.f K a0_0 a0_1 a0_2 a1).bind fun (t6, t7, t8, t9) => ((spec_l01Next.f K a0_0 t8 t9 a1).bind fun (t16, t17, t18) => some (t6, t7, t16, t17, t18)))

def spec_l02DrawColour.f (K : Nat) (a0_0 : List (Int)) (a0_1 : Int) (a0_2 : Int) : Option (Int × Int × Int) := ((spec_l01Next.f K a0_0 a0_1 a0_2 40).bind fun (t4, t5, t6) => (if (t4 == 0) = true then ((spec_l01Pick.f K a0_0 t5 t6 ([(-1), 3, 1099511627776])).bind fun (t17, t18, t19) => some (t17, t18, t19)) else ((spec_l01Next.f K a0_0 t5 t6 3).bind fun (t27, t28, t29) => some (t27, t28, t29))))

def spec_l01In.f (K : Nat) (a0 : Int) (a1 : Int) (a2 : Int) : Option (Bool) := (if decide (a1 ≤ a0) = true then some (decide (a0 ≤ a2)) else some false)

def spec_l02Colour.f (K : Nat) (a0 : Int) : Option (Bool) := ((spec_l01In.f K a0 0 2).bind fun t3 => some t3)

def spec_l01Mod.f (K : Nat) (a0 : Int) (a1 : Int) : Option (Int) := (if (a1 == 0) = true then none else some (Int.tmod (wrap64 ((Int.tmod a0 a1) + a1)) a1))

def spec_l01Minus.f (K : Nat) (a0 : Int) (a1_0 : Int) (a1_1 : Int) (a2_0 : Int) (a2_1 : Int) : Option (Int × Int) := ((spec_l01Mod.f K (wrap64 (a1_0 - a2_0)) a0).bind fun t12 => ((spec_l01Mod.f K (wrap64 (a1_1 - a2_1)) a0).bind fun t14 => some (t12, t14)))

def spec_l02Product.f (K : Nat) (a0 : Int) (a1 : Int) (a2_0 : Int) (a2_1 : Int) (a3_0 : Int) (a3_1 : Int) : Option (Int) := (if (a1 == 0) = true then ((spec_l01Mod.f K (wrap64 ((wrap64 (a2_0 * a3_0)) + (wrap64 (a2_1 * a3_1)))) a0).bind fun t13 => some t13) else (if (a1 == 1) = true then ((spec_l01Mod.f K (wrap64 ((wrap64 (a2_0 * a3_0)) - (wrap64 (a2_1 * a3_1)))) a0).bind fun t20 => some t20) else ((spec_l01Mod.f K (wrap64 ((wrap64 (a2_0 * a3_1)) + (wrap64 (a2_1 * a3_0)))) a0).bind fun t25 => some t25)))

def spec_l02Quadrance.f (K : Nat) (a0 : Int) (a1 : Int) (a2_0 : Int) (a2_1 : Int) (a3_0 : Int) (a3_1 : Int) : Option (Int) := ((spec_l01Minus.f K a0 a3_0 a3_1 a2_0 a2_1).bind fun (t9, t10) => ((spec_l02Product.f K a0 a1 t9 t10 t9 t10).bind fun t21 => some t21))

mutual
def spec_l02At.l0 (K : Nat) (a0 : Int) (a1 : Int) (a2_0 : Int) (a2_1 : Int) (a3 : Int) : Nat → Int → List (Int × Int) → Option (List (Int × Int))
  | 0, _, _ => none
  | k23 + 1, x13, x14 => (if decide (x13 < a0) = true then (spec_l02At.l1 K a0 a1 a2_0 a2_1 a3 x13 k23 0 x14) else some x14)
def spec_l02At.l1 (K : Nat) (a0 : Int) (a1 : Int) (a2_0 : Int) (a2_1 : Int) (a3 : Int) (x13 : Int) : Nat → Int → List (Int × Int) → Option (List (Int × Int))
  | 0, _, _ => none
  | k44 + 1, x34, x35 => (if decide (x34 < a0) = true then ((spec_l02Quadrance.f K a0 a1 a2_0 a2_1 x13 x34).bind fun t61 => (if (t61 == a3) = true then (if decide (x35.length ≤ 1000000) = true then (spec_l02At.l1 K a0 a1 a2_0 a2_1 a3 x13 k44 (wrap64 (x34 + 1)) (x35 ++ [(x13, x34)])) else none) else (spec_l02At.l1 K a0 a1 a2_0 a2_1 a3 x13 k44 (wrap64 (x34 + 1)) x35))) else (spec_l02At.l0 K a0 a1 a2_0 a2_1 a3 k44 (wrap64 (x13 + 1)) x35))
end
def spec_l02At.f (K : Nat) (a0 : Int) (a1 : Int) (a2_0 : Int) (a2_1 : Int) (a3 : Int) : Option (List (Int × Int)) := (spec_l02At.l0 K a0 a1 a2_0 a2_1 a3 K 0 ([] : List (Int × Int)))

def spec_l01BadField.f (K : Nat) (a0_0 : List (Int)) (a0_1 : Int) (a0_2 : Int) (a1 : Int) : Option (Int × Int × Int) := ((spec_l01Next.f K a0_0 a0_1 a0_2 40).bind fun (t4, t5, t6) => (if (t4 == 0) = true then ((spec_l01Pick.f K a0_0 t5 t6 ([2, 1, 0, (-3), 9, 15, 37, 1099511627776])).bind fun (t17, t18, t19) => some (t17, t18, t19)) else some (a1, t5, t6)))

def spec_l01BadPoint.f (K : Nat) (a0_0 : List (Int)) (a0_1 : Int) (a0_2 : Int) (a1 : Int) (a2_0 : Int) (a2_1 : Int) : Option (Int × Int × Int × Int) := ((spec_l01Next.f K a0_0 a0_1 a0_2 40).bind fun (t10, t11, t12) => (if (t10 == 0) = true then ((spec_l01Next.f K a0_0 t11 t12 2).bind fun (t21, t22, t23) => ((spec_l01Pick.f K a0_0 t22 t23 ([(-1), a1, 1099511627776])).bind fun (t34, t35, t36) => (if (t21 == 0) = true then some (t34, a2_1, t35, t36) else (if (t21 == 1) = true then some (a2_0, t34, t35, t36) else none)))) else some (a2_0, a2_1, t11, t12)))

def spec_l06Bad.f (K : Nat) (a0_0 : List (Int)) (a0_1 : Int) (a0_2 : Int) (a1 : Int) (a2_0 : Int) (a2_1 : Int) (a2_2 : Int) : Option (Int × Int × Int × Int × Int) := ((spec_l01Next.f K a0_0 a0_1 a0_2 40).bind fun (t10, t11, t12) => (if (t10 == 0) = true then ((spec_l01BadPoint.f K a0_0 t11 t12 a1 (-1) 0).bind fun (t22, t23, t24, t25) => some (t22, t23, a2_2, t24, t25)) else (if (t10 == 1) = true then ((spec_l01Pick.f K a0_0 t11 t12 ([(-1), a1, 1099511627776])).bind fun (t51, t52, t53) => some (a2_0, a2_1, t51, t52, t53)) else some (a2_0, a2_1, a2_2, t11, t12))))

def spec_l06With.f (K : Nat) (a0 : List (Int)) : Option (Int × Int × Int × Int × Int × Int × Int) := ((spec_l01From.f K a0).bind fun (t10, t11) => ((spec_l01DrawField.f K a0 t10 t11).bind fun (t16, t17, t18) => ((spec_l06DrawOf.f K a0 t17 t18 t16).bind fun (t24, t25, t26, t27, t28) => ((spec_l01DrawPoint.f K a0 t27 t28 t16).bind fun (t33, t34, t35, t36) => ((spec_l02DrawColour.f K a0 t35 t36).bind fun (t41, t42, t43) => ((spec_l02Colour.f K t41).bind fun t64 => (if t64 = true then ((spec_l01Next.f K a0 t42 t43 2).bind fun (t73, t74, t75) => (if (t73 == 0) = true then ((spec_l02At.f K t16 t41 t24 t25 t26).bind fun t87 => (if decide (0 < (t87.length : Int)) = true then ((spec_l01Next.f K a0 t74 t75 (t87.length : Int)).bind fun (t95, t96, t97) => ((idx t87 t95).bind fun (t107, t108) => ((spec_l01BadField.f K a0 t96 t97 t16).bind fun (t126, t127, t128) => ((spec_l06Bad.f K a0 t127 t128 t16 t24 t25 t26).bind fun (t137, t138, t139, t140, t141) => ((spec_l01BadPoint.f K a0 t140 t141 t16 t107 t108).bind fun (t150, t151, t152, t153) => some (t126, t41, t137, t138, t139, t150, t151)))))) else ((spec_l01BadField.f K a0 t74 t75 t16).bind fun (t181, t182, t183) => ((spec_l06Bad.f K a0 t182 t183 t16 t24 t25 t26).bind fun (t192, t193, t194, t195, t196) => ((spec_l01BadPoint.f K a0 t195 t196 t16 t33 t34).bind fun (t205, t206, t207, t208) => some (t181, t41, t192, t193, t194, t205, t206)))))) else ((spec_l01BadField.f K a0 t74 t75 t16).bind fun (t236, t237, t238) => ((spec_l06Bad.f K a0 t237 t238 t16 t24 t25 t26).bind fun (t247, t248, t249, t250, t251) => ((spec_l01BadPoint.f K a0 t250 t251 t16 t33 t34).bind fun (t260, t261, t262, t263) => some (t236, t41, t247, t248, t249, t260, t261)))))) else ((spec_l01BadField.f K a0 t42 t43 t16).bind fun (t291, t292, t293) => ((spec_l06Bad.f K a0 t292 t293 t16 t24 t25 t26).bind fun (t302, t303, t304, t305, t306) => ((spec_l01BadPoint.f K a0 t305 t306 t16 t33 t34).bind fun (t315, t316, t317, t318) => some (t291, t41, t302, t303, t304, t315, t316)))))))))))

def spec_DrawTangentAt.f (K : Nat) (a0 : List (Int)) : Option (Int × Int × Int × Int × Int × Int × Int) := ((spec_l06With.f K a0).bind fun (t9, t10, t11, t12, t13, t14, t15) => some (t9, t10, t11, t12, t13, t14, t15))

def impl_IsField.f (K : Nat) (a0 : Int) : Option (Bool) := (if (a0 == 3) = true then some true else (if (a0 == 5) = true then some true else (if (a0 == 7) = true then some true else (if (a0 == 11) = true then some true else (if (a0 == 13) = true then some true else (if (a0 == 17) = true then some true else (if (a0 == 19) = true then some true else (if (a0 == 23) = true then some true else (if (a0 == 29) = true then some true else (if (a0 == 31) = true then some true else some false))))))))))

def impl_isColour.f (K : Nat) (a0 : Int) : Option (Bool) := (if decide (0 ≤ a0) = true then some (decide (a0 ≤ 2)) else some false)

def impl_isNumber.f (K : Nat) (a0 : Int) (a1 : Int) : Option (Bool) := (if decide (0 ≤ a1) = true then some (decide (a1 < a0)) else some false)


def impl_areNumbers.l0 (K : Nat) (a0 : Int) (a1 : List (Int)) : Nat → Int → Option (Bool)
  | 0, _ => none
  | k9 + 1, x4 => (if decide (x4 < (a1.length : Int)) = true then ((idx a1 x4).bind fun t19 => ((impl_isNumber.f K a0 t19).bind fun t25 => (if t25 = true then (impl_areNumbers.l0 K a0 a1 k9 (wrap64 (x4 + 1))) else some false))) else some true)
def impl_areNumbers.f (K : Nat) (a0 : Int) (a1 : List (Int)) : Option (Bool) := (impl_areNumbers.l0 K a0 a1 K 0)

def impl_isPoint.f (K : Nat) (a0 : Int) (a1_0 : Int) (a1_1 : Int) : Option (Bool) := ((impl_areNumbers.f K a0 ([a1_0, a1_1])).bind fun t6 => some t6)

def impl_isCircle.f (K : Nat) (a0 : Int) (a1_0 : Int) (a1_1 : Int) (a1_2 : Int) : Option (Bool) := ((impl_isPoint.f K a0 a1_0 a1_1).bind fun t6 => (if t6 = true then ((impl_isNumber.f K a0 a1_2).bind fun t11 => some t11) else some false))

def impl_TangentAt_1.f (K : Nat) (f0_0 : Int) (f1_0 : Int) (f2_0 : Int) (f2_1 : Int) (f2_2 : Int) (f3_0 : Int) (f3_1 : Int) : Option (Bool) := ((impl_isColour.f K f0_0).bind fun t3 => (if t3 = true then ((impl_isCircle.f K f1_0 f2_0 f2_1 f2_2).bind fun t8 => (if t8 = true then ((impl_isPoint.f K f1_0 f3_0 f3_1).bind fun t13 => some t13) else some false)) else some false))

def impl_asked__impl_TangentAt_1.f (K : Nat) (a0 : Int) (c1_0_0 : Int) (c1_1_0 : Int) (c1_2_0 : Int) (c1_2_1 : Int) (c1_2_2 : Int) (c1_3_0 : Int) (c1_3_1 : Int) : Option (Int) := ((impl_IsField.f K a0).bind fun t4 => (if t4 = true then ((impl_TangentAt_1.f K c1_0_0 c1_1_0 c1_2_0 c1_2_1 c1_2_2 c1_3_0 c1_3_1).bind fun t11 => (if t11 = true then some 0 else some 2)) else some 1))

def impl_rest.f (K : Nat) (a0 : Int) (a1 : Int) : Option (Int) := (if (a0 == 0) = true then none else some (Int.tmod (wrap64 ((Int.tmod a1 a0) + a0)) a0))

def impl_less.f (K : Nat) (a0 : Int) (a1_0 : Int) (a1_1 : Int) (a2_0 : Int) (a2_1 : Int) : Option (Int × Int) := ((impl_rest.f K a0 (wrap64 (a1_0 - a2_0))).bind fun t12 => ((impl_rest.f K a0 (wrap64 (a1_1 - a2_1))).bind fun t14 => some (t12, t14)))

def impl_product.f (K : Nat) (a0 : Int) (a1 : Int) (a2_0 : Int) (a2_1 : Int) (a3_0 : Int) (a3_1 : Int) : Option (Int) := (if (a1 == 0) = true then ((impl_rest.f K a0 (wrap64 ((wrap64 (a2_0 * a3_0)) + (wrap64 (a2_1 * a3_1))))).bind fun t13 => some t13) else (if (a1 == 1) = true then ((impl_rest.f K a0 (wrap64 ((wrap64 (a2_0 * a3_0)) - (wrap64 (a2_1 * a3_1))))).bind fun t20 => some t20) else ((impl_rest.f K a0 (wrap64 ((wrap64 (a2_0 * a3_1)) + (wrap64 (a2_1 * a3_0))))).bind fun t25 => some t25)))

def impl_quadrance.f (K : Nat) (a0 : Int) (a1 : Int) (a2_0 : Int) (a2_1 : Int) (a3_0 : Int) (a3_1 : Int) : Option (Int) := ((impl_less.f K a0 a2_0 a2_1 a3_0 a3_1).bind fun (t9, t10) => ((impl_product.f K a0 a1 t9 t10 t9 t10).bind fun t21 => some t21))

def impl_power.f (K : Nat) (a0 : Int) (a1 : Int) (a2_0 : Int) (a2_1 : Int) (a2_2 : Int) (a3_0 : Int) (a3_1 : Int) : Option (Int) := ((impl_quadrance.f K a0 a1 a2_0 a2_1 a3_0 a3_1).bind fun t9 => ((impl_rest.f K a0 (wrap64 (t9 - a2_2))).bind fun t11 => some t11))


def impl_inverse.l0 (K : Nat) (a0 : Int) (a1 : Int) : Nat → Int → Option (Int)
  | 0, _ => none
  | k9 + 1, x4 => (if decide (x4 < a0) = true then (if (a0 == 0) = true then none else (if ((Int.tmod (wrap64 (a1 * x4)) a0) == 1) = true then some x4 else (impl_inverse.l0 K a0 a1 k9 (wrap64 (x4 + 1))))) else some 0)
def impl_inverse.f (K : Nat) (a0 : Int) (a1 : Int) : Option (Int) := (impl_inverse.l0 K a0 a1 K 1)

def impl_divide.f (K : Nat) (a0 : Int) (a1 : Int) (a2 : Int) : Option (Int) := ((impl_inverse.f K a0 a2).bind fun t3 => ((impl_rest.f K a0 (wrap64 (a1 * t3))).bind fun t7 => some t7))

def impl_makeLine.f (K : Nat) (a0 : Int) (a1 : Int) (a2 : Int) (a3 : Int) : Option (Int × Int × Int) := ((impl_rest.f K a0 a1).bind fun t6 => ((impl_rest.f K a0 a2).bind fun t10 => ((impl_rest.f K a0 a3).bind fun t14 => (if (t6 == 0) = true then ((impl_divide.f K a0 t6 t10).bind fun t24 => ((impl_divide.f K a0 t10 t10).bind fun t28 => ((impl_divide.f K a0 t14 t10).bind fun t32 => some (t24, t28, t32)))) else ((impl_divide.f K a0 t6 t6).bind fun t40 => ((impl_divide.f K a0 t10 t6).bind fun t44 => ((impl_divide.f K a0 t14 t6).bind fun t48 => some (t40, t44, t48))))))))

def impl_through.f (K : Nat) (a0 : Int) (a1_0 : Int) (a1_1 : Int) (a2_0 : Int) (a2_1 : Int) : Option (Int × Int × Int) := ((impl_makeLine.f K a0 a2_1 (wrap64 (-a2_0)) (wrap64 (-(wrap64 ((wrap64 (a2_1 * a1_0)) + (wrap64 ((wrap64 (-a2_0)) * a1_1))))))).bind fun (t15, t16, t17) => some (t15, t16, t17))

def impl_lineThrough.f (K : Nat) (a0 : Int) (a1_0 : Int) (a1_1 : Int) (a2_0 : Int) (a2_1 : Int) : Option (Int × Int × Int) := ((impl_less.f K a0 a2_0 a2_1 a1_0 a1_1).bind fun (t12, t13) => ((impl_through.f K a0 a1_0 a1_1 t12 t13).bind fun (t15, t16, t17) => some (t15, t16, t17)))


def impl_linesThrough.l0 (K : Nat) (a0 : Int) (a1_0 : Int) (a1_1 : Int) : Nat → Int → List (Int × Int × Int) → Option (List (Int × Int × Int))
  | 0, _, _ => none
  | k27 + 1, x17, x18 => (if decide (x17 < a0) = true then ((impl_rest.f K a0 (wrap64 ((wrap64 (-a1_0)) - (wrap64 (x17 * a1_1))))).bind fun t37 => (if decide (x18.length ≤ 1000000) = true then (impl_linesThrough.l0 K a0 a1_0 a1_1 k27 (wrap64 (x17 + 1)) (x18 ++ [(1, x17, t37)])) else none)) else some x18)
def impl_linesThrough.f (K : Nat) (a0 : Int) (a1_0 : Int) (a1_1 : Int) : Option (List (Int × Int × Int)) := ((impl_rest.f K a0 (wrap64 (-a1_1))).bind fun t6 => (impl_linesThrough.l0 K a0 a1_0 a1_1 K 0 ([(0, 1, t6)])))

def impl_way.f (K : Nat) (a0 : Int) (a1_0 : Int) (a1_1 : Int) (a1_2 : Int) : Option (Int × Int) := ((impl_rest.f K a0 (wrap64 (-a1_1))).bind fun t9 => some (t9, a1_0))

def impl_arePerpendicular.f (K : Nat) (a0 : Int) (a1 : Int) (a2_0 : Int) (a2_1 : Int) (a2_2 : Int) (a3_0 : Int) (a3_1 : Int) (a3_2 : Int) : Option (Bool) := ((impl_way.f K a0 a2_0 a2_1 a2_2).bind fun (t9, t10) => ((impl_way.f K a0 a3_0 a3_1 a3_2).bind fun (t12, t13) => ((impl_product.f K a0 a1 t9 t10 t12 t13).bind fun t15 => some (t15 == 0))))


def impl_perpendicular.l0 (K : Nat) (a0 : Int) (a1 : Int) (a2_0 : Int) (a2_1 : Int) (a2_2 : Int) (t13 : List (Int × Int × Int)) : Nat → Int → Int → Int → Int → Option (Int × Int × Int)
  | 0, _, _, _, _ => none
  | k29 + 1, x19, x20, x21, x22 => (if decide (x19 < (t13.length : Int)) = true then ((idx t13 x19).bind fun (t40, t41, t42) => ((impl_arePerpendicular.f K a0 a1 a2_0 a2_1 a2_2 t40 t41 t42).bind fun t54 => (if t54 = true then some (t40, t41, t42) else (impl_perpendicular.l0 K a0 a1 a2_0 a2_1 a2_2 t13 k29 (wrap64 (x19 + 1)) x20 x21 x22)))) else some (0, 0, 0))
def impl_perpendicular.f (K : Nat) (a0 : Int) (a1 : Int) (a2_0 : Int) (a2_1 : Int) (a2_2 : Int) (a3_0 : Int) (a3_1 : Int) : Option (Int × Int × Int) := ((impl_linesThrough.f K a0 a3_0 a3_1).bind fun t13 => (impl_perpendicular.l0 K a0 a1 a2_0 a2_1 a2_2 t13 K 0 0 0 0))

def impl_tangent.f (K : Nat) (a0 : Int) (a1 : Int) (a2_0 : Int) (a2_1 : Int) (a2_2 : Int) (a3_0 : Int) (a3_1 : Int) : Option (Int × Int × Int) := ((impl_lineThrough.f K a0 a2_0 a2_1 a3_0 a3_1).bind fun (t12, t13, t14) => ((impl_perpendicular.f K a0 a1 t12 t13 t14 a3_0 a3_1).bind fun (t16, t17, t18) => some (t16, t17, t18)))

def impl_TangentAt.f (K : Nat) (a0 : Int) (a1 : Int) (a2_0 : Int) (a2_1 : Int) (a2_2 : Int) (a3_0 : Int) (a3_1 : Int) : Option (Int × Int × Int × Int) := ((impl_asked__impl_TangentAt_1.f K a0 a1 a0 a2_0 a2_1 a2_2 a3_0 a3_1).bind fun t19 => (if (t19 == 0) = true then ((impl_power.f K a0 a1 a2_0 a2_1 a2_2 a3_0 a3_1).bind fun t30 => (if (t30 == 0) = true then (if (a3_0 == a2_0 && a3_1 == a2_1) = true then some (0, 0, 0, 5) else ((impl_tangent.f K a0 a1 a2_0 a2_1 a2_2 a3_0 a3_1).bind fun (t45, t46, t47) => some (t45, t46, t47, 0))) else some (0, 0, 0, 5))) else some (0, 0, 0, t19)))


def spec_l01Field.l0 (K : Nat) (a0 : Int) : Nat → Int → Option (Bool)
  | 0, _ => none
  | k16 + 1, x11 => (if decide ((wrap64 (x11 * x11)) ≤ a0) = true then (if (x11 == 0) = true then none else (if ((Int.tmod a0 x11) == 0) = true then some false else (spec_l01Field.l0 K a0 k16 (wrap64 (x11 + 1))))) else some true)
def spec_l01Field.f (K : Nat) (a0 : Int) : Option (Bool) := ((spec_l01In.f K a0 3 31).bind fun t4 => (if t4 = true then (spec_l01Field.l0 K a0 K 2) else some false))

def spec_l01Point.f (K : Nat) (a0 : Int) (a1_0 : Int) (a1_1 : Int) : Option (Bool) := ((spec_l01In.f K a1_0 0 (wrap64 (a0 - 1))).bind fun t6 => (if t6 = true then ((spec_l01In.f K a1_1 0 (wrap64 (a0 - 1))).bind fun t11 => some t11) else some false))


def spec_l01Code.l0 (K : Nat) (a0 : Int) (a1 : List (Int × Int)) : Nat → Int → Option (Int)
  | 0, _ => none
  | k16 + 1, x11 => (if decide (x11 < (a1.length : Int)) = true then ((idx a1 x11).bind fun (t26, t27) => ((spec_l01Point.f K a0 t26 t27).bind fun t32 => (if t32 = true then (spec_l01Code.l0 K a0 a1 k16 (wrap64 (x11 + 1))) else some 2))) else some 0)
def spec_l01Code.f (K : Nat) (a0 : Int) (a1 : List (Int × Int)) : Option (Int) := ((spec_l01Field.f K a0).bind fun t4 => (if t4 = true then (spec_l01Code.l0 K a0 a1 K 0) else some 1))

def spec_l02Code.f (K : Nat) (a0 : Int) (a1 : Int) (a2 : List (Int × Int)) : Option (Int) := ((spec_l01Code.f K a0 a2).bind fun t3 => (if (t3 == 0) = true then ((spec_l02Colour.f K a1).bind fun t10 => (if t10 = true then some t3 else some 2)) else some t3))

def spec_l06Is.f (K : Nat) (a0 : Int) (a1_0 : Int) (a1_1 : Int) (a1_2 : Int) : Option (Bool) := ((spec_l01Point.f K a0 a1_0 a1_1).bind fun t6 => (if t6 = true then ((spec_l01In.f K a1_2 0 (wrap64 (a0 - 1))).bind fun t11 => some t11) else some false))


def spec_l06Code.l0 (K : Nat) (a0 : Int) (a2 : List (Int × Int × Int)) : Nat → Int → Int → Option (Int)
  | 0, _, _ => none
  | k15 + 1, x9, x10 => (if decide (x10 < (a2.length : Int)) = true then (if (x9 == 0) = true then ((idx a2 x10).bind fun (t26, t27, t28) => ((spec_l06Is.f K a0 t26 t27 t28).bind fun t33 => (if t33 = true then (spec_l06Code.l0 K a0 a2 k15 x9 (wrap64 (x10 + 1))) else (spec_l06Code.l0 K a0 a2 k15 2 (wrap64 (x10 + 1)))))) else some x9) else some x9)
def spec_l06Code.f (K : Nat) (a0 : Int) (a1 : Int) (a2 : List (Int × Int × Int)) : Option (Int) := ((spec_l02Code.f K a0 a1 ([])).bind fun t3 => (spec_l06Code.l0 K a0 a2 K t3 0))

def spec_l06Given.f (K : Nat) (a0 : Int) (a1 : Int) (a2_0 : Int) (a2_1 : Int) (a2_2 : Int) (a3_0 : Int) (a3_1 : Int) : Option (Int) := ((spec_l06Code.f K a0 a1 ([(a2_0, a2_1, a2_2)])).bind fun t12 => (if (t12 == 0) = true then ((spec_l01Code.f K a0 ([(a3_0, a3_1)])).bind fun t23 => some t23) else some t12))

def spec_l06Power.f (K : Nat) (a0 : Int) (a1 : Int) (a2_0 : Int) (a2_1 : Int) (a2_2 : Int) (a3_0 : Int) (a3_1 : Int) : Option (Int) := ((spec_l02Quadrance.f K a0 a1 a2_0 a2_1 a3_0 a3_1).bind fun t9 => ((spec_l01Mod.f K (wrap64 (t9 - a2_2)) a0).bind fun t11 => some t11))


def spec_l01Inverse.l0 (K : Nat) (a1 : Int) : Nat → Int → Int → Int → Option (Int)
  | 0, _, _, _ => none
  | k16 + 1, x9, x10, x11 => (if decide (0 < x11) = true then (if ((Int.tmod x11 2) == 1) = true then (if (a1 == 0) = true then none else (spec_l01Inverse.l0 K a1 k16 (Int.tmod (wrap64 (x9 * x10)) a1) (Int.tmod (wrap64 (x10 * x10)) a1) (wrap64 (Int.tdiv x11 2)))) else (if (a1 == 0) = true then none else (spec_l01Inverse.l0 K a1 k16 x9 (Int.tmod (wrap64 (x10 * x10)) a1) (wrap64 (Int.tdiv x11 2))))) else some x9)
def spec_l01Inverse.f (K : Nat) (a0 : Int) (a1 : Int) : Option (Int) := ((spec_l01Mod.f K a0 a1).bind fun t3 => (spec_l01Inverse.l0 K a1 K 1 t3 (wrap64 (a1 - 2))))

def spec_l01Normal.f (K : Nat) (a0 : Int) (a1 : Int) (a2 : Int) (a3 : Int) : Option (Int × Int × Int) := ((spec_l01Mod.f K a1 a0).bind fun t6 => (if (t6 == 0) = true then ((spec_l01Mod.f K a2 a0).bind fun t13 => ((spec_l01Inverse.f K t13 a0).bind fun t18 => ((spec_l01Mod.f K (wrap64 (a1 * t18)) a0).bind fun t23 => ((spec_l01Mod.f K (wrap64 (a2 * t18)) a0).bind fun t27 => ((spec_l01Mod.f K (wrap64 (a3 * t18)) a0).bind fun t31 => some (t23, t27, t31)))))) else ((spec_l01Inverse.f K t6 a0).bind fun t39 => ((spec_l01Mod.f K (wrap64 (a1 * t39)) a0).bind fun t44 => ((spec_l01Mod.f K (wrap64 (a2 * t39)) a0).bind fun t48 => ((spec_l01Mod.f K (wrap64 (a3 * t39)) a0).bind fun t52 => some (t44, t48, t52)))))))

def spec_l02Through.f (K : Nat) (a0 : Int) (a1 : Int) (a2_0 : Int) (a2_1 : Int) (a3_0 : Int) (a3_1 : Int) : Option (Int × Int × Int) := (if (a1 == 1) = true then ((spec_l01Mod.f K (wrap64 (-a2_1)) a0).bind fun t19 => ((spec_l01Mod.f K (wrap64 (-(wrap64 ((wrap64 (a2_0 * a3_0)) + (wrap64 (t19 * a3_1)))))) a0).bind fun t24 => ((spec_l01Normal.f K a0 a2_0 t19 t24).bind fun (t28, t29, t30) => some (t28, t29, t30)))) else (if (a1 == 2) = true then ((spec_l01Mod.f K (wrap64 (-(wrap64 ((wrap64 (a2_1 * a3_0)) + (wrap64 (a2_0 * a3_1)))))) a0).bind fun t41 => ((spec_l01Normal.f K a0 a2_1 a2_0 t41).bind fun (t45, t46, t47) => some (t45, t46, t47))) else ((spec_l01Mod.f K (wrap64 (-(wrap64 ((wrap64 (a2_0 * a3_0)) + (wrap64 (a2_1 * a3_1)))))) a0).bind fun t55 => ((spec_l01Normal.f K a0 a2_0 a2_1 t55).bind fun (t59, t60, t61) => some (t59, t60, t61)))))

def spec_l06Tangent.f (K : Nat) (a0 : Int) (a1 : Int) (a2_0 : Int) (a2_1 : Int) (a2_2 : Int) (a3_0 : Int) (a3_1 : Int) : Option (Int × Int × Int) := ((spec_l01Minus.f K a0 a3_0 a3_1 a2_0 a2_1).bind fun (t12, t13) => ((spec_l02Through.f K a0 a1 t12 t13 a3_0 a3_1).bind fun (t15, t16, t17) => some (t15, t16, t17)))

def spec_TangentAt.f (K : Nat) (a0 : Int) (a1 : Int) (a2_0 : Int) (a2_1 : Int) (a2_2 : Int) (a3_0 : Int) (a3_1 : Int) : Option (Int × Int × Int × Int) := ((spec_l06Given.f K a0 a1 a2_0 a2_1 a2_2 a3_0 a3_1).bind fun t12 => (if (t12 == 0) = true then ((spec_l06Power.f K a0 a1 a2_0 a2_1 a2_2 a3_0 a3_1).bind fun t20 => (if (t20 == 0) = true then (if (a3_0 == a2_0 && a3_1 == a2_1) = true then some (0, 0, 0, 5) else ((spec_l06Tangent.f K a0 a1 a2_0 a2_1 a2_2 a3_0 a3_1).bind fun (t37, t38, t39) => some (t37, t38, t39, 0))) else some (0, 0, 0, 5))) else some (0, 0, 0, t12)))

def spec_l01Area.f (K : Nat) (a0 : Int) (a1_0 : Int) (a1_1 : Int) (a2_0 : Int) (a2_1 : Int) (a3_0 : Int) (a3_1 : Int) : Option (Int) := ((spec_l01Mod.f K (wrap64 ((wrap64 ((wrap64 (a2_0 - a1_0)) * (wrap64 (a3_1 - a1_1)))) - (wrap64 ((wrap64 (a2_1 - a1_1)) * (wrap64 (a3_0 - a1_0)))))) a0).bind fun t12 => some t12)


def spec_l04DrawOf.l0 (K : Nat) (a0_0 : List (Int)) (a1 : Int) (t12 : Int) (t13 : Int) : Nat → Int → Int → Int → Int → Int → Int → Int → Int → Int → Int → Int → Int → Int → Option (Int × Int × Int × Int × Int × Int × Int × Int)
  | 0, _, _, _, _, _, _, _, _, _, _, _, _, _ => none
  | k99 + 1, x74, x75, x76, x77, x78, x79, x80, x81, x82, x83, x84, x85, x86 => (if decide (x74 < 6) = true then ((spec_l01Area.f K a1 t12 t13 x83 x84 x85 x86).bind fun t108 => (if (t108 == 0) = true then ((spec_l01DrawPoint.f K a0_0 x75 x76 a1).bind fun (t115, t116, t117, t118) => ((spec_l01DrawPoint.f K a0_0 t117 t118 a1).bind fun (t140, t141, t142, t143) => (spec_l04DrawOf.l0 K a0_0 a1 t12 t13 k99 (wrap64 (x74 + 1)) t142 t143 x77 x78 x79 x80 x81 x82 t115 t116 t140 t141))) else some (t12, t13, x83, x84, x85, x86, x75, x76))) else some (t12, t13, x83, x84, x85, x86, x75, x76))
def spec_l04DrawOf.f (K : Nat) (a0_0 : List (Int)) (a0_1 : Int) (a0_2 : Int) (a1 : Int) : Option (Int × Int × Int × Int × Int × Int × Int × Int) := ((spec_l01DrawPoint.f K a0_0 a0_1 a0_2 a1).bind fun (t12, t13, t14, t15) => ((spec_l01DrawPoint.f K a0_0 t14 t15 a1).bind fun (t24, t25, t26, t27) => ((spec_l01DrawPoint.f K a0_0 t26 t27 a1).bind fun (t36, t37, t38, t39) => (spec_l04DrawOf.l0 K a0_0 a1 t12 t13 K 0 t38 t39 0 0 0 0 0 0 t24 t25 t36 t37))))

def spec_l01Plus.f (K : Nat) (a0 : Int) (a1_0 : Int) (a1_1 : Int) (a2_0 : Int) (a2_1 : Int) : Option (Int × Int) := ((spec_l01Mod.f K (wrap64 (a1_0 + a2_0)) a0).bind fun t12 => ((spec_l01Mod.f K (wrap64 (a1_1 + a2_1)) a0).bind fun t14 => some (t12, t14)))

def spec_l01Times.f (K : Nat) (a0 : Int) (a1 : Int) (a2_0 : Int) (a2_1 : Int) : Option (Int × Int) := ((spec_l01Mod.f K (wrap64 (a1 * a2_0)) a0).bind fun t9 => ((spec_l01Mod.f K (wrap64 (a1 * a2_1)) a0).bind fun t11 => some (t9, t11)))

def spec_l01Middle.f (K : Nat) (a0 : Int) (a1_0 : Int) (a1_1 : Int) (a2_0 : Int) (a2_1 : Int) : Option (Int × Int) := ((spec_l01Plus.f K a0 a1_0 a1_1 a2_0 a2_1).bind fun (t12, t13) => ((spec_l01Times.f K a0 (wrap64 (Int.tdiv (wrap64 (a0 + 1)) 2)) t12 t13).bind fun (t17, t18) => some (t17, t18)))

def spec_l04Draw.f (K : Nat) (a0 : List (Int)) : Option (Int × Int × Int × Int × Int × Int × Int × Int) := ((spec_l01From.f K a0).bind fun (t13, t14) => ((spec_l01DrawField.f K a0 t13 t14).bind fun (t19, t20, t21) => ((spec_l04DrawOf.f K a0 t20 t21 t19).bind fun (t27, t28, t29, t30, t31, t32, t33, t34) => ((spec_l02DrawColour.f K a0 t33 t34).bind fun (t64, t65, t66) => ((spec_l01Next.f K a0 t65 t66 24).bind fun (t76, t77, t78) => (if (t76 == 0) = true then ((spec_l01Middle.f K t19 t27 t28 t29 t30).bind fun (t91, t92) => ((spec_l01BadField.f K a0 t77 t78 t19).bind fun (t110, t111, t112) => ((spec_l01BadPoint.f K a0 t111 t112 t19 t27 t28).bind fun (t123, t124, t125, t126) => ((spec_l01BadPoint.f K a0 t125 t126 t19 t29 t30).bind fun (t137, t138, t139, t140) => ((spec_l01BadPoint.f K a0 t139 t140 t19 t91 t92).bind fun (t151, t152, t153, t154) => some (t110, t64, t123, t124, t137, t138, t151, t152)))))) else ((spec_l01BadField.f K a0 t77 t78 t19).bind fun (t197, t198, t199) => ((spec_l01BadPoint.f K a0 t198 t199 t19 t27 t28).bind fun (t210, t211, t212, t213) => ((spec_l01BadPoint.f K a0 t212 t213 t19 t29 t30).bind fun (t224, t225, t226, t227) => ((spec_l01BadPoint.f K a0 t226 t227 t19 t31 t32).bind fun (t238, t239, t240, t241) => some (t197, t64, t210, t211, t224, t225, t238, t239)))))))))))

def spec_DrawQuadreaOf.f (K : Nat) (a0 : List (Int)) : Option (Int × Int × Int × Int × Int × Int × Int × Int) := ((spec_l04Draw.f K a0).bind fun (t12, t13, t14, t15, t16, t17, t18, t19) => some (t12, t13, t14, t15, t16, t17, t18, t19))

def spec_DrawCircleThrough.f (K : Nat) (a0 : List (Int)) : Option (Int × Int × Int × Int × Int × Int × Int × Int) := ((spec_DrawQuadreaOf.f K a0).bind fun (t12, t13, t14, t15, t16, t17, t18, t19) => some (t12, t13, t14, t15, t16, t17, t18, t19))


def impl_arePoints.l0 (K : Nat) (a0 : Int) (a1 : List (Int × Int)) : Nat → Int → Option (Bool)
  | 0, _ => none
  | k9 + 1, x4 => (if decide (x4 < (a1.length : Int)) = true then ((idx a1 x4).bind fun (t19, t20) => ((impl_isPoint.f K a0 t19 t20).bind fun t32 => (if t32 = true then (impl_arePoints.l0 K a0 a1 k9 (wrap64 (x4 + 1))) else some false))) else some true)
def impl_arePoints.f (K : Nat) (a0 : Int) (a1 : List (Int × Int)) : Option (Bool) := (impl_arePoints.l0 K a0 a1 K 0)

def impl_triangle_1.f (K : Nat) (f0_0 : Int) (f1_0 : Int) (f2_0 : Int) (f2_1 : Int) (f3_0 : Int) (f3_1 : Int) (f4_0 : Int) (f4_1 : Int) : Option (Bool) := ((impl_isColour.f K f0_0).bind fun t3 => (if t3 = true then ((impl_arePoints.f K f1_0 ([(f2_0, f2_1), (f3_0, f3_1), (f4_0, f4_1)])).bind fun t11 => some t11) else some false))

def impl_asked__impl_triangle_1.f (K : Nat) (a0 : Int) (c1_0_0 : Int) (c1_1_0 : Int) (c1_2_0 : Int) (c1_2_1 : Int) (c1_3_0 : Int) (c1_3_1 : Int) (c1_4_0 : Int) (c1_4_1 : Int) : Option (Int) := ((impl_IsField.f K a0).bind fun t4 => (if t4 = true then ((impl_triangle_1.f K c1_0_0 c1_1_0 c1_2_0 c1_2_1 c1_3_0 c1_3_1 c1_4_0 c1_4_1).bind fun t11 => (if t11 = true then some 0 else some 2)) else some 1))

def impl_area.f (K : Nat) (a0 : Int) (a1_0 : Int) (a1_1 : Int) (a2_0 : Int) (a2_1 : Int) (a3_0 : Int) (a3_1 : Int) : Option (Int) := ((impl_less.f K a0 a2_0 a2_1 a1_0 a1_1).bind fun (t12, t13) => ((impl_less.f K a0 a3_0 a3_1 a1_0 a1_1).bind fun (t15, t16) => ((impl_rest.f K a0 (wrap64 ((wrap64 (t12 * t16)) - (wrap64 (t13 * t15))))).bind fun t34 => some t34)))

def impl_triangle.f (K : Nat) (a0 : Int) (a1 : Int) (a2_0 : Int) (a2_1 : Int) (a3_0 : Int) (a3_1 : Int) (a4_0 : Int) (a4_1 : Int) : Option (Int) := ((impl_asked__impl_triangle_1.f K a0 a1 a0 a2_0 a2_1 a3_0 a3_1 a4_0 a4_1).bind fun t18 => (if (t18 == 0) = true then ((impl_area.f K a0 a2_0 a2_1 a3_0 a3_1 a4_0 a4_1).bind fun t27 => (if (t27 == 0) = true then some 5 else some t18)) else some t18))

mutual
def impl_allPoints.l0 (K : Nat) (a0 : Int) : Nat → Int → List (Int × Int) → Option (List (Int × Int))
  | 0, _, _ => none
  | k19 + 1, x10, x11 => (if decide (x10 < a0) = true then (impl_allPoints.l1 K a0 x10 k19 0 x11) else some x11)
def impl_allPoints.l1 (K : Nat) (a0 : Int) (x10 : Int) : Nat → Int → List (Int × Int) → Option (List (Int × Int))
  | 0, _, _ => none
  | k38 + 1, x29, x30 => (if decide (x29 < a0) = true then (if decide (x30.length ≤ 1000000) = true then (impl_allPoints.l1 K a0 x10 k38 (wrap64 (x29 + 1)) (x30 ++ [(x10, x29)])) else none) else (impl_allPoints.l0 K a0 k38 (wrap64 (x10 + 1)) x30))
end
def impl_allPoints.f (K : Nat) (a0 : Int) : Option (List (Int × Int)) := (impl_allPoints.l0 K a0 K 0 ([] : List (Int × Int)))


def impl_circumcentre.l0 (K : Nat) (a0 : Int) (a1 : Int) (a2_0 : Int) (a2_1 : Int) (a3_0 : Int) (a3_1 : Int) (a4_0 : Int) (a4_1 : Int) (t16 : List (Int × Int)) : Nat → Int → Int → Int → Option (Int × Int)
  | 0, _, _, _ => none
  | k31 + 1, x22, x23, x24 => (if decide (x22 < (t16.length : Int)) = true then ((idx t16 x22).bind fun (t42, t43) => ((impl_quadrance.f K a0 a1 t42 t43 a2_0 a2_1).bind fun t55 => ((impl_quadrance.f K a0 a1 t42 t43 a3_0 a3_1).bind fun t60 => (if (t55 == t60) = true then ((impl_quadrance.f K a0 a1 t42 t43 a4_0 a4_1).bind fun t68 => (if (t55 == t68) = true then some (t42, t43) else (impl_circumcentre.l0 K a0 a1 a2_0 a2_1 a3_0 a3_1 a4_0 a4_1 t16 k31 (wrap64 (x22 + 1)) x23 x24))) else (impl_circumcentre.l0 K a0 a1 a2_0 a2_1 a3_0 a3_1 a4_0 a4_1 t16 k31 (wrap64 (x22 + 1)) x23 x24))))) else some (0, 0))
def impl_circumcentre.f (K : Nat) (a0 : Int) (a1 : Int) (a2_0 : Int) (a2_1 : Int) (a3_0 : Int) (a3_1 : Int) (a4_0 : Int) (a4_1 : Int) : Option (Int × Int) := ((impl_allPoints.f K a0).bind fun t16 => (impl_circumcentre.l0 K a0 a1 a2_0 a2_1 a3_0 a3_1 a4_0 a4_1 t16 K 0 0 0))

def impl_circleThrough.f (K : Nat) (a0 : Int) (a1 : Int) (a2_0 : Int) (a2_1 : Int) (a3_0 : Int) (a3_1 : Int) (a4_0 : Int) (a4_1 : Int) : Option (Int × Int × Int) := ((impl_circumcentre.f K a0 a1 a2_0 a2_1 a3_0 a3_1 a4_0 a4_1).bind fun (t15, t16) => ((impl_quadrance.f K a0 a1 t15 t16 a2_0 a2_1).bind fun t27 => some (t15, t16, t27)))

def impl_CircleThrough.f (K : Nat) (a0 : Int) (a1 : Int) (a2_0 : Int) (a2_1 : Int) (a3_0 : Int) (a3_1 : Int) (a4_0 : Int) (a4_1 : Int) : Option (Int × Int × Int × Int) := ((impl_triangle.f K a0 a1 a2_0 a2_1 a3_0 a3_1 a4_0 a4_1).bind fun t16 => (if (t16 == 0) = true then ((impl_circleThrough.f K a0 a1 a2_0 a2_1 a3_0 a3_1 a4_0 a4_1).bind fun (t25, t26, t27) => some (t25, t26, t27, 0)) else some (0, 0, 0, t16)))

def spec_l04Code.f (K : Nat) (a0 : Int) (a1 : Int) (a2_0 : Int) (a2_1 : Int) (a3_0 : Int) (a3_1 : Int) (a4_0 : Int) (a4_1 : Int) : Option (Int) := ((spec_l02Code.f K a0 a1 ([(a2_0, a2_1), (a3_0, a3_1), (a4_0, a4_1)])).bind fun t15 => (if (t15 == 0) = true then ((spec_l01Area.f K a0 a2_0 a2_1 a3_0 a3_1 a4_0 a4_1).bind fun t24 => (if (t24 == 0) = true then some 5 else some t15)) else some t15))

def spec_l01Meet.f (K : Nat) (a0 : Int) (a1_0 : Int) (a1_1 : Int) (a1_2 : Int) (a2_0 : Int) (a2_1 : Int) (a2_2 : Int) : Option (Int × Int × Bool) := ((spec_l01Mod.f K (wrap64 ((wrap64 (a1_0 * a2_1)) - (wrap64 (a1_1 * a2_0)))) a0).bind fun t12 => (if (t12 == 0) = true then some (0, 0, false) else ((spec_l01Inverse.f K t12 a0).bind fun t25 => (if (a0 == 0) = true then none else ((spec_l01Mod.f K (wrap64 ((Int.tmod (wrap64 ((wrap64 (a1_1 * a2_2)) - (wrap64 (a2_1 * a1_2)))) a0) * t25)) a0).bind fun t32 => ((spec_l01Mod.f K (wrap64 ((Int.tmod (wrap64 ((wrap64 (a2_0 * a1_2)) - (wrap64 (a1_0 * a2_2)))) a0) * t25)) a0).bind fun t34 => some (t32, t34, true)))))))

def spec_l04Circumcentre.f (K : Nat) (a0 : Int) (a1 : Int) (a2_0 : Int) (a2_1 : Int) (a3_0 : Int) (a3_1 : Int) (a4_0 : Int) (a4_1 : Int) : Option (Int × Int) := ((spec_l01Minus.f K a0 a2_0 a2_1 a3_0 a3_1).bind fun (t15, t16) => ((spec_l01Middle.f K a0 a2_0 a2_1 a3_0 a3_1).bind fun (t18, t19) => ((spec_l02Through.f K a0 a1 t15 t16 t18 t19).bind fun (t21, t22, t23) => ((spec_l01Minus.f K a0 a2_0 a2_1 a4_0 a4_1).bind fun (t33, t34) => ((spec_l01Middle.f K a0 a2_0 a2_1 a4_0 a4_1).bind fun (t36, t37) => ((spec_l02Through.f K a0 a1 t33 t34 t36 t37).bind fun (t39, t40, t41) => ((spec_l01Meet.f K a0 t21 t22 t23 t39 t40 t41).bind fun (t51, t52, t53) => some (t51, t52))))))))

def spec_l06Through.f (K : Nat) (a0 : Int) (a1 : Int) (a2_0 : Int) (a2_1 : Int) (a3_0 : Int) (a3_1 : Int) (a4_0 : Int) (a4_1 : Int) : Option (Int × Int × Int) := ((spec_l04Circumcentre.f K a0 a1 a2_0 a2_1 a3_0 a3_1 a4_0 a4_1).bind fun (t15, t16) => ((spec_l02Quadrance.f K a0 a1 t15 t16 a2_0 a2_1).bind fun t27 => some (t15, t16, t27)))

def spec_CircleThrough.f (K : Nat) (a0 : Int) (a1 : Int) (a2_0 : Int) (a2_1 : Int) (a3_0 : Int) (a3_1 : Int) (a4_0 : Int) (a4_1 : Int) : Option (Int × Int × Int × Int) := ((spec_l04Code.f K a0 a1 a2_0 a2_1 a3_0 a3_1 a4_0 a4_1).bind fun t16 => (if (t16 == 0) = true then ((spec_l06Through.f K a0 a1 a2_0 a2_1 a3_0 a3_1 a4_0 a4_1).bind fun (t25, t26, t27) => some (t25, t26, t27, 0)) else some (0, 0, 0, t16)))

def spec_l01DrawLine.f (K : Nat) (a0_0 : List (Int)) (a0_1 : Int) (a0_2 : Int) (a1 : Int) : Option (Int × Int × Int × Int × Int) := ((spec_l01Next.f K a0_0 a0_1 a0_2 (wrap64 (a1 + 1))).bind fun (t7, t8, t9) => (if (t7 == 0) = true then ((spec_l01Next.f K a0_0 t8 t9 a1).bind fun (t18, t19, t20) => some (0, 1, t18, t19, t20)) else ((spec_l01Next.f K a0_0 t8 t9 a1).bind fun (t33, t34, t35) => ((spec_l01Next.f K a0_0 t34 t35 a1).bind fun (t42, t43, t44) => some (1, t33, t42, t43, t44)))))

def spec_DrawMeetLine.f (K : Nat) (a0 : List (Int)) : Option (Int × Int × Int × Int × Int × Int × Int × Int) := ((spec_l01From.f K a0).bind fun (t10, t11) => ((spec_l06With.f K a0).bind fun (t16, t17, t18, t19, t20, t21, t22) => ((spec_TangentAt.f K t16 t17 t18 t19 t20 t21 t22).bind fun (t42, t43, t44, t45) => (if (t45 == 0) = true then ((spec_l01Next.f K a0 t10 t11 2).bind fun (t62, t63, t64) => (if (t62 == 0) = true then some (t16, t17, t18, t19, t20, t42, t43, t44) else ((spec_l01Pick.f K a0 t63 t64 ([3, 5, 7, 3])).bind fun (t102, t103, t104) => ((spec_l01DrawLine.f K a0 t103 t104 t102).bind fun (t113, t114, t115, t116, t117) => some (t16, t17, t18, t19, t20, t113, t114, t115))))) else ((spec_l01Pick.f K a0 t10 t11 ([3, 5, 7, 3])).bind fun (t150, t151, t152) => ((spec_l01DrawLine.f K a0 t151 t152 t150).bind fun (t161, t162, t163, t164, t165) => some (t16, t17, t18, t19, t20, t161, t162, t163)))))))

def impl_isLine.f (K : Nat) (a0 : Int) (a1_0 : Int) (a1_1 : Int) (a1_2 : Int) : Option (Bool) := ((impl_areNumbers.f K a0 ([a1_0, a1_1, a1_2])).bind fun t7 => (if t7 = true then (if (a1_0 == 1) = true then some true else (if (a1_0 == 0) = true then some (a1_1 == 1) else some false)) else some false))

def impl_MeetLine_1.f (K : Nat) (f0_0 : Int) (f1_0 : Int) (f2_0 : Int) (f2_1 : Int) (f2_2 : Int) (f3_0 : Int) (f3_1 : Int) (f3_2 : Int) : Option (Bool) := ((impl_isColour.f K f0_0).bind fun t3 => (if t3 = true then ((impl_isCircle.f K f1_0 f2_0 f2_1 f2_2).bind fun t8 => (if t8 = true then ((impl_isLine.f K f1_0 f3_0 f3_1 f3_2).bind fun t13 => some t13) else some false)) else some false))

def impl_asked__impl_MeetLine_1.f (K : Nat) (a0 : Int) (c1_0_0 : Int) (c1_1_0 : Int) (c1_2_0 : Int) (c1_2_1 : Int) (c1_2_2 : Int) (c1_3_0 : Int) (c1_3_1 : Int) (c1_3_2 : Int) : Option (Int) := ((impl_IsField.f K a0).bind fun t4 => (if t4 = true then ((impl_MeetLine_1.f K c1_0_0 c1_1_0 c1_2_0 c1_2_1 c1_2_2 c1_3_0 c1_3_1 c1_3_2).bind fun t11 => (if t11 = true then some 0 else some 2)) else some 1))

def impl_isOn.f (K : Nat) (a0 : Int) (a1_0 : Int) (a1_1 : Int) (a2_0 : Int) (a2_1 : Int) (a2_2 : Int) : Option (Bool) := (if (a0 == 0) = true then none else some ((Int.tmod (wrap64 ((wrap64 ((wrap64 (a2_0 * a1_0)) + (wrap64 (a2_1 * a1_1)))) + a2_2)) a0) == 0))

def impl_MeetLine_2.f (K : Nat) (a0_0 : Int) (a0_1 : Int) (f0_0 : Int) (f1_0 : Int) (f1_1 : Int) (f1_2 : Int) (f2_0 : Int) (f3_0 : Int) (f3_1 : Int) (f3_2 : Int) : Option (Bool) := ((impl_isOn.f K f0_0 a0_0 a0_1 f1_0 f1_1 f1_2).bind fun t6 => (if t6 = true then ((impl_power.f K f0_0 f2_0 f3_0 f3_1 f3_2 a0_0 a0_1).bind fun t11 => some (t11 == 0)) else some false))


def impl_pointsWith__impl_MeetLine_2.l0 (K : Nat) (c1_0_0 : Int) (c1_1_0 : Int) (c1_1_1 : Int) (c1_1_2 : Int) (c1_2_0 : Int) (c1_3_0 : Int) (c1_3_1 : Int) (c1_3_2 : Int) (t8 : List (Int × Int)) : Nat → Int → List (Int × Int) → Option (List (Int × Int))
  | 0, _, _ => none
  | k28 + 1, x17, x18 => (if decide (x17 < (t8.length : Int)) = true then ((idx t8 x17).bind fun (t39, t40) => ((impl_MeetLine_2.f K t39 t40 c1_0_0 c1_1_0 c1_1_1 c1_1_2 c1_2_0 c1_3_0 c1_3_1 c1_3_2).bind fun t52 => (if t52 = true then (if decide (x18.length ≤ 1000000) = true then (impl_pointsWith__impl_MeetLine_2.l0 K c1_0_0 c1_1_0 c1_1_1 c1_1_2 c1_2_0 c1_3_0 c1_3_1 c1_3_2 t8 k28 (wrap64 (x17 + 1)) (x18 ++ [(t39, t40)])) else none) else (impl_pointsWith__impl_MeetLine_2.l0 K c1_0_0 c1_1_0 c1_1_1 c1_1_2 c1_2_0 c1_3_0 c1_3_1 c1_3_2 t8 k28 (wrap64 (x17 + 1)) x18)))) else some x18)
def impl_pointsWith__impl_MeetLine_2.f (K : Nat) (a0 : Int) (c1_0_0 : Int) (c1_1_0 : Int) (c1_1_1 : Int) (c1_1_2 : Int) (c1_2_0 : Int) (c1_3_0 : Int) (c1_3_1 : Int) (c1_3_2 : Int) : Option (List (Int × Int)) := ((impl_allPoints.f K a0).bind fun t8 => (impl_pointsWith__impl_MeetLine_2.l0 K c1_0_0 c1_1_0 c1_1_1 c1_1_2 c1_2_0 c1_3_0 c1_3_1 c1_3_2 t8 K 0 ([] : List (Int × Int))))

def impl_MeetLine.f (K : Nat) (a0 : Int) (a1 : Int) (a2_0 : Int) (a2_1 : Int) (a2_2 : Int) (a3_0 : Int) (a3_1 : Int) (a3_2 : Int) : Option (List (Int × Int) × Int) := ((impl_asked__impl_MeetLine_1.f K a0 a1 a0 a2_0 a2_1 a2_2 a3_0 a3_1 a3_2).bind fun t16 => (if (t16 == 0) = true then ((impl_pointsWith__impl_MeetLine_2.f K a0 a0 a3_0 a3_1 a3_2 a1 a2_0 a2_1 a2_2).bind fun t25 => some (t25, 0)) else some ([], t16)))

def spec_l01Line.f (K : Nat) (a0 : Int) (a1_0 : Int) (a1_1 : Int) (a1_2 : Int) : Option (Bool) := ((spec_l01In.f K a1_0 0 (wrap64 (a0 - 1))).bind fun t6 => (if t6 = true then ((spec_l01In.f K a1_1 0 (wrap64 (a0 - 1))).bind fun t11 => (if t11 = true then ((spec_l01In.f K a1_2 0 (wrap64 (a0 - 1))).bind fun t16 => (if t16 = true then (if (a1_0 == 1) = true then some true else (if (a1_0 == 0) = true then some (a1_1 == 1) else some false)) else some false)) else some false)) else some false))


def spec_l01Lines.l0 (K : Nat) (a0 : Int) (a1 : List (Int × Int × Int)) : Nat → Int → Option (Int)
  | 0, _ => none
  | k16 + 1, x11 => (if decide (x11 < (a1.length : Int)) = true then ((idx a1 x11).bind fun (t26, t27, t28) => ((spec_l01Line.f K a0 t26 t27 t28).bind fun t33 => (if t33 = true then (spec_l01Lines.l0 K a0 a1 k16 (wrap64 (x11 + 1))) else some 2))) else some 0)
def spec_l01Lines.f (K : Nat) (a0 : Int) (a1 : List (Int × Int × Int)) : Option (Int) := ((spec_l01Field.f K a0).bind fun t4 => (if t4 = true then (spec_l01Lines.l0 K a0 a1 K 0) else some 1))

def spec_l01On.f (K : Nat) (a0 : Int) (a1_0 : Int) (a1_1 : Int) (a2_0 : Int) (a2_1 : Int) (a2_2 : Int) : Option (Bool) := (if (a0 == 0) = true then none else some ((Int.tmod (wrap64 ((wrap64 ((wrap64 (a2_0 * a1_0)) + (wrap64 (a2_1 * a1_1)))) + a2_2)) a0) == 0))


def spec_MeetLine.l0 (K : Nat) (a0 : Int) (a3_0 : Int) (a3_1 : Int) (a3_2 : Int) (t33 : List (Int × Int)) : Nat → Int → List (Int × Int) → Option (List (Int × Int) × Int)
  | 0, _, _ => none
  | k57 + 1, x46, x47 => (if decide (x46 < (t33.length : Int)) = true then ((idx t33 x46).bind fun (t69, t70) => ((spec_l01On.f K a0 t69 t70 a3_0 a3_1 a3_2).bind fun t76 => (if t76 = true then ((idx t33 x46).bind fun (t81, t82) => (if decide (x47.length ≤ 1000000) = true then (spec_MeetLine.l0 K a0 a3_0 a3_1 a3_2 t33 k57 (wrap64 (x46 + 1)) (x47 ++ [(t81, t82)])) else none)) else (spec_MeetLine.l0 K a0 a3_0 a3_1 a3_2 t33 k57 (wrap64 (x46 + 1)) x47)))) else some (x47, 0))
def spec_MeetLine.f (K : Nat) (a0 : Int) (a1 : Int) (a2_0 : Int) (a2_1 : Int) (a2_2 : Int) (a3_0 : Int) (a3_1 : Int) (a3_2 : Int) : Option (List (Int × Int) × Int) := ((spec_l06Code.f K a0 a1 ([(a2_0, a2_1, a2_2)])).bind fun t12 => (if (t12 == 0) = true then ((spec_l01Lines.f K a0 ([(a3_0, a3_1, a3_2)])).bind fun t23 => (if (t23 == 0) = true then ((spec_l02At.f K a0 a1 a2_0 a2_1 a2_2).bind fun t33 => (spec_MeetLine.l0 K a0 a3_0 a3_1 a3_2 t33 K 0 ([] : List (Int × Int)))) else some ([], t23))) else some ([], t12)))


def laws_points9.l0 (K : Nat) (a0 : List (Int × Int)) (a1 : List (Int × Int)) : Nat → Int → Option (Bool)
  | 0, _ => none
  | k12 + 1, x7 => (if decide (x7 < (a0.length : Int)) = true then ((idx a0 x7).bind fun (t22, t23) => ((idx a1 x7).bind fun (t29, t30) => (if (t22 == t29 && t23 == t30) = true then (laws_points9.l0 K a0 a1 k12 (wrap64 (x7 + 1))) else some false))) else some true)
def laws_points9.f (K : Nat) (a0 : List (Int × Int)) (a1 : List (Int × Int)) : Option (Bool) := (if ((a0.length : Int) == (a1.length : Int)) = true then (laws_points9.l0 K a0 a1 K 0) else some false)

def impl_PowerOf_1.f (K : Nat) (f0_0 : Int) (f1_0 : Int) (f2_0 : Int) (f2_1 : Int) (f2_2 : Int) (f3_0 : Int) (f3_1 : Int) : Option (Bool) := ((impl_isColour.f K f0_0).bind fun t3 => (if t3 = true then ((impl_isCircle.f K f1_0 f2_0 f2_1 f2_2).bind fun t8 => (if t8 = true then ((impl_isPoint.f K f1_0 f3_0 f3_1).bind fun t13 => some t13) else some false)) else some false))

def impl_asked__impl_PowerOf_1.f (K : Nat) (a0 : Int) (c1_0_0 : Int) (c1_1_0 : Int) (c1_2_0 : Int) (c1_2_1 : Int) (c1_2_2 : Int) (c1_3_0 : Int) (c1_3_1 : Int) : Option (Int) := ((impl_IsField.f K a0).bind fun t4 => (if t4 = true then ((impl_PowerOf_1.f K c1_0_0 c1_1_0 c1_2_0 c1_2_1 c1_2_2 c1_3_0 c1_3_1).bind fun t11 => (if t11 = true then some 0 else some 2)) else some 1))

def impl_PowerOf.f (K : Nat) (a0 : Int) (a1 : Int) (a2_0 : Int) (a2_1 : Int) (a2_2 : Int) (a3_0 : Int) (a3_1 : Int) : Option (Int × Int) := ((impl_asked__impl_PowerOf_1.f K a0 a1 a0 a2_0 a2_1 a2_2 a3_0 a3_1).bind fun t16 => (if (t16 == 0) = true then ((impl_power.f K a0 a1 a2_0 a2_1 a2_2 a3_0 a3_1).bind fun t25 => some (t25, 0)) else some (0, t16)))

def spec_PowerOf.f (K : Nat) (a0 : Int) (a1 : Int) (a2_0 : Int) (a2_1 : Int) (a2_2 : Int) (a3_0 : Int) (a3_1 : Int) : Option (Int × Int) := ((spec_l06Given.f K a0 a1 a2_0 a2_1 a2_2 a3_0 a3_1).bind fun t10 => (if (t10 == 0) = true then ((spec_l06Power.f K a0 a1 a2_0 a2_1 a2_2 a3_0 a3_1).bind fun t18 => some (t18, 0)) else some (0, t10)))

def impl_InversePoint_1.f (K : Nat) (f0_0 : Int) (f1_0 : Int) (f2_0 : Int) (f2_1 : Int) (f2_2 : Int) (f3_0 : Int) (f3_1 : Int) : Option (Bool) := ((impl_isColour.f K f0_0).bind fun t3 => (if t3 = true then ((impl_isCircle.f K f1_0 f2_0 f2_1 f2_2).bind fun t8 => (if t8 = true then ((impl_isPoint.f K f1_0 f3_0 f3_1).bind fun t13 => some t13) else some false)) else some false))

def impl_asked__impl_InversePoint_1.f (K : Nat) (a0 : Int) (c1_0_0 : Int) (c1_1_0 : Int) (c1_2_0 : Int) (c1_2_1 : Int) (c1_2_2 : Int) (c1_3_0 : Int) (c1_3_1 : Int) : Option (Int) := ((impl_IsField.f K a0).bind fun t4 => (if t4 = true then ((impl_InversePoint_1.f K c1_0_0 c1_1_0 c1_2_0 c1_2_1 c1_2_2 c1_3_0 c1_3_1).bind fun t11 => (if t11 = true then some 0 else some 2)) else some 1))

def impl_combination.f (K : Nat) (a0 : Int) (a1_0 : Int) (a1_1 : Int) (a2_0 : Int) (a2_1 : Int) (a3 : Int) : Option (Int × Int) := ((impl_rest.f K a0 (wrap64 (a1_0 + (wrap64 (a3 * (wrap64 (a2_0 - a1_0))))))).bind fun t12 => ((impl_rest.f K a0 (wrap64 (a1_1 + (wrap64 (a3 * (wrap64 (a2_1 - a1_1))))))).bind fun t14 => some (t12, t14)))

def impl_InversePoint.f (K : Nat) (a0 : Int) (a1 : Int) (a2_0 : Int) (a2_1 : Int) (a2_2 : Int) (a3_0 : Int) (a3_1 : Int) : Option (Int × Int × Int) := ((impl_asked__impl_InversePoint_1.f K a0 a1 a0 a2_0 a2_1 a2_2 a3_0 a3_1).bind fun t19 => (if (t19 == 0) = true then ((impl_quadrance.f K a0 a1 a2_0 a2_1 a3_0 a3_1).bind fun t29 => (if (t29 == 0) = true then some (0, 0, 5) else ((impl_divide.f K a0 a2_2 t29).bind fun t44 => ((impl_combination.f K a0 a2_0 a2_1 a3_0 a3_1 t44).bind fun (t46, t47) => some (t46, t47, 0))))) else some (0, 0, t19)))

def spec_InversePoint.f (K : Nat) (a0 : Int) (a1 : Int) (a2_0 : Int) (a2_1 : Int) (a2_2 : Int) (a3_0 : Int) (a3_1 : Int) : Option (Int × Int × Int) := ((spec_l06Given.f K a0 a1 a2_0 a2_1 a2_2 a3_0 a3_1).bind fun t13 => (if (t13 == 0) = true then ((spec_l02Quadrance.f K a0 a1 a2_0 a2_1 a3_0 a3_1).bind fun t21 => (if (t21 == 0) = true then some (0, 0, 5) else ((spec_l01Inverse.f K t21 a0).bind fun t35 => ((spec_l01Mod.f K (wrap64 (a2_2 * t35)) a0).bind fun t37 => ((spec_l01Minus.f K a0 a3_0 a3_1 a2_0 a2_1).bind fun (t42, t43) => ((spec_l01Times.f K a0 t37 t42 t43).bind fun (t45, t46) => ((spec_l01Plus.f K a0 a2_0 a2_1 t45 t46).bind fun (t48, t49) => some (t48, t49, 0)))))))) else some (0, 0, t13)))

def impl_IsCircle.f (K : Nat) (a0 : Int) (a1_0 : Int) (a1_1 : Int) (a1_2 : Int) : Option (Bool × Int) := ((impl_IsField.f K a0).bind fun t7 => (if t7 = true then ((impl_isCircle.f K a0 a1_0 a1_1 a1_2).bind fun t13 => some (t13, 0)) else some (false, 1)))

def impl_TangentsFrom_1.f (K : Nat) (f0_0 : Int) (f1_0 : Int) (f2_0 : Int) (f2_1 : Int) (f2_2 : Int) (f3_0 : Int) (f3_1 : Int) : Option (Bool) := ((impl_isColour.f K f0_0).bind fun t3 => (if t3 = true then ((impl_isCircle.f K f1_0 f2_0 f2_1 f2_2).bind fun t8 => (if t8 = true then ((impl_isPoint.f K f1_0 f3_0 f3_1).bind fun t13 => some t13) else some false)) else some false))

def impl_asked__impl_TangentsFrom_1.f (K : Nat) (a0 : Int) (c1_0_0 : Int) (c1_1_0 : Int) (c1_2_0 : Int) (c1_2_1 : Int) (c1_2_2 : Int) (c1_3_0 : Int) (c1_3_1 : Int) : Option (Int) := ((impl_IsField.f K a0).bind fun t4 => (if t4 = true then ((impl_TangentsFrom_1.f K c1_0_0 c1_1_0 c1_2_0 c1_2_1 c1_2_2 c1_3_0 c1_3_1).bind fun t11 => (if t11 = true then some 0 else some 2)) else some 1))

def impl_pointsAt_1.f (K : Nat) (a0_0 : Int) (a0_1 : Int) (f0_0 : Int) (f1_0 : Int) (f2_0 : Int) (f2_1 : Int) (f3_0 : Int) : Option (Bool) := ((impl_quadrance.f K f0_0 f1_0 f2_0 f2_1 a0_0 a0_1).bind fun t6 => some (t6 == f3_0))


def impl_pointsWith__impl_pointsAt_1.l0 (K : Nat) (c1_0_0 : Int) (c1_1_0 : Int) (c1_2_0 : Int) (c1_2_1 : Int) (c1_3_0 : Int) (t8 : List (Int × Int)) : Nat → Int → List (Int × Int) → Option (List (Int × Int))
  | 0, _, _ => none
  | k28 + 1, x17, x18 => (if decide (x17 < (t8.length : Int)) = true then ((idx t8 x17).bind fun (t39, t40) => ((impl_pointsAt_1.f K t39 t40 c1_0_0 c1_1_0 c1_2_0 c1_2_1 c1_3_0).bind fun t52 => (if t52 = true then (if decide (x18.length ≤ 1000000) = true then (impl_pointsWith__impl_pointsAt_1.l0 K c1_0_0 c1_1_0 c1_2_0 c1_2_1 c1_3_0 t8 k28 (wrap64 (x17 + 1)) (x18 ++ [(t39, t40)])) else none) else (impl_pointsWith__impl_pointsAt_1.l0 K c1_0_0 c1_1_0 c1_2_0 c1_2_1 c1_3_0 t8 k28 (wrap64 (x17 + 1)) x18)))) else some x18)
def impl_pointsWith__impl_pointsAt_1.f (K : Nat) (a0 : Int) (c1_0_0 : Int) (c1_1_0 : Int) (c1_2_0 : Int) (c1_2_1 : Int) (c1_3_0 : Int) : Option (List (Int × Int)) := ((impl_allPoints.f K a0).bind fun t8 => (impl_pointsWith__impl_pointsAt_1.l0 K c1_0_0 c1_1_0 c1_2_0 c1_2_1 c1_3_0 t8 K 0 ([] : List (Int × Int))))

def impl_pointsAt.f (K : Nat) (a0 : Int) (a1 : Int) (a2_0 : Int) (a2_1 : Int) (a3 : Int) : Option (List (Int × Int)) := ((impl_pointsWith__impl_pointsAt_1.f K a0 a0 a1 a2_0 a2_1 a3).bind fun t15 => some t15)


def impl_TangentsFrom.l0 (K : Nat) (a0 : Int) (a1 : Int) (a2_0 : Int) (a2_1 : Int) (a2_2 : Int) (a3_0 : Int) (a3_1 : Int) (t40 : List (Int × Int)) : Nat → Int → List (Int × Int × Int) → List (Int × Int × Int) → Option (List (Int × Int × Int) × Int)
  | 0, _, _, _ => none
  | k69 + 1, x46, x50, x53 => (if decide (x46 < (t40.length : Int)) = true then ((idx t40 x46).bind fun (t81, t82) => (if (t81 == a2_0 && t82 == a2_1) = true then (impl_TangentsFrom.l0 K a0 a1 a2_0 a2_1 a2_2 a3_0 a3_1 t40 k69 (wrap64 (x46 + 1)) x50 x53) else ((impl_tangent.f K a0 a1 a2_0 a2_1 a2_2 t81 t82).bind fun (t108, t109, t110) => ((impl_isOn.f K a0 a3_0 a3_1 t108 t109 t110).bind fun t121 => (if t121 = true then (if memL x53 (t108, t109, t110) = true then (impl_TangentsFrom.l0 K a0 a1 a2_0 a2_1 a2_2 a3_0 a3_1 t40 k69 (wrap64 (x46 + 1)) x50 x53) else (if decide (x50.length ≤ 1000000) = true then (impl_TangentsFrom.l0 K a0 a1 a2_0 a2_1 a2_2 a3_0 a3_1 t40 k69 (wrap64 (x46 + 1)) (x50 ++ [(t108, t109, t110)]) (x53 ++ [(t108, t109, t110)])) else none)) else (impl_TangentsFrom.l0 K a0 a1 a2_0 a2_1 a2_2 a3_0 a3_1 t40 k69 (wrap64 (x46 + 1)) x50 x53)))))) else (if decide (x50.length ≤ 1000000) = true then some ((sortL x50), 0) else none))
def impl_TangentsFrom.f (K : Nat) (a0 : Int) (a1 : Int) (a2_0 : Int) (a2_1 : Int) (a2_2 : Int) (a3_0 : Int) (a3_1 : Int) : Option (List (Int × Int × Int) × Int) := ((impl_asked__impl_TangentsFrom_1.f K a0 a1 a0 a2_0 a2_1 a2_2 a3_0 a3_1).bind fun t16 => (if (t16 == 0) = true then ((impl_pointsAt.f K a0 a1 a2_0 a2_1 a2_2).bind fun t40 => (impl_TangentsFrom.l0 K a0 a1 a2_0 a2_1 a2_2 a3_0 a3_1 t40 K 0 ([] : List (Int × Int × Int)) ([] : List (Int × Int × Int)))) else some ([], t16)))

def spec_l06Before.f (K : Nat) (a0_0 : Int) (a0_1 : Int) (a0_2 : Int) (a1_0 : Int) (a1_1 : Int) (a1_2 : Int) : Option (Bool) := (if (a0_0 == a1_0) = true then (if (a0_1 == a1_1) = true then (if (a0_2 == a1_2) = true then some false else some (decide (a0_2 < a1_2))) else some (decide (a0_1 < a1_1))) else some (decide (a0_0 < a1_0)))


def spec_l06Put.l0 (K : Nat) (a0 : List (Int × Int × Int)) (a1_0 : Int) (a1_1 : Int) (a1_2 : Int) : Nat → Int → Option (List (Int × Int × Int))
  | 0, _ => none
  | k12 + 1, x7 => (if decide (0 < x7) = true then ((idx a0 (wrap64 (x7 - 1))).bind fun (t20, t21, t22) => ((spec_l06Before.f K a1_0 a1_1 a1_2 t20 t21 t22).bind fun t28 => (if t28 = true then (spec_l06Put.l0 K a0 a1_0 a1_1 a1_2 k12 (wrap64 (x7 - 1))) else ((idx a0 (wrap64 (x7 - 1))).bind fun (t36, t37, t38) => (if (t36 == a1_0 && (t37 == a1_1 && t38 == a1_2)) = true then some a0 else ((cutHi a0 x7).bind fun t53 => (if decide (t53.length ≤ 1000000) = true then ((some (t53 ++ [(a1_0, a1_1, a1_2)])).bind fun t72 => ((cutLo a0 x7).bind fun t78 => (if decide (t72.length ≤ 1000000) = true then (if decide (t78.length ≤ 1000000) = true then ((some (t72 ++ t78)).bind fun t95 => some t95) else none) else none))) else none))))))) else ((cutHi a0 x7).bind fun t107 => (if decide (t107.length ≤ 1000000) = true then ((some (t107 ++ [(a1_0, a1_1, a1_2)])).bind fun t128 => ((cutLo a0 x7).bind fun t134 => (if decide (t128.length ≤ 1000000) = true then (if decide (t134.length ≤ 1000000) = true then ((some (t128 ++ t134)).bind fun t151 => some t151) else none) else none))) else none)))
def spec_l06Put.f (K : Nat) (a0 : List (Int × Int × Int)) (a1_0 : Int) (a1_1 : Int) (a1_2 : Int) : Option (List (Int × Int × Int)) := (spec_l06Put.l0 K a0 a1_0 a1_1 a1_2 K (a0.length : Int))


def spec_TangentsFrom.l0 (K : Nat) (a0 : Int) (a1 : Int) (a2_0 : Int) (a2_1 : Int) (a2_2 : Int) (a3_0 : Int) (a3_1 : Int) (t18 : List (Int × Int)) : Nat → Int → List (Int × Int × Int) → Option (List (Int × Int × Int) × Int)
  | 0, _, _ => none
  | k43 + 1, x31, x32 => (if decide (x31 < (t18.length : Int)) = true then ((idx t18 x31).bind fun (t55, t56) => (if (t55 == a2_0 && t56 == a2_1) = true then (spec_TangentsFrom.l0 K a0 a1 a2_0 a2_1 a2_2 a3_0 a3_1 t18 k43 (wrap64 (x31 + 1)) x32) else ((idx t18 x31).bind fun (t68, t69) => ((spec_l06Tangent.f K a0 a1 a2_0 a2_1 a2_2 t68 t69).bind fun (t75, t76, t77) => ((spec_l01On.f K a0 a3_0 a3_1 t75 t76 t77).bind fun t87 => (if t87 = true then ((spec_l06Put.f K x32 t75 t76 t77).bind fun t97 => (spec_TangentsFrom.l0 K a0 a1 a2_0 a2_1 a2_2 a3_0 a3_1 t18 k43 (wrap64 (x31 + 1)) t97)) else (spec_TangentsFrom.l0 K a0 a1 a2_0 a2_1 a2_2 a3_0 a3_1 t18 k43 (wrap64 (x31 + 1)) x32))))))) else some (x32, 0))
def spec_TangentsFrom.f (K : Nat) (a0 : Int) (a1 : Int) (a2_0 : Int) (a2_1 : Int) (a2_2 : Int) (a3_0 : Int) (a3_1 : Int) : Option (List (Int × Int × Int) × Int) := ((spec_l06Given.f K a0 a1 a2_0 a2_1 a2_2 a3_0 a3_1).bind fun t10 => (if (t10 == 0) = true then ((spec_l02At.f K a0 a1 a2_0 a2_1 a2_2).bind fun t18 => (spec_TangentsFrom.l0 K a0 a1 a2_0 a2_1 a2_2 a3_0 a3_1 t18 K 0 ([] : List (Int × Int × Int)))) else some ([], t10)))


def laws_lines9.l0 (K : Nat) (a0 : List (Int × Int × Int)) (a1 : List (Int × Int × Int)) : Nat → Int → Option (Bool)
  | 0, _ => none
  | k12 + 1, x7 => (if decide (x7 < (a0.length : Int)) = true then ((idx a0 x7).bind fun (t22, t23, t24) => ((idx a1 x7).bind fun (t30, t31, t32) => (if (t22 == t30 && (t23 == t31 && t24 == t32)) = true then (laws_lines9.l0 K a0 a1 k12 (wrap64 (x7 + 1))) else some false))) else some true)
def laws_lines9.f (K : Nat) (a0 : List (Int × Int × Int)) (a1 : List (Int × Int × Int)) : Option (Bool) := (if ((a0.length : Int) == (a1.length : Int)) = true then (laws_lines9.l0 K a0 a1 K 0) else some false)


def laws_hasPoint9.l0 (K : Nat) (a0 : List (Int × Int)) (a1_0 : Int) (a1_1 : Int) : Nat → Int → Option (Bool)
  | 0, _ => none
  | k12 + 1, x7 => (if decide (x7 < (a0.length : Int)) = true then ((idx a0 x7).bind fun (t22, t23) => (if (t22 == a1_0 && t23 == a1_1) = true then some true else (laws_hasPoint9.l0 K a0 a1_0 a1_1 k12 (wrap64 (x7 + 1))))) else some false)
def laws_hasPoint9.f (K : Nat) (a0 : List (Int × Int)) (a1_0 : Int) (a1_1 : Int) : Option (Bool) := (laws_hasPoint9.l0 K a0 a1_0 a1_1 K 0)

def spec_IsCircle.f (K : Nat) (a0 : Int) (a1_0 : Int) (a1_1 : Int) (a1_2 : Int) : Option (Bool × Int) := ((spec_l01Field.f K a0).bind fun t7 => (if t7 = true then ((spec_l06Is.f K a0 a1_0 a1_1 a1_2).bind fun t13 => some (t13, 0)) else some (false, 1)))


def laws_FnCircles.j2 (K : Nat) (t11 : Int) (t12 : Int) (t13 : Int) (t14 : Int) (t15 : Int) (t16 : Int) (t17 : Int) (t36 : Int) (t37 : Int) (t38 : Int) (t39 : Int) (t197 : Int) (t198 : Int) : Option (Bool) := (if (t39 == 0) = true then ((impl_MeetLine.f K t11 t12 t13 t14 t15 t36 t37 t38).bind fun (t270, t273) => ((impl_TangentsFrom.f K t11 t12 t13 t14 t15 t16 t17).bind fun (t278, t281) => ((spec_TangentsFrom.f K t11 t12 t13 t14 t15 t16 t17).bind fun (t286, t289) => (if (t281 == t289) = true then ((laws_lines9.f K t278 t286).bind fun t298 => (if t298 = true then (if (t281 == 0) = true then (if ((t278.length : Int) == 0) = true then some false else (if (t198 == 0) = true then (if (t197 == 0) = true then (if (t273 == 0) = true then ((laws_hasPoint9.f K t270 t16 t17).bind fun t312 => (if t312 = true then (if (t15 == 0) = true then some true else some ((t270.length : Int) == 1)) else some false)) else some false) else some false) else some false)) else some false) else some false)) else some false)))) else some (t36 == 0 && (t37 == 0 && t38 == 0)))

def laws_FnCircles.j1 (K : Nat) (t11 : Int) (t12 : Int) (t13 : Int) (t14 : Int) (t15 : Int) (t16 : Int) (t17 : Int) (t36 : Int) (t37 : Int) (t38 : Int) (t39 : Int) (t72 : Int) (t73 : Int) (t74 : Int) (t75 : Int) (t76 : Int) (t77 : Int) (t78 : Int) (t79 : Int) (t108 : Int) (t109 : Int) (t110 : Int) (t111 : Int) (t197 : Int) (t198 : Int) : Option (Bool) := (if (t111 == 0) = true then ((impl_PowerOf.f K t72 t73 t108 t109 t110 t74 t75).bind fun (t343, t344) => (if (t344 == 0) = true then (if (t343 == 0) = true then ((impl_PowerOf.f K t72 t73 t108 t109 t110 t76 t77).bind fun (t366, t367) => (if (t367 == 0) = true then (if (t366 == 0) = true then ((impl_PowerOf.f K t72 t73 t108 t109 t110 t78 t79).bind fun (t391, t392) => (if (t392 == 0) = true then (if (t391 == 0) = true then (laws_FnCircles.j2 K t11 t12 t13 t14 t15 t16 t17 t36 t37 t38 t39 t197 t198) else some false) else some false)) else some false) else some false)) else some false) else some false)) else (laws_FnCircles.j2 K t11 t12 t13 t14 t15 t16 t17 t36 t37 t38 t39 t197 t198))

def laws_FnCircles.j0 (K : Nat) (t11 : Int) (t12 : Int) (t13 : Int) (t14 : Int) (t15 : Int) (t16 : Int) (t17 : Int) (t36 : Int) (t37 : Int) (t38 : Int) (t39 : Int) (t72 : Int) (t73 : Int) (t74 : Int) (t75 : Int) (t76 : Int) (t77 : Int) (t78 : Int) (t79 : Int) (t108 : Int) (t109 : Int) (t110 : Int) (t111 : Int) (t197 : Int) (t198 : Int) (t222 : Int) (t223 : Int) (t224 : Int) : Option (Bool) := (if (t224 == 0) = true then (if (t15 == 0) = true then (laws_FnCircles.j1 K t11 t12 t13 t14 t15 t16 t17 t36 t37 t38 t39 t72 t73 t74 t75 t76 t77 t78 t79 t108 t109 t110 t111 t197 t198) else ((impl_InversePoint.f K t11 t12 t13 t14 t15 t222 t223).bind fun (t416, t417, t418) => (if (t418 == 0) = true then (if (t416 == t16 && t417 == t17) = true then (laws_FnCircles.j1 K t11 t12 t13 t14 t15 t16 t17 t36 t37 t38 t39 t72 t73 t74 t75 t76 t77 t78 t79 t108 t109 t110 t111 t197 t198) else some false) else some false))) else (laws_FnCircles.j1 K t11 t12 t13 t14 t15 t16 t17 t36 t37 t38 t39 t72 t73 t74 t75 t76 t77 t78 t79 t108 t109 t110 t111 t197 t198))
def laws_FnCircles.f (K : Nat) (a0 : List (Int)) : Option (Bool) := ((laws_big.f K a0).bind fun t4 => (if t4 = true then some true else ((spec_DrawTangentAt.f K a0).bind fun (t11, t12, t13, t14, t15, t16, t17) => ((impl_TangentAt.f K t11 t12 t13 t14 t15 t16 t17).bind fun (t36, t37, t38, t39) => ((spec_TangentAt.f K t11 t12 t13 t14 t15 t16 t17).bind fun (t51, t52, t53, t54) => (if (t39 == t54) = true then (if (t36 == t51 && (t37 == t52 && t38 == t53)) = true then ((spec_DrawCircleThrough.f K a0).bind fun (t72, t73, t74, t75, t76, t77, t78, t79) => ((impl_CircleThrough.f K t72 t73 t74 t75 t76 t77 t78 t79).bind fun (t108, t109, t110, t111) => ((spec_CircleThrough.f K t72 t73 t74 t75 t76 t77 t78 t79).bind fun (t123, t124, t125, t126) => (if (t111 == t126) = true then (if (t108 == t123 && (t109 == t124 && t110 == t125)) = true then ((spec_DrawMeetLine.f K a0).bind fun (t145, t146, t147, t148, t149, t150, t151, t152) => ((impl_MeetLine.f K t145 t146 t147 t148 t149 t150 t151 t152).bind fun (t171, t174) => ((spec_MeetLine.f K t145 t146 t147 t148 t149 t150 t151 t152).bind fun (t180, t183) => (if (t174 == t183) = true then ((laws_points9.f K t171 t180).bind fun t191 => (if t191 = true then ((impl_PowerOf.f K t11 t12 t13 t14 t15 t16 t17).bind fun (t197, t198) => ((spec_PowerOf.f K t11 t12 t13 t14 t15 t16 t17).bind fun (t204, t205) => (if (t198 == t205) = true then (if (t197 == t204) = true then ((impl_InversePoint.f K t11 t12 t13 t14 t15 t16 t17).bind fun (t222, t223, t224) => ((spec_InversePoint.f K t11 t12 t13 t14 t15 t16 t17).bind fun (t236, t237, t238) => (if (t224 == t238) = true then (if (t222 == t236 && t223 == t237) = true then ((impl_IsCircle.f K t11 t13 t14 t15).bind fun (t254, t255) => ((spec_IsCircle.f K t11 t13 t14 t15).bind fun (t443, t444) => (if (t255 == t444) = true then (if t254 = true then (if t443 = true then (laws_FnCircles.j0 K t11 t12 t13 t14 t15 t16 t17 t36 t37 t38 t39 t72 t73 t74 t75 t76 t77 t78 t79 t108 t109 t110 t111 t197 t198 t222 t223 t224) else some false) else (if t443 = true then some false else (laws_FnCircles.j0 K t11 t12 t13 t14 t15 t16 t17 t36 t37 t38 t39 t72 t73 t74 t75 t76 t77 t78 t79 t108 t109 t110 t111 t197 t198 t222 t223 t224))) else some false))) else some false) else some false))) else some false) else some false))) else some false)) else some false)))) else some false) else some false)))) else some false) else some false))))))

end Go.Proofs.YtccbmdpikalpfaaGreat
