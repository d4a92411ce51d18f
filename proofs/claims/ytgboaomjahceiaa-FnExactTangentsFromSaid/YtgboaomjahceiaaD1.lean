/- What the functions of the program compute, in plain Lean. -/
import Derived.Test.YtgboaomjahceiaaK
import Derived.Test.YtgboaomjahceiaaB3
namespace Go.Proofs.Ytgboaomjahceiaa
open Go Go.RowKit
attribute [local go_sem] Oper.quiet Oper.quietAt Oper.quietUpon Act.put nm1 nm2 nm3 i64_w run_max2 run_min2 mkT_getD mkT_get mkT_set lookT_cons lookT_nil
attribute [local irreducible] wpList
set_option linter.unusedVariables false
set_option linter.unusedSimpArgs false

def laws_toPoint.f (K : Nat) (a0_0 : Int) (a0_1 : Int) : Option (Int × Int) := some (a0_0, a0_1)

def laws_toCircle.f (K : Nat) (a0_0 : Int) (a0_1 : Int) (a0_2 : Int) : Option (Int × Int × Int) := ((laws_toPoint.f K a0_0 a0_1).bind fun (t13, t14) => some (t13, t14, a0_2))

def spec_l01In.f (K : Nat) (a0 : Int) (a1 : Int) (a2 : Int) : Option (Bool) := (if decide (a1 ≤ a0) = true then some (decide (a0 ≤ a2)) else some false)


def spec_l01Field.l0 (K : Nat) (a0 : Int) : Nat → Int → Option (Bool)
  | 0, _ => none
  | k16 + 1, x11 => (if decide ((wrap64 (x11 * x11)) ≤ a0) = true then (if (x11 == 0) = true then none else (if ((Int.tmod a0 x11) == 0) = true then some false else (spec_l01Field.l0 K a0 k16 (wrap64 (x11 + 1))))) else some true)
def spec_l01Field.f (K : Nat) (a0 : Int) : Option (Bool) := ((spec_l01In.f K a0 3 31).bind fun t4 => (if t4 = true then (spec_l01Field.l0 K a0 K 2) else some false))

def spec_l01Point.f (K : Nat) (a0 : Int) (a1_0 : Int) (a1_1 : Int) : Option (Bool) := ((spec_l01In.f K a1_0 0 (wrap64 (a0 - 1))).bind fun t6 => (if t6 = true then ((spec_l01In.f K a1_1 0 (wrap64 (a0 - 1))).bind fun t11 => some t11) else some false))


def spec_l01Code.l0 (K : Nat) (a0 : Int) (a1 : List (Int × Int)) : Nat → Int → Option (Int)
  | 0, _ => none
  | k16 + 1, x11 => (if decide (x11 < (a1.length : Int)) = true then ((idx a1 x11).bind fun (t26, t27) => ((spec_l01Point.f K a0 t26 t27).bind fun t32 => (if t32 = true then (spec_l01Code.l0 K a0 a1 k16 (wrap64 (x11 + 1))) else some 2))) else some 0)
def spec_l01Code.f (K : Nat) (a0 : Int) (a1 : List (Int × Int)) : Option (Int) := ((spec_l01Field.f K a0).bind fun t4 => (if t4 = true then (spec_l01Code.l0 K a0 a1 K 0) else some 1))

def spec_l02Colour.f (K : Nat) (a0 : Int) : Option (Bool) := ((spec_l01In.f K a0 0 2).bind fun t3 => some t3)

def spec_l02Code.f (K : Nat) (a0 : Int) (a1 : Int) (a2 : List (Int × Int)) : Option (Int) := ((spec_l01Code.f K a0 a2).bind fun t3 => (if (t3 == 0) = true then ((spec_l02Colour.f K a1).bind fun t10 => (if t10 = true then some t3 else some 2)) else some t3))

def spec_l06Is.f (K : Nat) (a0 : Int) (a1_0 : Int) (a1_1 : Int) (a1_2 : Int) : Option (Bool) := ((spec_l01Point.f K a0 a1_0 a1_1).bind fun t6 => (if t6 = true then ((spec_l01In.f K a1_2 0 (wrap64 (a0 - 1))).bind fun t11 => some t11) else some false))


def spec_l06Code.l0 (K : Nat) (a0 : Int) (a2 : List (Int × Int × Int)) : Nat → Int → Int → Option (Int)
  | 0, _, _ => none
  | k15 + 1, x9, x10 => (if decide (x10 < (a2.length : Int)) = true then (if (x9 == 0) = true then ((idx a2 x10).bind fun (t26, t27, t28) => ((spec_l06Is.f K a0 t26 t27 t28).bind fun t33 => (if t33 = true then (spec_l06Code.l0 K a0 a2 k15 x9 (wrap64 (x10 + 1))) else (spec_l06Code.l0 K a0 a2 k15 2 (wrap64 (x10 + 1)))))) else some x9) else some x9)
def spec_l06Code.f (K : Nat) (a0 : Int) (a1 : Int) (a2 : List (Int × Int × Int)) : Option (Int) := ((spec_l02Code.f K a0 a1 ([])).bind fun t3 => (spec_l06Code.l0 K a0 a2 K t3 0))

def spec_l06Given.f (K : Nat) (a0 : Int) (a1 : Int) (a2_0 : Int) (a2_1 : Int) (a2_2 : Int) (a3_0 : Int) (a3_1 : Int) : Option (Int) := ((spec_l06Code.f K a0 a1 ([(a2_0, a2_1, a2_2)])).bind fun t12 => (if (t12 == 0) = true then ((spec_l01Code.f K a0 ([(a3_0, a3_1)])).bind fun t23 => some t23) else some t12))

def spec_l01Mod.f (K : Nat) (a0 : Int) (a1 : Int) : Option (Int) := (if (a1 == 0) = true then none else some (Int.tmod (wrap64 ((Int.tmod a0 a1) + a1)) a1))

def spec_l01Minus.f (K : Nat) (a0 : Int) (a1_0 : Int) (a1_1 : Int) (a2_0 : Int) (a2_1 : Int) : Option (Int × Int) := ((spec_l01Mod.f K (wrap64 (a1_0 - a2_0)) a0).bind fun t12 => ((spec_l01Mod.f K (wrap64 (a1_1 - a2_1)) a0).bind fun t14 => some (t12, t14)))

def spec_l02Product.f (K : Nat) (a0 : Int) (a1 : Int) (a2_0 : Int) (a2_1 : Int) (a3_0 : Int) (a3_1 : Int) : Option (Int) := (if (a1 == 0) = true then ((spec_l01Mod.f K (wrap64 ((wrap64 (a2_0 * a3_0)) + (wrap64 (a2_1 * a3_1)))) a0).bind fun t13 => some t13) else (if (a1 == 1) = true then ((spec_l01Mod.f K (wrap64 ((wrap64 (a2_0 * a3_0)) - (wrap64 (a2_1 * a3_1)))) a0).bind fun t20 => some t20) else ((spec_l01Mod.f K (wrap64 ((wrap64 (a2_0 * a3_1)) + (wrap64 (a2_1 * a3_0)))) a0).bind fun t25 => some t25)))

def spec_l02Quadrance.f (K : Nat) (a0 : Int) (a1 : Int) (a2_0 : Int) (a2_1 : Int) (a3_0 : Int) (a3_1 : Int) : Option (Int) := ((spec_l01Minus.f K a0 a3_0 a3_1 a2_0 a2_1).bind fun (t9, t10) => ((spec_l02Product.f K a0 a1 t9 t10 t9 t10).bind fun t21 => some t21))

mutual
def spec_l02At.l0 (K : Nat) (a0 : Int) (a1 : Int) (a2_0 : Int) (a2_1 : Int) (a3 : Int) : Nat → Int → List (Int × Int) → Option (List (Int × Int))
  | 0, _, _ => none
  | k23 + 1, x13, x14 => (if decide (x13 < a0) = true then (spec_l02At.l1 K a0 a1 a2_0 a2_1 a3 x13 k23 0 x14) else some x14)
def spec_l02At.l1 (K : Nat) (a0 : Int) (a1 : Int) (a2_0 : Int) (a2_1 : Int) (a3 : Int) (x13 : Int) : Nat → Int → List (Int × Int) → Option (List (Int × Int))
  | 0, _, _ => none
  | k44 + 1, x34, x35 => (if decide (x34 < a0) = true then ((spec_l02Quadrance.f K a0 a1 a2_0 a2_1 x13 x34).bind fun t61 => (if (t61 == a3) = true then (if decide (x35.length ≤ 1000000) = true then (spec_l02At.l1 K a0 a1 a2_0 a2_1 a3 x13 k44 (wrap64 (x34 + 1)) (x35 ++ [(x13, x34)])) else none) else (spec_l02At.l1 K a0 a1 a2_0 a2_1 a3 x13 k44 (wrap64 (x34 + 1)) x35))) else (spec_l02At.l0 K a0 a1 a2_0 a2_1 a3 k44 (wrap64 (x13 + 1)) x35))
end
def spec_l02At.f (K : Nat) (a0 : Int) (a1 : Int) (a2_0 : Int) (a2_1 : Int) (a3 : Int) : Option (List (Int × Int)) := (spec_l02At.l0 K a0 a1 a2_0 a2_1 a3 K 0 ([] : List (Int × Int)))


def spec_l01Inverse.l0 (K : Nat) (a1 : Int) : Nat → Int → Int → Int → Option (Int)
  | 0, _, _, _ => none
  | k16 + 1, x9, x10, x11 => (if decide (0 < x11) = true then (if ((Int.tmod x11 2) == 1) = true then (if (a1 == 0) = true then none else (spec_l01Inverse.l0 K a1 k16 (Int.tmod (wrap64 (x9 * x10)) a1) (Int.tmod (wrap64 (x10 * x10)) a1) (wrap64 (Int.tdiv x11 2)))) else (if (a1 == 0) = true then none else (spec_l01Inverse.l0 K a1 k16 x9 (Int.tmod (wrap64 (x10 * x10)) a1) (wrap64 (Int.tdiv x11 2))))) else some x9)
def spec_l01Inverse.f (K : Nat) (a0 : Int) (a1 : Int) : Option (Int) := ((spec_l01Mod.f K a0 a1).bind fun t3 => (spec_l01Inverse.l0 K a1 K 1 t3 (wrap64 (a1 - 2))))

def spec_l01Normal.f (K : Nat) (a0 : Int) (a1 : Int) (a2 : Int) (a3 : Int) : Option (Int × Int × Int) := ((spec_l01Mod.f K a1 a0).bind fun t6 => (if (t6 == 0) = true then ((spec_l01Mod.f K a2 a0).bind fun t13 => ((spec_l01Inverse.f K t13 a0).bind fun t18 => ((spec_l01Mod.f K (wrap64 (a1 * t18)) a0).bind fun t23 => ((spec_l01Mod.f K (wrap64 (a2 * t18)) a0).bind fun t27 => ((spec_l01Mod.f K (wrap64 (a3 * t18)) a0).bind fun t31 => some (t23, t27, t31)))))) else ((spec_l01Inverse.f K t6 a0).bind fun t39 => ((spec_l01Mod.f K (wrap64 (a1 * t39)) a0).bind fun t44 => ((spec_l01Mod.f K (wrap64 (a2 * t39)) a0).bind fun t48 => ((spec_l01Mod.f K (wrap64 (a3 * t39)) a0).bind fun t52 => some (t44, t48, t52)))))))

def spec_l02Through.f (K : Nat) (a0 : Int) (a1 : Int) (a2_0 : Int) (a2_1 : Int) (a3_0 : Int) (a3_1 : Int) : Option (Int × Int × Int) := (if (a1 == 1) = true then ((spec_l01Mod.f K (wrap64 (-a2_1)) a0).bind fun t19 => ((spec_l01Mod.f K (wrap64 (-(wrap64 ((wrap64 (a2_0 * a3_0)) + (wrap64 (t19 * a3_1)))))) a0).bind fun t24 => ((spec_l01Normal.f K a0 a2_0 t19 t24).bind fun (t28, t29, t30) => some (t28, t29, t30)))) else (if (a1 == 2) = true then ((spec_l01Mod.f K (wrap64 (-(wrap64 ((wrap64 (a2_1 * a3_0)) + (wrap64 (a2_0 * a3_1)))))) a0).bind fun t41 => ((spec_l01Normal.f K a0 a2_1 a2_0 t41).bind fun (t45, t46, t47) => some (t45, t46, t47))) else ((spec_l01Mod.f K (wrap64 (-(wrap64 ((wrap64 (a2_0 * a3_0)) + (wrap64 (a2_1 * a3_1)))))) a0).bind fun t55 => ((spec_l01Normal.f K a0 a2_0 a2_1 t55).bind fun (t59, t60, t61) => some (t59, t60, t61)))))

def spec_l06Tangent.f (K : Nat) (a0 : Int) (a1 : Int) (a2_0 : Int) (a2_1 : Int) (a2_2 : Int) (a3_0 : Int) (a3_1 : Int) : Option (Int × Int × Int) := ((spec_l01Minus.f K a0 a3_0 a3_1 a2_0 a2_1).bind fun (t12, t13) => ((spec_l02Through.f K a0 a1 t12 t13 a3_0 a3_1).bind fun (t15, t16, t17) => some (t15, t16, t17)))

def spec_l01On.f (K : Nat) (a0 : Int) (a1_0 : Int) (a1_1 : Int) (a2_0 : Int) (a2_1 : Int) (a2_2 : Int) : Option (Bool) := (if (a0 == 0) = true then none else some ((Int.tmod (wrap64 ((wrap64 ((wrap64 (a2_0 * a1_0)) + (wrap64 (a2_1 * a1_1)))) + a2_2)) a0) == 0))

def spec_l06Before.f (K : Nat) (a0_0 : Int) (a0_1 : Int) (a0_2 : Int) (a1_0 : Int) (a1_1 : Int) (a1_2 : Int) : Option (Bool) := (if (a0_0 == a1_0) = true then (if (a0_1 == a1_1) = true then (if (a0_2 == a1_2) = true then some false else some (decide (a0_2 < a1_2))) else some (decide (a0_1 < a1_1))) else some (decide (a0_0 < a1_0)))


def spec_l06Put.l0 (K : Nat) (a0 : List (Int × Int × Int)) (a1_0 : Int) (a1_1 : Int) (a1_2 : Int) : Nat → Int → Option (List (Int × Int × Int))
  | 0, _ => none
  | k12 + 1, x7 => (if decide (0 < x7) = true then ((idx a0 (wrap64 (x7 - 1))).bind fun (t20, t21, t22) => ((spec_l06Before.f K a1_0 a1_1 a1_2 t20 t21 t22).bind fun t28 => (if t28 = true then (spec_l06Put.l0 K a0 a1_0 a1_1 a1_2 k12 (wrap64 (x7 - 1))) else ((idx a0 (wrap64 (x7 - 1))).bind fun (t36, t37, t38) => (if (t36 == a1_0 && (t37 == a1_1 && t38 == a1_2)) = true then some a0 else ((cutHi a0 x7).bind fun t53 => (if decide (t53.length ≤ 1000000) = true then ((some (t53 ++ [(a1_0, a1_1, a1_2)])).bind fun t72 => ((cutLo a0 x7).bind fun t78 => (if decide (t72.length ≤ 1000000) = true then (if decide (t78.length ≤ 1000000) = true then ((some (t72 ++ t78)).bind fun t95 => some t95) else none) else none))) else none))))))) else ((cutHi a0 x7).bind fun t107 => (if decide (t107.length ≤ 1000000) = true then ((some (t107 ++ [(a1_0, a1_1, a1_2)])).bind fun t128 => ((cutLo a0 x7).bind fun t134 => (if decide (t128.length ≤ 1000000) = true then (if decide (t134.length ≤ 1000000) = true then ((some (t128 ++ t134)).bind fun t151 => some t151) else none) else none))) else none)))
def spec_l06Put.f (K : Nat) (a0 : List (Int × Int × Int)) (a1_0 : Int) (a1_1 : Int) (a1_2 : Int) : Option (List (Int × Int × Int)) := (spec_l06Put.l0 K a0 a1_0 a1_1 a1_2 K (a0.length : Int))


def spec_TangentsFrom.l0 (K : Nat) (a0 : Int) (a1 : Int) (a2_0 : Int) (a2_1 : Int) (a2_2 : Int) (a3_0 : Int) (a3_1 : Int) (t18 : List (Int × Int)) : Nat → Int → List (Int × Int × Int) → Option (List (Int × Int × Int) × Int)
  | 0, _, _ => none
  | k43 + 1, x31, x32 => (if decide (x31 < (t18.length : Int)) = true then ((idx t18 x31).bind fun (t55, t56) => (if (t55 == a2_0 && t56 == a2_1) = true then (spec_TangentsFrom.l0 K a0 a1 a2_0 a2_1 a2_2 a3_0 a3_1 t18 k43 (wrap64 (x31 + 1)) x32) else ((idx t18 x31).bind fun (t68, t69) => ((spec_l06Tangent.f K a0 a1 a2_0 a2_1 a2_2 t68 t69).bind fun (t75, t76, t77) => ((spec_l01On.f K a0 a3_0 a3_1 t75 t76 t77).bind fun t87 => (if t87 = true then ((spec_l06Put.f K x32 t75 t76 t77).bind fun t97 => (spec_TangentsFrom.l0 K a0 a1 a2_0 a2_1 a2_2 a3_0 a3_1 t18 k43 (wrap64 (x31 + 1)) t97)) else (spec_TangentsFrom.l0 K a0 a1 a2_0 a2_1 a2_2 a3_0 a3_1 t18 k43 (wrap64 (x31 + 1)) x32))))))) else some (x32, 0))
def spec_TangentsFrom.f (K : Nat) (a0 : Int) (a1 : Int) (a2_0 : Int) (a2_1 : Int) (a2_2 : Int) (a3_0 : Int) (a3_1 : Int) : Option (List (Int × Int × Int) × Int) := ((spec_l06Given.f K a0 a1 a2_0 a2_1 a2_2 a3_0 a3_1).bind fun t10 => (if (t10 == 0) = true then ((spec_l02At.f K a0 a1 a2_0 a2_1 a2_2).bind fun t18 => (spec_TangentsFrom.l0 K a0 a1 a2_0 a2_1 a2_2 a3_0 a3_1 t18 K 0 ([] : List (Int × Int × Int)))) else some ([], t10)))

def impl_IsField.f (K : Nat) (a0 : Int) : Option (Bool) := (if (a0 == 3) = true then some true else (if (a0 == 5) = true then some true else (if (a0 == 7) = true then some true else (if (a0 == 11) = true then some true else (if (a0 == 13) = true then some true else (if (a0 == 17) = true then some true else (if (a0 == 19) = true then some true else (if (a0 == 23) = true then some true else (if (a0 == 29) = true then some true else (if (a0 == 31) = true then some true else some false))))))))))

def impl_isColour.f (K : Nat) (a0 : Int) : Option (Bool) := (if decide (0 ≤ a0) = true then some (decide (a0 ≤ 2)) else some false)

def impl_isNumber.f (K : Nat) (a0 : Int) (a1 : Int) : Option (Bool) := (if decide (0 ≤ a1) = true then some (decide (a1 < a0)) else some false)


def impl_areNumbers.l0 (K : Nat) (a0 : Int) (a1 : List (Int)) : Nat → Int → Option (Bool)
  | 0, _ => none
  | k9 + 1, x4 => (if decide (x4 < (a1.length : Int)) = true then ((idx a1 x4).bind fun t19 => ((impl_isNumber.f K a0 t19).bind fun t25 => (if t25 = true then (impl_areNumbers.l0 K a0 a1 k9 (wrap64 (x4 + 1))) else some false))) else some true)
def impl_areNumbers.f (K : Nat) (a0 : Int) (a1 : List (Int)) : Option (Bool) := (impl_areNumbers.l0 K a0 a1 K 0)

def impl_isPoint.f (K : Nat) (a0 : Int) (a1_0 : Int) (a1_1 : Int) : Option (Bool) := ((impl_areNumbers.f K a0 ([a1_0, a1_1])).bind fun t6 => some t6)

def impl_isCircle.f (K : Nat) (a0 : Int) (a1_0 : Int) (a1_1 : Int) (a1_2 : Int) : Option (Bool) := ((impl_isPoint.f K a0 a1_0 a1_1).bind fun t6 => (if t6 = true then ((impl_isNumber.f K a0 a1_2).bind fun t11 => some t11) else some false))

def impl_TangentsFrom_1.f (K : Nat) (f0_0 : Int) (f1_0 : Int) (f2_0 : Int) (f2_1 : Int) (f2_2 : Int) (f3_0 : Int) (f3_1 : Int) : Option (Bool) := ((impl_isColour.f K f0_0).bind fun t3 => (if t3 = true then ((impl_isCircle.f K f1_0 f2_0 f2_1 f2_2).bind fun t8 => (if t8 = true then ((impl_isPoint.f K f1_0 f3_0 f3_1).bind fun t13 => some t13) else some false)) else some false))

def impl_asked__impl_TangentsFrom_1.f (K : Nat) (a0 : Int) (c1_0_0 : Int) (c1_1_0 : Int) (c1_2_0 : Int) (c1_2_1 : Int) (c1_2_2 : Int) (c1_3_0 : Int) (c1_3_1 : Int) : Option (Int) := ((impl_IsField.f K a0).bind fun t4 => (if t4 = true then ((impl_TangentsFrom_1.f K c1_0_0 c1_1_0 c1_2_0 c1_2_1 c1_2_2 c1_3_0 c1_3_1).bind fun t11 => (if t11 = true then some 0 else some 2)) else some 1))

mutual
def impl_allPoints.l0 (K : Nat) (a0 : Int) : Nat → Int → List (Int × Int) → Option (List (Int × Int))
  | 0, _, _ => none
  | k19 + 1, x10, x11 => (if decide (x10 < a0) = true then (impl_allPoints.l1 K a0 x10 k19 0 x11) else some x11)
def impl_allPoints.l1 (K : Nat) (a0 : Int) (x10 : Int) : Nat → Int → List (Int × Int) → Option (List (Int × Int))
  | 0, _, _ => none
  | k38 + 1, x29, x30 => (if decide (x29 < a0) = true then (if decide (x30.length ≤ 1000000) = true then (impl_allPoints.l1 K a0 x10 k38 (wrap64 (x29 + 1)) (x30 ++ [(x10, x29)])) else none) else (impl_allPoints.l0 K a0 k38 (wrap64 (x10 + 1)) x30))
end
def impl_allPoints.f (K : Nat) (a0 : Int) : Option (List (Int × Int)) := (impl_allPoints.l0 K a0 K 0 ([] : List (Int × Int)))

def impl_rest.f (K : Nat) (a0 : Int) (a1 : Int) : Option (Int) := (if (a0 == 0) = true then none else some (Int.tmod (wrap64 ((Int.tmod a1 a0) + a0)) a0))

def impl_less.f (K : Nat) (a0 : Int) (a1_0 : Int) (a1_1 : Int) (a2_0 : Int) (a2_1 : Int) : Option (Int × Int) := ((impl_rest.f K a0 (wrap64 (a1_0 - a2_0))).bind fun t12 => ((impl_rest.f K a0 (wrap64 (a1_1 - a2_1))).bind fun t14 => some (t12, t14)))

def impl_product.f (K : Nat) (a0 : Int) (a1 : Int) (a2_0 : Int) (a2_1 : Int) (a3_0 : Int) (a3_1 : Int) : Option (Int) := (if (a1 == 0) = true then ((impl_rest.f K a0 (wrap64 ((wrap64 (a2_0 * a3_0)) + (wrap64 (a2_1 * a3_1))))).bind fun t13 => some t13) else (if (a1 == 1) = true then ((impl_rest.f K a0 (wrap64 ((wrap64 (a2_0 * a3_0)) - (wrap64 (a2_1 * a3_1))))).bind fun t20 => some t20) else ((impl_rest.f K a0 (wrap64 ((wrap64 (a2_0 * a3_1)) + (wrap64 (a2_1 * a3_0))))).bind fun t25 => some t25)))

def impl_quadrance.f (K : Nat) (a0 : Int) (a1 : Int) (a2_0 : Int) (a2_1 : Int) (a3_0 : Int) (a3_1 : Int) : Option (Int) := ((impl_less.f K a0 a2_0 a2_1 a3_0 a3_1).bind fun (t9, t10) => ((impl_product.f K a0 a1 t9 t10 t9 t10).bind fun t21 => some t21))

def impl_pointsAt_1.f (K : Nat) (a0_0 : Int) (a0_1 : Int) (f0_0 : Int) (f1_0 : Int) (f2_0 : Int) (f2_1 : Int) (f3_0 : Int) : Option (Bool) := ((impl_quadrance.f K f0_0 f1_0 f2_0 f2_1 a0_0 a0_1).bind fun t6 => some (t6 == f3_0))


def impl_pointsWith__impl_pointsAt_1.l0 (K : Nat) (c1_0_0 : Int) (c1_1_0 : Int) (c1_2_0 : Int) (c1_2_1 : Int) (c1_3_0 : Int) (t8 : List (Int × Int)) : Nat → Int → List (Int × Int) → Option (List (Int × Int))
  | 0, _, _ => none
  | k28 + 1, x17, x18 => (if decide (x17 < (t8.length : Int)) = true then ((idx t8 x17).bind fun (t39, t40) => ((impl_pointsAt_1.f K t39 t40 c1_0_0 c1_1_0 c1_2_0 c1_2_1 c1_3_0).bind fun t52 => (if t52 = true then (if decide (x18.length ≤ 1000000) = true then (impl_pointsWith__impl_pointsAt_1.l0 K c1_0_0 c1_1_0 c1_2_0 c1_2_1 c1_3_0 t8 k28 (wrap64 (x17 + 1)) (x18 ++ [(t39, t40)])) else none) else (impl_pointsWith__impl_pointsAt_1.l0 K c1_0_0 c1_1_0 c1_2_0 c1_2_1 c1_3_0 t8 k28 (wrap64 (x17 + 1)) x18)))) else some x18)
def impl_pointsWith__impl_pointsAt_1.f (K : Nat) (a0 : Int) (c1_0_0 : Int) (c1_1_0 : Int) (c1_2_0 : Int) (c1_2_1 : Int) (c1_3_0 : Int) : Option (List (Int × Int)) := ((impl_allPoints.f K a0).bind fun t8 => (impl_pointsWith__impl_pointsAt_1.l0 K c1_0_0 c1_1_0 c1_2_0 c1_2_1 c1_3_0 t8 K 0 ([] : List (Int × Int))))

def impl_pointsAt.f (K : Nat) (a0 : Int) (a1 : Int) (a2_0 : Int) (a2_1 : Int) (a3 : Int) : Option (List (Int × Int)) := ((impl_pointsWith__impl_pointsAt_1.f K a0 a0 a1 a2_0 a2_1 a3).bind fun t15 => some t15)


def impl_inverse.l0 (K : Nat) (a0 : Int) (a1 : Int) : Nat → Int → Option (Int)
  | 0, _ => none
  | k9 + 1, x4 => (if decide (x4 < a0) = true then (if (a0 == 0) = true then none else (if ((Int.tmod (wrap64 (a1 * x4)) a0) == 1) = true then some x4 else (impl_inverse.l0 K a0 a1 k9 (wrap64 (x4 + 1))))) else some 0)
def impl_inverse.f (K : Nat) (a0 : Int) (a1 : Int) : Option (Int) := (impl_inverse.l0 K a0 a1 K 1)

def impl_divide.f (K : Nat) (a0 : Int) (a1 : Int) (a2 : Int) : Option (Int) := ((impl_inverse.f K a0 a2).bind fun t3 => ((impl_rest.f K a0 (wrap64 (a1 * t3))).bind fun t7 => some t7))

def impl_makeLine.f (K : Nat) (a0 : Int) (a1 : Int) (a2 : Int) (a3 : Int) : Option (Int × Int × Int) := ((impl_rest.f K a0 a1).bind fun t6 => ((impl_rest.f K a0 a2).bind fun t10 => ((impl_rest.f K a0 a3).bind fun t14 => (if (t6 == 0) = true then ((impl_divide.f K a0 t6 t10).bind fun t24 => ((impl_divide.f K a0 t10 t10).bind fun t28 => ((impl_divide.f K a0 t14 t10).bind fun t32 => some (t24, t28, t32)))) else ((impl_divide.f K a0 t6 t6).bind fun t40 => ((impl_divide.f K a0 t10 t6).bind fun t44 => ((impl_divide.f K a0 t14 t6).bind fun t48 => some (t40, t44, t48))))))))

def impl_through.f (K : Nat) (a0 : Int) (a1_0 : Int) (a1_1 : Int) (a2_0 : Int) (a2_1 : Int) : Option (Int × Int × Int) := ((impl_makeLine.f K a0 a2_1 (wrap64 (-a2_0)) (wrap64 (-(wrap64 ((wrap64 (a2_1 * a1_0)) + (wrap64 ((wrap64 (-a2_0)) * a1_1))))))).bind fun (t15, t16, t17) => some (t15, t16, t17))

def impl_lineThrough.f (K : Nat) (a0 : Int) (a1_0 : Int) (a1_1 : Int) (a2_0 : Int) (a2_1 : Int) : Option (Int × Int × Int) := ((impl_less.f K a0 a2_0 a2_1 a1_0 a1_1).bind fun (t12, t13) => ((impl_through.f K a0 a1_0 a1_1 t12 t13).bind fun (t15, t16, t17) => some (t15, t16, t17)))


def impl_linesThrough.l0 (K : Nat) (a0 : Int) (a1_0 : Int) (a1_1 : Int) : Nat → Int → List (Int × Int × Int) → Option (List (Int × Int × Int))
  | 0, _, _ => none
  | k27 + 1, x17, x18 => (if decide (x17 < a0) = true then ((impl_rest.f K a0 (wrap64 ((wrap64 (-a1_0)) - (wrap64 (x17 * a1_1))))).bind fun t37 => (if decide (x18.length ≤ 1000000) = true then (impl_linesThrough.l0 K a0 a1_0 a1_1 k27 (wrap64 (x17 + 1)) (x18 ++ [(1, x17, t37)])) else none)) else some x18)
def impl_linesThrough.f (K : Nat) (a0 : Int) (a1_0 : Int) (a1_1 : Int) : Option (List (Int × Int × Int)) := ((impl_rest.f K a0 (wrap64 (-a1_1))).bind fun t6 => (impl_linesThrough.l0 K a0 a1_0 a1_1 K 0 ([(0, 1, t6)])))

def impl_way.f (K : Nat) (a0 : Int) (a1_0 : Int) (a1_1 : Int) (a1_2 : Int) : Option (Int × Int) := ((impl_rest.f K a0 (wrap64 (-a1_1))).bind fun t9 => some (t9, a1_0))

def impl_arePerpendicular.f (K : Nat) (a0 : Int) (a1 : Int) (a2_0 : Int) (a2_1 : Int) (a2_2 : Int) (a3_0 : Int) (a3_1 : Int) (a3_2 : Int) : Option (Bool) := ((impl_way.f K a0 a2_0 a2_1 a2_2).bind fun (t9, t10) => ((impl_way.f K a0 a3_0 a3_1 a3_2).bind fun (t12, t13) => ((impl_product.f K a0 a1 t9 t10 t12 t13).bind fun t15 => some (t15 == 0))))


def impl_perpendicular.l0 (K : Nat) (a0 : Int) (a1 : Int) (a2_0 : Int) (a2_1 : Int) (a2_2 : Int) (t13 : List (Int × Int × Int)) : Nat → Int → Int → Int → Int → Option (Int × Int × Int)
  | 0, _, _, _, _ => none
  | k29 + 1, x19, x20, x21, x22 => (if decide (x19 < (t13.length : Int)) = true then ((idx t13 x19).bind fun (t40, t41, t42) => ((impl_arePerpendicular.f K a0 a1 a2_0 a2_1 a2_2 t40 t41 t42).bind fun t54 => (if t54 = true then some (t40, t41, t42) else (impl_perpendicular.l0 K a0 a1 a2_0 a2_1 a2_2 t13 k29 (wrap64 (x19 + 1)) x20 x21 x22)))) else some (0, 0, 0))
def impl_perpendicular.f (K : Nat) (a0 : Int) (a1 : Int) (a2_0 : Int) (a2_1 : Int) (a2_2 : Int) (a3_0 : Int) (a3_1 : Int) : Option (Int × Int × Int) := ((impl_linesThrough.f K a0 a3_0 a3_1).bind fun t13 => (impl_perpendicular.l0 K a0 a1 a2_0 a2_1 a2_2 t13 K 0 0 0 0))

def impl_tangent.f (K : Nat) (a0 : Int) (a1 : Int) (a2_0 : Int) (a2_1 : Int) (a2_2 : Int) (a3_0 : Int) (a3_1 : Int) : Option (Int × Int × Int) := ((impl_lineThrough.f K a0 a2_0 a2_1 a3_0 a3_1).bind fun (t12, t13, t14) => ((impl_perpendicular.f K a0 a1 t12 t13 t14 a3_0 a3_1).bind fun (t16, t17, t18) => some (t16, t17, t18)))

def impl_isOn.f (K : Nat) (a0 : Int) (a1_0 : Int) (a1_1 : Int) (a2_0 : Int) (a2_1 : Int) (a2_2 : Int) : Option (Bool) := (if (a0 == 0) = true then none else some ((Int.tmod (wrap64 ((wrap64 ((wrap64 (a2_0 * a1_0)) + (wrap64 (a2_1 * a1_1)))) + a2_2)) a0) == 0))


def impl_TangentsFrom.l0 (K : Nat) (a0 : Int) (a1 : Int) (a2_0 : Int) (a2_1 : Int) (a2_2 : Int) (a3_0 : Int) (a3_1 : Int) (t40 : List (Int × Int)) : Nat → Int → List (Int × Int × Int) → List (Int × Int × Int) → Option (List (Int × Int × Int) × Int)
  | 0, _, _, _ => none
  | k69 + 1, x46, x50, x53 => (if decide (x46 < (t40.length : Int)) = true then ((idx t40 x46).bind fun (t81, t82) => (if (t81 == a2_0 && t82 == a2_1) = true then (impl_TangentsFrom.l0 K a0 a1 a2_0 a2_1 a2_2 a3_0 a3_1 t40 k69 (wrap64 (x46 + 1)) x50 x53) else ((impl_tangent.f K a0 a1 a2_0 a2_1 a2_2 t81 t82).bind fun (t108, t109, t110) => ((impl_isOn.f K a0 a3_0 a3_1 t108 t109 t110).bind fun t121 => (if t121 = true then (if memL x53 (t108, t109, t110) = true then (impl_TangentsFrom.l0 K a0 a1 a2_0 a2_1 a2_2 a3_0 a3_1 t40 k69 (wrap64 (x46 + 1)) x50 x53) else (if decide (x50.length ≤ 1000000) = true then (impl_TangentsFrom.l0 K a0 a1 a2_0 a2_1 a2_2 a3_0 a3_1 t40 k69 (wrap64 (x46 + 1)) (x50 ++ [(t108, t109, t110)]) (x53 ++ [(t108, t109, t110)])) else none)) else (impl_TangentsFrom.l0 K a0 a1 a2_0 a2_1 a2_2 a3_0 a3_1 t40 k69 (wrap64 (x46 + 1)) x50 x53)))))) else (if decide (x50.length ≤ 1000000) = true then some ((sortL x50), 0) else none))
def impl_TangentsFrom.f (K : Nat) (a0 : Int) (a1 : Int) (a2_0 : Int) (a2_1 : Int) (a2_2 : Int) (a3_0 : Int) (a3_1 : Int) : Option (List (Int × Int × Int) × Int) := ((impl_asked__impl_TangentsFrom_1.f K a0 a1 a0 a2_0 a2_1 a2_2 a3_0 a3_1).bind fun t16 => (if (t16 == 0) = true then ((impl_pointsAt.f K a0 a1 a2_0 a2_1 a2_2).bind fun t40 => (impl_TangentsFrom.l0 K a0 a1 a2_0 a2_1 a2_2 a3_0 a3_1 t40 K 0 ([] : List (Int × Int × Int)) ([] : List (Int × Int × Int)))) else some ([], t16)))

def laws_eqLine.f (K : Nat) (a0_0 : Int) (a0_1 : Int) (a0_2 : Int) (a1_0 : Int) (a1_1 : Int) (a1_2 : Int) : Option (Bool) := (if (a0_0 == a1_0) = true then (if (a0_1 == a1_1) = true then (if (a0_2 == a1_2) = true then some true else some false) else some false) else some false)


def laws_eqLineS.l0 (K : Nat) (a0 : List (Int × Int × Int)) (a1 : List (Int × Int × Int)) : Nat → Int → Option (Bool)
  | 0, _ => none
  | k12 + 1, x7 => (if decide (x7 < (a0.length : Int)) = true then ((idx a0 x7).bind fun (t22, t23, t24) => ((idx a1 x7).bind fun (t30, t31, t32) => ((laws_eqLine.f K t22 t23 t24 t30 t31 t32).bind fun t38 => (if t38 = true then (laws_eqLineS.l0 K a0 a1 k12 (wrap64 (x7 + 1))) else some false)))) else some true)
def laws_eqLineS.f (K : Nat) (a0 : List (Int × Int × Int)) (a1 : List (Int × Int × Int)) : Option (Bool) := (if ((a0.length : Int) == (a1.length : Int)) = true then (laws_eqLineS.l0 K a0 a1 K 0) else some false)


def laws_markLineS.l0 (K : Nat) (a0 : List (Int × Int × Int)) : Nat → Int → Int → List (Int × Int × Int) → Option (Int × List (Int × Int × Int))
  | 0, _, _, _ => none
  | k13 + 1, x4, x5, x6 => (if decide (x5 < (a0.length : Int)) = true then ((idx x6 x5).bind fun (t28, t29, t30) => ((idx (x6.set (x5).toNat (x4, t29, t30)) x5).bind fun (t46, t47, t48) => ((idx ((x6.set (x5).toNat (x4, t29, t30)).set (x5).toNat (t46, wrap64 (x4 + 1), t48)) x5).bind fun (t64, t65, t66) => (laws_markLineS.l0 K a0 k13 (wrap64 ((wrap64 ((wrap64 (x4 + 1)) + 1)) + 1)) (wrap64 (x5 + 1)) (((x6.set (x5).toNat (x4, t29, t30)).set (x5).toNat (t46, wrap64 (x4 + 1), t48)).set (x5).toNat (t64, t65, wrap64 ((wrap64 (x4 + 1)) + 1))))))) else some (x4, x6))
def laws_markLineS.f (K : Nat) (a0 : List (Int × Int × Int)) (a1 : Int) : Option (Int × List (Int × Int × Int)) := (laws_markLineS.l0 K a0 K a1 0 a0)


def laws_heldLineS.l0 (K : Nat) (a0 : List (Int × Int × Int)) : Nat → Int → Int → Option (Int)
  | 0, _, _ => none
  | k10 + 1, x4, x5 => (if decide (x5 < (a0.length : Int)) = true then ((idx a0 x5).bind fun (t26, t27, t28) => (if (t26 == x4) = true then ((idx a0 x5).bind fun (t40, t41, t42) => (if (t41 == (wrap64 (x4 + 1))) = true then ((idx a0 x5).bind fun (t54, t55, t56) => (if (t56 == (wrap64 ((wrap64 (x4 + 1)) + 1))) = true then (laws_heldLineS.l0 K a0 k10 (wrap64 ((wrap64 ((wrap64 (x4 + 1)) + 1)) + 1)) (wrap64 (x5 + 1))) else some (-1))) else some (-1))) else some (-1))) else some x4)
def laws_heldLineS.f (K : Nat) (a0 : List (Int × Int × Int)) (a1 : Int) : Option (Int) := (laws_heldLineS.l0 K a0 K a1 0)

def laws_FnExactTangentsFrom.f (K : Nat) (a0 : Int) (a1 : Int) (a2_0 : Int) (a2_1 : Int) (a2_2 : Int) (a3_0 : Int) (a3_1 : Int) : Option (Bool) := ((laws_toCircle.f K a2_0 a2_1 a2_2).bind fun (t9, t10, t11) => ((laws_toPoint.f K a3_0 a3_1).bind fun (t13, t14) => ((spec_TangentsFrom.f K a0 a1 t9 t10 t11 t13 t14).bind fun (t16, t19) => ((laws_toCircle.f K a2_0 a2_1 a2_2).bind fun (t28, t29, t30) => ((laws_toPoint.f K a3_0 a3_1).bind fun (t32, t33) => ((impl_TangentsFrom.f K a0 a1 t28 t29 t30 t32 t33).bind fun (t35, t38) => ((laws_eqLineS.f K t35 t16).bind fun t48 => (if t48 = true then (if (t38 == t19) = true then ((laws_markLineS.f K t35 1).bind fun (t58, t59) => ((laws_heldLineS.f K t59 1).bind fun t70 => (if decide (t70 < 0) = true then some false else (if (t70 == t58) = true then ((laws_toCircle.f K a2_0 a2_1 a2_2).bind fun (t84, t85, t86) => ((laws_toPoint.f K a3_0 a3_1).bind fun (t88, t89) => ((impl_TangentsFrom.f K a0 a1 t84 t85 t86 t88 t89).bind fun (t91, t94) => ((laws_eqLineS.f K t91 t16).bind fun t104 => (if t104 = true then (if (t94 == t19) = true then ((laws_heldLineS.f K t59 1).bind fun t113 => (if decide (t113 < 0) = true then some false else (if (t113 == t58) = true then some true else some false))) else some false) else some false))))) else some false)))) else some false) else some false))))))))

end Go.Proofs.Ytgboaomjahceiaa
