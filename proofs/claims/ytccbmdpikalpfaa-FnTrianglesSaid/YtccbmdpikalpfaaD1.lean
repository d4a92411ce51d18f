/- What the functions of the program compute, in plain Lean. -/
import Derived.Test.YtccbmdpikalpfaaK
namespace Go.Proofs.Ytccbmdpikalpfaa
open Go Go.RowKit
attribute [local go_sem] Oper.quiet Oper.quietAt Oper.quietUpon Act.put nm1 nm2 nm3 i64_w
attribute [local irreducible] wpList
set_option linter.unusedVariables false
set_option linter.unusedSimpArgs false

/-! ### laws_big: function 7 -/
def laws_big.f (K : Nat) (a0 : List (Int)) : Option (Bool) := some (decide (4096 < (a0.length : Int)))

/-! ### spec_l01From: function 105 -/

def spec_l01From.l0 (K : Nat) (a0 : List (Int)) : Nat → Int → Int → Int → Option (Int × Int)
  | 0, _, _, _ => none
  | k16 + 1, x8, x9, x10 => (if decide (x8 < (a0.length : Int)) = true then (if decide (x8 < 4096) = true then ((idx a0 x8).bind fun t26 => (spec_l01From.l0 K a0 k16 (wrap64 (x8 + 1)) x9 (IntKind.u64.wrap ((IntKind.u64.wrap ((IntKind.u64.wrap (x10 * 1099511628211)) + (IntKind.u64.wrap (t26)))) + 199)))) else some (x9, x10)) else some (x9, x10))
def spec_l01From.f (K : Nat) (a0 : List (Int)) : Option (Int × Int) := (spec_l01From.l0 K a0 K 0 0 (IntKind.u64.wrap (13701 + (IntKind.u64.wrap ((a0.length : Int))))))

/-! ### spec_l01Next: function 160 -/
def spec_l01Next.f (K : Nat) (a0_0 : List (Int)) (a0_1 : Int) (a0_2 : Int) (a1 : Int) : Option (Int × Int × Int) := (if decide (a1 < 1) = true then some (0, a0_1, a0_2) else (if decide (a0_1 < (a0_0.length : Int)) = true then ((idx a0_0 a0_1).bind fun t18 => (if (a1 == 0) = true then none else some (Int.tmod (wrap64 ((wrap64 (bits .and .u64 ((IntKind.u64.wrap ((IntKind.u64.wrap (a0_2 * 6364136223846793005)) + 1442695040888963407)) / 8589934592) 16777215)) + (wrap64 (t18)))) a1, wrap64 (a0_1 + 1), IntKind.u64.wrap ((IntKind.u64.wrap (a0_2 * 6364136223846793005)) + 1442695040888963407)))) else (if (a1 == 0) = true then none else some (Int.tmod (wrap64 (bits .and .u64 ((IntKind.u64.wrap ((IntKind.u64.wrap (a0_2 * 6364136223846793005)) + 1442695040888963407)) / 8589934592) 16777215)) a1, a0_1, IntKind.u64.wrap ((IntKind.u64.wrap (a0_2 * 6364136223846793005)) + 1442695040888963407)))))

/-! ### spec_l01Pick: function 179 -/
def spec_l01Pick.f (K : Nat) (a0_0 : List (Int)) (a0_1 : Int) (a0_2 : Int) (a1 : List (Int)) : Option (Int × Int × Int) := ((spec_l01Next.f K a0_0 a0_1 a0_2 (a1.length : Int)).bind fun (t3, t4, t5) => ((idx a1 t3).bind fun t12 => some (t12, t4, t5)))

/-! ### spec_l01DrawField: function 106 -/
def spec_l01DrawField.f (K : Nat) (a0_0 : List (Int)) (a0_1 : Int) (a0_2 : Int) : Option (Int × Int × Int) := ((spec_l01Pick.f K a0_0 a0_1 a0_2 ([3, 5, 5, 7, 7, 11, 13, 13, 17, 19, 23, 29, 31])).bind fun (t6, t7, t8) => some (t6, t7, t8))

/-! ### spec_l01DrawPoint: function 159 -/
def spec_l01DrawPoint.f (K : Nat) (a0_0 : List (Int)) (a0_1 : Int) (a0_2 : Int) (a1 : Int) : Option (Int × Int × Int × Int) := ((spec_l01Next.f K a0_0 a0_1 a0_2 4).bind fun (t7, t8, t9) => (if (t7 == 0) = true then ((spec_l01Next.f K a0_0 t8 t9 3).bind fun (t18, t19, t20) => ((spec_l01Next.f K a0_0 t19 t20 3).bind fun (t27, t28, t29) => some (t18, t27, t28, t29))) else ((spec_l01Next.f K a0_0 t8 t9 a1).bind fun (t42, t43, t44) => ((spec_l01Next.f K a0_0 t43 t44 a1).bind fun (t51, t52, t53) => some (t42, t51, t52, t53)))))

/-! ### spec_l01Mod: function 111 -/
def spec_l01Mod.f (K : Nat) (a0 : Int) (a1 : Int) : Option (Int) := (if (a1 == 0) = true then none else some (Int.tmod (wrap64 ((Int.tmod a0 a1) + a1)) a1))

/-! ### spec_l01Area: function 156 -/
def spec_l01Area.f (K : Nat) (a0 : Int) (a1_0 : Int) (a1_1 : Int) (a2_0 : Int) (a2_1 : Int) (a3_0 : Int) (a3_1 : Int) : Option (Int) := ((spec_l01Mod.f K (wrap64 ((wrap64 ((wrap64 (a2_0 - a1_0)) * (wrap64 (a3_1 - a1_1)))) - (wrap64 ((wrap64 (a2_1 - a1_1)) * (wrap64 (a3_0 - a1_0)))))) a0).bind fun t12 => some t12)

/-! ### spec_l04DrawOf: function 194 -/

def spec_l04DrawOf.l0 (K : Nat) (a0_0 : List (Int)) (a1 : Int) (t12 : Int) (t13 : Int) : Nat → Int → Int → Int → Int → Int → Int → Int → Int → Int → Int → Int → Int → Int → Option (Int × Int × Int × Int × Int × Int × Int × Int)
  | 0, _, _, _, _, _, _, _, _, _, _, _, _, _ => none
  | k99 + 1, x74, x75, x76, x77, x78, x79, x80, x81, x82, x83, x84, x85, x86 => (if decide (x74 < 6) = true then ((spec_l01Area.f K a1 t12 t13 x83 x84 x85 x86).bind fun t108 => (if (t108 == 0) = true then ((spec_l01DrawPoint.f K a0_0 x75 x76 a1).bind fun (t115, t116, t117, t118) => ((spec_l01DrawPoint.f K a0_0 t117 t118 a1).bind fun (t140, t141, t142, t143) => (spec_l04DrawOf.l0 K a0_0 a1 t12 t13 k99 (wrap64 (x74 + 1)) t142 t143 x77 x78 x79 x80 x81 x82 t115 t116 t140 t141))) else some (t12, t13, x83, x84, x85, x86, x75, x76))) else some (t12, t13, x83, x84, x85, x86, x75, x76))
def spec_l04DrawOf.f (K : Nat) (a0_0 : List (Int)) (a0_1 : Int) (a0_2 : Int) (a1 : Int) : Option (Int × Int × Int × Int × Int × Int × Int × Int) := ((spec_l01DrawPoint.f K a0_0 a0_1 a0_2 a1).bind fun (t12, t13, t14, t15) => ((spec_l01DrawPoint.f K a0_0 t14 t15 a1).bind fun (t24, t25, t26, t27) => ((spec_l01DrawPoint.f K a0_0 t26 t27 a1).bind fun (t36, t37, t38, t39) => (spec_l04DrawOf.l0 K a0_0 a1 t12 t13 K 0 t38 t39 0 0 0 0 0 0 t24 t25 t36 t37))))

/-! ### spec_l02DrawColour: function 191 -/
def spec_l02DrawColour.f (K : Nat) (a0_0 : List (Int)) (a0_1 : Int) (a0_2 : Int) : Option (Int × Int × Int) := ((spec_l01Next.f K a0_0 a0_1 a0_2 40).bind fun (t4, t5, t6) => (if (t4 == 0) = true then ((spec_l01Pick.f K a0_0 t5 t6 ([(-1), 3, 1099511627776])).bind fun (t17, t18, t19) => some (t17, t18, t19)) else ((spec_l01Next.f K a0_0 t5 t6 3).bind fun (t27, t28, t29) => some (t27, t28, t29))))

/-! ### spec_l01Plus: function 130 -/
def spec_l01Plus.f (K : Nat) (a0 : Int) (a1_0 : Int) (a1_1 : Int) (a2_0 : Int) (a2_1 : Int) : Option (Int × Int) := ((spec_l01Mod.f K (wrap64 (a1_0 + a2_0)) a0).bind fun t12 => ((spec_l01Mod.f K (wrap64 (a1_1 + a2_1)) a0).bind fun t14 => some (t12, t14)))

/-! ### spec_l01Times: function 128 -/
def spec_l01Times.f (K : Nat) (a0 : Int) (a1 : Int) (a2_0 : Int) (a2_1 : Int) : Option (Int × Int) := ((spec_l01Mod.f K (wrap64 (a1 * a2_0)) a0).bind fun t9 => ((spec_l01Mod.f K (wrap64 (a1 * a2_1)) a0).bind fun t11 => some (t9, t11)))

/-! ### spec_l01Middle: function 134 -/
def spec_l01Middle.f (K : Nat) (a0 : Int) (a1_0 : Int) (a1_1 : Int) (a2_0 : Int) (a2_1 : Int) : Option (Int × Int) := ((spec_l01Plus.f K a0 a1_0 a1_1 a2_0 a2_1).bind fun (t12, t13) => ((spec_l01Times.f K a0 (wrap64 (Int.tdiv (wrap64 (a0 + 1)) 2)) t12 t13).bind fun (t17, t18) => some (t17, t18)))

/-! ### spec_l01BadField: function 108 -/
def spec_l01BadField.f (K : Nat) (a0_0 : List (Int)) (a0_1 : Int) (a0_2 : Int) (a1 : Int) : Option (Int × Int × Int) := ((spec_l01Next.f K a0_0 a0_1 a0_2 40).bind fun (t4, t5, t6) => (if (t4 == 0) = true then ((spec_l01Pick.f K a0_0 t5 t6 ([2, 1, 0, (-3), 9, 15, 37, 1099511627776])).bind fun (t17, t18, t19) => some (t17, t18, t19)) else some (a1, t5, t6)))

/-! ### spec_l01BadPoint: function 195 -/
def spec_l01BadPoint.f (K : Nat) (a0_0 : List (Int)) (a0_1 : Int) (a0_2 : Int) (a1 : Int) (a2_0 : Int) (a2_1 : Int) : Option (Int × Int × Int × Int) := ((spec_l01Next.f K a0_0 a0_1 a0_2 40).bind fun (t10, t11, t12) => (if (t10 == 0) = true then ((spec_l01Next.f K a0_0 t11 t12 2).bind fun (t21, t22, t23) => ((spec_l01Pick.f K a0_0 t22 t23 ([(-1), a1, 1099511627776])).bind fun (t34, t35, t36) => (if (t21 == 0) = true then some (t34, a2_1, t35, t36) else (if (t21 == 1) = true then some (a2_0, t34, t35, t36) else none)))) else some (a2_0, a2_1, t11, t12)))

/-! ### spec_l04Draw: function 158 -/
def spec_l04Draw.f (K : Nat) (a0 : List (Int)) : Option (Int × Int × Int × Int × Int × Int × Int × Int) := ((spec_l01From.f K a0).bind fun (t13, t14) => ((spec_l01DrawField.f K a0 t13 t14).bind fun (t19, t20, t21) => ((spec_l04DrawOf.f K a0 t20 t21 t19).bind fun (t27, t28, t29, t30, t31, t32, t33, t34) => ((spec_l02DrawColour.f K a0 t33 t34).bind fun (t64, t65, t66) => ((spec_l01Next.f K a0 t65 t66 24).bind fun (t76, t77, t78) => (if (t76 == 0) = true then ((spec_l01Middle.f K t19 t27 t28 t29 t30).bind fun (t92, t93) => ((spec_l01BadField.f K a0 t77 t78 t19).bind fun (t111, t112, t113) => ((spec_l01BadPoint.f K a0 t112 t113 t19 t27 t28).bind fun (t124, t125, t126, t127) => ((spec_l01BadPoint.f K a0 t126 t127 t19 t29 t30).bind fun (t138, t139, t140, t141) => ((spec_l01BadPoint.f K a0 t140 t141 t19 t92 t93).bind fun (t152, t153, t154, t155) => some (t111, t64, t124, t125, t138, t139, t152, t153)))))) else ((spec_l01BadField.f K a0 t77 t78 t19).bind fun (t198, t199, t200) => ((spec_l01BadPoint.f K a0 t199 t200 t19 t27 t28).bind fun (t211, t212, t213, t214) => ((spec_l01BadPoint.f K a0 t213 t214 t19 t29 t30).bind fun (t225, t226, t227, t228) => ((spec_l01BadPoint.f K a0 t227 t228 t19 t31 t32).bind fun (t239, t240, t241, t242) => some (t198, t64, t211, t212, t225, t226, t239, t240)))))))))))

/-! ### spec_DrawQuadreaOf: function 116 -/
def spec_DrawQuadreaOf.f (K : Nat) (a0 : List (Int)) : Option (Int × Int × Int × Int × Int × Int × Int × Int) := ((spec_l04Draw.f K a0).bind fun (t12, t13, t14, t15, t16, t17, t18, t19) => some (t12, t13, t14, t15, t16, t17, t18, t19))

/-! ### spec_DrawOrthocentreOf: function 34 -/
def spec_DrawOrthocentreOf.f (K : Nat) (a0 : List (Int)) : Option (Int × Int × Int × Int × Int × Int × Int × Int) := ((spec_DrawQuadreaOf.f K a0).bind fun (t12, t13, t14, t15, t16, t17, t18, t19) => some (t12, t13, t14, t15, t16, t17, t18, t19))

/-! ### impl_IsField: function 170 -/
def impl_IsField.f (K : Nat) (a0 : Int) : Option (Bool) := (if (a0 == 3) = true then some true else (if (a0 == 5) = true then some true else (if (a0 == 7) = true then some true else (if (a0 == 11) = true then some true else (if (a0 == 13) = true then some true else (if (a0 == 17) = true then some true else (if (a0 == 19) = true then some true else (if (a0 == 23) = true then some true else (if (a0 == 29) = true then some true else (if (a0 == 31) = true then some true else some false))))))))))

/-! ### impl_isColour: function 69 -/
def impl_isColour.f (K : Nat) (a0 : Int) : Option (Bool) := (if decide (0 ≤ a0) = true then some (decide (a0 ≤ 2)) else some false)

/-! ### impl_isNumber: function 92 -/
def impl_isNumber.f (K : Nat) (a0 : Int) (a1 : Int) : Option (Bool) := (if decide (0 ≤ a1) = true then some (decide (a1 < a0)) else some false)

/-! ### impl_areNumbers: function 73 -/

def impl_areNumbers.l0 (K : Nat) (a0 : Int) (a1 : List (Int)) : Nat → Int → Option (Bool)
  | 0, _ => none
  | k9 + 1, x4 => (if decide (x4 < (a1.length : Int)) = true then ((idx a1 x4).bind fun t19 => ((impl_isNumber.f K a0 t19).bind fun t25 => (if t25 = true then (impl_areNumbers.l0 K a0 a1 k9 (wrap64 (x4 + 1))) else some false))) else some true)
def impl_areNumbers.f (K : Nat) (a0 : Int) (a1 : List (Int)) : Option (Bool) := (impl_areNumbers.l0 K a0 a1 K 0)

/-! ### impl_isPoint: function 84 -/
def impl_isPoint.f (K : Nat) (a0 : Int) (a1_0 : Int) (a1_1 : Int) : Option (Bool) := ((impl_areNumbers.f K a0 ([a1_0, a1_1])).bind fun t6 => some t6)

/-! ### impl_arePoints: function 70 -/

def impl_arePoints.l0 (K : Nat) (a0 : Int) (a1 : List (Int × Int)) : Nat → Int → Option (Bool)
  | 0, _ => none
  | k9 + 1, x4 => (if decide (x4 < (a1.length : Int)) = true then ((idx a1 x4).bind fun (t19, t20) => ((impl_isPoint.f K a0 t19 t20).bind fun t32 => (if t32 = true then (impl_arePoints.l0 K a0 a1 k9 (wrap64 (x4 + 1))) else some false))) else some true)
def impl_arePoints.f (K : Nat) (a0 : Int) (a1 : List (Int × Int)) : Option (Bool) := (impl_arePoints.l0 K a0 a1 K 0)

/-! ### impl_triangle_1: function 183 -/
def impl_triangle_1.f (K : Nat) (f0_0 : Int) (f1_0 : Int) (f2_0 : Int) (f2_1 : Int) (f3_0 : Int) (f3_1 : Int) (f4_0 : Int) (f4_1 : Int) : Option (Bool) := ((impl_isColour.f K f0_0).bind fun t3 => (if t3 = true then ((impl_arePoints.f K f1_0 ([(f2_0, f2_1), (f3_0, f3_1), (f4_0, f4_1)])).bind fun t11 => some t11) else some false))

/-! ### impl_asked__impl_triangle_1: function 67 -/
def impl_asked__impl_triangle_1.f (K : Nat) (a0 : Int) (c1_0_0 : Int) (c1_1_0 : Int) (c1_2_0 : Int) (c1_2_1 : Int) (c1_3_0 : Int) (c1_3_1 : Int) (c1_4_0 : Int) (c1_4_1 : Int) : Option (Int) := ((impl_IsField.f K a0).bind fun t4 => (if t4 = true then ((impl_triangle_1.f K c1_0_0 c1_1_0 c1_2_0 c1_2_1 c1_3_0 c1_3_1 c1_4_0 c1_4_1).bind fun t11 => (if t11 = true then some 0 else some 2)) else some 1))

/-! ### impl_rest: function 110 -/
def impl_rest.f (K : Nat) (a0 : Int) (a1 : Int) : Option (Int) := (if (a0 == 0) = true then none else some (Int.tmod (wrap64 ((Int.tmod a1 a0) + a0)) a0))

/-! ### impl_less: function 171 -/
def impl_less.f (K : Nat) (a0 : Int) (a1_0 : Int) (a1_1 : Int) (a2_0 : Int) (a2_1 : Int) : Option (Int × Int) := ((impl_rest.f K a0 (wrap64 (a1_0 - a2_0))).bind fun t12 => ((impl_rest.f K a0 (wrap64 (a1_1 - a2_1))).bind fun t14 => some (t12, t14)))

/-! ### impl_area: function 89 -/
def impl_area.f (K : Nat) (a0 : Int) (a1_0 : Int) (a1_1 : Int) (a2_0 : Int) (a2_1 : Int) (a3_0 : Int) (a3_1 : Int) : Option (Int) := ((impl_less.f K a0 a2_0 a2_1 a1_0 a1_1).bind fun (t12, t13) => ((impl_less.f K a0 a3_0 a3_1 a1_0 a1_1).bind fun (t15, t16) => ((impl_rest.f K a0 (wrap64 ((wrap64 (t12 * t16)) - (wrap64 (t13 * t15))))).bind fun t34 => some t34)))

/-! ### impl_triangle: function 117 -/
def impl_triangle.f (K : Nat) (a0 : Int) (a1 : Int) (a2_0 : Int) (a2_1 : Int) (a3_0 : Int) (a3_1 : Int) (a4_0 : Int) (a4_1 : Int) : Option (Int) := ((impl_asked__impl_triangle_1.f K a0 a1 a0 a2_0 a2_1 a3_0 a3_1 a4_0 a4_1).bind fun t18 => (if (t18 == 0) = true then ((impl_area.f K a0 a2_0 a2_1 a3_0 a3_1 a4_0 a4_1).bind fun t29 => (if (t29 == 0) = true then some 5 else some t18)) else some t18))

/-! ### impl_inverse: function 187 -/

def impl_inverse.l0 (K : Nat) (a0 : Int) (a1 : Int) : Nat → Int → Option (Int)
  | 0, _ => none
  | k9 + 1, x4 => (if decide (x4 < a0) = true then (if (a0 == 0) = true then none else (if ((Int.tmod (wrap64 (a1 * x4)) a0) == 1) = true then some x4 else (impl_inverse.l0 K a0 a1 k9 (wrap64 (x4 + 1))))) else some 0)
def impl_inverse.f (K : Nat) (a0 : Int) (a1 : Int) : Option (Int) := (impl_inverse.l0 K a0 a1 K 1)

/-! ### impl_divide: function 127 -/
def impl_divide.f (K : Nat) (a0 : Int) (a1 : Int) (a2 : Int) : Option (Int) := ((impl_inverse.f K a0 a2).bind fun t3 => ((impl_rest.f K a0 (wrap64 (a1 * t3))).bind fun t7 => some t7))

/-! ### impl_makeLine: function 74 -/
def impl_makeLine.f (K : Nat) (a0 : Int) (a1 : Int) (a2 : Int) (a3 : Int) : Option (Int × Int × Int) := ((impl_rest.f K a0 a1).bind fun t6 => ((impl_rest.f K a0 a2).bind fun t10 => ((impl_rest.f K a0 a3).bind fun t14 => (if (t6 == 0) = true then ((impl_divide.f K a0 t6 t10).bind fun t24 => ((impl_divide.f K a0 t10 t10).bind fun t28 => ((impl_divide.f K a0 t14 t10).bind fun t32 => some (t24, t28, t32)))) else ((impl_divide.f K a0 t6 t6).bind fun t40 => ((impl_divide.f K a0 t10 t6).bind fun t44 => ((impl_divide.f K a0 t14 t6).bind fun t48 => some (t40, t44, t48))))))))

/-! ### impl_through: function 188 -/
def impl_through.f (K : Nat) (a0 : Int) (a1_0 : Int) (a1_1 : Int) (a2_0 : Int) (a2_1 : Int) : Option (Int × Int × Int) := ((impl_makeLine.f K a0 a2_1 (wrap64 (-a2_0)) (wrap64 (-(wrap64 ((wrap64 (a2_1 * a1_0)) + (wrap64 ((wrap64 (-a2_0)) * a1_1))))))).bind fun (t15, t16, t17) => some (t15, t16, t17))

/-! ### impl_lineThrough: function 131 -/
def impl_lineThrough.f (K : Nat) (a0 : Int) (a1_0 : Int) (a1_1 : Int) (a2_0 : Int) (a2_1 : Int) : Option (Int × Int × Int) := ((impl_less.f K a0 a2_0 a2_1 a1_0 a1_1).bind fun (t12, t13) => ((impl_through.f K a0 a1_0 a1_1 t12 t13).bind fun (t15, t16, t17) => some (t15, t16, t17)))

/-! ### impl_linesThrough: function 198 -/

def impl_linesThrough.l0 (K : Nat) (a0 : Int) (a1_0 : Int) (a1_1 : Int) : Nat → Int → List (Int × Int × Int) → Option (List (Int × Int × Int))
  | 0, _, _ => none
  | k27 + 1, x17, x18 => (if decide (x17 < a0) = true then ((impl_rest.f K a0 (wrap64 ((wrap64 (-a1_0)) - (wrap64 (x17 * a1_1))))).bind fun t37 => (if decide (x18.length ≤ 1000000) = true then (impl_linesThrough.l0 K a0 a1_0 a1_1 k27 (wrap64 (x17 + 1)) (x18 ++ [(1, x17, t37)])) else none)) else some x18)
def impl_linesThrough.f (K : Nat) (a0 : Int) (a1_0 : Int) (a1_1 : Int) : Option (List (Int × Int × Int)) := ((impl_rest.f K a0 (wrap64 (-a1_1))).bind fun t6 => (impl_linesThrough.l0 K a0 a1_0 a1_1 K 0 ([(0, 1, t6)])))

/-! ### impl_way: function 190 -/
def impl_way.f (K : Nat) (a0 : Int) (a1_0 : Int) (a1_1 : Int) (a1_2 : Int) : Option (Int × Int) := ((impl_rest.f K a0 (wrap64 (-a1_1))).bind fun t9 => some (t9, a1_0))

/-! ### impl_product: function 172 -/
def impl_product.f (K : Nat) (a0 : Int) (a1 : Int) (a2_0 : Int) (a2_1 : Int) (a3_0 : Int) (a3_1 : Int) : Option (Int) := (if (a1 == 0) = true then ((impl_rest.f K a0 (wrap64 ((wrap64 (a2_0 * a3_0)) + (wrap64 (a2_1 * a3_1))))).bind fun t13 => some t13) else (if (a1 == 1) = true then ((impl_rest.f K a0 (wrap64 ((wrap64 (a2_0 * a3_0)) - (wrap64 (a2_1 * a3_1))))).bind fun t20 => some t20) else ((impl_rest.f K a0 (wrap64 ((wrap64 (a2_0 * a3_1)) + (wrap64 (a2_1 * a3_0))))).bind fun t25 => some t25)))

/-! ### impl_arePerpendicular: function 140 -/
def impl_arePerpendicular.f (K : Nat) (a0 : Int) (a1 : Int) (a2_0 : Int) (a2_1 : Int) (a2_2 : Int) (a3_0 : Int) (a3_1 : Int) (a3_2 : Int) : Option (Bool) := ((impl_way.f K a0 a2_0 a2_1 a2_2).bind fun (t9, t10) => ((impl_way.f K a0 a3_0 a3_1 a3_2).bind fun (t12, t13) => ((impl_product.f K a0 a1 t9 t10 t12 t13).bind fun t15 => some (t15 == 0))))

/-! ### impl_perpendicular: function 174 -/

def impl_perpendicular.l0 (K : Nat) (a0 : Int) (a1 : Int) (a2_0 : Int) (a2_1 : Int) (a2_2 : Int) (t13 : List (Int × Int × Int)) : Nat → Int → Int → Int → Int → Option (Int × Int × Int)
  | 0, _, _, _, _ => none
  | k29 + 1, x19, x20, x21, x22 => (if decide (x19 < (t13.length : Int)) = true then ((idx t13 x19).bind fun (t40, t41, t42) => ((impl_arePerpendicular.f K a0 a1 a2_0 a2_1 a2_2 t40 t41 t42).bind fun t54 => (if t54 = true then some (t40, t41, t42) else (impl_perpendicular.l0 K a0 a1 a2_0 a2_1 a2_2 t13 k29 (wrap64 (x19 + 1)) x20 x21 x22)))) else some (0, 0, 0))
def impl_perpendicular.f (K : Nat) (a0 : Int) (a1 : Int) (a2_0 : Int) (a2_1 : Int) (a2_2 : Int) (a3_0 : Int) (a3_1 : Int) : Option (Int × Int × Int) := ((impl_linesThrough.f K a0 a3_0 a3_1).bind fun t13 => (impl_perpendicular.l0 K a0 a1 a2_0 a2_1 a2_2 t13 K 0 0 0 0))

/-! ### impl_altitude: function 124 -/
def impl_altitude.f (K : Nat) (a0 : Int) (a1 : Int) (a2_0 : Int) (a2_1 : Int) (a3_0 : Int) (a3_1 : Int) (a4_0 : Int) (a4_1 : Int) : Option (Int × Int × Int) := ((impl_lineThrough.f K a0 a3_0 a3_1 a4_0 a4_1).bind fun (t15, t16, t17) => ((impl_perpendicular.f K a0 a1 t15 t16 t17 a2_0 a2_1).bind fun (t19, t20, t21) => some (t19, t20, t21)))

/-! ### impl_meet: function 173 -/
def impl_meet.f (K : Nat) (a0 : Int) (a1_0 : Int) (a1_1 : Int) (a1_2 : Int) (a2_0 : Int) (a2_1 : Int) (a2_2 : Int) : Option (Int × Int) := ((impl_rest.f K a0 (wrap64 ((wrap64 (a1_0 * a2_1)) - (wrap64 (a1_1 * a2_0))))).bind fun t12 => ((impl_rest.f K a0 (wrap64 ((wrap64 (a1_1 * a2_2)) - (wrap64 (a1_2 * a2_1))))).bind fun t17 => ((impl_divide.f K a0 t17 t12).bind fun t19 => ((impl_rest.f K a0 (wrap64 ((wrap64 (a1_2 * a2_0)) - (wrap64 (a1_0 * a2_2))))).bind fun t21 => ((impl_divide.f K a0 t21 t12).bind fun t23 => some (t19, t23))))))

/-! ### impl_orthocentre: function 118 -/
def impl_orthocentre.f (K : Nat) (a0 : Int) (a1 : Int) (a2_0 : Int) (a2_1 : Int) (a3_0 : Int) (a3_1 : Int) (a4_0 : Int) (a4_1 : Int) : Option (Int × Int) := ((impl_altitude.f K a0 a1 a2_0 a2_1 a3_0 a3_1 a4_0 a4_1).bind fun (t15, t16, t17) => ((impl_altitude.f K a0 a1 a3_0 a3_1 a2_0 a2_1 a4_0 a4_1).bind fun (t19, t20, t21) => ((impl_meet.f K a0 t15 t16 t17 t19 t20 t21).bind fun (t23, t24) => some (t23, t24))))

/-! ### impl_OrthocentreOf: function 35 -/
def impl_OrthocentreOf.f (K : Nat) (a0 : Int) (a1 : Int) (a2_0 : Int) (a2_1 : Int) (a3_0 : Int) (a3_1 : Int) (a4_0 : Int) (a4_1 : Int) : Option (Int × Int × Int) := ((impl_triangle.f K a0 a1 a2_0 a2_1 a3_0 a3_1 a4_0 a4_1).bind fun t16 => (if (t16 == 0) = true then ((impl_orthocentre.f K a0 a1 a2_0 a2_1 a3_0 a3_1 a4_0 a4_1).bind fun (t25, t26) => some (t25, t26, 0)) else some (0, 0, t16)))

/-! ### spec_l01In: function 182 -/
def spec_l01In.f (K : Nat) (a0 : Int) (a1 : Int) (a2 : Int) : Option (Bool) := (if decide (a1 ≤ a0) = true then some (decide (a0 ≤ a2)) else some false)

/-! ### spec_l01Field: function 200 -/

def spec_l01Field.l0 (K : Nat) (a0 : Int) : Nat → Int → Option (Bool)
  | 0, _ => none
  | k16 + 1, x11 => (if decide ((wrap64 (x11 * x11)) ≤ a0) = true then (if (x11 == 0) = true then none else (if ((Int.tmod a0 x11) == 0) = true then some false else (spec_l01Field.l0 K a0 k16 (wrap64 (x11 + 1))))) else some true)
def spec_l01Field.f (K : Nat) (a0 : Int) : Option (Bool) := ((spec_l01In.f K a0 3 31).bind fun t4 => (if t4 = true then (spec_l01Field.l0 K a0 K 2) else some false))

/-! ### spec_l01Point: function 201 -/
def spec_l01Point.f (K : Nat) (a0 : Int) (a1_0 : Int) (a1_1 : Int) : Option (Bool) := ((spec_l01In.f K a1_0 0 (wrap64 (a0 - 1))).bind fun t6 => (if t6 = true then ((spec_l01In.f K a1_1 0 (wrap64 (a0 - 1))).bind fun t11 => some t11) else some false))

/-! ### spec_l01Code: function 196 -/

def spec_l01Code.l0 (K : Nat) (a0 : Int) (a1 : List (Int × Int)) : Nat → Int → Option (Int)
  | 0, _ => none
  | k16 + 1, x11 => (if decide (x11 < (a1.length : Int)) = true then ((idx a1 x11).bind fun (t26, t27) => ((spec_l01Point.f K a0 t26 t27).bind fun t32 => (if t32 = true then (spec_l01Code.l0 K a0 a1 k16 (wrap64 (x11 + 1))) else some 2))) else some 0)
def spec_l01Code.f (K : Nat) (a0 : Int) (a1 : List (Int × Int)) : Option (Int) := ((spec_l01Field.f K a0).bind fun t4 => (if t4 = true then (spec_l01Code.l0 K a0 a1 K 0) else some 1))

/-! ### spec_l02Colour: function 197 -/
def spec_l02Colour.f (K : Nat) (a0 : Int) : Option (Bool) := ((spec_l01In.f K a0 0 2).bind fun t3 => some t3)

/-! ### spec_l02Code: function 164 -/
def spec_l02Code.f (K : Nat) (a0 : Int) (a1 : Int) (a2 : List (Int × Int)) : Option (Int) := ((spec_l01Code.f K a0 a2).bind fun t3 => (if (t3 == 0) = true then ((spec_l02Colour.f K a1).bind fun t10 => (if t10 = true then some t3 else some 2)) else some t3))

/-! ### spec_l04Code: function 119 -/
def spec_l04Code.f (K : Nat) (a0 : Int) (a1 : Int) (a2_0 : Int) (a2_1 : Int) (a3_0 : Int) (a3_1 : Int) (a4_0 : Int) (a4_1 : Int) : Option (Int) := ((spec_l02Code.f K a0 a1 ([(a2_0, a2_1), (a3_0, a3_1), (a4_0, a4_1)])).bind fun t15 => (if (t15 == 0) = true then ((spec_l01Area.f K a0 a2_0 a2_1 a3_0 a3_1 a4_0 a4_1).bind fun t24 => (if (t24 == 0) = true then some 5 else some t15)) else some t15))

/-! ### spec_l01Minus: function 185 -/
def spec_l01Minus.f (K : Nat) (a0 : Int) (a1_0 : Int) (a1_1 : Int) (a2_0 : Int) (a2_1 : Int) : Option (Int × Int) := ((spec_l01Mod.f K (wrap64 (a1_0 - a2_0)) a0).bind fun t12 => ((spec_l01Mod.f K (wrap64 (a1_1 - a2_1)) a0).bind fun t14 => some (t12, t14)))

/-! ### spec_l01Inverse: function 129 -/

def spec_l01Inverse.l0 (K : Nat) (a1 : Int) : Nat → Int → Int → Int → Option (Int)
  | 0, _, _, _ => none
  | k16 + 1, x9, x10, x11 => (if decide (0 < x11) = true then (if ((Int.tmod x11 2) == 1) = true then (if (a1 == 0) = true then none else (spec_l01Inverse.l0 K a1 k16 (Int.tmod (wrap64 (x9 * x10)) a1) (Int.tmod (wrap64 (x10 * x10)) a1) (wrap64 (Int.tdiv x11 2)))) else (if (a1 == 0) = true then none else (spec_l01Inverse.l0 K a1 k16 x9 (Int.tmod (wrap64 (x10 * x10)) a1) (wrap64 (Int.tdiv x11 2))))) else some x9)
def spec_l01Inverse.f (K : Nat) (a0 : Int) (a1 : Int) : Option (Int) := ((spec_l01Mod.f K a0 a1).bind fun t3 => (spec_l01Inverse.l0 K a1 K 1 t3 (wrap64 (a1 - 2))))

/-! ### spec_l01Normal: function 189 -/
def spec_l01Normal.f (K : Nat) (a0 : Int) (a1 : Int) (a2 : Int) (a3 : Int) : Option (Int × Int × Int) := ((spec_l01Mod.f K a1 a0).bind fun t6 => (if (t6 == 0) = true then ((spec_l01Mod.f K a2 a0).bind fun t13 => ((spec_l01Inverse.f K t13 a0).bind fun t18 => ((spec_l01Mod.f K (wrap64 (a1 * t18)) a0).bind fun t23 => ((spec_l01Mod.f K (wrap64 (a2 * t18)) a0).bind fun t27 => ((spec_l01Mod.f K (wrap64 (a3 * t18)) a0).bind fun t31 => some (t23, t27, t31)))))) else ((spec_l01Inverse.f K t6 a0).bind fun t39 => ((spec_l01Mod.f K (wrap64 (a1 * t39)) a0).bind fun t44 => ((spec_l01Mod.f K (wrap64 (a2 * t39)) a0).bind fun t48 => ((spec_l01Mod.f K (wrap64 (a3 * t39)) a0).bind fun t52 => some (t44, t48, t52)))))))

/-! ### spec_l02Through: function 184 -/
def spec_l02Through.f (K : Nat) (a0 : Int) (a1 : Int) (a2_0 : Int) (a2_1 : Int) (a3_0 : Int) (a3_1 : Int) : Option (Int × Int × Int) := (if (a1 == 1) = true then ((spec_l01Mod.f K (wrap64 (-a2_1)) a0).bind fun t19 => ((spec_l01Mod.f K (wrap64 (-(wrap64 ((wrap64 (a2_0 * a3_0)) + (wrap64 (t19 * a3_1)))))) a0).bind fun t24 => ((spec_l01Normal.f K a0 a2_0 t19 t24).bind fun (t28, t29, t30) => some (t28, t29, t30)))) else (if (a1 == 2) = true then ((spec_l01Mod.f K (wrap64 (-(wrap64 ((wrap64 (a2_1 * a3_0)) + (wrap64 (a2_0 * a3_1)))))) a0).bind fun t41 => ((spec_l01Normal.f K a0 a2_1 a2_0 t41).bind fun (t45, t46, t47) => some (t45, t46, t47))) else ((spec_l01Mod.f K (wrap64 (-(wrap64 ((wrap64 (a2_0 * a3_0)) + (wrap64 (a2_1 * a3_1)))))) a0).bind fun t55 => ((spec_l01Normal.f K a0 a2_0 a2_1 t55).bind fun (t59, t60, t61) => some (t59, t60, t61)))))

/-! ### spec_l04Altitude: function 125 -/
def spec_l04Altitude.f (K : Nat) (a0 : Int) (a1 : Int) (a2_0 : Int) (a2_1 : Int) (a3_0 : Int) (a3_1 : Int) (a4_0 : Int) (a4_1 : Int) : Option (Int × Int × Int) := ((spec_l01Minus.f K a0 a3_0 a3_1 a4_0 a4_1).bind fun (t15, t16) => ((spec_l02Through.f K a0 a1 t15 t16 a2_0 a2_1).bind fun (t18, t19, t20) => some (t18, t19, t20)))

/-! ### spec_l01Meet: function 157 -/
def spec_l01Meet.f (K : Nat) (a0 : Int) (a1_0 : Int) (a1_1 : Int) (a1_2 : Int) (a2_0 : Int) (a2_1 : Int) (a2_2 : Int) : Option (Int × Int × Bool) := ((spec_l01Mod.f K (wrap64 ((wrap64 (a1_0 * a2_1)) - (wrap64 (a1_1 * a2_0)))) a0).bind fun t12 => (if (t12 == 0) = true then some (0, 0, false) else ((spec_l01Inverse.f K t12 a0).bind fun t25 => (if (a0 == 0) = true then none else ((spec_l01Mod.f K (wrap64 ((Int.tmod (wrap64 ((wrap64 (a1_1 * a2_2)) - (wrap64 (a2_1 * a1_2)))) a0) * t25)) a0).bind fun t32 => ((spec_l01Mod.f K (wrap64 ((Int.tmod (wrap64 ((wrap64 (a2_0 * a1_2)) - (wrap64 (a1_0 * a2_2)))) a0) * t25)) a0).bind fun t34 => some (t32, t34, true)))))))

/-! ### spec_l04Orthocentre: function 120 -/
def spec_l04Orthocentre.f (K : Nat) (a0 : Int) (a1 : Int) (a2_0 : Int) (a2_1 : Int) (a3_0 : Int) (a3_1 : Int) (a4_0 : Int) (a4_1 : Int) : Option (Int × Int) := ((spec_l04Altitude.f K a0 a1 a2_0 a2_1 a3_0 a3_1 a4_0 a4_1).bind fun (t15, t16, t17) => ((spec_l04Altitude.f K a0 a1 a3_0 a3_1 a2_0 a2_1 a4_0 a4_1).bind fun (t19, t20, t21) => ((spec_l01Meet.f K a0 t15 t16 t17 t19 t20 t21).bind fun (t23, t24, t25) => some (t23, t24))))

/-! ### spec_OrthocentreOf: function 36 -/
def spec_OrthocentreOf.f (K : Nat) (a0 : Int) (a1 : Int) (a2_0 : Int) (a2_1 : Int) (a3_0 : Int) (a3_1 : Int) (a4_0 : Int) (a4_1 : Int) : Option (Int × Int × Int) := ((spec_l04Code.f K a0 a1 a2_0 a2_1 a3_0 a3_1 a4_0 a4_1).bind fun t16 => (if (t16 == 0) = true then ((spec_l04Orthocentre.f K a0 a1 a2_0 a2_1 a3_0 a3_1 a4_0 a4_1).bind fun (t25, t26) => some (t25, t26, 0)) else some (0, 0, t16)))

/-! ### impl_allPoints: function 155 -/
mutual
def impl_allPoints.l0 (K : Nat) (a0 : Int) : Nat → Int → List (Int × Int) → Option (List (Int × Int))
  | 0, _, _ => none
  | k19 + 1, x10, x11 => (if decide (x10 < a0) = true then (impl_allPoints.l1 K a0 x10 k19 0 x11) else some x11)
def impl_allPoints.l1 (K : Nat) (a0 : Int) (x10 : Int) : Nat → Int → List (Int × Int) → Option (List (Int × Int))
  | 0, _, _ => none
  | k38 + 1, x29, x30 => (if decide (x29 < a0) = true then (if decide (x30.length ≤ 1000000) = true then (impl_allPoints.l1 K a0 x10 k38 (wrap64 (x29 + 1)) (x30 ++ [(x10, x29)])) else none) else (impl_allPoints.l0 K a0 k38 (wrap64 (x10 + 1)) x30))
end
def impl_allPoints.f (K : Nat) (a0 : Int) : Option (List (Int × Int)) := (impl_allPoints.l0 K a0 K 0 ([] : List (Int × Int)))

/-! ### impl_quadrance: function 71 -/
def impl_quadrance.f (K : Nat) (a0 : Int) (a1 : Int) (a2_0 : Int) (a2_1 : Int) (a3_0 : Int) (a3_1 : Int) : Option (Int) := ((impl_less.f K a0 a2_0 a2_1 a3_0 a3_1).bind fun (t9, t10) => ((impl_product.f K a0 a1 t9 t10 t9 t10).bind fun t21 => some t21))

/-! ### impl_circumcentre: function 121 -/

def impl_circumcentre.l0 (K : Nat) (a0 : Int) (a1 : Int) (a2_0 : Int) (a2_1 : Int) (a3_0 : Int) (a3_1 : Int) (a4_0 : Int) (a4_1 : Int) (t16 : List (Int × Int)) : Nat → Int → Int → Int → Option (Int × Int)
  | 0, _, _, _ => none
  | k31 + 1, x22, x23, x24 => (if decide (x22 < (t16.length : Int)) = true then ((idx t16 x22).bind fun (t42, t43) => ((impl_quadrance.f K a0 a1 t42 t43 a2_0 a2_1).bind fun t55 => ((impl_quadrance.f K a0 a1 t42 t43 a3_0 a3_1).bind fun t60 => (if (t55 == t60) = true then ((impl_quadrance.f K a0 a1 t42 t43 a4_0 a4_1).bind fun t73 => (if (t55 == t73) = true then some (t42, t43) else (impl_circumcentre.l0 K a0 a1 a2_0 a2_1 a3_0 a3_1 a4_0 a4_1 t16 k31 (wrap64 (x22 + 1)) x23 x24))) else (impl_circumcentre.l0 K a0 a1 a2_0 a2_1 a3_0 a3_1 a4_0 a4_1 t16 k31 (wrap64 (x22 + 1)) x23 x24))))) else some (0, 0))
def impl_circumcentre.f (K : Nat) (a0 : Int) (a1 : Int) (a2_0 : Int) (a2_1 : Int) (a3_0 : Int) (a3_1 : Int) (a4_0 : Int) (a4_1 : Int) : Option (Int × Int) := ((impl_allPoints.f K a0).bind fun t16 => (impl_circumcentre.l0 K a0 a1 a2_0 a2_1 a3_0 a3_1 a4_0 a4_1 t16 K 0 0 0))

/-! ### impl_CircumcentreOf: function 37 -/
def impl_CircumcentreOf.f (K : Nat) (a0 : Int) (a1 : Int) (a2_0 : Int) (a2_1 : Int) (a3_0 : Int) (a3_1 : Int) (a4_0 : Int) (a4_1 : Int) : Option (Int × Int × Int) := ((impl_triangle.f K a0 a1 a2_0 a2_1 a3_0 a3_1 a4_0 a4_1).bind fun t16 => (if (t16 == 0) = true then ((impl_circumcentre.f K a0 a1 a2_0 a2_1 a3_0 a3_1 a4_0 a4_1).bind fun (t25, t26) => some (t25, t26, 0)) else some (0, 0, t16)))

/-! ### spec_l04Circumcentre: function 122 -/
def spec_l04Circumcentre.f (K : Nat) (a0 : Int) (a1 : Int) (a2_0 : Int) (a2_1 : Int) (a3_0 : Int) (a3_1 : Int) (a4_0 : Int) (a4_1 : Int) : Option (Int × Int) := ((spec_l01Minus.f K a0 a2_0 a2_1 a3_0 a3_1).bind fun (t15, t16) => ((spec_l01Middle.f K a0 a2_0 a2_1 a3_0 a3_1).bind fun (t18, t19) => ((spec_l02Through.f K a0 a1 t15 t16 t18 t19).bind fun (t21, t22, t23) => ((spec_l01Minus.f K a0 a2_0 a2_1 a4_0 a4_1).bind fun (t33, t34) => ((spec_l01Middle.f K a0 a2_0 a2_1 a4_0 a4_1).bind fun (t36, t37) => ((spec_l02Through.f K a0 a1 t33 t34 t36 t37).bind fun (t39, t40, t41) => ((spec_l01Meet.f K a0 t21 t22 t23 t39 t40 t41).bind fun (t51, t52, t53) => some (t51, t52))))))))

/-! ### spec_CircumcentreOf: function 38 -/
def spec_CircumcentreOf.f (K : Nat) (a0 : Int) (a1 : Int) (a2_0 : Int) (a2_1 : Int) (a3_0 : Int) (a3_1 : Int) (a4_0 : Int) (a4_1 : Int) : Option (Int × Int × Int) := ((spec_l04Code.f K a0 a1 a2_0 a2_1 a3_0 a3_1 a4_0 a4_1).bind fun t16 => (if (t16 == 0) = true then ((spec_l04Circumcentre.f K a0 a1 a2_0 a2_1 a3_0 a3_1 a4_0 a4_1).bind fun (t25, t26) => some (t25, t26, 0)) else some (0, 0, t16)))

/-! ### impl_CircumquadranceOf: function 39 -/
def impl_CircumquadranceOf.f (K : Nat) (a0 : Int) (a1 : Int) (a2_0 : Int) (a2_1 : Int) (a3_0 : Int) (a3_1 : Int) (a4_0 : Int) (a4_1 : Int) : Option (Int × Int) := ((impl_triangle.f K a0 a1 a2_0 a2_1 a3_0 a3_1 a4_0 a4_1).bind fun t13 => (if (t13 == 0) = true then ((impl_circumcentre.f K a0 a1 a2_0 a2_1 a3_0 a3_1 a4_0 a4_1).bind fun (t21, t22) => ((impl_quadrance.f K a0 a1 t21 t22 a2_0 a2_1).bind fun t24 => some (t24, 0))) else some (0, t13)))

/-! ### spec_l02Product: function 186 -/
def spec_l02Product.f (K : Nat) (a0 : Int) (a1 : Int) (a2_0 : Int) (a2_1 : Int) (a3_0 : Int) (a3_1 : Int) : Option (Int) := (if (a1 == 0) = true then ((spec_l01Mod.f K (wrap64 ((wrap64 (a2_0 * a3_0)) + (wrap64 (a2_1 * a3_1)))) a0).bind fun t13 => some t13) else (if (a1 == 1) = true then ((spec_l01Mod.f K (wrap64 ((wrap64 (a2_0 * a3_0)) - (wrap64 (a2_1 * a3_1)))) a0).bind fun t20 => some t20) else ((spec_l01Mod.f K (wrap64 ((wrap64 (a2_0 * a3_1)) + (wrap64 (a2_1 * a3_0)))) a0).bind fun t25 => some t25)))

/-! ### spec_l02Quadrance: function 123 -/
def spec_l02Quadrance.f (K : Nat) (a0 : Int) (a1 : Int) (a2_0 : Int) (a2_1 : Int) (a3_0 : Int) (a3_1 : Int) : Option (Int) := ((spec_l01Minus.f K a0 a3_0 a3_1 a2_0 a2_1).bind fun (t9, t10) => ((spec_l02Product.f K a0 a1 t9 t10 t9 t10).bind fun t21 => some t21))

/-! ### spec_CircumquadranceOf: function 40 -/
def spec_CircumquadranceOf.f (K : Nat) (a0 : Int) (a1 : Int) (a2_0 : Int) (a2_1 : Int) (a3_0 : Int) (a3_1 : Int) (a4_0 : Int) (a4_1 : Int) : Option (Int × Int) := ((spec_l04Code.f K a0 a1 a2_0 a2_1 a3_0 a3_1 a4_0 a4_1).bind fun t13 => (if (t13 == 0) = true then ((spec_l04Circumcentre.f K a0 a1 a2_0 a2_1 a3_0 a3_1 a4_0 a4_1).bind fun (t21, t22) => ((spec_l02Quadrance.f K a0 a1 t21 t22 a2_0 a2_1).bind fun t24 => some (t24, 0))) else some (0, t13)))

/-! ### impl_AltitudeOf: function 41 -/
def impl_AltitudeOf.f (K : Nat) (a0 : Int) (a1 : Int) (a2_0 : Int) (a2_1 : Int) (a3_0 : Int) (a3_1 : Int) (a4_0 : Int) (a4_1 : Int) : Option (Int × Int × Int × Int) := ((impl_triangle.f K a0 a1 a2_0 a2_1 a3_0 a3_1 a4_0 a4_1).bind fun t16 => (if (t16 == 0) = true then ((impl_altitude.f K a0 a1 a2_0 a2_1 a3_0 a3_1 a4_0 a4_1).bind fun (t25, t26, t27) => some (t25, t26, t27, 0)) else some (0, 0, 0, t16)))

/-! ### spec_AltitudeOf: function 42 -/
def spec_AltitudeOf.f (K : Nat) (a0 : Int) (a1 : Int) (a2_0 : Int) (a2_1 : Int) (a3_0 : Int) (a3_1 : Int) (a4_0 : Int) (a4_1 : Int) : Option (Int × Int × Int × Int) := ((spec_l04Code.f K a0 a1 a2_0 a2_1 a3_0 a3_1 a4_0 a4_1).bind fun t16 => (if (t16 == 0) = true then ((spec_l04Altitude.f K a0 a1 a2_0 a2_1 a3_0 a3_1 a4_0 a4_1).bind fun (t25, t26, t27) => some (t25, t26, t27, 0)) else some (0, 0, 0, t16)))

/-! ### spec_DrawMedianOf: function 126 -/
def spec_DrawMedianOf.f (K : Nat) (a0 : List (Int)) : Option (Int × Int × Int × Int × Int × Int × Int) := ((spec_l04Draw.f K a0).bind fun (t12, t13, t14, t15, t16, t17, t18, t19) => some (t12, t14, t15, t16, t17, t18, t19))

/-! ### spec_DrawCentroidOf: function 43 -/
def spec_DrawCentroidOf.f (K : Nat) (a0 : List (Int)) : Option (Int × Int × Int × Int × Int × Int × Int) := ((spec_DrawMedianOf.f K a0).bind fun (t12, t13, t14, t15, t16, t17, t18) => some (t12, t13, t14, t15, t16, t17, t18))

/-! ### impl_CentroidOf: function 44 -/
def impl_CentroidOf.f (K : Nat) (a0 : Int) (a1_0 : Int) (a1_1 : Int) (a2_0 : Int) (a2_1 : Int) (a3_0 : Int) (a3_1 : Int) : Option (Int × Int × Int) := ((impl_triangle.f K a0 0 a1_0 a1_1 a2_0 a2_1 a3_0 a3_1).bind fun t16 => (if (t16 == 0) = true then (if (a0 == 3) = true then some (0, 0, 5) else ((impl_divide.f K a0 (wrap64 ((wrap64 (a1_0 + a2_0)) + a3_0)) 3).bind fun t33 => ((impl_divide.f K a0 (wrap64 ((wrap64 (a1_1 + a2_1)) + a3_1)) 3).bind fun t35 => some (t33, t35, 0)))) else some (0, 0, t16)))

/-! ### spec_CentroidOf: function 45 -/
def spec_CentroidOf.f (K : Nat) (a0 : Int) (a1_0 : Int) (a1_1 : Int) (a2_0 : Int) (a2_1 : Int) (a3_0 : Int) (a3_1 : Int) : Option (Int × Int × Int) := ((spec_l04Code.f K a0 0 a1_0 a1_1 a2_0 a2_1 a3_0 a3_1).bind fun t15 => (if (t15 == 0) = true then (if (a0 == 3) = true then some (0, 0, 5) else (if (a0 == 0) = true then none else ((spec_l01Inverse.f K (Int.tmod 3 a0) a0).bind fun t36 => ((spec_l01Plus.f K a0 a2_0 a2_1 a3_0 a3_1).bind fun (t38, t39) => ((spec_l01Plus.f K a0 a1_0 a1_1 t38 t39).bind fun (t41, t42) => ((spec_l01Times.f K a0 t36 t41 t42).bind fun (t44, t45) => some (t44, t45, 0))))))) else some (0, 0, t15)))

/-! ### impl_combination: function 80 -/
def impl_combination.f (K : Nat) (a0 : Int) (a1_0 : Int) (a1_1 : Int) (a2_0 : Int) (a2_1 : Int) (a3 : Int) : Option (Int × Int) := ((impl_rest.f K a0 (wrap64 (a1_0 + (wrap64 (a3 * (wrap64 (a2_0 - a1_0))))))).bind fun t12 => ((impl_rest.f K a0 (wrap64 (a1_1 + (wrap64 (a3 * (wrap64 (a2_1 - a1_1))))))).bind fun t14 => some (t12, t14)))

/-! ### impl_midpoint: function 132 -/
def impl_midpoint.f (K : Nat) (a0 : Int) (a1_0 : Int) (a1_1 : Int) (a2_0 : Int) (a2_1 : Int) : Option (Int × Int) := ((impl_inverse.f K a0 2).bind fun t12 => ((impl_combination.f K a0 a1_0 a1_1 a2_0 a2_1 t12).bind fun (t14, t15) => some (t14, t15)))

/-! ### impl_MedianOf: function 46 -/
def impl_MedianOf.f (K : Nat) (a0 : Int) (a1_0 : Int) (a1_1 : Int) (a2_0 : Int) (a2_1 : Int) (a3_0 : Int) (a3_1 : Int) : Option (Int × Int × Int × Int) := ((impl_triangle.f K a0 0 a1_0 a1_1 a2_0 a2_1 a3_0 a3_1).bind fun t16 => (if (t16 == 0) = true then ((impl_midpoint.f K a0 a2_0 a2_1 a3_0 a3_1).bind fun (t25, t26) => ((impl_lineThrough.f K a0 a1_0 a1_1 t25 t26).bind fun (t28, t29, t30) => some (t28, t29, t30, 0))) else some (0, 0, 0, t16)))

/-! ### spec_l01Through: function 133 -/
def spec_l01Through.f (K : Nat) (a0 : Int) (a1_0 : Int) (a1_1 : Int) (a2_0 : Int) (a2_1 : Int) : Option (Int × Int × Int) := ((spec_l01Normal.f K a0 (wrap64 (a1_1 - a2_1)) (wrap64 (a2_0 - a1_0)) (wrap64 ((wrap64 (a1_0 * a2_1)) - (wrap64 (a2_0 * a1_1))))).bind fun (t12, t13, t14) => some (t12, t13, t14))

/-! ### spec_MedianOf: function 47 -/
def spec_MedianOf.f (K : Nat) (a0 : Int) (a1_0 : Int) (a1_1 : Int) (a2_0 : Int) (a2_1 : Int) (a3_0 : Int) (a3_1 : Int) : Option (Int × Int × Int × Int) := ((spec_l04Code.f K a0 0 a1_0 a1_1 a2_0 a2_1 a3_0 a3_1).bind fun t16 => (if (t16 == 0) = true then ((spec_l01Middle.f K a0 a2_0 a2_1 a3_0 a3_1).bind fun (t25, t26) => ((spec_l01Through.f K a0 a1_0 a1_1 t25 t26).bind fun (t28, t29, t30) => some (t28, t29, t30, 0))) else some (0, 0, 0, t16)))

/-! ### impl_isLine: function 76 -/
def impl_isLine.f (K : Nat) (a0 : Int) (a1_0 : Int) (a1_1 : Int) (a1_2 : Int) : Option (Bool) := ((impl_areNumbers.f K a0 ([a1_0, a1_1, a1_2])).bind fun t7 => (if t7 = true then (if (a1_0 == 1) = true then some true else (if (a1_0 == 0) = true then some (a1_1 == 1) else some false)) else some false))

/-! ### impl_IsOnLine_1: function 135 -/
def impl_IsOnLine_1.f (K : Nat) (f0_0 : Int) (f1_0 : Int) (f1_1 : Int) (f2_0 : Int) (f2_1 : Int) (f2_2 : Int) : Option (Bool) := ((impl_isPoint.f K f0_0 f1_0 f1_1).bind fun t3 => (if t3 = true then ((impl_isLine.f K f0_0 f2_0 f2_1 f2_2).bind fun t8 => some t8) else some false))

/-! ### impl_asked__impl_IsOnLine_1: function 67 -/
def impl_asked__impl_IsOnLine_1.f (K : Nat) (a0 : Int) (c1_0_0 : Int) (c1_1_0 : Int) (c1_1_1 : Int) (c1_2_0 : Int) (c1_2_1 : Int) (c1_2_2 : Int) : Option (Int) := ((impl_IsField.f K a0).bind fun t4 => (if t4 = true then ((impl_IsOnLine_1.f K c1_0_0 c1_1_0 c1_1_1 c1_2_0 c1_2_1 c1_2_2).bind fun t11 => (if t11 = true then some 0 else some 2)) else some 1))

/-! ### impl_isOn: function 136 -/
def impl_isOn.f (K : Nat) (a0 : Int) (a1_0 : Int) (a1_1 : Int) (a2_0 : Int) (a2_1 : Int) (a2_2 : Int) : Option (Bool) := (if (a0 == 0) = true then none else some ((Int.tmod (wrap64 ((wrap64 ((wrap64 (a2_0 * a1_0)) + (wrap64 (a2_1 * a1_1)))) + a2_2)) a0) == 0))

/-! ### impl_IsOnLine: function 48 -/
def impl_IsOnLine.f (K : Nat) (a0 : Int) (a1_0 : Int) (a1_1 : Int) (a2_0 : Int) (a2_1 : Int) (a2_2 : Int) : Option (Bool × Int) := ((impl_asked__impl_IsOnLine_1.f K a0 a0 a1_0 a1_1 a2_0 a2_1 a2_2).bind fun t13 => (if (t13 == 0) = true then ((impl_isOn.f K a0 a1_0 a1_1 a2_0 a2_1 a2_2).bind fun t21 => some (t21, 0)) else some (false, t13)))

/-! ### impl_Quadrance_1: function 68 -/
def impl_Quadrance_1.f (K : Nat) (f0_0 : Int) (f1_0 : Int) (f2_0 : Int) (f2_1 : Int) (f3_0 : Int) (f3_1 : Int) : Option (Bool) := ((impl_isColour.f K f0_0).bind fun t3 => (if t3 = true then ((impl_arePoints.f K f1_0 ([(f2_0, f2_1), (f3_0, f3_1)])).bind fun t11 => some t11) else some false))

/-! ### impl_asked__impl_Quadrance_1: function 67 -/
def impl_asked__impl_Quadrance_1.f (K : Nat) (a0 : Int) (c1_0_0 : Int) (c1_1_0 : Int) (c1_2_0 : Int) (c1_2_1 : Int) (c1_3_0 : Int) (c1_3_1 : Int) : Option (Int) := ((impl_IsField.f K a0).bind fun t4 => (if t4 = true then ((impl_Quadrance_1.f K c1_0_0 c1_1_0 c1_2_0 c1_2_1 c1_3_0 c1_3_1).bind fun t11 => (if t11 = true then some 0 else some 2)) else some 1))

/-! ### impl_Quadrance: function 10 -/
def impl_Quadrance.f (K : Nat) (a0 : Int) (a1 : Int) (a2_0 : Int) (a2_1 : Int) (a3_0 : Int) (a3_1 : Int) : Option (Int × Int) := ((impl_asked__impl_Quadrance_1.f K a0 a1 a0 a2_0 a2_1 a3_0 a3_1).bind fun t16 => (if (t16 == 0) = true then ((impl_quadrance.f K a0 a1 a2_0 a2_1 a3_0 a3_1).bind fun t25 => some (t25, 0)) else some (0, t16)))

/-! ### impl_LineThrough_1: function 137 -/
def impl_LineThrough_1.f (K : Nat) (f0_0 : Int) (f1_0 : Int) (f1_1 : Int) (f2_0 : Int) (f2_1 : Int) : Option (Bool) := ((impl_arePoints.f K f0_0 ([(f1_0, f1_1), (f2_0, f2_1)])).bind fun t6 => some t6)

/-! ### impl_asked__impl_LineThrough_1: function 67 -/
def impl_asked__impl_LineThrough_1.f (K : Nat) (a0 : Int) (c1_0_0 : Int) (c1_1_0 : Int) (c1_1_1 : Int) (c1_2_0 : Int) (c1_2_1 : Int) : Option (Int) := ((impl_IsField.f K a0).bind fun t4 => (if t4 = true then ((impl_LineThrough_1.f K c1_0_0 c1_1_0 c1_1_1 c1_2_0 c1_2_1).bind fun t11 => (if t11 = true then some 0 else some 2)) else some 1))

/-! ### impl_LineThrough: function 49 -/
def impl_LineThrough.f (K : Nat) (a0 : Int) (a1_0 : Int) (a1_1 : Int) (a2_0 : Int) (a2_1 : Int) : Option (Int × Int × Int × Int) := ((impl_asked__impl_LineThrough_1.f K a0 a0 a1_0 a1_1 a2_0 a2_1).bind fun t16 => (if (t16 == 0) = true then (if (a1_0 == a2_0 && a1_1 == a2_1) = true then some (0, 0, 0, 5) else ((impl_lineThrough.f K a0 a1_0 a1_1 a2_0 a2_1).bind fun (t33, t34, t35) => some (t33, t34, t35, 0))) else some (0, 0, 0, t16)))

/-! ### impl_areLines: function 139 -/

def impl_areLines.l0 (K : Nat) (a0 : Int) (a1 : List (Int × Int × Int)) : Nat → Int → Option (Bool)
  | 0, _ => none
  | k9 + 1, x4 => (if decide (x4 < (a1.length : Int)) = true then ((idx a1 x4).bind fun (t19, t20, t21) => ((impl_isLine.f K a0 t19 t20 t21).bind fun t33 => (if t33 = true then (impl_areLines.l0 K a0 a1 k9 (wrap64 (x4 + 1))) else some false))) else some true)
def impl_areLines.f (K : Nat) (a0 : Int) (a1 : List (Int × Int × Int)) : Option (Bool) := (impl_areLines.l0 K a0 a1 K 0)

/-! ### impl_ArePerpendicular_1: function 138 -/
def impl_ArePerpendicular_1.f (K : Nat) (f0_0 : Int) (f1_0 : Int) (f2_0 : Int) (f2_1 : Int) (f2_2 : Int) (f3_0 : Int) (f3_1 : Int) (f3_2 : Int) : Option (Bool) := ((impl_isColour.f K f0_0).bind fun t3 => (if t3 = true then ((impl_areLines.f K f1_0 ([(f2_0, f2_1, f2_2), (f3_0, f3_1, f3_2)])).bind fun t11 => some t11) else some false))

/-! ### impl_asked__impl_ArePerpendicular_1: function 67 -/
def impl_asked__impl_ArePerpendicular_1.f (K : Nat) (a0 : Int) (c1_0_0 : Int) (c1_1_0 : Int) (c1_2_0 : Int) (c1_2_1 : Int) (c1_2_2 : Int) (c1_3_0 : Int) (c1_3_1 : Int) (c1_3_2 : Int) : Option (Int) := ((impl_IsField.f K a0).bind fun t4 => (if t4 = true then ((impl_ArePerpendicular_1.f K c1_0_0 c1_1_0 c1_2_0 c1_2_1 c1_2_2 c1_3_0 c1_3_1 c1_3_2).bind fun t11 => (if t11 = true then some 0 else some 2)) else some 1))

/-! ### impl_ArePerpendicular: function 50 -/
def impl_ArePerpendicular.f (K : Nat) (a0 : Int) (a1 : Int) (a2_0 : Int) (a2_1 : Int) (a2_2 : Int) (a3_0 : Int) (a3_1 : Int) (a3_2 : Int) : Option (Bool × Int) := ((impl_asked__impl_ArePerpendicular_1.f K a0 a1 a0 a2_0 a2_1 a2_2 a3_0 a3_1 a3_2).bind fun t16 => (if (t16 == 0) = true then ((impl_arePerpendicular.f K a0 a1 a2_0 a2_1 a2_2 a3_0 a3_1 a3_2).bind fun t25 => some (t25, 0)) else some (false, t16)))

/-! ### laws_FnTriangles: function 5 -/
def laws_FnTriangles.f (K : Nat) (a0 : List (Int)) : Option (Bool) := ((laws_big.f K a0).bind fun t4 => (if t4 = true then some true else ((spec_DrawOrthocentreOf.f K a0).bind fun (t11, t12, t13, t14, t15, t16, t17, t18) => ((impl_OrthocentreOf.f K t11 t12 t13 t14 t15 t16 t17 t18).bind fun (t47, t48, t49) => ((spec_OrthocentreOf.f K t11 t12 t13 t14 t15 t16 t17 t18).bind fun (t61, t62, t63) => (if (t49 == t63) = true then (if (t47 == t61 && t48 == t62) = true then ((impl_CircumcentreOf.f K t11 t12 t13 t14 t15 t16 t17 t18).bind fun (t83, t84, t85) => ((spec_CircumcentreOf.f K t11 t12 t13 t14 t15 t16 t17 t18).bind fun (t97, t98, t99) => (if (t85 == t99) = true then (if (t83 == t97 && t84 == t98) = true then ((impl_CircumquadranceOf.f K t11 t12 t13 t14 t15 t16 t17 t18).bind fun (t121, t122) => ((spec_CircumquadranceOf.f K t11 t12 t13 t14 t15 t16 t17 t18).bind fun (t128, t129) => (if (t122 == t129) = true then (if (t121 == t128) = true then ((impl_AltitudeOf.f K t11 t12 t13 t14 t15 t16 t17 t18).bind fun (t137, t138, t139, t140) => ((spec_AltitudeOf.f K t11 t12 t13 t14 t15 t16 t17 t18).bind fun (t152, t153, t154, t155) => (if (t140 == t155) = true then (if (t137 == t152 && (t138 == t153 && t139 == t154)) = true then ((spec_DrawCentroidOf.f K a0).bind fun (t179, t180, t181, t182, t183, t184, t185) => ((impl_CentroidOf.f K t179 t180 t181 t182 t183 t184 t185).bind fun (t214, t215, t216) => ((spec_CentroidOf.f K t179 t180 t181 t182 t183 t184 t185).bind fun (t228, t229, t230) => (if (t216 == t230) = true then (if (t214 == t228 && t215 == t229) = true then ((impl_MedianOf.f K t179 t180 t181 t182 t183 t184 t185).bind fun (t259, t260, t261, t262) => ((spec_MedianOf.f K t179 t180 t181 t182 t183 t184 t185).bind fun (t274, t275, t276, t277) => (if (t262 == t277) = true then (if (t259 == t274 && (t260 == t275 && t261 == t276)) = true then (if (t216 == 0) = true then ((impl_IsOnLine.f K t179 t214 t215 t259 t260 t261).bind fun (t311, t312) => (if (t262 == 0) = true then (if (t312 == 0) = true then (if t311 = true then (if (t49 == 0) = true then ((impl_IsOnLine.f K t11 t47 t48 t137 t138 t139).bind fun (t324, t325) => ((impl_Quadrance.f K t11 t12 t83 t84 t13 t14).bind fun (t330, t331) => ((impl_Quadrance.f K t11 t12 t83 t84 t15 t16).bind fun (t336, t337) => ((impl_Quadrance.f K t11 t12 t83 t84 t17 t18).bind fun (t342, t343) => ((impl_LineThrough.f K t11 t15 t16 t17 t18).bind fun (t348, t349, t350, t351) => ((impl_ArePerpendicular.f K t11 t12 t348 t349 t350 t137 t138 t139).bind fun (t362, t363) => (if (t140 == 0) = true then (if (t325 == 0) = true then (if t324 = true then (if (t331 == 0) = true then (if (t337 == 0) = true then (if (t343 == 0) = true then (if (t330 == t121) = true then (if (t336 == t121) = true then (if (t342 == t121) = true then (if (t351 == 0) = true then (if (t363 == 0) = true then some t362 else some false) else some false) else some false) else some false) else some false) else some false) else some false) else some false) else some false) else some false) else some false))))))) else (if (t47 == 0 && t48 == 0) = true then (if (t85 == t49) = true then some (t122 == t49) else some false) else some false)) else some false) else some false) else some false)) else (if (t49 == 0) = true then ((impl_IsOnLine.f K t11 t47 t48 t137 t138 t139).bind fun (t407, t408) => ((impl_Quadrance.f K t11 t12 t83 t84 t13 t14).bind fun (t413, t414) => ((impl_Quadrance.f K t11 t12 t83 t84 t15 t16).bind fun (t419, t420) => ((impl_Quadrance.f K t11 t12 t83 t84 t17 t18).bind fun (t425, t426) => ((impl_LineThrough.f K t11 t15 t16 t17 t18).bind fun (t431, t432, t433, t434) => ((impl_ArePerpendicular.f K t11 t12 t431 t432 t433 t137 t138 t139).bind fun (t445, t446) => (if (t140 == 0) = true then (if (t408 == 0) = true then (if t407 = true then (if (t414 == 0) = true then (if (t420 == 0) = true then (if (t426 == 0) = true then (if (t413 == t121) = true then (if (t419 == t121) = true then (if (t425 == t121) = true then (if (t434 == 0) = true then (if (t446 == 0) = true then some t445 else some false) else some false) else some false) else some false) else some false) else some false) else some false) else some false) else some false) else some false) else some false))))))) else (if (t47 == 0 && t48 == 0) = true then (if (t85 == t49) = true then some (t122 == t49) else some false) else some false))) else some false) else some false))) else some false) else some false)))) else some false) else some false))) else some false) else some false))) else some false) else some false))) else some false) else some false))))))

end Go.Proofs.Ytccbmdpikalpfaa
