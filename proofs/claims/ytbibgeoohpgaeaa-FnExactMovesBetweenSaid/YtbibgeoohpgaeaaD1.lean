/- What the functions of the program compute, in plain Lean. -/
import Derived.Test.YtbibgeoohpgaeaaK
namespace Go.Proofs.Ytbibgeoohpgaeaa
open Go Go.RowKit
attribute [local go_sem] Oper.quiet Oper.quietAt Oper.quietUpon
attribute [local irreducible] wpList
set_option linter.unusedVariables false
set_option linter.unusedSimpArgs false

/-! ### spec_l01In: function 90 -/
def spec_l01In.f (K : Nat) (a0 : Int) (a1 : Int) (a2 : Int) : Option (Bool) := (if decide (a1 ≤ a0) = true then some (decide (a0 ≤ a2)) else some false)

/-! ### spec_l01Field: function 87 -/

def spec_l01Field.l0 (K : Nat) (a0 : Int) : Nat → Int → Option (Bool)
  | 0, _ => none
  | k16 + 1, x11 => (if decide ((wrap64 (x11 * x11)) ≤ a0) = true then (if (x11 == 0) = true then none else (if ((Int.tmod a0 x11) == 0) = true then some false else (spec_l01Field.l0 K a0 k16 (wrap64 (x11 + 1))))) else some true)
def spec_l01Field.f (K : Nat) (a0 : Int) : Option (Bool) := ((spec_l01In.f K a0 3 31).bind fun t4 => (if t4 = true then (spec_l01Field.l0 K a0 K 2) else some false))

/-! ### spec_l01Point: function 108 -/
def spec_l01Point.f (K : Nat) (a0 : Int) (a1_0 : Int) (a1_1 : Int) : Option (Bool) := ((spec_l01In.f K a1_0 0 (wrap64 (a0 - 1))).bind fun t6 => (if t6 = true then ((spec_l01In.f K a1_1 0 (wrap64 (a0 - 1))).bind fun t11 => some t11) else some false))

/-! ### spec_l01Code: function 46 -/

def spec_l01Code.l0 (K : Nat) (a0 : Int) (a1 : List (Int × Int)) : Nat → Int → Option (Int)
  | 0, _ => none
  | k16 + 1, x11 => (if decide (x11 < (a1.length : Int)) = true then ((idx a1 x11).bind fun (t26, t27) => ((spec_l01Point.f K a0 t26 t27).bind fun t32 => (if t32 = true then (spec_l01Code.l0 K a0 a1 k16 (wrap64 (x11 + 1))) else some 2))) else some 0)
def spec_l01Code.f (K : Nat) (a0 : Int) (a1 : List (Int × Int)) : Option (Int) := ((spec_l01Field.f K a0).bind fun t4 => (if t4 = true then (spec_l01Code.l0 K a0 a1 K 0) else some 1))

/-! ### spec_l03Points: function 73 -/
def spec_l03Points.f (K : Nat) (a0 : Int) (a1 : Int) (a2 : List (Int × Int)) : Option (Int) := ((spec_l01Code.f K a0 a2).bind fun t3 => (if (t3 == 0) = true then ((spec_l01In.f K a1 0 2).bind fun t10 => (if t10 = true then some t3 else some 2)) else some t3))

/-! ### spec_l01Mod: function 118 -/
def spec_l01Mod.f (K : Nat) (a0 : Int) (a1 : Int) : Option (Int) := (if (a1 == 0) = true then none else some (Int.tmod (wrap64 ((Int.tmod a0 a1) + a1)) a1))

/-! ### spec_l07Lead: function 102 -/
def spec_l07Lead.f (K : Nat) (a0 : Int) (a1_0 : Int) (a1_1 : Int) (a1_2 : Int) (a1_3 : Int) (a1_4 : Int) (a1_5 : Int) (a2_0 : Int) (a2_1 : Int) : Option (Int × Int) := ((spec_l01Mod.f K (wrap64 ((wrap64 (a1_0 * a2_0)) + (wrap64 (a1_1 * a2_1)))) a0).bind fun t12 => ((spec_l01Mod.f K (wrap64 ((wrap64 (a1_2 * a2_0)) + (wrap64 (a1_3 * a2_1)))) a0).bind fun t14 => some (t12, t14)))

/-! ### spec_l02Product: function 124 -/
def spec_l02Product.f (K : Nat) (a0 : Int) (a1 : Int) (a2_0 : Int) (a2_1 : Int) (a3_0 : Int) (a3_1 : Int) : Option (Int) := (if (a1 == 0) = true then ((spec_l01Mod.f K (wrap64 ((wrap64 (a2_0 * a3_0)) + (wrap64 (a2_1 * a3_1)))) a0).bind fun t13 => some t13) else (if (a1 == 1) = true then ((spec_l01Mod.f K (wrap64 ((wrap64 (a2_0 * a3_0)) - (wrap64 (a2_1 * a3_1)))) a0).bind fun t20 => some t20) else ((spec_l01Mod.f K (wrap64 ((wrap64 (a2_0 * a3_1)) + (wrap64 (a2_1 * a3_0)))) a0).bind fun t25 => some t25)))

/-! ### spec_l07Good: function 113 -/
def spec_l07Good.f (K : Nat) (a0 : Int) (a1 : Int) (a2_0 : Int) (a2_1 : Int) (a2_2 : Int) (a2_3 : Int) (a2_4 : Int) (a2_5 : Int) : Option (Bool) := ((spec_l07Lead.f K a0 a2_0 a2_1 a2_2 a2_3 a2_4 a2_5 1 0).bind fun (t21, t22) => ((spec_l07Lead.f K a0 a2_0 a2_1 a2_2 a2_3 a2_4 a2_5 0 1).bind fun (t24, t25) => ((spec_l02Product.f K a0 a1 t21 t22 t21 t22).bind fun t43 => ((spec_l02Product.f K a0 a1 1 0 1 0).bind fun t45 => (if (t43 == t45) = true then ((spec_l02Product.f K a0 a1 t24 t25 t24 t25).bind fun t53 => ((spec_l02Product.f K a0 a1 0 1 0 1).bind fun t55 => (if (t53 == t55) = true then ((spec_l02Product.f K a0 a1 t21 t22 t24 t25).bind fun t58 => ((spec_l02Product.f K a0 a1 1 0 0 1).bind fun t60 => some (t58 == t60))) else some false))) else some false)))))

/-! ### spec_l07Sign: function 117 -/
def spec_l07Sign.f (K : Nat) (a0 : Int) (a1_0 : Int) (a1_1 : Int) (a1_2 : Int) (a1_3 : Int) (a1_4 : Int) (a1_5 : Int) : Option (Int) := ((spec_l01Mod.f K (wrap64 ((wrap64 (a1_0 * a1_3)) - (wrap64 (a1_1 * a1_2)))) a0).bind fun t6 => some t6)

/-! ### spec_l07Less: function 131 -/
def spec_l07Less.f (K : Nat) (a0_0 : Int) (a0_1 : Int) (a0_2 : Int) (a0_3 : Int) (a0_4 : Int) (a0_5 : Int) (a1_0 : Int) (a1_1 : Int) (a1_2 : Int) (a1_3 : Int) (a1_4 : Int) (a1_5 : Int) : Option (Bool) := (if (a0_0 == a1_0) = true then (if (a0_1 == a1_1) = true then (if (a0_2 == a1_2) = true then (if (a0_3 == a1_3) = true then (if (a0_4 == a1_4) = true then some (decide (a0_5 < a1_5)) else some (decide (a0_4 < a1_4))) else some (decide (a0_3 < a1_3))) else some (decide (a0_2 < a1_2))) else some (decide (a0_1 < a1_1))) else some (decide (a0_0 < a1_0)))

/-! ### spec_l07Put: function 97 -/

def spec_l07Put.l0 (K : Nat) (a0 : List (Int × Int × Int × Int × Int × Int)) (a1_0 : Int) (a1_1 : Int) (a1_2 : Int) (a1_3 : Int) (a1_4 : Int) (a1_5 : Int) : Nat → Int → Option (List (Int × Int × Int × Int × Int × Int))
  | 0, _ => none
  | k12 + 1, x7 => (if decide (0 < x7) = true then ((idx a0 (wrap64 (x7 - 1))).bind fun (t20, t21, t22, t23, t24, t25) => ((spec_l07Less.f K a1_0 a1_1 a1_2 a1_3 a1_4 a1_5 t20 t21 t22 t23 t24 t25).bind fun t31 => (if t31 = true then (spec_l07Put.l0 K a0 a1_0 a1_1 a1_2 a1_3 a1_4 a1_5 k12 (wrap64 (x7 - 1))) else ((cutHi a0 x7).bind fun t40 => (if decide (t40.length ≤ 1000000) = true then ((some (t40 ++ [(a1_0, a1_1, a1_2, a1_3, a1_4, a1_5)])).bind fun t59 => ((cutLo a0 x7).bind fun t65 => (if decide (t59.length ≤ 1000000) = true then (if decide (t65.length ≤ 1000000) = true then ((some (t59 ++ t65)).bind fun t84 => some t84) else none) else none))) else none))))) else ((cutHi a0 x7).bind fun t92 => (if decide (t92.length ≤ 1000000) = true then ((some (t92 ++ [(a1_0, a1_1, a1_2, a1_3, a1_4, a1_5)])).bind fun t111 => ((cutLo a0 x7).bind fun t117 => (if decide (t111.length ≤ 1000000) = true then (if decide (t117.length ≤ 1000000) = true then ((some (t111 ++ t117)).bind fun t136 => some t136) else none) else none))) else none)))
def spec_l07Put.f (K : Nat) (a0 : List (Int × Int × Int × Int × Int × Int)) (a1_0 : Int) (a1_1 : Int) (a1_2 : Int) (a1_3 : Int) (a1_4 : Int) (a1_5 : Int) : Option (List (Int × Int × Int × Int × Int × Int)) := (spec_l07Put.l0 K a0 a1_0 a1_1 a1_2 a1_3 a1_4 a1_5 K (a0.length : Int))

/-! ### spec_l01Inverse: function 120 -/

def spec_l01Inverse.l0 (K : Nat) (a1 : Int) : Nat → Int → Int → Int → Option (Int)
  | 0, _, _, _ => none
  | k16 + 1, x9, x10, x11 => (if decide (0 < x11) = true then (if ((Int.tmod x11 2) == 1) = true then (if (a1 == 0) = true then none else (spec_l01Inverse.l0 K a1 k16 (Int.tmod (wrap64 (x9 * x10)) a1) (Int.tmod (wrap64 (x10 * x10)) a1) (wrap64 (Int.tdiv x11 2)))) else (if (a1 == 0) = true then none else (spec_l01Inverse.l0 K a1 k16 x9 (Int.tmod (wrap64 (x10 * x10)) a1) (wrap64 (Int.tdiv x11 2))))) else some x9)
def spec_l01Inverse.f (K : Nat) (a0 : Int) (a1 : Int) : Option (Int) := ((spec_l01Mod.f K a0 a1).bind fun t3 => (spec_l01Inverse.l0 K a1 K 1 t3 (wrap64 (a1 - 2))))

/-! ### spec_l07All: function 74 -/
mutual
def spec_l07All.l0 (K : Nat) (a0 : Int) (a1 : Int) (a2 : Int) : Nat → Int → List (Int × Int × Int × Int × Int × Int) → Option (List (Int × Int × Int × Int × Int × Int))
  | 0, _, _ => none
  | k19 + 1, x10, x11 => (if decide (x10 < a0) = true then (spec_l07All.l1 K a0 a1 a2 x10 k19 0 x11) else some x11)
def spec_l07All.l1 (K : Nat) (a0 : Int) (a1 : Int) (a2 : Int) (x10 : Int) : Nat → Int → List (Int × Int × Int × Int × Int × Int) → Option (List (Int × Int × Int × Int × Int × Int))
  | 0, _, _ => none
  | k38 + 1, x29, x30 => (if decide (x29 < a0) = true then (if (a1 == 0) = true then ((spec_l01Mod.f K (wrap64 ((wrap64 (-a2)) * x29)) a0).bind fun t53 => ((spec_l01Mod.f K (wrap64 (a2 * x10)) a0).bind fun t57 => ((spec_l07Good.f K a0 a1 x10 t53 x29 t57 0 0).bind fun t68 => (if t68 = true then ((spec_l07Sign.f K a0 x10 t53 x29 t57 0 0).bind fun t76 => ((spec_l01Mod.f K a2 a0).bind fun t80 => (if (t76 == t80) = true then ((spec_l07Put.f K x30 x10 t53 x29 t57 0 0).bind fun t85 => (spec_l07All.l1 K a0 a1 a2 x10 k38 (wrap64 (x29 + 1)) t85)) else (spec_l07All.l1 K a0 a1 a2 x10 k38 (wrap64 (x29 + 1)) x30)))) else (spec_l07All.l1 K a0 a1 a2 x10 k38 (wrap64 (x29 + 1)) x30))))) else (if (a1 == 2) = true then (if (x10 == 0) = true then (if (x29 == 0) = true then ((spec_l01Mod.f K x29 a0).bind fun t104 => ((spec_l01Mod.f K x10 a0).bind fun t108 => ((spec_l07Good.f K a0 a1 x10 t104 x29 t108 0 0).bind fun t119 => (if t119 = true then ((spec_l07Sign.f K a0 x10 t104 x29 t108 0 0).bind fun t127 => ((spec_l01Mod.f K a2 a0).bind fun t131 => (if (t127 == t131) = true then ((spec_l07Put.f K x30 x10 t104 x29 t108 0 0).bind fun t136 => (spec_l07All.l1 K a0 a1 a2 x10 k38 (wrap64 (x29 + 1)) t136)) else (spec_l07All.l1 K a0 a1 a2 x10 k38 (wrap64 (x29 + 1)) x30)))) else (spec_l07All.l1 K a0 a1 a2 x10 k38 (wrap64 (x29 + 1)) x30))))) else ((spec_l01Inverse.f K x29 a0).bind fun t145 => ((spec_l01Mod.f K t145 a0).bind fun t150 => ((spec_l01Mod.f K x10 a0).bind fun t154 => ((spec_l07Good.f K a0 a1 x10 t150 x29 t154 0 0).bind fun t165 => (if t165 = true then ((spec_l07Sign.f K a0 x10 t150 x29 t154 0 0).bind fun t173 => ((spec_l01Mod.f K a2 a0).bind fun t177 => (if (t173 == t177) = true then ((spec_l07Put.f K x30 x10 t150 x29 t154 0 0).bind fun t182 => (spec_l07All.l1 K a0 a1 a2 x10 k38 (wrap64 (x29 + 1)) t182)) else (spec_l07All.l1 K a0 a1 a2 x10 k38 (wrap64 (x29 + 1)) x30)))) else (spec_l07All.l1 K a0 a1 a2 x10 k38 (wrap64 (x29 + 1)) x30))))))) else ((spec_l01Inverse.f K x10 a0).bind fun t191 => (if (x29 == 0) = true then ((spec_l01Mod.f K x29 a0).bind fun t199 => ((spec_l01Mod.f K t191 a0).bind fun t203 => ((spec_l07Good.f K a0 a1 x10 t199 x29 t203 0 0).bind fun t214 => (if t214 = true then ((spec_l07Sign.f K a0 x10 t199 x29 t203 0 0).bind fun t222 => ((spec_l01Mod.f K a2 a0).bind fun t226 => (if (t222 == t226) = true then ((spec_l07Put.f K x30 x10 t199 x29 t203 0 0).bind fun t231 => (spec_l07All.l1 K a0 a1 a2 x10 k38 (wrap64 (x29 + 1)) t231)) else (spec_l07All.l1 K a0 a1 a2 x10 k38 (wrap64 (x29 + 1)) x30)))) else (spec_l07All.l1 K a0 a1 a2 x10 k38 (wrap64 (x29 + 1)) x30))))) else ((spec_l01Inverse.f K x29 a0).bind fun t240 => ((spec_l01Mod.f K t240 a0).bind fun t245 => ((spec_l01Mod.f K t191 a0).bind fun t249 => ((spec_l07Good.f K a0 a1 x10 t245 x29 t249 0 0).bind fun t260 => (if t260 = true then ((spec_l07Sign.f K a0 x10 t245 x29 t249 0 0).bind fun t268 => ((spec_l01Mod.f K a2 a0).bind fun t272 => (if (t268 == t272) = true then ((spec_l07Put.f K x30 x10 t245 x29 t249 0 0).bind fun t277 => (spec_l07All.l1 K a0 a1 a2 x10 k38 (wrap64 (x29 + 1)) t277)) else (spec_l07All.l1 K a0 a1 a2 x10 k38 (wrap64 (x29 + 1)) x30)))) else (spec_l07All.l1 K a0 a1 a2 x10 k38 (wrap64 (x29 + 1)) x30))))))))) else ((spec_l01Mod.f K (wrap64 (a2 * x29)) a0).bind fun t287 => ((spec_l01Mod.f K (wrap64 (a2 * x10)) a0).bind fun t291 => ((spec_l07Good.f K a0 a1 x10 t287 x29 t291 0 0).bind fun t302 => (if t302 = true then ((spec_l07Sign.f K a0 x10 t287 x29 t291 0 0).bind fun t310 => ((spec_l01Mod.f K a2 a0).bind fun t314 => (if (t310 == t314) = true then ((spec_l07Put.f K x30 x10 t287 x29 t291 0 0).bind fun t319 => (spec_l07All.l1 K a0 a1 a2 x10 k38 (wrap64 (x29 + 1)) t319)) else (spec_l07All.l1 K a0 a1 a2 x10 k38 (wrap64 (x29 + 1)) x30)))) else (spec_l07All.l1 K a0 a1 a2 x10 k38 (wrap64 (x29 + 1)) x30))))))) else (spec_l07All.l0 K a0 a1 a2 k38 (wrap64 (x10 + 1)) x30))
end
def spec_l07All.f (K : Nat) (a0 : Int) (a1 : Int) (a2 : Int) : Option (List (Int × Int × Int × Int × Int × Int)) := (spec_l07All.l0 K a0 a1 a2 K 0 ([] : List (Int × Int × Int × Int × Int × Int)))

/-! ### spec_CountTurns: function 30 -/
def spec_CountTurns.f (K : Nat) (a0 : Int) (a1 : Int) : Option (Int × Int) := ((spec_l03Points.f K a0 a1 ([])).bind fun t4 => (if (t4 == 0) = true then ((spec_l07All.f K a0 a1 1).bind fun t11 => some ((t11.length : Int), 0)) else some (0, t4)))

/-! ### impl_IsField: function 110 -/
def impl_IsField.f (K : Nat) (a0 : Int) : Option (Bool) := (if (a0 == 3) = true then some true else (if (a0 == 5) = true then some true else (if (a0 == 7) = true then some true else (if (a0 == 11) = true then some true else (if (a0 == 13) = true then some true else (if (a0 == 17) = true then some true else (if (a0 == 19) = true then some true else (if (a0 == 23) = true then some true else (if (a0 == 29) = true then some true else (if (a0 == 31) = true then some true else some false))))))))))

/-! ### impl_isColour: function 56 -/
def impl_isColour.f (K : Nat) (a0 : Int) : Option (Bool) := (if decide (0 ≤ a0) = true then some (decide (a0 ≤ 2)) else some false)

/-! ### impl_CountTurns_1: function 75 -/
def impl_CountTurns_1.f (K : Nat) (f0_0 : Int) : Option (Bool) := ((impl_isColour.f K f0_0).bind fun t3 => some t3)

/-! ### impl_asked__impl_CountTurns_1: function 49 -/
def impl_asked__impl_CountTurns_1.f (K : Nat) (a0 : Int) (c1_0_0 : Int) : Option (Int) := ((impl_IsField.f K a0).bind fun t4 => (if t4 = true then ((impl_CountTurns_1.f K c1_0_0).bind fun t11 => (if t11 = true then some 0 else some 2)) else some 1))

/-! ### impl_rest: function 70 -/
def impl_rest.f (K : Nat) (a0 : Int) (a1 : Int) : Option (Int) := (if (a0 == 0) = true then none else some (Int.tmod (wrap64 ((Int.tmod a1 a0) + a0)) a0))

/-! ### impl_product: function 114 -/
def impl_product.f (K : Nat) (a0 : Int) (a1 : Int) (a2_0 : Int) (a2_1 : Int) (a3_0 : Int) (a3_1 : Int) : Option (Int) := (if (a1 == 0) = true then ((impl_rest.f K a0 (wrap64 ((wrap64 (a2_0 * a3_0)) + (wrap64 (a2_1 * a3_1))))).bind fun t13 => some t13) else (if (a1 == 1) = true then ((impl_rest.f K a0 (wrap64 ((wrap64 (a2_0 * a3_0)) - (wrap64 (a2_1 * a3_1))))).bind fun t20 => some t20) else ((impl_rest.f K a0 (wrap64 ((wrap64 (a2_0 * a3_1)) + (wrap64 (a2_1 * a3_0))))).bind fun t25 => some t25)))

/-! ### impl_allPoints: function 135 -/
mutual
def impl_allPoints.l0 (K : Nat) (a0 : Int) : Nat → Int → List (Int × Int) → Option (List (Int × Int))
  | 0, _, _ => none
  | k19 + 1, x10, x11 => (if decide (x10 < a0) = true then (impl_allPoints.l1 K a0 x10 k19 0 x11) else some x11)
def impl_allPoints.l1 (K : Nat) (a0 : Int) (x10 : Int) : Nat → Int → List (Int × Int) → Option (List (Int × Int))
  | 0, _, _ => none
  | k38 + 1, x29, x30 => (if decide (x29 < a0) = true then (if decide (x30.length ≤ 1000000) = true then (impl_allPoints.l1 K a0 x10 k38 (wrap64 (x29 + 1)) (x30 ++ [(x10, x29)])) else none) else (impl_allPoints.l0 K a0 k38 (wrap64 (x10 + 1)) x30))
end
def impl_allPoints.f (K : Nat) (a0 : Int) : Option (List (Int × Int)) := (impl_allPoints.l0 K a0 K 0 ([] : List (Int × Int)))

/-! ### impl_less: function 71 -/
def impl_less.f (K : Nat) (a0 : Int) (a1_0 : Int) (a1_1 : Int) (a2_0 : Int) (a2_1 : Int) : Option (Int × Int) := ((impl_rest.f K a0 (wrap64 (a1_0 - a2_0))).bind fun t12 => ((impl_rest.f K a0 (wrap64 (a1_1 - a2_1))).bind fun t14 => some (t12, t14)))

/-! ### impl_quadrance: function 105 -/
def impl_quadrance.f (K : Nat) (a0 : Int) (a1 : Int) (a2_0 : Int) (a2_1 : Int) (a3_0 : Int) (a3_1 : Int) : Option (Int) := ((impl_less.f K a0 a2_0 a2_1 a3_0 a3_1).bind fun (t9, t10) => ((impl_product.f K a0 a1 t9 t10 t9 t10).bind fun t21 => some t21))

/-! ### impl_pointsAt_1: function 140 -/
def impl_pointsAt_1.f (K : Nat) (a0_0 : Int) (a0_1 : Int) (f0_0 : Int) (f1_0 : Int) (f2_0 : Int) (f2_1 : Int) (f3_0 : Int) : Option (Bool) := ((impl_quadrance.f K f0_0 f1_0 f2_0 f2_1 a0_0 a0_1).bind fun t6 => some (t6 == f3_0))

/-! ### impl_pointsWith__impl_pointsAt_1: function 115 -/

def impl_pointsWith__impl_pointsAt_1.l0 (K : Nat) (c1_0_0 : Int) (c1_1_0 : Int) (c1_2_0 : Int) (c1_2_1 : Int) (c1_3_0 : Int) (t8 : List (Int × Int)) : Nat → Int → List (Int × Int) → Option (List (Int × Int))
  | 0, _, _ => none
  | k28 + 1, x17, x18 => (if decide (x17 < (t8.length : Int)) = true then ((idx t8 x17).bind fun (t38, t39) => ((impl_pointsAt_1.f K t38 t39 c1_0_0 c1_1_0 c1_2_0 c1_2_1 c1_3_0).bind fun t51 => (if t51 = true then (if decide (x18.length ≤ 1000000) = true then (impl_pointsWith__impl_pointsAt_1.l0 K c1_0_0 c1_1_0 c1_2_0 c1_2_1 c1_3_0 t8 k28 (wrap64 (x17 + 1)) (x18 ++ [(t38, t39)])) else none) else (impl_pointsWith__impl_pointsAt_1.l0 K c1_0_0 c1_1_0 c1_2_0 c1_2_1 c1_3_0 t8 k28 (wrap64 (x17 + 1)) x18)))) else some x18)
def impl_pointsWith__impl_pointsAt_1.f (K : Nat) (a0 : Int) (c1_0_0 : Int) (c1_1_0 : Int) (c1_2_0 : Int) (c1_2_1 : Int) (c1_3_0 : Int) : Option (List (Int × Int)) := ((impl_allPoints.f K a0).bind fun t8 => (impl_pointsWith__impl_pointsAt_1.l0 K c1_0_0 c1_1_0 c1_2_0 c1_2_1 c1_3_0 t8 K 0 ([] : List (Int × Int))))

/-! ### impl_pointsAt: function 139 -/
def impl_pointsAt.f (K : Nat) (a0 : Int) (a1 : Int) (a2_0 : Int) (a2_1 : Int) (a3 : Int) : Option (List (Int × Int)) := ((impl_pointsWith__impl_pointsAt_1.f K a0 a0 a1 a2_0 a2_1 a3).bind fun t15 => some t15)

/-! ### impl_turned: function 72 -/
def impl_turned.f (K : Nat) (a0 : Int) (a1_0 : Int) (a1_1 : Int) (a1_2 : Int) (a1_3 : Int) (a2_0 : Int) (a2_1 : Int) : Option (Int × Int) := ((impl_rest.f K a0 (wrap64 ((wrap64 (a1_0 * a2_0)) + (wrap64 (a1_1 * a2_1))))).bind fun t12 => ((impl_rest.f K a0 (wrap64 ((wrap64 (a1_2 * a2_0)) + (wrap64 (a1_3 * a2_1))))).bind fun t14 => some (t12, t14)))

/-! ### impl_keeps: function 57 -/
def impl_keeps.f (K : Nat) (a0 : Int) (a1 : Int) (a2_0 : Int) (a2_1 : Int) (a2_2 : Int) (a2_3 : Int) : Option (Bool) := ((impl_turned.f K a0 a2_0 a2_1 a2_2 a2_3 1 0).bind fun (t22, t23) => ((impl_product.f K a0 a1 1 0 1 0).bind fun t34 => ((impl_product.f K a0 a1 t22 t23 t22 t23).bind fun t36 => (if (t34 == t36) = true then ((impl_turned.f K a0 a2_0 a2_1 a2_2 a2_3 0 1).bind fun (t58, t59) => ((impl_product.f K a0 a1 0 1 0 1).bind fun t70 => ((impl_product.f K a0 a1 t58 t59 t58 t59).bind fun t72 => (if (t70 == t72) = true then ((impl_turned.f K a0 a2_0 a2_1 a2_2 a2_3 1 1).bind fun (t96, t97) => ((impl_product.f K a0 a1 1 1 1 1).bind fun t108 => ((impl_product.f K a0 a1 t96 t97 t96 t97).bind fun t110 => (if (t108 == t110) = true then some true else some false)))) else some false)))) else some false))))

/-! ### impl_keepers: function 132 -/
mutual
def impl_keepers.l0 (K : Nat) (a0 : Int) (a1 : Int) (t7 : List (Int × Int)) (t18 : List (Int × Int)) : Nat → Int → List (Int × Int × Int × Int) → Option (List (Int × Int × Int × Int))
  | 0, _, _ => none
  | k43 + 1, x32, x33 => (if decide (x32 < (t7.length : Int)) = true then ((idx t7 x32).bind fun (t54, t55) => (impl_keepers.l1 K a0 a1 t7 t18 x32 t54 t55 k43 0 x33)) else some x33)
def impl_keepers.l1 (K : Nat) (a0 : Int) (a1 : Int) (t7 : List (Int × Int)) (t18 : List (Int × Int)) (x32 : Int) (t54 : Int) (t55 : Int) : Nat → Int → List (Int × Int × Int × Int) → Option (List (Int × Int × Int × Int))
  | 0, _, _ => none
  | k80 + 1, x67, x68 => (if decide (x67 < (t18.length : Int)) = true then ((idx t18 x67).bind fun (t92, t93) => ((impl_keeps.f K a0 a1 t54 t92 t55 t93).bind fun t112 => (if t112 = true then (if decide (x68.length ≤ 1000000) = true then (impl_keepers.l1 K a0 a1 t7 t18 x32 t54 t55 k80 (wrap64 (x67 + 1)) (x68 ++ [(t54, t92, t55, t93)])) else none) else (impl_keepers.l1 K a0 a1 t7 t18 x32 t54 t55 k80 (wrap64 (x67 + 1)) x68)))) else (impl_keepers.l0 K a0 a1 t7 t18 k80 (wrap64 (x32 + 1)) x68))
end
def impl_keepers.f (K : Nat) (a0 : Int) (a1 : Int) : Option (List (Int × Int × Int × Int)) := ((impl_product.f K a0 a1 1 0 1 0).bind fun t3 => ((impl_pointsAt.f K a0 a1 0 0 t3).bind fun t7 => ((impl_product.f K a0 a1 0 1 0 1).bind fun t14 => ((impl_pointsAt.f K a0 a1 0 0 t14).bind fun t18 => (impl_keepers.l0 K a0 a1 t7 t18 K 0 ([] : List (Int × Int × Int × Int)))))))

/-! ### impl_sign: function 69 -/
def impl_sign.f (K : Nat) (a0 : Int) (a1_0 : Int) (a1_1 : Int) (a1_2 : Int) (a1_3 : Int) : Option (Int) := ((impl_rest.f K a0 (wrap64 ((wrap64 (a1_0 * a1_3)) - (wrap64 (a1_1 * a1_2))))).bind fun t6 => some t6)

/-! ### impl_turnsAbout_1: function 121 -/
def impl_turnsAbout_1.f (K : Nat) (a0_0 : Int) (a0_1 : Int) (a0_2 : Int) (a0_3 : Int) (f0_0 : Int) : Option (Bool) := ((impl_sign.f K f0_0 a0_0 a0_1 a0_2 a0_3).bind fun t6 => some (t6 == 1))

/-! ### impl_before: function 133 -/

def impl_before.l0 (K : Nat) (a0 : List (Int)) (a1 : List (Int)) : Nat → Int → Option (Bool)
  | 0, _ => none
  | k9 + 1, x4 => (if decide (x4 < (a0.length : Int)) = true then ((idx a0 x4).bind fun t20 => ((idx a1 x4).bind fun t26 => (if (t20 == t26) = true then (impl_before.l0 K a0 a1 k9 (wrap64 (x4 + 1))) else ((idx a0 x4).bind fun t37 => ((idx a1 x4).bind fun t43 => some (decide (t37 < t43))))))) else some false)
def impl_before.f (K : Nat) (a0 : List (Int)) (a1 : List (Int)) : Option (Bool) := (impl_before.l0 K a0 a1 K 0)

/-! ### impl_movesWith__impl_turnsAbout_1: function 106 -/
mutual
def impl_movesWith__impl_turnsAbout_1.l0 (K : Nat) (a0 : Int) (a2_0 : Int) (a2_1 : Int) (a3_0 : Int) (a3_1 : Int) (c4_0_0 : Int) (t14 : List (Int × Int × Int × Int)) : Nat → Int → List (Int × Int × Int × Int × Int × Int) → Option (List (Int × Int × Int × Int × Int × Int))
  | 0, _, _ => none
  | k36 + 1, x23, x24 => (if decide (x23 < (t14.length : Int)) = true then ((idx t14 x23).bind fun (t47, t48, t49, t50) => ((impl_turnsAbout_1.f K t47 t48 t49 t50 c4_0_0).bind fun t62 => (if t62 = true then ((impl_turned.f K a0 t47 t48 t49 t50 a2_0 a2_1).bind fun (t73, t74) => ((impl_less.f K a0 a3_0 a3_1 t73 t74).bind fun (t76, t77) => (if decide (x24.length ≤ 1000000) = true then (impl_movesWith__impl_turnsAbout_1.l0 K a0 a2_0 a2_1 a3_0 a3_1 c4_0_0 t14 k36 (wrap64 (x23 + 1)) (x24 ++ [(t47, t48, t49, t50, t76, t77)])) else none))) else (impl_movesWith__impl_turnsAbout_1.l0 K a0 a2_0 a2_1 a3_0 a3_1 c4_0_0 t14 k36 (wrap64 (x23 + 1)) x24)))) else (impl_movesWith__impl_turnsAbout_1.l1 K x24 k36 0 x24))
def impl_movesWith__impl_turnsAbout_1.l1 (K : Nat) (x24 : List (Int × Int × Int × Int × Int × Int)) : Nat → Int → List (Int × Int × Int × Int × Int × Int) → Option (List (Int × Int × Int × Int × Int × Int))
  | 0, _, _ => none
  | k112 + 1, x100, x101 => (if decide (x100 < (x24.length : Int)) = true then (impl_movesWith__impl_turnsAbout_1.l2 K x24 x100 k112 x100 x101) else some x101)
def impl_movesWith__impl_turnsAbout_1.l2 (K : Nat) (x24 : List (Int × Int × Int × Int × Int × Int)) (x100 : Int) : Nat → Int → List (Int × Int × Int × Int × Int × Int) → Option (List (Int × Int × Int × Int × Int × Int))
  | 0, _, _ => none
  | k136 + 1, x124, x125 => (if decide (0 < x124) = true then ((idx x125 x124).bind fun (t144, t145, t146, t147, t148, t149) => ((idx x125 (wrap64 (x124 - 1))).bind fun (t157, t158, t159, t160, t161, t162) => ((impl_before.f K ([t144, t145, t146, t147]) ([t157, t158, t159, t160])).bind fun t170 => (if t170 = true then ((idx x125 (wrap64 (x124 - 1))).bind fun (t177, t178, t179, t180, t181, t182) => ((idx x125 x124).bind fun (t188, t189, t190, t191, t192, t193) => ((idx x125 x124).bind fun (t199, t200, t201, t202, t203, t204) => ((idx (x125.set (x124).toNat (t177, t178, t179, t180, t181, t182)) (wrap64 (x124 - 1))).bind fun (t219, t220, t221, t222, t223, t224) => (impl_movesWith__impl_turnsAbout_1.l2 K x24 x100 k136 (wrap64 (x124 - 1)) ((x125.set (x124).toNat (t177, t178, t179, t180, t181, t182)).set (wrap64 (x124 - 1)).toNat (t188, t189, t190, t191, t192, t193))))))) else (impl_movesWith__impl_turnsAbout_1.l1 K x24 k136 (wrap64 (x100 + 1)) x125))))) else (impl_movesWith__impl_turnsAbout_1.l1 K x24 k136 (wrap64 (x100 + 1)) x125))
end
def impl_movesWith__impl_turnsAbout_1.f (K : Nat) (a0 : Int) (a1 : Int) (a2_0 : Int) (a2_1 : Int) (a3_0 : Int) (a3_1 : Int) (c4_0_0 : Int) : Option (List (Int × Int × Int × Int × Int × Int)) := ((impl_keepers.f K a0 a1).bind fun t14 => (impl_movesWith__impl_turnsAbout_1.l0 K a0 a2_0 a2_1 a3_0 a3_1 c4_0_0 t14 K 0 ([] : List (Int × Int × Int × Int × Int × Int))))

/-! ### impl_turnsAbout: function 76 -/
def impl_turnsAbout.f (K : Nat) (a0 : Int) (a1 : Int) (a2_0 : Int) (a2_1 : Int) : Option (List (Int × Int × Int × Int × Int × Int)) := ((impl_movesWith__impl_turnsAbout_1.f K a0 a1 a2_0 a2_1 a2_0 a2_1 a0).bind fun t9 => some t9)

/-! ### impl_CountTurns: function 31 -/
def impl_CountTurns.f (K : Nat) (a0 : Int) (a1 : Int) : Option (Int × Int) := ((impl_asked__impl_CountTurns_1.f K a0 a1).bind fun t7 => (if (t7 == 0) = true then ((impl_turnsAbout.f K a0 a1 0 0).bind fun t14 => some ((t14.length : Int), 0)) else some (0, t7)))

/-! ### laws_FnExactCountTurns: function 8 -/
def laws_FnExactCountTurns.f (K : Nat) (a0 : Int) (a1 : Int) : Option (Bool) := ((spec_CountTurns.f K a0 a1).bind fun (t3, t4) => ((impl_CountTurns.f K a0 a1).bind fun (t9, t10) => (if (t9 == t3) = true then (if (t10 == t4) = true then some true else some false) else some false)))

/-! ### laws_toPoint: function 15 -/
def laws_toPoint.f (K : Nat) (a0_0 : Int) (a0_1 : Int) : Option (Int × Int) := some (a0_0, a0_1)

/-! ### spec_l01Minus: function 101 -/
def spec_l01Minus.f (K : Nat) (a0 : Int) (a1_0 : Int) (a1_1 : Int) (a2_0 : Int) (a2_1 : Int) : Option (Int × Int) := ((spec_l01Mod.f K (wrap64 (a1_0 - a2_0)) a0).bind fun t12 => ((spec_l01Mod.f K (wrap64 (a1_1 - a2_1)) a0).bind fun t14 => some (t12, t14)))

/-! ### spec_l07About: function 98 -/
def spec_l07About.f (K : Nat) (a0 : Int) (a1_0 : Int) (a1_1 : Int) (a1_2 : Int) (a1_3 : Int) (a1_4 : Int) (a1_5 : Int) (a2_0 : Int) (a2_1 : Int) : Option (Int × Int × Int × Int × Int × Int) := ((spec_l07Lead.f K a0 a1_0 a1_1 a1_2 a1_3 a1_4 a1_5 a2_0 a2_1).bind fun (t12, t13) => ((spec_l01Minus.f K a0 a2_0 a2_1 t12 t13).bind fun (t15, t16) => some (a1_0, a1_1, a1_2, a1_3, t15, t16)))

/-! ### spec_TurnsAbout: function 38 -/

def spec_TurnsAbout.l0 (K : Nat) (a0 : Int) (a2_0 : Int) (a2_1 : Int) (t17 : List (Int × Int × Int × Int × Int × Int)) : Nat → Int → List (Int × Int × Int × Int × Int × Int) → Option (List (Int × Int × Int × Int × Int × Int) × Int)
  | 0, _, _ => none
  | k42 + 1, x30, x31 => (if decide (x30 < (t17.length : Int)) = true then ((idx t17 x30).bind fun (t53, t54, t55, t56, t57, t58) => ((spec_l07About.f K a0 t53 t54 t55 t56 t57 t58 a2_0 a2_1).bind fun (t64, t65, t66, t67, t68, t69) => ((spec_l07Put.f K x31 t64 t65 t66 t67 t68 t69).bind fun t71 => (spec_TurnsAbout.l0 K a0 a2_0 a2_1 t17 k42 (wrap64 (x30 + 1)) t71)))) else some (x31, 0))
def spec_TurnsAbout.f (K : Nat) (a0 : Int) (a1 : Int) (a2_0 : Int) (a2_1 : Int) : Option (List (Int × Int × Int × Int × Int × Int) × Int) := ((spec_l03Points.f K a0 a1 ([(a2_0, a2_1)])).bind fun t10 => (if (t10 == 0) = true then ((spec_l07All.f K a0 a1 1).bind fun t17 => (spec_TurnsAbout.l0 K a0 a2_0 a2_1 t17 K 0 ([] : List (Int × Int × Int × Int × Int × Int)))) else some ([], t10)))

/-! ### impl_isNumber: function 134 -/
def impl_isNumber.f (K : Nat) (a0 : Int) (a1 : Int) : Option (Bool) := (if decide (0 ≤ a1) = true then some (decide (a1 < a0)) else some false)

/-! ### impl_areNumbers: function 111 -/

def impl_areNumbers.l0 (K : Nat) (a0 : Int) (a1 : List (Int)) : Nat → Int → Option (Bool)
  | 0, _ => none
  | k9 + 1, x4 => (if decide (x4 < (a1.length : Int)) = true then ((idx a1 x4).bind fun t19 => ((impl_isNumber.f K a0 t19).bind fun t25 => (if t25 = true then (impl_areNumbers.l0 K a0 a1 k9 (wrap64 (x4 + 1))) else some false))) else some true)
def impl_areNumbers.f (K : Nat) (a0 : Int) (a1 : List (Int)) : Option (Bool) := (impl_areNumbers.l0 K a0 a1 K 0)

/-! ### impl_isPoint: function 52 -/
def impl_isPoint.f (K : Nat) (a0 : Int) (a1_0 : Int) (a1_1 : Int) : Option (Bool) := ((impl_areNumbers.f K a0 ([a1_0, a1_1])).bind fun t6 => some t6)

/-! ### impl_TurnsAbout_1: function 99 -/
def impl_TurnsAbout_1.f (K : Nat) (f0_0 : Int) (f1_0 : Int) (f2_0 : Int) (f2_1 : Int) : Option (Bool) := ((impl_isColour.f K f0_0).bind fun t3 => (if t3 = true then ((impl_isPoint.f K f1_0 f2_0 f2_1).bind fun t8 => some t8) else some false))

/-! ### impl_asked__impl_TurnsAbout_1: function 49 -/
def impl_asked__impl_TurnsAbout_1.f (K : Nat) (a0 : Int) (c1_0_0 : Int) (c1_1_0 : Int) (c1_2_0 : Int) (c1_2_1 : Int) : Option (Int) := ((impl_IsField.f K a0).bind fun t4 => (if t4 = true then ((impl_TurnsAbout_1.f K c1_0_0 c1_1_0 c1_2_0 c1_2_1).bind fun t11 => (if t11 = true then some 0 else some 2)) else some 1))

/-! ### impl_TurnsAbout: function 39 -/
def impl_TurnsAbout.f (K : Nat) (a0 : Int) (a1 : Int) (a2_0 : Int) (a2_1 : Int) : Option (List (Int × Int × Int × Int × Int × Int) × Int) := ((impl_asked__impl_TurnsAbout_1.f K a0 a1 a0 a2_0 a2_1).bind fun t13 => (if (t13 == 0) = true then ((impl_turnsAbout.f K a0 a1 a2_0 a2_1).bind fun t21 => some (t21, 0)) else some ([], t13)))

/-! ### laws_eqInt64A4: function 61 -/
def laws_eqInt64A4.f (K : Nat) (a0_0 : Int) (a0_1 : Int) (a0_2 : Int) (a0_3 : Int) (a1_0 : Int) (a1_1 : Int) (a1_2 : Int) (a1_3 : Int) : Option (Bool) := (if (a0_0 == a1_0) = true then (if (a0_1 == a1_1) = true then (if (a0_2 == a1_2) = true then (if (a0_3 == a1_3) = true then some true else some false) else some false) else some false) else some false)

/-! ### laws_eqPoint: function 17 -/
def laws_eqPoint.f (K : Nat) (a0_0 : Int) (a0_1 : Int) (a1_0 : Int) (a1_1 : Int) : Option (Bool) := (if (a0_0 == a1_0) = true then (if (a0_1 == a1_1) = true then some true else some false) else some false)

/-! ### laws_eqMove: function 22 -/
def laws_eqMove.f (K : Nat) (a0_0 : Int) (a0_1 : Int) (a0_2 : Int) (a0_3 : Int) (a0_4 : Int) (a0_5 : Int) (a1_0 : Int) (a1_1 : Int) (a1_2 : Int) (a1_3 : Int) (a1_4 : Int) (a1_5 : Int) : Option (Bool) := ((laws_eqInt64A4.f K a0_0 a0_1 a0_2 a0_3 a1_0 a1_1 a1_2 a1_3).bind fun t10 => (if t10 = true then ((laws_eqPoint.f K a0_4 a0_5 a1_4 a1_5).bind fun t17 => (if t17 = true then some true else some false)) else some false))

/-! ### laws_eqMoveS: function 40 -/

def laws_eqMoveS.l0 (K : Nat) (a0 : List (Int × Int × Int × Int × Int × Int)) (a1 : List (Int × Int × Int × Int × Int × Int)) : Nat → Int → Option (Bool)
  | 0, _ => none
  | k12 + 1, x7 => (if decide (x7 < (a0.length : Int)) = true then ((idx a0 x7).bind fun (t22, t23, t24, t25, t26, t27) => ((idx a1 x7).bind fun (t33, t34, t35, t36, t37, t38) => ((laws_eqMove.f K t22 t23 t24 t25 t26 t27 t33 t34 t35 t36 t37 t38).bind fun t44 => (if t44 = true then (laws_eqMoveS.l0 K a0 a1 k12 (wrap64 (x7 + 1))) else some false)))) else some true)
def laws_eqMoveS.f (K : Nat) (a0 : List (Int × Int × Int × Int × Int × Int)) (a1 : List (Int × Int × Int × Int × Int × Int)) : Option (Bool) := (if ((a0.length : Int) == (a1.length : Int)) = true then (laws_eqMoveS.l0 K a0 a1 K 0) else some false)

/-! ### laws_markMoveS: function 41 -/

def laws_markMoveS.l0 (K : Nat) (a0 : List (Int × Int × Int × Int × Int × Int)) : Nat → Int → Int → List (Int × Int × Int × Int × Int × Int) → Option (Int × List (Int × Int × Int × Int × Int × Int))
  | 0, _, _, _ => none
  | k13 + 1, x4, x5, x6 => (if decide (x5 < (a0.length : Int)) = true then ((idx x6 x5).bind fun (t29, t30, t31, t32, t33, t34) => ((idx (x6.set (x5).toNat (x4, t30, t31, t32, t33, t34)) x5).bind fun (t50, t51, t52, t53, t54, t55) => ((idx ((x6.set (x5).toNat (x4, t30, t31, t32, t33, t34)).set (x5).toNat (t50, wrap64 (x4 + 1), t52, t53, t54, t55)) x5).bind fun (t71, t72, t73, t74, t75, t76) => ((idx (((x6.set (x5).toNat (x4, t30, t31, t32, t33, t34)).set (x5).toNat (t50, wrap64 (x4 + 1), t52, t53, t54, t55)).set (x5).toNat (t71, t72, wrap64 ((wrap64 (x4 + 1)) + 1), t74, t75, t76)) x5).bind fun (t92, t93, t94, t95, t96, t97) => ((idx ((((x6.set (x5).toNat (x4, t30, t31, t32, t33, t34)).set (x5).toNat (t50, wrap64 (x4 + 1), t52, t53, t54, t55)).set (x5).toNat (t71, t72, wrap64 ((wrap64 (x4 + 1)) + 1), t74, t75, t76)).set (x5).toNat (t92, t93, t94, wrap64 ((wrap64 ((wrap64 (x4 + 1)) + 1)) + 1), t96, t97)) x5).bind fun (t117, t118, t119, t120, t121, t122) => ((idx (((((x6.set (x5).toNat (x4, t30, t31, t32, t33, t34)).set (x5).toNat (t50, wrap64 (x4 + 1), t52, t53, t54, t55)).set (x5).toNat (t71, t72, wrap64 ((wrap64 (x4 + 1)) + 1), t74, t75, t76)).set (x5).toNat (t92, t93, t94, wrap64 ((wrap64 ((wrap64 (x4 + 1)) + 1)) + 1), t96, t97)).set (x5).toNat (t117, t118, t119, t120, wrap64 ((wrap64 ((wrap64 ((wrap64 (x4 + 1)) + 1)) + 1)) + 1), t122)) x5).bind fun (t138, t139, t140, t141, t142, t143) => (laws_markMoveS.l0 K a0 k13 (wrap64 ((wrap64 ((wrap64 ((wrap64 ((wrap64 ((wrap64 (x4 + 1)) + 1)) + 1)) + 1)) + 1)) + 1)) (wrap64 (x5 + 1)) ((((((x6.set (x5).toNat (x4, t30, t31, t32, t33, t34)).set (x5).toNat (t50, wrap64 (x4 + 1), t52, t53, t54, t55)).set (x5).toNat (t71, t72, wrap64 ((wrap64 (x4 + 1)) + 1), t74, t75, t76)).set (x5).toNat (t92, t93, t94, wrap64 ((wrap64 ((wrap64 (x4 + 1)) + 1)) + 1), t96, t97)).set (x5).toNat (t117, t118, t119, t120, wrap64 ((wrap64 ((wrap64 ((wrap64 (x4 + 1)) + 1)) + 1)) + 1), t122)).set (x5).toNat (t138, t139, t140, t141, t142, wrap64 ((wrap64 ((wrap64 ((wrap64 ((wrap64 (x4 + 1)) + 1)) + 1)) + 1)) + 1)))))))))) else some (x4, x6))
def laws_markMoveS.f (K : Nat) (a0 : List (Int × Int × Int × Int × Int × Int)) (a1 : Int) : Option (Int × List (Int × Int × Int × Int × Int × Int)) := (laws_markMoveS.l0 K a0 K a1 0 a0)

/-! ### laws_heldMoveS: function 42 -/

def laws_heldMoveS.l0 (K : Nat) (a0 : List (Int × Int × Int × Int × Int × Int)) : Nat → Int → Int → Option (Int)
  | 0, _, _ => none
  | k10 + 1, x4, x5 => (if decide (x5 < (a0.length : Int)) = true then ((idx a0 x5).bind fun (t27, t28, t29, t30, t31, t32) => (if (t27 == x4) = true then ((idx a0 x5).bind fun (t44, t45, t46, t47, t48, t49) => (if (t45 == (wrap64 (x4 + 1))) = true then ((idx a0 x5).bind fun (t61, t62, t63, t64, t65, t66) => (if (t63 == (wrap64 ((wrap64 (x4 + 1)) + 1))) = true then ((idx a0 x5).bind fun (t78, t79, t80, t81, t82, t83) => (if (t81 == (wrap64 ((wrap64 ((wrap64 (x4 + 1)) + 1)) + 1))) = true then ((idx a0 x5).bind fun (t99, t100, t101, t102, t103, t104) => (if (t103 == (wrap64 ((wrap64 ((wrap64 ((wrap64 (x4 + 1)) + 1)) + 1)) + 1))) = true then ((idx a0 x5).bind fun (t116, t117, t118, t119, t120, t121) => (if (t121 == (wrap64 ((wrap64 ((wrap64 ((wrap64 ((wrap64 (x4 + 1)) + 1)) + 1)) + 1)) + 1))) = true then (laws_heldMoveS.l0 K a0 k10 (wrap64 ((wrap64 ((wrap64 ((wrap64 ((wrap64 ((wrap64 (x4 + 1)) + 1)) + 1)) + 1)) + 1)) + 1)) (wrap64 (x5 + 1))) else some (-1))) else some (-1))) else some (-1))) else some (-1))) else some (-1))) else some (-1))) else some x4)
def laws_heldMoveS.f (K : Nat) (a0 : List (Int × Int × Int × Int × Int × Int)) (a1 : Int) : Option (Int) := (laws_heldMoveS.l0 K a0 K a1 0)

/-! ### laws_FnExactTurnsAbout: function 11 -/
def laws_FnExactTurnsAbout.f (K : Nat) (a0 : Int) (a1 : Int) (a2_0 : Int) (a2_1 : Int) : Option (Bool) := ((laws_toPoint.f K a2_0 a2_1).bind fun (t6, t7) => ((spec_TurnsAbout.f K a0 a1 t6 t7).bind fun (t11, t14) => ((laws_toPoint.f K a2_0 a2_1).bind fun (t19, t20) => ((impl_TurnsAbout.f K a0 a1 t19 t20).bind fun (t24, t27) => ((laws_eqMoveS.f K t24 t11).bind fun t33 => (if t33 = true then (if (t27 == t14) = true then ((laws_markMoveS.f K t24 1).bind fun (t44, t45) => ((laws_heldMoveS.f K t45 1).bind fun t56 => (if decide (t56 < 0) = true then some false else (if (t56 == t44) = true then ((laws_toPoint.f K a2_0 a2_1).bind fun (t69, t70) => ((impl_TurnsAbout.f K a0 a1 t69 t70).bind fun (t74, t77) => ((laws_eqMoveS.f K t74 t11).bind fun t83 => (if t83 = true then (if (t77 == t14) = true then ((laws_heldMoveS.f K t45 1).bind fun t93 => (if decide (t93 < 0) = true then some false else (if (t93 == t44) = true then some true else some false))) else some false) else some false)))) else some false)))) else some false) else some false))))))

/-! ### spec_l02Quadrance: function 100 -/
def spec_l02Quadrance.f (K : Nat) (a0 : Int) (a1 : Int) (a2_0 : Int) (a2_1 : Int) (a3_0 : Int) (a3_1 : Int) : Option (Int) := ((spec_l01Minus.f K a0 a3_0 a3_1 a2_0 a2_1).bind fun (t9, t10) => ((spec_l02Product.f K a0 a1 t9 t10 t9 t10).bind fun t21 => some t21))

/-! ### spec_l01Plus: function 109 -/
def spec_l01Plus.f (K : Nat) (a0 : Int) (a1_0 : Int) (a1_1 : Int) (a2_0 : Int) (a2_1 : Int) : Option (Int × Int) := ((spec_l01Mod.f K (wrap64 (a1_0 + a2_0)) a0).bind fun t12 => ((spec_l01Mod.f K (wrap64 (a1_1 + a2_1)) a0).bind fun t14 => some (t12, t14)))

/-! ### spec_l07Move: function 47 -/
def spec_l07Move.f (K : Nat) (a0 : Int) (a1_0 : Int) (a1_1 : Int) (a1_2 : Int) (a1_3 : Int) (a1_4 : Int) (a1_5 : Int) (a2_0 : Int) (a2_1 : Int) : Option (Int × Int) := ((spec_l07Lead.f K a0 a1_0 a1_1 a1_2 a1_3 a1_4 a1_5 a2_0 a2_1).bind fun (t12, t13) => ((spec_l01Plus.f K a0 t12 t13 a1_4 a1_5).bind fun (t15, t16) => some (t15, t16)))

/-! ### spec_MovesBetween: function 43 -/
mutual
def spec_MovesBetween.l0 (K : Nat) (a0 : Int) (a1 : Int) (a2_0 : Int) (a2_1 : Int) (a3_0 : Int) (a3_1 : Int) (a4_0 : Int) (a4_1 : Int) (a5_0 : Int) (a5_1 : Int) (t61 : List (Int × Int × Int × Int × Int × Int)) : Nat → Int → List (Int × Int × Int × Int × Int × Int) → Option (List (Int × Int × Int × Int × Int × Int) × Int)
  | 0, _, _ => none
  | k87 + 1, x71, x72 => (if decide (x71 < (t61.length : Int)) = true then ((idx t61 x71).bind fun (t99, t100, t101, t102, t103, t104) => ((spec_l07Lead.f K a0 t99 t100 t101 t102 t103 t104 a2_0 a2_1).bind fun (t116, t117) => ((spec_l01Minus.f K a0 a4_0 a4_1 t116 t117).bind fun (t119, t120) => ((spec_l07Move.f K a0 t99 t100 t101 t102 t119 t120 a3_0 a3_1).bind fun (t128, t129) => (if (t128 == a5_0 && t129 == a5_1) = true then ((spec_l07Put.f K x72 t99 t100 t101 t102 t119 t120).bind fun t143 => (spec_MovesBetween.l0 K a0 a1 a2_0 a2_1 a3_0 a3_1 a4_0 a4_1 a5_0 a5_1 t61 k87 (wrap64 (x71 + 1)) t143)) else (spec_MovesBetween.l0 K a0 a1 a2_0 a2_1 a3_0 a3_1 a4_0 a4_1 a5_0 a5_1 t61 k87 (wrap64 (x71 + 1)) x72)))))) else ((spec_l07All.f K a0 a1 1).bind fun t156 => (spec_MovesBetween.l1 K a0 a2_0 a2_1 a3_0 a3_1 a4_0 a4_1 a5_0 a5_1 t156 k87 0 x72)))
def spec_MovesBetween.l1 (K : Nat) (a0 : Int) (a2_0 : Int) (a2_1 : Int) (a3_0 : Int) (a3_1 : Int) (a4_0 : Int) (a4_1 : Int) (a5_0 : Int) (a5_1 : Int) (t156 : List (Int × Int × Int × Int × Int × Int)) : Nat → Int → List (Int × Int × Int × Int × Int × Int) → Option (List (Int × Int × Int × Int × Int × Int) × Int)
  | 0, _, _ => none
  | k181 + 1, x163, x164 => (if decide (x163 < (t156.length : Int)) = true then ((idx t156 x163).bind fun (t193, t194, t195, t196, t197, t198) => ((spec_l07Lead.f K a0 t193 t194 t195 t196 t197 t198 a2_0 a2_1).bind fun (t210, t211) => ((spec_l01Minus.f K a0 a4_0 a4_1 t210 t211).bind fun (t213, t214) => ((spec_l07Move.f K a0 t193 t194 t195 t196 t213 t214 a3_0 a3_1).bind fun (t222, t223) => (if (t222 == a5_0 && t223 == a5_1) = true then ((spec_l07Put.f K x164 t193 t194 t195 t196 t213 t214).bind fun t237 => (spec_MovesBetween.l1 K a0 a2_0 a2_1 a3_0 a3_1 a4_0 a4_1 a5_0 a5_1 t156 k181 (wrap64 (x163 + 1)) t237)) else (spec_MovesBetween.l1 K a0 a2_0 a2_1 a3_0 a3_1 a4_0 a4_1 a5_0 a5_1 t156 k181 (wrap64 (x163 + 1)) x164)))))) else some (x164, 0))
end
def spec_MovesBetween.f (K : Nat) (a0 : Int) (a1 : Int) (a2_0 : Int) (a2_1 : Int) (a3_0 : Int) (a3_1 : Int) (a4_0 : Int) (a4_1 : Int) (a5_0 : Int) (a5_1 : Int) : Option (List (Int × Int × Int × Int × Int × Int) × Int) := ((spec_l03Points.f K a0 a1 ([(a2_0, a2_1), (a3_0, a3_1), (a4_0, a4_1), (a5_0, a5_1)])).bind fun t18 => (if (t18 == 0) = true then ((spec_l02Quadrance.f K a0 a1 a2_0 a2_1 a3_0 a3_1).bind fun t30 => (if (t30 == 0) = true then some ([], 5) else ((spec_l02Quadrance.f K a0 a1 a4_0 a4_1 a5_0 a5_1).bind fun t42 => (if (t30 == t42) = true then ((spec_l07All.f K a0 a1 (-1)).bind fun t61 => (spec_MovesBetween.l0 K a0 a1 a2_0 a2_1 a3_0 a3_1 a4_0 a4_1 a5_0 a5_1 t61 K 0 ([] : List (Int × Int × Int × Int × Int × Int)))) else some ([], 5))))) else some ([], t18)))

/-! ### impl_arePoints: function 104 -/

def impl_arePoints.l0 (K : Nat) (a0 : Int) (a1 : List (Int × Int)) : Nat → Int → Option (Bool)
  | 0, _ => none
  | k9 + 1, x4 => (if decide (x4 < (a1.length : Int)) = true then ((idx a1 x4).bind fun (t19, t20) => ((impl_isPoint.f K a0 t19 t20).bind fun t32 => (if t32 = true then (impl_arePoints.l0 K a0 a1 k9 (wrap64 (x4 + 1))) else some false))) else some true)
def impl_arePoints.f (K : Nat) (a0 : Int) (a1 : List (Int × Int)) : Option (Bool) := (impl_arePoints.l0 K a0 a1 K 0)

/-! ### impl_MovesBetween_1: function 103 -/
def impl_MovesBetween_1.f (K : Nat) (f0_0 : Int) (f1_0 : Int) (f2_0 : Int) (f2_1 : Int) (f3_0 : Int) (f3_1 : Int) (f4_0 : Int) (f4_1 : Int) (f5_0 : Int) (f5_1 : Int) : Option (Bool) := ((impl_isColour.f K f0_0).bind fun t3 => (if t3 = true then ((impl_arePoints.f K f1_0 ([(f2_0, f2_1), (f3_0, f3_1), (f4_0, f4_1), (f5_0, f5_1)])).bind fun t11 => some t11) else some false))

/-! ### impl_asked__impl_MovesBetween_1: function 49 -/
def impl_asked__impl_MovesBetween_1.f (K : Nat) (a0 : Int) (c1_0_0 : Int) (c1_1_0 : Int) (c1_2_0 : Int) (c1_2_1 : Int) (c1_3_0 : Int) (c1_3_1 : Int) (c1_4_0 : Int) (c1_4_1 : Int) (c1_5_0 : Int) (c1_5_1 : Int) : Option (Int) := ((impl_IsField.f K a0).bind fun t4 => (if t4 = true then ((impl_MovesBetween_1.f K c1_0_0 c1_1_0 c1_2_0 c1_2_1 c1_3_0 c1_3_1 c1_4_0 c1_4_1 c1_5_0 c1_5_1).bind fun t11 => (if t11 = true then some 0 else some 2)) else some 1))

/-! ### impl_MovesBetween_2: function 107 -/
def impl_MovesBetween_2.f (K : Nat) (a0_0 : Int) (a0_1 : Int) (a0_2 : Int) (a0_3 : Int) (f0_0 : Int) (f1_0 : Int) (f1_1 : Int) (f2_0 : Int) (f2_1 : Int) : Option (Bool) := ((impl_turned.f K f0_0 a0_0 a0_1 a0_2 a0_3 f1_0 f1_1).bind fun (t6, t7) => some (t6 == f2_0 && t7 == f2_1))

/-! ### impl_movesWith__impl_MovesBetween_2: function 106 -/
mutual
def impl_movesWith__impl_MovesBetween_2.l0 (K : Nat) (a0 : Int) (a2_0 : Int) (a2_1 : Int) (a3_0 : Int) (a3_1 : Int) (c4_0_0 : Int) (c4_1_0 : Int) (c4_1_1 : Int) (c4_2_0 : Int) (c4_2_1 : Int) (t14 : List (Int × Int × Int × Int)) : Nat → Int → List (Int × Int × Int × Int × Int × Int) → Option (List (Int × Int × Int × Int × Int × Int))
  | 0, _, _ => none
  | k36 + 1, x23, x24 => (if decide (x23 < (t14.length : Int)) = true then ((idx t14 x23).bind fun (t47, t48, t49, t50) => ((impl_MovesBetween_2.f K t47 t48 t49 t50 c4_0_0 c4_1_0 c4_1_1 c4_2_0 c4_2_1).bind fun t62 => (if t62 = true then ((impl_turned.f K a0 t47 t48 t49 t50 a2_0 a2_1).bind fun (t73, t74) => ((impl_less.f K a0 a3_0 a3_1 t73 t74).bind fun (t76, t77) => (if decide (x24.length ≤ 1000000) = true then (impl_movesWith__impl_MovesBetween_2.l0 K a0 a2_0 a2_1 a3_0 a3_1 c4_0_0 c4_1_0 c4_1_1 c4_2_0 c4_2_1 t14 k36 (wrap64 (x23 + 1)) (x24 ++ [(t47, t48, t49, t50, t76, t77)])) else none))) else (impl_movesWith__impl_MovesBetween_2.l0 K a0 a2_0 a2_1 a3_0 a3_1 c4_0_0 c4_1_0 c4_1_1 c4_2_0 c4_2_1 t14 k36 (wrap64 (x23 + 1)) x24)))) else (impl_movesWith__impl_MovesBetween_2.l1 K x24 k36 0 x24))
def impl_movesWith__impl_MovesBetween_2.l1 (K : Nat) (x24 : List (Int × Int × Int × Int × Int × Int)) : Nat → Int → List (Int × Int × Int × Int × Int × Int) → Option (List (Int × Int × Int × Int × Int × Int))
  | 0, _, _ => none
  | k112 + 1, x100, x101 => (if decide (x100 < (x24.length : Int)) = true then (impl_movesWith__impl_MovesBetween_2.l2 K x24 x100 k112 x100 x101) else some x101)
def impl_movesWith__impl_MovesBetween_2.l2 (K : Nat) (x24 : List (Int × Int × Int × Int × Int × Int)) (x100 : Int) : Nat → Int → List (Int × Int × Int × Int × Int × Int) → Option (List (Int × Int × Int × Int × Int × Int))
  | 0, _, _ => none
  | k136 + 1, x124, x125 => (if decide (0 < x124) = true then ((idx x125 x124).bind fun (t144, t145, t146, t147, t148, t149) => ((idx x125 (wrap64 (x124 - 1))).bind fun (t157, t158, t159, t160, t161, t162) => ((impl_before.f K ([t144, t145, t146, t147]) ([t157, t158, t159, t160])).bind fun t170 => (if t170 = true then ((idx x125 (wrap64 (x124 - 1))).bind fun (t177, t178, t179, t180, t181, t182) => ((idx x125 x124).bind fun (t188, t189, t190, t191, t192, t193) => ((idx x125 x124).bind fun (t199, t200, t201, t202, t203, t204) => ((idx (x125.set (x124).toNat (t177, t178, t179, t180, t181, t182)) (wrap64 (x124 - 1))).bind fun (t219, t220, t221, t222, t223, t224) => (impl_movesWith__impl_MovesBetween_2.l2 K x24 x100 k136 (wrap64 (x124 - 1)) ((x125.set (x124).toNat (t177, t178, t179, t180, t181, t182)).set (wrap64 (x124 - 1)).toNat (t188, t189, t190, t191, t192, t193))))))) else (impl_movesWith__impl_MovesBetween_2.l1 K x24 k136 (wrap64 (x100 + 1)) x125))))) else (impl_movesWith__impl_MovesBetween_2.l1 K x24 k136 (wrap64 (x100 + 1)) x125))
end
def impl_movesWith__impl_MovesBetween_2.f (K : Nat) (a0 : Int) (a1 : Int) (a2_0 : Int) (a2_1 : Int) (a3_0 : Int) (a3_1 : Int) (c4_0_0 : Int) (c4_1_0 : Int) (c4_1_1 : Int) (c4_2_0 : Int) (c4_2_1 : Int) : Option (List (Int × Int × Int × Int × Int × Int)) := ((impl_keepers.f K a0 a1).bind fun t14 => (impl_movesWith__impl_MovesBetween_2.l0 K a0 a2_0 a2_1 a3_0 a3_1 c4_0_0 c4_1_0 c4_1_1 c4_2_0 c4_2_1 t14 K 0 ([] : List (Int × Int × Int × Int × Int × Int))))

/-! ### impl_MovesBetween: function 44 -/
def impl_MovesBetween.f (K : Nat) (a0 : Int) (a1 : Int) (a2_0 : Int) (a2_1 : Int) (a3_0 : Int) (a3_1 : Int) (a4_0 : Int) (a4_1 : Int) (a5_0 : Int) (a5_1 : Int) : Option (List (Int × Int × Int × Int × Int × Int) × Int) := ((impl_asked__impl_MovesBetween_1.f K a0 a1 a0 a2_0 a2_1 a3_0 a3_1 a4_0 a4_1 a5_0 a5_1).bind fun t22 => (if (t22 == 0) = true then ((impl_quadrance.f K a0 a1 a2_0 a2_1 a3_0 a3_1).bind fun t34 => (if (t34 == 0) = true then some ([], 5) else ((impl_quadrance.f K a0 a1 a4_0 a4_1 a5_0 a5_1).bind fun t45 => (if (t34 == t45) = true then ((impl_less.f K a0 a3_0 a3_1 a2_0 a2_1).bind fun (t52, t53) => ((impl_less.f K a0 a5_0 a5_1 a4_0 a4_1).bind fun (t55, t56) => ((impl_movesWith__impl_MovesBetween_2.f K a0 a1 a2_0 a2_1 a4_0 a4_1 a0 t52 t53 t55 t56).bind fun t74 => some (t74, 0)))) else some ([], 5))))) else some ([], t22)))

/-! ### laws_FnExactMovesBetween: function 12 -/
def laws_FnExactMovesBetween.f (K : Nat) (a0 : Int) (a1 : Int) (a2_0 : Int) (a2_1 : Int) (a3_0 : Int) (a3_1 : Int) (a4_0 : Int) (a4_1 : Int) (a5_0 : Int) (a5_1 : Int) : Option (Bool) := ((laws_toPoint.f K a2_0 a2_1).bind fun (t15, t16) => ((laws_toPoint.f K a3_0 a3_1).bind fun (t18, t19) => ((laws_toPoint.f K a4_0 a4_1).bind fun (t21, t22) => ((laws_toPoint.f K a5_0 a5_1).bind fun (t24, t25) => ((spec_MovesBetween.f K a0 a1 t15 t16 t18 t19 t21 t22 t24 t25).bind fun (t27, t30) => ((laws_toPoint.f K a2_0 a2_1).bind fun (t39, t40) => ((laws_toPoint.f K a3_0 a3_1).bind fun (t42, t43) => ((laws_toPoint.f K a4_0 a4_1).bind fun (t45, t46) => ((laws_toPoint.f K a5_0 a5_1).bind fun (t48, t49) => ((impl_MovesBetween.f K a0 a1 t39 t40 t42 t43 t45 t46 t48 t49).bind fun (t51, t54) => ((laws_eqMoveS.f K t51 t27).bind fun t64 => (if t64 = true then (if (t54 == t30) = true then ((laws_markMoveS.f K t51 1).bind fun (t77, t78) => ((laws_heldMoveS.f K t78 1).bind fun t91 => (if decide (t91 < 0) = true then some false else (if (t91 == t77) = true then ((laws_toPoint.f K a2_0 a2_1).bind fun (t105, t106) => ((laws_toPoint.f K a3_0 a3_1).bind fun (t108, t109) => ((laws_toPoint.f K a4_0 a4_1).bind fun (t111, t112) => ((laws_toPoint.f K a5_0 a5_1).bind fun (t114, t115) => ((impl_MovesBetween.f K a0 a1 t105 t106 t108 t109 t111 t112 t114 t115).bind fun (t117, t120) => ((laws_eqMoveS.f K t117 t27).bind fun t130 => (if t130 = true then (if (t120 == t30) = true then ((laws_heldMoveS.f K t78 1).bind fun t139 => (if decide (t139 < 0) = true then some false else (if (t139 == t77) = true then some true else some false))) else some false) else some false))))))) else some false)))) else some false) else some false))))))))))))

end Go.Proofs.Ytbibgeoohpgaeaa
