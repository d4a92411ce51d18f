/- What the functions of the program compute, in plain Lean. -/
import Derived.Test.YtccbmdpikalpfaaK
namespace Go.Proofs.Ytccbmdpikalpfaa
open Go Go.RowKit
attribute [local go_sem] Oper.quiet Oper.quietAt Oper.quietUpon Act.put nm1 nm2 nm3 i64_w run_max2 run_min2
attribute [local irreducible] wpList
set_option linter.unusedVariables false
set_option linter.unusedSimpArgs false

/-! ### laws_big: function 7 -/
def laws_big.f (K : Nat) (a0 : List (Int)) : Option (Bool) := some (decide (4096 < (a0.length : Int)))

/-! ### spec_l01From: function 105 -/

def spec_l01From.l0 (K : Nat) (a0 : List (Int)) : Nat → Int → Int → Int → Option (Int × Int)
  | 0, _, _, _ => none
  | k16 + 1, x8, x9, x10 => (if decide (x8 < (a0.length : Int)) = true then (if decide (x8 < 4096) = true then ((idx a0 x8).bind fun t26 => (spec_l01From.l0 K a0 k16 (wrap64 (x8 + 1)) x9 (IntKind.u64.wrap ((IntKind.u64.wrap ((IntKind.u64.wrap (x10 * 1099511628211)) + (IntKind.u64.wrap (t26)))) + 199)))) else some (x9, x10)) else some (x9, x10))
def spec_l01From.f (K : Nat) (a0 : List (Int)) : Option (Int × Int) := (spec_l01From.l0 K a0 K 0 0 (IntKind.u64.wrap (13701 + (IntKind.u64.wrap ((a0.length : Int))))))

/-! ### spec_l01Next: function 160 -/
def spec_l01Next.f (K : Nat) (a0_0 : List (Int)) (a0_1 : Int) (a0_2 : Int) (a1 : Int) : Option (Int × Int × Int) := (if decide (a1 < 1) = true then some (0, a0_1, a0_2) else (if decide (a0_1 < (a0_0.length : Int)) = true then ((idx a0_0 a0_1).bind fun t18 => (if (a1 == 0) = true then none else some (Int.tmod (wrap64 ((wrap64 (bits .and .u64 ((IntKind.u64.wrap ((IntKind.u64.wrap (a0_2 * 6364136223846793005)) + 1442695040888963407)) / 8589934592) 16777215)) + (wrap64 (t18)))) a1, wrap64 (a0_1 + 1), IntKind.u64.wrap ((IntKind.u64.wrap (a0_2 * 6364136223846793005)) + 1442695040888963407)))) else (if (a1 == 0) = true then none else some (Int.tmod (wrap64 (bits .and .u64 ((IntKind.u64.wrap ((IntKind.u64.wrap (a0_2 * 6364136223846793005)) + 1442695040888963407)) / 8589934592) 16777215)) a1, a0_1, IntKind.u64.wrap ((IntKind.u64.wrap (a0_2 * 6364136223846793005)) + 1442695040888963407)))))

/-! ### spec_l01Pick: function 179 -/
def spec_l01Pick.f (K : Nat) (a0_0 : List (Int)) (a0_1 : Int) (a0_2 : Int) (a1 : List (Int)) : Option (Int × Int × Int) := ((spec_l01Next.f K a0_0 a0_1 a0_2 (a1.length : Int)).bind fun (t3, t4, t5) => ((idx a1 t3).bind fun t12 => some (t12, t4, t5)))

/-! ### spec_l01DrawField: function 106 -/
def spec_l01DrawField.f (K : Nat) (a0_0 : List (Int)) (a0_1 : Int) (a0_2 : Int) : Option (Int × Int × Int) := ((spec_l01Pick.f K a0_0 a0_1 a0_2 ([3, 5, 5, 7, 7, 11, 13, 13, 17, 19, 23, 29, 31])).bind fun (t6, t7, t8) => some (t6, t7, t8))

/-! ### spec_l01Near: function 107 -/
def spec_l01Near.f (K : Nat) (a0_0 : List (Int)) (a0_1 : Int) (a0_2 : Int) (a1 : Int) : Option (Int × Int × Int) := ((spec_l01Next.f K a0_0 a0_1 a0_2 14).bind fun (t4, t5, t6) => (if (t4 == 0) = true then ((spec_l01Pick.f K a0_0 t5 t6 ([(-1), wrap64 (a1 + 1), 1099511627776, (-4611686018427387904)])).bind fun (t17, t18, t19) => some (t17, t18, t19)) else ((spec_l01Next.f K a0_0 t5 t6 (wrap64 (a1 + 1))).bind fun (t27, t28, t29) => some (t27, t28, t29))))

/-! ### spec_l01BadField: function 108 -/
def spec_l01BadField.f (K : Nat) (a0_0 : List (Int)) (a0_1 : Int) (a0_2 : Int) (a1 : Int) : Option (Int × Int × Int) := ((spec_l01Next.f K a0_0 a0_1 a0_2 40).bind fun (t4, t5, t6) => (if (t4 == 0) = true then ((spec_l01Pick.f K a0_0 t5 t6 ([2, 1, 0, (-3), 9, 15, 37, 1099511627776])).bind fun (t17, t18, t19) => some (t17, t18, t19)) else some (a1, t5, t6)))

/-! ### spec_l05Draw: function 90 -/
def spec_l05Draw.f (K : Nat) (a0 : List (Int)) : Option (Int × Int × Int) := ((spec_l01From.f K a0).bind fun (t4, t5) => ((spec_l01DrawField.f K a0 t4 t5).bind fun (t10, t11, t12) => ((spec_l01Near.f K a0 t11 t12 40).bind fun (t18, t19, t20) => ((spec_l01Pick.f K a0 t19 t20 ([0, 1, 2, 3, 4, 5, 6, 7, 12, wrap64 (t10 - 1), t10, wrap64 (t10 + 1), t18, 1000, 1001])).bind fun (t28, t29, t30) => ((spec_l01Near.f K a0 t29 t30 (wrap64 (t10 - 1))).bind fun (t37, t38, t39) => ((spec_l01BadField.f K a0 t38 t39 t10).bind fun (t46, t47, t48) => some (t46, t28, t37)))))))

/-! ### spec_DrawSpreadPolynomial: function 16 -/
def spec_DrawSpreadPolynomial.f (K : Nat) (a0 : List (Int)) : Option (Int × Int × Int) := ((spec_l05Draw.f K a0).bind fun (t3, t4, t5) => some (t3, t4, t5))

/-! ### impl_IsField: function 170 -/
def impl_IsField.f (K : Nat) (a0 : Int) : Option (Bool) := (if (a0 == 3) = true then some true else (if (a0 == 5) = true then some true else (if (a0 == 7) = true then some true else (if (a0 == 11) = true then some true else (if (a0 == 13) = true then some true else (if (a0 == 17) = true then some true else (if (a0 == 19) = true then some true else (if (a0 == 23) = true then some true else (if (a0 == 29) = true then some true else (if (a0 == 31) = true then some true else some false))))))))))

/-! ### impl_isNumber: function 92 -/
def impl_isNumber.f (K : Nat) (a0 : Int) (a1 : Int) : Option (Bool) := (if decide (0 ≤ a1) = true then some (decide (a1 < a0)) else some false)

/-! ### impl_isIndex: function 93 -/
def impl_isIndex.f (K : Nat) (a0 : Int) : Option (Bool) := (if decide (0 ≤ a0) = true then some (decide (a0 ≤ 1000)) else some false)

/-! ### impl_SpreadPolynomial_1: function 91 -/
def impl_SpreadPolynomial_1.f (K : Nat) (f0_0 : Int) (f1_0 : Int) (f2_0 : Int) : Option (Bool) := ((impl_isNumber.f K f0_0 f1_0).bind fun t3 => (if t3 = true then ((impl_isIndex.f K f2_0).bind fun t8 => some t8) else some false))

/-! ### impl_asked__impl_SpreadPolynomial_1: function 67 -/
def impl_asked__impl_SpreadPolynomial_1.f (K : Nat) (a0 : Int) (c1_0_0 : Int) (c1_1_0 : Int) (c1_2_0 : Int) : Option (Int) := ((impl_IsField.f K a0).bind fun t4 => (if t4 = true then ((impl_SpreadPolynomial_1.f K c1_0_0 c1_1_0 c1_2_0).bind fun t11 => (if t11 = true then some 0 else some 2)) else some 1))

/-! ### impl_rest: function 110 -/
def impl_rest.f (K : Nat) (a0 : Int) (a1 : Int) : Option (Int) := (if (a0 == 0) = true then none else some (Int.tmod (wrap64 ((Int.tmod a1 a0) + a0)) a0))

/-! ### impl_spreads: function 180 -/

def impl_spreads.l0 (K : Nat) (a0 : Int) (a1 : Int) (a2 : Int) : Nat → Int → List (Int) → Option (List (Int))
  | 0, _, _ => none
  | k19 + 1, x10, x11 => (if decide (x10 < a1) = true then ((idx x11 x10).bind fun t28 => ((idx x11 (wrap64 (x10 - 1))).bind fun t34 => ((impl_rest.f K a0 (wrap64 ((wrap64 ((wrap64 ((wrap64 (2 * (wrap64 (1 - (wrap64 (2 * a2)))))) * t28)) - t34)) + (wrap64 (2 * a2))))).bind fun t40 => (if decide (x11.length ≤ 1000000) = true then (impl_spreads.l0 K a0 a1 a2 k19 (wrap64 (x10 + 1)) (x11 ++ [t40])) else none)))) else some x11)
def impl_spreads.f (K : Nat) (a0 : Int) (a1 : Int) (a2 : Int) : Option (List (Int)) := (impl_spreads.l0 K a0 a1 a2 K 1 ([0, a2]))

/-! ### impl_spreadOf: function 94 -/
def impl_spreadOf.f (K : Nat) (a0 : Int) (a1 : Int) (a2 : Int) : Option (Int) := ((impl_spreads.f K a0 a1 a2).bind fun t3 => ((idx t3 a1).bind fun t9 => some t9))

/-! ### impl_SpreadPolynomial: function 17 -/
def impl_SpreadPolynomial.f (K : Nat) (a0 : Int) (a1 : Int) (a2 : Int) : Option (Int × Int) := ((impl_asked__impl_SpreadPolynomial_1.f K a0 a0 a2 a1).bind fun t13 => (if (t13 == 0) = true then ((impl_spreadOf.f K a0 a1 a2).bind fun t21 => some (t21, 0)) else some (0, t13)))

/-! ### spec_l01In: function 182 -/
def spec_l01In.f (K : Nat) (a0 : Int) (a1 : Int) (a2 : Int) : Option (Bool) := (if decide (a1 ≤ a0) = true then some (decide (a0 ≤ a2)) else some false)

/-! ### spec_l01Field: function 200 -/

def spec_l01Field.l0 (K : Nat) (a0 : Int) : Nat → Int → Option (Bool)
  | 0, _ => none
  | k16 + 1, x11 => (if decide ((wrap64 (x11 * x11)) ≤ a0) = true then (if (x11 == 0) = true then none else (if ((Int.tmod a0 x11) == 0) = true then some false else (spec_l01Field.l0 K a0 k16 (wrap64 (x11 + 1))))) else some true)
def spec_l01Field.f (K : Nat) (a0 : Int) : Option (Bool) := ((spec_l01In.f K a0 3 31).bind fun t4 => (if t4 = true then (spec_l01Field.l0 K a0 K 2) else some false))

/-! ### spec_l01Numbers: function 181 -/

def spec_l01Numbers.l0 (K : Nat) (a0 : Int) (a1 : List (Int)) : Nat → Int → Option (Int)
  | 0, _ => none
  | k16 + 1, x11 => (if decide (x11 < (a1.length : Int)) = true then ((idx a1 x11).bind fun t26 => ((spec_l01In.f K t26 0 (wrap64 (a0 - 1))).bind fun t31 => (if t31 = true then (spec_l01Numbers.l0 K a0 a1 k16 (wrap64 (x11 + 1))) else some 2))) else some 0)
def spec_l01Numbers.f (K : Nat) (a0 : Int) (a1 : List (Int)) : Option (Int) := ((spec_l01Field.f K a0).bind fun t4 => (if t4 = true then (spec_l01Numbers.l0 K a0 a1 K 0) else some 1))

/-! ### spec_l05Code: function 95 -/
def spec_l05Code.f (K : Nat) (a0 : Int) (a1 : Int) (a2 : List (Int)) : Option (Int) := ((spec_l01Numbers.f K a0 a2).bind fun t3 => (if (t3 == 0) = true then ((spec_l01In.f K a1 0 1000).bind fun t10 => (if t10 = true then some t3 else some 2)) else some t3))

/-! ### spec_l01Mod: function 111 -/
def spec_l01Mod.f (K : Nat) (a0 : Int) (a1 : Int) : Option (Int) := (if (a1 == 0) = true then none else some (Int.tmod (wrap64 ((Int.tmod a0 a1) + a1)) a1))

/-! ### spec_l05Value: function 96 -/

def spec_l05Value.l0 (K : Nat) (a0 : Int) (a2 : Int) : Nat → Int → Int → Int → Option (Int)
  | 0, _, _, _ => none
  | k11 + 1, x4, x5, x6 => (if decide (0 < x4) = true then (if (a0 == 0) = true then none else ((spec_l01Mod.f K (wrap64 ((wrap64 ((wrap64 ((Int.tmod (wrap64 (2 * (wrap64 (1 - (wrap64 (2 * a2)))))) a0) * x6)) - x5)) + (wrap64 (2 * a2)))) a0).bind fun t22 => (spec_l05Value.l0 K a0 a2 k11 (wrap64 (x4 - 1)) x6 t22))) else some x5)
def spec_l05Value.f (K : Nat) (a0 : Int) (a1 : Int) (a2 : Int) : Option (Int) := (spec_l05Value.l0 K a0 a2 K a1 0 a2)

/-! ### spec_SpreadPolynomial: function 18 -/
def spec_SpreadPolynomial.f (K : Nat) (a0 : Int) (a1 : Int) (a2 : Int) : Option (Int × Int) := ((spec_l05Code.f K a0 a1 ([a2])).bind fun t7 => (if (t7 == 0) = true then ((spec_l05Value.f K a0 a1 a2).bind fun t14 => some (t14, 0)) else some (0, t7)))

/-! ### impl_ZerosOf_1: function 97 -/
def impl_ZerosOf_1.f (K : Nat) (f0_0 : Int) : Option (Bool) := ((impl_isIndex.f K f0_0).bind fun t3 => some t3)

/-! ### impl_asked__impl_ZerosOf_1: function 67 -/
def impl_asked__impl_ZerosOf_1.f (K : Nat) (a0 : Int) (c1_0_0 : Int) : Option (Int) := ((impl_IsField.f K a0).bind fun t4 => (if t4 = true then ((impl_ZerosOf_1.f K c1_0_0).bind fun t11 => (if t11 = true then some 0 else some 2)) else some 1))

/-! ### impl_ZerosOf_2: function 99 -/
def impl_ZerosOf_2.f (K : Nat) (a0 : Int) (f0_0 : Int) (f1_0 : Int) : Option (Bool) := ((impl_spreadOf.f K f0_0 f1_0 a0).bind fun t3 => some (t3 == 0))

/-! ### impl_numbersWith__impl_ZerosOf_2: function 98 -/

def impl_numbersWith__impl_ZerosOf_2.l0 (K : Nat) (a0 : Int) (c1_0_0 : Int) (c1_1_0 : Int) : Nat → Int → List (Int) → Option (List (Int))
  | 0, _, _ => none
  | k19 + 1, x10, x11 => (if decide (x10 < a0) = true then ((impl_ZerosOf_2.f K x10 c1_0_0 c1_1_0).bind fun t29 => (if t29 = true then (if decide (x11.length ≤ 1000000) = true then (impl_numbersWith__impl_ZerosOf_2.l0 K a0 c1_0_0 c1_1_0 k19 (wrap64 (x10 + 1)) (x11 ++ [x10])) else none) else (impl_numbersWith__impl_ZerosOf_2.l0 K a0 c1_0_0 c1_1_0 k19 (wrap64 (x10 + 1)) x11))) else some x11)
def impl_numbersWith__impl_ZerosOf_2.f (K : Nat) (a0 : Int) (c1_0_0 : Int) (c1_1_0 : Int) : Option (List (Int)) := (impl_numbersWith__impl_ZerosOf_2.l0 K a0 c1_0_0 c1_1_0 K 0 ([] : List (Int)))

/-! ### impl_ZerosOf: function 19 -/
def impl_ZerosOf.f (K : Nat) (a0 : Int) (a1 : Int) : Option (List (Int) × Int) := ((impl_asked__impl_ZerosOf_1.f K a0 a1).bind fun t10 => (if (t10 == 0) = true then ((impl_numbersWith__impl_ZerosOf_2.f K a0 a0 a1).bind fun t17 => some (t17, 0)) else some ([], t10)))

/-! ### spec_l05Values: function 115 -/

def spec_l05Values.l0 (K : Nat) (a0 : Int) (a1 : Int) : Nat → Int → List (Int) → Option (List (Int))
  | 0, _, _ => none
  | k19 + 1, x10, x11 => (if decide (x10 < a0) = true then ((spec_l05Value.f K a0 a1 x10).bind fun t28 => (if decide (x11.length ≤ 1000000) = true then (spec_l05Values.l0 K a0 a1 k19 (wrap64 (x10 + 1)) (x11 ++ [t28])) else none)) else some x11)
def spec_l05Values.f (K : Nat) (a0 : Int) (a1 : Int) : Option (List (Int)) := (spec_l05Values.l0 K a0 a1 K 0 ([] : List (Int)))

/-! ### spec_l05Led: function 100 -/

def spec_l05Led.l0 (K : Nat) (a0 : Int) (a2 : Int) (t3 : List (Int)) : Nat → Int → List (Int) → Option (List (Int))
  | 0, _, _ => none
  | k26 + 1, x16, x17 => (if decide (x16 < a0) = true then ((idx t3 x16).bind fun t36 => (if (t36 == a2) = true then (if decide (x17.length ≤ 1000000) = true then (spec_l05Led.l0 K a0 a2 t3 k26 (wrap64 (x16 + 1)) (x17 ++ [x16])) else none) else (spec_l05Led.l0 K a0 a2 t3 k26 (wrap64 (x16 + 1)) x17))) else some x17)
def spec_l05Led.f (K : Nat) (a0 : Int) (a1 : Int) (a2 : Int) : Option (List (Int)) := ((spec_l05Values.f K a0 a1).bind fun t3 => (spec_l05Led.l0 K a0 a2 t3 K 0 ([] : List (Int))))

/-! ### spec_ZerosOf: function 20 -/
def spec_ZerosOf.f (K : Nat) (a0 : Int) (a1 : Int) : Option (List (Int) × Int) := ((spec_l05Code.f K a0 a1 ([])).bind fun t4 => (if (t4 == 0) = true then ((spec_l05Led.f K a0 a1 0).bind fun t11 => some (t11, 0)) else some ([], t4)))

/-! ### impl_LedTo_1: function 101 -/
def impl_LedTo_1.f (K : Nat) (f0_0 : Int) (f1_0 : Int) (f2_0 : Int) : Option (Bool) := ((impl_isNumber.f K f0_0 f1_0).bind fun t3 => (if t3 = true then ((impl_isIndex.f K f2_0).bind fun t8 => some t8) else some false))

/-! ### impl_asked__impl_LedTo_1: function 67 -/
def impl_asked__impl_LedTo_1.f (K : Nat) (a0 : Int) (c1_0_0 : Int) (c1_1_0 : Int) (c1_2_0 : Int) : Option (Int) := ((impl_IsField.f K a0).bind fun t4 => (if t4 = true then ((impl_LedTo_1.f K c1_0_0 c1_1_0 c1_2_0).bind fun t11 => (if t11 = true then some 0 else some 2)) else some 1))

/-! ### impl_LedTo_2: function 102 -/
def impl_LedTo_2.f (K : Nat) (a0 : Int) (f0_0 : Int) (f1_0 : Int) (f2_0 : Int) : Option (Bool) := ((impl_spreadOf.f K f0_0 f1_0 a0).bind fun t3 => some (t3 == f2_0))

/-! ### impl_numbersWith__impl_LedTo_2: function 98 -/

def impl_numbersWith__impl_LedTo_2.l0 (K : Nat) (a0 : Int) (c1_0_0 : Int) (c1_1_0 : Int) (c1_2_0 : Int) : Nat → Int → List (Int) → Option (List (Int))
  | 0, _, _ => none
  | k19 + 1, x10, x11 => (if decide (x10 < a0) = true then ((impl_LedTo_2.f K x10 c1_0_0 c1_1_0 c1_2_0).bind fun t29 => (if t29 = true then (if decide (x11.length ≤ 1000000) = true then (impl_numbersWith__impl_LedTo_2.l0 K a0 c1_0_0 c1_1_0 c1_2_0 k19 (wrap64 (x10 + 1)) (x11 ++ [x10])) else none) else (impl_numbersWith__impl_LedTo_2.l0 K a0 c1_0_0 c1_1_0 c1_2_0 k19 (wrap64 (x10 + 1)) x11))) else some x11)
def impl_numbersWith__impl_LedTo_2.f (K : Nat) (a0 : Int) (c1_0_0 : Int) (c1_1_0 : Int) (c1_2_0 : Int) : Option (List (Int)) := (impl_numbersWith__impl_LedTo_2.l0 K a0 c1_0_0 c1_1_0 c1_2_0 K 0 ([] : List (Int)))

/-! ### impl_LedTo: function 21 -/
def impl_LedTo.f (K : Nat) (a0 : Int) (a1 : Int) (a2 : Int) : Option (List (Int) × Int) := ((impl_asked__impl_LedTo_1.f K a0 a0 a2 a1).bind fun t13 => (if (t13 == 0) = true then ((impl_numbersWith__impl_LedTo_2.f K a0 a0 a1 a2).bind fun t21 => some (t21, 0)) else some ([], t13)))

/-! ### spec_LedTo: function 22 -/
def spec_LedTo.f (K : Nat) (a0 : Int) (a1 : Int) (a2 : Int) : Option (List (Int) × Int) := ((spec_l05Code.f K a0 a1 ([a2])).bind fun t7 => (if (t7 == 0) = true then ((spec_l05Led.f K a0 a1 a2).bind fun t14 => some (t14, 0)) else some ([], t7)))

/-! ### laws_likeInts: function 23 -/

def laws_likeInts.l0 (K : Nat) (a0 : List (Int)) (a1 : List (Int)) : Nat → Int → Option (Bool)
  | 0, _ => none
  | k12 + 1, x7 => (if decide (x7 < (a0.length : Int)) = true then ((idx a0 x7).bind fun t22 => ((idx a1 x7).bind fun t28 => (if (t22 == t28) = true then (laws_likeInts.l0 K a0 a1 k12 (wrap64 (x7 + 1))) else some false))) else some true)
def laws_likeInts.f (K : Nat) (a0 : List (Int)) (a1 : List (Int)) : Option (Bool) := (if ((a0.length : Int) == (a1.length : Int)) = true then (laws_likeInts.l0 K a0 a1 K 0) else some false)

/-! ### spec_DrawCoefficientsOf: function 26 -/
def spec_DrawCoefficientsOf.f (K : Nat) (a0 : List (Int)) : Option (Int × Int) := ((spec_l01From.f K a0).bind fun (t4, t5) => ((spec_l01DrawField.f K a0 t4 t5).bind fun (t10, t11, t12) => ((spec_l01Near.f K a0 t11 t12 40).bind fun (t18, t19, t20) => ((spec_l01BadField.f K a0 t19 t20 t10).bind fun (t26, t27, t28) => some (t26, t18)))))

/-! ### impl_CoefficientsOf_1: function 109 -/
def impl_CoefficientsOf_1.f (K : Nat) (f0_0 : Int) : Option (Bool) := (if decide (0 ≤ f0_0) = true then some (decide (f0_0 ≤ 40)) else some false)

/-! ### impl_asked__impl_CoefficientsOf_1: function 67 -/
def impl_asked__impl_CoefficientsOf_1.f (K : Nat) (a0 : Int) (c1_0_0 : Int) : Option (Int) := ((impl_IsField.f K a0).bind fun t4 => (if t4 = true then ((impl_CoefficientsOf_1.f K c1_0_0).bind fun t11 => (if t11 = true then some 0 else some 2)) else some 1))

/-! ### impl_CoefficientsOf: function 27 -/
mutual
def impl_CoefficientsOf.l0 (K : Nat) (a0 : Int) (a1 : Int) : Nat → Int → List (Int) → List (Int) → Option (List (Int) × Int)
  | 0, _, _, _ => none
  | k68 + 1, x52, x53, x56 => (if decide (x52 < a1) = true then (impl_CoefficientsOf.l1 K a0 a1 x52 x53 x56 k68 0 (repl ((wrap64 (a1 + 2)).toNat) (0 : Int))) else ((cutHi x56 (wrap64 (a1 + 1))).bind fun t306 => (if decide (t306.length ≤ 1000000) = true then some ((([] : List (Int)) ++ t306), 0) else none)))
def impl_CoefficientsOf.l1 (K : Nat) (a0 : Int) (a1 : Int) (x52 : Int) (x53 : List (Int)) (x56 : List (Int)) : Nat → Int → List (Int) → Option (List (Int) × Int)
  | 0, _, _ => none
  | k97 + 1, x86, x87 => (if decide (x86 < ((repl ((wrap64 (a1 + 2)).toNat) (0 : Int)).length : Int)) = true then ((idx x56 x86).bind fun t109 => ((idx x53 x86).bind fun t115 => ((idx x87 x86).bind fun t121 => (if decide (0 < x86) = true then ((idx (x87.set (x86).toNat (wrap64 ((wrap64 (2 * t109)) - t115))) x86).bind fun t143 => ((idx x56 (wrap64 (x86 - 1))).bind fun t149 => ((idx (x87.set (x86).toNat (wrap64 ((wrap64 (2 * t109)) - t115))) x86).bind fun t155 => (if (x86 == 1) = true then ((idx ((x87.set (x86).toNat (wrap64 ((wrap64 (2 * t109)) - t115))).set (x86).toNat (wrap64 (t143 - (wrap64 (4 * t149))))) x86).bind fun t176 => ((idx ((x87.set (x86).toNat (wrap64 ((wrap64 (2 * t109)) - t115))).set (x86).toNat (wrap64 (t143 - (wrap64 (4 * t149))))) x86).bind fun t181 => ((idx (((x87.set (x86).toNat (wrap64 ((wrap64 (2 * t109)) - t115))).set (x86).toNat (wrap64 (t143 - (wrap64 (4 * t149))))).set (x86).toNat (wrap64 (t176 + 2))) x86).bind fun t193 => ((impl_rest.f K a0 t193).bind fun t198 => ((idx (((x87.set (x86).toNat (wrap64 ((wrap64 (2 * t109)) - t115))).set (x86).toNat (wrap64 (t143 - (wrap64 (4 * t149))))).set (x86).toNat (wrap64 (t176 + 2))) x86).bind fun t202 => (impl_CoefficientsOf.l1 K a0 a1 x52 x53 x56 k97 (wrap64 (x86 + 1)) ((((x87.set (x86).toNat (wrap64 ((wrap64 (2 * t109)) - t115))).set (x86).toNat (wrap64 (t143 - (wrap64 (4 * t149))))).set (x86).toNat (wrap64 (t176 + 2))).set (x86).toNat t198))))))) else ((idx ((x87.set (x86).toNat (wrap64 ((wrap64 (2 * t109)) - t115))).set (x86).toNat (wrap64 (t143 - (wrap64 (4 * t149))))) x86).bind fun t215 => ((impl_rest.f K a0 t215).bind fun t220 => ((idx ((x87.set (x86).toNat (wrap64 ((wrap64 (2 * t109)) - t115))).set (x86).toNat (wrap64 (t143 - (wrap64 (4 * t149))))) x86).bind fun t224 => (impl_CoefficientsOf.l1 K a0 a1 x52 x53 x56 k97 (wrap64 (x86 + 1)) (((x87.set (x86).toNat (wrap64 ((wrap64 (2 * t109)) - t115))).set (x86).toNat (wrap64 (t143 - (wrap64 (4 * t149))))).set (x86).toNat t220))))))))) else (if (x86 == 1) = true then ((idx (x87.set (x86).toNat (wrap64 ((wrap64 (2 * t109)) - t115))) x86).bind fun t240 => ((idx (x87.set (x86).toNat (wrap64 ((wrap64 (2 * t109)) - t115))) x86).bind fun t245 => ((idx ((x87.set (x86).toNat (wrap64 ((wrap64 (2 * t109)) - t115))).set (x86).toNat (wrap64 (t240 + 2))) x86).bind fun t257 => ((impl_rest.f K a0 t257).bind fun t262 => ((idx ((x87.set (x86).toNat (wrap64 ((wrap64 (2 * t109)) - t115))).set (x86).toNat (wrap64 (t240 + 2))) x86).bind fun t266 => (impl_CoefficientsOf.l1 K a0 a1 x52 x53 x56 k97 (wrap64 (x86 + 1)) (((x87.set (x86).toNat (wrap64 ((wrap64 (2 * t109)) - t115))).set (x86).toNat (wrap64 (t240 + 2))).set (x86).toNat t262))))))) else ((idx (x87.set (x86).toNat (wrap64 ((wrap64 (2 * t109)) - t115))) x86).bind fun t279 => ((impl_rest.f K a0 t279).bind fun t284 => ((idx (x87.set (x86).toNat (wrap64 ((wrap64 (2 * t109)) - t115))) x86).bind fun t288 => (impl_CoefficientsOf.l1 K a0 a1 x52 x53 x56 k97 (wrap64 (x86 + 1)) ((x87.set (x86).toNat (wrap64 ((wrap64 (2 * t109)) - t115))).set (x86).toNat t284)))))))))) else (impl_CoefficientsOf.l0 K a0 a1 k97 (wrap64 (x52 + 1)) x56 x87))
end
def impl_CoefficientsOf.f (K : Nat) (a0 : Int) (a1 : Int) : Option (List (Int) × Int) := ((impl_asked__impl_CoefficientsOf_1.f K a0 a1).bind fun t7 => (if (t7 == 0) = true then (if decide (0 ≤ (wrap64 (a1 + 2))) = true then (if decide ((wrap64 (a1 + 2)) ≤ 1000000) = true then ((idx (repl ((wrap64 (a1 + 2)).toNat) (0 : Int)) 1).bind fun t28 => (if (a1 == 0) = true then ((cutHi (repl ((wrap64 (a1 + 2)).toNat) (0 : Int)) 1).bind fun t47 => some (t47, 0)) else (impl_CoefficientsOf.l0 K a0 a1 K 1 (repl ((wrap64 (a1 + 2)).toNat) (0 : Int)) ((repl ((wrap64 (a1 + 2)).toNat) (0 : Int)).set (1 : Int).toNat 1)))) else none) else none) else some ([], t7)))

/-! ### spec_CoefficientsOf: function 28 -/
mutual
def spec_CoefficientsOf.l0 (K : Nat) (a0 : Int) (a1 : Int) : Nat → Int → List (Int) → List (Int) → Option (List (Int) × Int)
  | 0, _, _, _ => none
  | k61 + 1, x47, x48, x51 => (if decide (0 < x47) = true then (spec_CoefficientsOf.l1 K a0 a1 x47 x48 x51 k61 0 (repl ((wrap64 (a1 + 2)).toNat) (0 : Int))) else ((cutHi x48 (wrap64 (a1 + 1))).bind fun t287 => some (t287, 0)))
def spec_CoefficientsOf.l1 (K : Nat) (a0 : Int) (a1 : Int) (x47 : Int) (x48 : List (Int)) (x51 : List (Int)) : Nat → Int → List (Int) → Option (List (Int) × Int)
  | 0, _, _ => none
  | k90 + 1, x80, x81 => (if decide (x80 ≤ a1) = true then ((idx x51 x80).bind fun t100 => ((idx x48 x80).bind fun t106 => ((idx x81 x80).bind fun t112 => (if decide (0 < x80) = true then ((idx (x81.set (x80).toNat (wrap64 ((wrap64 (2 * t100)) - t106))) x80).bind fun t134 => ((idx x51 (wrap64 (x80 - 1))).bind fun t140 => ((idx (x81.set (x80).toNat (wrap64 ((wrap64 (2 * t100)) - t106))) x80).bind fun t146 => (if (x80 == 1) = true then ((idx ((x81.set (x80).toNat (wrap64 ((wrap64 (2 * t100)) - t106))).set (x80).toNat (wrap64 (t134 - (wrap64 (4 * t140))))) x80).bind fun t165 => ((idx ((x81.set (x80).toNat (wrap64 ((wrap64 (2 * t100)) - t106))).set (x80).toNat (wrap64 (t134 - (wrap64 (4 * t140))))) x80).bind fun t170 => ((idx (((x81.set (x80).toNat (wrap64 ((wrap64 (2 * t100)) - t106))).set (x80).toNat (wrap64 (t134 - (wrap64 (4 * t140))))).set (x80).toNat (wrap64 (t165 + 2))) x80).bind fun t181 => ((spec_l01Mod.f K t181 a0).bind fun t186 => ((idx (((x81.set (x80).toNat (wrap64 ((wrap64 (2 * t100)) - t106))).set (x80).toNat (wrap64 (t134 - (wrap64 (4 * t140))))).set (x80).toNat (wrap64 (t165 + 2))) x80).bind fun t190 => (spec_CoefficientsOf.l1 K a0 a1 x47 x48 x51 k90 (wrap64 (x80 + 1)) ((((x81.set (x80).toNat (wrap64 ((wrap64 (2 * t100)) - t106))).set (x80).toNat (wrap64 (t134 - (wrap64 (4 * t140))))).set (x80).toNat (wrap64 (t165 + 2))).set (x80).toNat t186))))))) else ((idx ((x81.set (x80).toNat (wrap64 ((wrap64 (2 * t100)) - t106))).set (x80).toNat (wrap64 (t134 - (wrap64 (4 * t140))))) x80).bind fun t202 => ((spec_l01Mod.f K t202 a0).bind fun t207 => ((idx ((x81.set (x80).toNat (wrap64 ((wrap64 (2 * t100)) - t106))).set (x80).toNat (wrap64 (t134 - (wrap64 (4 * t140))))) x80).bind fun t211 => (spec_CoefficientsOf.l1 K a0 a1 x47 x48 x51 k90 (wrap64 (x80 + 1)) (((x81.set (x80).toNat (wrap64 ((wrap64 (2 * t100)) - t106))).set (x80).toNat (wrap64 (t134 - (wrap64 (4 * t140))))).set (x80).toNat t207))))))))) else (if (x80 == 1) = true then ((idx (x81.set (x80).toNat (wrap64 ((wrap64 (2 * t100)) - t106))) x80).bind fun t226 => ((idx (x81.set (x80).toNat (wrap64 ((wrap64 (2 * t100)) - t106))) x80).bind fun t231 => ((idx ((x81.set (x80).toNat (wrap64 ((wrap64 (2 * t100)) - t106))).set (x80).toNat (wrap64 (t226 + 2))) x80).bind fun t242 => ((spec_l01Mod.f K t242 a0).bind fun t247 => ((idx ((x81.set (x80).toNat (wrap64 ((wrap64 (2 * t100)) - t106))).set (x80).toNat (wrap64 (t226 + 2))) x80).bind fun t251 => (spec_CoefficientsOf.l1 K a0 a1 x47 x48 x51 k90 (wrap64 (x80 + 1)) (((x81.set (x80).toNat (wrap64 ((wrap64 (2 * t100)) - t106))).set (x80).toNat (wrap64 (t226 + 2))).set (x80).toNat t247))))))) else ((idx (x81.set (x80).toNat (wrap64 ((wrap64 (2 * t100)) - t106))) x80).bind fun t263 => ((spec_l01Mod.f K t263 a0).bind fun t268 => ((idx (x81.set (x80).toNat (wrap64 ((wrap64 (2 * t100)) - t106))) x80).bind fun t272 => (spec_CoefficientsOf.l1 K a0 a1 x47 x48 x51 k90 (wrap64 (x80 + 1)) ((x81.set (x80).toNat (wrap64 ((wrap64 (2 * t100)) - t106))).set (x80).toNat t268)))))))))) else (spec_CoefficientsOf.l0 K a0 a1 k90 (wrap64 (x47 - 1)) x51 x81))
end
def spec_CoefficientsOf.f (K : Nat) (a0 : Int) (a1 : Int) : Option (List (Int) × Int) := ((spec_l05Code.f K a0 a1 ([])).bind fun t3 => (if (t3 == 0) = true then (if decide (40 < a1) = true then some ([], 2) else (if decide (0 ≤ (wrap64 (a1 + 2))) = true then (if decide ((wrap64 (a1 + 2)) ≤ 1000000) = true then ((idx (repl ((wrap64 (a1 + 2)).toNat) (0 : Int)) 1).bind fun t33 => (spec_CoefficientsOf.l0 K a0 a1 K a1 (repl ((wrap64 (a1 + 2)).toNat) (0 : Int)) ((repl ((wrap64 (a1 + 2)).toNat) (0 : Int)).set (1 : Int).toNat 1))) else none) else none)) else some ([], t3)))

/-! ### spec_DrawIsPermutation: function 30 -/
def spec_DrawIsPermutation.f (K : Nat) (a0 : List (Int)) : Option (Int × Int) := ((spec_l05Draw.f K a0).bind fun (t3, t4, t5) => some (t3, t4))

/-! ### impl_IsPermutation_1: function 114 -/
def impl_IsPermutation_1.f (K : Nat) (f0_0 : Int) : Option (Bool) := ((impl_isIndex.f K f0_0).bind fun t3 => some t3)

/-! ### impl_asked__impl_IsPermutation_1: function 67 -/
def impl_asked__impl_IsPermutation_1.f (K : Nat) (a0 : Int) (c1_0_0 : Int) : Option (Int) := ((impl_IsField.f K a0).bind fun t4 => (if t4 = true then ((impl_IsPermutation_1.f K c1_0_0).bind fun t11 => (if t11 = true then some 0 else some 2)) else some 1))

/-! ### impl_valuesOf: function 113 -/

def impl_valuesOf.l0 (K : Nat) (a0 : Int) (a1 : Int) : Nat → Int → List (Int) → Option (List (Int))
  | 0, _, _ => none
  | k19 + 1, x10, x11 => (if decide (x10 < a0) = true then ((impl_spreadOf.f K a0 a1 x10).bind fun t28 => (if decide (x11.length ≤ 1000000) = true then (impl_valuesOf.l0 K a0 a1 k19 (wrap64 (x10 + 1)) (x11 ++ [t28])) else none)) else some x11)
def impl_valuesOf.f (K : Nat) (a0 : Int) (a1 : Int) : Option (List (Int)) := (impl_valuesOf.l0 K a0 a1 K 0 ([] : List (Int)))

/-! ### impl_IsPermutation: function 31 -/

def impl_IsPermutation.l0 (K : Nat) (t24 : List (Int)) : Nat → Int → List (Bool) → Option (Bool × Int)
  | 0, _, _ => none
  | k41 + 1, x30, x31 => (if decide (x30 < (t24.length : Int)) = true then ((idx t24 x30).bind fun t52 => ((idx x31 t52).bind fun t59 => (if t59 = true then some (false, 0) else ((idx x31 t52).bind fun t66 => (impl_IsPermutation.l0 K t24 k41 (wrap64 (x30 + 1)) (x31.set (t52).toNat true)))))) else some (true, 0))
def impl_IsPermutation.f (K : Nat) (a0 : Int) (a1 : Int) : Option (Bool × Int) := ((impl_asked__impl_IsPermutation_1.f K a0 a1).bind fun t7 => (if (t7 == 0) = true then (if decide (0 ≤ a0) = true then (if decide (a0 ≤ 1000000) = true then ((impl_valuesOf.f K a0 a1).bind fun t24 => (impl_IsPermutation.l0 K t24 K 0 (repl ((a0).toNat) (false : Bool)))) else none) else none) else some (false, t7)))

/-! ### spec_IsPermutation: function 32 -/

def spec_IsPermutation.l0 (K : Nat) (t11 : List (Int)) : Nat → Int → List (Bool) → Option (Bool × Int)
  | 0, _, _ => none
  | k37 + 1, x27, x28 => (if decide (x27 < (t11.length : Int)) = true then ((idx t11 x27).bind fun t48 => ((idx x28 t48).bind fun t53 => (if t53 = true then some (false, 0) else ((idx t11 x27).bind fun t60 => ((idx x28 t60).bind fun t65 => (spec_IsPermutation.l0 K t11 k37 (wrap64 (x27 + 1)) (x28.set (t60).toNat true))))))) else some (true, 0))
def spec_IsPermutation.f (K : Nat) (a0 : Int) (a1 : Int) : Option (Bool × Int) := ((spec_l05Code.f K a0 a1 ([])).bind fun t4 => (if (t4 == 0) = true then ((spec_l05Values.f K a0 a1).bind fun t11 => (if decide (0 ≤ a0) = true then (if decide (a0 ≤ 1000000) = true then (spec_IsPermutation.l0 K t11 K 0 (repl ((a0).toNat) (false : Bool))) else none) else none)) else some (false, t4)))

/-! ### impl_ValuesOf_1: function 112 -/
def impl_ValuesOf_1.f (K : Nat) (f0_0 : Int) : Option (Bool) := ((impl_isIndex.f K f0_0).bind fun t3 => some t3)

/-! ### impl_asked__impl_ValuesOf_1: function 67 -/
def impl_asked__impl_ValuesOf_1.f (K : Nat) (a0 : Int) (c1_0_0 : Int) : Option (Int) := ((impl_IsField.f K a0).bind fun t4 => (if t4 = true then ((impl_ValuesOf_1.f K c1_0_0).bind fun t11 => (if t11 = true then some 0 else some 2)) else some 1))

/-! ### impl_ValuesOf: function 29 -/
def impl_ValuesOf.f (K : Nat) (a0 : Int) (a1 : Int) : Option (List (Int) × Int) := ((impl_asked__impl_ValuesOf_1.f K a0 a1).bind fun t7 => (if (t7 == 0) = true then ((impl_valuesOf.f K a0 a1).bind fun t14 => some (t14, 0)) else some ([], t7)))

/-! ### spec_ValuesOf: function 33 -/
def spec_ValuesOf.f (K : Nat) (a0 : Int) (a1 : Int) : Option (List (Int) × Int) := ((spec_l05Code.f K a0 a1 ([])).bind fun t4 => (if (t4 == 0) = true then ((spec_l05Values.f K a0 a1).bind fun t11 => some (t11, 0)) else some ([], t4)))

/-! ### impl_OrderOfSpread_1: function 103 -/
def impl_OrderOfSpread_1.f (K : Nat) (f0_0 : Int) (f1_0 : Int) : Option (Bool) := ((impl_isNumber.f K f0_0 f1_0).bind fun t3 => some t3)

/-! ### impl_asked__impl_OrderOfSpread_1: function 67 -/
def impl_asked__impl_OrderOfSpread_1.f (K : Nat) (a0 : Int) (c1_0_0 : Int) (c1_1_0 : Int) : Option (Int) := ((impl_IsField.f K a0).bind fun t4 => (if t4 = true then ((impl_OrderOfSpread_1.f K c1_0_0 c1_1_0).bind fun t11 => (if t11 = true then some 0 else some 2)) else some 1))

/-! ### impl_orderOf: function 104 -/

def impl_orderOf.l0 (K : Nat) (a1 : Int) (t3 : List (Int)) : Nat → Int → Int → Option (Int × Int)
  | 0, _, _ => none
  | k18 + 1, x12, x13 => (if decide ((wrap64 (x13 + 1)) < (t3.length : Int)) = true then ((idx t3 x13).bind fun t29 => (if (t29 == 0) = true then (if (x12 == 0) = true then ((idx t3 (wrap64 (x13 + 1))).bind fun t39 => (if (t39 == a1) = true then some (x13, x13) else (impl_orderOf.l0 K a1 t3 k18 x13 (wrap64 (x13 + 1))))) else ((idx t3 (wrap64 (x13 + 1))).bind fun t48 => (if (t48 == a1) = true then some (x12, x13) else (impl_orderOf.l0 K a1 t3 k18 x12 (wrap64 (x13 + 1)))))) else (impl_orderOf.l0 K a1 t3 k18 x12 (wrap64 (x13 + 1))))) else some (x12, 0))
def impl_orderOf.f (K : Nat) (a0 : Int) (a1 : Int) : Option (Int × Int) := ((impl_spreads.f K a0 (wrap64 ((wrap64 ((wrap64 (2 * a0)) * a0)) + 2)) a1).bind fun t3 => (impl_orderOf.l0 K a1 t3 K 0 1))

/-! ### impl_OrderOfSpread: function 24 -/
def impl_OrderOfSpread.f (K : Nat) (a0 : Int) (a1 : Int) : Option (Int × Int) := ((impl_asked__impl_OrderOfSpread_1.f K a0 a0 a1).bind fun t10 => (if (t10 == 0) = true then ((impl_orderOf.f K a0 a1).bind fun (t17, t18) => some (t17, 0)) else some (0, t10)))

/-! ### laws_hasInt: function 25 -/

def laws_hasInt.l0 (K : Nat) (a0 : List (Int)) (a1 : Int) : Nat → Int → Option (Bool)
  | 0, _ => none
  | k9 + 1, x4 => (if decide (x4 < (a0.length : Int)) = true then ((idx a0 x4).bind fun t19 => (if (t19 == a1) = true then some true else (laws_hasInt.l0 K a0 a1 k9 (wrap64 (x4 + 1))))) else some false)
def laws_hasInt.f (K : Nat) (a0 : List (Int)) (a1 : Int) : Option (Bool) := (laws_hasInt.l0 K a0 a1 K 0)

/-! ### laws_FnSpreadPolynomials: function 4 -/

def laws_FnSpreadPolynomials.j1 (K : Nat) (a0 : List (Int)) : Option (Bool) := ((spec_DrawIsPermutation.f K a0).bind fun (t116, t117) => ((impl_IsPermutation.f K t116 t117).bind fun (t122, t123) => ((spec_IsPermutation.f K t116 t117).bind fun (t128, t129) => ((impl_ValuesOf.f K t116 t117).bind fun (t134, t137) => ((spec_ValuesOf.f K t116 t117).bind fun (t142, t145) => (if (t123 == t129) = true then (if t122 = true then (if t128 = true then (if (t137 == t145) = true then ((laws_likeInts.f K t134 t142).bind fun t156 => some t156) else some false) else some false) else (if t128 = true then some false else (if (t137 == t145) = true then ((laws_likeInts.f K t134 t142).bind fun t162 => some t162) else some false))) else some false))))))
mutual
def laws_FnSpreadPolynomials.l0 (K : Nat) (a0 : List (Int)) (t82 : Int) (t88 : List (Int)) (t170 : List (Int)) : Nat → Int → Option (Bool)
  | 0, _ => none
  | k188 + 1, x183 => (if decide (x183 < t82) = true then (laws_FnSpreadPolynomials.l1 K a0 t82 t88 t170 x183 k188 0 (wrap64 ((t88.length : Int) - 1))) else (laws_FnSpreadPolynomials.j1 K a0))
def laws_FnSpreadPolynomials.l1 (K : Nat) (a0 : List (Int)) (t82 : Int) (t88 : List (Int)) (t170 : List (Int)) (x183 : Int) : Nat → Int → Int → Option (Bool)
  | 0, _, _ => none
  | k207 + 1, x201, x202 => (if decide (0 ≤ x202) = true then ((idx t88 x202).bind fun t216 => (if (t82 == 0) = true then none else (laws_FnSpreadPolynomials.l1 K a0 t82 t88 t170 x183 k207 (Int.tmod (wrap64 ((wrap64 (x201 * x183)) + t216)) t82) (wrap64 (x202 - 1))))) else ((idx t170 x183).bind fun t224 => (if (x201 == t224) = true then (laws_FnSpreadPolynomials.l0 K a0 t82 t88 t170 k207 (wrap64 (x183 + 1))) else some false)))
end

def laws_FnSpreadPolynomials.j0 (K : Nat) (a0 : List (Int)) : Option (Bool) := ((spec_DrawCoefficientsOf.f K a0).bind fun (t82, t83) => ((impl_CoefficientsOf.f K t82 t83).bind fun (t88, t91) => ((spec_CoefficientsOf.f K t82 t83).bind fun (t96, t99) => (if (t91 == t99) = true then ((laws_likeInts.f K t88 t96).bind fun t108 => (if t108 = true then (if (t91 == 0) = true then ((impl_ValuesOf.f K t82 t83).bind fun (t170, t173) => (if (t173 == 0) = true then (if ((t170.length : Int) == t82) = true then (if ((t88.length : Int) == (wrap64 (t83 + 1))) = true then (laws_FnSpreadPolynomials.l0 K a0 t82 t88 t170 K 0) else some false) else some false) else some false)) else (laws_FnSpreadPolynomials.j1 K a0)) else some false)) else some false))))

def laws_FnSpreadPolynomials.l2 (K : Nat) (a0 : List (Int)) (t11 : Int) (t12 : Int) (t13 : Int) (t18 : Int) (t46 : List (Int)) : Nat → Int → Option (Bool)
  | 0, _ => none
  | k265 + 1, x260 => (if decide (x260 < (t46.length : Int)) = true then ((idx t46 x260).bind fun t276 => ((impl_SpreadPolynomial.f K t11 t12 t276).bind fun (t281, t282) => (if (t282 == 0) = true then (if (t281 == t13) = true then (laws_FnSpreadPolynomials.l2 K a0 t11 t12 t13 t18 t46 k265 (wrap64 (x260 + 1))) else some false) else some false))) else (if decide (t12 ≤ 300) = true then ((impl_SpreadPolynomial.f K t11 (wrap64 (3 * t12)) t13).bind fun (t296, t297) => ((impl_SpreadPolynomial.f K t11 3 t18).bind fun (t302, t303) => (if (t297 == 0) = true then (if (t303 == 0) = true then (if (t296 == t302) = true then (laws_FnSpreadPolynomials.j0 K a0) else some false) else some false) else some false))) else (laws_FnSpreadPolynomials.j0 K a0)))

def laws_FnSpreadPolynomials.l3 (K : Nat) (a0 : List (Int)) (t11 : Int) (t12 : Int) (t13 : Int) (t18 : Int) (t46 : List (Int)) : Nat → Int → Option (Bool)
  | 0, _ => none
  | k333 + 1, x328 => (if decide (x328 < (t46.length : Int)) = true then ((idx t46 x328).bind fun t344 => ((impl_SpreadPolynomial.f K t11 t12 t344).bind fun (t349, t350) => (if (t350 == 0) = true then (if (t349 == t13) = true then (laws_FnSpreadPolynomials.l3 K a0 t11 t12 t13 t18 t46 k333 (wrap64 (x328 + 1))) else some false) else some false))) else (if decide (t12 ≤ 300) = true then ((impl_SpreadPolynomial.f K t11 (wrap64 (3 * t12)) t13).bind fun (t364, t365) => ((impl_SpreadPolynomial.f K t11 3 t18).bind fun (t370, t371) => (if (t365 == 0) = true then (if (t371 == 0) = true then (if (t364 == t370) = true then (laws_FnSpreadPolynomials.j0 K a0) else some false) else some false) else some false))) else (laws_FnSpreadPolynomials.j0 K a0)))
def laws_FnSpreadPolynomials.f (K : Nat) (a0 : List (Int)) : Option (Bool) := ((laws_big.f K a0).bind fun t4 => (if t4 = true then some true else ((spec_DrawSpreadPolynomial.f K a0).bind fun (t11, t12, t13) => ((impl_SpreadPolynomial.f K t11 t12 t13).bind fun (t18, t19) => ((spec_SpreadPolynomial.f K t11 t12 t13).bind fun (t24, t25) => ((impl_ZerosOf.f K t11 t12).bind fun (t30, t33) => ((spec_ZerosOf.f K t11 t12).bind fun (t38, t41) => ((impl_LedTo.f K t11 t12 t13).bind fun (t46, t49) => ((spec_LedTo.f K t11 t12 t13).bind fun (t54, t57) => (if (t19 == t25) = true then (if (t18 == t24) = true then (if (t33 == t41) = true then ((laws_likeInts.f K t30 t38).bind fun t68 => (if t68 = true then (if (t49 == t57) = true then ((laws_likeInts.f K t46 t54).bind fun t74 => (if t74 = true then (if (t19 == 0) = true then ((impl_OrderOfSpread.f K t11 t13).bind fun (t241, t242) => (if (t242 == 0) = true then (if (t241 == 0) = true then none else (if (t18 == 0) = true then (if ((Int.tmod t12 t241) == 0) = true then ((laws_hasInt.f K t30 t13).bind fun t253 => (if t253 = true then (laws_FnSpreadPolynomials.l2 K a0 t11 t12 t13 t18 t46 K 0) else some false)) else some false) else (if ((Int.tmod t12 t241) == 0) = true then some false else ((laws_hasInt.f K t30 t13).bind fun t320 => (if t320 = true then some false else (laws_FnSpreadPolynomials.l3 K a0 t11 t12 t13 t18 t46 K 0)))))) else some false)) else (laws_FnSpreadPolynomials.j0 K a0)) else some false)) else some false) else some false)) else some false) else some false) else some false))))))))))

end Go.Proofs.Ytccbmdpikalpfaa
