/- What the functions of the program compute, in plain Lean. -/
import Derived.Test.YthmfgkdhaookoaaK
namespace Go.Proofs.Ythmfgkdhaookoaa
open Go Go.RowKit
attribute [local go_sem] Oper.quiet Oper.quietAt Oper.quietUpon
set_option linter.unusedVariables false
set_option linter.unusedSimpArgs false

/-! ### spec_l01In: function 67 -/
def spec_l01In.f (K : Nat) (a0 : Int) (a1 : Int) (a2 : Int) : Option (Bool) := (if decide (a1 ≤ a0) = true then some (decide (a0 ≤ a2)) else some false)

/-! ### spec_l01Field: function 75 -/

def spec_l01Field.l0 (K : Nat) (a0 : Int) : Nat → Int → Option (Bool)
  | 0, _ => none
  | k16 + 1, x11 => (if decide ((wrap64 (x11 * x11)) ≤ a0) = true then (if (x11 == 0) = true then none else (if ((Int.tmod a0 x11) == 0) = true then some false else (spec_l01Field.l0 K a0 k16 (wrap64 (x11 + 1))))) else some true)
def spec_l01Field.f (K : Nat) (a0 : Int) : Option (Bool) := ((spec_l01In.f K a0 3 31).bind fun t4 => (if t4 = true then (spec_l01Field.l0 K a0 K 2) else some false))

/-! ### spec_l01Numbers: function 49 -/

def spec_l01Numbers.l0 (K : Nat) (a0 : Int) (a1 : List (Int)) : Nat → Int → Option (Int)
  | 0, _ => none
  | k16 + 1, x11 => (if decide (x11 < (a1.length : Int)) = true then ((idx a1 x11).bind fun t26 => ((spec_l01In.f K t26 0 (wrap64 (a0 - 1))).bind fun t31 => (if t31 = true then (spec_l01Numbers.l0 K a0 a1 k16 (wrap64 (x11 + 1))) else some 2))) else some 0)
def spec_l01Numbers.f (K : Nat) (a0 : Int) (a1 : List (Int)) : Option (Int) := ((spec_l01Field.f K a0).bind fun t4 => (if t4 = true then (spec_l01Numbers.l0 K a0 a1 K 0) else some 1))

/-! ### spec_l05Code: function 42 -/
def spec_l05Code.f (K : Nat) (a0 : Int) (a1 : Int) (a2 : List (Int)) : Option (Int) := ((spec_l01Numbers.f K a0 a2).bind fun t3 => (if (t3 == 0) = true then ((spec_l01In.f K a1 0 1000).bind fun t10 => (if t10 = true then some t3 else some 2)) else some t3))

/-! ### spec_l01Mod: function 60 -/
def spec_l01Mod.f (K : Nat) (a0 : Int) (a1 : Int) : Option (Int) := (if (a1 == 0) = true then none else some (Int.tmod (wrap64 ((Int.tmod a0 a1) + a1)) a1))

/-! ### spec_l05Value: function 43 -/

def spec_l05Value.l0 (K : Nat) (a0 : Int) (a2 : Int) : Nat → Int → Int → Int → Option (Int)
  | 0, _, _, _ => none
  | k11 + 1, x4, x5, x6 => (if decide (0 < x4) = true then (if (a0 == 0) = true then none else ((spec_l01Mod.f K (wrap64 ((wrap64 ((wrap64 ((Int.tmod (wrap64 (2 * (wrap64 (1 - (wrap64 (2 * a2)))))) a0) * x6)) - x5)) + (wrap64 (2 * a2)))) a0).bind fun t22 => (spec_l05Value.l0 K a0 a2 k11 (wrap64 (x4 - 1)) x6 t22))) else some x5)
def spec_l05Value.f (K : Nat) (a0 : Int) (a1 : Int) (a2 : Int) : Option (Int) := (spec_l05Value.l0 K a0 a2 K a1 0 a2)

/-! ### spec_SpreadPolynomial: function 15 -/
def spec_SpreadPolynomial.f (K : Nat) (a0 : Int) (a1 : Int) (a2 : Int) : Option (Int × Int) := ((spec_l05Code.f K a0 a1 ([a2])).bind fun t7 => (if (t7 == 0) = true then ((spec_l05Value.f K a0 a1 a2).bind fun t14 => some (t14, 0)) else some (0, t7)))

/-! ### impl_IsField: function 71 -/
def impl_IsField.f (K : Nat) (a0 : Int) : Option (Bool) := (if (a0 == 3) = true then some true else (if (a0 == 5) = true then some true else (if (a0 == 7) = true then some true else (if (a0 == 11) = true then some true else (if (a0 == 13) = true then some true else (if (a0 == 17) = true then some true else (if (a0 == 19) = true then some true else (if (a0 == 23) = true then some true else (if (a0 == 29) = true then some true else (if (a0 == 31) = true then some true else some false))))))))))

/-! ### impl_isNumber: function 46 -/
def impl_isNumber.f (K : Nat) (a0 : Int) (a1 : Int) : Option (Bool) := (if decide (0 ≤ a1) = true then some (decide (a1 < a0)) else some false)

/-! ### impl_isIndex: function 47 -/
def impl_isIndex.f (K : Nat) (a0 : Int) : Option (Bool) := (if decide (0 ≤ a0) = true then some (decide (a0 ≤ 1000)) else some false)

/-! ### impl_SpreadPolynomial_1: function 45 -/
def impl_SpreadPolynomial_1.f (K : Nat) (f0_0 : Int) (f1_0 : Int) (f2_0 : Int) : Option (Bool) := ((impl_isNumber.f K f0_0 f1_0).bind fun t3 => (if t3 = true then ((impl_isIndex.f K f2_0).bind fun t8 => some t8) else some false))

/-! ### impl_asked__impl_SpreadPolynomial_1: function 44 -/
def impl_asked__impl_SpreadPolynomial_1.f (K : Nat) (a0 : Int) (c1_0_0 : Int) (c1_1_0 : Int) (c1_2_0 : Int) : Option (Int) := ((impl_IsField.f K a0).bind fun t4 => (if t4 = true then ((impl_SpreadPolynomial_1.f K c1_0_0 c1_1_0 c1_2_0).bind fun t11 => (if t11 = true then some 0 else some 2)) else some 1))

/-! ### impl_rest: function 62 -/
def impl_rest.f (K : Nat) (a0 : Int) (a1 : Int) : Option (Int) := (if (a0 == 0) = true then none else some (Int.tmod (wrap64 ((Int.tmod a1 a0) + a0)) a0))

/-! ### impl_spreads: function 74 -/

def impl_spreads.l0 (K : Nat) (a0 : Int) (a1 : Int) (a2 : Int) : Nat → Int → List (Int) → Option (List (Int))
  | 0, _, _ => none
  | k19 + 1, x10, x11 => (if decide (x10 < a1) = true then ((idx x11 x10).bind fun t28 => ((idx x11 (wrap64 (x10 - 1))).bind fun t34 => ((impl_rest.f K a0 (wrap64 ((wrap64 ((wrap64 ((wrap64 (2 * (wrap64 (1 - (wrap64 (2 * a2)))))) * t28)) - t34)) + (wrap64 (2 * a2))))).bind fun t40 => (if decide (x11.length ≤ 1000000) = true then (impl_spreads.l0 K a0 a1 a2 k19 (wrap64 (x10 + 1)) (x11 ++ [t40])) else none)))) else some x11)
def impl_spreads.f (K : Nat) (a0 : Int) (a1 : Int) (a2 : Int) : Option (List (Int)) := (impl_spreads.l0 K a0 a1 a2 K 1 ([0, a2]))

/-! ### impl_spreadOf: function 48 -/
def impl_spreadOf.f (K : Nat) (a0 : Int) (a1 : Int) (a2 : Int) : Option (Int) := ((impl_spreads.f K a0 a1 a2).bind fun t3 => ((idx t3 a1).bind fun t9 => some t9))

/-! ### impl_SpreadPolynomial: function 16 -/
def impl_SpreadPolynomial.f (K : Nat) (a0 : Int) (a1 : Int) (a2 : Int) : Option (Int × Int) := ((impl_asked__impl_SpreadPolynomial_1.f K a0 a0 a2 a1).bind fun t13 => (if (t13 == 0) = true then ((impl_spreadOf.f K a0 a1 a2).bind fun t20 => some (t20, 0)) else some (0, t13)))

/-! ### laws_FnExactSpreadPolynomial: function 3 -/
def laws_FnExactSpreadPolynomial.f (K : Nat) (a0 : Int) (a1 : Int) (a2 : Int) : Option (Bool) := ((spec_SpreadPolynomial.f K a0 a1 a2).bind fun (t3, t4) => ((impl_SpreadPolynomial.f K a0 a1 a2).bind fun (t9, t10) => (if (t9 == t3) = true then (if (t10 == t4) = true then some true else some false) else some false)))

/-! ### spec_PeriodOfSpread: function 17 -/

def spec_PeriodOfSpread.l0 (K : Nat) (a0 : Int) (a1 : Int) : Nat → Int → Option (Int × Int)
  | 0, _ => none
  | k20 + 1, x15 => ((spec_l05Value.f K a0 x15 a1).bind fun t27 => (if (t27 == 0) = true then ((spec_l05Value.f K a0 (wrap64 (x15 + 1)) a1).bind fun t32 => (if (t32 == a1) = true then some (x15, 0) else (spec_PeriodOfSpread.l0 K a0 a1 k20 (wrap64 (x15 + 1))))) else (spec_PeriodOfSpread.l0 K a0 a1 k20 (wrap64 (x15 + 1)))))
def spec_PeriodOfSpread.f (K : Nat) (a0 : Int) (a1 : Int) : Option (Int × Int) := ((spec_l01Numbers.f K a0 ([a1])).bind fun t7 => (if (t7 == 0) = true then (spec_PeriodOfSpread.l0 K a0 a1 K 1) else some (0, t7)))

/-! ### impl_PeriodOfSpread_1: function 50 -/
def impl_PeriodOfSpread_1.f (K : Nat) (f0_0 : Int) (f1_0 : Int) : Option (Bool) := ((impl_isNumber.f K f0_0 f1_0).bind fun t3 => some t3)

/-! ### impl_asked__impl_PeriodOfSpread_1: function 44 -/
def impl_asked__impl_PeriodOfSpread_1.f (K : Nat) (a0 : Int) (c1_0_0 : Int) (c1_1_0 : Int) : Option (Int) := ((impl_IsField.f K a0).bind fun t4 => (if t4 = true then ((impl_PeriodOfSpread_1.f K c1_0_0 c1_1_0).bind fun t11 => (if t11 = true then some 0 else some 2)) else some 1))

/-! ### impl_orderOf: function 51 -/

def impl_orderOf.l0 (K : Nat) (a1 : Int) (t3 : List (Int)) : Nat → Int → Int → Option (Int × Int)
  | 0, _, _ => none
  | k18 + 1, x12, x13 => (if decide ((wrap64 (x13 + 1)) < (t3.length : Int)) = true then ((idx t3 x13).bind fun t29 => (if (t29 == 0) = true then (if (x12 == 0) = true then ((idx t3 (wrap64 (x13 + 1))).bind fun t39 => (if (t39 == a1) = true then some (x13, x13) else (impl_orderOf.l0 K a1 t3 k18 x13 (wrap64 (x13 + 1))))) else ((idx t3 (wrap64 (x13 + 1))).bind fun t48 => (if (t48 == a1) = true then some (x12, x13) else (impl_orderOf.l0 K a1 t3 k18 x12 (wrap64 (x13 + 1)))))) else (impl_orderOf.l0 K a1 t3 k18 x12 (wrap64 (x13 + 1))))) else some (x12, 0))
def impl_orderOf.f (K : Nat) (a0 : Int) (a1 : Int) : Option (Int × Int) := ((impl_spreads.f K a0 (wrap64 ((wrap64 ((wrap64 (2 * a0)) * a0)) + 2)) a1).bind fun t3 => (impl_orderOf.l0 K a1 t3 K 0 1))

/-! ### impl_PeriodOfSpread: function 18 -/
def impl_PeriodOfSpread.f (K : Nat) (a0 : Int) (a1 : Int) : Option (Int × Int) := ((impl_asked__impl_PeriodOfSpread_1.f K a0 a0 a1).bind fun t10 => (if (t10 == 0) = true then ((impl_orderOf.f K a0 a1).bind fun (t17, t18) => some (t18, 0)) else some (0, t10)))

/-! ### laws_FnExactPeriodOfSpread: function 4 -/
def laws_FnExactPeriodOfSpread.f (K : Nat) (a0 : Int) (a1 : Int) : Option (Bool) := ((spec_PeriodOfSpread.f K a0 a1).bind fun (t3, t4) => ((impl_PeriodOfSpread.f K a0 a1).bind fun (t9, t10) => (if (t9 == t3) = true then (if (t10 == t4) = true then some true else some false) else some false)))

/-! ### spec_l05Order: function 52 -/

def spec_l05Order.l0 (K : Nat) (a0 : Int) (a1 : Int) : Nat → Int → Option (Int)
  | 0, _ => none
  | k9 + 1, x4 => ((spec_l05Value.f K a0 x4 a1).bind fun t16 => (if (t16 == 0) = true then some x4 else (spec_l05Order.l0 K a0 a1 k9 (wrap64 (x4 + 1)))))
def spec_l05Order.f (K : Nat) (a0 : Int) (a1 : Int) : Option (Int) := (spec_l05Order.l0 K a0 a1 K 1)

/-! ### spec_OrderOfSpread: function 19 -/
def spec_OrderOfSpread.f (K : Nat) (a0 : Int) (a1 : Int) : Option (Int × Int) := ((spec_l01Numbers.f K a0 ([a1])).bind fun t7 => (if (t7 == 0) = true then ((spec_l05Order.f K a0 a1).bind fun t14 => some (t14, 0)) else some (0, t7)))

/-! ### impl_OrderOfSpread_1: function 53 -/
def impl_OrderOfSpread_1.f (K : Nat) (f0_0 : Int) (f1_0 : Int) : Option (Bool) := ((impl_isNumber.f K f0_0 f1_0).bind fun t3 => some t3)

/-! ### impl_asked__impl_OrderOfSpread_1: function 44 -/
def impl_asked__impl_OrderOfSpread_1.f (K : Nat) (a0 : Int) (c1_0_0 : Int) (c1_1_0 : Int) : Option (Int) := ((impl_IsField.f K a0).bind fun t4 => (if t4 = true then ((impl_OrderOfSpread_1.f K c1_0_0 c1_1_0).bind fun t11 => (if t11 = true then some 0 else some 2)) else some 1))

/-! ### impl_OrderOfSpread: function 20 -/
def impl_OrderOfSpread.f (K : Nat) (a0 : Int) (a1 : Int) : Option (Int × Int) := ((impl_asked__impl_OrderOfSpread_1.f K a0 a0 a1).bind fun t10 => (if (t10 == 0) = true then ((impl_orderOf.f K a0 a1).bind fun (t17, t18) => some (t17, 0)) else some (0, t10)))

/-! ### laws_FnExactOrderOfSpread: function 5 -/
def laws_FnExactOrderOfSpread.f (K : Nat) (a0 : Int) (a1 : Int) : Option (Bool) := ((spec_OrderOfSpread.f K a0 a1).bind fun (t3, t4) => ((impl_OrderOfSpread.f K a0 a1).bind fun (t9, t10) => (if (t9 == t3) = true then (if (t10 == t4) = true then some true else some false) else some false)))

end Go.Proofs.Ythmfgkdhaookoaa
