/- What the functions of the program compute, in plain Lean. -/
import Derived.Test.YthmfgkdhaookoaaK
namespace Go.Proofs.Ythmfgkdhaookoaa
open Go Go.RowKit
attribute [local go_sem] Oper.quiet Oper.quietAt Oper.quietUpon
set_option linter.unusedVariables false
set_option linter.unusedSimpArgs false

/-! ### spec_l01In: function 67 -/
def spec_l01In.f (K : Nat) (a0 : Int) (a1 : Int) (a2 : Int) : Option (Bool) := (if decide (a1 ≤ a0) = true then some (decide (a0 ≤ a2)) else some false)

/-! ### spec_l01Field: function 75 -/

def spec_l01Field.l0 (K : Nat) (a0 : Int) : Nat → Int → Option (Bool)
  | 0, _ => none
  | k16 + 1, x11 => (if decide ((wrap64 (x11 * x11)) ≤ a0) = true then (if (x11 == 0) = true then none else (if ((Int.tmod a0 x11) == 0) = true then some false else (spec_l01Field.l0 K a0 k16 (wrap64 (x11 + 1))))) else some true)
def spec_l01Field.f (K : Nat) (a0 : Int) : Option (Bool) := ((spec_l01In.f K a0 3 31).bind fun t4 => (if t4 = true then (spec_l01Field.l0 K a0 K 2) else some false))

/-! ### spec_l01Numbers: function 49 -/

def spec_l01Numbers.l0 (K : Nat) (a0 : Int) (a1 : List (Int)) : Nat → Int → Option (Int)
  | 0, _ => none
  | k16 + 1, x11 => (if decide (x11 < (a1.length : Int)) = true then ((idx a1 x11).bind fun t26 => ((spec_l01In.f K t26 0 (wrap64 (a0 - 1))).bind fun t31 => (if t31 = true then (spec_l01Numbers.l0 K a0 a1 k16 (wrap64 (x11 + 1))) else some 2))) else some 0)
def spec_l01Numbers.f (K : Nat) (a0 : Int) (a1 : List (Int)) : Option (Int) := ((spec_l01Field.f K a0).bind fun t4 => (if t4 = true then (spec_l01Numbers.l0 K a0 a1 K 0) else some 1))

/-! ### spec_l05Code: function 42 -/
def spec_l05Code.f (K : Nat) (a0 : Int) (a1 : Int) (a2 : List (Int)) : Option (Int) := ((spec_l01Numbers.f K a0 a2).bind fun t3 => (if (t3 == 0) = true then ((spec_l01In.f K a1 0 1000).bind fun t10 => (if t10 = true then some t3 else some 2)) else some t3))

/-! ### spec_l01Mod: function 60 -/
def spec_l01Mod.f (K : Nat) (a0 : Int) (a1 : Int) : Option (Int) := (if (a1 == 0) = true then none else some (Int.tmod (wrap64 ((Int.tmod a0 a1) + a1)) a1))

/-! ### spec_l05Value: function 43 -/

def spec_l05Value.l0 (K : Nat) (a0 : Int) (a2 : Int) : Nat → Int → Int → Int → Option (Int)
  | 0, _, _, _ => none
  | k11 + 1, x4, x5, x6 => (if decide (0 < x4) = true then (if (a0 == 0) = true then none else ((spec_l01Mod.f K (wrap64 ((wrap64 ((wrap64 ((Int.tmod (wrap64 (2 * (wrap64 (1 - (wrap64 (2 * a2)))))) a0) * x6)) - x5)) + (wrap64 (2 * a2)))) a0).bind fun t22 => (spec_l05Value.l0 K a0 a2 k11 (wrap64 (x4 - 1)) x6 t22))) else some x5)
def spec_l05Value.f (K : Nat) (a0 : Int) (a1 : Int) (a2 : Int) : Option (Int) := (spec_l05Value.l0 K a0 a2 K a1 0 a2)

/-! ### spec_SpreadPolynomial: function 15 -/
def spec_SpreadPolynomial.f (K : Nat) (a0 : Int) (a1 : Int) (a2 : Int) : Option (Int × Int) := ((spec_l05Code.f K a0 a1 ([a2])).bind fun t7 => (if (t7 == 0) = true then ((spec_l05Value.f K a0 a1 a2).bind fun t14 => some (t14, 0)) else some (0, t7)))

/-! ### impl_IsField: function 71 -/
def impl_IsField.f (K : Nat) (a0 : Int) : Option (Bool) := (if (a0 == 3) = true then some true else (if (a0 == 5) = true then some true else (if (a0 == 7) = true then some true else (if (a0 == 11) = true then some true else (if (a0 == 13) = true then some true else (if (a0 == 17) = true then some true else (if (a0 == 19) = true then some true else (if (a0 == 23) = true then some true else (if (a0 == 29) = true then some true else (if (a0 == 31) = true then some true else some false))))))))))

/-! ### impl_isNumber: function 46 -/
def impl_isNumber.f (K : Nat) (a0 : Int) (a1 : Int) : Option (Bool) := (if decide (0 ≤ a1) = true then some (decide (a1 < a0)) else some false)

/-! ### impl_isIndex: function 47 -/
def impl_isIndex.f (K : Nat) (a0 : Int) : Option (Bool) := (if decide (0 ≤ a0) = true then some (decide (a0 ≤ 1000)) else some false)

/-! ### impl_SpreadPolynomial_1: function 45 -/
def impl_SpreadPolynomial_1.f (K : Nat) (f0_0 : Int) (f1_0 : Int) (f2_0 : Int) : Option (Bool) := ((impl_isNumber.f K f0_0 f1_0).bind fun t3 => (if t3 = true then ((impl_isIndex.f K f2_0).bind fun t8 => some t8) else some false))

/-! ### impl_asked__impl_SpreadPolynomial_1: function 44 -/
def impl_asked__impl_SpreadPolynomial_1.f (K : Nat) (a0 : Int) (c1_0_0 : Int) (c1_1_0 : Int) (c1_2_0 : Int) : Option (Int) := ((impl_IsField.f K a0).bind fun t4 => (if t4 = true then ((impl_SpreadPolynomial_1.f K c1_0_0 c1_1_0 c1_2_0).bind fun t11 => (if t11 = true then some 0 else some 2)) else some 1))

/-! ### impl_rest: function 62 -/
def impl_rest.f (K : Nat) (a0 : Int) (a1 : Int) : Option (Int) := (if (a0 == 0) = true then none else some (Int.tmod (wrap64 ((Int.tmod a1 a0) + a0)) a0))

/-! ### impl_spreads: function 74 -/

def impl_spreads.l0 (K : Nat) (a0 : Int) (a1 : Int) (a2 : Int) : Nat → Int → List (Int) → Option (List (Int))
  | 0, _, _ => none
  | k19 + 1, x10, x11 => (if decide (x10 < a1) = true then ((idx x11 x10).bind fun t28 => ((idx x11 (wrap64 (x10 - 1))).bind fun t34 => ((impl_rest.f K a0 (wrap64 ((wrap64 ((wrap64 ((wrap64 (2 * (wrap64 (1 - (wrap64 (2 * a2)))))) * t28)) - t34)) + (wrap64 (2 * a2))))).bind fun t40 => (if decide (x11.length ≤ 1000000) = true then (impl_spreads.l0 K a0 a1 a2 k19 (wrap64 (x10 + 1)) (x11 ++ [t40])) else none)))) else some x11)
def impl_spreads.f (K : Nat) (a0 : Int) (a1 : Int) (a2 : Int) : Option (List (Int)) := (impl_spreads.l0 K a0 a1 a2 K 1 ([0, a2]))

/-! ### impl_spreadOf: function 48 -/
def impl_spreadOf.f (K : Nat) (a0 : Int) (a1 : Int) (a2 : Int) : Option (Int) := ((impl_spreads.f K a0 a1 a2).bind fun t3 => ((idx t3 a1).bind fun t9 => some t9))

/-! ### impl_SpreadPolynomial: function 16 -/
def impl_SpreadPolynomial.f (K : Nat) (a0 : Int) (a1 : Int) (a2 : Int) : Option (Int × Int) := ((impl_asked__impl_SpreadPolynomial_1.f K a0 a0 a2 a1).bind fun t13 => (if (t13 == 0) = true then ((impl_spreadOf.f K a0 a1 a2).bind fun t20 => some (t20, 0)) else some (0, t13)))

/-! ### laws_FnExactSpreadPolynomial: function 3 -/
def laws_FnExactSpreadPolynomial.f (K : Nat) (a0 : Int) (a1 : Int) (a2 : Int) : Option (Bool) := ((spec_SpreadPolynomial.f K a0 a1 a2).bind fun (t3, t4) => ((impl_SpreadPolynomial.f K a0 a1 a2).bind fun (t9, t10) => (if (t9 == t3) = true then (if (t10 == t4) = true then some true else some false) else some false)))

/-! ### spec_PeriodOfSpread: function 17 -/

def spec_PeriodOfSpread.l0 (K : Nat) (a0 : Int) (a1 : Int) : Nat → Int → Option (Int × Int)
  | 0, _ => none
  | k20 + 1, x15 => ((spec_l05Value.f K a0 x15 a1).bind fun t27 => (if (t27 == 0) = true then ((spec_l05Value.f K a0 (wrap64 (x15 + 1)) a1).bind fun t32 => (if (t32 == a1) = true then some (x15, 0) else (spec_PeriodOfSpread.l0 K a0 a1 k20 (wrap64 (x15 + 1))))) else (spec_PeriodOfSpread.l0 K a0 a1 k20 (wrap64 (x15 + 1)))))
def spec_PeriodOfSpread.f (K : Nat) (a0 : Int) (a1 : Int) : Option (Int × Int) := ((spec_l01Numbers.f K a0 ([a1])).bind fun t7 => (if (t7 == 0) = true then (spec_PeriodOfSpread.l0 K a0 a1 K 1) else some (0, t7)))

/-! ### impl_PeriodOfSpread_1: function 50 -/
def impl_PeriodOfSpread_1.f (K : Nat) (f0_0 : Int) (f1_0 : Int) : Option (Bool) := ((impl_isNumber.f K f0_0 f1_0).bind fun t3 => some t3)

/-! ### impl_asked__impl_PeriodOfSpread_1: function 44 -/
def impl_asked__impl_PeriodOfSpread_1.f (K : Nat) (a0 : Int) (c1_0_0 : Int) (c1_1_0 : Int) : Option (Int) := ((impl_IsField.f K a0).bind fun t4 => (if t4 = true then ((impl_PeriodOfSpread_1.f K c1_0_0 c1_1_0).bind fun t11 => (if t11 = true then some 0 else some 2)) else some 1))

/-! ### impl_orderOf: function 51 -/

def impl_orderOf.l0 (K : Nat) (a1 : Int) (t3 : List (Int)) : Nat → Int → Int → Option (Int × Int)
  | 0, _, _ => none
  | k18 + 1, x12, x13 => (if decide ((wrap64 (x13 + 1)) < (t3.length : Int)) = true then ((idx t3 x13).bind fun t29 => (if (t29 == 0) = true then (if (x12 == 0) = true then ((idx t3 (wrap64 (x13 + 1))).bind fun t39 => (if (t39 == a1) = true then some (x13, x13) else (impl_orderOf.l0 K a1 t3 k18 x13 (wrap64 (x13 + 1))))) else ((idx t3 (wrap64 (x13 + 1))).bind fun t48 => (if (t48 == a1) = true then some (x12, x13) else (impl_orderOf.l0 K a1 t3 k18 x12 (wrap64 (x13 + 1)))))) else (impl_orderOf.l0 K a1 t3 k18 x12 (wrap64 (x13 + 1))))) else some (x12, 0))
def impl_orderOf.f (K : Nat) (a0 : Int) (a1 : Int) : Option (Int × Int) := ((impl_spreads.f K a0 (wrap64 ((wrap64 ((wrap64 (2 * a0)) * a0)) + 2)) a1).bind fun t3 => (impl_orderOf.l0 K a1 t3 K 0 1))

/-! ### impl_PeriodOfSpread: function 18 -/
def impl_PeriodOfSpread.f (K : Nat) (a0 : Int) (a1 : Int) : Option (Int × Int) := ((impl_asked__impl_PeriodOfSpread_1.f K a0 a0 a1).bind fun t10 => (if (t10 == 0) = true then ((impl_orderOf.f K a0 a1).bind fun (t17, t18) => some (t18, 0)) else some (0, t10)))

/-! ### laws_FnExactPeriodOfSpread: function 4 -/
def laws_FnExactPeriodOfSpread.f (K : Nat) (a0 : Int) (a1 : Int) : Option (Bool) := ((spec_PeriodOfSpread.f K a0 a1).bind fun (t3, t4) => ((impl_PeriodOfSpread.f K a0 a1).bind fun (t9, t10) => (if (t9 == t3) = true then (if (t10 == t4) = true then some true else some false) else some false)))

/-! ### spec_l05Order: function 52 -/

def spec_l05Order.l0 (K : Nat) (a0 : Int) (a1 : Int) : Nat → Int → Option (Int)
  | 0, _ => none
  | k9 + 1, x4 => ((spec_l05Value.f K a0 x4 a1).bind fun t16 => (if (t16 == 0) = true then some x4 else (spec_l05Order.l0 K a0 a1 k9 (wrap64 (x4 + 1)))))
def spec_l05Order.f (K : Nat) (a0 : Int) (a1 : Int) : Option (Int) := (spec_l05Order.l0 K a0 a1 K 1)

/-! ### spec_OrderOfSpread: function 19 -/
def spec_OrderOfSpread.f (K : Nat) (a0 : Int) (a1 : Int) : Option (Int × Int) := ((spec_l01Numbers.f K a0 ([a1])).bind fun t7 => (if (t7 == 0) = true then ((spec_l05Order.f K a0 a1).bind fun t14 => some (t14, 0)) else some (0, t7)))

/-! ### impl_OrderOfSpread_1: function 53 -/
def impl_OrderOfSpread_1.f (K : Nat) (f0_0 : Int) (f1_0 : Int) : Option (Bool) := ((impl_isNumber.f K f0_0 f1_0).bind fun t3 => some t3)

/-! ### impl_asked__impl_OrderOfSpread_1: function 44 -/
def impl_asked__impl_OrderOfSpread_1.f (K : Nat) (a0 : Int) (c1_0_0 : Int) (c1_1_0 : Int) : Option (Int) := ((impl_IsField.f K a0).bind fun t4 => (if t4 = true then ((impl_OrderOfSpread_1.f K c1_0_0 c1_1_0).bind fun t11 => (if t11 = true then some 0 else some 2)) else some 1))

/-! ### impl_OrderOfSpread: function 20 -/
def impl_OrderOfSpread.f (K : Nat) (a0 : Int) (a1 : Int) : Option (Int × Int) := ((impl_asked__impl_OrderOfSpread_1.f K a0 a0 a1).bind fun t10 => (if (t10 == 0) = true then ((impl_orderOf.f K a0 a1).bind fun (t17, t18) => some (t17, 0)) else some (0, t10)))

/-! ### laws_FnExactOrderOfSpread: function 5 -/
def laws_FnExactOrderOfSpread.f (K : Nat) (a0 : Int) (a1 : Int) : Option (Bool) := ((spec_OrderOfSpread.f K a0 a1).bind fun (t3, t4) => ((impl_OrderOfSpread.f K a0 a1).bind fun (t9, t10) => (if (t9 == t3) = true then (if (t10 == t4) = true then some true else some false) else some false)))

/-! ### spec_l05Values: function 54 -/

def spec_l05Values.l0 (K : Nat) (a0 : Int) (a1 : Int) : Nat → Int → List (Int) → Option (List (Int))
  | 0, _, _ => none
  | k19 + 1, x10, x11 => (if decide (x10 < a0) = true then ((spec_l05Value.f K a0 a1 x10).bind fun t28 => (if decide (x11.length ≤ 1000000) = true then (spec_l05Values.l0 K a0 a1 k19 (wrap64 (x10 + 1)) (x11 ++ [t28])) else none)) else some x11)
def spec_l05Values.f (K : Nat) (a0 : Int) (a1 : Int) : Option (List (Int)) := (spec_l05Values.l0 K a0 a1 K 0 ([] : List (Int)))

/-! ### spec_IsPermutation: function 21 -/

def spec_IsPermutation.l0 (K : Nat) (t11 : List (Int)) : Nat → Int → List (Bool) → Option (Bool × Int)
  | 0, _, _ => none
  | k37 + 1, x27, x28 => (if decide (x27 < (t11.length : Int)) = true then ((idx t11 x27).bind fun t48 => ((idx x28 t48).bind fun t53 => (if t53 = true then some (false, 0) else ((idx t11 x27).bind fun t60 => ((idx x28 t60).bind fun t65 => (spec_IsPermutation.l0 K t11 k37 (wrap64 (x27 + 1)) (x28.set (t60).toNat true))))))) else some (true, 0))
def spec_IsPermutation.f (K : Nat) (a0 : Int) (a1 : Int) : Option (Bool × Int) := ((spec_l05Code.f K a0 a1 ([])).bind fun t4 => (if (t4 == 0) = true then ((spec_l05Values.f K a0 a1).bind fun t11 => (if decide (0 ≤ a0) = true then (if decide (a0 ≤ 1000000) = true then (spec_IsPermutation.l0 K t11 K 0 (repl ((a0).toNat) (false : Bool))) else none) else none)) else some (false, t4)))

/-! ### impl_IsPermutation_1: function 55 -/
def impl_IsPermutation_1.f (K : Nat) (f0_0 : Int) : Option (Bool) := ((impl_isIndex.f K f0_0).bind fun t3 => some t3)

/-! ### impl_asked__impl_IsPermutation_1: function 44 -/
def impl_asked__impl_IsPermutation_1.f (K : Nat) (a0 : Int) (c1_0_0 : Int) : Option (Int) := ((impl_IsField.f K a0).bind fun t4 => (if t4 = true then ((impl_IsPermutation_1.f K c1_0_0).bind fun t11 => (if t11 = true then some 0 else some 2)) else some 1))

/-! ### impl_valuesOf: function 56 -/

def impl_valuesOf.l0 (K : Nat) (a0 : Int) (a1 : Int) : Nat → Int → List (Int) → Option (List (Int))
  | 0, _, _ => none
  | k19 + 1, x10, x11 => (if decide (x10 < a0) = true then ((impl_spreadOf.f K a0 a1 x10).bind fun t28 => (if decide (x11.length ≤ 1000000) = true then (impl_valuesOf.l0 K a0 a1 k19 (wrap64 (x10 + 1)) (x11 ++ [t28])) else none)) else some x11)
def impl_valuesOf.f (K : Nat) (a0 : Int) (a1 : Int) : Option (List (Int)) := (impl_valuesOf.l0 K a0 a1 K 0 ([] : List (Int)))

/-! ### impl_IsPermutation: function 22 -/

def impl_IsPermutation.l0 (K : Nat) (t24 : List (Int)) : Nat → Int → List (Bool) → Option (Bool × Int)
  | 0, _, _ => none
  | k41 + 1, x30, x31 => (if decide (x30 < (t24.length : Int)) = true then ((idx t24 x30).bind fun t51 => ((idx x31 t51).bind fun t58 => (if t58 = true then some (false, 0) else ((idx x31 t51).bind fun t65 => (impl_IsPermutation.l0 K t24 k41 (wrap64 (x30 + 1)) (x31.set (t51).toNat true)))))) else some (true, 0))
def impl_IsPermutation.f (K : Nat) (a0 : Int) (a1 : Int) : Option (Bool × Int) := ((impl_asked__impl_IsPermutation_1.f K a0 a1).bind fun t7 => (if (t7 == 0) = true then (if decide (0 ≤ a0) = true then (if decide (a0 ≤ 1000000) = true then ((impl_valuesOf.f K a0 a1).bind fun t24 => (impl_IsPermutation.l0 K t24 K 0 (repl ((a0).toNat) (false : Bool)))) else none) else none) else some (false, t7)))

/-! ### laws_FnExactIsPermutation: function 6 -/
def laws_FnExactIsPermutation.f (K : Nat) (a0 : Int) (a1 : Int) : Option (Bool) := ((spec_IsPermutation.f K a0 a1).bind fun (t3, t4) => ((impl_IsPermutation.f K a0 a1).bind fun (t9, t10) => (if t9 = true then (if t3 = true then (if (t10 == t4) = true then some true else some false) else some false) else (if t3 = true then some false else (if (t10 == t4) = true then some true else some false)))))

/-! ### spec_WalkRound: function 23 -/
mutual
def spec_WalkRound.l0 (K : Nat) (a0 : Int) (a1 : Int) (a2 : Int) : Nat → Int → List (Int) → Option (Int × Int × Int)
  | 0, _, _ => none
  | k33 + 1, x24, x25 => (if decide (x24 < ((repl ((a0).toNat) (0 : Int)).length : Int)) = true then ((idx x25 x24).bind fun t43 => (spec_WalkRound.l0 K a0 a1 a2 k33 (wrap64 (x24 + 1)) (x25.set (x24).toNat (-1)))) else (spec_WalkRound.l1 K a0 a1 k33 a2 0 x25))
def spec_WalkRound.l1 (K : Nat) (a0 : Int) (a1 : Int) : Nat → Int → Int → List (Int) → Option (Int × Int × Int)
  | 0, _, _, _ => none
  | k67 + 1, x57, x58, x59 => ((idx x59 x57).bind fun t74 => (if decide (t74 < 0) = true then ((idx x59 x57).bind fun t81 => ((spec_l05Value.f K a0 a1 x57).bind fun t93 => (spec_WalkRound.l1 K a0 a1 k67 t93 (wrap64 (x58 + 1)) (x59.set (x57).toNat x58)))) else ((idx x59 x57).bind fun t99 => ((idx x59 x57).bind fun t105 => some (t99, wrap64 (x58 - t105), 0)))))
end
def spec_WalkRound.f (K : Nat) (a0 : Int) (a1 : Int) (a2 : Int) : Option (Int × Int × Int) := ((spec_l05Code.f K a0 a1 ([a2])).bind fun t7 => (if (t7 == 0) = true then (if decide (0 ≤ a0) = true then (if decide (a0 ≤ 1000000) = true then (spec_WalkRound.l0 K a0 a1 a2 K 0 (repl ((a0).toNat) (0 : Int))) else none) else none) else some (0, 0, t7)))

/-! ### impl_WalkRound_1: function 57 -/
def impl_WalkRound_1.f (K : Nat) (f0_0 : Int) (f1_0 : Int) (f2_0 : Int) : Option (Bool) := ((impl_isNumber.f K f0_0 f1_0).bind fun t3 => (if t3 = true then ((impl_isIndex.f K f2_0).bind fun t8 => some t8) else some false))

/-! ### impl_asked__impl_WalkRound_1: function 44 -/
def impl_asked__impl_WalkRound_1.f (K : Nat) (a0 : Int) (c1_0_0 : Int) (c1_1_0 : Int) (c1_2_0 : Int) : Option (Int) := ((impl_IsField.f K a0).bind fun t4 => (if t4 = true then ((impl_WalkRound_1.f K c1_0_0 c1_1_0 c1_2_0).bind fun t11 => (if t11 = true then some 0 else some 2)) else some 1))

/-! ### impl_walk: function 58 -/

def impl_walk.l0 (K : Nat) (t3 : List (Int)) : Nat → Int → Int → List (Int) → Option (List (Int))
  | 0, _, _, _ => none
  | k27 + 1, x14, x15, x18 => (if decide (0 < x15) = true then ((idx t3 x14).bind fun t37 => (if decide (x18.length ≤ 1000000) = true then (impl_walk.l0 K t3 k27 t37 (wrap64 (x15 - 1)) (x18 ++ [t37])) else none)) else some x18)
def impl_walk.f (K : Nat) (a0 : Int) (a1 : Int) (a2 : Int) (a3 : Int) : Option (List (Int)) := ((impl_valuesOf.f K a0 a1).bind fun t3 => (impl_walk.l0 K t3 K a2 a3 ([a2])))

/-! ### impl_WalkRound: function 24 -/
mutual
def impl_WalkRound.l0 (K : Nat) (t20 : List (Int)) : Nat → Int → Option (Int × Int × Int)
  | 0, _ => none
  | k33 + 1, x28 => (if decide (x28 < (t20.length : Int)) = true then (impl_WalkRound.l1 K t20 x28 k33 (wrap64 (x28 + 1))) else some (0, 0, 0))
def impl_WalkRound.l1 (K : Nat) (t20 : List (Int)) (x28 : Int) : Nat → Int → Option (Int × Int × Int)
  | 0, _ => none
  | k49 + 1, x44 => (if decide (x44 < (t20.length : Int)) = true then ((idx t20 x44).bind fun t59 => ((idx t20 x28).bind fun t65 => (if (t59 == t65) = true then some (x28, wrap64 (x44 - x28), 0) else (impl_WalkRound.l1 K t20 x28 k49 (wrap64 (x44 + 1)))))) else (impl_WalkRound.l0 K t20 k49 (wrap64 (x28 + 1))))
end
def impl_WalkRound.f (K : Nat) (a0 : Int) (a1 : Int) (a2 : Int) : Option (Int × Int × Int) := ((impl_asked__impl_WalkRound_1.f K a0 a0 a2 a1).bind fun t13 => (if (t13 == 0) = true then ((impl_walk.f K a0 a1 a2 (wrap64 ((wrap64 (2 * a0)) + 2))).bind fun t20 => (impl_WalkRound.l0 K t20 K 0)) else some (0, 0, t13)))

/-! ### laws_FnExactWalkRound: function 7 -/
def laws_FnExactWalkRound.f (K : Nat) (a0 : Int) (a1 : Int) (a2 : Int) : Option (Bool) := ((spec_WalkRound.f K a0 a1 a2).bind fun (t3, t4, t5) => ((impl_WalkRound.f K a0 a1 a2).bind fun (t10, t11, t12) => (if (t10 == t3) = true then (if (t11 == t4) = true then (if (t12 == t5) = true then some true else some false) else some false) else some false)))

/-! ### spec_ValuesOf: function 25 -/
def spec_ValuesOf.f (K : Nat) (a0 : Int) (a1 : Int) : Option (List (Int) × Int) := ((spec_l05Code.f K a0 a1 ([])).bind fun t4 => (if (t4 == 0) = true then ((spec_l05Values.f K a0 a1).bind fun t11 => some (t11, 0)) else some ([], t4)))

/-! ### impl_ValuesOf_1: function 59 -/
def impl_ValuesOf_1.f (K : Nat) (f0_0 : Int) : Option (Bool) := ((impl_isIndex.f K f0_0).bind fun t3 => some t3)

/-! ### impl_asked__impl_ValuesOf_1: function 44 -/
def impl_asked__impl_ValuesOf_1.f (K : Nat) (a0 : Int) (c1_0_0 : Int) : Option (Int) := ((impl_IsField.f K a0).bind fun t4 => (if t4 = true then ((impl_ValuesOf_1.f K c1_0_0).bind fun t11 => (if t11 = true then some 0 else some 2)) else some 1))

/-! ### impl_ValuesOf: function 26 -/
def impl_ValuesOf.f (K : Nat) (a0 : Int) (a1 : Int) : Option (List (Int) × Int) := ((impl_asked__impl_ValuesOf_1.f K a0 a1).bind fun t7 => (if (t7 == 0) = true then ((impl_valuesOf.f K a0 a1).bind fun t14 => some (t14, 0)) else some ([], t7)))

/-! ### laws_eqInt64S: function 27 -/

def laws_eqInt64S.l0 (K : Nat) (a0 : List (Int)) (a1 : List (Int)) : Nat → Int → Option (Bool)
  | 0, _ => none
  | k12 + 1, x7 => (if decide (x7 < (a0.length : Int)) = true then ((idx a0 x7).bind fun t22 => ((idx a1 x7).bind fun t28 => (if (t22 == t28) = true then (laws_eqInt64S.l0 K a0 a1 k12 (wrap64 (x7 + 1))) else some false))) else some true)
def laws_eqInt64S.f (K : Nat) (a0 : List (Int)) (a1 : List (Int)) : Option (Bool) := (if ((a0.length : Int) == (a1.length : Int)) = true then (laws_eqInt64S.l0 K a0 a1 K 0) else some false)

/-! ### laws_markInt64S: function 28 -/

def laws_markInt64S.l0 (K : Nat) (a0 : List (Int)) : Nat → Int → Int → List (Int) → Option (Int × List (Int))
  | 0, _, _, _ => none
  | k13 + 1, x4, x5, x6 => (if decide (x5 < (a0.length : Int)) = true then ((idx x6 x5).bind fun t23 => (laws_markInt64S.l0 K a0 k13 (wrap64 (x4 + 1)) (wrap64 (x5 + 1)) (x6.set (x5).toNat x4))) else some (x4, x6))
def laws_markInt64S.f (K : Nat) (a0 : List (Int)) (a1 : Int) : Option (Int × List (Int)) := (laws_markInt64S.l0 K a0 K a1 0 a0)

/-! ### laws_heldInt64S: function 29 -/

def laws_heldInt64S.l0 (K : Nat) (a0 : List (Int)) : Nat → Int → Int → Option (Int)
  | 0, _, _ => none
  | k10 + 1, x4, x5 => (if decide (x5 < (a0.length : Int)) = true then ((idx a0 x5).bind fun t21 => (if (t21 == x4) = true then (laws_heldInt64S.l0 K a0 k10 (wrap64 (x4 + 1)) (wrap64 (x5 + 1))) else some (-1))) else some x4)
def laws_heldInt64S.f (K : Nat) (a0 : List (Int)) (a1 : Int) : Option (Int) := (laws_heldInt64S.l0 K a0 K a1 0)

/-! ### laws_FnExactValuesOf: function 8 -/
def laws_FnExactValuesOf.f (K : Nat) (a0 : Int) (a1 : Int) : Option (Bool) := ((spec_ValuesOf.f K a0 a1).bind fun (t3, t6) => ((impl_ValuesOf.f K a0 a1).bind fun (t11, t14) => ((laws_eqInt64S.f K t11 t3).bind fun t20 => (if t20 = true then (if (t14 == t6) = true then ((laws_markInt64S.f K t11 1).bind fun (t28, t29) => ((laws_heldInt64S.f K t29 1).bind fun t39 => (if decide (t39 < 0) = true then some false else (if (t39 == t28) = true then ((impl_ValuesOf.f K a0 a1).bind fun (t51, t54) => ((laws_eqInt64S.f K t51 t3).bind fun t60 => (if t60 = true then (if (t54 == t6) = true then ((laws_heldInt64S.f K t29 1).bind fun t68 => (if decide (t68 < 0) = true then some false else (if (t68 == t28) = true then some true else some false))) else some false) else some false))) else some false)))) else some false) else some false))))

/-! ### spec_l05Led: function 63 -/

def spec_l05Led.l0 (K : Nat) (a0 : Int) (a2 : Int) (t3 : List (Int)) : Nat → Int → List (Int) → Option (List (Int))
  | 0, _, _ => none
  | k26 + 1, x16, x17 => (if decide (x16 < a0) = true then ((idx t3 x16).bind fun t36 => (if (t36 == a2) = true then (if decide (x17.length ≤ 1000000) = true then (spec_l05Led.l0 K a0 a2 t3 k26 (wrap64 (x16 + 1)) (x17 ++ [x16])) else none) else (spec_l05Led.l0 K a0 a2 t3 k26 (wrap64 (x16 + 1)) x17))) else some x17)
def spec_l05Led.f (K : Nat) (a0 : Int) (a1 : Int) (a2 : Int) : Option (List (Int)) := ((spec_l05Values.f K a0 a1).bind fun t3 => (spec_l05Led.l0 K a0 a2 t3 K 0 ([] : List (Int))))

/-! ### spec_ZerosOf: function 32 -/
def spec_ZerosOf.f (K : Nat) (a0 : Int) (a1 : Int) : Option (List (Int) × Int) := ((spec_l05Code.f K a0 a1 ([])).bind fun t4 => (if (t4 == 0) = true then ((spec_l05Led.f K a0 a1 0).bind fun t11 => some (t11, 0)) else some ([], t4)))

/-! ### impl_ZerosOf_1: function 64 -/
def impl_ZerosOf_1.f (K : Nat) (f0_0 : Int) : Option (Bool) := ((impl_isIndex.f K f0_0).bind fun t3 => some t3)

/-! ### impl_asked__impl_ZerosOf_1: function 44 -/
def impl_asked__impl_ZerosOf_1.f (K : Nat) (a0 : Int) (c1_0_0 : Int) : Option (Int) := ((impl_IsField.f K a0).bind fun t4 => (if t4 = true then ((impl_ZerosOf_1.f K c1_0_0).bind fun t11 => (if t11 = true then some 0 else some 2)) else some 1))

/-! ### impl_ZerosOf_2: function 66 -/
def impl_ZerosOf_2.f (K : Nat) (a0 : Int) (f0_0 : Int) (f1_0 : Int) : Option (Bool) := ((impl_spreadOf.f K f0_0 f1_0 a0).bind fun t3 => some (t3 == 0))

/-! ### impl_numbersWith__impl_ZerosOf_2: function 65 -/

def impl_numbersWith__impl_ZerosOf_2.l0 (K : Nat) (a0 : Int) (c1_0_0 : Int) (c1_1_0 : Int) : Nat → Int → List (Int) → Option (List (Int))
  | 0, _, _ => none
  | k19 + 1, x10, x11 => (if decide (x10 < a0) = true then ((impl_ZerosOf_2.f K x10 c1_0_0 c1_1_0).bind fun t29 => (if t29 = true then (if decide (x11.length ≤ 1000000) = true then (impl_numbersWith__impl_ZerosOf_2.l0 K a0 c1_0_0 c1_1_0 k19 (wrap64 (x10 + 1)) (x11 ++ [x10])) else none) else (impl_numbersWith__impl_ZerosOf_2.l0 K a0 c1_0_0 c1_1_0 k19 (wrap64 (x10 + 1)) x11))) else some x11)
def impl_numbersWith__impl_ZerosOf_2.f (K : Nat) (a0 : Int) (c1_0_0 : Int) (c1_1_0 : Int) : Option (List (Int)) := (impl_numbersWith__impl_ZerosOf_2.l0 K a0 c1_0_0 c1_1_0 K 0 ([] : List (Int)))

/-! ### impl_ZerosOf: function 33 -/
def impl_ZerosOf.f (K : Nat) (a0 : Int) (a1 : Int) : Option (List (Int) × Int) := ((impl_asked__impl_ZerosOf_1.f K a0 a1).bind fun t10 => (if (t10 == 0) = true then ((impl_numbersWith__impl_ZerosOf_2.f K a0 a0 a1).bind fun t17 => some (t17, 0)) else some ([], t10)))

/-! ### laws_FnExactZerosOf: function 10 -/
def laws_FnExactZerosOf.f (K : Nat) (a0 : Int) (a1 : Int) : Option (Bool) := ((spec_ZerosOf.f K a0 a1).bind fun (t3, t6) => ((impl_ZerosOf.f K a0 a1).bind fun (t11, t14) => ((laws_eqInt64S.f K t11 t3).bind fun t20 => (if t20 = true then (if (t14 == t6) = true then ((laws_markInt64S.f K t11 1).bind fun (t28, t29) => ((laws_heldInt64S.f K t29 1).bind fun t39 => (if decide (t39 < 0) = true then some false else (if (t39 == t28) = true then ((impl_ZerosOf.f K a0 a1).bind fun (t51, t54) => ((laws_eqInt64S.f K t51 t3).bind fun t60 => (if t60 = true then (if (t54 == t6) = true then ((laws_heldInt64S.f K t29 1).bind fun t68 => (if decide (t68 < 0) = true then some false else (if (t68 == t28) = true then some true else some false))) else some false) else some false))) else some false)))) else some false) else some false))))

/-! ### spec_WalkOf: function 34 -/

def spec_WalkOf.l0 (K : Nat) (a0 : Int) (a1 : Int) : Nat → Int → Int → List (Int) → Option (List (Int) × Int)
  | 0, _, _, _ => none
  | k38 + 1, x25, x26, x29 => (if decide (0 < x26) = true then ((spec_l05Value.f K a0 a1 x25).bind fun t48 => (if decide (x29.length ≤ 1000000) = true then (spec_WalkOf.l0 K a0 a1 k38 t48 (wrap64 (x26 - 1)) (x29 ++ [t48])) else none)) else some (x29, 0))
def spec_WalkOf.f (K : Nat) (a0 : Int) (a1 : Int) (a2 : Int) (a3 : Int) : Option (List (Int) × Int) := ((spec_l05Code.f K a0 a1 ([a2])).bind fun t6 => (if (t6 == 0) = true then ((spec_l01In.f K a3 0 100).bind fun t13 => (if t13 = true then (spec_WalkOf.l0 K a0 a1 K a2 a3 ([a2])) else some ([], 2))) else some ([], t6)))

/-! ### impl_WalkOf_1: function 68 -/
def impl_WalkOf_1.f (K : Nat) (f0_0 : Int) (f1_0 : Int) (f2_0 : Int) (f3_0 : Int) : Option (Bool) := ((impl_isNumber.f K f0_0 f1_0).bind fun t3 => (if t3 = true then ((impl_isIndex.f K f2_0).bind fun t8 => (if t8 = true then (if decide (0 ≤ f3_0) = true then some (decide (f3_0 ≤ 100)) else some false) else some false)) else some false))

/-! ### impl_asked__impl_WalkOf_1: function 44 -/
def impl_asked__impl_WalkOf_1.f (K : Nat) (a0 : Int) (c1_0_0 : Int) (c1_1_0 : Int) (c1_2_0 : Int) (c1_3_0 : Int) : Option (Int) := ((impl_IsField.f K a0).bind fun t4 => (if t4 = true then ((impl_WalkOf_1.f K c1_0_0 c1_1_0 c1_2_0 c1_3_0).bind fun t11 => (if t11 = true then some 0 else some 2)) else some 1))

/-! ### impl_WalkOf: function 35 -/
def impl_WalkOf.f (K : Nat) (a0 : Int) (a1 : Int) (a2 : Int) (a3 : Int) : Option (List (Int) × Int) := ((impl_asked__impl_WalkOf_1.f K a0 a0 a2 a1 a3).bind fun t16 => (if (t16 == 0) = true then ((impl_walk.f K a0 a1 a2 a3).bind fun t23 => some (t23, 0)) else some ([], t16)))

/-! ### laws_FnExactWalkOf: function 11 -/
def laws_FnExactWalkOf.f (K : Nat) (a0 : Int) (a1 : Int) (a2 : Int) (a3 : Int) : Option (Bool) := ((spec_WalkOf.f K a0 a1 a2 a3).bind fun (t3, t6) => ((impl_WalkOf.f K a0 a1 a2 a3).bind fun (t11, t14) => ((laws_eqInt64S.f K t11 t3).bind fun t20 => (if t20 = true then (if (t14 == t6) = true then ((laws_markInt64S.f K t11 1).bind fun (t28, t29) => ((laws_heldInt64S.f K t29 1).bind fun t39 => (if decide (t39 < 0) = true then some false else (if (t39 == t28) = true then ((impl_WalkOf.f K a0 a1 a2 a3).bind fun (t51, t54) => ((laws_eqInt64S.f K t51 t3).bind fun t60 => (if t60 = true then (if (t54 == t6) = true then ((laws_heldInt64S.f K t29 1).bind fun t68 => (if decide (t68 < 0) = true then some false else (if (t68 == t28) = true then some true else some false))) else some false) else some false))) else some false)))) else some false) else some false))))

/-! ### spec_LedTo: function 36 -/
def spec_LedTo.f (K : Nat) (a0 : Int) (a1 : Int) (a2 : Int) : Option (List (Int) × Int) := ((spec_l05Code.f K a0 a1 ([a2])).bind fun t7 => (if (t7 == 0) = true then ((spec_l05Led.f K a0 a1 a2).bind fun t14 => some (t14, 0)) else some ([], t7)))

/-! ### impl_LedTo_1: function 69 -/
def impl_LedTo_1.f (K : Nat) (f0_0 : Int) (f1_0 : Int) (f2_0 : Int) : Option (Bool) := ((impl_isNumber.f K f0_0 f1_0).bind fun t3 => (if t3 = true then ((impl_isIndex.f K f2_0).bind fun t8 => some t8) else some false))

/-! ### impl_asked__impl_LedTo_1: function 44 -/
def impl_asked__impl_LedTo_1.f (K : Nat) (a0 : Int) (c1_0_0 : Int) (c1_1_0 : Int) (c1_2_0 : Int) : Option (Int) := ((impl_IsField.f K a0).bind fun t4 => (if t4 = true then ((impl_LedTo_1.f K c1_0_0 c1_1_0 c1_2_0).bind fun t11 => (if t11 = true then some 0 else some 2)) else some 1))

/-! ### impl_LedTo_2: function 70 -/
def impl_LedTo_2.f (K : Nat) (a0 : Int) (f0_0 : Int) (f1_0 : Int) (f2_0 : Int) : Option (Bool) := ((impl_spreadOf.f K f0_0 f1_0 a0).bind fun t3 => some (t3 == f2_0))

/-! ### impl_numbersWith__impl_LedTo_2: function 65 -/

def impl_numbersWith__impl_LedTo_2.l0 (K : Nat) (a0 : Int) (c1_0_0 : Int) (c1_1_0 : Int) (c1_2_0 : Int) : Nat → Int → List (Int) → Option (List (Int))
  | 0, _, _ => none
  | k19 + 1, x10, x11 => (if decide (x10 < a0) = true then ((impl_LedTo_2.f K x10 c1_0_0 c1_1_0 c1_2_0).bind fun t29 => (if t29 = true then (if decide (x11.length ≤ 1000000) = true then (impl_numbersWith__impl_LedTo_2.l0 K a0 c1_0_0 c1_1_0 c1_2_0 k19 (wrap64 (x10 + 1)) (x11 ++ [x10])) else none) else (impl_numbersWith__impl_LedTo_2.l0 K a0 c1_0_0 c1_1_0 c1_2_0 k19 (wrap64 (x10 + 1)) x11))) else some x11)
def impl_numbersWith__impl_LedTo_2.f (K : Nat) (a0 : Int) (c1_0_0 : Int) (c1_1_0 : Int) (c1_2_0 : Int) : Option (List (Int)) := (impl_numbersWith__impl_LedTo_2.l0 K a0 c1_0_0 c1_1_0 c1_2_0 K 0 ([] : List (Int)))

/-! ### impl_LedTo: function 37 -/
def impl_LedTo.f (K : Nat) (a0 : Int) (a1 : Int) (a2 : Int) : Option (List (Int) × Int) := ((impl_asked__impl_LedTo_1.f K a0 a0 a2 a1).bind fun t13 => (if (t13 == 0) = true then ((impl_numbersWith__impl_LedTo_2.f K a0 a0 a1 a2).bind fun t20 => some (t20, 0)) else some ([], t13)))

/-! ### laws_FnExactLedTo: function 12 -/
def laws_FnExactLedTo.f (K : Nat) (a0 : Int) (a1 : Int) (a2 : Int) : Option (Bool) := ((spec_LedTo.f K a0 a1 a2).bind fun (t3, t6) => ((impl_LedTo.f K a0 a1 a2).bind fun (t11, t14) => ((laws_eqInt64S.f K t11 t3).bind fun t20 => (if t20 = true then (if (t14 == t6) = true then ((laws_markInt64S.f K t11 1).bind fun (t28, t29) => ((laws_heldInt64S.f K t29 1).bind fun t39 => (if decide (t39 < 0) = true then some false else (if (t39 == t28) = true then ((impl_LedTo.f K a0 a1 a2).bind fun (t51, t54) => ((laws_eqInt64S.f K t51 t3).bind fun t60 => (if t60 = true then (if (t54 == t6) = true then ((laws_heldInt64S.f K t29 1).bind fun t68 => (if decide (t68 < 0) = true then some false else (if (t68 == t28) = true then some true else some false))) else some false) else some false))) else some false)))) else some false) else some false))))

/-! ### spec_OrdersOf: function 38 -/
mutual
def spec_OrdersOf.l0 (K : Nat) (a0 : Int) : Nat → Int → List (Int) → Option (List (Int) × List (Int) × Int)
  | 0, _, _ => none
  | k29 + 1, x21, x22 => (if decide (x21 < a0) = true then ((spec_l05Order.f K a0 x21).bind fun t38 => ((idx x22 t38).bind fun t42 => ((idx x22 t38).bind fun t47 => (spec_OrdersOf.l0 K a0 k29 (wrap64 (x21 + 1)) (x22.set (t38).toNat (wrap64 (t42 + 1))))))) else (spec_OrdersOf.l1 K a0 x22 k29 1 ([] : List (Int)) ([] : List (Int))))
def spec_OrdersOf.l1 (K : Nat) (a0 : Int) (x22 : List (Int)) : Nat → Int → List (Int) → List (Int) → Option (List (Int) × List (Int) × Int)
  | 0, _, _, _ => none
  | k89 + 1, x73, x74, x77 => (if decide (x73 < ((repl ((wrap64 ((wrap64 (4 * a0)) + 4)).toNat) (0 : Int)).length : Int)) = true then ((idx x22 x73).bind fun t99 => (if decide (0 < t99) = true then (if decide (x74.length ≤ 1000000) = true then ((idx x22 x73).bind fun t120 => (if decide (x77.length ≤ 1000000) = true then (spec_OrdersOf.l1 K a0 x22 k89 (wrap64 (x73 + 1)) (x74 ++ [x73]) (x77 ++ [t120])) else none)) else none) else (spec_OrdersOf.l1 K a0 x22 k89 (wrap64 (x73 + 1)) x74 x77))) else some (x74, x77, 0))
end
def spec_OrdersOf.f (K : Nat) (a0 : Int) : Option (List (Int) × List (Int) × Int) := ((spec_l01Numbers.f K a0 ([])).bind fun t4 => (if (t4 == 0) = true then (if decide (0 ≤ (wrap64 ((wrap64 (4 * a0)) + 4))) = true then (if decide ((wrap64 ((wrap64 (4 * a0)) + 4)) ≤ 1000000) = true then (spec_OrdersOf.l0 K a0 K 0 (repl ((wrap64 ((wrap64 (4 * a0)) + 4)).toNat) (0 : Int))) else none) else none) else some ([], [], t4)))

/-! ### impl_OrdersOf: function 39 -/
mutual
def impl_OrdersOf.l0 (K : Nat) (a0 : Int) : Nat → Int → List (Int) → Option (List (Int) × List (Int) × Int)
  | 0, _, _ => none
  | k28 + 1, x20, x21 => (if decide (x20 < a0) = true then ((impl_orderOf.f K a0 x20).bind fun (t38, t39) => ((idx x21 t38).bind fun t43 => ((idx x21 t38).bind fun t48 => (impl_OrdersOf.l0 K a0 k28 (wrap64 (x20 + 1)) (x21.set (t38).toNat (wrap64 (t43 + 1))))))) else (impl_OrdersOf.l1 K a0 x21 k28 0 ([] : List (Int)) ([] : List (Int))))
def impl_OrdersOf.l1 (K : Nat) (a0 : Int) (x21 : List (Int)) : Nat → Int → List (Int) → List (Int) → Option (List (Int) × List (Int) × Int)
  | 0, _, _, _ => none
  | k90 + 1, x74, x75, x78 => (if decide (x74 < ((repl ((wrap64 ((wrap64 ((wrap64 (2 * a0)) * a0)) + 3)).toNat) (0 : Int)).length : Int)) = true then ((idx x21 x74).bind fun t100 => (if decide (0 < t100) = true then (if decide (x75.length ≤ 1000000) = true then (if decide (x78.length ≤ 1000000) = true then (impl_OrdersOf.l1 K a0 x21 k90 (wrap64 (x74 + 1)) (x75 ++ [x74]) (x78 ++ [t100])) else none) else none) else (impl_OrdersOf.l1 K a0 x21 k90 (wrap64 (x74 + 1)) x75 x78))) else some (x75, x78, 0))
end
def impl_OrdersOf.f (K : Nat) (a0 : Int) : Option (List (Int) × List (Int) × Int) := ((impl_IsField.f K a0).bind fun t4 => (if t4 = true then (if decide (0 ≤ (wrap64 ((wrap64 ((wrap64 (2 * a0)) * a0)) + 3))) = true then (if decide ((wrap64 ((wrap64 ((wrap64 (2 * a0)) * a0)) + 3)) ≤ 1000000) = true then (impl_OrdersOf.l0 K a0 K 0 (repl ((wrap64 ((wrap64 ((wrap64 (2 * a0)) * a0)) + 3)).toNat) (0 : Int))) else none) else none) else some ([], [], 1)))

/-! ### laws_FnExactOrdersOf: function 13 -/
def laws_FnExactOrdersOf.f (K : Nat) (a0 : Int) : Option (Bool) := ((spec_OrdersOf.f K a0).bind fun (t3, t6, t9) => ((impl_OrdersOf.f K a0).bind fun (t14, t17, t20) => ((laws_eqInt64S.f K t14 t3).bind fun t26 => (if t26 = true then ((laws_eqInt64S.f K t17 t6).bind fun t31 => (if t31 = true then (if (t20 == t9) = true then ((laws_markInt64S.f K t14 1).bind fun (t39, t40) => ((laws_markInt64S.f K t17 t39).bind fun (t50, t51) => ((laws_heldInt64S.f K t40 1).bind fun t62 => (if decide (t62 < 0) = true then some false else ((laws_heldInt64S.f K t51 t62).bind fun t71 => (if decide (t71 < 0) = true then some false else (if (t71 == t50) = true then ((impl_OrdersOf.f K a0).bind fun (t83, t86, t89) => ((laws_eqInt64S.f K t83 t3).bind fun t95 => (if t95 = true then ((laws_eqInt64S.f K t86 t6).bind fun t100 => (if t100 = true then (if (t89 == t9) = true then ((laws_heldInt64S.f K t40 1).bind fun t108 => (if decide (t108 < 0) = true then some false else ((laws_heldInt64S.f K t51 t108).bind fun t117 => (if decide (t117 < 0) = true then some false else (if (t117 == t50) = true then some true else some false))))) else some false) else some false)) else some false))) else some false))))))) else some false) else some false)) else some false))))

/-! ### spec_SpreadsOfOrder: function 40 -/

def spec_SpreadsOfOrder.l0 (K : Nat) (a0 : Int) (a1 : Int) : Nat → Int → List (Int) → Option (List (Int) × Int)
  | 0, _, _ => none
  | k35 + 1, x26, x27 => (if decide (x26 < a0) = true then ((spec_l05Order.f K a0 x26).bind fun t45 => (if (t45 == a1) = true then (if decide (x27.length ≤ 1000000) = true then (spec_SpreadsOfOrder.l0 K a0 a1 k35 (wrap64 (x26 + 1)) (x27 ++ [x26])) else none) else (spec_SpreadsOfOrder.l0 K a0 a1 k35 (wrap64 (x26 + 1)) x27))) else some (x27, 0))
def spec_SpreadsOfOrder.f (K : Nat) (a0 : Int) (a1 : Int) : Option (List (Int) × Int) := ((spec_l05Code.f K a0 a1 ([])).bind fun t3 => (if (t3 == 0) = true then (if decide (a1 < 1) = true then some ([], 2) else (spec_SpreadsOfOrder.l0 K a0 a1 K 0 ([] : List (Int)))) else some ([], t3)))

/-! ### impl_SpreadsOfOrder_1: function 72 -/
def impl_SpreadsOfOrder_1.f (K : Nat) (f0_0 : Int) : Option (Bool) := (if decide (1 ≤ f0_0) = true then some (decide (f0_0 ≤ 1000)) else some false)

/-! ### impl_asked__impl_SpreadsOfOrder_1: function 44 -/
def impl_asked__impl_SpreadsOfOrder_1.f (K : Nat) (a0 : Int) (c1_0_0 : Int) : Option (Int) := ((impl_IsField.f K a0).bind fun t4 => (if t4 = true then ((impl_SpreadsOfOrder_1.f K c1_0_0).bind fun t11 => (if t11 = true then some 0 else some 2)) else some 1))

/-! ### impl_SpreadsOfOrder_2: function 73 -/
def impl_SpreadsOfOrder_2.f (K : Nat) (a0 : Int) (f0_0 : Int) (f1_0 : Int) : Option (Bool) := ((impl_orderOf.f K f0_0 a0).bind fun (t3, t4) => some (t3 == f1_0))

/-! ### impl_numbersWith__impl_SpreadsOfOrder_2: function 65 -/

def impl_numbersWith__impl_SpreadsOfOrder_2.l0 (K : Nat) (a0 : Int) (c1_0_0 : Int) (c1_1_0 : Int) : Nat → Int → List (Int) → Option (List (Int))
  | 0, _, _ => none
  | k19 + 1, x10, x11 => (if decide (x10 < a0) = true then ((impl_SpreadsOfOrder_2.f K x10 c1_0_0 c1_1_0).bind fun t29 => (if t29 = true then (if decide (x11.length ≤ 1000000) = true then (impl_numbersWith__impl_SpreadsOfOrder_2.l0 K a0 c1_0_0 c1_1_0 k19 (wrap64 (x10 + 1)) (x11 ++ [x10])) else none) else (impl_numbersWith__impl_SpreadsOfOrder_2.l0 K a0 c1_0_0 c1_1_0 k19 (wrap64 (x10 + 1)) x11))) else some x11)
def impl_numbersWith__impl_SpreadsOfOrder_2.f (K : Nat) (a0 : Int) (c1_0_0 : Int) (c1_1_0 : Int) : Option (List (Int)) := (impl_numbersWith__impl_SpreadsOfOrder_2.l0 K a0 c1_0_0 c1_1_0 K 0 ([] : List (Int)))

/-! ### impl_SpreadsOfOrder: function 41 -/
def impl_SpreadsOfOrder.f (K : Nat) (a0 : Int) (a1 : Int) : Option (List (Int) × Int) := ((impl_asked__impl_SpreadsOfOrder_1.f K a0 a1).bind fun t10 => (if (t10 == 0) = true then ((impl_numbersWith__impl_SpreadsOfOrder_2.f K a0 a0 a1).bind fun t17 => some (t17, 0)) else some ([], t10)))

/-! ### laws_FnExactSpreadsOfOrder: function 14 -/
def laws_FnExactSpreadsOfOrder.f (K : Nat) (a0 : Int) (a1 : Int) : Option (Bool) := ((spec_SpreadsOfOrder.f K a0 a1).bind fun (t3, t6) => ((impl_SpreadsOfOrder.f K a0 a1).bind fun (t11, t14) => ((laws_eqInt64S.f K t11 t3).bind fun t20 => (if t20 = true then (if (t14 == t6) = true then ((laws_markInt64S.f K t11 1).bind fun (t28, t29) => ((laws_heldInt64S.f K t29 1).bind fun t39 => (if decide (t39 < 0) = true then some false else (if (t39 == t28) = true then ((impl_SpreadsOfOrder.f K a0 a1).bind fun (t51, t54) => ((laws_eqInt64S.f K t51 t3).bind fun t60 => (if t60 = true then (if (t54 == t6) = true then ((laws_heldInt64S.f K t29 1).bind fun t68 => (if decide (t68 < 0) = true then some false else (if (t68 == t28) = true then some true else some false))) else some false) else some false))) else some false)))) else some false) else some false))))

end Go.Proofs.Ythmfgkdhaookoaa
