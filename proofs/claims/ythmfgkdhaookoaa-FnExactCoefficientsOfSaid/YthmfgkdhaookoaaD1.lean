/- What the functions of the program compute, in plain Lean. -/
import Derived.Test.YthmfgkdhaookoaaK
namespace Go.Proofs.Ythmfgkdhaookoaa
open Go Go.RowKit
attribute [local go_sem] Oper.quiet Oper.quietAt Oper.quietUpon
attribute [local irreducible] wpList
set_option linter.unusedVariables false
set_option linter.unusedSimpArgs false

/-! ### spec_l01In: function 67 -/
def spec_l01In.f (K : Nat) (a0 : Int) (a1 : Int) (a2 : Int) : Option (Bool) := (if decide (a1 ≤ a0) = true then some (decide (a0 ≤ a2)) else some false)

/-! ### spec_l01Field: function 75 -/

def spec_l01Field.l0 (K : Nat) (a0 : Int) : Nat → Int → Option (Bool)
  | 0, _ => none
  | k16 + 1, x11 => (if decide ((wrap64 (x11 * x11)) ≤ a0) = true then (if (x11 == 0) = true then none else (if ((Int.tmod a0 x11) == 0) = true then some false else (spec_l01Field.l0 K a0 k16 (wrap64 (x11 + 1))))) else some true)
def spec_l01Field.f (K : Nat) (a0 : Int) : Option (Bool) := ((spec_l01In.f K a0 3 31).bind fun t4 => (if t4 = true then (spec_l01Field.l0 K a0 K 2) else some false))

/-! ### spec_l01Numbers: function 49 -/

def spec_l01Numbers.l0 (K : Nat) (a0 : Int) (a1 : List (Int)) : Nat → Int → Option (Int)
  | 0, _ => none
  | k16 + 1, x11 => (if decide (x11 < (a1.length : Int)) = true then ((idx a1 x11).bind fun t26 => ((spec_l01In.f K t26 0 (wrap64 (a0 - 1))).bind fun t31 => (if t31 = true then (spec_l01Numbers.l0 K a0 a1 k16 (wrap64 (x11 + 1))) else some 2))) else some 0)
def spec_l01Numbers.f (K : Nat) (a0 : Int) (a1 : List (Int)) : Option (Int) := ((spec_l01Field.f K a0).bind fun t4 => (if t4 = true then (spec_l01Numbers.l0 K a0 a1 K 0) else some 1))

/-! ### spec_l05Code: function 42 -/
def spec_l05Code.f (K : Nat) (a0 : Int) (a1 : Int) (a2 : List (Int)) : Option (Int) := ((spec_l01Numbers.f K a0 a2).bind fun t3 => (if (t3 == 0) = true then ((spec_l01In.f K a1 0 1000).bind fun t10 => (if t10 = true then some t3 else some 2)) else some t3))

/-! ### spec_l01Mod: function 60 -/
def spec_l01Mod.f (K : Nat) (a0 : Int) (a1 : Int) : Option (Int) := (if (a1 == 0) = true then none else some (Int.tmod (wrap64 ((Int.tmod a0 a1) + a1)) a1))

/-! ### spec_CoefficientsOf: function 30 -/
mutual
def spec_CoefficientsOf.l0 (K : Nat) (a0 : Int) (a1 : Int) : Nat → Int → List (Int) → List (Int) → Option (List (Int) × Int)
  | 0, _, _, _ => none
  | k61 + 1, x47, x48, x51 => (if decide (0 < x47) = true then (spec_CoefficientsOf.l1 K a0 a1 x47 x48 x51 k61 0 (repl ((wrap64 (a1 + 2)).toNat) (0 : Int))) else ((cutHi x48 (wrap64 (a1 + 1))).bind fun t279 => some (t279, 0)))
def spec_CoefficientsOf.l1 (K : Nat) (a0 : Int) (a1 : Int) (x47 : Int) (x48 : List (Int)) (x51 : List (Int)) : Nat → Int → List (Int) → Option (List (Int) × Int)
  | 0, _, _ => none
  | k89 + 1, x79, x80 => (if decide (x79 ≤ a1) = true then ((idx x51 x79).bind fun t99 => ((idx x48 x79).bind fun t105 => ((idx x80 x79).bind fun t111 => (if decide (0 < x79) = true then ((idx (x80.set (x79).toNat (wrap64 ((wrap64 (2 * t99)) - t105))) x79).bind fun t128 => ((idx x51 (wrap64 (x79 - 1))).bind fun t134 => ((idx (x80.set (x79).toNat (wrap64 ((wrap64 (2 * t99)) - t105))) x79).bind fun t140 => (if (x79 == 1) = true then ((idx ((x80.set (x79).toNat (wrap64 ((wrap64 (2 * t99)) - t105))).set (x79).toNat (wrap64 (t128 - (wrap64 (4 * t134))))) x79).bind fun t157 => ((idx ((x80.set (x79).toNat (wrap64 ((wrap64 (2 * t99)) - t105))).set (x79).toNat (wrap64 (t128 - (wrap64 (4 * t134))))) x79).bind fun t162 => ((idx (((x80.set (x79).toNat (wrap64 ((wrap64 (2 * t99)) - t105))).set (x79).toNat (wrap64 (t128 - (wrap64 (4 * t134))))).set (x79).toNat (wrap64 (t157 + 2))) x79).bind fun t173 => ((spec_l01Mod.f K t173 a0).bind fun t178 => ((idx (((x80.set (x79).toNat (wrap64 ((wrap64 (2 * t99)) - t105))).set (x79).toNat (wrap64 (t128 - (wrap64 (4 * t134))))).set (x79).toNat (wrap64 (t157 + 2))) x79).bind fun t182 => (spec_CoefficientsOf.l1 K a0 a1 x47 x48 x51 k89 (wrap64 (x79 + 1)) ((((x80.set (x79).toNat (wrap64 ((wrap64 (2 * t99)) - t105))).set (x79).toNat (wrap64 (t128 - (wrap64 (4 * t134))))).set (x79).toNat (wrap64 (t157 + 2))).set (x79).toNat t178))))))) else ((idx ((x80.set (x79).toNat (wrap64 ((wrap64 (2 * t99)) - t105))).set (x79).toNat (wrap64 (t128 - (wrap64 (4 * t134))))) x79).bind fun t194 => ((spec_l01Mod.f K t194 a0).bind fun t199 => ((idx ((x80.set (x79).toNat (wrap64 ((wrap64 (2 * t99)) - t105))).set (x79).toNat (wrap64 (t128 - (wrap64 (4 * t134))))) x79).bind fun t203 => (spec_CoefficientsOf.l1 K a0 a1 x47 x48 x51 k89 (wrap64 (x79 + 1)) (((x80.set (x79).toNat (wrap64 ((wrap64 (2 * t99)) - t105))).set (x79).toNat (wrap64 (t128 - (wrap64 (4 * t134))))).set (x79).toNat t199))))))))) else (if (x79 == 1) = true then ((idx (x80.set (x79).toNat (wrap64 ((wrap64 (2 * t99)) - t105))) x79).bind fun t218 => ((idx (x80.set (x79).toNat (wrap64 ((wrap64 (2 * t99)) - t105))) x79).bind fun t223 => ((idx ((x80.set (x79).toNat (wrap64 ((wrap64 (2 * t99)) - t105))).set (x79).toNat (wrap64 (t218 + 2))) x79).bind fun t234 => ((spec_l01Mod.f K t234 a0).bind fun t239 => ((idx ((x80.set (x79).toNat (wrap64 ((wrap64 (2 * t99)) - t105))).set (x79).toNat (wrap64 (t218 + 2))) x79).bind fun t243 => (spec_CoefficientsOf.l1 K a0 a1 x47 x48 x51 k89 (wrap64 (x79 + 1)) (((x80.set (x79).toNat (wrap64 ((wrap64 (2 * t99)) - t105))).set (x79).toNat (wrap64 (t218 + 2))).set (x79).toNat t239))))))) else ((idx (x80.set (x79).toNat (wrap64 ((wrap64 (2 * t99)) - t105))) x79).bind fun t255 => ((spec_l01Mod.f K t255 a0).bind fun t260 => ((idx (x80.set (x79).toNat (wrap64 ((wrap64 (2 * t99)) - t105))) x79).bind fun t264 => (spec_CoefficientsOf.l1 K a0 a1 x47 x48 x51 k89 (wrap64 (x79 + 1)) ((x80.set (x79).toNat (wrap64 ((wrap64 (2 * t99)) - t105))).set (x79).toNat t260)))))))))) else (spec_CoefficientsOf.l0 K a0 a1 k89 (wrap64 (x47 - 1)) x51 x80))
end
def spec_CoefficientsOf.f (K : Nat) (a0 : Int) (a1 : Int) : Option (List (Int) × Int) := ((spec_l05Code.f K a0 a1 ([])).bind fun t3 => (if (t3 == 0) = true then (if decide (40 < a1) = true then some ([], 2) else (if decide (0 ≤ (wrap64 (a1 + 2))) = true then (if decide ((wrap64 (a1 + 2)) ≤ 1000000) = true then ((idx (repl ((wrap64 (a1 + 2)).toNat) (0 : Int)) 1).bind fun t33 => (spec_CoefficientsOf.l0 K a0 a1 K a1 (repl ((wrap64 (a1 + 2)).toNat) (0 : Int)) ((repl ((wrap64 (a1 + 2)).toNat) (0 : Int)).set (1 : Int).toNat 1))) else none) else none)) else some ([], t3)))

/-! ### impl_IsField: function 71 -/
def impl_IsField.f (K : Nat) (a0 : Int) : Option (Bool) := (if (a0 == 3) = true then some true else (if (a0 == 5) = true then some true else (if (a0 == 7) = true then some true else (if (a0 == 11) = true then some true else (if (a0 == 13) = true then some true else (if (a0 == 17) = true then some true else (if (a0 == 19) = true then some true else (if (a0 == 23) = true then some true else (if (a0 == 29) = true then some true else (if (a0 == 31) = true then some true else some false))))))))))

/-! ### impl_CoefficientsOf_1: function 61 -/
def impl_CoefficientsOf_1.f (K : Nat) (f0_0 : Int) : Option (Bool) := (if decide (0 ≤ f0_0) = true then some (decide (f0_0 ≤ 40)) else some false)

/-! ### impl_asked__impl_CoefficientsOf_1: function 44 -/
def impl_asked__impl_CoefficientsOf_1.f (K : Nat) (a0 : Int) (c1_0_0 : Int) : Option (Int) := ((impl_IsField.f K a0).bind fun t4 => (if t4 = true then ((impl_CoefficientsOf_1.f K c1_0_0).bind fun t11 => (if t11 = true then some 0 else some 2)) else some 1))

/-! ### impl_rest: function 62 -/
def impl_rest.f (K : Nat) (a0 : Int) (a1 : Int) : Option (Int) := (if (a0 == 0) = true then none else some (Int.tmod (wrap64 ((Int.tmod a1 a0) + a0)) a0))

/-! ### impl_CoefficientsOf: function 31 -/
mutual
def impl_CoefficientsOf.l0 (K : Nat) (a0 : Int) (a1 : Int) : Nat → Int → List (Int) → List (Int) → Option (List (Int) × Int)
  | 0, _, _, _ => none
  | k65 + 1, x49, x50, x53 => (if decide (x49 < a1) = true then (impl_CoefficientsOf.l1 K a0 a1 x49 x50 x53 k65 0 (repl ((wrap64 (a1 + 2)).toNat) (0 : Int))) else ((cutHi x53 (wrap64 (a1 + 1))).bind fun t287 => (if decide (t287.length ≤ 1000000) = true then some ((([] : List (Int)) ++ t287), 0) else none)))
def impl_CoefficientsOf.l1 (K : Nat) (a0 : Int) (a1 : Int) (x49 : Int) (x50 : List (Int)) (x53 : List (Int)) : Nat → Int → List (Int) → Option (List (Int) × Int)
  | 0, _, _ => none
  | k94 + 1, x83, x84 => (if decide (x83 < ((repl ((wrap64 (a1 + 2)).toNat) (0 : Int)).length : Int)) = true then ((idx x53 x83).bind fun t105 => ((idx x50 x83).bind fun t111 => ((idx x84 x83).bind fun t117 => (if decide (0 < x83) = true then ((idx (x84.set (x83).toNat (wrap64 ((wrap64 (2 * t105)) - t111))) x83).bind fun t134 => ((idx x53 (wrap64 (x83 - 1))).bind fun t140 => ((idx (x84.set (x83).toNat (wrap64 ((wrap64 (2 * t105)) - t111))) x83).bind fun t146 => (if (x83 == 1) = true then ((idx ((x84.set (x83).toNat (wrap64 ((wrap64 (2 * t105)) - t111))).set (x83).toNat (wrap64 (t134 - (wrap64 (4 * t140))))) x83).bind fun t163 => ((idx ((x84.set (x83).toNat (wrap64 ((wrap64 (2 * t105)) - t111))).set (x83).toNat (wrap64 (t134 - (wrap64 (4 * t140))))) x83).bind fun t168 => ((idx (((x84.set (x83).toNat (wrap64 ((wrap64 (2 * t105)) - t111))).set (x83).toNat (wrap64 (t134 - (wrap64 (4 * t140))))).set (x83).toNat (wrap64 (t163 + 2))) x83).bind fun t179 => ((impl_rest.f K a0 t179).bind fun t184 => ((idx (((x84.set (x83).toNat (wrap64 ((wrap64 (2 * t105)) - t111))).set (x83).toNat (wrap64 (t134 - (wrap64 (4 * t140))))).set (x83).toNat (wrap64 (t163 + 2))) x83).bind fun t188 => (impl_CoefficientsOf.l1 K a0 a1 x49 x50 x53 k94 (wrap64 (x83 + 1)) ((((x84.set (x83).toNat (wrap64 ((wrap64 (2 * t105)) - t111))).set (x83).toNat (wrap64 (t134 - (wrap64 (4 * t140))))).set (x83).toNat (wrap64 (t163 + 2))).set (x83).toNat t184))))))) else ((idx ((x84.set (x83).toNat (wrap64 ((wrap64 (2 * t105)) - t111))).set (x83).toNat (wrap64 (t134 - (wrap64 (4 * t140))))) x83).bind fun t200 => ((impl_rest.f K a0 t200).bind fun t205 => ((idx ((x84.set (x83).toNat (wrap64 ((wrap64 (2 * t105)) - t111))).set (x83).toNat (wrap64 (t134 - (wrap64 (4 * t140))))) x83).bind fun t209 => (impl_CoefficientsOf.l1 K a0 a1 x49 x50 x53 k94 (wrap64 (x83 + 1)) (((x84.set (x83).toNat (wrap64 ((wrap64 (2 * t105)) - t111))).set (x83).toNat (wrap64 (t134 - (wrap64 (4 * t140))))).set (x83).toNat t205))))))))) else (if (x83 == 1) = true then ((idx (x84.set (x83).toNat (wrap64 ((wrap64 (2 * t105)) - t111))) x83).bind fun t224 => ((idx (x84.set (x83).toNat (wrap64 ((wrap64 (2 * t105)) - t111))) x83).bind fun t229 => ((idx ((x84.set (x83).toNat (wrap64 ((wrap64 (2 * t105)) - t111))).set (x83).toNat (wrap64 (t224 + 2))) x83).bind fun t240 => ((impl_rest.f K a0 t240).bind fun t245 => ((idx ((x84.set (x83).toNat (wrap64 ((wrap64 (2 * t105)) - t111))).set (x83).toNat (wrap64 (t224 + 2))) x83).bind fun t249 => (impl_CoefficientsOf.l1 K a0 a1 x49 x50 x53 k94 (wrap64 (x83 + 1)) (((x84.set (x83).toNat (wrap64 ((wrap64 (2 * t105)) - t111))).set (x83).toNat (wrap64 (t224 + 2))).set (x83).toNat t245))))))) else ((idx (x84.set (x83).toNat (wrap64 ((wrap64 (2 * t105)) - t111))) x83).bind fun t261 => ((impl_rest.f K a0 t261).bind fun t266 => ((idx (x84.set (x83).toNat (wrap64 ((wrap64 (2 * t105)) - t111))) x83).bind fun t270 => (impl_CoefficientsOf.l1 K a0 a1 x49 x50 x53 k94 (wrap64 (x83 + 1)) ((x84.set (x83).toNat (wrap64 ((wrap64 (2 * t105)) - t111))).set (x83).toNat t266)))))))))) else (impl_CoefficientsOf.l0 K a0 a1 k94 (wrap64 (x49 + 1)) x53 x84))
end
def impl_CoefficientsOf.f (K : Nat) (a0 : Int) (a1 : Int) : Option (List (Int) × Int) := ((impl_asked__impl_CoefficientsOf_1.f K a0 a1).bind fun t7 => (if (t7 == 0) = true then (if decide (0 ≤ (wrap64 (a1 + 2))) = true then (if decide ((wrap64 (a1 + 2)) ≤ 1000000) = true then ((idx (repl ((wrap64 (a1 + 2)).toNat) (0 : Int)) 1).bind fun t28 => (if (a1 == 0) = true then ((cutHi (repl ((wrap64 (a1 + 2)).toNat) (0 : Int)) 1).bind fun t44 => some (t44, 0)) else (impl_CoefficientsOf.l0 K a0 a1 K 1 (repl ((wrap64 (a1 + 2)).toNat) (0 : Int)) ((repl ((wrap64 (a1 + 2)).toNat) (0 : Int)).set (1 : Int).toNat 1)))) else none) else none) else some ([], t7)))

/-! ### laws_eqInt64S: function 27 -/

def laws_eqInt64S.l0 (K : Nat) (a0 : List (Int)) (a1 : List (Int)) : Nat → Int → Option (Bool)
  | 0, _ => none
  | k12 + 1, x7 => (if decide (x7 < (a0.length : Int)) = true then ((idx a0 x7).bind fun t22 => ((idx a1 x7).bind fun t28 => (if (t22 == t28) = true then (laws_eqInt64S.l0 K a0 a1 k12 (wrap64 (x7 + 1))) else some false))) else some true)
def laws_eqInt64S.f (K : Nat) (a0 : List (Int)) (a1 : List (Int)) : Option (Bool) := (if ((a0.length : Int) == (a1.length : Int)) = true then (laws_eqInt64S.l0 K a0 a1 K 0) else some false)

/-! ### laws_markInt64S: function 28 -/

def laws_markInt64S.l0 (K : Nat) (a0 : List (Int)) : Nat → Int → Int → List (Int) → Option (Int × List (Int))
  | 0, _, _, _ => none
  | k13 + 1, x4, x5, x6 => (if decide (x5 < (a0.length : Int)) = true then ((idx x6 x5).bind fun t23 => (laws_markInt64S.l0 K a0 k13 (wrap64 (x4 + 1)) (wrap64 (x5 + 1)) (x6.set (x5).toNat x4))) else some (x4, x6))
def laws_markInt64S.f (K : Nat) (a0 : List (Int)) (a1 : Int) : Option (Int × List (Int)) := (laws_markInt64S.l0 K a0 K a1 0 a0)

/-! ### laws_heldInt64S: function 29 -/

def laws_heldInt64S.l0 (K : Nat) (a0 : List (Int)) : Nat → Int → Int → Option (Int)
  | 0, _, _ => none
  | k10 + 1, x4, x5 => (if decide (x5 < (a0.length : Int)) = true then ((idx a0 x5).bind fun t21 => (if (t21 == x4) = true then (laws_heldInt64S.l0 K a0 k10 (wrap64 (x4 + 1)) (wrap64 (x5 + 1))) else some (-1))) else some x4)
def laws_heldInt64S.f (K : Nat) (a0 : List (Int)) (a1 : Int) : Option (Int) := (laws_heldInt64S.l0 K a0 K a1 0)

/-! ### laws_FnExactCoefficientsOf: function 9 -/
def laws_FnExactCoefficientsOf.f (K : Nat) (a0 : Int) (a1 : Int) : Option (Bool) := ((spec_CoefficientsOf.f K a0 a1).bind fun (t3, t6) => ((impl_CoefficientsOf.f K a0 a1).bind fun (t11, t14) => ((laws_eqInt64S.f K t11 t3).bind fun t20 => (if t20 = true then (if (t14 == t6) = true then ((laws_markInt64S.f K t11 1).bind fun (t28, t29) => ((laws_heldInt64S.f K t29 1).bind fun t39 => (if decide (t39 < 0) = true then some false else (if (t39 == t28) = true then ((impl_CoefficientsOf.f K a0 a1).bind fun (t51, t54) => ((laws_eqInt64S.f K t51 t3).bind fun t60 => (if t60 = true then (if (t54 == t6) = true then ((laws_heldInt64S.f K t29 1).bind fun t68 => (if decide (t68 < 0) = true then some false else (if (t68 == t28) = true then some true else some false))) else some false) else some false))) else some false)))) else some false) else some false))))

end Go.Proofs.Ythmfgkdhaookoaa
