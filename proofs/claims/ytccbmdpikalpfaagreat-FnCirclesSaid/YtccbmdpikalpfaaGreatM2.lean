/- Plain laws: the quadrea of a triangle. -/
import Derived.Test.YtccbmdpikalpfaaGreatM1
namespace Go.Proofs.YtccbmdpikalpfaaGreat
open Go Go.RowKit
set_option linter.unusedVariables false
set_option linter.unusedSimpArgs false
theorem inB_in {p x y : Int} (h : inB p (x, y) = true) : In p x ∧ In p y := by
  have := of_decide_eq_true h
  exact ⟨⟨by omega⟩, ⟨by omega⟩⟩
/-- What the check says of three points. -/
def code3 (p c : Int) (pts : List (Int × Int)) (ar : Int) : Int := if isP p then if pts.all (inB p) then if 0 ≤ c ∧ c ≤ 2 then if ar % p = 0 then 5 else 0 else 2 else 2 else 1
def areaOf (a0 a1 b0 b1 c0 c1 : Int) : Int := (b0 - a0) * (c1 - a1) - (b1 - a1) * (c0 - a0)
theorem specArea_nice {K : Nat} {p a0 a1 b0 b1 c0 c1 : Int} (hp : isP p) (h1 : In p a0) (h2 : In p a1) (h3 : In p b0) (h4 : In p b1) (h5 : In p c0) (h6 : In p c1) : spec_l01Area.f K p a0 a1 b0 b1 c0 c1 = some (areaOf a0 a1 b0 b1 c0 c1 % p) := by
  replace h1 := h1.b hp; replace h2 := h2.b hp; replace h3 := h3.b hp; replace h4 := h4.b hp; replace h5 := h5.b hp; replace h6 := h6.b hp
  unfold spec_l01Area.f areaOf
  simp (disch := exact Sm.of (by repeat' first | assumption | apply B.add | apply B.sub | apply B.mul | exact B.mod hp _ | exact B.const _) rfl) only [w_eq, mod_nice hp, Option.bind_some]
theorem less_nice {K : Nat} {p a0 a1 b0 b1 : Int} (hp : isP p) (h1 : B 31 a0) (h2 : B 31 a1) (h3 : B 31 b0) (h4 : B 31 b1) : impl_less.f K p a0 a1 b0 b1 = some ((a0 - b0) % p, (a1 - b1) % p) := by
  unfold impl_less.f
  simp (disch := exact Sm.of (by repeat' first | assumption | apply B.add | apply B.sub | apply B.mul | exact B.mod hp _ | exact B.const _) rfl) only [w_eq, rest_nice hp, Option.bind_some]
theorem implArea_nice {K : Nat} {p a0 a1 b0 b1 c0 c1 : Int} (hp : isP p) (h1 : B 31 a0) (h2 : B 31 a1) (h3 : B 31 b0) (h4 : B 31 b1) (h5 : B 31 c0) (h6 : B 31 c1) : impl_area.f K p a0 a1 b0 b1 c0 c1 = some (areaOf a0 a1 b0 b1 c0 c1 % p) := by
  unfold impl_area.f areaOf
  simp (disch := first | assumption | exact Sm.of (by repeat' first | assumption | apply B.add | apply B.sub | apply B.mul | exact B.mod hp _ | exact B.const _) rfl) only [w_eq, rest_nice hp, less_nice hp, Option.bind_some, Option.some.injEq]
  refine emod_ring hp fun n _ hn e => ?_
  subst e
  simp only [cst_add, cst_sub, cst_mul, cst_mod, cst_neg]
theorem specCode_nice {K : Nat} {p c a0 a1 b0 b1 c0 c1 : Int} (hK : 100 ≤ K) : spec_l04Code.f K p c a0 a1 b0 b1 c0 c1 = some (code3 p c [(a0, a1), (b0, b1), (c0, c1)] (areaOf a0 a1 b0 b1 c0 c1)) := by
  unfold spec_l04Code.f code3
  rw [code2_nice _ (by simp) (by simp; omega)]
  by_cases hp : isP p
  · by_cases hb : ([(a0, a1), (b0, b1), (c0, c1)] : List (Int × Int)).all (inB p) = true
    · by_cases hc : 0 ≤ c ∧ c ≤ 2
      · have hb' := hb
        simp only [List.all_cons, List.all_nil, Bool.and_true, Bool.and_eq_true] at hb'
        obtain ⟨h1, h2, h3⟩ := hb'
        rw [if_pos hp, if_pos hb, if_pos hc, if_pos hp, if_pos hb, if_pos hc]
        simp only [Option.bind_some, beq_self_eq_true, if_true, specArea_nice hp (inB_in h1).1 (inB_in h1).2 (inB_in h2).1 (inB_in h2).2 (inB_in h3).1 (inB_in h3).2]
        by_cases h0 : areaOf a0 a1 b0 b1 c0 c1 % p = 0 <;> simp [h0]
      · simp only [hp, hb, hc, if_true, if_false, Option.bind_some]
        rfl
    · simp only [hp, hb, if_true, if_false, Option.bind_some]
      rfl
  · simp only [hp, if_false, Option.bind_some]
    rfl
theorem implCode_nice {K : Nat} {p c a0 a1 b0 b1 c0 c1 : Int} (hK : 100 ≤ K) : impl_triangle.f K p c a0 a1 b0 b1 c0 c1 = some (code3 p c [(a0, a1), (b0, b1), (c0, c1)] (areaOf a0 a1 b0 b1 c0 c1)) := by
  unfold impl_triangle.f impl_asked__impl_triangle_1.f impl_triangle_1.f code3
  rw [isField_nice, isColour_nice, arePoints_nice _ (by simp) (by simp; omega)]
  by_cases hp : isP p
  · by_cases hb : ([(a0, a1), (b0, b1), (c0, c1)] : List (Int × Int)).all (inB p) = true
    · by_cases hc : 0 ≤ c ∧ c ≤ 2
      · have hb' := hb
        simp only [List.all_cons, List.all_nil, Bool.and_true, Bool.and_eq_true] at hb'
        obtain ⟨h1, h2, h3⟩ := hb'
        rw [if_pos hp, if_pos hb, if_pos hc]
        simp only [Option.bind_some, hp, hb, hc, and_self, decide_true, beq_self_eq_true, if_true, implArea_nice hp ((inB_in h1).1.b hp) ((inB_in h1).2.b hp) ((inB_in h2).1.b hp) ((inB_in h2).2.b hp) ((inB_in h3).1.b hp) ((inB_in h3).2.b hp)]
        by_cases h0 : areaOf a0 a1 b0 b1 c0 c1 % p = 0 <;> simp [h0]
      · simp [hp, hb, hc]
    · by_cases hc : 0 ≤ c ∧ c ≤ 2 <;> simp [hp, hb, hc]
  · simp [hp]
/-- The product of two ways, by colour. -/
def prod (c x0 x1 y0 y1 : Int) : Int := if c = 0 then x0 * y0 + x1 * y1 else if c = 1 then x0 * y0 - x1 * y1 else x0 * y1 + x1 * y0
theorem specProduct_nice {K : Nat} {p c x0 x1 y0 y1 : Int} (hp : isP p) (h1 : B 31 x0) (h2 : B 31 x1) (h3 : B 31 y0) (h4 : B 31 y1) : spec_l02Product.f K p c x0 x1 y0 y1 = some (prod c x0 x1 y0 y1 % p) := by
  unfold spec_l02Product.f prod
  simp (disch := exact Sm.of (by repeat' first | assumption | apply B.add | apply B.sub | apply B.mul | exact B.mod hp _ | exact B.const _) rfl) only [w_eq, mod_nice hp, Option.bind_some, beq_iff_eq]
  split
  · rfl
  · split <;> rfl
theorem implProduct_nice {K : Nat} {p c x0 x1 y0 y1 : Int} (hp : isP p) (h1 : B 31 x0) (h2 : B 31 x1) (h3 : B 31 y0) (h4 : B 31 y1) : impl_product.f K p c x0 x1 y0 y1 = some (prod c x0 x1 y0 y1 % p) := by
  unfold impl_product.f prod
  simp (disch := exact Sm.of (by repeat' first | assumption | apply B.add | apply B.sub | apply B.mul | exact B.mod hp _ | exact B.const _) rfl) only [w_eq, rest_nice hp, Option.bind_some, beq_iff_eq]
  split
  · rfl
  · split <;> rfl
/-- The quadrance, before the remainder is taken. -/
def quad (c x0 x1 y0 y1 : Int) : Int := prod c (y0 - x0) (y1 - x1) (y0 - x0) (y1 - x1)
theorem specQuadrance_nice {K : Nat} {p c x0 x1 y0 y1 : Int} (hp : isP p) (h1 : B 31 x0) (h2 : B 31 x1) (h3 : B 31 y0) (h4 : B 31 y1) : spec_l02Quadrance.f K p c x0 x1 y0 y1 = some (quad c x0 x1 y0 y1 % p) := by
  unfold spec_l02Quadrance.f spec_l01Minus.f quad
  simp (disch := first | assumption | exact B.mod hp _ | exact Sm.of (by repeat' first | assumption | apply B.add | apply B.sub | apply B.mul | exact B.mod hp _ | exact B.const _) rfl) only [w_eq, mod_nice hp, Option.bind_some, specProduct_nice hp, Option.some.injEq]
  refine emod_ring hp fun n _ hn e => ?_
  subst e
  unfold prod
  split
  · simp only [cst_add, cst_sub, cst_mul, cst_mod, cst_neg]
  · split <;> simp only [cst_add, cst_sub, cst_mul, cst_mod, cst_neg]
theorem implQuadrance_nice {K : Nat} {p c x0 x1 y0 y1 : Int} (hp : isP p) (h1 : B 31 x0) (h2 : B 31 x1) (h3 : B 31 y0) (h4 : B 31 y1) : impl_quadrance.f K p c x0 x1 y0 y1 = some (quad c x0 x1 y0 y1 % p) := by
  unfold impl_quadrance.f quad
  simp (disch := first | assumption | exact B.mod hp _ | exact Sm.of (by repeat' first | assumption | apply B.add | apply B.sub | apply B.mul | exact B.mod hp _ | exact B.const _) rfl) only [w_eq, less_nice hp, Option.bind_some, implProduct_nice hp, Option.some.injEq]
  refine emod_ring hp fun n _ hn e => ?_
  subst e
  unfold prod
  split
  · simp only [cst_add, cst_sub, cst_mul, cst_mod, cst_neg]; grind
  · split <;> simp only [cst_add, cst_sub, cst_mul, cst_mod, cst_neg] <;> grind
def archi (x y z : Int) : Int := (x + y + z) * (x + y + z) - 2 * (x * x + y * y + z * z)
theorem code3_zero {p c a0 a1 b0 b1 c0 c1 ar : Int} (h : code3 p c [(a0, a1), (b0, b1), (c0, c1)] ar = 0) : isP p ∧ (In p a0 ∧ In p a1) ∧ (In p b0 ∧ In p b1) ∧ (In p c0 ∧ In p c1) ∧ 0 ≤ c ∧ c ≤ 2 ∧ ar % p ≠ 0 := by
  unfold code3 at h
  by_cases hp : isP p
  · by_cases hb : ([(a0, a1), (b0, b1), (c0, c1)] : List (Int × Int)).all (inB p) = true
    · by_cases hc : 0 ≤ c ∧ c ≤ 2
      · by_cases h0 : ar % p = 0
        · simp [hp, hb, hc, h0] at h
        · simp only [List.all_cons, List.all_nil, Bool.and_true, Bool.and_eq_true] at hb
          exact ⟨hp, inB_in hb.1, inB_in hb.2.1, inB_in hb.2.2, hc.1, hc.2, h0⟩
      · simp [hp, hb, hc] at h
    · simp [hp, hb] at h
  · simp [hp] at h
end Go.Proofs.YtccbmdpikalpfaaGreat
