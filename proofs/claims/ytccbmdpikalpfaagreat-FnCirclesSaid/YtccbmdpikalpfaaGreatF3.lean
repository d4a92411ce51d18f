/- FnCircles: the tangent at a point of a circle meets it there and, where the quadrance is not 0, nowhere else. -/
import Derived.Test.YtccbmdpikalpfaaGreatF2
import Derived.Test.YtccbmdpikalpfaaGreatU6
namespace Go.Proofs.YtccbmdpikalpfaaGreat
open Go Go.RowKit
set_option linter.unusedVariables false
set_option linter.unusedSimpArgs false
theorem codeC_mk {p c k0 k1 q : Int} (hp : isP p) (hc1 : 0 ≤ c) (hc2 : c ≤ 2) (i1 : In p k0) (i2 : In p k1) (i3 : In p q) : codeC p c [(k0, k1, q)] = 0 := by
  unfold codeC inC
  simp [hp, hc1, hc2, inB_mk i1 i2, inN_mk i3]
theorem codeG_mk {p c k0 k1 q a0 a1 : Int} (hp : isP p) (hc1 : 0 ≤ c) (hc2 : c ≤ 2) (i1 : In p k0) (i2 : In p k1) (i3 : In p q) (i4 : In p a0) (i5 : In p a1) : codeG p c (k0, k1, q) (a0, a1) = 0 := by
  unfold codeG
  rw [if_pos (codeC_mk hp hc1 hc2 i1 i2 i3), if_pos (inB_mk i4 i5)]
theorem sq0 {p z : Int} (hp : isP p) (n : Nat) [NeZero n] (hn : 2 < n) (e : p = n) (h : cst n z * cst n z = 0) : z % p = 0 := Classical.byContradiction fun hne => by
  have hi := inv_cst hp hne n hn e
  have h1 := cst_one (n := n) (by omega)
  generalize cst n z = u at *
  generalize cst n (inv p (z % p)) = J at *
  have : (1 : Fin n) = 0 := by grind
  rw [← h1, ← cst_zero, cst_eq, Int.emod_eq_of_lt (by omega) (by omega), Int.emod_eq_of_lt (by omega) (by omega)] at this
  omega
/-- Where the line that is perpendicular to a circle's radius at its point meets the circle. -/
theorem touch {p c k0 k1 q a0 a1 x y : Int} (hp : isP p) (hc1 : 0 ≤ c) (hc2 : c ≤ 2) (hq : q % p ≠ 0) (ha : quad c k0 k1 a0 a1 % p = q % p) (hx : quad c k0 k1 x y % p = q % p)
    (hl : (px c (a0 - k0) (a1 - k1) * x + py c (a0 - k0) (a1 - k1) * y + -(px c (a0 - k0) (a1 - k1) * a0 + py c (a0 - k0) (a1 - k1) * a1)) % p = 0) : (x - a0) % p = 0 ∧ (y - a1) % p = 0 := by
  have hpl := hp.lt
  obtain ⟨n, hn⟩ := Int.eq_ofNat_of_zero_le (show 0 ≤ p by omega)
  have hz : NeZero n := ⟨by omega⟩
  have hn2 : 2 < n := by unfold isP at hp; omega
  subst hn
  have i1 := inv_cst hp hq n hn2 rfl
  have e1 := cst_eq.2 ha
  have e2 := cst_eq.2 hx
  have e3 := cst_z.2 hl
  have key : cst n (x - a0) * cst n (x - a0) = 0 ∧ cst n (y - a1) * cst n (y - a1) = 0 := by
    rcases three' hc1 hc2 with rfl | rfl | rfl <;> simp only [px, py, quad, prod, if_true, if_false, show ¬ (0 : Int) = 1 by decide, show ¬ (0 : Int) = 2 by decide, show ¬ (1 : Int) = 0 by decide, show ¬ (1 : Int) = 2 by decide, show ¬ (2 : Int) = 0 by decide, show ¬ (2 : Int) = 1 by decide, cst_add, cst_sub, cst_mul, cst_neg] at * <;>
      (generalize cst n (inv n (q % n)) = J at *; generalize cst n q = Q at *; generalize cst n x = X at *; generalize cst n y = Y at *; generalize cst n a0 = A at *; generalize cst n a1 = B at *; generalize cst n k0 = C at *; generalize cst n k1 = D at *; constructor <;> grind)
  exact ⟨sq0 hp n hn2 rfl key.1, sq0 hp n hn2 rfl key.2⟩
theorem one_len {α : Type} {a : α} : ∀ {l : List α}, l.Nodup → (∀ x ∈ l, x = a) → a ∈ l → l.length = 1
  | [], _, _, h => by cases h
  | [_], _, _, _ => rfl
  | x :: y :: r, hn, h, _ => by
    have h1 := h x (by simp)
    have h2 := h y (by simp)
    subst h1 h2
    simp at hn
end Go.Proofs.YtccbmdpikalpfaaGreat
