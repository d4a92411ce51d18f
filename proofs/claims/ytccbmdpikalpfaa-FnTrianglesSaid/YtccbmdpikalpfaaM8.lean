/- Plain laws: the foot of a point on a line, and the points of the orthic triangle. -/
import Derived.Test.YtccbmdpikalpfaaM6
import Derived.Test.YtccbmdpikalpfaaI2
namespace Go.Proofs.Ytccbmdpikalpfaa
open Go Go.RowKit
set_option linter.unusedVariables false
set_option linter.unusedSimpArgs false
/-- The perpendicular to a line through a point. -/
def pl (p c a0 a1 : Int) (l : Int × Int × Int) : Int × Int × Int := perpOf p c (-l.2.1) l.1 a0 a1
def ft (p c a0 a1 : Int) (l : Int × Int × Int) : Int × Int :=
  (meet0 p l.1 l.2.1 l.2.2 (pl p c a0 a1 l).1 (pl p c a0 a1 l).2.1 (pl p c a0 a1 l).2.2, meet1 p l.1 l.2.1 l.2.2 (pl p c a0 a1 l).1 (pl p c a0 a1 l).2.1 (pl p c a0 a1 l).2.2)
def nullB (p c : Int) (l : Int × Int × Int) : Bool := prod c (-l.2.1) l.1 (-l.2.1) l.1 % p == 0
/-- A line in normal form. -/
structure Ln (p : Int) (l : Int × Int × Int) : Prop where
  i0 : In p l.1
  i1 : In p l.2.1
  i2 : In p l.2.2
  ne : ¬ (l.1 % p = 0 ∧ l.2.1 % p = 0)
theorem Ln.of_normal {p u v w : Int} (hp : isP p) (h : ¬ (u % p = 0 ∧ v % p = 0)) : Ln p (normal p u v w) := ⟨mod_in hp _, mod_in hp _, mod_in hp _, normal_ne hp h⟩
theorem pl_b {p c a0 a1 : Int} {l : Int × Int × Int} (hp : isP p) : B 31 (pl p c a0 a1 l).1 ∧ B 31 (pl p c a0 a1 l).2.1 ∧ B 31 (pl p c a0 a1 l).2.2 := normal_b hp
theorem pl_perp {p c a0 a1 : Int} {l : Int × Int × Int} (hp : isP p) (hc1 : 0 ≤ c) (hc2 : c ≤ 2) : normal p (-be c l.1 l.2.1) (al c l.1 l.2.1) (be c l.1 l.2.1 * a0 - al c l.1 l.2.1 * a1) = pl p c a0 a1 l := by
  have hc : c = 0 ∨ c = 1 ∨ c = 2 := by omega
  unfold pl perpOf
  refine normal_unit hp fun n _ hn e => ⟨1, 1, by grind, ?_, ?_, ?_⟩
  all_goals
    subst e
    rcases hc with rfl | rfl | rfl <;> simp only [px, py, al, be, if_true, if_false, show ¬ (0 : Int) = 1 by decide, show ¬ (0 : Int) = 2 by decide, show ¬ (1 : Int) = 0 by decide, show ¬ (1 : Int) = 2 by decide, show ¬ (2 : Int) = 0 by decide, show ¬ (2 : Int) = 1 by decide, cst_add, cst_sub, cst_mul, cst_mod, cst_neg] <;> grind
theorem det_null {p c a0 a1 : Int} {l : Int × Int × Int} (hp : isP p) (hc1 : 0 ≤ c) (hc2 : c ≤ 2) (hl : Ln p l) : (det l.1 l.2.1 (pl p c a0 a1 l).1 (pl p c a0 a1 l).2.1 % p == 0) = nullB p c l := by
  have hc : c = 0 ∨ c = 1 ∨ c = 2 := by omega
  have hpl := hp.lt
  obtain ⟨n, hn⟩ := Int.eq_ofNat_of_zero_le (show 0 ≤ p by omega)
  have : NeZero n := ⟨by omega⟩
  have hn2 : 2 < n := by omega
  have hg : ¬ (px c (-l.2.1) l.1 % p = 0 ∧ py c (-l.2.1) l.1 % p = 0) := px_ne hp hc (by
    rw [Int.neg_neg]
    exact hl.ne)
  have hu := piv_unit hp hg n hn2 hn
  rw [Bool.eq_iff_iff, beq_iff_eq]
  unfold nullB
  rw [beq_iff_eq]
  have e : cst n (det l.1 l.2.1 (pl p c a0 a1 l).1 (pl p c a0 a1 l).2.1) = cst n (prod c (-l.2.1) l.1 (-l.2.1) l.1) * cst n (inv p (piv p (px c (-l.2.1) l.1) (py c (-l.2.1) l.1))) := by
    unfold det pl perpOf normal
    simp only
    generalize inv p (piv p (px c (-l.2.1) l.1) (py c (-l.2.1) l.1)) = j
    rw [hn]
    rcases hc with rfl | rfl | rfl <;> simp only [px, py, prod, if_true, if_false, show ¬ (0 : Int) = 1 by decide, show ¬ (0 : Int) = 2 by decide, show ¬ (1 : Int) = 0 by decide, show ¬ (1 : Int) = 2 by decide, show ¬ (2 : Int) = 0 by decide, show ¬ (2 : Int) = 1 by decide, cst_add, cst_sub, cst_mul, cst_mod, cst_neg] <;> grind
  have hz : ∀ x : Int, x % p = 0 ↔ cst n x = 0 := fun x => by rw [hn]; exact cst_z.symm
  rw [hz, hz, e]
  generalize cst n (inv p (piv p (px c (-l.2.1) l.1) (py c (-l.2.1) l.1))) = j at *
  generalize cst n (piv p (px c (-l.2.1) l.1) (py c (-l.2.1) l.1)) = i at *
  generalize cst n (prod c (-l.2.1) l.1 (-l.2.1) l.1) = x at *
  constructor
  · intro h
    have : i * (x * j) = i * 0 := by rw [h]
    have : x * (i * j) = x * 1 := by rw [hu]
    grind
  · intro h
    rw [h]
    grind
def ansOP (p c a0 a1 b0 b1 c0 c1 : Int) : List (Int × Int) × Int :=
  if code3 p c [(a0, a1), (b0, b1), (c0, c1)] (areaOf a0 a1 b0 b1 c0 c1) = 0 then
    if nullB p c (lineOf p b0 b1 c0 c1) then ([], 5) else if nullB p c (lineOf p a0 a1 c0 c1) then ([], 5) else if nullB p c (lineOf p a0 a1 b0 b1) then ([], 5)
    else ([ft p c a0 a1 (lineOf p b0 b1 c0 c1), ft p c b0 b1 (lineOf p a0 a1 c0 c1), ft p c c0 c1 (lineOf p a0 a1 b0 b1)], 0)
  else ([], code3 p c [(a0, a1), (b0, b1), (c0, c1)] (areaOf a0 a1 b0 b1 c0 c1))
theorem ansOP_len {p c a0 a1 b0 b1 c0 c1 : Int} : (ansOP p c a0 a1 b0 b1 c0 c1).1.length ≤ 3 := by
  unfold ansOP
  repeat' split
  all_goals simp
end Go.Proofs.Ytccbmdpikalpfaa
