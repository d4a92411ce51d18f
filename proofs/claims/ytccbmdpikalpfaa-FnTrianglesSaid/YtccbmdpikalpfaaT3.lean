/- Plain laws of triangles: the centroid lies on the median, the orthocentre on the altitude, the altitude is perpendicular to its side, the circumcentre is alike far from the corners. -/
import Derived.Test.YtccbmdpikalpfaaM6
namespace Go.Proofs.Ytccbmdpikalpfaa
open Go Go.RowKit
set_option linter.unusedVariables false
set_option linter.unusedSimpArgs false
/-- The point where two lines meet lies on both. -/
theorem meet_on {p l0 l1 l2 m0 m1 m2 : Int} (hp : isP p) (hd : det l0 l1 m0 m1 % p ≠ 0) : (l0 * meet0 p l0 l1 l2 m0 m1 m2 + l1 * meet1 p l0 l1 l2 m0 m1 m2 + l2) % p = 0 ∧ (m0 * meet0 p l0 l1 l2 m0 m1 m2 + m1 * meet1 p l0 l1 l2 m0 m1 m2 + m2) % p = 0 := by
  have hpl := hp.lt
  obtain ⟨n, hn⟩ := Int.eq_ofNat_of_zero_le (show 0 ≤ p by omega)
  have : NeZero n := ⟨by omega⟩
  have hn2 : 2 < n := by omega
  have hi := inv_cst hp hd n hn2 hn
  unfold meet0 meet1
  generalize inv p (det l0 l1 m0 m1 % p) = J at *
  rw [hn, ← cst_z, ← cst_z]
  simp only [det, cst_add, cst_sub, cst_mul, cst_mod] at hi ⊢
  generalize cst n l0 = L0 at *
  generalize cst n l1 = L1 at *
  generalize cst n l2 = L2 at *
  generalize cst n m0 = N0 at *
  generalize cst n m1 = N1 at *
  generalize cst n m2 = N2 at *
  generalize cst n J = j at *
  constructor
  · have : L2 * ((L0 * N1 - L1 * N0) * j) = L2 * 1 := by rw [hi]
    grind
  · have : N2 * ((L0 * N1 - L1 * N0) * j) = N2 * 1 := by rw [hi]
    grind
/-- A line in normal form is the line. -/
theorem normal_on {p u v w x y : Int} (hp : isP p) (h : (u * x + v * y + w) % p = 0) : ((normal p u v w).1 * x + (normal p u v w).2.1 * y + (normal p u v w).2.2) % p = 0 := by
  have hpl := hp.lt
  obtain ⟨n, hn⟩ := Int.eq_ofNat_of_zero_le (show 0 ≤ p by omega)
  have : NeZero n := ⟨by omega⟩
  unfold normal
  dsimp only
  generalize inv p (piv p u v) = J
  rw [hn, ← cst_z] at h ⊢
  simp only [cst_add, cst_sub, cst_mul, cst_mod] at h ⊢
  have : (cst n u * cst n x + cst n v * cst n y + cst n w) * cst n J = 0 * cst n J := by rw [h]
  grind
theorem normal_det {p u v w u' v' w' : Int} (hp : isP p) (g1 : ¬ (u % p = 0 ∧ v % p = 0)) (g2 : ¬ (u' % p = 0 ∧ v' % p = 0)) (h : (u * v' - v * u') % p ≠ 0) : det (normal p u v w).1 (normal p u v w).2.1 (normal p u' v' w').1 (normal p u' v' w').2.1 % p ≠ 0 := by
  have hpl := hp.lt
  obtain ⟨n, hn⟩ := Int.eq_ofNat_of_zero_le (show 0 ≤ p by omega)
  have : NeZero n := ⟨by omega⟩
  have hn2 : 2 < n := by omega
  have u1 := piv_unit hp g1 n hn2 hn
  have u2 := piv_unit hp g2 n hn2 hn
  intro hz
  refine h ?_
  unfold det normal at hz
  dsimp only at hz
  rw [hn, ← cst_z] at hz ⊢
  simp only [cst_sub, cst_mul, cst_mod] at hz ⊢
  rw [← hn] at hz
  generalize cst n (inv p (piv p u v)) = k1 at *
  generalize cst n (inv p (piv p u' v')) = k2 at *
  generalize cst n (piv p u v) = j1 at *
  generalize cst n (piv p u' v') = j2 at *
  have h3 : (j1 * k1) * (j2 * k2) * (cst n u * cst n v' - cst n v * cst n u') = j1 * j2 * (cst n u * k1 * (cst n v' * k2) - cst n v * k1 * (cst n u' * k2)) := by grind
  rw [hz, u1, u2] at h3
  grind
theorem orth_on {p c a0 a1 b0 b1 c0 c1 : Int} (hp : isP p) (hc1 : 0 ≤ c) (hc2 : c ≤ 2) (har : areaOf a0 a1 b0 b1 c0 c1 % p ≠ 0) :
    ((altOf p c a0 a1 b0 b1 c0 c1).1 * (orth p c a0 a1 b0 b1 c0 c1).1 + (altOf p c a0 a1 b0 b1 c0 c1).2.1 * (orth p c a0 a1 b0 b1 c0 c1).2 + (altOf p c a0 a1 b0 b1 c0 c1).2.2) % p = 0 := by
  have hc : c = 0 ∨ c = 1 ∨ c = 2 := by omega
  refine (meet_on hp ?_).1
  have hx : ∀ u v : Int, ¬ (u % p = 0 ∧ v % p = 0) → ¬ (px c u v % p = 0 ∧ py c u v % p = 0) := fun u v h => px_ne hp hc (by rw [neg_mod0]; exact fun ⟨x, y⟩ => h ⟨y, x⟩)
  obtain ⟨e1, e2, -⟩ := area_ne hp har
  unfold altOf perpOf
  have hpl := hp.lt
  obtain ⟨n, hn⟩ := Int.eq_ofNat_of_zero_le (show 0 ≤ p by omega)
  have : NeZero n := ⟨by omega⟩
  have neg : ∀ x y : Int, (x - y) % p = 0 → (y - x) % p = 0 := fun x y h => by
    rw [show y - x = -(x - y) by omega, neg_mod0]; exact h
  refine normal_det hp (hx _ _ fun ⟨x, y⟩ => e1 ⟨y, neg _ _ x⟩) (hx _ _ fun ⟨x, y⟩ => e2 ⟨y, neg _ _ x⟩) fun hz => har ?_
  rw [hn, ← cst_z] at hz ⊢
  rcases hc with rfl | rfl | rfl <;> simp only [areaOf, px, py, if_true, if_false, show ¬ (0 : Int) = 1 by decide, show ¬ (0 : Int) = 2 by decide, show ¬ (1 : Int) = 0 by decide, show ¬ (1 : Int) = 2 by decide, show ¬ (2 : Int) = 0 by decide, show ¬ (2 : Int) = 1 by decide, cst_add, cst_sub, cst_mul, cst_mod, cst_neg] at hz ⊢ <;> grind
theorem alt_perp {p c a0 a1 b0 b1 c0 c1 : Int} (hp : isP p) (hc1 : 0 ≤ c) (hc2 : c ≤ 2) : perpB p c (lineOf p b0 b1 c0 c1).1 (lineOf p b0 b1 c0 c1).2.1 (altOf p c a0 a1 b0 b1 c0 c1) = true := by
  have hc : c = 0 ∨ c = 1 ∨ c = 2 := by omega
  have hpl := hp.lt
  obtain ⟨n, hn⟩ := Int.eq_ofNat_of_zero_le (show 0 ≤ p by omega)
  have : NeZero n := ⟨by omega⟩
  unfold perpB lineOf altOf perpOf normal
  dsimp only
  rw [beq_iff_eq]
  generalize inv p (piv p (b1 - c1) (c0 - b0)) = J
  generalize inv p (piv p (px c (b0 - c0) (b1 - c1)) (py c (b0 - c0) (b1 - c1))) = J'
  rw [hn, ← cst_z]
  rcases hc with rfl | rfl | rfl <;> simp only [prod, px, py, if_true, if_false, show ¬ (0 : Int) = 1 by decide, show ¬ (0 : Int) = 2 by decide, show ¬ (1 : Int) = 0 by decide, show ¬ (1 : Int) = 2 by decide, show ¬ (2 : Int) = 0 by decide, show ¬ (2 : Int) = 1 by decide, cst_add, cst_sub, cst_mul, cst_mod, cst_neg] <;> grind
theorem quad_sym {p c a0 a1 b0 b1 : Int} : quad c a0 a1 b0 b1 = quad c b0 b1 a0 a1 := by
  unfold quad prod
  split
  · grind
  · split <;> grind
theorem circ_far {p c a0 a1 b0 b1 c0 c1 : Int} (hp : isP p) (hc1 : 0 ≤ c) (hc2 : c ≤ 2) (har : areaOf a0 a1 b0 b1 c0 c1 % p ≠ 0) :
    quad c (circ p c a0 a1 b0 b1 c0 c1).1 (circ p c a0 a1 b0 b1 c0 c1).2 b0 b1 % p = quad c (circ p c a0 a1 b0 b1 c0 c1).1 (circ p c a0 a1 b0 b1 c0 c1).2 a0 a1 % p ∧
    quad c (circ p c a0 a1 b0 b1 c0 c1).1 (circ p c a0 a1 b0 b1 c0 c1).2 c0 c1 % p = quad c (circ p c a0 a1 b0 b1 c0 c1).1 (circ p c a0 a1 b0 b1 c0 c1).2 a0 a1 % p := by
  have h := List.find?_some (circ_find hp hc1 hc2 har)
  unfold circB at h
  simp only [Bool.and_eq_true, beq_iff_eq] at h
  exact ⟨h.1.symm, h.2.symm⟩
/-- The centroid, where 3 has an inverse. -/
def ctr (p a0 a1 b0 b1 c0 c1 : Int) : Int × Int := ((inv p 3 * ((a0 + (b0 + c0) % p) % p)) % p, (inv p 3 * ((a1 + (b1 + c1) % p) % p)) % p)
theorem ctr_on {p a0 a1 b0 b1 c0 c1 : Int} (hp : isP p) (h3 : p ≠ 3) :
    ((lineOf p a0 a1 (mid p b0 c0) (mid p b1 c1)).1 * (ctr p a0 a1 b0 b1 c0 c1).1 + (lineOf p a0 a1 (mid p b0 c0) (mid p b1 c1)).2.1 * (ctr p a0 a1 b0 b1 c0 c1).2 + (lineOf p a0 a1 (mid p b0 c0) (mid p b1 c1)).2.2) % p = 0 := by
  have hpl := hp.lt
  obtain ⟨n, hn⟩ := Int.eq_ofNat_of_zero_le (show 0 ≤ p by omega)
  have : NeZero n := ⟨by omega⟩
  have hn2 : 2 < n := by omega
  have h3i : In p 3 := ⟨by unfold isP at hp; omega⟩
  have hi := inv_cst hp (x := 3) (by rw [h3i.mod]; decide) n hn2 hn
  rw [h3i.mod] at hi
  have hh := half_cst hp n hn2 hn
  have c3 : cst n 3 = 3 := by
    rw [show (3 : Int) = 2 + 1 from rfl, cst_add, cst_two hn2, cst_one (by omega)]
    grind
  rw [c3] at hi
  refine normal_on hp ?_
  unfold ctr mid
  dsimp only
  generalize inv p 3 = i at *
  rw [hn, ← cst_z] at *
  simp only [cst_add, cst_sub, cst_mul, cst_mod]
  generalize cst n (half (n : Int)) = h at *
  generalize cst n i = i at *
  generalize cst n a0 = A0 at *
  generalize cst n a1 = A1 at *
  generalize cst n b0 = B0 at *
  generalize cst n b1 = B1 at *
  generalize cst n c0 = C0 at *
  generalize cst n c1 = C1 at *
  generalize hX : h * (B0 + C0) = X
  generalize hY : h * (B1 + C1) = Y
  have eX : B0 + C0 = 2 * X := by
    have : (2 * h) * (B0 + C0) = 1 * (B0 + C0) := by rw [hh]
    grind
  have eY : B1 + C1 = 2 * Y := by
    have : (2 * h) * (B1 + C1) = 1 * (B1 + C1) := by rw [hh]
    grind
  rw [eX, eY]
  have : 3 * i * (A0 * Y - X * A1) = 1 * (A0 * Y - X * A1) := by rw [hi]
  grind
end Go.Proofs.Ytccbmdpikalpfaa
