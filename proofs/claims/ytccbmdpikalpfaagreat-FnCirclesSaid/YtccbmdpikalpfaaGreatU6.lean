/- The plain law of FnRadicals. -/
import Derived.Test.YtccbmdpikalpfaaGreatU5
namespace Go.Proofs.YtccbmdpikalpfaaGreat
open Go Go.RowKit
set_option linter.unusedVariables false
set_option linter.unusedSimpArgs false
structure Cyc (p c a0 a1 b0 b1 c0 c1 d0 d1 : Int) : Prop where
  hp : isP p
  hc1 : 0 ≤ c
  hc2 : c ≤ 2
  pa : In p a0 ∧ In p a1
  pb : In p b0 ∧ In p b1
  pc : In p c0 ∧ In p c1
  pd : In p d0 ∧ In p d1
  area : areaOf a0 a1 b0 b1 c0 c1 % p ≠ 0
  on : ∃ o0 o1, quad c o0 o1 b0 b1 % p = quad c o0 o1 a0 a1 % p ∧ quad c o0 o1 c0 c1 % p = quad c o0 o1 a0 a1 % p ∧ quad c o0 o1 d0 d1 % p = quad c o0 o1 a0 a1 % p
/-! ### The points of the radical line -/
theorem normal_inL {p u v w : Int} (hp : isP p) (h : ¬ (u % p = 0 ∧ v % p = 0)) : inL p (normal p u v w) = true := by
  have hpl := hp.lt
  have i1 := inN_mk (mod_in hp (u * inv p (piv p u v)))
  have i2 := inN_mk (mod_in hp (v * inv p (piv p u v)))
  have i3 := inN_mk (mod_in hp (w * inv p (piv p u v)))
  unfold inL normal
  simp only [i1, i2, i3, Bool.true_and, Bool.or_eq_true, Bool.and_eq_true, beq_iff_eq]
  have key : ∀ x : Int, x % p ≠ 0 → (x * inv p (x % p)) % p = 1 := fun x hx => by
    have := inv_mul hp (mod_in hp x) hx
    rw [Int.mul_emod, Int.emod_emod_of_dvd _ (Int.dvd_refl p), ← Int.mul_emod] at this
    exact this
  unfold piv
  by_cases hu : u % p = 0
  · refine .inr ⟨?_, ?_⟩
    · rw [if_pos hu, Int.mul_emod, hu, Int.zero_mul, Int.zero_emod]
    · rw [if_pos hu]
      exact key v fun hv => h ⟨hu, hv⟩
  · refine .inl ?_
    rw [if_neg hu]
    exact key u hu
theorem normal_iff {p u v w x y : Int} (hp : isP p) (h : ¬ (u % p = 0 ∧ v % p = 0)) : ((normal p u v w).1 * x + (normal p u v w).2.1 * y + (normal p u v w).2.2) % p = 0 ↔ (u * x + v * y + w) % p = 0 := by
  have hpl := hp.lt
  obtain ⟨n, rfl⟩ := Int.eq_ofNat_of_zero_le (show 0 ≤ p by omega)
  have : NeZero n := ⟨by omega⟩
  have hu := piv_unit hp h n (by omega) rfl
  unfold normal
  dsimp only
  rw [← cst_z, ← cst_z]
  simp only [cst_add, cst_mul, cst_mod]
  generalize cst n (inv (n : Int) (piv (n : Int) u v)) = J at *
  generalize cst n (piv (n : Int) u v) = V at *
  constructor
  · intro e
    have h2 : (cst n u * J * cst n x + cst n v * J * cst n y + cst n w * J) * V = (cst n u * cst n x + cst n v * cst n y + cst n w) * (V * J) := by clear e hu; grind
    rw [e, hu] at h2
    grind
  · intro e
    have h2 : (cst n u * J * cst n x + cst n v * J * cst n y + cst n w * J) = (cst n u * cst n x + cst n v * cst n y + cst n w) * J := by clear e hu; grind
    rw [h2, e]
    grind
theorem rad_ne {p c k0 k1 m0 m1 : Int} (hp : isP p) (hc1 : 0 ≤ c) (hc2 : c ≤ 2) (i1 : In p k0) (i2 : In p k1) (i4 : In p m0) (i5 : In p m1) (h : ¬ (k0 = m0 ∧ k1 = m1)) : ¬ (ru c k0 k1 m0 m1 % p = 0 ∧ rv c k0 k1 m0 m1 % p = 0) := by
  have hpl := hp.lt
  have half0 : ∀ z : Int, (2 * z) % p = 0 → z % p = 0 := fun z hz => by
    obtain ⟨n, rfl⟩ := Int.eq_ofNat_of_zero_le (show 0 ≤ p by omega)
    have : NeZero n := ⟨by omega⟩
    rw [← cst_z, cst_mul, cst_two (by omega)] at hz
    rw [← cst_z]
    exact two_zero hp (by omega) rfl hz
  rintro ⟨u, v⟩
  refine px_ne hp (three hc1 hc2) (d0 := m0 - k0) (d1 := m1 - k1) (fun ⟨a, b⟩ => h ⟨?_, ?_⟩) ⟨half0 _ u, half0 _ v⟩
  · rw [neg_mod0] at b
    exact (diff_zero i4 i1 b).symm
  · exact (diff_zero i5 i2 a).symm
end Go.Proofs.YtccbmdpikalpfaaGreat
