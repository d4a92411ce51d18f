/- FnCircles: what the program's and the reference's functions both answer. -/
import Derived.Test.YtccbmdpikalpfaaGreatF1
namespace Go.Proofs.YtccbmdpikalpfaaGreat
open Go Go.RowKit
set_option linter.unusedVariables false
set_option linter.unusedSimpArgs false
theorem both_IsCircle {K : Nat} (hK : 5000 ≤ K) (p a b q : Int) : ∃ (v : Bool) (e : Int), impl_IsCircle.f K p a b q = some (v, e) ∧ spec_IsCircle.f K p a b q = some (v, e) := by
  have hK' : 100 ≤ K := by omega
  unfold spec_IsCircle.f impl_IsCircle.f
  simp only [Option.bind_some, field_nice (show 10 ≤ K by omega), isField_nice]
  by_cases hp : isP p
  · simp only [hp, decide_true, if_true, l06Is_nice hp, isCircle_nice hK', Option.bind_some]
    exact ⟨_, _, rfl, rfl⟩
  · simp only [hp, decide_false, Bool.false_eq_true, if_false]
    exact ⟨_, _, rfl, rfl⟩
def powA (p c k0 k1 q a0 a1 : Int) : Int × Int := if codeG p c (k0, k1, q) (a0, a1) = 0 then (pow p c k0 k1 q a0 a1, 0) else (0, codeG p c (k0, k1, q) (a0, a1))
theorem both_PowerOf {K : Nat} (hK : 5000 ≤ K) (p c k0 k1 q a0 a1 : Int) : impl_PowerOf.f K p c k0 k1 q a0 a1 = some (powA p c k0 k1 q a0 a1) ∧ spec_PowerOf.f K p c k0 k1 q a0 a1 = some (powA p c k0 k1 q a0 a1) := by
  have hK' : 100 ≤ K := by omega
  unfold spec_PowerOf.f impl_PowerOf.f powA
  simp only [Option.bind_some, given_nice hK', askedG_PowerOf hK']
  by_cases h : codeG p c (k0, k1, q) (a0, a1) = 0
  · obtain ⟨hp, hc1, hc2, ⟨h1, h2, h3⟩, h4, h5⟩ := codeG_zero h
    simp only [h, Option.bind_some, beq_self_eq_true, if_true, specPower_nice hp (h1.b hp) (h2.b hp) (h3.b hp) (h4.b hp) (h5.b hp), implPower_nice hp (h1.b hp) (h2.b hp) (h3.b hp) (h4.b hp) (h5.b hp), and_self]
  · simp [h]
/-- The inverse point. -/
def ivx (p c k0 k1 q a0 a1 x y : Int) : Int := (x + q * inv p (quad c k0 k1 a0 a1 % p) % p * (y - x)) % p
def ivA (p c k0 k1 q a0 a1 : Int) : Int × Int × Int := if codeG p c (k0, k1, q) (a0, a1) = 0 then if quad c k0 k1 a0 a1 % p = 0 then (0, 0, 5) else (ivx p c k0 k1 q a0 a1 k0 a0, ivx p c k0 k1 q a0 a1 k1 a1, 0) else (0, 0, codeG p c (k0, k1, q) (a0, a1))
theorem both_InversePoint {K : Nat} (hK : 5000 ≤ K) (p c k0 k1 q a0 a1 : Int) : impl_InversePoint.f K p c k0 k1 q a0 a1 = some (ivA p c k0 k1 q a0 a1) ∧ spec_InversePoint.f K p c k0 k1 q a0 a1 = some (ivA p c k0 k1 q a0 a1) := by
  have hK' : 100 ≤ K := by omega
  unfold spec_InversePoint.f impl_InversePoint.f ivA
  simp only [Option.bind_some, given_nice hK', askedG_InversePoint hK']
  by_cases h : codeG p c (k0, k1, q) (a0, a1) = 0
  · obtain ⟨hp, hc1, hc2, ⟨h1, h2, h3⟩, h4, h5⟩ := codeG_zero h
    replace h1 := h1.b hp; replace h2 := h2.b hp; replace h3 := h3.b hp; replace h4 := h4.b hp; replace h5 := h5.b hp
    simp only [h, Option.bind_some, beq_self_eq_true, if_true, specQuadrance_nice hp h1 h2 h4 h5, implQuadrance_nice hp h1 h2 h4 h5]
    by_cases ht : quad c k0 k1 a0 a1 % p = 0
    · simp [ht]
    · have hi := (inv_in hp (mod_in hp (quad c k0 k1 a0 a1))).b hp
      have hb : (quad c k0 k1 a0 a1 % p == 0) = false := by simpa using ht
      simp only [hb, Bool.false_eq_true, if_false, if_neg ht]
      rw [specInverse_nice hK' hp (mod_in hp _), implDivide_nice hK' hp (h3.le (by decide)) (mod_in hp _), specMinus_nice hp h4 h5 h1 h2]
      simp only [Option.bind_some]
      rw [w_eq (Sm.of (h3.mul hi) rfl), mod_nice hp]
      simp only [Option.bind_some]
      rw [specTimes_nice hp (B.mod hp _) (B.mod hp _) (B.mod hp _)]
      simp only [Option.bind_some]
      rw [specPlus_nice hp h1 h2 (B.mod hp _) (B.mod hp _)]
      unfold impl_combination.f
      simp (disch := exact Sm.of (by repeat' first | assumption | apply B.add | apply B.sub | apply B.mul | exact B.mod hp _ | exact B.const _) rfl) only [w_eq, rest_nice hp, Option.bind_some]
      have e : ∀ x y : Int, (x + q * inv p (quad c k0 k1 a0 a1 % p) % p * (y - x)) % p = (x + q * inv p (quad c k0 k1 a0 a1 % p) % p * ((y - x) % p) % p) % p := fun x y => emod_ring hp fun n _ hn e => by
        subst e
        simp only [cst_add, cst_sub, cst_mul, cst_mod]
      unfold ivx
      rw [e, e]
      exact ⟨rfl, rfl⟩
  · simp [h]
def Pr3' {n : Nat} [NeZero n] (c : Int) (u v : Fin n) : Fin n := if c = 0 then u * u + v * v else if c = 1 then u * u - v * v else u * v + v * u
theorem three' {c : Int} (h1 : 0 ≤ c) (h2 : c ≤ 2) : c = 0 ∨ c = 1 ∨ c = 2 := by omega
/-- The inverse of the inverse point is the point. -/
theorem iv_back {p c k0 k1 q a0 a1 : Int} (hc1 : 0 ≤ c) (hc2 : c ≤ 2) (hp : isP p) (h4 : In p a0) (h5 : In p a1) (hq : q % p ≠ 0) (ht : quad c k0 k1 a0 a1 % p ≠ 0) :
    quad c k0 k1 (ivx p c k0 k1 q a0 a1 k0 a0) (ivx p c k0 k1 q a0 a1 k1 a1) % p ≠ 0 ∧
    ivx p c k0 k1 q (ivx p c k0 k1 q a0 a1 k0 a0) (ivx p c k0 k1 q a0 a1 k1 a1) k0 (ivx p c k0 k1 q a0 a1 k0 a0) = a0 ∧
    ivx p c k0 k1 q (ivx p c k0 k1 q a0 a1 k0 a0) (ivx p c k0 k1 q a0 a1 k1 a1) k1 (ivx p c k0 k1 q a0 a1 k1 a1) = a1 := by
  have hpl := hp.lt
  obtain ⟨n, hn⟩ := Int.eq_ofNat_of_zero_le (show 0 ≤ p by omega)
  have hz : NeZero n := ⟨by omega⟩
  have hn2 : 2 < n := by unfold isP at hp; omega
  subst hn
  have i1 := inv_cst hp hq n hn2 rfl
  have i2 := inv_cst hp ht n hn2 rfl
  have hx : ∀ (I x y : Int), cst n ((x + q * I % (n : Int) * (y - x)) % (n : Int)) = cst n x + cst n q * cst n I * (cst n y - cst n x) := fun I x y => by
    simp only [cst_add, cst_sub, cst_mul, cst_mod]
  have hqd : ∀ x y : Int, cst n (quad c k0 k1 x y) = Pr3' c (cst n x - cst n k0) (cst n y - cst n k1) := fun x y => by
    rcases three' hc1 hc2 with rfl | rfl | rfl <;> simp [quad, prod, Pr3', cst_add, cst_sub, cst_mul]
  -- the quadrance of the inverse point
  have hQ : cst n (quad c k0 k1 (ivx n c k0 k1 q a0 a1 k0 a0) (ivx n c k0 k1 q a0 a1 k1 a1)) = cst n q * cst n (inv n (quad c k0 k1 a0 a1 % n)) * cst n q := by
    have e := hqd a0 a1
    rw [hqd]
    unfold ivx
    rw [hx, hx]
    generalize cst n (inv n (quad c k0 k1 a0 a1 % n)) = I at *
    generalize cst n (quad c k0 k1 a0 a1) = t at *
    subst e
    rcases three' hc1 hc2 with rfl | rfl | rfl <;> simp only [Pr3', if_true, if_false, show ¬ (1 : Int) = 0 by decide, show ¬ (2 : Int) = 0 by decide, show ¬ (2 : Int) = 1 by decide] at * <;> grind
  have hne : quad c k0 k1 (ivx n c k0 k1 q a0 a1 k0 a0) (ivx n c k0 k1 q a0 a1 k1 a1) % (n : Int) ≠ 0 := fun h => by
    have h' := cst_z.2 h
    rw [hQ] at h'
    have h1 := cst_one (n := n) (by omega)
    generalize cst n (inv n (quad c k0 k1 a0 a1 % n)) = I at *
    generalize cst n (inv n (q % n)) = J at *
    generalize cst n (quad c k0 k1 a0 a1) = t at *
    generalize cst n q = u at *
    have : (1 : Fin n) = 0 := by grind
    rw [← h1, ← cst_zero, cst_eq, Int.emod_eq_of_lt (by omega) (by omega), Int.emod_eq_of_lt (by omega) (by omega)] at this
    omega
  have i3 := inv_cst hp hne n hn2 rfl
  rw [hQ] at i3
  have fin : ∀ o a : Int, In (n : Int) a → ivx n c k0 k1 q (ivx n c k0 k1 q a0 a1 k0 a0) (ivx n c k0 k1 q a0 a1 k1 a1) o (ivx n c k0 k1 q a0 a1 o a) = a := fun o a ha => by
    have e : cst n (ivx n c k0 k1 q (ivx n c k0 k1 q a0 a1 k0 a0) (ivx n c k0 k1 q a0 a1 k1 a1) o (ivx n c k0 k1 q a0 a1 o a)) = cst n a := by
      generalize ivx n c k0 k1 q a0 a1 k0 a0 = X at *
      generalize ivx n c k0 k1 q a0 a1 k1 a1 = Y at *
      unfold ivx
      rw [hx, hx]
      generalize cst n (inv n (quad c k0 k1 X Y % n)) = J at *
      generalize cst n (inv n (quad c k0 k1 a0 a1 % n)) = I at *
      grind
    have e2 := cst_eq.1 e
    rw [ha.mod] at e2
    refine (show _ = _ % (n : Int) from ?_).trans e2
    unfold ivx
    rw [Int.emod_emod_of_dvd _ (Int.dvd_refl _)]
  exact ⟨hne, fin k0 a0 h4, fin k1 a1 h5⟩
end Go.Proofs.YtccbmdpikalpfaaGreat
