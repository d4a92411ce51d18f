/- Plain laws: reflections keep quadrances; spreads. -/
import Derived.Test.YtccbmdpikalpfaaT1
namespace Go.Proofs.Ytccbmdpikalpfaa
open Go Go.RowKit
set_option linter.unusedVariables false
set_option linter.unusedSimpArgs false
/-- A product in the ring. -/
def Pr3 {n : Nat} (c : Int) (x y z w : Fin n) : Fin n := if c = 0 then x * z + y * w else if c = 1 then x * z - y * w else x * w + y * z
theorem cst_prod {n : Nat} [NeZero n] (c x y z w : Int) : cst n (prod c x y z w) = Pr3 c (cst n x) (cst n y) (cst n z) (cst n w) := by
  unfold prod Pr3
  split
  · rw [cst_add, cst_mul, cst_mul]
  · split
    · rw [cst_sub, cst_mul, cst_mul]
    · rw [cst_add, cst_mul, cst_mul]
theorem refl_keeps {p c m l x0 x1 y0 y1 : Int} (hp : isP p) (hc1 : 0 ≤ c) (hc2 : c ≤ 2) (hz : nullB p c (1, m, l) = false) :
    quad c (mv p (refl0 p c 1 m) (refl1 p c 1 m) (refl2 p c 1 m) (refl3 p c 1 m) (refl4 p c 1 m l) (refl5 p c 1 m l) x0 x1).1 (mv p (refl0 p c 1 m) (refl1 p c 1 m) (refl2 p c 1 m) (refl3 p c 1 m) (refl4 p c 1 m l) (refl5 p c 1 m l) x0 x1).2
      (mv p (refl0 p c 1 m) (refl1 p c 1 m) (refl2 p c 1 m) (refl3 p c 1 m) (refl4 p c 1 m l) (refl5 p c 1 m l) y0 y1).1 (mv p (refl0 p c 1 m) (refl1 p c 1 m) (refl2 p c 1 m) (refl3 p c 1 m) (refl4 p c 1 m l) (refl5 p c 1 m l) y0 y1).2 % p = quad c x0 x1 y0 y1 % p := by
  have hN : nn c 1 m % p ≠ 0 := by
    unfold nullB at hz
    simpa [nn] using hz
  refine emod_ring hp fun n _ hn e => ?_
  have hI := inv_cst hp hN n hn e
  unfold quad mv
  dsimp only
  simp only [cst_prod, refl0, refl1, refl2, refl3, refl4, refl5]
  generalize inv p (nn c 1 m % p) = M at *
  rw [nn, cst_prod] at hI
  rw [e]
  rcases thr hc1 hc2 with rfl | rfl | rfl <;>
    simp only [Pr3, px, py, if_true, if_false, show ¬ (0 : Int) = 1 by decide, show ¬ (0 : Int) = 2 by decide, show ¬ (1 : Int) = 0 by decide, show ¬ (1 : Int) = 2 by decide, show ¬ (2 : Int) = 0 by decide, show ¬ (2 : Int) = 1 by decide, cst_add, cst_sub, cst_mul, cst_mod, cst_neg, cst_one (show 1 < n by omega), cst_two hn] at hI ⊢ <;> grind
/-! ### Directions of lines through two points -/
theorem quad_ne {p c a0 a1 b0 b1 : Int} (hp : isP p) (q : quad c a0 a1 b0 b1 % p ≠ 0) : ¬ ((a1 - b1) % p = 0 ∧ (b0 - a0) % p = 0) := fun h => q (by
  have : quad c a0 a1 b0 b1 % p = (0 : Int) % p := emod_ring hp fun n _ hn e => by
    obtain ⟨h1, h2⟩ := h
    rw [e, ← cst_z, cst_sub] at h1 h2
    rw [quad, cst_prod, cst_zero]
    simp only [Pr3, cst_sub]
    split
    · grind
    · split <;> grind
  simpa using this)
theorem wayL {p a0 a1 b0 b1 : Int} (hp : isP p) (h : ¬ ((a1 - b1) % p = 0 ∧ (b0 - a0) % p = 0)) (n : Nat) [NeZero n] (hn : 2 < n) (e : p = n) :
    ∃ T P : Fin n, P * T = 1 ∧ cst n (-(lineOf p a0 a1 b0 b1).2.1) = T * (cst n a0 - cst n b0) ∧ cst n (lineOf p a0 a1 b0 b1).1 = T * (cst n a1 - cst n b1) := by
  refine ⟨_, _, piv_unit hp h n hn e, ?_, ?_⟩
  · unfold lineOf normal
    dsimp only
    generalize inv p (piv p (a1 - b1) (b0 - a0)) = M
    rw [e]
    simp only [cst_neg, cst_mod, cst_mul, cst_sub]
    grind
  · unfold lineOf normal
    dsimp only
    generalize inv p (piv p (a1 - b1) (b0 - a0)) = M
    rw [e]
    simp only [cst_mod, cst_mul, cst_sub]
    grind
theorem Pr3_scale {n : Nat} [NeZero n] (c : Int) (T S x y z w : Fin n) : Pr3 c (T * x) (T * y) (S * z) (S * w) = T * S * Pr3 c x y z w := by
  unfold Pr3
  split
  · grind
  · split <;> grind
theorem null_line {p c a0 a1 b0 b1 : Int} (hp : isP p) (q : quad c a0 a1 b0 b1 % p ≠ 0) : nullB p c (lineOf p a0 a1 b0 b1) = false := by
  have h := quad_ne hp q
  unfold nullB
  rw [beq_eq_false_iff_ne]
  intro h0
  apply q
  have : quad c a0 a1 b0 b1 % p = (0 : Int) % p := emod_ring hp fun n _ hn e => by
    obtain ⟨T, P, hu, e1, e2⟩ := wayL hp h n hn e
    rw [e, ← cst_z, cst_prod, ← e, e1, e2, Pr3_scale] at h0
    rw [quad, cst_prod, cst_zero]
    simp only [cst_sub]
    have e3 : Pr3 c (cst n b0 - cst n a0) (cst n b1 - cst n a1) (cst n b0 - cst n a0) (cst n b1 - cst n a1) = Pr3 c (cst n a0 - cst n b0) (cst n a1 - cst n b1) (cst n a0 - cst n b0) (cst n a1 - cst n b1) := by
      unfold Pr3
      split
      · grind
      · split <;> grind
    rw [e3]
    generalize Pr3 c (cst n a0 - cst n b0) (cst n a1 - cst n b1) (cst n a0 - cst n b0) (cst n a1 - cst n b1) = Q at *
    have : (P * T) * (P * T) * Q = P * P * (T * T * Q) := by grind
    rw [h0, hu] at this
    grind
  simpa using this
theorem one_ne {n : Nat} [NeZero n] (h : 1 < n) : (1 : Fin n) ≠ 0 := by
  intro e
  have e2 := cst_one h
  rw [e] at e2
  have e3 := congrArg Fin.val e2
  have e4 := cst_val (n := n) 1
  rw [e3] at e4
  simp at e4
  rw [Int.emod_eq_of_lt (by omega) (by omega)] at e4
  omega
theorem spreadAt_ex {K : Nat} (hK : 100 ≤ K) {p c a0 a1 b0 b1 d0 d1 : Int} (hp : isP p) (i1 : In p a0) (i2 : In p a1) (i3 : In p b0) (i4 : In p b1) (i5 : In p d0) (i6 : In p d1)
    (q1 : quad c a0 a1 b0 b1 % p ≠ 0) (q2 : quad c a0 a1 d0 d1 % p ≠ 0) :
    ∃ s, impl_spreadAt.f K p c a0 a1 b0 b1 d0 d1 = some (s, true) ∧ In p s ∧ ∀ (n : Nat) [NeZero n], 2 < n → p = n →
      cst n s * cst n (quad c a0 a1 b0 b1) * cst n (quad c a0 a1 d0 d1) = cst n (quad c a0 a1 b0 b1) * cst n (quad c a0 a1 d0 d1) - Pr3 c (cst n a0 - cst n b0) (cst n a1 - cst n b1) (cst n a0 - cst n d0) (cst n a1 - cst n d1) * Pr3 c (cst n a0 - cst n b0) (cst n a1 - cst n b1) (cst n a0 - cst n d0) (cst n a1 - cst n d1) := by
  have h1 := quad_ne hp q1
  have h2 := quad_ne hp q2
  have n1 := null_line hp q1
  have n2 := null_line hp q2
  have L1 : Ln p (lineOf p a0 a1 b0 b1) := Ln.of_normal hp h1
  have L2 : Ln p (lineOf p a0 a1 d0 d1) := Ln.of_normal hp h2
  have w1 := fun n [NeZero n] hn e => wayL (n := n) hp h1 hn e
  have w2 := fun n [NeZero n] hn e => wayL (n := n) hp h2 hn e
  have t1 := implLineThrough_nice hK hp (i1.b hp) (i2.b hp) (i3.b hp) (i4.b hp)
  have t2 := implLineThrough_nice hK hp (i1.b hp) (i2.b hp) (i5.b hp) (i6.b hp)
  have u1 := implNull_nice (K := K) (c := c) hp L1
  have u2 := implNull_nice (K := K) (c := c) hp L2
  have zz : ∀ x y : Int, quad c x y x y = 0 := fun x y => by simp [quad, prod]
  have ne1 : (a0 == b0 && a1 == b1) = false := by
    cases hx : (a0 == b0 && a1 == b1)
    · rfl
    · simp only [Bool.and_eq_true, beq_iff_eq] at hx
      obtain ⟨rfl, rfl⟩ := hx
      exact absurd (by rw [zz]; simp) q1
  have ne2 : (a0 == d0 && a1 == d1) = false := by
    cases hx : (a0 == d0 && a1 == d1)
    · rfl
    · simp only [Bool.and_eq_true, beq_iff_eq] at hx
      obtain ⟨rfl, rfl⟩ := hx
      exact absurd (by rw [zz]; simp) q2
  generalize lineOf p a0 a1 b0 b1 = l at *
  generalize lineOf p a0 a1 d0 d1 = m at *
  obtain ⟨l0, l1, l2⟩ := l
  obtain ⟨m0, m1, m2⟩ := m
  dsimp only at u1 u2 w1 w2
  have b0' := L1.i0.b hp; have b1' := L1.i1.b hp; have b2' := L2.i0.b hp; have b3' := L2.i1.b hp
  dsimp only at b0' b1' b2' b3'
  have way1 : impl_way.f K p l0 l1 l2 = some ((-l1) % p, l0) := by
    unfold impl_way.f
    rw [w_eq (Sm.of b1'.neg rfl), rest_nice hp]
    rfl
  have way2 : impl_way.f K p m0 m1 m2 = some ((-m1) % p, m0) := by
    unfold impl_way.f
    rw [w_eq (Sm.of b3'.neg rfl), rest_nice hp]
    rfl
  have bl := B.mod hp (-l1)
  have bm := B.mod hp (-m1)
  have p12 := implProduct_nice (K := K) (c := c) hp bl b0' bm b2'
  have p11 := implProduct_nice (K := K) (c := c) hp bl b0' bl b0'
  have p22 := implProduct_nice (K := K) (c := c) hp bm b2' bm b2'
  have c1 := B.mod hp (prod c (-l1 % p) l0 (-m1 % p) m0)
  have c2 := B.mod hp (prod c (-l1 % p) l0 (-l1 % p) l0)
  have c3 := B.mod hp (prod c (-m1 % p) m0 (-m1 % p) m0)
  unfold impl_spreadAt.f
  rw [ne1, ne2]
  simp only [Bool.false_eq_true, if_false, t1, t2, Option.bind_some, u1, u2, n1, n2]
  unfold impl_spread.f impl_cross.f
  rw [way1, way2]
  simp only [Option.bind_some, p12, p11, p22]
  have hk : ∀ (n : Nat) [NeZero n], 2 < n → p = n → cst n (prod c (-l1 % p) l0 (-l1 % p) l0 % p * (prod c (-m1 % p) m0 (-m1 % p) m0 % p)) ≠ 0 ∧ ∃ T S P R : Fin n, P * T = 1 ∧ R * S = 1 ∧
      cst n (prod c (-l1 % p) l0 (-l1 % p) l0) = T * T * cst n (quad c a0 a1 b0 b1) ∧ cst n (prod c (-m1 % p) m0 (-m1 % p) m0) = S * S * cst n (quad c a0 a1 d0 d1) ∧
      cst n (prod c (-l1 % p) l0 (-m1 % p) m0) = T * S * Pr3 c (cst n a0 - cst n b0) (cst n a1 - cst n b1) (cst n a0 - cst n d0) (cst n a1 - cst n d1) := fun n _ hn e => by
    obtain ⟨T, P, hu, x1, x2⟩ := w1 n hn e
    obtain ⟨S, R, hv, y1, y2⟩ := w2 n hn e
    have sq : ∀ u v : Int, ∀ x y : Int, Pr3 c (cst n u - cst n x) (cst n v - cst n y) (cst n u - cst n x) (cst n v - cst n y) = cst n (quad c u v x y) := fun u v x y => by
      rw [quad, cst_prod]
      simp only [cst_sub]
      unfold Pr3
      split
      · grind
      · split <;> grind
    have f1 : cst n (prod c (-l1 % p) l0 (-l1 % p) l0) = T * T * cst n (quad c a0 a1 b0 b1) := by
      rw [cst_prod, show cst n (-l1 % p) = cst n (-l1) by rw [e, cst_mod], x1, x2, Pr3_scale, sq]
    have f2 : cst n (prod c (-m1 % p) m0 (-m1 % p) m0) = S * S * cst n (quad c a0 a1 d0 d1) := by
      rw [cst_prod, show cst n (-m1 % p) = cst n (-m1) by rw [e, cst_mod], y1, y2, Pr3_scale, sq]
    have f3 : cst n (prod c (-l1 % p) l0 (-m1 % p) m0) = T * S * Pr3 c (cst n a0 - cst n b0) (cst n a1 - cst n b1) (cst n a0 - cst n d0) (cst n a1 - cst n d1) := by
      rw [cst_prod, show cst n (-l1 % p) = cst n (-l1) by rw [e, cst_mod], show cst n (-m1 % p) = cst n (-m1) by rw [e, cst_mod], x1, x2, y1, y2, Pr3_scale]
    refine ⟨fun h0 => ?_, T, S, P, R, hu, hv, f1, f2, f3⟩
    have g1 := inv_cst hp q1 n hn e
    have g2 := inv_cst hp q2 n hn e
    rw [cst_mul, show cst n (prod c (-l1 % p) l0 (-l1 % p) l0 % p) = cst n (prod c (-l1 % p) l0 (-l1 % p) l0) by rw [e, cst_mod], show cst n (prod c (-m1 % p) m0 (-m1 % p) m0 % p) = cst n (prod c (-m1 % p) m0 (-m1 % p) m0) by rw [e, cst_mod], f1, f2] at h0
    generalize cst n (quad c a0 a1 b0 b1) = A at *
    generalize cst n (quad c a0 a1 d0 d1) = D at *
    generalize cst n (inv p (quad c a0 a1 b0 b1 % p)) = A' at *
    generalize cst n (inv p (quad c a0 a1 d0 d1 % p)) = D' at *
    have h9 : (P * T) * (P * T) * ((R * S) * (R * S)) * (A * A') * (D * D') = (P * P * R * R * A' * D') * (T * T * A * (S * S * D)) := by grind
    rw [h0, hu, hv, g1, g2] at h9
    exact one_ne (n := n) (by omega) (by grind)
  generalize hP1 : prod c (-l1 % p) l0 (-m1 % p) m0 = X at *
  generalize hP2 : prod c (-l1 % p) l0 (-l1 % p) l0 = Y at *
  generalize hP3 : prod c (-m1 % p) m0 (-m1 % p) m0 = Z at *
  have hYZ : (Y % p * (Z % p)) % p ≠ 0 := fun h0 => by
    have h3 := hp.lt
    obtain ⟨n, hn⟩ := Int.eq_ofNat_of_zero_le (show 0 ≤ p by omega)
    have : NeZero n := ⟨by omega⟩
    refine (hk n (by omega) hn).1 ?_
    rw [cst_z, ← hn]
    exact h0
  have bI := (inv_in hp (mod_in hp (Y % p * (Z % p)))).b hp
  have dv := implDivide_nice (K := K) (x := X % p * (X % p)) hK hp ((c1.mul c1).le (by decide)) (mod_in hp (Y % p * (Z % p)))
  rw [w_eq (Sm.of (c2.mul c3) rfl), rest_nice hp, Option.bind_some, w_eq (Sm.of (c1.mul c1) rfl), dv]
  simp only [Option.bind_some]
  rw [w_eq (Sm.of ((B.const 1).sub (B.mod hp _)) rfl), rest_nice hp]
  simp only [Option.bind_some]
  refine ⟨_, rfl, mod_in hp _, fun n _ hn e => ?_⟩
  obtain ⟨_, T, S, P, R, hu, hv, f1, f2, f3⟩ := hk n hn e
  have hJ := inv_cst hp hYZ n hn e
  generalize inv p (Y % p * (Z % p) % p) = J at *
  rw [cst_mul, show cst n (Y % p) = cst n Y by rw [e, cst_mod], show cst n (Z % p) = cst n Z by rw [e, cst_mod], f1, f2] at hJ
  have hs : cst n ((1 - X % p * (X % p) * J % p) % p) = 1 - cst n X * cst n X * cst n J := by
    rw [e]
    simp only [cst_mod, cst_sub, cst_mul, cst_one (show 1 < n by omega)]
  rw [hs, f3]
  generalize cst n (quad c a0 a1 b0 b1) = A at *
  generalize cst n (quad c a0 a1 d0 d1) = D at *
  generalize Pr3 c (cst n a0 - cst n b0) (cst n a1 - cst n b1) (cst n a0 - cst n d0) (cst n a1 - cst n d1) = V at *
  generalize cst n J = j at *
  have : T * S * V * (T * S * V) * j * A * D = (T * T * A * (S * S * D) * j) * (V * V) := by grind
  rw [hJ] at this
  grind
end Go.Proofs.Ytccbmdpikalpfaa
