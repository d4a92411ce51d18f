/- The plain law of quadrances and spreads of a triangle: the law of spreads and the cross law, and reflections that keep quadrances. -/
import Derived.Test.YtccbmdpikalpfaaT2
namespace Go.Proofs.Ytccbmdpikalpfaa
open Go Go.RowKit
set_option linter.unusedVariables false
set_option linter.unusedSimpArgs false
def codeST (p c a0 a1 b0 b1 d0 d1 : Int) : Int := if areaOf a0 a1 b0 b1 d0 d1 % p = 0 then 5 else if quad c a0 a1 b0 b1 % p = 0 then 5 else if quad c a0 a1 d0 d1 % p = 0 then 5 else if quad c b0 b1 d0 d1 % p = 0 then 5 else 0
theorem fin_ac3 {n : Nat} [NeZero n] (a b c : Fin n) : a * (b * c) = b * a * c := by grind
theorem fin_ac4 {n : Nat} [NeZero n] (a b c : Fin n) : a * (b * c) = b * c * a := by grind
theorem fin_one {n : Nat} [NeZero n] (a : Fin n) : 1 * a = a := by grind
theorem fin_q1 {n : Nat} [NeZero n] (X Y S : Fin n) : 4 * Y * X * (1 - S) = 4 * (X * Y) - 4 * (S * X * Y) := by grind
theorem fin_q2 {n : Nat} [NeZero n] (X Y P : Fin n) : (2 * P) * (2 * P) = 4 * (X * Y) - 4 * (X * Y - P * P) := by grind
theorem ring_law {n : Nat} [NeZero n] {X Y Z PA PB PD S1 S2 S3 v1 v2 : Fin n} (u1 : X * v1 = 1) (u2 : Z * v2 = 1) (m1 : S1 * X * Y = X * Y - PA * PA) (m2 : S2 * X * Z = X * Z - PB * PB) (m3 : S3 * Y * Z = Y * Z - PD * PD) (i1 : X * Y - PA * PA = X * Z - PB * PB) (i2 : X * Z - PB * PB = Y * Z - PD * PD) (i3 : Y + X - Z = 2 * PA) :
    S1 * Y = S2 * Z ∧ S2 * X = S3 * Y ∧ (Y + X - Z) * (Y + X - Z) = 4 * Y * X * (1 - S1) := by
  refine ⟨?_, ?_, ?_⟩
  · have e1 : X * (S1 * Y) = X * (S2 * Z) := by rw [fin_ac3, fin_ac3, m1, m2, i1]
    have e2 : v1 * (X * (S1 * Y)) = v1 * (X * (S2 * Z)) := by rw [e1]
    rw [fin_ac3 v1 X, fin_ac3 v1 X, u1, fin_one, fin_one] at e2
    exact e2
  · have e1 : Z * (S2 * X) = Z * (S3 * Y) := by rw [fin_ac4, fin_ac4, m2, m3, i2]
    have e2 : v2 * (Z * (S2 * X)) = v2 * (Z * (S3 * Y)) := by rw [e1]
    rw [fin_ac3 v2 Z, fin_ac3 v2 Z, u2, fin_one, fin_one] at e2
    exact e2
  · rw [i3, fin_q1, m1]
    exact fin_q2 X Y PA
section
variable {K : Nat} {p c a0 a1 b0 b1 d0 d1 : Int}
theorem triangle_nice (hK : 100 ≤ K) (hp : isP p) (hc1 : 0 ≤ c) (hc2 : c ≤ 2) (i1 : In p a0) (i2 : In p a1) (i3 : In p b0) (i4 : In p b1) (i5 : In p d0) (i6 : In p d1) : impl_spreadTriangle.f K p c a0 a1 b0 b1 d0 d1 = some (codeST p c a0 a1 b0 b1 d0 d1) := by
  unfold impl_spreadTriangle.f impl_asked__impl_spreadTriangle_1.f impl_spreadTriangle_1.f codeST
  rw [isField_nice, isColour_nice, arePoints_nice [(a0, a1), (b0, b1), (d0, d1)] (by simp) (by simp; omega)]
  have e : ([(a0, a1), (b0, b1), (d0, d1)] : List (Int × Int)).all (inB p) = true := by simp [inB_mk i1 i2, inB_mk i3 i4, inB_mk i5 i6]
  rw [e, implArea_nice hp (i1.b hp) (i2.b hp) (i3.b hp) (i4.b hp) (i5.b hp) (i6.b hp), implQuadrance_nice hp (i1.b hp) (i2.b hp) (i3.b hp) (i4.b hp), implQuadrance_nice hp (i1.b hp) (i2.b hp) (i5.b hp) (i6.b hp), implQuadrance_nice hp (i3.b hp) (i4.b hp) (i5.b hp) (i6.b hp)]
  simp only [Option.bind_some, decide_eq_true hp, decide_eq_true (show 0 ≤ c ∧ c ≤ 2 from ⟨hc1, hc2⟩), if_true, beq_self_eq_true, beq_iff_eq]
  repeat' split
  all_goals rfl
theorem idx3 {x y z : Int} : idx [x, y, z] 0 = some x ∧ idx [x, y, z] 1 = some y ∧ idx [x, y, z] 2 = some z := ⟨rfl, rfl, rfl⟩
theorem tm_eq {x y : Int} (hp : isP p) (hx : 0 ≤ x) (hy : 0 ≤ y) (h : ∀ (n : Nat) [NeZero n], 2 < n → p = n → cst n x = cst n y) : (Int.tmod x p == Int.tmod y p) = true := by
  rw [beq_iff_eq, Int.tmod_eq_emod_of_nonneg hx, Int.tmod_eq_emod_of_nonneg hy]
  exact emod_ring hp h
theorem top_tail {R : Option Bool} (hR : R = some true) (hK : 100 ≤ K) (hp : isP p) (hc1 : 0 ≤ c) (hc2 : c ≤ 2) (i1 : In p a0) (i2 : In p a1) (i3 : In p b0) (i4 : In p b1) (i5 : In p d0) (i6 : In p d1)
    {q r s : Int} (hq : q = quad c b0 b1 d0 d1 % p) (hr : r = quad c a0 a1 d0 d1 % p) (hs : s = quad c a0 a1 b0 b1 % p) :
    ((impl_SpreadsOfTriangle.f K p c a0 a1 b0 b1 d0 d1).bind fun (t280, t283) => ((impl_DoubledArea.f K p a0 a1 b0 b1 d0 d1).bind fun (t288, t289) => (if (t289 == 0) = true then (if (t288 == 0) = true then (if (t283 == 0) = true then some false else R) else (if (q == 0) = true then (if (t283 == 0) = true then some false else R) else (if (r == 0) = true then (if (t283 == 0) = true then some false else R) else (if (t283 == 0) = true then (if (s == 0) = true then some false else (if ((t280.length : Int) == 3) = true then ((idx t280 0).bind fun t322 => (if (p == 0) = true then none else ((idx t280 1).bind fun t329 => (if ((Int.tmod (wrap64 (t322 * r)) p) == (Int.tmod (wrap64 (t329 * q)) p)) = true then ((idx t280 1).bind fun t336 => ((idx t280 2).bind fun t342 => (if ((Int.tmod (wrap64 (t336 * s)) p) == (Int.tmod (wrap64 (t342 * r)) p)) = true then ((idx t280 0).bind fun t357 => (if ((Int.tmod (wrap64 ((Int.tmod (wrap64 ((wrap64 ((wrap64 (r + s)) - q)) + p)) p) * (Int.tmod (wrap64 ((wrap64 ((wrap64 (r + s)) - q)) + p)) p))) p) == (Int.tmod (wrap64 ((Int.tmod (wrap64 ((wrap64 (4 * r)) * s)) p) * (wrap64 ((wrap64 (1 - t357)) + p)))) p)) = true then R else some false)) else some false))) else some false)))) else some false)) else (if (s == 0) = true then R else some false))))) else some false))) = some true := by
  have hpl := hp.lt
  have iq : In p q := by rw [hq]; exact mod_in hp _
  have ir : In p r := by rw [hr]; exact mod_in hp _
  have is_ : In p s := by rw [hs]; exact mod_in hp _
  unfold impl_SpreadsOfTriangle.f
  rw [triangle_nice hK hp hc1 hc2 i1 i2 i3 i4 i5 i6, pArea hK hp i1 i2 i3 i4 i5 i6]
  subst hR
  simp only [Option.bind_some, beq_self_eq_true, if_true]
  unfold codeST
  rw [← hq, ← hr, ← hs]
  by_cases har : areaOf a0 a1 b0 b1 d0 d1 % p = 0
  · simp [har]
  · by_cases hs0 : s = 0
    · simp [har, hs0]
    · by_cases hr0 : r = 0
      · simp [har, hs0, hr0]
      · by_cases hq0 : q = 0
        · simp [har, hs0, hr0, hq0]
        · have qab : quad c a0 a1 b0 b1 % p ≠ 0 := by rw [← hs]; exact hs0
          have qad : quad c a0 a1 d0 d1 % p ≠ 0 := by rw [← hr]; exact hr0
          have qbd : quad c b0 b1 d0 d1 % p ≠ 0 := by rw [← hq]; exact hq0
          have sym : ∀ u v x y : Int, quad c u v x y = quad c x y u v := fun u v x y => by
            unfold quad prod
            split
            · grind
            · split <;> grind
          obtain ⟨s1, e1, j1, k1⟩ := spreadAt_ex (K := K) (c := c) hK hp i1 i2 i3 i4 i5 i6 qab qad
          obtain ⟨s2, e2, j2, k2⟩ := spreadAt_ex (K := K) (c := c) hK hp i3 i4 i1 i2 i5 i6 (by rw [sym]; exact qab) qbd
          obtain ⟨s3, e3, j3, k3⟩ := spreadAt_ex (K := K) (c := c) hK hp i5 i6 i1 i2 i3 i4 (by rw [sym]; exact qad) (by rw [sym]; exact qbd)
          obtain ⟨x1, x2, x3⟩ := idx3 (x := s1) (y := s2) (z := s3)
          have b1' := j1.b hp; have b2' := j2.b hp; have b3' := j3.b hp
          have bq := iq.b hp; have br := ir.b hp; have bs := is_.b hp; have bp := B.p hp
          have hz : ¬ (p == 0) = true := by simp only [beq_iff_eq]; omega
          have he : B 31 (Int.tmod (r + s - q + p) p) := B.tmod hp _
          have h4 : B 31 (Int.tmod (4 * r * s) p) := B.tmod hp _
          have o1 := iq.out; have o2 := ir.out; have o3 := is_.out; have o4 := j1.out; have o5 := j2.out; have o6 := j3.out
          have n0 : 0 ≤ r + s - q + p := by omega
          have n1 : 0 ≤ 4 * r * s := Int.mul_nonneg (by omega) (by omega)
          have n2 : 0 ≤ Int.tmod (r + s - q + p) p := Int.tmod_nonneg _ n0
          have n3 : 0 ≤ Int.tmod (4 * r * s) p := Int.tmod_nonneg _ n1
          simp only [har, hs0, hr0, hq0, if_false, beq_iff_eq, e1, e2, e3, Option.bind_some, beq_self_eq_true, if_true, x1, x2, x3, List.length_cons, List.length_nil]
          rw [if_pos (show (((0 + 1 + 1 + 1 : Nat) : Int) = 3) by decide), if_neg (show ¬ p = 0 by omega)]
          rw [w_eq (x := s1 * r) (Sm.of (b1'.mul br) rfl), w_eq (x := s2 * q) (Sm.of (b2'.mul bq) rfl), w_eq (x := s2 * s) (Sm.of (b2'.mul bs) rfl), w_eq (x := s3 * r) (Sm.of (b3'.mul br) rfl), w_eq (x := r + s) (Sm.of (br.add bs) rfl), w_eq (x := r + s - q) (Sm.of ((br.add bs).sub bq) rfl), w_eq (x := r + s - q + p) (Sm.of (((br.add bs).sub bq).add bp) rfl),
            w_eq (x := Int.tmod (r + s - q + p) p * Int.tmod (r + s - q + p) p) (Sm.of (he.mul he) rfl), w_eq (x := 4 * r) (Sm.of ((B.const 4).mul br) rfl), w_eq (x := 4 * r * s) (Sm.of (((B.const 4).mul br).mul bs) rfl), w_eq (x := 1 - s1) (Sm.of ((B.const 1).sub b1') rfl), w_eq (x := 1 - s1 + p) (Sm.of (((B.const 1).sub b1').add bp) rfl),
            w_eq (x := Int.tmod (4 * r * s) p * (1 - s1 + p)) (Sm.of (h4.mul (((B.const 1).sub b1').add bp)) rfl)]
          have hring : ∀ (n : Nat) [NeZero n], 2 < n → p = n → cst n s1 * cst n r = cst n s2 * cst n q ∧ cst n s2 * cst n s = cst n s3 * cst n r ∧ (cst n r + cst n s - cst n q) * (cst n r + cst n s - cst n q) = 4 * cst n r * cst n s * (1 - cst n s1) := fun n _ hn e => by
            have m1 := k1 n hn e
            have m2 := k2 n hn e
            have m3 := k3 n hn e
            have u1 := inv_cst hp qab n hn e
            have u2 := inv_cst hp qbd n hn e
            rw [sym b0 b1 a0 a1] at m2
            rw [sym d0 d1 a0 a1, sym d0 d1 b0 b1] at m3
            have eq_ : cst n q = cst n (quad c b0 b1 d0 d1) := by rw [hq, e, cst_mod]
            have er_ : cst n r = cst n (quad c a0 a1 d0 d1) := by rw [hr, e, cst_mod]
            have es_ : cst n s = cst n (quad c a0 a1 b0 b1) := by rw [hs, e, cst_mod]
            rw [eq_, er_, es_]
            have idn : ∀ A0 A1 B0 B1 D0 D1 : Fin n, Pr3 c (B0 - A0) (B1 - A1) (B0 - A0) (B1 - A1) * Pr3 c (D0 - A0) (D1 - A1) (D0 - A0) (D1 - A1) - Pr3 c (A0 - B0) (A1 - B1) (A0 - D0) (A1 - D1) * Pr3 c (A0 - B0) (A1 - B1) (A0 - D0) (A1 - D1) = Pr3 c (B0 - A0) (B1 - A1) (B0 - A0) (B1 - A1) * Pr3 c (D0 - B0) (D1 - B1) (D0 - B0) (D1 - B1) - Pr3 c (B0 - A0) (B1 - A1) (B0 - D0) (B1 - D1) * Pr3 c (B0 - A0) (B1 - A1) (B0 - D0) (B1 - D1) ∧
                Pr3 c (B0 - A0) (B1 - A1) (B0 - A0) (B1 - A1) * Pr3 c (D0 - B0) (D1 - B1) (D0 - B0) (D1 - B1) - Pr3 c (B0 - A0) (B1 - A1) (B0 - D0) (B1 - D1) * Pr3 c (B0 - A0) (B1 - A1) (B0 - D0) (B1 - D1) = Pr3 c (D0 - A0) (D1 - A1) (D0 - A0) (D1 - A1) * Pr3 c (D0 - B0) (D1 - B1) (D0 - B0) (D1 - B1) - Pr3 c (D0 - A0) (D1 - A1) (D0 - B0) (D1 - B1) * Pr3 c (D0 - A0) (D1 - A1) (D0 - B0) (D1 - B1) ∧
                Pr3 c (D0 - A0) (D1 - A1) (D0 - A0) (D1 - A1) + Pr3 c (B0 - A0) (B1 - A1) (B0 - A0) (B1 - A1) - Pr3 c (D0 - B0) (D1 - B1) (D0 - B0) (D1 - B1) = 2 * Pr3 c (A0 - B0) (A1 - B1) (A0 - D0) (A1 - D1) := fun A0 A1 B0 B1 D0 D1 => by
              unfold Pr3
              split
              · exact ⟨by grind, by grind, by grind⟩
              · split
                · exact ⟨by grind, by grind, by grind⟩
                · exact ⟨by grind, by grind, by grind⟩
            obtain ⟨y1, y2, y3⟩ := idn (cst n a0) (cst n a1) (cst n b0) (cst n b1) (cst n d0) (cst n d1)
            have qe : ∀ u v x y : Int, cst n (quad c u v x y) = Pr3 c (cst n x - cst n u) (cst n y - cst n v) (cst n x - cst n u) (cst n y - cst n v) := fun u v x y => by
              unfold quad
              rw [cst_prod]
              simp only [cst_sub]
            rw [← qe, ← qe, ← qe] at y1
            rw [← qe, ← qe, ← qe] at y2
            rw [← qe, ← qe, ← qe] at y3
            exact ring_law u1 u2 m1 m2 m3 y1 y2 y3
          have t1 : Int.tmod (s1 * r) p = Int.tmod (s2 * q) p := beq_iff_eq.1 (tm_eq hp (Int.mul_nonneg (by omega) (by omega)) (Int.mul_nonneg (by omega) (by omega)) fun n _ hn e => by
            rw [cst_mul, cst_mul]; exact (hring n hn e).1)
          have t2 : Int.tmod (s2 * s) p = Int.tmod (s3 * r) p := beq_iff_eq.1 (tm_eq hp (Int.mul_nonneg (by omega) (by omega)) (Int.mul_nonneg (by omega) (by omega)) fun n _ hn e => by
            rw [cst_mul, cst_mul]; exact (hring n hn e).2.1)
          have t3 : Int.tmod (Int.tmod (r + s - q + p) p * Int.tmod (r + s - q + p) p) p = Int.tmod (Int.tmod (4 * r * s) p * (1 - s1 + p)) p := beq_iff_eq.1 (tm_eq hp (Int.mul_nonneg n2 n2) (Int.mul_nonneg n3 (by omega)) fun n _ hn e => by
            have h3 := (hring n hn e).2.2
            have hp0 : cst n p = 0 := by rw [cst_z, e]; simp
            have tmc : ∀ x : Int, cst n (Int.tmod x p) = cst n x := fun x => by rw [e]; exact cst_tmod x
            have c4 : cst n 4 = 4 := by
              rw [show (4 : Int) = 2 + 2 from rfl, cst_add, cst_two hn]
              grind
            rw [cst_mul, cst_mul, tmc, tmc]
            simp only [cst_add, cst_sub, cst_mul, hp0, c4, cst_one (show 1 < n by omega)]
            grind)
          rw [if_pos t1, if_pos t2, if_pos t3]
end
theorem mv_in {p a b c d e f x y : Int} (hp : isP p) : In p (mv p a b c d e f x y).1 ∧ In p (mv p a b c d e f x y).2 := ⟨mod_in hp _, mod_in hp _⟩
theorem top_l0 {K : Nat} {bs : List Int} (hK : 100 ≤ K) (hb : ∀ x ∈ bs, 0 ≤ x ∧ x < 256) (hl : bs.length ≤ 4096) {p a0 a1 b0 b1 d0 d1 : Int} (hp : isP p) (h5 : 5 ≤ p) (i1 : In p a0) (i2 : In p a1) (i3 : In p b0) (i4 : In p b1) (i5 : In p d0) (i6 : In p d1) :
    ∀ (m k c : Nat) (i h : Int), c + m = 3 → m < k → 0 ≤ i → i ≤ 4096 → laws_FnTop.l0 K bs p a0 a1 b0 b1 d0 d1 k c i h = some true
  | 0, k + 1, c, i, h, hc, _, _, _ => by
    rw [laws_FnTop.l0, if_neg (by simp; omega)]
  | m + 1, k + 1, c, i, h, hc, hk, hi, hi2 => by
    have hpl := hp.lt
    have hc1 : (0 : Int) ≤ (c : Int) := by omega
    have hc2 : (c : Int) ≤ 2 := by omega
    rw [laws_FnTop.l0, if_pos (by simp; omega), pQuadrance hK hp hc1 hc2 i3 i4 i5 i6, pQuadrance hK hp hc1 hc2 i1 i2 i5 i6, pQuadrance hK hp hc1 hc2 i1 i2 i3 i4]
    simp only [Option.bind_some, beq_self_eq_true, if_true]
    rw [w_eq (x := p - 2) ⟨by omega⟩]
    obtain ⟨x, i', h', e1, hx, hi3, hi4⟩ := below_ex (K := K) (h := h) (n := p - 2) hb hl hi hi2 (by omega)
    obtain ⟨y, i'', h'', e2, hy, hi5, hi6⟩ := below_ex (K := K) (h := h') (n := p) hb hl hi3 hi4 (by omega)
    rw [e1]
    simp only [Option.bind_some]
    rw [e2]
    simp only [Option.bind_some]
    have hm : In p (2 + x) := ⟨by omega⟩
    have hn : In p y := ⟨hy⟩
    rw [w_eq (x := 2 + x) ⟨by omega⟩, pLineOf hK hp hm hn]
    simp only [Option.bind_some]
    rw [pReflection hK hp hc1 hc2 hm hn]
    simp only [Option.bind_some, beq_self_eq_true, if_true]
    have ih := top_l0 (K := K) hK hb hl hp h5 i1 i2 i3 i4 i5 i6 m k (c + 1) i'' h'' (by omega) (by omega) hi5 hi6
    have hR : laws_FnTop.l0 K bs p a0 a1 b0 b1 d0 d1 k (wrap64 ((c : Int) + 1)) i'' h'' = some true := by
      rw [w_nat (by omega)]
      exact ih
    cases hz : nullB p c (1, 2 + x, y)
    · have mb : MB p (refl0 p c 1 (2 + x)) (refl1 p c 1 (2 + x)) (refl2 p c 1 (2 + x)) (refl3 p c 1 (2 + x)) (refl4 p c 1 (2 + x) y) (refl5 p c 1 (2 + x) y) := ⟨mod_in hp _, mod_in hp _, mod_in hp _, mod_in hp _, mod_in hp _, mod_in hp _⟩
      simp only [Bool.false_eq_true, if_false, beq_self_eq_true, if_true]
      rw [pMove hK hp mb i3 i4, pMove hK hp mb i5 i6]
      simp only [Option.bind_some]
      rw [pQuadrance hK hp hc1 hc2 (mv_in hp).1 (mv_in hp).2 (mv_in hp).1 (mv_in hp).2]
      simp only [Option.bind_some, beq_self_eq_true, if_true]
      rw [if_pos (beq_iff_eq.2 (refl_keeps hp hc1 hc2 hz))]
      exact top_tail hR hK hp hc1 hc2 i1 i2 i3 i4 i5 i6 rfl rfl rfl
    · simp only [if_true, beq_self_eq_true, show ((5 : Int) == 0) = false from rfl, Bool.false_eq_true, if_false]
      exact top_tail hR hK hp hc1 hc2 i1 i2 i3 i4 i5 i6 rfl rfl rfl
theorem law_FnTop {K : Nat} (hK : 5000 ≤ K) (bs : List Int) (hb : ∀ x ∈ bs, 0 ≤ x ∧ x < 256) : laws_FnTop.f K bs = some true := by
  unfold laws_FnTop.f laws_big.f
  simp only [Option.bind_some]
  by_cases hl : bs.length ≤ 4096
  · rw [if_neg (by simp; omega)]
    obtain ⟨h0, e0⟩ := roll_ex (s := 70) hK hl
    rw [e0]
    simp only [Option.bind_some]
    obtain ⟨x, j1, g1, e1, hx, l1, u1⟩ := below_ex (K := K) (i := 0) (h := h0) (n := 4) hb hl (by omega) (by omega) (by omega)
    rw [e1]
    simp only [Option.bind_some]
    obtain ⟨p, ep, hp, h5⟩ : ∃ p, idx [5, 7, 11, 13] x = some p ∧ isP p ∧ 5 ≤ p := by
      have : x = 0 ∨ x = 1 ∨ x = 2 ∨ x = 3 := by omega
      rcases this with rfl | rfl | rfl | rfl
      · exact ⟨5, rfl, by decide, by decide⟩
      · exact ⟨7, rfl, by decide, by decide⟩
      · exact ⟨11, rfl, by decide, by decide⟩
      · exact ⟨13, rfl, by decide, by decide⟩
    rw [ep]
    simp only [Option.bind_some]
    have hpl := hp.lt
    obtain ⟨a0, j2, g2, e2, ha0, l2, u2⟩ := below_ex (K := K) (i := j1) (h := g1) (n := p) hb hl l1 u1 (by omega)
    rw [e2]
    simp only [Option.bind_some]
    obtain ⟨a1, j3, g3, e3, ha1, l3, u3⟩ := below_ex (K := K) (i := j2) (h := g2) (n := p) hb hl l2 u2 (by omega)
    rw [e3]
    simp only [Option.bind_some]
    obtain ⟨b0, j4, g4, e4, hb0, l4, u4⟩ := below_ex (K := K) (i := j3) (h := g3) (n := p) hb hl l3 u3 (by omega)
    rw [e4]
    simp only [Option.bind_some]
    obtain ⟨b1, j5, g5, e5, hb1, l5, u5⟩ := below_ex (K := K) (i := j4) (h := g4) (n := p) hb hl l4 u4 (by omega)
    rw [e5]
    simp only [Option.bind_some]
    obtain ⟨d0, j6, g6, e6, hd0, l6, u6⟩ := below_ex (K := K) (i := j5) (h := g5) (n := p) hb hl l5 u5 (by omega)
    rw [e6]
    simp only [Option.bind_some]
    obtain ⟨d1, j7, g7, e7, hd1, l7, u7⟩ := below_ex (K := K) (i := j6) (h := g6) (n := p) hb hl l6 u6 (by omega)
    rw [e7]
    simp only [Option.bind_some]
    exact top_l0 (by omega) hb hl hp h5 ⟨ha0⟩ ⟨ha1⟩ ⟨hb0⟩ ⟨hb1⟩ ⟨hd0⟩ ⟨hd1⟩ 3 K 0 j7 g7 (by omega) (by omega) l7 u7
  · rw [if_pos (by simp; omega)]
end Go.Proofs.Ytccbmdpikalpfaa
