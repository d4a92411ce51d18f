/- The plain law of FnRadicals. -/
import Derived.Test.YtccbmdpikalpfaaU5
namespace Go.Proofs.Ytccbmdpikalpfaa
open Go Go.RowKit
set_option linter.unusedVariables false
set_option linter.unusedSimpArgs false
theorem both_RadicalLine {K : Nat} (hK : 5000 ≤ K) (p c k0 k1 q m0 m1 r : Int) : ∃ l : Int × Int × Int, ∃ e : Int, impl_RadicalLine.f K p c k0 k1 q m0 m1 r = some (l.1, l.2.1, l.2.2, e) ∧ spec_RadicalLine.f K p c k0 k1 q m0 m1 r = some (l.1, l.2.1, l.2.2, e) ∧
    (e = 0 → codeC p c [(k0, k1, q), (m0, m1, r)] = 0 ∧ l = rad p c k0 k1 q m0 m1 r ∧ ¬ (k0 = m0 ∧ k1 = m1)) ∧ (e ≠ 0 → l = (0, 0, 0)) := by
  have hK' : 100 ≤ K := by omega
  unfold spec_RadicalLine.f impl_RadicalLine.f
  rw [code6_nice [(k0, k1, q), (m0, m1, r)] (by simp) (show ([(k0, k1, q), (m0, m1, r)] : List (Int × Int × Int)).length + 10 ≤ K by simp; omega), asked2_RadicalLine hK']
  by_cases h : codeC p c [(k0, k1, q), (m0, m1, r)] = 0
  · obtain ⟨hp, hc1, hc2, hall⟩ := codeC_zero h
    simp only [List.all_cons, List.all_nil, Bool.and_true, Bool.and_eq_true] at hall
    obtain ⟨h1, h2, h3⟩ := inC_in hall.1
    obtain ⟨h4, h5, h6⟩ := inC_in hall.2
    replace h1 := h1.b hp; replace h2 := h2.b hp; replace h3 := h3.b hp; replace h4 := h4.b hp; replace h5 := h5.b hp; replace h6 := h6.b hp
    have z : B 31 0 := ⟨by omega⟩
    have o : B 31 1 := ⟨by omega⟩
    simp only [h, Option.bind_some, beq_self_eq_true, if_true, specRad_nice hK' hp h1 h2 h3 h4 h5 h6, implDiff_nice hp h1 h2 h3 h4 h5 h6 z z, implDiff_nice hp h1 h2 h3 h4 h5 h6 z o, implDiff_nice hp h1 h2 h3 h4 h5 h6 o z, implLine_nice hK' hp]
    by_cases he : (k0 == m0 && k1 == m1) = true
    · simp only [he, if_true, Option.bind_some]
      exact ⟨(0, 0, 0), 5, rfl, rfl, fun h0 => by omega, fun _ => rfl⟩
    · simp only [he, if_false, Bool.false_eq_true, Option.bind_some]
      simp (disch := exact Sm.of (by repeat' first | assumption | apply B.add | apply B.sub | apply B.mul | exact B.mod hp _ | exact B.const _) rfl) only [w_eq]
      have e : normal p ((pow p c k0 k1 q 1 0 - pow p c m0 m1 r 1 0) % p - (pow p c k0 k1 q 0 0 - pow p c m0 m1 r 0 0) % p) ((pow p c k0 k1 q 0 1 - pow p c m0 m1 r 0 1) % p - (pow p c k0 k1 q 0 0 - pow p c m0 m1 r 0 0) % p) ((pow p c k0 k1 q 0 0 - pow p c m0 m1 r 0 0) % p) = rad p c k0 k1 q m0 m1 r :=
        normal_unit hp fun n _ hn e => ⟨1, 1, by grind, by
          subst e
          rcases three hc1 hc2 with rfl | rfl | rfl <;> simp only [pow, ru, rv, rw0, px, py, quad, prod, if_true, if_false, show ¬ (0 : Int) = 1 by decide, show ¬ (0 : Int) = 2 by decide, show ¬ (1 : Int) = 0 by decide, show ¬ (1 : Int) = 2 by decide, show ¬ (2 : Int) = 0 by decide, show ¬ (2 : Int) = 1 by decide, cst_add, cst_sub, cst_mul, cst_mod, cst_neg, cst_zero, cst_one (show 1 < n by omega), cst_two hn] <;> grind, by
          subst e
          rcases three hc1 hc2 with rfl | rfl | rfl <;> simp only [pow, ru, rv, rw0, px, py, quad, prod, if_true, if_false, show ¬ (0 : Int) = 1 by decide, show ¬ (0 : Int) = 2 by decide, show ¬ (1 : Int) = 0 by decide, show ¬ (1 : Int) = 2 by decide, show ¬ (2 : Int) = 0 by decide, show ¬ (2 : Int) = 1 by decide, cst_add, cst_sub, cst_mul, cst_mod, cst_neg, cst_zero, cst_one (show 1 < n by omega), cst_two hn] <;> grind, by
          subst e
          rcases three hc1 hc2 with rfl | rfl | rfl <;> simp only [pow, ru, rv, rw0, px, py, quad, prod, if_true, if_false, show ¬ (0 : Int) = 1 by decide, show ¬ (0 : Int) = 2 by decide, show ¬ (1 : Int) = 0 by decide, show ¬ (1 : Int) = 2 by decide, show ¬ (2 : Int) = 0 by decide, show ¬ (2 : Int) = 1 by decide, cst_add, cst_sub, cst_mul, cst_mod, cst_neg, cst_zero, cst_one (show 1 < n by omega), cst_two hn] <;> grind⟩
      rw [e]
      exact ⟨rad p c k0 k1 q m0 m1 r, 0, rfl, rfl, fun _ => ⟨trivial, rfl, fun hh => he (by simp [hh.1, hh.2])⟩, fun h0 => absurd rfl h0⟩
  · have : (codeC p c [(k0, k1, q), (m0, m1, r)] == 0) = false := by simpa using h
    simp only [this, Option.bind_some, Bool.false_eq_true, if_false]
    exact ⟨(0, 0, 0), codeC p c [(k0, k1, q), (m0, m1, r)], rfl, rfl, fun h0 => absurd h0 h, fun _ => rfl⟩
theorem both_RadicalCentre {K : Nat} (hK : 5000 ≤ K) (p c k0 k1 q m0 m1 r n0 n1 s : Int) : ∃ x y e : Int, impl_RadicalCentre.f K p c k0 k1 q m0 m1 r n0 n1 s = some (x, y, e) ∧ spec_RadicalCentre.f K p c k0 k1 q m0 m1 r n0 n1 s = some (x, y, e) ∧
    (e = 0 → codeC p c [(k0, k1, q), (m0, m1, r), (n0, n1, s)] = 0 ∧ In p x ∧ In p y ∧ rcB p c k0 k1 q m0 m1 r n0 n1 s (x, y) = true) := by
  have hK' : 100 ≤ K := by omega
  unfold spec_RadicalCentre.f impl_RadicalCentre.f
  rw [code6_nice [(k0, k1, q), (m0, m1, r), (n0, n1, s)] (by simp) (show ([(k0, k1, q), (m0, m1, r), (n0, n1, s)] : List (Int × Int × Int)).length + 10 ≤ K by simp; omega), asked3_RadicalCentre hK']
  by_cases h : codeC p c [(k0, k1, q), (m0, m1, r), (n0, n1, s)] = 0
  · obtain ⟨hp, hc1, hc2, hall⟩ := codeC_zero h
    simp only [List.all_cons, List.all_nil, Bool.and_true, Bool.and_eq_true] at hall
    obtain ⟨i1, i2, i3⟩ := inC_in hall.1
    obtain ⟨i4, i5, i6⟩ := inC_in hall.2.1
    obtain ⟨i7, i8, i9⟩ := inC_in hall.2.2
    have h1 := i1.b hp; have h2 := i2.b hp; have h3 := i3.b hp; have h4 := i4.b hp; have h5 := i5.b hp; have h6 := i6.b hp; have h7 := i7.b hp; have h8 := i8.b hp; have h9 := i9.b hp
    simp only [h, Option.bind_some, beq_self_eq_true, if_true, specArea_nice hp i1 i2 i4 i5 i7 i8, implArea_nice hp h1 h2 h4 h5 h7 h8]
    by_cases h0 : areaOf k0 k1 m0 m1 n0 n1 % p = 0
    · simp only [h0, beq_self_eq_true, if_true]
      exact ⟨0, 0, 5, rfl, rfl, fun h => by omega⟩
    · have hb1 : (areaOf k0 k1 m0 m1 n0 n1 % p == 0) = false := by simpa using h0
      obtain ⟨r1, r2, r3⟩ := normal_b (u := ru c k0 k1 m0 m1) (v := rv c k0 k1 m0 m1) (w := rw0 c k0 k1 q m0 m1 r) hp
      obtain ⟨r4, r5, r6⟩ := normal_b (u := ru c k0 k1 n0 n1) (v := rv c k0 k1 n0 n1) (w := rw0 c k0 k1 q n0 n1 s) hp
      have hpl := hp.lt
      have hsz : p.toNat * p.toNat ≤ 31 * 31 := Nat.mul_le_mul (by omega) (by omega)
      have hlen := allPts_len (p := p)
      have hrc := rc_find (q := q) (r := r) (s := s) hp hc1 hc2 h0
      have hf := rc_l0 (K := K) (c := c) hp h1 h2 h3 h4 h5 h6 h7 h8 h9 (allPts p) (fun x hx => ⟨((mem_allPts hp).1 hx).1.b hp, ((mem_allPts hp).1 hx).2.b hp⟩) (by omega) (allPts p).length K 0 0 0 (by omega) (by omega) (by omega)
      simp only [Int.natCast_zero, Int.ofNat_zero, List.drop_zero, hrc, Option.map_some, Option.getD_some] at hf
      simp only [hb1, Bool.false_eq_true, if_false, Option.bind_some, specRad_nice hK' hp h1 h2 h3 h4 h5 h6, specRad_nice hK' hp h1 h2 h3 h7 h8 h9, allPts_nice hK hp, hf]
      have hm := specMeet_nice hK' hp r1 r2 r3 r4 r5 r6
      unfold rad
      rw [hm]
      simp only [Option.bind_some]
      have hin := (mem_allPts hp).1 (List.mem_of_find?_eq_some hrc)
      exact ⟨(rc p c k0 k1 q m0 m1 r n0 n1 s).1, (rc p c k0 k1 q m0 m1 r n0 n1 s).2, 0, rfl, rfl, fun _ => ⟨trivial, hin.1, hin.2, List.find?_some hrc⟩⟩
  · have : (codeC p c [(k0, k1, q), (m0, m1, r), (n0, n1, s)] == 0) = false := by simpa using h
    simp only [this, Option.bind_some, Bool.false_eq_true, if_false]
    exact ⟨0, 0, codeC p c [(k0, k1, q), (m0, m1, r), (n0, n1, s)], rfl, rfl, fun h0 => absurd h0 h⟩
structure Cyc (p c a0 a1 b0 b1 c0 c1 d0 d1 : Int) : Prop where
  hp : isP p
  hc1 : 0 ≤ c
  hc2 : c ≤ 2
  pa : In p a0 ∧ In p a1
  pb : In p b0 ∧ In p b1
  pc : In p c0 ∧ In p c1
  pd : In p d0 ∧ In p d1
  area : areaOf a0 a1 b0 b1 c0 c1 % p ≠ 0
  on : ∃ o0 o1, quad c o0 o1 b0 b1 % p = quad c o0 o1 a0 a1 % p ∧ quad c o0 o1 c0 c1 % p = quad c o0 o1 a0 a1 % p ∧ quad c o0 o1 d0 d1 % p = quad c o0 o1 a0 a1 % p
theorem both_AreCyclic {K : Nat} (hK : 5000 ≤ K) (p c a0 a1 b0 b1 c0 c1 d0 d1 : Int) : ∃ (b : Bool) (e : Int), impl_AreCyclic.f K p c a0 a1 b0 b1 c0 c1 d0 d1 = some (b, e) ∧ spec_AreCyclic.f K p c a0 a1 b0 b1 c0 c1 d0 d1 = some (b, e) ∧
    (e = 0 → b = true → Cyc p c a0 a1 b0 b1 c0 c1 d0 d1) := by
  have hK' : 100 ≤ K := by omega
  unfold spec_AreCyclic.f impl_AreCyclic.f impl_asked__impl_AreCyclic_1.f impl_AreCyclic_1.f
  simp only [specCode_nice hK', code2_nice [(a0, a1), (b0, b1), (c0, c1), (d0, d1)] (by simp) (show ([(a0, a1), (b0, b1), (c0, c1), (d0, d1)] : List (Int × Int)).length + 10 ≤ K by simp; omega), isField_nice, isColour_nice, arePoints_nice [(a0, a1), (b0, b1), (c0, c1), (d0, d1)] (by simp) (show ([(a0, a1), (b0, b1), (c0, c1), (d0, d1)] : List (Int × Int)).length + 10 ≤ K by simp; omega), Option.bind_some]
  by_cases hp : isP p
  · by_cases hb : ([(a0, a1), (b0, b1), (c0, c1), (d0, d1)] : List (Int × Int)).all (inB p) = true
    · by_cases hc : 0 ≤ c ∧ c ≤ 2
      · have hb' := hb
        simp only [List.all_cons, List.all_nil, Bool.and_true, Bool.and_eq_true] at hb'
        obtain ⟨k1, k2, k3, k4⟩ := hb'
        have i1 := inB_in k1; have i2 := inB_in k2; have i3 := inB_in k3; have i4 := inB_in k4
        have h1 := i1.1.b hp; have h2 := i1.2.b hp; have h3 := i2.1.b hp; have h4 := i2.2.b hp; have h5 := i3.1.b hp; have h6 := i3.2.b hp; have h7 := i4.1.b hp; have h8 := i4.2.b hp
        have hcb := circ_b (p := p) (c := c) (a0 := a0) (a1 := a1) (b0 := b0) (b1 := b1) (c0 := c0) (c1 := c1) hp
        have h3' : ([(a0, a1), (b0, b1), (c0, c1)] : List (Int × Int)).all (inB p) = true := by simp [k1, k2, k3]
        by_cases h0 : areaOf a0 a1 b0 b1 c0 c1 % p = 0
        · refine ⟨false, 5, ?_, ?_, fun h => by omega⟩ <;> simp [hp, hb, hc, h0, h3', code3, implArea_nice hp h1 h2 h3 h4 h5 h6]
        · simp only [hp, hb, hc, h0, h3', code3, implArea_nice hp h1 h2 h3 h4 h5 h6, and_self, decide_true, if_true, if_false, Option.bind_some, beq_self_eq_true, beq_iff_eq, specCircle_nice hK' hp h1 h2 h3 h4 h5 h6, implCircle_nice hK hp hc.1 hc.2 h1 h2 h3 h4 h5 h6 h0, specPower_nice hp hcb.1 hcb.2 (B.mod hp _) h7 h8, implPower_nice hp hcb.1 hcb.2 (B.mod hp _) h7 h8]
          refine ⟨_, 0, rfl, rfl, fun _ hz => ?_⟩
          have hf := List.find?_some (circ_find hp hc.1 hc.2 h0)
          unfold circB at hf
          simp only [Bool.and_eq_true, beq_iff_eq] at hf
          rw [pow_zero hp (mod_in hp _), beq_iff_eq] at hz
          exact ⟨hp, hc.1, hc.2, i1, i2, i3, i4, h0, _, _, hf.1.symm, hf.2.symm, hz⟩
      · refine ⟨false, 2, ?_, ?_, fun h => by omega⟩ <;> simp [hp, hb, hc]
    · refine ⟨false, 2, ?_, ?_, fun h => by omega⟩ <;> by_cases hc : 0 ≤ c ∧ c ≤ 2 <;> simp [hp, hb, hc]
  · exact ⟨false, 1, by simp [hp], by simp [hp], fun h => by omega⟩
/-! ### The points of the radical line -/
theorem back_l1 {K : Nat} (hK : 5000 ≤ K) (B P : List (Int × Int)) (hB : ∀ x ∈ B, x ∈ P) (hl : B.length ≤ 2000) (hP : P.length ≤ 2000) : ∀ (m k i : Nat), B.length - i = m → m < k → i ≤ B.length → laws_FnRadicals.l1 K B 0 P k i = some true
  | 0, k + 1, i, hm, _, hi => by
    rw [laws_FnRadicals.l1, if_neg (by simp; omega)]
    rfl
  | m + 1, k + 1, i, hm, hk, hi => by
    have hlt : i < B.length := by omega
    have hc : P.contains B[i] = true := List.contains_iff_mem.2 (hB _ (List.getElem_mem hlt))
    rw [laws_FnRadicals.l1, if_pos (by simpa using hlt), idx_nat, List.getElem?_eq_getElem hlt, w_nat (by omega)]
    simp only [Option.bind_some, has9_nice hK P B[i] hP, hc, if_true]
    exact back_l1 hK B P hB hl hP m k (i + 1) (by omega) (by omega) (by omega)
  | _, 0, _, _, hk, _ => absurd hk (Nat.not_lt_zero _)
theorem rad_l0 {K : Nat} (hK : 5000 ≤ K) {p c k0 k1 q m0 m1 r : Int} (hp : isP p) (hc1 : 0 ≤ c) (hc2 : c ≤ 2) (i1 : In p k0) (i2 : In p k1) (i3 : In p q) (i4 : In p m0) (i5 : In p m1) (i6 : In p r) (B P : List (Int × Int)) (e : Int)
    (hP : ∀ x ∈ P, In p x.1 ∧ In p x.2 ∧ pow p c k0 k1 q x.1 x.2 = pow p c m0 m1 r x.1 x.2 ∧ B.contains x = (pow p c k0 k1 q x.1 x.2 == 0)) (hl : P.length ≤ 2000) (hB : B.length ≤ 2000) :
    ∀ (m k i : Nat), P.length - i = m → i ≤ P.length → laws_FnRadicals.l0 K p c k0 k1 q m0 m1 r B e P (m + 1 + k) i = laws_FnRadicals.l1 K B e P k 0
  | 0, k, i, hm, hi => by
    rw [show 0 + 1 + k = k + 1 by omega, laws_FnRadicals.l0, if_neg (by simp; omega)]
  | m + 1, k, i, hm, hi => by
    have hlt : i < P.length := by omega
    obtain ⟨j1, j2, hpw, hct⟩ := hP _ (List.getElem_mem hlt)
    rw [show m + 1 + 1 + k = (m + 1 + k) + 1 by omega, laws_FnRadicals.l0, if_pos (by simpa using hlt), idx_nat, List.getElem?_eq_getElem hlt, w_nat (by omega)]
    simp only [Option.bind_some, pPower (show 100 ≤ K by omega) hp hc1 hc2 i1 i2 i3 j1 j2, pPower (show 100 ≤ K by omega) hp hc1 hc2 i4 i5 i6 j1 j2, beq_self_eq_true, if_true, hpw, has9_nice hK B P[i] hB, hct]
    have ih := rad_l0 hK hp hc1 hc2 i1 i2 i3 i4 i5 i6 B P e hP hl hB m k (i + 1) (by omega) (by omega)
    cases pow p c m0 m1 r P[i].1 P[i].2 == 0 <;> simpa using ih
theorem normal_inL {p u v w : Int} (hp : isP p) (h : ¬ (u % p = 0 ∧ v % p = 0)) : inL p (normal p u v w) = true := by
  have hpl := hp.lt
  have i1 := inN_mk (mod_in hp (u * inv p (piv p u v)))
  have i2 := inN_mk (mod_in hp (v * inv p (piv p u v)))
  have i3 := inN_mk (mod_in hp (w * inv p (piv p u v)))
  unfold inL normal
  simp only [i1, i2, i3, Bool.true_and, Bool.or_eq_true, Bool.and_eq_true, beq_iff_eq]
  have key : ∀ x : Int, x % p ≠ 0 → (x * inv p (x % p)) % p = 1 := fun x hx => by
    have := inv_mul hp (mod_in hp x) hx
    rw [Int.mul_emod, Int.emod_emod_of_dvd _ (Int.dvd_refl p), ← Int.mul_emod] at this
    exact this
  unfold piv
  by_cases hu : u % p = 0
  · refine .inr ⟨?_, ?_⟩
    · rw [if_pos hu, Int.mul_emod, hu, Int.zero_mul, Int.zero_emod]
    · rw [if_pos hu]
      exact key v fun hv => h ⟨hu, hv⟩
  · refine .inl ?_
    rw [if_neg hu]
    exact key u hu
theorem normal_iff {p u v w x y : Int} (hp : isP p) (h : ¬ (u % p = 0 ∧ v % p = 0)) : ((normal p u v w).1 * x + (normal p u v w).2.1 * y + (normal p u v w).2.2) % p = 0 ↔ (u * x + v * y + w) % p = 0 := by
  have hpl := hp.lt
  obtain ⟨n, rfl⟩ := Int.eq_ofNat_of_zero_le (show 0 ≤ p by omega)
  have : NeZero n := ⟨by omega⟩
  have hu := piv_unit hp h n (by omega) rfl
  unfold normal
  dsimp only
  rw [← cst_z, ← cst_z]
  simp only [cst_add, cst_mul, cst_mod]
  generalize cst n (inv (n : Int) (piv (n : Int) u v)) = J at *
  generalize cst n (piv (n : Int) u v) = V at *
  constructor
  · intro e
    have h2 : (cst n u * J * cst n x + cst n v * J * cst n y + cst n w * J) * V = (cst n u * cst n x + cst n v * cst n y + cst n w) * (V * J) := by clear e hu; grind
    rw [e, hu] at h2
    grind
  · intro e
    have h2 : (cst n u * J * cst n x + cst n v * J * cst n y + cst n w * J) = (cst n u * cst n x + cst n v * cst n y + cst n w) * J := by clear e hu; grind
    rw [h2, e]
    grind
theorem rad_ne {p c k0 k1 m0 m1 : Int} (hp : isP p) (hc1 : 0 ≤ c) (hc2 : c ≤ 2) (i1 : In p k0) (i2 : In p k1) (i4 : In p m0) (i5 : In p m1) (h : ¬ (k0 = m0 ∧ k1 = m1)) : ¬ (ru c k0 k1 m0 m1 % p = 0 ∧ rv c k0 k1 m0 m1 % p = 0) := by
  have hpl := hp.lt
  have half0 : ∀ z : Int, (2 * z) % p = 0 → z % p = 0 := fun z hz => by
    obtain ⟨n, rfl⟩ := Int.eq_ofNat_of_zero_le (show 0 ≤ p by omega)
    have : NeZero n := ⟨by omega⟩
    rw [← cst_z, cst_mul, cst_two (by omega)] at hz
    rw [← cst_z]
    exact two_zero hp (by omega) rfl hz
  rintro ⟨u, v⟩
  refine px_ne hp (three hc1 hc2) (d0 := m0 - k0) (d1 := m1 - k1) (fun ⟨a, b⟩ => h ⟨?_, ?_⟩) ⟨half0 _ u, half0 _ v⟩
  · rw [neg_mod0] at b
    exact (diff_zero i4 i1 b).symm
  · exact (diff_zero i5 i2 a).symm
theorem j2_nice {K : Nat} (hK : 5000 ≤ K) {p c k0 k1 q m0 m1 r e : Int} {l : Int × Int × Int} (h0 : e = 0 → codeC p c [(k0, k1, q), (m0, m1, r)] = 0 ∧ l = rad p c k0 k1 q m0 m1 r ∧ ¬ (k0 = m0 ∧ k1 = m1)) (h1 : e ≠ 0 → l = (0, 0, 0)) :
    laws_FnRadicals.j2 K p c k0 k1 q m0 m1 r l.1 l.2.1 l.2.2 e (ansMC p c k0 k1 q m0 m1 r).1 (ansMC p c k0 k1 q m0 m1 r).2 = some true := by
  unfold laws_FnRadicals.j2
  by_cases he : e = 0
  · obtain ⟨hcode, rfl, hne⟩ := h0 he
    subst he
    obtain ⟨hp, hc1, hc2, hall⟩ := codeC_zero hcode
    simp only [List.all_cons, List.all_nil, Bool.and_true, Bool.and_eq_true] at hall
    obtain ⟨i1, i2, i3⟩ := inC_in hall.1
    obtain ⟨i4, i5, i6⟩ := inC_in hall.2
    have hpl := hp.lt
    have hrn := rad_ne hp hc1 hc2 i1 i2 i4 i5 hne
    have hL : inL p (rad p c k0 k1 q m0 m1 r) = true := normal_inL hp hrn
    obtain ⟨b1, b2, b3⟩ : B 31 (rad p c k0 k1 q m0 m1 r).1 ∧ B 31 (rad p c k0 k1 q m0 m1 r).2.1 ∧ B 31 (rad p c k0 k1 q m0 m1 r).2.2 := normal_b hp
    have hcount := line_count hp hL
    have hsm := pts_small hp
    have eMC : ansMC p c k0 k1 q m0 m1 r = ((allPts p).filter fun x => powB p c k0 k1 q x && powB p c m0 m1 r x, 0) := by unfold ansMC; rw [if_pos hcode]
    have hon : ∀ x : Int × Int, onB p (rad p c k0 k1 q m0 m1 r).1 (rad p c k0 k1 q m0 m1 r).2.1 (rad p c k0 k1 q m0 m1 r).2.2 x = true ↔ pow p c k0 k1 q x.1 x.2 = pow p c m0 m1 r x.1 x.2 := fun x => by
      have := pow_diff (q := q) (r := r) (k0 := k0) (k1 := k1) (m0 := m0) (m1 := m1) (x := x.1) (y := x.2) hp hc1 hc2
      rw [beq_iff_eq] at this
      rw [onB_mod, this]
      unfold rad
      exact normal_iff hp hrn
    rw [eMC, pPointsOn hK hp hL b1 b2 b3]
    have hlen : ((((allPts p).filter (onB p (rad p c k0 k1 q m0 m1 r).1 (rad p c k0 k1 q m0 m1 r).2.1 (rad p c k0 k1 q m0 m1 r).2.2)).length : Int) == p) = true := by rw [hcount, beq_iff_eq]; omega
    simp only [Option.bind_some, beq_self_eq_true, if_true, hlen]
    have hPin : ∀ x ∈ (allPts p).filter (onB p (rad p c k0 k1 q m0 m1 r).1 (rad p c k0 k1 q m0 m1 r).2.1 (rad p c k0 k1 q m0 m1 r).2.2), In p x.1 ∧ In p x.2 ∧ pow p c k0 k1 q x.1 x.2 = pow p c m0 m1 r x.1 x.2 ∧
        ((allPts p).filter fun x => powB p c k0 k1 q x && powB p c m0 m1 r x).contains x = (pow p c k0 k1 q x.1 x.2 == 0) := fun x hx => by
      obtain ⟨ha, hb⟩ := List.mem_filter.1 hx
      have hi := (mem_allPts hp).1 ha
      have hpw := (hon x).1 hb
      refine ⟨hi.1, hi.2, hpw, ?_⟩
      rw [Bool.eq_iff_iff, List.contains_iff_mem, List.mem_filter]
      unfold powB
      rw [← hpw]
      simp [ha]
    have hBin : ∀ x ∈ ((allPts p).filter fun x => powB p c k0 k1 q x && powB p c m0 m1 r x), x ∈ (allPts p).filter (onB p (rad p c k0 k1 q m0 m1 r).1 (rad p c k0 k1 q m0 m1 r).2.1 (rad p c k0 k1 q m0 m1 r).2.2) := fun x hx => by
      obtain ⟨ha, hb⟩ := List.mem_filter.1 hx
      unfold powB at hb
      simp only [Bool.and_eq_true, beq_iff_eq] at hb
      exact List.mem_filter.2 ⟨ha, (hon x).2 (hb.1.trans hb.2.symm)⟩
    have hBl : ((allPts p).filter fun x => powB p c k0 k1 q x && powB p c m0 m1 r x).length ≤ 2000 := Nat.le_trans (List.length_filter_le ..) (by omega)
    generalize ((allPts p).filter fun x => powB p c k0 k1 q x && powB p c m0 m1 r x) = BB at *
    generalize (allPts p).filter (onB p (rad p c k0 k1 q m0 m1 r).1 (rad p c k0 k1 q m0 m1 r).2.1 (rad p c k0 k1 q m0 m1 r).2.2) = PP at *
    obtain ⟨k, hk⟩ : ∃ k, K = PP.length + 1 + k := ⟨K - (PP.length + 1), by omega⟩
    have h2 := rad_l0 hK hp hc1 hc2 i1 i2 i3 i4 i5 i6 BB PP 0 hPin (by omega) hBl PP.length k 0 (by omega) (by omega)
    rw [← hk] at h2
    simp only [Int.natCast_zero, Int.ofNat_zero] at h2
    rw [h2]
    have h3 := back_l1 hK BB PP hBin hBl (by omega) BB.length k 0 (by omega) (by omega) (by omega)
    simpa using h3
  · have : (e == 0) = false := by simpa using he
    rw [this, h1 he]
    rfl
end Go.Proofs.Ytccbmdpikalpfaa
