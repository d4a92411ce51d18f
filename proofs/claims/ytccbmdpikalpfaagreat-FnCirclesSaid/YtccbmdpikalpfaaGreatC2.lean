/- Plain laws of circles: tangents, radical centres, the points of circles. -/
import Derived.Test.YtccbmdpikalpfaaGreatC1
import Derived.Test.YtccbmdpikalpfaaGreatI2
namespace Go.Proofs.YtccbmdpikalpfaaGreat
open Go Go.RowKit
set_option linter.unusedVariables false
set_option linter.unusedSimpArgs false
/-- The one point on two lines that are not parallel. -/
theorem meet_find {p P1 Q1 C1 P2 Q2 C2 : Int} {Q : Int × Int → Bool} (hp : isP p) (har : (P1 * Q2 - Q1 * P2) % p ≠ 0)
    (hq : ∀ x y, Q (x, y) = true ↔ ((P1 * x + Q1 * y + C1) % p = 0 ∧ (P2 * x + Q2 * y + C2) % p = 0)) :
    (allPts p).find? Q = some (meet0 p (normal p P1 Q1 C1).1 (normal p P1 Q1 C1).2.1 (normal p P1 Q1 C1).2.2 (normal p P2 Q2 C2).1 (normal p P2 Q2 C2).2.1 (normal p P2 Q2 C2).2.2,
      meet1 p (normal p P1 Q1 C1).1 (normal p P1 Q1 C1).2.1 (normal p P1 Q1 C1).2.2 (normal p P2 Q2 C2).1 (normal p P2 Q2 C2).2.1 (normal p P2 Q2 C2).2.2) := by
  have hpl := hp.lt
  obtain ⟨n, hn⟩ := Int.eq_ofNat_of_zero_le (show 0 ≤ p by omega)
  have : NeZero n := ⟨by omega⟩
  have hn2 : 2 < n := by omega
  have g1 : ¬ (P1 % p = 0 ∧ Q1 % p = 0) := fun ⟨h1, h2⟩ => har (by
    rw [hn, ← cst_z] at h1 h2 ⊢
    rw [cst_sub, cst_mul, cst_mul, h1, h2]
    grind)
  have g2 : ¬ (P2 % p = 0 ∧ Q2 % p = 0) := fun ⟨h1, h2⟩ => har (by
    rw [hn, ← cst_z] at h1 h2 ⊢
    rw [cst_sub, cst_mul, cst_mul, h1, h2]
    grind)
  have u1 := piv_unit hp g1 n hn2 hn
  have u2 := piv_unit hp g2 n hn2 hn
  have hq' : ∀ x y : Int, Q (x, y) = true ↔ (cst n P1 * cst n x + cst n Q1 * cst n y + cst n C1 = 0 ∧ cst n P2 * cst n x + cst n Q2 * cst n y + cst n C2 = 0) := fun x y => by
    rw [hq, hn, ← cst_z, ← cst_z]
    simp only [cst_add, cst_mul]
  have hd : det (normal p P1 Q1 C1).1 (normal p P1 Q1 C1).2.1 (normal p P2 Q2 C2).1 (normal p P2 Q2 C2).2.1 % p ≠ 0 := by
    intro hz
    refine har ?_
    rw [hn, ← cst_z] at hz ⊢
    unfold det normal at hz
    simp only at hz
    simp only [cst_sub, cst_mul, cst_mod] at hz
    rw [← hn] at hz
    simp only [cst_sub, cst_mul]
    generalize cst n (inv p (piv p P1 Q1)) = k1 at *
    generalize cst n (inv p (piv p P2 Q2)) = k2 at *
    generalize cst n (piv p P1 Q1) = j1 at *
    generalize cst n (piv p P2 Q2) = j2 at *
    have h3 : (j1 * k1) * (j2 * k2) * (cst n P1 * cst n Q2 - cst n Q1 * cst n P2) = j1 * j2 * (cst n P1 * k1 * (cst n Q2 * k2) - cst n Q1 * k1 * (cst n P2 * k2)) := by grind
    rw [hz, u1, u2] at h3
    grind
  have hi := inv_cst hp hd n hn2 hn
  have hform : cst n (det (normal p P1 Q1 C1).1 (normal p P1 Q1 C1).2.1 (normal p P2 Q2 C2).1 (normal p P2 Q2 C2).2.1) =
      (cst n (inv p (piv p P1 Q1)) * cst n (inv p (piv p P2 Q2))) * (cst n P1 * cst n Q2 - cst n Q1 * cst n P2) := by
    unfold det normal
    simp only
    conv => lhs; rw [hn]
    simp only [cst_sub, cst_mul, cst_mod]
    rw [← hn]
    grind
  rw [hform] at hi
  have hcr : ∀ x y, _ := fun x y => cramer (C1 := cst n C1) (C2 := cst n C2) (x := x) (y := y) hi
  have hm0 : cst n (meet0 p (normal p P1 Q1 C1).1 (normal p P1 Q1 C1).2.1 (normal p P1 Q1 C1).2.2 (normal p P2 Q2 C2).1 (normal p P2 Q2 C2).2.1 (normal p P2 Q2 C2).2.2) =
      (cst n (inv p (piv p P1 Q1)) * cst n (inv p (piv p P2 Q2))) * (cst n Q1 * cst n C2 - cst n C1 * cst n Q2) * cst n (inv p (det (normal p P1 Q1 C1).1 (normal p P1 Q1 C1).2.1 (normal p P2 Q2 C2).1 (normal p P2 Q2 C2).2.1 % p)) := by
    unfold meet0
    generalize inv p (det (normal p P1 Q1 C1).1 (normal p P1 Q1 C1).2.1 (normal p P2 Q2 C2).1 (normal p P2 Q2 C2).2.1 % p) = J
    unfold normal
    simp only
    conv => lhs; rw [hn]
    simp only [cst_sub, cst_mul, cst_mod]
    rw [← hn]
    grind
  have hm1 : cst n (meet1 p (normal p P1 Q1 C1).1 (normal p P1 Q1 C1).2.1 (normal p P1 Q1 C1).2.2 (normal p P2 Q2 C2).1 (normal p P2 Q2 C2).2.1 (normal p P2 Q2 C2).2.2) =
      (cst n (inv p (piv p P1 Q1)) * cst n (inv p (piv p P2 Q2))) * (cst n C1 * cst n P2 - cst n P1 * cst n C2) * cst n (inv p (det (normal p P1 Q1 C1).1 (normal p P1 Q1 C1).2.1 (normal p P2 Q2 C2).1 (normal p P2 Q2 C2).2.1 % p)) := by
    unfold meet1
    generalize inv p (det (normal p P1 Q1 C1).1 (normal p P1 Q1 C1).2.1 (normal p P2 Q2 C2).1 (normal p P2 Q2 C2).2.1 % p) = J
    unfold normal
    simp only
    conv => lhs; rw [hn]
    simp only [cst_sub, cst_mul, cst_mod]
    rw [← hn]
    grind
  have hin0 : In p (meet0 p (normal p P1 Q1 C1).1 (normal p P1 Q1 C1).2.1 (normal p P1 Q1 C1).2.2 (normal p P2 Q2 C2).1 (normal p P2 Q2 C2).2.1 (normal p P2 Q2 C2).2.2) := mod_in hp _
  have hin1 : In p (meet1 p (normal p P1 Q1 C1).1 (normal p P1 Q1 C1).2.1 (normal p P1 Q1 C1).2.2 (normal p P2 Q2 C2).1 (normal p P2 Q2 C2).2.1 (normal p P2 Q2 C2).2.2) := mod_in hp _
  refine find_only ((mem_allPts hp).2 ⟨hin0, hin1⟩) ((hq' _ _).2 ((hcr _ _).2 ⟨hm0, hm1⟩)) fun t ht hQ => ?_
  obtain ⟨e1, e2⟩ := (hcr _ _).1 ((hq' t.1 t.2).1 hQ)
  have ht' := (mem_allPts hp).1 ht
  rw [← hm0, cst_eq, ← hn, ht'.1.mod, hin0.mod] at e1
  rw [← hm1, cst_eq, ← hn, ht'.2.mod, hin1.mod] at e2
  exact Prod.ext e1 e2
/-! ### The radical centre -/
theorem pow_diff {p c k0 k1 q m0 m1 r x y : Int} (hp : isP p) (hc1 : 0 ≤ c) (hc2 : c ≤ 2) : (pow p c k0 k1 q x y == pow p c m0 m1 r x y) = true ↔ (ru c k0 k1 m0 m1 * x + rv c k0 k1 m0 m1 * y + rw0 c k0 k1 q m0 m1 r) % p = 0 := by
  have hpl := hp.lt
  obtain ⟨n, hn⟩ := Int.eq_ofNat_of_zero_le (show 0 ≤ p by omega)
  have : NeZero n := ⟨by omega⟩
  have hn2 : 2 < n := by omega
  rw [beq_iff_eq]
  unfold pow
  rw [hn, ← cst_eq, ← cst_z]
  have key : cst n (quad c k0 k1 x y % (n : Int) - q) - cst n (quad c m0 m1 x y % (n : Int) - r) = cst n (ru c k0 k1 m0 m1 * x + rv c k0 k1 m0 m1 * y + rw0 c k0 k1 q m0 m1 r) := by
    rcases three hc1 hc2 with rfl | rfl | rfl <;> simp only [ru, rv, rw0, px, py, quad, prod, if_true, if_false, show ¬ (0 : Int) = 1 by decide, show ¬ (0 : Int) = 2 by decide, show ¬ (1 : Int) = 0 by decide, show ¬ (1 : Int) = 2 by decide, show ¬ (2 : Int) = 0 by decide, show ¬ (2 : Int) = 1 by decide, cst_add, cst_sub, cst_mul, cst_mod, cst_neg, cst_zero, cst_two hn2] <;> grind
  rw [← key]
  constructor
  · intro e
    rw [e]
    grind
  · intro e
    grind
def rcB (p c k0 k1 q m0 m1 r n0 n1 s : Int) (x : Int × Int) : Bool := pow p c k0 k1 q x.1 x.2 == pow p c m0 m1 r x.1 x.2 && pow p c k0 k1 q x.1 x.2 == pow p c n0 n1 s x.1 x.2
def rc (p c k0 k1 q m0 m1 r n0 n1 s : Int) : Int × Int :=
  (meet0 p (rad p c k0 k1 q m0 m1 r).1 (rad p c k0 k1 q m0 m1 r).2.1 (rad p c k0 k1 q m0 m1 r).2.2 (rad p c k0 k1 q n0 n1 s).1 (rad p c k0 k1 q n0 n1 s).2.1 (rad p c k0 k1 q n0 n1 s).2.2,
   meet1 p (rad p c k0 k1 q m0 m1 r).1 (rad p c k0 k1 q m0 m1 r).2.1 (rad p c k0 k1 q m0 m1 r).2.2 (rad p c k0 k1 q n0 n1 s).1 (rad p c k0 k1 q n0 n1 s).2.1 (rad p c k0 k1 q n0 n1 s).2.2)
theorem rc_find {p c k0 k1 q m0 m1 r n0 n1 s : Int} (hp : isP p) (hc1 : 0 ≤ c) (hc2 : c ≤ 2) (har : areaOf k0 k1 m0 m1 n0 n1 % p ≠ 0) : (allPts p).find? (rcB p c k0 k1 q m0 m1 r n0 n1 s) = some (rc p c k0 k1 q m0 m1 r n0 n1 s) := by
  unfold rc rad
  refine meet_find hp ?_ fun x y => ?_
  · intro hz
    refine har ?_
    have hpl := hp.lt
    obtain ⟨n, hn⟩ := Int.eq_ofNat_of_zero_le (show 0 ≤ p by omega)
    have : NeZero n := ⟨by omega⟩
    have hn2 : 2 < n := by omega
    rw [hn, ← cst_z] at hz ⊢
    refine two_zero hp hn2 hn (two_zero hp hn2 hn ?_)
    rcases three hc1 hc2 with rfl | rfl | rfl <;> simp only [areaOf, ru, rv, px, py, if_true, if_false, show ¬ (0 : Int) = 1 by decide, show ¬ (0 : Int) = 2 by decide, show ¬ (1 : Int) = 0 by decide, show ¬ (1 : Int) = 2 by decide, show ¬ (2 : Int) = 0 by decide, show ¬ (2 : Int) = 1 by decide, cst_add, cst_sub, cst_mul, cst_mod, cst_neg, cst_two hn2] at hz ⊢ <;> grind
  · unfold rcB
    rw [Bool.and_eq_true]
    exact and_congr (pow_diff hp hc1 hc2) (pow_diff hp hc1 hc2)
/-! ### The tangent -/
theorem specTan_nice {K : Nat} (hK : 100 ≤ K) {p c k0 k1 q a0 a1 : Int} (hp : isP p) (h1 : B 31 k0) (h2 : B 31 k1) (h4 : B 31 a0) (h5 : B 31 a1) : spec_l06Tangent.f K p c k0 k1 q a0 a1 = some (perpOf p c (a0 - k0) (a1 - k1) a0 a1) := by
  unfold spec_l06Tangent.f
  rw [specMinus_nice hp h4 h5 h1 h2]
  simp only [Option.bind_some]
  rw [specThrough2_nice hK hp (B.mod hp _) (B.mod hp _) h4 h5, perpOf_mod hp]
  rfl
theorem implTan_nice {K : Nat} (hK : 100 ≤ K) {p c k0 k1 q a0 a1 : Int} (hp : isP p) (hc1 : 0 ≤ c) (hc2 : c ≤ 2) (h1 : B 31 k0) (h2 : B 31 k1) (h4 : B 31 a0) (h5 : B 31 a1) (hne : ¬ ((k1 - a1) % p = 0 ∧ (a0 - k0) % p = 0)) : impl_tangent.f K p c k0 k1 q a0 a1 = some (perpOf p c (a0 - k0) (a1 - k1) a0 a1) := by
  unfold impl_tangent.f
  rw [implLineThrough_nice hK hp h1 h2 h4 h5]
  unfold lineOf
  simp only [Option.bind_some]
  rw [implPerp_nice hK hp h4 h5 hne]
  simp only [Option.bind_some, Option.some.injEq]
  unfold perpOf
  refine normal_unit hp fun n _ hn e => ⟨-1, -1, by grind, ?_, ?_, ?_⟩ <;> subst e <;>
    rcases three hc1 hc2 with rfl | rfl | rfl <;> simp only [al, be, px, py, if_true, if_false, show ¬ (0 : Int) = 1 by decide, show ¬ (0 : Int) = 2 by decide, show ¬ (1 : Int) = 0 by decide, show ¬ (1 : Int) = 2 by decide, show ¬ (2 : Int) = 0 by decide, show ¬ (2 : Int) = 1 by decide, cst_add, cst_sub, cst_mul, cst_mod, cst_neg] <;> grind
theorem diff_zero {p x y : Int} (hx : In p x) (hy : In p y) (h : (x - y) % p = 0) : x = y := by
  have h1 : x % p = y % p := Int.emod_eq_emod_iff_emod_sub_eq_zero.2 h
  rwa [hx.mod, hy.mod] at h1
/-! ### The points of circles -/
def atB (p c k0 k1 q : Int) (x : Int × Int) : Bool := quad c k0 k1 x.1 x.2 % p == q
theorem at_l1 {K : Nat} {p c k0 k1 q : Int} (hp : isP p) (h1 : B 31 k0) (h2 : B 31 k1) (x : Nat) (hx : x ≤ 31) : ∀ (m k y : Nat) (acc : List (Int × Int)), p.toNat - y = m → y ≤ p.toNat → acc.length ≤ 2000 - m →
    spec_l02At.l1 K p c k0 k1 q x (m + 1 + k) y acc = spec_l02At.l0 K p c k0 k1 q k ((x + 1 : Nat) : Int) (acc ++ ((List.range' y m).map fun (y : Nat) => ((x : Int), (y : Int))).filter (atB p c k0 k1 q))
  | 0, k, y, acc, hm, hy, _ => by
    have := hp.lt
    rw [show 0 + 1 + k = k + 1 by omega, spec_l02At.l1, if_neg (by simp; omega), w_nat (by omega)]
    simp
  | m + 1, k, y, acc, hm, hy, hl => by
    have := hp.lt
    rw [show m + 1 + 1 + k = (m + 1 + k) + 1 by omega, spec_l02At.l1, if_pos (by simp; omega), specQuadrance_nice hp h1 h2 ⟨by omega⟩ ⟨by omega⟩, w_nat (by omega)]
    simp only [Option.bind_some, List.range'_succ, List.map_cons, List.filter_cons]
    rw [show atB p c k0 k1 q ((x : Int), (y : Int)) = (quad c k0 k1 (x : Int) (y : Int) % p == q) from rfl]
    cases quad c k0 k1 (x : Int) (y : Int) % p == q
    · simp only [Bool.false_eq_true, if_false]
      exact at_l1 hp h1 h2 x hx m k (y + 1) acc (by omega) (by omega) (by omega)
    · simp only [if_true]
      rw [if_pos (by simp; omega), at_l1 hp h1 h2 x hx m k (y + 1) _ (by omega) (by omega) (by simp; omega)]
      simp
theorem at_l0 {K : Nat} {p c k0 k1 q : Int} (hp : isP p) (h1 : B 31 k0) (h2 : B 31 k1) : ∀ (m k x : Nat) (acc : List (Int × Int)), p.toNat - x = m → x ≤ p.toNat → acc.length ≤ x * p.toNat →
    spec_l02At.l0 K p c k0 k1 q (m * (p.toNat + 2) + 1 + k) x acc = some (acc ++ ((List.range' x m).flatMap fun (x : Nat) => (List.range p.toNat).map fun (y : Nat) => ((x : Int), (y : Int))).filter (atB p c k0 k1 q))
  | 0, k, x, acc, hm, hx, hl => by
    have := hp.lt
    rw [show 0 * (p.toNat + 2) + 1 + k = k + 1 by omega, spec_l02At.l0, if_neg (by simp; omega)]
    simp
  | m + 1, k, x, acc, hm, hx, hl => by
    have := hp.lt
    have hsz : x * p.toNat ≤ 31 * 31 := Nat.mul_le_mul (by omega) (by omega)
    have hsz2 : (x + 1) * p.toNat = x * p.toNat + p.toNat := by rw [Nat.add_mul]; omega
    have e : (m + 1) * (p.toNat + 2) + 1 + k = (p.toNat + 1 + (m * (p.toNat + 2) + 1 + k)) + 1 := by rw [Nat.add_mul]; omega
    rw [e, spec_l02At.l0, if_pos (by simp; omega)]
    have h3 := at_l1 (K := K) (c := c) (q := q) hp h1 h2 x (by omega) p.toNat (m * (p.toNat + 2) + 1 + k) 0 acc (by omega) (by omega) (by omega)
    simp only [Int.natCast_zero, Int.ofNat_zero] at h3
    have hfl := List.length_filter_le (atB p c k0 k1 q) ((List.range' 0 p.toNat).map fun (y : Nat) => ((x : Int), (y : Int)))
    rw [List.length_map, List.length_range'] at hfl
    rw [h3, at_l0 hp h1 h2 m k (x + 1) _ (by omega) (by omega) (by rw [List.length_append]; omega)]
    simp [List.range'_succ, List.range_eq_range', List.filter_append]
theorem at_nice {K : Nat} (hK : 5000 ≤ K) {p c k0 k1 q : Int} (hp : isP p) (h1 : B 31 k0) (h2 : B 31 k1) : spec_l02At.f K p c k0 k1 q = some ((allPts p).filter (atB p c k0 k1 q)) := by
  have hpl := hp.lt
  unfold spec_l02At.f allPts
  have hsz : p.toNat * (p.toNat + 2) ≤ 31 * 33 := Nat.mul_le_mul (by omega) (by omega)
  obtain ⟨k, rfl⟩ : ∃ k, K = p.toNat * (p.toNat + 2) + 1 + k := ⟨K - (p.toNat * (p.toNat + 2) + 1), by omega⟩
  have := at_l0 (K := p.toNat * (p.toNat + 2) + 1 + k) (c := c) (q := q) hp h1 h2 p.toNat k 0 [] (by omega) (by omega) (by simp)
  simp only [Int.natCast_zero, Int.ofNat_zero, List.nil_append] at this
  rw [this, List.range_eq_range']
theorem pow_zero {p c k0 k1 q x y : Int} (hp : isP p) (hq : In p q) : (pow p c k0 k1 q x y == 0) = (quad c k0 k1 x y % p == q) := by
  rw [Bool.eq_iff_iff, beq_iff_eq, beq_iff_eq]
  unfold pow
  constructor
  · intro h
    exact diff_zero (mod_in hp _) hq h
  · intro h
    rw [h, Int.sub_self]
    simp
def powB (p c k0 k1 q : Int) (x : Int × Int) : Bool := pow p c k0 k1 q x.1 x.2 == 0
def ansMC (p c k0 k1 q m0 m1 r : Int) : List (Int × Int) × Int := if codeC p c [(k0, k1, q), (m0, m1, r)] = 0 then ((allPts p).filter fun x => powB p c k0 k1 q x && powB p c m0 m1 r x, 0) else ([], codeC p c [(k0, k1, q), (m0, m1, r)])
theorem pts_small {p : Int} (hp : isP p) : (allPts p).length ≤ 961 := by
  have hpl := hp.lt
  rw [allPts_len]
  exact Nat.mul_le_mul (show p.toNat ≤ 31 by omega) (show p.toNat ≤ 31 by omega)
theorem pts_bd {p : Int} (hp : isP p) : ∀ x ∈ allPts p, B 31 x.1 ∧ B 31 x.2 := fun x hx => ⟨((mem_allPts hp).1 hx).1.b hp, ((mem_allPts hp).1 hx).2.b hp⟩
theorem ansMC_len {p c k0 k1 q m0 m1 r : Int} : (ansMC p c k0 k1 q m0 m1 r).1.length ≤ 2000 := by
  unfold ansMC
  split
  · exact Nat.le_trans (List.length_filter_le _ _) (Nat.le_trans (pts_small (codeC_zero (by assumption)).1) (by omega))
  · simp
/-! ### The points of a circle on a line -/
def inL (p : Int) (l : Int × Int × Int) : Bool := inN p l.1 && inN p l.2.1 && inN p l.2.2 && (l.1 == 1 || l.1 == 0 && l.2.1 == 1)
theorem line_nice {K : Nat} {p l0 l1 l2 : Int} (hp : isP p) : spec_l01Line.f K p l0 l1 l2 = some (inL p (l0, l1, l2)) := by
  unfold spec_l01Line.f inL
  rw [number_nice hp, number_nice hp, number_nice hp]
  cases inN p l0 <;> cases inN p l1 <;> cases inN p l2 <;> cases h1 : l0 == 1 <;> cases h2 : l0 == 0 <;> simp
theorem isLine_nice {K : Nat} (hK : 100 ≤ K) {p l0 l1 l2 : Int} : impl_isLine.f K p l0 l1 l2 = some (inL p (l0, l1, l2)) := by
  obtain ⟨k, rfl⟩ : ∃ k, K = k + 10 := ⟨K - 10, by omega⟩
  unfold impl_isLine.f inL
  have : impl_areNumbers.f (k + 10) p [l0, l1, l2] = some (inN p l0 && inN p l1 && inN p l2) := by
    unfold impl_areNumbers.f
    cases h1 : inN p l0 <;> cases h2 : inN p l1 <;> cases h3 : inN p l2 <;> simp [impl_areNumbers.l0, isNumber_nice, idx, wrap64, h1, h2, h3]
  rw [this]
  cases inN p l0 <;> cases inN p l1 <;> cases inN p l2 <;> cases h1 : l0 == 1 <;> cases h2 : l0 == 0 <;> simp
theorem lines_one {K : Nat} (hK : 100 ≤ K) {p l0 l1 l2 : Int} : spec_l01Lines.f K p [(l0, l1, l2)] = some (if isP p then if inL p (l0, l1, l2) then 0 else 2 else 1) := by
  obtain ⟨k, rfl⟩ : ∃ k, K = k + 10 := ⟨K - 10, by omega⟩
  unfold spec_l01Lines.f
  rw [field_nice (by omega)]
  by_cases hp : isP p
  · simp only [hp, decide_true, if_true, Option.bind_some]
    cases h : inL p (l0, l1, l2) <;> simp [spec_l01Lines.l0, idx, line_nice hp, h, wrap64]
  · simp [hp]
def codeL (p c : Int) (k l : Int × Int × Int) : Int := if codeC p c [k] = 0 then if inL p l then 0 else 2 else codeC p c [k]
theorem askedL_nice {K : Nat} (hK : 100 ≤ K) {p c k0 k1 q l0 l1 l2 : Int} : impl_asked__impl_MeetLine_1.f K p c p k0 k1 q l0 l1 l2 = some (codeL p c (k0, k1, q) (l0, l1, l2)) := by
  unfold impl_asked__impl_MeetLine_1.f impl_MeetLine_1.f codeL codeC
  rw [isField_nice, isColour_nice, isCircle_nice hK, isLine_nice hK]
  by_cases hp : isP p <;> by_cases hc : 0 ≤ c ∧ c ≤ 2 <;> cases h1 : inC p (k0, k1, q) <;> cases h2 : inL p (l0, l1, l2) <;> simp [hp, hc, h1, h2]
def onB (p l0 l1 l2 : Int) (x : Int × Int) : Bool := Int.tmod (l0 * x.1 + l1 * x.2 + l2) p == 0
theorem specOn_nice {K : Nat} {p l0 l1 l2 x y : Int} (hp : isP p) (h1 : B 31 l0) (h2 : B 31 l1) (h3 : B 31 l2) (hx : B 31 x) (hy : B 31 y) : spec_l01On.f K p x y l0 l1 l2 = some (onB p l0 l1 l2 (x, y)) := by
  have hpl := hp.lt
  unfold spec_l01On.f onB
  rw [if_neg (by simp; omega)]
  simp (disch := exact Sm.of (by repeat' first | assumption | apply B.add | apply B.sub | apply B.mul | exact B.mod hp _ | exact B.const _) rfl) only [w_eq]
theorem implOn_nice {K : Nat} {p l0 l1 l2 x y : Int} (hp : isP p) (h1 : B 31 l0) (h2 : B 31 l1) (h3 : B 31 l2) (hx : B 31 x) (hy : B 31 y) : impl_isOn.f K p x y l0 l1 l2 = some (onB p l0 l1 l2 (x, y)) := by
  have hpl := hp.lt
  unfold impl_isOn.f onB
  rw [if_neg (by simp; omega)]
  simp (disch := exact Sm.of (by repeat' first | assumption | apply B.add | apply B.sub | apply B.mul | exact B.mod hp _ | exact B.const _) rfl) only [w_eq]
theorem mlS_l0 {K : Nat} {p l0 l1 l2 : Int} (hp : isP p) (h4 : B 31 l0) (h5 : B 31 l1) (h6 : B 31 l2) (L : List (Int × Int)) (hL : ∀ x ∈ L, B 31 x.1 ∧ B 31 x.2) (hl : L.length ≤ 10000) :
    ∀ (m k i : Nat) (acc : List (Int × Int)), L.length - i = m → m < k → i ≤ L.length → acc.length ≤ i → spec_MeetLine.l0 K p l0 l1 l2 L k i acc = some (acc ++ (L.drop i).filter (onB p l0 l1 l2), 0)
  | 0, k + 1, i, acc, hm, _, hi, _ => by
    have : i = L.length := by omega
    subst this
    simp [spec_MeetLine.l0]
  | m + 1, k + 1, i, acc, hm, hk, hi, ha => by
    have hlt : i < L.length := by omega
    have hb := hL L[i] (List.getElem_mem hlt)
    rw [spec_MeetLine.l0, if_pos (by simpa using hlt), idx_nat, List.getElem?_eq_getElem hlt, w_nat (by omega), List.drop_eq_getElem_cons hlt, List.filter_cons]
    simp only [Option.bind_some]
    rw [specOn_nice hp h4 h5 h6 hb.1 hb.2]
    simp only [Option.bind_some]
    rw [show ((L[i].1, L[i].2) : Int × Int) = L[i] from rfl]
    cases onB p l0 l1 l2 L[i]
    · simp only [Bool.false_eq_true, if_false]
      exact mlS_l0 hp h4 h5 h6 L hL hl m k (i + 1) acc (by omega) (by omega) (by omega) (by omega)
    · simp only [if_true]
      rw [if_pos (by simp; omega), mlS_l0 hp h4 h5 h6 L hL hl m k (i + 1) _ (by omega) (by omega) (by omega) (by simp; omega)]
      simp
theorem mlI_l0 {K : Nat} {p c k0 k1 q l0 l1 l2 : Int} (hp : isP p) (h1 : B 31 k0) (h2 : B 31 k1) (h3 : B 31 q) (h4 : B 31 l0) (h5 : B 31 l1) (h6 : B 31 l2) (L : List (Int × Int)) (hL : ∀ x ∈ L, B 31 x.1 ∧ B 31 x.2) (hl : L.length ≤ 10000) :
    ∀ (m k i : Nat) (acc : List (Int × Int)), L.length - i = m → m < k → i ≤ L.length → acc.length ≤ i → impl_pointsWith__impl_MeetLine_2.l0 K p l0 l1 l2 c k0 k1 q L k i acc = some (acc ++ (L.drop i).filter fun x => onB p l0 l1 l2 x && powB p c k0 k1 q x)
  | 0, k + 1, i, acc, hm, _, hi, _ => by
    have : i = L.length := by omega
    subst this
    simp [impl_pointsWith__impl_MeetLine_2.l0]
  | m + 1, k + 1, i, acc, hm, hk, hi, ha => by
    have hlt : i < L.length := by omega
    have hb := hL L[i] (List.getElem_mem hlt)
    rw [impl_pointsWith__impl_MeetLine_2.l0, if_pos (by simpa using hlt), idx_nat, List.getElem?_eq_getElem hlt, w_nat (by omega), List.drop_eq_getElem_cons hlt, List.filter_cons]
    simp only [Option.bind_some, impl_MeetLine_2.f]
    rw [implOn_nice hp h4 h5 h6 hb.1 hb.2, implPower_nice hp h1 h2 h3 hb.1 hb.2, show powB p c k0 k1 q L[i] = (pow p c k0 k1 q L[i].1 L[i].2 == 0) from rfl]
    simp only [Option.bind_some]
    rw [show ((L[i].1, L[i].2) : Int × Int) = L[i] from rfl]
    have hno := mlI_l0 (K := K) (c := c) hp h1 h2 h3 h4 h5 h6 L hL hl m k (i + 1) acc (by omega) (by omega) (by omega) (by omega)
    have hyes := mlI_l0 (K := K) (c := c) hp h1 h2 h3 h4 h5 h6 L hL hl m k (i + 1) (acc ++ [L[i]]) (by omega) (by omega) (by omega) (by simp; omega)
    cases onB p l0 l1 l2 L[i]
    · simpa using hno
    · cases pow p c k0 k1 q L[i].1 L[i].2 == 0
      · simpa using hno
      · simp only [if_true, Option.bind_some, Bool.and_self]
        rw [if_pos (by simp; omega)]
        rw [List.append_assoc] at hyes
        exact hyes
def ansML (p c k0 k1 q l0 l1 l2 : Int) : List (Int × Int) × Int := if codeL p c (k0, k1, q) (l0, l1, l2) = 0 then ((allPts p).filter fun x => onB p l0 l1 l2 x && powB p c k0 k1 q x, 0) else ([], codeL p c (k0, k1, q) (l0, l1, l2))
theorem codeL_zero {p c k0 k1 q l0 l1 l2 : Int} (h : codeL p c (k0, k1, q) (l0, l1, l2) = 0) : isP p ∧ (In p k0 ∧ In p k1 ∧ In p q) ∧ In p l0 ∧ In p l1 ∧ In p l2 := by
  unfold codeL at h
  split at h
  · split at h
    · rename_i h1 h2
      obtain ⟨hp, _, _, h3⟩ := codeC_zero h1
      simp only [List.all_cons, List.all_nil, Bool.and_true] at h3
      unfold inL at h2
      simp only [Bool.and_eq_true] at h2
      exact ⟨hp, inC_in h3, inN_in h2.1.1.1, inN_in h2.1.1.2, inN_in h2.1.2⟩
    · cases h
  · contradiction
theorem ansML_len {p c k0 k1 q l0 l1 l2 : Int} : (ansML p c k0 k1 q l0 l1 l2).1.length ≤ 2000 := by
  unfold ansML
  split
  · exact Nat.le_trans (List.length_filter_le _ _) (Nat.le_trans (pts_small (codeL_zero (by assumption)).1) (by omega))
  · simp
theorem specML {K : Nat} (hK : 5000 ≤ K) {p c k0 k1 q l0 l1 l2 : Int} : spec_MeetLine.f K p c k0 k1 q l0 l1 l2 = some (ansML p c k0 k1 q l0 l1 l2) := by
  unfold spec_MeetLine.f ansML
  rw [code6_nice [(k0, k1, q)] (by simp) (show ([(k0, k1, q)] : List (Int × Int × Int)).length + 10 ≤ K by simp; omega), lines_one (by omega)]
  by_cases h0 : codeC p c [(k0, k1, q)] = 0
  · have hp := (codeC_zero h0).1
    by_cases hl : inL p (l0, l1, l2) = true
    · have h : codeL p c (k0, k1, q) (l0, l1, l2) = 0 := by unfold codeL; rw [if_pos h0, if_pos hl]
      obtain ⟨_, ⟨i1, i2, i3⟩, i4, i5, i6⟩ := codeL_zero h
      simp only [h, h0, hp, hl, Option.bind_some, beq_self_eq_true, if_true, at_nice hK hp (i1.b hp) (i2.b hp)]
      have hs := pts_small hp
      have hle := List.length_filter_le (atB p c k0 k1 q) (allPts p)
      have := mlS_l0 (K := K) hp (i4.b hp) (i5.b hp) (i6.b hp) ((allPts p).filter (atB p c k0 k1 q)) (fun x hx => pts_bd hp x (List.mem_filter.1 hx).1) (by omega) _ K 0 [] rfl (by omega) (by omega) (by simp)
      simp only [Int.natCast_zero, Int.ofNat_zero, List.drop_zero, List.nil_append] at this
      rw [this, List.filter_filter]
      congr 3
      funext x
      congr 1
      exact (pow_zero hp i3).symm
    · have h : codeL p c (k0, k1, q) (l0, l1, l2) = 2 := by unfold codeL; rw [if_pos h0, if_neg hl]
      simp [h, h0, hp, hl]
  · have h : codeL p c (k0, k1, q) (l0, l1, l2) = codeC p c [(k0, k1, q)] := by unfold codeL; rw [if_neg h0]
    simp [h, h0]
theorem implML {K : Nat} (hK : 5000 ≤ K) {p c k0 k1 q l0 l1 l2 : Int} : impl_MeetLine.f K p c k0 k1 q l0 l1 l2 = some (ansML p c k0 k1 q l0 l1 l2) := by
  unfold impl_MeetLine.f ansML
  rw [askedL_nice (by omega)]
  by_cases h : codeL p c (k0, k1, q) (l0, l1, l2) = 0
  · obtain ⟨hp, ⟨i1, i2, i3⟩, i4, i5, i6⟩ := codeL_zero h
    simp only [h, Option.bind_some, beq_self_eq_true, if_true, impl_pointsWith__impl_MeetLine_2.f, allPts_nice hK hp]
    have hs := pts_small hp
    have := mlI_l0 (K := K) (c := c) hp (i1.b hp) (i2.b hp) (i3.b hp) (i4.b hp) (i5.b hp) (i6.b hp) (allPts p) (pts_bd hp) (by omega) _ K 0 [] rfl (by omega) (by omega) (by simp)
    simp only [Int.natCast_zero, Int.ofNat_zero, List.drop_zero, List.nil_append] at this
    rw [this]
    rfl
  · simp [h]
end Go.Proofs.YtccbmdpikalpfaaGreat
