/- Plain laws: the altitudes, the meeting point, the orthocentre. -/
import Derived.Test.YtccbmdpikalpfaaGreatM4
namespace Go.Proofs.YtccbmdpikalpfaaGreat
open Go Go.RowKit
set_option linter.unusedVariables false
set_option linter.unusedSimpArgs false
def px (c d0 d1 : Int) : Int := if c = 1 then d0 else if c = 2 then d1 else d0
def py (c d0 d1 : Int) : Int := if c = 1 then -d1 else if c = 2 then d0 else d1
/-- The line through a point that is perpendicular to a direction. -/
def perpOf (p c d0 d1 a0 a1 : Int) : Int × Int × Int := normal p (px c d0 d1) (py c d0 d1) (-(px c d0 d1 * a0 + py c d0 d1 * a1))
theorem perpOf_mod {p c d0 d1 a0 a1 : Int} (hp : isP p) : perpOf p c (d0 % p) (d1 % p) a0 a1 = perpOf p c d0 d1 a0 a1 := by
  refine normal_unit hp fun n _ hn e => ⟨1, 1, by grind, ?_, ?_, ?_⟩
  all_goals
    subst e
    simp only [px, py]
    split
    · simp only [cst_add, cst_sub, cst_mul, cst_mod, cst_neg]; grind
    · split <;> simp only [cst_add, cst_sub, cst_mul, cst_mod, cst_neg] <;> grind
theorem specThrough2_nice {K : Nat} (hK : 100 ≤ K) {p c d0 d1 a0 a1 : Int} (hp : isP p) (h1 : B 31 d0) (h2 : B 31 d1) (h3 : B 31 a0) (h4 : B 31 a1) : spec_l02Through.f K p c d0 d1 a0 a1 = some (perpOf p c d0 d1 a0 a1) := by
  have hb : ∀ x, B 10000 (x % p) := fun x => (B.mod hp x).le (by decide)
  have hd0 := h1.le (show 31 ≤ 10000 by decide)
  have hd1 := h2.le (show 31 ≤ 10000 by decide)
  unfold spec_l02Through.f perpOf px py
  simp (disch := first | assumption | exact Sm.of (by repeat' first | assumption | apply B.add | apply B.sub | apply B.neg | apply B.mul | exact B.mod hp _ | exact B.const _) rfl) only [w_eq, mod_nice hp, Option.bind_some, beq_iff_eq]
  split
  · rw [specNormal_nice hK hp hd0 (hb _) (hb _)]
    simp only [Option.bind_some, Option.some.injEq]
    refine normal_unit hp fun n _ hn e => ⟨1, 1, by grind, ?_, ?_, ?_⟩ <;> subst e <;> (try simp only [cst_add, cst_sub, cst_mul, cst_mod, cst_neg]) <;> grind
  · split
    · rw [specNormal_nice hK hp hd1 hd0 (hb _)]
      simp only [Option.bind_some, Option.some.injEq]
      refine normal_unit hp fun n _ hn e => ⟨1, 1, by grind, ?_, ?_, ?_⟩ <;> subst e <;> (try simp only [cst_add, cst_sub, cst_mul, cst_mod, cst_neg]) <;> grind
    · rw [specNormal_nice hK hp hd0 hd1 (hb _)]
      simp only [Option.bind_some, Option.some.injEq]
      refine normal_unit hp fun n _ hn e => ⟨1, 1, by grind, ?_, ?_, ?_⟩ <;> subst e <;> (try simp only [cst_add, cst_sub, cst_mul, cst_mod, cst_neg]) <;> grind
theorem piv_unit {p u v : Int} (hp : isP p) (h : ¬ (u % p = 0 ∧ v % p = 0)) (n : Nat) [NeZero n] (hn : 2 < n) (e : p = n) : cst n (piv p u v) * cst n (inv p (piv p u v)) = 1 := by
  have hz : piv p u v ≠ 0 := by
    unfold piv
    split
    · exact fun e => h ⟨by assumption, e⟩
    · assumption
  have hm := (piv_in (p := p) (a := u) (b := v) hp).mod
  have := inv_cst hp (x := piv p u v) (by rw [hm]; exact hz) n hn e
  rwa [hm] at this
theorem normal_ne {p u v w : Int} (hp : isP p) (h : ¬ (u % p = 0 ∧ v % p = 0)) : ¬ ((normal p u v w).1 % p = 0 ∧ (normal p u v w).2.1 % p = 0) := by
  have hpl := hp.lt
  obtain ⟨n, hn⟩ := Int.eq_ofNat_of_zero_le (show 0 ≤ p by omega)
  have : NeZero n := ⟨by omega⟩
  have hn2 : 2 < n := by omega
  have hu := piv_unit hp h n hn2 hn
  intro ⟨h1, h2⟩
  unfold normal at h1 h2
  simp only [Int.emod_emod] at h1 h2
  rw [hn, ← cst_z, cst_mul] at h1 h2
  rw [← hn] at h1 h2
  have key : ∀ x : Int, cst n x * cst n (inv p (piv p u v)) = 0 → cst n x = 0 := fun x hx => by
    generalize cst n (inv p (piv p u v)) = j at *
    have : cst n x * (cst n (piv p u v) * j) = cst n x * 1 := by rw [hu]
    have : cst n (piv p u v) * (cst n x * j) = cst n (piv p u v) * 0 := by rw [hx]
    grind
  exact h ⟨by rw [hn, ← cst_z]; exact key u h1, by rw [hn, ← cst_z]; exact key v h2⟩
/-- The perpendicular to the line of direction (u, v) in normal form. -/
theorem implPerp_nice {K : Nat} (hK : 100 ≤ K) {p c u v w a0 a1 : Int} (hp : isP p) (h3 : B 31 a0) (h4 : B 31 a1) (h : ¬ (u % p = 0 ∧ v % p = 0)) :
    impl_perpendicular.f K p c (normal p u v w).1 (normal p u v w).2.1 (normal p u v w).2.2 a0 a1 = some (normal p (-be c u v) (al c u v) (be c u v * a0 - al c u v * a1)) := by
  rw [perp_nice (l0 := (normal p u v w).1) (l1 := (normal p u v w).2.1) (l2 := (normal p u v w).2.2) hK hp (B.mod hp _) (B.mod hp _) h3 h4 (normal_ne hp h), Option.some.injEq]
  refine normal_unit hp fun n _ hn e => ⟨cst n (inv p (piv p u v)), cst n (piv p u v), ?_, ?_, ?_, ?_⟩
  · have := piv_unit hp h n hn e
    grind
  all_goals
    simp only [normal, al, be]
    subst e
    generalize inv n (piv n u v) = j
    split
    · simp only [cst_add, cst_sub, cst_mul, cst_mod, cst_neg]; grind
    · split <;> simp only [cst_add, cst_sub, cst_mul, cst_mod, cst_neg] <;> grind
def altOf (p c a0 a1 b0 b1 c0 c1 : Int) : Int × Int × Int := perpOf p c (b0 - c0) (b1 - c1) a0 a1
/-- Where the area is not nothing, no two corners are alike. -/
theorem area_ne {p a0 a1 b0 b1 c0 c1 : Int} (hp : isP p) (h : areaOf a0 a1 b0 b1 c0 c1 % p ≠ 0) : ¬ ((b1 - c1) % p = 0 ∧ (c0 - b0) % p = 0) ∧ ¬ ((a1 - c1) % p = 0 ∧ (c0 - a0) % p = 0) ∧ ¬ ((a1 - b1) % p = 0 ∧ (b0 - a0) % p = 0) := by
  have hpl := hp.lt
  obtain ⟨n, hn⟩ := Int.eq_ofNat_of_zero_le (show 0 ≤ p by omega)
  have : NeZero n := ⟨by omega⟩
  unfold areaOf at h
  rw [hn] at h ⊢
  simp only [ne_eq, ← cst_z, cst_sub, cst_mul] at h ⊢
  generalize cst n a0 = x0 at *
  generalize cst n a1 = x1 at *
  generalize cst n b0 = y0 at *
  generalize cst n b1 = y1 at *
  generalize cst n c0 = z0 at *
  generalize cst n c1 = z1 at *
  refine ⟨fun ⟨e1, e2⟩ => h ?_, fun ⟨e1, e2⟩ => h ?_, fun ⟨e1, e2⟩ => h ?_⟩
  · have f1 : y1 = z1 := by grind
    have f2 : z0 = y0 := by grind
    subst f1 f2
    grind
  · have f1 : x1 = z1 := by grind
    have f2 : z0 = x0 := by grind
    subst f1 f2
    grind
  · have f1 : x1 = y1 := by grind
    have f2 : y0 = x0 := by grind
    subst f1 f2
    grind
/-- Where two lines meet. -/
def det (l0 l1 m0 m1 : Int) : Int := l0 * m1 - l1 * m0
def meet0 (p l0 l1 l2 m0 m1 m2 : Int) : Int := ((l1 * m2 - l2 * m1) * inv p (det l0 l1 m0 m1 % p)) % p
def meet1 (p l0 l1 l2 m0 m1 m2 : Int) : Int := ((l2 * m0 - l0 * m2) * inv p (det l0 l1 m0 m1 % p)) % p
theorem cst_tmod {n : Nat} [NeZero n] (x : Int) : cst n (Int.tmod x n) = cst n x := by
  have h3 := Int.tmod_add_mul_tdiv x n
  have h4 : Int.tmod x n = x - n * (x.tdiv n) := by omega
  have h5 : cst n ((n : Int)) = 0 := by rw [cst_z]; simp
  rw [h4, cst_sub, cst_mul, h5]
  grind
theorem specMeet_nice {K : Nat} (hK : 100 ≤ K) {p l0 l1 l2 m0 m1 m2 : Int} (hp : isP p) (h1 : B 31 l0) (h2 : B 31 l1) (h3 : B 31 l2) (h4 : B 31 m0) (h5 : B 31 m1) (h6 : B 31 m2) :
    spec_l01Meet.f K p l0 l1 l2 m0 m1 m2 = some (meet0 p l0 l1 l2 m0 m1 m2, meet1 p l0 l1 l2 m0 m1 m2, !(det l0 l1 m0 m1 % p == 0)) := by
  have hi : ∀ x, B 31 (inv p (x % p)) := fun x => (inv_in hp (mod_in hp x)).b hp
  have hpl := hp.lt
  have hz : ¬ p = 0 := by omega
  unfold spec_l01Meet.f meet0 meet1
  simp (disch := first | assumption | exact mod_in hp _ | exact Sm.of (by repeat' first | assumption | apply hi | apply B.add | apply B.sub | apply B.mul | exact B.mod hp _ | exact B.tmod hp _ | exact B.const _) rfl) only [w_eq, mod_nice hp, Option.bind_some, beq_iff_eq, hz, if_false]
  rw [show l0 * m1 - l1 * m0 = det l0 l1 m0 m1 from rfl]
  by_cases hd : det l0 l1 m0 m1 % p = 0
  · simp [hd, inv_zero hp]
  · rw [if_neg hd, specInverse_nice hK hp (mod_in hp _)]
    simp (disch := first | assumption | exact mod_in hp _ | exact Sm.of (by repeat' first | assumption | apply hi | apply B.add | apply B.sub | apply B.mul | exact B.mod hp _ | exact B.tmod hp _ | exact B.const _) rfl) only [w_eq, mod_nice hp, Option.bind_some, Option.some.injEq, Prod.mk.injEq]
    refine ⟨emod_ring hp fun n _ hn e => ?_, emod_ring hp fun n _ hn e => ?_, by simpa using hd⟩
    · subst e
      simp only [cst_mul, cst_tmod, cst_sub]
      grind
    · subst e
      simp only [cst_mul, cst_tmod, cst_sub]
      grind
theorem normal_b {p u v w : Int} (hp : isP p) : B 31 (normal p u v w).1 ∧ B 31 (normal p u v w).2.1 ∧ B 31 (normal p u v w).2.2 := ⟨B.mod hp _, B.mod hp _, B.mod hp _⟩
def orth (p c a0 a1 b0 b1 c0 c1 : Int) : Int × Int :=
  (meet0 p (altOf p c a0 a1 b0 b1 c0 c1).1 (altOf p c a0 a1 b0 b1 c0 c1).2.1 (altOf p c a0 a1 b0 b1 c0 c1).2.2 (altOf p c b0 b1 a0 a1 c0 c1).1 (altOf p c b0 b1 a0 a1 c0 c1).2.1 (altOf p c b0 b1 a0 a1 c0 c1).2.2,
   meet1 p (altOf p c a0 a1 b0 b1 c0 c1).1 (altOf p c a0 a1 b0 b1 c0 c1).2.1 (altOf p c a0 a1 b0 b1 c0 c1).2.2 (altOf p c b0 b1 a0 a1 c0 c1).1 (altOf p c b0 b1 a0 a1 c0 c1).2.1 (altOf p c b0 b1 a0 a1 c0 c1).2.2)
theorem altOf_b {p c a0 a1 b0 b1 c0 c1 : Int} (hp : isP p) : B 31 (altOf p c a0 a1 b0 b1 c0 c1).1 ∧ B 31 (altOf p c a0 a1 b0 b1 c0 c1).2.1 ∧ B 31 (altOf p c a0 a1 b0 b1 c0 c1).2.2 := normal_b hp
end Go.Proofs.YtccbmdpikalpfaaGreat
