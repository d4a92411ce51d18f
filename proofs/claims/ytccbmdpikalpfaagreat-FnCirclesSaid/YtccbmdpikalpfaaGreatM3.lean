/- Plain laws: the inverse, the normal form of a line, the line through two points, the midpoint, the centroid. -/
import Derived.Test.YtccbmdpikalpfaaGreatM2
import Derived.KernelRfl
namespace Go.Proofs.YtccbmdpikalpfaaGreat
open Go Go.RowKit
set_option linter.unusedVariables false
set_option linter.unusedSimpArgs false
/-- The inverse modulo p, by search; 0 where there is none. -/
def inv (p x : Int) : Int := ((((List.range p.toNat).find? fun (y : Nat) => (x * (y : Int)) % p == 1).map fun (y : Nat) => (y : Int)).getD 0)
def Pr : List Nat := [3, 5, 7, 11, 13, 17, 19, 23, 29, 31]
theorem isP.mem {p : Int} (hp : isP p) : ∃ n ∈ Pr, p = (n : Int) := by
  unfold isP at hp
  rcases hp with rfl | rfl | rfl | rfl | rfl | rfl | rfl | rfl | rfl | rfl
  · exact ⟨3, by decide, rfl⟩
  · exact ⟨5, by decide, rfl⟩
  · exact ⟨7, by decide, rfl⟩
  · exact ⟨11, by decide, rfl⟩
  · exact ⟨13, by decide, rfl⟩
  · exact ⟨17, by decide, rfl⟩
  · exact ⟨19, by decide, rfl⟩
  · exact ⟨23, by decide, rfl⟩
  · exact ⟨29, by decide, rfl⟩
  · exact ⟨31, by decide, rfl⟩
/-- A fact on a number and a prime, looked up. -/
theorem look {Q : Int → Int → Prop} (h : ∀ n ∈ Pr, ∀ x ∈ List.range n, Q (n : Int) (x : Int)) {p x : Int} (hp : isP p) (hx : In p x) : Q p x := by
  obtain ⟨n, hn, rfl⟩ := hp.mem
  have := hx.out
  obtain ⟨y, rfl⟩ := Int.eq_ofNat_of_zero_le this.1
  exact h n hn y (List.mem_range.2 (by omega))
theorem inv_in {p x : Int} (hp : isP p) (hx : In p x) : In p (inv p x) := look (Q := fun p x => In p (inv p x)) (fun n hn x hx => ⟨by
  have h : ∀ n ∈ Pr, ∀ x ∈ List.range n, 0 ≤ inv n x ∧ inv n x < n := by decide +kernel
  exact h n hn x hx⟩) hp hx
theorem inv_mul {p x : Int} (hp : isP p) (hx : In p x) (h0 : x ≠ 0) : (x * inv p x) % p = 1 := look (Q := fun p x => x ≠ 0 → (x * inv p x) % p = 1) (by decide +kernel) hp hx h0
theorem inv_zero {p : Int} (hp : isP p) : inv p 0 = 0 := look (Q := fun p x => x = 0 → inv p x = 0) (by decide +kernel) hp ⟨by have := hp.lt; omega⟩ rfl
theorem implInverse_k {k : Nat} : ∀ n ∈ Pr, ∀ x ∈ List.range n, impl_inverse.f (k + 40) (n : Int) (x : Int) = some (inv n x) := of_decide_eq_true (by kernel_rfl)
theorem specInverse_k {k : Nat} : ∀ n ∈ Pr, ∀ x ∈ List.range n, spec_l01Inverse.f (k + 40) (x : Int) (n : Int) = some (inv n x) := of_decide_eq_true (by kernel_rfl)
theorem implInverse_nice {K : Nat} (hK : 100 ≤ K) {p x : Int} (hp : isP p) (hx : In p x) : impl_inverse.f K p x = some (inv p x) := by
  obtain ⟨k, rfl⟩ : ∃ k, K = k + 40 := ⟨K - 40, by omega⟩
  exact look (Q := fun p x => impl_inverse.f (k + 40) p x = some (inv p x)) implInverse_k hp hx
theorem specInverse_nice {K : Nat} (hK : 100 ≤ K) {p x : Int} (hp : isP p) (hx : In p x) : spec_l01Inverse.f K x p = some (inv p x) := by
  obtain ⟨k, rfl⟩ : ∃ k, K = k + 40 := ⟨K - 40, by omega⟩
  exact look (Q := fun p x => spec_l01Inverse.f (k + 40) x p = some (inv p x)) specInverse_k hp hx
theorem cst_z {n : Nat} [NeZero n] {x : Int} : cst n x = 0 ↔ x % (n : Int) = 0 := by
  rw [← cst_zero, cst_eq]
  simp
theorem inv_cst {p x : Int} (hp : isP p) (h : x % p ≠ 0) (n : Nat) [NeZero n] (hn : 2 < n) (e : p = n) : cst n x * cst n (inv p (x % p)) = 1 := by
  have h1 := inv_mul hp (mod_in hp x) h
  subst e
  have h2 : cst n (x % n * inv n (x % n)) = cst n 1 := by
    rw [cst_eq, h1, Int.emod_eq_of_lt (by omega) (by omega)]
  rwa [cst_mul, cst_mod, cst_one (by omega)] at h2
theorem inv_cst0 {p x : Int} (hp : isP p) (h : x % p = 0) (n : Nat) [NeZero n] : cst n (inv p (x % p)) = 0 := by
  rw [h, inv_zero hp, cst_zero]
/-- The line a x + b y + c in its normal form. -/
def piv (p a b : Int) : Int := if a % p = 0 then b % p else a % p
def normal (p a b c : Int) : Int × Int × Int := ((a * inv p (piv p a b)) % p, (b * inv p (piv p a b)) % p, (c * inv p (piv p a b)) % p)
theorem piv_in {p a b : Int} (hp : isP p) : In p (piv p a b) := by unfold piv; split <;> exact mod_in hp _
theorem normal_unit {p a b c a' b' c' : Int} (hp : isP p) (h : ∀ (n : Nat) [NeZero n], 2 < n → p = n → ∃ k k' : Fin n, k * k' = 1 ∧ cst n a' = k * cst n a ∧ cst n b' = k * cst n b ∧ cst n c' = k * cst n c) : normal p a' b' c' = normal p a b c := by
  have h3 := hp.lt
  obtain ⟨m, hm⟩ := Int.eq_ofNat_of_zero_le (show 0 ≤ p by omega)
  have : NeZero m := ⟨by omega⟩
  have hm2 : 2 < m := by omega
  obtain ⟨k, k', hk, ha', hb', hc'⟩ := h m hm2 hm
  have haa : a % p = 0 ↔ a' % p = 0 := by
    rw [hm, ← cst_z, ← cst_z, ha']
    constructor
    · intro e; rw [e]; grind
    · intro e; grind
  have hbb : b % p = 0 ↔ b' % p = 0 := by
    rw [hm, ← cst_z, ← cst_z, hb']
    constructor
    · intro e; rw [e]; grind
    · intro e; grind
  have key : ∀ t t' : Int, cst m t' = k * cst m t → (t % p = 0 ↔ t' % p = 0) → ∀ x x' : Int, cst m x' = k * cst m x → (x' * inv p (t' % p)) % p = (x * inv p (t % p)) % p := fun t t' ht h0 x x' hx => by
    by_cases hz : t % p = 0
    · rw [h0.1 hz, hz, inv_zero hp]
      simp
    · have h1 := inv_cst hp hz m hm2 hm
      have h2 := inv_cst hp (fun e => hz (h0.2 e)) m hm2 hm
      rw [hm, ← cst_eq, cst_mul, cst_mul, hx]
      rw [hm] at h1 h2
      rw [ht] at h2
      generalize cst m (inv m (t % m)) = i at *
      generalize cst m (inv m (t' % m)) = i' at *
      grind
  unfold normal piv
  by_cases ha : a % p = 0
  · rw [if_pos ha, if_pos (haa.1 ha)]
    rw [key b b' hb' hbb a a' ha', key b b' hb' hbb b b' hb', key b b' hb' hbb c c' hc']
  · rw [if_neg ha, if_neg (fun e => ha (haa.2 e))]
    rw [key a a' ha' haa a a' ha', key a a' ha' haa b b' hb', key a a' ha' haa c c' hc']
theorem specNormal_nice {K : Nat} (hK : 100 ≤ K) {p a b c : Int} (hp : isP p) (h1 : B 10000 a) (h2 : B 10000 b) (h3 : B 10000 c) : spec_l01Normal.f K p a b c = some (normal p a b c) := by
  have hi : ∀ x, B 31 (inv p (x % p)) := fun x => (inv_in hp (mod_in hp x)).b hp
  unfold spec_l01Normal.f normal piv
  by_cases h : a % p = 0
  · simp (disch := first | assumption | exact mod_in hp _ | exact Sm.of (by repeat' first | assumption | apply hi | apply B.add | apply B.sub | apply B.mul | exact B.mod hp _ | exact B.const _) rfl) only [w_eq, mod_nice hp, Option.bind_some, h, beq_self_eq_true, if_true, specInverse_nice hK hp]
  · simp (disch := first | assumption | exact mod_in hp _ | exact Sm.of (by repeat' first | assumption | apply hi | apply B.add | apply B.sub | apply B.mul | exact B.mod hp _ | exact B.const _) rfl) only [w_eq, mod_nice hp, Option.bind_some, h, beq_iff_eq, if_false, specInverse_nice hK hp]
theorem implDivide_nice {K : Nat} (hK : 100 ≤ K) {p x y : Int} (hp : isP p) (h1 : B 10000 x) (h2 : In p y) : impl_divide.f K p x y = some ((x * inv p y) % p) := by
  have hi : B 31 (inv p y) := (inv_in hp h2).b hp
  unfold impl_divide.f
  simp (disch := first | assumption | exact Sm.of (by repeat' first | assumption | apply B.add | apply B.sub | apply B.mul | exact B.mod hp _ | exact B.const _) rfl) only [w_eq, rest_nice hp, Option.bind_some, implInverse_nice hK hp h2]
theorem implLine_nice {K : Nat} (hK : 100 ≤ K) {p a b c : Int} (hp : isP p) : impl_makeLine.f K p a b c = some (normal p a b c) := by
  have hb : ∀ x, B 10000 (x % p) := fun x => (B.mod hp x).le (by decide)
  unfold impl_makeLine.f normal piv
  by_cases h : a % p = 0
  · simp (disch := first | assumption | exact mod_in hp _ | apply hb) only [rest_nice hp, Option.bind_some, h, beq_self_eq_true, if_true, implDivide_nice hK hp]
    rw [implDivide_nice hK hp ⟨by omega⟩ (mod_in hp _)]
    simp only [Option.bind_some, Option.some.injEq, Prod.mk.injEq]
    refine ⟨emod_ring hp fun n _ hn e => ?_, emod_ring hp fun n _ hn e => ?_, emod_ring hp fun n _ hn e => ?_⟩
    · subst e
      rw [cst_mul, cst_mul, cst_z.2 h, cst_zero]
    · subst e
      simp only [cst_mul, cst_mod]
    · subst e
      simp only [cst_mul, cst_mod]
  · simp (disch := first | assumption | exact mod_in hp _ | apply hb) only [rest_nice hp, Option.bind_some, h, beq_iff_eq, if_false, implDivide_nice hK hp, Option.some.injEq, Prod.mk.injEq]
    refine ⟨emod_ring hp fun n _ hn e => ?_, emod_ring hp fun n _ hn e => ?_, emod_ring hp fun n _ hn e => ?_⟩ <;>
    · subst e
      simp only [cst_mul, cst_mod]
/-- The line through two points. -/
def lineOf (p a0 a1 b0 b1 : Int) : Int × Int × Int := normal p (a1 - b1) (b0 - a0) (a0 * b1 - b0 * a1)
theorem implThrough_nice {K : Nat} (hK : 100 ≤ K) {p a0 a1 d0 d1 : Int} (hp : isP p) (h1 : B 31 a0) (h2 : B 31 a1) (h3 : B 31 d0) (h4 : B 31 d1) : impl_through.f K p a0 a1 d0 d1 = some (normal p d1 (-d0) (-(d1 * a0 + -d0 * a1))) := by
  unfold impl_through.f
  simp (disch := exact Sm.of (by repeat' first | assumption | apply B.add | apply B.sub | apply B.neg | apply B.mul | exact B.mod hp _ | exact B.const _) rfl) only [w_eq]
  rw [implLine_nice hK hp]
  rfl
theorem implLineThrough_nice {K : Nat} (hK : 100 ≤ K) {p a0 a1 b0 b1 : Int} (hp : isP p) (h1 : B 31 a0) (h2 : B 31 a1) (h3 : B 31 b0) (h4 : B 31 b1) : impl_lineThrough.f K p a0 a1 b0 b1 = some (lineOf p a0 a1 b0 b1) := by
  unfold impl_lineThrough.f lineOf
  rw [less_nice hp h3 h4 h1 h2]
  simp only [Option.bind_some]
  rw [implThrough_nice hK hp h1 h2 (B.mod hp _) (B.mod hp _)]
  simp only [Option.bind_some, Option.some.injEq]
  refine normal_unit hp fun n _ hn e => ⟨-1, -1, by grind, ?_, ?_, ?_⟩ <;> subst e <;> simp only [cst_add, cst_sub, cst_mul, cst_mod, cst_neg] <;> grind
/-- The half. -/
def half (p : Int) : Int := (p + 1) / 2
theorem half_cst {p : Int} (hp : isP p) (n : Nat) [NeZero n] (hn : 2 < n) (e : p = n) : 2 * cst n (half p) = 1 := by
  have h : 2 * half p = p + 1 := by unfold half; unfold isP at hp; omega
  have h2 : cst n (2 * half p) = cst n (p + 1) := by rw [h]
  rw [cst_mul, cst_two hn, cst_add, cst_one (by omega)] at h2
  rw [h2]
  have : cst n p = 0 := by rw [cst_z, e]; simp
  rw [this]
  grind
theorem half_uniq {n : Nat} [NeZero n] {i j : Fin n} (h : 2 * i = 1) (k : 2 * j = 1) : i = j := by
  have h1 : j * (2 * i) = j * 1 := by rw [h]
  have h2 : i * (2 * j) = i * 1 := by rw [k]
  grind
theorem half_ring {n : Nat} [NeZero n] (i x y : Fin n) (h : 2 * i = 1) : x + i * (y - x) = i * (x + y) := by
  have h1 : x * (2 * i) = x * 1 := by rw [h]
  grind
def mid (p x y : Int) : Int := (half p * (x + y)) % p
theorem specPlus_nice {K : Nat} {p a0 a1 b0 b1 : Int} (hp : isP p) (h1 : B 31 a0) (h2 : B 31 a1) (h3 : B 31 b0) (h4 : B 31 b1) : spec_l01Plus.f K p a0 a1 b0 b1 = some ((a0 + b0) % p, (a1 + b1) % p) := by
  unfold spec_l01Plus.f
  simp (disch := exact Sm.of (by repeat' first | assumption | apply B.add | apply B.sub | apply B.mul | exact B.mod hp _ | exact B.const _) rfl) only [w_eq, mod_nice hp, Option.bind_some]
theorem specMinus_nice {K : Nat} {p a0 a1 b0 b1 : Int} (hp : isP p) (h1 : B 31 a0) (h2 : B 31 a1) (h3 : B 31 b0) (h4 : B 31 b1) : spec_l01Minus.f K p a0 a1 b0 b1 = some ((a0 - b0) % p, (a1 - b1) % p) := by
  unfold spec_l01Minus.f
  simp (disch := exact Sm.of (by repeat' first | assumption | apply B.add | apply B.sub | apply B.mul | exact B.mod hp _ | exact B.const _) rfl) only [w_eq, mod_nice hp, Option.bind_some]
theorem specTimes_nice {K : Nat} {p k a0 a1 : Int} (hp : isP p) (h0 : B 31 k) (h1 : B 31 a0) (h2 : B 31 a1) : spec_l01Times.f K p k a0 a1 = some ((k * a0) % p, (k * a1) % p) := by
  unfold spec_l01Times.f
  simp (disch := exact Sm.of (by repeat' first | assumption | apply B.add | apply B.sub | apply B.mul | exact B.mod hp _ | exact B.const _) rfl) only [w_eq, mod_nice hp, Option.bind_some]
theorem half_b {p : Int} (hp : isP p) : B 31 (half p) := ⟨by have := hp.lt; unfold half; omega⟩
theorem specMiddle_nice {K : Nat} {p a0 a1 b0 b1 : Int} (hp : isP p) (h1 : B 31 a0) (h2 : B 31 a1) (h3 : B 31 b0) (h4 : B 31 b1) : spec_l01Middle.f K p a0 a1 b0 b1 = some (mid p a0 b0, mid p a1 b1) := by
  have hpl := hp.lt
  have hh : wrap64 (Int.tdiv (wrap64 (p + 1)) 2) = half p := by
    rw [w_eq (x := p + 1) ⟨by omega⟩, Int.tdiv_eq_ediv_of_nonneg (by omega), w_eq ⟨by omega⟩]
    rfl
  unfold spec_l01Middle.f
  rw [specPlus_nice hp h1 h2 h3 h4, hh]
  simp only [Option.bind_some]
  rw [specTimes_nice hp (half_b hp) (B.mod hp _) (B.mod hp _)]
  simp only [Option.bind_some, Option.some.injEq, Prod.mk.injEq, mid]
  refine ⟨emod_ring hp fun n _ hn e => ?_, emod_ring hp fun n _ hn e => ?_⟩ <;> subst e <;> simp only [cst_add, cst_sub, cst_mul, cst_mod, cst_neg]
theorem mid_b {p x y : Int} (hp : isP p) : B 31 (mid p x y) := B.mod hp _
end Go.Proofs.YtccbmdpikalpfaaGreat
