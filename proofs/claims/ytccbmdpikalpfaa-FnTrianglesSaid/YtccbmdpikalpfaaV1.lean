/- Plain laws of moves: the check of the arguments, moved points, products, fixed points, inverses. -/
import Derived.Test.YtccbmdpikalpfaaM8
namespace Go.Proofs.Ytccbmdpikalpfaa
open Go Go.RowKit
set_option linter.unusedVariables false
set_option linter.unusedSimpArgs false
def inN (p x : Int) : Bool := decide (0 ≤ x ∧ x < p)
theorem inN_in {p x : Int} (h : inN p x = true) : In p x := ⟨of_decide_eq_true h⟩
theorem number_nice {K : Nat} {p x : Int} (hp : isP p) : spec_l01In.f K x 0 (wrap64 (p - 1)) = some (inN p x) := by
  have := hp.lt
  rw [w_eq (Sm.of ((B.p hp).sub (B.const 1)) rfl), in_nice]
  unfold inN
  exact congrArg some (decide_eq_decide.2 (by omega))
theorem isNumber_nice {K : Nat} {p x : Int} : impl_isNumber.f K p x = some (inN p x) := by
  unfold impl_isNumber.f inN
  by_cases h : 0 ≤ x <;> simp [h]
/-- A map: four numbers and a point. -/
def inM (p a b c d e f : Int) : Bool := inN p a && inN p b && inN p c && inN p d && inB p (e, f)
structure MB (p a b c d e f : Int) : Prop where
  a : In p a
  b : In p b
  c : In p c
  d : In p d
  e : In p e
  f : In p f
theorem inM_in {p a b c d e f : Int} (h : inM p a b c d e f = true) : MB p a b c d e f := by
  unfold inM at h
  simp only [Bool.and_eq_true] at h
  exact ⟨inN_in h.1.1.1.1, inN_in h.1.1.1.2, inN_in h.1.1.2, inN_in h.1.2, (inB_in h.2).1, (inB_in h.2).2⟩
/-! ### Moved points -/
def lead (p a b c d x y : Int) : Int × Int := ((a * x + b * y) % p, (c * x + d * y) % p)
def mv (p a b c d e f x y : Int) : Int × Int := ((a * x + b * y + e) % p, (c * x + d * y + f) % p)
theorem add_mod' {p x y : Int} : (x % p + y) % p = (x + y) % p := by rw [Int.emod_add_emod]
/-! ### Moves that keep quadrances -/
theorem thr {c : Int} (h1 : 0 ≤ c) (h2 : c ≤ 2) : c = 0 ∨ c = 1 ∨ c = 2 := by omega
/-- The first column, the second column, and both. -/
def goodB (p k a b c d : Int) : Bool :=
  prod k a c a c % p == prod k 1 0 1 0 % p && (prod k b d b d % p == prod k 0 1 0 1 % p && prod k a c b d % p == prod k 1 0 0 1 % p)
theorem prod_mod {p k x y z w x' y' z' w' : Int} (hp : isP p) (h1 : x' % p = x % p) (h2 : y' % p = y % p) (h3 : z' % p = z % p) (h4 : w' % p = w % p) : prod k x' y' z' w' % p = prod k x y z w % p := emod_ring hp fun n _ hn e => by
  subst e
  rw [← cst_eq] at h1 h2 h3 h4
  unfold prod
  split
  · simp only [cst_add, cst_sub, cst_mul, h1, h2, h3, h4]
  · split <;> simp only [cst_add, cst_sub, cst_mul, h1, h2, h3, h4]
theorem keeps_third {p k a b c d : Int} (hp : isP p) (hk1 : 0 ≤ k) (hk2 : k ≤ 2) (e1 : prod k a c a c % p = prod k 1 0 1 0 % p) (e2 : prod k b d b d % p = prod k 0 1 0 1 % p) : (prod k 1 1 1 1 % p == prod k (a + b) (c + d) (a + b) (c + d) % p) = (prod k a c b d % p == prod k 1 0 0 1 % p) := by
  have hpl := hp.lt
  obtain ⟨n, hn⟩ := Int.eq_ofNat_of_zero_le (show 0 ≤ p by omega)
  have : NeZero n := ⟨by omega⟩
  have hn2 : 2 < n := by omega
  rw [hn, ← cst_eq] at e1 e2
  rw [Bool.eq_iff_iff, beq_iff_eq, beq_iff_eq, hn, ← cst_eq, ← cst_eq]
  have key : cst n (prod k (a + b) (c + d) (a + b) (c + d)) - cst n (prod k 1 1 1 1) = 2 * (cst n (prod k a c b d) - cst n (prod k 1 0 0 1)) + (cst n (prod k a c a c) - cst n (prod k 1 0 1 0)) + (cst n (prod k b d b d) - cst n (prod k 0 1 0 1)) := by
    rcases thr hk1 hk2 with rfl | rfl | rfl <;> simp only [prod, if_true, if_false, show ¬ (0 : Int) = 1 by decide, show ¬ (0 : Int) = 2 by decide, show ¬ (1 : Int) = 0 by decide, show ¬ (1 : Int) = 2 by decide, show ¬ (2 : Int) = 0 by decide, show ¬ (2 : Int) = 1 by decide, cst_add, cst_sub, cst_mul, cst_zero, cst_one (show 1 < n by omega)] <;> grind
  constructor
  · intro e
    have : cst n (prod k a c b d) - cst n (prod k 1 0 0 1) = 0 := two_zero hp hn2 hn (by rw [e1, e2, ← e] at key; grind)
    grind
  · intro e
    rw [e, e1, e2] at key
    grind
/-- What the check says of a colour and a move. -/
def codeM (p k a b c d e f : Int) : Int := if isP p then if inM p a b c d e f then if 0 ≤ k ∧ k ≤ 2 then if goodB p k a b c d then 0 else 5 else 2 else 2 else 1
theorem codeM_zero {p k a b c d e f : Int} (h : codeM p k a b c d e f = 0) : isP p ∧ MB p a b c d e f ∧ 0 ≤ k ∧ k ≤ 2 ∧ goodB p k a b c d = true := by
  unfold codeM at h
  split at h
  · split at h
    · split at h
      · split at h
        · exact ⟨by assumption, inM_in (by assumption), (by assumption : 0 ≤ k ∧ k ≤ 2).1, (by assumption : 0 ≤ k ∧ k ≤ 2).2, by assumption⟩
        · cases h
      · cases h
    · cases h
  · cases h
/-! ### Products -/
/-! ### Fixed points -/
def fixB (p a b c d e f : Int) (x : Int × Int) : Bool := (mv p a b c d e f x.1 x.2).1 == x.1 && (mv p a b c d e f x.1 x.2).2 == x.2
theorem pts_small {p : Int} (hp : isP p) : (allPts p).length ≤ 961 := by
  have hpl := hp.lt
  rw [allPts_len]
  exact Nat.mul_le_mul (show p.toNat ≤ 31 by omega) (show p.toNat ≤ 31 by omega)
theorem pts_bd {p : Int} (hp : isP p) : ∀ x ∈ allPts p, B 31 x.1 ∧ B 31 x.2 := fun x hx => ⟨((mem_allPts hp).1 hx).1.b hp, ((mem_allPts hp).1 hx).2.b hp⟩
def ansF (p a b c d e f : Int) : List (Int × Int) × Int := if isP p then if inM p a b c d e f then ((allPts p).filter (fixB p a b c d e f), 0) else ([], 2) else ([], 1)
theorem ansF_len {p a b c d e f : Int} : (ansF p a b c d e f).1.length ≤ 2000 := by
  unfold ansF
  split
  · split
    · exact Nat.le_trans (List.length_filter_le _ _) (Nat.le_trans (pts_small (by assumption)) (by omega))
    · simp
  · simp
/-! ### The inverse of a move -/
def detM (p a b c d : Int) : Int := (a * d - b * c) % p
theorem det_sq {p k a b c d : Int} (hp : isP p) (hk1 : 0 ≤ k) (hk2 : k ≤ 2) (h : goodB p k a b c d = true) (n : Nat) [NeZero n] (hn : 2 < n) (e : p = n) : cst n (detM p a b c d) * cst n (detM p a b c d) = 1 := by
  unfold goodB at h
  simp only [Bool.and_eq_true, beq_iff_eq] at h
  obtain ⟨e1, e2, e3⟩ := h
  rw [e, ← cst_eq] at e1 e2 e3
  unfold detM
  rw [e, cst_mod]
  rcases thr hk1 hk2 with rfl | rfl | rfl <;> simp only [prod, if_true, if_false, show ¬ (0 : Int) = 1 by decide, show ¬ (0 : Int) = 2 by decide, show ¬ (1 : Int) = 0 by decide, show ¬ (1 : Int) = 2 by decide, show ¬ (2 : Int) = 0 by decide, show ¬ (2 : Int) = 1 by decide, cst_add, cst_sub, cst_mul, cst_zero, cst_one (show 1 < n by omega)] at e1 e2 e3 ⊢
  · have : (cst n a * cst n d - cst n b * cst n c) * (cst n a * cst n d - cst n b * cst n c) = (cst n a * cst n a + cst n c * cst n c) * (cst n b * cst n b + cst n d * cst n d) - (cst n a * cst n b + cst n c * cst n d) * (cst n a * cst n b + cst n c * cst n d) := by grind
    rw [this, e1, e2, e3]
    grind
  · have : (cst n a * cst n d - cst n b * cst n c) * (cst n a * cst n d - cst n b * cst n c) = (cst n a * cst n b - cst n c * cst n d) * (cst n a * cst n b - cst n c * cst n d) - (cst n a * cst n a - cst n c * cst n c) * (cst n b * cst n b - cst n d * cst n d) := by grind
    rw [this, e1, e2, e3]
    grind
  · have : (cst n a * cst n d - cst n b * cst n c) * (cst n a * cst n d - cst n b * cst n c) = (cst n a * cst n d + cst n c * cst n b) * (cst n a * cst n d + cst n c * cst n b) - (cst n a * cst n c + cst n c * cst n a) * (cst n b * cst n d + cst n d * cst n b) := by
      grind
    rw [this, e1, e2, e3]
    grind
theorem det_inv {p k a b c d : Int} (hp : isP p) (hk1 : 0 ≤ k) (hk2 : k ≤ 2) (h : goodB p k a b c d = true) : inv p (detM p a b c d) = detM p a b c d := by
  have hpl := hp.lt
  obtain ⟨n, hn⟩ := Int.eq_ofNat_of_zero_le (show 0 ≤ p by omega)
  have : NeZero n := ⟨by omega⟩
  have hn2 : 2 < n := by omega
  have hi : In p (detM p a b c d) := mod_in hp _
  have hs := det_sq hp hk1 hk2 h n hn2 hn
  have hne : detM p a b c d % p ≠ 0 := by
    rw [hn, ne_eq, ← cst_z, ← hn]
    intro e
    rw [e] at hs
    have h1 : cst n (1 : Int) = 0 := by rw [cst_one (by omega)]; grind
    rw [cst_z, Int.emod_eq_of_lt (by omega) (by omega)] at h1
    omega
  have hv := inv_cst hp hne n hn2 hn
  rw [hi.mod] at hv
  have he : cst n (inv p (detM p a b c d)) = cst n (detM p a b c d) := by
    generalize cst n (detM p a b c d) = x at *
    generalize cst n (inv p (detM p a b c d)) = y at *
    have : y * (x * x) = y * 1 := by rw [hs]
    have : x * (x * y) = x * 1 := by rw [hv]
    grind
  rw [cst_eq, ← hn, (inv_in hp hi).mod, hi.mod] at he
  exact he
end Go.Proofs.Ytccbmdpikalpfaa
