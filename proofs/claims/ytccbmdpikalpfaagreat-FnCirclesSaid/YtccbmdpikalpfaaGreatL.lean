/- Plain arithmetic: bounds, remainders, and the passage to the ring of remainders. -/
import Derived.Test.YtccbmdpikalpfaaGreatK
namespace Go.Proofs.YtccbmdpikalpfaaGreat
open Go Go.RowKit
/-- The size of a number. -/
structure B (n : Nat) (x : Int) : Prop where mk :: (out : -(n : Int) ≤ x ∧ x ≤ n)
theorem B.add {m n : Nat} {x y : Int} (h : B m x) (k : B n y) : B (m + n) (x + y) := ⟨by have := h.out; have := k.out; omega⟩
theorem B.sub {m n : Nat} {x y : Int} (h : B m x) (k : B n y) : B (m + n) (x - y) := ⟨by have := h.out; have := k.out; omega⟩
theorem B.neg {m : Nat} {x : Int} (h : B m x) : B m (-x) := ⟨by have := h.out; omega⟩
theorem B.mul {m n : Nat} {x y : Int} (h : B m x) (k : B n y) : B (m * n) (x * y) := by
  obtain ⟨h1, h2⟩ := h.out
  obtain ⟨k1, k2⟩ := k.out
  have h3 : x.natAbs ≤ m := by omega
  have k3 : y.natAbs ≤ n := by omega
  have := Nat.mul_le_mul h3 k3
  rw [← Int.natAbs_mul] at this
  exact ⟨by omega⟩
theorem B.const (x : Int) : B x.natAbs x := ⟨by omega⟩
theorem B.le {m n : Nat} {x : Int} (h : B m x) (k : m ≤ n) : B n x := ⟨by have := h.out; omega⟩
structure Sm (x : Int) : Prop where mk :: (out : -9223372036854775808 ≤ x ∧ x < 9223372036854775808)
theorem Sm.of {n : Nat} {x : Int} (h : B n x) (k : decide (n ≤ 9223372036854775807) = true) : Sm x := ⟨by have := h.out; have := of_decide_eq_true k; omega⟩
theorem w_eq {x : Int} (h : Sm x) : wrap64 x = x := by have := h.out; unfold wrap64; omega

/-- The primes that serve. -/
def isP (p : Int) : Prop := p = 3 ∨ p = 5 ∨ p = 7 ∨ p = 11 ∨ p = 13 ∨ p = 17 ∨ p = 19 ∨ p = 23 ∨ p = 29 ∨ p = 31
instance (p : Int) : Decidable (isP p) := by unfold isP; infer_instance
theorem isP.lt {p : Int} (h : isP p) : 3 ≤ p ∧ p ≤ 31 := by unfold isP at h; omega
theorem B.p {p : Int} (h : isP p) : B 31 p := ⟨by have := h.lt; omega⟩
theorem B.mod {p : Int} (h : isP p) (x : Int) : B 31 (x % p) := ⟨by have := h.lt; have := Int.emod_nonneg x (show p ≠ 0 by omega); have := Int.emod_lt_of_pos x (show 0 < p by omega); omega⟩
theorem B.tmod {p : Int} (h : isP p) (x : Int) : B 31 (Int.tmod x p) := ⟨by
  have := h.lt
  have h1 := Int.tmod_lt_of_pos x (show 0 < p by omega)
  have h2 : -p < Int.tmod x p := by
    have := Int.tmod_lt_of_pos (-x) (show 0 < p by omega)
    rw [Int.neg_tmod] at this
    omega
  omega⟩
theorem rest_eq {p : Int} (h : isP p) (x : Int) : Int.tmod (Int.tmod x p + p) p = x % p := by
  have hp := h.lt
  have h1 := Int.tmod_lt_of_pos x (show 0 < p by omega)
  have h2 : -p < Int.tmod x p := by
    have := Int.tmod_lt_of_pos (-x) (show 0 < p by omega)
    rw [Int.neg_tmod] at this
    omega
  rw [Int.tmod_eq_emod_of_nonneg (by omega), Int.add_emod_right]
  have h3 := Int.tmod_add_mul_tdiv x p
  have h4 : Int.tmod x p = x + p * (-(x.tdiv p)) := by rw [Int.mul_neg]; omega
  rw [h4, Int.add_mul_emod_self_left]
/-- In range. -/
structure In (p x : Int) : Prop where mk :: (out : 0 ≤ x ∧ x < p)
theorem In.b {p x : Int} (h : In p x) (hp : isP p) : B 31 x := ⟨by have := h.out; have := hp.lt; omega⟩
theorem In.mod {p x : Int} (h : In p x) : x % p = x := Int.emod_eq_of_lt h.out.1 h.out.2
theorem mod_in {p : Int} (hp : isP p) (x : Int) : In p (x % p) := ⟨⟨Int.emod_nonneg x (by have := hp.lt; omega), Int.emod_lt_of_pos x (by have := hp.lt; omega)⟩⟩

/-! ### The ring of remainders -/
def cst (n : Nat) [NeZero n] (x : Int) : Fin n := ⟨(x % n).toNat, by
  have h0 : (0 : Int) < n := by have := Nat.pos_of_neZero n; omega
  have := Int.emod_nonneg x (Int.ne_of_gt h0)
  have := Int.emod_lt_of_pos x h0
  omega⟩
section
variable {n : Nat} [NeZero n]
theorem cst_val (x : Int) : ((cst n x).val : Int) = x % n := by
  have h0 : (0 : Int) < n := by have := Nat.pos_of_neZero n; omega
  have := Int.emod_nonneg x (Int.ne_of_gt h0)
  simp only [cst]
  omega
theorem cst_eq {x y : Int} : cst n x = cst n y ↔ x % n = y % n := by
  constructor
  · intro h
    rw [← cst_val, ← cst_val, h]
  · intro h
    apply Fin.ext
    have := cst_val (n := n) x
    have := cst_val (n := n) y
    omega
theorem cst_add (x y : Int) : cst n (x + y) = cst n x + cst n y := by
  apply Fin.ext
  have h : (((cst n x + cst n y).val : Nat) : Int) = (x + y) % n := by
    rw [Fin.val_add, Int.natCast_emod, Int.natCast_add, cst_val, cst_val, ← Int.add_emod]
  have := cst_val (n := n) (x + y)
  omega
theorem cst_mul (x y : Int) : cst n (x * y) = cst n x * cst n y := by
  apply Fin.ext
  have h : (((cst n x * cst n y).val : Nat) : Int) = (x * y) % n := by
    rw [Fin.val_mul, Int.natCast_emod, Int.natCast_mul, cst_val, cst_val, ← Int.mul_emod]
  have := cst_val (n := n) (x * y)
  omega
theorem cst_zero : cst n 0 = 0 := by
  apply Fin.ext
  have := cst_val (n := n) 0
  simp at this
  simpa using this
theorem cst_neg (x : Int) : cst n (-x) = -cst n x := by
  have h : cst n (-x) + cst n x = 0 := by rw [← cst_add, show -x + x = 0 by omega, cst_zero]
  grind
theorem cst_sub (x y : Int) : cst n (x - y) = cst n x - cst n y := by
  have h : cst n (x - y) + cst n y = cst n x := by rw [← cst_add, show x - y + y = x by omega]
  grind
theorem cst_mod (x : Int) : cst n (x % n) = cst n x := by
  rw [cst_eq, Int.emod_emod]
theorem cst_one (h : 1 < n) : cst n 1 = 1 := by
  apply Fin.ext
  have := cst_val (n := n) 1
  rw [Int.emod_eq_of_lt (by omega) (by omega)] at this
  have h2 : ((1 : Fin n).val) = 1 % n := rfl
  rw [h2, Nat.mod_eq_of_lt h]
  omega
theorem cst_two (h : 2 < n) : cst n 2 = 2 := by
  have : (2 : Int) = 1 + 1 := rfl
  rw [this, cst_add, cst_one (by omega)]
  grind
theorem emod_ring {p x y : Int} (hp : isP p) (h : ∀ (n : Nat) [NeZero n], 2 < n → p = n → cst n x = cst n y) : x % p = y % p := by
  have h3 := hp.lt
  obtain ⟨m, rfl⟩ := Int.eq_ofNat_of_zero_le (show 0 ≤ p by omega)
  have : NeZero m := ⟨by omega⟩
  exact cst_eq.1 (h m (by omega) rfl)
end
end Go.Proofs.YtccbmdpikalpfaaGreat
