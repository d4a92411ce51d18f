/- Plain laws: what the numbers drawn from a code are, and the contracts that the laws of triangles ask. -/
import Derived.Test.YtccbmdpikalpfaaV2
import Derived.Laws.BitsLemmas
namespace Go.Proofs.Ytccbmdpikalpfaa
open Go Go.RowKit
set_option linter.unusedVariables false
set_option linter.unusedSimpArgs false
/-! ### Draws -/
theorem mask_le (x : Int) : 0 ≤ bits .and .u64 (IntKind.u64.wrap x / 8589934592) 16777215 ∧ bits .and .u64 (IntKind.u64.wrap x / 8589934592) 16777215 ≤ 16777215 := by
  have hw : IntKind.u64.wrap x = x % 18446744073709551616 := by simp [IntKind.wrap, IntKind.bits, IntKind.signed]
  have h0 : 0 ≤ IntKind.u64.wrap x / 8589934592 := by rw [hw]; omega
  have h1 : IntKind.u64.wrap x / 8589934592 < 2 ^ 31 := by
    have e : (2 : Int) ^ 31 = 2147483648 := by decide
    rw [hw, e]
    omega
  have := bits_mask .u64 31 (by decide) (fun n a b => by
    have e : (2 : Int) ^ 31 = 2147483648 := by decide
    rw [e] at b
    have : IntKind.u64.wrap n = n % 18446744073709551616 := by simp [IntKind.wrap, IntKind.bits, IntKind.signed]
    omega) 24 (by decide) _ h0 h1
  have e : (2 : Int) ^ 24 = 16777216 := by decide
  rw [e, show (16777216 : Int) - 1 = 16777215 from rfl] at this
  rw [this]
  omega
theorem tmod_in {x n : Int} (hx : 0 ≤ x) (hn : 1 ≤ n) : 0 ≤ Int.tmod x n ∧ Int.tmod x n < n := ⟨Int.tmod_nonneg _ hx, Int.tmod_lt_of_pos x (by omega)⟩
/-! ### Contracts -/
theorem inB_mk {p x y : Int} (hx : In p x) (hy : In p y) : inB p (x, y) = true := by
  have := hx.out; have := hy.out
  simp only [inB, decide_eq_true_eq]
  omega
theorem inN_mk {p x : Int} (hx : In p x) : inN p x = true := decide_eq_true hx.out
theorem pQuadrance {K : Nat} (hK : 100 ≤ K) {p c x0 x1 y0 y1 : Int} (hp : isP p) (hc1 : 0 ≤ c) (hc2 : c ≤ 2) (a : In p x0) (b : In p x1) (d : In p y0) (e : In p y1) :
    impl_Quadrance.f K p c x0 x1 y0 y1 = some (quad c x0 x1 y0 y1 % p, 0) := by
  unfold impl_Quadrance.f impl_asked__impl_Quadrance_1.f impl_Quadrance_1.f
  have e1 := arePoints_nice (K := K) (p := p) [(x0, x1), (y0, y1)] (by simp) (by simp; omega)
  have e2 := implQuadrance_nice (K := K) (c := c) hp (a.b hp) (b.b hp) (d.b hp) (e.b hp)
  simp only [isField_nice, isColour_nice, e1, e2, Option.bind_some, decide_eq_true hp, if_true, decide_eq_true (show 0 ≤ c ∧ c ≤ 2 from ⟨hc1, hc2⟩), List.all_cons, List.all_nil, inB_mk a b, inB_mk d e, Bool.and_self, beq_self_eq_true]
theorem inv_one {p : Int} (hp : isP p) : inv p 1 = 1 := by
  have h3 := hp.lt
  have h := inv_mul (x := 1) hp ⟨by omega⟩ (by omega)
  rw [Int.one_mul, (inv_in (x := 1) hp ⟨by omega⟩).mod] at h
  exact h
theorem normal_one {p m n : Int} (hp : isP p) (hm : In p m) (hn : In p n) : normal p 1 m n = (1, m, n) := by
  have h3 := hp.lt
  have e : (1 : Int) % p = 1 := Int.emod_eq_of_lt (by omega) (by omega)
  unfold normal piv
  rw [if_neg (by omega), e, inv_one hp]
  simp only [Int.mul_one, e, hm.mod, hn.mod]
theorem one_ln {p m n : Int} (hp : isP p) (hm : In p m) (hn : In p n) : Ln p (1, m, n) := ⟨⟨by have := hp.lt; dsimp only; omega⟩, hm, hn, fun h => by
  have h3 := hp.lt
  have := h.1
  dsimp only at this
  rw [Int.emod_eq_of_lt (by omega) (by omega)] at this
  omega⟩
end Go.Proofs.Ytccbmdpikalpfaa
