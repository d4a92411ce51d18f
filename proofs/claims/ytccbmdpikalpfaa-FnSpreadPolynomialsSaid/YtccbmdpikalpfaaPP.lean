/- Plain laws: whether the values of a spread polynomial are a permutation. -/
import Derived.Test.YtccbmdpikalpfaaP3
namespace Go.Proofs.Ytccbmdpikalpfaa
open Go Go.RowKit
set_option linter.unusedVariables false
set_option linter.unusedSimpArgs false
theorem repl_eq {α : Type} {n : Nat} {x : α} : repl n x = List.replicate n x := rfl
/-! ### Permutations -/
theorem perm_same {K : Nat} (L : List Int) : ∀ (k : Nat) (i : Int) (met : List Bool), spec_IsPermutation.l0 K L k i met = impl_IsPermutation.l0 K L k i met
  | 0, i, met => rfl
  | k + 1, i, met => by
    rw [spec_IsPermutation.l0, impl_IsPermutation.l0]
    split
    · cases h1 : idx L i with
      | none => rfl
      | some v =>
        simp only [Option.bind_some]
        cases h2 : idx met v with
        | none => rfl
        | some b =>
          simp only [Option.bind_some, perm_same L k]
    · rfl
theorem perm_some {K : Nat} {p : Int} (hp : isP p) (L : List Int) (hL : ∀ x ∈ L, In p x) (hl : L.length ≤ 1000) : ∀ (m k i : Nat) (met : List Bool), L.length - i = m → m < k → i ≤ L.length → met.length = p.toNat → ∃ b, impl_IsPermutation.l0 K L k i met = some (b, 0)
  | 0, k + 1, i, met, hm, _, hi, _ => by
    rw [impl_IsPermutation.l0, if_neg (by simp; omega)]
    exact ⟨_, rfl⟩
  | m + 1, k + 1, i, met, hm, hk, hi, hmt => by
    have hlt : i < L.length := by omega
    have hx := (hL L[i] (List.getElem_mem hlt)).out
    obtain ⟨y, hy⟩ := Int.eq_ofNat_of_zero_le hx.1
    have hyl : y < met.length := by omega
    rw [impl_IsPermutation.l0, if_pos (by simpa using hlt), idx_nat, List.getElem?_eq_getElem hlt, w_nat (by omega)]
    simp only [Option.bind_some]
    rw [hy, idx_nat, List.getElem?_eq_getElem hyl]
    simp only [Option.bind_some]
    split
    · exact ⟨_, rfl⟩
    · exact perm_some hp L hL hl m k (i + 1) _ (by omega) (by omega) (by omega) (by rw [List.length_set]; exact hmt)
theorem askedP_nice {K : Nat} {p n : Int} : impl_asked__impl_IsPermutation_1.f K p n = some (codeI p n) := by
  unfold impl_asked__impl_IsPermutation_1.f impl_IsPermutation_1.f impl_isIndex.f
  rw [isField_nice]
  unfold codeI
  by_cases hp : isP p <;> by_cases hn : 0 ≤ n <;> by_cases hn2 : n ≤ 1000 <;> simp [hp, hn, hn2]
theorem both_perm {K : Nat} (hK : 5000 ≤ K) (p n : Int) : ∃ b e, impl_IsPermutation.f K p n = some (b, e) ∧ spec_IsPermutation.f K p n = some (b, e) := by
  have hK' : 100 ≤ K := by omega
  unfold spec_IsPermutation.f impl_IsPermutation.f
  rw [code5n_nice hK', askedP_nice]
  by_cases h : codeI p n = 0
  · obtain ⟨hp, h1, h2⟩ := codeI_zero h
    have hpl := hp.lt
    obtain ⟨m, rfl⟩ := Int.eq_ofNat_of_zero_le h1
    have e0 : (0 : Int) ≤ p := by omega
    have e1 : p ≤ 1000000 := by omega
    have hv : ∀ x ∈ vals p m, In p x := fun x hx => by
      obtain ⟨y, hy, rfl⟩ := List.mem_map.1 hx
      exact u_in hp (In.nat (List.mem_range.1 hy)) m
    obtain ⟨b, hb⟩ := perm_some (K := K) hp (vals p m) hv (by rw [vals_len]; omega) (vals p m).length K 0 (List.replicate p.toNat false) rfl (by rw [vals_len]; omega) (by omega) (by simp)
    simp only [Int.natCast_zero, Int.ofNat_zero] at hb
    refine ⟨b, 0, ?_, ?_⟩ <;> simp only [h, e0, e1, decide_true, Option.bind_some, beq_self_eq_true, if_true, specVals_nice hK' hp m (by omega) (by omega), implVals_nice hK' hp m (by omega) (by omega), perm_same, repl_eq, hb]
  · exact ⟨false, codeI p n, by simp [h], by simp [h]⟩
end Go.Proofs.Ytccbmdpikalpfaa
