/- Plain laws of the values of a spread polynomial, of its zeros, and of the spreads of an order. -/
import Derived.Test.YtccbmdpikalpfaaI1
namespace Go.Proofs.Ytccbmdpikalpfaa
open Go Go.RowKit
set_option linter.unusedVariables false
set_option linter.unusedSimpArgs false
theorem In.nat {p : Int} {i : Nat} (h : i < p.toNat) : In p (i : Int) := ⟨by omega⟩
def vals (p : Int) (n : Nat) : List Int := (List.range p.toNat).map fun (s : Nat) => u p (s : Int) n
theorem vals_len {p : Int} {n : Nat} : (vals p n).length = p.toNat := by simp [vals]
theorem vals_get {p : Int} {n i : Nat} (h : i < p.toNat) : idx (vals p n) (i : Int) = some (u p (i : Int) n) := by
  rw [idx_nat]
  simp [vals, h]
theorem specVals_l0 {K : Nat} {p : Int} (hp : isP p) (n : Nat) (hn : n < K) (hn2 : n ≤ 1000000) : ∀ (m k i : Nat) (acc : List Int), p.toNat - i = m → m < k → i ≤ p.toNat → acc.length ≤ i →
    spec_l05Values.l0 K p n k i acc = some (acc ++ (List.range' i m).map fun (s : Nat) => u p (s : Int) n)
  | 0, k + 1, i, acc, hm, _, hi, _ => by
    have := hp.lt
    rw [spec_l05Values.l0, if_neg (by simp; omega)]
    simp
  | m + 1, k + 1, i, acc, hm, hk, hi, hl => by
    have := hp.lt
    rw [spec_l05Values.l0, if_pos (by simp; omega), specValue_nice hp (In.nat (by omega)) n hn hn2, w_nat (by omega)]
    simp only [Option.bind_some]
    rw [if_pos (by simp; omega), specVals_l0 hp n hn hn2 m k (i + 1) _ (by omega) (by omega) (by omega) (by simp; omega)]
    simp [List.range'_succ]
theorem specVals_nice {K : Nat} (hK : 100 ≤ K) {p : Int} (hp : isP p) (n : Nat) (hn : n < K) (hn2 : n ≤ 1000000) : spec_l05Values.f K p n = some (vals p n) := by
  have := hp.lt
  unfold spec_l05Values.f vals
  have := specVals_l0 (K := K) hp n hn hn2 p.toNat K 0 [] (by omega) (by omega) (by omega) (by simp)
  rw [List.range_eq_range']
  exact this
theorem implVals_l0 {K : Nat} {p : Int} (hp : isP p) (n : Nat) (hn : n < K) (hn2 : n ≤ 100000) : ∀ (m k i : Nat) (acc : List Int), p.toNat - i = m → m < k → i ≤ p.toNat → acc.length ≤ i →
    impl_valuesOf.l0 K p n k i acc = some (acc ++ (List.range' i m).map fun (s : Nat) => u p (s : Int) n)
  | 0, k + 1, i, acc, hm, _, hi, _ => by
    have := hp.lt
    rw [impl_valuesOf.l0, if_neg (by simp; omega)]
    simp
  | m + 1, k + 1, i, acc, hm, hk, hi, hl => by
    have := hp.lt
    rw [impl_valuesOf.l0, if_pos (by simp; omega), spreadOf_nice hp (In.nat (by omega)) n hn2 hn, w_nat (by omega)]
    simp only [Option.bind_some]
    rw [if_pos (by simp; omega), implVals_l0 hp n hn hn2 m k (i + 1) _ (by omega) (by omega) (by omega) (by simp; omega)]
    simp [List.range'_succ]
theorem implVals_nice {K : Nat} (hK : 100 ≤ K) {p : Int} (hp : isP p) (n : Nat) (hn : n < K) (hn2 : n ≤ 100000) : impl_valuesOf.f K p n = some (vals p n) := by
  have := hp.lt
  unfold impl_valuesOf.f vals
  have := implVals_l0 (K := K) hp n hn hn2 p.toNat K 0 [] (by omega) (by omega) (by omega) (by simp)
  rw [List.range_eq_range']
  exact this
/-! ### The checks -/
def codeI (p n : Int) : Int := if isP p then if 0 ≤ n ∧ n ≤ 1000 then 0 else 2 else 1
theorem codeI_zero {p n : Int} (h : codeI p n = 0) : isP p ∧ 0 ≤ n ∧ n ≤ 1000 := by
  unfold codeI at h
  split at h
  · split at h
    · exact ⟨by assumption, by assumption⟩
    · cases h
  · cases h
theorem code5n_nice {K : Nat} {p n : Int} (hK : 100 ≤ K) : spec_l05Code.f K p n [] = some (codeI p n) := by
  unfold spec_l05Code.f
  rw [numbers_nice [] (by simp) (by simp; omega), in_nice]
  unfold codeI
  by_cases hp : isP p <;> by_cases hn : 0 ≤ n ∧ n ≤ 1000 <;> simp [hp, hn]
theorem askedV_nice {K : Nat} {p n : Int} : impl_asked__impl_ValuesOf_1.f K p n = some (codeI p n) := by
  unfold impl_asked__impl_ValuesOf_1.f impl_ValuesOf_1.f impl_isIndex.f
  rw [isField_nice]
  unfold codeI
  by_cases hp : isP p <;> by_cases hn : 0 ≤ n <;> by_cases hn2 : n ≤ 1000 <;> simp [hp, hn, hn2]
/-- The numbers below p that pass a test. -/
def sel (p : Int) (Q : Nat → Bool) : List Int := ((List.range p.toNat).filter Q).map fun (s : Nat) => (s : Int)
theorem sel_len {p : Int} (hp : isP p) {Q : Nat → Bool} : (sel p Q).length ≤ 31 := by
  have := hp.lt
  have := List.length_filter_le Q (List.range p.toNat)
  simp only [sel, List.length_map, List.length_range] at *
  omega
end Go.Proofs.Ytccbmdpikalpfaa
