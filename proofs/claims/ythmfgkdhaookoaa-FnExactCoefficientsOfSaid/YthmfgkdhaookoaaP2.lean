/- Plain laws of the values of a spread polynomial, of its zeros, and of the spreads of an order. -/
import Derived.Test.YthmfgkdhaookoaaI1
namespace Go.Proofs.Ythmfgkdhaookoaa
open Go Go.RowKit
set_option linter.unusedVariables false
set_option linter.unusedSimpArgs false
theorem In.nat {p : Int} {i : Nat} (h : i < p.toNat) : In p (i : Int) := ⟨by omega⟩
def vals (p : Int) (n : Nat) : List Int := (List.range p.toNat).map fun (s : Nat) => u p (s : Int) n
theorem vals_len {p : Int} {n : Nat} : (vals p n).length = p.toNat := by simp [vals]
theorem vals_get {p : Int} {n i : Nat} (h : i < p.toNat) : idx (vals p n) (i : Int) = some (u p (i : Int) n) := by
  rw [idx_nat]
  simp [vals, h]
/-! ### The checks -/
def codeI (p n : Int) : Int := if isP p then if 0 ≤ n ∧ n ≤ 1000 then 0 else 2 else 1
theorem codeI_zero {p n : Int} (h : codeI p n = 0) : isP p ∧ 0 ≤ n ∧ n ≤ 1000 := by
  unfold codeI at h
  split at h
  · split at h
    · exact ⟨by assumption, by assumption⟩
    · cases h
  · cases h
theorem code5n_nice {K : Nat} {p n : Int} (hK : 100 ≤ K) : spec_l05Code.f K p n [] = some (codeI p n) := by
  unfold spec_l05Code.f
  rw [numbers_nice [] (by simp) (by simp; omega), in_nice]
  unfold codeI
  by_cases hp : isP p <;> by_cases hn : 0 ≤ n ∧ n ≤ 1000 <;> simp [hp, hn]
/-- The numbers below p that pass a test. -/
def sel (p : Int) (Q : Nat → Bool) : List Int := ((List.range p.toNat).filter Q).map fun (s : Nat) => (s : Int)
theorem sel_len {p : Int} (hp : isP p) {Q : Nat → Bool} : (sel p Q).length ≤ 31 := by
  have := hp.lt
  have := List.length_filter_le Q (List.range p.toNat)
  simp only [sel, List.length_map, List.length_range] at *
  omega
end Go.Proofs.Ythmfgkdhaookoaa
