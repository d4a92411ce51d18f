/- Plain laws of the comparison, the marking and the reading again of a row of numbers. -/
import Derived.Test.YtohpnbfgemngmaaM1
namespace Go.Proofs.Ytohpnbfgemngmaa
open Go Go.RowKit
set_option linter.unusedVariables false
set_option linter.unusedSimpArgs false
theorem eqI_l0 {K : Nat} (xs : List Int) (hl : xs.length ≤ 1000000) : ∀ (m k i : Nat), xs.length - i = m → m < k → i ≤ xs.length → laws_eqInt64S.l0 K xs xs k i = some true
  | 0, k + 1, i, hm, _, hi => by
    have : i = xs.length := by omega
    subst this
    simp [laws_eqInt64S.l0]
  | m + 1, k + 1, i, hm, hk, hi => by
    have hlt : i < xs.length := by omega
    rw [laws_eqInt64S.l0, if_pos (by simpa using hlt), idx_nat, List.getElem?_eq_getElem hlt, w_nat (by omega), eqI_l0 xs hl m k (i + 1) (by omega) (by omega) (by omega)]
    simp
theorem eqI_nice {K : Nat} (xs : List Int) (hl : xs.length ≤ 1000000) (hK : xs.length < K) : laws_eqInt64S.f K xs xs = some true := by
  unfold laws_eqInt64S.f
  rw [if_pos (by simp)]
  exact eqI_l0 xs hl xs.length K 0 rfl hK (Nat.zero_le _)
/-- The marks. -/
def mks (n : Nat) : List Int := (List.range n).map fun (i : Nat) => ((i + 1 : Nat) : Int)
theorem mks_len {n : Nat} : (mks n).length = n := by simp [mks]
theorem mks_succ {n : Nat} : mks (n + 1) = mks n ++ [((n + 1 : Nat) : Int)] := by simp [mks, List.range_succ]
theorem mks_get {n i : Nat} (h : i < n) : (mks n)[i]? = some ((i + 1 : Nat) : Int) := by simp [mks, h]
theorem markI_l0 {K : Nat} (xs : List Int) (hl : xs.length ≤ 1000000) : ∀ (m k i : Nat), xs.length - i = m → m < k → i ≤ xs.length → laws_markInt64S.l0 K xs k ((i + 1 : Nat) : Int) i (mks i ++ xs.drop i) = some (((xs.length + 1 : Nat) : Int), mks xs.length)
  | 0, k + 1, i, hm, _, hi => by
    have : i = xs.length := by omega
    subst this
    rw [laws_markInt64S.l0, if_neg (by simp)]
    simp
  | m + 1, k + 1, i, hm, hk, hi => by
    have hlt : i < xs.length := by omega
    have hg : (mks i ++ xs.drop i)[i]? = some xs[i] := by
      rw [List.getElem?_append_right (by rw [mks_len]; exact Nat.le_refl _), mks_len]
      simp [hlt]
    have hs : (mks i ++ xs.drop i).set i ((i + 1 : Nat) : Int) = mks (i + 1) ++ xs.drop (i + 1) := by
      rw [List.set_append_right _ _ (by rw [mks_len]; exact Nat.le_refl _), mks_len, Nat.sub_self, List.drop_eq_getElem_cons hlt, List.set_cons_zero, mks_succ]
      simp
    rw [laws_markInt64S.l0, if_pos (by simpa using hlt), idx_nat, hg]
    simp only [Option.bind_some, Int.toNat_natCast]
    rw [hs, w_nat (by omega), w_nat (by omega), markI_l0 xs hl m k (i + 1) (by omega) (by omega) (by omega)]
theorem markI_nice {K : Nat} (xs : List Int) (hl : xs.length ≤ 1000000) (hK : xs.length < K) : laws_markInt64S.f K xs 1 = some (((xs.length + 1 : Nat) : Int), mks xs.length) := by
  unfold laws_markInt64S.f
  have := markI_l0 (K := K) xs hl xs.length K 0 rfl hK (Nat.zero_le _)
  exact this
theorem heldI_l0 {K : Nat} (n : Nat) (hl : n ≤ 1000000) : ∀ (m k i : Nat), n - i = m → m < k → i ≤ n → laws_heldInt64S.l0 K (mks n) k ((i + 1 : Nat) : Int) i = some ((n + 1 : Nat) : Int)
  | 0, k + 1, i, hm, _, hi => by
    have : i = n := by omega
    subst this
    rw [laws_heldInt64S.l0, if_neg (by rw [mks_len]; simp)]
  | m + 1, k + 1, i, hm, hk, hi => by
    have hlt : i < n := by omega
    rw [laws_heldInt64S.l0, if_pos (by rw [mks_len]; simpa using hlt), idx_nat, mks_get hlt, w_nat (by omega), w_nat (by omega), heldI_l0 n hl m k (i + 1) (by omega) (by omega) (by omega)]
    simp
theorem heldI_nice {K : Nat} (n : Nat) (hl : n ≤ 1000000) (hK : n < K) : laws_heldInt64S.f K (mks n) 1 = some ((n + 1 : Nat) : Int) := by
  unfold laws_heldInt64S.f
  exact heldI_l0 n hl n K 0 rfl hK (Nat.zero_le _)
end Go.Proofs.Ytohpnbfgemngmaa
