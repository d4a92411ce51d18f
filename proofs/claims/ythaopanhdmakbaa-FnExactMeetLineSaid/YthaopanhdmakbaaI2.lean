/- Plain laws of the comparison, the marking and the reading again of a row of points. -/
import Derived.Test.YthaopanhdmakbaaM6
namespace Go.Proofs.Ythaopanhdmakbaa
open Go Go.RowKit
set_option linter.unusedVariables false
set_option linter.unusedSimpArgs false
theorem eqP_l0 {K : Nat} (xs : List (Int × Int)) (hl : xs.length ≤ 1000000) : ∀ (m k i : Nat), xs.length - i = m → m < k → i ≤ xs.length → laws_eqPointS.l0 K xs xs k i = some true
  | 0, k + 1, i, hm, _, hi => by
    have : i = xs.length := by omega
    subst this
    simp [laws_eqPointS.l0]
  | m + 1, k + 1, i, hm, hk, hi => by
    have hlt : i < xs.length := by omega
    rw [laws_eqPointS.l0, if_pos (by simpa using hlt), idx_nat, List.getElem?_eq_getElem hlt, w_nat (by omega), eqP_l0 xs hl m k (i + 1) (by omega) (by omega) (by omega)]
    simp only [Option.bind_some, eqPoint_nice, if_true]
theorem eqP_nice {K : Nat} (xs : List (Int × Int)) (hl : xs.length ≤ 1000000) (hK : xs.length < K) : laws_eqPointS.f K xs xs = some true := by
  unfold laws_eqPointS.f
  rw [if_pos (by simp)]
  exact eqP_l0 xs hl xs.length K 0 rfl hK (Nat.zero_le _)
def mkP (n : Nat) : List (Int × Int) := (List.range n).map fun (i : Nat) => (((1 + 2 * i : Nat) : Int), ((1 + 2 * i + 1 : Nat) : Int))
theorem mkP_len {n : Nat} : (mkP n).length = n := by simp [mkP]
theorem mkP_succ {n : Nat} : mkP (n + 1) = mkP n ++ [(((1 + 2 * n : Nat) : Int), ((1 + 2 * n + 1 : Nat) : Int))] := by simp [mkP, List.range_succ]
theorem mkP_get {n i : Nat} (h : i < n) : (mkP n)[i]? = some (((1 + 2 * i : Nat) : Int), ((1 + 2 * i + 1 : Nat) : Int)) := by simp [mkP, h]
theorem markP_l0 {K : Nat} (xs : List (Int × Int)) (hl : xs.length ≤ 1000000) : ∀ (m k i : Nat), xs.length - i = m → m < k → i ≤ xs.length → laws_markPointS.l0 K xs k ((1 + 2 * i : Nat) : Int) i (mkP i ++ xs.drop i) = some (((1 + 2 * xs.length : Nat) : Int), mkP xs.length)
  | 0, k + 1, i, hm, _, hi => by
    have : i = xs.length := by omega
    subst this
    rw [laws_markPointS.l0, if_neg (by simp)]
    simp
  | m + 1, k + 1, i, hm, hk, hi => by
    have hlt : i < xs.length := by omega
    have hlen : i < (mkP i ++ xs.drop i).length := by simp [mkP_len]; omega
    have hg : (mkP i ++ xs.drop i)[i]? = some xs[i] := by
      rw [List.getElem?_append_right (by rw [mkP_len]; exact Nat.le_refl _), mkP_len]
      simp [hlt]
    have hs' : ∀ v, (mkP i ++ xs.drop i).set i v = mkP i ++ v :: xs.drop (i + 1) := fun v => by
      rw [List.set_append_right _ _ (by rw [mkP_len]; exact Nat.le_refl _), mkP_len, Nat.sub_self, List.drop_eq_getElem_cons hlt, List.set_cons_zero]
    have hg2 : ∀ v : Int × Int, (mkP i ++ v :: xs.drop (i + 1))[i]? = some v := fun v => by
      rw [List.getElem?_append_right (by rw [mkP_len]; exact Nat.le_refl _), mkP_len]
      simp
    have hs2 : ∀ v w : Int × Int, (mkP i ++ v :: xs.drop (i + 1)).set i w = mkP i ++ w :: xs.drop (i + 1) := fun v w => by
      rw [List.set_append_right _ _ (by rw [mkP_len]; exact Nat.le_refl _), mkP_len, Nat.sub_self, List.set_cons_zero]
    rw [laws_markPointS.l0, if_pos (by simpa using hlt), idx_nat, hg]
    simp only [Option.bind_some, Int.toNat_natCast]
    rw [hs', idx_nat, hg2]
    simp only [Option.bind_some, Int.toNat_natCast]
    rw [hs2, w_nat (by omega), w_nat (by omega), w_nat (by omega)]
    have := markP_l0 (K := K) xs hl m k (i + 1) (by omega) (by omega) (by omega)
    rw [mkP_succ, List.append_assoc, show 1 + 2 * (i + 1) = 1 + 2 * i + 1 + 1 by omega] at this
    exact this
theorem markP_nice {K : Nat} (xs : List (Int × Int)) (hl : xs.length ≤ 1000000) (hK : xs.length < K) : laws_markPointS.f K xs 1 = some (((1 + 2 * xs.length : Nat) : Int), mkP xs.length) := by
  unfold laws_markPointS.f
  have := markP_l0 (K := K) xs hl xs.length K 0 rfl hK (Nat.zero_le _)
  exact this
theorem heldP_step {K k n i : Nat} (hl : n ≤ 1000000) (hlt : i < n) : laws_heldPointS.l0 K (mkP n) (k + 1) ((1 + 2 * i : Nat) : Int) i = laws_heldPointS.l0 K (mkP n) k ((1 + 2 * (i + 1) : Nat) : Int) ((i + 1 : Nat) : Int) := by
  have e : ((1 + 2 * (i + 1) : Nat) : Int) = ((1 + 2 * i + 1 + 1 : Nat) : Int) := by omega
  rw [laws_heldPointS.l0, if_pos (by rw [mkP_len]; simpa using hlt), idx_nat, mkP_get hlt, e, w_nat (show 1 + 2 * i ≤ 1000000000 by omega), w_nat (show 1 + 2 * i + 1 ≤ 1000000000 by omega), w_nat (show i ≤ 1000000000 by omega)]
  simp only [Option.bind_some, beq_self_eq_true, if_true]
theorem heldP_end {K k n : Nat} {x : Int} : laws_heldPointS.l0 K (mkP n) (k + 1) x n = some x := by
  rw [laws_heldPointS.l0, if_neg (by rw [mkP_len]; simp)]
theorem heldP_l0 {K : Nat} (n : Nat) (hl : n ≤ 1000000) (m : Nat) : ∀ (k i : Nat), n - i = m → m < k → i ≤ n → laws_heldPointS.l0 K (mkP n) k ((1 + 2 * i : Nat) : Int) i = some ((1 + 2 * n : Nat) : Int) := by
  induction m with
  | zero =>
    intro k i hm hk hi
    obtain ⟨k, rfl⟩ : ∃ q, k = q + 1 := ⟨k - 1, by omega⟩
    obtain rfl : i = n := by omega
    exact heldP_end
  | succ m ih =>
    intro k i hm hk hi
    obtain ⟨k, rfl⟩ : ∃ q, k = q + 1 := ⟨k - 1, by omega⟩
    rw [heldP_step hl (by omega)]
    exact ih k (i + 1) (by omega) (by omega) (by omega)
theorem heldP_nice {K : Nat} (n : Nat) (hl : n ≤ 1000000) (hK : n < K) : laws_heldPointS.f K (mkP n) 1 = some ((1 + 2 * n : Nat) : Int) := by
  unfold laws_heldPointS.f
  exact heldP_l0 n hl n K 0 rfl hK (Nat.zero_le _)
end Go.Proofs.Ythaopanhdmakbaa
