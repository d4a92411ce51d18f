/- Tangents from a point: the statement's law: two rows of lines compared, marked and read again. -/
import Derived.Test.YtgboaomjahceiaaG2
namespace Go.Proofs.Ytgboaomjahceiaa
open Go Go.RowKit
set_option linter.unusedVariables false
set_option linter.unusedSimpArgs false
theorem eqL_l0 {K : Nat} (xs : List (Int × Int × Int)) (hl : xs.length ≤ 1000000) : ∀ (m k i : Nat), xs.length - i = m → m < k → i ≤ xs.length → laws_eqLineS.l0 K xs xs k i = some true
  | 0, k + 1, i, hm, _, hi => by
    have : i = xs.length := by omega
    subst this
    simp [laws_eqLineS.l0]
  | m + 1, k + 1, i, hm, hk, hi => by
    have hlt : i < xs.length := by omega
    rw [laws_eqLineS.l0, if_pos (by simpa using hlt), idx_nat, List.getElem?_eq_getElem hlt, w_nat (by omega), eqL_l0 xs hl m k (i + 1) (by omega) (by omega) (by omega)]
    simp only [Option.bind_some, eqLine_nice, if_true]
theorem eqL_nice {K : Nat} (xs : List (Int × Int × Int)) (hl : xs.length ≤ 1000000) (hK : xs.length < K) : laws_eqLineS.f K xs xs = some true := by
  unfold laws_eqLineS.f
  rw [if_pos (by simp)]
  exact eqL_l0 xs hl xs.length K 0 rfl hK (Nat.zero_le _)
def mkLn (n : Nat) : List (Int × Int × Int) := (List.range n).map fun (i : Nat) => (((1 + 3 * i : Nat) : Int), ((1 + 3 * i + 1 : Nat) : Int), ((1 + 3 * i + 2 : Nat) : Int))
theorem mkLn_len {n : Nat} : (mkLn n).length = n := by simp [mkLn]
theorem mkLn_succ {n : Nat} : mkLn (n + 1) = mkLn n ++ [(((1 + 3 * n : Nat) : Int), ((1 + 3 * n + 1 : Nat) : Int), ((1 + 3 * n + 2 : Nat) : Int))] := by simp [mkLn, List.range_succ]
theorem mkLn_get {n i : Nat} (h : i < n) : (mkLn n)[i]? = some (((1 + 3 * i : Nat) : Int), ((1 + 3 * i + 1 : Nat) : Int), ((1 + 3 * i + 2 : Nat) : Int)) := by simp [mkLn, h]
theorem markL_l0 {K : Nat} (xs : List (Int × Int × Int)) (hl : xs.length ≤ 1000000) : ∀ (m k i : Nat), xs.length - i = m → m < k → i ≤ xs.length → laws_markLineS.l0 K xs k ((1 + 3 * i : Nat) : Int) i (mkLn i ++ xs.drop i) = some (((1 + 3 * xs.length : Nat) : Int), mkLn xs.length)
  | 0, k + 1, i, hm, _, hi => by
    have : i = xs.length := by omega
    subst this
    rw [laws_markLineS.l0, if_neg (by simp)]
    simp
  | m + 1, k + 1, i, hm, hk, hi => by
    have hlt : i < xs.length := by omega
    have hg : (mkLn i ++ xs.drop i)[i]? = some xs[i] := by
      rw [List.getElem?_append_right (by rw [mkLn_len]; exact Nat.le_refl _), mkLn_len]
      simp [hlt]
    have hs' : ∀ v, (mkLn i ++ xs.drop i).set i v = mkLn i ++ v :: xs.drop (i + 1) := fun v => by
      rw [List.set_append_right _ _ (by rw [mkLn_len]; exact Nat.le_refl _), mkLn_len, Nat.sub_self, List.drop_eq_getElem_cons hlt, List.set_cons_zero]
    have hg2 : ∀ v : Int × Int × Int, (mkLn i ++ v :: xs.drop (i + 1))[i]? = some v := fun v => by
      rw [List.getElem?_append_right (by rw [mkLn_len]; exact Nat.le_refl _), mkLn_len]
      simp
    have hs2 : ∀ v w : Int × Int × Int, (mkLn i ++ v :: xs.drop (i + 1)).set i w = mkLn i ++ w :: xs.drop (i + 1) := fun v w => by
      rw [List.set_append_right _ _ (by rw [mkLn_len]; exact Nat.le_refl _), mkLn_len, Nat.sub_self, List.set_cons_zero]
    rw [laws_markLineS.l0, if_pos (by simpa using hlt), idx_nat, hg]
    simp only [Option.bind_some, Int.toNat_natCast]
    rw [hs', idx_nat, hg2]
    simp only [Option.bind_some, Int.toNat_natCast]
    rw [hs2, idx_nat, hg2]
    simp only [Option.bind_some, Int.toNat_natCast]
    rw [hs2, w_nat (show 1 + 3 * i ≤ 1000000000 by omega), w_nat (show 1 + 3 * i + 1 ≤ 1000000000 by omega), w_nat (show 1 + 3 * i + 1 + 1 ≤ 1000000000 by omega), w_nat (show i ≤ 1000000000 by omega)]
    have := markL_l0 (K := K) xs hl m k (i + 1) (by omega) (by omega) (by omega)
    rw [mkLn_succ, List.append_assoc, show 1 + 3 * (i + 1) = 1 + 3 * i + 1 + 1 + 1 by omega] at this
    exact this
theorem markL_nice {K : Nat} (xs : List (Int × Int × Int)) (hl : xs.length ≤ 1000000) (hK : xs.length < K) : laws_markLineS.f K xs 1 = some (((1 + 3 * xs.length : Nat) : Int), mkLn xs.length) := by
  unfold laws_markLineS.f
  have := markL_l0 (K := K) xs hl xs.length K 0 rfl hK (Nat.zero_le _)
  exact this
theorem heldL_step {K k n i : Nat} (hl : n ≤ 1000000) (hlt : i < n) : laws_heldLineS.l0 K (mkLn n) (k + 1) ((1 + 3 * i : Nat) : Int) i = laws_heldLineS.l0 K (mkLn n) k ((1 + 3 * (i + 1) : Nat) : Int) ((i + 1 : Nat) : Int) := by
  have e : ((1 + 3 * (i + 1) : Nat) : Int) = ((1 + 3 * i + 1 + 1 + 1 : Nat) : Int) := by omega
  rw [laws_heldLineS.l0, if_pos (by rw [mkLn_len]; simpa using hlt), idx_nat, mkLn_get hlt, e, w_nat (show 1 + 3 * i ≤ 1000000000 by omega), w_nat (show 1 + 3 * i + 1 ≤ 1000000000 by omega), w_nat (show 1 + 3 * i + 1 + 1 ≤ 1000000000 by omega), w_nat (show i ≤ 1000000000 by omega)]
  simp only [Option.bind_some, beq_self_eq_true, if_true]
theorem heldL_end {K k n : Nat} {x : Int} : laws_heldLineS.l0 K (mkLn n) (k + 1) x n = some x := by
  rw [laws_heldLineS.l0, if_neg (by rw [mkLn_len]; simp)]
theorem heldL_l0 {K : Nat} (n : Nat) (hl : n ≤ 1000000) (m : Nat) : ∀ (k i : Nat), n - i = m → m < k → i ≤ n → laws_heldLineS.l0 K (mkLn n) k ((1 + 3 * i : Nat) : Int) i = some ((1 + 3 * n : Nat) : Int) := by
  induction m with
  | zero =>
    intro k i hm hk hi
    obtain ⟨k, rfl⟩ : ∃ q, k = q + 1 := ⟨k - 1, by omega⟩
    obtain rfl : i = n := by omega
    exact heldL_end
  | succ m ih =>
    intro k i hm hk hi
    obtain ⟨k, rfl⟩ : ∃ q, k = q + 1 := ⟨k - 1, by omega⟩
    rw [heldL_step hl (by omega)]
    exact ih k (i + 1) (by omega) (by omega) (by omega)
theorem heldL_nice {K : Nat} (n : Nat) (hl : n ≤ 1000000) (hK : n < K) : laws_heldLineS.f K (mkLn n) 1 = some ((1 + 3 * n : Nat) : Int) := by
  unfold laws_heldLineS.f
  exact heldL_l0 n hl n K 0 rfl hK (Nat.zero_le _)
theorem law_FnExactTangentsFrom {K : Nat} (hK : 5000 ≤ K) (p c k0 k1 q a0 a1 : Int) : laws_FnExactTangentsFrom.f K p c k0 k1 q a0 a1 = some true := by
  obtain ⟨xs, e, h1, h2, hlen⟩ := tf_both hK p c k0 k1 q a0 a1
  unfold laws_FnExactTangentsFrom.f
  simp only [toCircle_nice, toPoint_nice, Option.bind_some]
  rw [h1, h2]
  simp only [Option.bind_some]
  rw [eqL_nice xs (by omega) (by omega), markL_nice xs (by omega) (by omega)]
  simp only [Option.bind_some]
  rw [heldL_nice xs.length (by omega) (by omega)]
  have hneg : ¬ (((1 + 3 * xs.length : Nat) : Int) < 0) := by omega
  simp only [Option.bind_some, beq_self_eq_true, if_true, hneg, decide_false, Bool.false_eq_true, if_false]
end Go.Proofs.Ytgboaomjahceiaa
