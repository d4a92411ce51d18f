/- Plain laws of the comparison, the marking and the reading again of a row of moves. -/
import Derived.Test.YtbibgeoohpgaeaaV7
namespace Go.Proofs.Ytbibgeoohpgaeaa
open Go Go.RowKit
set_option linter.unusedVariables false
set_option linter.unusedSimpArgs false
theorem eqM_l0 {K : Nat} (xs : List M6) (hl : xs.length ≤ 1000000) : ∀ (m k i : Nat), xs.length - i = m → m < k → i ≤ xs.length → laws_eqMoveS.l0 K xs xs k i = some true
  | 0, k + 1, i, hm, _, hi => by
    have : i = xs.length := by omega
    subst this
    simp [laws_eqMoveS.l0]
  | m + 1, k + 1, i, hm, hk, hi => by
    have hlt : i < xs.length := by omega
    rw [laws_eqMoveS.l0, if_pos (by simpa using hlt), idx_nat, List.getElem?_eq_getElem hlt, w_nat (by omega), eqM_l0 xs hl m k (i + 1) (by omega) (by omega) (by omega)]
    simp only [Option.bind_some, eqMove_nice, if_true]
theorem eqM_nice {K : Nat} (xs : List M6) (hl : xs.length ≤ 1000000) (hK : xs.length < K) : laws_eqMoveS.f K xs xs = some true := by
  unfold laws_eqMoveS.f
  rw [if_pos (by simp)]
  exact eqM_l0 xs hl xs.length K 0 rfl hK (Nat.zero_le _)
def mkM1 (x : Int) : M6 := (x, x + 1, x + 1 + 1, x + 1 + 1 + 1, x + 1 + 1 + 1 + 1, x + 1 + 1 + 1 + 1 + 1)
def mkM (n : Nat) : List M6 := (List.range n).map fun (i : Nat) => mkM1 ((1 + 6 * i : Nat) : Int)
theorem w_int {x : Int} (h0 : 0 ≤ x) (h : x ≤ 1000000000) : wrap64 (x + 1) = x + 1 := w_eq ⟨by omega⟩
theorem mkM_len {n : Nat} : (mkM n).length = n := by simp [mkM]
theorem mkM_succ {n : Nat} : mkM (n + 1) = mkM n ++ [mkM1 ((1 + 6 * n : Nat) : Int)] := by simp [mkM, List.range_succ]
theorem mkM_get {n i : Nat} (h : i < n) : (mkM n)[i]? = some (mkM1 ((1 + 6 * i : Nat) : Int)) := by simp [mkM, h]
theorem markM_l0 {K : Nat} (xs : List M6) (hl : xs.length ≤ 100000) : ∀ (m k i : Nat), xs.length - i = m → m < k → i ≤ xs.length → laws_markMoveS.l0 K xs k ((1 + 6 * i : Nat) : Int) i (mkM i ++ xs.drop i) = some (((1 + 6 * xs.length : Nat) : Int), mkM xs.length)
  | 0, k + 1, i, hm, _, hi => by
    have : i = xs.length := by omega
    subst this
    rw [laws_markMoveS.l0, if_neg (by simp)]
    simp
  | m + 1, k + 1, i, hm, hk, hi => by
    have hlt : i < xs.length := by omega
    have hg : (mkM i ++ xs.drop i)[i]? = some xs[i] := by
      rw [List.getElem?_append_right (by rw [mkM_len]; exact Nat.le_refl _), mkM_len]
      simp [hlt]
    have hs' : ∀ v, (mkM i ++ xs.drop i).set i v = mkM i ++ v :: xs.drop (i + 1) := fun v => by
      rw [List.set_append_right _ _ (by rw [mkM_len]; exact Nat.le_refl _), mkM_len, Nat.sub_self, List.drop_eq_getElem_cons hlt, List.set_cons_zero]
    have hg2 : ∀ v : M6, (mkM i ++ v :: xs.drop (i + 1))[i]? = some v := fun v => by
      rw [List.getElem?_append_right (by rw [mkM_len]; exact Nat.le_refl _), mkM_len]
      simp
    have hs2 : ∀ v w : M6, (mkM i ++ v :: xs.drop (i + 1)).set i w = mkM i ++ w :: xs.drop (i + 1) := fun v w => by
      rw [List.set_append_right _ _ (by rw [mkM_len]; exact Nat.le_refl _), mkM_len, Nat.sub_self, List.set_cons_zero]
    have := markM_l0 (K := K) xs hl m k (i + 1) (by omega) (by omega) (by omega)
    rw [mkM_succ, List.append_assoc] at this
    have hx0 : (0 : Int) ≤ ((1 + 6 * i : Nat) : Int) := by omega
    have hx1 : ((1 + 6 * i : Nat) : Int) ≤ 600001 := by omega
    have hx2 : ((1 + 6 * (i + 1) : Nat) : Int) = ((1 + 6 * i : Nat) : Int) + 1 + 1 + 1 + 1 + 1 + 1 := by omega
    rw [hx2] at this
    generalize ((1 + 6 * i : Nat) : Int) = x at *
    rw [laws_markMoveS.l0, if_pos (by simpa using hlt)]
    simp only [idx_nat, hg, Option.bind_some, Int.toNat_natCast, hs', hg2, hs2]
    rw [w_int (x := x) (by omega) (by omega), w_int (x := x + 1) (by omega) (by omega), w_int (x := x + 1 + 1) (by omega) (by omega), w_int (x := x + 1 + 1 + 1) (by omega) (by omega), w_int (x := x + 1 + 1 + 1 + 1) (by omega) (by omega), w_int (x := x + 1 + 1 + 1 + 1 + 1) (by omega) (by omega), w_nat (show i ≤ 1000000000 by omega)]
    exact this
theorem markM_nice {K : Nat} (xs : List M6) (hl : xs.length ≤ 100000) (hK : xs.length < K) : laws_markMoveS.f K xs 1 = some (((1 + 6 * xs.length : Nat) : Int), mkM xs.length) := by
  unfold laws_markMoveS.f
  exact markM_l0 (K := K) xs hl xs.length K 0 rfl hK (Nat.zero_le _)
theorem heldM_step {K k n i : Nat} (hl : n ≤ 100000) (hlt : i < n) : laws_heldMoveS.l0 K (mkM n) (k + 1) ((1 + 6 * i : Nat) : Int) i = laws_heldMoveS.l0 K (mkM n) k ((1 + 6 * (i + 1) : Nat) : Int) ((i + 1 : Nat) : Int) := by
  have hx0 : (0 : Int) ≤ ((1 + 6 * i : Nat) : Int) := by omega
  have hx1 : ((1 + 6 * i : Nat) : Int) ≤ 600001 := by omega
  have hx2 : ((1 + 6 * (i + 1) : Nat) : Int) = ((1 + 6 * i : Nat) : Int) + 1 + 1 + 1 + 1 + 1 + 1 := by omega
  have hget := mkM_get hlt
  rw [hx2]
  generalize ((1 + 6 * i : Nat) : Int) = x at *
  have hw : ∀ y : Int, 0 ≤ y → y ≤ 1000000 → wrap64 (y + 1) = y + 1 := fun y h0 h1 => w_int h0 (by omega)
  have w1 := hw x (by omega) (by omega)
  have w2 := hw (x + 1) (by omega) (by omega)
  have w3 := hw (x + 1 + 1) (by omega) (by omega)
  have w4 := hw (x + 1 + 1 + 1) (by omega) (by omega)
  have w5 := hw (x + 1 + 1 + 1 + 1) (by omega) (by omega)
  have w6 := hw (x + 1 + 1 + 1 + 1 + 1) (by omega) (by omega)
  rw [laws_heldMoveS.l0, if_pos (by rw [mkM_len]; simpa using hlt)]
  simp only [idx_nat, hget, Option.bind_some, mkM1, w1, w2, w3, w4, w5, w6, w_nat (show i ≤ 1000000000 by omega), beq_self_eq_true, if_true]
theorem heldM_end {K k n : Nat} {x : Int} : laws_heldMoveS.l0 K (mkM n) (k + 1) x n = some x := by
  rw [laws_heldMoveS.l0, if_neg (by rw [mkM_len]; simp)]
theorem heldM_l0 {K : Nat} (n : Nat) (hl : n ≤ 100000) (m : Nat) : ∀ (k i : Nat), n - i = m → m < k → i ≤ n → laws_heldMoveS.l0 K (mkM n) k ((1 + 6 * i : Nat) : Int) i = some ((1 + 6 * n : Nat) : Int) := by
  induction m with
  | zero =>
    intro k i hm hk hi
    obtain ⟨k, rfl⟩ : ∃ q, k = q + 1 := ⟨k - 1, by omega⟩
    obtain rfl : i = n := by omega
    exact heldM_end
  | succ m ih =>
    intro k i hm hk hi
    obtain ⟨k, rfl⟩ : ∃ q, k = q + 1 := ⟨k - 1, by omega⟩
    rw [heldM_step hl (by omega)]
    exact ih k (i + 1) (by omega) (by omega) (by omega)
theorem heldM_nice {K : Nat} (n : Nat) (hl : n ≤ 100000) (hK : n < K) : laws_heldMoveS.f K (mkM n) 1 = some ((1 + 6 * n : Nat) : Int) := by
  unfold laws_heldMoveS.f
  exact heldM_l0 n hl n K 0 rfl hK (Nat.zero_le _)
end Go.Proofs.Ytbibgeoohpgaeaa
