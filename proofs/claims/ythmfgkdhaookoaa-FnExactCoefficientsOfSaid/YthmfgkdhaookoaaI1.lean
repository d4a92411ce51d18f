/- Plain laws of the comparison, the marking and the reading again of a row of numbers. -/
import Derived.Test.YthmfgkdhaookoaaP1
namespace Go.Proofs.Ythmfgkdhaookoaa
open Go Go.RowKit
set_option linter.unusedVariables false
set_option linter.unusedSimpArgs false
theorem eqI_l0 {K : Nat} (xs : List Int) (hl : xs.length ≤ 1000000) : ∀ (m k i : Nat), xs.length - i = m → m < k → i ≤ xs.length → laws_eqInt64S.l0 K xs xs k i = some true
  | 0, k + 1, i, hm, _, hi => by
    have : i = xs.length := by omega
    subst this
    simp [laws_eqInt64S.l0]
  | m + 1, k + 1, i, hm, hk, hi => by
    have hlt : i < xs.length := by omega
    rw [laws_eqInt64S.l0, if_pos (by simpa using hlt), idx_nat, List.getElem?_eq_getElem hlt, w_nat (by omega), eqI_l0 xs hl m k (i + 1) (by omega) (by omega) (by omega)]
    simp
theorem eqI_nice {K : Nat} (xs : List Int) (hl : xs.length ≤ 1000000) (hK : xs.length < K) : laws_eqInt64S.f K xs xs = some true := by
  unfold laws_eqInt64S.f
  rw [if_pos (by simp)]
  exact eqI_l0 xs hl xs.length K 0 rfl hK (Nat.zero_le _)
/-- The marks, from a number on. -/
def mksF (s n : Nat) : List Int := (List.range n).map fun (i : Nat) => ((s + i : Nat) : Int)
theorem mksF_len {s n : Nat} : (mksF s n).length = n := by simp [mksF]
theorem mksF_succ {s n : Nat} : mksF s (n + 1) = mksF s n ++ [((s + n : Nat) : Int)] := by simp [mksF, List.range_succ]
theorem mksF_get {s n i : Nat} (h : i < n) : (mksF s n)[i]? = some ((s + i : Nat) : Int) := by simp [mksF, h]
theorem markF_l0 {K : Nat} (s : Nat) (hs : s ≤ 1000000) (xs : List Int) (hl : xs.length ≤ 1000000) : ∀ (m k i : Nat), xs.length - i = m → m < k → i ≤ xs.length → laws_markInt64S.l0 K xs k ((s + i : Nat) : Int) i (mksF s i ++ xs.drop i) = some (((s + xs.length : Nat) : Int), mksF s xs.length)
  | 0, k + 1, i, hm, _, hi => by
    have : i = xs.length := by omega
    subst this
    rw [laws_markInt64S.l0, if_neg (by simp)]
    simp
  | m + 1, k + 1, i, hm, hk, hi => by
    have hlt : i < xs.length := by omega
    have hg : (mksF s i ++ xs.drop i)[i]? = some xs[i] := by
      rw [List.getElem?_append_right (by rw [mksF_len]; exact Nat.le_refl _), mksF_len]
      simp [hlt]
    have hs' : (mksF s i ++ xs.drop i).set i ((s + i : Nat) : Int) = mksF s (i + 1) ++ xs.drop (i + 1) := by
      rw [List.set_append_right _ _ (by rw [mksF_len]; exact Nat.le_refl _), mksF_len, Nat.sub_self, List.drop_eq_getElem_cons hlt, List.set_cons_zero, mksF_succ]
      simp
    rw [laws_markInt64S.l0, if_pos (by simpa using hlt), idx_nat, hg]
    simp only [Option.bind_some, Int.toNat_natCast]
    rw [hs', w_nat (by omega), w_nat (by omega), Nat.add_assoc s i 1, markF_l0 s hs xs hl m k (i + 1) (by omega) (by omega) (by omega)]
theorem markF_nice {K : Nat} (s : Nat) (hs : s ≤ 1000000) (xs : List Int) (hl : xs.length ≤ 1000000) (hK : xs.length < K) : laws_markInt64S.f K xs s = some (((s + xs.length : Nat) : Int), mksF s xs.length) := by
  unfold laws_markInt64S.f
  have := markF_l0 (K := K) s hs xs hl xs.length K 0 rfl hK (Nat.zero_le _)
  exact this
theorem heldF_l0 {K : Nat} (s : Nat) (hs : s ≤ 1000000) (n : Nat) (hl : n ≤ 1000000) : ∀ (m k i : Nat), n - i = m → m < k → i ≤ n → laws_heldInt64S.l0 K (mksF s n) k ((s + i : Nat) : Int) i = some ((s + n : Nat) : Int)
  | 0, k + 1, i, hm, _, hi => by
    have : i = n := by omega
    subst this
    rw [laws_heldInt64S.l0, if_neg (by rw [mksF_len]; simp)]
  | m + 1, k + 1, i, hm, hk, hi => by
    have hlt : i < n := by omega
    rw [laws_heldInt64S.l0, if_pos (by rw [mksF_len]; simpa using hlt), idx_nat, mksF_get hlt, w_nat (by omega), w_nat (by omega), Nat.add_assoc s i 1, heldF_l0 s hs n hl m k (i + 1) (by omega) (by omega) (by omega)]
    simp
theorem heldF_nice {K : Nat} (s : Nat) (hs : s ≤ 1000000) (n : Nat) (hl : n ≤ 1000000) (hK : n < K) : laws_heldInt64S.f K (mksF s n) s = some ((s + n : Nat) : Int) := by
  unfold laws_heldInt64S.f
  exact heldF_l0 s hs n hl n K 0 rfl hK (Nat.zero_le _)
def mks (n : Nat) : List Int := mksF 1 n
theorem markI_nice {K : Nat} (xs : List Int) (hl : xs.length ≤ 1000000) (hK : xs.length < K) : laws_markInt64S.f K xs 1 = some (((xs.length + 1 : Nat) : Int), mks xs.length) := by
  rw [Nat.add_comm xs.length 1]
  exact markF_nice 1 (by omega) xs hl hK
theorem heldI_nice {K : Nat} (n : Nat) (hl : n ≤ 1000000) (hK : n < K) : laws_heldInt64S.f K (mks n) 1 = some ((n + 1 : Nat) : Int) := by
  rw [Nat.add_comm n 1]
  exact heldF_nice 1 (by omega) n hl hK
end Go.Proofs.Ythmfgkdhaookoaa
