/- Plain laws: ValuesOf, ZerosOf, LedTo, WalkOf, SpreadsOfOrder. -/
import Derived.Test.YtccbmdpikalpfaaP2
namespace Go.Proofs.Ytccbmdpikalpfaa
open Go Go.RowKit
set_option linter.unusedVariables false
set_option linter.unusedSimpArgs false
def ansV (p n : Int) : List Int × Int := if codeI p n = 0 then (vals p n.toNat, 0) else ([], codeI p n)
theorem ansV_len {p n : Int} : (ansV p n).1.length ≤ 2000 := by
  unfold ansV
  split
  · have := (codeI_zero (by assumption)).1.lt
    simp only [vals_len]
    omega
  · simp
theorem specV {K : Nat} (hK : 5000 ≤ K) {p n : Int} : spec_ValuesOf.f K p n = some (ansV p n) := by
  have hK' : 100 ≤ K := by omega
  unfold spec_ValuesOf.f ansV
  rw [code5n_nice hK']
  by_cases h : codeI p n = 0
  · obtain ⟨hp, h1, h2⟩ := codeI_zero h
    obtain ⟨m, rfl⟩ := Int.eq_ofNat_of_zero_le h1
    simp only [h, Option.bind_some, beq_self_eq_true, if_true, specVals_nice hK' hp m (by omega) (by omega), Int.toNat_natCast]
  · simp [h]
theorem implV {K : Nat} (hK : 5000 ≤ K) {p n : Int} : impl_ValuesOf.f K p n = some (ansV p n) := by
  have hK' : 100 ≤ K := by omega
  unfold impl_ValuesOf.f ansV
  rw [askedV_nice]
  by_cases h : codeI p n = 0
  · obtain ⟨hp, h1, h2⟩ := codeI_zero h
    obtain ⟨m, rfl⟩ := Int.eq_ofNat_of_zero_le h1
    simp only [h, Option.bind_some, beq_self_eq_true, if_true, implVals_nice hK' hp m (by omega) (by omega), Int.toNat_natCast]
  · simp [h]
/-! ### Zeros and numbers that are led to a value -/
theorem sel_zero {p : Int} {Q : Nat → Bool} : sel p Q = [] ++ ((List.range' 0 p.toNat).filter Q).map fun (s : Nat) => (s : Int) := by
  rw [List.nil_append, sel, List.range_eq_range']
theorem led_l0 {K : Nat} {p v : Int} (hp : isP p) (n : Nat) : ∀ (m k i : Nat) (acc : List Int), p.toNat - i = m → m < k → i ≤ p.toNat → acc.length ≤ i →
    spec_l05Led.l0 K p v (vals p n) k i acc = some (acc ++ ((List.range' i m).filter fun (s : Nat) => u p (s : Int) n == v).map fun (s : Nat) => (s : Int))
  | 0, k + 1, i, acc, hm, _, hi, _ => by
    have := hp.lt
    rw [spec_l05Led.l0, if_neg (by simp; omega)]
    simp
  | m + 1, k + 1, i, acc, hm, hk, hi, hl => by
    have := hp.lt
    rw [spec_l05Led.l0, if_pos (by simp; omega), vals_get (by omega), w_nat (by omega)]
    simp only [Option.bind_some, List.range'_succ, List.filter_cons]
    cases he : u p (i : Int) n == v
    · simp only [Bool.false_eq_true, if_false]
      exact led_l0 hp n m k (i + 1) acc (by omega) (by omega) (by omega) (by omega)
    · simp only [if_true]
      rw [if_pos (by simp; omega), led_l0 hp n m k (i + 1) _ (by omega) (by omega) (by omega) (by simp; omega)]
      simp
theorem led_nice {K : Nat} (hK : 5000 ≤ K) {p v : Int} (hp : isP p) (n : Nat) (hn : n ≤ 1000) : spec_l05Led.f K p n v = some (sel p fun (s : Nat) => u p (s : Int) n == v) := by
  have := hp.lt
  unfold spec_l05Led.f
  rw [specVals_nice (by omega) hp n (by omega) (by omega), sel_zero]
  exact led_l0 (K := K) hp n p.toNat K 0 [] (by omega) (by omega) (by omega) (by simp)
theorem zeros_l0 {K : Nat} {p : Int} (hp : isP p) (n : Nat) (hn : n ≤ 1000) (hK : 5000 ≤ K) : ∀ (m k i : Nat) (acc : List Int), p.toNat - i = m → m < k → i ≤ p.toNat → acc.length ≤ i →
    impl_numbersWith__impl_ZerosOf_2.l0 K p p n k i acc = some (acc ++ ((List.range' i m).filter fun (s : Nat) => u p (s : Int) n == 0).map fun (s : Nat) => (s : Int))
  | 0, k + 1, i, acc, hm, _, hi, _ => by
    have := hp.lt
    rw [impl_numbersWith__impl_ZerosOf_2.l0, if_neg (by simp; omega)]
    simp
  | m + 1, k + 1, i, acc, hm, hk, hi, hl => by
    have := hp.lt
    rw [impl_numbersWith__impl_ZerosOf_2.l0, if_pos (by simp; omega), impl_ZerosOf_2.f, spreadOf_nice hp (In.nat (by omega)) n (by omega) (by omega), w_nat (by omega)]
    simp only [Option.bind_some, List.range'_succ, List.filter_cons]
    cases he : u p (i : Int) n == 0
    · simp only [Bool.false_eq_true, if_false]
      exact zeros_l0 hp n hn hK m k (i + 1) acc (by omega) (by omega) (by omega) (by omega)
    · simp only [if_true]
      rw [if_pos (by simp; omega), zeros_l0 hp n hn hK m k (i + 1) _ (by omega) (by omega) (by omega) (by simp; omega)]
      simp
theorem ledto_l0 {K : Nat} {p v : Int} (hp : isP p) (n : Nat) (hn : n ≤ 1000) (hK : 5000 ≤ K) : ∀ (m k i : Nat) (acc : List Int), p.toNat - i = m → m < k → i ≤ p.toNat → acc.length ≤ i →
    impl_numbersWith__impl_LedTo_2.l0 K p p n v k i acc = some (acc ++ ((List.range' i m).filter fun (s : Nat) => u p (s : Int) n == v).map fun (s : Nat) => (s : Int))
  | 0, k + 1, i, acc, hm, _, hi, _ => by
    have := hp.lt
    rw [impl_numbersWith__impl_LedTo_2.l0, if_neg (by simp; omega)]
    simp
  | m + 1, k + 1, i, acc, hm, hk, hi, hl => by
    have := hp.lt
    rw [impl_numbersWith__impl_LedTo_2.l0, if_pos (by simp; omega), impl_LedTo_2.f, spreadOf_nice hp (In.nat (by omega)) n (by omega) (by omega), w_nat (by omega)]
    simp only [Option.bind_some, List.range'_succ, List.filter_cons]
    cases he : u p (i : Int) n == v
    · simp only [Bool.false_eq_true, if_false]
      exact ledto_l0 hp n hn hK m k (i + 1) acc (by omega) (by omega) (by omega) (by omega)
    · simp only [if_true]
      rw [if_pos (by simp; omega), ledto_l0 hp n hn hK m k (i + 1) _ (by omega) (by omega) (by omega) (by simp; omega)]
      simp
theorem askedZ_nice {K : Nat} {p n : Int} : impl_asked__impl_ZerosOf_1.f K p n = some (codeI p n) := by
  unfold impl_asked__impl_ZerosOf_1.f impl_ZerosOf_1.f impl_isIndex.f
  rw [isField_nice]
  unfold codeI
  by_cases hp : isP p <;> by_cases hn : 0 ≤ n <;> by_cases hn2 : n ≤ 1000 <;> simp [hp, hn, hn2]
def ansZ (p n : Int) : List Int × Int := if codeI p n = 0 then (sel p fun (s : Nat) => u p (s : Int) n.toNat == 0, 0) else ([], codeI p n)
theorem ansZ_len {p n : Int} : (ansZ p n).1.length ≤ 2000 := by
  unfold ansZ
  split
  · exact Nat.le_trans (sel_len (codeI_zero (by assumption)).1) (by omega)
  · simp
theorem specZ {K : Nat} (hK : 5000 ≤ K) {p n : Int} : spec_ZerosOf.f K p n = some (ansZ p n) := by
  have hK' : 100 ≤ K := by omega
  unfold spec_ZerosOf.f ansZ
  rw [code5n_nice hK']
  by_cases h : codeI p n = 0
  · obtain ⟨hp, h1, h2⟩ := codeI_zero h
    obtain ⟨m, rfl⟩ := Int.eq_ofNat_of_zero_le h1
    simp only [h, Option.bind_some, beq_self_eq_true, if_true, led_nice hK hp m (by omega), Int.toNat_natCast]
  · simp [h]
theorem implZ {K : Nat} (hK : 5000 ≤ K) {p n : Int} : impl_ZerosOf.f K p n = some (ansZ p n) := by
  have hK' : 100 ≤ K := by omega
  unfold impl_ZerosOf.f ansZ
  rw [askedZ_nice]
  by_cases h : codeI p n = 0
  · obtain ⟨hp, h1, h2⟩ := codeI_zero h
    obtain ⟨m, rfl⟩ := Int.eq_ofNat_of_zero_le h1
    have hpl := hp.lt
    simp only [h, Option.bind_some, beq_self_eq_true, if_true, Int.toNat_natCast, impl_numbersWith__impl_ZerosOf_2.f]
    have := zeros_l0 (K := K) hp m (by omega) hK p.toNat K 0 [] (by omega) (by omega) (by omega) (by simp)
    simp only [Int.natCast_zero, Int.ofNat_zero] at this
    rw [this, sel_zero]
    rfl
  · simp [h]
theorem askedL_nice {K : Nat} {p n s : Int} : impl_asked__impl_LedTo_1.f K p p s n = some (code1i p n s) := by
  unfold impl_asked__impl_LedTo_1.f impl_LedTo_1.f impl_isIndex.f
  rw [isField_nice, isNumber_nice]
  unfold code1i
  by_cases hp : isP p <;> by_cases h : inN p s = true <;> by_cases hn : 0 ≤ n <;> by_cases hn2 : n ≤ 1000 <;> simp [hp, h, hn, hn2]
def ansL (p n v : Int) : List Int × Int := if code1i p n v = 0 then (sel p fun (s : Nat) => u p (s : Int) n.toNat == v, 0) else ([], code1i p n v)
theorem ansL_len {p n v : Int} : (ansL p n v).1.length ≤ 2000 := by
  unfold ansL
  split
  · exact Nat.le_trans (sel_len (code1i_zero (by assumption)).1) (by omega)
  · simp
theorem specL {K : Nat} (hK : 5000 ≤ K) {p n v : Int} : spec_LedTo.f K p n v = some (ansL p n v) := by
  have hK' : 100 ≤ K := by omega
  unfold spec_LedTo.f ansL
  rw [code5_nice hK']
  by_cases h : code1i p n v = 0
  · obtain ⟨hp, hv, h1, h2⟩ := code1i_zero h
    obtain ⟨m, rfl⟩ := Int.eq_ofNat_of_zero_le h1
    simp only [h, Option.bind_some, beq_self_eq_true, if_true, led_nice hK hp m (by omega), Int.toNat_natCast]
  · simp [h]
theorem implL {K : Nat} (hK : 5000 ≤ K) {p n v : Int} : impl_LedTo.f K p n v = some (ansL p n v) := by
  have hK' : 100 ≤ K := by omega
  unfold impl_LedTo.f ansL
  rw [askedL_nice]
  by_cases h : code1i p n v = 0
  · obtain ⟨hp, hv, h1, h2⟩ := code1i_zero h
    obtain ⟨m, rfl⟩ := Int.eq_ofNat_of_zero_le h1
    have hpl := hp.lt
    simp only [h, Option.bind_some, beq_self_eq_true, if_true, Int.toNat_natCast, impl_numbersWith__impl_LedTo_2.f]
    have := ledto_l0 (K := K) (v := v) hp m (by omega) hK p.toNat K 0 [] (by omega) (by omega) (by omega) (by simp)
    simp only [Int.natCast_zero, Int.ofNat_zero] at this
    rw [this, sel_zero]
    rfl
  · simp [h]
/-! ### The walk -/
/-- The walk: each number is led on. -/
def wk (p : Int) (n : Nat) (s : Int) : Nat → Int
  | 0 => s
  | k + 1 => u p (wk p n s k) n
theorem wk_in {p s : Int} {n : Nat} (hp : isP p) (hs : In p s) : ∀ k, In p (wk p n s k)
  | 0 => hs
  | k + 1 => u_in hp (wk_in hp hs k) n
def wks (p : Int) (n : Nat) (s : Int) (m : Nat) : List Int := (List.range m).map (wk p n s)
theorem wks_succ {p s : Int} {n m : Nat} : wks p n s m ++ [wk p n s m] = wks p n s (m + 1) := by simp [wks, List.range_succ]
theorem wks_len {p s : Int} {n m : Nat} : (wks p n s m).length = m := by simp [wks]
theorem wks_get {p s : Int} {n m i : Nat} (h : i < m) : idx (wks p n s m) (i : Int) = some (wk p n s i) := by
  rw [idx_nat]
  simp [wks, h]
def codeW (p n s k : Int) : Int := if code1i p n s = 0 then if 0 ≤ k ∧ k ≤ 100 then 0 else 2 else code1i p n s
def ansW (p n s k : Int) : List Int × Int := if codeW p n s k = 0 then (wks p n.toNat s (k.toNat + 1), 0) else ([], codeW p n s k)
theorem codeW_zero {p n s k : Int} (h : codeW p n s k = 0) : code1i p n s = 0 ∧ 0 ≤ k ∧ k ≤ 100 := by
  unfold codeW at h
  split at h
  · split at h
    · exact ⟨by assumption, by assumption⟩
    · cases h
  · contradiction
theorem ansW_len {p n s k : Int} : (ansW p n s k).1.length ≤ 2000 := by
  unfold ansW
  split
  · have := codeW_zero (by assumption)
    simp only [wks_len]
    omega
  · simp
/-! ### The spreads of an order -/
open Classical in
noncomputable def ordN (p s : Int) : Nat := if h : ∃ o q, OP p s o q then Classical.choose h else 0
theorem ordN_op {p s : Int} (hp : isP p) (hs : In p s) : ∃ q, OP p s (ordN p s) q := by
  have h := op_ex hp hs
  unfold ordN
  rw [dif_pos h]
  exact Classical.choose_spec h
noncomputable def perN (p s : Int) : Nat := open Classical in if h : ∃ q, OP p s (ordN p s) q then Classical.choose h else 0
theorem op_nice {p s : Int} (hp : isP p) (hs : In p s) : OP p s (ordN p s) (perN p s) := by
  have h := ordN_op hp hs
  unfold perN
  rw [dif_pos h]
  exact Classical.choose_spec h
def codeO (p n : Int) : Int := if isP p then if 1 ≤ n ∧ n ≤ 1000 then 0 else 2 else 1
theorem codeO_zero {p n : Int} (h : codeO p n = 0) : isP p ∧ 1 ≤ n ∧ n ≤ 1000 := by
  unfold codeO at h
  split at h
  · split at h
    · exact ⟨by assumption, by assumption⟩
    · cases h
  · cases h
noncomputable def ansO (p n : Int) : List Int × Int := if codeO p n = 0 then (sel p fun (s : Nat) => ((ordN p (s : Int) : Nat) : Int) == n, 0) else ([], codeO p n)
theorem ansO_len {p n : Int} : (ansO p n).1.length ≤ 2000 := by
  unfold ansO
  split
  · exact Nat.le_trans (sel_len (codeO_zero (by assumption)).1) (by omega)
  · simp
end Go.Proofs.Ytccbmdpikalpfaa
