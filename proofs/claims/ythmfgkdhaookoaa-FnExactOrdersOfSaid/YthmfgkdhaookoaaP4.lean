/- Plain laws: the round of a walk, permutations, the orders of all spreads. -/
import Derived.Test.YthmfgkdhaookoaaP3
namespace Go.Proofs.Ythmfgkdhaookoaa
open Go Go.RowKit
set_option linter.unusedVariables false
set_option linter.unusedSimpArgs false
theorem pigeon : ∀ (n : Nat) (f : Nat → Nat), (∀ i, i ≤ n → f i < n) → ∃ i j, i < j ∧ j ≤ n ∧ f i = f j
  | 0, f, h => absurd (h 0 (Nat.le_refl _)) (by omega)
  | n + 1, f, h => by
    by_cases hx : ∃ i, i ≤ n ∧ f i = f (n + 1)
    · obtain ⟨i, hi, e⟩ := hx
      exact ⟨i, n + 1, by omega, by omega, e⟩
    · obtain ⟨i, j, hij, hj, e⟩ := pigeon n (fun i => if f i > f (n + 1) then f i - 1 else f i) (fun i hi => by
        have h1 := h i (by omega)
        have h2 := h (n + 1) (by omega)
        have h3 : f i ≠ f (n + 1) := fun e => hx ⟨i, hi, e⟩
        try dsimp only
        split <;> omega)
      have h3 : f i ≠ f (n + 1) := fun e => hx ⟨i, by omega, e⟩
      have h4 : f j ≠ f (n + 1) := fun e => hx ⟨j, by omega, e⟩
      refine ⟨i, j, hij, by omega, ?_⟩
      try dsimp only at e
      split at e <;> split at e <;> omega
/-- The tail and the round of a walk. -/
structure RT (p : Int) (n : Nat) (s : Int) (t l : Nat) : Prop where
  l1 : 1 ≤ l
  le : t + l ≤ p.toNat
  back : wk p n s (t + l) = wk p n s t
  other : ∀ i j, i < j → j < t + l → wk p n s i ≠ wk p n s j
theorem rt_ex {p s : Int} {n : Nat} (hp : isP p) (hs : In p s) : ∃ t l, RT p n s t l := by
  have hpl := hp.lt
  obtain ⟨i, j, hij, hj, e⟩ := pigeon p.toNat (fun k => (wk p n s k).toNat) (fun k _ => by
    have := (wk_in (n := n) hp hs k).out
    try dsimp only
    omega)
  have e' : wk p n s i = wk p n s j := by
    have h1 := (wk_in (n := n) hp hs i).out
    have h2 := (wk_in (n := n) hp hs j).out
    try dsimp only at e
    omega
  obtain ⟨m, hm, ⟨t, ht, e2⟩, hl⟩ := least (Q := fun j => ∃ i, i < j ∧ wk p n s i = wk p n s j) j ⟨i, hij, e'⟩
  refine ⟨t, m - t, by omega, by omega, by rw [show t + (m - t) = m by omega]; exact e2.symm, fun a b hab hb he => ?_⟩
  exact hl b (by omega) ⟨a, hab, he⟩
theorem RT.round {p s : Int} {n t l : Nat} (h : RT p n s t l) : ∀ k, t ≤ k → ∃ k', t ≤ k' ∧ k' < t + l ∧ wk p n s k = wk p n s k' := fun k => by
  induction k using Nat.strongRecOn with
  | _ k ih =>
    intro hk
    by_cases hlt : k < t + l
    · exact ⟨k, hk, hlt, rfl⟩
    · have hl := h.l1
      have shift : ∀ d, wk p n s (t + l + d) = wk p n s (t + d) := fun d => by
        induction d with
        | zero => exact h.back
        | succ d ihd =>
          show u p (wk p n s (t + l + d)) n = u p (wk p n s (t + d)) n
          rw [ihd]
      obtain ⟨k', h1, h2, h3⟩ := ih (k - l) (by omega) (by omega)
      refine ⟨k', h1, h2, ?_⟩
      rw [← h3]
      have := shift (k - l - t)
      rwa [show t + l + (k - l - t) = k by omega, show t + (k - l - t) = k - l by omega] at this
theorem RT.tail {p s : Int} {n t l : Nat} (h : RT p n s t l) {i k : Nat} (hi : i < t) (hk : i < k) : wk p n s k ≠ wk p n s i := fun e => by
  by_cases hkt : k < t
  · exact h.other i k hk (by omega) e.symm
  · obtain ⟨k', h1, h2, h3⟩ := h.round k (by omega)
    exact h.other i k' (by omega) h2 (e.symm.trans h3)
theorem RT.first {p s : Int} {n t l : Nat} (h : RT p n s t l) {k : Nat} (hk : t < k) (hk2 : k < t + l) : wk p n s k ≠ wk p n s t := fun e => h.other t k hk hk2 e.symm
/-! ### The round, by marks -/
theorem repl_eq {α : Type} {n : Nat} {x : α} : repl n x = List.replicate n x := rfl
def mval (p : Int) (n : Nat) (s : Int) (j : Nat) (x : Nat) : Int := match (List.range j).find? (fun i => wk p n s i == (x : Int)) with
  | some i => (i : Int)
  | none => -1
def metL (p : Int) (n : Nat) (s : Int) (j : Nat) : List Int := (List.range p.toNat).map (mval p n s j)
theorem metL_len {p s : Int} {n j : Nat} : (metL p n s j).length = p.toNat := by simp [metL]
theorem mval_succ {p s : Int} {n j x : Nat} (h : ∀ i, i < j → wk p n s i ≠ wk p n s j) : mval p n s (j + 1) x = if wk p n s j = (x : Int) then (j : Int) else mval p n s j x := by
  unfold mval
  rw [List.range_succ, List.find?_append]
  by_cases hx : wk p n s j = (x : Int)
  · rw [if_pos hx]
    have : (List.range j).find? (fun i => wk p n s i == (x : Int)) = none := by
      rw [List.find?_eq_none]
      intro i hi
      have := h i (List.mem_range.1 hi)
      rw [hx] at this
      simpa using this
    rw [this]
    simp [hx]
  · rw [if_neg hx]
    have : ([j] : List Nat).find? (fun i => wk p n s i == (x : Int)) = none := by simp [hx]
    rw [this, Option.or_none]
theorem metL_get {p s : Int} {n j : Nat} {x : Int} (hx : In p x) : idx (metL p n s j) x = some (mval p n s j x.toNat) := by
  have := hx.out
  obtain ⟨y, rfl⟩ := Int.eq_ofNat_of_zero_le this.1
  rw [idx_nat]
  have hy : y < p.toNat := by omega
  simp [metL, hy]
theorem metL_set {p s : Int} {n j : Nat} (hp : isP p) (hs : In p s) (h : ∀ i, i < j → wk p n s i ≠ wk p n s j) : (metL p n s j).set (wk p n s j).toNat (j : Int) = metL p n s (j + 1) := by
  have hw := (wk_in (n := n) hp hs j).out
  apply List.ext_getElem?
  intro x
  rcases Nat.lt_or_ge x p.toNat with hx | hx
  · have e1 : (metL p n s (j + 1))[x]? = some (mval p n s (j + 1) x) := by simp [metL, hx]
    have e2 : (metL p n s j)[x]? = some (mval p n s j x) := by simp [metL, hx]
    rw [e1, mval_succ h]
    by_cases hxe : (wk p n s j).toNat = x
    · rw [hxe, List.getElem?_set_self (by rw [metL_len]; exact hx), if_pos (by omega)]
    · rw [List.getElem?_set_ne hxe, e2, if_neg (by omega)]
  · rw [List.getElem?_eq_none (by rw [List.length_set, metL_len]; exact hx), List.getElem?_eq_none (by rw [metL_len]; exact hx)]
theorem mval_new {p s : Int} {n j : Nat} (hp : isP p) (hs : In p s) (h : ∀ i, i < j → wk p n s i ≠ wk p n s j) : mval p n s j (wk p n s j).toNat = -1 := by
  have hw := (wk_in (n := n) hp hs j).out
  unfold mval
  have : (List.range j).find? (fun i => wk p n s i == (((wk p n s j).toNat : Nat) : Int)) = none := by
    rw [List.find?_eq_none]
    intro i hi
    have := h i (List.mem_range.1 hi)
    rw [Int.toNat_of_nonneg hw.1]
    simpa using this
  rw [this]
theorem mval_old {p s : Int} {n t l : Nat} (hp : isP p) (hs : In p s) (h : RT p n s t l) : mval p n s (t + l) (wk p n s (t + l)).toNat = (t : Int) := by
  have hw := (wk_in (n := n) hp hs (t + l)).out
  have hl := h.l1
  unfold mval
  have : (List.range (t + l)).find? (fun i => wk p n s i == (((wk p n s (t + l)).toNat : Nat) : Int)) = some t := by
    rw [List.find?_range_eq_some]
    rw [Int.toNat_of_nonneg hw.1, h.back]
    refine ⟨by simp, List.mem_range.2 (by omega), fun i hi => ?_⟩
    have := h.other i t hi (by omega)
    simpa using this
  rw [this]
theorem roundS_l1 {K : Nat} (hK : 5000 ≤ K) {p s : Int} (hp : isP p) (hs : In p s) (n : Nat) (hn : n ≤ 1000) {t l : Nat} (h : RT p n s t l) : ∀ (m k j : Nat), t + l - j = m → m < k → j ≤ t + l → spec_WalkRound.l1 K p n k (wk p n s j) j (metL p n s j) = some ((t : Int), (l : Int), 0)
  | 0, k + 1, j, hm, _, hj => by
    have : j = t + l := by omega
    subst this
    have hle := h.le
    have hpl := hp.lt
    rw [spec_WalkRound.l1, metL_get (wk_in hp hs _), mval_old hp hs h]
    have h1 : ¬ ((t : Int) < 0) := by omega
    simp only [Option.bind_some, h1, decide_false, Bool.false_eq_true, if_false]
    rw [w_eq ⟨by omega⟩]
    congr 2
    congr 1
    omega
  | m + 1, k + 1, j, hm, hk, hj => by
    have hle := h.le
    have hpl := hp.lt
    have hne : ∀ i, i < j → wk p n s i ≠ wk p n s j := fun i hi => h.other i j hi (by omega)
    rw [spec_WalkRound.l1, metL_get (wk_in hp hs _), mval_new hp hs hne, specValue_nice hp (wk_in hp hs j) n (by omega) (by omega)]
    simp only [Option.bind_some, show ((-1 : Int) < 0) = True by simp, decide_true, if_true]
    rw [metL_set hp hs hne, w_nat (by omega)]
    exact roundS_l1 hK hp hs n hn h m k (j + 1) (by omega) (by omega) (by omega)
theorem roundS_l0 {K : Nat} {p s n : Int} (hp : isP p) : ∀ (m k i : Nat), p.toNat - i = m → i ≤ p.toNat → spec_WalkRound.l0 K p n s (m + 1 + k) i (List.replicate i (-1) ++ List.replicate (p.toNat - i) 0) = spec_WalkRound.l1 K p n k s 0 (List.replicate p.toNat (-1))
  | 0, k, i, hm, hi => by
    have : i = p.toNat := by omega
    subst this
    rw [show 0 + 1 + k = k + 1 by omega, spec_WalkRound.l0, if_neg (by simp [repl_eq])]
    simp
  | m + 1, k, i, hm, hi => by
    have hpl := hp.lt
    have hr : (List.replicate i (-1 : Int) ++ List.replicate (p.toNat - i) 0).set i (-1) = List.replicate (i + 1) (-1) ++ List.replicate (p.toNat - (i + 1)) 0 := by
      rw [List.set_append_right _ _ (by simp), List.length_replicate, Nat.sub_self, show p.toNat - i = (p.toNat - (i + 1)) + 1 by omega, List.replicate_succ, List.set_cons_zero, List.replicate_succ', List.append_assoc]
      rfl
    have hg : idx (List.replicate i (-1 : Int) ++ List.replicate (p.toNat - i) 0) (i : Int) = some 0 := by
      rw [idx_nat, List.getElem?_append_right (by simp), List.length_replicate, Nat.sub_self, show p.toNat - i = (p.toNat - (i + 1)) + 1 by omega, List.replicate_succ]
      rfl
    rw [show m + 1 + 1 + k = (m + 1 + k) + 1 by omega, spec_WalkRound.l0, if_pos (by simp [repl_eq]; omega), hg, w_nat (by omega)]
    simp only [Option.bind_some, Int.toNat_natCast]
    rw [hr]
    exact roundS_l0 hp m k (i + 1) (by omega) (by omega)
theorem wr_l1 {K : Nat} {p s : Int} {n t l : Nat} (h : RT p n s t l) (N : Nat) (hN : N ≤ 1000) {i : Nat} (hit : i < t) (hiN : i < N) : ∀ (m k j : Nat), N - j = m → i < j → j ≤ N → impl_WalkRound.l1 K (wks p n s N) i (m + 1 + k) j = impl_WalkRound.l0 K (wks p n s N) k ((i + 1 : Nat) : Int)
  | 0, k, j, hm, hij, hj => by
    rw [show 0 + 1 + k = k + 1 by omega, impl_WalkRound.l1, if_neg (by rw [wks_len]; simp; omega), w_nat (by omega)]
  | m + 1, k, j, hm, hij, hj => by
    rw [show m + 1 + 1 + k = (m + 1 + k) + 1 by omega, impl_WalkRound.l1, if_pos (by rw [wks_len]; simp; omega), wks_get (by omega), wks_get hiN, w_nat (by omega)]
    have hne := h.tail hit hij
    simp only [Option.bind_some, beq_iff_eq, hne, if_false]
    exact wr_l1 h N hN hit hiN m k (j + 1) (by omega) (by omega) (by omega)
theorem wr_end {K : Nat} {p s : Int} {n t l : Nat} (h : RT p n s t l) (N : Nat) (hN : N ≤ 1000) (htl : t + l < N) : ∀ (m k j : Nat), t + l - j = m → t < j → j ≤ t + l → impl_WalkRound.l1 K (wks p n s N) t (m + 1 + k) j = some ((t : Int), (l : Int), 0)
  | 0, k, j, hm, hij, hj => by
    have : j = t + l := by omega
    subst this
    rw [show 0 + 1 + k = k + 1 by omega, impl_WalkRound.l1, if_pos (by rw [wks_len]; simp; omega), wks_get (by omega), wks_get (by omega), h.back]
    simp only [Option.bind_some, beq_self_eq_true, if_true]
    rw [w_eq ⟨by omega⟩]
    congr 2
    congr 1
    omega
  | m + 1, k, j, hm, hij, hj => by
    rw [show m + 1 + 1 + k = (m + 1 + k) + 1 by omega, impl_WalkRound.l1, if_pos (by rw [wks_len]; simp; omega), wks_get (by omega), wks_get (by omega), w_nat (by omega)]
    have hne := h.first hij (by omega)
    simp only [Option.bind_some, beq_iff_eq, hne, if_false]
    exact wr_end h N hN htl m k (j + 1) (by omega) (by omega) (by omega)
theorem wr_l0 {K : Nat} {p s : Int} {n t l : Nat} (h : RT p n s t l) (N : Nat) (hN : N ≤ 1000) (htl : t + l < N) : ∀ (m k i : Nat), t - i = m → i ≤ t → impl_WalkRound.l0 K (wks p n s N) (m * (N + 2) + (N + 2) + k) i = some ((t : Int), (l : Int), 0)
  | 0, k, i, hm, hi => by
    have hl := h.l1
    have : i = t := by omega
    subst this
    rw [show 0 * (N + 2) + (N + 2) + k = ((i + l - (i + 1)) + 1 + (N + 2 + k - 1 - (i + l - (i + 1)) - 1)) + 1 by omega, impl_WalkRound.l0, if_pos (by rw [wks_len]; simp; omega), w_nat (by omega)]
    exact wr_end h N hN htl _ _ (i + 1) rfl (by omega) (by omega)
  | m + 1, k, i, hm, hi => by
    have hl := h.l1
    have e : (m + 1) * (N + 2) + (N + 2) + k = ((N - (i + 1)) + 1 + (m * (N + 2) + (N + 2) + (k + 1 + i))) + 1 := by rw [Nat.add_mul]; omega
    rw [e, impl_WalkRound.l0, if_pos (by rw [wks_len]; simp; omega), w_nat (by omega), wr_l1 h N hN (by omega) (by omega) (N - (i + 1)) _ (i + 1) rfl (by omega) (by omega)]
    exact wr_l0 h N hN htl m (k + 1 + i) (i + 1) (by omega) (by omega)
theorem askedR_nice {K : Nat} {p n s : Int} : impl_asked__impl_WalkRound_1.f K p p s n = some (code1i p n s) := by
  unfold impl_asked__impl_WalkRound_1.f impl_WalkRound_1.f impl_isIndex.f
  rw [isField_nice, isNumber_nice]
  unfold code1i
  by_cases hp : isP p <;> by_cases h : inN p s = true <;> by_cases hn : 0 ≤ n <;> by_cases hn2 : n ≤ 1000 <;> simp [hp, h, hn, hn2]
theorem metL_zero {p s : Int} {n : Nat} : metL p n s 0 = List.replicate p.toNat (-1) := by
  apply List.ext_getElem?
  intro i
  rcases Nat.lt_or_ge i p.toNat with h | h
  · simp [metL, mval, h]
  · rw [List.getElem?_eq_none (by rw [metL_len]; exact h), List.getElem?_eq_none (by simpa using h)]
theorem law_FnExactWalkRound {K : Nat} (hK : 5000 ≤ K) (p n s : Int) : laws_FnExactWalkRound.f K p n s = some true := by
  have hK' : 100 ≤ K := by omega
  unfold laws_FnExactWalkRound.f spec_WalkRound.f impl_WalkRound.f
  rw [code5_nice hK', askedR_nice]
  by_cases h : code1i p n s = 0
  · obtain ⟨hp, hs, h1, h2⟩ := code1i_zero h
    have hpl := hp.lt
    obtain ⟨m, rfl⟩ := Int.eq_ofNat_of_zero_le h1
    obtain ⟨t, l, hrt⟩ := rt_ex (n := m) hp hs
    have hle := hrt.le
    have hl1 := hrt.l1
    have e0 : (0 : Int) ≤ p := by omega
    have e1 : p ≤ 1000000 := by omega
    obtain ⟨k, hk⟩ : ∃ k, K = p.toNat + 1 + k := ⟨K - (p.toNat + 1), by omega⟩
    have r0 := roundS_l0 (K := K) (n := (m : Int)) (s := s) hp p.toNat k 0 (by omega) (by omega)
    rw [← hk] at r0
    simp only [List.replicate_zero, List.nil_append, Nat.sub_zero, Int.natCast_zero, Int.ofNat_zero] at r0
    have r1 := roundS_l1 (K := K) hK hp hs m (by omega) hrt (t + l) k 0 (by omega) (by omega) (by omega)
    rw [metL_zero] at r1
    simp only [Int.natCast_zero, Int.ofNat_zero] at r1
    have r2 : spec_WalkRound.l0 K p m s K 0 (List.replicate p.toNat 0) = some ((t : Int), (l : Int), 0) := r0.trans r1
    have hw : wrap64 (wrap64 (2 * p) + 2) = ((2 * p.toNat + 2 : Nat) : Int) := by
      rw [w_eq (x := 2 * p) ⟨by omega⟩, w_eq ⟨by omega⟩]
      omega
    have hsz : t * (2 * p.toNat + 3 + 2) ≤ 31 * 67 := Nat.mul_le_mul (by omega) (by omega)
    obtain ⟨q, hq⟩ : ∃ q, K = t * (2 * p.toNat + 3 + 2) + (2 * p.toNat + 3 + 2) + q := ⟨K - (t * (2 * p.toNat + 3 + 2) + (2 * p.toNat + 3 + 2)), by omega⟩
    have r3 := wr_l0 (K := K) hrt (2 * p.toNat + 3) (by omega) (by omega) t q 0 (by omega) (by omega)
    rw [← hq] at r3
    simp only [Int.natCast_zero, Int.ofNat_zero] at r3
    simp only [h, e0, e1, decide_true, Option.bind_some, beq_self_eq_true, if_true, repl_eq, r2, hw, walk_nice hK hp hs m (by omega) (2 * p.toNat + 2) (by omega), r3]
  · simp [h]
/-! ### Permutations -/
theorem perm_same {K : Nat} (L : List Int) : ∀ (k : Nat) (i : Int) (met : List Bool), spec_IsPermutation.l0 K L k i met = impl_IsPermutation.l0 K L k i met
  | 0, i, met => rfl
  | k + 1, i, met => by
    rw [spec_IsPermutation.l0, impl_IsPermutation.l0]
    split
    · cases h1 : idx L i with
      | none => rfl
      | some v =>
        simp only [Option.bind_some]
        cases h2 : idx met v with
        | none => rfl
        | some b =>
          simp only [Option.bind_some, perm_same L k]
    · rfl
theorem perm_some {K : Nat} {p : Int} (hp : isP p) (L : List Int) (hL : ∀ x ∈ L, In p x) (hl : L.length ≤ 1000) : ∀ (m k i : Nat) (met : List Bool), L.length - i = m → m < k → i ≤ L.length → met.length = p.toNat → ∃ b, impl_IsPermutation.l0 K L k i met = some (b, 0)
  | 0, k + 1, i, met, hm, _, hi, _ => by
    rw [impl_IsPermutation.l0, if_neg (by simp; omega)]
    exact ⟨_, rfl⟩
  | m + 1, k + 1, i, met, hm, hk, hi, hmt => by
    have hlt : i < L.length := by omega
    have hx := (hL L[i] (List.getElem_mem hlt)).out
    obtain ⟨y, hy⟩ := Int.eq_ofNat_of_zero_le hx.1
    have hyl : y < met.length := by omega
    rw [impl_IsPermutation.l0, if_pos (by simpa using hlt), idx_nat, List.getElem?_eq_getElem hlt, w_nat (by omega)]
    simp only [Option.bind_some]
    rw [hy, idx_nat, List.getElem?_eq_getElem hyl]
    simp only [Option.bind_some]
    split
    · exact ⟨_, rfl⟩
    · exact perm_some hp L hL hl m k (i + 1) _ (by omega) (by omega) (by omega) (by rw [List.length_set]; exact hmt)
theorem askedP_nice {K : Nat} {p n : Int} : impl_asked__impl_IsPermutation_1.f K p n = some (codeI p n) := by
  unfold impl_asked__impl_IsPermutation_1.f impl_IsPermutation_1.f impl_isIndex.f
  rw [isField_nice]
  unfold codeI
  by_cases hp : isP p <;> by_cases hn : 0 ≤ n <;> by_cases hn2 : n ≤ 1000 <;> simp [hp, hn, hn2]
theorem law_FnExactIsPermutation {K : Nat} (hK : 5000 ≤ K) (p n : Int) : laws_FnExactIsPermutation.f K p n = some true := by
  have hK' : 100 ≤ K := by omega
  unfold laws_FnExactIsPermutation.f spec_IsPermutation.f impl_IsPermutation.f
  rw [code5n_nice hK', askedP_nice]
  by_cases h : codeI p n = 0
  · obtain ⟨hp, h1, h2⟩ := codeI_zero h
    have hpl := hp.lt
    obtain ⟨m, rfl⟩ := Int.eq_ofNat_of_zero_le h1
    have e0 : (0 : Int) ≤ p := by omega
    have e1 : p ≤ 1000000 := by omega
    have hv : ∀ x ∈ vals p m, In p x := fun x hx => by
      obtain ⟨y, hy, rfl⟩ := List.mem_map.1 hx
      exact u_in hp (In.nat (List.mem_range.1 hy)) m
    obtain ⟨b, hb⟩ := perm_some (K := K) hp (vals p m) hv (by rw [vals_len]; omega) (vals p m).length K 0 (List.replicate p.toNat false) rfl (by rw [vals_len]; omega) (by omega) (by simp)
    simp only [Int.natCast_zero, Int.ofNat_zero] at hb
    simp only [h, e0, e1, decide_true, Option.bind_some, beq_self_eq_true, if_true, specVals_nice hK' hp m (by omega) (by omega), implVals_nice hK' hp m (by omega) (by omega), perm_same, repl_eq, hb]
    cases b <;> simp
  · simp [h]
/-! ### The orders of all spreads -/
theorem order_ex : ∀ n ∈ Pr, ∀ x ∈ List.range n, ∃ k ∈ List.range (4 * n + 4), 1 ≤ k ∧ u (n : Int) (x : Int) k = 0 := of_decide_eq_true (by kernel_rfl)
theorem ord_lt {p s : Int} (hp : isP p) (hs : In p s) : 1 ≤ ordN p s ∧ ordN p s < 4 * p.toNat + 4 := by
  have hop := op_nice hp hs
  have hx : ∃ k ∈ List.range (4 * p.toNat + 4), 1 ≤ k ∧ u p s k = 0 := by
    obtain ⟨n, hn, rfl⟩ := hp.mem
    have hs' := hs.out
    obtain ⟨y, rfl⟩ := Int.eq_ofNat_of_zero_le hs'.1
    have := order_ex n hn y (List.mem_range.2 (by omega))
    simpa using this
  obtain ⟨k, hk, k1, k2⟩ := hx
  have := List.mem_range.1 hk
  refine ⟨hop.o1, ?_⟩
  apply Nat.lt_of_le_of_lt _ this
  exact Nat.le_of_not_lt fun hlt => hop.ol k k1 hlt k2
/-- How many spreads below i have the order k. -/
noncomputable def oc (p : Int) (i k : Nat) : Nat := ((List.range i).filter fun s => ordN p ((s : Nat) : Int) == k).length
theorem oc_succ {p : Int} {i k : Nat} : oc p (i + 1) k = oc p i k + if ordN p (i : Int) = k then 1 else 0 := by
  unfold oc
  rw [List.range_succ, List.filter_append, List.length_append]
  congr 1
  by_cases h : ordN p (i : Int) = k <;> simp [h]
theorem oc_le {p : Int} {i k : Nat} : oc p i k ≤ i := by
  have := List.length_filter_le (fun s => ordN p ((s : Nat) : Int) == k) (List.range i)
  simpa [oc] using this
theorem oc_none {p : Int} (hp : isP p) {i k : Nat} (hi : i ≤ p.toNat) (hk : k = 0 ∨ 4 * p.toNat + 4 ≤ k) : oc p i k = 0 := by
  unfold oc
  rw [List.length_eq_zero_iff, List.filter_eq_nil_iff]
  intro s hs
  have hlt := ord_lt hp (In.nat (p := p) (i := s) (by have := List.mem_range.1 hs; omega))
  simp only [beq_iff_eq]
  omega
noncomputable def cr (p : Int) (N i : Nat) : List Int := (List.range N).map fun k => ((oc p i k : Nat) : Int)
theorem cr_len {p : Int} {N i : Nat} : (cr p N i).length = N := by simp [cr]
theorem cr_get {p : Int} {N i k : Nat} (h : k < N) : idx (cr p N i) (k : Int) = some ((oc p i k : Nat) : Int) := by
  rw [idx_nat]
  simp [cr, h]
theorem cr_zero {p : Int} {N : Nat} : cr p N 0 = List.replicate N 0 := by
  apply List.ext_getElem?
  intro i
  rcases Nat.lt_or_ge i N with h | h
  · simp [cr, oc, h]
  · rw [List.getElem?_eq_none (by rw [cr_len]; exact h), List.getElem?_eq_none (by simpa using h)]
theorem cr_set {p : Int} {N i : Nat} (h : ordN p (i : Int) < N) : (cr p N i).set (ordN p (i : Int)) ((oc p i (ordN p (i : Int)) + 1 : Nat) : Int) = cr p N (i + 1) := by
  apply List.ext_getElem?
  intro x
  rcases Nat.lt_or_ge x N with hx | hx
  · have e1 : (cr p N (i + 1))[x]? = some ((oc p (i + 1) x : Nat) : Int) := by simp [cr, hx]
    have e2 : (cr p N i)[x]? = some ((oc p i x : Nat) : Int) := by simp [cr, hx]
    rw [e1, oc_succ]
    by_cases hxe : ordN p (i : Int) = x
    · rw [hxe, List.getElem?_set_self (by rw [cr_len]; exact hx), if_pos rfl]
    · rw [List.getElem?_set_ne hxe, e2, if_neg hxe]
      rfl
  · rw [List.getElem?_eq_none (by rw [List.length_set, cr_len]; exact hx), List.getElem?_eq_none (by rw [cr_len]; exact hx)]
noncomputable def oB (p : Int) (k : Nat) : Bool := decide (0 < oc p p.toNat k)
theorem ooS_l1 {K : Nat} {p : Int} (hp : isP p) {w : Int} (N : Nat) (hw : w = (N : Int)) (hN : N ≤ 2000) : ∀ (m k i : Nat) (xs ys : List Int), N - i = m → m < k → i ≤ N → xs.length ≤ i → ys.length ≤ i → wrap64 (wrap64 (4 * p) + 4) = w →
    spec_OrdersOf.l1 K p (cr p N p.toNat) k i xs ys = some (xs ++ ((List.range' i m).filter (oB p)).map (fun (k : Nat) => (k : Int)), ys ++ ((List.range' i m).filter (oB p)).map (fun (k : Nat) => ((oc p p.toNat k : Nat) : Int)), 0)
  | 0, k + 1, i, xs, ys, hm, _, hi, _, _, hww => by
    rw [spec_OrdersOf.l1, hww, if_neg (by simp [repl_eq]; omega)]
    simp
  | m + 1, k + 1, i, xs, ys, hm, hk, hi, hx, hy, hww => by
    rw [spec_OrdersOf.l1, hww, if_pos (by simp [repl_eq]; omega), cr_get (by omega), w_nat (by omega)]
    simp only [Option.bind_some, List.range'_succ, List.filter_cons]
    by_cases hb : oB p i = true
    · have hb' : (0 : Int) < ((oc p p.toNat i : Nat) : Int) := by have := of_decide_eq_true hb; omega
      have l1 : xs.length ≤ 1000000 := by omega
      have l2 : ys.length ≤ 1000000 := by omega
      simp only [hb, hb', l1, l2, decide_true, if_true]
      rw [ooS_l1 hp N hw hN m k (i + 1) _ _ (by omega) (by omega) (by omega) (by simp; omega) (by simp; omega) hww]
      simp
    · have hb' : ¬ (0 : Int) < ((oc p p.toNat i : Nat) : Int) := fun h => hb (decide_eq_true (by omega))
      simp only [hb, hb', decide_false, if_false, Bool.false_eq_true]
      exact ooS_l1 hp N hw hN m k (i + 1) _ _ (by omega) (by omega) (by omega) (by omega) (by omega) hww
theorem ooI_l1 {K : Nat} {p : Int} (hp : isP p) {w : Int} (N : Nat) (hw : w = (N : Int)) (hN : N ≤ 2000) : ∀ (m k i : Nat) (xs ys : List Int), N - i = m → m < k → i ≤ N → xs.length ≤ i → ys.length ≤ i → wrap64 (wrap64 (wrap64 (2 * p) * p) + 3) = w →
    impl_OrdersOf.l1 K p (cr p N p.toNat) k i xs ys = some (xs ++ ((List.range' i m).filter (oB p)).map (fun (k : Nat) => (k : Int)), ys ++ ((List.range' i m).filter (oB p)).map (fun (k : Nat) => ((oc p p.toNat k : Nat) : Int)), 0)
  | 0, k + 1, i, xs, ys, hm, _, hi, _, _, hww => by
    rw [impl_OrdersOf.l1, hww, if_neg (by simp [repl_eq]; omega)]
    simp
  | m + 1, k + 1, i, xs, ys, hm, hk, hi, hx, hy, hww => by
    rw [impl_OrdersOf.l1, hww, if_pos (by simp [repl_eq]; omega), cr_get (by omega), w_nat (by omega)]
    simp only [Option.bind_some, List.range'_succ, List.filter_cons]
    by_cases hb : oB p i = true
    · have hb' : (0 : Int) < ((oc p p.toNat i : Nat) : Int) := by have := of_decide_eq_true hb; omega
      have l1 : xs.length ≤ 1000000 := by omega
      have l2 : ys.length ≤ 1000000 := by omega
      simp only [hb, hb', l1, l2, decide_true, if_true]
      rw [ooI_l1 hp N hw hN m k (i + 1) _ _ (by omega) (by omega) (by omega) (by simp; omega) (by simp; omega) hww]
      simp
    · have hb' : ¬ (0 : Int) < ((oc p p.toNat i : Nat) : Int) := fun h => hb (decide_eq_true (by omega))
      simp only [hb, hb', decide_false, if_false, Bool.false_eq_true]
      exact ooI_l1 hp N hw hN m k (i + 1) _ _ (by omega) (by omega) (by omega) (by omega) (by omega) hww
theorem ooS_l0 {K : Nat} (hK : 5000 ≤ K) {p : Int} (hp : isP p) (N : Nat) (hN : 4 * p.toNat + 4 ≤ N) (hN2 : N ≤ 2000) : ∀ (m k i : Nat), p.toNat - i = m → i ≤ p.toNat → spec_OrdersOf.l0 K p (m + 1 + k) i (cr p N i) = spec_OrdersOf.l1 K p (cr p N p.toNat) k 1 [] []
  | 0, k, i, hm, hi => by
    have hpl := hp.lt
    have : i = p.toNat := by omega
    subst this
    rw [show 0 + 1 + k = k + 1 by omega, spec_OrdersOf.l0, if_neg (by simp; omega)]
  | m + 1, k, i, hm, hi => by
    have hpl := hp.lt
    have hin : In p (i : Int) := In.nat (by omega)
    have ho := ord_lt hp hin
    have hle := oc_le (p := p) (i := i) (k := ordN p (i : Int))
    rw [show m + 1 + 1 + k = (m + 1 + k) + 1 by omega, spec_OrdersOf.l0, if_pos (by simp; omega), specOrder_nice (by omega) hp hin (op_nice hp hin), w_nat (by omega)]
    simp only [Option.bind_some]
    rw [cr_get (by omega)]
    simp only [Option.bind_some, Int.toNat_natCast]
    rw [w_nat (by omega), cr_set (by omega)]
    exact ooS_l0 hK hp N hN hN2 m k (i + 1) (by omega) (by omega)
theorem ooI_l0 {K : Nat} (hK : 5000 ≤ K) {p : Int} (hp : isP p) (N : Nat) (hN : 4 * p.toNat + 4 ≤ N) (hN2 : N ≤ 2000) : ∀ (m k i : Nat), p.toNat - i = m → i ≤ p.toNat → impl_OrdersOf.l0 K p (m + 1 + k) i (cr p N i) = impl_OrdersOf.l1 K p (cr p N p.toNat) k 0 [] []
  | 0, k, i, hm, hi => by
    have hpl := hp.lt
    have : i = p.toNat := by omega
    subst this
    rw [show 0 + 1 + k = k + 1 by omega, impl_OrdersOf.l0, if_neg (by simp; omega)]
  | m + 1, k, i, hm, hi => by
    have hpl := hp.lt
    have hin : In p (i : Int) := In.nat (by omega)
    have ho := ord_lt hp hin
    have hle := oc_le (p := p) (i := i) (k := ordN p (i : Int))
    rw [show m + 1 + 1 + k = (m + 1 + k) + 1 by omega, impl_OrdersOf.l0, if_pos (by simp; omega), orderOf_nice hK hp hin (op_nice hp hin), w_nat (by omega)]
    simp only [Option.bind_some]
    rw [cr_get (by omega)]
    simp only [Option.bind_some, Int.toNat_natCast]
    rw [w_nat (by omega), cr_set (by omega)]
    exact ooI_l0 hK hp N hN hN2 m k (i + 1) (by omega) (by omega)
theorem oB_rows {p : Int} (hp : isP p) {N : Nat} (hN : 4 * p.toNat + 4 ≤ N) : (List.range' 0 N).filter (oB p) = (List.range' 1 (4 * p.toNat + 3)).filter (oB p) := by
  have e : List.range' 0 N = List.range' 0 1 ++ (List.range' 1 (4 * p.toNat + 3) ++ List.range' (4 * p.toNat + 4) (N - (4 * p.toNat + 4))) := by
    have h1 := List.range'_append_1 (s := 1) (m := 4 * p.toNat + 3) (n := N - (4 * p.toNat + 4))
    rw [show 1 + (4 * p.toNat + 3) = 4 * p.toNat + 4 by omega] at h1
    have h2 := List.range'_append_1 (s := 0) (m := 1) (n := 4 * p.toNat + 3 + (N - (4 * p.toNat + 4)))
    rw [Nat.zero_add, show 1 + (4 * p.toNat + 3 + (N - (4 * p.toNat + 4))) = N by omega] at h2
    rw [h1, h2]
  rw [e, List.filter_append, List.filter_append]
  have a : (List.range' 0 1).filter (oB p) = [] := by
    rw [List.filter_eq_nil_iff]
    intro k hk
    have : k = 0 := by simpa using hk
    subst this
    unfold oB
    rw [oc_none hp (Nat.le_refl _) (Or.inl rfl)]
    simp
  have b : (List.range' (4 * p.toNat + 4) (N - (4 * p.toNat + 4))).filter (oB p) = [] := by
    rw [List.filter_eq_nil_iff]
    intro k hk
    have hk' := (List.mem_range'_1.1 hk).1
    unfold oB
    rw [oc_none hp (Nat.le_refl _) (Or.inr hk')]
    simp
  rw [a, b, List.nil_append, List.append_nil]
noncomputable def ansOO (p : Int) : List Int × List Int × Int := if isP p then (((List.range' 1 (4 * p.toNat + 3)).filter (oB p)).map (fun (k : Nat) => (k : Int)), ((List.range' 1 (4 * p.toNat + 3)).filter (oB p)).map (fun (k : Nat) => ((oc p p.toNat k : Nat) : Int)), 0) else ([], [], 1)
theorem ansOO_len {p : Int} : (ansOO p).1.length ≤ 200 ∧ (ansOO p).2.1.length ≤ 200 := by
  unfold ansOO
  split
  · have hp : isP p := by assumption
    have hpl := hp.lt
    have := List.length_filter_le (oB p) (List.range' 1 (4 * p.toNat + 3))
    rw [List.length_range'] at this
    simp only [List.length_map]
    omega
  · simp
theorem numbers0_nice {K : Nat} (hK : 100 ≤ K) {p : Int} : spec_l01Numbers.f K p [] = some (if isP p then 0 else 1) := by
  rw [numbers_nice [] (by simp) (by simp; omega)]
  simp
theorem specOO {K : Nat} (hK : 5000 ≤ K) {p : Int} : spec_OrdersOf.f K p = some (ansOO p) := by
  unfold spec_OrdersOf.f ansOO
  rw [numbers0_nice (by omega)]
  by_cases hp : isP p
  · have hpl := hp.lt
    have hw : wrap64 (wrap64 (4 * p) + 4) = ((4 * p.toNat + 4 : Nat) : Int) := by
      rw [w_eq (x := 4 * p) ⟨by omega⟩, w_eq ⟨by omega⟩]
      omega
    obtain ⟨k, hk⟩ : ∃ k, K = p.toNat + 1 + k := ⟨K - (p.toNat + 1), by omega⟩
    have r0 := ooS_l0 (K := K) hK hp (4 * p.toNat + 4) (Nat.le_refl _) (by omega) p.toNat k 0 (by omega) (by omega)
    rw [← hk, cr_zero] at r0
    simp only [Int.natCast_zero, Int.ofNat_zero] at r0
    have r1 := ooS_l1 (K := K) hp (4 * p.toNat + 4) rfl (by omega) (4 * p.toNat + 3) k 1 [] [] (by omega) (by omega) (by omega) (by simp) (by simp) hw
    simp only [List.nil_append, Int.natCast_one, Int.ofNat_one] at r1
    have e0 : (0 : Int) ≤ ((4 * p.toNat + 4 : Nat) : Int) := by omega
    have e1 : ((4 * p.toNat + 4 : Nat) : Int) ≤ 1000000 := by omega
    simp only [hp, if_true, Option.bind_some, beq_self_eq_true, hw, e0, e1, decide_true, Int.toNat_natCast, repl_eq]
    exact r0.trans r1
  · simp [hp]
theorem implOO {K : Nat} (hK : 5000 ≤ K) {p : Int} : impl_OrdersOf.f K p = some (ansOO p) := by
  unfold impl_OrdersOf.f ansOO
  rw [isField_nice]
  by_cases hp : isP p
  · have hpl := hp.lt
    obtain ⟨n, rfl⟩ := Int.eq_ofNat_of_zero_le (show 0 ≤ p by omega)
    have hn : n ≤ 31 := by omega
    have hn3 : 3 * n ≤ n * n := Nat.mul_le_mul (by omega) (Nat.le_refl _)
    have hnn : n * n ≤ 31 * 31 := Nat.mul_le_mul hn hn
    have hw : wrap64 (wrap64 (wrap64 (2 * (n : Int)) * (n : Int)) + 3) = ((2 * n * n + 3 : Nat) : Int) := by
      simp (disch := exact Sm.of (by repeat' first | exact B.p hp | apply B.add | apply B.sub | apply B.mul | exact B.const _) rfl) only [w_eq]
      simp [Int.natCast_mul]
    have hmul : 2 * n * n = 2 * (n * n) := Nat.mul_assoc ..
    obtain ⟨k, hk⟩ : ∃ k, K = n + 1 + k := ⟨K - (n + 1), by omega⟩
    have r0 := ooI_l0 (K := K) hK hp (2 * n * n + 3) (by simp; omega) (by omega) n k 0 (by simp) (by simp)
    rw [← hk, cr_zero] at r0
    simp only [Int.natCast_zero, Int.ofNat_zero] at r0
    have r1 := ooI_l1 (K := K) hp (2 * n * n + 3) rfl (by omega) (2 * n * n + 3) k 0 [] [] (by omega) (by omega) (by omega) (by simp) (by simp) hw
    simp only [List.nil_append, Int.natCast_zero, Int.ofNat_zero] at r1
    rw [oB_rows hp (by simp; omega)] at r1
    have e0 : (0 : Int) ≤ ((2 * n * n + 3 : Nat) : Int) := by omega
    have e1 : ((2 * n * n + 3 : Nat) : Int) ≤ 1000000 := by omega
    simp only [hp, if_true, Option.bind_some, beq_self_eq_true, hw, e0, e1, decide_true, Int.toNat_natCast, repl_eq]
    exact r0.trans r1
  · simp [hp]
theorem law_FnExactOrdersOf {K : Nat} (hK : 5000 ≤ K) (p : Int) : laws_FnExactOrdersOf.f K p = some true := by
  have hlen := ansOO_len (p := p)
  unfold laws_FnExactOrdersOf.f
  rw [specOO hK, implOO hK]
  generalize ansOO p = z at *
  obtain ⟨xs, ys, code⟩ := z
  simp only at hlen ⊢
  obtain ⟨hx, hy⟩ := hlen
  simp only [Option.bind_some]
  rw [eqI_nice xs (by omega) (by omega), eqI_nice ys (by omega) (by omega), markI_nice xs (by omega) (by omega)]
  simp only [Option.bind_some]
  rw [markF_nice (xs.length + 1) (by omega) ys (by omega) (by omega), heldI_nice xs.length (by omega) (by omega)]
  simp only [Option.bind_some]
  rw [heldF_nice (xs.length + 1) (by omega) ys.length (by omega) (by omega)]
  have hneg : ¬ (((xs.length + 1 : Nat) : Int) < 0) := by omega
  have hneg2 : ¬ (((xs.length + 1 + ys.length : Nat) : Int) < 0) := by omega
  simp only [Option.bind_some, beq_self_eq_true, if_true, hneg, hneg2, decide_false, Bool.false_eq_true, if_false]
end Go.Proofs.Ythmfgkdhaookoaa
