/- Plain laws: what the reference draws from a code is there. -/
import Derived.Test.YtccbmdpikalpfaaM0
import Derived.Laws.BitsLemmas
namespace Go.Proofs.Ytccbmdpikalpfaa
open Go Go.RowKit
set_option linter.unusedVariables false
set_option linter.unusedSimpArgs false
theorem mask_le (x : Int) : 0 ≤ bits .and .u64 (IntKind.u64.wrap x / 8589934592) 16777215 ∧ bits .and .u64 (IntKind.u64.wrap x / 8589934592) 16777215 ≤ 16777215 := by
  have hw : IntKind.u64.wrap x = x % 18446744073709551616 := by simp [IntKind.wrap, IntKind.bits, IntKind.signed]
  have h0 : 0 ≤ IntKind.u64.wrap x / 8589934592 := by rw [hw]; omega
  have h1 : IntKind.u64.wrap x / 8589934592 < 2 ^ 31 := by
    have e : (2 : Int) ^ 31 = 2147483648 := by decide
    rw [hw, e]
    omega
  have := bits_mask .u64 31 (by decide) (fun n a b => by
    have e : (2 : Int) ^ 31 = 2147483648 := by decide
    rw [e] at b
    have : IntKind.u64.wrap n = n % 18446744073709551616 := by simp [IntKind.wrap, IntKind.bits, IntKind.signed]
    omega) 24 (by decide) _ h0 h1
  have e : (2 : Int) ^ 24 = 16777216 := by decide
  rw [e, show (16777216 : Int) - 1 = 16777215 from rfl] at this
  rw [this]
  omega
theorem tmod_in {x n : Int} (hx : 0 ≤ x) (hn : 1 ≤ n) : 0 ≤ Int.tmod x n ∧ Int.tmod x n < n := ⟨Int.tmod_nonneg _ hx, Int.tmod_lt_of_pos x (by omega)⟩
theorem next_ex {K : Nat} {bs : List Int} {i h : Int} (hb : ∀ x ∈ bs, 0 ≤ x ∧ x < 256) (hl : bs.length ≤ 4096) (hi : 0 ≤ i ∧ i ≤ 4096) (n : Int) :
    ∃ r i' h', spec_l01Next.f K bs i h n = some (r, i', h') ∧ (1 ≤ n → 0 ≤ r ∧ r < n) ∧ 0 ≤ i' ∧ i' ≤ 4096 := by
  unfold spec_l01Next.f
  by_cases hn1 : n < 1
  · rw [if_pos (decide_eq_true hn1)]
    exact ⟨_, _, _, rfl, fun h => by omega, hi⟩
  have hn : 1 ≤ n := by omega
  have d0 : ¬ decide (n < 1) = true := by simp only [decide_eq_true_eq]; omega
  have d1 : ¬ ((n == 0) = true) := by simp only [beq_iff_eq]; omega
  have hm := mask_le (IntKind.u64.wrap (h * 6364136223846793005) + 1442695040888963407)
  rw [if_neg d0]
  generalize IntKind.u64.wrap (IntKind.u64.wrap (h * 6364136223846793005) + 1442695040888963407) = w at hm ⊢
  generalize bits .and .u64 (w / 8589934592) 16777215 = m at hm ⊢
  have wm : wrap64 m = m := w_eq ⟨by omega⟩
  by_cases hc : i < (bs.length : Int)
  · obtain ⟨j, rfl⟩ := Int.eq_ofNat_of_zero_le hi.1
    have hj : j < bs.length := by omega
    have hx := hb bs[j] (List.getElem_mem hj)
    have hg : idx bs (j : Int) = some bs[j] := by rw [idx_nat]; simp [hj]
    have wx : wrap64 bs[j] = bs[j] := w_eq ⟨by omega⟩
    have ws : wrap64 (m + bs[j]) = m + bs[j] := w_eq ⟨by omega⟩
    have wj : wrap64 ((j : Int) + 1) = (j : Int) + 1 := w_eq ⟨by omega⟩
    rw [if_pos (decide_eq_true hc), hg, Option.bind_some, if_neg d1, wm, wx, ws, wj]
    exact ⟨_, _, _, rfl, fun _ => tmod_in (by omega) hn, by omega, by omega⟩
  · rw [if_neg (by simpa using hc), if_neg d1, wm]
    exact ⟨_, _, _, rfl, fun _ => tmod_in (by omega) hn, hi⟩
theorem pick_ex {K : Nat} {bs : List Int} {i h : Int} (hb : ∀ x ∈ bs, 0 ≤ x ∧ x < 256) (hl : bs.length ≤ 4096) (hi : 0 ≤ i ∧ i ≤ 4096) (xs : List Int) (hx : 0 < xs.length) :
    ∃ v i' h', spec_l01Pick.f K bs i h xs = some (v, i', h') ∧ v ∈ xs ∧ 0 ≤ i' ∧ i' ≤ 4096 := by
  unfold spec_l01Pick.f
  obtain ⟨r, i', h', e, hr, hi'⟩ := next_ex (K := K) (h := h) hb hl hi (xs.length : Int)
  have hr := hr (by omega)
  obtain ⟨j, rfl⟩ := Int.eq_ofNat_of_zero_le hr.1
  have hj : j < xs.length := by omega
  have hg : idx xs (j : Int) = some xs[j] := by rw [idx_nat]; simp [hj]
  simp only [e, Option.bind_some, hg]
  exact ⟨_, _, _, rfl, List.getElem_mem hj, hi'⟩
theorem drawField_ex {K : Nat} {bs : List Int} {i h : Int} (hb : ∀ x ∈ bs, 0 ≤ x ∧ x < 256) (hl : bs.length ≤ 4096) (hi : 0 ≤ i ∧ i ≤ 4096) :
    ∃ p i' h', spec_l01DrawField.f K bs i h = some (p, i', h') ∧ isP p ∧ 0 ≤ i' ∧ i' ≤ 4096 := by
  unfold spec_l01DrawField.f
  obtain ⟨v, i', h', e, hv, hi'⟩ := pick_ex (K := K) (h := h) hb hl hi [3, 5, 5, 7, 7, 11, 13, 13, 17, 19, 23, 29, 31] (by decide)
  simp only [e, Option.bind_some]
  refine ⟨_, _, _, rfl, ?_, hi'⟩
  simp only [List.mem_cons, List.not_mem_nil, or_false] at hv
  unfold isP
  omega
theorem badField_ex {K : Nat} {bs : List Int} {i h : Int} (hb : ∀ x ∈ bs, 0 ≤ x ∧ x < 256) (hl : bs.length ≤ 4096) (hi : 0 ≤ i ∧ i ≤ 4096) (p : Int) :
    ∃ c i' h', spec_l01BadField.f K bs i h p = some (c, i', h') ∧ 0 ≤ i' ∧ i' ≤ 4096 := by
  unfold spec_l01BadField.f
  obtain ⟨r, i1, h1, e1, _, q1⟩ := next_ex (K := K) (h := h) hb hl hi 40
  obtain ⟨v, i2, h2, e2, _, q2⟩ := pick_ex (K := K) (h := h1) hb hl q1 [2, 1, 0, -3, 9, 15, 37, 1099511627776] (by decide)
  simp only [e1, e2, Option.bind_some]
  split
  · exact ⟨_, _, _, rfl, q2⟩
  · exact ⟨_, _, _, rfl, q1⟩
theorem from_l0 {K : Nat} {bs : List Int} (hl : bs.length ≤ 4096) : ∀ (m k i : Nat) (h : Int), bs.length - i = m → m < k → i ≤ bs.length → ∃ h', spec_l01From.l0 K bs k i 0 h = some (0, h')
  | 0, k + 1, i, h, hm, _, hi => by
    have : ¬ decide ((i : Int) < (bs.length : Int)) = true := by simp only [decide_eq_true_eq]; omega
    rw [spec_l01From.l0, if_neg this]
    exact ⟨_, rfl⟩
  | m + 1, k + 1, i, h, hm, hk, hi => by
    have hj : i < bs.length := by omega
    have hg : idx bs (i : Int) = some bs[i] := by rw [idx_nat]; simp [hj]
    rw [spec_l01From.l0, if_pos (decide_eq_true (by omega)), if_pos (decide_eq_true (by omega)), hg, Option.bind_some, w_nat (by omega)]
    exact from_l0 hl m k (i + 1) _ (by omega) (by omega) (by omega)
  | _, 0, _, _, _, hk, _ => absurd hk (Nat.not_lt_zero _)
theorem from_ex {K : Nat} (hK : 5000 ≤ K) {bs : List Int} (hl : bs.length ≤ 4096) : ∃ h', spec_l01From.f K bs = some (0, h') := by
  unfold spec_l01From.f
  exact from_l0 hl bs.length K 0 _ (by omega) (by omega) (by omega)
theorem near_ex {K : Nat} {bs : List Int} {i h : Int} (hb : ∀ x ∈ bs, 0 ≤ x ∧ x < 256) (hl : bs.length ≤ 4096) (hi : 0 ≤ i ∧ i ≤ 4096) (n : Int) :
    ∃ c i' h', spec_l01Near.f K bs i h n = some (c, i', h') ∧ 0 ≤ i' ∧ i' ≤ 4096 := by
  unfold spec_l01Near.f
  obtain ⟨r, i1, h1, e1, _, q1⟩ := next_ex (K := K) (h := h) hb hl hi 14
  obtain ⟨v, i2, h2, e2, _, q2⟩ := pick_ex (K := K) (h := h1) hb hl q1 [-1, wrap64 (n + 1), 1099511627776, -4611686018427387904] (by simp)
  obtain ⟨r3, i3, h3, e3, _, q3⟩ := next_ex (K := K) (h := h1) hb hl q1 (wrap64 (n + 1))
  simp only [e1, e2, e3, Option.bind_some]
  split
  · exact ⟨_, _, _, rfl, q2⟩
  · exact ⟨_, _, _, rfl, q3⟩
theorem draw5_ex {K : Nat} (hK : 5000 ≤ K) {bs : List Int} (hb : ∀ x ∈ bs, 0 ≤ x ∧ x < 256) (hl : bs.length ≤ 4096) : ∃ p n s, spec_l05Draw.f K bs = some (p, n, s) := by
  unfold spec_l05Draw.f
  obtain ⟨h0, e0⟩ := from_ex hK hl
  obtain ⟨p, i1, h1, e1, hp, q1⟩ := drawField_ex (K := K) (h := h0) hb hl ⟨Int.le_refl 0, by omega⟩
  obtain ⟨a, i2, h2, e2, q2⟩ := near_ex (K := K) (h := h1) hb hl q1 40
  obtain ⟨n, i3, h3, e3, _, q3⟩ := pick_ex (K := K) (h := h2) hb hl q2 [0, 1, 2, 3, 4, 5, 6, 7, 12, wrap64 (p - 1), p, wrap64 (p + 1), a, 1000, 1001] (by simp)
  obtain ⟨s, i4, h4, e4, q4⟩ := near_ex (K := K) (h := h3) hb hl q3 (wrap64 (p - 1))
  obtain ⟨f, i5, h5, e5, q5⟩ := badField_ex (K := K) (h := h4) hb hl q4 p
  simp only [e0, e1, e2, e3, e4, e5, Option.bind_some]
  exact ⟨_, _, _, rfl⟩
theorem drawC_ex {K : Nat} (hK : 5000 ≤ K) {bs : List Int} (hb : ∀ x ∈ bs, 0 ≤ x ∧ x < 256) (hl : bs.length ≤ 4096) : ∃ p n, spec_DrawCoefficientsOf.f K bs = some (p, n) := by
  unfold spec_DrawCoefficientsOf.f
  obtain ⟨h0, e0⟩ := from_ex hK hl
  obtain ⟨p, i1, h1, e1, hp, q1⟩ := drawField_ex (K := K) (h := h0) hb hl ⟨Int.le_refl 0, by omega⟩
  obtain ⟨a, i2, h2, e2, q2⟩ := near_ex (K := K) (h := h1) hb hl q1 40
  obtain ⟨f, i5, h5, e5, q5⟩ := badField_ex (K := K) (h := h2) hb hl q2 p
  simp only [e0, e1, e2, e5, Option.bind_some]
  exact ⟨_, _, rfl⟩
end Go.Proofs.Ytccbmdpikalpfaa
