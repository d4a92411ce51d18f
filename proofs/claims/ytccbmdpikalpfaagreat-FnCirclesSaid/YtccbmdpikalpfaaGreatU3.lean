/- Plain laws: what the reference draws from a code is there: circles, and four points. -/
import Derived.Test.YtccbmdpikalpfaaGreatC2
import Derived.Laws.BitsLemmas
namespace Go.Proofs.YtccbmdpikalpfaaGreat
open Go Go.RowKit
set_option linter.unusedVariables false
set_option linter.unusedSimpArgs false
theorem mask_le (x : Int) : 0 ≤ bits .and .u64 (IntKind.u64.wrap x / 8589934592) 16777215 ∧ bits .and .u64 (IntKind.u64.wrap x / 8589934592) 16777215 ≤ 16777215 := by
  have hw : IntKind.u64.wrap x = x % 18446744073709551616 := by simp [IntKind.wrap, IntKind.bits, IntKind.signed]
  have h0 : 0 ≤ IntKind.u64.wrap x / 8589934592 := by rw [hw]; omega
  have h1 : IntKind.u64.wrap x / 8589934592 < 2 ^ 31 := by
    have e : (2 : Int) ^ 31 = 2147483648 := by decide
    rw [hw, e]
    omega
  have := bits_mask .u64 31 (by decide) (fun n a b => by
    have e : (2 : Int) ^ 31 = 2147483648 := by decide
    rw [e] at b
    have : IntKind.u64.wrap n = n % 18446744073709551616 := by simp [IntKind.wrap, IntKind.bits, IntKind.signed]
    omega) 24 (by decide) _ h0 h1
  have e : (2 : Int) ^ 24 = 16777216 := by decide
  rw [e, show (16777216 : Int) - 1 = 16777215 from rfl] at this
  rw [this]
  omega
theorem tmod_in {x n : Int} (hx : 0 ≤ x) (hn : 1 ≤ n) : 0 ≤ Int.tmod x n ∧ Int.tmod x n < n := ⟨Int.tmod_nonneg _ hx, Int.tmod_lt_of_pos x (by omega)⟩
theorem next_ex {K : Nat} {bs : List Int} {i h : Int} (hb : ∀ x ∈ bs, 0 ≤ x ∧ x < 256) (hl : bs.length ≤ 4096) (hi : 0 ≤ i ∧ i ≤ 4096) (n : Int) :
    ∃ r i' h', spec_l01Next.f K bs i h n = some (r, i', h') ∧ (1 ≤ n → 0 ≤ r ∧ r < n) ∧ 0 ≤ i' ∧ i' ≤ 4096 := by
  unfold spec_l01Next.f
  by_cases hn1 : n < 1
  · rw [if_pos (decide_eq_true hn1)]
    exact ⟨_, _, _, rfl, fun h => by omega, hi⟩
  have hn : 1 ≤ n := by omega
  have d0 : ¬ decide (n < 1) = true := by simp only [decide_eq_true_eq]; omega
  have d1 : ¬ ((n == 0) = true) := by simp only [beq_iff_eq]; omega
  have hm := mask_le (IntKind.u64.wrap (h * 6364136223846793005) + 1442695040888963407)
  rw [if_neg d0]
  generalize IntKind.u64.wrap (IntKind.u64.wrap (h * 6364136223846793005) + 1442695040888963407) = w at hm ⊢
  generalize bits .and .u64 (w / 8589934592) 16777215 = m at hm ⊢
  have wm : wrap64 m = m := w_eq ⟨by omega⟩
  by_cases hc : i < (bs.length : Int)
  · obtain ⟨j, rfl⟩ := Int.eq_ofNat_of_zero_le hi.1
    have hj : j < bs.length := by omega
    have hx := hb bs[j] (List.getElem_mem hj)
    have hg : idx bs (j : Int) = some bs[j] := by rw [idx_nat]; simp [hj]
    have wx : wrap64 bs[j] = bs[j] := w_eq ⟨by omega⟩
    have ws : wrap64 (m + bs[j]) = m + bs[j] := w_eq ⟨by omega⟩
    have wj : wrap64 ((j : Int) + 1) = (j : Int) + 1 := w_eq ⟨by omega⟩
    rw [if_pos (decide_eq_true hc), hg, Option.bind_some, if_neg d1, wm, wx, ws, wj]
    exact ⟨_, _, _, rfl, fun _ => tmod_in (by omega) hn, by omega, by omega⟩
  · rw [if_neg (by simpa using hc), if_neg d1, wm]
    exact ⟨_, _, _, rfl, fun _ => tmod_in (by omega) hn, hi⟩
theorem pick_ex {K : Nat} {bs : List Int} {i h : Int} (hb : ∀ x ∈ bs, 0 ≤ x ∧ x < 256) (hl : bs.length ≤ 4096) (hi : 0 ≤ i ∧ i ≤ 4096) (xs : List Int) (hx : 0 < xs.length) :
    ∃ v i' h', spec_l01Pick.f K bs i h xs = some (v, i', h') ∧ v ∈ xs ∧ 0 ≤ i' ∧ i' ≤ 4096 := by
  unfold spec_l01Pick.f
  obtain ⟨r, i', h', e, hr, hi'⟩ := next_ex (K := K) (h := h) hb hl hi (xs.length : Int)
  have hr := hr (by omega)
  obtain ⟨j, rfl⟩ := Int.eq_ofNat_of_zero_le hr.1
  have hj : j < xs.length := by omega
  have hg : idx xs (j : Int) = some xs[j] := by rw [idx_nat]; simp [hj]
  simp only [e, Option.bind_some, hg]
  exact ⟨_, _, _, rfl, List.getElem_mem hj, hi'⟩
theorem drawField_ex {K : Nat} {bs : List Int} {i h : Int} (hb : ∀ x ∈ bs, 0 ≤ x ∧ x < 256) (hl : bs.length ≤ 4096) (hi : 0 ≤ i ∧ i ≤ 4096) :
    ∃ p i' h', spec_l01DrawField.f K bs i h = some (p, i', h') ∧ isP p ∧ 0 ≤ i' ∧ i' ≤ 4096 := by
  unfold spec_l01DrawField.f
  obtain ⟨v, i', h', e, hv, hi'⟩ := pick_ex (K := K) (h := h) hb hl hi [3, 5, 5, 7, 7, 11, 13, 13, 17, 19, 23, 29, 31] (by decide)
  simp only [e, Option.bind_some]
  refine ⟨_, _, _, rfl, ?_, hi'⟩
  simp only [List.mem_cons, List.not_mem_nil, or_false] at hv
  unfold isP
  omega
theorem drawPoint_ex {K : Nat} {bs : List Int} {i h : Int} (hb : ∀ x ∈ bs, 0 ≤ x ∧ x < 256) (hl : bs.length ≤ 4096) (hi : 0 ≤ i ∧ i ≤ 4096) (p : Int) :
    ∃ x y i' h', spec_l01DrawPoint.f K bs i h p = some (x, y, i', h') ∧ 0 ≤ i' ∧ i' ≤ 4096 := by
  unfold spec_l01DrawPoint.f
  obtain ⟨r, i1, h1, e1, _, q1⟩ := next_ex (K := K) (h := h) hb hl hi 4
  obtain ⟨r2, i2, h2, e2, _, q2⟩ := next_ex (K := K) (h := h1) hb hl q1 3
  obtain ⟨r3, i3, h3, e3, _, q3⟩ := next_ex (K := K) (h := h2) hb hl q2 3
  obtain ⟨r4, i4, h4, e4, _, q4⟩ := next_ex (K := K) (h := h1) hb hl q1 p
  obtain ⟨r5, i5, h5, e5, _, q5⟩ := next_ex (K := K) (h := h4) hb hl q4 p
  simp only [e1, e2, e3, e4, e5, Option.bind_some]
  split
  · exact ⟨_, _, _, _, rfl, q3⟩
  · exact ⟨_, _, _, _, rfl, q5⟩
theorem specArea_ex {K : Nat} {p a0 a1 b0 b1 c0 c1 : Int} (hp : isP p) : ∃ r, spec_l01Area.f K p a0 a1 b0 b1 c0 c1 = some r := by
  unfold spec_l01Area.f
  simp only [mod_nice hp, Option.bind_some]
  exact ⟨_, rfl⟩
theorem drawOf_l0 {K : Nat} {bs : List Int} {p t12 t13 : Int} (hb : ∀ x ∈ bs, 0 ≤ x ∧ x < 256) (hl : bs.length ≤ 4096) (hp : isP p) : ∀ (m k i : Nat) (x75 x76 x77 x78 x79 x80 x81 x82 x83 x84 x85 x86 : Int), 6 - i = m → m < k → i ≤ 6 → 0 ≤ x75 ∧ x75 ≤ 4096 →
    ∃ A B C D E F G H, spec_l04DrawOf.l0 K bs p t12 t13 k i x75 x76 x77 x78 x79 x80 x81 x82 x83 x84 x85 x86 = some (A, B, C, D, E, F, G, H) ∧ 0 ≤ G ∧ G ≤ 4096
  | 0, k + 1, i, x75, x76, x77, x78, x79, x80, x81, x82, x83, x84, x85, x86, hm, _, hi, hx => by
    have : ¬ decide ((i : Int) < 6) = true := by simp only [decide_eq_true_eq]; omega
    rw [spec_l04DrawOf.l0, if_neg this]
    exact ⟨_, _, _, _, _, _, _, _, rfl, hx⟩
  | m + 1, k + 1, i, x75, x76, x77, x78, x79, x80, x81, x82, x83, x84, x85, x86, hm, hk, hi, hx => by
    obtain ⟨r, er⟩ := specArea_ex (K := K) (a0 := t12) (a1 := t13) (b0 := x83) (b1 := x84) (c0 := x85) (c1 := x86) hp
    obtain ⟨y1, y2, i1, h1, e1, q1⟩ := drawPoint_ex (K := K) (h := x76) hb hl hx p
    obtain ⟨y3, y4, i2, h2, e2, q2⟩ := drawPoint_ex (K := K) (h := h1) hb hl q1 p
    rw [spec_l04DrawOf.l0, if_pos (decide_eq_true (by omega)), er]
    simp only [Option.bind_some, e1, e2]
    split
    · rw [w_nat (by omega)]
      exact drawOf_l0 hb hl hp m k (i + 1) _ _ _ _ _ _ _ _ _ _ _ _ (by omega) (by omega) (by omega) q2
    · exact ⟨_, _, _, _, _, _, _, _, rfl, hx⟩
  | _, 0, _, _, _, _, _, _, _, _, _, _, _, _, _, _, hk, _, _ => absurd hk (Nat.not_lt_zero _)
theorem drawOf_ex {K : Nat} (hK : 100 ≤ K) {bs : List Int} {i h p : Int} (hb : ∀ x ∈ bs, 0 ≤ x ∧ x < 256) (hl : bs.length ≤ 4096) (hi : 0 ≤ i ∧ i ≤ 4096) (hp : isP p) :
    ∃ A B C D E F G H, spec_l04DrawOf.f K bs i h p = some (A, B, C, D, E, F, G, H) ∧ 0 ≤ G ∧ G ≤ 4096 := by
  unfold spec_l04DrawOf.f
  obtain ⟨x1, y1, i1, h1, e1, q1⟩ := drawPoint_ex (K := K) (h := h) hb hl hi p
  obtain ⟨x2, y2, i2, h2, e2, q2⟩ := drawPoint_ex (K := K) (h := h1) hb hl q1 p
  obtain ⟨x3, y3, i3, h3, e3, q3⟩ := drawPoint_ex (K := K) (h := h2) hb hl q2 p
  simp only [e1, e2, e3, Option.bind_some]
  exact drawOf_l0 hb hl hp 6 K 0 _ _ _ _ _ _ _ _ _ _ _ _ (by omega) (by omega) (by omega) q3
theorem drawColour_ex {K : Nat} {bs : List Int} {i h : Int} (hb : ∀ x ∈ bs, 0 ≤ x ∧ x < 256) (hl : bs.length ≤ 4096) (hi : 0 ≤ i ∧ i ≤ 4096) :
    ∃ c i' h', spec_l02DrawColour.f K bs i h = some (c, i', h') ∧ 0 ≤ i' ∧ i' ≤ 4096 := by
  unfold spec_l02DrawColour.f
  obtain ⟨r, i1, h1, e1, _, q1⟩ := next_ex (K := K) (h := h) hb hl hi 40
  obtain ⟨v, i2, h2, e2, _, q2⟩ := pick_ex (K := K) (h := h1) hb hl q1 [-1, 3, 1099511627776] (by decide)
  obtain ⟨r3, i3, h3, e3, _, q3⟩ := next_ex (K := K) (h := h1) hb hl q1 3
  simp only [e1, e2, e3, Option.bind_some]
  split
  · exact ⟨_, _, _, rfl, q2⟩
  · exact ⟨_, _, _, rfl, q3⟩
theorem badField_ex {K : Nat} {bs : List Int} {i h : Int} (hb : ∀ x ∈ bs, 0 ≤ x ∧ x < 256) (hl : bs.length ≤ 4096) (hi : 0 ≤ i ∧ i ≤ 4096) (p : Int) :
    ∃ c i' h', spec_l01BadField.f K bs i h p = some (c, i', h') ∧ 0 ≤ i' ∧ i' ≤ 4096 := by
  unfold spec_l01BadField.f
  obtain ⟨r, i1, h1, e1, _, q1⟩ := next_ex (K := K) (h := h) hb hl hi 40
  obtain ⟨v, i2, h2, e2, _, q2⟩ := pick_ex (K := K) (h := h1) hb hl q1 [2, 1, 0, -3, 9, 15, 37, 1099511627776] (by decide)
  simp only [e1, e2, Option.bind_some]
  split
  · exact ⟨_, _, _, rfl, q2⟩
  · exact ⟨_, _, _, rfl, q1⟩
theorem badPoint_ex {K : Nat} {bs : List Int} {i h : Int} (hb : ∀ x ∈ bs, 0 ≤ x ∧ x < 256) (hl : bs.length ≤ 4096) (hi : 0 ≤ i ∧ i ≤ 4096) (p x y : Int) :
    ∃ u v i' h', spec_l01BadPoint.f K bs i h p x y = some (u, v, i', h') ∧ 0 ≤ i' ∧ i' ≤ 4096 := by
  unfold spec_l01BadPoint.f
  obtain ⟨r, i1, h1, e1, _, q1⟩ := next_ex (K := K) (h := h) hb hl hi 40
  obtain ⟨r2, i2, h2, e2, hr2, q2⟩ := next_ex (K := K) (h := h1) hb hl q1 2
  obtain ⟨v, i3, h3, e3, _, q3⟩ := pick_ex (K := K) (h := h2) hb hl q2 [-1, p, 1099511627776] (by simp)
  have hr2 := hr2 (by omega)
  simp only [e1, e2, e3, Option.bind_some]
  split
  · by_cases h0 : r2 = 0
    · simp only [h0, beq_self_eq_true, if_true]
      exact ⟨_, _, _, _, rfl, q3⟩
    · have h1 : r2 = 1 := by omega
      simp only [h1, show ((1 : Int) == 0) = false from rfl, Bool.false_eq_true, if_false, beq_self_eq_true, if_true]
      exact ⟨_, _, _, _, rfl, q3⟩
  · exact ⟨_, _, _, _, rfl, q1⟩
theorem from_l0 {K : Nat} {bs : List Int} (hl : bs.length ≤ 4096) : ∀ (m k i : Nat) (h : Int), bs.length - i = m → m < k → i ≤ bs.length → ∃ h', spec_l01From.l0 K bs k i 0 h = some (0, h')
  | 0, k + 1, i, h, hm, _, hi => by
    have : ¬ decide ((i : Int) < (bs.length : Int)) = true := by simp only [decide_eq_true_eq]; omega
    rw [spec_l01From.l0, if_neg this]
    exact ⟨_, rfl⟩
  | m + 1, k + 1, i, h, hm, hk, hi => by
    have hj : i < bs.length := by omega
    have hg : idx bs (i : Int) = some bs[i] := by rw [idx_nat]; simp [hj]
    rw [spec_l01From.l0, if_pos (decide_eq_true (by omega)), if_pos (decide_eq_true (by omega)), hg, Option.bind_some, w_nat (by omega)]
    exact from_l0 hl m k (i + 1) _ (by omega) (by omega) (by omega)
  | _, 0, _, _, _, hk, _ => absurd hk (Nat.not_lt_zero _)
theorem from_ex {K : Nat} (hK : 5000 ≤ K) {bs : List Int} (hl : bs.length ≤ 4096) : ∃ h', spec_l01From.f K bs = some (0, h') := by
  unfold spec_l01From.f
  exact from_l0 hl bs.length K 0 _ (by omega) (by omega) (by omega)
/-- A triangle is drawn from any code. -/
theorem draw_ex {K : Nat} (hK : 5000 ≤ K) {bs : List Int} (hb : ∀ x ∈ bs, 0 ≤ x ∧ x < 256) (hl : bs.length ≤ 4096) :
    ∃ p c a0 a1 b0 b1 c0 c1, spec_l04Draw.f K bs = some (p, c, a0, a1, b0, b1, c0, c1) := by
  unfold spec_l04Draw.f
  obtain ⟨h0, e0⟩ := from_ex hK hl
  obtain ⟨p, i1, h1, e1, hp, q1⟩ := drawField_ex (K := K) (h := h0) hb hl ⟨Int.le_refl 0, by omega⟩
  obtain ⟨A, B, C, D, E, F, i2, h2, e2, q2⟩ := drawOf_ex (K := K) (by omega) (h := h1) hb hl q1 hp
  obtain ⟨c, i3, h3, e3, q3⟩ := drawColour_ex (K := K) (h := h2) hb hl q2
  obtain ⟨r, i4, h4, e4, _, q4⟩ := next_ex (K := K) (h := h3) hb hl q3 24
  obtain ⟨f, i5, h5, e5, q5⟩ := badField_ex (K := K) (h := h4) hb hl q4 p
  obtain ⟨x1, y1, i6, h6, e6, q6⟩ := badPoint_ex (K := K) (h := h5) hb hl q5 p A B
  obtain ⟨x2, y2, i7, h7, e7, q7⟩ := badPoint_ex (K := K) (h := h6) hb hl q6 p C D
  simp only [e0, e1, e2, e3, e4, Option.bind_some]
  split
  · unfold spec_l01Middle.f spec_l01Plus.f spec_l01Times.f
    simp only [mod_nice hp, Option.bind_some, e5, e6, e7]
    obtain ⟨x3, y3, i8, h8, e8, q8⟩ := badPoint_ex (K := K) (h := h7) hb hl q7 p (wrap64 (wrap64 (Int.tdiv (wrap64 (p + 1)) 2) * (wrap64 (A + C) % p)) % p) (wrap64 (wrap64 (Int.tdiv (wrap64 (p + 1)) 2) * (wrap64 (B + D) % p)) % p)
    simp only [e8, Option.bind_some]
    exact ⟨_, _, _, _, _, _, _, _, rfl⟩
  · obtain ⟨x3, y3, i8, h8, e8, q8⟩ := badPoint_ex (K := K) (h := h7) hb hl q7 p E F
    simp only [e5, e6, e7, e8, Option.bind_some]
    exact ⟨_, _, _, _, _, _, _, _, rfl⟩
theorem drawOf6_ex {K : Nat} {bs : List Int} {i h : Int} (hb : ∀ x ∈ bs, 0 ≤ x ∧ x < 256) (hl : bs.length ≤ 4096) (hi : 0 ≤ i ∧ i ≤ 4096) (p : Int) :
    ∃ x y q i' h', spec_l06DrawOf.f K bs i h p = some (x, y, q, i', h') ∧ 0 ≤ i' ∧ i' ≤ 4096 := by
  unfold spec_l06DrawOf.f
  obtain ⟨x, y, i1, h1, e1, q1⟩ := drawPoint_ex (K := K) (h := h) hb hl hi p
  obtain ⟨r, i2, h2, e2, _, q2⟩ := next_ex (K := K) (h := h1) hb hl q1 p
  simp only [e1, e2, Option.bind_some]
  exact ⟨_, _, _, _, _, rfl, q2⟩
theorem bad6_ex {K : Nat} {bs : List Int} {i h : Int} (hb : ∀ x ∈ bs, 0 ≤ x ∧ x < 256) (hl : bs.length ≤ 4096) (hi : 0 ≤ i ∧ i ≤ 4096) (p a b c : Int) :
    ∃ x y q i' h', spec_l06Bad.f K bs i h p a b c = some (x, y, q, i', h') ∧ 0 ≤ i' ∧ i' ≤ 4096 := by
  unfold spec_l06Bad.f
  obtain ⟨r, i1, h1, e1, _, q1⟩ := next_ex (K := K) (h := h) hb hl hi 40
  obtain ⟨x, y, i2, h2, e2, q2⟩ := badPoint_ex (K := K) (h := h1) hb hl q1 p (-1) 0
  obtain ⟨v, i3, h3, e3, _, q3⟩ := pick_ex (K := K) (h := h1) hb hl q1 [-1, p, 1099511627776] (by simp)
  simp only [e1, e2, e3, Option.bind_some]
  split
  · exact ⟨_, _, _, _, _, rfl, q2⟩
  · split
    · exact ⟨_, _, _, _, _, rfl, q3⟩
    · exact ⟨_, _, _, _, _, rfl, q1⟩
end Go.Proofs.YtccbmdpikalpfaaGreat
