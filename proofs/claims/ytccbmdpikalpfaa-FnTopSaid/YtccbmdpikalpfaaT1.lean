/- Plain laws: what the numbers drawn from a code are, and the contracts that the laws of triangles ask. -/
import Derived.Test.YtccbmdpikalpfaaV2
import Derived.Laws.BitsLemmas
namespace Go.Proofs.Ytccbmdpikalpfaa
open Go Go.RowKit
set_option linter.unusedVariables false
set_option linter.unusedSimpArgs false
/-! ### Draws -/
theorem mask_le (x : Int) : 0 ≤ bits .and .u64 (IntKind.u64.wrap x / 8589934592) 16777215 ∧ bits .and .u64 (IntKind.u64.wrap x / 8589934592) 16777215 ≤ 16777215 := by
  have hw : IntKind.u64.wrap x = x % 18446744073709551616 := by simp [IntKind.wrap, IntKind.bits, IntKind.signed]
  have h0 : 0 ≤ IntKind.u64.wrap x / 8589934592 := by rw [hw]; omega
  have h1 : IntKind.u64.wrap x / 8589934592 < 2 ^ 31 := by
    have e : (2 : Int) ^ 31 = 2147483648 := by decide
    rw [hw, e]
    omega
  have := bits_mask .u64 31 (by decide) (fun n a b => by
    have e : (2 : Int) ^ 31 = 2147483648 := by decide
    rw [e] at b
    have : IntKind.u64.wrap n = n % 18446744073709551616 := by simp [IntKind.wrap, IntKind.bits, IntKind.signed]
    omega) 24 (by decide) _ h0 h1
  have e : (2 : Int) ^ 24 = 16777216 := by decide
  rw [e, show (16777216 : Int) - 1 = 16777215 from rfl] at this
  rw [this]
  omega
theorem tmod_in {x n : Int} (hx : 0 ≤ x) (hn : 1 ≤ n) : 0 ≤ Int.tmod x n ∧ Int.tmod x n < n := ⟨Int.tmod_nonneg _ hx, Int.tmod_lt_of_pos x (by omega)⟩
theorem below_ex {K : Nat} {bs : List Int} {i h n : Int} (hb : ∀ x ∈ bs, 0 ≤ x ∧ x < 256) (hl : bs.length ≤ 4096) (hi : 0 ≤ i) (hi2 : i ≤ 4096) (hn : 1 ≤ n) :
    ∃ r i' h', laws_dice_below.f K bs i h n = some (r, i', h') ∧ (0 ≤ r ∧ r < n) ∧ 0 ≤ i' ∧ i' ≤ 4096 := by
  unfold laws_dice_below.f
  have d0 : ¬ decide (n < 1) = true := by simp only [decide_eq_true_eq]; omega
  have d1 : ¬ ((n == 0) = true) := by simp only [beq_iff_eq]; omega
  have hm := mask_le (IntKind.u64.wrap (h * 6364136223846793005) + 1442695040888963407)
  rw [if_neg d0]
  generalize IntKind.u64.wrap (IntKind.u64.wrap (h * 6364136223846793005) + 1442695040888963407) = w at hm ⊢
  generalize bits .and .u64 (w / 8589934592) 16777215 = m at hm ⊢
  have wm : wrap64 m = m := w_eq ⟨by omega⟩
  by_cases hc : i < (bs.length : Int)
  · obtain ⟨j, rfl⟩ := Int.eq_ofNat_of_zero_le hi
    have hj : j < bs.length := by omega
    have hx := hb bs[j] (List.getElem_mem hj)
    have hg : idx bs (j : Int) = some bs[j] := by rw [idx_nat]; simp [hj]
    have wx : wrap64 bs[j] = bs[j] := w_eq ⟨by omega⟩
    have ws : wrap64 (m + bs[j]) = m + bs[j] := w_eq ⟨by omega⟩
    have wj : wrap64 ((j : Int) + 1) = (j : Int) + 1 := w_eq ⟨by omega⟩
    rw [if_pos (decide_eq_true hc), hg, Option.bind_some, if_neg d1, wm, wx, ws, wj]
    exact ⟨_, _, _, rfl, tmod_in (by omega) hn, by omega, by omega⟩
  · rw [if_neg (by simpa using hc), if_neg d1, wm]
    exact ⟨_, _, _, rfl, tmod_in (by omega) hn, hi, hi2⟩
theorem roll_l0 {K : Nat} {bs : List Int} (hl : bs.length ≤ 4096) : ∀ (m k i : Nat) (h : Int), bs.length - i = m → m < k → i ≤ bs.length → ∃ h', laws_roll.l0 K bs k i 0 h = some (0, h')
  | 0, k + 1, i, h, hm, _, hi => by
    have : ¬ decide ((i : Int) < (bs.length : Int)) = true := by simp only [decide_eq_true_eq]; omega
    rw [laws_roll.l0, if_neg this]
    exact ⟨_, rfl⟩
  | m + 1, k + 1, i, h, hm, hk, hi => by
    have hj : i < bs.length := by omega
    have hg : idx bs (i : Int) = some bs[i] := by rw [idx_nat]; simp [hj]
    rw [laws_roll.l0, if_pos (decide_eq_true (by omega)), hg, Option.bind_some, w_nat (by omega)]
    exact roll_l0 hl m k (i + 1) _ (by omega) (by omega) (by omega)
  | _, 0, _, _, _, hk, _ => absurd hk (Nat.not_lt_zero _)
theorem roll_ex {K : Nat} (hK : 5000 ≤ K) {bs : List Int} {s : Int} (hl : bs.length ≤ 4096) : ∃ h', laws_roll.f K bs s = some (0, h') := by
  unfold laws_roll.f
  exact roll_l0 hl bs.length K 0 _ (by omega) (by omega) (by omega)
/-! ### Contracts -/
theorem inB_mk {p x y : Int} (hx : In p x) (hy : In p y) : inB p (x, y) = true := by
  have := hx.out; have := hy.out
  simp only [inB, decide_eq_true_eq]
  omega
theorem inN_mk {p x : Int} (hx : In p x) : inN p x = true := decide_eq_true hx.out
theorem pQuadrance {K : Nat} (hK : 100 ≤ K) {p c x0 x1 y0 y1 : Int} (hp : isP p) (hc1 : 0 ≤ c) (hc2 : c ≤ 2) (a : In p x0) (b : In p x1) (d : In p y0) (e : In p y1) :
    impl_Quadrance.f K p c x0 x1 y0 y1 = some (quad c x0 x1 y0 y1 % p, 0) := by
  unfold impl_Quadrance.f impl_asked__impl_Quadrance_1.f impl_Quadrance_1.f
  have e1 := arePoints_nice (K := K) (p := p) [(x0, x1), (y0, y1)] (by simp) (by simp; omega)
  have e2 := implQuadrance_nice (K := K) (c := c) hp (a.b hp) (b.b hp) (d.b hp) (e.b hp)
  simp only [isField_nice, isColour_nice, e1, e2, Option.bind_some, decide_eq_true hp, if_true, decide_eq_true (show 0 ≤ c ∧ c ≤ 2 from ⟨hc1, hc2⟩), List.all_cons, List.all_nil, inB_mk a b, inB_mk d e, Bool.and_self, beq_self_eq_true]
theorem pArea {K : Nat} (hK : 100 ≤ K) {p a0 a1 b0 b1 c0 c1 : Int} (hp : isP p) (h1 : In p a0) (h2 : In p a1) (h3 : In p b0) (h4 : In p b1) (h5 : In p c0) (h6 : In p c1) :
    impl_DoubledArea.f K p a0 a1 b0 b1 c0 c1 = some (areaOf a0 a1 b0 b1 c0 c1 % p, 0) := by
  unfold impl_DoubledArea.f impl_asked__impl_DoubledArea_1.f impl_DoubledArea_1.f
  have e1 := arePoints_nice (K := K) (p := p) [(a0, a1), (b0, b1), (c0, c1)] (by simp) (by simp; omega)
  simp only [isField_nice, e1, implArea_nice hp (h1.b hp) (h2.b hp) (h3.b hp) (h4.b hp) (h5.b hp) (h6.b hp), Option.bind_some, decide_eq_true hp, if_true, List.all_cons, List.all_nil, inB_mk h1 h2, inB_mk h3 h4, inB_mk h5 h6, Bool.and_self, beq_self_eq_true]
theorem inv_one {p : Int} (hp : isP p) : inv p 1 = 1 := by
  have h3 := hp.lt
  have h := inv_mul (x := 1) hp ⟨by omega⟩ (by omega)
  rw [Int.one_mul, (inv_in (x := 1) hp ⟨by omega⟩).mod] at h
  exact h
theorem normal_one {p m n : Int} (hp : isP p) (hm : In p m) (hn : In p n) : normal p 1 m n = (1, m, n) := by
  have h3 := hp.lt
  have e : (1 : Int) % p = 1 := Int.emod_eq_of_lt (by omega) (by omega)
  unfold normal piv
  rw [if_neg (by omega), e, inv_one hp]
  simp only [Int.mul_one, e, hm.mod, hn.mod]
theorem pLineOf {K : Nat} (hK : 100 ≤ K) {p m n : Int} (hp : isP p) (hm : In p m) (hn : In p n) : impl_LineOf.f K p 1 m n = some (1, m, n, 0) := by
  have h3 := hp.lt
  unfold impl_LineOf.f impl_asked__impl_LineOf_1.f impl_LineOf_1.f
  obtain ⟨k, rfl⟩ : ∃ k, K = k + 10 := ⟨K - 10, by omega⟩
  have e1 : impl_areNumbers.f (k + 10) p [1, m, n] = some true := by
    have b1 : inN p 1 = true := inN_mk ⟨by omega⟩
    have b2 := inN_mk hm
    have b3 := inN_mk hn
    simp [impl_areNumbers.f, impl_areNumbers.l0, isNumber_nice, b1, b2, b3, idx, wrap64]
  have e2 := implLine_nice (K := k + 10) hK (a := 1) (b := m) (c := n) hp
  rw [normal_one hp hm hn] at e2
  simp only [isField_nice, e1, e2, Option.bind_some, decide_eq_true hp, if_true, beq_self_eq_true, show ((1 : Int) == 0) = false from rfl, Bool.false_eq_true, if_false]
theorem one_ln {p m n : Int} (hp : isP p) (hm : In p m) (hn : In p n) : Ln p (1, m, n) := ⟨⟨by have := hp.lt; dsimp only; omega⟩, hm, hn, fun h => by
  have h3 := hp.lt
  have := h.1
  dsimp only at this
  rw [Int.emod_eq_of_lt (by omega) (by omega)] at this
  omega⟩
theorem pReflection {K : Nat} (hK : 100 ≤ K) {p c m n : Int} (hp : isP p) (hc1 : 0 ≤ c) (hc2 : c ≤ 2) (hm : In p m) (hn : In p n) :
    impl_ReflectionIn.f K p c 1 m n = some (if nullB p c (1, m, n) then (0, 0, 0, 0, 0, 0, 5) else (refl0 p c 1 m, refl1 p c 1 m, refl2 p c 1 m, refl3 p c 1 m, refl4 p c 1 m n, refl5 p c 1 m n, 0)) := by
  have h3 := hp.lt
  unfold impl_ReflectionIn.f impl_asked__impl_ReflectionIn_1.f impl_ReflectionIn_1.f
  have hL := one_ln hp hm hn
  have b1 : inN p 1 = true := inN_mk ⟨by omega⟩
  have e1 : inL p (1, m, n) = true := by simp [inL, b1, inN_mk hm, inN_mk hn]
  have e2 := implNull_nice (K := K) (c := c) hp hL
  dsimp only at e2
  simp only [isField_nice, isColour_nice, isLine_nice hK, e1, e2, Option.bind_some, decide_eq_true hp, if_true, beq_self_eq_true, decide_eq_true (show 0 ≤ c ∧ c ≤ 2 from ⟨hc1, hc2⟩)]
  cases hz : nullB p c (1, m, n)
  · simp only [Bool.false_eq_true, if_false, implRefl_nice hK hp hc1 hc2 hL hz, Option.bind_some]
  · simp only [if_true]
theorem pMove {K : Nat} (hK : 100 ≤ K) {p a b c d e f x y : Int} (hp : isP p) (m : MB p a b c d e f) (hx : In p x) (hy : In p y) :
    impl_MovePoint.f K p a b c d e f x y = some ((mv p a b c d e f x y).1, (mv p a b c d e f x y).2, 0) := by
  unfold impl_MovePoint.f impl_asked__impl_MovePoint_1.f impl_MovePoint_1.f
  have e1 : inM p a b c d e f = true := by simp [inM, inN_mk m.a, inN_mk m.b, inN_mk m.c, inN_mk m.d, inB_mk m.e m.f]
  simp only [isField_nice, isMap_nice hK, isPoint_nice (show 10 ≤ K by omega), e1, inB_mk hx hy, Option.bind_some, decide_eq_true hp, if_true, beq_self_eq_true, implMoved_nice hp (m.a.b hp) (m.b.b hp) (m.c.b hp) (m.d.b hp) (m.e.b hp) (m.f.b hp) (hx.b hp) (hy.b hp)]
end Go.Proofs.Ytccbmdpikalpfaa
