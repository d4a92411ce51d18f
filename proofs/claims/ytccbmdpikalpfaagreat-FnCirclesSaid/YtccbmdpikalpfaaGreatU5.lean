/- Plain laws: the points of a line, and what the law of radicals asks of the functions. -/
import Derived.Test.YtccbmdpikalpfaaGreatU4
namespace Go.Proofs.YtccbmdpikalpfaaGreat
open Go Go.RowKit
set_option linter.unusedVariables false
set_option linter.unusedSimpArgs false
/-! ### The points of a line -/
theorem allPts_nodup {p : Int} : (allPts p).Nodup := by
  unfold allPts List.Nodup
  rw [List.pairwise_flatMap]
  refine ⟨fun x _ => List.pairwise_map.2 (List.nodup_range.imp fun {a b} h e => h ?_), List.nodup_range.imp fun {a b} h x hx y hy e => h ?_⟩
  · have := congrArg Prod.snd e
    simp only at this
    omega
  · obtain ⟨u, -, rfl⟩ := List.mem_map.1 hx
    obtain ⟨v, -, rfl⟩ := List.mem_map.1 hy
    have := congrArg Prod.fst e
    simp only at this
    omega
def lp (p : Int) (l : Int × Int × Int) (t : Nat) : Int × Int := if l.1 = 1 then ((-(l.2.1 * (t : Int)) - l.2.2) % p, (t : Int)) else ((t : Int), (-l.2.2) % p)
theorem onB_mod {p l0 l1 l2 : Int} {x : Int × Int} : onB p l0 l1 l2 x = true ↔ (l0 * x.1 + l1 * x.2 + l2) % p = 0 := by
  unfold onB
  rw [beq_iff_eq]
  exact ⟨fun h => Int.emod_eq_zero_of_dvd (Int.dvd_of_tmod_eq_zero h), fun h => Int.tmod_eq_zero_of_dvd (Int.dvd_of_emod_eq_zero h)⟩
theorem solve {p x y : Int} (hx : In p x) : (x - y) % p = 0 ↔ x = y % p := by
  rw [← Int.emod_eq_emod_iff_emod_sub_eq_zero, hx.mod]
theorem mem_line {p : Int} {l : Int × Int × Int} (hp : isP p) (hl : inL p l = true) (x : Int × Int) : x ∈ (allPts p).filter (onB p l.1 l.2.1 l.2.2) ↔ x ∈ (List.range p.toNat).map (lp p l) := by
  have hpl := hp.lt
  unfold inL at hl
  simp only [Bool.and_eq_true, Bool.or_eq_true, beq_iff_eq] at hl
  rw [List.mem_filter, mem_allPts hp, onB_mod, List.mem_map]
  rcases hl.2 with h1 | ⟨h0, h1⟩
  · constructor
    · rintro ⟨⟨i1, i2⟩, h⟩
      have := i2.out
      refine ⟨x.2.toNat, List.mem_range.2 (by omega), ?_⟩
      have e : ((x.2.toNat : Nat) : Int) = x.2 := by omega
      unfold lp
      rw [if_pos h1, e]
      rw [h1, show 1 * x.1 + l.2.1 * x.2 + l.2.2 = x.1 - (-(l.2.1 * x.2) - l.2.2) by omega, solve i1] at h
      rw [← h]
    · rintro ⟨t, ht, rfl⟩
      have := List.mem_range.1 ht
      unfold lp
      rw [if_pos h1]
      refine ⟨⟨mod_in hp _, ⟨by dsimp only; omega⟩⟩, ?_⟩
      dsimp only
      rw [h1, show ∀ z : Int, 1 * z + l.2.1 * (t : Int) + l.2.2 = z - (-(l.2.1 * (t : Int)) - l.2.2) from fun z => by omega, solve (mod_in hp _)]
  · have hne : ¬ l.1 = 1 := by omega
    constructor
    · rintro ⟨⟨i1, i2⟩, h⟩
      have := i1.out
      refine ⟨x.1.toNat, List.mem_range.2 (by omega), ?_⟩
      have e : ((x.1.toNat : Nat) : Int) = x.1 := by omega
      unfold lp
      rw [if_neg hne, e]
      rw [h0, h1, show 0 * x.1 + 1 * x.2 + l.2.2 = x.2 - (-l.2.2) by omega, solve i2] at h
      rw [← h]
    · rintro ⟨t, ht, rfl⟩
      have := List.mem_range.1 ht
      unfold lp
      rw [if_neg hne]
      refine ⟨⟨⟨by dsimp only; omega⟩, mod_in hp _⟩, ?_⟩
      dsimp only
      rw [h0, h1, show ∀ z : Int, 0 * (t : Int) + 1 * z + l.2.2 = z - (-l.2.2) from fun z => by omega, solve (mod_in hp _)]
theorem lp_nodup {p : Int} {l : Int × Int × Int} : ((List.range p.toNat).map (lp p l)).Nodup := by
  unfold List.Nodup
  rw [List.pairwise_map]
  refine List.nodup_range.imp fun {a b} h e => h ?_
  unfold lp at e
  split at e
  · have := congrArg Prod.snd e
    simp only at this
    omega
  · have := congrArg Prod.fst e
    simp only at this
    omega
theorem line_count {p : Int} {l : Int × Int × Int} (hp : isP p) (hl : inL p l = true) : ((allPts p).filter (onB p l.1 l.2.1 l.2.2)).length = p.toNat := by
  have := ((List.perm_ext_iff_of_nodup (allPts_nodup.filter _) lp_nodup).2 (mem_line hp hl)).length_eq
  rw [this, List.length_map, List.length_range]
/-! ### Rows of points -/
theorem points9_l0 {K : Nat} (xs : List (Int × Int)) (hl : xs.length ≤ 1000000) : ∀ (m k i : Nat), xs.length - i = m → m < k → i ≤ xs.length → laws_points9.l0 K xs xs k i = some true
  | 0, k + 1, i, hm, _, hi => by
    rw [laws_points9.l0, if_neg (by simp; omega)]
  | m + 1, k + 1, i, hm, hk, hi => by
    have hlt : i < xs.length := by omega
    rw [laws_points9.l0, if_pos (by simpa using hlt), idx_nat, List.getElem?_eq_getElem hlt, w_nat (by omega)]
    simp only [Option.bind_some, beq_self_eq_true, Bool.and_self, if_true]
    exact points9_l0 xs hl m k (i + 1) (by omega) (by omega) (by omega)
  | _, 0, _, _, hk, _ => absurd hk (Nat.not_lt_zero _)
theorem points9_nice {K : Nat} (hK : 5000 ≤ K) (xs : List (Int × Int)) (hl : xs.length ≤ 2000) : laws_points9.f K xs xs = some true := by
  unfold laws_points9.f
  rw [if_pos (by simp)]
  exact points9_l0 xs (by omega) xs.length K 0 (by omega) (by omega) (by omega)
theorem has9_l0 {K : Nat} (xs : List (Int × Int)) (v : Int × Int) (hl : xs.length ≤ 1000000) : ∀ (m k i : Nat), xs.length - i = m → m < k → i ≤ xs.length → laws_hasPoint9.l0 K xs v.1 v.2 k i = some ((xs.drop i).contains v)
  | 0, k + 1, i, hm, _, hi => by
    rw [laws_hasPoint9.l0, if_neg (by simp; omega), List.drop_of_length_le (by omega)]
    rfl
  | m + 1, k + 1, i, hm, hk, hi => by
    have hlt : i < xs.length := by omega
    rw [laws_hasPoint9.l0, if_pos (by simpa using hlt), idx_nat, List.getElem?_eq_getElem hlt, w_nat (by omega), List.drop_eq_getElem_cons hlt, List.contains_cons]
    simp only [Option.bind_some]
    by_cases h : xs[i] = v
    · rw [if_pos (by simp [h])]
      simp [h]
    · have h2 : ¬ (xs[i].1 == v.1 && xs[i].2 == v.2) = true := by
        simp only [Bool.and_eq_true, beq_iff_eq]
        exact fun e => h (Prod.ext e.1 e.2)
      rw [if_neg h2, has9_l0 xs v hl m k (i + 1) (by omega) (by omega) (by omega)]
      have : (v == xs[i]) = false := by rw [beq_eq_false_iff_ne]; exact fun e => h e.symm
      rw [this, Bool.false_or]
  | _, 0, _, _, hk, _ => absurd hk (Nat.not_lt_zero _)
theorem has9_nice {K : Nat} (hK : 5000 ≤ K) (xs : List (Int × Int)) (v : Int × Int) (hl : xs.length ≤ 2000) : laws_hasPoint9.f K xs v.1 v.2 = some (xs.contains v) := by
  unfold laws_hasPoint9.f
  exact has9_l0 xs v (by omega) xs.length K 0 (by omega) (by omega) (by omega)
/-! ### Contracts -/
theorem pPower {K : Nat} (hK : 100 ≤ K) {p c k0 k1 q a0 a1 : Int} (hp : isP p) (hc1 : 0 ≤ c) (hc2 : c ≤ 2) (i1 : In p k0) (i2 : In p k1) (i3 : In p q) (i4 : In p a0) (i5 : In p a1) : impl_PowerOf.f K p c k0 k1 q a0 a1 = some (pow p c k0 k1 q a0 a1, 0) := by
  unfold impl_PowerOf.f
  have hg : codeG p c (k0, k1, q) (a0, a1) = 0 := by
    have : codeC p c [(k0, k1, q)] = 0 := by
      unfold codeC inC
      simp [hp, hc1, hc2, inB_mk i1 i2, inN_mk i3]
    unfold codeG
    rw [if_pos this, if_pos (inB_mk i4 i5)]
  rw [askedG_PowerOf hK, hg]
  simp only [Option.bind_some, beq_self_eq_true, if_true, implPower_nice hp (i1.b hp) (i2.b hp) (i3.b hp) (i4.b hp) (i5.b hp)]
end Go.Proofs.YtccbmdpikalpfaaGreat
