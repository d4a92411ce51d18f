/- Plain laws of circles: the check of the arguments, the power of a point, the inverse point, the radical line. -/
import Derived.Test.YtccbmdpikalpfaaGreatM6
namespace Go.Proofs.YtccbmdpikalpfaaGreat
open Go Go.RowKit
set_option linter.unusedVariables false
set_option linter.unusedSimpArgs false
def inN (p x : Int) : Bool := decide (0 ≤ x ∧ x < p)
theorem inN_in {p x : Int} (h : inN p x = true) : In p x := ⟨of_decide_eq_true h⟩
theorem number_nice {K : Nat} {p x : Int} (hp : isP p) : spec_l01In.f K x 0 (wrap64 (p - 1)) = some (inN p x) := by
  have := hp.lt
  rw [w_eq (Sm.of ((B.p hp).sub (B.const 1)) rfl), in_nice]
  unfold inN
  exact congrArg some (decide_eq_decide.2 (by omega))
theorem isNumber_nice {K : Nat} {p x : Int} : impl_isNumber.f K p x = some (inN p x) := by
  unfold impl_isNumber.f inN
  by_cases h : 0 ≤ x <;> simp [h]
def inC (p : Int) (k : Int × Int × Int) : Bool := inB p (k.1, k.2.1) && inN p k.2.2
theorem l06Is_nice {K : Nat} {p a b q : Int} (hp : isP p) : spec_l06Is.f K p a b q = some (inC p (a, b, q)) := by
  unfold spec_l06Is.f inC
  rw [point_nice hp, number_nice hp]
  cases inB p (a, b) <;> simp
theorem isCircle_nice {K : Nat} (hK : 100 ≤ K) {p a b q : Int} : impl_isCircle.f K p a b q = some (inC p (a, b, q)) := by
  unfold impl_isCircle.f inC
  rw [isPoint_nice (by omega), isNumber_nice]
  cases inB p (a, b) <;> simp
theorem inC_in {p a b q : Int} (h : inC p (a, b, q) = true) : In p a ∧ In p b ∧ In p q := by
  unfold inC at h
  rw [Bool.and_eq_true] at h
  exact ⟨(inB_in h.1).1, (inB_in h.1).2, inN_in h.2⟩
/-! ### The checks -/
def codeC (p c : Int) (ks : List (Int × Int × Int)) : Int := if isP p then if 0 ≤ c ∧ c ≤ 2 then if ks.all (inC p) then 0 else 2 else 2 else 1
theorem l06Code_ne {K : Nat} {p x i : Int} {ks : List (Int × Int × Int)} {k : Nat} (hx : x ≠ 0) : spec_l06Code.l0 K p ks (k + 1) x i = some x := by
  rw [spec_l06Code.l0]
  have : (x == 0) = false := by simpa using hx
  split
  · rw [this]; rfl
  · rfl
theorem l06Code_l0 {K : Nat} {p : Int} (hp : isP p) (ks : List (Int × Int × Int)) (hl : ks.length ≤ 1000000) : ∀ (m k i : Nat), ks.length - i = m → m + 1 < k → i ≤ ks.length → spec_l06Code.l0 K p ks k 0 i = some (if (ks.drop i).all (inC p) then 0 else 2)
  | 0, k + 1, i, hm, _, hi => by
    have : i = ks.length := by omega
    subst this
    simp [spec_l06Code.l0]
  | m + 1, k + 2, i, hm, hk, hi => by
    have hlt : i < ks.length := by omega
    rw [spec_l06Code.l0, if_pos (by simpa using hlt), if_pos (show ((0 : Int) == 0) = true from rfl), idx_nat, List.getElem?_eq_getElem hlt, w_nat (by omega), List.drop_eq_getElem_cons hlt, List.all_cons, l06Code_l0 hp ks hl m (k + 1) (i + 1) (by omega) (by omega) (by omega), l06Code_ne (by decide)]
    simp only [Option.bind_some, l06Is_nice hp]
    cases inC p ks[i] <;> first | rfl | (simp; done)
theorem code6_nice {K : Nat} {p c : Int} (ks : List (Int × Int × Int)) (hl : ks.length ≤ 1000000) (hK : ks.length + 10 ≤ K) : spec_l06Code.f K p c ks = some (codeC p c ks) := by
  obtain ⟨k, rfl⟩ : ∃ k, K = k + 1 := ⟨K - 1, by omega⟩
  unfold spec_l06Code.f codeC
  rw [code2_nice [] (by simp) (by simp; omega)]
  by_cases hp : isP p
  · by_cases hc : 0 ≤ c ∧ c ≤ 2
    · have := l06Code_l0 (K := k + 1) hp ks hl ks.length (k + 1) 0 (by omega) (by omega) (by omega)
      simp only [Int.natCast_zero, Int.ofNat_zero, List.drop_zero] at this
      simp only [hp, hc, List.all_nil, and_self, if_true, Option.bind_some, this]
    · simp only [hp, hc, List.all_nil, if_true, if_false, Option.bind_some, l06Code_ne (show (2 : Int) ≠ 0 by decide)]
  · simp only [hp, if_false, Option.bind_some, l06Code_ne (show (1 : Int) ≠ 0 by decide)]
theorem codeC_zero {p c : Int} {ks : List (Int × Int × Int)} (h : codeC p c ks = 0) : isP p ∧ 0 ≤ c ∧ c ≤ 2 ∧ ks.all (inC p) = true := by
  unfold codeC at h
  split at h
  · split at h
    · split at h
      · exact ⟨by assumption, (by assumption : 0 ≤ c ∧ c ≤ 2).1, (by assumption : 0 ≤ c ∧ c ≤ 2).2, by assumption⟩
      · cases h
    · cases h
  · cases h
def codeG (p c : Int) (k : Int × Int × Int) (a : Int × Int) : Int := if codeC p c [k] = 0 then if inB p a then 0 else 2 else codeC p c [k]
theorem given_nice {K : Nat} (hK : 100 ≤ K) {p c k0 k1 q a0 a1 : Int} : spec_l06Given.f K p c k0 k1 q a0 a1 = some (codeG p c (k0, k1, q) (a0, a1)) := by
  unfold spec_l06Given.f codeG
  rw [code6_nice _ (by simp) (by simp; omega), code_nice _ (by simp) (by simp; omega)]
  by_cases h : codeC p c [(k0, k1, q)] = 0
  · have hp := (codeC_zero h).1
    cases hb : inB p (a0, a1) <;> simp [h, hp, hb]
  · simp [h]
theorem codeG_zero {p c k0 k1 q a0 a1 : Int} (h : codeG p c (k0, k1, q) (a0, a1) = 0) : isP p ∧ 0 ≤ c ∧ c ≤ 2 ∧ (In p k0 ∧ In p k1 ∧ In p q) ∧ In p a0 ∧ In p a1 := by
  unfold codeG at h
  split at h
  · split at h
    · obtain ⟨hp, h1, h2, h3⟩ := codeC_zero (by assumption)
      simp only [List.all_cons, List.all_nil, Bool.and_true] at h3
      exact ⟨hp, h1, h2, inC_in h3, inB_in (by assumption)⟩
    · cases h
  · contradiction
theorem askedG_PowerOf {K : Nat} (hK : 100 ≤ K) {p c k0 k1 q a0 a1 : Int} : impl_asked__impl_PowerOf_1.f K p c p k0 k1 q a0 a1 = some (codeG p c (k0, k1, q) (a0, a1)) := by
  unfold impl_asked__impl_PowerOf_1.f impl_PowerOf_1.f codeG codeC
  rw [isField_nice, isColour_nice, isCircle_nice hK, isPoint_nice (by omega)]
  by_cases hp : isP p <;> by_cases hc : 0 ≤ c ∧ c ≤ 2 <;> cases h1 : inC p (k0, k1, q) <;> cases h2 : inB p (a0, a1) <;> simp [hp, hc, h1, h2]
theorem askedG_InversePoint {K : Nat} (hK : 100 ≤ K) {p c k0 k1 q a0 a1 : Int} : impl_asked__impl_InversePoint_1.f K p c p k0 k1 q a0 a1 = some (codeG p c (k0, k1, q) (a0, a1)) := by
  unfold impl_asked__impl_InversePoint_1.f impl_InversePoint_1.f codeG codeC
  rw [isField_nice, isColour_nice, isCircle_nice hK, isPoint_nice (by omega)]
  by_cases hp : isP p <;> by_cases hc : 0 ≤ c ∧ c ≤ 2 <;> cases h1 : inC p (k0, k1, q) <;> cases h2 : inB p (a0, a1) <;> simp [hp, hc, h1, h2]
theorem askedG_TangentAt {K : Nat} (hK : 100 ≤ K) {p c k0 k1 q a0 a1 : Int} : impl_asked__impl_TangentAt_1.f K p c p k0 k1 q a0 a1 = some (codeG p c (k0, k1, q) (a0, a1)) := by
  unfold impl_asked__impl_TangentAt_1.f impl_TangentAt_1.f codeG codeC
  rw [isField_nice, isColour_nice, isCircle_nice hK, isPoint_nice (by omega)]
  by_cases hp : isP p <;> by_cases hc : 0 ≤ c ∧ c ≤ 2 <;> cases h1 : inC p (k0, k1, q) <;> cases h2 : inB p (a0, a1) <;> simp [hp, hc, h1, h2]
/-! ### Powers -/
def pow (p c k0 k1 q a0 a1 : Int) : Int := (quad c k0 k1 a0 a1 % p - q) % p
theorem pow_b {p c k0 k1 q a0 a1 : Int} (hp : isP p) : B 31 (pow p c k0 k1 q a0 a1) := B.mod hp _
theorem specPower_nice {K : Nat} {p c k0 k1 q a0 a1 : Int} (hp : isP p) (h1 : B 31 k0) (h2 : B 31 k1) (h3 : B 31 q) (h4 : B 31 a0) (h5 : B 31 a1) : spec_l06Power.f K p c k0 k1 q a0 a1 = some (pow p c k0 k1 q a0 a1) := by
  unfold spec_l06Power.f pow
  rw [specQuadrance_nice hp h1 h2 h4 h5]
  simp only [Option.bind_some]
  rw [w_eq (Sm.of ((B.mod hp _).sub h3) rfl), mod_nice hp]
  rfl
theorem implPower_nice {K : Nat} {p c k0 k1 q a0 a1 : Int} (hp : isP p) (h1 : B 31 k0) (h2 : B 31 k1) (h3 : B 31 q) (h4 : B 31 a0) (h5 : B 31 a1) : impl_power.f K p c k0 k1 q a0 a1 = some (pow p c k0 k1 q a0 a1) := by
  unfold impl_power.f pow
  rw [implQuadrance_nice hp h1 h2 h4 h5]
  simp only [Option.bind_some]
  rw [w_eq (Sm.of ((B.mod hp _).sub h3) rfl), rest_nice hp]
  rfl
/-! ### The radical line -/
def ru (c k0 k1 m0 m1 : Int) : Int := 2 * px c (m0 - k0) (m1 - k1)
def rv (c k0 k1 m0 m1 : Int) : Int := 2 * py c (m0 - k0) (m1 - k1)
def rw0 (c k0 k1 q m0 m1 r : Int) : Int := quad c 0 0 k0 k1 - quad c 0 0 m0 m1 - q + r
def rad (p c k0 k1 q m0 m1 r : Int) : Int × Int × Int := normal p (ru c k0 k1 m0 m1) (rv c k0 k1 m0 m1) (rw0 c k0 k1 q m0 m1 r)
theorem three {c : Int} (h1 : 0 ≤ c) (h2 : c ≤ 2) : c = 0 ∨ c = 1 ∨ c = 2 := by omega
/-! ### Circles through three points, and cyclic points -/
theorem specCircle_nice {K : Nat} (hK : 100 ≤ K) {p c a0 a1 b0 b1 c0 c1 : Int} (hp : isP p) (h1 : B 31 a0) (h2 : B 31 a1) (h3 : B 31 b0) (h4 : B 31 b1) (h5 : B 31 c0) (h6 : B 31 c1) :
    spec_l06Through.f K p c a0 a1 b0 b1 c0 c1 = some ((circ p c a0 a1 b0 b1 c0 c1).1, (circ p c a0 a1 b0 b1 c0 c1).2, quad c (circ p c a0 a1 b0 b1 c0 c1).1 (circ p c a0 a1 b0 b1 c0 c1).2 a0 a1 % p) := by
  have hcb := circ_b (p := p) (c := c) (a0 := a0) (a1 := a1) (b0 := b0) (b1 := b1) (c0 := c0) (c1 := c1) hp
  unfold spec_l06Through.f
  simp only [specCirc_nice hK hp h1 h2 h3 h4 h5 h6, Option.bind_some, specQuadrance_nice hp hcb.1 hcb.2 h1 h2]
theorem implCircle_nice {K : Nat} (hK : 5000 ≤ K) {p c a0 a1 b0 b1 c0 c1 : Int} (hp : isP p) (hc1 : 0 ≤ c) (hc2 : c ≤ 2) (h1 : B 31 a0) (h2 : B 31 a1) (h3 : B 31 b0) (h4 : B 31 b1) (h5 : B 31 c0) (h6 : B 31 c1) (har : areaOf a0 a1 b0 b1 c0 c1 % p ≠ 0) :
    impl_circleThrough.f K p c a0 a1 b0 b1 c0 c1 = some ((circ p c a0 a1 b0 b1 c0 c1).1, (circ p c a0 a1 b0 b1 c0 c1).2, quad c (circ p c a0 a1 b0 b1 c0 c1).1 (circ p c a0 a1 b0 b1 c0 c1).2 a0 a1 % p) := by
  have hcb := circ_b (p := p) (c := c) (a0 := a0) (a1 := a1) (b0 := b0) (b1 := b1) (c0 := c0) (c1 := c1) hp
  unfold impl_circleThrough.f
  simp only [implCirc_nice hK hp hc1 hc2 h1 h2 h3 h4 h5 h6 har, Option.bind_some, implQuadrance_nice hp hcb.1 hcb.2 h1 h2]
end Go.Proofs.YtccbmdpikalpfaaGreat
