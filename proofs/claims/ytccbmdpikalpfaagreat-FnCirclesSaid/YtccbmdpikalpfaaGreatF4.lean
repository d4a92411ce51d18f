/- The plain law of FnCircles. -/
import Derived.Test.YtccbmdpikalpfaaGreatF3
namespace Go.Proofs.YtccbmdpikalpfaaGreat
open Go Go.RowKit
set_option linter.unusedVariables false
set_option linter.unusedSimpArgs false
theorem both_TangentAt {K : Nat} (hK : 5000 ≤ K) (p c k0 k1 q a0 a1 : Int) : ∃ l : Int × Int × Int, ∃ e : Int, impl_TangentAt.f K p c k0 k1 q a0 a1 = some (l.1, l.2.1, l.2.2, e) ∧ spec_TangentAt.f K p c k0 k1 q a0 a1 = some (l.1, l.2.1, l.2.2, e) ∧
    (e = 0 → codeG p c (k0, k1, q) (a0, a1) = 0 ∧ pow p c k0 k1 q a0 a1 = 0 ∧ ¬ (a0 = k0 ∧ a1 = k1) ∧ l = tan p c k0 k1 (a0, a1)) ∧ (e ≠ 0 → l = (0, 0, 0)) := by
  have hK' : 100 ≤ K := by omega
  unfold spec_TangentAt.f impl_TangentAt.f
  simp only [Option.bind_some, given_nice hK', askedG_TangentAt hK']
  by_cases h : codeG p c (k0, k1, q) (a0, a1) = 0
  · obtain ⟨hp, hc1, hc2, ⟨i1, i2, i3⟩, i4, i5⟩ := codeG_zero h
    have h1 := i1.b hp; have h2 := i2.b hp; have h3 := i3.b hp; have h4 := i4.b hp; have h5 := i5.b hp
    simp only [h, Option.bind_some, beq_self_eq_true, if_true, specPower_nice hp h1 h2 h3 h4 h5, implPower_nice hp h1 h2 h3 h4 h5, specTan_nice hK' hp h1 h2 h4 h5]
    cases hz : pow p c k0 k1 q a0 a1 == 0
    · exact ⟨(0, 0, 0), 5, by simp, by simp, by simp, by simp⟩
    · cases he : (a0 == k0 && a1 == k1)
      · have hne' : ¬ (a0 = k0 ∧ a1 = k1) := by simpa using he
        have hne : ¬ ((k1 - a1) % p = 0 ∧ (a0 - k0) % p = 0) := fun ⟨e1, e2⟩ => hne' ⟨diff_zero i4 i1 e2, (diff_zero i2 i5 e1).symm⟩
        refine ⟨tan p c k0 k1 (a0, a1), 0, ?_, ?_, fun _ => ⟨by first | trivial | exact h, by simpa using hz, hne', rfl⟩, by simp⟩
        · simp only [if_true, Bool.false_eq_true, if_false, implTan_nice hK' hp hc1 hc2 h1 h2 h4 h5 hne, Option.bind_some]
          rfl
        · simp only [if_true, Bool.false_eq_true, if_false, Option.bind_some, beq_self_eq_true]
          rfl
      · exact ⟨(0, 0, 0), 5, by simp, by simp, by simp, by simp⟩
  · exact ⟨(0, 0, 0), codeG p c (k0, k1, q) (a0, a1), by simp [h], by simp [h], fun h2 => absurd h2 h, fun _ => rfl⟩
theorem both_CircleThrough {K : Nat} (hK : 5000 ≤ K) (p c a0 a1 b0 b1 c0 c1 : Int) : ∃ o0 o1 q e : Int, impl_CircleThrough.f K p c a0 a1 b0 b1 c0 c1 = some (o0, o1, q, e) ∧ spec_CircleThrough.f K p c a0 a1 b0 b1 c0 c1 = some (o0, o1, q, e) ∧
    (e = 0 → isP p ∧ 0 ≤ c ∧ c ≤ 2 ∧ (In p o0 ∧ In p o1 ∧ In p q) ∧ (In p a0 ∧ In p a1 ∧ pow p c o0 o1 q a0 a1 = 0) ∧ (In p b0 ∧ In p b1 ∧ pow p c o0 o1 q b0 b1 = 0) ∧ (In p c0 ∧ In p c1 ∧ pow p c o0 o1 q c0 c1 = 0)) := by
  have hK' : 100 ≤ K := by omega
  unfold spec_CircleThrough.f impl_CircleThrough.f
  simp only [Option.bind_some, specCode_nice hK', implCode_nice hK']
  by_cases h : code3 p c [(a0, a1), (b0, b1), (c0, c1)] (areaOf a0 a1 b0 b1 c0 c1) = 0
  · obtain ⟨hp, ⟨i1, i2⟩, ⟨i3, i4⟩, ⟨i5, i6⟩, hc1, hc2, har⟩ := code3_zero h
    have h1 := i1.b hp; have h2 := i2.b hp; have h3 := i3.b hp; have h4 := i4.b hp; have h5 := i5.b hp; have h6 := i6.b hp
    have hf := List.find?_some (circ_find hp hc1 hc2 har)
    have hm := (mem_allPts hp).1 (List.mem_of_find?_eq_some (circ_find hp hc1 hc2 har))
    unfold circB at hf
    simp only [Bool.and_eq_true, beq_iff_eq] at hf
    refine ⟨(circ p c a0 a1 b0 b1 c0 c1).1, (circ p c a0 a1 b0 b1 c0 c1).2, quad c (circ p c a0 a1 b0 b1 c0 c1).1 (circ p c a0 a1 b0 b1 c0 c1).2 a0 a1 % p, 0, ?_, ?_, fun _ => ⟨hp, hc1, hc2, ⟨hm.1, hm.2, mod_in hp _⟩, ⟨i1, i2, ?_⟩, ⟨i3, i4, ?_⟩, ⟨i5, i6, ?_⟩⟩⟩
    · simp only [h, beq_self_eq_true, if_true, implCircle_nice hK hp hc1 hc2 h1 h2 h3 h4 h5 h6 har, Option.bind_some]
    · simp only [h, beq_self_eq_true, if_true, specCircle_nice hK' hp h1 h2 h3 h4 h5 h6, Option.bind_some]
    · unfold pow; simp
    · unfold pow; rw [← hf.1]; simp
    · unfold pow; rw [← hf.2]; simp
  · exact ⟨0, 0, 0, code3 p c [(a0, a1), (b0, b1), (c0, c1)] (areaOf a0 a1 b0 b1 c0 c1), by simp [h], by simp [h], fun h2 => absurd h2 h⟩
theorem lines9_l0 {K : Nat} (xs : List (Int × Int × Int)) (hl : xs.length ≤ 2000) : ∀ (m k i : Nat), xs.length - i = m → m < k → i ≤ xs.length → laws_lines9.l0 K xs xs k i = some true
  | 0, k + 1, i, hm, _, hi => by
    have : i = xs.length := by omega
    subst this
    simp [laws_lines9.l0]
  | m + 1, k + 1, i, hm, hk, hi => by
    have hlt : i < xs.length := by omega
    rw [laws_lines9.l0, if_pos (by simpa using hlt), idx_nat, List.getElem?_eq_getElem hlt, w_nat (by omega), lines9_l0 xs hl m k (i + 1) (by omega) (by omega) (by omega)]
    simp
theorem lines9_nice {K : Nat} (hK : 5000 ≤ K) (xs : List (Int × Int × Int)) (hl : xs.length ≤ 2000) : laws_lines9.f K xs xs = some true := by
  unfold laws_lines9.f
  rw [if_pos (by simp)]
  exact lines9_l0 xs hl xs.length K 0 rfl (by omega) (Nat.zero_le _)
/-- Where a point is on a circle and not its centre there is a tangent from it. -/
theorem tf_some {K : Nat} (hK : 5000 ≤ K) {p c k0 k1 q a0 a1 : Int} (h : codeG p c (k0, k1, q) (a0, a1) = 0) (hpw : pow p c k0 k1 q a0 a1 = 0) (hne : ¬ (a0 = k0 ∧ a1 = k1)) (hon : onB p (tan p c k0 k1 (a0, a1)).1 (tan p c k0 k1 (a0, a1)).2.1 (tan p c k0 k1 (a0, a1)).2.2 (a0, a1) = true) :
    ∃ xs, impl_TangentsFrom.f K p c k0 k1 q a0 a1 = some (xs, 0) ∧ spec_TangentsFrom.f K p c k0 k1 q a0 a1 = some (xs, 0) ∧ xs.length ≤ 961 ∧ 0 < xs.length := by
  unfold impl_TangentsFrom.f spec_TangentsFrom.f
  rw [askedG_TangentsFrom (by omega), given_nice (by omega)]
  obtain ⟨hp, hc1, hc2, ⟨i1, i2, i3⟩, i4, i5⟩ := codeG_zero h
  have hs := pts_small hp
  have hle := List.length_filter_le (atB p c k0 k1 q) (allPts p)
  have hin : ∀ x ∈ (allPts p).filter (atB p c k0 k1 q), In p x.1 ∧ In p x.2 := fun x hx => (mem_allPts hp).1 (List.mem_filter.1 hx).1
  obtain ⟨r, e1, e2, e3, e4⟩ := tfI_l0 hK (c := c) (q := q) hp hc1 hc2 i1 i2 (i4.b hp) (i5.b hp) _ hin (by omega) _ K 0 [] rfl (by omega) (by omega) (by simp) (by simp)
  obtain ⟨s, f1, f2, f3, f4⟩ := tfS_l0 hK (c := c) (q := q) hp (i1.b hp) (i2.b hp) (i4.b hp) (i5.b hp) _ hin (by omega) _ K 0 [] rfl (by omega) (by omega) (by simp) (by simp [Asc])
  simp only [Int.natCast_zero, Int.ofNat_zero] at e1 f1
  have es : sortL r = s := asc_unique (asc_sort e2) f2 fun y => by rw [(sortL_spec r).1.mem_iff, e3, f3]
  have hat : (a0, a1) ∈ (allPts p).filter (atB p c k0 k1 q) := List.mem_filter.2 ⟨(mem_allPts hp).2 ⟨i4, i5⟩, by
    have := pow_zero (c := c) (k0 := k0) (k1 := k1) (x := a0) (y := a1) hp i3
    rw [hpw] at this
    exact this.symm⟩
  have hmem : tan p c k0 k1 (a0, a1) ∈ s := (f3 _).2 (.inr ⟨(a0, a1), by simpa using hat, ⟨hne, hon, rfl⟩⟩)
  refine ⟨s, ?_, ?_, by omega, List.length_pos_of_mem hmem⟩
  · simp only [h, Option.bind_some, beq_self_eq_true, if_true, tfAt_nice hK hp (i1.b hp) (i2.b hp)]
    rw [e1, es]
  · simp only [h, Option.bind_some, beq_self_eq_true, if_true, at_nice hK hp (i1.b hp) (i2.b hp)]
    exact f1
end Go.Proofs.YtccbmdpikalpfaaGreat
