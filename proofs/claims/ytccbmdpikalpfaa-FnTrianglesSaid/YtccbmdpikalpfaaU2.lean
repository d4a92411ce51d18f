/- The plain law of FnTriangles. -/
import Derived.Test.YtccbmdpikalpfaaU1
import Derived.Test.YtccbmdpikalpfaaT3
namespace Go.Proofs.Ytccbmdpikalpfaa
open Go Go.RowKit
set_option linter.unusedVariables false
set_option linter.unusedSimpArgs false
theorem on_nice {K : Nat} {p l0 l1 l2 x y : Int} (hp : isP p) (h1 : B 31 l0) (h2 : B 31 l1) (h3 : B 31 l2) (hx : B 31 x) (hy : B 31 y) : impl_isOn.f K p x y l0 l1 l2 = some ((l0 * x + l1 * y + l2) % p == 0) := by
  have hpl := hp.lt
  have hz : ¬ p = 0 := by omega
  unfold impl_isOn.f
  simp (disch := exact Sm.of (by repeat' first | assumption | apply B.add | apply B.sub | apply B.mul | exact B.mod hp _ | exact B.const _) rfl) only [w_eq]
  simp only [hz, beq_iff_eq, if_false]
  congr 1
  rw [Bool.eq_iff_iff, beq_iff_eq, beq_iff_eq]
  exact ⟨fun h => Int.emod_eq_zero_of_dvd (Int.dvd_of_tmod_eq_zero h), fun h => Int.tmod_eq_zero_of_dvd (Int.dvd_of_emod_eq_zero h)⟩
theorem pIsOnLine {K : Nat} (hK : 100 ≤ K) {p x y : Int} {l : Int × Int × Int} (hp : isP p) (hx : In p x) (hy : In p y) (hl : inL p l = true) (h1 : B 31 l.1) (h2 : B 31 l.2.1) (h3 : B 31 l.2.2) (h : (l.1 * x + l.2.1 * y + l.2.2) % p = 0) :
    impl_IsOnLine.f K p x y l.1 l.2.1 l.2.2 = some (true, 0) := by
  unfold impl_IsOnLine.f impl_asked__impl_IsOnLine_1.f impl_IsOnLine_1.f
  simp only [isField_nice, isPoint_nice (show 10 ≤ K by omega), isLine_nice hK, inB_mk hx hy, hl, Option.bind_some, decide_eq_true hp, if_true, beq_self_eq_true, on_nice hp h1 h2 h3 (hx.b hp) (hy.b hp), h]
theorem pLineThrough {K : Nat} (hK : 100 ≤ K) {p a0 a1 b0 b1 : Int} (hp : isP p) (h1 : In p a0) (h2 : In p a1) (h3 : In p b0) (h4 : In p b1) (h : ¬ (a0 = b0 ∧ a1 = b1)) :
    impl_LineThrough.f K p a0 a1 b0 b1 = some ((lineOf p a0 a1 b0 b1).1, (lineOf p a0 a1 b0 b1).2.1, (lineOf p a0 a1 b0 b1).2.2, 0) := by
  unfold impl_LineThrough.f impl_asked__impl_LineThrough_1.f impl_LineThrough_1.f
  have e1 := arePoints_nice (K := K) (p := p) [(a0, a1), (b0, b1)] (by simp) (by simp; omega)
  have e2 : (a0 == b0 && a1 == b1) = false := by
    rw [Bool.eq_false_iff]
    simpa using h
  simp only [isField_nice, e1, e2, Option.bind_some, decide_eq_true hp, if_true, List.all_cons, List.all_nil, inB_mk h1 h2, inB_mk h3 h4, Bool.and_self, beq_self_eq_true, Bool.false_eq_true, if_false, implLineThrough_nice hK hp (h1.b hp) (h2.b hp) (h3.b hp) (h4.b hp)]
theorem areLines2 {K : Nat} (hK : 100 ≤ K) {p : Int} {l m : Int × Int × Int} (hl : inL p l = true) (hm : inL p m = true) : impl_areLines.f K p [(l.1, l.2.1, l.2.2), (m.1, m.2.1, m.2.2)] = some true := by
  obtain ⟨k, rfl⟩ : ∃ k, K = k + 10 := ⟨K - 10, by omega⟩
  simp [impl_areLines.f, impl_areLines.l0, isLine_nice hK, hl, hm, idx, wrap64]
theorem pPerp {K : Nat} (hK : 100 ≤ K) {p c : Int} {l m : Int × Int × Int} (hp : isP p) (hc1 : 0 ≤ c) (hc2 : c ≤ 2) (hl : inL p l = true) (hm : inL p m = true) (h1 : B 31 l.1) (h2 : B 31 l.2.1) (h3 : B 31 m.1) (h4 : B 31 m.2.1) (h : perpB p c l.1 l.2.1 m = true) :
    impl_ArePerpendicular.f K p c l.1 l.2.1 l.2.2 m.1 m.2.1 m.2.2 = some (true, 0) := by
  unfold impl_ArePerpendicular.f impl_asked__impl_ArePerpendicular_1.f impl_ArePerpendicular_1.f
  simp only [isField_nice, isColour_nice, areLines2 hK hl hm, Option.bind_some, decide_eq_true hp, if_true, decide_eq_true (show 0 ≤ c ∧ c ≤ 2 from ⟨hc1, hc2⟩), beq_self_eq_true, arePerp_nice hp h1 h2 h3 h4, h]
/-- A line in normal form is a line. -/
theorem normal_inL {p u v w : Int} (hp : isP p) (h : ¬ (u % p = 0 ∧ v % p = 0)) : inL p (normal p u v w) = true := by
  have hpl := hp.lt
  have i1 := inN_mk (mod_in hp (u * inv p (piv p u v)))
  have i2 := inN_mk (mod_in hp (v * inv p (piv p u v)))
  have i3 := inN_mk (mod_in hp (w * inv p (piv p u v)))
  unfold inL normal
  simp only [i1, i2, i3, Bool.true_and, Bool.or_eq_true, Bool.and_eq_true, beq_iff_eq]
  have key : ∀ x : Int, x % p ≠ 0 → (x * inv p (x % p)) % p = 1 := fun x hx => by
    have := inv_mul hp (mod_in hp x) hx
    rw [Int.mul_emod, Int.emod_emod_of_dvd _ (Int.dvd_refl p), ← Int.mul_emod] at this
    exact this
  unfold piv
  by_cases hu : u % p = 0
  · refine .inr ⟨?_, ?_⟩
    · rw [if_pos hu, Int.mul_emod, hu, Int.zero_mul, Int.zero_emod]
    · rw [if_pos hu]
      exact key v fun hv => h ⟨hu, hv⟩
  · refine .inl ?_
    rw [if_neg hu]
    exact key u hu
theorem areaPerp {p c a0 a1 b0 b1 c0 c1 : Int} (hp : isP p) (hc1 : 0 ≤ c) (hc2 : c ≤ 2) (har : areaOf a0 a1 b0 b1 c0 c1 % p ≠ 0) : ¬ (px c (b0 - c0) (b1 - c1) % p = 0 ∧ py c (b0 - c0) (b1 - c1) % p = 0) := by
  have hc : c = 0 ∨ c = 1 ∨ c = 2 := by omega
  obtain ⟨e1, -, -⟩ := area_ne hp har
  refine px_ne hp hc fun ⟨x, y⟩ => e1 ⟨x, ?_⟩
  rw [show c0 - b0 = -(b0 - c0) by omega]
  exact y
/-- What is said of the orthocentre, the circumcentre and the altitude. -/
structure Three (K : Nat) (p c a0 a1 b0 b1 c0 c1 o0 o1 k0 k1 q l0 l1 l2 oc : Int) : Prop where
  oI : impl_OrthocentreOf.f K p c a0 a1 b0 b1 c0 c1 = some (o0, o1, oc)
  oS : spec_OrthocentreOf.f K p c a0 a1 b0 b1 c0 c1 = some (o0, o1, oc)
  kI : impl_CircumcentreOf.f K p c a0 a1 b0 b1 c0 c1 = some (k0, k1, oc)
  kS : spec_CircumcentreOf.f K p c a0 a1 b0 b1 c0 c1 = some (k0, k1, oc)
  qI : impl_CircumquadranceOf.f K p c a0 a1 b0 b1 c0 c1 = some (q, oc)
  qS : spec_CircumquadranceOf.f K p c a0 a1 b0 b1 c0 c1 = some (q, oc)
  lI : impl_AltitudeOf.f K p c a0 a1 b0 b1 c0 c1 = some (l0, l1, l2, oc)
  lS : spec_AltitudeOf.f K p c a0 a1 b0 b1 c0 c1 = some (l0, l1, l2, oc)
structure Good3 (K : Nat) (p c a0 a1 b0 b1 c0 c1 o0 o1 k0 k1 q l0 l1 l2 : Int) (s : Int × Int × Int) : Prop where
  on : impl_IsOnLine.f K p o0 o1 l0 l1 l2 = some (true, 0)
  qa : impl_Quadrance.f K p c k0 k1 a0 a1 = some (q, 0)
  qb : impl_Quadrance.f K p c k0 k1 b0 b1 = some (q, 0)
  qc : impl_Quadrance.f K p c k0 k1 c0 c1 = some (q, 0)
  thr : impl_LineThrough.f K p b0 b1 c0 c1 = some (s.1, s.2.1, s.2.2, 0)
  perp : impl_ArePerpendicular.f K p c s.1 s.2.1 s.2.2 l0 l1 l2 = some (true, 0)
theorem three {K : Nat} (hK : 5000 ≤ K) (p c a0 a1 b0 b1 c0 c1 : Int) : ∃ o0 o1 k0 k1 q l0 l1 l2 oc, Three K p c a0 a1 b0 b1 c0 c1 o0 o1 k0 k1 q l0 l1 l2 oc ∧ (oc = 0 → ∃ s, Good3 K p c a0 a1 b0 b1 c0 c1 o0 o1 k0 k1 q l0 l1 l2 s) ∧ (oc ≠ 0 → o0 = 0 ∧ o1 = 0) := by
  have hK' : 100 ≤ K := by omega
  by_cases h : code3 p c [(a0, a1), (b0, b1), (c0, c1)] (areaOf a0 a1 b0 b1 c0 c1) = 0
  · obtain ⟨hp, ⟨i1, i2⟩, ⟨i3, i4⟩, ⟨i5, i6⟩, hc1, hc2, har⟩ := code3_zero h
    have h1 := i1.b hp; have h2 := i2.b hp; have h3 := i3.b hp; have h4 := i4.b hp; have h5 := i5.b hp; have h6 := i6.b hp
    have hcb := circ_b (p := p) (c := c) (a0 := a0) (a1 := a1) (b0 := b0) (b1 := b1) (c0 := c0) (c1 := c1) hp
    obtain ⟨e1, -, -⟩ := area_ne hp har
    have hL : inL p (altOf p c a0 a1 b0 b1 c0 c1) = true := normal_inL hp (areaPerp hp hc1 hc2 har)
    have hS : inL p (lineOf p b0 b1 c0 c1) = true := normal_inL hp e1
    obtain ⟨m1, m2, m3⟩ := altOf_b (p := p) (c := c) (a0 := a0) (a1 := a1) (b0 := b0) (b1 := b1) (c0 := c0) (c1 := c1) hp
    obtain ⟨n1, n2, n3⟩ : B 31 (lineOf p b0 b1 c0 c1).1 ∧ B 31 (lineOf p b0 b1 c0 c1).2.1 ∧ B 31 (lineOf p b0 b1 c0 c1).2.2 := normal_b hp
    obtain ⟨f1, f2⟩ := circ_far hp hc1 hc2 har
    have oi : In p (orth p c a0 a1 b0 b1 c0 c1).1 ∧ In p (orth p c a0 a1 b0 b1 c0 c1).2 := ⟨mod_in hp _, mod_in hp _⟩
    have ki : In p (circ p c a0 a1 b0 b1 c0 c1).1 ∧ In p (circ p c a0 a1 b0 b1 c0 c1).2 := ⟨mod_in hp _, mod_in hp _⟩
    refine ⟨(orth p c a0 a1 b0 b1 c0 c1).1, (orth p c a0 a1 b0 b1 c0 c1).2, (circ p c a0 a1 b0 b1 c0 c1).1, (circ p c a0 a1 b0 b1 c0 c1).2, quad c (circ p c a0 a1 b0 b1 c0 c1).1 (circ p c a0 a1 b0 b1 c0 c1).2 a0 a1 % p,
      (altOf p c a0 a1 b0 b1 c0 c1).1, (altOf p c a0 a1 b0 b1 c0 c1).2.1, (altOf p c a0 a1 b0 b1 c0 c1).2.2, 0, ⟨?_, ?_, ?_, ?_, ?_, ?_, ?_, ?_⟩, fun _ => ⟨lineOf p b0 b1 c0 c1, ⟨?_, ?_, ?_, ?_, ?_, ?_⟩⟩, fun h0 => absurd rfl h0⟩
    · unfold impl_OrthocentreOf.f
      simp only [implCode_nice hK', h, beq_self_eq_true, if_true, implOrth_nice hK' hp hc1 hc2 h1 h2 h3 h4 h5 h6 har, Option.bind_some]
    · unfold spec_OrthocentreOf.f
      simp only [specCode_nice hK', h, beq_self_eq_true, if_true, specOrth_nice hK' hp h1 h2 h3 h4 h5 h6, Option.bind_some]
    · unfold impl_CircumcentreOf.f
      simp only [implCode_nice hK', h, beq_self_eq_true, if_true, implCirc_nice hK hp hc1 hc2 h1 h2 h3 h4 h5 h6 har, Option.bind_some]
    · unfold spec_CircumcentreOf.f
      simp only [specCode_nice hK', h, beq_self_eq_true, if_true, specCirc_nice hK' hp h1 h2 h3 h4 h5 h6, Option.bind_some]
    · unfold impl_CircumquadranceOf.f
      simp only [implCode_nice hK', h, beq_self_eq_true, if_true, implCirc_nice hK hp hc1 hc2 h1 h2 h3 h4 h5 h6 har, Option.bind_some, implQuadrance_nice hp hcb.1 hcb.2 h1 h2]
    · unfold spec_CircumquadranceOf.f
      simp only [specCode_nice hK', h, beq_self_eq_true, if_true, specCirc_nice hK' hp h1 h2 h3 h4 h5 h6, Option.bind_some, specQuadrance_nice hp hcb.1 hcb.2 h1 h2]
    · unfold impl_AltitudeOf.f
      simp only [implCode_nice hK', h, beq_self_eq_true, if_true, implAlt_nice hK' hp hc1 hc2 h1 h2 h3 h4 h5 h6 e1, Option.bind_some]
    · unfold spec_AltitudeOf.f
      simp only [specCode_nice hK', h, beq_self_eq_true, if_true, specAlt_nice hK' hp h1 h2 h3 h4 h5 h6, Option.bind_some]
    · exact pIsOnLine hK' hp oi.1 oi.2 hL m1 m2 m3 (orth_on hp hc1 hc2 har)
    · exact pQuadrance hK' hp hc1 hc2 ki.1 ki.2 i1 i2
    · rw [← f1]; exact pQuadrance hK' hp hc1 hc2 ki.1 ki.2 i3 i4
    · rw [← f2]; exact pQuadrance hK' hp hc1 hc2 ki.1 ki.2 i5 i6
    · refine pLineThrough hK' hp i3 i4 i5 i6 fun ⟨x, y⟩ => e1 ⟨?_, ?_⟩
      · rw [y, Int.sub_self, Int.zero_emod]
      · rw [x, Int.sub_self, Int.zero_emod]
    · exact pPerp hK' hp hc1 hc2 hS hL n1 n2 m1 m2 (alt_perp hp hc1 hc2)
  · refine ⟨0, 0, 0, 0, 0, 0, 0, 0, code3 p c [(a0, a1), (b0, b1), (c0, c1)] (areaOf a0 a1 b0 b1 c0 c1), ⟨?_, ?_, ?_, ?_, ?_, ?_, ?_, ?_⟩, fun h0 => absurd h0 h, fun _ => ⟨rfl, rfl⟩⟩
    · unfold impl_OrthocentreOf.f; rw [implCode_nice hK']; simp [h]
    · unfold spec_OrthocentreOf.f; rw [specCode_nice hK']; simp [h]
    · unfold impl_CircumcentreOf.f; rw [implCode_nice hK']; simp [h]
    · unfold spec_CircumcentreOf.f; rw [specCode_nice hK']; simp [h]
    · unfold impl_CircumquadranceOf.f; rw [implCode_nice hK']; simp [h]
    · unfold spec_CircumquadranceOf.f; rw [specCode_nice hK']; simp [h]
    · unfold impl_AltitudeOf.f; rw [implCode_nice hK']; simp [h]
    · unfold spec_AltitudeOf.f; rw [specCode_nice hK']; simp [h]
structure Two (K : Nat) (p a0 a1 b0 b1 c0 c1 g0 g1 gc m0 m1 m2 mc : Int) : Prop where
  gI : impl_CentroidOf.f K p a0 a1 b0 b1 c0 c1 = some (g0, g1, gc)
  gS : spec_CentroidOf.f K p a0 a1 b0 b1 c0 c1 = some (g0, g1, gc)
  mI : impl_MedianOf.f K p a0 a1 b0 b1 c0 c1 = some (m0, m1, m2, mc)
  mS : spec_MedianOf.f K p a0 a1 b0 b1 c0 c1 = some (m0, m1, m2, mc)
  on : gc = 0 → mc = 0 ∧ impl_IsOnLine.f K p g0 g1 m0 m1 m2 = some (true, 0)
theorem two {K : Nat} (hK : 100 ≤ K) (p a0 a1 b0 b1 c0 c1 : Int) : ∃ g0 g1 gc m0 m1 m2 mc, Two K p a0 a1 b0 b1 c0 c1 g0 g1 gc m0 m1 m2 mc := by
  by_cases h : code3 p 0 [(a0, a1), (b0, b1), (c0, c1)] (areaOf a0 a1 b0 b1 c0 c1) = 0
  · obtain ⟨hp, ⟨i1, i2⟩, ⟨i3, i4⟩, ⟨i5, i6⟩, hc1, hc2, har⟩ := code3_zero h
    have h1 := i1.b hp; have h2 := i2.b hp; have h3 := i3.b hp; have h4 := i4.b hp; have h5 := i5.b hp; have h6 := i6.b hp
    have hpl := hp.lt
    have im : impl_MedianOf.f K p a0 a1 b0 b1 c0 c1 = some ((lineOf p a0 a1 (mid p b0 c0) (mid p b1 c1)).1, (lineOf p a0 a1 (mid p b0 c0) (mid p b1 c1)).2.1, (lineOf p a0 a1 (mid p b0 c0) (mid p b1 c1)).2.2, 0) := by
      unfold impl_MedianOf.f
      simp only [implCode_nice hK, h, beq_self_eq_true, if_true, implMid_nice hK hp h3 h4 h5 h6, Option.bind_some, implLineThrough_nice hK hp h1 h2 (mid_b hp) (mid_b hp)]
    have sm : spec_MedianOf.f K p a0 a1 b0 b1 c0 c1 = some ((lineOf p a0 a1 (mid p b0 c0) (mid p b1 c1)).1, (lineOf p a0 a1 (mid p b0 c0) (mid p b1 c1)).2.1, (lineOf p a0 a1 (mid p b0 c0) (mid p b1 c1)).2.2, 0) := by
      unfold spec_MedianOf.f
      simp only [specCode_nice hK, h, beq_self_eq_true, if_true, specMiddle_nice hp h3 h4 h5 h6, Option.bind_some, specThrough_nice hK hp h1 h2 (mid_b hp) (mid_b hp)]
    by_cases h3' : p = 3
    · refine ⟨0, 0, 5, _, _, _, 0, ⟨?_, ?_, im, sm, fun h0 => by omega⟩⟩
      · subst h3'; unfold impl_CentroidOf.f; rw [implCode_nice hK]; simp [h]
      · subst h3'; unfold spec_CentroidOf.f; rw [specCode_nice hK]; simp [h]
    · have h3i : In p 3 := ⟨by unfold isP at hp; omega⟩
      have hz : ¬ p = 0 := by omega
      have ht : Int.tmod 3 p = 3 := by rw [Int.tmod_eq_emod_of_nonneg (by omega), h3i.mod]
      have hi := (inv_in hp h3i).b hp
      have hd : ∀ x y z : Int, B 31 x → B 31 y → B 31 z → wrap64 (wrap64 (x + y) + z) = x + y + z := fun x y z hx hy hz => by
        rw [w_eq (Sm.of (hx.add hy) rfl), w_eq (Sm.of ((hx.add hy).add hz) rfl)]
      have e : ∀ x y z : Int, ((x + y + z) * inv p 3) % p = (inv p 3 * ((x + (y + z) % p) % p)) % p := fun x y z => emod_ring hp fun n _ hn e => by
        subst e
        simp only [cst_add, cst_sub, cst_mul, cst_mod, cst_neg]
        grind
      refine ⟨(ctr p a0 a1 b0 b1 c0 c1).1, (ctr p a0 a1 b0 b1 c0 c1).2, 0, _, _, _, 0, ⟨?_, ?_, im, sm, fun _ => ⟨rfl, ?_⟩⟩⟩
      · unfold impl_CentroidOf.f ctr
        simp only [implCode_nice hK, h, h3', hz, beq_self_eq_true, beq_iff_eq, if_true, if_false, Option.bind_some, hd _ _ _ h1 h3 h5, hd _ _ _ h2 h4 h6, implDivide_nice hK hp (((h1.add h3).add h5).le (by decide)) h3i, implDivide_nice hK hp (((h2.add h4).add h6).le (by decide)) h3i, e]
      · unfold spec_CentroidOf.f ctr
        simp only [specCode_nice hK, h, h3', hz, beq_self_eq_true, beq_iff_eq, if_true, if_false, Option.bind_some, ht, specInverse_nice hK hp h3i, specPlus_nice hp h3 h4 h5 h6, specPlus_nice hp h1 h2 (B.mod hp _) (B.mod hp _), specTimes_nice hp hi (B.mod hp _) (B.mod hp _)]
      · obtain ⟨n1, n2, n3⟩ : B 31 (lineOf p a0 a1 (mid p b0 c0) (mid p b1 c1)).1 ∧ B 31 (lineOf p a0 a1 (mid p b0 c0) (mid p b1 c1)).2.1 ∧ B 31 (lineOf p a0 a1 (mid p b0 c0) (mid p b1 c1)).2.2 := normal_b hp
        refine pIsOnLine hK hp (mod_in hp _) (mod_in hp _) (normal_inL hp ?_) n1 n2 n3 (ctr_on hp h3')
        -- the middle of the side is not the corner
        rintro ⟨x, y⟩
        refine har ?_
        obtain ⟨n, hn⟩ := Int.eq_ofNat_of_zero_le (show 0 ≤ p by omega)
        have : NeZero n := ⟨by omega⟩
        have hn2 : 2 < n := by omega
        have hh := half_cst hp n hn2 hn
        unfold mid at x y
        unfold areaOf
        rw [hn, ← cst_z] at x y ⊢
        rw [← hn] at x y
        rw [hn] at x y
        simp only [cst_add, cst_sub, cst_mul, cst_mod] at x y ⊢
        rw [← hn] at x y
        generalize cst n (half p) = hf at *
        generalize cst n a0 = A0 at *
        generalize cst n a1 = A1 at *
        generalize cst n b0 = B0 at *
        generalize cst n b1 = B1 at *
        generalize cst n c0 = C0 at *
        generalize cst n c1 = C1 at *
        have e1 : 2 * A1 = B1 + C1 := by
          have : (2 * hf) * (B1 + C1) = 1 * (B1 + C1) := by rw [hh]
          grind
        have e0 : 2 * A0 = B0 + C0 := by
          have : (2 * hf) * (B0 + C0) = 1 * (B0 + C0) := by rw [hh]
          grind
        have e3 : C1 = 2 * A1 - B1 := by grind
        have e4 : C0 = 2 * A0 - B0 := by grind
        subst e3 e4
        grind
  · refine ⟨0, 0, code3 p 0 [(a0, a1), (b0, b1), (c0, c1)] (areaOf a0 a1 b0 b1 c0 c1), 0, 0, 0, code3 p 0 [(a0, a1), (b0, b1), (c0, c1)] (areaOf a0 a1 b0 b1 c0 c1), ⟨?_, ?_, ?_, ?_, fun h0 => absurd h0 h⟩⟩
    · unfold impl_CentroidOf.f; rw [implCode_nice hK]; simp [h]
    · unfold spec_CentroidOf.f; rw [specCode_nice hK]; simp [h]
    · unfold impl_MedianOf.f; rw [implCode_nice hK]; simp [h]
    · unfold spec_MedianOf.f; rw [specCode_nice hK]; simp [h]
theorem law_FnTriangles {K : Nat} (hK : 5000 ≤ K) (bs : List Int) (hb : ∀ x ∈ bs, 0 ≤ x ∧ x < 256) : laws_FnTriangles.f K bs = some true := by
  unfold laws_FnTriangles.f laws_big.f
  simp only [Option.bind_some]
  by_cases hl : 4096 < (bs.length : Int)
  · rw [if_pos (decide_eq_true hl)]
  rw [if_neg (by simpa using hl)]
  obtain ⟨p, c, a0, a1, b0, b1, c0, c1, e⟩ := draw_ex hK hb (by omega)
  have e1 : spec_DrawOrthocentreOf.f K bs = some (p, c, a0, a1, b0, b1, c0, c1) := by
    unfold spec_DrawOrthocentreOf.f spec_DrawQuadreaOf.f
    simp only [e, Option.bind_some]
  have e2 : spec_DrawCentroidOf.f K bs = some (p, a0, a1, b0, b1, c0, c1) := by
    unfold spec_DrawCentroidOf.f spec_DrawMedianOf.f
    simp only [e, Option.bind_some]
  obtain ⟨o0, o1, k0, k1, q, l0, l1, l2, oc, T, hgood, hbad⟩ := three hK p c a0 a1 b0 b1 c0 c1
  obtain ⟨g0, g1, gc, m0, m1, m2, mc, W⟩ := two (show 100 ≤ K by omega) p a0 a1 b0 b1 c0 c1
  simp only [e1, e2, Option.bind_some, T.oI, T.oS, T.kI, T.kS, T.qI, T.qS, T.lI, T.lS, W.gI, W.gS, W.mI, W.mS, beq_self_eq_true, Bool.and_self, if_true]
  have tail : oc = 0 → ∃ s, Good3 K p c a0 a1 b0 b1 c0 c1 o0 o1 k0 k1 q l0 l1 l2 s := hgood
  by_cases hg : gc = 0
  · obtain ⟨hm, hon⟩ := W.on hg
    by_cases ho : oc = 0
    · obtain ⟨s, G⟩ := hgood ho
      subst hg hm ho
      simp only [beq_self_eq_true, if_true, hon, Option.bind_some, G.on, G.qa, G.qb, G.qc, G.thr, G.perp]
    · obtain ⟨z0, z1⟩ := hbad ho
      subst hg hm z0 z1
      have ho' : (oc == 0) = false := by simpa using ho
      simp only [beq_self_eq_true, if_true, hon, Option.bind_some, ho', Bool.false_eq_true, if_false, Bool.and_self]
  · have hg' : (gc == 0) = false := by simpa using hg
    by_cases ho : oc = 0
    · obtain ⟨s, G⟩ := hgood ho
      subst ho
      simp only [hg', Bool.false_eq_true, if_false, beq_self_eq_true, if_true, Option.bind_some, G.on, G.qa, G.qb, G.qc, G.thr, G.perp]
    · obtain ⟨z0, z1⟩ := hbad ho
      subst z0 z1
      have ho' : (oc == 0) = false := by simpa using ho
      simp only [hg', Bool.false_eq_true, if_false, beq_self_eq_true, if_true, Option.bind_some, ho', Bool.and_self]
end Go.Proofs.Ytccbmdpikalpfaa
