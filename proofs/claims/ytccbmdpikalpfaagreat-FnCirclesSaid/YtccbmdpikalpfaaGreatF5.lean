/- The plain law of FnCircles, its end. -/
import Derived.Test.YtccbmdpikalpfaaGreatF4
namespace Go.Proofs.YtccbmdpikalpfaaGreat
open Go Go.RowKit
set_option linter.unusedVariables false
set_option linter.unusedSimpArgs false
theorem meet_ex {K : Nat} (hK : 5000 ≤ K) {bs : List Int} (hb : ∀ x ∈ bs, 0 ≤ x ∧ x < 256) (hl : bs.length ≤ 4096) : ∃ p c k0 k1 q l0 l1 l2, spec_DrawMeetLine.f K bs = some (p, c, k0, k1, q, l0, l1, l2) := by
  unfold spec_DrawMeetLine.f
  obtain ⟨h0, e0⟩ := from_ex hK hl
  obtain ⟨p, c, k0, k1, q, a0, a1, e1⟩ := with_ex hK hb hl
  obtain ⟨l, e, _, e2, _, _⟩ := both_TangentAt hK p c k0 k1 q a0 a1
  have z : (0 : Int) ≤ 0 ∧ (0 : Int) ≤ 4096 := ⟨Int.le_refl 0, by omega⟩
  obtain ⟨n, i3, h3, e3, _, q3⟩ := next_ex (K := K) (h := h0) hb hl z 2
  obtain ⟨v, i4, h4, e4, _, q4⟩ := pick_ex (K := K) (h := h3) hb hl q3 [3, 5, 7, 3] (by decide)
  obtain ⟨x, y, w, i5, h5, e5⟩ := drawLine_ex (K := K) (h := h4) hb hl q4 v
  obtain ⟨v', i4', h4', e4', _, q4'⟩ := pick_ex (K := K) (h := h0) hb hl z [3, 5, 7, 3] (by decide)
  obtain ⟨x', y', w', i5', h5', e5'⟩ := drawLine_ex (K := K) (h := h4') hb hl q4' v'
  simp only [e0, e1, e2, e3, e4, e5, e4', e5', Option.bind_some]
  split
  · split
    · exact ⟨_, _, _, _, _, _, _, _, rfl⟩
    · exact ⟨_, _, _, _, _, _, _, _, rfl⟩
  · exact ⟨_, _, _, _, _, _, _, _, rfl⟩
theorem in_zero {p q : Int} (hq : In p q) (h : q % p = 0) : q = 0 := by rw [← hq.mod]; exact h
theorem j2_nice {K : Nat} (hK : 5000 ≤ K) {p c k0 k1 q a0 a1 e : Int} {l : Int × Int × Int} (h0 : e = 0 → codeG p c (k0, k1, q) (a0, a1) = 0 ∧ pow p c k0 k1 q a0 a1 = 0 ∧ ¬ (a0 = k0 ∧ a1 = k1) ∧ l = tan p c k0 k1 (a0, a1)) (h1 : e ≠ 0 → l = (0, 0, 0)) :
    laws_FnCircles.j2 K p c k0 k1 q a0 a1 l.1 l.2.1 l.2.2 e (powA p c k0 k1 q a0 a1).1 (powA p c k0 k1 q a0 a1).2 = some true := by
  unfold laws_FnCircles.j2
  by_cases he : e = 0
  · obtain ⟨hg, hpw, hne, hl⟩ := h0 he
    obtain ⟨hp, hc1, hc2, ⟨i1, i2, i3⟩, i4, i5⟩ := codeG_zero hg
    have hpa : powA p c k0 k1 q a0 a1 = (0, 0) := by unfold powA; rw [if_pos hg, hpw]
    have hd : ¬ ((a1 - k1) % p = 0 ∧ (-(a0 - k0)) % p = 0) := fun ⟨x, y⟩ => hne ⟨diff_zero i4 i1 (by rw [neg_mod0] at y; exact y), diff_zero i5 i2 x⟩
    have huv := px_ne hp (three' hc1 hc2) hd
    have hL : inL p l = true := by rw [hl]; exact normal_inL hp huv
    have hcl : codeL p c (k0, k1, q) (l.1, l.2.1, l.2.2) = 0 := by
      unfold codeL
      rw [if_pos (codeC_mk hp hc1 hc2 i1 i2 i3), if_pos (by exact hL)]
    have hML : ansML p c k0 k1 q l.1 l.2.1 l.2.2 = ((allPts p).filter fun x => onB p l.1 l.2.1 l.2.2 x && powB p c k0 k1 q x, 0) := by unfold ansML; rw [if_pos hcl]
    have hiff : ∀ x : Int × Int, onB p l.1 l.2.1 l.2.2 x = true ↔ (px c (a0 - k0) (a1 - k1) * x.1 + py c (a0 - k0) (a1 - k1) * x.2 + -(px c (a0 - k0) (a1 - k1) * a0 + py c (a0 - k0) (a1 - k1) * a1)) % p = 0 := fun x => by
      rw [onB_mod, hl]
      exact normal_iff hp huv
    have hon : onB p l.1 l.2.1 l.2.2 (a0, a1) = true := (hiff _).2 (by
      rw [show px c (a0 - k0) (a1 - k1) * a0 + py c (a0 - k0) (a1 - k1) * a1 + -(px c (a0 - k0) (a1 - k1) * a0 + py c (a0 - k0) (a1 - k1) * a1) = 0 by omega]
      simp)
    obtain ⟨xs, t1, t2, t3, t4⟩ := tf_some hK hg hpw hne (by rw [← hl]; exact hon)
    have hin : (a0, a1) ∈ (allPts p).filter fun x => onB p l.1 l.2.1 l.2.2 x && powB p c k0 k1 q x := List.mem_filter.2 ⟨(mem_allPts hp).2 ⟨i4, i5⟩, by
      have : powB p c k0 k1 q (a0, a1) = true := by unfold powB; rw [hpw]; rfl
      rw [hon, this]
      rfl⟩
    have hlen : ((allPts p).filter fun x => onB p l.1 l.2.1 l.2.2 x && powB p c k0 k1 q x).length ≤ 2000 := Nat.le_trans (List.length_filter_le _ _) (Nat.le_trans (pts_small hp) (by omega))
    have h9 := has9_nice hK ((allPts p).filter fun x => onB p l.1 l.2.1 l.2.2 x && powB p c k0 k1 q x) (a0, a1) hlen
    rw [List.contains_iff_mem.2 hin] at h9
    have hn0 : ((xs.length : Int) == 0) = false := by rw [beq_eq_false_iff_ne]; omega
    subst he
    simp only [beq_self_eq_true, if_true, implML hK, hML, t1, t2, Option.bind_some, lines9_nice hK xs (by omega), hn0, Bool.false_eq_true, if_false, hpa, h9]
    by_cases hq : q = 0
    · simp [hq]
    · have hq' : (q == 0) = false := by simpa using hq
      have hqp : q % p ≠ 0 := fun h => hq (in_zero i3 h)
      rw [hq', if_neg (by simp)]
      have hquad : ∀ x y : Int, (pow p c k0 k1 q x y == 0) = true → quad c k0 k1 x y % p = q % p := fun x y h => by
        rw [pow_zero hp i3, beq_iff_eq] at h
        rw [h, i3.mod]
      have h1l := one_len (a := (a0, a1)) (allPts_nodup.filter _) (fun x hx => by
        obtain ⟨hm, hP⟩ := List.mem_filter.1 hx
        rw [Bool.and_eq_true] at hP
        obtain ⟨j1, j2⟩ := (mem_allPts hp).1 hm
        have ht := touch hp hc1 hc2 hqp (hquad a0 a1 (by rw [hpw]; rfl)) (hquad x.1 x.2 hP.2) ((hiff x).1 hP.1)
        exact Prod.ext (diff_zero j1 i4 ht.1) (diff_zero j2 i5 ht.2)) hin
      rw [h1l]
      rfl
  · have : (e == 0) = false := by simpa using he
    rw [this, h1 he]
    rfl
theorem j1_nice {K : Nat} (hK : 5000 ≤ K) {p c k0 k1 q a0 a1 e : Int} {l : Int × Int × Int} (h0 : e = 0 → codeG p c (k0, k1, q) (a0, a1) = 0 ∧ pow p c k0 k1 q a0 a1 = 0 ∧ ¬ (a0 = k0 ∧ a1 = k1) ∧ l = tan p c k0 k1 (a0, a1)) (h1 : e ≠ 0 → l = (0, 0, 0))
    {r s b0 b1 c0 c1 d0 d1 o0 o1 w e2 : Int} (h2 : e2 = 0 → isP r ∧ 0 ≤ s ∧ s ≤ 2 ∧ (In r o0 ∧ In r o1 ∧ In r w) ∧ (In r b0 ∧ In r b1 ∧ pow r s o0 o1 w b0 b1 = 0) ∧ (In r c0 ∧ In r c1 ∧ pow r s o0 o1 w c0 c1 = 0) ∧ (In r d0 ∧ In r d1 ∧ pow r s o0 o1 w d0 d1 = 0)) :
    laws_FnCircles.j1 K p c k0 k1 q a0 a1 l.1 l.2.1 l.2.2 e r s b0 b1 c0 c1 d0 d1 o0 o1 w e2 (powA p c k0 k1 q a0 a1).1 (powA p c k0 k1 q a0 a1).2 = some true := by
  unfold laws_FnCircles.j1
  rw [j2_nice hK h0 h1]
  by_cases he : e2 = 0
  · obtain ⟨hp, hc1, hc2, ⟨i1, i2, i3⟩, ⟨b1', b2', b3⟩, ⟨c1', c2', c3⟩, ⟨d1', d2', d3⟩⟩ := h2 he
    have hK' : 100 ≤ K := by omega
    subst he
    simp only [pPower hK' hp hc1 hc2 i1 i2 i3 b1' b2', pPower hK' hp hc1 hc2 i1 i2 i3 c1' c2', pPower hK' hp hc1 hc2 i1 i2 i3 d1' d2', Option.bind_some, beq_self_eq_true, if_true, b3, c3, d3]
  · have : (e2 == 0) = false := by simpa using he
    rw [this]
    rfl
theorem j0_nice {K : Nat} (hK : 5000 ≤ K) {p c k0 k1 q a0 a1 e : Int} {l : Int × Int × Int} (h0 : e = 0 → codeG p c (k0, k1, q) (a0, a1) = 0 ∧ pow p c k0 k1 q a0 a1 = 0 ∧ ¬ (a0 = k0 ∧ a1 = k1) ∧ l = tan p c k0 k1 (a0, a1)) (h1 : e ≠ 0 → l = (0, 0, 0))
    {r s b0 b1 c0 c1 d0 d1 o0 o1 w e2 : Int} (h2 : e2 = 0 → isP r ∧ 0 ≤ s ∧ s ≤ 2 ∧ (In r o0 ∧ In r o1 ∧ In r w) ∧ (In r b0 ∧ In r b1 ∧ pow r s o0 o1 w b0 b1 = 0) ∧ (In r c0 ∧ In r c1 ∧ pow r s o0 o1 w c0 c1 = 0) ∧ (In r d0 ∧ In r d1 ∧ pow r s o0 o1 w d0 d1 = 0)) :
    laws_FnCircles.j0 K p c k0 k1 q a0 a1 l.1 l.2.1 l.2.2 e r s b0 b1 c0 c1 d0 d1 o0 o1 w e2 (powA p c k0 k1 q a0 a1).1 (powA p c k0 k1 q a0 a1).2 (ivA p c k0 k1 q a0 a1).1 (ivA p c k0 k1 q a0 a1).2.1 (ivA p c k0 k1 q a0 a1).2.2 = some true := by
  unfold laws_FnCircles.j0
  rw [j1_nice hK h0 h1 h2]
  by_cases he : (ivA p c k0 k1 q a0 a1).2.2 = 0
  · by_cases hq : q = 0
    · simp [he, hq]
    · have hq' : (q == 0) = false := by simpa using hq
      have hg : codeG p c (k0, k1, q) (a0, a1) = 0 := Classical.byContradiction fun hn => by
        unfold ivA at he
        rw [if_neg hn] at he
        exact hn he
      obtain ⟨hp, hc1, hc2, ⟨i1, i2, i3⟩, i4, i5⟩ := codeG_zero hg
      have ht : quad c k0 k1 a0 a1 % p ≠ 0 := fun h => by
        unfold ivA at he
        rw [if_pos hg, if_pos h] at he
        cases he
      have hiv : ivA p c k0 k1 q a0 a1 = (ivx p c k0 k1 q a0 a1 k0 a0, ivx p c k0 k1 q a0 a1 k1 a1, 0) := by unfold ivA; rw [if_pos hg, if_neg ht]
      obtain ⟨g1, g2, g3⟩ := iv_back (c := c) (k0 := k0) (k1 := k1) hc1 hc2 hp i4 i5 (fun h => hq (in_zero i3 h)) ht
      have jx : In p (ivx p c k0 k1 q a0 a1 k0 a0) := mod_in hp _
      have jy : In p (ivx p c k0 k1 q a0 a1 k1 a1) := mod_in hp _
      have hback : ivA p c k0 k1 q (ivx p c k0 k1 q a0 a1 k0 a0) (ivx p c k0 k1 q a0 a1 k1 a1) = (a0, a1, 0) := by
        unfold ivA
        rw [if_pos (codeG_mk hp hc1 hc2 i1 i2 i3 jx jy), if_neg g1, g2, g3]
      rw [hiv]
      simp only [beq_self_eq_true, if_true, hq', Bool.false_eq_true, if_false, (both_InversePoint hK p c k0 k1 q (ivx p c k0 k1 q a0 a1 k0 a0) (ivx p c k0 k1 q a0 a1 k1 a1)).1, hback, Option.bind_some, Bool.and_self]
  · have : ((ivA p c k0 k1 q a0 a1).2.2 == 0) = false := by simpa using he
    rw [this]
    rfl
theorem law_FnCircles {K : Nat} (hK : 5000 ≤ K) (bs : List Int) (hb : ∀ x ∈ bs, 0 ≤ x ∧ x < 256) : laws_FnCircles.f K bs = some true := by
  unfold laws_FnCircles.f laws_big.f
  simp only [Option.bind_some]
  by_cases hl : 4096 < (bs.length : Int)
  · rw [if_pos (decide_eq_true hl)]
  rw [if_neg (by simpa using hl)]
  replace hl : bs.length ≤ 4096 := by omega
  obtain ⟨p, c, k0, k1, q, a0, a1, e1⟩ := with_ex hK hb hl
  have e1' : spec_DrawTangentAt.f K bs = some (p, c, k0, k1, q, a0, a1) := by
    unfold spec_DrawTangentAt.f
    simp only [e1, Option.bind_some]
  obtain ⟨l, e, hl1, hl2, h0, h1⟩ := both_TangentAt hK p c k0 k1 q a0 a1
  obtain ⟨r, s, b0, b1, c0, c1, d0, d1, e2⟩ := draw_ex hK hb hl
  have e2' : spec_DrawCircleThrough.f K bs = some (r, s, b0, b1, c0, c1, d0, d1) := by
    unfold spec_DrawCircleThrough.f spec_DrawQuadreaOf.f
    simp only [e2, Option.bind_some]
  obtain ⟨o0, o1, w, f, hc1, hc2, h2⟩ := both_CircleThrough hK r s b0 b1 c0 c1 d0 d1
  obtain ⟨t, g, m0, m1, m2, n0, n1, n2, e3⟩ := meet_ex hK hb hl
  obtain ⟨v, u, hv1, hv2⟩ := both_IsCircle hK p k0 k1 q
  have hP := both_PowerOf hK p c k0 k1 q a0 a1
  have hI := both_InversePoint hK p c k0 k1 q a0 a1
  simp only [e1', hl1, hl2, e2', hc1, hc2, e3, implML hK, specML hK, hP.1, hP.2, hI.1, hI.2, hv1, hv2, Option.bind_some, beq_self_eq_true, Bool.and_self, if_true, points9_nice hK _ ansML_len, j0_nice hK h0 h1 h2]
  cases v <;> simp
end Go.Proofs.YtccbmdpikalpfaaGreat
