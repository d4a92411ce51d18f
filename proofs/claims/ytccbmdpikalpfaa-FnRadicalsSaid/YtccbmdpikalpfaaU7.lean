/- The plain law of FnRadicals. -/
import Derived.Test.YtccbmdpikalpfaaU6
namespace Go.Proofs.Ytccbmdpikalpfaa
open Go Go.RowKit
set_option linter.unusedVariables false
set_option linter.unusedSimpArgs false
theorem j1_nice {K : Nat} (hK : 5000 ≤ K) {p c k0 k1 q m0 m1 r e : Int} {l : Int × Int × Int} (h0 : e = 0 → codeC p c [(k0, k1, q), (m0, m1, r)] = 0 ∧ l = rad p c k0 k1 q m0 m1 r ∧ ¬ (k0 = m0 ∧ k1 = m1)) (h1 : e ≠ 0 → l = (0, 0, 0))
    {p' c' u0 u1 u2 v0 v1 v2 w0 w1 w2 x y e' : Int} (h2 : e' = 0 → codeC p' c' [(u0, u1, u2), (v0, v1, v2), (w0, w1, w2)] = 0 ∧ In p' x ∧ In p' y ∧ rcB p' c' u0 u1 u2 v0 v1 v2 w0 w1 w2 (x, y) = true) :
    laws_FnRadicals.j1 K p c k0 k1 q m0 m1 r l.1 l.2.1 l.2.2 e (ansMC p c k0 k1 q m0 m1 r).1 (ansMC p c k0 k1 q m0 m1 r).2 p' c' u0 u1 u2 v0 v1 v2 w0 w1 w2 x y e' = some true := by
  unfold laws_FnRadicals.j1
  rw [j2_nice hK h0 h1]
  by_cases he : e' = 0
  · obtain ⟨hcode, ix, iy, hb⟩ := h2 he
    obtain ⟨hp, hc1, hc2, hall⟩ := codeC_zero hcode
    simp only [List.all_cons, List.all_nil, Bool.and_true, Bool.and_eq_true] at hall
    obtain ⟨i1, i2, i3⟩ := inC_in hall.1
    obtain ⟨i4, i5, i6⟩ := inC_in hall.2.1
    obtain ⟨i7, i8, i9⟩ := inC_in hall.2.2
    have hK' : 100 ≤ K := by omega
    unfold rcB at hb
    simp only [Bool.and_eq_true, beq_iff_eq] at hb
    subst he
    simp only [pPower hK' hp hc1 hc2 i1 i2 i3 ix iy, pPower hK' hp hc1 hc2 i4 i5 i6 ix iy, pPower hK' hp hc1 hc2 i7 i8 i9 ix iy, Option.bind_some, beq_self_eq_true, if_true, ← hb.1, ← hb.2]
  · have : (e' == 0) = false := by simpa using he
    rw [this]
    rfl
theorem prodmod {p x y : Int} (hp : isP p) (hx : In p x) (hy : In p y) : Int.tmod (wrap64 (x * y)) p = (x * y) % p := by
  have hnn := Int.mul_nonneg hx.out.1 hy.out.1
  rw [w_eq (Sm.of ((hx.b hp).mul (hy.b hp)) rfl), Int.tmod_eq_emod_of_nonneg hnn]
theorem j0_nice {K : Nat} (hK : 5000 ≤ K) {p c k0 k1 q m0 m1 r e : Int} {l : Int × Int × Int} (h0 : e = 0 → codeC p c [(k0, k1, q), (m0, m1, r)] = 0 ∧ l = rad p c k0 k1 q m0 m1 r ∧ ¬ (k0 = m0 ∧ k1 = m1)) (h1 : e ≠ 0 → l = (0, 0, 0))
    {p' c' u0 u1 u2 v0 v1 v2 w0 w1 w2 x y e' : Int} (h2 : e' = 0 → codeC p' c' [(u0, u1, u2), (v0, v1, v2), (w0, w1, w2)] = 0 ∧ In p' x ∧ In p' y ∧ rcB p' c' u0 u1 u2 v0 v1 v2 w0 w1 w2 (x, y) = true)
    {t g a0 a1 b0 b1 c0 c1 d0 d1 e'' : Int} {b : Bool} (h3 : e'' = 0 → b = true → Cyc t g a0 a1 b0 b1 c0 c1 d0 d1) :
    laws_FnRadicals.j0 K p c k0 k1 q m0 m1 r l.1 l.2.1 l.2.2 e (ansMC p c k0 k1 q m0 m1 r).1 (ansMC p c k0 k1 q m0 m1 r).2 p' c' u0 u1 u2 v0 v1 v2 w0 w1 w2 x y e' t g a0 a1 b0 b1 c0 c1 d0 d1 b e'' = some true := by
  unfold laws_FnRadicals.j0
  rw [j1_nice hK h0 h1 h2]
  by_cases he : e'' = 0
  · cases b with
    | false => simp
    | true =>
      obtain ⟨hp, hc1, hc2, ia, ib, ic, id, har, o0, o1, f1, f2, f3⟩ := h3 he rfl
      subst he
      have hpl := hp.lt
      have hK' : 100 ≤ K := by omega
      have hz : (t == 0) = false := by rw [beq_eq_false_iff_ne]; omega
      have hm : ∀ z : Int, In t (z % t) := fun z => mod_in hp z
      have hA := ptol_int hp hc1 hc2 har f1 f2 f3
      simp only [pQuad hK' hp hc1 hc2 ia.1 ia.2 ib.1 ib.2, pQuad hK' hp hc1 hc2 ic.1 ic.2 id.1 id.2, pQuad hK' hp hc1 hc2 ib.1 ib.2 ic.1 ic.2, pQuad hK' hp hc1 hc2 id.1 id.2 ia.1 ia.2, pQuad hK' hp hc1 hc2 ia.1 ia.2 ic.1 ic.2, pQuad hK' hp hc1 hc2 ib.1 ib.2 id.1 id.2,
        Option.bind_some, beq_self_eq_true, if_true, hz, Bool.false_eq_true, if_false, prodmod hp (hm _) (hm _), List.nil_append, List.cons_append, List.length_cons, List.length_nil]
      have g1 : ∀ u v w : Int, idx [u, v, w] 0 = some u := fun u v w => rfl
      have g2 : ∀ u v w : Int, idx [u, v, w] 1 = some v := fun u v w => rfl
      have g3 : ∀ u v w : Int, idx [u, v, w] 2 = some w := fun u v w => rfl
      simp only [g1, g2, g3, Option.bind_some, pArchi hK' hp (hm _) (hm _) (hm _), hA, beq_self_eq_true, if_true, show decide (0 + 1 ≤ 1000000) = true by decide, show decide (0 + 1 + 1 ≤ 1000000) = true by decide]
  · have : (e'' == 0) = false := by simpa using he
    rw [this]
    rfl
theorem law_FnRadicals {K : Nat} (hK : 5000 ≤ K) (bs : List Int) (hb : ∀ x ∈ bs, 0 ≤ x ∧ x < 256) : laws_FnRadicals.f K bs = some true := by
  unfold laws_FnRadicals.f laws_big.f
  simp only [Option.bind_some]
  by_cases hl : 4096 < (bs.length : Int)
  · rw [if_pos (decide_eq_true hl)]
  rw [if_neg (by simpa using hl)]
  replace hl : bs.length ≤ 4096 := by omega
  obtain ⟨p, c, k0, k1, q, m0, m1, r, e1⟩ := two_ex hK hb hl
  have e1' : spec_DrawRadicalLine.f K bs = some (p, c, k0, k1, q, m0, m1, r) := by
    unfold spec_DrawRadicalLine.f
    simp only [e1, Option.bind_some]
  obtain ⟨l, e, hl1, hl2, h0, h1⟩ := both_RadicalLine hK p c k0 k1 q m0 m1 r
  obtain ⟨p', c', u0, u1, u2, v0, v1, v2, w0, w1, w2, e2⟩ := centre_ex hK hb hl
  obtain ⟨x, y, e', hc1, hc2, h2⟩ := both_RadicalCentre hK p' c' u0 u1 u2 v0 v1 v2 w0 w1 w2
  obtain ⟨t, g, a0, a1, b0, b1, c0, c1, d0, d1, e3⟩ := four_ex hK hb hl
  obtain ⟨b, e'', hy1, hy2, h3⟩ := both_AreCyclic hK t g a0 a1 b0 b1 c0 c1 d0 d1
  simp only [e1', hl1, hl2, implMC hK, specMC hK, e2, hc1, hc2, e3, hy1, hy2, Option.bind_some, beq_self_eq_true, Bool.and_self, if_true, points9_nice hK _ ansMC_len, j0_nice hK h0 h1 h2 h3]
  cases b <;> simp
end Go.Proofs.Ytccbmdpikalpfaa
