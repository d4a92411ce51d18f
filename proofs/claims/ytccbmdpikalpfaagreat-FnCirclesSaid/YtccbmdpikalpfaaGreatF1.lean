/- What is drawn for FnCircles. -/
import Derived.Test.YtccbmdpikalpfaaGreatU3
import Derived.Test.YtccbmdpikalpfaaGreatG2
namespace Go.Proofs.YtccbmdpikalpfaaGreat
open Go Go.RowKit
set_option linter.unusedVariables false
set_option linter.unusedSimpArgs false
theorem drawPointB_ex {K : Nat} {bs : List Int} {i h : Int} (hb : ∀ x ∈ bs, 0 ≤ x ∧ x < 256) (hl : bs.length ≤ 4096) (hi : 0 ≤ i ∧ i ≤ 4096) {p : Int} (hp : isP p) :
    ∃ x y i' h', spec_l01DrawPoint.f K bs i h p = some (x, y, i', h') ∧ (0 ≤ i' ∧ i' ≤ 4096) ∧ In p x ∧ In p y := by
  unfold spec_l01DrawPoint.f
  have hpl := hp.lt
  have hp3 : 3 ≤ p := by unfold isP at hp; omega
  obtain ⟨r, i1, h1, e1, _, q1⟩ := next_ex (K := K) (h := h) hb hl hi 4
  obtain ⟨r2, i2, h2, e2, b2, q2⟩ := next_ex (K := K) (h := h1) hb hl q1 3
  obtain ⟨r3, i3, h3, e3, b3, q3⟩ := next_ex (K := K) (h := h2) hb hl q2 3
  obtain ⟨r4, i4, h4, e4, b4, q4⟩ := next_ex (K := K) (h := h1) hb hl q1 p
  obtain ⟨r5, i5, h5, e5, b5, q5⟩ := next_ex (K := K) (h := h4) hb hl q4 p
  have b2 := b2 (by omega)
  have b3 := b3 (by omega)
  have b4 := b4 (by omega)
  have b5 := b5 (by omega)
  simp only [e1, e2, e3, e4, e5, Option.bind_some]
  split
  · exact ⟨_, _, _, _, rfl, q3, ⟨by omega⟩, ⟨by omega⟩⟩
  · exact ⟨_, _, _, _, rfl, q5, ⟨by omega⟩, ⟨by omega⟩⟩
theorem drawOf6B_ex {K : Nat} {bs : List Int} {i h : Int} (hb : ∀ x ∈ bs, 0 ≤ x ∧ x < 256) (hl : bs.length ≤ 4096) (hi : 0 ≤ i ∧ i ≤ 4096) {p : Int} (hp : isP p) :
    ∃ x y q i' h', spec_l06DrawOf.f K bs i h p = some (x, y, q, i', h') ∧ (0 ≤ i' ∧ i' ≤ 4096) ∧ In p x ∧ In p y := by
  unfold spec_l06DrawOf.f
  obtain ⟨x, y, i1, h1, e1, q1, b1, b2⟩ := drawPointB_ex (K := K) (h := h) hb hl hi hp
  obtain ⟨r, i2, h2, e2, _, q2⟩ := next_ex (K := K) (h := h1) hb hl q1 p
  simp only [e1, e2, Option.bind_some]
  exact ⟨_, _, _, _, _, rfl, q2, b1, b2⟩
theorem colour_ex {K : Nat} (c : Int) : ∃ b, spec_l02Colour.f K c = some b := by
  unfold spec_l02Colour.f spec_l01In.f
  repeat' split
  all_goals exact ⟨_, rfl⟩
theorem with_ex {K : Nat} (hK : 5000 ≤ K) {bs : List Int} (hb : ∀ x ∈ bs, 0 ≤ x ∧ x < 256) (hl : bs.length ≤ 4096) : ∃ p c k0 k1 q a0 a1, spec_l06With.f K bs = some (p, c, k0, k1, q, a0, a1) := by
  unfold spec_l06With.f
  obtain ⟨h0, e0⟩ := from_ex hK hl
  obtain ⟨p, i1, h1, e1, hp, q1⟩ := drawField_ex (K := K) (h := h0) hb hl ⟨Int.le_refl 0, by omega⟩
  obtain ⟨k0, k1, q, i2, h2, e2, q2, j0, j1⟩ := drawOf6B_ex (K := K) (h := h1) hb hl q1 hp
  obtain ⟨a0, a1, i3, h3, e3, q3, _, _⟩ := drawPointB_ex (K := K) (h := h2) hb hl q2 hp
  obtain ⟨c, i4, h4, e4, q4⟩ := drawColour_ex (K := K) (h := h3) hb hl q3
  obtain ⟨b, e5⟩ := colour_ex (K := K) c
  obtain ⟨n, i6, h6, e6, _, q6⟩ := next_ex (K := K) (h := h4) hb hl q4 2
  have e7 := at_nice hK (c := c) (q := q) hp (j0.b hp) (j1.b hp)
  have fin : ∀ i h, (0 ≤ i ∧ i ≤ 4096) → ∀ x y, ∃ f i' h' u v w i'' h'' s t i3 h3, spec_l01BadField.f K bs i h p = some (f, i', h') ∧ spec_l06Bad.f K bs i' h' p k0 k1 q = some (u, v, w, i'', h'') ∧ spec_l01BadPoint.f K bs i'' h'' p x y = some (s, t, i3, h3) := fun i h hi x y => by
    obtain ⟨f, i1, h1, g1, p1⟩ := badField_ex (K := K) (h := h) hb hl hi p
    obtain ⟨u, v, w, i2, h2, g2, p2⟩ := bad6_ex (K := K) (h := h1) hb hl p1 p k0 k1 q
    obtain ⟨s, t, i3, h3, g3, p3⟩ := badPoint_ex (K := K) (h := h2) hb hl p2 p x y
    exact ⟨_, _, _, _, _, _, _, _, _, _, _, _, g1, g2, g3⟩
  simp only [e0, e1, e2, e3, e4, e5, e6, e7, Option.bind_some]
  obtain ⟨f, i7, h7, u, v, w, i8, h8, s, t, i9, h9, g1, g2, g3⟩ := fin i4 h4 q4 a0 a1
  obtain ⟨f', i7', h7', u', v', w', i8', h8', s', t', i9', h9', g1', g2', g3'⟩ := fin i6 h6 q6 a0 a1
  split
  · split
    · split
      · rename_i hz
        have hpos : 0 < ((allPts p).filter (atB p c k0 k1 q)).length := by simpa using hz
        obtain ⟨m, ia, ha, ea, bm, qa⟩ := next_ex (K := K) (h := h6) hb hl q6 (((allPts p).filter (atB p c k0 k1 q)).length : Int)
        have bm := bm (by omega)
        obtain ⟨m', rfl⟩ := Int.eq_ofNat_of_zero_le bm.1
        have hlt : m' < ((allPts p).filter (atB p c k0 k1 q)).length := by omega
        simp only [ea, Option.bind_some, idx_nat, List.getElem?_eq_getElem hlt]
        obtain ⟨f2, i72, h72, u2, v2, w2, i82, h82, s2, t2, i92, h92, g12, g22, g32⟩ := fin ia ha qa ((allPts p).filter (atB p c k0 k1 q))[m'].1 ((allPts p).filter (atB p c k0 k1 q))[m'].2
        simp only [g12, g22, g32, Option.bind_some]
        exact ⟨_, _, _, _, _, _, _, rfl⟩
      · simp only [g1', g2', g3', Option.bind_some]
        exact ⟨_, _, _, _, _, _, _, rfl⟩
    · simp only [g1', g2', g3', Option.bind_some]
      exact ⟨_, _, _, _, _, _, _, rfl⟩
  · simp only [g1, g2, g3, Option.bind_some]
    exact ⟨_, _, _, _, _, _, _, rfl⟩
theorem drawLine_ex {K : Nat} {bs : List Int} {i h : Int} (hb : ∀ x ∈ bs, 0 ≤ x ∧ x < 256) (hl : bs.length ≤ 4096) (hi : 0 ≤ i ∧ i ≤ 4096) (p : Int) :
    ∃ x y z i' h', spec_l01DrawLine.f K bs i h p = some (x, y, z, i', h') := by
  unfold spec_l01DrawLine.f
  obtain ⟨r, i1, h1, e1, _, q1⟩ := next_ex (K := K) (h := h) hb hl hi (wrap64 (p + 1))
  obtain ⟨r2, i2, h2, e2, _, q2⟩ := next_ex (K := K) (h := h1) hb hl q1 p
  obtain ⟨r3, i3, h3, e3, _, q3⟩ := next_ex (K := K) (h := h2) hb hl q2 p
  simp only [e1, e2, e3, Option.bind_some]
  split
  · exact ⟨_, _, _, _, _, rfl⟩
  · exact ⟨_, _, _, _, _, rfl⟩
end Go.Proofs.YtccbmdpikalpfaaGreat
