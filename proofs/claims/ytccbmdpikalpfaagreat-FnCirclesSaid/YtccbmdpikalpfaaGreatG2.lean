/- Tangents from a point: both functions come to one answer. -/
import Derived.Test.YtccbmdpikalpfaaGreatG1
namespace Go.Proofs.YtccbmdpikalpfaaGreat
open Go Go.RowKit
set_option linter.unusedVariables false
set_option linter.unusedSimpArgs false

theorem askedG_TangentsFrom {K : Nat} (hK : 100 ≤ K) {p c k0 k1 q a0 a1 : Int} : impl_asked__impl_TangentsFrom_1.f K p c p k0 k1 q a0 a1 = some (codeG p c (k0, k1, q) (a0, a1)) := by
  unfold impl_asked__impl_TangentsFrom_1.f impl_TangentsFrom_1.f codeG codeC
  rw [isField_nice, isColour_nice, isCircle_nice hK, isPoint_nice (by omega)]
  by_cases hp : isP p <;> by_cases hc : 0 ≤ c ∧ c ≤ 2 <;> cases h1 : inC p (k0, k1, q) <;> cases h2 : inB p (a0, a1) <;> simp [hp, hc, h1, h2]
/-! ### The points of the circle, as the program finds them -/
theorem tfA_l0 {K : Nat} {p c k0 k1 q : Int} (hp : isP p) (h1 : B 31 k0) (h2 : B 31 k1) (L : List (Int × Int)) (hL : ∀ x ∈ L, In p x.1 ∧ In p x.2) (hl : L.length ≤ 10000) :
    ∀ (m f i : Nat) (acc : List (Int × Int)), L.length - i = m → m < f → i ≤ L.length → acc.length ≤ i → impl_pointsWith__impl_pointsAt_1.l0 K p c k0 k1 q L f i acc = some (acc ++ (L.drop i).filter (atB p c k0 k1 q))
  | 0, f + 1, i, acc, hm, _, hi, _ => by
    have : i = L.length := by omega
    subst this
    simp [impl_pointsWith__impl_pointsAt_1.l0]
  | m + 1, f + 1, i, acc, hm, hk, hi, ha => by
    have hlt : i < L.length := by omega
    have hb := hL L[i] (List.getElem_mem hlt)
    rw [impl_pointsWith__impl_pointsAt_1.l0, if_pos (by simpa using hlt), idx_nat, List.getElem?_eq_getElem hlt, w_nat (by omega), List.drop_eq_getElem_cons hlt, List.filter_cons]
    simp only [Option.bind_some, impl_pointsAt_1.f]
    rw [implQuadrance_nice hp h1 h2 (hb.1.b hp) (hb.2.b hp), show atB p c k0 k1 q L[i] = (quad c k0 k1 L[i].1 L[i].2 % p == q) from rfl]
    simp only [Option.bind_some]
    cases quad c k0 k1 L[i].1 L[i].2 % p == q
    · simp only [Bool.false_eq_true, if_false]
      exact tfA_l0 hp h1 h2 L hL hl m f (i + 1) acc (by omega) (by omega) (by omega) (by omega)
    · simp only [if_true]
      rw [if_pos (by simp; omega), tfA_l0 hp h1 h2 L hL hl m f (i + 1) _ (by omega) (by omega) (by omega) (by simp; omega)]
      simp
theorem tfAt_nice {K : Nat} (hK : 5000 ≤ K) {p c k0 k1 q : Int} (hp : isP p) (h1 : B 31 k0) (h2 : B 31 k1) : impl_pointsAt.f K p c k0 k1 q = some ((allPts p).filter (atB p c k0 k1 q)) := by
  have hs := pts_small hp
  unfold impl_pointsAt.f impl_pointsWith__impl_pointsAt_1.f
  rw [allPts_nice hK hp]
  have := tfA_l0 (K := K) (c := c) (q := q) hp h1 h2 (allPts p) (fun x hx => (mem_allPts hp).1 hx) (by omega) _ K 0 [] rfl (by omega) (by omega) (by simp)
  simp only [Int.natCast_zero, Int.ofNat_zero, List.drop_zero, List.nil_append] at this
  simp only [Option.bind_some, this]
/-! ### The lines -/
def tan (p c k0 k1 : Int) (x : Int × Int) : Int × Int × Int := perpOf p c (x.1 - k0) (x.2 - k1) x.1 x.2
theorem tan_b {p c k0 k1 : Int} (hp : isP p) (x : Int × Int) : B 31 (tan p c k0 k1 x).1 ∧ B 31 (tan p c k0 k1 x).2.1 ∧ B 31 (tan p c k0 k1 x).2.2 := normal_b hp
def Tn (p c k0 k1 a0 a1 : Int) (x : Int × Int) (y : Int × Int × Int) : Prop := ¬ (x.1 = k0 ∧ x.2 = k1) ∧ onB p (tan p c k0 k1 x).1 (tan p c k0 k1 x).2.1 (tan p c k0 k1 x).2.2 (a0, a1) = true ∧ y = tan p c k0 k1 x
theorem got_cons {p c k0 k1 a0 a1 : Int} {x : Int × Int} {L : List (Int × Int)} {S T : Int × Int × Int → Prop} (h : ∀ y, T y ↔ S y ∨ Tn p c k0 k1 a0 a1 x y) (y : Int × Int × Int) :
    (T y ∨ ∃ z ∈ L, Tn p c k0 k1 a0 a1 z y) ↔ (S y ∨ ∃ z ∈ x :: L, Tn p c k0 k1 a0 a1 z y) := by
  rw [h]
  simp only [List.mem_cons]
  constructor
  · rintro ((h | h) | ⟨z, h1, h2⟩)
    · exact .inl h
    · exact .inr ⟨x, .inl rfl, h⟩
    · exact .inr ⟨z, .inr h1, h2⟩
  · rintro (h | ⟨z, rfl | h1, h2⟩)
    · exact .inl (.inl h)
    · exact .inl (.inr h2)
    · exact .inr ⟨z, h1, h2⟩
theorem got_not {p c k0 k1 a0 a1 : Int} {x : Int × Int} {S : Int × Int × Int → Prop} (h : ∀ y, ¬ Tn p c k0 k1 a0 a1 x y) (y : Int × Int × Int) : S y ↔ S y ∨ Tn p c k0 k1 a0 a1 x y := by simp [h y]

theorem tfS_l0 {K : Nat} (hK : 5000 ≤ K) {p c k0 k1 q a0 a1 : Int} (hp : isP p) (h1 : B 31 k0) (h2 : B 31 k1) (h4 : B 31 a0) (h5 : B 31 a1) (L : List (Int × Int)) (hL : ∀ x ∈ L, In p x.1 ∧ In p x.2) (hl : L.length ≤ 961) :
    ∀ (m k i : Nat) (acc : List (Int × Int × Int)), L.length - i = m → m < k → i ≤ L.length → acc.length ≤ i → Asc acc →
      ∃ r, spec_TangentsFrom.l0 K p c k0 k1 q a0 a1 L k i acc = some (r, 0) ∧ Asc r ∧ (∀ y, y ∈ r ↔ y ∈ acc ∨ ∃ x ∈ L.drop i, Tn p c k0 k1 a0 a1 x y) ∧ r.length ≤ L.length
  | 0, k + 1, i, acc, hm, _, hi, ha, hs => by
    have : i = L.length := by omega
    subst this
    exact ⟨acc, by simp [spec_TangentsFrom.l0], hs, by simp, ha⟩
  | m + 1, k + 1, i, acc, hm, hk, hi, ha, hs => by
    have hlt : i < L.length := by omega
    have hb := hL L[i] (List.getElem_mem hlt)
    have hd := List.drop_eq_getElem_cons hlt
    rw [spec_TangentsFrom.l0, if_pos (by simpa using hlt), idx_nat, List.getElem?_eq_getElem hlt, w_nat (by omega), hd]
    simp only [Option.bind_some]
    by_cases he : L[i].1 = k0 ∧ L[i].2 = k1
    · obtain ⟨r, e1, e2, e3, e4⟩ := tfS_l0 hK (c := c) (q := q) hp h1 h2 h4 h5 L hL hl m k (i + 1) acc (by omega) (by omega) (by omega) (by omega) hs
      refine ⟨r, by rw [if_pos (by simp [he])]; exact e1, e2, fun y => ?_, e4⟩
      rw [e3]
      exact got_cons (got_not fun y h => h.1 he) y
    · rw [if_neg (by simpa using he), specTan_nice (by omega) hp h1 h2 (hb.1.b hp) (hb.2.b hp)]
      simp only [Option.bind_some]
      obtain ⟨t1, t2, t3⟩ := tan_b (c := c) (k0 := k0) (k1 := k1) hp L[i]
      have ho := specOn_nice (K := K) hp t1 t2 t3 h4 h5
      unfold tan at ho
      rw [ho]
      simp only [Option.bind_some]
      cases hon : onB p (tan p c k0 k1 L[i]).1 (tan p c k0 k1 L[i]).2.1 (tan p c k0 k1 L[i]).2.2 (a0, a1) with
      | false =>
        unfold tan at hon
        obtain ⟨r, e1, e2, e3, e4⟩ := tfS_l0 hK (c := c) (q := q) hp h1 h2 h4 h5 L hL hl m k (i + 1) acc (by omega) (by omega) (by omega) (by omega) hs
        refine ⟨r, by rw [hon, if_neg (by simp)]; exact e1, e2, fun y => ?_, e4⟩
        rw [e3]
        exact got_cons (got_not fun y h => by have := h.2.1; unfold tan at this; rw [hon] at this; cases this) y
      | true =>
        have hon' := hon
        unfold tan at hon'
        obtain ⟨r0, f1, f2, f3, f4⟩ := put_nice (K := K) (l := tan p c k0 k1 L[i]) (by omega) hs (by omega)
        unfold tan at f1
        obtain ⟨r, e1, e2, e3, e4⟩ := tfS_l0 hK (c := c) (q := q) hp h1 h2 h4 h5 L hL hl m k (i + 1) r0 (by omega) (by omega) (by omega) (by omega) f2
        refine ⟨r, by rw [hon', if_pos rfl, f1]; exact e1, e2, fun y => ?_, e4⟩
        rw [e3]
        exact got_cons (fun y => (f3 y).trans ⟨fun h => h.imp id fun e => ⟨he, hon, e⟩, fun h => h.imp id fun e => e.2.2⟩) y
theorem tfI_l0 {K : Nat} (hK : 5000 ≤ K) {p c k0 k1 q a0 a1 : Int} (hp : isP p) (hc1 : 0 ≤ c) (hc2 : c ≤ 2) (i1 : In p k0) (i2 : In p k1) (h4 : B 31 a0) (h5 : B 31 a1) (L : List (Int × Int)) (hL : ∀ x ∈ L, In p x.1 ∧ In p x.2) (hl : L.length ≤ 961) :
    ∀ (m k i : Nat) (acc : List (Int × Int × Int)), L.length - i = m → m < k → i ≤ L.length → acc.length ≤ i → acc.Nodup →
      ∃ r, impl_TangentsFrom.l0 K p c k0 k1 q a0 a1 L k i acc acc = some (sortL r, 0) ∧ r.Nodup ∧ (∀ y, y ∈ r ↔ y ∈ acc ∨ ∃ x ∈ L.drop i, Tn p c k0 k1 a0 a1 x y) ∧ r.length ≤ L.length
  | 0, k + 1, i, acc, hm, _, hi, ha, hs => by
    have : i = L.length := by omega
    subst this
    exact ⟨acc, by rw [impl_TangentsFrom.l0, if_neg (by simp), if_pos (by simp; omega)], hs, by simp, ha⟩
  | m + 1, k + 1, i, acc, hm, hk, hi, ha, hs => by
    have h1 := i1.b hp
    have h2 := i2.b hp
    have hlt : i < L.length := by omega
    have hb := hL L[i] (List.getElem_mem hlt)
    have hd := List.drop_eq_getElem_cons hlt
    rw [impl_TangentsFrom.l0, if_pos (by simpa using hlt), idx_nat, List.getElem?_eq_getElem hlt, w_nat (by omega), hd]
    simp only [Option.bind_some]
    by_cases he : L[i].1 = k0 ∧ L[i].2 = k1
    · obtain ⟨r, e1, e2, e3, e4⟩ := tfI_l0 hK (c := c) (q := q) hp hc1 hc2 i1 i2 h4 h5 L hL hl m k (i + 1) acc (by omega) (by omega) (by omega) (by omega) hs
      refine ⟨r, by rw [if_pos (by simp [he])]; exact e1, e2, fun y => ?_, e4⟩
      rw [e3]
      exact got_cons (got_not fun y h => h.1 he) y
    · have hne : ¬ ((k1 - L[i].2) % p = 0 ∧ (L[i].1 - k0) % p = 0) := fun ⟨x1, x2⟩ => he ⟨diff_zero hb.1 i1 x2, (diff_zero i2 hb.2 x1).symm⟩
      rw [if_neg (by simpa using he), implTan_nice (by omega) hp hc1 hc2 h1 h2 (hb.1.b hp) (hb.2.b hp) hne]
      simp only [Option.bind_some]
      obtain ⟨t1, t2, t3⟩ := tan_b (c := c) (k0 := k0) (k1 := k1) hp L[i]
      have ho := implOn_nice (K := K) hp t1 t2 t3 h4 h5
      unfold tan at ho
      rw [ho]
      simp only [Option.bind_some]
      have hsame : ∀ (hT : ∀ y, y ∈ acc ↔ y ∈ acc ∨ Tn p c k0 k1 a0 a1 L[i] y), ∃ r, impl_TangentsFrom.l0 K p c k0 k1 q a0 a1 L k ((i + 1 : Nat) : Int) acc acc = some (sortL r, 0) ∧ r.Nodup ∧ (∀ y, y ∈ r ↔ y ∈ acc ∨ ∃ x ∈ L[i] :: L.drop (i + 1), Tn p c k0 k1 a0 a1 x y) ∧ r.length ≤ L.length := fun hT => by
        obtain ⟨r, e1, e2, e3, e4⟩ := tfI_l0 hK (c := c) (q := q) hp hc1 hc2 i1 i2 h4 h5 L hL hl m k (i + 1) acc (by omega) (by omega) (by omega) (by omega) hs
        exact ⟨r, e1, e2, fun y => by rw [e3]; exact got_cons hT y, e4⟩
      cases hon : onB p (tan p c k0 k1 L[i]).1 (tan p c k0 k1 L[i]).2.1 (tan p c k0 k1 L[i]).2.2 (a0, a1) with
      | false =>
        have hon' := hon
        unfold tan at hon'
        rw [hon', if_neg (by simp)]
        exact hsame (got_not fun y h => by have := h.2.1; rw [hon] at this; cases this)
      | true =>
        have hon' := hon
        unfold tan at hon'
        rw [hon', if_pos rfl]
        by_cases hmem : tan p c k0 k1 L[i] ∈ acc
        · have hm' := hmem
          unfold tan at hm'
          rw [if_pos (by simpa [memL] using hm')]
          exact hsame fun y => ⟨.inl, fun h => h.elim id fun e => by rw [e.2.2]; exact hmem⟩
        · have hm' := hmem
          unfold tan at hm'
          rw [if_neg (by simpa [memL] using hm'), if_pos (by simp; omega)]
          obtain ⟨r, e1, e2, e3, e4⟩ := tfI_l0 hK (c := c) (q := q) hp hc1 hc2 i1 i2 h4 h5 L hL hl m k (i + 1) (acc ++ [tan p c k0 k1 L[i]]) (by omega) (by omega) (by omega) (by simp; omega)
            (List.nodup_append.2 ⟨hs, by simp, fun a ha b hb => by rw [List.mem_singleton] at hb; rw [hb]; exact fun e => hmem (e ▸ ha)⟩)
          refine ⟨r, e1, e2, fun y => ?_, e4⟩
          rw [e3]
          exact got_cons (fun y => by
            rw [List.mem_append, List.mem_singleton]
            exact ⟨fun h => h.imp id fun e => ⟨he, hon, e⟩, fun h => h.imp id fun e => e.2.2⟩) y
/-! ### Both answers -/
theorem tf_both {K : Nat} (hK : 5000 ≤ K) (p c k0 k1 q a0 a1 : Int) : ∃ xs e, impl_TangentsFrom.f K p c k0 k1 q a0 a1 = some (xs, e) ∧ spec_TangentsFrom.f K p c k0 k1 q a0 a1 = some (xs, e) ∧ xs.length ≤ 961 := by
  unfold impl_TangentsFrom.f spec_TangentsFrom.f
  rw [askedG_TangentsFrom (by omega), given_nice (by omega)]
  by_cases h : codeG p c (k0, k1, q) (a0, a1) = 0
  · obtain ⟨hp, hc1, hc2, ⟨i1, i2, i3⟩, i4, i5⟩ := codeG_zero h
    have hs := pts_small hp
    have hle := List.length_filter_le (atB p c k0 k1 q) (allPts p)
    have hin : ∀ x ∈ (allPts p).filter (atB p c k0 k1 q), In p x.1 ∧ In p x.2 := fun x hx => (mem_allPts hp).1 (List.mem_filter.1 hx).1
    obtain ⟨r, e1, e2, e3, e4⟩ := tfI_l0 hK (c := c) (q := q) hp hc1 hc2 i1 i2 (i4.b hp) (i5.b hp) _ hin (by omega) _ K 0 [] rfl (by omega) (by omega) (by simp) (by simp)
    obtain ⟨s, f1, f2, f3, f4⟩ := tfS_l0 hK (c := c) (q := q) hp (i1.b hp) (i2.b hp) (i4.b hp) (i5.b hp) _ hin (by omega) _ K 0 [] rfl (by omega) (by omega) (by simp) (by simp [Asc])
    simp only [Int.natCast_zero, Int.ofNat_zero] at e1 f1
    have es : sortL r = s := asc_unique (asc_sort e2) f2 fun y => by rw [(sortL_spec r).1.mem_iff, e3, f3]
    refine ⟨s, 0, ?_, ?_, by omega⟩
    · simp only [h, Option.bind_some, beq_self_eq_true, if_true, tfAt_nice hK hp (i1.b hp) (i2.b hp)]
      rw [e1, es]
    · simp only [h, Option.bind_some, beq_self_eq_true, if_true, at_nice hK hp (i1.b hp) (i2.b hp)]
      exact f1
  · exact ⟨[], codeG p c (k0, k1, q) (a0, a1), by simp [h], by simp [h], by simp⟩
end Go.Proofs.YtccbmdpikalpfaaGreat
