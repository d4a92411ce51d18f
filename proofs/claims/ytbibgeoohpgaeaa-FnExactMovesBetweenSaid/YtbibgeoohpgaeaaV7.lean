/- Plain laws of moves: all matrices that keep quadrances are told by their first column and their sign; the order of moves. -/
import Derived.Test.YtbibgeoohpgaeaaV1
import Derived.Test.YtbibgeoohpgaeaaO1
namespace Go.Proofs.Ytbibgeoohpgaeaa
open Go Go.RowKit
set_option linter.unusedVariables false
set_option linter.unusedSimpArgs false
/-- A move: four numbers of the matrix and the shift. -/
abbrev M6 := Int × Int × Int × Int × Int × Int
def key4 (m : M6) : Int × Int × Int × Int := (m.1, m.2.1, m.2.2.1, m.2.2.2.1)
def lt4 (x y : M6) : Bool :=
  if x.1 ≠ y.1 then decide (x.1 < y.1) else if x.2.1 ≠ y.2.1 then decide (x.2.1 < y.2.1) else if x.2.2.1 ≠ y.2.2.1 then decide (x.2.2.1 < y.2.2.1) else if x.2.2.2.1 ≠ y.2.2.2.1 then decide (x.2.2.2.1 < y.2.2.2.1) else false
def lt6 (x y : M6) : Bool :=
  if x.1 ≠ y.1 then decide (x.1 < y.1) else if x.2.1 ≠ y.2.1 then decide (x.2.1 < y.2.1) else if x.2.2.1 ≠ y.2.2.1 then decide (x.2.2.1 < y.2.2.1) else if x.2.2.2.1 ≠ y.2.2.2.1 then decide (x.2.2.2.1 < y.2.2.2.1)
  else if x.2.2.2.2.1 ≠ y.2.2.2.2.1 then decide (x.2.2.2.2.1 < y.2.2.2.2.1) else decide (x.2.2.2.2.2 < y.2.2.2.2.2)
theorem lt4_iff {x y : M6} : lt4 x y = true ↔ (x.1 < y.1 ∨ x.1 = y.1 ∧ (x.2.1 < y.2.1 ∨ x.2.1 = y.2.1 ∧ (x.2.2.1 < y.2.2.1 ∨ x.2.2.1 = y.2.2.1 ∧ x.2.2.2.1 < y.2.2.2.1))) := by
  unfold lt4
  by_cases h1 : x.1 = y.1
  · by_cases h2 : x.2.1 = y.2.1
    · by_cases h3 : x.2.2.1 = y.2.2.1
      · by_cases h4 : x.2.2.2.1 = y.2.2.2.1
        · simp [h1, h2, h3, h4]
        · simp [h1, h2, h3, h4]
      · simp [h1, h2, h3]
    · simp [h1, h2]
  · simp [h1]
theorem lt4_ord : Ordr lt4 key4 where
  irr := fun a => by
    rw [← Bool.not_eq_true, lt4_iff]
    omega
  trans := fun a b c h1 h2 => by
    rw [lt4_iff] at h1 h2 ⊢
    omega
  tri := fun a b h => by
    rw [lt4_iff, lt4_iff]
    unfold key4 at h
    simp only [ne_eq, Prod.mk.injEq] at h
    omega
theorem lt64 {x y : M6} (h : key4 x ≠ key4 y) : lt6 x y = lt4 x y := by
  unfold lt6 lt4
  by_cases h1 : x.1 = y.1
  · by_cases h2 : x.2.1 = y.2.1
    · by_cases h3 : x.2.2.1 = y.2.2.1
      · by_cases h4 : x.2.2.2.1 = y.2.2.2.1
        · exact absurd (by simp [key4, h1, h2, h3, h4]) h
        · simp [h1, h2, h3, h4]
      · simp [h1, h2, h3]
    · simp [h1, h2]
  · simp [h1]
theorem fold64 : ∀ (L acc : List M6), L.Pairwise (fun a b => key4 a ≠ key4 b) → (∀ x ∈ L, ∀ y ∈ acc, key4 x ≠ key4 y) → L.foldl (fun acc x => ins lt6 x acc) acc = L.foldl (fun acc x => ins lt4 x acc) acc
  | [], _, _, _ => rfl
  | x :: L, acc, hL, hd => by
    obtain ⟨h1, h2⟩ := List.pairwise_cons.1 hL
    rw [List.foldl_cons, List.foldl_cons, ins_congr fun y hy => lt64 (hd x (List.mem_cons_self ..) y hy)]
    exact fold64 L _ h2 fun z hz y hy => by
      rcases ins_mem.1 hy with rfl | hy
      · exact Ne.symm (h1 z hz)
      · exact hd z (List.mem_cons_of_mem _ hz) y hy
theorem isort64 {L : List M6} (h : L.Pairwise fun a b => key4 a ≠ key4 b) : isort lt6 L = isort lt4 L := fold64 L [] h (by simp)
theorem srt_keys {L : List M6} (h : Srt lt4 L) : L.Pairwise fun a b => key4 a ≠ key4 b := h.imp fun {a b} hab e => by
  rw [lt4_iff] at hab
  unfold key4 at e
  simp only [Prod.mk.injEq] at e
  omega
/-! ### The second column -/
def colB (p k s a c : Int) : Int := (if k = 0 then -s * c else if k = 2 then (if c = 0 then c else inv p c) else s * c) % p
def colD (p k s a c : Int) : Int := (if k = 2 then (if a = 0 then a else inv p a) else s * a) % p
theorem in_cst {p x y : Int} (h : In p x) (n : Nat) [NeZero n] (e : p = n) (hc : cst n x = cst n y) : x = y % p := by
  rw [cst_eq, ← e, h.mod] at hc
  exact hc
theorem in_zero {p x : Int} (h : In p x) (n : Nat) [NeZero n] (e : p = n) (hc : cst n x = 0) : x = 0 := by
  rw [cst_z, ← e, h.mod] at hc
  exact hc
theorem fin_one_ne {n : Nat} [NeZero n] (h : 2 < n) : (1 : Fin n) ≠ 0 := by
  intro e
  have e2 := cst_one (n := n) (by omega)
  rw [e] at e2
  have := cst_val (n := n) 1
  rw [e2, Int.emod_eq_of_lt (by omega) (by omega)] at this
  simp at this
theorem cols {p k s a b c d : Int} (hp : isP p) (hk1 : 0 ≤ k) (hk2 : k ≤ 2) (hs : s = 1 ∨ s = -1) (ha : In p a) (hb : In p b) (hc : In p c) (hd : In p d) (h : goodB p k a b c d = true) (hdet : detM p a b c d = s % p) : b = colB p k s a c ∧ d = colD p k s a c := by
  have hpl := hp.lt
  obtain ⟨n, hn⟩ := Int.eq_ofNat_of_zero_le (show 0 ≤ p by omega)
  have : NeZero n := ⟨by omega⟩
  have hn2 : 2 < n := by omega
  unfold goodB at h
  simp only [Bool.and_eq_true, beq_iff_eq] at h
  obtain ⟨e1, e2, e3⟩ := h
  rw [hn, ← cst_eq] at e1 e2 e3
  unfold detM at hdet
  rw [hn, ← cst_eq] at hdet
  have hS : cst n s * cst n s = 1 := by
    rcases hs with rfl | rfl
    · rw [cst_one (by omega)]; grind
    · rw [cst_neg, cst_one (by omega)]; grind
  have h0 : ∀ x : Int, In p x → x ≠ 0 → cst n x * cst n (inv p x) = 1 := fun x hx hx0 => by
    have := inv_cst hp (x := x) (by rw [hx.mod]; exact hx0) n hn2 hn
    rwa [hx.mod] at this
  rcases thr hk1 hk2 with rfl | rfl | rfl
  · simp only [prod, if_true, if_false, cst_add, cst_sub, cst_mul, cst_zero, cst_one (show 1 < n by omega)] at e1 e2 e3 hdet
    refine ⟨in_cst hb n hn ?_, in_cst hd n hn ?_⟩
    · simp only [if_true, cst_neg, cst_mul]
      grind
    · simp only [show ¬ (0 : Int) = 2 by decide, if_false, cst_mul]
      grind
  · simp only [prod, if_true, if_false, show ¬ (1 : Int) = 0 by decide, cst_add, cst_sub, cst_mul, cst_zero, cst_one (show 1 < n by omega)] at e1 e2 e3 hdet
    refine ⟨in_cst hb n hn ?_, in_cst hd n hn ?_⟩
    · simp only [show ¬ (1 : Int) = 0 by decide, show ¬ (1 : Int) = 2 by decide, if_false, cst_neg, cst_mul]
      grind
    · simp only [show ¬ (1 : Int) = 2 by decide, if_false, cst_mul]
      grind
  · simp only [prod, if_true, if_false, show ¬ (2 : Int) = 0 by decide, show ¬ (2 : Int) = 1 by decide, cst_add, cst_sub, cst_mul, cst_zero, cst_one (show 1 < n by omega)] at e1 e2 e3 hdet
    rcases hs with rfl | rfl
    · rw [cst_one (by omega)] at hdet
      have k1 : cst n b * cst n c = 0 := two_zero hp hn2 hn (by grind)
      have k2 : cst n a * cst n d = 1 := by grind
      have k3 : cst n c = 0 := two_zero hp hn2 hn (by
        have : 2 * cst n c = cst n d * (cst n a * cst n c + cst n c * cst n a) := by grind
        rw [this, e1]; grind)
      have k4 : cst n b = 0 := two_zero hp hn2 hn (by
        have : 2 * cst n b = cst n a * (cst n b * cst n d + cst n d * cst n b) := by grind
        rw [this, e2]; grind)
      have c0 := in_zero hc n hn k3
      have b0 := in_zero hb n hn k4
      have a0 : a ≠ 0 := fun e => by
        rw [e, cst_zero] at k2
        exact fin_one_ne hn2 (by grind)
      refine ⟨?_, in_cst hd n hn ?_⟩
      · simp [colB, c0, b0]
      · have := h0 a ha a0
        simp only [if_true, if_neg a0]
        generalize cst n (inv p a) = j at *
        have : cst n d * (cst n a * j) = cst n d * 1 := by rw [this]
        grind
    · rw [cst_neg, cst_one (by omega)] at hdet
      have k1 : cst n a * cst n d = 0 := two_zero hp hn2 hn (by grind)
      have k2 : cst n b * cst n c = 1 := by grind
      have k3 : cst n a = 0 := two_zero hp hn2 hn (by
        have : 2 * cst n a = cst n b * (cst n a * cst n c + cst n c * cst n a) := by grind
        rw [this, e1]; grind)
      have k4 : cst n d = 0 := two_zero hp hn2 hn (by
        have : 2 * cst n d = cst n c * (cst n b * cst n d + cst n d * cst n b) := by grind
        rw [this, e2]; grind)
      have a0 := in_zero ha n hn k3
      have d0 := in_zero hd n hn k4
      have c0 : c ≠ 0 := fun e => by
        rw [e, cst_zero] at k2
        exact fin_one_ne hn2 (by grind)
      refine ⟨in_cst hb n hn ?_, ?_⟩
      · have := h0 c hc c0
        simp only [show ¬ (2 : Int) = 0 by decide, if_true, if_false, if_neg c0]
        generalize cst n (inv p c) = j at *
        have : cst n b * (cst n c * j) = cst n b * 1 := by rw [this]
        grind
      · simp [colD, a0, d0]
/-- A sign is 1 or -1. -/
theorem two_signs {p k a b c d : Int} (hp : isP p) (hk1 : 0 ≤ k) (hk2 : k ≤ 2) (h : goodB p k a b c d = true) : detM p a b c d = 1 % p ∨ detM p a b c d = -1 % p := by
  have hpl := hp.lt
  obtain ⟨n, hn⟩ := Int.eq_ofNat_of_zero_le (show 0 ≤ p by omega)
  have : NeZero n := ⟨by omega⟩
  have hn2 : 2 < n := by omega
  have hs := det_sq hp hk1 hk2 h n hn2 hn
  have hi : In p (detM p a b c d) := mod_in hp _
  generalize detM p a b c d = D at *
  by_cases h1 : (D - 1) % p = 0
  · left
    refine in_cst hi n hn ?_
    rw [hn, ← cst_z, cst_sub, cst_one (by omega)] at h1
    rw [cst_one (by omega)]
    grind
  · right
    refine in_cst hi n hn ?_
    have hv := inv_cst hp h1 n hn2 hn
    rw [cst_sub, cst_one (by omega)] at hv
    rw [cst_neg, cst_one (by omega)]
    generalize cst n (inv p ((D - 1) % p)) = j at *
    have : j * ((cst n D - 1) * (cst n D + 1)) = (cst n D - 1) * j * (cst n D + 1) := by grind
    rw [hv] at this
    have : (cst n D - 1) * (cst n D + 1) = 0 := by grind
    grind
theorem signs_ne {p : Int} (hp : isP p) : (1 : Int) % p ≠ -1 % p := by
  have := hp.lt
  rw [Int.emod_eq_of_lt (by omega) (by omega)]
  have : (-1 : Int) % p = p - 1 := by
    rw [← Int.add_emod_right, Int.emod_eq_of_lt (by omega) (by omega)]
    omega
  omega
end Go.Proofs.Ytbibgeoohpgaeaa
