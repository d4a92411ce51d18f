/- Plain laws: all points, the circumcentre by search and by formula, the circumquadrance, the line of Euler. -/
import Derived.Test.YtccbmdpikalpfaaGreatM5
namespace Go.Proofs.YtccbmdpikalpfaaGreat
open Go Go.RowKit
set_option linter.unusedVariables false
set_option linter.unusedSimpArgs false
def allPts (p : Int) : List (Int × Int) := (List.range p.toNat).flatMap fun (x : Nat) => (List.range p.toNat).map fun (y : Nat) => ((x : Int), (y : Int))
theorem pts_l1 {K : Nat} {p : Int} (hp : isP p) (x : Nat) (hx : x ≤ 31) : ∀ (m k y : Nat) (acc : List (Int × Int)), p.toNat - y = m → y ≤ p.toNat → acc.length ≤ 2000 - m →
    impl_allPoints.l1 K p x (m + 1 + k) y acc = impl_allPoints.l0 K p k ((x + 1 : Nat) : Int) (acc ++ (List.range' y m).map fun (y : Nat) => ((x : Int), (y : Int)))
  | 0, k, y, acc, hm, hy, _ => by
    have := hp.lt
    rw [show 0 + 1 + k = k + 1 by omega, impl_allPoints.l1, if_neg (by simp; omega), w_nat (by omega)]
    simp
  | m + 1, k, y, acc, hm, hy, hl => by
    have := hp.lt
    rw [show m + 1 + 1 + k = (m + 1 + k) + 1 by omega, impl_allPoints.l1, if_pos (by simp; omega), if_pos (by simp; omega), w_nat (by omega), pts_l1 hp x hx m k (y + 1) _ (by omega) (by omega) (by simp; omega)]
    simp [List.range'_succ]
theorem pts_l0 {K : Nat} {p : Int} (hp : isP p) : ∀ (m k x : Nat) (acc : List (Int × Int)), p.toNat - x = m → x ≤ p.toNat → acc.length = x * p.toNat →
    impl_allPoints.l0 K p (m * (p.toNat + 2) + 1 + k) x acc = some (acc ++ (List.range' x m).flatMap fun (x : Nat) => (List.range p.toNat).map fun (y : Nat) => ((x : Int), (y : Int)))
  | 0, k, x, acc, hm, hx, hl => by
    have := hp.lt
    rw [show 0 * (p.toNat + 2) + 1 + k = k + 1 by omega, impl_allPoints.l0, if_neg (by simp; omega)]
    simp
  | m + 1, k, x, acc, hm, hx, hl => by
    have := hp.lt
    have hsz : x * p.toNat ≤ 31 * 31 := Nat.mul_le_mul (by omega) (by omega)
    have hsz2 : (x + 1) * p.toNat = x * p.toNat + p.toNat := by rw [Nat.add_mul]; omega
    have e : (m + 1) * (p.toNat + 2) + 1 + k = (p.toNat + 1 + (m * (p.toNat + 2) + 1 + k)) + 1 := by rw [Nat.add_mul]; omega
    rw [e, impl_allPoints.l0, if_pos (by simp; omega)]
    have h1 := pts_l1 (K := K) hp x (by omega) p.toNat (m * (p.toNat + 2) + 1 + k) 0 acc (by omega) (by omega) (by omega)
    simp only [Int.natCast_zero, Int.ofNat_zero] at h1
    rw [h1, pts_l0 hp m k (x + 1) _ (by omega) (by omega) (by simp; omega)]
    simp [List.range'_succ, List.range_eq_range']
theorem allPts_nice {K : Nat} (hK : 5000 ≤ K) {p : Int} (hp : isP p) : impl_allPoints.f K p = some (allPts p) := by
  have hpl := hp.lt
  unfold impl_allPoints.f allPts
  have hsz : p.toNat * (p.toNat + 2) ≤ 31 * 33 := Nat.mul_le_mul (by omega) (by omega)
  obtain ⟨k, rfl⟩ : ∃ k, K = p.toNat * (p.toNat + 2) + 1 + k := ⟨K - (p.toNat * (p.toNat + 2) + 1), by omega⟩
  have := pts_l0 (K := p.toNat * (p.toNat + 2) + 1 + k) hp p.toNat k 0 [] (by omega) (by omega) (by simp)
  simp only [Int.natCast_zero, Int.ofNat_zero, List.nil_append] at this
  rw [this, List.range_eq_range']
theorem mem_allPts {p : Int} (hp : isP p) {x : Int × Int} : x ∈ allPts p ↔ In p x.1 ∧ In p x.2 := by
  have hpl := hp.lt
  unfold allPts
  simp only [List.mem_flatMap, List.mem_map, List.mem_range]
  constructor
  · rintro ⟨a, ha, b, hb, rfl⟩
    exact ⟨⟨by dsimp only; omega⟩, ⟨by dsimp only; omega⟩⟩
  · intro ⟨h1, h2⟩
    have h1 := h1.out
    have h2 := h2.out
    refine ⟨x.1.toNat, by omega, x.2.toNat, by omega, ?_⟩
    ext <;> dsimp only <;> omega
theorem flat_len {α β : Type} {f : α → List β} {c : Nat} : ∀ (l : List α), (∀ a ∈ l, (f a).length = c) → (l.flatMap f).length = l.length * c
  | [], _ => by simp
  | a :: l, h => by
    rw [List.flatMap_cons, List.length_append, h a (List.mem_cons_self ..), flat_len l (fun b hb => h b (List.mem_cons_of_mem _ hb)), List.length_cons, Nat.add_mul]
    omega
theorem allPts_len {p : Int} : (allPts p).length = p.toNat * p.toNat := by
  unfold allPts
  rw [flat_len (c := p.toNat)]
  · simp
  · intro a _
    simp
theorem find_only {α : Type} {Q : α → Bool} {s : α} : ∀ {L : List α}, s ∈ L → Q s = true → (∀ t ∈ L, Q t = true → t = s) → L.find? Q = some s
  | [], h, _, _ => by cases h
  | a :: L, h, hs, hu => by
    rw [List.find?_cons]
    cases ha : Q a with
    | true => rw [hu a (List.mem_cons_self ..) ha]
    | false =>
      have hm : s ∈ L := by
        rcases List.mem_cons.1 h with rfl | h
        · rw [hs] at ha; cases ha
        · exact h
      exact find_only hm hs fun t ht => hu t (List.mem_cons_of_mem _ ht)
/-- The test of the search. -/
def circB (p c a0 a1 b0 b1 c0 c1 : Int) (x : Int × Int) : Bool := quad c x.1 x.2 a0 a1 % p == quad c x.1 x.2 b0 b1 % p && quad c x.1 x.2 a0 a1 % p == quad c x.1 x.2 c0 c1 % p
theorem circ_l0 {K : Nat} {p c a0 a1 b0 b1 c0 c1 : Int} (hp : isP p) (h1 : B 31 a0) (h2 : B 31 a1) (h3 : B 31 b0) (h4 : B 31 b1) (h5 : B 31 c0) (h6 : B 31 c1) (L : List (Int × Int)) (hL : ∀ x ∈ L, B 31 x.1 ∧ B 31 x.2) (hl : L.length ≤ 1000000) :
    ∀ (m k i : Nat) (x y : Int), L.length - i = m → m < k → i ≤ L.length → impl_circumcentre.l0 K p c a0 a1 b0 b1 c0 c1 L k i x y = some (((L.drop i).find? (circB p c a0 a1 b0 b1 c0 c1)).getD (0, 0))
  | 0, k + 1, i, x, y, hm, _, hi => by
    have : i = L.length := by omega
    subst this
    simp [impl_circumcentre.l0]
  | m + 1, k + 1, i, x, y, hm, hk, hi => by
    have hlt : i < L.length := by omega
    have hb := hL L[i] (List.getElem_mem hlt)
    rw [impl_circumcentre.l0, if_pos (by simpa using hlt), idx_nat, List.getElem?_eq_getElem hlt, w_nat (by omega), List.drop_eq_getElem_cons hlt]
    simp only [Option.bind_some]
    rw [implQuadrance_nice hp hb.1 hb.2 h1 h2, implQuadrance_nice hp hb.1 hb.2 h3 h4, implQuadrance_nice hp hb.1 hb.2 h5 h6, circ_l0 hp h1 h2 h3 h4 h5 h6 L hL hl m k (i + 1) x y (by omega) (by omega) (by omega)]
    simp only [Option.bind_some, List.find?_cons, circB]
    cases quad c L[i].1 L[i].2 a0 a1 % p == quad c L[i].1 L[i].2 b0 b1 % p <;> cases quad c L[i].1 L[i].2 a0 a1 % p == quad c L[i].1 L[i].2 c0 c1 % p <;> simp
/-- The line of the points that are alike far from two points. -/
def bis (p c a0 a1 b0 b1 : Int) : Int × Int × Int := perpOf p c (a0 - b0) (a1 - b1) (mid p a0 b0) (mid p a1 b1)
def circ (p c a0 a1 b0 b1 c0 c1 : Int) : Int × Int :=
  (meet0 p (bis p c a0 a1 b0 b1).1 (bis p c a0 a1 b0 b1).2.1 (bis p c a0 a1 b0 b1).2.2 (bis p c a0 a1 c0 c1).1 (bis p c a0 a1 c0 c1).2.1 (bis p c a0 a1 c0 c1).2.2,
   meet1 p (bis p c a0 a1 b0 b1).1 (bis p c a0 a1 b0 b1).2.1 (bis p c a0 a1 b0 b1).2.2 (bis p c a0 a1 c0 c1).1 (bis p c a0 a1 c0 c1).2.1 (bis p c a0 a1 c0 c1).2.2)
theorem bis_b {p c a0 a1 b0 b1 : Int} (hp : isP p) : B 31 (bis p c a0 a1 b0 b1).1 ∧ B 31 (bis p c a0 a1 b0 b1).2.1 ∧ B 31 (bis p c a0 a1 b0 b1).2.2 := normal_b hp
theorem specCirc_nice {K : Nat} (hK : 100 ≤ K) {p c a0 a1 b0 b1 c0 c1 : Int} (hp : isP p) (h1 : B 31 a0) (h2 : B 31 a1) (h3 : B 31 b0) (h4 : B 31 b1) (h5 : B 31 c0) (h6 : B 31 c1) : spec_l04Circumcentre.f K p c a0 a1 b0 b1 c0 c1 = some (circ p c a0 a1 b0 b1 c0 c1) := by
  unfold spec_l04Circumcentre.f
  rw [specMinus_nice hp h1 h2 h3 h4, specMiddle_nice hp h1 h2 h3 h4, specMinus_nice hp h1 h2 h5 h6, specMiddle_nice hp h1 h2 h5 h6]
  simp only [Option.bind_some]
  rw [specThrough2_nice hK hp (B.mod hp _) (B.mod hp _) (mid_b hp) (mid_b hp), specThrough2_nice hK hp (B.mod hp _) (B.mod hp _) (mid_b hp) (mid_b hp), perpOf_mod hp, perpOf_mod hp]
  simp only [Option.bind_some]
  obtain ⟨k1, k2, k3⟩ := bis_b (p := p) (c := c) (a0 := a0) (a1 := a1) (b0 := b0) (b1 := b1) hp
  obtain ⟨m1, m2, m3⟩ := bis_b (p := p) (c := c) (a0 := a0) (a1 := a1) (b0 := c0) (b1 := c1) hp
  have := specMeet_nice hK hp k1 k2 k3 m1 m2 m3
  unfold bis at this
  rw [this]
  rfl
/-- On the bisecting line, in the ring. -/
theorem on_bis {n : Nat} [NeZero n] {p c a0 a1 b0 b1 x y : Int} (hp : isP p) (hn : 2 < n) (e : p = n) (hc : c = 0 ∨ c = 1 ∨ c = 2) :
    cst n (quad c x y a0 a1) - cst n (quad c x y b0 b1) = 2 * (cst n (px c (a0 - b0) (a1 - b1)) * (cst n (mid p a0 b0) - cst n x) + cst n (py c (a0 - b0) (a1 - b1)) * (cst n (mid p a1 b1) - cst n y)) := by
  have hh := half_cst hp n hn e
  subst e
  have hm : ∀ u v : Int, 2 * cst n (mid n u v) = cst n u + cst n v := fun u v => by
    unfold mid
    simp only [cst_mod, cst_mul, cst_add]
    generalize cst n (half n) = j at *
    have : (2 * j) * (cst n u + cst n v) = 1 * (cst n u + cst n v) := by rw [hh]
    grind
  have m0 := hm a0 b0
  have m1 := hm a1 b1
  generalize cst n (mid n a0 b0) = X at *
  generalize cst n (mid n a1 b1) = Y at *
  rcases hc with rfl | rfl | rfl <;> simp only [quad, prod, px, py, if_true, if_false, show ¬ (0 : Int) = 1 by decide, show ¬ (0 : Int) = 2 by decide, show ¬ (1 : Int) = 0 by decide, show ¬ (1 : Int) = 2 by decide, show ¬ (2 : Int) = 0 by decide, show ¬ (2 : Int) = 1 by decide, cst_add, cst_sub, cst_mul, cst_mod, cst_neg]
  · have : (cst n a0 - cst n b0) * (2 * X) + (cst n a1 - cst n b1) * (2 * Y) = (cst n a0 - cst n b0) * (cst n a0 + cst n b0) + (cst n a1 - cst n b1) * (cst n a1 + cst n b1) := by rw [m0, m1]
    grind
  · have : (cst n a0 - cst n b0) * (2 * X) - (cst n a1 - cst n b1) * (2 * Y) = (cst n a0 - cst n b0) * (cst n a0 + cst n b0) - (cst n a1 - cst n b1) * (cst n a1 + cst n b1) := by rw [m0, m1]
    grind
  · have : (cst n a1 - cst n b1) * (2 * X) + (cst n a0 - cst n b0) * (2 * Y) = (cst n a1 - cst n b1) * (cst n a0 + cst n b0) + (cst n a0 - cst n b0) * (cst n a1 + cst n b1) := by rw [m0, m1]
    grind
theorem cramer {n : Nat} [NeZero n] {P1 Q1 C1 P2 Q2 C2 k i x y : Fin n} (hD : (k * (P1 * Q2 - Q1 * P2)) * i = 1) : (P1 * x + Q1 * y + C1 = 0 ∧ P2 * x + Q2 * y + C2 = 0) ↔ x = k * (Q1 * C2 - C1 * Q2) * i ∧ y = k * (C1 * P2 - P1 * C2) * i := by
  constructor
  · intro ⟨h1, h2⟩
    have e1 : Q2 * (P1 * x + Q1 * y + C1) - Q1 * (P2 * x + Q2 * y + C2) = 0 := by rw [h1, h2]; grind
    have e2 : P1 * (P2 * x + Q2 * y + C2) - P2 * (P1 * x + Q1 * y + C1) = 0 := by rw [h1, h2]; grind
    have f1 : x * ((k * (P1 * Q2 - Q1 * P2)) * i) = x * 1 := by rw [hD]
    have f2 : y * ((k * (P1 * Q2 - Q1 * P2)) * i) = y * 1 := by rw [hD]
    have g1 : k * i * (Q2 * (P1 * x + Q1 * y + C1) - Q1 * (P2 * x + Q2 * y + C2)) = k * i * 0 := by rw [e1]
    have g2 : k * i * (P1 * (P2 * x + Q2 * y + C2) - P2 * (P1 * x + Q1 * y + C1)) = k * i * 0 := by rw [e2]
    exact ⟨by grind, by grind⟩
  · intro ⟨h1, h2⟩
    subst h1 h2
    have f1 : C1 * ((k * (P1 * Q2 - Q1 * P2)) * i) = C1 * 1 := by rw [hD]
    have f2 : C2 * ((k * (P1 * Q2 - Q1 * P2)) * i) = C2 * 1 := by rw [hD]
    exact ⟨by grind, by grind⟩
theorem two_zero {n : Nat} [NeZero n] {p : Int} (hp : isP p) (hn : 2 < n) (e : p = n) {x : Fin n} (h : 2 * x = 0) : x = 0 := by
  have hh := half_cst hp n hn e
  generalize cst n (half p) = j at *
  have h1 : j * (2 * x) = j * 0 := by rw [h]
  have h2 : x * (2 * j) = x * 1 := by rw [hh]
  grind
theorem det_area {n : Nat} [NeZero n] {c a0 a1 b0 b1 c0 c1 : Int} (hc : c = 0 ∨ c = 1 ∨ c = 2) :
    ∃ s : Fin n, s * s = 1 ∧ cst n (px c (a0 - b0) (a1 - b1)) * cst n (py c (a0 - c0) (a1 - c1)) - cst n (py c (a0 - b0) (a1 - b1)) * cst n (px c (a0 - c0) (a1 - c1)) = s * cst n (areaOf a0 a1 b0 b1 c0 c1) := by
  rcases hc with rfl | rfl | rfl <;> simp only [areaOf, px, py, if_true, if_false, show ¬ (0 : Int) = 1 by decide, show ¬ (0 : Int) = 2 by decide, show ¬ (1 : Int) = 0 by decide, show ¬ (1 : Int) = 2 by decide, show ¬ (2 : Int) = 0 by decide, show ¬ (2 : Int) = 1 by decide, cst_add, cst_sub, cst_mul, cst_mod, cst_neg]
  · exact ⟨1, by grind, by grind⟩
  · exact ⟨-1, by grind, by grind⟩
  · exact ⟨-1, by grind, by grind⟩
theorem px_ne {p c d0 d1 : Int} (hp : isP p) (hc : c = 0 ∨ c = 1 ∨ c = 2) (h : ¬ (d1 % p = 0 ∧ (-d0) % p = 0)) : ¬ (px c d0 d1 % p = 0 ∧ py c d0 d1 % p = 0) := by
  rw [neg_mod0] at h
  rcases hc with rfl | rfl | rfl <;> simp only [px, py, if_true, if_false, show ¬ (0 : Int) = 1 by decide, show ¬ (0 : Int) = 2 by decide, show ¬ (1 : Int) = 0 by decide, show ¬ (1 : Int) = 2 by decide, show ¬ (2 : Int) = 0 by decide, show ¬ (2 : Int) = 1 by decide, neg_mod0] <;> exact fun ⟨h1, h2⟩ => h (by first | exact ⟨h1, h2⟩ | exact ⟨h2, h1⟩)
theorem circ_find {p c a0 a1 b0 b1 c0 c1 : Int} (hp : isP p) (hc1 : 0 ≤ c) (hc2 : c ≤ 2) (har : areaOf a0 a1 b0 b1 c0 c1 % p ≠ 0) : (allPts p).find? (circB p c a0 a1 b0 b1 c0 c1) = some (circ p c a0 a1 b0 b1 c0 c1) := by
  have hpl := hp.lt
  have hc : c = 0 ∨ c = 1 ∨ c = 2 := by omega
  obtain ⟨n, hn⟩ := Int.eq_ofNat_of_zero_le (show 0 ≤ p by omega)
  have : NeZero n := ⟨by omega⟩
  have hn2 : 2 < n := by omega
  have hac := area_ne hp har
  have u1 := piv_unit hp (px_ne (c := c) (d0 := a0 - b0) (d1 := a1 - b1) hp hc (by have := hac.2.2; rwa [show -(a0 - b0) = b0 - a0 by omega])) n hn2 hn
  have u2 := piv_unit hp (px_ne (c := c) (d0 := a0 - c0) (d1 := a1 - c1) hp hc (by have := hac.2.1; rwa [show -(a0 - c0) = c0 - a0 by omega])) n hn2 hn
  obtain ⟨s, hs, hsa⟩ := det_area (n := n) (a0 := a0) (a1 := a1) (b0 := b0) (b1 := b1) (c0 := c0) (c1 := c1) hc
  -- the lines, in the ring
  have hq : ∀ x y : Int, circB p c a0 a1 b0 b1 c0 c1 (x, y) = true ↔
      (cst n (px c (a0 - b0) (a1 - b1)) * cst n x + cst n (py c (a0 - b0) (a1 - b1)) * cst n y + cst n (-(px c (a0 - b0) (a1 - b1) * mid p a0 b0 + py c (a0 - b0) (a1 - b1) * mid p a1 b1)) = 0 ∧
       cst n (px c (a0 - c0) (a1 - c1)) * cst n x + cst n (py c (a0 - c0) (a1 - c1)) * cst n y + cst n (-(px c (a0 - c0) (a1 - c1) * mid p a0 c0 + py c (a0 - c0) (a1 - c1) * mid p a1 c1)) = 0) := fun x y => by
    have o1 := on_bis (a0 := a0) (a1 := a1) (b0 := b0) (b1 := b1) (x := x) (y := y) hp hn2 hn hc
    have o2 := on_bis (a0 := a0) (a1 := a1) (b0 := c0) (b1 := c1) (x := x) (y := y) hp hn2 hn hc
    unfold circB
    rw [Bool.and_eq_true, beq_iff_eq, beq_iff_eq]
    conv => lhs; rw [hn, ← cst_eq, ← cst_eq]
    rw [cst_neg, cst_add, cst_mul, cst_mul, cst_neg, cst_add, cst_mul, cst_mul]
    constructor
    · intro ⟨e1, e2⟩
      rw [e1] at o1
      rw [e2] at o2
      have z1 := two_zero hp hn2 hn (show 2 * _ = (0 : Fin n) by rw [← o1]; grind)
      have z2 := two_zero hp hn2 hn (show 2 * _ = (0 : Fin n) by rw [← o2]; grind)
      exact ⟨by grind, by grind⟩
    · intro ⟨e1, e2⟩
      have z1 : cst n (quad c x y a0 a1) - cst n (quad c x y b0 b1) = 0 := by rw [o1]; grind
      have z2 : cst n (quad c x y a0 a1) - cst n (quad c x y c0 c1) = 0 := by rw [o2]; grind
      exact ⟨by grind, by grind⟩
  have hd : det (bis p c a0 a1 b0 b1).1 (bis p c a0 a1 b0 b1).2.1 (bis p c a0 a1 c0 c1).1 (bis p c a0 a1 c0 c1).2.1 % p ≠ 0 := by
    intro hz
    refine har ?_
    rw [hn, ← cst_z] at hz ⊢
    unfold det bis perpOf normal at hz
    simp only at hz
    simp only [cst_sub, cst_mul, cst_mod] at hz
    rw [← hn] at hz
    generalize cst n (inv p (piv p (px c (a0 - b0) (a1 - b1)) (py c (a0 - b0) (a1 - b1)))) = k1 at *
    generalize cst n (inv p (piv p (px c (a0 - c0) (a1 - c1)) (py c (a0 - c0) (a1 - c1)))) = k2 at *
    generalize cst n (piv p (px c (a0 - b0) (a1 - b1)) (py c (a0 - b0) (a1 - b1))) = j1 at *
    generalize cst n (piv p (px c (a0 - c0) (a1 - c1)) (py c (a0 - c0) (a1 - c1))) = j2 at *
    generalize cst n (px c (a0 - b0) (a1 - b1)) = P1 at *
    generalize cst n (py c (a0 - b0) (a1 - b1)) = Q1 at *
    generalize cst n (px c (a0 - c0) (a1 - c1)) = P2 at *
    generalize cst n (py c (a0 - c0) (a1 - c1)) = Q2 at *
    generalize cst n (areaOf a0 a1 b0 b1 c0 c1) = A at *
    have h1 : (k1 * k2) * (P1 * Q2 - Q1 * P2) = 0 := by grind
    rw [hsa] at h1
    have h2 : (s * j1 * j2) * ((k1 * k2) * (s * A)) = 0 := by rw [h1]; grind
    have h3 : (s * j1 * j2) * ((k1 * k2) * (s * A)) = (s * s) * (j1 * k1) * (j2 * k2) * A := by grind
    rw [hs, u1, u2] at h3
    grind
  have hi := inv_cst hp hd n hn2 hn
  have hform : cst n (det (bis p c a0 a1 b0 b1).1 (bis p c a0 a1 b0 b1).2.1 (bis p c a0 a1 c0 c1).1 (bis p c a0 a1 c0 c1).2.1) =
      (cst n (inv p (piv p (px c (a0 - b0) (a1 - b1)) (py c (a0 - b0) (a1 - b1)))) * cst n (inv p (piv p (px c (a0 - c0) (a1 - c1)) (py c (a0 - c0) (a1 - c1))))) *
        (cst n (px c (a0 - b0) (a1 - b1)) * cst n (py c (a0 - c0) (a1 - c1)) - cst n (py c (a0 - b0) (a1 - b1)) * cst n (px c (a0 - c0) (a1 - c1))) := by
    unfold det bis perpOf normal
    simp only
    conv => lhs; rw [hn]
    simp only [cst_sub, cst_mul, cst_mod]
    rw [← hn]
    grind
  rw [hform] at hi
  have hcr : ∀ x y, _ := fun x y => cramer (C1 := cst n (-(px c (a0 - b0) (a1 - b1) * mid p a0 b0 + py c (a0 - b0) (a1 - b1) * mid p a1 b1))) (C2 := cst n (-(px c (a0 - c0) (a1 - c1) * mid p a0 c0 + py c (a0 - c0) (a1 - c1) * mid p a1 c1))) (x := x) (y := y) hi
  have hm0 : cst n (circ p c a0 a1 b0 b1 c0 c1).1 = (cst n (inv p (piv p (px c (a0 - b0) (a1 - b1)) (py c (a0 - b0) (a1 - b1)))) * cst n (inv p (piv p (px c (a0 - c0) (a1 - c1)) (py c (a0 - c0) (a1 - c1))))) *
      (cst n (py c (a0 - b0) (a1 - b1)) * cst n (-(px c (a0 - c0) (a1 - c1) * mid p a0 c0 + py c (a0 - c0) (a1 - c1) * mid p a1 c1)) - cst n (-(px c (a0 - b0) (a1 - b1) * mid p a0 b0 + py c (a0 - b0) (a1 - b1) * mid p a1 b1)) * cst n (py c (a0 - c0) (a1 - c1))) *
      cst n (inv p (det (bis p c a0 a1 b0 b1).1 (bis p c a0 a1 b0 b1).2.1 (bis p c a0 a1 c0 c1).1 (bis p c a0 a1 c0 c1).2.1 % p)) := by
    unfold circ meet0
    simp only
    generalize inv p (det (bis p c a0 a1 b0 b1).1 (bis p c a0 a1 b0 b1).2.1 (bis p c a0 a1 c0 c1).1 (bis p c a0 a1 c0 c1).2.1 % p) = J
    unfold bis perpOf normal
    simp only
    generalize -(px c (a0 - b0) (a1 - b1) * mid p a0 b0 + py c (a0 - b0) (a1 - b1) * mid p a1 b1) = C1
    generalize -(px c (a0 - c0) (a1 - c1) * mid p a0 c0 + py c (a0 - c0) (a1 - c1) * mid p a1 c1) = C2
    conv => lhs; rw [hn]
    simp only [cst_sub, cst_mul, cst_mod]
    rw [← hn]
    grind
  have hm1 : cst n (circ p c a0 a1 b0 b1 c0 c1).2 = (cst n (inv p (piv p (px c (a0 - b0) (a1 - b1)) (py c (a0 - b0) (a1 - b1)))) * cst n (inv p (piv p (px c (a0 - c0) (a1 - c1)) (py c (a0 - c0) (a1 - c1))))) *
      (cst n (-(px c (a0 - b0) (a1 - b1) * mid p a0 b0 + py c (a0 - b0) (a1 - b1) * mid p a1 b1)) * cst n (px c (a0 - c0) (a1 - c1)) - cst n (px c (a0 - b0) (a1 - b1)) * cst n (-(px c (a0 - c0) (a1 - c1) * mid p a0 c0 + py c (a0 - c0) (a1 - c1) * mid p a1 c1))) *
      cst n (inv p (det (bis p c a0 a1 b0 b1).1 (bis p c a0 a1 b0 b1).2.1 (bis p c a0 a1 c0 c1).1 (bis p c a0 a1 c0 c1).2.1 % p)) := by
    unfold circ meet1
    simp only
    generalize inv p (det (bis p c a0 a1 b0 b1).1 (bis p c a0 a1 b0 b1).2.1 (bis p c a0 a1 c0 c1).1 (bis p c a0 a1 c0 c1).2.1 % p) = J
    unfold bis perpOf normal
    simp only
    generalize -(px c (a0 - b0) (a1 - b1) * mid p a0 b0 + py c (a0 - b0) (a1 - b1) * mid p a1 b1) = C1
    generalize -(px c (a0 - c0) (a1 - c1) * mid p a0 c0 + py c (a0 - c0) (a1 - c1) * mid p a1 c1) = C2
    conv => lhs; rw [hn]
    simp only [cst_sub, cst_mul, cst_mod]
    rw [← hn]
    grind
  have hin : In p (circ p c a0 a1 b0 b1 c0 c1).1 ∧ In p (circ p c a0 a1 b0 b1 c0 c1).2 := ⟨mod_in hp _, mod_in hp _⟩
  refine find_only ((mem_allPts hp).2 hin) ((hq _ _).2 ((hcr _ _).2 ⟨hm0, hm1⟩)) fun t ht hQ => ?_
  obtain ⟨e1, e2⟩ := (hcr _ _).1 ((hq t.1 t.2).1 hQ)
  have ht' := (mem_allPts hp).1 ht
  rw [← hm0, cst_eq, ← hn, ht'.1.mod, hin.1.mod] at e1
  rw [← hm1, cst_eq, ← hn, ht'.2.mod, hin.2.mod] at e2
  exact Prod.ext e1 e2
theorem implCirc_nice {K : Nat} (hK : 5000 ≤ K) {p c a0 a1 b0 b1 c0 c1 : Int} (hp : isP p) (hc1 : 0 ≤ c) (hc2 : c ≤ 2) (h1 : B 31 a0) (h2 : B 31 a1) (h3 : B 31 b0) (h4 : B 31 b1) (h5 : B 31 c0) (h6 : B 31 c1) (har : areaOf a0 a1 b0 b1 c0 c1 % p ≠ 0) : impl_circumcentre.f K p c a0 a1 b0 b1 c0 c1 = some (circ p c a0 a1 b0 b1 c0 c1) := by
  have hpl := hp.lt
  unfold impl_circumcentre.f
  rw [allPts_nice hK hp]
  simp only [Option.bind_some]
  have hsz : p.toNat * p.toNat ≤ 31 * 31 := Nat.mul_le_mul (by omega) (by omega)
  have hlen := allPts_len (p := p)
  have := circ_l0 (K := K) (c := c) hp h1 h2 h3 h4 h5 h6 (allPts p) (fun x hx => ⟨((mem_allPts hp).1 hx).1.b hp, ((mem_allPts hp).1 hx).2.b hp⟩) (by omega) (allPts p).length K 0 0 0 (by omega) (by omega) (by omega)
  simp only [Int.natCast_zero, Int.ofNat_zero, List.drop_zero] at this
  rw [this, circ_find hp hc1 hc2 har]
  rfl
theorem circ_b {p c a0 a1 b0 b1 c0 c1 : Int} (hp : isP p) : B 31 (circ p c a0 a1 b0 b1 c0 c1).1 ∧ B 31 (circ p c a0 a1 b0 b1 c0 c1).2 := ⟨B.mod hp _, B.mod hp _⟩
theorem orth_b {p c a0 a1 b0 b1 c0 c1 : Int} (hp : isP p) : B 31 (orth p c a0 a1 b0 b1 c0 c1).1 ∧ B 31 (orth p c a0 a1 b0 b1 c0 c1).2 := ⟨B.mod hp _, B.mod hp _⟩
end Go.Proofs.YtccbmdpikalpfaaGreat
