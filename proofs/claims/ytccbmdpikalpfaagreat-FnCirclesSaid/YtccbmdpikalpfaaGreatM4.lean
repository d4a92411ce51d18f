/- Plain laws: the perpendicular through a point, by search and by formula; the altitudes; the meeting point; the orthocentre. -/
import Derived.Test.YtccbmdpikalpfaaGreatM3
namespace Go.Proofs.YtccbmdpikalpfaaGreat
open Go Go.RowKit
set_option linter.unusedVariables false
set_option linter.unusedSimpArgs false
/-- The lines through a point, in the order in which they are tried. -/
def pencil (p a0 a1 : Int) : List (Int × Int × Int) := (0, 1, (-a1) % p) :: (List.range p.toNat).map fun (m : Nat) => (1, (m : Int), (-a0 - (m : Int) * a1) % p)
theorem lines_l0 {K : Nat} {p a0 a1 : Int} (hp : isP p) (h1 : B 31 a0) (h2 : B 31 a1) : ∀ (m k i : Nat) (acc : List (Int × Int × Int)), p.toNat - i = m → m < k → i ≤ p.toNat → acc.length ≤ i + 1 →
    impl_linesThrough.l0 K p a0 a1 k i acc = some (acc ++ (List.range' i m).map fun (m : Nat) => (1, (m : Int), (-a0 - (m : Int) * a1) % p))
  | 0, k + 1, i, acc, hm, _, hi, _ => by
    have := hp.lt
    rw [impl_linesThrough.l0, if_neg (by simp; omega)]
    simp
  | m + 1, k + 1, i, acc, hm, hk, hi, hl => by
    have := hp.lt
    have hbi : B 31 (i : Int) := ⟨by omega⟩
    rw [impl_linesThrough.l0, if_pos (by simp; omega), w_nat (by omega)]
    simp (disch := exact Sm.of (by repeat' first | assumption | apply B.add | apply B.sub | apply B.neg | apply B.mul | exact B.mod hp _ | exact B.const _) rfl) only [w_eq, rest_nice hp, Option.bind_some]
    rw [if_pos (by simp; omega), lines_l0 hp h1 h2 m k (i + 1) _ (by omega) (by omega) (by omega) (by simp; omega)]
    simp [List.range'_succ]
theorem lines_nice {K : Nat} (hK : 100 ≤ K) {p a0 a1 : Int} (hp : isP p) (h1 : B 31 a0) (h2 : B 31 a1) : impl_linesThrough.f K p a0 a1 = some (pencil p a0 a1) := by
  have := hp.lt
  unfold impl_linesThrough.f pencil
  rw [w_eq (Sm.of h2.neg rfl), rest_nice hp]
  simp only [Option.bind_some]
  have := lines_l0 (K := K) hp h1 h2 p.toNat K 0 [(0, 1, (-a1) % p)] (by omega) (by omega) (by omega) (by simp)
  simp only [Int.natCast_zero, Int.ofNat_zero] at this
  rw [List.range_eq_range']
  exact this
def perpB (p c l0 l1 : Int) (m : Int × Int × Int) : Bool := (prod c (-l1) l0 (-m.2.1) m.1) % p == 0
theorem arePerp_nice {K : Nat} {p c l0 l1 l2 m0 m1 m2 : Int} (hp : isP p) (h1 : B 31 l0) (h2 : B 31 l1) (h3 : B 31 m0) (h4 : B 31 m1) : impl_arePerpendicular.f K p c l0 l1 l2 m0 m1 m2 = some (perpB p c l0 l1 (m0, m1, m2)) := by
  unfold impl_arePerpendicular.f impl_way.f perpB
  rw [w_eq (Sm.of h2.neg rfl), w_eq (Sm.of h4.neg rfl), rest_nice hp, rest_nice hp]
  simp only [Option.bind_some]
  rw [implProduct_nice hp (B.mod hp _) h1 (B.mod hp _) h3]
  simp only [Option.bind_some, Option.some.injEq]
  have : prod c ((-l1) % p) l0 ((-m1) % p) m0 % p = prod c (-l1) l0 (-m1) m0 % p := emod_ring hp fun n _ hn e => by
    subst e
    unfold prod
    split
    · simp only [cst_add, cst_sub, cst_mul, cst_mod, cst_neg]
    · split <;> simp only [cst_add, cst_sub, cst_mul, cst_mod, cst_neg]
  rw [this]
theorem perp_l0 {K : Nat} {p c l0 l1 l2 : Int} (hp : isP p) (h1 : B 31 l0) (h2 : B 31 l1) (L : List (Int × Int × Int)) (hL : ∀ m ∈ L, B 31 m.1 ∧ B 31 m.2.1) (hl : L.length ≤ 1000000) : ∀ (m k i : Nat) (x y z : Int), L.length - i = m → m < k → i ≤ L.length →
    impl_perpendicular.l0 K p c l0 l1 l2 L k i x y z = some (((L.drop i).find? (perpB p c l0 l1)).getD (0, 0, 0))
  | 0, k + 1, i, x, y, z, hm, _, hi => by
    have : i = L.length := by omega
    subst this
    simp [impl_perpendicular.l0]
  | m + 1, k + 1, i, x, y, z, hm, hk, hi => by
    have hlt : i < L.length := by omega
    have hb := hL L[i] (List.getElem_mem hlt)
    rw [impl_perpendicular.l0, if_pos (by simpa using hlt), idx_nat, List.getElem?_eq_getElem hlt, w_nat (by omega), List.drop_eq_getElem_cons hlt]
    simp only [Option.bind_some]
    rw [arePerp_nice hp h1 h2 hb.1 hb.2, perp_l0 hp h1 h2 L hL hl m k (i + 1) x y z (by omega) (by omega) (by omega)]
    simp only [Option.bind_some, List.find?_cons]
    have e : ((L[i].1, L[i].2.1, L[i].2.2) : Int × Int × Int) = L[i] := rfl
    rw [e]
    cases perpB p c l0 l1 L[i] <;> simp
/-- The test is linear. -/
def al (c l0 l1 : Int) : Int := if c = 0 then l0 else if c = 1 then -l0 else -l1
def be (c l0 l1 : Int) : Int := if c = 0 then l1 else if c = 1 then l1 else -l0
theorem prod_lin (c l0 l1 m0 m1 : Int) : prod c (-l1) l0 (-m1) m0 = al c l0 l1 * m0 + be c l0 l1 * m1 := by
  unfold prod al be
  split
  · grind
  · split <;> grind
theorem find_range {n m : Nat} {Q : Nat → Bool} (hm : m < n) (h : ∀ i, i < n → (Q i = true ↔ i = m)) : (List.range n).find? Q = some m := by
  rw [List.find?_range_eq_some]
  refine ⟨(h m hm).2 rfl, List.mem_range.2 hm, fun j hj => ?_⟩
  have : ¬ Q j = true := fun e => by have := (h j (by omega)).1 e; omega
  simpa using this
theorem one_mod {p : Int} (hp : isP p) : (1 : Int) % p = 1 := by have := hp.lt; exact Int.emod_eq_of_lt (by omega) (by omega)
theorem neg_mod0 {p x : Int} : (-x) % p = 0 ↔ x % p = 0 := by
  rw [← Int.dvd_iff_emod_eq_zero, ← Int.dvd_iff_emod_eq_zero, Int.dvd_neg]
theorem pencil_find {p α β a0 a1 : Int} (hp : isP p) (h : ¬ (α % p = 0 ∧ β % p = 0)) : (pencil p a0 a1).find? (fun m => (α * m.1 + β * m.2.1) % p == 0) = some (normal p (-β) α (β * a0 - α * a1)) := by
  have hpl := hp.lt
  unfold pencil normal piv
  rw [List.find?_cons]
  obtain ⟨n, hn⟩ := Int.eq_ofNat_of_zero_le (show 0 ≤ p by omega)
  have : NeZero n := ⟨by omega⟩
  have hn2 : 2 < n := by omega
  by_cases hb : β % p = 0
  · have h0 : (α * 0 + β * 1) % p = 0 := by rw [show α * 0 + β * 1 = β by omega]; exact hb
    have hb' : (-β) % p = 0 := neg_mod0.2 hb
    have ha : α % p ≠ 0 := fun e => h ⟨e, hb⟩
    simp only [h0, beq_self_eq_true, hb', if_true, Option.some.injEq, Prod.mk.injEq]
    have hi := inv_cst hp ha n hn2 hn
    have hbz : cst n β = 0 := by rw [cst_z, ← hn]; exact hb
    refine ⟨?_, ?_, ?_⟩
    · rw [← Int.zero_emod p, hn, ← cst_eq, cst_mul, cst_neg, hbz, cst_zero]; grind
    · rw [← one_mod hp, hn, ← cst_eq, cst_mul, cst_one (by omega), ← hn, hi]
    · rw [hn, ← cst_eq]
      simp only [cst_add, cst_sub, cst_mul, cst_mod, cst_neg, hbz]
      rw [hn] at hi
      grind
  · have h0 : ¬ (α * 0 + β * 1) % p = 0 := by rw [show α * 0 + β * 1 = β by omega]; exact hb
    have hb' : ¬ (-β) % p = 0 := fun e => hb (neg_mod0.1 e)
    have hq : ((α * 0 + β * 1) % p == 0) = false := by simpa using h0
    simp only [hq, hb', if_false, List.find?_map]
    have hi := inv_cst hp hb' n hn2 hn
    have hms := mod_in hp (α * inv p ((-β) % p))
    obtain ⟨ms, hms2⟩ := Int.eq_ofNat_of_zero_le hms.out.1
    have hlt : ms < p.toNat := by have := hms.out; omega
    have hmc : cst n (ms : Int) = cst n α * cst n (inv p ((-β) % p)) := by
      rw [← hms2, hn, cst_mod, cst_mul]
    rw [find_range (m := ms) hlt]
    · simp only [Option.map_some, Option.some.injEq, Prod.mk.injEq]
      refine ⟨?_, hms2.symm, ?_⟩
      · rw [← one_mod hp, hn, ← cst_eq, cst_one (by omega), cst_mul, ← hn, hi]
      · rw [hn, ← cst_eq]
        simp only [cst_add, cst_sub, cst_mul, cst_mod, cst_neg]
        rw [hmc, hn]
        rw [hn] at hi
        rw [cst_neg] at hi
        generalize cst n (inv n (-β % n)) = j at *
        grind
    · intro i hi'
      simp only [Function.comp_apply, beq_iff_eq]
      rw [hn, ← cst_z]
      simp only [cst_add, cst_mul, cst_one (show 1 < n by omega)]
      rw [hn] at hi hmc
      rw [cst_neg] at hi
      constructor
      · intro e
        have e2 : cst n (i : Int) = cst n (ms : Int) := by
          rw [hmc]
          generalize cst n (inv n (-β % n)) = j at *
          have e3 : cst n (i : Int) * (-cst n β * j) = cst n (i : Int) * 1 := by rw [hi]
          have e4 : j * (cst n α * 1 + cst n β * cst n (i : Int)) = j * 0 := by rw [e]
          grind
        rw [cst_eq, Int.emod_eq_of_lt (by omega) (by omega), Int.emod_eq_of_lt (by omega) (by omega)] at e2
        omega
      · intro e
        subst e
        rw [hmc]
        generalize cst n (inv n (-β % n)) = j at *
        have e4 : cst n α * (-cst n β * j) = cst n α * 1 := by rw [hi]
        grind
theorem pencil_b {p a0 a1 : Int} (hp : isP p) : ∀ m ∈ pencil p a0 a1, B 31 m.1 ∧ B 31 m.2.1 := by
  have := hp.lt
  intro m hm
  unfold pencil at hm
  rcases List.mem_cons.1 hm with rfl | hm
  · exact ⟨⟨by dsimp only; omega⟩, ⟨by dsimp only; omega⟩⟩
  · obtain ⟨i, hi, rfl⟩ := List.mem_map.1 hm
    have := List.mem_range.1 hi
    exact ⟨⟨by dsimp only; omega⟩, ⟨by dsimp only; omega⟩⟩
theorem perp_nice {K : Nat} (hK : 100 ≤ K) {p c l0 l1 l2 a0 a1 : Int} (hp : isP p) (h1 : B 31 l0) (h2 : B 31 l1) (h3 : B 31 a0) (h4 : B 31 a1) (h : ¬ (l0 % p = 0 ∧ l1 % p = 0)) :
    impl_perpendicular.f K p c l0 l1 l2 a0 a1 = some (normal p (-be c l0 l1) (al c l0 l1) (be c l0 l1 * a0 - al c l0 l1 * a1)) := by
  have hpl := hp.lt
  unfold impl_perpendicular.f
  rw [lines_nice hK hp h3 h4]
  simp only [Option.bind_some]
  have hlen : (pencil p a0 a1).length = p.toNat + 1 := by simp [pencil]
  have := perp_l0 (K := K) (c := c) (l2 := l2) hp h1 h2 (pencil p a0 a1) (pencil_b hp) (by omega) (pencil p a0 a1).length K 0 0 0 0 (by omega) (by omega) (by omega)
  simp only [Int.natCast_zero, Int.ofNat_zero, List.drop_zero] at this
  rw [this]
  have hf : perpB p c l0 l1 = fun m => (al c l0 l1 * m.1 + be c l0 l1 * m.2.1) % p == 0 := by
    funext m
    unfold perpB
    rw [prod_lin]
  rw [hf, pencil_find hp]
  · rfl
  · intro ⟨ha, hb⟩
    refine h ?_
    obtain ⟨n, hn⟩ := Int.eq_ofNat_of_zero_le (show 0 ≤ p by omega)
    have : NeZero n := ⟨by omega⟩
    rw [hn, ← cst_z] at ha hb
    rw [hn, ← cst_z, ← cst_z]
    unfold al at ha
    unfold be at hb
    split at ha
    · rw [if_pos (by assumption)] at hb; exact ⟨ha, hb⟩
    · rw [if_neg (by assumption)] at hb
      split at ha
      · rw [if_pos (by assumption)] at hb
        rw [cst_neg] at ha
        exact ⟨by grind, hb⟩
      · rw [if_neg (by assumption)] at hb
        rw [cst_neg] at ha hb
        exact ⟨by grind, by grind⟩
end Go.Proofs.YtccbmdpikalpfaaGreat
