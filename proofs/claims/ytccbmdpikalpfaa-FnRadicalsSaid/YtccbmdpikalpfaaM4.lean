/- Plain laws: the perpendicular through a point, by search and by formula; the altitudes; the meeting point; the orthocentre. -/
import Derived.Test.YtccbmdpikalpfaaM3
namespace Go.Proofs.Ytccbmdpikalpfaa
open Go Go.RowKit
set_option linter.unusedVariables false
set_option linter.unusedSimpArgs false
/-- The lines through a point, in the order in which they are tried. -/
def pencil (p a0 a1 : Int) : List (Int × Int × Int) := (0, 1, (-a1) % p) :: (List.range p.toNat).map fun (m : Nat) => (1, (m : Int), (-a0 - (m : Int) * a1) % p)
def perpB (p c l0 l1 : Int) (m : Int × Int × Int) : Bool := (prod c (-l1) l0 (-m.2.1) m.1) % p == 0
/-- The test is linear. -/
def al (c l0 l1 : Int) : Int := if c = 0 then l0 else if c = 1 then -l0 else -l1
def be (c l0 l1 : Int) : Int := if c = 0 then l1 else if c = 1 then l1 else -l0
theorem prod_lin (c l0 l1 m0 m1 : Int) : prod c (-l1) l0 (-m1) m0 = al c l0 l1 * m0 + be c l0 l1 * m1 := by
  unfold prod al be
  split
  · grind
  · split <;> grind
theorem find_range {n m : Nat} {Q : Nat → Bool} (hm : m < n) (h : ∀ i, i < n → (Q i = true ↔ i = m)) : (List.range n).find? Q = some m := by
  rw [List.find?_range_eq_some]
  refine ⟨(h m hm).2 rfl, List.mem_range.2 hm, fun j hj => ?_⟩
  have : ¬ Q j = true := fun e => by have := (h j (by omega)).1 e; omega
  simpa using this
theorem one_mod {p : Int} (hp : isP p) : (1 : Int) % p = 1 := by have := hp.lt; exact Int.emod_eq_of_lt (by omega) (by omega)
theorem neg_mod0 {p x : Int} : (-x) % p = 0 ↔ x % p = 0 := by
  rw [← Int.dvd_iff_emod_eq_zero, ← Int.dvd_iff_emod_eq_zero, Int.dvd_neg]
theorem pencil_find {p α β a0 a1 : Int} (hp : isP p) (h : ¬ (α % p = 0 ∧ β % p = 0)) : (pencil p a0 a1).find? (fun m => (α * m.1 + β * m.2.1) % p == 0) = some (normal p (-β) α (β * a0 - α * a1)) := by
  have hpl := hp.lt
  unfold pencil normal piv
  rw [List.find?_cons]
  obtain ⟨n, hn⟩ := Int.eq_ofNat_of_zero_le (show 0 ≤ p by omega)
  have : NeZero n := ⟨by omega⟩
  have hn2 : 2 < n := by omega
  by_cases hb : β % p = 0
  · have h0 : (α * 0 + β * 1) % p = 0 := by rw [show α * 0 + β * 1 = β by omega]; exact hb
    have hb' : (-β) % p = 0 := neg_mod0.2 hb
    have ha : α % p ≠ 0 := fun e => h ⟨e, hb⟩
    simp only [h0, beq_self_eq_true, hb', if_true, Option.some.injEq, Prod.mk.injEq]
    have hi := inv_cst hp ha n hn2 hn
    have hbz : cst n β = 0 := by rw [cst_z, ← hn]; exact hb
    refine ⟨?_, ?_, ?_⟩
    · rw [← Int.zero_emod p, hn, ← cst_eq, cst_mul, cst_neg, hbz, cst_zero]; grind
    · rw [← one_mod hp, hn, ← cst_eq, cst_mul, cst_one (by omega), ← hn, hi]
    · rw [hn, ← cst_eq]
      simp only [cst_add, cst_sub, cst_mul, cst_mod, cst_neg, hbz]
      rw [hn] at hi
      grind
  · have h0 : ¬ (α * 0 + β * 1) % p = 0 := by rw [show α * 0 + β * 1 = β by omega]; exact hb
    have hb' : ¬ (-β) % p = 0 := fun e => hb (neg_mod0.1 e)
    have hq : ((α * 0 + β * 1) % p == 0) = false := by simpa using h0
    simp only [hq, hb', if_false, List.find?_map]
    have hi := inv_cst hp hb' n hn2 hn
    have hms := mod_in hp (α * inv p ((-β) % p))
    obtain ⟨ms, hms2⟩ := Int.eq_ofNat_of_zero_le hms.out.1
    have hlt : ms < p.toNat := by have := hms.out; omega
    have hmc : cst n (ms : Int) = cst n α * cst n (inv p ((-β) % p)) := by
      rw [← hms2, hn, cst_mod, cst_mul]
    rw [find_range (m := ms) hlt]
    · simp only [Option.map_some, Option.some.injEq, Prod.mk.injEq]
      refine ⟨?_, hms2.symm, ?_⟩
      · rw [← one_mod hp, hn, ← cst_eq, cst_one (by omega), cst_mul, ← hn, hi]
      · rw [hn, ← cst_eq]
        simp only [cst_add, cst_sub, cst_mul, cst_mod, cst_neg]
        rw [hmc, hn]
        rw [hn] at hi
        rw [cst_neg] at hi
        generalize cst n (inv n (-β % n)) = j at *
        grind
    · intro i hi'
      simp only [Function.comp_apply, beq_iff_eq]
      rw [hn, ← cst_z]
      simp only [cst_add, cst_mul, cst_one (show 1 < n by omega)]
      rw [hn] at hi hmc
      rw [cst_neg] at hi
      constructor
      · intro e
        have e2 : cst n (i : Int) = cst n (ms : Int) := by
          rw [hmc]
          generalize cst n (inv n (-β % n)) = j at *
          have e3 : cst n (i : Int) * (-cst n β * j) = cst n (i : Int) * 1 := by rw [hi]
          have e4 : j * (cst n α * 1 + cst n β * cst n (i : Int)) = j * 0 := by rw [e]
          grind
        rw [cst_eq, Int.emod_eq_of_lt (by omega) (by omega), Int.emod_eq_of_lt (by omega) (by omega)] at e2
        omega
      · intro e
        subst e
        rw [hmc]
        generalize cst n (inv n (-β % n)) = j at *
        have e4 : cst n α * (-cst n β * j) = cst n α * 1 := by rw [hi]
        grind
theorem pencil_b {p a0 a1 : Int} (hp : isP p) : ∀ m ∈ pencil p a0 a1, B 31 m.1 ∧ B 31 m.2.1 := by
  have := hp.lt
  intro m hm
  unfold pencil at hm
  rcases List.mem_cons.1 hm with rfl | hm
  · exact ⟨⟨by dsimp only; omega⟩, ⟨by dsimp only; omega⟩⟩
  · obtain ⟨i, hi, rfl⟩ := List.mem_map.1 hm
    have := List.mem_range.1 hi
    exact ⟨⟨by dsimp only; omega⟩, ⟨by dsimp only; omega⟩⟩
end Go.Proofs.Ytccbmdpikalpfaa
