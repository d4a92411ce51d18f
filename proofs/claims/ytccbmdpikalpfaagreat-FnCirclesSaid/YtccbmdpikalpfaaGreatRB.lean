/- The frame of a row whose argument is a slice of bytes. -/
import Derived.Test.YtccbmdpikalpfaaGreatR
import Derived.ChangeSlices
namespace Go.Proofs.YtccbmdpikalpfaaGreat
open Go Go.ChangeShapes Go.WideShapes Go.ChangeAt Go.RowKit
theorem flat_u8 (xs : List Int) : eU8.flat xs = xs.map (Value.int .u8) := by
  unfold Enc.flat
  induction xs with
  | nil => rfl
  | cons x xs ih => rw [List.flatMap_cons, ih]; rfl
theorem open_bytes {P : Program} {H : Type} {enc : TypeId × Value → H} {w : World} {base b0 : Nat} {spare : Nat → Bool} {held : Bool} {r : Reach} {t e : TypeId} {v : Value} {d : DataW H} {p : List MemPlace}
    (ht : P.underlying t = some (.slice e)) (he : P.underlying e = some (.int .u8)) (hc : P.cellsOf e = 1) (hv : Value.okWide P w r b0 t v) (h : DataW.Trod enc P w base spare held t v d p) :
    ∃ (A : Option Addr) (c : Nat) (xs : List Int), v = .slice A xs.length c ∧ Rd eU8 w A xs ∧ ∀ x ∈ xs, 0 ≤ x ∧ x < 256 := by
  obtain ⟨a, len, cap, rfl⟩ := okWide_slice ht hv
  obtain ⟨fuel, hf⟩ := h
  rcases open_ints ht he hc hf with ⟨h1, _⟩ | ⟨ad, len', cap', zs, h1, _, hle, hm, hlen, _, hcell, hwf⟩
  · have h2 : Value.slice a len cap = .slice none 0 0 := by simpa [Value.cells] using h1
    injection h2 with e1 e2 e3
    subst e1 e2 e3
    exact ⟨none, 0, [], rfl, Rd.nil, nofun⟩
  · have h2 : Value.slice a len cap = .slice (some ad) len' cap' := by simpa [Value.cells] using h1
    injection h2 with e1 e2 e3
    subst e1 e2 e3
    have hz : len ≤ zs.length := by rw [hlen]; split <;> omega
    have hl : (zs.take len).length = len := by rw [List.length_take]; omega
    refine ⟨some ad, cap, zs.take len, by rw [hl], Rd.of_cells (by rw [hl]; simp only [maxLen] at hm; omega) fun j u hu => ?_, fun x hx => ?_⟩
    · rw [flat_u8, List.getElem?_map] at hu
      obtain ⟨x, hx, rfl⟩ := Option.map_eq_some_iff.1 hu
      have hj : j < len := by have := (List.getElem?_eq_some_iff.1 hx).1; omega
      rw [List.getElem?_take, if_pos hj] at hx
      rw [hcell j (by omega), List.getD_eq_getElem?_getD, hx]
      rfl
    · have := hwf x (List.mem_of_mem_take hx)
      simp [Lit.wf, IntKind.min, IntKind.max, IntKind.bits, IntKind.signed] at this
      omega
end Go.Proofs.YtccbmdpikalpfaaGreat
