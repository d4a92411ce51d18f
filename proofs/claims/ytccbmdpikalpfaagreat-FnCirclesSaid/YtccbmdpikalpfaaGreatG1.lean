/- Tangents from a point: the program's sorted list and the reference's are one list. -/
import Derived.Test.YtccbmdpikalpfaaGreatC2
namespace Go.Proofs.YtccbmdpikalpfaaGreat
open Go Go.RowKit
set_option linter.unusedVariables false
set_option linter.unusedSimpArgs false

/-! ### Strictly sorted lists -/
theorem lt3_tri {x y : Int × Int × Int} (h1 : lt3 x y = false) (h2 : lt3 y x = false) : x = y := by
  obtain ⟨x0, x1, x2⟩ := x
  obtain ⟨y0, y1, y2⟩ := y
  simp only [lt3] at h1 h2
  repeat' split at h1
  all_goals repeat' split at h2
  all_goals simp only [decide_eq_false_iff_not] at *
  all_goals simp only [Prod.mk.injEq]
  all_goals omega
theorem lt3_irr (x : Int × Int × Int) : lt3 x x = false := swo_lt3.irrefl x
theorem lt3_tr {x y z : Int × Int × Int} (h1 : lt3 x y = true) (h2 : lt3 y z = true) : lt3 x z = true := swo_lt3.trans x y z h1 h2
def Asc (xs : List (Int × Int × Int)) : Prop := xs.Pairwise fun x y => lt3 x y = true
theorem asc_unique : ∀ {xs ys : List (Int × Int × Int)}, Asc xs → Asc ys → (∀ y, y ∈ xs ↔ y ∈ ys) → xs = ys
  | [], [], _, _, _ => rfl
  | [], y :: ys, _, _, h => by have := (h y).2 (List.mem_cons_self ..); simp at this
  | x :: xs, [], _, _, h => by have := (h x).1 (List.mem_cons_self ..); simp at this
  | x :: xs, y :: ys, hx, hy, h => by
    obtain ⟨hx1, hx2⟩ := List.pairwise_cons.1 hx
    obtain ⟨hy1, hy2⟩ := List.pairwise_cons.1 hy
    have e : x = y := Classical.byContradiction fun hn => by
      have h1 : x ∈ ys := ((List.mem_cons.1 ((h x).1 (List.mem_cons_self ..))).resolve_left hn)
      have h2 : y ∈ xs := ((List.mem_cons.1 ((h y).2 (List.mem_cons_self ..))).resolve_left (Ne.symm hn))
      have := lt3_tr (hx1 y h2) (hy1 x h1)
      rw [lt3_irr] at this
      cases this
    subst e
    rw [asc_unique hx2 hy2 fun z => ?_]
    have hz := h z
    simp only [List.mem_cons] at hz
    constructor
    · intro hm
      have hne : z ≠ x := fun e => by have := hx1 z hm; rw [e, lt3_irr] at this; cases this
      exact (hz.1 (.inr hm)).resolve_left hne
    · intro hm
      have hne : z ≠ x := fun e => by have := hy1 z hm; rw [e, lt3_irr] at this; cases this
      exact (hz.2 (.inr hm)).resolve_left hne
theorem asc_sort {xs : List (Int × Int × Int)} (h : xs.Nodup) : Asc (sortL xs) := by
  obtain ⟨h1, h2⟩ := sortL_spec xs
  have hn : (sortL xs).Nodup := h1.nodup_iff.2 h
  refine (List.Pairwise.and h2 hn).imp fun {x y} ⟨a, b⟩ => ?_
  cases hb : lt3 x y with
  | true => rfl
  | false => exact (b (lt3_tri hb a)).elim
/-! ### One line put into its place -/
theorem asc_put {xs : List (Int × Int × Int)} {l : Int × Int × Int} (hx : Asc xs) {n : Nat} (hgt : ∀ y ∈ xs.drop n, lt3 l y = true) (hlt : ∀ y ∈ xs.take n, lt3 y l = true) :
    Asc (xs.take n ++ [l] ++ xs.drop n) ∧ ∀ y, y ∈ xs.take n ++ [l] ++ xs.drop n ↔ y ∈ xs ∨ y = l := by
  have hs : Asc (xs.take n ++ xs.drop n) := by rw [List.take_append_drop]; exact hx
  obtain ⟨h1, h2, h3⟩ := List.pairwise_append.1 hs
  refine ⟨?_, fun y => ?_⟩
  · unfold Asc
    rw [List.append_assoc, List.pairwise_append]
    refine ⟨h1, ?_, fun a ha b hb => ?_⟩
    · rw [List.singleton_append, List.pairwise_cons]
      exact ⟨hgt, h2⟩
    · rw [List.singleton_append] at hb
      rcases List.mem_cons.1 hb with rfl | hb
      · exact hlt a ha
      · exact h3 a ha b hb
  · have : y ∈ xs ↔ y ∈ xs.take n ∨ y ∈ xs.drop n := by rw [← List.mem_append, List.take_append_drop]
    rw [this]
    simp only [List.mem_append, List.mem_singleton]
    constructor
    · rintro ((h | h) | h)
      · exact .inl (.inl h)
      · exact .inr h
      · exact .inl (.inr h)
    · rintro ((h | h) | h)
      · exact .inl (.inl h)
      · exact .inr h
      · exact .inl (.inr h)
theorem before_nice {K : Nat} (hK : 10 ≤ K) (a b : Int × Int × Int) : spec_l06Before.f K a.1 a.2.1 a.2.2 b.1 b.2.1 b.2.2 = some (lt3 a b) := by
  obtain ⟨a0, a1, a2⟩ := a
  obtain ⟨b0, b1, b2⟩ := b
  simp only [lt3]
  by_cases h0 : a0 = b0 <;> by_cases h1 : a1 = b1 <;> by_cases h2 : a2 = b2 <;> simp [spec_l06Before.f, h0, h1, h2]
theorem w_pred {n : Nat} (h : n ≤ 1000000) : wrap64 (((n + 1 : Nat) : Int) - 1) = (n : Int) := by rw [w_eq ⟨by omega⟩]; omega
theorem put_end {K : Nat} {xs : List (Int × Int × Int)} {l : Int × Int × Int} (hl : xs.length ≤ 100000) {n : Nat} (hn : n ≤ xs.length) :
    ((cutHi xs (n : Int)).bind fun t107 => (if decide (t107.length ≤ 1000000) = true then ((some (t107 ++ [(l.1, l.2.1, l.2.2)])).bind fun t128 => ((cutLo xs (n : Int)).bind fun t134 => (if decide (t128.length ≤ 1000000) = true then (if decide (t134.length ≤ 1000000) = true then ((some (t128 ++ t134)).bind fun t151 => some t151) else none) else none))) else none)) = some (xs.take n ++ [l] ++ xs.drop n) := by
  unfold cutHi cutLo
  rw [if_pos ⟨by omega, by omega⟩, if_pos ⟨by omega, by omega⟩]
  simp only [Option.bind_some, Int.toNat_natCast]
  simp (disch := omega) only [List.length_append, List.length_take, List.length_drop, List.length_singleton, decide_eq_true_eq]
  rw [if_pos (by omega), if_pos (by omega), if_pos (by omega)]
theorem put_l0 {K : Nat} (hK : 10 ≤ K) {xs : List (Int × Int × Int)} {l : Int × Int × Int} (hx : Asc xs) (hl : xs.length ≤ 100000) : ∀ (n k : Nat), n < k → n ≤ xs.length → (∀ y ∈ xs.drop n, lt3 l y = true) →
    ∃ r, spec_l06Put.l0 K xs l.1 l.2.1 l.2.2 k (n : Int) = some r ∧ Asc r ∧ (∀ y, y ∈ r ↔ y ∈ xs ∨ y = l) ∧ r.length ≤ xs.length + 1
  | 0, k + 1, _, hn, hgt => by
    obtain ⟨h1, h2⟩ := asc_put hx hgt (by simp)
    refine ⟨_, ?_, h1, h2, by simp⟩
    rw [spec_l06Put.l0, if_neg (by simp)]
    exact put_end (K := K) hl hn
  | n + 1, k + 1, hk, hn, hgt => by
    have hlt : n < xs.length := by omega
    have hd : xs.drop n = xs[n] :: xs.drop (n + 1) := List.drop_eq_getElem_cons hlt
    have hi : idx xs (wrap64 (((n + 1 : Nat) : Int) - 1)) = some xs[n] := by rw [w_pred (by omega), idx_nat, List.getElem?_eq_getElem hlt]
    have hb := before_nice hK l xs[n]
    rw [spec_l06Put.l0, if_pos (by simp), hi]
    simp only [Option.bind_some, hb]
    cases hc : lt3 l xs[n] with
    | true =>
      simp only [if_true, w_pred (show n ≤ 1000000 by omega)]
      exact put_l0 hK hx hl n k (by omega) (by omega) fun y hy => by
        rw [hd] at hy
        rcases List.mem_cons.1 hy with rfl | hy
        · exact hc
        · exact hgt y hy
    | false =>
      simp only [Bool.false_eq_true, if_false]
      by_cases he : xs[n] = l
      · refine ⟨xs, ?_, hx, fun y => ⟨.inl, fun h => h.elim id fun e => by rw [e, ← he]; exact List.getElem_mem hlt⟩, by omega⟩
        rw [if_pos (by rw [he]; simp)]
      · have hlt3 : ∀ y ∈ xs.take (n + 1), lt3 y l = true := by
          have hlast : lt3 xs[n] l = true := by
            cases h : lt3 xs[n] l with
            | true => rfl
            | false => exact (he (lt3_tri h hc)).elim
          intro y hy
          rw [List.take_succ_eq_append_getElem hlt, List.mem_append, List.mem_singleton] at hy
          rcases hy with hy | rfl
          · have h3 := (List.pairwise_append.1 (show Asc (xs.take n ++ xs.drop n) by rw [List.take_append_drop]; exact hx)).2.2 y hy xs[n] (by rw [hd]; exact List.mem_cons_self ..)
            exact lt3_tr h3 hlast
          · exact hlast
        obtain ⟨h1, h2⟩ := asc_put hx hgt hlt3
        refine ⟨_, ?_, h1, h2, by simp; omega⟩
        rw [if_neg (by
          intro h
          simp only [Bool.and_eq_true, beq_iff_eq] at h
          exact he (Prod.ext h.1 (Prod.ext h.2.1 h.2.2)))]
        exact put_end (K := K) hl hn
theorem put_nice {K : Nat} {xs : List (Int × Int × Int)} {l : Int × Int × Int} (hK : xs.length + 10 ≤ K) (hx : Asc xs) (hl : xs.length ≤ 100000) :
    ∃ r, spec_l06Put.f K xs l.1 l.2.1 l.2.2 = some r ∧ Asc r ∧ (∀ y, y ∈ r ↔ y ∈ xs ∨ y = l) ∧ r.length ≤ xs.length + 1 :=
  put_l0 (by omega) hx hl xs.length K (by omega) (Nat.le_refl _) (by simp)
end Go.Proofs.YtccbmdpikalpfaaGreat
