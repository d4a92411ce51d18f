/- Plain law of the kinds of moves. -/
import Derived.Test.YtbibgeoohpgaeaaDoorV3
namespace Go.Proofs.YtbibgeoohpgaeaaDoor
open Go Go.RowKit
set_option linter.unusedVariables false
set_option linter.unusedSimpArgs false
theorem specSign_nice {K : Nat} {p a b c d e f : Int} (hp : isP p) (k1 : B 31 a) (k2 : B 31 b) (k3 : B 31 c) (k4 : B 31 d) : spec_l07Sign.f K p a b c d e f = some (detM p a b c d) := by
  unfold spec_l07Sign.f detM
  simp (disch := exact Sm.of (by repeat' first | assumption | apply B.add | apply B.sub | apply B.mul | exact B.mod hp _ | exact B.const _) rfl) only [w_eq, mod_nice hp, Option.bind_some]
theorem implSign_nice {K : Nat} {p a b c d : Int} (hp : isP p) (k1 : B 31 a) (k2 : B 31 b) (k3 : B 31 c) (k4 : B 31 d) : impl_sign.f K p a b c d = some (detM p a b c d) := by
  unfold impl_sign.f detM
  simp (disch := exact Sm.of (by repeat' first | assumption | apply B.add | apply B.sub | apply B.mul | exact B.mod hp _ | exact B.const _) rfl) only [w_eq, rest_nice hp, Option.bind_some]
theorem law_FnExactKindOfMove {K : Nat} (hK : 5000 ≤ K) (p k a b c d e f : Int) : laws_FnExactKindOfMove.f K p k a b c d e f = some true := by
  have hK' : 100 ≤ K := by omega
  unfold laws_FnExactKindOfMove.f spec_KindOfMove.f impl_KindOfMove.f
  simp only [toMove_nice, Option.bind_some, spec7Code_nice hK', moveAsked_nice hK']
  by_cases h : codeM p k a b c d e f = 0
  · obtain ⟨hp, m, hk1, hk2, hg⟩ := codeM_zero h
    have k1 := m.a.b hp; have k2 := m.b.b hp; have k3 := m.c.b hp; have k4 := m.d.b hp; have k5 := m.e.b hp; have k6 := m.f.b hp
    simp only [h, Option.bind_some, beq_self_eq_true, if_true, specFixed_nice hK hp k1 k2 k3 k4 k5 k6, implFixed_nice hK hp k1 k2 k3 k4 k5 k6, specSign_nice hp k1 k2 k3 k4, implSign_nice hp k1 k2 k3 k4]
    by_cases hu : a = 1 ∧ b = 0 ∧ c = 0 ∧ d = 1
    · obtain ⟨rfl, rfl, rfl, rfl⟩ := hu
      by_cases hs : e = 0 ∧ f = 0
      · obtain ⟨rfl, rfl⟩ := hs
        simp
      · by_cases he : e = 0
        · have hf : ¬ f = 0 := fun x => hs ⟨he, x⟩
          simp [he, hf]
        · simp [he]
    · have hub : (a == 1 && (b == 0 && (c == 0 && d == 1))) = false := by
        cases hx : (a == 1 && (b == 0 && (c == 0 && d == 1)))
        · rfl
        · simp only [Bool.and_eq_true, beq_iff_eq] at hx
          exact absurd hx hu
      have hub2 : (a == 1 && (b == 0 && (c == 0 && (d == 1 && (e == 0 && f == 0))))) = false := by
        cases hx : (a == 1 && (b == 0 && (c == 0 && (d == 1 && (e == 0 && f == 0)))))
        · rfl
        · simp only [Bool.and_eq_true, beq_iff_eq] at hx
          exact absurd ⟨hx.1, hx.2.1, hx.2.2.1, hx.2.2.2.1⟩ hu
      simp only [hub, hub2, Bool.false_eq_true, if_false]
      by_cases hd : detM p a b c d = 1
      · obtain ⟨x, hx, hfx⟩ := has_fixed hp m hk1 hk2 hg hd hu
        have hlen : (0 : Int) < (((allPts p).filter (fixB p a b c d e f)).length : Int) := by
          have := List.length_pos_of_mem (List.mem_filter.2 ⟨hx, hfx⟩)
          omega
        simp only [hd, beq_self_eq_true, if_true, decide_eq_true hlen, Option.bind_some]
      · by_cases hl : (0 : Int) < (((allPts p).filter (fixB p a b c d e f)).length : Int)
        · simp only [beq_iff_eq, hd, if_false, hl, decide_true, if_true, Option.bind_some, beq_self_eq_true]
        · simp only [beq_iff_eq, hd, if_false, hl, decide_false, Bool.false_eq_true, Option.bind_some, beq_self_eq_true, if_true]
  · simp [h]
end Go.Proofs.YtbibgeoohpgaeaaDoor
