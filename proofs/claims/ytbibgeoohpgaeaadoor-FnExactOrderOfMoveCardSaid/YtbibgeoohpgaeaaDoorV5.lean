/- Plain law of the order of a move. -/
import Derived.Test.YtbibgeoohpgaeaaDoorV3
namespace Go.Proofs.YtbibgeoohpgaeaaDoor
open Go Go.RowKit
set_option linter.unusedVariables false
set_option linter.unusedSimpArgs false
def mEq (x : Mv) : Bool := x.1 == 1 && (x.2.1 == 0 && (x.2.2.1 == 0 && (x.2.2.2.1 == 1 && (x.2.2.2.2.1 == 0 && x.2.2.2.2.2 == 0))))
theorem mEq_iff (x : Mv) : mEq x = true ↔ x = unitM := by
  obtain ⟨a, b, c, d, e, f⟩ := x
  simp [mEq, unitM, and_assoc]

theorem specTimes_nice {K : Nat} {p : Int} {x m : Mv} (hp : isP p) (hx : MI p x) (hm : MI p m) : spec_l07Times.f K p (x.1) (x.2.1) (x.2.2.1) (x.2.2.2.1) (x.2.2.2.2.1) (x.2.2.2.2.2) (m.1) (m.2.1) (m.2.2.1) (m.2.2.2.1) (m.2.2.2.2.1) (m.2.2.2.2.2) = some (tms p x m) := by
  obtain ⟨a, b, c, d, e, f⟩ := x
  obtain ⟨a', b', c', d', e', f'⟩ := m
  have m : MB p a b c d e f := hx
  have m' : MB p a' b' c' d' e' f' := hm
  have k1 := m.a.b hp; have k2 := m.b.b hp; have k3 := m.c.b hp; have k4 := m.d.b hp; have k5 := m.e.b hp; have k6 := m.f.b hp
  have q1 := m'.a.b hp; have q2 := m'.b.b hp; have q3 := m'.c.b hp; have q4 := m'.d.b hp; have q5 := m'.e.b hp; have q6 := m'.f.b hp
  have z : B 31 0 := ⟨by omega⟩
  have o : B 31 1 := ⟨by omega⟩
  unfold spec_l07Times.f tms
  dsimp only
  simp only [specLead_nice hp k1 k2 k3 k4 o z, specLead_nice hp k1 k2 k3 k4 z o, Option.bind_some, lead, specMove_nice hp q1 q2 q3 q4 q5 q6 k5 k6]
  simp only [specLead_nice hp q1 q2 q3 q4 (B.mod hp _) (B.mod hp _), Option.bind_some, lead, mv]
  have f1 : ∀ x y u v s t : Int, (x * ((u * 1 + v * 0) % p) + y * ((s * 1 + t * 0) % p)) % p = (x * u + y * s) % p := fun x y u v s t => emod_ring hp fun n _ hn e => by
    subst e
    simp only [cst_add, cst_mul, cst_mod, cst_zero, cst_one (show 1 < n by omega)]
    grind
  have f2 : ∀ x y u v s t : Int, (x * ((u * 0 + v * 1) % p) + y * ((s * 0 + t * 1) % p)) % p = (x * v + y * t) % p := fun x y u v s t => emod_ring hp fun n _ hn e => by
    subst e
    simp only [cst_add, cst_mul, cst_mod, cst_zero, cst_one (show 1 < n by omega)]
    grind
  simp only [f1, f2]
theorem implThen_nice {K : Nat} {p : Int} {x m : Mv} (hp : isP p) (hx : MI p x) (hm : MI p m) : impl_then.f K p (x.1) (x.2.1) (x.2.2.1) (x.2.2.2.1) (x.2.2.2.2.1) (x.2.2.2.2.2) (m.1) (m.2.1) (m.2.2.1) (m.2.2.2.1) (m.2.2.2.2.1) (m.2.2.2.2.2) = some (tms p x m) := by
  obtain ⟨a, b, c, d, e, f⟩ := x
  obtain ⟨a', b', c', d', e', f'⟩ := m
  have m : MB p a b c d e f := hx
  have m' : MB p a' b' c' d' e' f' := hm
  have k1 := m.a.b hp; have k2 := m.b.b hp; have k3 := m.c.b hp; have k4 := m.d.b hp; have k5 := m.e.b hp; have k6 := m.f.b hp
  have q1 := m'.a.b hp; have q2 := m'.b.b hp; have q3 := m'.c.b hp; have q4 := m'.d.b hp; have q5 := m'.e.b hp; have q6 := m'.f.b hp
  have z : B 31 0 := ⟨by omega⟩
  have o : B 31 1 := ⟨by omega⟩
  unfold impl_then.f tms
  dsimp only
  simp only [implMoved_nice hp q1 q2 q3 q4 q5 q6 k5 k6]
  simp (disch := exact Sm.of (by repeat' first | assumption | apply B.add | apply B.sub | apply B.mul | exact B.mod hp _ | exact B.const _) rfl) only [w_eq, rest_nice hp, Option.bind_some, mv]
theorem spec_ord {K : Nat} {p : Int} {m : Mv} (hp : isP p) (hm : MI p m) {d : Nat} (hd : d ≤ 887503681) (h : pw p m d = unitM) (hn : ∀ i, i < d → pw p m i ≠ unitM) :
    ∀ j i k : Nat, i + j = d → j < k → ∀ c : Int, c = 1 + i → spec_OrderOfMove.l0 K p (m.1) (m.2.1) (m.2.2.1) (m.2.2.2.1) (m.2.2.2.2.1) (m.2.2.2.2.2) k c ((pw p m i).1) ((pw p m i).2.1) ((pw p m i).2.2.1) ((pw p m i).2.2.2.1) ((pw p m i).2.2.2.2.1) ((pw p m i).2.2.2.2.2) = some (1 + (d : Int), 0)
  | 0, i, k + 1, hi, hk, c, hc => by
    obtain rfl : i = d := by omega
    rw [spec_OrderOfMove.l0]
    show (if mEq (pw p m i) = true then _ else _) = _
    rw [if_pos ((mEq_iff _).2 h), hc]
  | j + 1, i, k + 1, hi, hk, c, hc => by
    have hne : ¬ mEq (pw p m i) = true := fun e => hn i (by omega) ((mEq_iff _).1 e)
    rw [spec_OrderOfMove.l0]
    show (if mEq (pw p m i) = true then _ else _) = _
    rw [if_neg hne, specTimes_nice hp (pw_in hp hm i) hm]
    have e1 : wrap64 (c + 1) = 1 + ((i + 1 : Nat) : Int) := by
      subst hc
      unfold wrap64
      omega
    rw [Option.bind_some]
    exact spec_ord hp hm hd h hn j (i + 1) k (by omega) (by omega) _ e1
  | _, _, 0, _, hk, _, _ => absurd hk (Nat.not_lt_zero _)
theorem impl_ord {K : Nat} {p : Int} {m : Mv} (hp : isP p) (hm : MI p m) {d : Nat} (hd : d ≤ 887503681) (h : pw p m d = unitM) (hn : ∀ i, i < d → pw p m i ≠ unitM) :
    ∀ j i k : Nat, i + j = d → j < k → ∀ c : Int, c = 1 + i → impl_OrderOfMove.l0 K p (m.1) (m.2.1) (m.2.2.1) (m.2.2.2.1) (m.2.2.2.2.1) (m.2.2.2.2.2) k c ((pw p m i).1) ((pw p m i).2.1) ((pw p m i).2.2.1) ((pw p m i).2.2.2.1) ((pw p m i).2.2.2.2.1) ((pw p m i).2.2.2.2.2) = some (1 + (d : Int), 0)
  | 0, i, k + 1, hi, hk, c, hc => by
    obtain rfl : i = d := by omega
    rw [impl_OrderOfMove.l0]
    show (if mEq (pw p m i) = true then _ else _) = _
    rw [if_pos ((mEq_iff _).2 h), hc]
  | j + 1, i, k + 1, hi, hk, c, hc => by
    have hne : ¬ mEq (pw p m i) = true := fun e => hn i (by omega) ((mEq_iff _).1 e)
    rw [impl_OrderOfMove.l0]
    show (if mEq (pw p m i) = true then _ else _) = _
    rw [if_neg hne, implThen_nice hp (pw_in hp hm i) hm]
    have e1 : wrap64 (c + 1) = 1 + ((i + 1 : Nat) : Int) := by
      subst hc
      unfold wrap64
      omega
    rw [Option.bind_some]
    exact impl_ord hp hm hd h hn j (i + 1) k (by omega) (by omega) _ e1
  | _, _, 0, _, hk, _, _ => absurd hk (Nat.not_lt_zero _)
theorem law_FnExactOrderOfMove {K : Nat} (hK : 2000000000 ≤ K) (p k a b c d e f : Int) : laws_FnExactOrderOfMove.f K p k a b c d e f = some true := by
  have hK' : 100 ≤ K := by omega
  unfold laws_FnExactOrderOfMove.f spec_OrderOfMove.f impl_OrderOfMove.f
  simp only [toMove_nice, Option.bind_some, spec7Code_nice hK', moveAsked_nice hK']
  by_cases h : codeM p k a b c d e f = 0
  · obtain ⟨hp, m, hk1, hk2, hg⟩ := codeM_zero h
    have hm : MI p (a, b, c, d, e, f) := m
    obtain ⟨n, hn, hu, hl⟩ := order_ex (m := (a, b, c, d, e, f)) hp hk1 hk2 hg hm
    have e1 := spec_ord (K := K) hp hm hn hu hl n 0 K (by omega) (by omega) 1 (by simp)
    have e2 := impl_ord (K := K) hp hm hn hu hl n 0 K (by omega) (by omega) 1 (by simp)
    simp only [pw] at e1 e2
    simp only [h, beq_self_eq_true, if_true, e1, e2, Option.bind_some]
  · simp [h]
end Go.Proofs.YtbibgeoohpgaeaaDoor
