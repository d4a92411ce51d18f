/- Plain laws of moves: which moves keep a point, and how often a move is to be made until all points are back. -/
import Derived.Test.YtbibgeoohpgaeaaDoorV1
namespace Go.Proofs.YtbibgeoohpgaeaaDoor
open Go Go.RowKit
set_option linter.unusedVariables false
set_option linter.unusedSimpArgs false
theorem sq_zero {p x : Int} (hp : isP p) (n : Nat) [NeZero n] (hn : 2 < n) (e : p = n) (h : cst n x * cst n x = 0) : cst n x = 0 := by
  by_cases hx : x % p = 0
  · rw [cst_z, ← e]
    exact hx
  · have hu := inv_cst hp hx n hn e
    generalize cst n (inv p (x % p)) = j at *
    have : j * (cst n x * cst n x) = j * 0 := by rw [h]
    have : cst n x * (cst n x * j) = cst n x * 1 := by rw [hu]
    grind
/-- A turn whose trace is two does not turn. -/
theorem turn_unit {p k a b c d : Int} (hp : isP p) (hk1 : 0 ≤ k) (hk2 : k ≤ 2) (hg : goodB p k a b c d = true) (n : Nat) [NeZero n] (hn : 2 < n) (e : p = n) (hd : cst n a * cst n d - cst n b * cst n c = 1) (ht : cst n a + cst n d = 2) :
    cst n a = 1 ∧ cst n b = 0 ∧ cst n c = 0 ∧ cst n d = 1 := by
  unfold goodB at hg
  simp only [Bool.and_eq_true, beq_iff_eq] at hg
  obtain ⟨e1, e2, e3⟩ := hg
  rw [e, ← cst_eq] at e1 e2 e3
  have key : cst n a = 1 → cst n c * cst n c = 0 → cst n c = 0 := fun _ h => sq_zero hp n hn e h
  have two : ∀ x : Fin n, 2 * x = 0 → x = 0 := fun x hx => two_zero hp hn e hx
  rcases thr hk1 hk2 with rfl | rfl | rfl <;> simp only [prod, if_true, if_false, show ¬ (0 : Int) = 1 by decide, show ¬ (0 : Int) = 2 by decide, show ¬ (1 : Int) = 0 by decide, show ¬ (1 : Int) = 2 by decide, show ¬ (2 : Int) = 0 by decide, show ¬ (2 : Int) = 1 by decide, cst_add, cst_sub, cst_mul, cst_zero, cst_one (show 1 < n by omega)] at e1 e2 e3
  · have h1 : cst n d * (cst n a * cst n a + cst n c * cst n c) = cst n d * (1 * 1 + 0 * 0) := by rw [e1]
    have h2 : cst n c * (cst n a * cst n b + cst n c * cst n d) = cst n c * (1 * 0 + 0 * 1) := by rw [e3]
    have h3 : cst n a * (cst n a * cst n d - cst n b * cst n c) = cst n a * 1 := by rw [hd]
    have hda : cst n d = cst n a := by grind
    have ha : cst n a = 1 := by
      have := two (cst n a - 1) (by grind)
      grind
    have hc := key ha (by rw [ha] at e1; grind)
    refine ⟨ha, ?_, hc, by grind⟩
    rw [ha, hc] at e3
    grind
  · have h1 : cst n d * (cst n a * cst n a - cst n c * cst n c) = cst n d * (1 * 1 - 0 * 0) := by rw [e1]
    have h2 : cst n c * (cst n a * cst n b - cst n c * cst n d) = cst n c * (1 * 0 - 0 * 1) := by rw [e3]
    have h3 : cst n a * (cst n a * cst n d - cst n b * cst n c) = cst n a * 1 := by rw [hd]
    have hda : cst n d = cst n a := by grind
    have ha : cst n a = 1 := by
      have := two (cst n a - 1) (by grind)
      grind
    have hc := key ha (by rw [ha] at e1; grind)
    refine ⟨ha, ?_, hc, by grind⟩
    rw [ha, hc] at e3
    grind
  · have hbc : cst n b * cst n c = 0 := two _ (by grind)
    have hsq : cst n (a - 1) * cst n (a - 1) = 0 := by
      rw [cst_sub, cst_one (by omega)]
      have hda : cst n d = 2 - cst n a := by grind
      rw [hda] at hd
      grind
    have ha0 := sq_zero hp n hn e hsq
    rw [cst_sub, cst_one (by omega)] at ha0
    have ha : cst n a = 1 := by grind
    have hdd : cst n d = 1 := by grind
    rw [ha] at e1
    rw [hdd] at e2
    have hc : cst n c = 0 := two _ (by grind)
    have hb : cst n b = 0 := two _ (by grind)
    exact ⟨ha, hb, hc, hdd⟩
theorem in_one {p x : Int} (hp : isP p) (hx : In p x) (n : Nat) [NeZero n] (hn : 2 < n) (e : p = n) (h : cst n x = 1) : x = 1 := by
  rw [← cst_one (n := n) (by omega), cst_eq, ← e, hx.mod, one_mod hp] at h
  exact h
theorem in_zero {p x : Int} (hx : In p x) (n : Nat) [NeZero n] (e : p = n) (h : cst n x = 0) : x = 0 := by
  rw [cst_z, ← e, hx.mod] at h
  exact h
/-- A turn that is not at rest keeps a point. -/
theorem has_fixed {p k a b c d e f : Int} (hp : isP p) (m : MB p a b c d e f) (hk1 : 0 ≤ k) (hk2 : k ≤ 2) (hg : goodB p k a b c d = true) (hd : detM p a b c d = 1) (hu : ¬ (a = 1 ∧ b = 0 ∧ c = 0 ∧ d = 1)) :
    ∃ x ∈ allPts p, fixB p a b c d e f x = true := by
  have hpl := hp.lt
  obtain ⟨n, hn⟩ := Int.eq_ofNat_of_zero_le (show 0 ≤ p by omega)
  have : NeZero n := ⟨by omega⟩
  have hn2 : 2 < n := by omega
  have hdc : cst n a * cst n d - cst n b * cst n c = 1 := by
    have h1 : cst n (detM p a b c d) = 1 := by rw [hd, cst_one (by omega)]
    unfold detM at h1
    rw [hn, cst_mod] at h1
    simpa only [cst_sub, cst_mul] using h1
  have hz : (2 - a - d) % p ≠ 0 := by
    intro hz
    rw [hn, ← cst_z] at hz
    simp only [cst_sub, cst_two hn2] at hz
    obtain ⟨u1, u2, u3, u4⟩ := turn_unit hp hk1 hk2 hg n hn2 hn hdc (by grind)
    exact hu ⟨in_one hp m.a n hn2 hn u1, in_zero m.b n hn u2, in_zero m.c n hn u3, in_one hp m.d n hn2 hn u4⟩
  have hJ := inv_cst hp hz n hn2 hn
  simp only [cst_sub, cst_two hn2] at hJ
  refine ⟨((((1 - d) * e + b * f) * inv p ((2 - a - d) % p)) % p, ((c * e + (1 - a) * f) * inv p ((2 - a - d) % p)) % p), (mem_allPts hp).2 ⟨mod_in hp _, mod_in hp _⟩, ?_⟩
  unfold fixB mv
  rw [Bool.and_eq_true, beq_iff_eq, beq_iff_eq]
  generalize inv p ((2 - a - d) % p) = J at *
  constructor <;> refine emod_ring hp fun n' _ hn' e' => ?_
  all_goals
    obtain rfl : n' = n := by omega
    subst e'
    simp only [cst_add, cst_sub, cst_mul, cst_mod, cst_one (show 1 < n' by omega)]
    generalize cst n' a = A at *
    generalize cst n' b = B at *
    generalize cst n' c = C at *
    generalize cst n' d = D at *
    generalize cst n' e = E at *
    generalize cst n' f = F at *
    generalize cst n' J = j at *
  · have : E * ((2 - A - D) * j) = E * 1 := by rw [hJ]
    have : E * j * (A * D - B * C) = E * j * 1 := by rw [hdc]
    grind
  · have : F * ((2 - A - D) * j) = F * 1 := by rw [hJ]
    have : F * j * (A * D - B * C) = F * j * 1 := by rw [hdc]
    grind
/-! ### Powers of a move -/
abbrev Mv := Int × Int × Int × Int × Int × Int
def tms (p : Int) (x m : Mv) : Mv :=
  ((m.1 * x.1 + m.2.1 * x.2.2.1) % p, (m.1 * x.2.1 + m.2.1 * x.2.2.2.1) % p, (m.2.2.1 * x.1 + m.2.2.2.1 * x.2.2.1) % p, (m.2.2.1 * x.2.1 + m.2.2.2.1 * x.2.2.2.1) % p,
    (m.1 * x.2.2.2.2.1 + m.2.1 * x.2.2.2.2.2 + m.2.2.2.2.1) % p, (m.2.2.1 * x.2.2.2.2.1 + m.2.2.2.1 * x.2.2.2.2.2 + m.2.2.2.2.2) % p)
def MI (p : Int) (x : Mv) : Prop := MB p x.1 x.2.1 x.2.2.1 x.2.2.2.1 x.2.2.2.2.1 x.2.2.2.2.2
def unitM : Mv := (1, 0, 0, 1, 0, 0)
theorem tms_in {p : Int} (hp : isP p) (x m : Mv) : MI p (tms p x m) := ⟨mod_in hp _, mod_in hp _, mod_in hp _, mod_in hp _, mod_in hp _, mod_in hp _⟩
theorem unit_in {p : Int} (hp : isP p) : MI p unitM := by
  have := hp.lt
  exact ⟨⟨by unfold unitM; dsimp only; omega⟩, ⟨by unfold unitM; dsimp only; omega⟩, ⟨by unfold unitM; dsimp only; omega⟩, ⟨by unfold unitM; dsimp only; omega⟩, ⟨by unfold unitM; dsimp only; omega⟩, ⟨by unfold unitM; dsimp only; omega⟩⟩
theorem tms_unit {p : Int} {m : Mv} (hm : MI p m) : tms p unitM m = m := by
  unfold tms unitM
  simp only [Int.mul_one, Int.mul_zero, Int.add_zero, Int.zero_add]
  rw [hm.a.mod, hm.b.mod, hm.c.mod, hm.d.mod, hm.e.mod, hm.f.mod]
theorem lin0 {n : Nat} [NeZero n] {A B C D u v : Fin n} (h : (A * D - B * C) * (A * D - B * C) = 1) (h1 : A * u + B * v = 0) (h2 : C * u + D * v = 0) : u = 0 ∧ v = 0 := by
  have e1 : (A * D - B * C) * u = D * (A * u + B * v) - B * (C * u + D * v) := by grind
  have e2 : (A * D - B * C) * v = A * (C * u + D * v) - C * (A * u + B * v) := by grind
  rw [h1, h2] at e1 e2
  have f1 : ((A * D - B * C) * (A * D - B * C)) * u = (A * D - B * C) * ((A * D - B * C) * u) := by grind
  have f2 : ((A * D - B * C) * (A * D - B * C)) * v = (A * D - B * C) * ((A * D - B * C) * v) := by grind
  rw [h, e1] at f1
  rw [h, e2] at f2
  constructor <;> grind
theorem tms_cancel {p k : Int} {x y m : Mv} (hp : isP p) (hk1 : 0 ≤ k) (hk2 : k ≤ 2) (hg : goodB p k m.1 m.2.1 m.2.2.1 m.2.2.2.1 = true) (hx : MI p x) (hy : MI p y) (h : tms p x m = tms p y m) : x = y := by
  have hpl := hp.lt
  obtain ⟨n, hn⟩ := Int.eq_ofNat_of_zero_le (show 0 ≤ p by omega)
  have : NeZero n := ⟨by omega⟩
  have hn2 : 2 < n := by omega
  have hs := det_sq hp hk1 hk2 hg n hn2 hn
  unfold detM at hs
  rw [hn, cst_mod] at hs
  simp only [cst_sub, cst_mul] at hs
  unfold tms at h
  simp only [Prod.mk.injEq] at h
  obtain ⟨h1, h2, h3, h4, h5, h6⟩ := h
  rw [hn, ← cst_eq] at h1 h2 h3 h4 h5 h6
  simp only [cst_add, cst_mul] at h1 h2 h3 h4 h5 h6
  have eq : ∀ {s t : Int}, In p s → In p t → cst n s - cst n t = 0 → s = t := fun {s t} i j e0 => by
    have : cst n s = cst n t := by grind
    rw [cst_eq, ← hn, i.mod, j.mod] at this
    exact this
  have c1 := lin0 (u := cst n x.1 - cst n y.1) (v := cst n x.2.2.1 - cst n y.2.2.1) hs (by grind) (by grind)
  have c2 := lin0 (u := cst n x.2.1 - cst n y.2.1) (v := cst n x.2.2.2.1 - cst n y.2.2.2.1) hs (by grind) (by grind)
  have c3 := lin0 (u := cst n x.2.2.2.2.1 - cst n y.2.2.2.2.1) (v := cst n x.2.2.2.2.2 - cst n y.2.2.2.2.2) hs (by grind) (by grind)
  exact Prod.ext (eq hx.a hy.a c1.1) (Prod.ext (eq hx.b hy.b c2.1) (Prod.ext (eq hx.c hy.c c1.2) (Prod.ext (eq hx.d hy.d c2.2) (Prod.ext (eq hx.e hy.e c3.1) (eq hx.f hy.f c3.2)))))
theorem pigeon : ∀ (n : Nat) (f : Nat → Nat), (∀ i, i ≤ n → f i < n) → ∃ i j, i < j ∧ j ≤ n ∧ f i = f j
  | 0, f, h => absurd (h 0 (Nat.le_refl _)) (by omega)
  | n + 1, f, h => by
    by_cases hx : ∃ i, i ≤ n ∧ f i = f (n + 1)
    · obtain ⟨i, hi, e⟩ := hx
      exact ⟨i, n + 1, by omega, by omega, e⟩
    · obtain ⟨i, j, hij, hj, e⟩ := pigeon n (fun i => if f i > f (n + 1) then f i - 1 else f i) (fun i hi => by
        have h1 := h i (by omega)
        have h2 := h (n + 1) (by omega)
        have h3 : f i ≠ f (n + 1) := fun e => hx ⟨i, hi, e⟩
        try dsimp only
        split <;> omega)
      have h3 : f i ≠ f (n + 1) := fun e => hx ⟨i, by omega, e⟩
      have h4 : f j ≠ f (n + 1) := fun e => hx ⟨j, by omega, e⟩
      refine ⟨i, j, hij, by omega, ?_⟩
      try dsimp only at e
      split at e <;> split at e <;> omega
theorem least {Q : Nat → Prop} : ∀ n, Q n → ∃ k, k ≤ n ∧ Q k ∧ ∀ i, i < k → ¬ Q i := fun n => by
  induction n using Nat.strongRecOn with
  | _ n ih =>
    intro h
    by_cases hx : ∃ i, i < n ∧ Q i
    · obtain ⟨i, hi, hq⟩ := hx
      obtain ⟨k, hk, h1, h2⟩ := ih i hi hq
      exact ⟨k, by omega, h1, h2⟩
    · exact ⟨n, Nat.le_refl _, h, fun i hi hq => hx ⟨i, hi, hq⟩⟩
def pw (p : Int) (m : Mv) : Nat → Mv
  | 0 => m
  | k + 1 => tms p (pw p m k) m
theorem pw_in {p : Int} {m : Mv} (hp : isP p) (hm : MI p m) : ∀ k, MI p (pw p m k)
  | 0 => hm
  | k + 1 => tms_in hp _ _
def enc (x : Mv) : Nat := ((((x.1.toNat * 31 + x.2.1.toNat) * 31 + x.2.2.1.toNat) * 31 + x.2.2.2.1.toNat) * 31 + x.2.2.2.2.1.toNat) * 31 + x.2.2.2.2.2.toNat
theorem enc_lt {p : Int} {x : Mv} (hp : isP p) (h : MI p x) : enc x < 887503681 := by
  have := hp.lt
  have h1 := h.a.out; have h2 := h.b.out; have h3 := h.c.out; have h4 := h.d.out; have h5 := h.e.out; have h6 := h.f.out
  unfold enc
  omega
theorem dig {u v u' v' : Nat} (h : u * 31 + v = u' * 31 + v') (h1 : v < 31) (h2 : v' < 31) : u = u' ∧ v = v' := by omega
theorem toNat_eq {p a b : Int} (ha : In p a) (hb : In p b) (h : a.toNat = b.toNat) : a = b := by
  have := ha.out
  have := hb.out
  omega
theorem toNat_lt {p a : Int} (hp : isP p) (ha : In p a) : a.toNat < 31 := by
  have := ha.out
  have := hp.lt
  omega
theorem enc_inj {p : Int} {x y : Mv} (hp : isP p) (h : MI p x) (k : MI p y) (e : enc x = enc y) : x = y := by
  obtain ⟨e, e6⟩ := dig e (toNat_lt hp h.f) (toNat_lt hp k.f)
  obtain ⟨e, e5⟩ := dig e (toNat_lt hp h.e) (toNat_lt hp k.e)
  obtain ⟨e, e4⟩ := dig e (toNat_lt hp h.d) (toNat_lt hp k.d)
  obtain ⟨e, e3⟩ := dig e (toNat_lt hp h.c) (toNat_lt hp k.c)
  obtain ⟨e1, e2⟩ := dig e (toNat_lt hp h.b) (toNat_lt hp k.b)
  exact Prod.ext (toNat_eq h.a k.a e1) (Prod.ext (toNat_eq h.b k.b e2) (Prod.ext (toNat_eq h.c k.c e3) (Prod.ext (toNat_eq h.d k.d e4) (Prod.ext (toNat_eq h.e k.e e5) (toNat_eq h.f k.f e6)))))
theorem pw_back {p k : Int} {m : Mv} (hp : isP p) (hk1 : 0 ≤ k) (hk2 : k ≤ 2) (hg : goodB p k m.1 m.2.1 m.2.2.1 m.2.2.2.1 = true) (hm : MI p m) : ∀ i d, pw p m i = pw p m (i + d) → pw p m 0 = pw p m d
  | 0, d, h => by rw [Nat.zero_add] at h; exact h
  | i + 1, d, h => by
    rw [show i + 1 + d = (i + d) + 1 by omega] at h
    exact pw_back hp hk1 hk2 hg hm i d (tms_cancel hp hk1 hk2 hg (pw_in hp hm i) (pw_in hp hm (i + d)) h)
/-- Some power of a move is at rest. -/
theorem order_ex {p k : Int} {m : Mv} (hp : isP p) (hk1 : 0 ≤ k) (hk2 : k ≤ 2) (hg : goodB p k m.1 m.2.1 m.2.2.1 m.2.2.2.1 = true) (hm : MI p m) : ∃ d, d ≤ 887503681 ∧ pw p m d = unitM ∧ ∀ i, i < d → pw p m i ≠ unitM := by
  obtain ⟨N, hN⟩ : ∃ N, N = 887503681 := ⟨_, rfl⟩
  obtain ⟨i, j, hij, hj, e⟩ := pigeon N (fun i => enc (pw p m i)) (fun i _ => by rw [hN]; exact enc_lt hp (pw_in hp hm i))
  have e2 := enc_inj hp (pw_in hp hm i) (pw_in hp hm j) e
  rw [show j = i + (j - i) by omega] at e2
  have e3 := pw_back hp hk1 hk2 hg hm i (j - i) e2
  obtain ⟨d, hd⟩ : ∃ d, j - i = d + 1 := ⟨j - i - 1, by omega⟩
  rw [hd] at e3
  have e4 : pw p m d = unitM := tms_cancel (m := m) hp hk1 hk2 hg (pw_in hp hm d) (unit_in hp) (by
    rw [tms_unit hm]
    exact e3.symm)
  obtain ⟨q, hq, h1, h2⟩ := least (Q := fun d => pw p m d = unitM) d e4
  exact ⟨q, by omega, h1, h2⟩
end Go.Proofs.YtbibgeoohpgaeaaDoor
