/- Plain laws of spread polynomials: the values come round with the order, a third multiple is the third polynomial of the value, coefficients give the values. -/
import Derived.Test.YtccbmdpikalpfaaP1
import Derived.Test.YtccbmdpikalpfaaP5
namespace Go.Proofs.Ytccbmdpikalpfaa
open Go Go.RowKit
set_option linter.unusedVariables false
set_option linter.unusedSimpArgs false
theorem p_two_zero {n : Nat} [NeZero n] {p : Int} (hp : isP p) (hn : 2 < n) (e : p = n) {x : Fin n} (h : 2 * x = 0) : x = 0 := by
  have hpl := hp.lt
  have hh : 2 * cst n ((p + 1) / 2) = 1 := by
    rw [← cst_two hn, ← cst_mul, ← cst_one (show 1 < n by omega), cst_eq]
    have : p % 2 = 1 := by unfold isP at hp; omega
    have h2 : 2 * ((p + 1) / 2) = p + 1 := by omega
    rw [h2, e, Int.add_emod_left]
  generalize cst n ((p + 1) / 2) = j at *
  have h1 : j * (2 * x) = j * 0 := by rw [h]
  have h2 : x * (2 * j) = x * 1 := by rw [hh]
  grind
/-! ### Values come round -/
theorem st_next {p s : Int} {i j : Nat} (h : st p s i = st p s j) : ∀ k, st p s (i + k) = st p s (j + k)
  | 0 => h
  | k + 1 => by
    rw [← Nat.add_assoc, ← Nat.add_assoc]
    unfold st
    rw [st_next h k]
theorem order_round : ∀ n ∈ Pr, ∀ x ∈ List.range n, ∀ k ∈ List.range 33, u (n : Int) (x : Int) k = 0 → 1 ≤ k → u (n : Int) (x : Int) (k + 1) = (x : Int) := of_decide_eq_true (by kernel_rfl)
theorem order_small {p s : Int} (hp : isP p) (hs : In p s) : ∃ k, 1 ≤ k ∧ k < 33 ∧ u p s k = 0 :=
  look (Q := fun p s => ∃ k, 1 ≤ k ∧ k < 33 ∧ u p s k = 0) (fun n hn x hx => by
    obtain ⟨k, hk, h1, h2, -⟩ := period_ex n hn x hx
    exact ⟨k, h1, List.mem_range.1 hk, h2⟩) hp hs
/-- The zeros are the multiples of the order. -/
theorem zero_iff {p s : Int} (hp : isP p) (hs : In p s) {o : Nat} (ho : 1 ≤ o) (hz : u p s o = 0) (hl : ∀ i, 1 ≤ i → i < o → u p s i ≠ 0) (n : Nat) : u p s n = 0 ↔ n % o = 0 := by
  have ho33 : o < 33 := by
    obtain ⟨k, h1, h2, h3⟩ := order_small hp hs
    apply Nat.lt_of_not_le
    intro h
    exact hl k h1 (by omega) h3
  have hn := look (Q := fun p s => ∀ k ∈ List.range 33, u p s k = 0 → 1 ≤ k → u p s (k + 1) = s) (fun n hn x hx k hk => order_round n hn x hx k hk) hp hs o (List.mem_range.2 ho33) hz ho
  have h0 : st p s (0 + o) = st p s 0 := by
    rw [Nat.zero_add, st_eq, st_eq, hz, hn]
    rfl
  have hr : ∀ q r, u p s (r + o * q) = u p s r := fun q => by
    induction q with
    | zero => intro r; rfl
    | succ q ih =>
      intro r
      rw [show r + o * (q + 1) = o + (r + o * q) by rw [Nat.mul_add]; omega]
      have := st_next h0 (r + o * q)
      rw [Nat.zero_add, Nat.zero_add] at this
      unfold u
      rw [this]
      exact ih r
  have e : u p s n = u p s (n % o) := by
    have := hr (n / o) (n % o)
    rwa [Nat.mod_add_div] at this
  rw [e]
  constructor
  · intro h
    rcases Nat.eq_zero_or_pos (n % o) with h1 | h1
    · exact h1
    · exact absurd h (hl _ h1 (Nat.mod_lt _ ho))
  · intro h
    rw [h]
    rfl
/-! ### A third multiple -/
section
variable {n : Nat} [NeZero n]
def tt (n : Nat) [NeZero n] (p s : Int) (k : Nat) : Fin n := 1 - 2 * cst n (u p s k)
theorem tt_zero {p s : Int} : tt n p s 0 = 1 := by
  unfold tt
  rw [u_zero, cst_zero]
  grind
theorem tt_two {p s : Int} (hn : 2 < n) (e : p = n) (k : Nat) : tt n p s (k + 2) = 2 * tt n p s 1 * tt n p s (k + 1) - tt n p s k := by
  unfold tt
  rw [u_two, u_one, e]
  simp only [cst_mod, cst_add, cst_sub, cst_mul, cst_two hn, cst_one (show 1 < n by omega)]
  grind
theorem tt_pair {p s : Int} (hn : 2 < n) (e : p = n) (b : Nat) : ∀ c, tt n p s (c + 2 * b) + tt n p s c = 2 * tt n p s (c + b) * tt n p s b := by
  induction b using Nat.strongRecOn with
  | _ b ih =>
    intro c
    rcases b with _ | _ | b
    · rw [tt_zero]
      simp only [Nat.mul_zero, Nat.add_zero]
      grind
    · have := tt_two (s := s) hn e c
      rw [show c + 2 * (0 + 1) = c + 2 by omega, show c + (0 + 1) = c + 1 by omega, this]
      grind
    · have h1 := ih (b + 1) (by omega) (c + 1)
      have h2 := ih b (by omega) (c + 2)
      have e1 := tt_two (s := s) hn e (c + 1 + 2 * (b + 1) - 1)
      have e2 := tt_two (s := s) hn e c
      have e3 := tt_two (s := s) hn e b
      rw [show c + 1 + 2 * (b + 1) - 1 + 2 = c + 2 * (b + 2) by omega, show c + 1 + 2 * (b + 1) - 1 + 1 = c + 1 + 2 * (b + 1) by omega, show c + 1 + 2 * (b + 1) - 1 = c + 2 + 2 * b by omega] at e1
      rw [show c + 1 + (b + 1) = c + (b + 2) by omega] at h1
      rw [show c + 2 + b = c + (b + 2) by omega] at h2
      rw [show b + 1 + 1 = b + 2 by omega, e1, e3]
      generalize tt n p s (c + 1 + 2 * (b + 1)) = A at *
      generalize tt n p s (c + 2 + 2 * b) = C at *
      generalize tt n p s (c + (b + 2)) = M at *
      generalize tt n p s (c + 1) = D at *
      generalize tt n p s (c + 2) = F at *
      generalize tt n p s c = G at *
      generalize tt n p s (b + 1) = X at *
      generalize tt n p s b = Y at *
      generalize tt n p s 1 = Z at *
      have q1 : 2 * Z * (A + D) = 2 * Z * (2 * M * X) := by rw [h1]
      grind
end
theorem third {p s : Int} (hp : isP p) (hs : In p s) (m : Nat) : u p s (3 * m) = u p (u p s m) 3 := by
  have hpl := hp.lt
  obtain ⟨n, hn⟩ := Int.eq_ofNat_of_zero_le (show 0 ≤ p by omega)
  have : NeZero n := ⟨by omega⟩
  have hn2 : 2 < n := by omega
  have hv := u_in hp hs m
  have a1 := tt_pair (s := s) hn2 hn m m
  have a2 := tt_pair (s := s) hn2 hn m 0
  have b1 := tt_two (s := u p s m) hn2 hn 1
  have b2 := tt_two (s := u p s m) hn2 hn 0
  rw [show m + 2 * m = 3 * m by omega, show m + m = 2 * m by omega] at a1
  rw [Nat.zero_add, Nat.zero_add, tt_zero] at a2
  rw [show 0 + 2 = 2 from rfl, show 0 + 1 = 1 from rfl, tt_zero] at b2
  rw [show 1 + 2 = 3 from rfl, show 1 + 1 = 2 from rfl] at b1
  have b0 : tt n p (u p s m) 1 = tt n p s m := by unfold tt; rw [u_one]
  rw [b0] at b1 b2
  have key : tt n p s (3 * m) = tt n p (u p s m) 3 := by
    generalize tt n p s (3 * m) = A at *
    generalize tt n p (u p s m) 3 = B at *
    generalize tt n p (u p s m) 2 = C at *
    generalize tt n p s (2 * m) = D at *
    generalize tt n p s m = E at *
    grind
  have h1 := u_in hp hs (3 * m)
  have h2 := u_in hp hv 3
  have : cst n (u p s (3 * m)) = cst n (u p (u p s m) 3) := by
    unfold tt at key
    have : cst n (u p s (3 * m)) - cst n (u p (u p s m) 3) = 0 := p_two_zero hp hn2 hn (by grind)
    grind
  rw [cst_eq, ← hn, h1.mod, h2.mod] at this
  exact this
/-! ### Coefficients give the values -/
section
variable {n : Nat} [NeZero n]
def ev (X : Fin n) : (Nat → Fin n) → Nat → Fin n
  | _, 0 => 0
  | f, N + 1 => ev X (fun i => f (i + 1)) N * X + f 0
theorem ev_ext {X : Fin n} : ∀ {N : Nat} {f g : Nat → Fin n}, (∀ i, f i = g i) → ev X f N = ev X g N
  | 0, _, _, _ => rfl
  | N + 1, f, g, h => by
    unfold ev
    rw [ev_ext fun i => h (i + 1), h 0]
theorem ev_zero {X : Fin n} : ∀ {N : Nat} {f : Nat → Fin n}, (∀ i, f i = 0) → ev X f N = 0
  | 0, _, _ => rfl
  | N + 1, f, h => by
    unfold ev
    rw [ev_zero fun i => h (i + 1), h 0]
    grind
theorem ev_more {X : Fin n} : ∀ {M N : Nat} {f : Nat → Fin n}, M ≤ N → (∀ i, M ≤ i → f i = 0) → ev X f N = ev X f M
  | 0, N, f, _, h => by rw [ev_zero fun i => h i (by omega)]; rfl
  | M + 1, 0, _, hl, _ => by omega
  | M + 1, N + 1, f, hl, h => by
    unfold ev
    rw [ev_more (M := M) (N := N) (f := fun i => f (i + 1)) (by omega) fun i hi => h (i + 1) (by omega)]
theorem ev_lin {X a b c d : Fin n} : ∀ {N : Nat} {f g h e : Nat → Fin n}, ev X (fun i => a * f i + b * g i + c * h i + d * e i) N = a * ev X f N + b * ev X g N + c * ev X h N + d * ev X e N
  | 0, _, _, _, _ => by unfold ev; grind
  | N + 1, f, g, h, e => by
    unfold ev
    rw [ev_lin (f := fun i => f (i + 1)) (g := fun i => g (i + 1)) (h := fun i => h (i + 1)) (e := fun i => e (i + 1))]
    grind
end
theorem cf_zero {p : Int} (hp : isP p) : ∀ k i, k < i → cf p k i = 0
  | 0, i, _ => rfl
  | 1, i, h => by simp only [cf]; rw [if_neg (by omega)]
  | k + 2, i, h => by
    rw [cf, cf_zero hp (k + 1) i (by omega), cf_zero hp k i (by omega), if_pos (by omega), cf_zero hp (k + 1) (i - 1) (by omega), if_neg (by omega)]
    simp
theorem ev_cf {p x : Int} (hp : isP p) (n : Nat) [NeZero n] (hn : 2 < n) (e : p = n) : ∀ k N, k < N → ev (cst n x) (fun i => cst n (cf p k i)) N = cst n (u p x k)
  | 0, N, h => by
    rw [ev_zero fun i => by rw [show cf p 0 i = 0 from rfl, cst_zero], u_zero, cst_zero]
  | 1, N, h => by
    obtain ⟨N, rfl⟩ : ∃ m, N = m + 2 := ⟨N - 2, by omega⟩
    rw [u_one]
    unfold ev ev
    rw [ev_zero fun i => by simp only [cf]; rw [if_neg (by omega), cst_zero]]
    simp only [cf]
    rw [if_pos trivial, if_neg (by omega), cst_zero, cst_one (by omega)]
    grind
  | k + 2, N, h => by
    obtain ⟨N, rfl⟩ : ∃ m, N = m + 2 := ⟨N - 2, by omega⟩
    have h1 := ev_cf (x := x) hp n hn e (k + 1) (N + 2) (by omega)
    have h1' := ev_cf (x := x) hp n hn e (k + 1) (N + 1) (by omega)
    have h2 := ev_cf (x := x) hp n hn e k (N + 2) (by omega)
    have e1 : ev (cst n x) (fun i => cst n (cf p (k + 2) i)) (N + 2) = ev (cst n x) (fun i => 2 * cst n (cf p (k + 1) i) + (-1) * cst n (cf p k i) + (-4) * (if 0 < i then cst n (cf p (k + 1) (i - 1)) else 0) + 2 * (if i = 1 then 1 else 0)) (N + 2) := ev_ext fun i => by
      have c4 : cst n 4 = 4 := by
        rw [show (4 : Int) = 2 + 2 from rfl, cst_add, cst_two hn]
        grind
      rw [cf, e, cst_mod]
      by_cases h0 : 0 < i
      · by_cases h3 : i = 1
        · rw [if_pos h0, if_pos h3, if_pos h0, if_pos h3]
          simp only [cst_add, cst_sub, cst_mul, cst_two hn, c4]
          grind
        · rw [if_pos h0, if_neg h3, if_pos h0, if_neg h3]
          simp only [cst_add, cst_sub, cst_mul, cst_two hn, c4, cst_zero]
          grind
      · by_cases h3 : i = 1
        · omega
        · rw [if_neg h0, if_neg h3, if_neg h0, if_neg h3]
          simp only [cst_add, cst_sub, cst_mul, cst_two hn, c4, cst_zero]
          grind
    rw [e1, ev_lin, h1, h2]
    have e2 : ev (cst n x) (fun i => if 0 < i then cst n (cf p (k + 1) (i - 1)) else 0) (N + 2) = cst n (u p x (k + 1)) * cst n x := by
      rw [← h1']
      conv => lhs; unfold ev
      dsimp only
      rw [if_neg (show ¬ (0 : Nat) < 0 by omega)]
      rw [ev_ext (g := fun i => cst n (cf p (k + 1) i)) fun i => by rw [if_pos (by omega), Nat.add_sub_cancel]]
      grind
    have e3 : ev (cst n x) (fun i => if i = 1 then 1 else 0) (N + 2) = cst n x := by
      unfold ev ev
      rw [ev_zero fun i => by dsimp only; rw [if_neg (by omega)]]
      simp
      grind
    rw [e2, e3, u_two]
    conv => rhs; rw [e, cst_mod]
    simp only [cst_add, cst_sub, cst_mul, cst_two hn, cst_one (show 1 < n by omega)]
    rw [← e]
    grind
/-- Horner's rule. -/
def horner (p x : Int) (L : List Int) : Int := L.foldr (fun c t => (t * x + c) % p) 0
theorem horner_ev {p x : Int} (n : Nat) [NeZero n] (e : p = n) : ∀ (N : Nat) (f : Nat → Int), cst n (horner p x ((List.range N).map f)) = ev (cst n x) (fun i => cst n (f i)) N
  | 0, f => by unfold horner ev; simp [cst_zero]
  | N + 1, f => by
    rw [List.range_succ_eq_map, List.map_cons, List.map_map]
    have := horner_ev (x := x) n e N (f ∘ Nat.succ)
    unfold horner at this ⊢
    rw [List.foldr_cons]
    conv => lhs; rw [e, cst_mod, ← e]
    rw [cst_add, cst_mul, this]
    rfl
theorem horner_in {p x : Int} (hp : isP p) : ∀ L : List Int, In p (horner p x L)
  | [] => ⟨by have := hp.lt; unfold horner; simp; omega⟩
  | c :: L => mod_in hp _
theorem horner_tk {p x : Int} (hp : isP p) (hx : In p x) (k : Nat) : horner p x (tk p k) = u p x k := by
  have hpl := hp.lt
  obtain ⟨n, hn⟩ := Int.eq_ofNat_of_zero_le (show 0 ≤ p by omega)
  have : NeZero n := ⟨by omega⟩
  have h := (horner_ev (x := x) n hn (k + 1) (cf p k)).trans (ev_cf hp n (by omega) hn k (k + 1) (by omega))
  rw [cst_eq, ← hn, (u_in hp hx k).mod] at h
  have := (horner_in (x := x) hp (tk p k)).mod
  unfold tk at this ⊢
  rw [← this, h]
end Go.Proofs.Ytccbmdpikalpfaa
