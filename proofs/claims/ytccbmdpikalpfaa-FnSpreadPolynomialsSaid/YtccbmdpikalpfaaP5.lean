/- Plain law of the coefficients of spread polynomials. -/
import Derived.Test.YtccbmdpikalpfaaP2
namespace Go.Proofs.Ytccbmdpikalpfaa
open Go Go.RowKit
set_option linter.unusedVariables false
set_option linter.unusedSimpArgs false
/-- The coefficient of the power i in the polynomial of index k. -/
def cf (p : Int) : Nat → Nat → Int
  | 0, _ => 0
  | 1, i => if i = 1 then 1 else 0
  | k + 2, i => (2 * cf p (k + 1) i - cf p k i - (if 0 < i then 4 * cf p (k + 1) (i - 1) else 0) + (if i = 1 then 2 else 0)) % p
theorem cf_b {p : Int} (hp : isP p) : ∀ k i, B 31 (cf p k i)
  | 0, i => ⟨by simp [cf]⟩
  | 1, i => ⟨by simp only [cf]; split <;> omega⟩
  | k + 2, i => by rw [cf]; exact B.mod hp _
theorem idx_set {xs : List Int} {i : Nat} {v : Int} (h : i < xs.length) : idx (xs.set i v) (i : Int) = some v := by rw [idx_nat]; simp [h]
/-- A row of so many coefficients, and what else stands there. -/
def cr (p : Int) (k n : Nat) (z : Int) : List Int := ((List.range (n + 1)).map (cf p k)) ++ [z]
theorem cr_len {p : Int} {k n : Nat} {z : Int} : (cr p k n z).length = n + 2 := by simp [cr]
theorem cr_get {p : Int} {k n i : Nat} {z : Int} (h : i ≤ n) : idx (cr p k n z) (i : Int) = some (cf p k i) := by
  rw [idx_nat, cr, List.getElem?_append_left (by simp; omega)]
  simp [Nat.lt_succ_of_le h]
theorem cr_last {p : Int} {k n : Nat} {z : Int} : idx (cr p k n z) ((n + 1 : Nat) : Int) = some z := by
  rw [idx_nat, cr, List.getElem?_append_right (by simp)]
  simp
theorem set_step {p : Int} {k i : Nat} {zs : List Int} {z v : Int} (hv : v = cf p k i) : ((List.range i).map (cf p k) ++ z :: zs).set i v = (List.range (i + 1)).map (cf p k) ++ zs := by
  subst hv
  rw [List.set_append_right _ _ (by simp)]
  simp [List.range_succ]
def nx (p : Int) (i : Nat) (A B B' : Int) : Int := (2 * B - A - (if 0 < i then 4 * B' else 0) + (if i = 1 then 2 else 0)) % p

theorem specStep {K : Nat} {p : Int} (hp : isP p) {n i k : Nat} {y A C C' : Int} {a b x : List Int} (hn : n ≤ 40) (hi : i ≤ n) (hl : x.length = n + 2) (hA : idx a (i : Int) = some A) (hC : idx b (i : Int) = some C) (hC' : 0 < i → idx b ((i : Int) - 1) = some C') (bA : B 31 A) (bC : B 31 C) (bC' : B 31 C') :
    spec_CoefficientsOf.l1 K p n y a b (k + 1) i x = spec_CoefficientsOf.l1 K p n y a b k ((i + 1 : Nat) : Int) (x.set i (nx p i A C C')) := by
  have hx : i < x.length := by omega
  obtain ⟨q, hq⟩ : ∃ q, idx x (i : Int) = some q := ⟨x[i], by rw [idx_nat]; simp [hx]⟩
  have e2 : ∀ v : Int, idx (x.set i v) (i : Int) = some v := fun v => idx_set hx
  have ew : wrap64 ((i : Int) + 1) = ((i + 1 : Nat) : Int) := w_nat (by omega)
  have w1 : wrap64 (2 * C) = 2 * C := w_eq (Sm.of (B.mul (B.const 2) bC) rfl)
  have w2 : wrap64 (2 * C - A) = 2 * C - A := w_eq (Sm.of ((B.mul (B.const 2) bC).sub bA) rfl)
  have w3 : wrap64 (4 * C') = 4 * C' := w_eq (Sm.of (B.mul (B.const 4) bC') rfl)
  have w4 : wrap64 (2 * C - A - 4 * C') = 2 * C - A - 4 * C' := w_eq (Sm.of (((B.mul (B.const 2) bC).sub bA).sub (B.mul (B.const 4) bC')) rfl)
  have w5 : wrap64 (2 * C - A - 4 * C' + 2) = 2 * C - A - 4 * C' + 2 := w_eq (Sm.of ((((B.mul (B.const 2) bC).sub bA).sub (B.mul (B.const 4) bC')).add (B.const 2)) rfl)
  have hlt : decide ((i : Int) ≤ (n : Int)) = true := by simpa using hi
  rw [spec_CoefficientsOf.l1, if_pos hlt, hC, hA, hq]
  simp only [Option.bind_some, Int.toNat_natCast, w1, w2]
  by_cases h0 : 0 < i
  · have d0 : decide ((0 : Int) < i) = true := by simpa using h0
    have ei : wrap64 ((i : Int) - 1) = (i : Int) - 1 := w_eq ⟨by omega⟩
    simp only [d0, if_true, e2, Option.bind_some, ei, hC' h0, w3, w4, List.set_set]
    by_cases h1 : i = 1
    · subst h1
      have c1 : ((1 : Nat) : Int) = 1 := rfl
      simp only [c1] at e2 ew ⊢
      simp only [beq_self_eq_true]; simp only [e2, Option.bind_some, w5, mod_nice hp, ew, nx, Nat.lt_one_iff, if_true, Nat.one_pos, Nat.zero_lt_one]
    · have d1 : ((i : Int) == 1) = false := by simpa using (by omega : ¬ (i : Int) = 1)
      simp only [d1, Bool.false_eq_true, if_false, e2, Option.bind_some, mod_nice hp, ew, nx, h0, h1, if_true, Int.add_zero]
  · obtain rfl : i = 0 := by omega
    have c0 : ((0 : Nat) : Int) = 0 := rfl
    simp only [c0] at e2 ew hq ⊢
    have d0 : decide ((0 : Int) < 0) = false := rfl
    have d1 : ((0 : Int) == 1) = false := rfl
    simp only [d0, d1, Bool.false_eq_true, if_false, e2, Option.bind_some, List.set_set, mod_nice hp, ew, nx, Nat.lt_irrefl, Int.sub_zero, Int.add_zero, Nat.zero_ne_one]

theorem implStep {K : Nat} {p : Int} (hp : isP p) {n i k : Nat} {y A C C' : Int} {a b x : List Int} (hn : n ≤ 40) (hi : i < n + 2) (hl : x.length = n + 2) (hA : idx a (i : Int) = some A) (hC : idx b (i : Int) = some C) (hC' : 0 < i → idx b ((i : Int) - 1) = some C') (bA : B 31 A) (bC : B 31 C) (bC' : B 31 C') :
    impl_CoefficientsOf.l1 K p n y a b (k + 1) i x = impl_CoefficientsOf.l1 K p n y a b k ((i + 1 : Nat) : Int) (x.set i (nx p i A C C')) := by
  have hx : i < x.length := by omega
  obtain ⟨q, hq⟩ : ∃ q, idx x (i : Int) = some q := ⟨x[i], by rw [idx_nat]; simp [hx]⟩
  have e2 : ∀ v : Int, idx (x.set i v) (i : Int) = some v := fun v => idx_set hx
  have ew : wrap64 ((i : Int) + 1) = ((i + 1 : Nat) : Int) := w_nat (by omega)
  have w1 : wrap64 (2 * C) = 2 * C := w_eq (Sm.of (B.mul (B.const 2) bC) rfl)
  have w2 : wrap64 (2 * C - A) = 2 * C - A := w_eq (Sm.of ((B.mul (B.const 2) bC).sub bA) rfl)
  have w3 : wrap64 (4 * C') = 4 * C' := w_eq (Sm.of (B.mul (B.const 4) bC') rfl)
  have w4 : wrap64 (2 * C - A - 4 * C') = 2 * C - A - 4 * C' := w_eq (Sm.of (((B.mul (B.const 2) bC).sub bA).sub (B.mul (B.const 4) bC')) rfl)
  have w5 : wrap64 (2 * C - A - 4 * C' + 2) = 2 * C - A - 4 * C' + 2 := w_eq (Sm.of ((((B.mul (B.const 2) bC).sub bA).sub (B.mul (B.const 4) bC')).add (B.const 2)) rfl)
  have hlt : decide ((i : Int) < ((repl (wrap64 ((n : Int) + 2)).toNat (0 : Int)).length : Int)) = true := by rw [show wrap64 ((n : Int) + 2) = ((n + 2 : Nat) : Int) by rw [w_eq ⟨by omega⟩]; omega, Int.toNat_natCast, repl, List.length_replicate]; exact decide_eq_true (by omega)
  rw [impl_CoefficientsOf.l1, if_pos hlt, hC, hA, hq]
  simp only [Option.bind_some, Int.toNat_natCast, w1, w2]
  by_cases h0 : 0 < i
  · have d0 : decide ((0 : Int) < i) = true := by simpa using h0
    have ei : wrap64 ((i : Int) - 1) = (i : Int) - 1 := w_eq ⟨by omega⟩
    simp only [d0, if_true, e2, Option.bind_some, ei, hC' h0, w3, w4, List.set_set]
    by_cases h1 : i = 1
    · subst h1
      have c1 : ((1 : Nat) : Int) = 1 := rfl
      simp only [c1] at e2 ew ⊢
      simp only [beq_self_eq_true]; simp only [e2, Option.bind_some, w5, rest_nice hp, ew, nx, Nat.lt_one_iff, if_true, Nat.one_pos, Nat.zero_lt_one]
    · have d1 : ((i : Int) == 1) = false := by simpa using (by omega : ¬ (i : Int) = 1)
      simp only [d1, Bool.false_eq_true, if_false, e2, Option.bind_some, rest_nice hp, ew, nx, h0, h1, if_true, Int.add_zero]
  · obtain rfl : i = 0 := by omega
    have c0 : ((0 : Nat) : Int) = 0 := rfl
    simp only [c0] at e2 ew hq ⊢
    have d0 : decide ((0 : Int) < 0) = false := rfl
    have d1 : ((0 : Int) == 1) = false := rfl
    simp only [d0, d1, Bool.false_eq_true, if_false, e2, Option.bind_some, List.set_set, rest_nice hp, ew, nx, Nat.lt_irrefl, Int.sub_zero, Int.add_zero, Nat.zero_ne_one]

def fr (p : Int) (k n : Nat) : List Int := (List.range (n + 2)).map (cf p k)
def tk (p : Int) (n : Nat) : List Int := (List.range (n + 1)).map (cf p n)
theorem fr_get {p : Int} {k n i : Nat} (h : i ≤ n + 1) : idx (fr p k n) (i : Int) = some (cf p k i) := by
  rw [idx_nat, fr]
  simp [Nat.lt_succ_of_le h]
theorem nx_cf {p : Int} {k i : Nat} : nx p i (cf p k i) (cf p (k + 1) i) (cf p (k + 1) (i - 1)) = cf p (k + 2) i := rfl
theorem specRow {K : Nat} {p : Int} (hp : isP p) {n k F : Nat} {y za zb z : Int} (hn : n ≤ 40) : ∀ (us : List Int) (i : Nat), i + us.length = n + 1 →
    spec_CoefficientsOf.l1 K p n y (cr p k n za) (cr p (k + 1) n zb) (F + us.length + 1) i ((List.range i).map (cf p (k + 2)) ++ (us ++ [z])) = spec_CoefficientsOf.l0 K p n F (wrap64 (y - 1)) (cr p (k + 1) n zb) (cr p (k + 2) n z)
  | [], i, hi => by
    obtain rfl : i = n + 1 := by simpa using hi
    have hlt : ¬ decide (((n + 1 : Nat) : Int) ≤ (n : Int)) = true := by simp only [decide_eq_true_eq]; omega
    rw [List.length_nil, Nat.add_zero, spec_CoefficientsOf.l1, if_neg hlt]
    rfl
  | u :: us, i, hi => by
    rw [List.length_cons] at hi
    have hc : 0 < i → idx (cr p (k + 1) n zb) ((i : Int) - 1) = some (cf p (k + 1) (i - 1)) := fun h => by
      rw [show (i : Int) - 1 = ((i - 1 : Nat) : Int) by omega]
      exact cr_get (by omega)
    have hs := specStep (K := K) (y := y) (k := F + us.length + 1) (x := (List.range i).map (cf p (k + 2)) ++ (u :: us ++ [z])) hp hn (show i ≤ n by omega) (by simp; omega) (cr_get (p := p) (k := k) (n := n) (z := za) (by omega)) (cr_get (p := p) (k := k + 1) (n := n) (z := zb) (by omega)) hc (cf_b hp _ _) (cf_b hp _ _) (cf_b hp _ _)
    rw [List.length_cons, show F + (us.length + 1) + 1 = F + us.length + 1 + 1 by omega, hs, nx_cf, List.cons_append, set_step rfl]
    exact specRow hp hn us (i + 1) (by omega)
theorem implRow {K : Nat} {p : Int} (hp : isP p) {n k F : Nat} {y : Int} (hn : n ≤ 40) : ∀ (us : List Int) (i : Nat), i + us.length = n + 2 →
    impl_CoefficientsOf.l1 K p n y (fr p k n) (fr p (k + 1) n) (F + us.length + 1) i ((List.range i).map (cf p (k + 2)) ++ us) = impl_CoefficientsOf.l0 K p n F (wrap64 (y + 1)) (fr p (k + 1) n) (fr p (k + 2) n)
  | [], i, hi => by
    obtain rfl : i = n + 2 := by simpa using hi
    have hlt : ¬ decide (((n + 2 : Nat) : Int) < ((repl (wrap64 ((n : Int) + 2)).toNat (0 : Int)).length : Int)) = true := by
      rw [show wrap64 ((n : Int) + 2) = ((n + 2 : Nat) : Int) by rw [w_eq ⟨by omega⟩]; omega, Int.toNat_natCast, repl, List.length_replicate, decide_eq_true_eq]
      omega
    rw [List.length_nil, Nat.add_zero, impl_CoefficientsOf.l1, if_neg hlt, List.append_nil]
    rfl
  | u :: us, i, hi => by
    rw [List.length_cons] at hi
    have hc : 0 < i → idx (fr p (k + 1) n) ((i : Int) - 1) = some (cf p (k + 1) (i - 1)) := fun h => by
      rw [show (i : Int) - 1 = ((i - 1 : Nat) : Int) by omega]
      exact fr_get (by omega)
    have hs := implStep (K := K) (y := y) (k := F + us.length + 1) (x := (List.range i).map (cf p (k + 2)) ++ (u :: us)) hp hn (show i < n + 2 by omega) (by simp; omega) (fr_get (p := p) (k := k) (n := n) (by omega)) (fr_get (p := p) (k := k + 1) (n := n) (by omega)) hc (cf_b hp _ _) (cf_b hp _ _) (cf_b hp _ _)
    rw [List.length_cons, show F + (us.length + 1) + 1 = F + us.length + 1 + 1 by omega, hs, nx_cf, set_step rfl]
    exact implRow hp hn us (i + 1) (by omega)
theorem cut_cr {p : Int} {n : Nat} {z : Int} (hn : n ≤ 40) : cutHi (cr p n n z) (wrap64 ((n : Int) + 1)) = some (tk p n) := by
  rw [w_nat (by omega), cutHi, if_pos (by rw [cr_len]; omega), Int.toNat_natCast, cr, List.take_left' (by simp)]
  rfl
theorem cut_fr {p : Int} {n : Nat} (hn : n ≤ 40) : cutHi (fr p n n) (wrap64 ((n : Int) + 1)) = some (tk p n) := by
  have : fr p n n = cr p n n (cf p n (n + 1)) := by rw [fr, cr, List.range_succ, List.map_append]; rfl
  rw [this]
  exact cut_cr hn
theorem zeros_eq {p : Int} {k n : Nat} : repl (wrap64 ((n : Int) + 2)).toNat (0 : Int) = List.replicate (wrap64 ((n : Int) + 2)).toNat 0 := rfl
theorem w2 {n : Nat} (hn : n ≤ 40) : wrap64 ((n : Int) + 2) = ((n + 2 : Nat) : Int) := by rw [w_eq ⟨by omega⟩]; omega
theorem specRows {K : Nat} {p : Int} (hp : isP p) {n : Nat} (hn : n ≤ 40) : ∀ (r j F : Nat) (za zb : Int), j + r = n → r * (n + 3) < F → spec_CoefficientsOf.l0 K p n F r (cr p j n za) (cr p (j + 1) n zb) = some (tk p n, 0)
  | 0, j, F + 1, za, zb, hj, _ => by
    obtain rfl : j = n := by omega
    rw [spec_CoefficientsOf.l0, if_neg (by simp), cut_cr hn]
    rfl
  | r + 1, j, F + 1, za, zb, hj, hF => by
    rw [Nat.add_mul] at hF
    have hd : decide ((0 : Int) < ((r + 1 : Nat) : Int)) = true := decide_eq_true (by omega)
    rw [spec_CoefficientsOf.l0, if_pos hd, w2 hn, Int.toNat_natCast, repl, List.replicate_succ']
    have h := specRow (K := K) (k := j) (F := F - (n + 2)) (y := ((r + 1 : Nat) : Int)) (za := za) (zb := zb) (z := 0) hp hn (List.replicate (n + 1) 0) 0 (by simp)
    rw [List.length_replicate, show F - (n + 2) + (n + 1) + 1 = F by omega] at h
    rw [show wrap64 (((r + 1 : Nat) : Int) - 1) = (r : Int) by rw [w_eq ⟨by omega⟩]; omega] at h
    refine Eq.trans h ?_
    exact specRows hp hn r (j + 1) (F - (n + 2)) zb 0 (by omega) (by omega)
  | _, _, 0, _, _, _, hF => absurd hF (Nat.not_lt_zero _)
theorem implRows {K : Nat} {p : Int} (hp : isP p) {n : Nat} (hn : n ≤ 40) : ∀ (r j F : Nat), j + 1 + r = n → r * (n + 4) < F → impl_CoefficientsOf.l0 K p n F ((j + 1 : Nat) : Int) (fr p j n) (fr p (j + 1) n) = some (tk p n, 0)
  | 0, j, F + 1, hj, _ => by
    obtain rfl : n = j + 1 := by omega
    rw [impl_CoefficientsOf.l0, if_neg (by simp), cut_fr hn]
    have hl : decide ((tk p (j + 1)).length ≤ 1000000) = true := decide_eq_true (by simp [tk]; omega)
    rw [Option.bind_some, if_pos hl]
    rfl
  | r + 1, j, F + 1, hj, hF => by
    rw [Nat.add_mul] at hF
    have hd : decide (((j + 1 : Nat) : Int) < (n : Int)) = true := decide_eq_true (by omega)
    rw [impl_CoefficientsOf.l0, if_pos hd]
    have h := implRow (K := K) (k := j) (F := F - (n + 3)) (y := ((j + 1 : Nat) : Int)) hp hn (List.replicate (n + 2) 0) 0 (by simp)
    rw [List.length_replicate, show F - (n + 3) + (n + 2) + 1 = F by omega] at h
    rw [w_nat (by omega)] at h
    rw [w2 hn, Int.toNat_natCast, repl]
    refine Eq.trans h ?_
    exact implRows hp hn r (j + 1) (F - (n + 3)) (by omega) (by omega)
  | _, _, 0, _, hF => absurd hF (Nat.not_lt_zero _)
/-! ### The checks, and the law -/
def codeC (p n : Int) : Int := if isP p then if 0 ≤ n ∧ n ≤ 40 then 0 else 2 else 1
theorem codeC_zero {p n : Int} (h : codeC p n = 0) : isP p ∧ 0 ≤ n ∧ n ≤ 40 := by
  unfold codeC at h
  split at h
  · split at h
    · exact ⟨by assumption, by assumption⟩
    · cases h
  · cases h
def ansC (p n : Int) : List Int × Int := if codeC p n = 0 then (tk p n.toNat, 0) else ([], codeC p n)
theorem ansC_len {p n : Int} : (ansC p n).1.length ≤ 2000 := by
  unfold ansC
  split
  · have := codeC_zero (by assumption)
    simp [tk]
    omega
  · simp
theorem cr_zero {p : Int} {n : Nat} : List.replicate (n + 2) (0 : Int) = cr p 0 n 0 := by
  rw [List.replicate_succ', cr]
  congr 1
  apply List.ext_getElem
  · simp
  · intro i h1 h2
    simp [cf]
theorem cr_one {p : Int} {n : Nat} : ∃ z, (List.replicate (n + 2) (0 : Int)).set 1 1 = cr p 1 n z := by
  rcases n with _ | n
  · exact ⟨1, rfl⟩
  · refine ⟨0, ?_⟩
    apply List.ext_getElem
    · simp [cr]
    · intro i h1 h2
      rcases Nat.lt_or_ge i (n + 2) with h | h
      · simp only [cr]
        rw [List.getElem_append_left (by simpa using h)]
        by_cases e : i = 1
        · subst e
          simp [cf]
        · rw [List.getElem_set_ne (by omega)]
          simp [cf, e]
      · obtain rfl : i = n + 2 := by simp at h1; omega
        simp only [cr]
        rw [List.getElem_append_right (by simp), List.getElem_set_ne (by omega)]
        simp
theorem fr_zero {p : Int} {n : Nat} : List.replicate (n + 2) (0 : Int) = fr p 0 n := by
  apply List.ext_getElem
  · simp [fr]
  · intro i h1 h2
    simp [fr, cf]
theorem fr_one {p : Int} {n : Nat} : (List.replicate (n + 2) (0 : Int)).set 1 1 = fr p 1 n := by
  apply List.ext_getElem
  · simp [fr]
  · intro i h1 h2
    by_cases e : i = 1
    · subst e
      simp [fr, cf]
    · rw [List.getElem_set_ne (by omega)]
      simp [fr, cf, e]
theorem first_get {n : Nat} : idx (List.replicate (n + 2) (0 : Int)) 1 = some 0 := by
  have := idx_nat (List.replicate (n + 2) (0 : Int)) 1
  rw [show ((1 : Nat) : Int) = 1 from rfl] at this
  rw [this]
  simp
theorem specC {K : Nat} (hK : 5000 ≤ K) {p n : Int} : spec_CoefficientsOf.f K p n = some (ansC p n) := by
  have hK' : 100 ≤ K := by omega
  unfold spec_CoefficientsOf.f ansC
  rw [code5n_nice hK']
  by_cases h : codeC p n = 0
  · obtain ⟨hp, h1, h2⟩ := codeC_zero h
    have hI : codeI p n = 0 := by unfold codeI; rw [if_pos hp, if_pos ⟨h1, by omega⟩]
    obtain ⟨m, rfl⟩ := Int.eq_ofNat_of_zero_le h1
    have hm : m ≤ 40 := by omega
    have d1 : ¬ decide ((40 : Int) < (m : Int)) = true := by simp only [decide_eq_true_eq]; omega
    have d2 : decide ((0 : Int) ≤ ((m + 2 : Nat) : Int)) = true := decide_eq_true (by omega)
    have d3 : decide (((m + 2 : Nat) : Int) ≤ 1000000) = true := decide_eq_true (by omega)
    obtain ⟨z, hz⟩ := cr_one (p := p) (n := m)
    have hF : m * (m + 3) < K := by
      have : m * (m + 3) ≤ 40 * 43 := Nat.mul_le_mul hm (by omega)
      omega
    have hr := specRows (K := K) hp hm m 0 K 0 z (by omega) hF
    rw [if_pos h, hI]
    simp only [Option.bind_some, beq_self_eq_true, if_true]
    rw [if_neg d1, w2 hm, if_pos d2, if_pos d3, Int.toNat_natCast, repl, first_get, Option.bind_some]
    rw [show ((1 : Int)).toNat = 1 from rfl, hz, cr_zero (p := p), Int.toNat_natCast]
    exact hr
  · rw [if_neg h]
    unfold codeC codeI at *
    by_cases hp : isP p
    · by_cases h1 : 0 ≤ n ∧ n ≤ 1000
      · have h2 : ¬ (0 ≤ n ∧ n ≤ 40) := fun e => h (by rw [if_pos hp, if_pos e])
        have d1 : decide ((40 : Int) < n) = true := decide_eq_true (by omega)
        simp [hp, h1, h2, d1]
        omega
      · have h2 : ¬ (0 ≤ n ∧ n ≤ 40) := by omega
        simp [hp, h1, h2]
    · simp [hp]
end Go.Proofs.Ytccbmdpikalpfaa
