/- Plain laws of the spread polynomials: their values by one recursion; order and period. -/
import Derived.Test.YtccbmdpikalpfaaM0
import Derived.KernelRfl
namespace Go.Proofs.Ytccbmdpikalpfaa
open Go Go.RowKit
set_option linter.unusedVariables false
set_option linter.unusedSimpArgs false
def Pr : List Nat := [3, 5, 7, 11, 13, 17, 19, 23, 29, 31]
theorem isP.mem {p : Int} (hp : isP p) : ∃ n ∈ Pr, p = (n : Int) := by
  unfold isP at hp
  rcases hp with rfl | rfl | rfl | rfl | rfl | rfl | rfl | rfl | rfl | rfl
  · exact ⟨3, by decide, rfl⟩
  · exact ⟨5, by decide, rfl⟩
  · exact ⟨7, by decide, rfl⟩
  · exact ⟨11, by decide, rfl⟩
  · exact ⟨13, by decide, rfl⟩
  · exact ⟨17, by decide, rfl⟩
  · exact ⟨19, by decide, rfl⟩
  · exact ⟨23, by decide, rfl⟩
  · exact ⟨29, by decide, rfl⟩
  · exact ⟨31, by decide, rfl⟩
theorem look {Q : Int → Int → Prop} (h : ∀ n ∈ Pr, ∀ x ∈ List.range n, Q (n : Int) (x : Int)) {p x : Int} (hp : isP p) (hx : In p x) : Q p x := by
  obtain ⟨n, hn, rfl⟩ := hp.mem
  have := hx.out
  obtain ⟨y, rfl⟩ := Int.eq_ofNat_of_zero_le this.1
  exact h n hn y (List.mem_range.2 (by omega))
theorem cst_tmod {n : Nat} [NeZero n] (x : Int) : cst n (Int.tmod x n) = cst n x := by
  have h3 := Int.tmod_add_mul_tdiv x n
  have h4 : Int.tmod x n = x - n * (x.tdiv n) := by omega
  have h5 : cst n ((n : Int)) = 0 := by rw [← cst_zero, cst_eq]; simp
  rw [h4, cst_sub, cst_mul, h5]
  grind
/-- Two neighbours in the row of the values. -/
def st (p s : Int) : Nat → Int × Int
  | 0 => (0, s)
  | k + 1 => ((st p s k).2, (2 * (1 - 2 * s) * (st p s k).2 - (st p s k).1 + 2 * s) % p)
def u (p s : Int) (k : Nat) : Int := (st p s k).1
theorem u_zero (p s : Int) : u p s 0 = 0 := rfl
theorem u_one (p s : Int) : u p s 1 = s := rfl
theorem u_two (p s : Int) (k : Nat) : u p s (k + 2) = (2 * (1 - 2 * s) * u p s (k + 1) - u p s k + 2 * s) % p := rfl
theorem st_eq (p s : Int) (k : Nat) : st p s k = (u p s k, u p s (k + 1)) := rfl
theorem u_in {p s : Int} (hp : isP p) (hs : In p s) : ∀ k, In p (u p s k)
  | 0 => ⟨by have := hp.lt; rw [u_zero]; omega⟩
  | 1 => hs
  | k + 2 => by rw [u_two]; exact mod_in hp _
theorem value_l0 {K : Nat} {p s : Int} (hp : isP p) (hs : In p s) : ∀ (m k j : Nat), m < k → m ≤ 1000000 → spec_l05Value.l0 K p s k m (u p s j) (u p s (j + 1)) = some (u p s (j + m))
  | 0, k + 1, j, _, _ => by
    rw [spec_l05Value.l0, if_neg (by simp)]
    rfl
  | m + 1, k + 1, j, hk, hm => by
    have hpl := hp.lt
    have h1 := (u_in hp hs j).b hp
    have h2 := (u_in hp hs (j + 1)).b hp
    have h3 := hs.b hp
    have e : (2 * (1 - 2 * s)).tmod p * u p s (j + 1) - u p s j + 2 * s = (2 * (1 - 2 * s)).tmod p * u p s (j + 1) - u p s j + 2 * s := rfl
    rw [spec_l05Value.l0, if_pos (by simp <;> omega), if_neg (by simp <;> omega)]
    simp (disch := exact Sm.of (by repeat' first | assumption | apply B.add | apply B.sub | apply B.mul | exact B.mod hp _ | exact B.tmod hp _ | exact B.const _) rfl) only [w_eq, mod_nice hp, Option.bind_some]
    have e2 : ((2 * (1 - 2 * s)).tmod p * u p s (j + 1) - u p s j + 2 * s) % p = u p s (j + 2) := by
      rw [u_two]
      refine emod_ring hp fun n _ hn e => ?_
      subst e
      simp only [cst_add, cst_sub, cst_mul, cst_tmod]
    rw [e2, show wrap64 (((m + 1 : Nat) : Int) - 1) = (m : Int) by rw [w_eq ⟨by omega⟩]; omega, value_l0 hp hs m k (j + 1) (by omega) (by omega)]
    rw [show j + 1 + m = j + (m + 1) by omega]
theorem specValue_nice {K : Nat} {p s : Int} (hp : isP p) (hs : In p s) (n : Nat) (hn : n < K) (hn2 : n ≤ 1000000) : spec_l05Value.f K p n s = some (u p s n) := by
  unfold spec_l05Value.f
  have := value_l0 (K := K) hp hs n K 0 hn hn2
  rw [u_zero, u_one, Nat.zero_add] at this
  exact this
def lst (p s : Int) (m : Nat) : List Int := (List.range m).map (u p s)
theorem lst_len {p s : Int} {m : Nat} : (lst p s m).length = m := by simp [lst]
theorem lst_get {p s : Int} {m i : Nat} (h : i < m) : idx (lst p s m) (i : Int) = some (u p s i) := by
  rw [idx_nat]
  simp [lst, h]
theorem lst_succ {p s : Int} {m : Nat} : lst p s m ++ [u p s m] = lst p s (m + 1) := by simp [lst, List.range_succ]
theorem spreads_l0 {K : Nat} {p s : Int} (hp : isP p) (hs : In p s) (n : Nat) (hn : n ≤ 100000) : ∀ (m k j : Nat), n - j = m → m < k → 1 ≤ j → j ≤ 100000 → impl_spreads.l0 K p n s k j (lst p s (j + 1)) = some (lst p s (max (n + 1) (j + 1)))
  | 0, k + 1, j, hm, _, _, _ => by
    rw [impl_spreads.l0, if_neg (by simp; omega), Nat.max_eq_right (by omega)]
  | m + 1, k + 1, j, hm, hk, hj, hj2 => by
    have hpl := hp.lt
    have h1 := (u_in hp hs j).b hp
    have h2 := (u_in hp hs (j - 1)).b hp
    have h3 := hs.b hp
    rw [impl_spreads.l0, if_pos (by simp; omega), lst_get (by omega), show wrap64 ((j : Int) - 1) = ((j - 1 : Nat) : Int) by rw [w_eq ⟨by omega⟩]; omega, lst_get (by omega)]
    simp (disch := exact Sm.of (by repeat' first | assumption | apply B.add | apply B.sub | apply B.mul | exact B.mod hp _ | exact B.tmod hp _ | exact B.const _) rfl) only [w_eq, rest_nice hp, Option.bind_some]
    have e2 : (2 * (1 - 2 * s) * u p s j - u p s (j - 1) + 2 * s) % p = u p s (j + 1) := by
      obtain ⟨i, rfl⟩ : ∃ i, j = i + 1 := ⟨j - 1, by omega⟩
      rw [u_two]
      rfl
    rw [if_pos (by rw [lst_len]; simp; omega), e2, lst_succ, w_nat (by omega), spreads_l0 hp hs n hn m k (j + 1) (by omega) (by omega) (by omega) (by omega)]
    rw [Nat.max_eq_left (by omega), Nat.max_eq_left (by omega)]
theorem spreads_nice {K : Nat} {p s : Int} (hp : isP p) (hs : In p s) (n : Nat) (hn : n ≤ 100000) (hK : n < K) : impl_spreads.f K p n s = some (lst p s (max (n + 1) 2)) := by
  unfold impl_spreads.f
  have := spreads_l0 (K := K) hp hs n hn (n - 1) K 1 rfl (by omega) (by omega) (by omega)
  exact this
theorem spreadOf_nice {K : Nat} {p s : Int} (hp : isP p) (hs : In p s) (n : Nat) (hn : n ≤ 100000) (hK : n < K) : impl_spreadOf.f K p n s = some (u p s n) := by
  unfold impl_spreadOf.f
  rw [spreads_nice hp hs n hn hK]
  simp only [Option.bind_some]
  rw [lst_get (by omega)]
  rfl
/-! ### The check of the arguments -/
def inN (p x : Int) : Bool := decide (0 ≤ x ∧ x < p)
theorem inN_in {p x : Int} (h : inN p x = true) : In p x := ⟨of_decide_eq_true h⟩
theorem number_nice {K : Nat} {p x : Int} (hp : isP p) : spec_l01In.f K x 0 (wrap64 (p - 1)) = some (inN p x) := by
  have := hp.lt
  rw [w_eq (Sm.of ((B.p hp).sub (B.const 1)) rfl), in_nice]
  unfold inN
  exact congrArg some (decide_eq_decide.2 (by omega))
theorem numbers_l0 {K : Nat} {p : Int} (hp : isP p) (xs : List Int) (hl : xs.length ≤ 1000000) : ∀ (m k i : Nat), xs.length - i = m → m < k → i ≤ xs.length → spec_l01Numbers.l0 K p xs k i = some (if (xs.drop i).all (inN p) then 0 else 2)
  | 0, k + 1, i, hm, _, hi => by
    have : i = xs.length := by omega
    subst this
    simp [spec_l01Numbers.l0]
  | m + 1, k + 1, i, hm, hk, hi => by
    have hlt : i < xs.length := by omega
    rw [spec_l01Numbers.l0, if_pos (by simpa using hlt), idx_nat, List.getElem?_eq_getElem hlt, w_nat (by omega), List.drop_eq_getElem_cons hlt, List.all_cons, numbers_l0 hp xs hl m k (i + 1) (by omega) (by omega) (by omega)]
    simp only [Option.bind_some, number_nice hp]
    cases inN p xs[i] <;> first | rfl | (simp; done)
theorem numbers_nice {K : Nat} {p : Int} (xs : List Int) (hl : xs.length ≤ 1000000) (hK : xs.length + 10 ≤ K) : spec_l01Numbers.f K p xs = some (if isP p then if xs.all (inN p) then 0 else 2 else 1) := by
  unfold spec_l01Numbers.f
  rw [field_nice (by omega)]
  by_cases hp : isP p
  · have := numbers_l0 (K := K) hp xs hl xs.length K 0 (by omega) (by omega) (by omega)
    simp only [Int.ofNat_zero, Int.natCast_zero] at this
    simp only [Option.bind_some, decide_true, hp, if_true, this, List.drop_zero]
  · simp [hp]
theorem isNumber_nice {K : Nat} {p x : Int} : impl_isNumber.f K p x = some (inN p x) := by
  unfold impl_isNumber.f inN
  by_cases h : 0 ≤ x <;> simp [h]
/-- What the check says of one number, and of an index and one number. -/
def code1 (p s : Int) : Int := if isP p then if inN p s then 0 else 2 else 1
def code1i (p n s : Int) : Int := if isP p then if inN p s then if 0 ≤ n ∧ n ≤ 1000 then 0 else 2 else 2 else 1
theorem code1_zero {p s : Int} (h : code1 p s = 0) : isP p ∧ In p s := by
  unfold code1 at h
  split at h
  · split at h
    · exact ⟨by assumption, inN_in (by assumption)⟩
    · cases h
  · cases h
theorem code1i_zero {p n s : Int} (h : code1i p n s = 0) : isP p ∧ In p s ∧ 0 ≤ n ∧ n ≤ 1000 := by
  unfold code1i at h
  split at h
  · split at h
    · split at h
      · exact ⟨by assumption, inN_in (by assumption), by assumption⟩
      · cases h
    · cases h
  · cases h
theorem numbers1_nice {K : Nat} {p s : Int} (hK : 100 ≤ K) : spec_l01Numbers.f K p [s] = some (code1 p s) := by
  rw [numbers_nice [s] (by simp) (by simp; omega)]
  unfold code1
  simp
theorem code5_nice {K : Nat} {p n s : Int} (hK : 100 ≤ K) : spec_l05Code.f K p n [s] = some (code1i p n s) := by
  unfold spec_l05Code.f
  rw [numbers1_nice hK, in_nice]
  unfold code1 code1i
  by_cases hp : isP p <;> by_cases h : inN p s = true <;> by_cases hn : 0 ≤ n ∧ n ≤ 1000 <;> simp [hp, h, hn]
theorem asked1i_nice {K : Nat} {p n s : Int} : impl_asked__impl_SpreadPolynomial_1.f K p p s n = some (code1i p n s) := by
  unfold impl_asked__impl_SpreadPolynomial_1.f impl_SpreadPolynomial_1.f impl_isIndex.f
  rw [isField_nice, isNumber_nice]
  unfold code1i
  by_cases hp : isP p <;> by_cases h : inN p s = true <;> by_cases hn : 0 ≤ n <;> by_cases hn2 : n ≤ 1000 <;> simp [hp, h, hn, hn2]
/-! ### Order and period -/
theorem period_ex : ∀ n ∈ Pr, ∀ x ∈ List.range n, ∃ k ∈ List.range 33, 1 ≤ k ∧ u (n : Int) (x : Int) k = 0 ∧ u (n : Int) (x : Int) (k + 1) = (x : Int) := of_decide_eq_true (by kernel_rfl)
theorem least {Q : Nat → Prop} : ∀ n, Q n → ∃ k, k ≤ n ∧ Q k ∧ ∀ i, i < k → ¬ Q i := fun n => by
  induction n using Nat.strongRecOn with
  | _ n ih =>
    intro h
    by_cases hx : ∃ i, i < n ∧ Q i
    · obtain ⟨i, hi, hq⟩ := hx
      obtain ⟨k, hk, h1, h2⟩ := ih i hi hq
      exact ⟨k, by omega, h1, h2⟩
    · exact ⟨n, Nat.le_refl _, h, fun i hi hq => hx ⟨i, hi, hq⟩⟩
/-- o is the order and q the period of a spread. -/
structure OP (p s : Int) (o q : Nat) : Prop where
  o1 : 1 ≤ o
  oz : u p s o = 0
  ol : ∀ i, 1 ≤ i → i < o → u p s i ≠ 0
  q1 : 1 ≤ q
  q2 : q ≤ 32
  qz : u p s q = 0
  qs : u p s (q + 1) = s
  ql : ∀ i, 1 ≤ i → i < q → ¬ (u p s i = 0 ∧ u p s (i + 1) = s)
theorem OP.le {p s : Int} {o q : Nat} (h : OP p s o q) : o ≤ q := by
  apply Nat.le_of_not_lt
  intro hlt
  exact h.ol q h.q1 hlt h.qz
theorem op_ex {p s : Int} (hp : isP p) (hs : In p s) : ∃ o q, OP p s o q := by
  obtain ⟨k, hk, h1, h2, h3⟩ := look (Q := fun p s => ∃ k ∈ List.range 33, 1 ≤ k ∧ u p s k = 0 ∧ u p s (k + 1) = s) period_ex hp hs
  obtain ⟨q, hq, ⟨q1, qz, qs⟩, ql⟩ := least (Q := fun k => 1 ≤ k ∧ u p s k = 0 ∧ u p s (k + 1) = s) k ⟨h1, h2, h3⟩
  obtain ⟨o, ho, ⟨o1, oz⟩, ol⟩ := least (Q := fun k => 1 ≤ k ∧ u p s k = 0) k ⟨h1, h2⟩
  have := List.mem_range.1 hk
  exact ⟨o, q, o1, oz, fun i hi hlt e => ol i hlt ⟨hi, e⟩, q1, by omega, qz, qs, fun i hi hlt ⟨e1, e2⟩ => ql i hlt ⟨hi, e1, e2⟩⟩
theorem orderOf_l0 {K : Nat} {p s : Int} (hs : In p s) {o q N : Nat} (h : OP p s o q) (hN : q + 1 < N) : ∀ (m k j : Nat), q - j = m → m < k → 1 ≤ j → j ≤ q → impl_orderOf.l0 K s (lst p s N) k (if o < j then (o : Int) else 0) j = some ((o : Int), (q : Int))
  | m, 0, j, hm, hk, h1, hj => by omega
  | m, k + 1, j, hm, hk, h1, hj => by
    have hq := h.q2
    have hoq := h.le
    have ho1 := h.o1
    rw [impl_orderOf.l0, w_nat (by omega), if_pos (by rw [lst_len]; simp; omega), lst_get (by omega), lst_get (by omega)]
    simp only [Option.bind_some, beq_iff_eq]
    by_cases hj0 : u p s j = 0
    · rw [if_pos hj0]
      have hoj : o ≤ j := Nat.le_of_not_lt fun hlt => h.ol j h1 hlt hj0
      by_cases he : o < j
      · rw [if_pos he, if_neg (by omega)]
        by_cases hs1 : u p s (j + 1) = s
        · rw [if_pos hs1]
          have : j = q := Nat.le_antisymm hj (Nat.le_of_not_lt fun hlt => h.ql j h1 hlt ⟨hj0, hs1⟩)
          rw [this]
        · rw [if_neg hs1]
          have hjq : j ≠ q := fun e => hs1 (by rw [e]; exact h.qs)
          have := orderOf_l0 (K := K) hs h hN (m - 1) k (j + 1) (by omega) (by omega) (by omega) (by omega)
          rw [if_pos (show o < j + 1 by omega)] at this
          exact this
      · have hoj' : o = j := by omega
        rw [if_neg he, if_pos rfl]
        by_cases hs1 : u p s (j + 1) = s
        · rw [if_pos hs1]
          have : j = q := Nat.le_antisymm hj (Nat.le_of_not_lt fun hlt => h.ql j h1 hlt ⟨hj0, hs1⟩)
          rw [hoj', ← this]
        · rw [if_neg hs1]
          have hjq : j ≠ q := fun e => hs1 (by rw [e]; exact h.qs)
          have := orderOf_l0 (K := K) hs h hN (m - 1) k (j + 1) (by omega) (by omega) (by omega) (by omega)
          rw [if_pos (show o < j + 1 by omega)] at this
          rw [← this, hoj']
    · rw [if_neg hj0]
      have hjq : j ≠ q := fun e => hj0 (by rw [e]; exact h.qz)
      have hjo : j ≠ o := fun e => hj0 (by rw [e]; exact h.oz)
      have := orderOf_l0 (K := K) hs h hN (m - 1) k (j + 1) (by omega) (by omega) (by omega) (by omega)
      rw [← this]
      by_cases he : o < j
      · rw [if_pos he, if_pos (by omega)]
      · rw [if_neg he, if_neg (by omega)]
theorem orderOf_nice {K : Nat} (hK : 5000 ≤ K) {p s : Int} (hp : isP p) (hs : In p s) {o q : Nat} (h : OP p s o q) : impl_orderOf.f K p s = some ((o : Int), (q : Int)) := by
  have hpl := hp.lt
  have hq := h.q2
  have ho1 := h.o1
  obtain ⟨n, rfl⟩ := Int.eq_ofNat_of_zero_le (show 0 ≤ p by omega)
  have hn : n ≤ 31 := by omega
  have hnn : n * n ≤ 31 * 31 := Nat.mul_le_mul hn hn
  have hn3 : 3 * 3 ≤ n * n := Nat.mul_le_mul (by omega) (by omega)
  have hbig : 32 + 1 < 2 * n * n + 2 + 1 ∨ n ≤ 4 := by
    rcases Nat.lt_or_ge 4 n with h4 | h4
    · left
      have : 5 * 5 ≤ n * n := Nat.mul_le_mul (by omega) (by omega)
      rw [Nat.mul_assoc]
      omega
    · right; omega
  have e : wrap64 (wrap64 (wrap64 (2 * (n : Int)) * (n : Int)) + 2) = ((2 * n * n + 2 : Nat) : Int) := by
    simp (disch := exact Sm.of (by repeat' first | exact B.p hp | apply B.add | apply B.sub | apply B.mul | exact B.const _) rfl) only [w_eq]
    simp [Int.natCast_mul]
  unfold impl_orderOf.f
  rw [e, spreads_nice hp hs (2 * n * n + 2) (by rw [Nat.mul_assoc]; omega) (by rw [Nat.mul_assoc]; omega)]
  simp only [Option.bind_some]
  have hN : q + 1 < max (2 * n * n + 2 + 1) 2 := by
    rcases hbig with hb | hb
    · omega
    · -- the prime 3: a period of at most 4 is looked up
      have h3 : n = 3 ∨ n = 4 := by omega
      have : n = 3 := by rcases h3 with h3 | h3; exact h3; subst h3; exact absurd hp (by decide)
      subst this
      have hq20 : q ≤ 19 := by
        have hx : ∀ x ∈ List.range 3, ∃ k ∈ List.range 20, 1 ≤ k ∧ u 3 (x : Int) k = 0 ∧ u 3 (x : Int) (k + 1) = (x : Int) := of_decide_eq_true (by kernel_rfl)
        have hs' := hs.out
        obtain ⟨y, rfl⟩ := Int.eq_ofNat_of_zero_le hs'.1
        obtain ⟨k, hk, k1, k2, k3⟩ := hx y (List.mem_range.2 (by omega))
        have := List.mem_range.1 hk
        apply Nat.le_of_not_lt
        intro hlt
        exact h.ql k k1 (by omega) ⟨k2, k3⟩
      omega
  have := orderOf_l0 (K := K) hs h hN (q - 1) K 1 rfl (by omega) (by omega) h.q1
  rw [if_neg (by omega)] at this
  exact this
theorem asked1o_nice {K : Nat} {p s : Int} : impl_asked__impl_OrderOfSpread_1.f K p p s = some (code1 p s) := by
  unfold impl_asked__impl_OrderOfSpread_1.f impl_OrderOfSpread_1.f
  rw [isField_nice, isNumber_nice]
  unfold code1
  by_cases hp : isP p <;> by_cases h : inN p s = true <;> simp [hp, h]
end Go.Proofs.Ytccbmdpikalpfaa
