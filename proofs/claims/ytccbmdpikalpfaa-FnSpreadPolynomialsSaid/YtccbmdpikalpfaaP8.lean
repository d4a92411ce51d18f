/- The plain law of FnSpreadPolynomials. -/
import Derived.Test.YtccbmdpikalpfaaP7
import Derived.Test.YtccbmdpikalpfaaP6
import Derived.Test.YtccbmdpikalpfaaPP
import Derived.Test.YtccbmdpikalpfaaU0
namespace Go.Proofs.Ytccbmdpikalpfaa
open Go Go.RowKit
set_option linter.unusedVariables false
set_option linter.unusedSimpArgs false
theorem like_l0 {K : Nat} (xs : List Int) (hl : xs.length ≤ 1000000) : ∀ (m k i : Nat), xs.length - i = m → m < k → i ≤ xs.length → laws_likeInts.l0 K xs xs k i = some true
  | 0, k + 1, i, hm, _, hi => by
    rw [laws_likeInts.l0, if_neg (by simp; omega)]
  | m + 1, k + 1, i, hm, hk, hi => by
    have hlt : i < xs.length := by omega
    rw [laws_likeInts.l0, if_pos (by simpa using hlt), idx_nat, List.getElem?_eq_getElem hlt, w_nat (by omega)]
    simp only [Option.bind_some, beq_self_eq_true, if_true]
    exact like_l0 xs hl m k (i + 1) (by omega) (by omega) (by omega)
  | _, 0, _, _, hk, _ => absurd hk (Nat.not_lt_zero _)
theorem like_nice {K : Nat} (hK : 5000 ≤ K) (xs : List Int) (hl : xs.length ≤ 2000) : laws_likeInts.f K xs xs = some true := by
  unfold laws_likeInts.f
  rw [if_pos (by simp)]
  exact like_l0 xs (by omega) xs.length K 0 (by omega) (by omega) (by omega)
theorem has_l0 {K : Nat} (xs : List Int) (v : Int) (hl : xs.length ≤ 1000000) : ∀ (m k i : Nat), xs.length - i = m → m < k → i ≤ xs.length → laws_hasInt.l0 K xs v k i = some ((xs.drop i).contains v)
  | 0, k + 1, i, hm, _, hi => by
    rw [laws_hasInt.l0, if_neg (by simp; omega), List.drop_of_length_le (by omega)]
    rfl
  | m + 1, k + 1, i, hm, hk, hi => by
    have hlt : i < xs.length := by omega
    rw [laws_hasInt.l0, if_pos (by simpa using hlt), idx_nat, List.getElem?_eq_getElem hlt, w_nat (by omega), List.drop_eq_getElem_cons hlt, List.contains_cons]
    simp only [Option.bind_some]
    by_cases h : xs[i] = v
    · rw [if_pos (by simpa using h)]
      simp [h]
    · rw [if_neg (by simpa using h), has_l0 xs v hl m k (i + 1) (by omega) (by omega) (by omega)]
      have : (v == xs[i]) = false := by rw [beq_eq_false_iff_ne]; exact fun e => h e.symm
      rw [this, Bool.false_or]
  | _, 0, _, _, hk, _ => absurd hk (Nat.not_lt_zero _)
theorem has_nice {K : Nat} (hK : 5000 ≤ K) (xs : List Int) (v : Int) (hl : xs.length ≤ 2000) : laws_hasInt.f K xs v = some (xs.contains v) := by
  unfold laws_hasInt.f
  exact has_l0 xs v (by omega) xs.length K 0 (by omega) (by omega) (by omega)
/-! ### Contracts -/
def ansS (p n s : Int) : Int × Int := if code1i p n s = 0 then (u p s n.toNat, 0) else (0, code1i p n s)
theorem implS {K : Nat} (hK : 5000 ≤ K) {p n s : Int} : impl_SpreadPolynomial.f K p n s = some (ansS p n s) := by
  unfold impl_SpreadPolynomial.f ansS
  rw [asked1i_nice]
  by_cases h : code1i p n s = 0
  · obtain ⟨hp, hs, hn1, hn2⟩ := code1i_zero h
    obtain ⟨m, rfl⟩ := Int.eq_ofNat_of_zero_le hn1
    simp only [h, Option.bind_some, beq_self_eq_true, if_true, spreadOf_nice (K := K) hp hs m (by omega) (by omega), Int.toNat_natCast]
  · simp [h]
theorem specS {K : Nat} (hK : 5000 ≤ K) {p n s : Int} : spec_SpreadPolynomial.f K p n s = some (ansS p n s) := by
  have hK' : 100 ≤ K := by omega
  unfold spec_SpreadPolynomial.f ansS
  rw [code5_nice hK']
  by_cases h : code1i p n s = 0
  · obtain ⟨hp, hs, hn1, hn2⟩ := code1i_zero h
    obtain ⟨m, rfl⟩ := Int.eq_ofNat_of_zero_le hn1
    simp only [h, Option.bind_some, beq_self_eq_true, if_true, specValue_nice (K := K) hp hs m (by omega) (by omega), Int.toNat_natCast]
  · simp [h]
theorem inN_of {p s : Int} (hs : In p s) : inN p s = true := decide_eq_true hs.out
theorem code1i_ok {p n s : Int} (hp : isP p) (hs : In p s) (h1 : 0 ≤ n) (h2 : n ≤ 1000) : code1i p n s = 0 := by
  unfold code1i
  simp [hp, inN_of hs, h1, h2]
theorem ansS_ok {p s : Int} {m : Nat} (hp : isP p) (hs : In p s) (h : m ≤ 1000) : ansS p (m : Int) s = (u p s m, 0) := by
  unfold ansS
  rw [if_pos (code1i_ok hp hs (by omega) (by omega)), Int.toNat_natCast]
theorem implOrd {K : Nat} (hK : 5000 ≤ K) {p s : Int} (hp : isP p) (hs : In p s) : ∃ o q : Nat, OP p s o q ∧ impl_OrderOfSpread.f K p s = some ((o : Int), 0) := by
  obtain ⟨o, q, hop⟩ := op_ex hp hs
  refine ⟨o, q, hop, ?_⟩
  have h : code1 p s = 0 := by unfold code1; simp [hp, inN_of hs]
  unfold impl_OrderOfSpread.f
  rw [asked1o_nice]
  simp [h, orderOf_nice hK hp hs hop]
theorem mem_sel {p x : Int} {Q : Nat → Bool} (hp : isP p) : x ∈ sel p Q ↔ In p x ∧ Q x.toNat = true := by
  unfold sel
  rw [List.mem_map]
  constructor
  · rintro ⟨y, hy, rfl⟩
    obtain ⟨h1, h2⟩ := List.mem_filter.1 hy
    exact ⟨In.nat (List.mem_range.1 h1), by simpa using h2⟩
  · rintro ⟨h1, h2⟩
    have := h1.out
    exact ⟨x.toNat, List.mem_filter.2 ⟨List.mem_range.2 (by omega), h2⟩, by omega⟩
/-! ### The end -/
theorem end_nice {K : Nat} (hK : 5000 ≤ K) {bs : List Int} (hb : ∀ x ∈ bs, 0 ≤ x ∧ x < 256) (hl : bs.length ≤ 4096) : laws_FnSpreadPolynomials.j1 K bs = some true := by
  unfold laws_FnSpreadPolynomials.j1 spec_DrawIsPermutation.f
  obtain ⟨p, n, s, e⟩ := draw5_ex hK hb hl
  obtain ⟨b, c, e1, e2⟩ := both_perm hK p n
  simp only [e, Option.bind_some, e1, e2, implV hK, specV hK, beq_self_eq_true, if_true, like_nice hK _ ansV_len]
  cases b <;> simp
/-! ### Coefficients -/
theorem tk_len {p : Int} {n : Nat} : (tk p n).length = n + 1 := by simp [tk]
theorem cf_in {p : Int} (hp : isP p) : ∀ k i, In p (cf p k i)
  | 0, i => ⟨by have := hp.lt; simp only [cf]; omega⟩
  | 1, i => ⟨by have := hp.lt; simp only [cf]; split <;> omega⟩
  | k + 2, i => by rw [cf]; exact mod_in hp _
theorem tk_in {p : Int} (hp : isP p) {n : Nat} : ∀ c ∈ tk p n, In p c := fun c hc => by
  obtain ⟨i, -, rfl⟩ := List.mem_map.1 hc
  exact cf_in hp n i
theorem horner_l1 {K : Nat} {bs : List Int} {p : Int} (hp : isP p) (L V : List Int) (hL : ∀ c ∈ L, In p c) (hl : L.length ≤ 1000) {x : Int} (hx : In p x) : ∀ (j k : Nat) (t : Int), In p t → j ≤ L.length → t = horner p x (L.drop j) →
    laws_FnSpreadPolynomials.l1 K bs p L V x (k + j) t ((j : Int) - 1) = laws_FnSpreadPolynomials.l1 K bs p L V x k (horner p x L) (-1)
  | 0, k, t, ht, hj, he => by rw [he]; rfl
  | j + 1, k, t, ht, hj, he => by
    have hpl := hp.lt
    have hj' : j < L.length := by omega
    have hc := hL L[j] (List.getElem_mem hj')
    have hz : ¬ ((p == 0) = true) := by simp only [beq_iff_eq]; omega
    have e1 : ((j + 1 : Nat) : Int) - 1 = (j : Int) := by omega
    have w1 : wrap64 (wrap64 (t * x) + L[j]) = t * x + L[j] := by
      have h1 := ht.b hp
      have h2 := hx.b hp
      rw [w_eq (Sm.of (h1.mul h2) rfl), w_eq (Sm.of ((h1.mul h2).add (hc.b hp)) rfl)]
    have hnn : (0 : Int) ≤ (t * x + L[j]) := by
      have := Int.mul_nonneg ht.out.1 hx.out.1
      have := hc.out.1
      omega
    rw [show k + (j + 1) = (k + j) + 1 by omega, laws_FnSpreadPolynomials.l1, e1, if_pos (decide_eq_true (by omega)), idx_nat, List.getElem?_eq_getElem hj', Option.bind_some, if_neg hz, w1, Int.tmod_eq_emod_of_nonneg hnn, w_eq (x := (j : Int) - 1) ⟨by omega⟩]
    refine horner_l1 hp L V hL hl hx j k _ (mod_in hp _) (by omega) ?_
    rw [List.drop_eq_getElem_cons hj', he]
    rfl
theorem check_l0 {K : Nat} {bs : List Int} {p : Int} (hp : isP p) (n : Nat) (hn : n ≤ 40) : ∀ (m k i : Nat), p.toNat - i = m → i ≤ p.toNat → laws_FnSpreadPolynomials.l0 K bs p (tk p n) (vals p n) (m * (n + 3) + 1 + k) i = laws_FnSpreadPolynomials.j1 K bs
  | 0, k, i, hm, hi => by
    have hpl := hp.lt
    rw [show 0 * (n + 3) + 1 + k = k + 1 by omega, laws_FnSpreadPolynomials.l0, if_neg (by simp only [decide_eq_true_eq]; omega)]
  | m + 1, k, i, hm, hi => by
    have hpl := hp.lt
    have hx : In p (i : Int) := In.nat (by omega)
    have e0 : (m + 1) * (n + 3) + 1 + k = ((m * (n + 3) + 1 + k) + 1 + (n + 1)) + 1 := by rw [Nat.succ_mul]; omega
    have hw : wrap64 (((tk p n).length : Int) - 1) = ((n + 1 : Nat) : Int) - 1 := by rw [tk_len, w_eq ⟨by omega⟩]
    have h0 : (0 : Int) = horner p (i : Int) ((tk p n).drop (n + 1)) := by
      rw [List.drop_of_length_le (by rw [tk_len]; omega)]
      rfl
    rw [e0, laws_FnSpreadPolynomials.l0, if_pos (decide_eq_true (by omega)), hw, horner_l1 hp (tk p n) (vals p n) (tk_in hp) (by rw [tk_len]; omega) hx (n + 1) _ 0 ⟨by omega⟩ (by rw [tk_len]; omega) h0,
      laws_FnSpreadPolynomials.l1, if_neg (by decide), vals_get (by omega), Option.bind_some, horner_tk hp hx, w_nat (by omega)]
    simp only [beq_self_eq_true, if_true]
    exact check_l0 hp n hn m k (i + 1) (by omega) (by omega)
theorem second_nice {K : Nat} (hK : 5000 ≤ K) {bs : List Int} (hb : ∀ x ∈ bs, 0 ≤ x ∧ x < 256) (hl : bs.length ≤ 4096) : laws_FnSpreadPolynomials.j0 K bs = some true := by
  unfold laws_FnSpreadPolynomials.j0
  obtain ⟨p, n, e⟩ := drawC_ex hK hb hl
  simp only [e, Option.bind_some, implC hK, specC hK, implV hK, beq_self_eq_true, if_true, like_nice hK _ ansC_len, end_nice hK hb hl]
  by_cases h : codeC p n = 0
  · obtain ⟨hp, h1, h2⟩ := codeC_zero h
    have hpl := hp.lt
    obtain ⟨m, rfl⟩ := Int.eq_ofNat_of_zero_le h1
    have hI : codeI p (m : Int) = 0 := by
      unfold codeI
      have : (m : Int) ≤ 1000 := by omega
      simp [hp, this]
    have eC : ansC p (m : Int) = (tk p m, 0) := by unfold ansC; rw [if_pos h, Int.toNat_natCast]
    have eV : ansV p (m : Int) = (vals p m, 0) := by unfold ansV; rw [if_pos hI, Int.toNat_natCast]
    have l1 : (((vals p m).length : Int) == p) = true := by rw [vals_len, beq_iff_eq]; omega
    have l2 : (((tk p m).length : Int) == wrap64 ((m : Int) + 1)) = true := by rw [tk_len, w_nat (by omega), beq_iff_eq]
    obtain ⟨k, hk⟩ : ∃ k, K = p.toNat * (m + 3) + 1 + k := ⟨K - (p.toNat * (m + 3) + 1), by
      have : p.toNat * (m + 3) ≤ 31 * 43 := Nat.mul_le_mul (by omega) (by omega)
      omega⟩
    have hc := check_l0 (K := K) (bs := bs) hp m (by omega) p.toNat k 0 (by omega) (by omega)
    rw [← hk] at hc
    simp only [eC, eV, beq_self_eq_true, if_true, l1, l2]
    rw [show (0 : Int) = ((0 : Nat) : Int) from rfl, hc]
    exact end_nice hK hb hl
  · have : ((ansC p n).2 == 0) = false := by
      unfold ansC
      rw [if_neg h]
      simpa using h
    simp only [this, Bool.false_eq_true, if_false]
/-! ### Numbers that lead to a spread -/
theorem led2 {K : Nat} (hK : 5000 ≤ K) {bs : List Int} {p s : Int} (hp : isP p) (hs : In p s) (n : Nat) (hn : n ≤ 1000) (L : List Int) (hL : ∀ x ∈ L, In p x ∧ u p x n = s) (hl : L.length ≤ 2000) : ∀ (m k i : Nat), L.length - i = m → m < k → i ≤ L.length →
    laws_FnSpreadPolynomials.l2 K bs p n s (u p s n) L k i = laws_FnSpreadPolynomials.j0 K bs
  | 0, k + 1, i, hm, _, hi => by
    rw [laws_FnSpreadPolynomials.l2, if_neg (by simp only [decide_eq_true_eq]; omega)]
    split
    · rename_i h3
      have h3 : (n : Int) ≤ 300 := of_decide_eq_true h3
      have e1 : wrap64 (3 * (n : Int)) = ((3 * n : Nat) : Int) := by rw [w_eq ⟨by omega⟩]; omega
      have e3 : impl_SpreadPolynomial.f K p 3 (u p s n) = some (u p (u p s n) 3, 0) := by
        have := implS hK (p := p) (n := ((3 : Nat) : Int)) (s := u p s n)
        rw [ansS_ok hp (u_in hp hs n) (by omega)] at this
        exact this
      rw [e1, implS hK, ansS_ok hp hs (by omega), e3, third hp hs]
      simp only [Option.bind_some, beq_self_eq_true, if_true]
    · rfl
  | m + 1, k + 1, i, hm, hk, hi => by
    have hlt : i < L.length := by omega
    obtain ⟨hx, hv⟩ := hL L[i] (List.getElem_mem hlt)
    rw [laws_FnSpreadPolynomials.l2, if_pos (decide_eq_true (by omega)), idx_nat, List.getElem?_eq_getElem hlt, w_nat (by omega)]
    simp only [Option.bind_some, implS hK, ansS_ok hp hx hn, hv, beq_self_eq_true, if_true]
    exact led2 hK hp hs n hn L hL hl m k (i + 1) (by omega) (by omega) (by omega)
  | _, 0, _, _, hk, _ => absurd hk (Nat.not_lt_zero _)
theorem led3 {K : Nat} (hK : 5000 ≤ K) {bs : List Int} {p s : Int} (hp : isP p) (hs : In p s) (n : Nat) (hn : n ≤ 1000) (L : List Int) (hL : ∀ x ∈ L, In p x ∧ u p x n = s) (hl : L.length ≤ 2000) : ∀ (m k i : Nat), L.length - i = m → m < k → i ≤ L.length →
    laws_FnSpreadPolynomials.l3 K bs p n s (u p s n) L k i = laws_FnSpreadPolynomials.j0 K bs
  | 0, k + 1, i, hm, _, hi => by
    rw [laws_FnSpreadPolynomials.l3, if_neg (by simp only [decide_eq_true_eq]; omega)]
    split
    · rename_i h3
      have h3 : (n : Int) ≤ 300 := of_decide_eq_true h3
      have e1 : wrap64 (3 * (n : Int)) = ((3 * n : Nat) : Int) := by rw [w_eq ⟨by omega⟩]; omega
      have e3 : impl_SpreadPolynomial.f K p 3 (u p s n) = some (u p (u p s n) 3, 0) := by
        have := implS hK (p := p) (n := ((3 : Nat) : Int)) (s := u p s n)
        rw [ansS_ok hp (u_in hp hs n) (by omega)] at this
        exact this
      rw [e1, implS hK, ansS_ok hp hs (by omega), e3, third hp hs]
      simp only [Option.bind_some, beq_self_eq_true, if_true]
    · rfl
  | m + 1, k + 1, i, hm, hk, hi => by
    have hlt : i < L.length := by omega
    obtain ⟨hx, hv⟩ := hL L[i] (List.getElem_mem hlt)
    rw [laws_FnSpreadPolynomials.l3, if_pos (decide_eq_true (by omega)), idx_nat, List.getElem?_eq_getElem hlt, w_nat (by omega)]
    simp only [Option.bind_some, implS hK, ansS_ok hp hx hn, hv, beq_self_eq_true, if_true]
    exact led3 hK hp hs n hn L hL hl m k (i + 1) (by omega) (by omega) (by omega)
  | _, 0, _, _, hk, _ => absurd hk (Nat.not_lt_zero _)
theorem law_FnSpreadPolynomials {K : Nat} (hK : 5000 ≤ K) (bs : List Int) (hb : ∀ x ∈ bs, 0 ≤ x ∧ x < 256) : laws_FnSpreadPolynomials.f K bs = some true := by
  unfold laws_FnSpreadPolynomials.f laws_big.f
  simp only [Option.bind_some]
  by_cases hl : 4096 < (bs.length : Int)
  · rw [if_pos (decide_eq_true hl)]
  rw [if_neg (by simpa using hl)]
  replace hl : bs.length ≤ 4096 := by omega
  obtain ⟨p, n, s, e⟩ := draw5_ex hK hb hl
  have e1 : spec_DrawSpreadPolynomial.f K bs = some (p, n, s) := by
    unfold spec_DrawSpreadPolynomial.f
    simp only [e, Option.bind_some]
  simp only [e1, Option.bind_some, implS hK, specS hK, implZ hK, specZ hK, implL hK, specL hK, beq_self_eq_true, if_true, like_nice hK _ ansZ_len, like_nice hK _ ansL_len, second_nice hK hb hl]
  by_cases h : code1i p n s = 0
  · obtain ⟨hp, hs, h1, h2⟩ := code1i_zero h
    obtain ⟨m, rfl⟩ := Int.eq_ofNat_of_zero_le h1
    have hm : m ≤ 1000 := by omega
    obtain ⟨o, q, hop, ho⟩ := implOrd hK hp hs
    have hI : codeI p (m : Int) = 0 := by
      unfold codeI
      simp [hp, h2]
    have eS := ansS_ok hp hs hm
    have eZ : ansZ p (m : Int) = (sel p fun (s : Nat) => u p (s : Int) m == 0, 0) := by unfold ansZ; rw [if_pos hI, Int.toNat_natCast]
    have eL : ansL p (m : Int) s = (sel p fun (x : Nat) => u p (x : Int) m == s, 0) := by unfold ansL; rw [if_pos h, Int.toNat_natCast]
    have hz : ((o : Int) == 0) = false := by
      have := hop.o1
      rw [beq_eq_false_iff_ne]
      omega
    have hs0 := hs.out
    have htn : ((s.toNat : Nat) : Int) = s := by omega
    have hcon : (sel p fun (x : Nat) => u p (x : Int) m == 0).contains s = (u p s m == 0) := by
      rw [Bool.eq_iff_iff, List.contains_iff_mem, mem_sel hp, htn]
      exact ⟨fun h => h.2, fun h => ⟨hs, h⟩⟩
    have hLm : ∀ x ∈ (sel p fun (x : Nat) => u p (x : Int) m == s), In p x ∧ u p x m = s := fun x hx => by
      obtain ⟨a, b⟩ := (mem_sel hp).1 hx
      have := a.out
      rw [show ((x.toNat : Nat) : Int) = x by omega] at b
      exact ⟨a, by simpa using b⟩
    have hlen : (sel p fun (x : Nat) => u p (x : Int) m == s).length ≤ 2000 := Nat.le_trans (sel_len hp) (by omega)
    have hlenz : (sel p fun (x : Nat) => u p (x : Int) m == 0).length ≤ 2000 := Nat.le_trans (sel_len hp) (by omega)
    have hzi := zero_iff hp hs hop.o1 hop.oz hop.ol m
    have hrem : (Int.tmod (m : Int) (o : Int) == 0) = (u p s m == 0) := by
      rw [Bool.eq_iff_iff, beq_iff_eq, beq_iff_eq, hzi, Int.tmod_eq_emod_of_nonneg (by omega)]
      omega
    have r2 := led2 (bs := bs) hK hp hs m hm _ hLm hlen _ K 0 rfl (by omega) (by omega)
    have r3 := led3 (bs := bs) hK hp hs m hm _ hLm hlen _ K 0 rfl (by omega) (by omega)
    simp only [Int.natCast_zero, Int.ofNat_zero] at r2 r3
    simp only [eS, eZ, eL, ho, Option.bind_some, beq_self_eq_true, if_true, hz, Bool.false_eq_true, if_false, hrem, has_nice hK _ _ hlenz, hcon, r2, r3, second_nice hK hb hl]
    cases u p s m == 0 <;> simp
  · have : ((ansS p n s).2 == 0) = false := by
      unfold ansS
      rw [if_neg h]
      simpa using h
    simp only [this, Bool.false_eq_true, if_false]
end Go.Proofs.Ytccbmdpikalpfaa
