/- Plain laws of moves: turns about a point, their number, moves between pairs of points. -/
import Derived.Test.YtbibgeoohpgaeaaV8
import Derived.Test.YtbibgeoohpgaeaaI3
namespace Go.Proofs.Ytbibgeoohpgaeaa
open Go Go.RowKit
set_option linter.unusedVariables false
set_option linter.unusedSimpArgs false
theorem pts_small' {p : Int} (hp : isP p) : (allPts p).length ≤ 961 := by
  have hpl := hp.lt
  rw [allPts_len]
  exact Nat.mul_le_mul (show p.toNat ≤ 31 by omega) (show p.toNat ≤ 31 by omega)
theorem allPts_nd {p : Int} : (allPts p).Pairwise (fun a b => a ≠ b) := by
  unfold allPts
  rw [List.pairwise_flatMap]
  refine ⟨fun a _ => List.pairwise_map.2 (List.pairwise_lt_range.imp fun {x y} h e => ?_), List.pairwise_lt_range.imp fun {x y} h u hu v hv e => ?_⟩
  · simp only [Prod.mk.injEq] at e
    omega
  · obtain ⟨i, _, rfl⟩ := List.mem_map.1 hu
    obtain ⟨j, _, rfl⟩ := List.mem_map.1 hv
    simp only [Prod.mk.injEq] at e
    omega
/-! ### Points at a quadrance from the origin -/
def atQ (p k q : Int) (x : Int × Int) : Bool := quad k 0 0 x.1 x.2 % p == q
def ptsQ (p k u v : Int) : List (Int × Int) := (allPts p).filter (atQ p k (prod k u v u v % p))
theorem atI_l0 {K : Nat} {p k q : Int} (hp : isP p) (L : List (Int × Int)) (hL : ∀ x ∈ L, In p x.1 ∧ In p x.2) (hl : L.length ≤ 10000) :
    ∀ (m f i : Nat) (acc : List (Int × Int)), L.length - i = m → m < f → i ≤ L.length → acc.length ≤ i → impl_pointsWith__impl_pointsAt_1.l0 K p k 0 0 q L f i acc = some (acc ++ (L.drop i).filter (atQ p k q))
  | 0, f + 1, i, acc, hm, _, hi, _ => by
    have : i = L.length := by omega
    subst this
    simp [impl_pointsWith__impl_pointsAt_1.l0]
  | m + 1, f + 1, i, acc, hm, hk, hi, ha => by
    have hlt : i < L.length := by omega
    have hb := hL L[i] (List.getElem_mem hlt)
    have z : B 31 0 := ⟨by omega⟩
    rw [impl_pointsWith__impl_pointsAt_1.l0, if_pos (by simpa using hlt), idx_nat, List.getElem?_eq_getElem hlt, w_nat (by omega), List.drop_eq_getElem_cons hlt, List.filter_cons]
    simp only [Option.bind_some, impl_pointsAt_1.f]
    rw [implQuadrance_nice hp z z (hb.1.b hp) (hb.2.b hp), show atQ p k q L[i] = (quad k 0 0 L[i].1 L[i].2 % p == q) from rfl]
    simp only [Option.bind_some]
    cases quad k 0 0 L[i].1 L[i].2 % p == q
    · simp only [Bool.false_eq_true, if_false]
      exact atI_l0 hp L hL hl m f (i + 1) acc (by omega) (by omega) (by omega) (by omega)
    · simp only [if_true]
      rw [if_pos (by simp; omega), atI_l0 hp L hL hl m f (i + 1) _ (by omega) (by omega) (by omega) (by simp; omega)]
      simp
theorem ptsAt_nice {K : Nat} (hK : 5000 ≤ K) {p k q : Int} (hp : isP p) : impl_pointsAt.f K p k 0 0 q = some ((allPts p).filter (atQ p k q)) := by
  have hs := pts_small' hp
  unfold impl_pointsAt.f impl_pointsWith__impl_pointsAt_1.f
  rw [allPts_nice hK hp]
  have := atI_l0 (K := K) (k := k) (q := q) hp (allPts p) (fun x hx => (mem_allPts hp).1 hx) (by omega) _ K 0 [] rfl (by omega) (by omega) (by simp)
  simp only [Int.natCast_zero, Int.ofNat_zero, List.drop_zero, List.nil_append] at this
  simp only [Option.bind_some, this]
theorem few_k : ∀ n ∈ Pr, ∀ k ∈ ([0, 1, 2] : List Int), (ptsQ (n : Int) k 1 0).length ≤ 70 ∧ (ptsQ (n : Int) k 0 1).length ≤ 70 := of_decide_eq_true (by kernel_rfl)
theorem few {p k : Int} (hp : isP p) (hk1 : 0 ≤ k) (hk2 : k ≤ 2) : (ptsQ p k 1 0).length ≤ 70 ∧ (ptsQ p k 0 1).length ≤ 70 := by
  obtain ⟨n, hn, rfl⟩ := hp.mem
  exact few_k n hn k (by rcases thr hk1 hk2 with rfl | rfl | rfl <;> simp)
/-! ### The matrices that keep quadrances -/
def kRow (p k : Int) (Y : List (Int × Int)) (a : Int × Int) : List (Int × Int × Int × Int) := (Y.filter fun b => goodB p k a.1 b.1 a.2 b.2).map fun b => (a.1, b.1, a.2, b.2)
theorem kRow_len {p k : Int} {Y : List (Int × Int)} {a : Int × Int} : (kRow p k Y a).length ≤ Y.length := by
  unfold kRow
  rw [List.length_map]
  exact List.length_filter_le _ _
theorem keep_l1 {K : Nat} {p k : Int} (hp : isP p) (hk1 : 0 ≤ k) (hk2 : k ≤ 2) (X Y : List (Int × Int)) (hY : ∀ x ∈ Y, In p x.1 ∧ In p x.2) (hlY : Y.length ≤ 200) {i s t : Int} (hs : In p s) (ht : In p t) : ∀ (m f j : Nat) (acc : List (Int × Int × Int × Int)), Y.length - j = m → j ≤ Y.length → acc.length ≤ 100000 - m →
    impl_keepers.l1 K p k X Y i s t (m + 1 + f) j acc = impl_keepers.l0 K p k X Y f (wrap64 (i + 1)) (acc ++ kRow p k (Y.drop j) (s, t))
  | 0, f, j, acc, hm, hj, _ => by
    have : j = Y.length := by omega
    subst this
    rw [show 0 + 1 + f = f + 1 by omega, impl_keepers.l1, if_neg (by simp)]
    simp [kRow]
  | m + 1, f, j, acc, hm, hj, hl => by
    have hlt : j < Y.length := by omega
    have hb := hY Y[j] (List.getElem_mem hlt)
    rw [show m + 1 + 1 + f = (m + 1 + f) + 1 by omega, impl_keepers.l1, if_pos (by simpa using hlt), idx_nat, List.getElem?_eq_getElem hlt, w_nat (by omega), List.drop_eq_getElem_cons hlt]
    simp only [Option.bind_some]
    rw [implKeeps_nice hp hk1 hk2 (hs.b hp) (hb.1.b hp) (ht.b hp) (hb.2.b hp)]
    have hno := keep_l1 (K := K) hp hk1 hk2 X Y hY hlY (i := i) hs ht m f (j + 1) acc (by omega) (by omega) (by omega)
    have hyes := keep_l1 (K := K) hp hk1 hk2 X Y hY hlY (i := i) hs ht m f (j + 1) (acc ++ [(s, Y[j].1, t, Y[j].2)]) (by omega) (by omega) (by simp; omega)
    unfold kRow at hno hyes ⊢
    rw [List.filter_cons]
    dsimp only at hno hyes ⊢
    cases goodB p k s Y[j].1 t Y[j].2
    · simp only [Option.bind_some, Bool.false_eq_true, if_false]
      exact hno
    · simp only [Option.bind_some, if_true]
      rw [if_pos (by simp; omega), hyes]
      simp
theorem keep_l0 {K : Nat} {p k : Int} (hp : isP p) (hk1 : 0 ≤ k) (hk2 : k ≤ 2) (X Y : List (Int × Int)) (hX : ∀ x ∈ X, In p x.1 ∧ In p x.2) (hlX : X.length ≤ 200) (hY : ∀ x ∈ Y, In p x.1 ∧ In p x.2) (hlY : Y.length ≤ 200) : ∀ (m f i : Nat) (acc : List (Int × Int × Int × Int)), X.length - i = m → i ≤ X.length → acc.length ≤ i * Y.length →
    impl_keepers.l0 K p k X Y (m * (Y.length + 2) + 1 + f) i acc = some (acc ++ (X.drop i).flatMap (kRow p k Y))
  | 0, f, i, acc, hm, hi, hl => by
    have : i = X.length := by omega
    subst this
    rw [show 0 * (Y.length + 2) + 1 + f = f + 1 by omega, impl_keepers.l0, if_neg (by simp)]
    simp
  | m + 1, f, i, acc, hm, hi, hl => by
    have hlt : i < X.length := by omega
    have hb := hX X[i] (List.getElem_mem hlt)
    have hsz : i * Y.length ≤ 200 * 200 := Nat.mul_le_mul (by omega) hlY
    have hsz2 : (i + 1) * Y.length = i * Y.length + Y.length := by rw [Nat.add_mul]; omega
    have hKe : (m + 1) * (Y.length + 2) + 1 + f = (Y.length + 1 + (m * (Y.length + 2) + 1 + f)) + 1 := by rw [Nat.add_mul]; omega
    rw [hKe, impl_keepers.l0, if_pos (by simpa using hlt), idx_nat, List.getElem?_eq_getElem hlt]
    simp only [Option.bind_some]
    have h7 := keep_l1 (K := K) hp hk1 hk2 X Y hY hlY (i := (i : Int)) hb.1 hb.2 Y.length (m * (Y.length + 2) + 1 + f) 0 acc (by omega) (by omega) (by omega)
    simp only [Int.natCast_zero, Int.ofNat_zero, List.drop_zero] at h7
    have hfl := kRow_len (p := p) (k := k) (Y := Y) (a := X[i])
    rw [h7, w_nat (by omega), keep_l0 hp hk1 hk2 X Y hX hlX hY hlY m f (i + 1) _ (by omega) (by omega) (by rw [List.length_append]; show acc.length + (kRow p k Y X[i]).length ≤ _; omega), List.drop_eq_getElem_cons hlt, List.flatMap_cons]
    simp
def kp (p k : Int) : List (Int × Int × Int × Int) := (ptsQ p k 1 0).flatMap (kRow p k (ptsQ p k 0 1))
theorem ptsQ_in {p k u v : Int} (hp : isP p) : ∀ x ∈ ptsQ p k u v, In p x.1 ∧ In p x.2 := fun x hx => (mem_allPts hp).1 (List.mem_filter.1 hx).1
theorem keepers_nice {K : Nat} (hK : 10000 ≤ K) {p k : Int} (hp : isP p) (hk1 : 0 ≤ k) (hk2 : k ≤ 2) : impl_keepers.f K p k = some (kp p k) := by
  have z : B 31 0 := ⟨by omega⟩
  have o : B 31 1 := ⟨by omega⟩
  obtain ⟨f1, f2⟩ := few hp hk1 hk2
  unfold impl_keepers.f
  rw [implProduct_nice hp o z o z, implProduct_nice hp z o z o]
  simp only [Option.bind_some, ptsAt_nice (show 5000 ≤ K by omega) hp]
  have hsz : (ptsQ p k 1 0).length * ((ptsQ p k 0 1).length + 2) ≤ 70 * 72 := Nat.mul_le_mul f1 (by omega)
  have hKe : K = (ptsQ p k 1 0).length * ((ptsQ p k 0 1).length + 2) + 1 + (K - ((ptsQ p k 1 0).length * ((ptsQ p k 0 1).length + 2) + 1)) := by omega
  have := keep_l0 (K := K) hp hk1 hk2 (ptsQ p k 1 0) (ptsQ p k 0 1) (ptsQ_in hp) (by omega) (ptsQ_in hp) (by omega) (ptsQ p k 1 0).length (K - ((ptsQ p k 1 0).length * ((ptsQ p k 0 1).length + 2) + 1)) 0 [] (by omega) (by omega) (by simp)
  simp only [Int.natCast_zero, Int.ofNat_zero, List.drop_zero, List.nil_append] at this
  rw [← hKe] at this
  exact this
theorem mem_kp {p k : Int} (hp : isP p) {m : Int × Int × Int × Int} : m ∈ kp p k ↔ (In p m.1 ∧ In p m.2.1 ∧ In p m.2.2.1 ∧ In p m.2.2.2) ∧ goodB p k m.1 m.2.1 m.2.2.1 m.2.2.2 = true := by
  have hq : ∀ x y : Int, quad k 0 0 x y = prod k x y x y := fun x y => by simp [quad]
  unfold kp
  rw [List.mem_flatMap]
  constructor
  · rintro ⟨a, ha, hm⟩
    obtain ⟨b, hb, rfl⟩ := List.mem_map.1 hm
    obtain ⟨h1, h2⟩ := List.mem_filter.1 hb
    have ia := ptsQ_in hp a ha
    have ib := ptsQ_in hp b h1
    exact ⟨⟨ia.1, ib.1, ia.2, ib.2⟩, h2⟩
  · rintro ⟨⟨i1, i2, i3, i4⟩, hg⟩
    have hg' := hg
    unfold goodB at hg'
    simp only [Bool.and_eq_true] at hg'
    refine ⟨(m.1, m.2.2.1), List.mem_filter.2 ⟨(mem_allPts hp).2 ⟨i1, i3⟩, ?_⟩, List.mem_map.2 ⟨(m.2.1, m.2.2.2), List.mem_filter.2 ⟨List.mem_filter.2 ⟨(mem_allPts hp).2 ⟨i2, i4⟩, ?_⟩, hg⟩, rfl⟩⟩
    · unfold atQ
      rw [hq]
      exact hg'.1
    · unfold atQ
      rw [hq]
      exact hg'.2.1
theorem kp_nd {p k : Int} : (kp p k).Pairwise (fun a b => a ≠ b) := by
  have nd : ∀ u v, (ptsQ p k u v).Pairwise (fun a b => a ≠ b) := fun u v => allPts_nd.filter _
  unfold kp
  rw [List.pairwise_flatMap]
  refine ⟨fun a _ => List.pairwise_map.2 (((nd 0 1).filter _).imp fun {x y} h e => h ?_), (nd 1 0).imp fun {x y} h u hu v hv e => h ?_⟩
  · simp only [Prod.mk.injEq] at e
    exact Prod.ext e.2.1 e.2.2.2
  · obtain ⟨b, _, rfl⟩ := List.mem_map.1 hu
    obtain ⟨c, _, rfl⟩ := List.mem_map.1 hv
    simp only [Prod.mk.injEq] at e
    exact Prod.ext e.1 e.2.2.1
theorem kp_len {p k : Int} (hp : isP p) (hk1 : 0 ≤ k) (hk2 : k ≤ 2) : (kp p k).length ≤ 4900 := by
  obtain ⟨f1, f2⟩ := few hp hk1 hk2
  have h : ∀ X : List (Int × Int), (X.flatMap (kRow p k (ptsQ p k 0 1))).length ≤ X.length * (ptsQ p k 0 1).length := fun X => by
    induction X with
    | nil => simp
    | cons a X ih =>
      have := kRow_len (p := p) (k := k) (Y := ptsQ p k 0 1) (a := a)
      rw [List.flatMap_cons, List.length_append, List.length_cons, Nat.add_mul]
      omega
  exact Nat.le_trans (h _) (Nat.mul_le_mul f1 f2)
/-- A matrix with the shift that leads one point to another. -/
def shf (p a0 a1 b0 b1 : Int) (m : Int × Int × Int × Int) : M6 := (m.1, m.2.1, m.2.2.1, m.2.2.2, (b0 - (lead p m.1 m.2.1 m.2.2.1 m.2.2.2 a0 a1).1) % p, (b1 - (lead p m.1 m.2.1 m.2.2.1 m.2.2.2 a0 a1).2) % p)
theorem key_shf {p a0 a1 b0 b1 : Int} {m : Int × Int × Int × Int} : key4 (shf p a0 a1 b0 b1 m) = m := rfl
theorem bub_append {α : Type} {lt : α → α → Bool} {x : α} (rest : List α) : ∀ (r post : List α), bub lt x r (post ++ rest) = bub lt x r post ++ rest
  | [], post => by simp [bub]
  | y :: r, post => by
    unfold bub
    split
    · exact bub_append rest r (y :: post)
    · simp
def rT (p : Int) (m : Int × Int × Int × Int) : Bool := detM p m.1 m.2.1 m.2.2.1 m.2.2.2 == 1
def rM (p u0 u1 v0 v1 : Int) (m : Int × Int × Int × Int) : Bool := (lead p m.1 m.2.1 m.2.2.1 m.2.2.2 u0 u1).1 == v0 && (lead p m.1 m.2.1 m.2.2.1 m.2.2.2 u0 u1).2 == v1
theorem implSign_nice {K : Nat} {p a b c d : Int} (hp : isP p) (h1 : B 31 a) (h2 : B 31 b) (h3 : B 31 c) (h4 : B 31 d) : impl_sign.f K p a b c d = some (detM p a b c d) := by
  unfold impl_sign.f detM
  simp (disch := exact Sm.of (by repeat' first | assumption | apply B.add | apply B.sub | apply B.mul | exact B.mod hp _ | exact B.const _) rfl) only [w_eq, rest_nice hp, Option.bind_some]
/-- There are few: the first column and the sign tell the second one. -/
theorem two_len {α : Type} {c1 c2 : α} {L : List α} (h : L.Pairwise fun a b => a ≠ b) (hm : ∀ x ∈ L, x = c1 ∨ x = c2) : L.length ≤ 2 := by
  rcases L with _ | ⟨a, _ | ⟨b, _ | ⟨c, L⟩⟩⟩
  · simp
  · simp
  · simp
  · exfalso
    obtain ⟨h1, h2⟩ := List.pairwise_cons.1 h
    obtain ⟨h3, h4⟩ := List.pairwise_cons.1 h2
    have ab := h1 b (by simp)
    have ac := h1 c (by simp)
    have bc := h3 c (by simp)
    rcases hm a (by simp) with e1 | e1 <;> rcases hm b (by simp) with e2 | e2 <;> rcases hm c (by simp) with e3 | e3 <;> simp_all
theorem kp_few {p k : Int} (hp : isP p) (hk1 : 0 ≤ k) (hk2 : k ≤ 2) : (kp p k).length ≤ 140 := by
  obtain ⟨f1, f2⟩ := few hp hk1 hk2
  have hr : ∀ a ∈ ptsQ p k 1 0, (kRow p k (ptsQ p k 0 1) a).length ≤ 2 := fun a ha => by
    have ia := ptsQ_in hp a ha
    unfold kRow
    rw [List.length_map]
    refine two_len (c1 := (colB p k 1 a.1 a.2, colD p k 1 a.1 a.2)) (c2 := (colB p k (-1) a.1 a.2, colD p k (-1) a.1 a.2)) ((allPts_nd.filter _).filter _) fun b hb => ?_
    obtain ⟨h1, h2⟩ := List.mem_filter.1 hb
    have ib := ptsQ_in hp b h1
    rcases two_signs hp hk1 hk2 h2 with hd | hd
    · left
      obtain ⟨e1, e2⟩ := cols hp hk1 hk2 (.inl rfl) ia.1 ib.1 ia.2 ib.2 h2 hd
      exact Prod.ext e1 e2
    · right
      obtain ⟨e1, e2⟩ := cols hp hk1 hk2 (.inr rfl) ia.1 ib.1 ia.2 ib.2 h2 hd
      exact Prod.ext e1 e2
  have h : ∀ X : List (Int × Int), (∀ a ∈ X, (kRow p k (ptsQ p k 0 1) a).length ≤ 2) → (X.flatMap (kRow p k (ptsQ p k 0 1))).length ≤ X.length * 2 := fun X => by
    induction X with
    | nil => intro _; simp
    | cons a X ih =>
      intro hX
      have h1 := hX a (by simp)
      have h2 := ih fun x hx => hX x (List.mem_cons_of_mem _ hx)
      rw [List.flatMap_cons, List.length_append, List.length_cons]
      omega
  have := h _ hr
  unfold kp
  omega
/-! ### impl_movesWith__impl_turnsAbout_1 -/
theorem ta_l2 {K : Nat} (hK : 10 ≤ K) (L : List M6) (hL : L.length ≤ 100000) {i : Int} {R : Option (List M6)} {F0 : Nat} : ∀ (r post : List M6) (x : M6) (f : Nat), r.length ≤ 100000 → (∀ f', F0 ≤ f' → impl_movesWith__impl_turnsAbout_1.l1 K L f' (wrap64 (i + 1)) (bub lt4 x r post) = R) → F0 + r.length + 1 ≤ f →
    impl_movesWith__impl_turnsAbout_1.l2 K L i f (r.length : Int) (r.reverse ++ x :: post) = R
  | [], post, x, 0, _, _, hf => by omega
  | [], post, x, f + 1, _, hc, hf => by
    rw [impl_movesWith__impl_turnsAbout_1.l2, if_neg (by simp)]
    exact hc f (by simp only [List.length_nil] at hf; omega)
  | y :: r, post, x, 0, _, _, hf => by omega
  | y :: r, post, x, f + 1, hr, hc, hf => by
    simp only [List.length_cons] at hr hf
    have e1 : (y :: r).reverse ++ x :: post = r.reverse ++ y :: x :: post := by simp
    have i1 : idx (r.reverse ++ y :: x :: post) ((r.length + 1 : Nat) : Int) = some x := by
      have := idx_mid (r.reverse ++ [y]) post x
      simpa using this
    have i2 : idx (r.reverse ++ y :: x :: post) (r.length : Int) = some y := by
      have := idx_mid r.reverse (x :: post) y
      simpa using this
    have i3 : idx (r.reverse ++ y :: y :: post) (r.length : Int) = some y := by
      have := idx_mid r.reverse (y :: post) y
      simpa using this
    have s1 : ∀ v : M6, (r.reverse ++ y :: x :: post).set (r.length + 1) v = r.reverse ++ y :: v :: post := fun v => by
      rw [List.set_append_right _ _ (by rw [List.length_reverse]; omega), List.length_reverse, Nat.add_sub_cancel_left]
      rfl
    have s2 : ∀ v : M6, (r.reverse ++ y :: y :: post).set r.length v = r.reverse ++ v :: y :: post := fun v => by
      rw [List.set_append_right _ _ (by rw [List.length_reverse]; exact Nat.le_refl _), List.length_reverse, Nat.sub_self]
      rfl
    have w1 : wrap64 (((r.length + 1 : Nat) : Int) - 1) = (r.length : Int) := w_dec (by omega)
    have hb := before_nice hK x y
    rw [e1, impl_movesWith__impl_turnsAbout_1.l2, List.length_cons, if_pos (decide_eq_true (by omega)), w1, i1, i2]
    simp only [Option.bind_some, hb, Int.toNat_natCast]
    rw [show (r.reverse ++ y :: x :: post).set (r.length + 1) (y.1, y.2.1, y.2.2.1, y.2.2.2.1, y.2.2.2.2.1, y.2.2.2.2.2) = r.reverse ++ y :: y :: post from s1 y, i3]
    simp only [Option.bind_some]
    rw [show (r.reverse ++ y :: y :: post).set r.length (x.1, x.2.1, x.2.2.1, x.2.2.2.1, x.2.2.2.2.1, x.2.2.2.2.2) = r.reverse ++ x :: y :: post from s2 x]
    unfold bub at hc
    cases hlt : lt4 x y
    · simp only [hlt, Bool.false_eq_true, if_false] at hc ⊢
      have := hc f (by omega)
      rwa [e1] at this
    · simp only [hlt, if_true] at hc ⊢
      exact ta_l2 hK L hL r (y :: post) x f (by omega) hc (by omega)
theorem ta_l1 {K : Nat} (hK : 10 ≤ K) (L : List M6) (hL : L.length ≤ 100000) : ∀ (m f i : Nat), L.length - i = m → i ≤ L.length → m * (L.length + 2) + 1 ≤ f → impl_movesWith__impl_turnsAbout_1.l1 K L f i (isort lt4 (L.take i) ++ L.drop i) = some (isort lt4 L)
  | 0, 0, i, hm, hi, hf => by omega
  | 0, f + 1, i, hm, hi, hf => by
    have : i = L.length := by omega
    subst this
    rw [impl_movesWith__impl_turnsAbout_1.l1, if_neg (by simp)]
    simp
  | m + 1, 0, i, hm, hi, hf => by omega
  | m + 1, f + 1, i, hm, hi, hf => by
    have hlt : i < L.length := by omega
    have hlen : (isort lt4 (L.take i)).length = i := by rw [isort_len, List.length_take]; omega
    rw [impl_movesWith__impl_turnsAbout_1.l1, if_pos (by simpa using hlt), List.drop_eq_getElem_cons hlt]
    have := ta_l2 (K := K) hK L hL (i := (i : Int)) (R := some (isort lt4 L)) (F0 := m * (L.length + 2) + 1) (isort lt4 (L.take i)).reverse (L.drop (i + 1)) L[i] f (by rw [List.length_reverse, hlen]; omega) (fun f' hf' => by
      have h2 := bub_append (lt := lt4) (x := L[i]) (L.drop (i + 1)) (isort lt4 (L.take i)).reverse []
      rw [List.nil_append] at h2
      rw [h2, w_nat (by omega)]
      have h3 : bub lt4 L[i] (isort lt4 (L.take i)).reverse [] = isort lt4 (L.take (i + 1)) := by
        rw [List.take_succ_eq_append_getElem hlt, isort_concat]
        rfl
      rw [h3]
      exact ta_l1 hK L hL m f' (i + 1) (by omega) (by omega) hf') (by
        rw [List.length_reverse, hlen]
        have : (m + 1) * (L.length + 2) = m * (L.length + 2) + (L.length + 2) := by rw [Nat.add_mul]; omega
        omega)
    rw [List.length_reverse, hlen, List.reverse_reverse] at this
    exact this
theorem ta_l0 {K : Nat} {p a0 a1 b0 b1 : Int} (hp : isP p) (i1 : In p a0) (i2 : In p a1) (i3 : In p b0) (i4 : In p b1)  (T : List (Int × Int × Int × Int)) (hT : ∀ m ∈ T, In p m.1 ∧ In p m.2.1 ∧ In p m.2.2.1 ∧ In p m.2.2.2) (hl : T.length ≤ 10000) :
    ∀ (m f i : Nat) (acc : List M6), T.length - i = m → i ≤ T.length → acc.length ≤ i →
    impl_movesWith__impl_turnsAbout_1.l0 K p a0 a1 b0 b1 p  T (m + 1 + f) i acc = impl_movesWith__impl_turnsAbout_1.l1 K (acc ++ ((T.drop i).filter (rT p)).map (shf p a0 a1 b0 b1)) f 0 (acc ++ ((T.drop i).filter (rT p)).map (shf p a0 a1 b0 b1))
  | 0, f, i, acc, hm, hi, _ => by
    have : i = T.length := by omega
    subst this
    rw [show 0 + 1 + f = f + 1 by omega, impl_movesWith__impl_turnsAbout_1.l0, if_neg (by simp)]
    simp
  | m + 1, f, i, acc, hm, hi, ha => by
    have hlt : i < T.length := by omega
    obtain ⟨t1, t2, t3, t4⟩ := hT T[i] (List.getElem_mem hlt)
    replace t1 := t1.b hp; replace t2 := t2.b hp; replace t3 := t3.b hp; replace t4 := t4.b hp
    rw [show m + 1 + 1 + f = (m + 1 + f) + 1 by omega, impl_movesWith__impl_turnsAbout_1.l0, if_pos (by simpa using hlt), idx_nat, List.getElem?_eq_getElem hlt, w_nat (by omega), List.drop_eq_getElem_cons hlt, List.filter_cons]
    simp only [Option.bind_some]
    have hno := ta_l0 (K := K) hp i1 i2 i3 i4  T hT hl m f (i + 1) acc (by omega) (by omega) (by omega)
    have hyes := ta_l0 (K := K) hp i1 i2 i3 i4  T hT hl m f (i + 1) (acc ++ [shf p a0 a1 b0 b1 T[i]]) (by omega) (by omega) (by simp; omega)
    unfold impl_turnsAbout_1.f
    rw [implSign_nice hp t1 t2 t3 t4]
    simp only [Option.bind_some]
    rw [show (detM p T[i].1 T[i].2.1 T[i].2.2.1 T[i].2.2.2 == 1) = rT p T[i] from rfl]
    generalize (rT p T[i]) = q
    cases q
    · simp only [Option.bind_some, Bool.false_eq_true, if_false]
      exact hno
    · simp only [Option.bind_some, if_true]
      rw [implTurned_nice hp t1 t2 t3 t4 (i1.b hp) (i2.b hp)]
      simp only [Option.bind_some]
      rw [less_nice hp (i3.b hp) (i4.b hp) (show B 31 (lead p T[i].1 T[i].2.1 T[i].2.2.1 T[i].2.2.2 a0 a1).1 from B.mod hp _) (show B 31 (lead p T[i].1 T[i].2.1 T[i].2.2.1 T[i].2.2.2 a0 a1).2 from B.mod hp _)]
      simp only [Option.bind_some]
      rw [if_pos (by simp; omega)]
      rw [List.append_assoc] at hyes
      exact hyes
theorem ta_nice {K : Nat} (hK : 100000 ≤ K) {p k a0 a1 b0 b1 : Int} (hp : isP p) (hk1 : 0 ≤ k) (hk2 : k ≤ 2) (i1 : In p a0) (i2 : In p a1) (i3 : In p b0) (i4 : In p b1)  (hfew : ((kp p k).filter (rT p)).length ≤ 250) :
    impl_movesWith__impl_turnsAbout_1.f K p k a0 a1 b0 b1 p  = some (isort lt4 (((kp p k).filter (rT p)).map (shf p a0 a1 b0 b1))) := by
  have hkl := kp_len hp hk1 hk2
  unfold impl_movesWith__impl_turnsAbout_1.f
  rw [keepers_nice (by omega) hp hk1 hk2]
  simp only [Option.bind_some]
  have h0 := ta_l0 (K := K) hp i1 i2 i3 i4  (kp p k) (fun m hm => ((mem_kp hp).1 hm).1) (by omega) (kp p k).length (K - ((kp p k).length + 1)) 0 [] (by omega) (by omega) (by simp)
  rw [show (kp p k).length + 1 + (K - ((kp p k).length + 1)) = K by omega] at h0
  simp only [Int.natCast_zero, Int.ofNat_zero, List.drop_zero, List.nil_append] at h0
  rw [h0]
  generalize hL : ((kp p k).filter (rT p)).map (shf p a0 a1 b0 b1) = L
  have hlen : L.length ≤ 250 := by rw [← hL, List.length_map]; exact hfew
  have hsz : L.length * (L.length + 2) ≤ 250 * 252 := Nat.mul_le_mul hlen (by omega)
  have := ta_l1 (K := K) (by omega) L (by omega) L.length (K - ((kp p k).length + 1)) 0 (by omega) (by omega) (by omega)
  simpa [isort] using this
/-! ### impl_movesWith__impl_MovesBetween_2 -/
theorem mb_l2 {K : Nat} (hK : 10 ≤ K) (L : List M6) (hL : L.length ≤ 100000) {i : Int} {R : Option (List M6)} {F0 : Nat} : ∀ (r post : List M6) (x : M6) (f : Nat), r.length ≤ 100000 → (∀ f', F0 ≤ f' → impl_movesWith__impl_MovesBetween_2.l1 K L f' (wrap64 (i + 1)) (bub lt4 x r post) = R) → F0 + r.length + 1 ≤ f →
    impl_movesWith__impl_MovesBetween_2.l2 K L i f (r.length : Int) (r.reverse ++ x :: post) = R
  | [], post, x, 0, _, _, hf => by omega
  | [], post, x, f + 1, _, hc, hf => by
    rw [impl_movesWith__impl_MovesBetween_2.l2, if_neg (by simp)]
    exact hc f (by simp only [List.length_nil] at hf; omega)
  | y :: r, post, x, 0, _, _, hf => by omega
  | y :: r, post, x, f + 1, hr, hc, hf => by
    simp only [List.length_cons] at hr hf
    have e1 : (y :: r).reverse ++ x :: post = r.reverse ++ y :: x :: post := by simp
    have i1 : idx (r.reverse ++ y :: x :: post) ((r.length + 1 : Nat) : Int) = some x := by
      have := idx_mid (r.reverse ++ [y]) post x
      simpa using this
    have i2 : idx (r.reverse ++ y :: x :: post) (r.length : Int) = some y := by
      have := idx_mid r.reverse (x :: post) y
      simpa using this
    have i3 : idx (r.reverse ++ y :: y :: post) (r.length : Int) = some y := by
      have := idx_mid r.reverse (y :: post) y
      simpa using this
    have s1 : ∀ v : M6, (r.reverse ++ y :: x :: post).set (r.length + 1) v = r.reverse ++ y :: v :: post := fun v => by
      rw [List.set_append_right _ _ (by rw [List.length_reverse]; omega), List.length_reverse, Nat.add_sub_cancel_left]
      rfl
    have s2 : ∀ v : M6, (r.reverse ++ y :: y :: post).set r.length v = r.reverse ++ v :: y :: post := fun v => by
      rw [List.set_append_right _ _ (by rw [List.length_reverse]; exact Nat.le_refl _), List.length_reverse, Nat.sub_self]
      rfl
    have w1 : wrap64 (((r.length + 1 : Nat) : Int) - 1) = (r.length : Int) := w_dec (by omega)
    have hb := before_nice hK x y
    rw [e1, impl_movesWith__impl_MovesBetween_2.l2, List.length_cons, if_pos (decide_eq_true (by omega)), w1, i1, i2]
    simp only [Option.bind_some, hb, Int.toNat_natCast]
    rw [show (r.reverse ++ y :: x :: post).set (r.length + 1) (y.1, y.2.1, y.2.2.1, y.2.2.2.1, y.2.2.2.2.1, y.2.2.2.2.2) = r.reverse ++ y :: y :: post from s1 y, i3]
    simp only [Option.bind_some]
    rw [show (r.reverse ++ y :: y :: post).set r.length (x.1, x.2.1, x.2.2.1, x.2.2.2.1, x.2.2.2.2.1, x.2.2.2.2.2) = r.reverse ++ x :: y :: post from s2 x]
    unfold bub at hc
    cases hlt : lt4 x y
    · simp only [hlt, Bool.false_eq_true, if_false] at hc ⊢
      have := hc f (by omega)
      rwa [e1] at this
    · simp only [hlt, if_true] at hc ⊢
      exact mb_l2 hK L hL r (y :: post) x f (by omega) hc (by omega)
theorem mb_l1 {K : Nat} (hK : 10 ≤ K) (L : List M6) (hL : L.length ≤ 100000) : ∀ (m f i : Nat), L.length - i = m → i ≤ L.length → m * (L.length + 2) + 1 ≤ f → impl_movesWith__impl_MovesBetween_2.l1 K L f i (isort lt4 (L.take i) ++ L.drop i) = some (isort lt4 L)
  | 0, 0, i, hm, hi, hf => by omega
  | 0, f + 1, i, hm, hi, hf => by
    have : i = L.length := by omega
    subst this
    rw [impl_movesWith__impl_MovesBetween_2.l1, if_neg (by simp)]
    simp
  | m + 1, 0, i, hm, hi, hf => by omega
  | m + 1, f + 1, i, hm, hi, hf => by
    have hlt : i < L.length := by omega
    have hlen : (isort lt4 (L.take i)).length = i := by rw [isort_len, List.length_take]; omega
    rw [impl_movesWith__impl_MovesBetween_2.l1, if_pos (by simpa using hlt), List.drop_eq_getElem_cons hlt]
    have := mb_l2 (K := K) hK L hL (i := (i : Int)) (R := some (isort lt4 L)) (F0 := m * (L.length + 2) + 1) (isort lt4 (L.take i)).reverse (L.drop (i + 1)) L[i] f (by rw [List.length_reverse, hlen]; omega) (fun f' hf' => by
      have h2 := bub_append (lt := lt4) (x := L[i]) (L.drop (i + 1)) (isort lt4 (L.take i)).reverse []
      rw [List.nil_append] at h2
      rw [h2, w_nat (by omega)]
      have h3 : bub lt4 L[i] (isort lt4 (L.take i)).reverse [] = isort lt4 (L.take (i + 1)) := by
        rw [List.take_succ_eq_append_getElem hlt, isort_concat]
        rfl
      rw [h3]
      exact mb_l1 hK L hL m f' (i + 1) (by omega) (by omega) hf') (by
        rw [List.length_reverse, hlen]
        have : (m + 1) * (L.length + 2) = m * (L.length + 2) + (L.length + 2) := by rw [Nat.add_mul]; omega
        omega)
    rw [List.length_reverse, hlen, List.reverse_reverse] at this
    exact this
theorem mb_l0 {K : Nat} {p a0 a1 b0 b1 u0 u1 v0 v1 : Int} (hp : isP p) (i1 : In p a0) (i2 : In p a1) (i3 : In p b0) (i4 : In p b1) (j1 : In p u0) (j2 : In p u1) (T : List (Int × Int × Int × Int)) (hT : ∀ m ∈ T, In p m.1 ∧ In p m.2.1 ∧ In p m.2.2.1 ∧ In p m.2.2.2) (hl : T.length ≤ 10000) :
    ∀ (m f i : Nat) (acc : List M6), T.length - i = m → i ≤ T.length → acc.length ≤ i →
    impl_movesWith__impl_MovesBetween_2.l0 K p a0 a1 b0 b1 p u0 u1 v0 v1 T (m + 1 + f) i acc = impl_movesWith__impl_MovesBetween_2.l1 K (acc ++ ((T.drop i).filter (rM p u0 u1 v0 v1)).map (shf p a0 a1 b0 b1)) f 0 (acc ++ ((T.drop i).filter (rM p u0 u1 v0 v1)).map (shf p a0 a1 b0 b1))
  | 0, f, i, acc, hm, hi, _ => by
    have : i = T.length := by omega
    subst this
    rw [show 0 + 1 + f = f + 1 by omega, impl_movesWith__impl_MovesBetween_2.l0, if_neg (by simp)]
    simp
  | m + 1, f, i, acc, hm, hi, ha => by
    have hlt : i < T.length := by omega
    obtain ⟨t1, t2, t3, t4⟩ := hT T[i] (List.getElem_mem hlt)
    replace t1 := t1.b hp; replace t2 := t2.b hp; replace t3 := t3.b hp; replace t4 := t4.b hp
    rw [show m + 1 + 1 + f = (m + 1 + f) + 1 by omega, impl_movesWith__impl_MovesBetween_2.l0, if_pos (by simpa using hlt), idx_nat, List.getElem?_eq_getElem hlt, w_nat (by omega), List.drop_eq_getElem_cons hlt, List.filter_cons]
    simp only [Option.bind_some]
    have hno := mb_l0 (K := K) (v0 := v0) (v1 := v1) hp i1 i2 i3 i4 j1 j2 T hT hl m f (i + 1) acc (by omega) (by omega) (by omega)
    have hyes := mb_l0 (K := K) (v0 := v0) (v1 := v1) hp i1 i2 i3 i4 j1 j2 T hT hl m f (i + 1) (acc ++ [shf p a0 a1 b0 b1 T[i]]) (by omega) (by omega) (by simp; omega)
    unfold impl_MovesBetween_2.f
    rw [implTurned_nice hp t1 t2 t3 t4 (j1.b hp) (j2.b hp)]
    simp only [Option.bind_some]
    rw [show ((lead p T[i].1 T[i].2.1 T[i].2.2.1 T[i].2.2.2 u0 u1).1 == v0 && (lead p T[i].1 T[i].2.1 T[i].2.2.1 T[i].2.2.2 u0 u1).2 == v1) = rM p u0 u1 v0 v1 T[i] from rfl]
    generalize (rM p u0 u1 v0 v1 T[i]) = q
    cases q
    · simp only [Option.bind_some, Bool.false_eq_true, if_false]
      exact hno
    · simp only [Option.bind_some, if_true]
      rw [implTurned_nice hp t1 t2 t3 t4 (i1.b hp) (i2.b hp)]
      simp only [Option.bind_some]
      rw [less_nice hp (i3.b hp) (i4.b hp) (show B 31 (lead p T[i].1 T[i].2.1 T[i].2.2.1 T[i].2.2.2 a0 a1).1 from B.mod hp _) (show B 31 (lead p T[i].1 T[i].2.1 T[i].2.2.1 T[i].2.2.2 a0 a1).2 from B.mod hp _)]
      simp only [Option.bind_some]
      rw [if_pos (by simp; omega)]
      rw [List.append_assoc] at hyes
      exact hyes
theorem mb_nice {K : Nat} (hK : 100000 ≤ K) {p k a0 a1 b0 b1 u0 u1 v0 v1 : Int} (hp : isP p) (hk1 : 0 ≤ k) (hk2 : k ≤ 2) (i1 : In p a0) (i2 : In p a1) (i3 : In p b0) (i4 : In p b1) (j1 : In p u0) (j2 : In p u1) (hfew : ((kp p k).filter (rM p u0 u1 v0 v1)).length ≤ 250) :
    impl_movesWith__impl_MovesBetween_2.f K p k a0 a1 b0 b1 p u0 u1 v0 v1 = some (isort lt4 (((kp p k).filter (rM p u0 u1 v0 v1)).map (shf p a0 a1 b0 b1))) := by
  have hkl := kp_len hp hk1 hk2
  unfold impl_movesWith__impl_MovesBetween_2.f
  rw [keepers_nice (by omega) hp hk1 hk2]
  simp only [Option.bind_some]
  have h0 := mb_l0 (K := K) (v0 := v0) (v1 := v1) hp i1 i2 i3 i4 j1 j2 (kp p k) (fun m hm => ((mem_kp hp).1 hm).1) (by omega) (kp p k).length (K - ((kp p k).length + 1)) 0 [] (by omega) (by omega) (by simp)
  rw [show (kp p k).length + 1 + (K - ((kp p k).length + 1)) = K by omega] at h0
  simp only [Int.natCast_zero, Int.ofNat_zero, List.drop_zero, List.nil_append] at h0
  rw [h0]
  generalize hL : ((kp p k).filter (rM p u0 u1 v0 v1)).map (shf p a0 a1 b0 b1) = L
  have hlen : L.length ≤ 250 := by rw [← hL, List.length_map]; exact hfew
  have hsz : L.length * (L.length + 2) ≤ 250 * 252 := Nat.mul_le_mul hlen (by omega)
  have := mb_l1 (K := K) (by omega) L (by omega) L.length (K - ((kp p k).length + 1)) 0 (by omega) (by omega) (by omega)
  simpa [isort] using this
/-! ### The checks -/
def pc (p k : Int) (pts : List (Int × Int)) : Int := if isP p then if pts.all (inB p) = true then if 0 ≤ k ∧ k ≤ 2 then 0 else 2 else 2 else 1
theorem pc_zero {p k : Int} {pts : List (Int × Int)} (h : pc p k pts = 0) : isP p ∧ pts.all (inB p) = true ∧ 0 ≤ k ∧ k ≤ 2 := by
  unfold pc at h
  split at h
  · split at h
    · split at h
      · exact ⟨by assumption, by assumption, (by assumption : 0 ≤ k ∧ k ≤ 2).1, (by assumption : 0 ≤ k ∧ k ≤ 2).2⟩
      · cases h
    · cases h
  · cases h
theorem points3_nice {K : Nat} {p k : Int} (pts : List (Int × Int)) (hl : pts.length ≤ 1000000) (hK : pts.length + 10 ≤ K) : spec_l03Points.f K p k pts = some (pc p k pts) := by
  unfold spec_l03Points.f pc
  rw [code_nice pts hl hK, in_nice]
  by_cases hp : isP p <;> by_cases h : pts.all (inB p) = true <;> by_cases hk : 0 ≤ k ∧ k ≤ 2 <;> simp [hp, h, hk]
theorem askedCT {K : Nat} {p k : Int} : impl_asked__impl_CountTurns_1.f K p k = some (pc p k []) := by
  unfold impl_asked__impl_CountTurns_1.f impl_CountTurns_1.f pc
  rw [isField_nice, isColour_nice]
  by_cases hp : isP p <;> by_cases hk : 0 ≤ k ∧ k ≤ 2 <;> simp [hp, hk]
theorem askedTA {K : Nat} (hK : 10 ≤ K) {p k a0 a1 : Int} : impl_asked__impl_TurnsAbout_1.f K p k p a0 a1 = some (pc p k [(a0, a1)]) := by
  unfold impl_asked__impl_TurnsAbout_1.f impl_TurnsAbout_1.f pc
  rw [isField_nice, isColour_nice, isPoint_nice hK]
  cases hb : inB p (a0, a1) <;> by_cases hp : isP p <;> by_cases hk : 0 ≤ k ∧ k ≤ 2 <;> simp [hp, hk, hb]
theorem askedMB {K : Nat} (hK : 100 ≤ K) {p k a0 a1 b0 b1 c0 c1 d0 d1 : Int} : impl_asked__impl_MovesBetween_1.f K p k p a0 a1 b0 b1 c0 c1 d0 d1 = some (pc p k [(a0, a1), (b0, b1), (c0, c1), (d0, d1)]) := by
  unfold impl_asked__impl_MovesBetween_1.f impl_MovesBetween_1.f pc
  rw [isField_nice, isColour_nice, arePoints_nice [(a0, a1), (b0, b1), (c0, c1), (d0, d1)] (by simp) (by simp; omega)]
  generalize ([(a0, a1), (b0, b1), (c0, c1), (d0, d1)] : List (Int × Int)).all (inB p) = b
  cases b <;> by_cases hp : isP p <;> by_cases hk : 0 ≤ k ∧ k ≤ 2 <;> simp [hp, hk]
/-! ### All moves with one sign -/
theorem cl_keys {p k s : Int} : (((allPts p).filter (tstB p k s)).map (cand p k s)).Pairwise (fun a b => key4 a ≠ key4 b) :=
  List.pairwise_map.2 ((allPts_nd.filter _).imp fun {x y} h e => h (by
    unfold cand key4 at e
    simp only [Prod.mk.injEq] at e
    exact Prod.ext e.1 e.2.2.1))
theorem allM_four {p k s : Int} : allM p k s = isort lt4 (((allPts p).filter (tstB p k s)).map (cand p k s)) := isort64 cl_keys
theorem allM_srt {p k s : Int} : Srt lt4 (allM p k s) := by
  rw [allM_four]
  exact isort_srt lt4_ord cl_keys
theorem allM_len {p k s : Int} (hp : isP p) : (allM p k s).length ≤ 961 := by
  unfold allM
  rw [isort_len, List.length_map]
  exact Nat.le_trans (List.length_filter_le _ _) (pts_small' hp)
theorem mem_allM {p k s : Int} (hp : isP p) (hk1 : 0 ≤ k) (hk2 : k ≤ 2) (hs : s = 1 ∨ s = -1) {m : M6} : m ∈ allM p k s ↔ ((In p m.1 ∧ In p m.2.1 ∧ In p m.2.2.1 ∧ In p m.2.2.2.1) ∧ goodB p k m.1 m.2.1 m.2.2.1 m.2.2.2.1 = true ∧ detM p m.1 m.2.1 m.2.2.1 m.2.2.2.1 = s % p) ∧ m.2.2.2.2 = (0, 0) := by
  rw [allM_four, isort_mem lt4_ord cl_keys, List.mem_map]
  constructor
  · rintro ⟨q, hq, rfl⟩
    obtain ⟨h1, h2⟩ := List.mem_filter.1 hq
    have iq := (mem_allPts hp).1 h1
    unfold tstB at h2
    rw [Bool.and_eq_true, beq_iff_eq] at h2
    exact ⟨⟨⟨iq.1, mod_in hp _, iq.2, mod_in hp _⟩, h2.1, h2.2⟩, rfl⟩
  · rintro ⟨⟨⟨i1, i2, i3, i4⟩, hg, hd⟩, hz⟩
    obtain ⟨e1, e2⟩ := cols hp hk1 hk2 hs i1 i2 i3 i4 hg hd
    refine ⟨(m.1, m.2.2.1), List.mem_filter.2 ⟨(mem_allPts hp).2 ⟨i1, i3⟩, ?_⟩, ?_⟩
    · unfold tstB
      rw [Bool.and_eq_true, beq_iff_eq, ← e1, ← e2]
      exact ⟨hg, hd⟩
    · unfold cand
      dsimp only
      rw [← e1, ← e2, show ((0 : Int), (0 : Int)) = m.2.2.2.2 from hz.symm]
def abt (p a0 a1 c0 c1 : Int) (m : M6) : M6 := shf p a0 a1 c0 c1 (key4 m)
theorem key_abt {p a0 a1 c0 c1 : Int} {m : M6} : key4 (abt p a0 a1 c0 c1 m) = key4 m := rfl
theorem abt_nice {K : Nat} {p a0 a1 c0 c1 : Int} (hp : isP p) (i1 : In p a0) (i2 : In p a1) (i3 : In p c0) (i4 : In p c1) (m : M6) (h : In p m.1 ∧ In p m.2.1 ∧ In p m.2.2.1 ∧ In p m.2.2.2.1) {R : Type} (F : Int × Int → Option R) :
    ((spec_l07Lead.f K p m.1 m.2.1 m.2.2.1 m.2.2.2.1 m.2.2.2.2.1 m.2.2.2.2.2 a0 a1).bind fun (t12, t13) => ((spec_l01Minus.f K p c0 c1 t12 t13).bind F)) = F ((abt p a0 a1 c0 c1 m).2.2.2.2.1, (abt p a0 a1 c0 c1 m).2.2.2.2.2) := by
  obtain ⟨h1, h2, h3, h4⟩ := h
  rw [specLead_nice hp (h1.b hp) (h2.b hp) (h3.b hp) (h4.b hp) (i1.b hp) (i2.b hp)]
  simp only [Option.bind_some]
  rw [specMinus_nice hp (i3.b hp) (i4.b hp) (show B 31 (lead p m.1 m.2.1 m.2.2.1 m.2.2.2.1 a0 a1).1 from B.mod hp _) (show B 31 (lead p m.1 m.2.1 m.2.2.1 m.2.2.2.1 a0 a1).2 from B.mod hp _)]
  rfl
/-! ### Turns -/
theorem taS_l0 {K : Nat} (hK : 10000 ≤ K) {p a0 a1 : Int} (hp : isP p) (i1 : In p a0) (i2 : In p a1) (T : List M6) (hT : ∀ m ∈ T, In p m.1 ∧ In p m.2.1 ∧ In p m.2.2.1 ∧ In p m.2.2.2.1) (hl : T.length ≤ 2000) :
    ∀ (m f i : Nat) (acc : List M6), T.length - i = m → m < f → i ≤ T.length → acc.length ≤ i → spec_TurnsAbout.l0 K p a0 a1 T f i acc = some ((T.drop i).foldl (fun acc m => ins lt6 (abt p a0 a1 a0 a1 m) acc) acc, 0)
  | 0, f + 1, i, acc, hm, _, hi, _ => by
    have : i = T.length := by omega
    subst this
    rw [spec_TurnsAbout.l0, if_neg (by simp)]
    simp
  | m + 1, f + 1, i, acc, hm, hf, hi, ha => by
    have hlt : i < T.length := by omega
    have ht := hT T[i] (List.getElem_mem hlt)
    rw [spec_TurnsAbout.l0, if_pos (by simpa using hlt), idx_nat, List.getElem?_eq_getElem hlt, w_nat (by omega), List.drop_eq_getElem_cons hlt, List.foldl_cons]
    simp only [Option.bind_some]
    have e := abt_nice (K := K) (c0 := a0) (c1 := a1) hp i1 i2 i1 i2 T[i] ht (fun x => some (T[i].1, T[i].2.1, T[i].2.2.1, T[i].2.2.2.1, x.1, x.2))
    have e2 : spec_l07About.f K p T[i].1 T[i].2.1 T[i].2.2.1 T[i].2.2.2.1 T[i].2.2.2.2.1 T[i].2.2.2.2.2 a0 a1 = some (abt p a0 a1 a0 a1 T[i]) := e
    have hput := put_nice (K := K) (abt p a0 a1 a0 a1 T[i]) acc (by omega) (by omega)
    rw [e2]
    simp only [Option.bind_some]
    rw [hput]
    simp only [Option.bind_some]
    exact taS_l0 hK hp i1 i2 T hT hl m f (i + 1) _ (by omega) (by omega) (by omega) (by rw [ins_len]; omega)
theorem fold_map {g : M6 → M6} : ∀ (L acc : List M6), L.foldl (fun acc m => ins lt6 (g m) acc) acc = (L.map g).foldl (fun acc x => ins lt6 x acc) acc
  | [], _ => rfl
  | x :: L, acc => by rw [List.foldl_cons, List.map_cons, List.foldl_cons, fold_map L]
def turnsL (p k a0 a1 : Int) : List M6 := isort lt4 (((kp p k).filter (rT p)).map (shf p a0 a1 a0 a1))
theorem filt_keys {p k a0 a1 c0 c1 : Int} {Q : Int × Int × Int × Int → Bool} : (((kp p k).filter Q).map (shf p a0 a1 c0 c1)).Pairwise (fun a b => key4 a ≠ key4 b) :=
  List.pairwise_map.2 ((kp_nd.filter _).imp fun {x y} h e => h e)
theorem turns_eq {p k a0 a1 : Int} (hp : isP p) (hk1 : 0 ≤ k) (hk2 : k ≤ 2) : isort lt6 ((allM p k 1).map (abt p a0 a1 a0 a1)) = turnsL p k a0 a1 := by
  have hpl := hp.lt
  have e1 : (1 : Int) % p = 1 := Int.emod_eq_of_lt (by omega) (by omega)
  have hkeys : ((allM p k 1).map (abt p a0 a1 a0 a1)).Pairwise (fun a b => key4 a ≠ key4 b) := List.pairwise_map.2 ((srt_keys allM_srt).imp fun {x y} h e => h e)
  rw [isort64 hkeys]
  unfold turnsL
  refine srt_ext lt4_ord.irr lt4_ord.trans (isort_srt lt4_ord hkeys) (isort_srt lt4_ord filt_keys) fun z => ?_
  rw [isort_mem lt4_ord hkeys, isort_mem lt4_ord filt_keys, List.mem_map, List.mem_map]
  constructor
  · rintro ⟨m, hm, rfl⟩
    obtain ⟨⟨h1, h2, h3⟩, _⟩ := (mem_allM hp hk1 hk2 (.inl rfl)).1 hm
    refine ⟨key4 m, List.mem_filter.2 ⟨(mem_kp hp).2 ⟨h1, h2⟩, ?_⟩, rfl⟩
    unfold rT key4
    rw [beq_iff_eq]
    exact h3.trans e1
  · rintro ⟨q, hq, rfl⟩
    obtain ⟨h1, h2⟩ := List.mem_filter.1 hq
    obtain ⟨h3, h4⟩ := (mem_kp hp).1 h1
    unfold rT at h2
    rw [beq_iff_eq] at h2
    exact ⟨(q.1, q.2.1, q.2.2.1, q.2.2.2, 0, 0), (mem_allM hp hk1 hk2 (.inl rfl)).2 ⟨⟨h3, h4, h2.trans e1.symm⟩, rfl⟩, rfl⟩
theorem turnsL_len {p k a0 a1 : Int} (hp : isP p) (hk1 : 0 ≤ k) (hk2 : k ≤ 2) : (turnsL p k a0 a1).length ≤ 140 := by
  unfold turnsL
  rw [isort_len, List.length_map]
  exact Nat.le_trans (List.length_filter_le _ _) (kp_few hp hk1 hk2)
theorem implTurns {K : Nat} (hK : 100000 ≤ K) {p k a0 a1 : Int} (hp : isP p) (hk1 : 0 ≤ k) (hk2 : k ≤ 2) (i1 : In p a0) (i2 : In p a1) : impl_turnsAbout.f K p k a0 a1 = some (turnsL p k a0 a1) := by
  unfold impl_turnsAbout.f
  rw [ta_nice hK hp hk1 hk2 i1 i2 i1 i2 (Nat.le_trans (List.length_filter_le _ _) (Nat.le_trans (kp_few hp hk1 hk2) (by decide)))]
  rfl
def ansTA (p k a0 a1 : Int) : List M6 × Int := if pc p k [(a0, a1)] = 0 then (turnsL p k a0 a1, 0) else ([], pc p k [(a0, a1)])
theorem ansTA_len {p k a0 a1 : Int} : (ansTA p k a0 a1).1.length ≤ 2000 := by
  unfold ansTA
  split
  · obtain ⟨hp, _, hk1, hk2⟩ := pc_zero (by assumption)
    exact Nat.le_trans (turnsL_len hp hk1 hk2) (by decide)
  · simp
theorem specTA {K : Nat} (hK : 100000 ≤ K) {p k a0 a1 : Int} : spec_TurnsAbout.f K p k a0 a1 = some (ansTA p k a0 a1) := by
  unfold spec_TurnsAbout.f ansTA
  rw [points3_nice [(a0, a1)] (by simp) (by simp; omega)]
  by_cases h : pc p k [(a0, a1)] = 0
  · obtain ⟨hp, ha, hk1, hk2⟩ := pc_zero h
    simp only [List.all_cons, List.all_nil, Bool.and_true] at ha
    obtain ⟨i1, i2⟩ := inB_in ha
    rw [if_pos h, h]
    simp only [Option.bind_some, beq_self_eq_true, if_true, all_nice hp hk1 hk2 (.inl rfl) (show 10000 ≤ K by omega)]
    have hlen := allM_len (k := k) (s := 1) hp
    have := taS_l0 (K := K) (by omega) hp i1 i2 (allM p k 1) (fun m hm => ((mem_allM hp hk1 hk2 (.inl rfl)).1 hm).1.1) (by omega) _ K 0 [] rfl (by omega) (by omega) (by simp)
    simp only [Int.natCast_zero, Int.ofNat_zero, List.drop_zero] at this
    rw [this, fold_map, ← turns_eq hp hk1 hk2]
    rfl
  · rw [if_neg h]
    simp [h]
theorem implTA {K : Nat} (hK : 100000 ≤ K) {p k a0 a1 : Int} : impl_TurnsAbout.f K p k a0 a1 = some (ansTA p k a0 a1) := by
  unfold impl_TurnsAbout.f ansTA
  rw [askedTA (by omega)]
  by_cases h : pc p k [(a0, a1)] = 0
  · obtain ⟨hp, ha, hk1, hk2⟩ := pc_zero h
    simp only [List.all_cons, List.all_nil, Bool.and_true] at ha
    obtain ⟨i1, i2⟩ := inB_in ha
    rw [if_pos h, h]
    simp only [Option.bind_some, beq_self_eq_true, if_true, implTurns hK hp hk1 hk2 i1 i2]
  · rw [if_neg h]
    simp [h]
theorem law_FnExactTurnsAbout {K : Nat} (hK : 100000 ≤ K) (p k a0 a1 : Int) : laws_FnExactTurnsAbout.f K p k a0 a1 = some true := by
  have hlen : (ansTA p k a0 a1).1.length ≤ 2000 := ansTA_len
  unfold laws_FnExactTurnsAbout.f
  simp only [toPoint_nice, Option.bind_some]
  rw [specTA hK, implTA hK]
  generalize ansTA p k a0 a1 = z at *
  obtain ⟨xs, code⟩ := z
  simp only at hlen ⊢
  simp only [Option.bind_some]
  rw [eqM_nice xs (by omega) (by omega), markM_nice xs (by omega) (by omega)]
  simp only [Option.bind_some]
  rw [heldM_nice xs.length (by omega) (by omega)]
  have hneg : ¬ (((1 + 6 * xs.length : Nat) : Int) < 0) := by omega
  simp only [Option.bind_some, beq_self_eq_true, if_true, hneg, decide_false, Bool.false_eq_true, if_false]
theorem law_FnExactCountTurns {K : Nat} (hK : 100000 ≤ K) (p k : Int) : laws_FnExactCountTurns.f K p k = some true := by
  unfold laws_FnExactCountTurns.f spec_CountTurns.f impl_CountTurns.f
  rw [points3_nice [] (by simp) (by simp; omega), askedCT]
  by_cases h : pc p k [] = 0
  · obtain ⟨hp, _, hk1, hk2⟩ := pc_zero h
    have hpl := hp.lt
    have z : In p 0 := ⟨by omega⟩
    have e := congrArg List.length (turns_eq (a0 := 0) (a1 := 0) hp hk1 hk2)
    rw [isort_len, List.length_map] at e
    simp only [h, Option.bind_some, beq_self_eq_true, if_true, all_nice hp hk1 hk2 (.inl rfl) (show 10000 ≤ K by omega), implTurns hK hp hk1 hk2 z z, e]
  · simp [h]
/-! ### Moves between pairs of points -/
def rS (p a0 a1 b0 b1 c0 c1 d0 d1 : Int) (m : M6) : Bool := (mv p m.1 m.2.1 m.2.2.1 m.2.2.2.1 (abt p a0 a1 c0 c1 m).2.2.2.2.1 (abt p a0 a1 c0 c1 m).2.2.2.2.2 b0 b1).1 == d0 && (mv p m.1 m.2.1 m.2.2.1 m.2.2.2.1 (abt p a0 a1 c0 c1 m).2.2.2.2.1 (abt p a0 a1 c0 c1 m).2.2.2.2.2 b0 b1).2 == d1
def stepB (p a0 a1 b0 b1 c0 c1 d0 d1 : Int) (acc : List M6) (m : M6) : List M6 := if rS p a0 a1 b0 b1 c0 c1 d0 d1 m = true then ins lt6 (abt p a0 a1 c0 c1 m) acc else acc
theorem comp_eq {p x y u v a b c d : Int} (hp : isP p) (hd : In p d) : ((x * u + y * v + (c - (x * a + y * b) % p) % p) % p == d) = ((x * ((u - a) % p) + y * ((v - b) % p)) % p == (d - c) % p) := by
  have hpl := hp.lt
  obtain ⟨n, hn⟩ := Int.eq_ofNat_of_zero_le (show 0 ≤ p by omega)
  have : NeZero n := ⟨by omega⟩
  have hn2 : 2 < n := by omega
  rw [Bool.eq_iff_iff, beq_iff_eq, beq_iff_eq]
  conv => lhs; rhs; rw [← hd.mod]
  rw [hn, ← cst_eq, ← cst_eq]
  simp only [cst_add, cst_sub, cst_mul, cst_mod]
  constructor
  · intro h
    rw [← h]
    grind
  · intro h
    have : cst n d = cst n x * (cst n u - cst n a) + cst n y * (cst n v - cst n b) + cst n c := by rw [h]; grind
    rw [this]
    grind
theorem rS_rM {p a0 a1 b0 b1 c0 c1 d0 d1 : Int} (hp : isP p) (i7 : In p d0) (i8 : In p d1) (m : M6) : rS p a0 a1 b0 b1 c0 c1 d0 d1 m = rM p ((b0 - a0) % p) ((b1 - a1) % p) ((d0 - c0) % p) ((d1 - c1) % p) (key4 m) := by
  unfold rS rM abt shf mv lead key4
  dsimp only
  rw [comp_eq hp i7, comp_eq hp i8]
section
variable {K : Nat} {p k a0 a1 b0 b1 c0 c1 d0 d1 : Int}
theorem one_step {R : List M6 → Option (List M6 × Int)} (hK : 10000 ≤ K) (hp : isP p) (i1 : In p a0) (i2 : In p a1) (i3 : In p b0) (i4 : In p b1) (i5 : In p c0) (i6 : In p c1) (m : M6) (h : In p m.1 ∧ In p m.2.1 ∧ In p m.2.2.1 ∧ In p m.2.2.2.1) (acc : List M6) (hl : acc.length ≤ 5000) :
    ((spec_l07Lead.f K p m.1 m.2.1 m.2.2.1 m.2.2.2.1 m.2.2.2.2.1 m.2.2.2.2.2 a0 a1).bind fun (t108, t109) => ((spec_l01Minus.f K p c0 c1 t108 t109).bind fun (t111, t112) => ((spec_l07Move.f K p m.1 m.2.1 m.2.2.1 m.2.2.2.1 t111 t112 b0 b1).bind fun (t120, t121) => (if (t120 == d0 && t121 == d1) = true then ((spec_l07Put.f K acc m.1 m.2.1 m.2.2.1 m.2.2.2.1 t111 t112).bind fun t126 => R t126) else R acc)))) = R (stepB p a0 a1 b0 b1 c0 c1 d0 d1 acc m) := by
  rw [abt_nice hp i1 i2 i5 i6 m h]
  obtain ⟨h1, h2, h3, h4⟩ := h
  have hput := put_nice (K := K) (abt p a0 a1 c0 c1 m) acc (by omega) (by omega)
  have e5 : B 31 (abt p a0 a1 c0 c1 m).2.2.2.2.1 := B.mod hp _
  have e6 : B 31 (abt p a0 a1 c0 c1 m).2.2.2.2.2 := B.mod hp _
  dsimp only
  rw [specMove_nice hp (h1.b hp) (h2.b hp) (h3.b hp) (h4.b hp) e5 e6 (i3.b hp) (i4.b hp)]
  simp only [Option.bind_some]
  rw [show spec_l07Put.f K acc m.1 m.2.1 m.2.2.1 m.2.2.2.1 (abt p a0 a1 c0 c1 m).2.2.2.2.1 (abt p a0 a1 c0 c1 m).2.2.2.2.2 = _ from hput]
  unfold stepB
  rw [show ((mv p m.1 m.2.1 m.2.2.1 m.2.2.2.1 (abt p a0 a1 c0 c1 m).2.2.2.2.1 (abt p a0 a1 c0 c1 m).2.2.2.2.2 b0 b1).1 == d0 && (mv p m.1 m.2.1 m.2.2.1 m.2.2.2.1 (abt p a0 a1 c0 c1 m).2.2.2.2.1 (abt p a0 a1 c0 c1 m).2.2.2.2.2 b0 b1).2 == d1) = rS p a0 a1 b0 b1 c0 c1 d0 d1 m from rfl]
  cases rS p a0 a1 b0 b1 c0 c1 d0 d1 m <;> simp
theorem stepB_len {acc : List M6} {m : M6} : (stepB p a0 a1 b0 b1 c0 c1 d0 d1 acc m).length ≤ acc.length + 1 := by
  unfold stepB
  split
  · rw [ins_len]; omega
  · omega
theorem mbS_l1 (hK : 10000 ≤ K) (hp : isP p) (i1 : In p a0) (i2 : In p a1) (i3 : In p b0) (i4 : In p b1) (i5 : In p c0) (i6 : In p c1) (T : List M6) (hT : ∀ m ∈ T, In p m.1 ∧ In p m.2.1 ∧ In p m.2.2.1 ∧ In p m.2.2.2.1) (hl : T.length ≤ 1000) :
    ∀ (m f i : Nat) (acc : List M6), T.length - i = m → m < f → i ≤ T.length → acc.length ≤ 1000 + i → spec_MovesBetween.l1 K p a0 a1 b0 b1 c0 c1 d0 d1 T f i acc = some ((T.drop i).foldl (stepB p a0 a1 b0 b1 c0 c1 d0 d1) acc, 0)
  | 0, f + 1, i, acc, hm, _, hi, _ => by
    have : i = T.length := by omega
    subst this
    rw [spec_MovesBetween.l1, if_neg (by simp)]
    simp
  | m + 1, f + 1, i, acc, hm, hf, hi, ha => by
    have hlt : i < T.length := by omega
    have ht := hT T[i] (List.getElem_mem hlt)
    have hs := stepB_len (p := p) (a0 := a0) (a1 := a1) (b0 := b0) (b1 := b1) (c0 := c0) (c1 := c1) (d0 := d0) (d1 := d1) (acc := acc) (m := T[i])
    rw [spec_MovesBetween.l1, if_pos (by simpa using hlt), idx_nat, List.getElem?_eq_getElem hlt, w_nat (by omega), List.drop_eq_getElem_cons hlt, List.foldl_cons]
    simp only [Option.bind_some]
    rw [one_step (R := fun acc => spec_MovesBetween.l1 K p a0 a1 b0 b1 c0 c1 d0 d1 T f ((i + 1 : Nat) : Int) acc) hK hp i1 i2 i3 i4 i5 i6 T[i] ht acc (by omega)]
    exact mbS_l1 hK hp i1 i2 i3 i4 i5 i6 T hT hl m f (i + 1) _ (by omega) (by omega) (by omega) (by omega)
theorem mbS_l0 (hK : 10000 ≤ K) (hp : isP p) (i1 : In p a0) (i2 : In p a1) (i3 : In p b0) (i4 : In p b1) (i5 : In p c0) (i6 : In p c1) (T : List M6) (hT : ∀ m ∈ T, In p m.1 ∧ In p m.2.1 ∧ In p m.2.2.1 ∧ In p m.2.2.2.1) (hl : T.length ≤ 1000) :
    ∀ (m f i : Nat) (acc : List M6), T.length - i = m → i ≤ T.length → acc.length ≤ i → spec_MovesBetween.l0 K p k a0 a1 b0 b1 c0 c1 d0 d1 T (m + 1 + f) i acc = (spec_l07All.f K p k 1).bind fun t => spec_MovesBetween.l1 K p a0 a1 b0 b1 c0 c1 d0 d1 t f 0 ((T.drop i).foldl (stepB p a0 a1 b0 b1 c0 c1 d0 d1) acc)
  | 0, f, i, acc, hm, hi, _ => by
    have : i = T.length := by omega
    subst this
    rw [show 0 + 1 + f = f + 1 by omega, spec_MovesBetween.l0, if_neg (by simp)]
    simp
  | m + 1, f, i, acc, hm, hi, ha => by
    have hlt : i < T.length := by omega
    have ht := hT T[i] (List.getElem_mem hlt)
    have hs := stepB_len (p := p) (a0 := a0) (a1 := a1) (b0 := b0) (b1 := b1) (c0 := c0) (c1 := c1) (d0 := d0) (d1 := d1) (acc := acc) (m := T[i])
    rw [show m + 1 + 1 + f = (m + 1 + f) + 1 by omega, spec_MovesBetween.l0, if_pos (by simpa using hlt), idx_nat, List.getElem?_eq_getElem hlt, w_nat (by omega), List.drop_eq_getElem_cons hlt, List.foldl_cons]
    simp only [Option.bind_some]
    rw [one_step (R := fun acc => spec_MovesBetween.l0 K p k a0 a1 b0 b1 c0 c1 d0 d1 T (m + 1 + f) ((i + 1 : Nat) : Int) acc) hK hp i1 i2 i3 i4 i5 i6 T[i] ht acc (by omega)]
    exact mbS_l0 hK hp i1 i2 i3 i4 i5 i6 T hT hl m f (i + 1) _ (by omega) (by omega) (by omega)
theorem foldB_len : ∀ (L acc : List M6), (L.foldl (stepB p a0 a1 b0 b1 c0 c1 d0 d1) acc).length ≤ acc.length + L.length
  | [], acc => by simp
  | q :: L, acc => by
    rw [List.foldl_cons, List.length_cons]
    have h1 := foldB_len L (stepB p a0 a1 b0 b1 c0 c1 d0 d1 acc q)
    have h2 := stepB_len (p := p) (a0 := a0) (a1 := a1) (b0 := b0) (b1 := b1) (c0 := c0) (c1 := c1) (d0 := d0) (d1 := d1) (acc := acc) (m := q)
    omega
theorem foldB_eq : ∀ (L acc : List M6), L.foldl (stepB p a0 a1 b0 b1 c0 c1 d0 d1) acc = ((L.filter (rS p a0 a1 b0 b1 c0 c1 d0 d1)).map (abt p a0 a1 c0 c1)).foldl (fun acc x => ins lt6 x acc) acc
  | [], _ => rfl
  | q :: L, acc => by
    rw [List.foldl_cons, foldB_eq L, List.filter_cons]
    unfold stepB
    split
    · rw [List.map_cons, List.foldl_cons]
    · rfl
def movesL (p k a0 a1 b0 b1 c0 c1 d0 d1 : Int) : List M6 := isort lt4 (((kp p k).filter (rM p ((b0 - a0) % p) ((b1 - a1) % p) ((d0 - c0) % p) ((d1 - c1) % p))).map (shf p a0 a1 c0 c1))
theorem moves_eq (hp : isP p) (hk1 : 0 ≤ k) (hk2 : k ≤ 2) (i7 : In p d0) (i8 : In p d1) : (allM p k 1).foldl (stepB p a0 a1 b0 b1 c0 c1 d0 d1) ((allM p k (-1)).foldl (stepB p a0 a1 b0 b1 c0 c1 d0 d1) []) = movesL p k a0 a1 b0 b1 c0 c1 d0 d1 := by
  rw [← List.foldl_append, foldB_eq]
  have hkeys : ((((allM p k (-1)) ++ (allM p k 1)).filter (rS p a0 a1 b0 b1 c0 c1 d0 d1)).map (abt p a0 a1 c0 c1)).Pairwise (fun a b => key4 a ≠ key4 b) := by
    refine List.pairwise_map.2 (List.Pairwise.imp (fun {x y} h e => h e) (List.Pairwise.filter _ (List.pairwise_append.2 ⟨srt_keys allM_srt, srt_keys allM_srt, fun x hx y hy e => ?_⟩)))
    have h1 := ((mem_allM hp hk1 hk2 (.inr rfl)).1 hx).1.2.2
    have h2 := ((mem_allM hp hk1 hk2 (.inl rfl)).1 hy).1.2.2
    unfold key4 at e
    simp only [Prod.mk.injEq] at e
    rw [e.1, e.2.1, e.2.2.1, e.2.2.2] at h1
    exact signs_ne hp (h2.symm.trans h1)
  show isort lt6 _ = _
  rw [isort64 hkeys]
  unfold movesL
  refine srt_ext lt4_ord.irr lt4_ord.trans (isort_srt lt4_ord hkeys) (isort_srt lt4_ord filt_keys) fun z => ?_
  rw [isort_mem lt4_ord hkeys, isort_mem lt4_ord filt_keys, List.mem_map, List.mem_map]
  constructor
  · rintro ⟨m, hm, rfl⟩
    obtain ⟨hm, hr⟩ := List.mem_filter.1 hm
    rw [rS_rM hp i7 i8] at hr
    have hg : (In p m.1 ∧ In p m.2.1 ∧ In p m.2.2.1 ∧ In p m.2.2.2.1) ∧ goodB p k m.1 m.2.1 m.2.2.1 m.2.2.2.1 = true := by
      rcases List.mem_append.1 hm with hm | hm
      · have := ((mem_allM hp hk1 hk2 (.inr rfl)).1 hm).1
        exact ⟨this.1, this.2.1⟩
      · have := ((mem_allM hp hk1 hk2 (.inl rfl)).1 hm).1
        exact ⟨this.1, this.2.1⟩
    exact ⟨key4 m, List.mem_filter.2 ⟨(mem_kp hp).2 hg, hr⟩, rfl⟩
  · rintro ⟨q, hq, rfl⟩
    obtain ⟨h1, h2⟩ := List.mem_filter.1 hq
    obtain ⟨h3, h4⟩ := (mem_kp hp).1 h1
    refine ⟨(q.1, q.2.1, q.2.2.1, q.2.2.2, 0, 0), List.mem_filter.2 ⟨?_, ?_⟩, rfl⟩
    · rcases two_signs hp hk1 hk2 h4 with hd | hd
      · exact List.mem_append_right _ ((mem_allM hp hk1 hk2 (.inl rfl)).2 ⟨⟨h3, h4, hd⟩, rfl⟩)
      · exact List.mem_append_left _ ((mem_allM hp hk1 hk2 (.inr rfl)).2 ⟨⟨h3, h4, hd⟩, rfl⟩)
    · rw [rS_rM hp i7 i8]
      exact h2
theorem movesL_len (hp : isP p) (hk1 : 0 ≤ k) (hk2 : k ≤ 2) : (movesL p k a0 a1 b0 b1 c0 c1 d0 d1).length ≤ 140 := by
  unfold movesL
  rw [isort_len, List.length_map]
  exact Nat.le_trans (List.length_filter_le _ _) (kp_few hp hk1 hk2)
def ansMB (p k a0 a1 b0 b1 c0 c1 d0 d1 : Int) : List M6 × Int :=
  if pc p k [(a0, a1), (b0, b1), (c0, c1), (d0, d1)] = 0 then if quad k a0 a1 b0 b1 % p = 0 then ([], 5) else if quad k a0 a1 b0 b1 % p = quad k c0 c1 d0 d1 % p then (movesL p k a0 a1 b0 b1 c0 c1 d0 d1, 0) else ([], 5)
  else ([], pc p k [(a0, a1), (b0, b1), (c0, c1), (d0, d1)])
theorem ansMB_len : (ansMB p k a0 a1 b0 b1 c0 c1 d0 d1).1.length ≤ 2000 := by
  unfold ansMB
  split
  · obtain ⟨hp, _, hk1, hk2⟩ := pc_zero (by assumption)
    split
    · simp
    · split
      · exact Nat.le_trans (movesL_len hp hk1 hk2) (by decide)
      · simp
  · simp
theorem specMB (hK : 100000 ≤ K) : spec_MovesBetween.f K p k a0 a1 b0 b1 c0 c1 d0 d1 = some (ansMB p k a0 a1 b0 b1 c0 c1 d0 d1) := by
  unfold spec_MovesBetween.f ansMB
  rw [points3_nice [(a0, a1), (b0, b1), (c0, c1), (d0, d1)] (by simp) (by simp; omega)]
  by_cases h : pc p k [(a0, a1), (b0, b1), (c0, c1), (d0, d1)] = 0
  · obtain ⟨hp, ha, hk1, hk2⟩ := pc_zero h
    simp only [List.all_cons, List.all_nil, Bool.and_true, Bool.and_eq_true] at ha
    obtain ⟨i1, i2⟩ := inB_in ha.1
    obtain ⟨i3, i4⟩ := inB_in ha.2.1
    obtain ⟨i5, i6⟩ := inB_in ha.2.2.1
    obtain ⟨i7, i8⟩ := inB_in ha.2.2.2
    rw [if_pos h, h]
    simp only [Option.bind_some, beq_self_eq_true, if_true, specQuadrance_nice hp (i1.b hp) (i2.b hp) (i3.b hp) (i4.b hp), specQuadrance_nice hp (i5.b hp) (i6.b hp) (i7.b hp) (i8.b hp), beq_iff_eq]
    by_cases h1 : quad k a0 a1 b0 b1 % p = 0
    · rw [if_pos h1, if_pos h1]
    · rw [if_neg h1, if_neg h1]
      by_cases h2 : quad k a0 a1 b0 b1 % p = quad k c0 c1 d0 d1 % p
      · rw [if_pos h2, if_pos h2]
        simp only [all_nice hp hk1 hk2 (.inr rfl) (show 10000 ≤ K by omega), Option.bind_some]
        have hlen := allM_len (k := k) (s := -1) hp
        have hlen1 := allM_len (k := k) (s := 1) hp
        have hfl := foldB_len (p := p) (a0 := a0) (a1 := a1) (b0 := b0) (b1 := b1) (c0 := c0) (c1 := c1) (d0 := d0) (d1 := d1) (allM p k (-1)) []
        simp only [List.length_nil, Nat.zero_add] at hfl
        have q0 := mbS_l0 (K := K) (k := k) (d0 := d0) (d1 := d1) (by omega) hp i1 i2 i3 i4 i5 i6 (allM p k (-1)) (fun m hm => ((mem_allM hp hk1 hk2 (.inr rfl)).1 hm).1.1) (by omega) (allM p k (-1)).length (K - ((allM p k (-1)).length + 1)) 0 [] (by omega) (by omega) (by simp)
        rw [show (allM p k (-1)).length + 1 + (K - ((allM p k (-1)).length + 1)) = K by omega] at q0
        simp only [Int.natCast_zero, Int.ofNat_zero, List.drop_zero, all_nice hp hk1 hk2 (.inl rfl) (show 10000 ≤ K by omega), Option.bind_some] at q0
        have q1 := mbS_l1 (K := K) (d0 := d0) (d1 := d1) (by omega) hp i1 i2 i3 i4 i5 i6 (allM p k 1) (fun m hm => ((mem_allM hp hk1 hk2 (.inl rfl)).1 hm).1.1) (by omega) (allM p k 1).length (K - ((allM p k (-1)).length + 1)) 0 ((allM p k (-1)).foldl (stepB p a0 a1 b0 b1 c0 c1 d0 d1) []) (by omega) (by omega) (by omega) (by omega)
        simp only [Int.natCast_zero, Int.ofNat_zero, List.drop_zero] at q1
        rw [q0, q1, moves_eq hp hk1 hk2 i7 i8]
      · rw [if_neg h2, if_neg h2]
  · rw [if_neg h]
    simp [h]
theorem implMB (hK : 100000 ≤ K) : impl_MovesBetween.f K p k a0 a1 b0 b1 c0 c1 d0 d1 = some (ansMB p k a0 a1 b0 b1 c0 c1 d0 d1) := by
  unfold impl_MovesBetween.f ansMB
  rw [askedMB (by omega)]
  by_cases h : pc p k [(a0, a1), (b0, b1), (c0, c1), (d0, d1)] = 0
  · obtain ⟨hp, ha, hk1, hk2⟩ := pc_zero h
    simp only [List.all_cons, List.all_nil, Bool.and_true, Bool.and_eq_true] at ha
    obtain ⟨i1, i2⟩ := inB_in ha.1
    obtain ⟨i3, i4⟩ := inB_in ha.2.1
    obtain ⟨i5, i6⟩ := inB_in ha.2.2.1
    obtain ⟨i7, i8⟩ := inB_in ha.2.2.2
    rw [if_pos h, h]
    simp only [Option.bind_some, beq_self_eq_true, if_true, implQuadrance_nice hp (i1.b hp) (i2.b hp) (i3.b hp) (i4.b hp), implQuadrance_nice hp (i5.b hp) (i6.b hp) (i7.b hp) (i8.b hp), beq_iff_eq, less_nice hp (i3.b hp) (i4.b hp) (i1.b hp) (i2.b hp), less_nice hp (i7.b hp) (i8.b hp) (i5.b hp) (i6.b hp),
      mb_nice (u0 := (b0 - a0) % p) (u1 := (b1 - a1) % p) (v0 := (d0 - c0) % p) (v1 := (d1 - c1) % p) hK hp hk1 hk2 i1 i2 i5 i6 (mod_in hp _) (mod_in hp _) (Nat.le_trans (List.length_filter_le _ _) (Nat.le_trans (kp_few hp hk1 hk2) (by decide)))]
    split
    · rfl
    · split <;> rfl
  · rw [if_neg h]
    simp [h]
theorem law_FnExactMovesBetween (hK : 100000 ≤ K) (p k a0 a1 b0 b1 c0 c1 d0 d1 : Int) : laws_FnExactMovesBetween.f K p k a0 a1 b0 b1 c0 c1 d0 d1 = some true := by
  have hlen : (ansMB p k a0 a1 b0 b1 c0 c1 d0 d1).1.length ≤ 2000 := ansMB_len
  unfold laws_FnExactMovesBetween.f
  simp only [toPoint_nice, Option.bind_some]
  rw [specMB hK, implMB hK]
  generalize ansMB p k a0 a1 b0 b1 c0 c1 d0 d1 = z at *
  obtain ⟨xs, code⟩ := z
  simp only at hlen ⊢
  simp only [Option.bind_some]
  rw [eqM_nice xs (by omega) (by omega), markM_nice xs (by omega) (by omega)]
  simp only [Option.bind_some]
  rw [heldM_nice xs.length (by omega) (by omega)]
  have hneg : ¬ (((1 + 6 * xs.length : Nat) : Int) < 0) := by omega
  simp only [Option.bind_some, beq_self_eq_true, if_true, hneg, decide_false, Bool.false_eq_true, if_false]
end
end Go.Proofs.Ytbibgeoohpgaeaa
