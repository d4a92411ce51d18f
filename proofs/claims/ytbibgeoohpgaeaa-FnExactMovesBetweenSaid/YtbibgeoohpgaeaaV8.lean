/- Plain laws of moves: the order of moves, a move put to its place, all moves that keep the origin. -/
import Derived.Test.YtbibgeoohpgaeaaV7
import Derived.KernelRfl
namespace Go.Proofs.Ytbibgeoohpgaeaa
open Go Go.RowKit
set_option linter.unusedVariables false
set_option linter.unusedSimpArgs false
theorem before_nice {K : Nat} (hK : 10 ≤ K) (x y : M6) : impl_before.f K [x.1, x.2.1, x.2.2.1, x.2.2.2.1] [y.1, y.2.1, y.2.2.1, y.2.2.2.1] = some (lt4 x y) := by
  obtain ⟨k, rfl⟩ : ∃ k, K = k + 10 := ⟨K - 10, by omega⟩
  unfold impl_before.f lt4
  by_cases h1 : x.1 = y.1
  · by_cases h2 : x.2.1 = y.2.1
    · by_cases h3 : x.2.2.1 = y.2.2.1
      · by_cases h4 : x.2.2.2.1 = y.2.2.2.1
        · simp [impl_before.l0, idx, wrap64, h1, h2, h3, h4]
        · simp [impl_before.l0, idx, wrap64, h1, h2, h3, h4]
      · simp [impl_before.l0, idx, wrap64, h1, h2, h3]
    · simp [impl_before.l0, idx, wrap64, h1, h2]
  · simp [impl_before.l0, idx, wrap64, h1]
theorem less6_nice {K : Nat} (x y : M6) : spec_l07Less.f K x.1 x.2.1 x.2.2.1 x.2.2.2.1 x.2.2.2.2.1 x.2.2.2.2.2 y.1 y.2.1 y.2.2.1 y.2.2.2.1 y.2.2.2.2.1 y.2.2.2.2.2 = some (lt6 x y) := by
  unfold spec_l07Less.f lt6
  by_cases h1 : x.1 = y.1
  · by_cases h2 : x.2.1 = y.2.1
    · by_cases h3 : x.2.2.1 = y.2.2.1
      · by_cases h4 : x.2.2.2.1 = y.2.2.2.1
        · by_cases h5 : x.2.2.2.2.1 = y.2.2.2.2.1
          · simp [h1, h2, h3, h4, h5]
          · simp [h1, h2, h3, h4, h5]
        · simp [h1, h2, h3, h4]
      · simp [h1, h2, h3]
    · simp [h1, h2]
  · simp [h1]
theorem cutHi_at {α : Type} (xs ys : List α) : cutHi (xs ++ ys) (xs.length : Int) = some xs := by
  unfold cutHi
  rw [if_pos ⟨by omega, by rw [List.length_append]; omega⟩]
  simp
theorem cutLo_at {α : Type} (xs ys : List α) : cutLo (xs ++ ys) (xs.length : Int) = some ys := by
  unfold cutLo
  rw [if_pos ⟨by omega, by rw [List.length_append]; omega⟩]
  simp
theorem w_dec {i : Nat} (h : i ≤ 1000000000) : wrap64 (((i + 1 : Nat) : Int) - 1) = (i : Int) := by
  rw [w_eq ⟨by omega⟩]
  omega
theorem idx_mid {α : Type} (xs ys : List α) (y : α) : idx (xs ++ y :: ys) (xs.length : Int) = some y := by
  rw [idx_nat, List.getElem?_append_right (Nat.le_refl _)]
  simp
theorem put_l0 {K : Nat} (x : M6) (L : List M6) (hl : L.length ≤ 900000) : ∀ (r post : List M6) (k : Nat), L = r.reverse ++ post → r.length < k → spec_l07Put.l0 K L x.1 x.2.1 x.2.2.1 x.2.2.2.1 x.2.2.2.2.1 x.2.2.2.2.2 k (r.length : Int) = some (bub lt6 x r post)
  | [], post, k + 1, e, _ => by
    have e1 : L = post := by simpa using e
    have h1 := cutHi_at ([] : List M6) L
    have h2 := cutLo_at ([] : List M6) L
    simp only [List.nil_append, List.length_nil, Int.natCast_zero, Int.ofNat_zero] at h1 h2
    rw [spec_l07Put.l0, if_neg (by simp)]
    simp only [List.length_nil, Int.natCast_zero, Int.ofNat_zero, h1, h2, Option.bind_some, List.nil_append, Nat.zero_le, decide_true, if_true, List.length_cons]
    rw [if_pos (by simp), if_pos (decide_eq_true (by omega)), e1]
    rfl
  | y :: r, post, k + 1, e, hk => by
    have hlen : L.length = r.length + 1 + post.length := by rw [e]; simp; omega
    have e1 : L = r.reverse ++ y :: post := by rw [e]; simp
    have hi : idx L (r.length : Int) = some y := by
      have := idx_mid r.reverse post y
      rw [List.length_reverse] at this
      rw [e1]; exact this
    have h1 := cutHi_at (y :: r).reverse post
    have h2 := cutLo_at (y :: r).reverse post
    rw [List.length_reverse, ← e] at h1 h2
    have hkl : r.length < k := by simp only [List.length_cons] at hk; omega
    have ih := put_l0 (K := K) x L hl r (y :: post) k e1 hkl
    have hpos : decide ((0 : Int) < ((y :: r).length : Int)) = true := decide_eq_true (by simp only [List.length_cons]; omega)
    rw [spec_l07Put.l0, if_pos hpos]
    rw [show wrap64 (((y :: r).length : Int) - 1) = (r.length : Int) by rw [List.length_cons]; exact w_dec (by omega), hi]
    simp only [Option.bind_some]
    rw [less6_nice x y]
    unfold bub
    cases hlt : lt6 x y
    · simp only [Option.bind_some, Bool.false_eq_true, if_false, h1, h2]
      have q1 : (y :: r).reverse.length = r.length + 1 := by simp
      rw [if_pos (decide_eq_true (by rw [q1]; omega)), if_pos (decide_eq_true (by rw [List.length_append, q1]; simp only [List.length_cons, List.length_nil]; omega)), if_pos (decide_eq_true (by omega))]
      simp
    · simp only [Option.bind_some, if_true]
      exact ih
theorem put_nice {K : Nat} (x : M6) (L : List M6) (hl : L.length ≤ 900000) (hK : L.length < K) : spec_l07Put.f K L x.1 x.2.1 x.2.2.1 x.2.2.2.1 x.2.2.2.2.1 x.2.2.2.2.2 = some (ins lt6 x L) := by
  unfold spec_l07Put.f ins
  have := put_l0 (K := K) x L hl L.reverse [] K (by simp) (by simpa using hK)
  rw [List.length_reverse] at this
  exact this
/-! ### All moves that keep the origin, with one sign -/
def cand (p k s : Int) (q : Int × Int) : M6 := (q.1, colB p k s q.1 q.2, q.2, colD p k s q.1 q.2, 0, 0)
def tstB (p k s : Int) (q : Int × Int) : Bool := goodB p k q.1 (colB p k s q.1 q.2) q.2 (colD p k s q.1 q.2) && detM p q.1 (colB p k s q.1 q.2) q.2 (colD p k s q.1 q.2) == s % p
def stepA (p k s : Int) (acc : List M6) (q : Int × Int) : List M6 := if tstB p k s q = true then ins lt6 (cand p k s q) acc else acc
theorem sign_nice {K : Nat} {p a b c d : Int} (hp : isP p) (h1 : B 31 a) (h2 : B 31 b) (h3 : B 31 c) (h4 : B 31 d) : spec_l07Sign.f K p a b c d 0 0 = some (detM p a b c d) := by
  unfold spec_l07Sign.f detM
  simp (disch := exact Sm.of (by repeat' first | assumption | apply B.add | apply B.sub | apply B.mul | exact B.mod hp _ | exact B.const _) rfl) only [w_eq, mod_nice hp, Option.bind_some]
theorem stepA_len {p k s : Int} {acc : List M6} {q : Int × Int} : (stepA p k s acc q).length ≤ acc.length + 1 := by
  unfold stepA
  split
  · rw [ins_len]; omega
  · omega
theorem tail_step {K : Nat} {p k s x y : Int} {acc : List M6} (R : List M6 → Option (List M6)) (hp : isP p) (hx : In p x) (hy : In p y) (hl : acc.length ≤ 5000) (hK : 10000 ≤ K) :
    ((spec_l07Good.f K p k x (colB p k s x y) y (colD p k s x y) 0 0).bind fun t68 => (if t68 = true then ((spec_l07Sign.f K p x (colB p k s x y) y (colD p k s x y) 0 0).bind fun t73 => ((spec_l01Mod.f K s p).bind fun t77 => (if (t73 == t77) = true then ((spec_l07Put.f K acc x (colB p k s x y) y (colD p k s x y) 0 0).bind fun t82 => R t82) else R acc))) else R acc)) = R (stepA p k s acc (x, y)) := by
  have bu : B 31 (colB p k s x y) := B.mod hp _
  have bv : B 31 (colD p k s x y) := B.mod hp _
  have hput := put_nice (K := K) (x, colB p k s x y, y, colD p k s x y, 0, 0) acc (by omega) (by omega)
  dsimp only at hput
  rw [specGood_nice hp (hx.b hp) bu (hy.b hp) bv, sign_nice hp (hx.b hp) bu (hy.b hp) bv, mod_nice hp, hput]
  unfold stepA tstB cand
  dsimp only
  simp only [Option.bind_some]
  generalize goodB p k x (colB p k s x y) y (colD p k s x y) = g
  generalize (detM p x (colB p k s x y) y (colD p k s x y) == s % p) = b
  cases g <;> cases b <;> simp
theorem tail_step' {K : Nat} {p k s x y : Int} {acc : List M6} (R : List M6 → Option (List M6)) (hp : isP p) (hx : In p x) (hy : In p y) (hl : acc.length ≤ 5000) (hK : 10000 ≤ K) :
    ((spec_l07Good.f K p k x (colB p k s x y) y (colD p k s x y) 0 0).bind fun t68 => (if t68 = true then ((spec_l07Sign.f K p x (colB p k s x y) y (colD p k s x y) 0 0).bind fun t73 => (if (t73 == s % p) = true then ((spec_l07Put.f K acc x (colB p k s x y) y (colD p k s x y) 0 0).bind fun t82 => R t82) else R acc)) else R acc)) = R (stepA p k s acc (x, y)) := by
  have := tail_step (K := K) (k := k) (s := s) (acc := acc) R hp hx hy hl hK
  simp only [mod_nice hp, Option.bind_some] at this
  exact this
theorem all_step {K f : Nat} {p k s x y : Int} {acc : List M6} (hp : isP p) (hk1 : 0 ≤ k) (hk2 : k ≤ 2) (hs : s = 1 ∨ s = -1) (hx : In p x) (hy : In p y) (hl : acc.length ≤ 5000) (hK : 10000 ≤ K) :
    spec_l07All.l1 K p k s x (f + 1) y acc = spec_l07All.l1 K p k s x f (wrap64 (y + 1)) (stepA p k s acc (x, y)) := by
  have hK' : 100 ≤ K := by omega
  have bs : B 1 s := ⟨by rcases hs with rfl | rfl <;> omega⟩
  have bx := hx.b hp
  have by_ := hy.b hp
  rw [spec_l07All.l1, if_pos (decide_eq_true hy.out.2)]
  rcases thr hk1 hk2 with rfl | rfl | rfl
  · rw [if_pos (show ((0 : Int) == 0) = true from rfl), w_eq (x := -s) (Sm.of bs.neg rfl), w_eq (x := -s * y) (Sm.of (bs.neg.mul by_) rfl), w_eq (x := s * x) (Sm.of (bs.mul bx) rfl), mod_nice hp, mod_nice hp]
    simp only [Option.bind_some]
    rw [show -s * y % p = colB p 0 s x y by simp [colB], show s * x % p = colD p 0 s x y by simp [colD]]
    exact tail_step (spec_l07All.l1 K p 0 s x f (wrap64 (y + 1))) hp hx hy hl hK
  · rw [if_neg (show ¬ ((1 : Int) == 0) = true by decide), if_neg (show ¬ ((1 : Int) == 2) = true by decide)]
    simp only [w_eq (x := s * y) (Sm.of (bs.mul by_) rfl), w_eq (x := s * x) (Sm.of (bs.mul bx) rfl), mod_nice hp, Option.bind_some]
    rw [show s * y % p = colB p 1 s x y by simp [colB], show s * x % p = colD p 1 s x y by simp [colD]]
    exact tail_step' (spec_l07All.l1 K p 1 s x f (wrap64 (y + 1))) hp hx hy hl hK
  · rw [if_neg (show ¬ ((2 : Int) == 0) = true by decide), if_pos (show ((2 : Int) == 2) = true from rfl)]
    by_cases h1 : x = 0
    · rw [if_pos (by simp [h1])]
      by_cases h2 : y = 0
      · rw [if_pos (by simp [h2])]
        simp only [mod_nice hp, Option.bind_some]
        rw [show y % p = colB p 2 s x y by simp [colB, h2], show x % p = colD p 2 s x y by simp [colD, h1]]
        exact tail_step' (spec_l07All.l1 K p 2 s x f (wrap64 (y + 1))) hp hx hy hl hK
      · rw [if_neg (by simp [h2])]
        simp only [specInverse_nice hK' hp hy, mod_nice hp, Option.bind_some]
        rw [show inv p y % p = colB p 2 s x y by simp [colB, h2], show x % p = colD p 2 s x y by simp [colD, h1]]
        exact tail_step' (spec_l07All.l1 K p 2 s x f (wrap64 (y + 1))) hp hx hy hl hK
    · rw [if_neg (by simp [h1])]
      simp only [specInverse_nice hK' hp hx, Option.bind_some]
      by_cases h2 : y = 0
      · rw [if_pos (by simp [h2])]
        simp only [mod_nice hp, Option.bind_some]
        rw [show y % p = colB p 2 s x y by simp [colB, h2], show inv p x % p = colD p 2 s x y by simp [colD, h1]]
        exact tail_step' (spec_l07All.l1 K p 2 s x f (wrap64 (y + 1))) hp hx hy hl hK
      · rw [if_neg (by simp [h2])]
        simp only [specInverse_nice hK' hp hy, mod_nice hp, Option.bind_some]
        rw [show inv p y % p = colB p 2 s x y by simp [colB, h2], show inv p x % p = colD p 2 s x y by simp [colD, h1]]
        exact tail_step' (spec_l07All.l1 K p 2 s x f (wrap64 (y + 1))) hp hx hy hl hK
theorem all_l1 {K : Nat} {p k s : Int} (hp : isP p) (hk1 : 0 ≤ k) (hk2 : k ≤ 2) (hs : s = 1 ∨ s = -1) (hK : 10000 ≤ K) (x : Nat) (hx : x < p.toNat) : ∀ (m f y : Nat) (acc : List M6), p.toNat - y = m → y ≤ p.toNat → acc.length ≤ 5000 - m →
    spec_l07All.l1 K p k s x (m + 1 + f) y acc = spec_l07All.l0 K p k s f ((x + 1 : Nat) : Int) (((List.range' y m).map fun (y : Nat) => ((x : Int), (y : Int))).foldl (stepA p k s) acc)
  | 0, f, y, acc, hm, hy, _ => by
    have := hp.lt
    rw [show 0 + 1 + f = f + 1 by omega, spec_l07All.l1, if_neg (by simp; omega), w_nat (by omega)]
    simp
  | m + 1, f, y, acc, hm, hy, hl => by
    have := hp.lt
    have hs1 := stepA_len (p := p) (k := k) (s := s) (acc := acc) (q := ((x : Int), (y : Int)))
    rw [show m + 1 + 1 + f = (m + 1 + f) + 1 by omega, all_step hp hk1 hk2 hs ⟨by omega⟩ ⟨by omega⟩ (by omega) hK, w_nat (by omega), all_l1 hp hk1 hk2 hs hK x hx m f (y + 1) _ (by omega) (by omega) (by omega)]
    simp only [List.range'_succ, List.map_cons, List.foldl_cons]
theorem foldA_len {p k s : Int} : ∀ (L : List (Int × Int)) (acc : List M6), (L.foldl (stepA p k s) acc).length ≤ acc.length + L.length
  | [], acc => by simp
  | q :: L, acc => by
    rw [List.foldl_cons, List.length_cons]
    have h1 := foldA_len (p := p) (k := k) (s := s) L (stepA p k s acc q)
    have h2 := stepA_len (p := p) (k := k) (s := s) (acc := acc) (q := q)
    omega
theorem all_l0 {K : Nat} {p k s : Int} (hp : isP p) (hk1 : 0 ≤ k) (hk2 : k ≤ 2) (hs : s = 1 ∨ s = -1) (hK : 10000 ≤ K) : ∀ (m f x : Nat) (acc : List M6), p.toNat - x = m → x ≤ p.toNat → acc.length ≤ x * p.toNat →
    spec_l07All.l0 K p k s (m * (p.toNat + 2) + 1 + f) x acc = some (((List.range' x m).flatMap fun (x : Nat) => (List.range p.toNat).map fun (y : Nat) => ((x : Int), (y : Int))).foldl (stepA p k s) acc)
  | 0, f, x, acc, hm, hx, hl => by
    have := hp.lt
    rw [show 0 * (p.toNat + 2) + 1 + f = f + 1 by omega, spec_l07All.l0, if_neg (by simp; omega)]
    simp
  | m + 1, f, x, acc, hm, hx, hl => by
    have := hp.lt
    have hsz : x * p.toNat ≤ 31 * 31 := Nat.mul_le_mul (by omega) (by omega)
    have hsz2 : (x + 1) * p.toNat = x * p.toNat + p.toNat := by rw [Nat.add_mul]; omega
    have hKe : (m + 1) * (p.toNat + 2) + 1 + f = (p.toNat + 1 + (m * (p.toNat + 2) + 1 + f)) + 1 := by rw [Nat.add_mul]; omega
    rw [hKe, spec_l07All.l0, if_pos (by simp; omega)]
    have h7 := all_l1 (K := K) hp hk1 hk2 hs hK x (by omega) p.toNat (m * (p.toNat + 2) + 1 + f) 0 acc (by omega) (by omega) (by omega)
    simp only [Int.natCast_zero, Int.ofNat_zero] at h7
    have hfl := foldA_len (p := p) (k := k) (s := s) ((List.range' 0 p.toNat).map fun (y : Nat) => ((x : Int), (y : Int))) acc
    rw [List.length_map, List.length_range'] at hfl
    rw [h7, all_l0 hp hk1 hk2 hs hK m f (x + 1) _ (by omega) (by omega) (by omega)]
    simp [List.range'_succ, List.range_eq_range', List.foldl_append]
/-- All moves with one sign, in order. -/
def allM (p k s : Int) : List M6 := isort lt6 (((allPts p).filter (tstB p k s)).map (cand p k s))
theorem foldA_eq {p k s : Int} : ∀ (L : List (Int × Int)) (acc : List M6), L.foldl (stepA p k s) acc = ((L.filter (tstB p k s)).map (cand p k s)).foldl (fun acc x => ins lt6 x acc) acc
  | [], _ => rfl
  | q :: L, acc => by
    rw [List.foldl_cons, foldA_eq L, List.filter_cons]
    unfold stepA
    split
    · rw [List.map_cons, List.foldl_cons]
    · rfl
theorem all_nice {K : Nat} {p k s : Int} (hp : isP p) (hk1 : 0 ≤ k) (hk2 : k ≤ 2) (hs : s = 1 ∨ s = -1) (hK : 10000 ≤ K) : spec_l07All.f K p k s = some (allM p k s) := by
  have hpl := hp.lt
  unfold spec_l07All.f allM isort allPts
  have hsz : p.toNat * (p.toNat + 2) ≤ 31 * 33 := Nat.mul_le_mul (by omega) (by omega)
  have hKe : K = p.toNat * (p.toNat + 2) + 1 + (K - (p.toNat * (p.toNat + 2) + 1)) := by omega
  have := all_l0 (K := K) hp hk1 hk2 hs hK p.toNat (K - (p.toNat * (p.toNat + 2) + 1)) 0 [] (by omega) (by omega) (by simp)
  simp only [Int.natCast_zero, Int.ofNat_zero] at this
  rw [← hKe] at this
  rw [this, foldA_eq, List.range_eq_range']
end Go.Proofs.Ytbibgeoohpgaeaa
