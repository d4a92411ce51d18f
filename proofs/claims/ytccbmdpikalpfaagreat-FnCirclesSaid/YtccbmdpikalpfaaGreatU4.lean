/- Plain laws: Ptolemy's theorem over the field, the points of a line, and what the law of radicals asks of the functions. -/
import Derived.Test.YtccbmdpikalpfaaGreatU3
namespace Go.Proofs.YtccbmdpikalpfaaGreat
open Go Go.RowKit
set_option linter.unusedVariables false
set_option linter.unusedSimpArgs false
theorem inB_mk {p x y : Int} (hx : In p x) (hy : In p y) : inB p (x, y) = true := by
  have := hx.out; have := hy.out
  simp only [inB, decide_eq_true_eq]
  omega
theorem inN_mk {p x : Int} (hx : In p x) : inN p x = true := decide_eq_true hx.out
/-! ### Ptolemy -/
section
variable {n : Nat} [NeZero n]
def det3 (x1 y1 x2 y2 x3 y3 : Fin n) : Fin n := (x2 - x1) * (y3 - y1) - (y2 - y1) * (x3 - x1)
theorem ptol_lam {l1 l2 l3 m12 m13 m14 m23 m24 m34 : Fin n} (h1 : l2 * m12 + l3 * m13 + m14 = 0) (h2 : l1 * m12 + l3 * m23 + m24 = 0) (h3 : l1 * m13 + l2 * m23 + m34 = 0) (h4 : l1 * m14 + l2 * m24 + l3 * m34 = 0) (two : ∀ x : Fin n, 2 * x = 0 → x = 0) :
    (m12 * m34 + m23 * m14 + m13 * m24) * (m12 * m34 + m23 * m14 + m13 * m24) - 2 * (m12 * m34 * (m12 * m34) + m23 * m14 * (m23 * m14) + m13 * m24 * (m13 * m24)) = 0 := by
  have e1 : m14 = -(l2 * m12 + l3 * m13) := by grind
  have e2 : m24 = -(l1 * m12 + l3 * m23) := by grind
  have e3 : m34 = -(l1 * m13 + l2 * m23) := by grind
  subst e1 e2 e3
  have hS : l1 * l2 * m12 + l1 * l3 * m13 + l2 * l3 * m23 = 0 := two _ (by grind)
  have key : (m12 * -(l1 * m13 + l2 * m23) + m23 * -(l2 * m12 + l3 * m13) + m13 * -(l1 * m12 + l3 * m23)) * (m12 * -(l1 * m13 + l2 * m23) + m23 * -(l2 * m12 + l3 * m13) + m13 * -(l1 * m12 + l3 * m23)) - 2 * (m12 * -(l1 * m13 + l2 * m23) * (m12 * -(l1 * m13 + l2 * m23)) + m23 * -(l2 * m12 + l3 * m13) * (m23 * -(l2 * m12 + l3 * m13)) + m13 * -(l1 * m12 + l3 * m23) * (m13 * -(l1 * m12 + l3 * m23))) = 4 * (m12 * m13 * m23) * (l1 * l2 * m12 + l1 * l3 * m13 + l2 * l3 * m23) := by grind
  rw [key, hS]
  grind
theorem lamS {D1 D2 D3 D4 i a1 a2 a3 a4 : Fin n} (hi : D4 * i = 1) (h : -D1 * a1 + D2 * a2 - D3 * a3 + D4 * a4 = 0) : -D1 * i * a1 + D2 * i * a2 + -D3 * i * a3 + a4 = 0 := by
  have h1 : (-D1 * a1 + D2 * a2 - D3 * a3 + D4 * a4) * i = 0 := by rw [h]; grind
  have h2 : (-D1 * a1 + D2 * a2 - D3 * a3 + D4 * a4) * i = -D1 * i * a1 + D2 * i * a2 + -D3 * i * a3 + D4 * i * a4 := by clear h h1 hi; grind
  have h3 : D4 * i * a4 = a4 := by rw [hi]; grind
  rw [← h3, ← h2, h1]
def M4 (f g h q x y u v : Fin n) : Fin n := q - (f * (x * u) + g * (x * v + y * u) + h * (y * v))
theorem M4_comm {f g h q x y u v : Fin n} : M4 f g h q x y u v = M4 f g h q u v x y := by unfold M4; grind
theorem M4_row {f g h q x y x1 y1 x2 y2 x3 y3 x4 y4 l1 l2 l3 : Fin n} (s0 : l1 * 1 + l2 * 1 + l3 * 1 + 1 = 0) (sx : l1 * x1 + l2 * x2 + l3 * x3 + x4 = 0) (sy : l1 * y1 + l2 * y2 + l3 * y3 + y4 = 0) :
    l1 * M4 f g h q x y x1 y1 + l2 * M4 f g h q x y x2 y2 + l3 * M4 f g h q x y x3 y3 + M4 f g h q x y x4 y4 = 0 := by
  have e : l1 * M4 f g h q x y x1 y1 + l2 * M4 f g h q x y x2 y2 + l3 * M4 f g h q x y x3 y3 + M4 f g h q x y x4 y4 =
      q * (l1 * 1 + l2 * 1 + l3 * 1 + 1) - (f * x + g * y) * (l1 * x1 + l2 * x2 + l3 * x3 + x4) - (g * x + h * y) * (l1 * y1 + l2 * y2 + l3 * y3 + y4) := by
    clear s0 sx sy
    unfold M4
    grind
  rw [e, s0, sx, sy]
  clear e s0 sx sy
  grind
theorem drop1 {a k b : Fin n} (hk : k = 0) (h : a * k + b = 0) : b = 0 := by
  rw [hk] at h
  grind
/-- Four points alike far from a fifth, three of them not on a line. -/
theorem ptol {f g h q i x1 y1 x2 y2 x3 y3 x4 y4 : Fin n} (hi : det3 x1 y1 x2 y2 x3 y3 * i = 1) (two : ∀ x : Fin n, 2 * x = 0 → x = 0)
    (k1 : M4 f g h q x1 y1 x1 y1 = 0) (k2 : M4 f g h q x2 y2 x2 y2 = 0) (k3 : M4 f g h q x3 y3 x3 y3 = 0) (k4 : M4 f g h q x4 y4 x4 y4 = 0)
    {m12 m13 m14 m23 m24 m34 : Fin n} (e12 : m12 = M4 f g h q x1 y1 x2 y2) (e13 : m13 = M4 f g h q x1 y1 x3 y3) (e14 : m14 = M4 f g h q x1 y1 x4 y4) (e23 : m23 = M4 f g h q x2 y2 x3 y3) (e24 : m24 = M4 f g h q x2 y2 x4 y4) (e34 : m34 = M4 f g h q x3 y3 x4 y4) :
    (m12 * m34 + m23 * m14 + m13 * m24) * (m12 * m34 + m23 * m14 + m13 * m24) - 2 * (m12 * m34 * (m12 * m34) + m23 * m14 * (m23 * m14) + m13 * m24 * (m13 * m24)) = 0 := by
  have d0 : -det3 x2 y2 x3 y3 x4 y4 * 1 + det3 x1 y1 x3 y3 x4 y4 * 1 - det3 x1 y1 x2 y2 x4 y4 * 1 + det3 x1 y1 x2 y2 x3 y3 * 1 = 0 := by clear hi k1 k2 k3 k4 e12 e13 e14 e23 e24 e34; unfold det3; grind
  have dx : -det3 x2 y2 x3 y3 x4 y4 * x1 + det3 x1 y1 x3 y3 x4 y4 * x2 - det3 x1 y1 x2 y2 x4 y4 * x3 + det3 x1 y1 x2 y2 x3 y3 * x4 = 0 := by clear d0 hi k1 k2 k3 k4 e12 e13 e14 e23 e24 e34; unfold det3; grind
  have dy : -det3 x2 y2 x3 y3 x4 y4 * y1 + det3 x1 y1 x3 y3 x4 y4 * y2 - det3 x1 y1 x2 y2 x4 y4 * y3 + det3 x1 y1 x2 y2 x3 y3 * y4 = 0 := by clear d0 dx hi k1 k2 k3 k4 e12 e13 e14 e23 e24 e34; unfold det3; grind
  have s0 := lamS hi d0
  have sx := lamS hi dx
  have sy := lamS hi dy
  have r1 := M4_row (f := f) (g := g) (h := h) (q := q) (x := x1) (y := y1) s0 sx sy
  have r2 := M4_row (f := f) (g := g) (h := h) (q := q) (x := x2) (y := y2) s0 sx sy
  have r3 := M4_row (f := f) (g := g) (h := h) (q := q) (x := x3) (y := y3) s0 sx sy
  have r4 := M4_row (f := f) (g := g) (h := h) (q := q) (x := x4) (y := y4) s0 sx sy
  rw [k1, ← e12, ← e13, ← e14] at r1
  rw [k2, M4_comm, ← e12, ← e23, ← e24] at r2
  rw [k3, M4_comm (x := x3) (u := x1), M4_comm (x := x3) (u := x2), ← e13, ← e23, ← e34] at r3
  rw [k4, M4_comm (x := x4) (u := x1), M4_comm (x := x4) (u := x2), M4_comm (x := x4) (u := x3), ← e14, ← e24, ← e34] at r4
  clear k1 k2 k3 k4 e12 e13 e14 e23 e24 e34 s0 sx sy d0 dx dy
  generalize -det3 x2 y2 x3 y3 x4 y4 * i = l1 at *
  generalize det3 x1 y1 x3 y3 x4 y4 * i = l2 at *
  generalize -det3 x1 y1 x2 y2 x4 y4 * i = l3 at *
  clear hi
  refine ptol_lam (l1 := l1) (l2 := l2) (l3 := l3) ?_ ?_ ?_ ?_ two
  · clear two r2 r3 r4; grind
  · clear two r1 r3 r4; grind
  · clear two r1 r2 r4; grind
  · clear two r1 r2 r3; grind
def frm (f g h x y : Fin n) : Fin n := f * (x * x) + 2 * g * (x * y) + h * (y * y)
theorem frm_diff {f g h q x1 y1 x2 y2 : Fin n} (h1 : frm f g h x1 y1 = q) (h2 : frm f g h x2 y2 = q) : frm f g h (x2 - x1) (y2 - y1) = 2 * M4 f g h q x1 y1 x2 y2 := by
  have e : frm f g h (x2 - x1) (y2 - y1) = frm f g h x1 y1 + frm f g h x2 y2 - 2 * (f * (x1 * x2) + g * (x1 * y2 + y1 * x2) + h * (y1 * y2)) := by
    clear h1 h2
    unfold frm
    grind
  rw [e, h1, h2]
  clear e h1 h2
  unfold M4
  grind
theorem frm_self {f g h q x y : Fin n} (h1 : frm f g h x y = q) : M4 f g h q x y x y = 0 := by
  subst h1
  unfold M4 frm
  grind
theorem quad_frm {c : Int} (hn : 2 < n) (hc1 : 0 ≤ c) (hc2 : c ≤ 2) : ∃ f g h : Fin n, ∀ a0 a1 b0 b1 : Int, cst n (quad c a0 a1 b0 b1) = frm f g h (cst n b0 - cst n a0) (cst n b1 - cst n a1) := by
  rcases three hc1 hc2 with rfl | rfl | rfl
  · refine ⟨1, 0, 1, fun a0 a1 b0 b1 => ?_⟩
    simp only [quad, prod, if_true, cst_add, cst_sub, cst_mul, frm]
    grind
  · refine ⟨1, 0, -1, fun a0 a1 b0 b1 => ?_⟩
    simp only [quad, prod, if_true, if_false, show ¬ (1 : Int) = 0 by decide, cst_add, cst_sub, cst_mul, frm]
    grind
  · refine ⟨0, 1, 0, fun a0 a1 b0 b1 => ?_⟩
    simp only [quad, prod, if_false, show ¬ (2 : Int) = 0 by decide, show ¬ (2 : Int) = 1 by decide, cst_add, cst_sub, cst_mul, frm]
    grind
theorem quad_M4 {c : Int} {f g h q u v : Fin n} (hq : ∀ a0 a1 b0 b1 : Int, cst n (quad c a0 a1 b0 b1) = frm f g h (cst n b0 - cst n a0) (cst n b1 - cst n a1)) {a0 a1 b0 b1 : Int}
    (hA : frm f g h (cst n a0 - u) (cst n a1 - v) = q) (hB : frm f g h (cst n b0 - u) (cst n b1 - v) = q) : cst n (quad c a0 a1 b0 b1) = 2 * M4 f g h q (cst n a0 - u) (cst n a1 - v) (cst n b0 - u) (cst n b1 - v) := by
  rw [hq, ← frm_diff hA hB]
  congr 1 <;> grind
theorem arch16 {x y z : Fin n} {a b c d e f : Fin n} (hx : x = 2 * a * (2 * b)) (hy : y = 2 * c * (2 * d)) (hz : z = 2 * e * (2 * f)) (h : (a * b + c * d + e * f) * (a * b + c * d + e * f) - 2 * (a * b * (a * b) + c * d * (c * d) + e * f * (e * f)) = 0) :
    (x + y + z) * (x + y + z) - 2 * (x * x + y * y + z * z) = 0 := by
  subst hx hy hz
  have e1 : (2 * a * (2 * b) + 2 * c * (2 * d) + 2 * e * (2 * f)) * (2 * a * (2 * b) + 2 * c * (2 * d) + 2 * e * (2 * f)) - 2 * (2 * a * (2 * b) * (2 * a * (2 * b)) + 2 * c * (2 * d) * (2 * c * (2 * d)) + 2 * e * (2 * f) * (2 * e * (2 * f))) =
      16 * ((a * b + c * d + e * f) * (a * b + c * d + e * f) - 2 * (a * b * (a * b) + c * d * (c * d) + e * f * (e * f))) := by clear h; grind
  rw [e1, h]
  clear e1 h
  grind
end
/-- Four cyclic points: the products of the quadrances of opposite sides, and of the diagonals, have the number 0. -/
theorem ptol_int {p c a0 a1 b0 b1 c0 c1 d0 d1 o0 o1 : Int} (hp : isP p) (hc1 : 0 ≤ c) (hc2 : c ≤ 2) (har : areaOf a0 a1 b0 b1 c0 c1 % p ≠ 0)
    (hb : quad c o0 o1 b0 b1 % p = quad c o0 o1 a0 a1 % p) (hc : quad c o0 o1 c0 c1 % p = quad c o0 o1 a0 a1 % p) (hd : quad c o0 o1 d0 d1 % p = quad c o0 o1 a0 a1 % p) :
    archi ((quad c a0 a1 b0 b1 % p * (quad c c0 c1 d0 d1 % p)) % p) ((quad c b0 b1 c0 c1 % p * (quad c d0 d1 a0 a1 % p)) % p) ((quad c a0 a1 c0 c1 % p * (quad c b0 b1 d0 d1 % p)) % p) % p = 0 := by
  have hpl := hp.lt
  obtain ⟨n, rfl⟩ := Int.eq_ofNat_of_zero_le (show 0 ≤ p by omega)
  have : NeZero n := ⟨by omega⟩
  have hn2 : 2 < n := by omega
  obtain ⟨f, g, h, hq⟩ := quad_frm (n := n) hn2 hc1 hc2
  have hi := inv_cst hp har n hn2 rfl
  rw [← cst_eq, hq, hq] at hb hc hd
  have kA : frm f g h (cst n a0 - cst n o0) (cst n a1 - cst n o1) = frm f g h (cst n a0 - cst n o0) (cst n a1 - cst n o1) := rfl
  have e12 := quad_M4 hq kA hb
  have e13 := quad_M4 hq kA hc
  have e14 := quad_M4 hq hd kA
  have e23 := quad_M4 hq hb hc
  have e24 := quad_M4 hq hb hd
  have e34 := quad_M4 hq hc hd
  rw [M4_comm] at e14
  have hdet : det3 (cst n a0 - cst n o0) (cst n a1 - cst n o1) (cst n b0 - cst n o0) (cst n b1 - cst n o1) (cst n c0 - cst n o0) (cst n c1 - cst n o1) * cst n (inv (n : Int) (areaOf a0 a1 b0 b1 c0 c1 % (n : Int))) = 1 := by
    rw [← hi]
    congr 1
    simp only [areaOf, cst_sub, cst_mul]
    unfold det3
    grind
  have key := ptol hdet (fun x hx => two_zero hp hn2 rfl hx) (frm_self kA) (frm_self hb) (frm_self hc) (frm_self hd) rfl rfl rfl rfl rfl rfl
  rw [← cst_z]
  unfold archi
  simp only [cst_add, cst_sub, cst_mul, cst_mod, cst_two hn2]
  exact arch16 (by rw [e12, e34]) (by rw [e23, e14]) (by rw [e13, e24]) key
end Go.Proofs.YtccbmdpikalpfaaGreat
