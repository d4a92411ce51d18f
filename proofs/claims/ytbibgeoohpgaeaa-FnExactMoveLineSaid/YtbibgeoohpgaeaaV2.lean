/- Plain laws: the reflection in a line, and moved lines. -/
import Derived.Test.YtbibgeoohpgaeaaV1
namespace Go.Proofs.Ytbibgeoohpgaeaa
open Go Go.RowKit
set_option linter.unusedVariables false
set_option linter.unusedSimpArgs false
def inL (p : Int) (l : Int × Int × Int) : Bool := inN p l.1 && inN p l.2.1 && inN p l.2.2 && (l.1 == 1 || l.1 == 0 && l.2.1 == 1)
theorem line_nice {K : Nat} {p l0 l1 l2 : Int} (hp : isP p) : spec_l01Line.f K p l0 l1 l2 = some (inL p (l0, l1, l2)) := by
  unfold spec_l01Line.f inL
  rw [number_nice hp, number_nice hp, number_nice hp]
  cases inN p l0 <;> cases inN p l1 <;> cases inN p l2 <;> cases h1 : l0 == 1 <;> cases h2 : l0 == 0 <;> simp
theorem isLine_nice {K : Nat} (hK : 100 ≤ K) {p l0 l1 l2 : Int} : impl_isLine.f K p l0 l1 l2 = some (inL p (l0, l1, l2)) := by
  obtain ⟨k, rfl⟩ : ∃ k, K = k + 10 := ⟨K - 10, by omega⟩
  unfold impl_isLine.f inL
  have : impl_areNumbers.f (k + 10) p [l0, l1, l2] = some (inN p l0 && inN p l1 && inN p l2) := by
    unfold impl_areNumbers.f
    cases h1 : inN p l0 <;> cases h2 : inN p l1 <;> cases h3 : inN p l2 <;> simp [impl_areNumbers.l0, isNumber_nice, idx, wrap64, h1, h2, h3]
  rw [this]
  cases inN p l0 <;> cases inN p l1 <;> cases inN p l2 <;> cases h1 : l0 == 1 <;> cases h2 : l0 == 0 <;> simp
theorem lines_one {K : Nat} (hK : 100 ≤ K) {p l0 l1 l2 : Int} : spec_l01Lines.f K p [(l0, l1, l2)] = some (if isP p then if inL p (l0, l1, l2) then 0 else 2 else 1) := by
  obtain ⟨k, rfl⟩ : ∃ k, K = k + 10 := ⟨K - 10, by omega⟩
  unfold spec_l01Lines.f
  rw [field_nice (by omega)]
  by_cases hp : isP p
  · simp only [hp, decide_true, if_true, Option.bind_some]
    cases h : inL p (l0, l1, l2) <;> simp [spec_l01Lines.l0, idx, line_nice hp, h, wrap64]
  · simp [hp]
theorem inL_ln {p l0 l1 l2 : Int} (hp : isP p) (h : inL p (l0, l1, l2) = true) : Ln p (l0, l1, l2) ∧ (l0 = 1 ∨ l0 = 0) := by
  have hpl := hp.lt
  unfold inL at h
  simp only [Bool.and_eq_true, Bool.or_eq_true, beq_iff_eq] at h
  refine ⟨⟨inN_in h.1.1.1, inN_in h.1.1.2, inN_in h.1.2, ?_⟩, ?_⟩
  · intro ⟨h1, h2⟩
    rcases h.2 with h3 | ⟨h3, h4⟩
    · simp only [h3] at h1
      rw [Int.emod_eq_of_lt (by omega) (by omega)] at h1
      omega
    · simp only [h4] at h2
      rw [Int.emod_eq_of_lt (by omega) (by omega)] at h2
      omega
  · rcases h.2 with h3 | ⟨h3, h4⟩
    · exact Or.inl h3
    · exact Or.inr h3
theorem toLine_nice {K : Nat} {a b c : Int} : laws_toLine.f K a b c = some (a, b, c) := rfl
/-! ### The reflection -/
def nn (c l0 l1 : Int) : Int := prod c (-l1) l0 (-l1) l0
theorem ft_cst {p c x y : Int} {l : Int × Int × Int} (hp : isP p) (hc1 : 0 ≤ c) (hc2 : c ≤ 2) (hl : Ln p l) (hz : nullB p c l = false) (n : Nat) [NeZero n] (hn2 : 2 < n) (hn : p = n) :
    cst n (ft p c x y l).1 = cst n (inv p (nn c l.1 l.2.1 % p)) * (-(cst n l.2.1 * (cst n (px c (-l.2.1) l.1) * cst n x + cst n (py c (-l.2.1) l.1) * cst n y)) - cst n l.2.2 * cst n (py c (-l.2.1) l.1)) ∧
    cst n (ft p c x y l).2 = cst n (inv p (nn c l.1 l.2.1 % p)) * (cst n l.2.2 * cst n (px c (-l.2.1) l.1) + cst n l.1 * (cst n (px c (-l.2.1) l.1) * cst n x + cst n (py c (-l.2.1) l.1) * cst n y)) := by
  have hc : c = 0 ∨ c = 1 ∨ c = 2 := by omega
  have hg : ¬ (px c (-l.2.1) l.1 % p = 0 ∧ py c (-l.2.1) l.1 % p = 0) := px_ne hp hc (by
    rw [Int.neg_neg]
    exact hl.ne)
  have hu := piv_unit hp hg n hn2 hn
  have hd := det_null (a0 := x) (a1 := y) hp hc1 hc2 hl
  rw [hz] at hd
  have hd' : det l.1 l.2.1 (pl p c x y l).1 (pl p c x y l).2.1 % p ≠ 0 := by simpa using hd
  have hN : nn c l.1 l.2.1 % p ≠ 0 := by
    unfold nullB at hz
    simpa [nn] using hz
  have hi := inv_cst hp hd' n hn2 hn
  have hm := inv_cst hp hN n hn2 hn
  have e : cst n (det l.1 l.2.1 (pl p c x y l).1 (pl p c x y l).2.1) = cst n (nn c l.1 l.2.1) * cst n (inv p (piv p (px c (-l.2.1) l.1) (py c (-l.2.1) l.1))) := by
    unfold det pl perpOf normal nn
    simp only
    generalize inv p (piv p (px c (-l.2.1) l.1) (py c (-l.2.1) l.1)) = j
    rw [hn]
    rcases hc with rfl | rfl | rfl <;> simp only [px, py, prod, if_true, if_false, show ¬ (0 : Int) = 1 by decide, show ¬ (0 : Int) = 2 by decide, show ¬ (1 : Int) = 0 by decide, show ¬ (1 : Int) = 2 by decide, show ¬ (2 : Int) = 0 by decide, show ¬ (2 : Int) = 1 by decide, cst_add, cst_sub, cst_mul, cst_mod, cst_neg] <;> grind
  rw [e] at hi
  have hJ : cst n (inv p (piv p (px c (-l.2.1) l.1) (py c (-l.2.1) l.1))) * cst n (inv p (det l.1 l.2.1 (pl p c x y l).1 (pl p c x y l).2.1 % p)) = cst n (inv p (nn c l.1 l.2.1 % p)) := by
    generalize cst n (inv p (piv p (px c (-l.2.1) l.1) (py c (-l.2.1) l.1))) = j at *
    generalize cst n (inv p (det l.1 l.2.1 (pl p c x y l).1 (pl p c x y l).2.1 % p)) = i at *
    generalize cst n (inv p (nn c l.1 l.2.1 % p)) = m at *
    generalize cst n (nn c l.1 l.2.1) = N at *
    have : m * (N * j * i) = m * 1 := by rw [hi]
    have : (j * i) * (N * m) = (j * i) * 1 := by rw [hm]
    grind
  unfold ft meet0 meet1
  simp only
  rw [← hJ]
  generalize inv p (det l.1 l.2.1 (pl p c x y l).1 (pl p c x y l).2.1 % p) = I at *
  unfold pl perpOf normal
  simp only
  generalize inv p (piv p (px c (-l.2.1) l.1) (py c (-l.2.1) l.1)) = J at *
  generalize px c (-l.2.1) l.1 = X at *
  generalize py c (-l.2.1) l.1 = Y at *
  rw [hn]
  simp only [cst_add, cst_sub, cst_mul, cst_mod, cst_neg]
  constructor <;> grind
theorem ft_b {p c x y : Int} {l : Int × Int × Int} (hp : isP p) : B 31 (ft p c x y l).1 ∧ B 31 (ft p c x y l).2 := ⟨B.mod hp _, B.mod hp _⟩
def refl0 (p c l0 l1 : Int) : Int := (2 * inv p (nn c l0 l1 % p) * px c (-l1) l0 * -l1 - 1) % p
def refl1 (p c l0 l1 : Int) : Int := (2 * inv p (nn c l0 l1 % p) * py c (-l1) l0 * -l1) % p
def refl2 (p c l0 l1 : Int) : Int := (2 * inv p (nn c l0 l1 % p) * px c (-l1) l0 * l0) % p
def refl3 (p c l0 l1 : Int) : Int := (2 * inv p (nn c l0 l1 % p) * py c (-l1) l0 * l0 - 1) % p
def refl4 (p c l0 l1 l2 : Int) : Int := (-(2 * inv p (nn c l0 l1 % p) * l2 * py c (-l1) l0)) % p
def refl5 (p c l0 l1 l2 : Int) : Int := (2 * inv p (nn c l0 l1 % p) * l2 * px c (-l1) l0) % p
theorem specNull_nice {K : Nat} {p c l0 l1 l2 : Int} (hp : isP p) (h0 : B 31 l0) (h1 : B 31 l1) : spec_l03Null.f K p c l0 l1 l2 = some (nullB p c (l0, l1, l2)) := by
  unfold spec_l03Null.f spec_l02Direction.f nullB
  rw [w_eq (Sm.of h1.neg rfl), mod_nice hp]
  simp only [Option.bind_some]
  rw [specProduct_nice hp (B.mod hp _) h0 (B.mod hp _) h0, prod_mod (x := -l1) (y := l0) (z := -l1) (w := l0) hp (Int.emod_emod _ _) rfl (Int.emod_emod _ _) rfl]
  rfl
theorem specRefl_nice {K : Nat} (hK : 100 ≤ K) {p c l0 l1 l2 : Int} (hp : isP p) (hc1 : 0 ≤ c) (hc2 : c ≤ 2) (hl : Ln p (l0, l1, l2)) (hl0 : l0 = 1 ∨ l0 = 0) (h1' : l0 = 0 → l1 = 1) (hz : nullB p c (l0, l1, l2) = false) :
    spec_l07Reflection.f K p c l0 l1 l2 = some (refl0 p c l0 l1, refl1 p c l0 l1, refl2 p c l0 l1, refl3 p c l0 l1, refl4 p c l0 l1 l2, refl5 p c l0 l1 l2) := by
  have h0 := hl.i0.b hp
  have h1 := hl.i1.b hp
  have h2 := hl.i2.b hp
  simp only at h0 h1 h2
  have z : B 31 0 := ⟨by omega⟩
  have o : B 31 1 := ⟨by omega⟩
  have bm := fun x => B.mod hp x
  have hpl := hp.lt
  have hpz : ¬ p = 0 := by omega
  have hc : c = 0 ∨ c = 1 ∨ c = 2 := by omega
  have hN : nn c l0 l1 % p ≠ 0 := by
    unfold nullB at hz
    simpa [nn] using hz
  have hi := (inv_in hp (mod_in hp (nn c l0 l1))).b hp
  unfold spec_l07Reflection.f spec_l02Direction.f
  rw [w_eq (Sm.of h1.neg rfl), mod_nice hp]
  simp only [Option.bind_some]
  rw [specProduct_nice hp (bm _) h0 (bm _) h0, prod_mod (x := -l1) (y := l0) (z := -l1) (w := l0) hp (Int.emod_emod _ _) rfl (Int.emod_emod _ _) rfl]
  simp only [Option.bind_some]
  rw [show prod c (-l1) l0 (-l1) l0 % p = nn c l0 l1 % p from rfl, specInverse_nice hK hp (mod_in hp _)]
  simp only [Option.bind_some]
  rw [w_eq (Sm.of ((B.const 2).mul hi) rfl)]
  have along : ∀ x y : Int, B 31 x → B 31 y → spec_l07Along.f K p c ((-l1) % p) l0 (2 * inv p (nn c l0 l1 % p)) x y = some ((2 * inv p (nn c l0 l1 % p) * prod c x y (-l1) l0 * -l1 - x) % p, (2 * inv p (nn c l0 l1 % p) * prod c x y (-l1) l0 * l0 - y) % p) := fun x y hx hy => by
    unfold spec_l07Along.f
    rw [specProduct_nice hp hx hy (bm _) h0, prod_mod (x := x) (y := y) (z := -l1) (w := l0) hp rfl rfl (Int.emod_emod _ _) rfl]
    simp only [Option.bind_some]
    rw [if_neg (by simpa using hpz), w_eq (Sm.of (((B.const 2).mul hi).mul (bm _)) rfl), specTimes_nice hp (B.tmod hp _) (bm _) h0]
    simp only [Option.bind_some]
    rw [specMinus_nice hp (bm _) (bm _) hx hy]
    simp only [Option.bind_some, Option.some.injEq, Prod.mk.injEq]
    constructor <;> refine emod_ring hp fun n _ hn e => ?_
    all_goals
      rw [e]
      simp only [cst_add, cst_sub, cst_mul, cst_mod, cst_neg, cst_tmod]
      try grind
  rw [along 1 0 o z, along 0 1 z o]
  simp only [Option.bind_some]
  have fin : ∀ a0 a1 b0 b1 : Int, B 31 a0 → B 31 a1 → (∀ (n : Nat) [NeZero n], 2 < n → p = n → cst n l0 * cst n a0 + cst n l1 * cst n a1 + cst n l2 = 0) →
      ((spec_l07Lead.f K p ((2 * inv p (nn c l0 l1 % p) * prod c 1 0 (-l1) l0 * -l1 - 1) % p) ((2 * inv p (nn c l0 l1 % p) * prod c 0 1 (-l1) l0 * -l1 - 0) % p) ((2 * inv p (nn c l0 l1 % p) * prod c 1 0 (-l1) l0 * l0 - 0) % p) ((2 * inv p (nn c l0 l1 % p) * prod c 0 1 (-l1) l0 * l0 - 1) % p) 0 0 a0 a1).bind fun x =>
        (spec_l01Minus.f K p a0 a1 x.1 x.2).bind fun y => some ((2 * inv p (nn c l0 l1 % p) * prod c 1 0 (-l1) l0 * -l1 - 1) % p, (2 * inv p (nn c l0 l1 % p) * prod c 0 1 (-l1) l0 * -l1 - 0) % p, (2 * inv p (nn c l0 l1 % p) * prod c 1 0 (-l1) l0 * l0 - 0) % p, (2 * inv p (nn c l0 l1 % p) * prod c 0 1 (-l1) l0 * l0 - 1) % p, y.1, y.2)) =
      some (refl0 p c l0 l1, refl1 p c l0 l1, refl2 p c l0 l1, refl3 p c l0 l1, refl4 p c l0 l1 l2, refl5 p c l0 l1 l2) := fun a0 a1 b0 b1 ha0 ha1 hon => by
    rw [specLead_nice hp (bm _) (bm _) (bm _) (bm _) ha0 ha1]
    simp only [Option.bind_some, lead]
    rw [specMinus_nice hp ha0 ha1 (bm _) (bm _)]
    have hX : prod c 1 0 (-l1) l0 = px c (-l1) l0 := by
      rcases hc with rfl | rfl | rfl <;> simp [prod, px]
    have hY : prod c 0 1 (-l1) l0 = py c (-l1) l0 := by
      rcases hc with rfl | rfl | rfl <;> simp [prod, py]
    rw [hX, hY]
    simp only [Option.bind_some, Option.some.injEq, Prod.mk.injEq, refl0, refl1, refl2, refl3, refl4, refl5, Int.sub_zero, true_and]
    have hNN : ∀ (n : Nat) [NeZero n], cst n (nn c l0 l1) = cst n l0 * cst n (py c (-l1) l0) - cst n l1 * cst n (px c (-l1) l0) := fun n _ => by
      rcases hc with rfl | rfl | rfl <;> simp only [nn, px, py, prod, if_true, if_false, show ¬ (0 : Int) = 1 by decide, show ¬ (0 : Int) = 2 by decide, show ¬ (1 : Int) = 0 by decide, show ¬ (1 : Int) = 2 by decide, show ¬ (2 : Int) = 0 by decide, show ¬ (2 : Int) = 1 by decide, cst_add, cst_sub, cst_mul, cst_neg] <;> grind
    constructor <;> refine emod_ring hp fun n _ hn e => ?_
    all_goals
      have hm := inv_cst hp hN n hn e
      have hh := hon n hn e
      rw [hNN] at hm
      generalize inv p (nn c l0 l1 % p) = M at *
      generalize px c (-l1) l0 = X at *
      generalize py c (-l1) l0 = Y at *
      rw [e]
      simp only [cst_add, cst_sub, cst_mul, cst_mod, cst_neg, cst_one (show 1 < n by omega), cst_two hn]
      have hl2 : cst n l2 = -(cst n l0 * cst n a0 + cst n l1 * cst n a1) := by grind
      rw [hl2]
      generalize cst n M = m at *
      generalize cst n X = x at *
      generalize cst n Y = y at *
      generalize cst n l0 = u at *
      generalize cst n l1 = v at *
      generalize cst n a0 = s at *
      generalize cst n a1 = t at *
    · have : s * ((u * y - v * x) * m) = s * 1 := by rw [hm]
      grind
    · have : t * ((u * y - v * x) * m) = t * 1 := by rw [hm]
      grind
  unfold spec_l07Two.f spec_l02Direction.f
  rw [w_eq (Sm.of h2.neg rfl), w_eq (Sm.of h1.neg rfl), mod_nice hp, mod_nice hp]
  rcases hl0 with rfl | rfl
  · simp only [beq_self_eq_true, if_true, Option.bind_some]
    rw [specPlus_nice hp (bm _) z (bm _) o]
    simp only [Option.bind_some]
    exact fin ((-l2) % p) 0 0 0 (bm _) z fun n _ hn e => by
      rw [e]
      simp only [cst_mod, cst_neg, cst_zero, cst_one (show 1 < n by omega)]
      grind
  · have hl1 := h1' rfl
    subst hl1
    rw [if_neg (by decide)]
    simp only [Option.bind_some]
    rw [specPlus_nice hp z (bm _) (bm _) z]
    simp only [Option.bind_some]
    exact fin 0 ((-l2) % p) 0 0 z (bm _) fun n _ hn e => by
      rw [e]
      simp only [cst_mod, cst_neg, cst_zero, cst_one (show 1 < n by omega)]
      grind
theorem implRefl_nice {K : Nat} (hK : 100 ≤ K) {p c l0 l1 l2 : Int} (hp : isP p) (hc1 : 0 ≤ c) (hc2 : c ≤ 2) (hl : Ln p (l0, l1, l2)) (hz : nullB p c (l0, l1, l2) = false) :
    impl_mapOf__impl_ReflectionIn_2.f K p p c l0 l1 l2 = some (refl0 p c l0 l1, refl1 p c l0 l1, refl2 p c l0 l1, refl3 p c l0 l1, refl4 p c l0 l1 l2, refl5 p c l0 l1 l2) := by
  have z : B 31 0 := ⟨by omega⟩
  have o : B 31 1 := ⟨by omega⟩
  have one : ∀ x y : Int, B 31 x → B 31 y → impl_ReflectionIn_2.f K x y p c l0 l1 l2 = some ((x + 2 * ((ft p c x y (l0, l1, l2)).1 - x)) % p, (y + 2 * ((ft p c x y (l0, l1, l2)).2 - y)) % p) := fun x y hx hy => by
    have hf := implFoot_nice (l := (l0, l1, l2)) hK hp hc1 hc2 hx hy hl
    simp only at hf
    obtain ⟨f1, f2⟩ := ft_b (p := p) (c := c) (x := x) (y := y) (l := (l0, l1, l2)) hp
    unfold impl_ReflectionIn_2.f impl_combination.f
    rw [hf]
    simp only [Option.bind_some]
    simp (disch := exact Sm.of (by repeat' first | assumption | apply B.add | apply B.sub | apply B.mul | exact B.mod hp _ | exact B.const _) rfl) only [w_eq, rest_nice hp, Option.bind_some]
  unfold impl_mapOf__impl_ReflectionIn_2.f
  rw [one 0 0 z z, one 1 0 o z, one 0 1 z o]
  simp only [Option.bind_some]
  rw [less_nice hp (B.mod hp _) (B.mod hp _) (B.mod hp _) (B.mod hp _), less_nice hp (B.mod hp _) (B.mod hp _) (B.mod hp _) (B.mod hp _)]
  simp only [Option.bind_some, Option.some.injEq, Prod.mk.injEq, refl0, refl1, refl2, refl3, refl4, refl5]
  have hN : nn c l0 l1 % p ≠ 0 := by
    unfold nullB at hz
    simpa [nn] using hz
  refine ⟨?_, ?_, ?_, ?_, ?_, ?_⟩ <;> refine emod_ring hp fun n _ hn e => ?_
  all_goals
    have f00 := ft_cst (x := 0) (y := 0) hp hc1 hc2 hl hz n hn e
    have f10 := ft_cst (x := 1) (y := 0) hp hc1 hc2 hl hz n hn e
    have f01 := ft_cst (x := 0) (y := 1) hp hc1 hc2 hl hz n hn e
    simp only [cst_zero, cst_one (show 1 < n by omega)] at f00 f10 f01
    generalize ft p c 0 0 (l0, l1, l2) = F00 at *
    generalize ft p c 1 0 (l0, l1, l2) = F10 at *
    generalize ft p c 0 1 (l0, l1, l2) = F01 at *
    generalize inv p (nn c l0 l1 % p) = M at *
    generalize px c (-l1) l0 = X at *
    generalize py c (-l1) l0 = Y at *
    try rw [e]
    simp only [cst_add, cst_sub, cst_mul, cst_mod, cst_neg, cst_zero, cst_one (show 1 < n by omega), cst_two hn, f00.1, f00.2, f10.1, f10.2, f01.1, f01.2]
    grind
def codeRL (p c : Int) (l : Int × Int × Int) : Int := if isP p then if inL p l then if 0 ≤ c ∧ c ≤ 2 then 0 else 2 else 2 else 1
theorem law_FnExactReflectionIn {K : Nat} (hK : 5000 ≤ K) (p c l0 l1 l2 : Int) : laws_FnExactReflectionIn.f K p c l0 l1 l2 = some true := by
  have hK' : 100 ≤ K := by omega
  unfold laws_FnExactReflectionIn.f spec_ReflectionIn.f impl_ReflectionIn.f spec_l03Colour.f impl_asked__impl_ReflectionIn_1.f impl_ReflectionIn_1.f
  simp only [toLine_nice, Option.bind_some, lines_one hK', in_nice, isField_nice, isColour_nice, isLine_nice hK']
  by_cases hp : isP p
  · cases hl : inL p (l0, l1, l2)
    · by_cases hc : 0 ≤ c ∧ c ≤ 2 <;> simp [hp, hc, laws_eqMove.f, laws_eqInt64A4.f, laws_eqPoint.f]
    · by_cases hc : 0 ≤ c ∧ c ≤ 2
      · obtain ⟨ln, h0⟩ := inL_ln hp hl
        have h1' : l0 = 0 → l1 = 1 := fun e => by
          unfold inL at hl
          simp only [Bool.and_eq_true, Bool.or_eq_true, beq_iff_eq] at hl
          rcases hl.2 with h3 | ⟨_, h4⟩
          · omega
          · exact h4
        have i0 := ln.i0.b hp
        have i1 := ln.i1.b hp
        have hin := implNull_nice (K := K) (c := c) hp ln
        simp only at hin i0 i1
        simp only [hp, hc, and_self, decide_true, if_true, Option.bind_some, beq_self_eq_true, specNull_nice hp i0 i1, hin]
        cases hz : nullB p c (l0, l1, l2)
        · simp only [Bool.false_eq_true, if_false, specRefl_nice hK' hp hc.1 hc.2 ln h0 h1' hz, implRefl_nice hK' hp hc.1 hc.2 ln hz, Option.bind_some, eqMove_nice, beq_self_eq_true, if_true]
        · simp [laws_eqMove.f, laws_eqInt64A4.f, laws_eqPoint.f]
      · simp [hp, hc, laws_eqMove.f, laws_eqInt64A4.f, laws_eqPoint.f]
  · simp [hp, laws_eqMove.f, laws_eqInt64A4.f, laws_eqPoint.f]
/-! ### Moved lines -/
theorem moveAskedL_nice {K : Nat} (hK : 100 ≤ K) {p k a b c d e f l0 l1 l2 : Int} : impl_moveAsked__impl_MoveLine_1.f K p k a b c d e f p l0 l1 l2 = some (if isP p then if inL p (l0, l1, l2) ∧ inM p a b c d e f ∧ 0 ≤ k ∧ k ≤ 2 then if goodB p k a b c d then 0 else 5 else 2 else 1) := by
  unfold impl_moveAsked__impl_MoveLine_1.f impl_asked__impl_moveAsked_1_impl_MoveLine_1.f impl_moveAsked_1__impl_MoveLine_1.f impl_MoveLine_1.f
  rw [isField_nice, isColour_nice, isMap_nice hK, isLine_nice hK]
  by_cases hp : isP p
  · cases hm : inM p a b c d e f
    · by_cases hk : 0 ≤ k ∧ k ≤ 2 <;> cases hl : inL p (l0, l1, l2) <;> simp [hp, hk]
    · have m := inM_in hm
      by_cases hk : 0 ≤ k ∧ k ≤ 2
      · rw [implKeeps_nice hp hk.1 hk.2 (m.a.b hp) (m.b.b hp) (m.c.b hp) (m.d.b hp)]
        cases hg : goodB p k a b c d <;> cases hl : inL p (l0, l1, l2) <;> simp [hp, hk]
      · cases hl : inL p (l0, l1, l2) <;> simp [hp, hk]
  · simp [hp]
theorem mv_b {p a b c d e f x y : Int} (hp : isP p) : B 31 (mv p a b c d e f x y).1 ∧ B 31 (mv p a b c d e f x y).2 := ⟨B.mod hp _, B.mod hp _⟩
theorem lead_b {p a b c d x y : Int} (hp : isP p) : B 31 (lead p a b c d x y).1 ∧ B 31 (lead p a b c d x y).2 := ⟨B.mod hp _, B.mod hp _⟩
theorem line_moved {p a b c d e f s t u v : Int} (hp : isP p) : lineOf p (mv p a b c d e f s t).1 (mv p a b c d e f s t).2 (mv p a b c d e f ((s + u) % p) ((t + v) % p)).1 (mv p a b c d e f ((s + u) % p) ((t + v) % p)).2 =
    normal p (lead p a b c d u v).2 (-(lead p a b c d u v).1) (-((lead p a b c d u v).2 * (mv p a b c d e f s t).1 + -(lead p a b c d u v).1 * (mv p a b c d e f s t).2)) := by
  unfold lineOf
  refine normal_unit hp fun n _ hn e => ⟨-1, -1, by grind, ?_, ?_, ?_⟩
  all_goals
    subst e
    simp only [mv, lead, cst_add, cst_sub, cst_mul, cst_mod, cst_neg]
    grind
theorem law_FnExactMoveLine {K : Nat} (hK : 5000 ≤ K) (p k a b c d e f l0 l1 l2 : Int) : laws_FnExactMoveLine.f K p k a b c d e f l0 l1 l2 = some true := by
  have hK' : 100 ≤ K := by omega
  unfold laws_FnExactMoveLine.f spec_MoveLine.f impl_MoveLine.f
  simp only [toMove_nice, toLine_nice, Option.bind_some, field_nice (show 10 ≤ K by omega), spec7Code_nice hK', moveAskedL_nice hK']
  by_cases hp : isP p
  · simp only [hp, decide_true, if_true, line_nice hp, l07Is_nice hp, in_nice, Option.bind_some]
    cases hl : inL p (l0, l1, l2)
    · simp [laws_eqLine.f]
    · cases hm : inM p a b c d e f
      · simp [laws_eqLine.f]
      · by_cases hk : 0 ≤ k ∧ k ≤ 2
        · cases hg : goodB p k a b c d
          · simp [codeM, hp, hm, hk, hg, laws_eqLine.f]
          · have m := inM_in hm
            have k1 := m.a.b hp; have k2 := m.b.b hp; have k3 := m.c.b hp; have k4 := m.d.b hp; have k5 := m.e.b hp; have k6 := m.f.b hp
            obtain ⟨ln, h0⟩ := inL_ln hp hl
            have i0 := ln.i0.b hp
            have i1 := ln.i1.b hp
            have i2 := ln.i2.b hp
            simp only at i0 i1 i2
            have z : B 31 0 := ⟨by omega⟩
            have bm := fun x => B.mod hp x
            have hcm : codeM p k a b c d e f = 0 := by simp [codeM, hp, hm, hk, hg]
            have go : ∀ s t : Int, B 31 s → B 31 t → spec_l07Two.f K p l0 l1 l2 = some (s, t, (s + (-l1) % p) % p, (t + l0) % p) → impl_onLine.f K p l0 l1 l2 = some (s, t) →
                ((spec_l07Two.f K p l0 l1 l2).bind fun x => (spec_l07Move.f K p a b c d e f x.1 x.2.1).bind fun y => (spec_l07Move.f K p a b c d e f x.2.2.1 x.2.2.2).bind fun w => (spec_l01Through.f K p y.1 y.2 w.1 w.2).bind fun q => some (q.1, q.2.1, q.2.2, (0 : Int))) =
                ((impl_onLine.f K p l0 l1 l2).bind fun x => (impl_moved.f K p a b c d e f x.1 x.2).bind fun y => (impl_way.f K p l0 l1 l2).bind fun w => (impl_turned.f K p a b c d w.1 w.2).bind fun g => (impl_through.f K p y.1 y.2 g.1 g.2).bind fun q => some (q.1, q.2.1, q.2.2, (0 : Int))) ∧
                ∃ r, ((impl_onLine.f K p l0 l1 l2).bind fun x => (impl_moved.f K p a b c d e f x.1 x.2).bind fun y => (impl_way.f K p l0 l1 l2).bind fun w => (impl_turned.f K p a b c d w.1 w.2).bind fun g => (impl_through.f K p y.1 y.2 g.1 g.2).bind fun q => some (q.1, q.2.1, q.2.2, (0 : Int))) = some r := fun s t hs ht h1 h2 => by
              rw [h1, h2]
              simp only [Option.bind_some]
              rw [specMove_nice hp k1 k2 k3 k4 k5 k6 hs ht, specMove_nice hp k1 k2 k3 k4 k5 k6 (bm _) (bm _), implMoved_nice hp k1 k2 k3 k4 k5 k6 hs ht]
              unfold impl_way.f
              rw [w_eq (Sm.of i1.neg rfl), rest_nice hp]
              simp only [Option.bind_some]
              rw [specThrough_nice hK' hp (mv_b hp).1 (mv_b hp).2 (mv_b hp).1 (mv_b hp).2, implTurned_nice hp k1 k2 k3 k4 (bm _) i0]
              simp only [Option.bind_some]
              rw [implThrough_nice hK' hp (mv_b hp).1 (mv_b hp).2 (lead_b hp).1 (lead_b hp).2, line_moved hp]
              exact ⟨rfl, _, rfl⟩
            have hall : ∃ s t : Int, B 31 s ∧ B 31 t ∧ spec_l07Two.f K p l0 l1 l2 = some (s, t, (s + (-l1) % p) % p, (t + l0) % p) ∧ impl_onLine.f K p l0 l1 l2 = some (s, t) := by
              unfold spec_l07Two.f impl_onLine.f spec_l02Direction.f
              rw [w_eq (Sm.of i2.neg rfl), w_eq (Sm.of i1.neg rfl), mod_nice hp, mod_nice hp, rest_nice hp]
              by_cases h1 : l0 = 1
              · refine ⟨(-l2) % p, 0, bm _, z, ?_, ?_⟩
                · rw [if_pos (by simpa using h1)]
                  simp only [Option.bind_some]
                  rw [specPlus_nice hp (bm _) z (bm _) i0]
                  rfl
                · rw [if_pos (by simpa using h1)]
                  rfl
              · refine ⟨0, (-l2) % p, z, bm _, ?_, ?_⟩
                · rw [if_neg (by simpa using h1)]
                  simp only [Option.bind_some]
                  rw [specPlus_nice hp z (bm _) (bm _) i0]
                  rfl
                · rw [if_neg (by simpa using h1)]
                  rfl
            obtain ⟨s, t, hs, ht, h1, h2⟩ := hall
            obtain ⟨g1, r, g2⟩ := go s t hs ht h1 h2
            simp only [hk, hcm, and_self, decide_true, if_true, Option.bind_some, beq_self_eq_true]
            rw [g1, g2]
            simp only [Option.bind_some, eqLine_nice, beq_self_eq_true, if_true]
        · simp [codeM, hp, hm, hk, laws_eqLine.f]
  · simp [codeM, hp, laws_eqLine.f]
end Go.Proofs.Ytbibgeoohpgaeaa
