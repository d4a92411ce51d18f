/- Plain laws: the reflection in a line, and moved lines. -/
import Derived.Test.YtccbmdpikalpfaaV1
namespace Go.Proofs.Ytccbmdpikalpfaa
open Go Go.RowKit
set_option linter.unusedVariables false
set_option linter.unusedSimpArgs false
def inL (p : Int) (l : Int × Int × Int) : Bool := inN p l.1 && inN p l.2.1 && inN p l.2.2 && (l.1 == 1 || l.1 == 0 && l.2.1 == 1)
theorem isLine_nice {K : Nat} (hK : 100 ≤ K) {p l0 l1 l2 : Int} : impl_isLine.f K p l0 l1 l2 = some (inL p (l0, l1, l2)) := by
  obtain ⟨k, rfl⟩ : ∃ k, K = k + 10 := ⟨K - 10, by omega⟩
  unfold impl_isLine.f inL
  have : impl_areNumbers.f (k + 10) p [l0, l1, l2] = some (inN p l0 && inN p l1 && inN p l2) := by
    unfold impl_areNumbers.f
    cases h1 : inN p l0 <;> cases h2 : inN p l1 <;> cases h3 : inN p l2 <;> simp [impl_areNumbers.l0, isNumber_nice, idx, wrap64, h1, h2, h3]
  rw [this]
  cases inN p l0 <;> cases inN p l1 <;> cases inN p l2 <;> cases h1 : l0 == 1 <;> cases h2 : l0 == 0 <;> simp
theorem inL_ln {p l0 l1 l2 : Int} (hp : isP p) (h : inL p (l0, l1, l2) = true) : Ln p (l0, l1, l2) ∧ (l0 = 1 ∨ l0 = 0) := by
  have hpl := hp.lt
  unfold inL at h
  simp only [Bool.and_eq_true, Bool.or_eq_true, beq_iff_eq] at h
  refine ⟨⟨inN_in h.1.1.1, inN_in h.1.1.2, inN_in h.1.2, ?_⟩, ?_⟩
  · intro ⟨h1, h2⟩
    rcases h.2 with h3 | ⟨h3, h4⟩
    · simp only [h3] at h1
      rw [Int.emod_eq_of_lt (by omega) (by omega)] at h1
      omega
    · simp only [h4] at h2
      rw [Int.emod_eq_of_lt (by omega) (by omega)] at h2
      omega
  · rcases h.2 with h3 | ⟨h3, h4⟩
    · exact Or.inl h3
    · exact Or.inr h3
/-! ### The reflection -/
def nn (c l0 l1 : Int) : Int := prod c (-l1) l0 (-l1) l0
theorem ft_cst {p c x y : Int} {l : Int × Int × Int} (hp : isP p) (hc1 : 0 ≤ c) (hc2 : c ≤ 2) (hl : Ln p l) (hz : nullB p c l = false) (n : Nat) [NeZero n] (hn2 : 2 < n) (hn : p = n) :
    cst n (ft p c x y l).1 = cst n (inv p (nn c l.1 l.2.1 % p)) * (-(cst n l.2.1 * (cst n (px c (-l.2.1) l.1) * cst n x + cst n (py c (-l.2.1) l.1) * cst n y)) - cst n l.2.2 * cst n (py c (-l.2.1) l.1)) ∧
    cst n (ft p c x y l).2 = cst n (inv p (nn c l.1 l.2.1 % p)) * (cst n l.2.2 * cst n (px c (-l.2.1) l.1) + cst n l.1 * (cst n (px c (-l.2.1) l.1) * cst n x + cst n (py c (-l.2.1) l.1) * cst n y)) := by
  have hc : c = 0 ∨ c = 1 ∨ c = 2 := by omega
  have hg : ¬ (px c (-l.2.1) l.1 % p = 0 ∧ py c (-l.2.1) l.1 % p = 0) := px_ne hp hc (by
    rw [Int.neg_neg]
    exact hl.ne)
  have hu := piv_unit hp hg n hn2 hn
  have hd := det_null (a0 := x) (a1 := y) hp hc1 hc2 hl
  rw [hz] at hd
  have hd' : det l.1 l.2.1 (pl p c x y l).1 (pl p c x y l).2.1 % p ≠ 0 := by simpa using hd
  have hN : nn c l.1 l.2.1 % p ≠ 0 := by
    unfold nullB at hz
    simpa [nn] using hz
  have hi := inv_cst hp hd' n hn2 hn
  have hm := inv_cst hp hN n hn2 hn
  have e : cst n (det l.1 l.2.1 (pl p c x y l).1 (pl p c x y l).2.1) = cst n (nn c l.1 l.2.1) * cst n (inv p (piv p (px c (-l.2.1) l.1) (py c (-l.2.1) l.1))) := by
    unfold det pl perpOf normal nn
    simp only
    generalize inv p (piv p (px c (-l.2.1) l.1) (py c (-l.2.1) l.1)) = j
    rw [hn]
    rcases hc with rfl | rfl | rfl <;> simp only [px, py, prod, if_true, if_false, show ¬ (0 : Int) = 1 by decide, show ¬ (0 : Int) = 2 by decide, show ¬ (1 : Int) = 0 by decide, show ¬ (1 : Int) = 2 by decide, show ¬ (2 : Int) = 0 by decide, show ¬ (2 : Int) = 1 by decide, cst_add, cst_sub, cst_mul, cst_mod, cst_neg] <;> grind
  rw [e] at hi
  have hJ : cst n (inv p (piv p (px c (-l.2.1) l.1) (py c (-l.2.1) l.1))) * cst n (inv p (det l.1 l.2.1 (pl p c x y l).1 (pl p c x y l).2.1 % p)) = cst n (inv p (nn c l.1 l.2.1 % p)) := by
    generalize cst n (inv p (piv p (px c (-l.2.1) l.1) (py c (-l.2.1) l.1))) = j at *
    generalize cst n (inv p (det l.1 l.2.1 (pl p c x y l).1 (pl p c x y l).2.1 % p)) = i at *
    generalize cst n (inv p (nn c l.1 l.2.1 % p)) = m at *
    generalize cst n (nn c l.1 l.2.1) = N at *
    have : m * (N * j * i) = m * 1 := by rw [hi]
    have : (j * i) * (N * m) = (j * i) * 1 := by rw [hm]
    grind
  unfold ft meet0 meet1
  simp only
  rw [← hJ]
  generalize inv p (det l.1 l.2.1 (pl p c x y l).1 (pl p c x y l).2.1 % p) = I at *
  unfold pl perpOf normal
  simp only
  generalize inv p (piv p (px c (-l.2.1) l.1) (py c (-l.2.1) l.1)) = J at *
  generalize px c (-l.2.1) l.1 = X at *
  generalize py c (-l.2.1) l.1 = Y at *
  rw [hn]
  simp only [cst_add, cst_sub, cst_mul, cst_mod, cst_neg]
  constructor <;> grind
theorem ft_b {p c x y : Int} {l : Int × Int × Int} (hp : isP p) : B 31 (ft p c x y l).1 ∧ B 31 (ft p c x y l).2 := ⟨B.mod hp _, B.mod hp _⟩
def refl0 (p c l0 l1 : Int) : Int := (2 * inv p (nn c l0 l1 % p) * px c (-l1) l0 * -l1 - 1) % p
def refl1 (p c l0 l1 : Int) : Int := (2 * inv p (nn c l0 l1 % p) * py c (-l1) l0 * -l1) % p
def refl2 (p c l0 l1 : Int) : Int := (2 * inv p (nn c l0 l1 % p) * px c (-l1) l0 * l0) % p
def refl3 (p c l0 l1 : Int) : Int := (2 * inv p (nn c l0 l1 % p) * py c (-l1) l0 * l0 - 1) % p
def refl4 (p c l0 l1 l2 : Int) : Int := (-(2 * inv p (nn c l0 l1 % p) * l2 * py c (-l1) l0)) % p
def refl5 (p c l0 l1 l2 : Int) : Int := (2 * inv p (nn c l0 l1 % p) * l2 * px c (-l1) l0) % p
def codeRL (p c : Int) (l : Int × Int × Int) : Int := if isP p then if inL p l then if 0 ≤ c ∧ c ≤ 2 then 0 else 2 else 2 else 1
/-! ### Moved lines -/
theorem mv_b {p a b c d e f x y : Int} (hp : isP p) : B 31 (mv p a b c d e f x y).1 ∧ B 31 (mv p a b c d e f x y).2 := ⟨B.mod hp _, B.mod hp _⟩
theorem lead_b {p a b c d x y : Int} (hp : isP p) : B 31 (lead p a b c d x y).1 ∧ B 31 (lead p a b c d x y).2 := ⟨B.mod hp _, B.mod hp _⟩
theorem line_moved {p a b c d e f s t u v : Int} (hp : isP p) : lineOf p (mv p a b c d e f s t).1 (mv p a b c d e f s t).2 (mv p a b c d e f ((s + u) % p) ((t + v) % p)).1 (mv p a b c d e f ((s + u) % p) ((t + v) % p)).2 =
    normal p (lead p a b c d u v).2 (-(lead p a b c d u v).1) (-((lead p a b c d u v).2 * (mv p a b c d e f s t).1 + -(lead p a b c d u v).1 * (mv p a b c d e f s t).2)) := by
  unfold lineOf
  refine normal_unit hp fun n _ hn e => ⟨-1, -1, by grind, ?_, ?_, ?_⟩
  all_goals
    subst e
    simp only [mv, lead, cst_add, cst_sub, cst_mul, cst_mod, cst_neg]
    grind
end Go.Proofs.Ytccbmdpikalpfaa
