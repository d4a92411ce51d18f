/- Plain law: the weights of a point in a triangle. -/
import Derived.Test.YtohpnbfgemngmaaM3
import Derived.Test.YtohpnbfgemngmaaI1
namespace Go.Proofs.Ytohpnbfgemngmaa
open Go Go.RowKit
set_option linter.unusedVariables false
set_option linter.unusedSimpArgs false
def wCode (p a0 a1 b0 b1 c0 c1 d0 d1 : Int) : Int := if isP p then if inB p (d0, d1) && ([(a0, a1), (b0, b1), (c0, c1)] : List (Int × Int)).all (inB p) then if areaOf a0 a1 b0 b1 c0 c1 % p = 0 then 5 else 0 else 2 else 1
def wRow (p a0 a1 b0 b1 c0 c1 d0 d1 : Int) : List Int :=
  [(areaOf d0 d1 b0 b1 c0 c1 % p * inv p (areaOf a0 a1 b0 b1 c0 c1 % p)) % p, (areaOf a0 a1 d0 d1 c0 c1 % p * inv p (areaOf a0 a1 b0 b1 c0 c1 % p)) % p, (areaOf a0 a1 b0 b1 d0 d1 % p * inv p (areaOf a0 a1 b0 b1 c0 c1 % p)) % p]
def wAns (p a0 a1 b0 b1 c0 c1 d0 d1 : Int) : List Int × Int := if wCode p a0 a1 b0 b1 c0 c1 d0 d1 = 0 then (wRow p a0 a1 b0 b1 c0 c1 d0 d1, 0) else ([], wCode p a0 a1 b0 b1 c0 c1 d0 d1)
theorem specWeights_nice {K : Nat} (hK : 100 ≤ K) {p a0 a1 b0 b1 c0 c1 d0 d1 : Int} : spec_WeightsOf.f K p a0 a1 b0 b1 c0 c1 d0 d1 = some (wAns p a0 a1 b0 b1 c0 c1 d0 d1) := by
  unfold spec_WeightsOf.f wAns wCode
  rw [code2_nice _ (by simp) (by simp; omega), specCode_nice hK]
  by_cases hp : isP p
  · cases ha : inB p (a0, a1) <;> cases hb : inB p (b0, b1) <;> cases hc : inB p (c0, c1) <;> cases hd : inB p (d0, d1) <;> simp only [code3, hp, ha, hb, hc, hd, List.all_cons, List.all_nil, Bool.and_true, Bool.and_false, Bool.true_and, Bool.false_and, if_true, if_false, Bool.false_eq_true, Int.le_refl, show (0 : Int) ≤ 2 by decide, and_self, Option.bind_some, beq_self_eq_true, beq_iff_eq, show ¬ (2 : Int) = 0 by decide]
    by_cases h0 : areaOf a0 a1 b0 b1 c0 c1 % p = 0
    · simp [h0]
    · have hi := (inv_in hp (mod_in hp (areaOf a0 a1 b0 b1 c0 c1))).b hp
      have A := inB_in ha
      have Bb := inB_in hb
      have C := inB_in hc
      have D := inB_in hd
      rw [if_neg h0]
      simp only [if_true]
      rw [specArea_nice hp A.1 A.2 Bb.1 Bb.2 C.1 C.2, specArea_nice hp D.1 D.2 Bb.1 Bb.2 C.1 C.2, specArea_nice hp A.1 A.2 D.1 D.2 C.1 C.2, specArea_nice hp A.1 A.2 Bb.1 Bb.2 D.1 D.2]
      simp only [Option.bind_some]
      rw [specInverse_nice hK hp (mod_in hp _)]
      simp only [Option.bind_some]
      simp (disch := exact Sm.of (by repeat' first | assumption | apply B.mul | exact B.mod hp _) rfl) only [w_eq, mod_nice hp, Option.bind_some]
      rfl
  · simp [hp]
theorem implWeights_nice {K : Nat} (hK : 100 ≤ K) {p a0 a1 b0 b1 c0 c1 d0 d1 : Int} : impl_WeightsOf.f K p a0 a1 b0 b1 c0 c1 d0 d1 = some (wAns p a0 a1 b0 b1 c0 c1 d0 d1) := by
  unfold impl_WeightsOf.f impl_asked__impl_WeightsOf_1.f impl_WeightsOf_1.f wAns wCode
  rw [isField_nice, arePoints_nice _ (by simp) (by simp; omega)]
  by_cases hp : isP p
  · cases ha : inB p (a0, a1) <;> cases hb : inB p (b0, b1) <;> cases hc : inB p (c0, c1) <;> cases hd : inB p (d0, d1) <;> simp only [hp, ha, hb, hc, hd, List.all_cons, List.all_nil, Bool.and_true, Bool.and_false, Bool.true_and, Bool.false_and, if_true, if_false, Bool.false_eq_true, decide_true, Option.bind_some, beq_self_eq_true, beq_iff_eq, show ¬ (2 : Int) = 0 by decide]
    have hbb : ∀ x, B 10000 (x % p) := fun x => (B.mod hp x).le (by decide)
    have A := inB_in ha
    have Bb := inB_in hb
    have C := inB_in hc
    have D := inB_in hd
    rw [implArea_nice hp (A.1.b hp) (A.2.b hp) (Bb.1.b hp) (Bb.2.b hp) (C.1.b hp) (C.2.b hp), implArea_nice hp (D.1.b hp) (D.2.b hp) (Bb.1.b hp) (Bb.2.b hp) (C.1.b hp) (C.2.b hp), implArea_nice hp (A.1.b hp) (A.2.b hp) (D.1.b hp) (D.2.b hp) (C.1.b hp) (C.2.b hp), implArea_nice hp (A.1.b hp) (A.2.b hp) (Bb.1.b hp) (Bb.2.b hp) (D.1.b hp) (D.2.b hp)]
    simp only [Option.bind_some, beq_iff_eq]
    by_cases h0 : areaOf a0 a1 b0 b1 c0 c1 % p = 0
    · simp [h0]
    · rw [if_neg h0, if_neg h0]
      simp only [if_true]
      rw [implDivide_nice hK hp (hbb _) (mod_in hp _), implDivide_nice hK hp (hbb _) (mod_in hp _), implDivide_nice hK hp (hbb _) (mod_in hp _)]
      rfl
  · simp [hp]
theorem wAns_len {p a0 a1 b0 b1 c0 c1 d0 d1 : Int} : (wAns p a0 a1 b0 b1 c0 c1 d0 d1).1.length ≤ 3 := by
  unfold wAns
  split <;> simp [wRow]
theorem law_FnExactWeightsOf {K : Nat} (hK : 5000 ≤ K) (p a0 a1 b0 b1 c0 c1 d0 d1 : Int) : laws_FnExactWeightsOf.f K p a0 a1 b0 b1 c0 c1 d0 d1 = some true := by
  have hK' : 100 ≤ K := by omega
  have hlen := wAns_len (p := p) (a0 := a0) (a1 := a1) (b0 := b0) (b1 := b1) (c0 := c0) (c1 := c1) (d0 := d0) (d1 := d1)
  unfold laws_FnExactWeightsOf.f
  simp only [toPoint_nice, Option.bind_some, specWeights_nice hK', implWeights_nice hK']
  generalize wAns p a0 a1 b0 b1 c0 c1 d0 d1 = r at *
  obtain ⟨xs, code⟩ := r
  simp only at hlen ⊢
  rw [eqI_nice xs (by omega) (by omega), markI_nice xs (by omega) (by omega)]
  simp only [Option.bind_some]
  rw [heldI_nice xs.length (by omega) (by omega)]
  have hneg : ¬ (((xs.length + 1 : Nat) : Int) < 0) := by omega
  simp only [Option.bind_some, beq_self_eq_true, if_true, hneg, decide_false, Bool.false_eq_true, if_false]
end Go.Proofs.Ytohpnbfgemngmaa
