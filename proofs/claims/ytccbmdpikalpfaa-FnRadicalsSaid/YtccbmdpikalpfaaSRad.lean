/- The statement on FnRadicals: for every input the call returns true, and the arguments read as before. No condition. -/
import Derived.Test.YtccbmdpikalpfaaR
import Derived.Test.YtccbmdpikalpfaaRB
import Derived.Test.YtccbmdpikalpfaaWRad5
import Derived.Test.YtccbmdpikalpfaaL
import Derived.Test.YtccbmdpikalpfaaM1
import Derived.Test.YtccbmdpikalpfaaM2
import Derived.Test.YtccbmdpikalpfaaM3
import Derived.Test.YtccbmdpikalpfaaM4
import Derived.Test.YtccbmdpikalpfaaM5
import Derived.Test.YtccbmdpikalpfaaM6
import Derived.Test.YtccbmdpikalpfaaI2
import Derived.Test.YtccbmdpikalpfaaC1
import Derived.Test.YtccbmdpikalpfaaC2
import Derived.Test.YtccbmdpikalpfaaU3
import Derived.Test.YtccbmdpikalpfaaU4
import Derived.Test.YtccbmdpikalpfaaU5
import Derived.Test.YtccbmdpikalpfaaU6
import Derived.Test.YtccbmdpikalpfaaU7
namespace Go.Proofs.Ytccbmdpikalpfaa.fnRadicals
open Go Go.ChangeShapes Go.WideShapes Go.ChangeAt Go.RowKit
set_option linter.unusedVariables false
theorem own : ownKnob Try.prog.godebug = none := by kernel_rfl
theorem kids : Kids Try.prog (· < Try.prog.types.size) := kids_rows (by kernel_rfl) (by kernel_rfl)
theorem full : ∀ t e, t < Try.prog.types.size → Try.prog.underlying t = some (.slice e) → 0 < Try.prog.cellsOf e := slices_full_of Try.prog (by kernel_rfl)
set_option maxRecDepth 100000 in
theorem lifted (os : Os) (started : os.Started) (H : Type) (enc : TypeId × Value → H) :
    ReturnsInHanded {} Try.checked os 6 .any (Rows.fnRadicalsSpec.pre6 enc Try.prog Try.f6 Rows.fnRadicalsRow.domain false) (Rows.fnRadicalsSpec.post enc Try.prog Try.f6 false true false false) := by
  refine returnsInHanded_of_change (C := Try.checked) own started (by kernel_rfl) Try.func6
    (ChangeSpec.witness6 (enc := enc) (C := Try.checked) false ⟨#[], #[.slice none 0 0], []⟩ 8 (by kernel_rfl) (by kernel_rfl) (by kernel_rfl) (by kernel_rfl)) ?_
  intro W base args ds gs before hval0 hW hcnd _
  have hval : ∀ (j : Nat) t v, Try.f6.params[j]? = some t → args[j]? = some v → Value.okWide Try.prog W .any base t v := hval0
  have hW' := hW
  obtain ⟨p, q, hA0, hV, rfl, hfz, hnd⟩ := hW
  have hA : DataW.TrodAll enc Try.prog W 0 (fun _ => true) true Try.f6.params.toList args.toList ds p := hA0
  rw [Try.params6] at hA hval
  obtain ⟨v0, vs0, d0, ds0, p0, q0, hargs, rfl, rfl, h0, r0⟩ := trodAll_cons hA
  obtain ⟨rfl, rfl, rfl⟩ := trodAll_nil r0
  obtain rfl : args = #[v0] := by cases args; simp_all
  obtain ⟨rfl, rfl⟩ := trodVars_none hV
  obtain ⟨A0, c0, xs0, rfl, hr0, hb0⟩ := open_bytes (t := 22) (e := 5) (by kernel_rfl) (by kernel_rfl) (by kernel_rfl) (hval 0 22 v0 rfl rfl) h0
  clear hA0 hval0
  simp only [List.append_nil] at hW'
  refine (laws_FnRadicals.calls 100000 A0 c0 xs0 true W hr0 (law_FnRadicals (K := 100000) (by decide) xs0 hb0)).mono fun e W' ⟨he, hu⟩ => ?_
  subst he
  exact ⟨_, rfl, post_up kids full rfl (by rw [Try.params6]; decide +kernel) rfl (by kernel_rfl) hW' rfl hu⟩
theorem over : Rows.fnRadicalsRow.holds Try.pinned (OpenSpec.ofChange Rows.fnRadicalsSpec) :=
  OpenClaim.holds_of_wide 6 Try.f6 rfl rfl rfl rfl rfl rfl rfl ⟨rfl, rfl, rfl, rfl, rfl⟩ rfl rfl rfl rfl rfl (by kernel_rfl) Try.func6 (by kernel_rfl)
    (of_decide_eq_true (by kernel_rfl)) (by unfold Func.isWrapper; first | (rw [if_pos (by decide +kernel)]; kernel_rfl) | (rw [if_neg (by decide +kernel)]; exact ⟨rfl, rfl⟩))
    (fun os started H enc _ => lifted os started H enc)
end Go.Proofs.Ytccbmdpikalpfaa.fnRadicals
namespace Go.Proofs.Ytccbmdpikalpfaa
/-- The statement. -/
theorem fnRadicals_holds : Rows.FnRadicalsSaid := fnRadicals.over
#print axioms fnRadicals_holds
end Go.Proofs.Ytccbmdpikalpfaa
