/- The statement on FnExactMovesBetween: for every input the call returns true, and the arguments read as before. No condition. -/
import Derived.Test.YtbibgeoohpgaeaaR
import Derived.Test.YtbibgeoohpgaeaaWMvB5
import Derived.Test.YtbibgeoohpgaeaaV9
namespace Go.Proofs.Ytbibgeoohpgaeaa.fnExactMovesBetween
open Go Go.ChangeShapes Go.WideShapes Go.ChangeAt Go.RowKit
set_option linter.unusedVariables false
theorem own : ownKnob Try.prog.godebug = none := by kernel_rfl
theorem ic2 : IntCells Try.prog 2 1 := IntCells.int (by kernel_rfl) (by kernel_rfl)
theorem ic23 : IntCells Try.prog 23 2 := IntCells.array (n := 2) (m := 1) (by kernel_rfl) ic2 (by kernel_rfl)
theorem kids : Kids Try.prog (· < Try.prog.types.size) := kids_rows (by kernel_rfl) (by kernel_rfl)
theorem full : ∀ t e, t < Try.prog.types.size → Try.prog.underlying t = some (.slice e) → 0 < Try.prog.cellsOf e := slices_full_of Try.prog (by kernel_rfl)
set_option maxRecDepth 100000 in
theorem lifted (os : Os) (started : os.Started) (H : Type) (enc : TypeId × Value → H) :
    ReturnsInHanded {} Try.checked os 12 .any (Rows.fnExactMovesBetweenSpec.pre6 enc Try.prog Try.f12 Rows.fnExactMovesBetweenRow.domain false) (Rows.fnExactMovesBetweenSpec.post enc Try.prog Try.f12 false true false false) := by
  refine returnsInHanded_of_change (C := Try.checked) own started (by kernel_rfl) Try.func12
    (ChangeSpec.witness6 (enc := enc) (C := Try.checked) false ⟨#[], #[.int .i64 0, .int .i64 0, .agg #[.int .i64 0, .int .i64 0], .agg #[.int .i64 0, .int .i64 0], .agg #[.int .i64 0, .int .i64 0], .agg #[.int .i64 0, .int .i64 0]], []⟩ 8 (by kernel_rfl) (by kernel_rfl) (by kernel_rfl) (by kernel_rfl)) ?_
  intro W base args ds gs before hval0 hW hcnd _
  have hval : ∀ (j : Nat) t v, Try.f12.params[j]? = some t → args[j]? = some v → Value.okWide Try.prog W .any base t v := hval0
  have hW' := hW
  obtain ⟨p, q, hA0, hV, rfl, hfz, hnd⟩ := hW
  have hA : DataW.TrodAll enc Try.prog W 0 (fun _ => true) true Try.f12.params.toList args.toList ds p := hA0
  rw [Try.params12] at hA hval
  obtain ⟨v0, vs0, d0, ds0, p0, q0, hargs, rfl, rfl, h0, r0⟩ := trodAll_cons hA
  obtain ⟨v1, vs1, d1, ds1, p1, q1, rfl, rfl, rfl, h1, r1⟩ := trodAll_cons r0
  obtain ⟨v2, vs2, d2, ds2, p2, q2, rfl, rfl, rfl, h2, r2⟩ := trodAll_cons r1
  obtain ⟨v3, vs3, d3, ds3, p3, q3, rfl, rfl, rfl, h3, r3⟩ := trodAll_cons r2
  obtain ⟨v4, vs4, d4, ds4, p4, q4, rfl, rfl, rfl, h4, r4⟩ := trodAll_cons r3
  obtain ⟨v5, vs5, d5, ds5, p5, q5, rfl, rfl, rfl, h5, r5⟩ := trodAll_cons r4
  obtain ⟨rfl, rfl, rfl⟩ := trodAll_nil r5
  obtain rfl : args = #[v0, v1, v2, v3, v4, v5] := by cases args; simp_all
  obtain ⟨rfl, rfl⟩ := trodVars_none hV
  obtain ⟨a0, rfl, rfl, rfl, w0⟩ := open_int (t := 2) (k := .i64) (by kernel_rfl) (hval 0 2 v0 rfl rfl) h0
  obtain ⟨a1, rfl, rfl, rfl, w1⟩ := open_int (t := 2) (k := .i64) (by kernel_rfl) (hval 1 2 v1 rfl rfl) h1
  obtain ⟨xs2, hl2, rfl, hw2⟩ := open_ints_agg ic23 (by kernel_rfl) (hval 2 23 v2 rfl rfl) h2
  obtain ⟨a2_0, a2_1, rfl⟩ := len2 hl2
  obtain ⟨xs3, hl3, rfl, hw3⟩ := open_ints_agg ic23 (by kernel_rfl) (hval 3 23 v3 rfl rfl) h3
  obtain ⟨a3_0, a3_1, rfl⟩ := len2 hl3
  obtain ⟨xs4, hl4, rfl, hw4⟩ := open_ints_agg ic23 (by kernel_rfl) (hval 4 23 v4 rfl rfl) h4
  obtain ⟨a4_0, a4_1, rfl⟩ := len2 hl4
  obtain ⟨xs5, hl5, rfl, hw5⟩ := open_ints_agg ic23 (by kernel_rfl) (hval 5 23 v5 rfl rfl) h5
  obtain ⟨a5_0, a5_1, rfl⟩ := len2 hl5
  clear hA0 hval0
  simp only [List.append_nil] at hW'
  refine (laws_FnExactMovesBetween.calls 100000 a0 a1 a2_0 a2_1 a3_0 a3_1 a4_0 a4_1 a5_0 a5_1 true W (law_FnExactMovesBetween (K := 100000) (by decide) a0 a1 a2_0 a2_1 a3_0 a3_1 a4_0 a4_1 a5_0 a5_1)).mono fun e W' ⟨he, hu⟩ => ?_
  subst he
  exact ⟨_, rfl, post_up kids full rfl (by rw [Try.params12]; decide +kernel) rfl (by kernel_rfl) hW' rfl hu⟩
theorem over : Rows.fnExactMovesBetweenRow.holds Try.pinned (OpenSpec.ofChange Rows.fnExactMovesBetweenSpec) :=
  OpenClaim.holds_of_wide 12 Try.f12 rfl rfl rfl rfl rfl rfl rfl ⟨rfl, rfl, rfl, rfl, rfl⟩ rfl rfl rfl rfl rfl (by kernel_rfl) Try.func12 (by kernel_rfl)
    (of_decide_eq_true (by kernel_rfl)) (by unfold Func.isWrapper; first | (rw [if_pos (by decide +kernel)]; kernel_rfl) | (rw [if_neg (by decide +kernel)]; exact ⟨rfl, rfl⟩))
    (fun os started H enc _ => lifted os started H enc)
end Go.Proofs.Ytbibgeoohpgaeaa.fnExactMovesBetween
namespace Go.Proofs.Ytbibgeoohpgaeaa
/-- The statement. -/
theorem fnExactMovesBetween_holds : Rows.FnExactMovesBetweenSaid := fnExactMovesBetween.over
#print axioms fnExactMovesBetween_holds
end Go.Proofs.Ytbibgeoohpgaeaa
