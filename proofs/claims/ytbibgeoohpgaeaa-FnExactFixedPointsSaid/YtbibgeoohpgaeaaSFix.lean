/- The statement on FnExactFixedPoints: for every input the call returns true, and the arguments read as before. No condition. -/
import Derived.Test.YtbibgeoohpgaeaaR
import Derived.Test.YtbibgeoohpgaeaaWFix3
import Derived.Test.YtbibgeoohpgaeaaV1
namespace Go.Proofs.Ytbibgeoohpgaeaa.fnExactFixedPoints
open Go Go.ChangeShapes Go.WideShapes Go.ChangeAt Go.RowKit
set_option linter.unusedVariables false
theorem own : ownKnob Try.prog.godebug = none := by kernel_rfl
theorem ic2 : IntCells Try.prog 2 1 := IntCells.int (by kernel_rfl) (by kernel_rfl)
theorem ic22 : IntCells Try.prog 22 4 := IntCells.array (n := 4) (m := 1) (by kernel_rfl) ic2 (by kernel_rfl)
theorem ic23 : IntCells Try.prog 23 2 := IntCells.array (n := 2) (m := 1) (by kernel_rfl) ic2 (by kernel_rfl)
theorem ic25 : IntCells Try.prog 25 6 := IntCells.struct' (ts := [22, 23]) (by kernel_rfl) (by kernel_rfl) (fun u hu => by rcases List.mem_cons.1 hu with rfl | hu; exact ⟨_, ic22⟩; rcases List.mem_cons.1 hu with rfl | hu; exact ⟨_, ic23⟩; cases hu)
theorem kids : Kids Try.prog (· < Try.prog.types.size) := kids_rows (by kernel_rfl) (by kernel_rfl)
theorem full : ∀ t e, t < Try.prog.types.size → Try.prog.underlying t = some (.slice e) → 0 < Try.prog.cellsOf e := slices_full_of Try.prog (by kernel_rfl)
set_option maxRecDepth 100000 in
theorem lifted (os : Os) (started : os.Started) (H : Type) (enc : TypeId × Value → H) :
    ReturnsInHanded {} Try.checked os 6 .any (Rows.fnExactFixedPointsSpec.pre6 enc Try.prog Try.f6 Rows.fnExactFixedPointsRow.domain false) (Rows.fnExactFixedPointsSpec.post enc Try.prog Try.f6 false true false false) := by
  refine returnsInHanded_of_change (C := Try.checked) own started (by kernel_rfl) Try.func6
    (ChangeSpec.witness6 (enc := enc) (C := Try.checked) false ⟨#[], #[.int .i64 0, .agg #[.int .i64 0, .int .i64 0, .int .i64 0, .int .i64 0, .int .i64 0, .int .i64 0]], []⟩ 8 (by kernel_rfl) (by kernel_rfl) (by kernel_rfl) (by kernel_rfl)) ?_
  intro W base args ds gs before hval0 hW hcnd _
  have hval : ∀ (j : Nat) t v, Try.f6.params[j]? = some t → args[j]? = some v → Value.okWide Try.prog W .any base t v := hval0
  have hW' := hW
  obtain ⟨p, q, hA0, hV, rfl, hfz, hnd⟩ := hW
  have hA : DataW.TrodAll enc Try.prog W 0 (fun _ => true) true Try.f6.params.toList args.toList ds p := hA0
  rw [Try.params6] at hA hval
  obtain ⟨v0, vs0, d0, ds0, p0, q0, hargs, rfl, rfl, h0, r0⟩ := trodAll_cons hA
  obtain ⟨v1, vs1, d1, ds1, p1, q1, rfl, rfl, rfl, h1, r1⟩ := trodAll_cons r0
  obtain ⟨rfl, rfl, rfl⟩ := trodAll_nil r1
  obtain rfl : args = #[v0, v1] := by cases args; simp_all
  obtain ⟨rfl, rfl⟩ := trodVars_none hV
  obtain ⟨a0, rfl, rfl, rfl, w0⟩ := open_int (t := 2) (k := .i64) (by kernel_rfl) (hval 0 2 v0 rfl rfl) h0
  obtain ⟨xs1, hl1, rfl, hw1⟩ := open_ints_agg ic25 (by kernel_rfl) (hval 1 25 v1 rfl rfl) h1
  obtain ⟨a1_0, a1_1, a1_2, a1_3, a1_4, a1_5, rfl⟩ := len6 hl1
  clear hA0 hval0
  simp only [List.append_nil] at hW'
  refine (laws_FnExactFixedPoints.calls 100000 a0 a1_0 a1_1 a1_2 a1_3 a1_4 a1_5 true W (law_FnExactFixedPoints (K := 100000) (by decide) a0 a1_0 a1_1 a1_2 a1_3 a1_4 a1_5)).mono fun e W' ⟨he, hu⟩ => ?_
  subst he
  exact ⟨_, rfl, post_up kids full rfl (by rw [Try.params6]; decide +kernel) rfl (by kernel_rfl) hW' rfl hu⟩
theorem over : Rows.fnExactFixedPointsRow.holds Try.pinned (OpenSpec.ofChange Rows.fnExactFixedPointsSpec) :=
  OpenClaim.holds_of_wide 6 Try.f6 rfl rfl rfl rfl rfl rfl rfl ⟨rfl, rfl, rfl, rfl, rfl⟩ rfl rfl rfl rfl rfl (by kernel_rfl) Try.func6 (by kernel_rfl)
    (of_decide_eq_true (by kernel_rfl)) (by unfold Func.isWrapper; first | (rw [if_pos (by decide +kernel)]; kernel_rfl) | (rw [if_neg (by decide +kernel)]; exact ⟨rfl, rfl⟩))
    (fun os started H enc _ => lifted os started H enc)
end Go.Proofs.Ytbibgeoohpgaeaa.fnExactFixedPoints
namespace Go.Proofs.Ytbibgeoohpgaeaa
/-- The statement. -/
theorem fnExactFixedPoints_holds : Rows.FnExactFixedPointsSaid := fnExactFixedPoints.over
#print axioms fnExactFixedPoints_holds
end Go.Proofs.Ytbibgeoohpgaeaa
