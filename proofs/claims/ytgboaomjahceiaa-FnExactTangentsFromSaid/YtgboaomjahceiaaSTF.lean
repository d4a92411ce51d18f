/- The statement on FnExactTangentsFrom: for every input the call returns true, and the arguments read as before. No condition. -/
import Derived.Test.YtgboaomjahceiaaR
import Derived.Test.YtgboaomjahceiaaWTF2
import Derived.Test.YtgboaomjahceiaaB0
import Derived.Test.YtgboaomjahceiaaB1
import Derived.Test.YtgboaomjahceiaaB2
import Derived.Test.YtgboaomjahceiaaB3
import Derived.Test.YtgboaomjahceiaaL
import Derived.Test.YtgboaomjahceiaaM1
import Derived.Test.YtgboaomjahceiaaM2
import Derived.Test.YtgboaomjahceiaaM3
import Derived.Test.YtgboaomjahceiaaM4
import Derived.Test.YtgboaomjahceiaaM5
import Derived.Test.YtgboaomjahceiaaM6
import Derived.Test.YtgboaomjahceiaaI2
import Derived.Test.YtgboaomjahceiaaC1
import Derived.Test.YtgboaomjahceiaaC2
import Derived.Test.YtgboaomjahceiaaG1
import Derived.Test.YtgboaomjahceiaaG2
import Derived.Test.YtgboaomjahceiaaG3
namespace Go.Proofs.Ytgboaomjahceiaa.fnExactTangentsFrom
open Go Go.ChangeShapes Go.WideShapes Go.ChangeAt Go.RowKit
set_option linter.unusedVariables false
theorem own : ownKnob Try.prog.godebug = none := by kernel_rfl
theorem ic2 : IntCells Try.prog 2 1 := IntCells.int (by kernel_rfl) (by kernel_rfl)
theorem ic22 : IntCells Try.prog 22 2 := IntCells.array (n := 2) (m := 1) (by kernel_rfl) ic2 (by kernel_rfl)
theorem ic24 : IntCells Try.prog 24 3 := IntCells.struct' (ts := [22, 2]) (by kernel_rfl) (by kernel_rfl) (fun u hu => by rcases List.mem_cons.1 hu with rfl | hu; exact ⟨_, ic22⟩; rcases List.mem_cons.1 hu with rfl | hu; exact ⟨_, ic2⟩; cases hu)
theorem kids : Kids Try.prog (· < Try.prog.types.size) := kids_rows (by kernel_rfl) (by kernel_rfl)
theorem full : ∀ t e, t < Try.prog.types.size → Try.prog.underlying t = some (.slice e) → 0 < Try.prog.cellsOf e := slices_full_of Try.prog (by kernel_rfl)
set_option maxRecDepth 100000 in
theorem lifted (os : Os) (started : os.Started) (H : Type) (enc : TypeId × Value → H) :
    ReturnsInHanded {} Try.checked os 3 .any (Rows.fnExactTangentsFromSpec.pre6 enc Try.prog Try.f3 Rows.fnExactTangentsFromRow.domain false) (Rows.fnExactTangentsFromSpec.post enc Try.prog Try.f3 false true false false) := by
  refine returnsInHanded_of_change (C := Try.checked) own started (by kernel_rfl) Try.func3
    (ChangeSpec.witness6 (enc := enc) (C := Try.checked) false ⟨#[], #[.int .i64 0, .int .i64 0, .agg #[.int .i64 0, .int .i64 0, .int .i64 0], .agg #[.int .i64 0, .int .i64 0]], []⟩ 8 (by kernel_rfl) (by kernel_rfl) (by kernel_rfl) (by kernel_rfl)) ?_
  intro W base args ds gs before hval0 hW hcnd _
  have hval : ∀ (j : Nat) t v, Try.f3.params[j]? = some t → args[j]? = some v → Value.okWide Try.prog W .any base t v := hval0
  have hW' := hW
  obtain ⟨p, q, hA0, hV, rfl, hfz, hnd⟩ := hW
  have hA : DataW.TrodAll enc Try.prog W 0 (fun _ => true) true Try.f3.params.toList args.toList ds p := hA0
  rw [Try.params3] at hA hval
  obtain ⟨v0, vs0, d0, ds0, p0, q0, hargs, rfl, rfl, h0, r0⟩ := trodAll_cons hA
  obtain ⟨v1, vs1, d1, ds1, p1, q1, rfl, rfl, rfl, h1, r1⟩ := trodAll_cons r0
  obtain ⟨v2, vs2, d2, ds2, p2, q2, rfl, rfl, rfl, h2, r2⟩ := trodAll_cons r1
  obtain ⟨v3, vs3, d3, ds3, p3, q3, rfl, rfl, rfl, h3, r3⟩ := trodAll_cons r2
  obtain ⟨rfl, rfl, rfl⟩ := trodAll_nil r3
  obtain rfl : args = #[v0, v1, v2, v3] := by cases args; simp_all
  obtain ⟨rfl, rfl⟩ := trodVars_none hV
  obtain ⟨a0, rfl, rfl, rfl, w0⟩ := open_int (t := 2) (k := .i64) (by kernel_rfl) (hval 0 2 v0 rfl rfl) h0
  obtain ⟨a1, rfl, rfl, rfl, w1⟩ := open_int (t := 2) (k := .i64) (by kernel_rfl) (hval 1 2 v1 rfl rfl) h1
  obtain ⟨xs2, hl2, rfl, hw2⟩ := open_ints_agg ic24 (by kernel_rfl) (hval 2 24 v2 rfl rfl) h2
  obtain ⟨a2_0, a2_1, a2_2, rfl⟩ := len3 hl2
  obtain ⟨xs3, hl3, rfl, hw3⟩ := open_ints_agg ic22 (by kernel_rfl) (hval 3 22 v3 rfl rfl) h3
  obtain ⟨a3_0, a3_1, rfl⟩ := len2 hl3
  clear hA0 hval0
  simp only [List.append_nil] at hW'
  refine (laws_FnExactTangentsFrom.calls 100000 a0 a1 a2_0 a2_1 a2_2 a3_0 a3_1 true W  (law_FnExactTangentsFrom (K := 100000) (by decide) a0 a1 a2_0 a2_1 a2_2 a3_0 a3_1)).mono fun e W' ⟨he, hu⟩ => ?_
  subst he
  exact ⟨_, rfl, post_up kids full rfl (by rw [Try.params3]; decide +kernel) rfl (by kernel_rfl) hW' rfl hu⟩
theorem over : Rows.fnExactTangentsFromRow.holds Try.pinned (OpenSpec.ofChange Rows.fnExactTangentsFromSpec) :=
  OpenClaim.holds_of_wide 3 Try.f3 rfl rfl rfl rfl rfl rfl rfl ⟨rfl, rfl, rfl, rfl, rfl⟩ rfl rfl rfl rfl rfl (by kernel_rfl) Try.func3 (by kernel_rfl)
    (of_decide_eq_true (by kernel_rfl)) (by unfold Func.isWrapper; first | (rw [if_pos (by decide +kernel)]; kernel_rfl) | (rw [if_neg (by decide +kernel)]; exact ⟨rfl, rfl⟩))
    (fun os started H enc _ => lifted os started H enc)
end Go.Proofs.Ytgboaomjahceiaa.fnExactTangentsFrom
namespace Go.Proofs.Ytgboaomjahceiaa
/-- The statement. -/
theorem fnExactTangentsFrom_holds : Rows.FnExactTangentsFromSaid := fnExactTangentsFrom.over
#print axioms fnExactTangentsFrom_holds
end Go.Proofs.Ytgboaomjahceiaa
