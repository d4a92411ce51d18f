/- The statement on FnExactOrderOfMove: for every input the call returns true, and the arguments read as before. No condition. -/
import Derived.Test.YtbibgeoohpgaeaaDoorRV
import Derived.Test.YtbibgeoohpgaeaaDoorTie
import Derived.Test.YtbibgeoohpgaeaaDoorCards
import Derived.LaidMore
import Derived.OpenShut
import Derived.Stop.Joined
import Derived.SevenTiedAt
import Derived.Test.YtbibgeoohpgaeaaDoorWOrd3
import Derived.Test.YtbibgeoohpgaeaaDoorV5
namespace Go.Proofs.YtbibgeoohpgaeaaDoor.fnExactOrderOfMove
open Go Go.ChangeShapes Go.WideShapes Go.ChangeAt Go.RowKit
set_option linter.unusedVariables false
theorem own : ownKnob Tryd.prog.godebug = none := by kernel_rfl
theorem ic2 : IntCells Tryd.prog 2 1 := IntCells.int (by kernel_rfl) (by kernel_rfl)
theorem ic22 : IntCells Tryd.prog 22 4 := IntCells.array (n := 4) (m := 1) (by kernel_rfl) ic2 (by kernel_rfl)
theorem ic23 : IntCells Tryd.prog 23 2 := IntCells.array (n := 2) (m := 1) (by kernel_rfl) ic2 (by kernel_rfl)
theorem ic25 : IntCells Tryd.prog 25 6 := IntCells.struct' (ts := [22, 23]) (by kernel_rfl) (by kernel_rfl) (fun u hu => by rcases List.mem_cons.1 hu with rfl | hu; exact ⟨_, ic22⟩; rcases List.mem_cons.1 hu with rfl | hu; exact ⟨_, ic23⟩; cases hu)
theorem kids : Kids Tryd.prog (· < Tryd.prog.types.size) := kids_rows (by kernel_rfl) (by kernel_rfl)
theorem full : ∀ t e, t < Tryd.prog.types.size → Tryd.prog.underlying t = some (.slice e) → 0 < Tryd.prog.cellsOf e := slices_full_of Tryd.prog (by kernel_rfl)
theorem gU : Tryd.prog.globalNamed "loop.example/g01370/impl.unit" = some 0 := by kernel_rfl
theorem tU : (Tryd.prog.globals[0]?).map (·.type) = some 22 := by kernel_rfl
/-- The door's own heap meets the condition: closed facts. -/
theorem door_met (os : Os) (args : Array Value) : laidMetH Tryd.prog [("loop.example/g01370/impl.unit", Rows.laid_loop_example_g01370_impl_unit)] ((World.doorLaid Tryd.prog 400 os).forCall (fun _ _ => 0) ⟨#[], args, []⟩).memory :=
  laidMetH_of_parts3 (fuel := 8) (laidMet_of_run' 8 (by kernel_rfl) (by kernel_rfl)) (by kernel_rfl) (by kernel_rfl)
theorem get_of_chunk {l : List Value} {j : Nat} {v : Value} (h : (l.drop j).take 1 = [v]) : l[j]? = some v := by
  have h2 := congrArg List.head? h
  rw [List.head?_take, if_neg (by decide), List.head?_drop] at h2
  simpa using h2
/-- What the condition gives the walks: the variable's cells. -/
theorem of_laid {W : World} (h : laidMetH Tryd.prog [("loop.example/g01370/impl.unit", Rows.laid_loop_example_g01370_impl_unit)] W) : Gv W 0 [.int .i64 1, .int .i64 0, .int .i64 0, .int .i64 1] := by
  rw [MakeChecks.laidMetH_plain _ _ _ (by kernel_rfl)] at h
  obtain ⟨ps, ⟨g0, t0, cs0, f0, p0, q0, hg0, ht0, hv0, hd0, _⟩, _, _⟩ := h
  obtain rfl := Option.some.inj (gU.symm.trans hg0)
  obtain rfl := Option.some.inj (tU.symm.trans ht0)
  obtain ⟨xs, m1, rfl, hx1, hlen, hn3, hel⟩ := DataW.trod_array Tryd.underlying22 hd0
  have cE : Tryd.prog.cellsOf 2 = 1 := by kernel_rfl
  simp only [Prod.mk.injEq, Rows.laid_loop_example_g01370_impl_unit, DataW.agg.injEq] at hx1
  have h0 := hel 0 (by decide)
  have h1 := hel 1 (by decide)
  have h2 := hel 2 (by decide)
  have h3 := hel 3 (by decide)
  match xs, hn3, hx1, h0, h1, h2, h3 with
  | [x0, x1, x2, x3], _, hx1, h0, h1, h2, h3 =>
    simp only [List.map_cons, List.map_nil, List.cons.injEq] at hx1
    obtain ⟨k0, e0, d0, _⟩ := DataW.trod_int Tryd.underlying2 (show DataW.trod _ Tryd.prog W 0 _ false m1 2 _ = some x0 from h0)
    obtain ⟨k1, e1, d1, _⟩ := DataW.trod_int Tryd.underlying2 (show DataW.trod _ Tryd.prog W 0 _ false m1 2 _ = some x1 from h1)
    obtain ⟨k2, e2, d2, _⟩ := DataW.trod_int Tryd.underlying2 (show DataW.trod _ Tryd.prog W 0 _ false m1 2 _ = some x2 from h2)
    obtain ⟨k3, e3, d3, _⟩ := DataW.trod_int Tryd.underlying2 (show DataW.trod _ Tryd.prog W 0 _ false m1 2 _ = some x3 from h3)
    have y0 : k0 = 1 := by rw [d0] at hx1; simpa using hx1.1.1.symm
    subst y0
    have c0 : W.cell? ⟨0, 0, none⟩ = some (.int .i64 1) := by rw [World.var?_cell hg0 hv0 0, ← Array.getElem?_toList]; exact get_of_chunk (by rw [cE] at e0; simpa using e0)
    have y1 : k1 = 0 := by rw [d1] at hx1; simpa using hx1.1.2.1.symm
    subst y1
    have c1 : W.cell? ⟨0, 1, none⟩ = some (.int .i64 0) := by rw [World.var?_cell hg0 hv0 1, ← Array.getElem?_toList]; exact get_of_chunk (by rw [cE] at e1; simpa using e1)
    have y2 : k2 = 0 := by rw [d2] at hx1; simpa using hx1.1.2.2.1.symm
    subst y2
    have c2 : W.cell? ⟨0, 2, none⟩ = some (.int .i64 0) := by rw [World.var?_cell hg0 hv0 2, ← Array.getElem?_toList]; exact get_of_chunk (by rw [cE] at e2; simpa using e2)
    have y3 : k3 = 1 := by rw [d3] at hx1; simpa using hx1.1.2.2.2.1.symm
    subst y3
    have c3 : W.cell? ⟨0, 3, none⟩ = some (.int .i64 1) := by rw [World.var?_cell hg0 hv0 3, ← Array.getElem?_toList]; exact get_of_chunk (by rw [cE] at e3; simpa using e3)
    exact ⟨World.block_lt_of_cell? W ⟨0, 0, none⟩ c0, fun j v hv => by
      match j with
      | 0 => rw [← Option.some.inj hv]; exact c0
      | 1 => rw [← Option.some.inj hv]; exact c1
      | 2 => rw [← Option.some.inj hv]; exact c2
      | 3 => rw [← Option.some.inj hv]; exact c3
      | _ + 4 => cases hv⟩
set_option maxRecDepth 100000 in
theorem lifted (os : Os) (started : os.Started) (H : Type) (enc : TypeId × Value → H) :
    ReturnsInHanded {} Tryd.checked os 3 .any (fun w args => (Rows.fnExactOrderOfMoveSpec.pre enc Tryd.prog Tryd.f3 [] false w args ∧ laidMetH Tryd.prog [("loop.example/g01370/impl.unit", Rows.laid_loop_example_g01370_impl_unit)] w) ∧ sizedMet enc Tryd.prog Tryd.f3 (OpenSpec.ofChange Rows.fnExactOrderOfMoveSpec) false w args) (Rows.fnExactOrderOfMoveSpec.post enc Tryd.prog Tryd.f3 false true false false) := by
  refine returnsInHanded_of_change_and (C := Tryd.checked) (X := fun w _ => laidMetH Tryd.prog [("loop.example/g01370/impl.unit", Rows.laid_loop_example_g01370_impl_unit)] w) (fun _ _ _ hh h => h.of_heap hh) own started (by kernel_rfl) Tryd.func3
    (ChangeSpec.witness_shaped (enc := enc) (C := Tryd.checked) (os := os) (X := fun w _ => laidMetH Tryd.prog [("loop.example/g01370/impl.unit", Rows.laid_loop_example_g01370_impl_unit)] w) false (World.doorLaid Tryd.prog 400 os) #[.int .i64 0, .int .i64 0, .agg #[.int .i64 0, .int .i64 0, .int .i64 0, .int .i64 0, .int .i64 0, .int .i64 0]] 8 rfl (World.shaped_of_RefB (by kernel_rfl) (by kernel_rfl)) (by kernel_rfl) (by kernel_rfl) (by kernel_rfl) (door_met os _)) ?_
  intro W base args ds gs before hval0 hW _ _ hL _
  have hval : ∀ (j : Nat) t v, Tryd.f3.params[j]? = some t → args[j]? = some v → Value.okWide Tryd.prog W .any base t v := hval0
  have hW' := hW
  obtain ⟨p, q, hA0, hV, rfl, hfz, hnd⟩ := hW
  have hA : DataW.TrodAll enc Tryd.prog W 0 (fun _ => true) true Tryd.f3.params.toList args.toList ds p := hA0
  rw [Tryd.params3] at hA hval
  obtain ⟨v0, vs0, d0, ds0, p0, q0, hargs, rfl, rfl, h0, r0⟩ := trodAll_cons hA
  obtain ⟨v1, vs1, d1, ds1, p1, q1, rfl, rfl, rfl, h1, r1⟩ := trodAll_cons r0
  obtain ⟨v2, vs2, d2, ds2, p2, q2, rfl, rfl, rfl, h2, r2⟩ := trodAll_cons r1
  obtain ⟨rfl, rfl, rfl⟩ := trodAll_nil r2
  obtain rfl : args = #[v0, v1, v2] := by cases args; simp_all
  obtain ⟨gg, gt, gcs, gfuel, gd, gp, rfl, -⟩ := trodVars_one hV
  obtain ⟨a0, rfl, rfl, rfl, w0⟩ := open_int (t := 2) (k := .i64) (by kernel_rfl) (hval 0 2 v0 rfl rfl) h0
  obtain ⟨a1, rfl, rfl, rfl, w1⟩ := open_int (t := 2) (k := .i64) (by kernel_rfl) (hval 1 2 v1 rfl rfl) h1
  obtain ⟨xs2, hl2, rfl, hw2⟩ := open_ints_agg ic25 (by kernel_rfl) (hval 2 25 v2 rfl rfl) h2
  obtain ⟨a2_0, a2_1, a2_2, a2_3, a2_4, a2_5, rfl⟩ := len6 hl2
  clear hA0 hval0
  simp only [List.append_nil] at hW'
  refine (laws_FnExactOrderOfMove.calls 2000000000 a0 a1 a2_0 a2_1 a2_2 a2_3 a2_4 a2_5 true W (of_laid hL) (law_FnExactOrderOfMove (K := 2000000000) (by decide) a0 a1 a2_0 a2_1 a2_2 a2_3 a2_4 a2_5)).mono fun e W' ⟨he, hu⟩ => ?_
  subst he
  exact ⟨_, rfl, post_up_v kids full rfl (fun g t h1 h2 => by obtain rfl := Option.some.inj (gU.symm.trans h1); obtain rfl := Option.some.inj (tU.symm.trans h2); decide +kernel) (by rw [Tryd.params3]; decide +kernel) rfl (by kernel_rfl) hW' rfl hu⟩
theorem over : Rows.fnExactOrderOfMoveRow.holds Tryd.pinned (OpenSpec.ofChange Rows.fnExactOrderOfMoveSpec) :=
  OpenClaim.holds_of_wide 3 Tryd.f3 rfl rfl rfl rfl rfl rfl rfl ⟨rfl, rfl, rfl, rfl, rfl⟩ rfl rfl rfl rfl rfl (by kernel_rfl) Tryd.func3 (by kernel_rfl)
    (of_decide_eq_true (by kernel_rfl)) (by unfold Func.isWrapper; first | (rw [if_pos (by decide +kernel)]; kernel_rfl) | (rw [if_neg (by decide +kernel)]; exact ⟨rfl, rfl⟩))
    (fun os started H enc _ => lifted os started H enc)
end Go.Proofs.YtbibgeoohpgaeaaDoor.fnExactOrderOfMove
namespace Go.Proofs.YtbibgeoohpgaeaaDoor
set_option maxRecDepth 100000 in
/-- The statement: the tied card. -/
theorem fnExactOrderOfMove_holds : Rows.FnExactOrderOfMoveCardSaid :=
  Claim7.holds_tied_plain_at .later [] [.data] true (true, "cf7667c585d01df2c5279df05ab1a0f5a59883e7783ab9f1b190833c07f4af19") false
    fnExactOrderOfMove.over (fun _ h => by cases h) (by kernel_rfl) (fun _ h => by cases h) fnExactOrderOfMove_row_tie rfl ⟨rfl, rfl⟩ (by kernel_rfl) rfl
    (fun f fn hf hfn => by
      obtain rfl : f = 3 := Option.some.inj ((show Tryd.prog.funcNamed "loop.example/g01370/laws.FnExactOrderOfMove" = some 3 by kernel_rfl).symm.trans hf) |>.symm
      obtain rfl : fn = Tryd.f3 := (Option.some.inj (Tryd.func3.symm.trans hfn)).symm
      exact ⟨by kernel_rfl, fun j t ht => by
        rw [Tryd.params3] at ht
        have hm : t ∈ [2, 2, 25] := by simpa using Array.mem_of_getElem? ht
        have hall : ([2, 2, 25].all fun u => !Tryd.prog.wantsStandIn u) = true := by kernel_rfl
        exact (show Tryd.prog.wantsStandIn t = false by simpa using List.all_eq_true.1 hall t hm)⟩)
    (by kernel_rfl)
#print axioms fnExactOrderOfMove_holds
end Go.Proofs.YtbibgeoohpgaeaaDoor
