/- The walks: each of these functions of the program computes what its plain function says: laws_FnExactWeightsOf. -/
import Derived.Test.YtohpnbfgemngmaaProg
import Derived.Test.YtohpnbfgemngmaaD1
import Derived.WalkKit
import Derived.KernelRfl
import Derived.BigQuiet
import Derived.Deep.LoopGhost
import Derived.Laws.StructEq
import Derived.Test.YtohpnbfgemngmaaWWeights2
namespace Go.Proofs.Ytohpnbfgemngmaa
open Go Go.RowKit
attribute [local go_sem] Oper.quiet Oper.quietAt Oper.quietUpon
set_option linter.unusedVariables false
set_option linter.unusedSimpArgs false

set_option maxHeartbeats 4000000 in
set_option maxRecDepth 100000 in
theorem laws_FnExactWeightsOf.calls (K : Nat) (a0 : Int) (a1_0 : Int) (a1_1 : Int) (a2_0 : Int) (a2_1 : Int) (a3_0 : Int) (a3_1 : Int) (a4_0 : Int) (a4_1 : Int) (r0 : Bool) (w : World)  (h : laws_FnExactWeightsOf.f K a0 a1_0 a1_1 a2_0 a2_1 a3_0 a3_1 a4_0 a4_1 = some (r0)) :
    Calls Try.prog 5 #[.int .i64 a0, .agg #[.int .i64 a1_0, .int .i64 a1_1], .agg #[.int .i64 a2_0, .int .i64 a2_1], .agg #[.int .i64 a3_0, .int .i64 a3_1], .agg #[.int .i64 a4_0, .int .i64 a4_1]] w fun e w' => e = .returned (.bool r0) ∧ Up w w' := by
 have H : (((laws_toPoint.f K a1_0 a1_1).bind fun (t15, t16) => ((laws_toPoint.f K a2_0 a2_1).bind fun (t18, t19) => ((laws_toPoint.f K a3_0 a3_1).bind fun (t21, t22) => ((laws_toPoint.f K a4_0 a4_1).bind fun (t24, t25) => ((spec_WeightsOf.f K a0 t15 t16 t18 t19 t21 t22 t24 t25).bind fun (t27, t30) => ((laws_toPoint.f K a1_0 a1_1).bind fun (t39, t40) => ((laws_toPoint.f K a2_0 a2_1).bind fun (t42, t43) => ((laws_toPoint.f K a3_0 a3_1).bind fun (t45, t46) => ((laws_toPoint.f K a4_0 a4_1).bind fun (t48, t49) => ((impl_WeightsOf.f K a0 t39 t40 t42 t43 t45 t46 t48 t49).bind fun (t51, t54) => ((laws_eqInt64S.f K t51 t27).bind fun t64 => (if t64 = true then (if (t54 == t30) = true then ((laws_markInt64S.f K t51 1).bind fun (t72, t73) => ((laws_heldInt64S.f K t73 1).bind fun t83 => (if decide (t83 < 0) = true then some false else (if (t83 == t72) = true then ((laws_toPoint.f K a1_0 a1_1).bind fun (t95, t96) => ((laws_toPoint.f K a2_0 a2_1).bind fun (t98, t99) => ((laws_toPoint.f K a3_0 a3_1).bind fun (t101, t102) => ((laws_toPoint.f K a4_0 a4_1).bind fun (t104, t105) => ((impl_WeightsOf.f K a0 t95 t96 t98 t99 t101 t102 t104 t105).bind fun (t107, t110) => ((laws_eqInt64S.f K t107 t27).bind fun t120 => (if t120 = true then (if (t110 == t30) = true then ((laws_heldInt64S.f K t73 1).bind fun t128 => (if decide (t128 < 0) = true then some false else (if (t128 == t72) = true then some true else some false))) else some false) else some false))))))) else some false)))) else some false) else some false)))))))))))) : Option (Bool)) = some (r0) := h
 clear h
 replace H := Option.bind_eq_some_iff.mp H
 obtain ⟨⟨t15, t16⟩, A17, H⟩ := H
 replace A17 := Aside0.mk A17
 try dsimp only at H
 replace H := Option.bind_eq_some_iff.mp H
 obtain ⟨⟨t18, t19⟩, A20, H⟩ := H
 replace A20 := Aside0.mk A20
 try dsimp only at H
 replace H := Option.bind_eq_some_iff.mp H
 obtain ⟨⟨t21, t22⟩, A23, H⟩ := H
 replace A23 := Aside0.mk A23
 try dsimp only at H
 replace H := Option.bind_eq_some_iff.mp H
 obtain ⟨⟨t24, t25⟩, A26, H⟩ := H
 replace A26 := Aside0.mk A26
 try dsimp only at H
 replace H := Option.bind_eq_some_iff.mp H
 obtain ⟨⟨t27, t30⟩, A31, H⟩ := H
 replace A31 := Aside0.mk A31
 try dsimp only at H
 replace H := Option.bind_eq_some_iff.mp H
 obtain ⟨⟨t39, t40⟩, A41, H⟩ := H
 replace A41 := Aside0.mk A41
 try dsimp only at H
 replace H := Option.bind_eq_some_iff.mp H
 obtain ⟨⟨t42, t43⟩, A44, H⟩ := H
 replace A44 := Aside0.mk A44
 try dsimp only at H
 replace H := Option.bind_eq_some_iff.mp H
 obtain ⟨⟨t45, t46⟩, A47, H⟩ := H
 replace A47 := Aside0.mk A47
 try dsimp only at H
 replace H := Option.bind_eq_some_iff.mp H
 obtain ⟨⟨t48, t49⟩, A50, H⟩ := H
 replace A50 := Aside0.mk A50
 try dsimp only at H
 replace H := Option.bind_eq_some_iff.mp H
 obtain ⟨⟨t51, t54⟩, A55, H⟩ := H
 replace A55 := Aside0.mk A55
 try dsimp only at H
 replace H := Option.bind_eq_some_iff.mp H
 obtain ⟨t64, A65, H⟩ := H
 replace A65 := Aside0.mk A65
 try dsimp only at H
 by_cases c68 : (t64) = true
 ·
  rw [if_pos c68] at H
  subst c68
  by_cases c69 : (t54 == t30) = true
  ·
   rw [if_pos c69] at H
   have c69n : (t54 != t30) = false := by rw [bne, c69]; rfl
   replace H := Option.bind_eq_some_iff.mp H
   obtain ⟨⟨t72, t73⟩, A74, H⟩ := H
   replace A74 := Aside0.mk A74
   try dsimp only at H
   replace H := Option.bind_eq_some_iff.mp H
   obtain ⟨t83, A84, H⟩ := H
   replace A84 := Aside0.mk A84
   try dsimp only at H
   by_cases c89 : (decide (t83 < 0)) = true
   ·
    rw [if_pos c89] at H
    obtain rfl := Option.some.inj H
    go_enter Try.func5, Try.ntmps5
    refine wp_hide (fun Qf hQf => ?_)
    refine wp_seq_k (fun K1 hK1 => ?_)
    refine wp_region_lit ?_
    refine step_new (cs := [.int .i64 a1_0, .int .i64 a1_1]) (T := 22) (f := fun b => .pointer (some ⟨b, 0, none⟩)) rfl (by first | (go_simp; done) | (go_simp; rfl)) ?_
    intro b2 w3 hu lb hb2
    simp only [Act.put, nm1, nm2, nm3, i64_w]
    have lbb2 := Aside0.mk lb
    have ltb2 := Aside0.mk hb2.lt
    clear lb
    have hu4 := Aside0.mk hu
    clear hu
    refine step_new (cs := [.int .i64 a2_0, .int .i64 a2_1]) (T := 22) (f := fun b => .pointer (some ⟨b, 0, none⟩)) rfl (by first | (go_simp; done) | (go_simp; rfl)) ?_
    intro b5 w6 hu lb hb5
    simp only [Act.put, nm1, nm2, nm3, i64_w]
    have lbb5 := Aside0.mk lb
    have ltb5 := Aside0.mk hb5.lt
    clear lb
    have hu7 := Aside0.mk hu
    clear hu
    refine step_new (cs := [.int .i64 a3_0, .int .i64 a3_1]) (T := 22) (f := fun b => .pointer (some ⟨b, 0, none⟩)) rfl (by first | (go_simp; done) | (go_simp; rfl)) ?_
    intro b8 w9 hu lb hb8
    simp only [Act.put, nm1, nm2, nm3, i64_w]
    have lbb8 := Aside0.mk lb
    have ltb8 := Aside0.mk hb8.lt
    clear lb
    have hu10 := Aside0.mk hu
    clear hu
    refine step_new (cs := [.int .i64 a4_0, .int .i64 a4_1]) (T := 22) (f := fun b => .pointer (some ⟨b, 0, none⟩)) rfl (by first | (go_simp; done) | (go_simp; rfl)) ?_
    intro b11 w12 hu lb hb11
    simp only [Act.put, nm1, nm2, nm3, i64_w]
    have lbb11 := Aside0.mk lb
    have ltb11 := Aside0.mk hb11.lt
    clear lb
    have hu13 := Aside0.mk hu
    clear hu
    refine wpList_plain rfl (fun Ko hKo => ?_)
    go_simp
    refine hKo _ _ ?_
    clear hKo Ko
    try simp only [Act.put, nm1, nm2, nm3, i64_w]
    refine wpList_nil ?_
    (try simp only [Exit.then, Exit.inBlock, ↓reduceIte, Nat.reduceEqDiff])
    refine hK1 _ _ ?_
    refine wp_seq_k (fun K14 hK14 => ?_)
    refine' wp_region_up 15 [Slot.det _, Slot.det _, Slot.det (.agg #[.int .i64 t15, .int .i64 t16]), Slot.det _, Slot.det (.agg #[.int .i64 t18, .int .i64 t19]), Slot.det _, Slot.det (.agg #[.int .i64 t21, .int .i64 t22]), Slot.det _, Slot.det (.agg #[.int .i64 t24, .int .i64 t25]), Slot.any (RowTo eI 2 w12.heap.size t27 (fun v => .tuple #[v, .int .i64 t30])) false, Slot.any (RowTo eI 2 w12.heap.size t27 (fun v => .tuple #[v, .int .i64 t30])) false, Slot.any (RowTo eI 2 w12.heap.size t27 (fun v => v)) false, Slot.det (.int .i64 t30), Slot.any (RowTo eI 2 w12.heap.size t27 (fun v => v)) false, Slot.det _] (by kernel_rfl) (by kernel_rfl) ?main
    case main =>
     simp only [List.take_succ_cons, List.take_zero]
     refine wpK_ops rfl (fun w1 hu => ?_) ?_
     · clear hu
       go_simp
       first | done | rfl
     simp only [Act.put, nm1, nm2, nm3, i64_w]
     refine wpK_ops rfl (fun w1 hu => ?_) ?_
     · have cl0 := ((hb2.up ((hu7.out.trans hu10.out).trans hu13.out)).up ((Up.refl _).drew.trans hu)).cell (o := 0) rfl
       have cl1 := ((hb2.up ((hu7.out.trans hu10.out).trans hu13.out)).up ((Up.refl _).drew.trans hu)).cell (o := 1) rfl
       go_simp
       first | done | rfl
     simp only [Act.put, nm1, nm2, nm3, i64_w]
     refine wpK_ops rfl (fun w1 hu => ?_) ?_
     · have hcl := (laws_toPoint.calls K a1_0 a1_1 t15 t16 w1  A17.out)
       clear hu
       replace hcl := Aside0.mk hcl
       go_simp
       exact hcl.out
     simp only [Act.put, nm1, nm2, nm3, i64_w]
     refine wpK_ops rfl (fun w1 hu => ?_) ?_
     · have cl0 := ((hb5.up (hu10.out.trans hu13.out)).up ((Up.refl _).drew.trans hu)).cell (o := 0) rfl
       have cl1 := ((hb5.up (hu10.out.trans hu13.out)).up ((Up.refl _).drew.trans hu)).cell (o := 1) rfl
       go_simp
       first | done | rfl
     simp only [Act.put, nm1, nm2, nm3, i64_w]
     refine wpK_ops rfl (fun w1 hu => ?_) ?_
     · have hcl := (laws_toPoint.calls K a2_0 a2_1 t18 t19 w1  A20.out)
       clear hu
       replace hcl := Aside0.mk hcl
       go_simp
       exact hcl.out
     simp only [Act.put, nm1, nm2, nm3, i64_w]
     refine wpK_ops rfl (fun w1 hu => ?_) ?_
     · have cl0 := ((hb8.up hu13.out).up ((Up.refl _).drew.trans hu)).cell (o := 0) rfl
       have cl1 := ((hb8.up hu13.out).up ((Up.refl _).drew.trans hu)).cell (o := 1) rfl
       go_simp
       first | done | rfl
     simp only [Act.put, nm1, nm2, nm3, i64_w]
     refine wpK_ops rfl (fun w1 hu => ?_) ?_
     · have hcl := (laws_toPoint.calls K a3_0 a3_1 t21 t22 w1  A23.out)
       clear hu
       replace hcl := Aside0.mk hcl
       go_simp
       exact hcl.out
     simp only [Act.put, nm1, nm2, nm3, i64_w]
     refine wpK_ops rfl (fun w1 hu => ?_) ?_
     · have cl0 := (hb11.up ((Up.refl _).drew.trans hu)).cell (o := 0) rfl
       have cl1 := (hb11.up ((Up.refl _).drew.trans hu)).cell (o := 1) rfl
       go_simp
       first | done | rfl
     simp only [Act.put, nm1, nm2, nm3, i64_w]
     refine wpK_ops rfl (fun w1 hu => ?_) ?_
     · have hcl := (laws_toPoint.calls K a4_0 a4_1 t24 t25 w1  A26.out)
       clear hu
       replace hcl := Aside0.mk hcl
       go_simp
       exact hcl.out
     simp only [Act.put, nm1, nm2, nm3, i64_w]
     refine wpK_any rfl (stab_row _ _ _ _ _) (fun w1 hu hl => ?_) (fun v32 => ?_)
     · have hcl := spec_WeightsOf.calls K a0 t15 t16 t18 t19 t21 t22 t24 t25 t27 t30 w1  A31.out
       have hz := ((Up.refl _).drew.trans hu).size
       clear hu
       replace hcl := Aside0.mk hcl
       exact fresh_row (by first | (go_simp; done) | (go_simp; rfl)) hcl.out hz
     simp only [Act.put, nm1, nm2, nm3, i64_w]
     refine wpK_any rfl (stab_row _ _ _ _ _) (fun w1 hu hl => ?_) (fun v33 => ?_)
     · exact any_of_run (by first | (go_simp; done) | (go_simp; rfl)) (hl.1 (by kernel_rfl))
     simp only [Act.put, nm1, nm2, nm3, i64_w]
     refine wpK_any rfl (stab_row _ _ _ _ _) (fun w1 hu hl => ?_) (fun v34 => ?_)
     · obtain ⟨A0_, c0_, e0_, hO0_⟩ := hl.1 (by kernel_rfl)
       clear hl hu
       dsimp only at e0_
       subst e0_
       exact any_of_run (u := .slice A0_ t27.length c0_) (by first | (go_simp; done) | (go_simp; rfl)) ⟨A0_, c0_, rfl, hO0_⟩
     simp only [Act.put, nm1, nm2, nm3, i64_w]
     refine wpK_det rfl (fun w1 hu hl => ?_) ?_
     · obtain ⟨A0_, c0_, e0_, hO0_⟩ := hl.2.1 (by kernel_rfl)
       clear hl hu
       dsimp only at e0_
       subst e0_
       clear hO0_
       go_simp
       first | done | rfl
     simp only [Act.put, nm1, nm2, nm3, i64_w]
     refine wpK_any rfl (stab_row _ _ _ _ _) (fun w1 hu hl => ?_) (fun v35 => ?_)
     · exact any_of_run (by first | (go_simp; done) | (go_simp; rfl)) (hl.1 (by kernel_rfl))
     simp only [Act.put, nm1, nm2, nm3, i64_w]
     refine wpK_ops rfl (fun w1 hu => ?_) ?_
     · clear hu
       go_simp
       first | done | rfl
     simp only [Act.put, nm1, nm2, nm3, i64_w]
     refine wpK_nil ?_
     intro w36 hu hap
     simp only [List.drop_succ_cons, List.drop_zero]
     replace hu := (Up.refl _).drew.trans hu
     obtain ⟨-, -, ⟨P28, q29, e0, ht27⟩, -, -, -, -, -, -, -, -, -, -⟩ := hap
     dsimp only at e0
     subst e0
     have hu37 := Aside0.mk hu
     clear hu
     refine wpList_nil ?_
     (try simp only [Exit.then, Exit.inBlock, ↓reduceIte, Nat.reduceEqDiff])
     refine hK14 _ _ ?_
     refine wp_seq_k (fun K38 hK38 => ?_)
     refine' wp_region_up 15 [Slot.det _, Slot.det _, Slot.det (.agg #[.int .i64 t39, .int .i64 t40]), Slot.det _, Slot.det (.agg #[.int .i64 t42, .int .i64 t43]), Slot.det _, Slot.det (.agg #[.int .i64 t45, .int .i64 t46]), Slot.det _, Slot.det (.agg #[.int .i64 t48, .int .i64 t49]), Slot.any (RowTo eI 2 w36.heap.size t51 (fun v => .tuple #[v, .int .i64 t54])) false, Slot.any (RowTo eI 2 w36.heap.size t51 (fun v => .tuple #[v, .int .i64 t54])) false, Slot.any (RowTo eI 2 w36.heap.size t51 (fun v => v)) false, Slot.det (.int .i64 t54), Slot.any (RowTo eI 2 w36.heap.size t51 (fun v => v)) false, Slot.det _] (by kernel_rfl) (by kernel_rfl) ?main
     case main =>
      simp only [List.take_succ_cons, List.take_zero]
      refine wpK_ops rfl (fun w1 hu => ?_) ?_
      · clear hu
        go_simp
        first | done | rfl
      simp only [Act.put, nm1, nm2, nm3, i64_w]
      refine wpK_ops rfl (fun w1 hu => ?_) ?_
      · have cl0 := ((hb2.up (((hu7.out.trans hu10.out).trans hu13.out).trans hu37.out)).up ((Up.refl _).drew.trans hu)).cell (o := 0) rfl
        have cl1 := ((hb2.up (((hu7.out.trans hu10.out).trans hu13.out).trans hu37.out)).up ((Up.refl _).drew.trans hu)).cell (o := 1) rfl
        go_simp
        first | done | rfl
      simp only [Act.put, nm1, nm2, nm3, i64_w]
      refine wpK_ops rfl (fun w1 hu => ?_) ?_
      · have hcl := (laws_toPoint.calls K a1_0 a1_1 t39 t40 w1  A41.out)
        clear hu
        replace hcl := Aside0.mk hcl
        go_simp
        exact hcl.out
      simp only [Act.put, nm1, nm2, nm3, i64_w]
      refine wpK_ops rfl (fun w1 hu => ?_) ?_
      · have cl0 := ((hb5.up ((hu10.out.trans hu13.out).trans hu37.out)).up ((Up.refl _).drew.trans hu)).cell (o := 0) rfl
        have cl1 := ((hb5.up ((hu10.out.trans hu13.out).trans hu37.out)).up ((Up.refl _).drew.trans hu)).cell (o := 1) rfl
        go_simp
        first | done | rfl
      simp only [Act.put, nm1, nm2, nm3, i64_w]
      refine wpK_ops rfl (fun w1 hu => ?_) ?_
      · have hcl := (laws_toPoint.calls K a2_0 a2_1 t42 t43 w1  A44.out)
        clear hu
        replace hcl := Aside0.mk hcl
        go_simp
        exact hcl.out
      simp only [Act.put, nm1, nm2, nm3, i64_w]
      refine wpK_ops rfl (fun w1 hu => ?_) ?_
      · have cl0 := ((hb8.up (hu13.out.trans hu37.out)).up ((Up.refl _).drew.trans hu)).cell (o := 0) rfl
        have cl1 := ((hb8.up (hu13.out.trans hu37.out)).up ((Up.refl _).drew.trans hu)).cell (o := 1) rfl
        go_simp
        first | done | rfl
      simp only [Act.put, nm1, nm2, nm3, i64_w]
      refine wpK_ops rfl (fun w1 hu => ?_) ?_
      · have hcl := (laws_toPoint.calls K a3_0 a3_1 t45 t46 w1  A47.out)
        clear hu
        replace hcl := Aside0.mk hcl
        go_simp
        exact hcl.out
      simp only [Act.put, nm1, nm2, nm3, i64_w]
      refine wpK_ops rfl (fun w1 hu => ?_) ?_
      · have cl0 := ((hb11.up hu37.out).up ((Up.refl _).drew.trans hu)).cell (o := 0) rfl
        have cl1 := ((hb11.up hu37.out).up ((Up.refl _).drew.trans hu)).cell (o := 1) rfl
        go_simp
        first | done | rfl
      simp only [Act.put, nm1, nm2, nm3, i64_w]
      refine wpK_ops rfl (fun w1 hu => ?_) ?_
      · have hcl := (laws_toPoint.calls K a4_0 a4_1 t48 t49 w1  A50.out)
        clear hu
        replace hcl := Aside0.mk hcl
        go_simp
        exact hcl.out
      simp only [Act.put, nm1, nm2, nm3, i64_w]
      refine wpK_any rfl (stab_row _ _ _ _ _) (fun w1 hu hl => ?_) (fun v56 => ?_)
      · have hcl := impl_WeightsOf.calls K a0 t39 t40 t42 t43 t45 t46 t48 t49 t51 t54 w1  A55.out
        have hz := ((Up.refl _).drew.trans hu).size
        clear hu
        replace hcl := Aside0.mk hcl
        exact fresh_row (by first | (go_simp; done) | (go_simp; rfl)) hcl.out hz
      simp only [Act.put, nm1, nm2, nm3, i64_w]
      refine wpK_any rfl (stab_row _ _ _ _ _) (fun w1 hu hl => ?_) (fun v57 => ?_)
      · exact any_of_run (by first | (go_simp; done) | (go_simp; rfl)) (hl.1 (by kernel_rfl))
      simp only [Act.put, nm1, nm2, nm3, i64_w]
      refine wpK_any rfl (stab_row _ _ _ _ _) (fun w1 hu hl => ?_) (fun v58 => ?_)
      · obtain ⟨A0_, c0_, e0_, hO0_⟩ := hl.1 (by kernel_rfl)
        clear hl hu
        dsimp only at e0_
        subst e0_
        exact any_of_run (u := .slice A0_ t51.length c0_) (by first | (go_simp; done) | (go_simp; rfl)) ⟨A0_, c0_, rfl, hO0_⟩
      simp only [Act.put, nm1, nm2, nm3, i64_w]
      refine wpK_det rfl (fun w1 hu hl => ?_) ?_
      · obtain ⟨A0_, c0_, e0_, hO0_⟩ := hl.2.1 (by kernel_rfl)
        clear hl hu
        dsimp only at e0_
        subst e0_
        clear hO0_
        go_simp
        first | done | rfl
      simp only [Act.put, nm1, nm2, nm3, i64_w]
      refine wpK_any rfl (stab_row _ _ _ _ _) (fun w1 hu hl => ?_) (fun v59 => ?_)
      · exact any_of_run (by first | (go_simp; done) | (go_simp; rfl)) (hl.1 (by kernel_rfl))
      simp only [Act.put, nm1, nm2, nm3, i64_w]
      refine wpK_ops rfl (fun w1 hu => ?_) ?_
      · clear hu
        go_simp
        first | done | rfl
      simp only [Act.put, nm1, nm2, nm3, i64_w]
      refine wpK_nil ?_
      intro w60 hu hap
      simp only [List.drop_succ_cons, List.drop_zero]
      replace hu := (Up.refl _).drew.trans hu
      obtain ⟨-, -, ⟨P52, q53, e0, ht51⟩, -, -, -, -, -, -, -, -, -, -⟩ := hap
      dsimp only at e0
      subst e0
      have hu61 := Aside0.mk hu
      clear hu
      refine wpList_nil ?_
      (try simp only [Exit.then, Exit.inBlock, ↓reduceIte, Nat.reduceEqDiff])
      refine hK38 _ _ ?_
      refine wp_seq_k (fun K62 hK62 => ?_)
      refine wp_seq_k (fun K63 hK63 => ?_)
      refine wp_region_lit ?_
      refine wpList_plain rfl (fun Ko hKo => ?_)
      go_simp
      refine hKo _ _ ?_
      clear hKo Ko
      try simp only [Act.put, nm1, nm2, nm3, i64_w]
      refine wpList_plain rfl (fun Ko hKo => ?_)
      go_simp
      refine hKo _ _ ?_
      clear hKo Ko
      try simp only [Act.put, nm1, nm2, nm3, i64_w]
      refine step_call (wanted_none rfl) (by first | (go_simp; done) | (go_simp; rfl)) (laws_eqInt64S.calls K P52 q53 t51 P28 q29 t27 true w60 ht51.rd ((ht27.up hu61.out).rd) A65.out) ?_
      rintro e w66 ⟨rfl, hu⟩
      have hu67 := Aside0.mk hu
      clear hu
      refine ⟨_, rfl, ?_⟩
      simp only [Act.put, nm1, nm2, nm3, i64_w]
      refine wpList_plain rfl (fun Ko hKo => ?_)
      go_simp
      refine hKo _ _ ?_
      clear hKo Ko
      try simp only [Act.put, nm1, nm2, nm3, i64_w]
      refine wpList_plain rfl (fun Ko hKo => ?_)
      go_simp
      refine hKo _ _ ?_
      clear hKo Ko
      try simp only [Act.put, nm1, nm2, nm3, i64_w]
      refine wpList_step (fun Ko hKo => ?_)
      go_simp
      refine hKo _ _ ?_
      clear hKo Ko
      try simp only [Act.put, nm1, nm2, nm3, i64_w]
      refine wpList_step (fun Ko hKo => ?_)
      go_simp
      refine hKo _ _ ?_
      clear hKo Ko
      try simp only [Act.put, nm1, nm2, nm3, i64_w]
      refine wpList_step (fun Ko hKo => ?_)
      go_simp
      refine hKo _ _ ?_
      clear hKo Ko
      try simp only [Act.put, nm1, nm2, nm3, i64_w]
      refine wpList_plain rfl (fun Ko hKo => ?_)
      go_simp
      refine hKo _ _ ?_
      clear hKo Ko
      try simp only [Act.put, nm1, nm2, nm3, i64_w]
      refine wpList_nil ?_
      (try simp only [Exit.then, Exit.inBlock, ↓reduceIte, Nat.reduceEqDiff])
      refine hK63 _ _ ?_
      refine wp_cond_false rfl ?_
      refine wp_skip ?_
      (try simp only [Exit.then, Exit.inBlock, ↓reduceIte, Nat.reduceEqDiff])
      refine hK62 _ _ ?_
      refine wp_seq_k (fun K70 hK70 => ?_)
      refine wp_region_lit ?_
      refine wpList_plain rfl (fun Ko hKo => ?_)
      go_simp
      refine hKo _ _ ?_
      clear hKo Ko
      try simp only [Act.put, nm1, nm2, nm3, i64_w]
      refine wpList_nil ?_
      (try simp only [Exit.then, Exit.inBlock, ↓reduceIte, Nat.reduceEqDiff])
      refine hK70 _ _ ?_
      refine wp_seq_k (fun K71 hK71 => ?_)
      refine wp_region_lit ?_
      refine wpList_plain rfl (fun Ko hKo => ?_)
      go_simp
      refine hKo _ _ ?_
      clear hKo Ko
      try simp only [Act.put, nm1, nm2, nm3, i64_w]
      refine wpList_plain rfl (fun Ko hKo => ?_)
      go_simp
      refine hKo _ _ ?_
      clear hKo Ko
      try simp only [Act.put, nm1, nm2, nm3, i64_w]
      refine step_call (wanted_none rfl) (by first | (go_simp; done) | (go_simp; rfl)) (laws_markInt64S.calls K P52 q53 w36.heap.size t51 1 t72 t73 w66 (ht51.up hu67.out) A74.out) ?_
      have lb76 := Aside0.mk (ht51.up hu67.out).lt
      rintro e w75 ⟨rfl, h77, hl, hg⟩
      have hg79 := Aside0.mk hg
      have hl78 := hl
      clear hg hl
      have hl80 : Aside0 (t51.length = t73.length) := Aside0.mk hl78.out
      refine ⟨_, rfl, ?_⟩
      simp only [Act.put, nm1, nm2, nm3, i64_w]
      refine wpList_plain rfl (fun Ko hKo => ?_)
      go_simp
      refine hKo _ _ ?_
      clear hKo Ko
      try simp only [Act.put, nm1, nm2, nm3, i64_w]
      refine wpList_nil ?_
      (try simp only [Exit.then, Exit.inBlock, ↓reduceIte, Nat.reduceEqDiff])
      refine hK71 _ _ ?_
      refine wp_seq_k (fun K81 hK81 => ?_)
      refine wp_region_lit ?_
      refine wpList_plain rfl (fun Ko hKo => ?_)
      go_simp
      refine hKo _ _ ?_
      clear hKo Ko
      try simp only [Act.put, nm1, nm2, nm3, i64_w]
      refine wpList_nil ?_
      (try simp only [Exit.then, Exit.inBlock, ↓reduceIte, Nat.reduceEqDiff])
      refine hK81 _ _ ?_
      refine wp_seq_k (fun K82 hK82 => ?_)
      refine wp_region_lit ?_
      refine wpList_plain rfl (fun Ko hKo => ?_)
      go_simp
      refine hKo _ _ ?_
      clear hKo Ko
      try simp only [Act.put, nm1, nm2, nm3, i64_w]
      refine wpList_plain rfl (fun Ko hKo => ?_)
      go_simp
      refine hKo _ _ ?_
      clear hKo Ko
      try simp only [Act.put, nm1, nm2, nm3, i64_w]
      refine step_call (wanted_none rfl) (by first | (go_simp; done) | (go_simp; rfl)) (Eq.mp (congrArg (fun n_ => Calls Try.prog 23 #[.slice P52 n_ q53, .int .i64 1] w75 _) (Eq.symm hl80.out)) (laws_heldInt64S.calls K P52 q53 t73 1 t83 w75 h77.rd A84.out)) ?_
      rintro e w85 ⟨rfl, hu⟩
      have hu86 := Aside0.mk hu
      clear hu
      refine ⟨_, rfl, ?_⟩
      simp only [Act.put, nm1, nm2, nm3, i64_w]
      refine wpList_plain rfl (fun Ko hKo => ?_)
      go_simp
      refine hKo _ _ ?_
      clear hKo Ko
      try simp only [Act.put, nm1, nm2, nm3, i64_w]
      refine wpList_nil ?_
      (try simp only [Exit.then, Exit.inBlock, ↓reduceIte, Nat.reduceEqDiff])
      refine hK82 _ _ ?_
      refine wp_seq_k (fun K87 hK87 => ?_)
      refine wp_seq_k (fun K88 hK88 => ?_)
      refine wp_region_lit ?_
      refine wpList_plain rfl (fun Ko hKo => ?_)
      go_simp
      refine hKo _ _ ?_
      clear hKo Ko
      try simp only [Act.put, nm1, nm2, nm3, i64_w]
      refine wpList_plain rfl (fun Ko hKo => ?_)
      go_simp
      refine hKo _ _ ?_
      clear hKo Ko
      try simp only [Act.put, nm1, nm2, nm3, i64_w]
      refine wpList_nil ?_
      (try simp only [Exit.then, Exit.inBlock, ↓reduceIte, Nat.reduceEqDiff])
      refine hK88 _ _ ?_
      refine wp_cond_true rfl ?_
      refine wp_seq_k (fun K90 hK90 => ?_)
      refine wp_region_lit ?_
      refine wpList_plain rfl (fun Ko hKo => ?_)
      go_simp
      refine hKo _ _ ?_
      clear hKo Ko
      try simp only [Act.put, nm1, nm2, nm3, i64_w]
      refine wpList_nil ?_
      (try simp only [Exit.then, Exit.inBlock, ↓reduceIte, Nat.reduceEqDiff])
      refine hK90 _ _ ?_
      refine wp_ret ?_
      (try simp only [Exit.then, Exit.inBlock, ↓reduceIte, Nat.reduceEqDiff])
      refine hQf _ _ _ ?_
      exact bodyPost_ret (v := .bool false) (by first | rfl | (simp [results, Try.results5, go_sem]; done) | (simp [results, Try.results5, go_sem]; rfl)) rfl ⟨rfl, ((((((((hu4.out.trans hu7.out).trans hu10.out).trans hu13.out).trans hu37.out).trans hu61.out).trans hu67.out).grow hg79.out (fun k hk => Nat.le_trans ((Nat.le_trans ((Nat.le_trans ((Nat.le_trans ((Nat.le_trans (hu4.out.size) hu7.out.size)) hu10.out.size)) hu13.out.size)) hu37.out.size)) ((fun k hk => (lb76.out k hk).1) k hk))).trans hu86.out)⟩
   ·
    rw [if_neg c89] at H
    replace c89 := Bool.eq_false_iff.mpr c89
    by_cases c93 : (t83 == t72) = true
    ·
     rw [if_pos c93] at H
     have c93n : (t83 != t72) = false := by rw [bne, c93]; rfl
     replace H := Option.bind_eq_some_iff.mp H
     obtain ⟨⟨t95, t96⟩, A97, H⟩ := H
     replace A97 := Aside0.mk A97
     try dsimp only at H
     replace H := Option.bind_eq_some_iff.mp H
     obtain ⟨⟨t98, t99⟩, A100, H⟩ := H
     replace A100 := Aside0.mk A100
     try dsimp only at H
     replace H := Option.bind_eq_some_iff.mp H
     obtain ⟨⟨t101, t102⟩, A103, H⟩ := H
     replace A103 := Aside0.mk A103
     try dsimp only at H
     replace H := Option.bind_eq_some_iff.mp H
     obtain ⟨⟨t104, t105⟩, A106, H⟩ := H
     replace A106 := Aside0.mk A106
     try dsimp only at H
     replace H := Option.bind_eq_some_iff.mp H
     obtain ⟨⟨t107, t110⟩, A111, H⟩ := H
     replace A111 := Aside0.mk A111
     try dsimp only at H
     replace H := Option.bind_eq_some_iff.mp H
     obtain ⟨t120, A121, H⟩ := H
     replace A121 := Aside0.mk A121
     try dsimp only at H
     by_cases c124 : (t120) = true
     ·
      rw [if_pos c124] at H
      subst c124
      by_cases c125 : (t110 == t30) = true
      ·
       rw [if_pos c125] at H
       have c125n : (t110 != t30) = false := by rw [bne, c125]; rfl
       replace H := Option.bind_eq_some_iff.mp H
       obtain ⟨t128, A129, H⟩ := H
       replace A129 := Aside0.mk A129
       try dsimp only at H
       by_cases c134 : (decide (t128 < 0)) = true
       ·
        rw [if_pos c134] at H
        obtain rfl := Option.some.inj H
        go_enter Try.func5, Try.ntmps5
        refine wp_hide (fun Qf hQf => ?_)
        refine wp_seq_k (fun K1 hK1 => ?_)
        refine wp_region_lit ?_
        refine step_new (cs := [.int .i64 a1_0, .int .i64 a1_1]) (T := 22) (f := fun b => .pointer (some ⟨b, 0, none⟩)) rfl (by first | (go_simp; done) | (go_simp; rfl)) ?_
        intro b2 w3 hu lb hb2
        simp only [Act.put, nm1, nm2, nm3, i64_w]
        have lbb2 := Aside0.mk lb
        have ltb2 := Aside0.mk hb2.lt
        clear lb
        have hu4 := Aside0.mk hu
        clear hu
        refine step_new (cs := [.int .i64 a2_0, .int .i64 a2_1]) (T := 22) (f := fun b => .pointer (some ⟨b, 0, none⟩)) rfl (by first | (go_simp; done) | (go_simp; rfl)) ?_
        intro b5 w6 hu lb hb5
        simp only [Act.put, nm1, nm2, nm3, i64_w]
        have lbb5 := Aside0.mk lb
        have ltb5 := Aside0.mk hb5.lt
        clear lb
        have hu7 := Aside0.mk hu
        clear hu
        refine step_new (cs := [.int .i64 a3_0, .int .i64 a3_1]) (T := 22) (f := fun b => .pointer (some ⟨b, 0, none⟩)) rfl (by first | (go_simp; done) | (go_simp; rfl)) ?_
        intro b8 w9 hu lb hb8
        simp only [Act.put, nm1, nm2, nm3, i64_w]
        have lbb8 := Aside0.mk lb
        have ltb8 := Aside0.mk hb8.lt
        clear lb
        have hu10 := Aside0.mk hu
        clear hu
        refine step_new (cs := [.int .i64 a4_0, .int .i64 a4_1]) (T := 22) (f := fun b => .pointer (some ⟨b, 0, none⟩)) rfl (by first | (go_simp; done) | (go_simp; rfl)) ?_
        intro b11 w12 hu lb hb11
        simp only [Act.put, nm1, nm2, nm3, i64_w]
        have lbb11 := Aside0.mk lb
        have ltb11 := Aside0.mk hb11.lt
        clear lb
        have hu13 := Aside0.mk hu
        clear hu
        refine wpList_plain rfl (fun Ko hKo => ?_)
        go_simp
        refine hKo _ _ ?_
        clear hKo Ko
        try simp only [Act.put, nm1, nm2, nm3, i64_w]
        refine wpList_nil ?_
        (try simp only [Exit.then, Exit.inBlock, ↓reduceIte, Nat.reduceEqDiff])
        refine hK1 _ _ ?_
        refine wp_seq_k (fun K14 hK14 => ?_)
        refine' wp_region_up 15 [Slot.det _, Slot.det _, Slot.det (.agg #[.int .i64 t15, .int .i64 t16]), Slot.det _, Slot.det (.agg #[.int .i64 t18, .int .i64 t19]), Slot.det _, Slot.det (.agg #[.int .i64 t21, .int .i64 t22]), Slot.det _, Slot.det (.agg #[.int .i64 t24, .int .i64 t25]), Slot.any (RowTo eI 2 w12.heap.size t27 (fun v => .tuple #[v, .int .i64 t30])) false, Slot.any (RowTo eI 2 w12.heap.size t27 (fun v => .tuple #[v, .int .i64 t30])) false, Slot.any (RowTo eI 2 w12.heap.size t27 (fun v => v)) false, Slot.det (.int .i64 t30), Slot.any (RowTo eI 2 w12.heap.size t27 (fun v => v)) false, Slot.det _] (by kernel_rfl) (by kernel_rfl) ?main
        case main =>
         simp only [List.take_succ_cons, List.take_zero]
         refine wpK_ops rfl (fun w1 hu => ?_) ?_
         · clear hu
           go_simp
           first | done | rfl
         simp only [Act.put, nm1, nm2, nm3, i64_w]
         refine wpK_ops rfl (fun w1 hu => ?_) ?_
         · have cl0 := ((hb2.up ((hu7.out.trans hu10.out).trans hu13.out)).up ((Up.refl _).drew.trans hu)).cell (o := 0) rfl
           have cl1 := ((hb2.up ((hu7.out.trans hu10.out).trans hu13.out)).up ((Up.refl _).drew.trans hu)).cell (o := 1) rfl
           go_simp
           first | done | rfl
         simp only [Act.put, nm1, nm2, nm3, i64_w]
         refine wpK_ops rfl (fun w1 hu => ?_) ?_
         · have hcl := (laws_toPoint.calls K a1_0 a1_1 t15 t16 w1  A17.out)
           clear hu
           replace hcl := Aside0.mk hcl
           go_simp
           exact hcl.out
         simp only [Act.put, nm1, nm2, nm3, i64_w]
         refine wpK_ops rfl (fun w1 hu => ?_) ?_
         · have cl0 := ((hb5.up (hu10.out.trans hu13.out)).up ((Up.refl _).drew.trans hu)).cell (o := 0) rfl
           have cl1 := ((hb5.up (hu10.out.trans hu13.out)).up ((Up.refl _).drew.trans hu)).cell (o := 1) rfl
           go_simp
           first | done | rfl
         simp only [Act.put, nm1, nm2, nm3, i64_w]
         refine wpK_ops rfl (fun w1 hu => ?_) ?_
         · have hcl := (laws_toPoint.calls K a2_0 a2_1 t18 t19 w1  A20.out)
           clear hu
           replace hcl := Aside0.mk hcl
           go_simp
           exact hcl.out
         simp only [Act.put, nm1, nm2, nm3, i64_w]
         refine wpK_ops rfl (fun w1 hu => ?_) ?_
         · have cl0 := ((hb8.up hu13.out).up ((Up.refl _).drew.trans hu)).cell (o := 0) rfl
           have cl1 := ((hb8.up hu13.out).up ((Up.refl _).drew.trans hu)).cell (o := 1) rfl
           go_simp
           first | done | rfl
         simp only [Act.put, nm1, nm2, nm3, i64_w]
         refine wpK_ops rfl (fun w1 hu => ?_) ?_
         · have hcl := (laws_toPoint.calls K a3_0 a3_1 t21 t22 w1  A23.out)
           clear hu
           replace hcl := Aside0.mk hcl
           go_simp
           exact hcl.out
         simp only [Act.put, nm1, nm2, nm3, i64_w]
         refine wpK_ops rfl (fun w1 hu => ?_) ?_
         · have cl0 := (hb11.up ((Up.refl _).drew.trans hu)).cell (o := 0) rfl
           have cl1 := (hb11.up ((Up.refl _).drew.trans hu)).cell (o := 1) rfl
           go_simp
           first | done | rfl
         simp only [Act.put, nm1, nm2, nm3, i64_w]
         refine wpK_ops rfl (fun w1 hu => ?_) ?_
         · have hcl := (laws_toPoint.calls K a4_0 a4_1 t24 t25 w1  A26.out)
           clear hu
           replace hcl := Aside0.mk hcl
           go_simp
           exact hcl.out
         simp only [Act.put, nm1, nm2, nm3, i64_w]
         refine wpK_any rfl (stab_row _ _ _ _ _) (fun w1 hu hl => ?_) (fun v32 => ?_)
         · have hcl := spec_WeightsOf.calls K a0 t15 t16 t18 t19 t21 t22 t24 t25 t27 t30 w1  A31.out
           have hz := ((Up.refl _).drew.trans hu).size
           clear hu
           replace hcl := Aside0.mk hcl
           exact fresh_row (by first | (go_simp; done) | (go_simp; rfl)) hcl.out hz
         simp only [Act.put, nm1, nm2, nm3, i64_w]
         refine wpK_any rfl (stab_row _ _ _ _ _) (fun w1 hu hl => ?_) (fun v33 => ?_)
         · exact any_of_run (by first | (go_simp; done) | (go_simp; rfl)) (hl.1 (by kernel_rfl))
         simp only [Act.put, nm1, nm2, nm3, i64_w]
         refine wpK_any rfl (stab_row _ _ _ _ _) (fun w1 hu hl => ?_) (fun v34 => ?_)
         · obtain ⟨A0_, c0_, e0_, hO0_⟩ := hl.1 (by kernel_rfl)
           clear hl hu
           dsimp only at e0_
           subst e0_
           exact any_of_run (u := .slice A0_ t27.length c0_) (by first | (go_simp; done) | (go_simp; rfl)) ⟨A0_, c0_, rfl, hO0_⟩
         simp only [Act.put, nm1, nm2, nm3, i64_w]
         refine wpK_det rfl (fun w1 hu hl => ?_) ?_
         · obtain ⟨A0_, c0_, e0_, hO0_⟩ := hl.2.1 (by kernel_rfl)
           clear hl hu
           dsimp only at e0_
           subst e0_
           clear hO0_
           go_simp
           first | done | rfl
         simp only [Act.put, nm1, nm2, nm3, i64_w]
         refine wpK_any rfl (stab_row _ _ _ _ _) (fun w1 hu hl => ?_) (fun v35 => ?_)
         · exact any_of_run (by first | (go_simp; done) | (go_simp; rfl)) (hl.1 (by kernel_rfl))
         simp only [Act.put, nm1, nm2, nm3, i64_w]
         refine wpK_ops rfl (fun w1 hu => ?_) ?_
         · clear hu
           go_simp
           first | done | rfl
         simp only [Act.put, nm1, nm2, nm3, i64_w]
         refine wpK_nil ?_
         intro w36 hu hap
         simp only [List.drop_succ_cons, List.drop_zero]
         replace hu := (Up.refl _).drew.trans hu
         obtain ⟨-, -, ⟨P28, q29, e0, ht27⟩, -, -, -, -, -, -, -, -, -, -⟩ := hap
         dsimp only at e0
         subst e0
         have hu37 := Aside0.mk hu
         clear hu
         refine wpList_nil ?_
         (try simp only [Exit.then, Exit.inBlock, ↓reduceIte, Nat.reduceEqDiff])
         refine hK14 _ _ ?_
         refine wp_seq_k (fun K38 hK38 => ?_)
         refine' wp_region_up 15 [Slot.det _, Slot.det _, Slot.det (.agg #[.int .i64 t39, .int .i64 t40]), Slot.det _, Slot.det (.agg #[.int .i64 t42, .int .i64 t43]), Slot.det _, Slot.det (.agg #[.int .i64 t45, .int .i64 t46]), Slot.det _, Slot.det (.agg #[.int .i64 t48, .int .i64 t49]), Slot.any (RowTo eI 2 w36.heap.size t51 (fun v => .tuple #[v, .int .i64 t54])) false, Slot.any (RowTo eI 2 w36.heap.size t51 (fun v => .tuple #[v, .int .i64 t54])) false, Slot.any (RowTo eI 2 w36.heap.size t51 (fun v => v)) false, Slot.det (.int .i64 t54), Slot.any (RowTo eI 2 w36.heap.size t51 (fun v => v)) false, Slot.det _] (by kernel_rfl) (by kernel_rfl) ?main
         case main =>
          simp only [List.take_succ_cons, List.take_zero]
          refine wpK_ops rfl (fun w1 hu => ?_) ?_
          · clear hu
            go_simp
            first | done | rfl
          simp only [Act.put, nm1, nm2, nm3, i64_w]
          refine wpK_ops rfl (fun w1 hu => ?_) ?_
          · have cl0 := ((hb2.up (((hu7.out.trans hu10.out).trans hu13.out).trans hu37.out)).up ((Up.refl _).drew.trans hu)).cell (o := 0) rfl
            have cl1 := ((hb2.up (((hu7.out.trans hu10.out).trans hu13.out).trans hu37.out)).up ((Up.refl _).drew.trans hu)).cell (o := 1) rfl
            go_simp
            first | done | rfl
          simp only [Act.put, nm1, nm2, nm3, i64_w]
          refine wpK_ops rfl (fun w1 hu => ?_) ?_
          · have hcl := (laws_toPoint.calls K a1_0 a1_1 t39 t40 w1  A41.out)
            clear hu
            replace hcl := Aside0.mk hcl
            go_simp
            exact hcl.out
          simp only [Act.put, nm1, nm2, nm3, i64_w]
          refine wpK_ops rfl (fun w1 hu => ?_) ?_
          · have cl0 := ((hb5.up ((hu10.out.trans hu13.out).trans hu37.out)).up ((Up.refl _).drew.trans hu)).cell (o := 0) rfl
            have cl1 := ((hb5.up ((hu10.out.trans hu13.out).trans hu37.out)).up ((Up.refl _).drew.trans hu)).cell (o := 1) rfl
            go_simp
            first | done | rfl
          simp only [Act.put, nm1, nm2, nm3, i64_w]
          refine wpK_ops rfl (fun w1 hu => ?_) ?_
          · have hcl := (laws_toPoint.calls K a2_0 a2_1 t42 t43 w1  A44.out)
            clear hu
            replace hcl := Aside0.mk hcl
            go_simp
            exact hcl.out
          simp only [Act.put, nm1, nm2, nm3, i64_w]
          refine wpK_ops rfl (fun w1 hu => ?_) ?_
          · have cl0 := ((hb8.up (hu13.out.trans hu37.out)).up ((Up.refl _).drew.trans hu)).cell (o := 0) rfl
            have cl1 := ((hb8.up (hu13.out.trans hu37.out)).up ((Up.refl _).drew.trans hu)).cell (o := 1) rfl
            go_simp
            first | done | rfl
          simp only [Act.put, nm1, nm2, nm3, i64_w]
          refine wpK_ops rfl (fun w1 hu => ?_) ?_
          · have hcl := (laws_toPoint.calls K a3_0 a3_1 t45 t46 w1  A47.out)
            clear hu
            replace hcl := Aside0.mk hcl
            go_simp
            exact hcl.out
          simp only [Act.put, nm1, nm2, nm3, i64_w]
          refine wpK_ops rfl (fun w1 hu => ?_) ?_
          · have cl0 := ((hb11.up hu37.out).up ((Up.refl _).drew.trans hu)).cell (o := 0) rfl
            have cl1 := ((hb11.up hu37.out).up ((Up.refl _).drew.trans hu)).cell (o := 1) rfl
            go_simp
            first | done | rfl
          simp only [Act.put, nm1, nm2, nm3, i64_w]
          refine wpK_ops rfl (fun w1 hu => ?_) ?_
          · have hcl := (laws_toPoint.calls K a4_0 a4_1 t48 t49 w1  A50.out)
            clear hu
            replace hcl := Aside0.mk hcl
            go_simp
            exact hcl.out
          simp only [Act.put, nm1, nm2, nm3, i64_w]
          refine wpK_any rfl (stab_row _ _ _ _ _) (fun w1 hu hl => ?_) (fun v56 => ?_)
          · have hcl := impl_WeightsOf.calls K a0 t39 t40 t42 t43 t45 t46 t48 t49 t51 t54 w1  A55.out
            have hz := ((Up.refl _).drew.trans hu).size
            clear hu
            replace hcl := Aside0.mk hcl
            exact fresh_row (by first | (go_simp; done) | (go_simp; rfl)) hcl.out hz
          simp only [Act.put, nm1, nm2, nm3, i64_w]
          refine wpK_any rfl (stab_row _ _ _ _ _) (fun w1 hu hl => ?_) (fun v57 => ?_)
          · exact any_of_run (by first | (go_simp; done) | (go_simp; rfl)) (hl.1 (by kernel_rfl))
          simp only [Act.put, nm1, nm2, nm3, i64_w]
          refine wpK_any rfl (stab_row _ _ _ _ _) (fun w1 hu hl => ?_) (fun v58 => ?_)
          · obtain ⟨A0_, c0_, e0_, hO0_⟩ := hl.1 (by kernel_rfl)
            clear hl hu
            dsimp only at e0_
            subst e0_
            exact any_of_run (u := .slice A0_ t51.length c0_) (by first | (go_simp; done) | (go_simp; rfl)) ⟨A0_, c0_, rfl, hO0_⟩
          simp only [Act.put, nm1, nm2, nm3, i64_w]
          refine wpK_det rfl (fun w1 hu hl => ?_) ?_
          · obtain ⟨A0_, c0_, e0_, hO0_⟩ := hl.2.1 (by kernel_rfl)
            clear hl hu
            dsimp only at e0_
            subst e0_
            clear hO0_
            go_simp
            first | done | rfl
          simp only [Act.put, nm1, nm2, nm3, i64_w]
          refine wpK_any rfl (stab_row _ _ _ _ _) (fun w1 hu hl => ?_) (fun v59 => ?_)
          · exact any_of_run (by first | (go_simp; done) | (go_simp; rfl)) (hl.1 (by kernel_rfl))
          simp only [Act.put, nm1, nm2, nm3, i64_w]
          refine wpK_ops rfl (fun w1 hu => ?_) ?_
          · clear hu
            go_simp
            first | done | rfl
          simp only [Act.put, nm1, nm2, nm3, i64_w]
          refine wpK_nil ?_
          intro w60 hu hap
          simp only [List.drop_succ_cons, List.drop_zero]
          replace hu := (Up.refl _).drew.trans hu
          obtain ⟨-, -, ⟨P52, q53, e0, ht51⟩, -, -, -, -, -, -, -, -, -, -⟩ := hap
          dsimp only at e0
          subst e0
          have hu61 := Aside0.mk hu
          clear hu
          refine wpList_nil ?_
          (try simp only [Exit.then, Exit.inBlock, ↓reduceIte, Nat.reduceEqDiff])
          refine hK38 _ _ ?_
          refine wp_seq_k (fun K62 hK62 => ?_)
          refine wp_seq_k (fun K63 hK63 => ?_)
          refine wp_region_lit ?_
          refine wpList_plain rfl (fun Ko hKo => ?_)
          go_simp
          refine hKo _ _ ?_
          clear hKo Ko
          try simp only [Act.put, nm1, nm2, nm3, i64_w]
          refine wpList_plain rfl (fun Ko hKo => ?_)
          go_simp
          refine hKo _ _ ?_
          clear hKo Ko
          try simp only [Act.put, nm1, nm2, nm3, i64_w]
          refine step_call (wanted_none rfl) (by first | (go_simp; done) | (go_simp; rfl)) (laws_eqInt64S.calls K P52 q53 t51 P28 q29 t27 true w60 ht51.rd ((ht27.up hu61.out).rd) A65.out) ?_
          rintro e w66 ⟨rfl, hu⟩
          have hu67 := Aside0.mk hu
          clear hu
          refine ⟨_, rfl, ?_⟩
          simp only [Act.put, nm1, nm2, nm3, i64_w]
          refine wpList_plain rfl (fun Ko hKo => ?_)
          go_simp
          refine hKo _ _ ?_
          clear hKo Ko
          try simp only [Act.put, nm1, nm2, nm3, i64_w]
          refine wpList_plain rfl (fun Ko hKo => ?_)
          go_simp
          refine hKo _ _ ?_
          clear hKo Ko
          try simp only [Act.put, nm1, nm2, nm3, i64_w]
          refine wpList_step (fun Ko hKo => ?_)
          go_simp
          refine hKo _ _ ?_
          clear hKo Ko
          try simp only [Act.put, nm1, nm2, nm3, i64_w]
          refine wpList_step (fun Ko hKo => ?_)
          go_simp
          refine hKo _ _ ?_
          clear hKo Ko
          try simp only [Act.put, nm1, nm2, nm3, i64_w]
          refine wpList_step (fun Ko hKo => ?_)
          go_simp
          refine hKo _ _ ?_
          clear hKo Ko
          try simp only [Act.put, nm1, nm2, nm3, i64_w]
          refine wpList_plain rfl (fun Ko hKo => ?_)
          go_simp
          refine hKo _ _ ?_
          clear hKo Ko
          try simp only [Act.put, nm1, nm2, nm3, i64_w]
          refine wpList_nil ?_
          (try simp only [Exit.then, Exit.inBlock, ↓reduceIte, Nat.reduceEqDiff])
          refine hK63 _ _ ?_
          refine wp_cond_false rfl ?_
          refine wp_skip ?_
          (try simp only [Exit.then, Exit.inBlock, ↓reduceIte, Nat.reduceEqDiff])
          refine hK62 _ _ ?_
          refine wp_seq_k (fun K70 hK70 => ?_)
          refine wp_region_lit ?_
          refine wpList_plain rfl (fun Ko hKo => ?_)
          go_simp
          refine hKo _ _ ?_
          clear hKo Ko
          try simp only [Act.put, nm1, nm2, nm3, i64_w]
          refine wpList_nil ?_
          (try simp only [Exit.then, Exit.inBlock, ↓reduceIte, Nat.reduceEqDiff])
          refine hK70 _ _ ?_
          refine wp_seq_k (fun K71 hK71 => ?_)
          refine wp_region_lit ?_
          refine wpList_plain rfl (fun Ko hKo => ?_)
          go_simp
          refine hKo _ _ ?_
          clear hKo Ko
          try simp only [Act.put, nm1, nm2, nm3, i64_w]
          refine wpList_plain rfl (fun Ko hKo => ?_)
          go_simp
          refine hKo _ _ ?_
          clear hKo Ko
          try simp only [Act.put, nm1, nm2, nm3, i64_w]
          refine step_call (wanted_none rfl) (by first | (go_simp; done) | (go_simp; rfl)) (laws_markInt64S.calls K P52 q53 w36.heap.size t51 1 t72 t73 w66 (ht51.up hu67.out) A74.out) ?_
          have lb76 := Aside0.mk (ht51.up hu67.out).lt
          rintro e w75 ⟨rfl, h77, hl, hg⟩
          have hg79 := Aside0.mk hg
          have hl78 := hl
          clear hg hl
          have hl80 : Aside0 (t51.length = t73.length) := Aside0.mk hl78.out
          refine ⟨_, rfl, ?_⟩
          simp only [Act.put, nm1, nm2, nm3, i64_w]
          refine wpList_plain rfl (fun Ko hKo => ?_)
          go_simp
          refine hKo _ _ ?_
          clear hKo Ko
          try simp only [Act.put, nm1, nm2, nm3, i64_w]
          refine wpList_nil ?_
          (try simp only [Exit.then, Exit.inBlock, ↓reduceIte, Nat.reduceEqDiff])
          refine hK71 _ _ ?_
          refine wp_seq_k (fun K81 hK81 => ?_)
          refine wp_region_lit ?_
          refine wpList_plain rfl (fun Ko hKo => ?_)
          go_simp
          refine hKo _ _ ?_
          clear hKo Ko
          try simp only [Act.put, nm1, nm2, nm3, i64_w]
          refine wpList_nil ?_
          (try simp only [Exit.then, Exit.inBlock, ↓reduceIte, Nat.reduceEqDiff])
          refine hK81 _ _ ?_
          refine wp_seq_k (fun K82 hK82 => ?_)
          refine wp_region_lit ?_
          refine wpList_plain rfl (fun Ko hKo => ?_)
          go_simp
          refine hKo _ _ ?_
          clear hKo Ko
          try simp only [Act.put, nm1, nm2, nm3, i64_w]
          refine wpList_plain rfl (fun Ko hKo => ?_)
          go_simp
          refine hKo _ _ ?_
          clear hKo Ko
          try simp only [Act.put, nm1, nm2, nm3, i64_w]
          refine step_call (wanted_none rfl) (by first | (go_simp; done) | (go_simp; rfl)) (Eq.mp (congrArg (fun n_ => Calls Try.prog 23 #[.slice P52 n_ q53, .int .i64 1] w75 _) (Eq.symm hl80.out)) (laws_heldInt64S.calls K P52 q53 t73 1 t83 w75 h77.rd A84.out)) ?_
          rintro e w85 ⟨rfl, hu⟩
          have hu86 := Aside0.mk hu
          clear hu
          refine ⟨_, rfl, ?_⟩
          simp only [Act.put, nm1, nm2, nm3, i64_w]
          refine wpList_plain rfl (fun Ko hKo => ?_)
          go_simp
          refine hKo _ _ ?_
          clear hKo Ko
          try simp only [Act.put, nm1, nm2, nm3, i64_w]
          refine wpList_nil ?_
          (try simp only [Exit.then, Exit.inBlock, ↓reduceIte, Nat.reduceEqDiff])
          refine hK82 _ _ ?_
          refine wp_seq_k (fun K87 hK87 => ?_)
          refine wp_seq_k (fun K88 hK88 => ?_)
          refine wp_region_lit ?_
          refine wpList_plain rfl (fun Ko hKo => ?_)
          go_simp
          refine hKo _ _ ?_
          clear hKo Ko
          try simp only [Act.put, nm1, nm2, nm3, i64_w]
          refine wpList_plain rfl (fun Ko hKo => ?_)
          go_simp
          refine hKo _ _ ?_
          clear hKo Ko
          try simp only [Act.put, nm1, nm2, nm3, i64_w]
          refine wpList_nil ?_
          (try simp only [Exit.then, Exit.inBlock, ↓reduceIte, Nat.reduceEqDiff])
          refine hK88 _ _ ?_
          refine wp_cond_false rfl ?_
          refine wp_skip ?_
          (try simp only [Exit.then, Exit.inBlock, ↓reduceIte, Nat.reduceEqDiff])
          refine hK87 _ _ ?_
          refine wp_seq_k (fun K91 hK91 => ?_)
          refine wp_seq_k (fun K92 hK92 => ?_)
          refine wp_region_lit ?_
          refine wpList_plain rfl (fun Ko hKo => ?_)
          go_simp
          refine hKo _ _ ?_
          clear hKo Ko
          try simp only [Act.put, nm1, nm2, nm3, i64_w]
          refine wpList_plain rfl (fun Ko hKo => ?_)
          go_simp
          refine hKo _ _ ?_
          clear hKo Ko
          try simp only [Act.put, nm1, nm2, nm3, i64_w]
          refine wpList_plain rfl (fun Ko hKo => ?_)
          go_simp
          refine hKo _ _ ?_
          clear hKo Ko
          try simp only [Act.put, nm1, nm2, nm3, i64_w]
          refine wpList_nil ?_
          (try simp only [Exit.then, Exit.inBlock, ↓reduceIte, Nat.reduceEqDiff])
          refine hK92 _ _ ?_
          refine wp_cond_false rfl ?_
          refine wp_skip ?_
          (try simp only [Exit.then, Exit.inBlock, ↓reduceIte, Nat.reduceEqDiff])
          refine hK91 _ _ ?_
          refine wp_seq_k (fun K94 hK94 => ?_)
          refine' wp_region_up 15 [Slot.det _, Slot.det _, Slot.det (.agg #[.int .i64 t95, .int .i64 t96]), Slot.det _, Slot.det (.agg #[.int .i64 t98, .int .i64 t99]), Slot.det _, Slot.det (.agg #[.int .i64 t101, .int .i64 t102]), Slot.det _, Slot.det (.agg #[.int .i64 t104, .int .i64 t105]), Slot.any (RowTo eI 2 w85.heap.size t107 (fun v => .tuple #[v, .int .i64 t110])) false, Slot.any (RowTo eI 2 w85.heap.size t107 (fun v => .tuple #[v, .int .i64 t110])) false, Slot.any (RowTo eI 2 w85.heap.size t107 (fun v => v)) false, Slot.det (.int .i64 t110), Slot.any (RowTo eI 2 w85.heap.size t107 (fun v => v)) false, Slot.det _] (by kernel_rfl) (by kernel_rfl) ?main
          case main =>
           simp only [List.take_succ_cons, List.take_zero]
           refine wpK_ops rfl (fun w1 hu => ?_) ?_
           · clear hu
             go_simp
             first | done | rfl
           simp only [Act.put, nm1, nm2, nm3, i64_w]
           refine wpK_ops rfl (fun w1 hu => ?_) ?_
           · have cl0 := ((hb2.up (((((((hu7.out.trans hu10.out).trans hu13.out).trans hu37.out).trans hu61.out).trans hu67.out).grow hg79.out (fun k hk => Nat.le_trans ((Nat.le_trans ((Nat.le_trans ((Nat.le_trans (hu7.out.size) hu10.out.size)) hu13.out.size)) hu37.out.size)) ((fun k hk => (lb76.out k hk).1) k hk))).trans hu86.out)).up ((Up.refl _).drew.trans hu)).cell (o := 0) rfl
             have cl1 := ((hb2.up (((((((hu7.out.trans hu10.out).trans hu13.out).trans hu37.out).trans hu61.out).trans hu67.out).grow hg79.out (fun k hk => Nat.le_trans ((Nat.le_trans ((Nat.le_trans ((Nat.le_trans (hu7.out.size) hu10.out.size)) hu13.out.size)) hu37.out.size)) ((fun k hk => (lb76.out k hk).1) k hk))).trans hu86.out)).up ((Up.refl _).drew.trans hu)).cell (o := 1) rfl
             go_simp
             first | done | rfl
           simp only [Act.put, nm1, nm2, nm3, i64_w]
           refine wpK_ops rfl (fun w1 hu => ?_) ?_
           · have hcl := (laws_toPoint.calls K a1_0 a1_1 t95 t96 w1  A97.out)
             clear hu
             replace hcl := Aside0.mk hcl
             go_simp
             exact hcl.out
           simp only [Act.put, nm1, nm2, nm3, i64_w]
           refine wpK_ops rfl (fun w1 hu => ?_) ?_
           · have cl0 := ((hb5.up ((((((hu10.out.trans hu13.out).trans hu37.out).trans hu61.out).trans hu67.out).grow hg79.out (fun k hk => Nat.le_trans ((Nat.le_trans ((Nat.le_trans (hu10.out.size) hu13.out.size)) hu37.out.size)) ((fun k hk => (lb76.out k hk).1) k hk))).trans hu86.out)).up ((Up.refl _).drew.trans hu)).cell (o := 0) rfl
             have cl1 := ((hb5.up ((((((hu10.out.trans hu13.out).trans hu37.out).trans hu61.out).trans hu67.out).grow hg79.out (fun k hk => Nat.le_trans ((Nat.le_trans ((Nat.le_trans (hu10.out.size) hu13.out.size)) hu37.out.size)) ((fun k hk => (lb76.out k hk).1) k hk))).trans hu86.out)).up ((Up.refl _).drew.trans hu)).cell (o := 1) rfl
             go_simp
             first | done | rfl
           simp only [Act.put, nm1, nm2, nm3, i64_w]
           refine wpK_ops rfl (fun w1 hu => ?_) ?_
           · have hcl := (laws_toPoint.calls K a2_0 a2_1 t98 t99 w1  A100.out)
             clear hu
             replace hcl := Aside0.mk hcl
             go_simp
             exact hcl.out
           simp only [Act.put, nm1, nm2, nm3, i64_w]
           refine wpK_ops rfl (fun w1 hu => ?_) ?_
           · have cl0 := ((hb8.up (((((hu13.out.trans hu37.out).trans hu61.out).trans hu67.out).grow hg79.out (fun k hk => Nat.le_trans ((Nat.le_trans (hu13.out.size) hu37.out.size)) ((fun k hk => (lb76.out k hk).1) k hk))).trans hu86.out)).up ((Up.refl _).drew.trans hu)).cell (o := 0) rfl
             have cl1 := ((hb8.up (((((hu13.out.trans hu37.out).trans hu61.out).trans hu67.out).grow hg79.out (fun k hk => Nat.le_trans ((Nat.le_trans (hu13.out.size) hu37.out.size)) ((fun k hk => (lb76.out k hk).1) k hk))).trans hu86.out)).up ((Up.refl _).drew.trans hu)).cell (o := 1) rfl
             go_simp
             first | done | rfl
           simp only [Act.put, nm1, nm2, nm3, i64_w]
           refine wpK_ops rfl (fun w1 hu => ?_) ?_
           · have hcl := (laws_toPoint.calls K a3_0 a3_1 t101 t102 w1  A103.out)
             clear hu
             replace hcl := Aside0.mk hcl
             go_simp
             exact hcl.out
           simp only [Act.put, nm1, nm2, nm3, i64_w]
           refine wpK_ops rfl (fun w1 hu => ?_) ?_
           · have cl0 := ((hb11.up ((((hu37.out.trans hu61.out).trans hu67.out).grow hg79.out (fun k hk => Nat.le_trans (hu37.out.size) ((fun k hk => (lb76.out k hk).1) k hk))).trans hu86.out)).up ((Up.refl _).drew.trans hu)).cell (o := 0) rfl
             have cl1 := ((hb11.up ((((hu37.out.trans hu61.out).trans hu67.out).grow hg79.out (fun k hk => Nat.le_trans (hu37.out.size) ((fun k hk => (lb76.out k hk).1) k hk))).trans hu86.out)).up ((Up.refl _).drew.trans hu)).cell (o := 1) rfl
             go_simp
             first | done | rfl
           simp only [Act.put, nm1, nm2, nm3, i64_w]
           refine wpK_ops rfl (fun w1 hu => ?_) ?_
           · have hcl := (laws_toPoint.calls K a4_0 a4_1 t104 t105 w1  A106.out)
             clear hu
             replace hcl := Aside0.mk hcl
             go_simp
             exact hcl.out
           simp only [Act.put, nm1, nm2, nm3, i64_w]
           refine wpK_any rfl (stab_row _ _ _ _ _) (fun w1 hu hl => ?_) (fun v112 => ?_)
           · have hcl := impl_WeightsOf.calls K a0 t95 t96 t98 t99 t101 t102 t104 t105 t107 t110 w1  A111.out
             have hz := ((Up.refl _).drew.trans hu).size
             clear hu
             replace hcl := Aside0.mk hcl
             exact fresh_row (by first | (go_simp; done) | (go_simp; rfl)) hcl.out hz
           simp only [Act.put, nm1, nm2, nm3, i64_w]
           refine wpK_any rfl (stab_row _ _ _ _ _) (fun w1 hu hl => ?_) (fun v113 => ?_)
           · exact any_of_run (by first | (go_simp; done) | (go_simp; rfl)) (hl.1 (by kernel_rfl))
           simp only [Act.put, nm1, nm2, nm3, i64_w]
           refine wpK_any rfl (stab_row _ _ _ _ _) (fun w1 hu hl => ?_) (fun v114 => ?_)
           · obtain ⟨A0_, c0_, e0_, hO0_⟩ := hl.1 (by kernel_rfl)
             clear hl hu
             dsimp only at e0_
             subst e0_
             exact any_of_run (u := .slice A0_ t107.length c0_) (by first | (go_simp; done) | (go_simp; rfl)) ⟨A0_, c0_, rfl, hO0_⟩
           simp only [Act.put, nm1, nm2, nm3, i64_w]
           refine wpK_det rfl (fun w1 hu hl => ?_) ?_
           · obtain ⟨A0_, c0_, e0_, hO0_⟩ := hl.2.1 (by kernel_rfl)
             clear hl hu
             dsimp only at e0_
             subst e0_
             clear hO0_
             go_simp
             first | done | rfl
           simp only [Act.put, nm1, nm2, nm3, i64_w]
           refine wpK_any rfl (stab_row _ _ _ _ _) (fun w1 hu hl => ?_) (fun v115 => ?_)
           · exact any_of_run (by first | (go_simp; done) | (go_simp; rfl)) (hl.1 (by kernel_rfl))
           simp only [Act.put, nm1, nm2, nm3, i64_w]
           refine wpK_ops rfl (fun w1 hu => ?_) ?_
           · clear hu
             go_simp
             first | done | rfl
           simp only [Act.put, nm1, nm2, nm3, i64_w]
           refine wpK_nil ?_
           intro w116 hu hap
           simp only [List.drop_succ_cons, List.drop_zero]
           replace hu := (Up.refl _).drew.trans hu
           obtain ⟨-, -, ⟨P108, q109, e0, ht107⟩, -, -, -, -, -, -, -, -, -, -⟩ := hap
           dsimp only at e0
           subst e0
           have hu117 := Aside0.mk hu
           clear hu
           refine wpList_nil ?_
           (try simp only [Exit.then, Exit.inBlock, ↓reduceIte, Nat.reduceEqDiff])
           refine hK94 _ _ ?_
           refine wp_seq_k (fun K118 hK118 => ?_)
           refine wp_seq_k (fun K119 hK119 => ?_)
           refine wp_region_lit ?_
           refine wpList_plain rfl (fun Ko hKo => ?_)
           go_simp
           refine hKo _ _ ?_
           clear hKo Ko
           try simp only [Act.put, nm1, nm2, nm3, i64_w]
           refine wpList_plain rfl (fun Ko hKo => ?_)
           go_simp
           refine hKo _ _ ?_
           clear hKo Ko
           try simp only [Act.put, nm1, nm2, nm3, i64_w]
           refine step_call (wanted_none rfl) (by first | (go_simp; done) | (go_simp; rfl)) (laws_eqInt64S.calls K P108 q109 t107 P28 q29 t27 true w116 ht107.rd ((ht27.up ((((hu61.out.trans hu67.out).grow hg79.out (fun k hk => Nat.le_trans (Nat.le_refl _) ((fun k hk => (lb76.out k hk).1) k hk))).trans hu86.out).trans hu117.out)).rd) A121.out) ?_
           rintro e w122 ⟨rfl, hu⟩
           have hu123 := Aside0.mk hu
           clear hu
           refine ⟨_, rfl, ?_⟩
           simp only [Act.put, nm1, nm2, nm3, i64_w]
           refine wpList_plain rfl (fun Ko hKo => ?_)
           go_simp
           refine hKo _ _ ?_
           clear hKo Ko
           try simp only [Act.put, nm1, nm2, nm3, i64_w]
           refine wpList_plain rfl (fun Ko hKo => ?_)
           go_simp
           refine hKo _ _ ?_
           clear hKo Ko
           try simp only [Act.put, nm1, nm2, nm3, i64_w]
           refine wpList_step (fun Ko hKo => ?_)
           go_simp
           refine hKo _ _ ?_
           clear hKo Ko
           try simp only [Act.put, nm1, nm2, nm3, i64_w]
           refine wpList_step (fun Ko hKo => ?_)
           go_simp
           refine hKo _ _ ?_
           clear hKo Ko
           try simp only [Act.put, nm1, nm2, nm3, i64_w]
           refine wpList_step (fun Ko hKo => ?_)
           go_simp
           refine hKo _ _ ?_
           clear hKo Ko
           try simp only [Act.put, nm1, nm2, nm3, i64_w]
           refine wpList_plain rfl (fun Ko hKo => ?_)
           go_simp
           refine hKo _ _ ?_
           clear hKo Ko
           try simp only [Act.put, nm1, nm2, nm3, i64_w]
           refine wpList_nil ?_
           (try simp only [Exit.then, Exit.inBlock, ↓reduceIte, Nat.reduceEqDiff])
           refine hK119 _ _ ?_
           refine wp_cond_false rfl ?_
           refine wp_skip ?_
           (try simp only [Exit.then, Exit.inBlock, ↓reduceIte, Nat.reduceEqDiff])
           refine hK118 _ _ ?_
           refine wp_seq_k (fun K126 hK126 => ?_)
           refine wp_region_lit ?_
           refine wpList_plain rfl (fun Ko hKo => ?_)
           go_simp
           refine hKo _ _ ?_
           clear hKo Ko
           try simp only [Act.put, nm1, nm2, nm3, i64_w]
           refine wpList_nil ?_
           (try simp only [Exit.then, Exit.inBlock, ↓reduceIte, Nat.reduceEqDiff])
           refine hK126 _ _ ?_
           refine wp_seq_k (fun K127 hK127 => ?_)
           refine wp_region_lit ?_
           refine wpList_plain rfl (fun Ko hKo => ?_)
           go_simp
           refine hKo _ _ ?_
           clear hKo Ko
           try simp only [Act.put, nm1, nm2, nm3, i64_w]
           refine wpList_plain rfl (fun Ko hKo => ?_)
           go_simp
           refine hKo _ _ ?_
           clear hKo Ko
           try simp only [Act.put, nm1, nm2, nm3, i64_w]
           refine step_call (wanted_none rfl) (by first | (go_simp; done) | (go_simp; rfl)) (Eq.mp (congrArg (fun n_ => Calls Try.prog 23 #[.slice P52 n_ q53, .int .i64 1] w122 _) (Eq.symm hl80.out)) (laws_heldInt64S.calls K P52 q53 t73 1 t128 w122 ((h77.up ((hu86.out.trans hu117.out).trans hu123.out)).rd) A129.out)) ?_
           rintro e w130 ⟨rfl, hu⟩
           have hu131 := Aside0.mk hu
           clear hu
           refine ⟨_, rfl, ?_⟩
           simp only [Act.put, nm1, nm2, nm3, i64_w]
           refine wpList_plain rfl (fun Ko hKo => ?_)
           go_simp
           refine hKo _ _ ?_
           clear hKo Ko
           try simp only [Act.put, nm1, nm2, nm3, i64_w]
           refine wpList_nil ?_
           (try simp only [Exit.then, Exit.inBlock, ↓reduceIte, Nat.reduceEqDiff])
           refine hK127 _ _ ?_
           refine wp_seq_k (fun K132 hK132 => ?_)
           refine wp_seq_k (fun K133 hK133 => ?_)
           refine wp_region_lit ?_
           refine wpList_plain rfl (fun Ko hKo => ?_)
           go_simp
           refine hKo _ _ ?_
           clear hKo Ko
           try simp only [Act.put, nm1, nm2, nm3, i64_w]
           refine wpList_plain rfl (fun Ko hKo => ?_)
           go_simp
           refine hKo _ _ ?_
           clear hKo Ko
           try simp only [Act.put, nm1, nm2, nm3, i64_w]
           refine wpList_nil ?_
           (try simp only [Exit.then, Exit.inBlock, ↓reduceIte, Nat.reduceEqDiff])
           refine hK133 _ _ ?_
           refine wp_cond_true rfl ?_
           refine wp_seq_k (fun K135 hK135 => ?_)
           refine wp_region_lit ?_
           refine wpList_plain rfl (fun Ko hKo => ?_)
           go_simp
           refine hKo _ _ ?_
           clear hKo Ko
           try simp only [Act.put, nm1, nm2, nm3, i64_w]
           refine wpList_nil ?_
           (try simp only [Exit.then, Exit.inBlock, ↓reduceIte, Nat.reduceEqDiff])
           refine hK135 _ _ ?_
           refine wp_ret ?_
           (try simp only [Exit.then, Exit.inBlock, ↓reduceIte, Nat.reduceEqDiff])
           refine hQf _ _ _ ?_
           exact bodyPost_ret (v := .bool false) (by first | rfl | (simp [results, Try.results5, go_sem]; done) | (simp [results, Try.results5, go_sem]; rfl)) rfl ⟨rfl, (((((((((((hu4.out.trans hu7.out).trans hu10.out).trans hu13.out).trans hu37.out).trans hu61.out).trans hu67.out).grow hg79.out (fun k hk => Nat.le_trans ((Nat.le_trans ((Nat.le_trans ((Nat.le_trans ((Nat.le_trans (hu4.out.size) hu7.out.size)) hu10.out.size)) hu13.out.size)) hu37.out.size)) ((fun k hk => (lb76.out k hk).1) k hk))).trans hu86.out).trans hu117.out).trans hu123.out).trans hu131.out)⟩
       ·
        rw [if_neg c134] at H
        replace c134 := Bool.eq_false_iff.mpr c134
        by_cases c138 : (t128 == t72) = true
        ·
         rw [if_pos c138] at H
         have c138n : (t128 != t72) = false := by rw [bne, c138]; rfl
         obtain rfl := Option.some.inj H
         go_enter Try.func5, Try.ntmps5
         refine wp_hide (fun Qf hQf => ?_)
         refine wp_seq_k (fun K1 hK1 => ?_)
         refine wp_region_lit ?_
         refine step_new (cs := [.int .i64 a1_0, .int .i64 a1_1]) (T := 22) (f := fun b => .pointer (some ⟨b, 0, none⟩)) rfl (by first | (go_simp; done) | (go_simp; rfl)) ?_
         intro b2 w3 hu lb hb2
         simp only [Act.put, nm1, nm2, nm3, i64_w]
         have lbb2 := Aside0.mk lb
         have ltb2 := Aside0.mk hb2.lt
         clear lb
         have hu4 := Aside0.mk hu
         clear hu
         refine step_new (cs := [.int .i64 a2_0, .int .i64 a2_1]) (T := 22) (f := fun b => .pointer (some ⟨b, 0, none⟩)) rfl (by first | (go_simp; done) | (go_simp; rfl)) ?_
         intro b5 w6 hu lb hb5
         simp only [Act.put, nm1, nm2, nm3, i64_w]
         have lbb5 := Aside0.mk lb
         have ltb5 := Aside0.mk hb5.lt
         clear lb
         have hu7 := Aside0.mk hu
         clear hu
         refine step_new (cs := [.int .i64 a3_0, .int .i64 a3_1]) (T := 22) (f := fun b => .pointer (some ⟨b, 0, none⟩)) rfl (by first | (go_simp; done) | (go_simp; rfl)) ?_
         intro b8 w9 hu lb hb8
         simp only [Act.put, nm1, nm2, nm3, i64_w]
         have lbb8 := Aside0.mk lb
         have ltb8 := Aside0.mk hb8.lt
         clear lb
         have hu10 := Aside0.mk hu
         clear hu
         refine step_new (cs := [.int .i64 a4_0, .int .i64 a4_1]) (T := 22) (f := fun b => .pointer (some ⟨b, 0, none⟩)) rfl (by first | (go_simp; done) | (go_simp; rfl)) ?_
         intro b11 w12 hu lb hb11
         simp only [Act.put, nm1, nm2, nm3, i64_w]
         have lbb11 := Aside0.mk lb
         have ltb11 := Aside0.mk hb11.lt
         clear lb
         have hu13 := Aside0.mk hu
         clear hu
         refine wpList_plain rfl (fun Ko hKo => ?_)
         go_simp
         refine hKo _ _ ?_
         clear hKo Ko
         try simp only [Act.put, nm1, nm2, nm3, i64_w]
         refine wpList_nil ?_
         (try simp only [Exit.then, Exit.inBlock, ↓reduceIte, Nat.reduceEqDiff])
         refine hK1 _ _ ?_
         refine wp_seq_k (fun K14 hK14 => ?_)
         refine' wp_region_up 15 [Slot.det _, Slot.det _, Slot.det (.agg #[.int .i64 t15, .int .i64 t16]), Slot.det _, Slot.det (.agg #[.int .i64 t18, .int .i64 t19]), Slot.det _, Slot.det (.agg #[.int .i64 t21, .int .i64 t22]), Slot.det _, Slot.det (.agg #[.int .i64 t24, .int .i64 t25]), Slot.any (RowTo eI 2 w12.heap.size t27 (fun v => .tuple #[v, .int .i64 t30])) false, Slot.any (RowTo eI 2 w12.heap.size t27 (fun v => .tuple #[v, .int .i64 t30])) false, Slot.any (RowTo eI 2 w12.heap.size t27 (fun v => v)) false, Slot.det (.int .i64 t30), Slot.any (RowTo eI 2 w12.heap.size t27 (fun v => v)) false, Slot.det _] (by kernel_rfl) (by kernel_rfl) ?main
         case main =>
          simp only [List.take_succ_cons, List.take_zero]
          refine wpK_ops rfl (fun w1 hu => ?_) ?_
          · clear hu
            go_simp
            first | done | rfl
          simp only [Act.put, nm1, nm2, nm3, i64_w]
          refine wpK_ops rfl (fun w1 hu => ?_) ?_
          · have cl0 := ((hb2.up ((hu7.out.trans hu10.out).trans hu13.out)).up ((Up.refl _).drew.trans hu)).cell (o := 0) rfl
            have cl1 := ((hb2.up ((hu7.out.trans hu10.out).trans hu13.out)).up ((Up.refl _).drew.trans hu)).cell (o := 1) rfl
            go_simp
            first | done | rfl
          simp only [Act.put, nm1, nm2, nm3, i64_w]
          refine wpK_ops rfl (fun w1 hu => ?_) ?_
          · have hcl := (laws_toPoint.calls K a1_0 a1_1 t15 t16 w1  A17.out)
            clear hu
            replace hcl := Aside0.mk hcl
            go_simp
            exact hcl.out
          simp only [Act.put, nm1, nm2, nm3, i64_w]
          refine wpK_ops rfl (fun w1 hu => ?_) ?_
          · have cl0 := ((hb5.up (hu10.out.trans hu13.out)).up ((Up.refl _).drew.trans hu)).cell (o := 0) rfl
            have cl1 := ((hb5.up (hu10.out.trans hu13.out)).up ((Up.refl _).drew.trans hu)).cell (o := 1) rfl
            go_simp
            first | done | rfl
          simp only [Act.put, nm1, nm2, nm3, i64_w]
          refine wpK_ops rfl (fun w1 hu => ?_) ?_
          · have hcl := (laws_toPoint.calls K a2_0 a2_1 t18 t19 w1  A20.out)
            clear hu
            replace hcl := Aside0.mk hcl
            go_simp
            exact hcl.out
          simp only [Act.put, nm1, nm2, nm3, i64_w]
          refine wpK_ops rfl (fun w1 hu => ?_) ?_
          · have cl0 := ((hb8.up hu13.out).up ((Up.refl _).drew.trans hu)).cell (o := 0) rfl
            have cl1 := ((hb8.up hu13.out).up ((Up.refl _).drew.trans hu)).cell (o := 1) rfl
            go_simp
            first | done | rfl
          simp only [Act.put, nm1, nm2, nm3, i64_w]
          refine wpK_ops rfl (fun w1 hu => ?_) ?_
          · have hcl := (laws_toPoint.calls K a3_0 a3_1 t21 t22 w1  A23.out)
            clear hu
            replace hcl := Aside0.mk hcl
            go_simp
            exact hcl.out
          simp only [Act.put, nm1, nm2, nm3, i64_w]
          refine wpK_ops rfl (fun w1 hu => ?_) ?_
          · have cl0 := (hb11.up ((Up.refl _).drew.trans hu)).cell (o := 0) rfl
            have cl1 := (hb11.up ((Up.refl _).drew.trans hu)).cell (o := 1) rfl
            go_simp
            first | done | rfl
          simp only [Act.put, nm1, nm2, nm3, i64_w]
          refine wpK_ops rfl (fun w1 hu => ?_) ?_
          · have hcl := (laws_toPoint.calls K a4_0 a4_1 t24 t25 w1  A26.out)
            clear hu
            replace hcl := Aside0.mk hcl
            go_simp
            exact hcl.out
          simp only [Act.put, nm1, nm2, nm3, i64_w]
          refine wpK_any rfl (stab_row _ _ _ _ _) (fun w1 hu hl => ?_) (fun v32 => ?_)
          · have hcl := spec_WeightsOf.calls K a0 t15 t16 t18 t19 t21 t22 t24 t25 t27 t30 w1  A31.out
            have hz := ((Up.refl _).drew.trans hu).size
            clear hu
            replace hcl := Aside0.mk hcl
            exact fresh_row (by first | (go_simp; done) | (go_simp; rfl)) hcl.out hz
          simp only [Act.put, nm1, nm2, nm3, i64_w]
          refine wpK_any rfl (stab_row _ _ _ _ _) (fun w1 hu hl => ?_) (fun v33 => ?_)
          · exact any_of_run (by first | (go_simp; done) | (go_simp; rfl)) (hl.1 (by kernel_rfl))
          simp only [Act.put, nm1, nm2, nm3, i64_w]
          refine wpK_any rfl (stab_row _ _ _ _ _) (fun w1 hu hl => ?_) (fun v34 => ?_)
          · obtain ⟨A0_, c0_, e0_, hO0_⟩ := hl.1 (by kernel_rfl)
            clear hl hu
            dsimp only at e0_
            subst e0_
            exact any_of_run (u := .slice A0_ t27.length c0_) (by first | (go_simp; done) | (go_simp; rfl)) ⟨A0_, c0_, rfl, hO0_⟩
          simp only [Act.put, nm1, nm2, nm3, i64_w]
          refine wpK_det rfl (fun w1 hu hl => ?_) ?_
          · obtain ⟨A0_, c0_, e0_, hO0_⟩ := hl.2.1 (by kernel_rfl)
            clear hl hu
            dsimp only at e0_
            subst e0_
            clear hO0_
            go_simp
            first | done | rfl
          simp only [Act.put, nm1, nm2, nm3, i64_w]
          refine wpK_any rfl (stab_row _ _ _ _ _) (fun w1 hu hl => ?_) (fun v35 => ?_)
          · exact any_of_run (by first | (go_simp; done) | (go_simp; rfl)) (hl.1 (by kernel_rfl))
          simp only [Act.put, nm1, nm2, nm3, i64_w]
          refine wpK_ops rfl (fun w1 hu => ?_) ?_
          · clear hu
            go_simp
            first | done | rfl
          simp only [Act.put, nm1, nm2, nm3, i64_w]
          refine wpK_nil ?_
          intro w36 hu hap
          simp only [List.drop_succ_cons, List.drop_zero]
          replace hu := (Up.refl _).drew.trans hu
          obtain ⟨-, -, ⟨P28, q29, e0, ht27⟩, -, -, -, -, -, -, -, -, -, -⟩ := hap
          dsimp only at e0
          subst e0
          have hu37 := Aside0.mk hu
          clear hu
          refine wpList_nil ?_
          (try simp only [Exit.then, Exit.inBlock, ↓reduceIte, Nat.reduceEqDiff])
          refine hK14 _ _ ?_
          refine wp_seq_k (fun K38 hK38 => ?_)
          refine' wp_region_up 15 [Slot.det _, Slot.det _, Slot.det (.agg #[.int .i64 t39, .int .i64 t40]), Slot.det _, Slot.det (.agg #[.int .i64 t42, .int .i64 t43]), Slot.det _, Slot.det (.agg #[.int .i64 t45, .int .i64 t46]), Slot.det _, Slot.det (.agg #[.int .i64 t48, .int .i64 t49]), Slot.any (RowTo eI 2 w36.heap.size t51 (fun v => .tuple #[v, .int .i64 t54])) false, Slot.any (RowTo eI 2 w36.heap.size t51 (fun v => .tuple #[v, .int .i64 t54])) false, Slot.any (RowTo eI 2 w36.heap.size t51 (fun v => v)) false, Slot.det (.int .i64 t54), Slot.any (RowTo eI 2 w36.heap.size t51 (fun v => v)) false, Slot.det _] (by kernel_rfl) (by kernel_rfl) ?main
          case main =>
           simp only [List.take_succ_cons, List.take_zero]
           refine wpK_ops rfl (fun w1 hu => ?_) ?_
           · clear hu
             go_simp
             first | done | rfl
           simp only [Act.put, nm1, nm2, nm3, i64_w]
           refine wpK_ops rfl (fun w1 hu => ?_) ?_
           · have cl0 := ((hb2.up (((hu7.out.trans hu10.out).trans hu13.out).trans hu37.out)).up ((Up.refl _).drew.trans hu)).cell (o := 0) rfl
             have cl1 := ((hb2.up (((hu7.out.trans hu10.out).trans hu13.out).trans hu37.out)).up ((Up.refl _).drew.trans hu)).cell (o := 1) rfl
             go_simp
             first | done | rfl
           simp only [Act.put, nm1, nm2, nm3, i64_w]
           refine wpK_ops rfl (fun w1 hu => ?_) ?_
           · have hcl := (laws_toPoint.calls K a1_0 a1_1 t39 t40 w1  A41.out)
             clear hu
             replace hcl := Aside0.mk hcl
             go_simp
             exact hcl.out
           simp only [Act.put, nm1, nm2, nm3, i64_w]
           refine wpK_ops rfl (fun w1 hu => ?_) ?_
           · have cl0 := ((hb5.up ((hu10.out.trans hu13.out).trans hu37.out)).up ((Up.refl _).drew.trans hu)).cell (o := 0) rfl
             have cl1 := ((hb5.up ((hu10.out.trans hu13.out).trans hu37.out)).up ((Up.refl _).drew.trans hu)).cell (o := 1) rfl
             go_simp
             first | done | rfl
           simp only [Act.put, nm1, nm2, nm3, i64_w]
           refine wpK_ops rfl (fun w1 hu => ?_) ?_
           · have hcl := (laws_toPoint.calls K a2_0 a2_1 t42 t43 w1  A44.out)
             clear hu
             replace hcl := Aside0.mk hcl
             go_simp
             exact hcl.out
           simp only [Act.put, nm1, nm2, nm3, i64_w]
           refine wpK_ops rfl (fun w1 hu => ?_) ?_
           · have cl0 := ((hb8.up (hu13.out.trans hu37.out)).up ((Up.refl _).drew.trans hu)).cell (o := 0) rfl
             have cl1 := ((hb8.up (hu13.out.trans hu37.out)).up ((Up.refl _).drew.trans hu)).cell (o := 1) rfl
             go_simp
             first | done | rfl
           simp only [Act.put, nm1, nm2, nm3, i64_w]
           refine wpK_ops rfl (fun w1 hu => ?_) ?_
           · have hcl := (laws_toPoint.calls K a3_0 a3_1 t45 t46 w1  A47.out)
             clear hu
             replace hcl := Aside0.mk hcl
             go_simp
             exact hcl.out
           simp only [Act.put, nm1, nm2, nm3, i64_w]
           refine wpK_ops rfl (fun w1 hu => ?_) ?_
           · have cl0 := ((hb11.up hu37.out).up ((Up.refl _).drew.trans hu)).cell (o := 0) rfl
             have cl1 := ((hb11.up hu37.out).up ((Up.refl _).drew.trans hu)).cell (o := 1) rfl
             go_simp
             first | done | rfl
           simp only [Act.put, nm1, nm2, nm3, i64_w]
           refine wpK_ops rfl (fun w1 hu => ?_) ?_
           · have hcl := (laws_toPoint.calls K a4_0 a4_1 t48 t49 w1  A50.out)
             clear hu
             replace hcl := Aside0.mk hcl
             go_simp
             exact hcl.out
           simp only [Act.put, nm1, nm2, nm3, i64_w]
           refine wpK_any rfl (stab_row _ _ _ _ _) (fun w1 hu hl => ?_) (fun v56 => ?_)
           · have hcl := impl_WeightsOf.calls K a0 t39 t40 t42 t43 t45 t46 t48 t49 t51 t54 w1  A55.out
             have hz := ((Up.refl _).drew.trans hu).size
             clear hu
             replace hcl := Aside0.mk hcl
             exact fresh_row (by first | (go_simp; done) | (go_simp; rfl)) hcl.out hz
           simp only [Act.put, nm1, nm2, nm3, i64_w]
           refine wpK_any rfl (stab_row _ _ _ _ _) (fun w1 hu hl => ?_) (fun v57 => ?_)
           · exact any_of_run (by first | (go_simp; done) | (go_simp; rfl)) (hl.1 (by kernel_rfl))
           simp only [Act.put, nm1, nm2, nm3, i64_w]
           refine wpK_any rfl (stab_row _ _ _ _ _) (fun w1 hu hl => ?_) (fun v58 => ?_)
           · obtain ⟨A0_, c0_, e0_, hO0_⟩ := hl.1 (by kernel_rfl)
             clear hl hu
             dsimp only at e0_
             subst e0_
             exact any_of_run (u := .slice A0_ t51.length c0_) (by first | (go_simp; done) | (go_simp; rfl)) ⟨A0_, c0_, rfl, hO0_⟩
           simp only [Act.put, nm1, nm2, nm3, i64_w]
           refine wpK_det rfl (fun w1 hu hl => ?_) ?_
           · obtain ⟨A0_, c0_, e0_, hO0_⟩ := hl.2.1 (by kernel_rfl)
             clear hl hu
             dsimp only at e0_
             subst e0_
             clear hO0_
             go_simp
             first | done | rfl
           simp only [Act.put, nm1, nm2, nm3, i64_w]
           refine wpK_any rfl (stab_row _ _ _ _ _) (fun w1 hu hl => ?_) (fun v59 => ?_)
           · exact any_of_run (by first | (go_simp; done) | (go_simp; rfl)) (hl.1 (by kernel_rfl))
           simp only [Act.put, nm1, nm2, nm3, i64_w]
           refine wpK_ops rfl (fun w1 hu => ?_) ?_
           · clear hu
             go_simp
             first | done | rfl
           simp only [Act.put, nm1, nm2, nm3, i64_w]
           refine wpK_nil ?_
           intro w60 hu hap
           simp only [List.drop_succ_cons, List.drop_zero]
           replace hu := (Up.refl _).drew.trans hu
           obtain ⟨-, -, ⟨P52, q53, e0, ht51⟩, -, -, -, -, -, -, -, -, -, -⟩ := hap
           dsimp only at e0
           subst e0
           have hu61 := Aside0.mk hu
           clear hu
           refine wpList_nil ?_
           (try simp only [Exit.then, Exit.inBlock, ↓reduceIte, Nat.reduceEqDiff])
           refine hK38 _ _ ?_
           refine wp_seq_k (fun K62 hK62 => ?_)
           refine wp_seq_k (fun K63 hK63 => ?_)
           refine wp_region_lit ?_
           refine wpList_plain rfl (fun Ko hKo => ?_)
           go_simp
           refine hKo _ _ ?_
           clear hKo Ko
           try simp only [Act.put, nm1, nm2, nm3, i64_w]
           refine wpList_plain rfl (fun Ko hKo => ?_)
           go_simp
           refine hKo _ _ ?_
           clear hKo Ko
           try simp only [Act.put, nm1, nm2, nm3, i64_w]
           refine step_call (wanted_none rfl) (by first | (go_simp; done) | (go_simp; rfl)) (laws_eqInt64S.calls K P52 q53 t51 P28 q29 t27 true w60 ht51.rd ((ht27.up hu61.out).rd) A65.out) ?_
           rintro e w66 ⟨rfl, hu⟩
           have hu67 := Aside0.mk hu
           clear hu
           refine ⟨_, rfl, ?_⟩
           simp only [Act.put, nm1, nm2, nm3, i64_w]
           refine wpList_plain rfl (fun Ko hKo => ?_)
           go_simp
           refine hKo _ _ ?_
           clear hKo Ko
           try simp only [Act.put, nm1, nm2, nm3, i64_w]
           refine wpList_plain rfl (fun Ko hKo => ?_)
           go_simp
           refine hKo _ _ ?_
           clear hKo Ko
           try simp only [Act.put, nm1, nm2, nm3, i64_w]
           refine wpList_step (fun Ko hKo => ?_)
           go_simp
           refine hKo _ _ ?_
           clear hKo Ko
           try simp only [Act.put, nm1, nm2, nm3, i64_w]
           refine wpList_step (fun Ko hKo => ?_)
           go_simp
           refine hKo _ _ ?_
           clear hKo Ko
           try simp only [Act.put, nm1, nm2, nm3, i64_w]
           refine wpList_step (fun Ko hKo => ?_)
           go_simp
           refine hKo _ _ ?_
           clear hKo Ko
           try simp only [Act.put, nm1, nm2, nm3, i64_w]
           refine wpList_plain rfl (fun Ko hKo => ?_)
           go_simp
           refine hKo _ _ ?_
           clear hKo Ko
           try simp only [Act.put, nm1, nm2, nm3, i64_w]
           refine wpList_nil ?_
           (try simp only [Exit.then, Exit.inBlock, ↓reduceIte, Nat.reduceEqDiff])
           refine hK63 _ _ ?_
           refine wp_cond_false rfl ?_
           refine wp_skip ?_
           (try simp only [Exit.then, Exit.inBlock, ↓reduceIte, Nat.reduceEqDiff])
           refine hK62 _ _ ?_
           refine wp_seq_k (fun K70 hK70 => ?_)
           refine wp_region_lit ?_
           refine wpList_plain rfl (fun Ko hKo => ?_)
           go_simp
           refine hKo _ _ ?_
           clear hKo Ko
           try simp only [Act.put, nm1, nm2, nm3, i64_w]
           refine wpList_nil ?_
           (try simp only [Exit.then, Exit.inBlock, ↓reduceIte, Nat.reduceEqDiff])
           refine hK70 _ _ ?_
           refine wp_seq_k (fun K71 hK71 => ?_)
           refine wp_region_lit ?_
           refine wpList_plain rfl (fun Ko hKo => ?_)
           go_simp
           refine hKo _ _ ?_
           clear hKo Ko
           try simp only [Act.put, nm1, nm2, nm3, i64_w]
           refine wpList_plain rfl (fun Ko hKo => ?_)
           go_simp
           refine hKo _ _ ?_
           clear hKo Ko
           try simp only [Act.put, nm1, nm2, nm3, i64_w]
           refine step_call (wanted_none rfl) (by first | (go_simp; done) | (go_simp; rfl)) (laws_markInt64S.calls K P52 q53 w36.heap.size t51 1 t72 t73 w66 (ht51.up hu67.out) A74.out) ?_
           have lb76 := Aside0.mk (ht51.up hu67.out).lt
           rintro e w75 ⟨rfl, h77, hl, hg⟩
           have hg79 := Aside0.mk hg
           have hl78 := hl
           clear hg hl
           have hl80 : Aside0 (t51.length = t73.length) := Aside0.mk hl78.out
           refine ⟨_, rfl, ?_⟩
           simp only [Act.put, nm1, nm2, nm3, i64_w]
           refine wpList_plain rfl (fun Ko hKo => ?_)
           go_simp
           refine hKo _ _ ?_
           clear hKo Ko
           try simp only [Act.put, nm1, nm2, nm3, i64_w]
           refine wpList_nil ?_
           (try simp only [Exit.then, Exit.inBlock, ↓reduceIte, Nat.reduceEqDiff])
           refine hK71 _ _ ?_
           refine wp_seq_k (fun K81 hK81 => ?_)
           refine wp_region_lit ?_
           refine wpList_plain rfl (fun Ko hKo => ?_)
           go_simp
           refine hKo _ _ ?_
           clear hKo Ko
           try simp only [Act.put, nm1, nm2, nm3, i64_w]
           refine wpList_nil ?_
           (try simp only [Exit.then, Exit.inBlock, ↓reduceIte, Nat.reduceEqDiff])
           refine hK81 _ _ ?_
           refine wp_seq_k (fun K82 hK82 => ?_)
           refine wp_region_lit ?_
           refine wpList_plain rfl (fun Ko hKo => ?_)
           go_simp
           refine hKo _ _ ?_
           clear hKo Ko
           try simp only [Act.put, nm1, nm2, nm3, i64_w]
           refine wpList_plain rfl (fun Ko hKo => ?_)
           go_simp
           refine hKo _ _ ?_
           clear hKo Ko
           try simp only [Act.put, nm1, nm2, nm3, i64_w]
           refine step_call (wanted_none rfl) (by first | (go_simp; done) | (go_simp; rfl)) (Eq.mp (congrArg (fun n_ => Calls Try.prog 23 #[.slice P52 n_ q53, .int .i64 1] w75 _) (Eq.symm hl80.out)) (laws_heldInt64S.calls K P52 q53 t73 1 t83 w75 h77.rd A84.out)) ?_
           rintro e w85 ⟨rfl, hu⟩
           have hu86 := Aside0.mk hu
           clear hu
           refine ⟨_, rfl, ?_⟩
           simp only [Act.put, nm1, nm2, nm3, i64_w]
           refine wpList_plain rfl (fun Ko hKo => ?_)
           go_simp
           refine hKo _ _ ?_
           clear hKo Ko
           try simp only [Act.put, nm1, nm2, nm3, i64_w]
           refine wpList_nil ?_
           (try simp only [Exit.then, Exit.inBlock, ↓reduceIte, Nat.reduceEqDiff])
           refine hK82 _ _ ?_
           refine wp_seq_k (fun K87 hK87 => ?_)
           refine wp_seq_k (fun K88 hK88 => ?_)
           refine wp_region_lit ?_
           refine wpList_plain rfl (fun Ko hKo => ?_)
           go_simp
           refine hKo _ _ ?_
           clear hKo Ko
           try simp only [Act.put, nm1, nm2, nm3, i64_w]
           refine wpList_plain rfl (fun Ko hKo => ?_)
           go_simp
           refine hKo _ _ ?_
           clear hKo Ko
           try simp only [Act.put, nm1, nm2, nm3, i64_w]
           refine wpList_nil ?_
           (try simp only [Exit.then, Exit.inBlock, ↓reduceIte, Nat.reduceEqDiff])
           refine hK88 _ _ ?_
           refine wp_cond_false rfl ?_
           refine wp_skip ?_
           (try simp only [Exit.then, Exit.inBlock, ↓reduceIte, Nat.reduceEqDiff])
           refine hK87 _ _ ?_
           refine wp_seq_k (fun K91 hK91 => ?_)
           refine wp_seq_k (fun K92 hK92 => ?_)
           refine wp_region_lit ?_
           refine wpList_plain rfl (fun Ko hKo => ?_)
           go_simp
           refine hKo _ _ ?_
           clear hKo Ko
           try simp only [Act.put, nm1, nm2, nm3, i64_w]
           refine wpList_plain rfl (fun Ko hKo => ?_)
           go_simp
           refine hKo _ _ ?_
           clear hKo Ko
           try simp only [Act.put, nm1, nm2, nm3, i64_w]
           refine wpList_plain rfl (fun Ko hKo => ?_)
           go_simp
           refine hKo _ _ ?_
           clear hKo Ko
           try simp only [Act.put, nm1, nm2, nm3, i64_w]
           refine wpList_nil ?_
           (try simp only [Exit.then, Exit.inBlock, ↓reduceIte, Nat.reduceEqDiff])
           refine hK92 _ _ ?_
           refine wp_cond_false rfl ?_
           refine wp_skip ?_
           (try simp only [Exit.then, Exit.inBlock, ↓reduceIte, Nat.reduceEqDiff])
           refine hK91 _ _ ?_
           refine wp_seq_k (fun K94 hK94 => ?_)
           refine' wp_region_up 15 [Slot.det _, Slot.det _, Slot.det (.agg #[.int .i64 t95, .int .i64 t96]), Slot.det _, Slot.det (.agg #[.int .i64 t98, .int .i64 t99]), Slot.det _, Slot.det (.agg #[.int .i64 t101, .int .i64 t102]), Slot.det _, Slot.det (.agg #[.int .i64 t104, .int .i64 t105]), Slot.any (RowTo eI 2 w85.heap.size t107 (fun v => .tuple #[v, .int .i64 t110])) false, Slot.any (RowTo eI 2 w85.heap.size t107 (fun v => .tuple #[v, .int .i64 t110])) false, Slot.any (RowTo eI 2 w85.heap.size t107 (fun v => v)) false, Slot.det (.int .i64 t110), Slot.any (RowTo eI 2 w85.heap.size t107 (fun v => v)) false, Slot.det _] (by kernel_rfl) (by kernel_rfl) ?main
           case main =>
            simp only [List.take_succ_cons, List.take_zero]
            refine wpK_ops rfl (fun w1 hu => ?_) ?_
            · clear hu
              go_simp
              first | done | rfl
            simp only [Act.put, nm1, nm2, nm3, i64_w]
            refine wpK_ops rfl (fun w1 hu => ?_) ?_
            · have cl0 := ((hb2.up (((((((hu7.out.trans hu10.out).trans hu13.out).trans hu37.out).trans hu61.out).trans hu67.out).grow hg79.out (fun k hk => Nat.le_trans ((Nat.le_trans ((Nat.le_trans ((Nat.le_trans (hu7.out.size) hu10.out.size)) hu13.out.size)) hu37.out.size)) ((fun k hk => (lb76.out k hk).1) k hk))).trans hu86.out)).up ((Up.refl _).drew.trans hu)).cell (o := 0) rfl
              have cl1 := ((hb2.up (((((((hu7.out.trans hu10.out).trans hu13.out).trans hu37.out).trans hu61.out).trans hu67.out).grow hg79.out (fun k hk => Nat.le_trans ((Nat.le_trans ((Nat.le_trans ((Nat.le_trans (hu7.out.size) hu10.out.size)) hu13.out.size)) hu37.out.size)) ((fun k hk => (lb76.out k hk).1) k hk))).trans hu86.out)).up ((Up.refl _).drew.trans hu)).cell (o := 1) rfl
              go_simp
              first | done | rfl
            simp only [Act.put, nm1, nm2, nm3, i64_w]
            refine wpK_ops rfl (fun w1 hu => ?_) ?_
            · have hcl := (laws_toPoint.calls K a1_0 a1_1 t95 t96 w1  A97.out)
              clear hu
              replace hcl := Aside0.mk hcl
              go_simp
              exact hcl.out
            simp only [Act.put, nm1, nm2, nm3, i64_w]
            refine wpK_ops rfl (fun w1 hu => ?_) ?_
            · have cl0 := ((hb5.up ((((((hu10.out.trans hu13.out).trans hu37.out).trans hu61.out).trans hu67.out).grow hg79.out (fun k hk => Nat.le_trans ((Nat.le_trans ((Nat.le_trans (hu10.out.size) hu13.out.size)) hu37.out.size)) ((fun k hk => (lb76.out k hk).1) k hk))).trans hu86.out)).up ((Up.refl _).drew.trans hu)).cell (o := 0) rfl
              have cl1 := ((hb5.up ((((((hu10.out.trans hu13.out).trans hu37.out).trans hu61.out).trans hu67.out).grow hg79.out (fun k hk => Nat.le_trans ((Nat.le_trans ((Nat.le_trans (hu10.out.size) hu13.out.size)) hu37.out.size)) ((fun k hk => (lb76.out k hk).1) k hk))).trans hu86.out)).up ((Up.refl _).drew.trans hu)).cell (o := 1) rfl
              go_simp
              first | done | rfl
            simp only [Act.put, nm1, nm2, nm3, i64_w]
            refine wpK_ops rfl (fun w1 hu => ?_) ?_
            · have hcl := (laws_toPoint.calls K a2_0 a2_1 t98 t99 w1  A100.out)
              clear hu
              replace hcl := Aside0.mk hcl
              go_simp
              exact hcl.out
            simp only [Act.put, nm1, nm2, nm3, i64_w]
            refine wpK_ops rfl (fun w1 hu => ?_) ?_
            · have cl0 := ((hb8.up (((((hu13.out.trans hu37.out).trans hu61.out).trans hu67.out).grow hg79.out (fun k hk => Nat.le_trans ((Nat.le_trans (hu13.out.size) hu37.out.size)) ((fun k hk => (lb76.out k hk).1) k hk))).trans hu86.out)).up ((Up.refl _).drew.trans hu)).cell (o := 0) rfl
              have cl1 := ((hb8.up (((((hu13.out.trans hu37.out).trans hu61.out).trans hu67.out).grow hg79.out (fun k hk => Nat.le_trans ((Nat.le_trans (hu13.out.size) hu37.out.size)) ((fun k hk => (lb76.out k hk).1) k hk))).trans hu86.out)).up ((Up.refl _).drew.trans hu)).cell (o := 1) rfl
              go_simp
              first | done | rfl
            simp only [Act.put, nm1, nm2, nm3, i64_w]
            refine wpK_ops rfl (fun w1 hu => ?_) ?_
            · have hcl := (laws_toPoint.calls K a3_0 a3_1 t101 t102 w1  A103.out)
              clear hu
              replace hcl := Aside0.mk hcl
              go_simp
              exact hcl.out
            simp only [Act.put, nm1, nm2, nm3, i64_w]
            refine wpK_ops rfl (fun w1 hu => ?_) ?_
            · have cl0 := ((hb11.up ((((hu37.out.trans hu61.out).trans hu67.out).grow hg79.out (fun k hk => Nat.le_trans (hu37.out.size) ((fun k hk => (lb76.out k hk).1) k hk))).trans hu86.out)).up ((Up.refl _).drew.trans hu)).cell (o := 0) rfl
              have cl1 := ((hb11.up ((((hu37.out.trans hu61.out).trans hu67.out).grow hg79.out (fun k hk => Nat.le_trans (hu37.out.size) ((fun k hk => (lb76.out k hk).1) k hk))).trans hu86.out)).up ((Up.refl _).drew.trans hu)).cell (o := 1) rfl
              go_simp
              first | done | rfl
            simp only [Act.put, nm1, nm2, nm3, i64_w]
            refine wpK_ops rfl (fun w1 hu => ?_) ?_
            · have hcl := (laws_toPoint.calls K a4_0 a4_1 t104 t105 w1  A106.out)
              clear hu
              replace hcl := Aside0.mk hcl
              go_simp
              exact hcl.out
            simp only [Act.put, nm1, nm2, nm3, i64_w]
            refine wpK_any rfl (stab_row _ _ _ _ _) (fun w1 hu hl => ?_) (fun v112 => ?_)
            · have hcl := impl_WeightsOf.calls K a0 t95 t96 t98 t99 t101 t102 t104 t105 t107 t110 w1  A111.out
              have hz := ((Up.refl _).drew.trans hu).size
              clear hu
              replace hcl := Aside0.mk hcl
              exact fresh_row (by first | (go_simp; done) | (go_simp; rfl)) hcl.out hz
            simp only [Act.put, nm1, nm2, nm3, i64_w]
            refine wpK_any rfl (stab_row _ _ _ _ _) (fun w1 hu hl => ?_) (fun v113 => ?_)
            · exact any_of_run (by first | (go_simp; done) | (go_simp; rfl)) (hl.1 (by kernel_rfl))
            simp only [Act.put, nm1, nm2, nm3, i64_w]
            refine wpK_any rfl (stab_row _ _ _ _ _) (fun w1 hu hl => ?_) (fun v114 => ?_)
            · obtain ⟨A0_, c0_, e0_, hO0_⟩ := hl.1 (by kernel_rfl)
              clear hl hu
              dsimp only at e0_
              subst e0_
              exact any_of_run (u := .slice A0_ t107.length c0_) (by first | (go_simp; done) | (go_simp; rfl)) ⟨A0_, c0_, rfl, hO0_⟩
            simp only [Act.put, nm1, nm2, nm3, i64_w]
            refine wpK_det rfl (fun w1 hu hl => ?_) ?_
            · obtain ⟨A0_, c0_, e0_, hO0_⟩ := hl.2.1 (by kernel_rfl)
              clear hl hu
              dsimp only at e0_
              subst e0_
              clear hO0_
              go_simp
              first | done | rfl
            simp only [Act.put, nm1, nm2, nm3, i64_w]
            refine wpK_any rfl (stab_row _ _ _ _ _) (fun w1 hu hl => ?_) (fun v115 => ?_)
            · exact any_of_run (by first | (go_simp; done) | (go_simp; rfl)) (hl.1 (by kernel_rfl))
            simp only [Act.put, nm1, nm2, nm3, i64_w]
            refine wpK_ops rfl (fun w1 hu => ?_) ?_
            · clear hu
              go_simp
              first | done | rfl
            simp only [Act.put, nm1, nm2, nm3, i64_w]
            refine wpK_nil ?_
            intro w116 hu hap
            simp only [List.drop_succ_cons, List.drop_zero]
            replace hu := (Up.refl _).drew.trans hu
            obtain ⟨-, -, ⟨P108, q109, e0, ht107⟩, -, -, -, -, -, -, -, -, -, -⟩ := hap
            dsimp only at e0
            subst e0
            have hu117 := Aside0.mk hu
            clear hu
            refine wpList_nil ?_
            (try simp only [Exit.then, Exit.inBlock, ↓reduceIte, Nat.reduceEqDiff])
            refine hK94 _ _ ?_
            refine wp_seq_k (fun K118 hK118 => ?_)
            refine wp_seq_k (fun K119 hK119 => ?_)
            refine wp_region_lit ?_
            refine wpList_plain rfl (fun Ko hKo => ?_)
            go_simp
            refine hKo _ _ ?_
            clear hKo Ko
            try simp only [Act.put, nm1, nm2, nm3, i64_w]
            refine wpList_plain rfl (fun Ko hKo => ?_)
            go_simp
            refine hKo _ _ ?_
            clear hKo Ko
            try simp only [Act.put, nm1, nm2, nm3, i64_w]
            refine step_call (wanted_none rfl) (by first | (go_simp; done) | (go_simp; rfl)) (laws_eqInt64S.calls K P108 q109 t107 P28 q29 t27 true w116 ht107.rd ((ht27.up ((((hu61.out.trans hu67.out).grow hg79.out (fun k hk => Nat.le_trans (Nat.le_refl _) ((fun k hk => (lb76.out k hk).1) k hk))).trans hu86.out).trans hu117.out)).rd) A121.out) ?_
            rintro e w122 ⟨rfl, hu⟩
            have hu123 := Aside0.mk hu
            clear hu
            refine ⟨_, rfl, ?_⟩
            simp only [Act.put, nm1, nm2, nm3, i64_w]
            refine wpList_plain rfl (fun Ko hKo => ?_)
            go_simp
            refine hKo _ _ ?_
            clear hKo Ko
            try simp only [Act.put, nm1, nm2, nm3, i64_w]
            refine wpList_plain rfl (fun Ko hKo => ?_)
            go_simp
            refine hKo _ _ ?_
            clear hKo Ko
            try simp only [Act.put, nm1, nm2, nm3, i64_w]
            refine wpList_step (fun Ko hKo => ?_)
            go_simp
            refine hKo _ _ ?_
            clear hKo Ko
            try simp only [Act.put, nm1, nm2, nm3, i64_w]
            refine wpList_step (fun Ko hKo => ?_)
            go_simp
            refine hKo _ _ ?_
            clear hKo Ko
            try simp only [Act.put, nm1, nm2, nm3, i64_w]
            refine wpList_step (fun Ko hKo => ?_)
            go_simp
            refine hKo _ _ ?_
            clear hKo Ko
            try simp only [Act.put, nm1, nm2, nm3, i64_w]
            refine wpList_plain rfl (fun Ko hKo => ?_)
            go_simp
            refine hKo _ _ ?_
            clear hKo Ko
            try simp only [Act.put, nm1, nm2, nm3, i64_w]
            refine wpList_nil ?_
            (try simp only [Exit.then, Exit.inBlock, ↓reduceIte, Nat.reduceEqDiff])
            refine hK119 _ _ ?_
            refine wp_cond_false rfl ?_
            refine wp_skip ?_
            (try simp only [Exit.then, Exit.inBlock, ↓reduceIte, Nat.reduceEqDiff])
            refine hK118 _ _ ?_
            refine wp_seq_k (fun K126 hK126 => ?_)
            refine wp_region_lit ?_
            refine wpList_plain rfl (fun Ko hKo => ?_)
            go_simp
            refine hKo _ _ ?_
            clear hKo Ko
            try simp only [Act.put, nm1, nm2, nm3, i64_w]
            refine wpList_nil ?_
            (try simp only [Exit.then, Exit.inBlock, ↓reduceIte, Nat.reduceEqDiff])
            refine hK126 _ _ ?_
            refine wp_seq_k (fun K127 hK127 => ?_)
            refine wp_region_lit ?_
            refine wpList_plain rfl (fun Ko hKo => ?_)
            go_simp
            refine hKo _ _ ?_
            clear hKo Ko
            try simp only [Act.put, nm1, nm2, nm3, i64_w]
            refine wpList_plain rfl (fun Ko hKo => ?_)
            go_simp
            refine hKo _ _ ?_
            clear hKo Ko
            try simp only [Act.put, nm1, nm2, nm3, i64_w]
            refine step_call (wanted_none rfl) (by first | (go_simp; done) | (go_simp; rfl)) (Eq.mp (congrArg (fun n_ => Calls Try.prog 23 #[.slice P52 n_ q53, .int .i64 1] w122 _) (Eq.symm hl80.out)) (laws_heldInt64S.calls K P52 q53 t73 1 t128 w122 ((h77.up ((hu86.out.trans hu117.out).trans hu123.out)).rd) A129.out)) ?_
            rintro e w130 ⟨rfl, hu⟩
            have hu131 := Aside0.mk hu
            clear hu
            refine ⟨_, rfl, ?_⟩
            simp only [Act.put, nm1, nm2, nm3, i64_w]
            refine wpList_plain rfl (fun Ko hKo => ?_)
            go_simp
            refine hKo _ _ ?_
            clear hKo Ko
            try simp only [Act.put, nm1, nm2, nm3, i64_w]
            refine wpList_nil ?_
            (try simp only [Exit.then, Exit.inBlock, ↓reduceIte, Nat.reduceEqDiff])
            refine hK127 _ _ ?_
            refine wp_seq_k (fun K132 hK132 => ?_)
            refine wp_seq_k (fun K133 hK133 => ?_)
            refine wp_region_lit ?_
            refine wpList_plain rfl (fun Ko hKo => ?_)
            go_simp
            refine hKo _ _ ?_
            clear hKo Ko
            try simp only [Act.put, nm1, nm2, nm3, i64_w]
            refine wpList_plain rfl (fun Ko hKo => ?_)
            go_simp
            refine hKo _ _ ?_
            clear hKo Ko
            try simp only [Act.put, nm1, nm2, nm3, i64_w]
            refine wpList_nil ?_
            (try simp only [Exit.then, Exit.inBlock, ↓reduceIte, Nat.reduceEqDiff])
            refine hK133 _ _ ?_
            refine wp_cond_false rfl ?_
            refine wp_skip ?_
            (try simp only [Exit.then, Exit.inBlock, ↓reduceIte, Nat.reduceEqDiff])
            refine hK132 _ _ ?_
            refine wp_seq_k (fun K136 hK136 => ?_)
            refine wp_seq_k (fun K137 hK137 => ?_)
            refine wp_region_lit ?_
            refine wpList_plain rfl (fun Ko hKo => ?_)
            go_simp
            refine hKo _ _ ?_
            clear hKo Ko
            try simp only [Act.put, nm1, nm2, nm3, i64_w]
            refine wpList_plain rfl (fun Ko hKo => ?_)
            go_simp
            refine hKo _ _ ?_
            clear hKo Ko
            try simp only [Act.put, nm1, nm2, nm3, i64_w]
            refine wpList_plain rfl (fun Ko hKo => ?_)
            go_simp
            refine hKo _ _ ?_
            clear hKo Ko
            try simp only [Act.put, nm1, nm2, nm3, i64_w]
            refine wpList_nil ?_
            (try simp only [Exit.then, Exit.inBlock, ↓reduceIte, Nat.reduceEqDiff])
            refine hK137 _ _ ?_
            refine wp_cond_false rfl ?_
            refine wp_skip ?_
            (try simp only [Exit.then, Exit.inBlock, ↓reduceIte, Nat.reduceEqDiff])
            refine hK136 _ _ ?_
            refine wp_seq_k (fun K139 hK139 => ?_)
            refine wp_region_lit ?_
            refine wpList_plain rfl (fun Ko hKo => ?_)
            go_simp
            refine hKo _ _ ?_
            clear hKo Ko
            try simp only [Act.put, nm1, nm2, nm3, i64_w]
            refine wpList_nil ?_
            (try simp only [Exit.then, Exit.inBlock, ↓reduceIte, Nat.reduceEqDiff])
            refine hK139 _ _ ?_
            refine wp_ret ?_
            (try simp only [Exit.then, Exit.inBlock, ↓reduceIte, Nat.reduceEqDiff])
            refine hQf _ _ _ ?_
            exact bodyPost_ret (v := .bool true) (by first | rfl | (simp [results, Try.results5, go_sem]; done) | (simp [results, Try.results5, go_sem]; rfl)) rfl ⟨rfl, (((((((((((hu4.out.trans hu7.out).trans hu10.out).trans hu13.out).trans hu37.out).trans hu61.out).trans hu67.out).grow hg79.out (fun k hk => Nat.le_trans ((Nat.le_trans ((Nat.le_trans ((Nat.le_trans ((Nat.le_trans (hu4.out.size) hu7.out.size)) hu10.out.size)) hu13.out.size)) hu37.out.size)) ((fun k hk => (lb76.out k hk).1) k hk))).trans hu86.out).trans hu117.out).trans hu123.out).trans hu131.out)⟩
        ·
         rw [if_neg c138] at H
         replace c138 := Bool.eq_false_iff.mpr c138
         have c138n : (t128 != t72) = true := by rw [bne, c138]; rfl
         have c138p : ¬ t128 = t72 := fun e => by simp [e] at c138
         obtain rfl := Option.some.inj H
         go_enter Try.func5, Try.ntmps5
         refine wp_hide (fun Qf hQf => ?_)
         refine wp_seq_k (fun K1 hK1 => ?_)
         refine wp_region_lit ?_
         refine step_new (cs := [.int .i64 a1_0, .int .i64 a1_1]) (T := 22) (f := fun b => .pointer (some ⟨b, 0, none⟩)) rfl (by first | (go_simp; done) | (go_simp; rfl)) ?_
         intro b2 w3 hu lb hb2
         simp only [Act.put, nm1, nm2, nm3, i64_w]
         have lbb2 := Aside0.mk lb
         have ltb2 := Aside0.mk hb2.lt
         clear lb
         have hu4 := Aside0.mk hu
         clear hu
         refine step_new (cs := [.int .i64 a2_0, .int .i64 a2_1]) (T := 22) (f := fun b => .pointer (some ⟨b, 0, none⟩)) rfl (by first | (go_simp; done) | (go_simp; rfl)) ?_
         intro b5 w6 hu lb hb5
         simp only [Act.put, nm1, nm2, nm3, i64_w]
         have lbb5 := Aside0.mk lb
         have ltb5 := Aside0.mk hb5.lt
         clear lb
         have hu7 := Aside0.mk hu
         clear hu
         refine step_new (cs := [.int .i64 a3_0, .int .i64 a3_1]) (T := 22) (f := fun b => .pointer (some ⟨b, 0, none⟩)) rfl (by first | (go_simp; done) | (go_simp; rfl)) ?_
         intro b8 w9 hu lb hb8
         simp only [Act.put, nm1, nm2, nm3, i64_w]
         have lbb8 := Aside0.mk lb
         have ltb8 := Aside0.mk hb8.lt
         clear lb
         have hu10 := Aside0.mk hu
         clear hu
         refine step_new (cs := [.int .i64 a4_0, .int .i64 a4_1]) (T := 22) (f := fun b => .pointer (some ⟨b, 0, none⟩)) rfl (by first | (go_simp; done) | (go_simp; rfl)) ?_
         intro b11 w12 hu lb hb11
         simp only [Act.put, nm1, nm2, nm3, i64_w]
         have lbb11 := Aside0.mk lb
         have ltb11 := Aside0.mk hb11.lt
         clear lb
         have hu13 := Aside0.mk hu
         clear hu
         refine wpList_plain rfl (fun Ko hKo => ?_)
         go_simp
         refine hKo _ _ ?_
         clear hKo Ko
         try simp only [Act.put, nm1, nm2, nm3, i64_w]
         refine wpList_nil ?_
         (try simp only [Exit.then, Exit.inBlock, ↓reduceIte, Nat.reduceEqDiff])
         refine hK1 _ _ ?_
         refine wp_seq_k (fun K14 hK14 => ?_)
         refine' wp_region_up 15 [Slot.det _, Slot.det _, Slot.det (.agg #[.int .i64 t15, .int .i64 t16]), Slot.det _, Slot.det (.agg #[.int .i64 t18, .int .i64 t19]), Slot.det _, Slot.det (.agg #[.int .i64 t21, .int .i64 t22]), Slot.det _, Slot.det (.agg #[.int .i64 t24, .int .i64 t25]), Slot.any (RowTo eI 2 w12.heap.size t27 (fun v => .tuple #[v, .int .i64 t30])) false, Slot.any (RowTo eI 2 w12.heap.size t27 (fun v => .tuple #[v, .int .i64 t30])) false, Slot.any (RowTo eI 2 w12.heap.size t27 (fun v => v)) false, Slot.det (.int .i64 t30), Slot.any (RowTo eI 2 w12.heap.size t27 (fun v => v)) false, Slot.det _] (by kernel_rfl) (by kernel_rfl) ?main
         case main =>
          simp only [List.take_succ_cons, List.take_zero]
          refine wpK_ops rfl (fun w1 hu => ?_) ?_
          · clear hu
            go_simp
            first | done | rfl
          simp only [Act.put, nm1, nm2, nm3, i64_w]
          refine wpK_ops rfl (fun w1 hu => ?_) ?_
          · have cl0 := ((hb2.up ((hu7.out.trans hu10.out).trans hu13.out)).up ((Up.refl _).drew.trans hu)).cell (o := 0) rfl
            have cl1 := ((hb2.up ((hu7.out.trans hu10.out).trans hu13.out)).up ((Up.refl _).drew.trans hu)).cell (o := 1) rfl
            go_simp
            first | done | rfl
          simp only [Act.put, nm1, nm2, nm3, i64_w]
          refine wpK_ops rfl (fun w1 hu => ?_) ?_
          · have hcl := (laws_toPoint.calls K a1_0 a1_1 t15 t16 w1  A17.out)
            clear hu
            replace hcl := Aside0.mk hcl
            go_simp
            exact hcl.out
          simp only [Act.put, nm1, nm2, nm3, i64_w]
          refine wpK_ops rfl (fun w1 hu => ?_) ?_
          · have cl0 := ((hb5.up (hu10.out.trans hu13.out)).up ((Up.refl _).drew.trans hu)).cell (o := 0) rfl
            have cl1 := ((hb5.up (hu10.out.trans hu13.out)).up ((Up.refl _).drew.trans hu)).cell (o := 1) rfl
            go_simp
            first | done | rfl
          simp only [Act.put, nm1, nm2, nm3, i64_w]
          refine wpK_ops rfl (fun w1 hu => ?_) ?_
          · have hcl := (laws_toPoint.calls K a2_0 a2_1 t18 t19 w1  A20.out)
            clear hu
            replace hcl := Aside0.mk hcl
            go_simp
            exact hcl.out
          simp only [Act.put, nm1, nm2, nm3, i64_w]
          refine wpK_ops rfl (fun w1 hu => ?_) ?_
          · have cl0 := ((hb8.up hu13.out).up ((Up.refl _).drew.trans hu)).cell (o := 0) rfl
            have cl1 := ((hb8.up hu13.out).up ((Up.refl _).drew.trans hu)).cell (o := 1) rfl
            go_simp
            first | done | rfl
          simp only [Act.put, nm1, nm2, nm3, i64_w]
          refine wpK_ops rfl (fun w1 hu => ?_) ?_
          · have hcl := (laws_toPoint.calls K a3_0 a3_1 t21 t22 w1  A23.out)
            clear hu
            replace hcl := Aside0.mk hcl
            go_simp
            exact hcl.out
          simp only [Act.put, nm1, nm2, nm3, i64_w]
          refine wpK_ops rfl (fun w1 hu => ?_) ?_
          · have cl0 := (hb11.up ((Up.refl _).drew.trans hu)).cell (o := 0) rfl
            have cl1 := (hb11.up ((Up.refl _).drew.trans hu)).cell (o := 1) rfl
            go_simp
            first | done | rfl
          simp only [Act.put, nm1, nm2, nm3, i64_w]
          refine wpK_ops rfl (fun w1 hu => ?_) ?_
          · have hcl := (laws_toPoint.calls K a4_0 a4_1 t24 t25 w1  A26.out)
            clear hu
            replace hcl := Aside0.mk hcl
            go_simp
            exact hcl.out
          simp only [Act.put, nm1, nm2, nm3, i64_w]
          refine wpK_any rfl (stab_row _ _ _ _ _) (fun w1 hu hl => ?_) (fun v32 => ?_)
          · have hcl := spec_WeightsOf.calls K a0 t15 t16 t18 t19 t21 t22 t24 t25 t27 t30 w1  A31.out
            have hz := ((Up.refl _).drew.trans hu).size
            clear hu
            replace hcl := Aside0.mk hcl
            exact fresh_row (by first | (go_simp; done) | (go_simp; rfl)) hcl.out hz
          simp only [Act.put, nm1, nm2, nm3, i64_w]
          refine wpK_any rfl (stab_row _ _ _ _ _) (fun w1 hu hl => ?_) (fun v33 => ?_)
          · exact any_of_run (by first | (go_simp; done) | (go_simp; rfl)) (hl.1 (by kernel_rfl))
          simp only [Act.put, nm1, nm2, nm3, i64_w]
          refine wpK_any rfl (stab_row _ _ _ _ _) (fun w1 hu hl => ?_) (fun v34 => ?_)
          · obtain ⟨A0_, c0_, e0_, hO0_⟩ := hl.1 (by kernel_rfl)
            clear hl hu
            dsimp only at e0_
            subst e0_
            exact any_of_run (u := .slice A0_ t27.length c0_) (by first | (go_simp; done) | (go_simp; rfl)) ⟨A0_, c0_, rfl, hO0_⟩
          simp only [Act.put, nm1, nm2, nm3, i64_w]
          refine wpK_det rfl (fun w1 hu hl => ?_) ?_
          · obtain ⟨A0_, c0_, e0_, hO0_⟩ := hl.2.1 (by kernel_rfl)
            clear hl hu
            dsimp only at e0_
            subst e0_
            clear hO0_
            go_simp
            first | done | rfl
          simp only [Act.put, nm1, nm2, nm3, i64_w]
          refine wpK_any rfl (stab_row _ _ _ _ _) (fun w1 hu hl => ?_) (fun v35 => ?_)
          · exact any_of_run (by first | (go_simp; done) | (go_simp; rfl)) (hl.1 (by kernel_rfl))
          simp only [Act.put, nm1, nm2, nm3, i64_w]
          refine wpK_ops rfl (fun w1 hu => ?_) ?_
          · clear hu
            go_simp
            first | done | rfl
          simp only [Act.put, nm1, nm2, nm3, i64_w]
          refine wpK_nil ?_
          intro w36 hu hap
          simp only [List.drop_succ_cons, List.drop_zero]
          replace hu := (Up.refl _).drew.trans hu
          obtain ⟨-, -, ⟨P28, q29, e0, ht27⟩, -, -, -, -, -, -, -, -, -, -⟩ := hap
          dsimp only at e0
          subst e0
          have hu37 := Aside0.mk hu
          clear hu
          refine wpList_nil ?_
          (try simp only [Exit.then, Exit.inBlock, ↓reduceIte, Nat.reduceEqDiff])
          refine hK14 _ _ ?_
          refine wp_seq_k (fun K38 hK38 => ?_)
          refine' wp_region_up 15 [Slot.det _, Slot.det _, Slot.det (.agg #[.int .i64 t39, .int .i64 t40]), Slot.det _, Slot.det (.agg #[.int .i64 t42, .int .i64 t43]), Slot.det _, Slot.det (.agg #[.int .i64 t45, .int .i64 t46]), Slot.det _, Slot.det (.agg #[.int .i64 t48, .int .i64 t49]), Slot.any (RowTo eI 2 w36.heap.size t51 (fun v => .tuple #[v, .int .i64 t54])) false, Slot.any (RowTo eI 2 w36.heap.size t51 (fun v => .tuple #[v, .int .i64 t54])) false, Slot.any (RowTo eI 2 w36.heap.size t51 (fun v => v)) false, Slot.det (.int .i64 t54), Slot.any (RowTo eI 2 w36.heap.size t51 (fun v => v)) false, Slot.det _] (by kernel_rfl) (by kernel_rfl) ?main
          case main =>
           simp only [List.take_succ_cons, List.take_zero]
           refine wpK_ops rfl (fun w1 hu => ?_) ?_
           · clear hu
             go_simp
             first | done | rfl
           simp only [Act.put, nm1, nm2, nm3, i64_w]
           refine wpK_ops rfl (fun w1 hu => ?_) ?_
           · have cl0 := ((hb2.up (((hu7.out.trans hu10.out).trans hu13.out).trans hu37.out)).up ((Up.refl _).drew.trans hu)).cell (o := 0) rfl
             have cl1 := ((hb2.up (((hu7.out.trans hu10.out).trans hu13.out).trans hu37.out)).up ((Up.refl _).drew.trans hu)).cell (o := 1) rfl
             go_simp
             first | done | rfl
           simp only [Act.put, nm1, nm2, nm3, i64_w]
           refine wpK_ops rfl (fun w1 hu => ?_) ?_
           · have hcl := (laws_toPoint.calls K a1_0 a1_1 t39 t40 w1  A41.out)
             clear hu
             replace hcl := Aside0.mk hcl
             go_simp
             exact hcl.out
           simp only [Act.put, nm1, nm2, nm3, i64_w]
           refine wpK_ops rfl (fun w1 hu => ?_) ?_
           · have cl0 := ((hb5.up ((hu10.out.trans hu13.out).trans hu37.out)).up ((Up.refl _).drew.trans hu)).cell (o := 0) rfl
             have cl1 := ((hb5.up ((hu10.out.trans hu13.out).trans hu37.out)).up ((Up.refl _).drew.trans hu)).cell (o := 1) rfl
             go_simp
             first | done | rfl
           simp only [Act.put, nm1, nm2, nm3, i64_w]
           refine wpK_ops rfl (fun w1 hu => ?_) ?_
           · have hcl := (laws_toPoint.calls K a2_0 a2_1 t42 t43 w1  A44.out)
             clear hu
             replace hcl := Aside0.mk hcl
             go_simp
             exact hcl.out
           simp only [Act.put, nm1, nm2, nm3, i64_w]
           refine wpK_ops rfl (fun w1 hu => ?_) ?_
           · have cl0 := ((hb8.up (hu13.out.trans hu37.out)).up ((Up.refl _).drew.trans hu)).cell (o := 0) rfl
             have cl1 := ((hb8.up (hu13.out.trans hu37.out)).up ((Up.refl _).drew.trans hu)).cell (o := 1) rfl
             go_simp
             first | done | rfl
           simp only [Act.put, nm1, nm2, nm3, i64_w]
           refine wpK_ops rfl (fun w1 hu => ?_) ?_
           · have hcl := (laws_toPoint.calls K a3_0 a3_1 t45 t46 w1  A47.out)
             clear hu
             replace hcl := Aside0.mk hcl
             go_simp
             exact hcl.out
           simp only [Act.put, nm1, nm2, nm3, i64_w]
           refine wpK_ops rfl (fun w1 hu => ?_) ?_
           · have cl0 := ((hb11.up hu37.out).up ((Up.refl _).drew.trans hu)).cell (o := 0) rfl
             have cl1 := ((hb11.up hu37.out).up ((Up.refl _).drew.trans hu)).cell (o := 1) rfl
             go_simp
             first | done | rfl
           simp only [Act.put, nm1, nm2, nm3, i64_w]
           refine wpK_ops rfl (fun w1 hu => ?_) ?_
           · have hcl := (laws_toPoint.calls K a4_0 a4_1 t48 t49 w1  A50.out)
             clear hu
             replace hcl := Aside0.mk hcl
             go_simp
             exact hcl.out
           simp only [Act.put, nm1, nm2, nm3, i64_w]
           refine wpK_any rfl (stab_row _ _ _ _ _) (fun w1 hu hl => ?_) (fun v56 => ?_)
           · have hcl := impl_WeightsOf.calls K a0 t39 t40 t42 t43 t45 t46 t48 t49 t51 t54 w1  A55.out
             have hz := ((Up.refl _).drew.trans hu).size
             clear hu
             replace hcl := Aside0.mk hcl
             exact fresh_row (by first | (go_simp; done) | (go_simp; rfl)) hcl.out hz
           simp only [Act.put, nm1, nm2, nm3, i64_w]
           refine wpK_any rfl (stab_row _ _ _ _ _) (fun w1 hu hl => ?_) (fun v57 => ?_)
           · exact any_of_run (by first | (go_simp; done) | (go_simp; rfl)) (hl.1 (by kernel_rfl))
           simp only [Act.put, nm1, nm2, nm3, i64_w]
           refine wpK_any rfl (stab_row _ _ _ _ _) (fun w1 hu hl => ?_) (fun v58 => ?_)
           · obtain ⟨A0_, c0_, e0_, hO0_⟩ := hl.1 (by kernel_rfl)
             clear hl hu
             dsimp only at e0_
             subst e0_
             exact any_of_run (u := .slice A0_ t51.length c0_) (by first | (go_simp; done) | (go_simp; rfl)) ⟨A0_, c0_, rfl, hO0_⟩
           simp only [Act.put, nm1, nm2, nm3, i64_w]
           refine wpK_det rfl (fun w1 hu hl => ?_) ?_
           · obtain ⟨A0_, c0_, e0_, hO0_⟩ := hl.2.1 (by kernel_rfl)
             clear hl hu
             dsimp only at e0_
             subst e0_
             clear hO0_
             go_simp
             first | done | rfl
           simp only [Act.put, nm1, nm2, nm3, i64_w]
           refine wpK_any rfl (stab_row _ _ _ _ _) (fun w1 hu hl => ?_) (fun v59 => ?_)
           · exact any_of_run (by first | (go_simp; done) | (go_simp; rfl)) (hl.1 (by kernel_rfl))
           simp only [Act.put, nm1, nm2, nm3, i64_w]
           refine wpK_ops rfl (fun w1 hu => ?_) ?_
           · clear hu
             go_simp
             first | done | rfl
           simp only [Act.put, nm1, nm2, nm3, i64_w]
           refine wpK_nil ?_
           intro w60 hu hap
           simp only [List.drop_succ_cons, List.drop_zero]
           replace hu := (Up.refl _).drew.trans hu
           obtain ⟨-, -, ⟨P52, q53, e0, ht51⟩, -, -, -, -, -, -, -, -, -, -⟩ := hap
           dsimp only at e0
           subst e0
           have hu61 := Aside0.mk hu
           clear hu
           refine wpList_nil ?_
           (try simp only [Exit.then, Exit.inBlock, ↓reduceIte, Nat.reduceEqDiff])
           refine hK38 _ _ ?_
           refine wp_seq_k (fun K62 hK62 => ?_)
           refine wp_seq_k (fun K63 hK63 => ?_)
           refine wp_region_lit ?_
           refine wpList_plain rfl (fun Ko hKo => ?_)
           go_simp
           refine hKo _ _ ?_
           clear hKo Ko
           try simp only [Act.put, nm1, nm2, nm3, i64_w]
           refine wpList_plain rfl (fun Ko hKo => ?_)
           go_simp
           refine hKo _ _ ?_
           clear hKo Ko
           try simp only [Act.put, nm1, nm2, nm3, i64_w]
           refine step_call (wanted_none rfl) (by first | (go_simp; done) | (go_simp; rfl)) (laws_eqInt64S.calls K P52 q53 t51 P28 q29 t27 true w60 ht51.rd ((ht27.up hu61.out).rd) A65.out) ?_
           rintro e w66 ⟨rfl, hu⟩
           have hu67 := Aside0.mk hu
           clear hu
           refine ⟨_, rfl, ?_⟩
           simp only [Act.put, nm1, nm2, nm3, i64_w]
           refine wpList_plain rfl (fun Ko hKo => ?_)
           go_simp
           refine hKo _ _ ?_
           clear hKo Ko
           try simp only [Act.put, nm1, nm2, nm3, i64_w]
           refine wpList_plain rfl (fun Ko hKo => ?_)
           go_simp
           refine hKo _ _ ?_
           clear hKo Ko
           try simp only [Act.put, nm1, nm2, nm3, i64_w]
           refine wpList_step (fun Ko hKo => ?_)
           go_simp
           refine hKo _ _ ?_
           clear hKo Ko
           try simp only [Act.put, nm1, nm2, nm3, i64_w]
           refine wpList_step (fun Ko hKo => ?_)
           go_simp
           refine hKo _ _ ?_
           clear hKo Ko
           try simp only [Act.put, nm1, nm2, nm3, i64_w]
           refine wpList_step (fun Ko hKo => ?_)
           go_simp
           refine hKo _ _ ?_
           clear hKo Ko
           try simp only [Act.put, nm1, nm2, nm3, i64_w]
           refine wpList_plain rfl (fun Ko hKo => ?_)
           go_simp
           refine hKo _ _ ?_
           clear hKo Ko
           try simp only [Act.put, nm1, nm2, nm3, i64_w]
           refine wpList_nil ?_
           (try simp only [Exit.then, Exit.inBlock, ↓reduceIte, Nat.reduceEqDiff])
           refine hK63 _ _ ?_
           refine wp_cond_false rfl ?_
           refine wp_skip ?_
           (try simp only [Exit.then, Exit.inBlock, ↓reduceIte, Nat.reduceEqDiff])
           refine hK62 _ _ ?_
           refine wp_seq_k (fun K70 hK70 => ?_)
           refine wp_region_lit ?_
           refine wpList_plain rfl (fun Ko hKo => ?_)
           go_simp
           refine hKo _ _ ?_
           clear hKo Ko
           try simp only [Act.put, nm1, nm2, nm3, i64_w]
           refine wpList_nil ?_
           (try simp only [Exit.then, Exit.inBlock, ↓reduceIte, Nat.reduceEqDiff])
           refine hK70 _ _ ?_
           refine wp_seq_k (fun K71 hK71 => ?_)
           refine wp_region_lit ?_
           refine wpList_plain rfl (fun Ko hKo => ?_)
           go_simp
           refine hKo _ _ ?_
           clear hKo Ko
           try simp only [Act.put, nm1, nm2, nm3, i64_w]
           refine wpList_plain rfl (fun Ko hKo => ?_)
           go_simp
           refine hKo _ _ ?_
           clear hKo Ko
           try simp only [Act.put, nm1, nm2, nm3, i64_w]
           refine step_call (wanted_none rfl) (by first | (go_simp; done) | (go_simp; rfl)) (laws_markInt64S.calls K P52 q53 w36.heap.size t51 1 t72 t73 w66 (ht51.up hu67.out) A74.out) ?_
           have lb76 := Aside0.mk (ht51.up hu67.out).lt
           rintro e w75 ⟨rfl, h77, hl, hg⟩
           have hg79 := Aside0.mk hg
           have hl78 := hl
           clear hg hl
           have hl80 : Aside0 (t51.length = t73.length) := Aside0.mk hl78.out
           refine ⟨_, rfl, ?_⟩
           simp only [Act.put, nm1, nm2, nm3, i64_w]
           refine wpList_plain rfl (fun Ko hKo => ?_)
           go_simp
           refine hKo _ _ ?_
           clear hKo Ko
           try simp only [Act.put, nm1, nm2, nm3, i64_w]
           refine wpList_nil ?_
           (try simp only [Exit.then, Exit.inBlock, ↓reduceIte, Nat.reduceEqDiff])
           refine hK71 _ _ ?_
           refine wp_seq_k (fun K81 hK81 => ?_)
           refine wp_region_lit ?_
           refine wpList_plain rfl (fun Ko hKo => ?_)
           go_simp
           refine hKo _ _ ?_
           clear hKo Ko
           try simp only [Act.put, nm1, nm2, nm3, i64_w]
           refine wpList_nil ?_
           (try simp only [Exit.then, Exit.inBlock, ↓reduceIte, Nat.reduceEqDiff])
           refine hK81 _ _ ?_
           refine wp_seq_k (fun K82 hK82 => ?_)
           refine wp_region_lit ?_
           refine wpList_plain rfl (fun Ko hKo => ?_)
           go_simp
           refine hKo _ _ ?_
           clear hKo Ko
           try simp only [Act.put, nm1, nm2, nm3, i64_w]
           refine wpList_plain rfl (fun Ko hKo => ?_)
           go_simp
           refine hKo _ _ ?_
           clear hKo Ko
           try simp only [Act.put, nm1, nm2, nm3, i64_w]
           refine step_call (wanted_none rfl) (by first | (go_simp; done) | (go_simp; rfl)) (Eq.mp (congrArg (fun n_ => Calls Try.prog 23 #[.slice P52 n_ q53, .int .i64 1] w75 _) (Eq.symm hl80.out)) (laws_heldInt64S.calls K P52 q53 t73 1 t83 w75 h77.rd A84.out)) ?_
           rintro e w85 ⟨rfl, hu⟩
           have hu86 := Aside0.mk hu
           clear hu
           refine ⟨_, rfl, ?_⟩
           simp only [Act.put, nm1, nm2, nm3, i64_w]
           refine wpList_plain rfl (fun Ko hKo => ?_)
           go_simp
           refine hKo _ _ ?_
           clear hKo Ko
           try simp only [Act.put, nm1, nm2, nm3, i64_w]
           refine wpList_nil ?_
           (try simp only [Exit.then, Exit.inBlock, ↓reduceIte, Nat.reduceEqDiff])
           refine hK82 _ _ ?_
           refine wp_seq_k (fun K87 hK87 => ?_)
           refine wp_seq_k (fun K88 hK88 => ?_)
           refine wp_region_lit ?_
           refine wpList_plain rfl (fun Ko hKo => ?_)
           go_simp
           refine hKo _ _ ?_
           clear hKo Ko
           try simp only [Act.put, nm1, nm2, nm3, i64_w]
           refine wpList_plain rfl (fun Ko hKo => ?_)
           go_simp
           refine hKo _ _ ?_
           clear hKo Ko
           try simp only [Act.put, nm1, nm2, nm3, i64_w]
           refine wpList_nil ?_
           (try simp only [Exit.then, Exit.inBlock, ↓reduceIte, Nat.reduceEqDiff])
           refine hK88 _ _ ?_
           refine wp_cond_false rfl ?_
           refine wp_skip ?_
           (try simp only [Exit.then, Exit.inBlock, ↓reduceIte, Nat.reduceEqDiff])
           refine hK87 _ _ ?_
           refine wp_seq_k (fun K91 hK91 => ?_)
           refine wp_seq_k (fun K92 hK92 => ?_)
           refine wp_region_lit ?_
           refine wpList_plain rfl (fun Ko hKo => ?_)
           go_simp
           refine hKo _ _ ?_
           clear hKo Ko
           try simp only [Act.put, nm1, nm2, nm3, i64_w]
           refine wpList_plain rfl (fun Ko hKo => ?_)
           go_simp
           refine hKo _ _ ?_
           clear hKo Ko
           try simp only [Act.put, nm1, nm2, nm3, i64_w]
           refine wpList_plain rfl (fun Ko hKo => ?_)
           go_simp
           refine hKo _ _ ?_
           clear hKo Ko
           try simp only [Act.put, nm1, nm2, nm3, i64_w]
           refine wpList_nil ?_
           (try simp only [Exit.then, Exit.inBlock, ↓reduceIte, Nat.reduceEqDiff])
           refine hK92 _ _ ?_
           refine wp_cond_false rfl ?_
           refine wp_skip ?_
           (try simp only [Exit.then, Exit.inBlock, ↓reduceIte, Nat.reduceEqDiff])
           refine hK91 _ _ ?_
           refine wp_seq_k (fun K94 hK94 => ?_)
           refine' wp_region_up 15 [Slot.det _, Slot.det _, Slot.det (.agg #[.int .i64 t95, .int .i64 t96]), Slot.det _, Slot.det (.agg #[.int .i64 t98, .int .i64 t99]), Slot.det _, Slot.det (.agg #[.int .i64 t101, .int .i64 t102]), Slot.det _, Slot.det (.agg #[.int .i64 t104, .int .i64 t105]), Slot.any (RowTo eI 2 w85.heap.size t107 (fun v => .tuple #[v, .int .i64 t110])) false, Slot.any (RowTo eI 2 w85.heap.size t107 (fun v => .tuple #[v, .int .i64 t110])) false, Slot.any (RowTo eI 2 w85.heap.size t107 (fun v => v)) false, Slot.det (.int .i64 t110), Slot.any (RowTo eI 2 w85.heap.size t107 (fun v => v)) false, Slot.det _] (by kernel_rfl) (by kernel_rfl) ?main
           case main =>
            simp only [List.take_succ_cons, List.take_zero]
            refine wpK_ops rfl (fun w1 hu => ?_) ?_
            · clear hu
              go_simp
              first | done | rfl
            simp only [Act.put, nm1, nm2, nm3, i64_w]
            refine wpK_ops rfl (fun w1 hu => ?_) ?_
            · have cl0 := ((hb2.up (((((((hu7.out.trans hu10.out).trans hu13.out).trans hu37.out).trans hu61.out).trans hu67.out).grow hg79.out (fun k hk => Nat.le_trans ((Nat.le_trans ((Nat.le_trans ((Nat.le_trans (hu7.out.size) hu10.out.size)) hu13.out.size)) hu37.out.size)) ((fun k hk => (lb76.out k hk).1) k hk))).trans hu86.out)).up ((Up.refl _).drew.trans hu)).cell (o := 0) rfl
              have cl1 := ((hb2.up (((((((hu7.out.trans hu10.out).trans hu13.out).trans hu37.out).trans hu61.out).trans hu67.out).grow hg79.out (fun k hk => Nat.le_trans ((Nat.le_trans ((Nat.le_trans ((Nat.le_trans (hu7.out.size) hu10.out.size)) hu13.out.size)) hu37.out.size)) ((fun k hk => (lb76.out k hk).1) k hk))).trans hu86.out)).up ((Up.refl _).drew.trans hu)).cell (o := 1) rfl
              go_simp
              first | done | rfl
            simp only [Act.put, nm1, nm2, nm3, i64_w]
            refine wpK_ops rfl (fun w1 hu => ?_) ?_
            · have hcl := (laws_toPoint.calls K a1_0 a1_1 t95 t96 w1  A97.out)
              clear hu
              replace hcl := Aside0.mk hcl
              go_simp
              exact hcl.out
            simp only [Act.put, nm1, nm2, nm3, i64_w]
            refine wpK_ops rfl (fun w1 hu => ?_) ?_
            · have cl0 := ((hb5.up ((((((hu10.out.trans hu13.out).trans hu37.out).trans hu61.out).trans hu67.out).grow hg79.out (fun k hk => Nat.le_trans ((Nat.le_trans ((Nat.le_trans (hu10.out.size) hu13.out.size)) hu37.out.size)) ((fun k hk => (lb76.out k hk).1) k hk))).trans hu86.out)).up ((Up.refl _).drew.trans hu)).cell (o := 0) rfl
              have cl1 := ((hb5.up ((((((hu10.out.trans hu13.out).trans hu37.out).trans hu61.out).trans hu67.out).grow hg79.out (fun k hk => Nat.le_trans ((Nat.le_trans ((Nat.le_trans (hu10.out.size) hu13.out.size)) hu37.out.size)) ((fun k hk => (lb76.out k hk).1) k hk))).trans hu86.out)).up ((Up.refl _).drew.trans hu)).cell (o := 1) rfl
              go_simp
              first | done | rfl
            simp only [Act.put, nm1, nm2, nm3, i64_w]
            refine wpK_ops rfl (fun w1 hu => ?_) ?_
            · have hcl := (laws_toPoint.calls K a2_0 a2_1 t98 t99 w1  A100.out)
              clear hu
              replace hcl := Aside0.mk hcl
              go_simp
              exact hcl.out
            simp only [Act.put, nm1, nm2, nm3, i64_w]
            refine wpK_ops rfl (fun w1 hu => ?_) ?_
            · have cl0 := ((hb8.up (((((hu13.out.trans hu37.out).trans hu61.out).trans hu67.out).grow hg79.out (fun k hk => Nat.le_trans ((Nat.le_trans (hu13.out.size) hu37.out.size)) ((fun k hk => (lb76.out k hk).1) k hk))).trans hu86.out)).up ((Up.refl _).drew.trans hu)).cell (o := 0) rfl
              have cl1 := ((hb8.up (((((hu13.out.trans hu37.out).trans hu61.out).trans hu67.out).grow hg79.out (fun k hk => Nat.le_trans ((Nat.le_trans (hu13.out.size) hu37.out.size)) ((fun k hk => (lb76.out k hk).1) k hk))).trans hu86.out)).up ((Up.refl _).drew.trans hu)).cell (o := 1) rfl
              go_simp
              first | done | rfl
            simp only [Act.put, nm1, nm2, nm3, i64_w]
            refine wpK_ops rfl (fun w1 hu => ?_) ?_
            · have hcl := (laws_toPoint.calls K a3_0 a3_1 t101 t102 w1  A103.out)
              clear hu
              replace hcl := Aside0.mk hcl
              go_simp
              exact hcl.out
            simp only [Act.put, nm1, nm2, nm3, i64_w]
            refine wpK_ops rfl (fun w1 hu => ?_) ?_
            · have cl0 := ((hb11.up ((((hu37.out.trans hu61.out).trans hu67.out).grow hg79.out (fun k hk => Nat.le_trans (hu37.out.size) ((fun k hk => (lb76.out k hk).1) k hk))).trans hu86.out)).up ((Up.refl _).drew.trans hu)).cell (o := 0) rfl
              have cl1 := ((hb11.up ((((hu37.out.trans hu61.out).trans hu67.out).grow hg79.out (fun k hk => Nat.le_trans (hu37.out.size) ((fun k hk => (lb76.out k hk).1) k hk))).trans hu86.out)).up ((Up.refl _).drew.trans hu)).cell (o := 1) rfl
              go_simp
              first | done | rfl
            simp only [Act.put, nm1, nm2, nm3, i64_w]
            refine wpK_ops rfl (fun w1 hu => ?_) ?_
            · have hcl := (laws_toPoint.calls K a4_0 a4_1 t104 t105 w1  A106.out)
              clear hu
              replace hcl := Aside0.mk hcl
              go_simp
              exact hcl.out
            simp only [Act.put, nm1, nm2, nm3, i64_w]
            refine wpK_any rfl (stab_row _ _ _ _ _) (fun w1 hu hl => ?_) (fun v112 => ?_)
            · have hcl := impl_WeightsOf.calls K a0 t95 t96 t98 t99 t101 t102 t104 t105 t107 t110 w1  A111.out
              have hz := ((Up.refl _).drew.trans hu).size
              clear hu
              replace hcl := Aside0.mk hcl
              exact fresh_row (by first | (go_simp; done) | (go_simp; rfl)) hcl.out hz
            simp only [Act.put, nm1, nm2, nm3, i64_w]
            refine wpK_any rfl (stab_row _ _ _ _ _) (fun w1 hu hl => ?_) (fun v113 => ?_)
            · exact any_of_run (by first | (go_simp; done) | (go_simp; rfl)) (hl.1 (by kernel_rfl))
            simp only [Act.put, nm1, nm2, nm3, i64_w]
            refine wpK_any rfl (stab_row _ _ _ _ _) (fun w1 hu hl => ?_) (fun v114 => ?_)
            · obtain ⟨A0_, c0_, e0_, hO0_⟩ := hl.1 (by kernel_rfl)
              clear hl hu
              dsimp only at e0_
              subst e0_
              exact any_of_run (u := .slice A0_ t107.length c0_) (by first | (go_simp; done) | (go_simp; rfl)) ⟨A0_, c0_, rfl, hO0_⟩
            simp only [Act.put, nm1, nm2, nm3, i64_w]
            refine wpK_det rfl (fun w1 hu hl => ?_) ?_
            · obtain ⟨A0_, c0_, e0_, hO0_⟩ := hl.2.1 (by kernel_rfl)
              clear hl hu
              dsimp only at e0_
              subst e0_
              clear hO0_
              go_simp
              first | done | rfl
            simp only [Act.put, nm1, nm2, nm3, i64_w]
            refine wpK_any rfl (stab_row _ _ _ _ _) (fun w1 hu hl => ?_) (fun v115 => ?_)
            · exact any_of_run (by first | (go_simp; done) | (go_simp; rfl)) (hl.1 (by kernel_rfl))
            simp only [Act.put, nm1, nm2, nm3, i64_w]
            refine wpK_ops rfl (fun w1 hu => ?_) ?_
            · clear hu
              go_simp
              first | done | rfl
            simp only [Act.put, nm1, nm2, nm3, i64_w]
            refine wpK_nil ?_
            intro w116 hu hap
            simp only [List.drop_succ_cons, List.drop_zero]
            replace hu := (Up.refl _).drew.trans hu
            obtain ⟨-, -, ⟨P108, q109, e0, ht107⟩, -, -, -, -, -, -, -, -, -, -⟩ := hap
            dsimp only at e0
            subst e0
            have hu117 := Aside0.mk hu
            clear hu
            refine wpList_nil ?_
            (try simp only [Exit.then, Exit.inBlock, ↓reduceIte, Nat.reduceEqDiff])
            refine hK94 _ _ ?_
            refine wp_seq_k (fun K118 hK118 => ?_)
            refine wp_seq_k (fun K119 hK119 => ?_)
            refine wp_region_lit ?_
            refine wpList_plain rfl (fun Ko hKo => ?_)
            go_simp
            refine hKo _ _ ?_
            clear hKo Ko
            try simp only [Act.put, nm1, nm2, nm3, i64_w]
            refine wpList_plain rfl (fun Ko hKo => ?_)
            go_simp
            refine hKo _ _ ?_
            clear hKo Ko
            try simp only [Act.put, nm1, nm2, nm3, i64_w]
            refine step_call (wanted_none rfl) (by first | (go_simp; done) | (go_simp; rfl)) (laws_eqInt64S.calls K P108 q109 t107 P28 q29 t27 true w116 ht107.rd ((ht27.up ((((hu61.out.trans hu67.out).grow hg79.out (fun k hk => Nat.le_trans (Nat.le_refl _) ((fun k hk => (lb76.out k hk).1) k hk))).trans hu86.out).trans hu117.out)).rd) A121.out) ?_
            rintro e w122 ⟨rfl, hu⟩
            have hu123 := Aside0.mk hu
            clear hu
            refine ⟨_, rfl, ?_⟩
            simp only [Act.put, nm1, nm2, nm3, i64_w]
            refine wpList_plain rfl (fun Ko hKo => ?_)
            go_simp
            refine hKo _ _ ?_
            clear hKo Ko
            try simp only [Act.put, nm1, nm2, nm3, i64_w]
            refine wpList_plain rfl (fun Ko hKo => ?_)
            go_simp
            refine hKo _ _ ?_
            clear hKo Ko
            try simp only [Act.put, nm1, nm2, nm3, i64_w]
            refine wpList_step (fun Ko hKo => ?_)
            go_simp
            refine hKo _ _ ?_
            clear hKo Ko
            try simp only [Act.put, nm1, nm2, nm3, i64_w]
            refine wpList_step (fun Ko hKo => ?_)
            go_simp
            refine hKo _ _ ?_
            clear hKo Ko
            try simp only [Act.put, nm1, nm2, nm3, i64_w]
            refine wpList_step (fun Ko hKo => ?_)
            go_simp
            refine hKo _ _ ?_
            clear hKo Ko
            try simp only [Act.put, nm1, nm2, nm3, i64_w]
            refine wpList_plain rfl (fun Ko hKo => ?_)
            go_simp
            refine hKo _ _ ?_
            clear hKo Ko
            try simp only [Act.put, nm1, nm2, nm3, i64_w]
            refine wpList_nil ?_
            (try simp only [Exit.then, Exit.inBlock, ↓reduceIte, Nat.reduceEqDiff])
            refine hK119 _ _ ?_
            refine wp_cond_false rfl ?_
            refine wp_skip ?_
            (try simp only [Exit.then, Exit.inBlock, ↓reduceIte, Nat.reduceEqDiff])
            refine hK118 _ _ ?_
            refine wp_seq_k (fun K126 hK126 => ?_)
            refine wp_region_lit ?_
            refine wpList_plain rfl (fun Ko hKo => ?_)
            go_simp
            refine hKo _ _ ?_
            clear hKo Ko
            try simp only [Act.put, nm1, nm2, nm3, i64_w]
            refine wpList_nil ?_
            (try simp only [Exit.then, Exit.inBlock, ↓reduceIte, Nat.reduceEqDiff])
            refine hK126 _ _ ?_
            refine wp_seq_k (fun K127 hK127 => ?_)
            refine wp_region_lit ?_
            refine wpList_plain rfl (fun Ko hKo => ?_)
            go_simp
            refine hKo _ _ ?_
            clear hKo Ko
            try simp only [Act.put, nm1, nm2, nm3, i64_w]
            refine wpList_plain rfl (fun Ko hKo => ?_)
            go_simp
            refine hKo _ _ ?_
            clear hKo Ko
            try simp only [Act.put, nm1, nm2, nm3, i64_w]
            refine step_call (wanted_none rfl) (by first | (go_simp; done) | (go_simp; rfl)) (Eq.mp (congrArg (fun n_ => Calls Try.prog 23 #[.slice P52 n_ q53, .int .i64 1] w122 _) (Eq.symm hl80.out)) (laws_heldInt64S.calls K P52 q53 t73 1 t128 w122 ((h77.up ((hu86.out.trans hu117.out).trans hu123.out)).rd) A129.out)) ?_
            rintro e w130 ⟨rfl, hu⟩
            have hu131 := Aside0.mk hu
            clear hu
            refine ⟨_, rfl, ?_⟩
            simp only [Act.put, nm1, nm2, nm3, i64_w]
            refine wpList_plain rfl (fun Ko hKo => ?_)
            go_simp
            refine hKo _ _ ?_
            clear hKo Ko
            try simp only [Act.put, nm1, nm2, nm3, i64_w]
            refine wpList_nil ?_
            (try simp only [Exit.then, Exit.inBlock, ↓reduceIte, Nat.reduceEqDiff])
            refine hK127 _ _ ?_
            refine wp_seq_k (fun K132 hK132 => ?_)
            refine wp_seq_k (fun K133 hK133 => ?_)
            refine wp_region_lit ?_
            refine wpList_plain rfl (fun Ko hKo => ?_)
            go_simp
            refine hKo _ _ ?_
            clear hKo Ko
            try simp only [Act.put, nm1, nm2, nm3, i64_w]
            refine wpList_plain rfl (fun Ko hKo => ?_)
            go_simp
            refine hKo _ _ ?_
            clear hKo Ko
            try simp only [Act.put, nm1, nm2, nm3, i64_w]
            refine wpList_nil ?_
            (try simp only [Exit.then, Exit.inBlock, ↓reduceIte, Nat.reduceEqDiff])
            refine hK133 _ _ ?_
            refine wp_cond_false rfl ?_
            refine wp_skip ?_
            (try simp only [Exit.then, Exit.inBlock, ↓reduceIte, Nat.reduceEqDiff])
            refine hK132 _ _ ?_
            refine wp_seq_k (fun K136 hK136 => ?_)
            refine wp_seq_k (fun K137 hK137 => ?_)
            refine wp_region_lit ?_
            refine wpList_plain rfl (fun Ko hKo => ?_)
            go_simp
            refine hKo _ _ ?_
            clear hKo Ko
            try simp only [Act.put, nm1, nm2, nm3, i64_w]
            refine wpList_plain rfl (fun Ko hKo => ?_)
            go_simp
            refine hKo _ _ ?_
            clear hKo Ko
            try simp only [Act.put, nm1, nm2, nm3, i64_w]
            refine wpList_plain rfl (fun Ko hKo => ?_)
            go_simp
            refine hKo _ _ ?_
            clear hKo Ko
            try simp only [Act.put, nm1, nm2, nm3, i64_w]
            refine wpList_nil ?_
            (try simp only [Exit.then, Exit.inBlock, ↓reduceIte, Nat.reduceEqDiff])
            refine hK137 _ _ ?_
            refine wp_cond_true rfl ?_
            refine wp_seq_k (fun K140 hK140 => ?_)
            refine wp_region_lit ?_
            refine wpList_plain rfl (fun Ko hKo => ?_)
            go_simp
            refine hKo _ _ ?_
            clear hKo Ko
            try simp only [Act.put, nm1, nm2, nm3, i64_w]
            refine wpList_nil ?_
            (try simp only [Exit.then, Exit.inBlock, ↓reduceIte, Nat.reduceEqDiff])
            refine hK140 _ _ ?_
            refine wp_ret ?_
            (try simp only [Exit.then, Exit.inBlock, ↓reduceIte, Nat.reduceEqDiff])
            refine hQf _ _ _ ?_
            exact bodyPost_ret (v := .bool false) (by first | rfl | (simp [results, Try.results5, go_sem]; done) | (simp [results, Try.results5, go_sem]; rfl)) rfl ⟨rfl, (((((((((((hu4.out.trans hu7.out).trans hu10.out).trans hu13.out).trans hu37.out).trans hu61.out).trans hu67.out).grow hg79.out (fun k hk => Nat.le_trans ((Nat.le_trans ((Nat.le_trans ((Nat.le_trans ((Nat.le_trans (hu4.out.size) hu7.out.size)) hu10.out.size)) hu13.out.size)) hu37.out.size)) ((fun k hk => (lb76.out k hk).1) k hk))).trans hu86.out).trans hu117.out).trans hu123.out).trans hu131.out)⟩
      ·
       rw [if_neg c125] at H
       replace c125 := Bool.eq_false_iff.mpr c125
       have c125n : (t110 != t30) = true := by rw [bne, c125]; rfl
       have c125p : ¬ t110 = t30 := fun e => by simp [e] at c125
       obtain rfl := Option.some.inj H
       go_enter Try.func5, Try.ntmps5
       refine wp_hide (fun Qf hQf => ?_)
       refine wp_seq_k (fun K1 hK1 => ?_)
       refine wp_region_lit ?_
       refine step_new (cs := [.int .i64 a1_0, .int .i64 a1_1]) (T := 22) (f := fun b => .pointer (some ⟨b, 0, none⟩)) rfl (by first | (go_simp; done) | (go_simp; rfl)) ?_
       intro b2 w3 hu lb hb2
       simp only [Act.put, nm1, nm2, nm3, i64_w]
       have lbb2 := Aside0.mk lb
       have ltb2 := Aside0.mk hb2.lt
       clear lb
       have hu4 := Aside0.mk hu
       clear hu
       refine step_new (cs := [.int .i64 a2_0, .int .i64 a2_1]) (T := 22) (f := fun b => .pointer (some ⟨b, 0, none⟩)) rfl (by first | (go_simp; done) | (go_simp; rfl)) ?_
       intro b5 w6 hu lb hb5
       simp only [Act.put, nm1, nm2, nm3, i64_w]
       have lbb5 := Aside0.mk lb
       have ltb5 := Aside0.mk hb5.lt
       clear lb
       have hu7 := Aside0.mk hu
       clear hu
       refine step_new (cs := [.int .i64 a3_0, .int .i64 a3_1]) (T := 22) (f := fun b => .pointer (some ⟨b, 0, none⟩)) rfl (by first | (go_simp; done) | (go_simp; rfl)) ?_
       intro b8 w9 hu lb hb8
       simp only [Act.put, nm1, nm2, nm3, i64_w]
       have lbb8 := Aside0.mk lb
       have ltb8 := Aside0.mk hb8.lt
       clear lb
       have hu10 := Aside0.mk hu
       clear hu
       refine step_new (cs := [.int .i64 a4_0, .int .i64 a4_1]) (T := 22) (f := fun b => .pointer (some ⟨b, 0, none⟩)) rfl (by first | (go_simp; done) | (go_simp; rfl)) ?_
       intro b11 w12 hu lb hb11
       simp only [Act.put, nm1, nm2, nm3, i64_w]
       have lbb11 := Aside0.mk lb
       have ltb11 := Aside0.mk hb11.lt
       clear lb
       have hu13 := Aside0.mk hu
       clear hu
       refine wpList_plain rfl (fun Ko hKo => ?_)
       go_simp
       refine hKo _ _ ?_
       clear hKo Ko
       try simp only [Act.put, nm1, nm2, nm3, i64_w]
       refine wpList_nil ?_
       (try simp only [Exit.then, Exit.inBlock, ↓reduceIte, Nat.reduceEqDiff])
       refine hK1 _ _ ?_
       refine wp_seq_k (fun K14 hK14 => ?_)
       refine' wp_region_up 15 [Slot.det _, Slot.det _, Slot.det (.agg #[.int .i64 t15, .int .i64 t16]), Slot.det _, Slot.det (.agg #[.int .i64 t18, .int .i64 t19]), Slot.det _, Slot.det (.agg #[.int .i64 t21, .int .i64 t22]), Slot.det _, Slot.det (.agg #[.int .i64 t24, .int .i64 t25]), Slot.any (RowTo eI 2 w12.heap.size t27 (fun v => .tuple #[v, .int .i64 t30])) false, Slot.any (RowTo eI 2 w12.heap.size t27 (fun v => .tuple #[v, .int .i64 t30])) false, Slot.any (RowTo eI 2 w12.heap.size t27 (fun v => v)) false, Slot.det (.int .i64 t30), Slot.any (RowTo eI 2 w12.heap.size t27 (fun v => v)) false, Slot.det _] (by kernel_rfl) (by kernel_rfl) ?main
       case main =>
        simp only [List.take_succ_cons, List.take_zero]
        refine wpK_ops rfl (fun w1 hu => ?_) ?_
        · clear hu
          go_simp
          first | done | rfl
        simp only [Act.put, nm1, nm2, nm3, i64_w]
        refine wpK_ops rfl (fun w1 hu => ?_) ?_
        · have cl0 := ((hb2.up ((hu7.out.trans hu10.out).trans hu13.out)).up ((Up.refl _).drew.trans hu)).cell (o := 0) rfl
          have cl1 := ((hb2.up ((hu7.out.trans hu10.out).trans hu13.out)).up ((Up.refl _).drew.trans hu)).cell (o := 1) rfl
          go_simp
          first | done | rfl
        simp only [Act.put, nm1, nm2, nm3, i64_w]
        refine wpK_ops rfl (fun w1 hu => ?_) ?_
        · have hcl := (laws_toPoint.calls K a1_0 a1_1 t15 t16 w1  A17.out)
          clear hu
          replace hcl := Aside0.mk hcl
          go_simp
          exact hcl.out
        simp only [Act.put, nm1, nm2, nm3, i64_w]
        refine wpK_ops rfl (fun w1 hu => ?_) ?_
        · have cl0 := ((hb5.up (hu10.out.trans hu13.out)).up ((Up.refl _).drew.trans hu)).cell (o := 0) rfl
          have cl1 := ((hb5.up (hu10.out.trans hu13.out)).up ((Up.refl _).drew.trans hu)).cell (o := 1) rfl
          go_simp
          first | done | rfl
        simp only [Act.put, nm1, nm2, nm3, i64_w]
        refine wpK_ops rfl (fun w1 hu => ?_) ?_
        · have hcl := (laws_toPoint.calls K a2_0 a2_1 t18 t19 w1  A20.out)
          clear hu
          replace hcl := Aside0.mk hcl
          go_simp
          exact hcl.out
        simp only [Act.put, nm1, nm2, nm3, i64_w]
        refine wpK_ops rfl (fun w1 hu => ?_) ?_
        · have cl0 := ((hb8.up hu13.out).up ((Up.refl _).drew.trans hu)).cell (o := 0) rfl
          have cl1 := ((hb8.up hu13.out).up ((Up.refl _).drew.trans hu)).cell (o := 1) rfl
          go_simp
          first | done | rfl
        simp only [Act.put, nm1, nm2, nm3, i64_w]
        refine wpK_ops rfl (fun w1 hu => ?_) ?_
        · have hcl := (laws_toPoint.calls K a3_0 a3_1 t21 t22 w1  A23.out)
          clear hu
          replace hcl := Aside0.mk hcl
          go_simp
          exact hcl.out
        simp only [Act.put, nm1, nm2, nm3, i64_w]
        refine wpK_ops rfl (fun w1 hu => ?_) ?_
        · have cl0 := (hb11.up ((Up.refl _).drew.trans hu)).cell (o := 0) rfl
          have cl1 := (hb11.up ((Up.refl _).drew.trans hu)).cell (o := 1) rfl
          go_simp
          first | done | rfl
        simp only [Act.put, nm1, nm2, nm3, i64_w]
        refine wpK_ops rfl (fun w1 hu => ?_) ?_
        · have hcl := (laws_toPoint.calls K a4_0 a4_1 t24 t25 w1  A26.out)
          clear hu
          replace hcl := Aside0.mk hcl
          go_simp
          exact hcl.out
        simp only [Act.put, nm1, nm2, nm3, i64_w]
        refine wpK_any rfl (stab_row _ _ _ _ _) (fun w1 hu hl => ?_) (fun v32 => ?_)
        · have hcl := spec_WeightsOf.calls K a0 t15 t16 t18 t19 t21 t22 t24 t25 t27 t30 w1  A31.out
          have hz := ((Up.refl _).drew.trans hu).size
          clear hu
          replace hcl := Aside0.mk hcl
          exact fresh_row (by first | (go_simp; done) | (go_simp; rfl)) hcl.out hz
        simp only [Act.put, nm1, nm2, nm3, i64_w]
        refine wpK_any rfl (stab_row _ _ _ _ _) (fun w1 hu hl => ?_) (fun v33 => ?_)
        · exact any_of_run (by first | (go_simp; done) | (go_simp; rfl)) (hl.1 (by kernel_rfl))
        simp only [Act.put, nm1, nm2, nm3, i64_w]
        refine wpK_any rfl (stab_row _ _ _ _ _) (fun w1 hu hl => ?_) (fun v34 => ?_)
        · obtain ⟨A0_, c0_, e0_, hO0_⟩ := hl.1 (by kernel_rfl)
          clear hl hu
          dsimp only at e0_
          subst e0_
          exact any_of_run (u := .slice A0_ t27.length c0_) (by first | (go_simp; done) | (go_simp; rfl)) ⟨A0_, c0_, rfl, hO0_⟩
        simp only [Act.put, nm1, nm2, nm3, i64_w]
        refine wpK_det rfl (fun w1 hu hl => ?_) ?_
        · obtain ⟨A0_, c0_, e0_, hO0_⟩ := hl.2.1 (by kernel_rfl)
          clear hl hu
          dsimp only at e0_
          subst e0_
          clear hO0_
          go_simp
          first | done | rfl
        simp only [Act.put, nm1, nm2, nm3, i64_w]
        refine wpK_any rfl (stab_row _ _ _ _ _) (fun w1 hu hl => ?_) (fun v35 => ?_)
        · exact any_of_run (by first | (go_simp; done) | (go_simp; rfl)) (hl.1 (by kernel_rfl))
        simp only [Act.put, nm1, nm2, nm3, i64_w]
        refine wpK_ops rfl (fun w1 hu => ?_) ?_
        · clear hu
          go_simp
          first | done | rfl
        simp only [Act.put, nm1, nm2, nm3, i64_w]
        refine wpK_nil ?_
        intro w36 hu hap
        simp only [List.drop_succ_cons, List.drop_zero]
        replace hu := (Up.refl _).drew.trans hu
        obtain ⟨-, -, ⟨P28, q29, e0, ht27⟩, -, -, -, -, -, -, -, -, -, -⟩ := hap
        dsimp only at e0
        subst e0
        have hu37 := Aside0.mk hu
        clear hu
        refine wpList_nil ?_
        (try simp only [Exit.then, Exit.inBlock, ↓reduceIte, Nat.reduceEqDiff])
        refine hK14 _ _ ?_
        refine wp_seq_k (fun K38 hK38 => ?_)
        refine' wp_region_up 15 [Slot.det _, Slot.det _, Slot.det (.agg #[.int .i64 t39, .int .i64 t40]), Slot.det _, Slot.det (.agg #[.int .i64 t42, .int .i64 t43]), Slot.det _, Slot.det (.agg #[.int .i64 t45, .int .i64 t46]), Slot.det _, Slot.det (.agg #[.int .i64 t48, .int .i64 t49]), Slot.any (RowTo eI 2 w36.heap.size t51 (fun v => .tuple #[v, .int .i64 t54])) false, Slot.any (RowTo eI 2 w36.heap.size t51 (fun v => .tuple #[v, .int .i64 t54])) false, Slot.any (RowTo eI 2 w36.heap.size t51 (fun v => v)) false, Slot.det (.int .i64 t54), Slot.any (RowTo eI 2 w36.heap.size t51 (fun v => v)) false, Slot.det _] (by kernel_rfl) (by kernel_rfl) ?main
        case main =>
         simp only [List.take_succ_cons, List.take_zero]
         refine wpK_ops rfl (fun w1 hu => ?_) ?_
         · clear hu
           go_simp
           first | done | rfl
         simp only [Act.put, nm1, nm2, nm3, i64_w]
         refine wpK_ops rfl (fun w1 hu => ?_) ?_
         · have cl0 := ((hb2.up (((hu7.out.trans hu10.out).trans hu13.out).trans hu37.out)).up ((Up.refl _).drew.trans hu)).cell (o := 0) rfl
           have cl1 := ((hb2.up (((hu7.out.trans hu10.out).trans hu13.out).trans hu37.out)).up ((Up.refl _).drew.trans hu)).cell (o := 1) rfl
           go_simp
           first | done | rfl
         simp only [Act.put, nm1, nm2, nm3, i64_w]
         refine wpK_ops rfl (fun w1 hu => ?_) ?_
         · have hcl := (laws_toPoint.calls K a1_0 a1_1 t39 t40 w1  A41.out)
           clear hu
           replace hcl := Aside0.mk hcl
           go_simp
           exact hcl.out
         simp only [Act.put, nm1, nm2, nm3, i64_w]
         refine wpK_ops rfl (fun w1 hu => ?_) ?_
         · have cl0 := ((hb5.up ((hu10.out.trans hu13.out).trans hu37.out)).up ((Up.refl _).drew.trans hu)).cell (o := 0) rfl
           have cl1 := ((hb5.up ((hu10.out.trans hu13.out).trans hu37.out)).up ((Up.refl _).drew.trans hu)).cell (o := 1) rfl
           go_simp
           first | done | rfl
         simp only [Act.put, nm1, nm2, nm3, i64_w]
         refine wpK_ops rfl (fun w1 hu => ?_) ?_
         · have hcl := (laws_toPoint.calls K a2_0 a2_1 t42 t43 w1  A44.out)
           clear hu
           replace hcl := Aside0.mk hcl
           go_simp
           exact hcl.out
         simp only [Act.put, nm1, nm2, nm3, i64_w]
         refine wpK_ops rfl (fun w1 hu => ?_) ?_
         · have cl0 := ((hb8.up (hu13.out.trans hu37.out)).up ((Up.refl _).drew.trans hu)).cell (o := 0) rfl
           have cl1 := ((hb8.up (hu13.out.trans hu37.out)).up ((Up.refl _).drew.trans hu)).cell (o := 1) rfl
           go_simp
           first | done | rfl
         simp only [Act.put, nm1, nm2, nm3, i64_w]
         refine wpK_ops rfl (fun w1 hu => ?_) ?_
         · have hcl := (laws_toPoint.calls K a3_0 a3_1 t45 t46 w1  A47.out)
           clear hu
           replace hcl := Aside0.mk hcl
           go_simp
           exact hcl.out
         simp only [Act.put, nm1, nm2, nm3, i64_w]
         refine wpK_ops rfl (fun w1 hu => ?_) ?_
         · have cl0 := ((hb11.up hu37.out).up ((Up.refl _).drew.trans hu)).cell (o := 0) rfl
           have cl1 := ((hb11.up hu37.out).up ((Up.refl _).drew.trans hu)).cell (o := 1) rfl
           go_simp
           first | done | rfl
         simp only [Act.put, nm1, nm2, nm3, i64_w]
         refine wpK_ops rfl (fun w1 hu => ?_) ?_
         · have hcl := (laws_toPoint.calls K a4_0 a4_1 t48 t49 w1  A50.out)
           clear hu
           replace hcl := Aside0.mk hcl
           go_simp
           exact hcl.out
         simp only [Act.put, nm1, nm2, nm3, i64_w]
         refine wpK_any rfl (stab_row _ _ _ _ _) (fun w1 hu hl => ?_) (fun v56 => ?_)
         · have hcl := impl_WeightsOf.calls K a0 t39 t40 t42 t43 t45 t46 t48 t49 t51 t54 w1  A55.out
           have hz := ((Up.refl _).drew.trans hu).size
           clear hu
           replace hcl := Aside0.mk hcl
           exact fresh_row (by first | (go_simp; done) | (go_simp; rfl)) hcl.out hz
         simp only [Act.put, nm1, nm2, nm3, i64_w]
         refine wpK_any rfl (stab_row _ _ _ _ _) (fun w1 hu hl => ?_) (fun v57 => ?_)
         · exact any_of_run (by first | (go_simp; done) | (go_simp; rfl)) (hl.1 (by kernel_rfl))
         simp only [Act.put, nm1, nm2, nm3, i64_w]
         refine wpK_any rfl (stab_row _ _ _ _ _) (fun w1 hu hl => ?_) (fun v58 => ?_)
         · obtain ⟨A0_, c0_, e0_, hO0_⟩ := hl.1 (by kernel_rfl)
           clear hl hu
           dsimp only at e0_
           subst e0_
           exact any_of_run (u := .slice A0_ t51.length c0_) (by first | (go_simp; done) | (go_simp; rfl)) ⟨A0_, c0_, rfl, hO0_⟩
         simp only [Act.put, nm1, nm2, nm3, i64_w]
         refine wpK_det rfl (fun w1 hu hl => ?_) ?_
         · obtain ⟨A0_, c0_, e0_, hO0_⟩ := hl.2.1 (by kernel_rfl)
           clear hl hu
           dsimp only at e0_
           subst e0_
           clear hO0_
           go_simp
           first | done | rfl
         simp only [Act.put, nm1, nm2, nm3, i64_w]
         refine wpK_any rfl (stab_row _ _ _ _ _) (fun w1 hu hl => ?_) (fun v59 => ?_)
         · exact any_of_run (by first | (go_simp; done) | (go_simp; rfl)) (hl.1 (by kernel_rfl))
         simp only [Act.put, nm1, nm2, nm3, i64_w]
         refine wpK_ops rfl (fun w1 hu => ?_) ?_
         · clear hu
           go_simp
           first | done | rfl
         simp only [Act.put, nm1, nm2, nm3, i64_w]
         refine wpK_nil ?_
         intro w60 hu hap
         simp only [List.drop_succ_cons, List.drop_zero]
         replace hu := (Up.refl _).drew.trans hu
         obtain ⟨-, -, ⟨P52, q53, e0, ht51⟩, -, -, -, -, -, -, -, -, -, -⟩ := hap
         dsimp only at e0
         subst e0
         have hu61 := Aside0.mk hu
         clear hu
         refine wpList_nil ?_
         (try simp only [Exit.then, Exit.inBlock, ↓reduceIte, Nat.reduceEqDiff])
         refine hK38 _ _ ?_
         refine wp_seq_k (fun K62 hK62 => ?_)
         refine wp_seq_k (fun K63 hK63 => ?_)
         refine wp_region_lit ?_
         refine wpList_plain rfl (fun Ko hKo => ?_)
         go_simp
         refine hKo _ _ ?_
         clear hKo Ko
         try simp only [Act.put, nm1, nm2, nm3, i64_w]
         refine wpList_plain rfl (fun Ko hKo => ?_)
         go_simp
         refine hKo _ _ ?_
         clear hKo Ko
         try simp only [Act.put, nm1, nm2, nm3, i64_w]
         refine step_call (wanted_none rfl) (by first | (go_simp; done) | (go_simp; rfl)) (laws_eqInt64S.calls K P52 q53 t51 P28 q29 t27 true w60 ht51.rd ((ht27.up hu61.out).rd) A65.out) ?_
         rintro e w66 ⟨rfl, hu⟩
         have hu67 := Aside0.mk hu
         clear hu
         refine ⟨_, rfl, ?_⟩
         simp only [Act.put, nm1, nm2, nm3, i64_w]
         refine wpList_plain rfl (fun Ko hKo => ?_)
         go_simp
         refine hKo _ _ ?_
         clear hKo Ko
         try simp only [Act.put, nm1, nm2, nm3, i64_w]
         refine wpList_plain rfl (fun Ko hKo => ?_)
         go_simp
         refine hKo _ _ ?_
         clear hKo Ko
         try simp only [Act.put, nm1, nm2, nm3, i64_w]
         refine wpList_step (fun Ko hKo => ?_)
         go_simp
         refine hKo _ _ ?_
         clear hKo Ko
         try simp only [Act.put, nm1, nm2, nm3, i64_w]
         refine wpList_step (fun Ko hKo => ?_)
         go_simp
         refine hKo _ _ ?_
         clear hKo Ko
         try simp only [Act.put, nm1, nm2, nm3, i64_w]
         refine wpList_step (fun Ko hKo => ?_)
         go_simp
         refine hKo _ _ ?_
         clear hKo Ko
         try simp only [Act.put, nm1, nm2, nm3, i64_w]
         refine wpList_plain rfl (fun Ko hKo => ?_)
         go_simp
         refine hKo _ _ ?_
         clear hKo Ko
         try simp only [Act.put, nm1, nm2, nm3, i64_w]
         refine wpList_nil ?_
         (try simp only [Exit.then, Exit.inBlock, ↓reduceIte, Nat.reduceEqDiff])
         refine hK63 _ _ ?_
         refine wp_cond_false rfl ?_
         refine wp_skip ?_
         (try simp only [Exit.then, Exit.inBlock, ↓reduceIte, Nat.reduceEqDiff])
         refine hK62 _ _ ?_
         refine wp_seq_k (fun K70 hK70 => ?_)
         refine wp_region_lit ?_
         refine wpList_plain rfl (fun Ko hKo => ?_)
         go_simp
         refine hKo _ _ ?_
         clear hKo Ko
         try simp only [Act.put, nm1, nm2, nm3, i64_w]
         refine wpList_nil ?_
         (try simp only [Exit.then, Exit.inBlock, ↓reduceIte, Nat.reduceEqDiff])
         refine hK70 _ _ ?_
         refine wp_seq_k (fun K71 hK71 => ?_)
         refine wp_region_lit ?_
         refine wpList_plain rfl (fun Ko hKo => ?_)
         go_simp
         refine hKo _ _ ?_
         clear hKo Ko
         try simp only [Act.put, nm1, nm2, nm3, i64_w]
         refine wpList_plain rfl (fun Ko hKo => ?_)
         go_simp
         refine hKo _ _ ?_
         clear hKo Ko
         try simp only [Act.put, nm1, nm2, nm3, i64_w]
         refine step_call (wanted_none rfl) (by first | (go_simp; done) | (go_simp; rfl)) (laws_markInt64S.calls K P52 q53 w36.heap.size t51 1 t72 t73 w66 (ht51.up hu67.out) A74.out) ?_
         have lb76 := Aside0.mk (ht51.up hu67.out).lt
         rintro e w75 ⟨rfl, h77, hl, hg⟩
         have hg79 := Aside0.mk hg
         have hl78 := hl
         clear hg hl
         have hl80 : Aside0 (t51.length = t73.length) := Aside0.mk hl78.out
         refine ⟨_, rfl, ?_⟩
         simp only [Act.put, nm1, nm2, nm3, i64_w]
         refine wpList_plain rfl (fun Ko hKo => ?_)
         go_simp
         refine hKo _ _ ?_
         clear hKo Ko
         try simp only [Act.put, nm1, nm2, nm3, i64_w]
         refine wpList_nil ?_
         (try simp only [Exit.then, Exit.inBlock, ↓reduceIte, Nat.reduceEqDiff])
         refine hK71 _ _ ?_
         refine wp_seq_k (fun K81 hK81 => ?_)
         refine wp_region_lit ?_
         refine wpList_plain rfl (fun Ko hKo => ?_)
         go_simp
         refine hKo _ _ ?_
         clear hKo Ko
         try simp only [Act.put, nm1, nm2, nm3, i64_w]
         refine wpList_nil ?_
         (try simp only [Exit.then, Exit.inBlock, ↓reduceIte, Nat.reduceEqDiff])
         refine hK81 _ _ ?_
         refine wp_seq_k (fun K82 hK82 => ?_)
         refine wp_region_lit ?_
         refine wpList_plain rfl (fun Ko hKo => ?_)
         go_simp
         refine hKo _ _ ?_
         clear hKo Ko
         try simp only [Act.put, nm1, nm2, nm3, i64_w]
         refine wpList_plain rfl (fun Ko hKo => ?_)
         go_simp
         refine hKo _ _ ?_
         clear hKo Ko
         try simp only [Act.put, nm1, nm2, nm3, i64_w]
         refine step_call (wanted_none rfl) (by first | (go_simp; done) | (go_simp; rfl)) (Eq.mp (congrArg (fun n_ => Calls Try.prog 23 #[.slice P52 n_ q53, .int .i64 1] w75 _) (Eq.symm hl80.out)) (laws_heldInt64S.calls K P52 q53 t73 1 t83 w75 h77.rd A84.out)) ?_
         rintro e w85 ⟨rfl, hu⟩
         have hu86 := Aside0.mk hu
         clear hu
         refine ⟨_, rfl, ?_⟩
         simp only [Act.put, nm1, nm2, nm3, i64_w]
         refine wpList_plain rfl (fun Ko hKo => ?_)
         go_simp
         refine hKo _ _ ?_
         clear hKo Ko
         try simp only [Act.put, nm1, nm2, nm3, i64_w]
         refine wpList_nil ?_
         (try simp only [Exit.then, Exit.inBlock, ↓reduceIte, Nat.reduceEqDiff])
         refine hK82 _ _ ?_
         refine wp_seq_k (fun K87 hK87 => ?_)
         refine wp_seq_k (fun K88 hK88 => ?_)
         refine wp_region_lit ?_
         refine wpList_plain rfl (fun Ko hKo => ?_)
         go_simp
         refine hKo _ _ ?_
         clear hKo Ko
         try simp only [Act.put, nm1, nm2, nm3, i64_w]
         refine wpList_plain rfl (fun Ko hKo => ?_)
         go_simp
         refine hKo _ _ ?_
         clear hKo Ko
         try simp only [Act.put, nm1, nm2, nm3, i64_w]
         refine wpList_nil ?_
         (try simp only [Exit.then, Exit.inBlock, ↓reduceIte, Nat.reduceEqDiff])
         refine hK88 _ _ ?_
         refine wp_cond_false rfl ?_
         refine wp_skip ?_
         (try simp only [Exit.then, Exit.inBlock, ↓reduceIte, Nat.reduceEqDiff])
         refine hK87 _ _ ?_
         refine wp_seq_k (fun K91 hK91 => ?_)
         refine wp_seq_k (fun K92 hK92 => ?_)
         refine wp_region_lit ?_
         refine wpList_plain rfl (fun Ko hKo => ?_)
         go_simp
         refine hKo _ _ ?_
         clear hKo Ko
         try simp only [Act.put, nm1, nm2, nm3, i64_w]
         refine wpList_plain rfl (fun Ko hKo => ?_)
         go_simp
         refine hKo _ _ ?_
         clear hKo Ko
         try simp only [Act.put, nm1, nm2, nm3, i64_w]
         refine wpList_plain rfl (fun Ko hKo => ?_)
         go_simp
         refine hKo _ _ ?_
         clear hKo Ko
         try simp only [Act.put, nm1, nm2, nm3, i64_w]
         refine wpList_nil ?_
         (try simp only [Exit.then, Exit.inBlock, ↓reduceIte, Nat.reduceEqDiff])
         refine hK92 _ _ ?_
         refine wp_cond_false rfl ?_
         refine wp_skip ?_
         (try simp only [Exit.then, Exit.inBlock, ↓reduceIte, Nat.reduceEqDiff])
         refine hK91 _ _ ?_
         refine wp_seq_k (fun K94 hK94 => ?_)
         refine' wp_region_up 15 [Slot.det _, Slot.det _, Slot.det (.agg #[.int .i64 t95, .int .i64 t96]), Slot.det _, Slot.det (.agg #[.int .i64 t98, .int .i64 t99]), Slot.det _, Slot.det (.agg #[.int .i64 t101, .int .i64 t102]), Slot.det _, Slot.det (.agg #[.int .i64 t104, .int .i64 t105]), Slot.any (RowTo eI 2 w85.heap.size t107 (fun v => .tuple #[v, .int .i64 t110])) false, Slot.any (RowTo eI 2 w85.heap.size t107 (fun v => .tuple #[v, .int .i64 t110])) false, Slot.any (RowTo eI 2 w85.heap.size t107 (fun v => v)) false, Slot.det (.int .i64 t110), Slot.any (RowTo eI 2 w85.heap.size t107 (fun v => v)) false, Slot.det _] (by kernel_rfl) (by kernel_rfl) ?main
         case main =>
          simp only [List.take_succ_cons, List.take_zero]
          refine wpK_ops rfl (fun w1 hu => ?_) ?_
          · clear hu
            go_simp
            first | done | rfl
          simp only [Act.put, nm1, nm2, nm3, i64_w]
          refine wpK_ops rfl (fun w1 hu => ?_) ?_
          · have cl0 := ((hb2.up (((((((hu7.out.trans hu10.out).trans hu13.out).trans hu37.out).trans hu61.out).trans hu67.out).grow hg79.out (fun k hk => Nat.le_trans ((Nat.le_trans ((Nat.le_trans ((Nat.le_trans (hu7.out.size) hu10.out.size)) hu13.out.size)) hu37.out.size)) ((fun k hk => (lb76.out k hk).1) k hk))).trans hu86.out)).up ((Up.refl _).drew.trans hu)).cell (o := 0) rfl
            have cl1 := ((hb2.up (((((((hu7.out.trans hu10.out).trans hu13.out).trans hu37.out).trans hu61.out).trans hu67.out).grow hg79.out (fun k hk => Nat.le_trans ((Nat.le_trans ((Nat.le_trans ((Nat.le_trans (hu7.out.size) hu10.out.size)) hu13.out.size)) hu37.out.size)) ((fun k hk => (lb76.out k hk).1) k hk))).trans hu86.out)).up ((Up.refl _).drew.trans hu)).cell (o := 1) rfl
            go_simp
            first | done | rfl
          simp only [Act.put, nm1, nm2, nm3, i64_w]
          refine wpK_ops rfl (fun w1 hu => ?_) ?_
          · have hcl := (laws_toPoint.calls K a1_0 a1_1 t95 t96 w1  A97.out)
            clear hu
            replace hcl := Aside0.mk hcl
            go_simp
            exact hcl.out
          simp only [Act.put, nm1, nm2, nm3, i64_w]
          refine wpK_ops rfl (fun w1 hu => ?_) ?_
          · have cl0 := ((hb5.up ((((((hu10.out.trans hu13.out).trans hu37.out).trans hu61.out).trans hu67.out).grow hg79.out (fun k hk => Nat.le_trans ((Nat.le_trans ((Nat.le_trans (hu10.out.size) hu13.out.size)) hu37.out.size)) ((fun k hk => (lb76.out k hk).1) k hk))).trans hu86.out)).up ((Up.refl _).drew.trans hu)).cell (o := 0) rfl
            have cl1 := ((hb5.up ((((((hu10.out.trans hu13.out).trans hu37.out).trans hu61.out).trans hu67.out).grow hg79.out (fun k hk => Nat.le_trans ((Nat.le_trans ((Nat.le_trans (hu10.out.size) hu13.out.size)) hu37.out.size)) ((fun k hk => (lb76.out k hk).1) k hk))).trans hu86.out)).up ((Up.refl _).drew.trans hu)).cell (o := 1) rfl
            go_simp
            first | done | rfl
          simp only [Act.put, nm1, nm2, nm3, i64_w]
          refine wpK_ops rfl (fun w1 hu => ?_) ?_
          · have hcl := (laws_toPoint.calls K a2_0 a2_1 t98 t99 w1  A100.out)
            clear hu
            replace hcl := Aside0.mk hcl
            go_simp
            exact hcl.out
          simp only [Act.put, nm1, nm2, nm3, i64_w]
          refine wpK_ops rfl (fun w1 hu => ?_) ?_
          · have cl0 := ((hb8.up (((((hu13.out.trans hu37.out).trans hu61.out).trans hu67.out).grow hg79.out (fun k hk => Nat.le_trans ((Nat.le_trans (hu13.out.size) hu37.out.size)) ((fun k hk => (lb76.out k hk).1) k hk))).trans hu86.out)).up ((Up.refl _).drew.trans hu)).cell (o := 0) rfl
            have cl1 := ((hb8.up (((((hu13.out.trans hu37.out).trans hu61.out).trans hu67.out).grow hg79.out (fun k hk => Nat.le_trans ((Nat.le_trans (hu13.out.size) hu37.out.size)) ((fun k hk => (lb76.out k hk).1) k hk))).trans hu86.out)).up ((Up.refl _).drew.trans hu)).cell (o := 1) rfl
            go_simp
            first | done | rfl
          simp only [Act.put, nm1, nm2, nm3, i64_w]
          refine wpK_ops rfl (fun w1 hu => ?_) ?_
          · have hcl := (laws_toPoint.calls K a3_0 a3_1 t101 t102 w1  A103.out)
            clear hu
            replace hcl := Aside0.mk hcl
            go_simp
            exact hcl.out
          simp only [Act.put, nm1, nm2, nm3, i64_w]
          refine wpK_ops rfl (fun w1 hu => ?_) ?_
          · have cl0 := ((hb11.up ((((hu37.out.trans hu61.out).trans hu67.out).grow hg79.out (fun k hk => Nat.le_trans (hu37.out.size) ((fun k hk => (lb76.out k hk).1) k hk))).trans hu86.out)).up ((Up.refl _).drew.trans hu)).cell (o := 0) rfl
            have cl1 := ((hb11.up ((((hu37.out.trans hu61.out).trans hu67.out).grow hg79.out (fun k hk => Nat.le_trans (hu37.out.size) ((fun k hk => (lb76.out k hk).1) k hk))).trans hu86.out)).up ((Up.refl _).drew.trans hu)).cell (o := 1) rfl
            go_simp
            first | done | rfl
          simp only [Act.put, nm1, nm2, nm3, i64_w]
          refine wpK_ops rfl (fun w1 hu => ?_) ?_
          · have hcl := (laws_toPoint.calls K a4_0 a4_1 t104 t105 w1  A106.out)
            clear hu
            replace hcl := Aside0.mk hcl
            go_simp
            exact hcl.out
          simp only [Act.put, nm1, nm2, nm3, i64_w]
          refine wpK_any rfl (stab_row _ _ _ _ _) (fun w1 hu hl => ?_) (fun v112 => ?_)
          · have hcl := impl_WeightsOf.calls K a0 t95 t96 t98 t99 t101 t102 t104 t105 t107 t110 w1  A111.out
            have hz := ((Up.refl _).drew.trans hu).size
            clear hu
            replace hcl := Aside0.mk hcl
            exact fresh_row (by first | (go_simp; done) | (go_simp; rfl)) hcl.out hz
          simp only [Act.put, nm1, nm2, nm3, i64_w]
          refine wpK_any rfl (stab_row _ _ _ _ _) (fun w1 hu hl => ?_) (fun v113 => ?_)
          · exact any_of_run (by first | (go_simp; done) | (go_simp; rfl)) (hl.1 (by kernel_rfl))
          simp only [Act.put, nm1, nm2, nm3, i64_w]
          refine wpK_any rfl (stab_row _ _ _ _ _) (fun w1 hu hl => ?_) (fun v114 => ?_)
          · obtain ⟨A0_, c0_, e0_, hO0_⟩ := hl.1 (by kernel_rfl)
            clear hl hu
            dsimp only at e0_
            subst e0_
            exact any_of_run (u := .slice A0_ t107.length c0_) (by first | (go_simp; done) | (go_simp; rfl)) ⟨A0_, c0_, rfl, hO0_⟩
          simp only [Act.put, nm1, nm2, nm3, i64_w]
          refine wpK_det rfl (fun w1 hu hl => ?_) ?_
          · obtain ⟨A0_, c0_, e0_, hO0_⟩ := hl.2.1 (by kernel_rfl)
            clear hl hu
            dsimp only at e0_
            subst e0_
            clear hO0_
            go_simp
            first | done | rfl
          simp only [Act.put, nm1, nm2, nm3, i64_w]
          refine wpK_any rfl (stab_row _ _ _ _ _) (fun w1 hu hl => ?_) (fun v115 => ?_)
          · exact any_of_run (by first | (go_simp; done) | (go_simp; rfl)) (hl.1 (by kernel_rfl))
          simp only [Act.put, nm1, nm2, nm3, i64_w]
          refine wpK_ops rfl (fun w1 hu => ?_) ?_
          · clear hu
            go_simp
            first | done | rfl
          simp only [Act.put, nm1, nm2, nm3, i64_w]
          refine wpK_nil ?_
          intro w116 hu hap
          simp only [List.drop_succ_cons, List.drop_zero]
          replace hu := (Up.refl _).drew.trans hu
          obtain ⟨-, -, ⟨P108, q109, e0, ht107⟩, -, -, -, -, -, -, -, -, -, -⟩ := hap
          dsimp only at e0
          subst e0
          have hu117 := Aside0.mk hu
          clear hu
          refine wpList_nil ?_
          (try simp only [Exit.then, Exit.inBlock, ↓reduceIte, Nat.reduceEqDiff])
          refine hK94 _ _ ?_
          refine wp_seq_k (fun K118 hK118 => ?_)
          refine wp_seq_k (fun K119 hK119 => ?_)
          refine wp_region_lit ?_
          refine wpList_plain rfl (fun Ko hKo => ?_)
          go_simp
          refine hKo _ _ ?_
          clear hKo Ko
          try simp only [Act.put, nm1, nm2, nm3, i64_w]
          refine wpList_plain rfl (fun Ko hKo => ?_)
          go_simp
          refine hKo _ _ ?_
          clear hKo Ko
          try simp only [Act.put, nm1, nm2, nm3, i64_w]
          refine step_call (wanted_none rfl) (by first | (go_simp; done) | (go_simp; rfl)) (laws_eqInt64S.calls K P108 q109 t107 P28 q29 t27 true w116 ht107.rd ((ht27.up ((((hu61.out.trans hu67.out).grow hg79.out (fun k hk => Nat.le_trans (Nat.le_refl _) ((fun k hk => (lb76.out k hk).1) k hk))).trans hu86.out).trans hu117.out)).rd) A121.out) ?_
          rintro e w122 ⟨rfl, hu⟩
          have hu123 := Aside0.mk hu
          clear hu
          refine ⟨_, rfl, ?_⟩
          simp only [Act.put, nm1, nm2, nm3, i64_w]
          refine wpList_plain rfl (fun Ko hKo => ?_)
          go_simp
          refine hKo _ _ ?_
          clear hKo Ko
          try simp only [Act.put, nm1, nm2, nm3, i64_w]
          refine wpList_plain rfl (fun Ko hKo => ?_)
          go_simp
          refine hKo _ _ ?_
          clear hKo Ko
          try simp only [Act.put, nm1, nm2, nm3, i64_w]
          refine wpList_step (fun Ko hKo => ?_)
          go_simp
          refine hKo _ _ ?_
          clear hKo Ko
          try simp only [Act.put, nm1, nm2, nm3, i64_w]
          refine wpList_step (fun Ko hKo => ?_)
          go_simp
          refine hKo _ _ ?_
          clear hKo Ko
          try simp only [Act.put, nm1, nm2, nm3, i64_w]
          refine wpList_step (fun Ko hKo => ?_)
          go_simp
          refine hKo _ _ ?_
          clear hKo Ko
          try simp only [Act.put, nm1, nm2, nm3, i64_w]
          refine wpList_plain rfl (fun Ko hKo => ?_)
          go_simp
          refine hKo _ _ ?_
          clear hKo Ko
          try simp only [Act.put, nm1, nm2, nm3, i64_w]
          refine wpList_nil ?_
          (try simp only [Exit.then, Exit.inBlock, ↓reduceIte, Nat.reduceEqDiff])
          refine hK119 _ _ ?_
          refine wp_cond_true rfl ?_
          refine wp_seq_k (fun K141 hK141 => ?_)
          refine wp_region_lit ?_
          refine wpList_plain rfl (fun Ko hKo => ?_)
          go_simp
          refine hKo _ _ ?_
          clear hKo Ko
          try simp only [Act.put, nm1, nm2, nm3, i64_w]
          refine wpList_nil ?_
          (try simp only [Exit.then, Exit.inBlock, ↓reduceIte, Nat.reduceEqDiff])
          refine hK141 _ _ ?_
          refine wp_ret ?_
          (try simp only [Exit.then, Exit.inBlock, ↓reduceIte, Nat.reduceEqDiff])
          refine hQf _ _ _ ?_
          exact bodyPost_ret (v := .bool false) (by first | rfl | (simp [results, Try.results5, go_sem]; done) | (simp [results, Try.results5, go_sem]; rfl)) rfl ⟨rfl, ((((((((((hu4.out.trans hu7.out).trans hu10.out).trans hu13.out).trans hu37.out).trans hu61.out).trans hu67.out).grow hg79.out (fun k hk => Nat.le_trans ((Nat.le_trans ((Nat.le_trans ((Nat.le_trans ((Nat.le_trans (hu4.out.size) hu7.out.size)) hu10.out.size)) hu13.out.size)) hu37.out.size)) ((fun k hk => (lb76.out k hk).1) k hk))).trans hu86.out).trans hu117.out).trans hu123.out)⟩
     ·
      rw [if_neg c124] at H
      replace c124 := Bool.eq_false_iff.mpr c124
      subst c124
      obtain rfl := Option.some.inj H
      go_enter Try.func5, Try.ntmps5
      refine wp_hide (fun Qf hQf => ?_)
      refine wp_seq_k (fun K1 hK1 => ?_)
      refine wp_region_lit ?_
      refine step_new (cs := [.int .i64 a1_0, .int .i64 a1_1]) (T := 22) (f := fun b => .pointer (some ⟨b, 0, none⟩)) rfl (by first | (go_simp; done) | (go_simp; rfl)) ?_
      intro b2 w3 hu lb hb2
      simp only [Act.put, nm1, nm2, nm3, i64_w]
      have lbb2 := Aside0.mk lb
      have ltb2 := Aside0.mk hb2.lt
      clear lb
      have hu4 := Aside0.mk hu
      clear hu
      refine step_new (cs := [.int .i64 a2_0, .int .i64 a2_1]) (T := 22) (f := fun b => .pointer (some ⟨b, 0, none⟩)) rfl (by first | (go_simp; done) | (go_simp; rfl)) ?_
      intro b5 w6 hu lb hb5
      simp only [Act.put, nm1, nm2, nm3, i64_w]
      have lbb5 := Aside0.mk lb
      have ltb5 := Aside0.mk hb5.lt
      clear lb
      have hu7 := Aside0.mk hu
      clear hu
      refine step_new (cs := [.int .i64 a3_0, .int .i64 a3_1]) (T := 22) (f := fun b => .pointer (some ⟨b, 0, none⟩)) rfl (by first | (go_simp; done) | (go_simp; rfl)) ?_
      intro b8 w9 hu lb hb8
      simp only [Act.put, nm1, nm2, nm3, i64_w]
      have lbb8 := Aside0.mk lb
      have ltb8 := Aside0.mk hb8.lt
      clear lb
      have hu10 := Aside0.mk hu
      clear hu
      refine step_new (cs := [.int .i64 a4_0, .int .i64 a4_1]) (T := 22) (f := fun b => .pointer (some ⟨b, 0, none⟩)) rfl (by first | (go_simp; done) | (go_simp; rfl)) ?_
      intro b11 w12 hu lb hb11
      simp only [Act.put, nm1, nm2, nm3, i64_w]
      have lbb11 := Aside0.mk lb
      have ltb11 := Aside0.mk hb11.lt
      clear lb
      have hu13 := Aside0.mk hu
      clear hu
      refine wpList_plain rfl (fun Ko hKo => ?_)
      go_simp
      refine hKo _ _ ?_
      clear hKo Ko
      try simp only [Act.put, nm1, nm2, nm3, i64_w]
      refine wpList_nil ?_
      (try simp only [Exit.then, Exit.inBlock, ↓reduceIte, Nat.reduceEqDiff])
      refine hK1 _ _ ?_
      refine wp_seq_k (fun K14 hK14 => ?_)
      refine' wp_region_up 15 [Slot.det _, Slot.det _, Slot.det (.agg #[.int .i64 t15, .int .i64 t16]), Slot.det _, Slot.det (.agg #[.int .i64 t18, .int .i64 t19]), Slot.det _, Slot.det (.agg #[.int .i64 t21, .int .i64 t22]), Slot.det _, Slot.det (.agg #[.int .i64 t24, .int .i64 t25]), Slot.any (RowTo eI 2 w12.heap.size t27 (fun v => .tuple #[v, .int .i64 t30])) false, Slot.any (RowTo eI 2 w12.heap.size t27 (fun v => .tuple #[v, .int .i64 t30])) false, Slot.any (RowTo eI 2 w12.heap.size t27 (fun v => v)) false, Slot.det (.int .i64 t30), Slot.any (RowTo eI 2 w12.heap.size t27 (fun v => v)) false, Slot.det _] (by kernel_rfl) (by kernel_rfl) ?main
      case main =>
       simp only [List.take_succ_cons, List.take_zero]
       refine wpK_ops rfl (fun w1 hu => ?_) ?_
       · clear hu
         go_simp
         first | done | rfl
       simp only [Act.put, nm1, nm2, nm3, i64_w]
       refine wpK_ops rfl (fun w1 hu => ?_) ?_
       · have cl0 := ((hb2.up ((hu7.out.trans hu10.out).trans hu13.out)).up ((Up.refl _).drew.trans hu)).cell (o := 0) rfl
         have cl1 := ((hb2.up ((hu7.out.trans hu10.out).trans hu13.out)).up ((Up.refl _).drew.trans hu)).cell (o := 1) rfl
         go_simp
         first | done | rfl
       simp only [Act.put, nm1, nm2, nm3, i64_w]
       refine wpK_ops rfl (fun w1 hu => ?_) ?_
       · have hcl := (laws_toPoint.calls K a1_0 a1_1 t15 t16 w1  A17.out)
         clear hu
         replace hcl := Aside0.mk hcl
         go_simp
         exact hcl.out
       simp only [Act.put, nm1, nm2, nm3, i64_w]
       refine wpK_ops rfl (fun w1 hu => ?_) ?_
       · have cl0 := ((hb5.up (hu10.out.trans hu13.out)).up ((Up.refl _).drew.trans hu)).cell (o := 0) rfl
         have cl1 := ((hb5.up (hu10.out.trans hu13.out)).up ((Up.refl _).drew.trans hu)).cell (o := 1) rfl
         go_simp
         first | done | rfl
       simp only [Act.put, nm1, nm2, nm3, i64_w]
       refine wpK_ops rfl (fun w1 hu => ?_) ?_
       · have hcl := (laws_toPoint.calls K a2_0 a2_1 t18 t19 w1  A20.out)
         clear hu
         replace hcl := Aside0.mk hcl
         go_simp
         exact hcl.out
       simp only [Act.put, nm1, nm2, nm3, i64_w]
       refine wpK_ops rfl (fun w1 hu => ?_) ?_
       · have cl0 := ((hb8.up hu13.out).up ((Up.refl _).drew.trans hu)).cell (o := 0) rfl
         have cl1 := ((hb8.up hu13.out).up ((Up.refl _).drew.trans hu)).cell (o := 1) rfl
         go_simp
         first | done | rfl
       simp only [Act.put, nm1, nm2, nm3, i64_w]
       refine wpK_ops rfl (fun w1 hu => ?_) ?_
       · have hcl := (laws_toPoint.calls K a3_0 a3_1 t21 t22 w1  A23.out)
         clear hu
         replace hcl := Aside0.mk hcl
         go_simp
         exact hcl.out
       simp only [Act.put, nm1, nm2, nm3, i64_w]
       refine wpK_ops rfl (fun w1 hu => ?_) ?_
       · have cl0 := (hb11.up ((Up.refl _).drew.trans hu)).cell (o := 0) rfl
         have cl1 := (hb11.up ((Up.refl _).drew.trans hu)).cell (o := 1) rfl
         go_simp
         first | done | rfl
       simp only [Act.put, nm1, nm2, nm3, i64_w]
       refine wpK_ops rfl (fun w1 hu => ?_) ?_
       · have hcl := (laws_toPoint.calls K a4_0 a4_1 t24 t25 w1  A26.out)
         clear hu
         replace hcl := Aside0.mk hcl
         go_simp
         exact hcl.out
       simp only [Act.put, nm1, nm2, nm3, i64_w]
       refine wpK_any rfl (stab_row _ _ _ _ _) (fun w1 hu hl => ?_) (fun v32 => ?_)
       · have hcl := spec_WeightsOf.calls K a0 t15 t16 t18 t19 t21 t22 t24 t25 t27 t30 w1  A31.out
         have hz := ((Up.refl _).drew.trans hu).size
         clear hu
         replace hcl := Aside0.mk hcl
         exact fresh_row (by first | (go_simp; done) | (go_simp; rfl)) hcl.out hz
       simp only [Act.put, nm1, nm2, nm3, i64_w]
       refine wpK_any rfl (stab_row _ _ _ _ _) (fun w1 hu hl => ?_) (fun v33 => ?_)
       · exact any_of_run (by first | (go_simp; done) | (go_simp; rfl)) (hl.1 (by kernel_rfl))
       simp only [Act.put, nm1, nm2, nm3, i64_w]
       refine wpK_any rfl (stab_row _ _ _ _ _) (fun w1 hu hl => ?_) (fun v34 => ?_)
       · obtain ⟨A0_, c0_, e0_, hO0_⟩ := hl.1 (by kernel_rfl)
         clear hl hu
         dsimp only at e0_
         subst e0_
         exact any_of_run (u := .slice A0_ t27.length c0_) (by first | (go_simp; done) | (go_simp; rfl)) ⟨A0_, c0_, rfl, hO0_⟩
       simp only [Act.put, nm1, nm2, nm3, i64_w]
       refine wpK_det rfl (fun w1 hu hl => ?_) ?_
       · obtain ⟨A0_, c0_, e0_, hO0_⟩ := hl.2.1 (by kernel_rfl)
         clear hl hu
         dsimp only at e0_
         subst e0_
         clear hO0_
         go_simp
         first | done | rfl
       simp only [Act.put, nm1, nm2, nm3, i64_w]
       refine wpK_any rfl (stab_row _ _ _ _ _) (fun w1 hu hl => ?_) (fun v35 => ?_)
       · exact any_of_run (by first | (go_simp; done) | (go_simp; rfl)) (hl.1 (by kernel_rfl))
       simp only [Act.put, nm1, nm2, nm3, i64_w]
       refine wpK_ops rfl (fun w1 hu => ?_) ?_
       · clear hu
         go_simp
         first | done | rfl
       simp only [Act.put, nm1, nm2, nm3, i64_w]
       refine wpK_nil ?_
       intro w36 hu hap
       simp only [List.drop_succ_cons, List.drop_zero]
       replace hu := (Up.refl _).drew.trans hu
       obtain ⟨-, -, ⟨P28, q29, e0, ht27⟩, -, -, -, -, -, -, -, -, -, -⟩ := hap
       dsimp only at e0
       subst e0
       have hu37 := Aside0.mk hu
       clear hu
       refine wpList_nil ?_
       (try simp only [Exit.then, Exit.inBlock, ↓reduceIte, Nat.reduceEqDiff])
       refine hK14 _ _ ?_
       refine wp_seq_k (fun K38 hK38 => ?_)
       refine' wp_region_up 15 [Slot.det _, Slot.det _, Slot.det (.agg #[.int .i64 t39, .int .i64 t40]), Slot.det _, Slot.det (.agg #[.int .i64 t42, .int .i64 t43]), Slot.det _, Slot.det (.agg #[.int .i64 t45, .int .i64 t46]), Slot.det _, Slot.det (.agg #[.int .i64 t48, .int .i64 t49]), Slot.any (RowTo eI 2 w36.heap.size t51 (fun v => .tuple #[v, .int .i64 t54])) false, Slot.any (RowTo eI 2 w36.heap.size t51 (fun v => .tuple #[v, .int .i64 t54])) false, Slot.any (RowTo eI 2 w36.heap.size t51 (fun v => v)) false, Slot.det (.int .i64 t54), Slot.any (RowTo eI 2 w36.heap.size t51 (fun v => v)) false, Slot.det _] (by kernel_rfl) (by kernel_rfl) ?main
       case main =>
        simp only [List.take_succ_cons, List.take_zero]
        refine wpK_ops rfl (fun w1 hu => ?_) ?_
        · clear hu
          go_simp
          first | done | rfl
        simp only [Act.put, nm1, nm2, nm3, i64_w]
        refine wpK_ops rfl (fun w1 hu => ?_) ?_
        · have cl0 := ((hb2.up (((hu7.out.trans hu10.out).trans hu13.out).trans hu37.out)).up ((Up.refl _).drew.trans hu)).cell (o := 0) rfl
          have cl1 := ((hb2.up (((hu7.out.trans hu10.out).trans hu13.out).trans hu37.out)).up ((Up.refl _).drew.trans hu)).cell (o := 1) rfl
          go_simp
          first | done | rfl
        simp only [Act.put, nm1, nm2, nm3, i64_w]
        refine wpK_ops rfl (fun w1 hu => ?_) ?_
        · have hcl := (laws_toPoint.calls K a1_0 a1_1 t39 t40 w1  A41.out)
          clear hu
          replace hcl := Aside0.mk hcl
          go_simp
          exact hcl.out
        simp only [Act.put, nm1, nm2, nm3, i64_w]
        refine wpK_ops rfl (fun w1 hu => ?_) ?_
        · have cl0 := ((hb5.up ((hu10.out.trans hu13.out).trans hu37.out)).up ((Up.refl _).drew.trans hu)).cell (o := 0) rfl
          have cl1 := ((hb5.up ((hu10.out.trans hu13.out).trans hu37.out)).up ((Up.refl _).drew.trans hu)).cell (o := 1) rfl
          go_simp
          first | done | rfl
        simp only [Act.put, nm1, nm2, nm3, i64_w]
        refine wpK_ops rfl (fun w1 hu => ?_) ?_
        · have hcl := (laws_toPoint.calls K a2_0 a2_1 t42 t43 w1  A44.out)
          clear hu
          replace hcl := Aside0.mk hcl
          go_simp
          exact hcl.out
        simp only [Act.put, nm1, nm2, nm3, i64_w]
        refine wpK_ops rfl (fun w1 hu => ?_) ?_
        · have cl0 := ((hb8.up (hu13.out.trans hu37.out)).up ((Up.refl _).drew.trans hu)).cell (o := 0) rfl
          have cl1 := ((hb8.up (hu13.out.trans hu37.out)).up ((Up.refl _).drew.trans hu)).cell (o := 1) rfl
          go_simp
          first | done | rfl
        simp only [Act.put, nm1, nm2, nm3, i64_w]
        refine wpK_ops rfl (fun w1 hu => ?_) ?_
        · have hcl := (laws_toPoint.calls K a3_0 a3_1 t45 t46 w1  A47.out)
          clear hu
          replace hcl := Aside0.mk hcl
          go_simp
          exact hcl.out
        simp only [Act.put, nm1, nm2, nm3, i64_w]
        refine wpK_ops rfl (fun w1 hu => ?_) ?_
        · have cl0 := ((hb11.up hu37.out).up ((Up.refl _).drew.trans hu)).cell (o := 0) rfl
          have cl1 := ((hb11.up hu37.out).up ((Up.refl _).drew.trans hu)).cell (o := 1) rfl
          go_simp
          first | done | rfl
        simp only [Act.put, nm1, nm2, nm3, i64_w]
        refine wpK_ops rfl (fun w1 hu => ?_) ?_
        · have hcl := (laws_toPoint.calls K a4_0 a4_1 t48 t49 w1  A50.out)
          clear hu
          replace hcl := Aside0.mk hcl
          go_simp
          exact hcl.out
        simp only [Act.put, nm1, nm2, nm3, i64_w]
        refine wpK_any rfl (stab_row _ _ _ _ _) (fun w1 hu hl => ?_) (fun v56 => ?_)
        · have hcl := impl_WeightsOf.calls K a0 t39 t40 t42 t43 t45 t46 t48 t49 t51 t54 w1  A55.out
          have hz := ((Up.refl _).drew.trans hu).size
          clear hu
          replace hcl := Aside0.mk hcl
          exact fresh_row (by first | (go_simp; done) | (go_simp; rfl)) hcl.out hz
        simp only [Act.put, nm1, nm2, nm3, i64_w]
        refine wpK_any rfl (stab_row _ _ _ _ _) (fun w1 hu hl => ?_) (fun v57 => ?_)
        · exact any_of_run (by first | (go_simp; done) | (go_simp; rfl)) (hl.1 (by kernel_rfl))
        simp only [Act.put, nm1, nm2, nm3, i64_w]
        refine wpK_any rfl (stab_row _ _ _ _ _) (fun w1 hu hl => ?_) (fun v58 => ?_)
        · obtain ⟨A0_, c0_, e0_, hO0_⟩ := hl.1 (by kernel_rfl)
          clear hl hu
          dsimp only at e0_
          subst e0_
          exact any_of_run (u := .slice A0_ t51.length c0_) (by first | (go_simp; done) | (go_simp; rfl)) ⟨A0_, c0_, rfl, hO0_⟩
        simp only [Act.put, nm1, nm2, nm3, i64_w]
        refine wpK_det rfl (fun w1 hu hl => ?_) ?_
        · obtain ⟨A0_, c0_, e0_, hO0_⟩ := hl.2.1 (by kernel_rfl)
          clear hl hu
          dsimp only at e0_
          subst e0_
          clear hO0_
          go_simp
          first | done | rfl
        simp only [Act.put, nm1, nm2, nm3, i64_w]
        refine wpK_any rfl (stab_row _ _ _ _ _) (fun w1 hu hl => ?_) (fun v59 => ?_)
        · exact any_of_run (by first | (go_simp; done) | (go_simp; rfl)) (hl.1 (by kernel_rfl))
        simp only [Act.put, nm1, nm2, nm3, i64_w]
        refine wpK_ops rfl (fun w1 hu => ?_) ?_
        · clear hu
          go_simp
          first | done | rfl
        simp only [Act.put, nm1, nm2, nm3, i64_w]
        refine wpK_nil ?_
        intro w60 hu hap
        simp only [List.drop_succ_cons, List.drop_zero]
        replace hu := (Up.refl _).drew.trans hu
        obtain ⟨-, -, ⟨P52, q53, e0, ht51⟩, -, -, -, -, -, -, -, -, -, -⟩ := hap
        dsimp only at e0
        subst e0
        have hu61 := Aside0.mk hu
        clear hu
        refine wpList_nil ?_
        (try simp only [Exit.then, Exit.inBlock, ↓reduceIte, Nat.reduceEqDiff])
        refine hK38 _ _ ?_
        refine wp_seq_k (fun K62 hK62 => ?_)
        refine wp_seq_k (fun K63 hK63 => ?_)
        refine wp_region_lit ?_
        refine wpList_plain rfl (fun Ko hKo => ?_)
        go_simp
        refine hKo _ _ ?_
        clear hKo Ko
        try simp only [Act.put, nm1, nm2, nm3, i64_w]
        refine wpList_plain rfl (fun Ko hKo => ?_)
        go_simp
        refine hKo _ _ ?_
        clear hKo Ko
        try simp only [Act.put, nm1, nm2, nm3, i64_w]
        refine step_call (wanted_none rfl) (by first | (go_simp; done) | (go_simp; rfl)) (laws_eqInt64S.calls K P52 q53 t51 P28 q29 t27 true w60 ht51.rd ((ht27.up hu61.out).rd) A65.out) ?_
        rintro e w66 ⟨rfl, hu⟩
        have hu67 := Aside0.mk hu
        clear hu
        refine ⟨_, rfl, ?_⟩
        simp only [Act.put, nm1, nm2, nm3, i64_w]
        refine wpList_plain rfl (fun Ko hKo => ?_)
        go_simp
        refine hKo _ _ ?_
        clear hKo Ko
        try simp only [Act.put, nm1, nm2, nm3, i64_w]
        refine wpList_plain rfl (fun Ko hKo => ?_)
        go_simp
        refine hKo _ _ ?_
        clear hKo Ko
        try simp only [Act.put, nm1, nm2, nm3, i64_w]
        refine wpList_step (fun Ko hKo => ?_)
        go_simp
        refine hKo _ _ ?_
        clear hKo Ko
        try simp only [Act.put, nm1, nm2, nm3, i64_w]
        refine wpList_step (fun Ko hKo => ?_)
        go_simp
        refine hKo _ _ ?_
        clear hKo Ko
        try simp only [Act.put, nm1, nm2, nm3, i64_w]
        refine wpList_step (fun Ko hKo => ?_)
        go_simp
        refine hKo _ _ ?_
        clear hKo Ko
        try simp only [Act.put, nm1, nm2, nm3, i64_w]
        refine wpList_plain rfl (fun Ko hKo => ?_)
        go_simp
        refine hKo _ _ ?_
        clear hKo Ko
        try simp only [Act.put, nm1, nm2, nm3, i64_w]
        refine wpList_nil ?_
        (try simp only [Exit.then, Exit.inBlock, ↓reduceIte, Nat.reduceEqDiff])
        refine hK63 _ _ ?_
        refine wp_cond_false rfl ?_
        refine wp_skip ?_
        (try simp only [Exit.then, Exit.inBlock, ↓reduceIte, Nat.reduceEqDiff])
        refine hK62 _ _ ?_
        refine wp_seq_k (fun K70 hK70 => ?_)
        refine wp_region_lit ?_
        refine wpList_plain rfl (fun Ko hKo => ?_)
        go_simp
        refine hKo _ _ ?_
        clear hKo Ko
        try simp only [Act.put, nm1, nm2, nm3, i64_w]
        refine wpList_nil ?_
        (try simp only [Exit.then, Exit.inBlock, ↓reduceIte, Nat.reduceEqDiff])
        refine hK70 _ _ ?_
        refine wp_seq_k (fun K71 hK71 => ?_)
        refine wp_region_lit ?_
        refine wpList_plain rfl (fun Ko hKo => ?_)
        go_simp
        refine hKo _ _ ?_
        clear hKo Ko
        try simp only [Act.put, nm1, nm2, nm3, i64_w]
        refine wpList_plain rfl (fun Ko hKo => ?_)
        go_simp
        refine hKo _ _ ?_
        clear hKo Ko
        try simp only [Act.put, nm1, nm2, nm3, i64_w]
        refine step_call (wanted_none rfl) (by first | (go_simp; done) | (go_simp; rfl)) (laws_markInt64S.calls K P52 q53 w36.heap.size t51 1 t72 t73 w66 (ht51.up hu67.out) A74.out) ?_
        have lb76 := Aside0.mk (ht51.up hu67.out).lt
        rintro e w75 ⟨rfl, h77, hl, hg⟩
        have hg79 := Aside0.mk hg
        have hl78 := hl
        clear hg hl
        have hl80 : Aside0 (t51.length = t73.length) := Aside0.mk hl78.out
        refine ⟨_, rfl, ?_⟩
        simp only [Act.put, nm1, nm2, nm3, i64_w]
        refine wpList_plain rfl (fun Ko hKo => ?_)
        go_simp
        refine hKo _ _ ?_
        clear hKo Ko
        try simp only [Act.put, nm1, nm2, nm3, i64_w]
        refine wpList_nil ?_
        (try simp only [Exit.then, Exit.inBlock, ↓reduceIte, Nat.reduceEqDiff])
        refine hK71 _ _ ?_
        refine wp_seq_k (fun K81 hK81 => ?_)
        refine wp_region_lit ?_
        refine wpList_plain rfl (fun Ko hKo => ?_)
        go_simp
        refine hKo _ _ ?_
        clear hKo Ko
        try simp only [Act.put, nm1, nm2, nm3, i64_w]
        refine wpList_nil ?_
        (try simp only [Exit.then, Exit.inBlock, ↓reduceIte, Nat.reduceEqDiff])
        refine hK81 _ _ ?_
        refine wp_seq_k (fun K82 hK82 => ?_)
        refine wp_region_lit ?_
        refine wpList_plain rfl (fun Ko hKo => ?_)
        go_simp
        refine hKo _ _ ?_
        clear hKo Ko
        try simp only [Act.put, nm1, nm2, nm3, i64_w]
        refine wpList_plain rfl (fun Ko hKo => ?_)
        go_simp
        refine hKo _ _ ?_
        clear hKo Ko
        try simp only [Act.put, nm1, nm2, nm3, i64_w]
        refine step_call (wanted_none rfl) (by first | (go_simp; done) | (go_simp; rfl)) (Eq.mp (congrArg (fun n_ => Calls Try.prog 23 #[.slice P52 n_ q53, .int .i64 1] w75 _) (Eq.symm hl80.out)) (laws_heldInt64S.calls K P52 q53 t73 1 t83 w75 h77.rd A84.out)) ?_
        rintro e w85 ⟨rfl, hu⟩
        have hu86 := Aside0.mk hu
        clear hu
        refine ⟨_, rfl, ?_⟩
        simp only [Act.put, nm1, nm2, nm3, i64_w]
        refine wpList_plain rfl (fun Ko hKo => ?_)
        go_simp
        refine hKo _ _ ?_
        clear hKo Ko
        try simp only [Act.put, nm1, nm2, nm3, i64_w]
        refine wpList_nil ?_
        (try simp only [Exit.then, Exit.inBlock, ↓reduceIte, Nat.reduceEqDiff])
        refine hK82 _ _ ?_
        refine wp_seq_k (fun K87 hK87 => ?_)
        refine wp_seq_k (fun K88 hK88 => ?_)
        refine wp_region_lit ?_
        refine wpList_plain rfl (fun Ko hKo => ?_)
        go_simp
        refine hKo _ _ ?_
        clear hKo Ko
        try simp only [Act.put, nm1, nm2, nm3, i64_w]
        refine wpList_plain rfl (fun Ko hKo => ?_)
        go_simp
        refine hKo _ _ ?_
        clear hKo Ko
        try simp only [Act.put, nm1, nm2, nm3, i64_w]
        refine wpList_nil ?_
        (try simp only [Exit.then, Exit.inBlock, ↓reduceIte, Nat.reduceEqDiff])
        refine hK88 _ _ ?_
        refine wp_cond_false rfl ?_
        refine wp_skip ?_
        (try simp only [Exit.then, Exit.inBlock, ↓reduceIte, Nat.reduceEqDiff])
        refine hK87 _ _ ?_
        refine wp_seq_k (fun K91 hK91 => ?_)
        refine wp_seq_k (fun K92 hK92 => ?_)
        refine wp_region_lit ?_
        refine wpList_plain rfl (fun Ko hKo => ?_)
        go_simp
        refine hKo _ _ ?_
        clear hKo Ko
        try simp only [Act.put, nm1, nm2, nm3, i64_w]
        refine wpList_plain rfl (fun Ko hKo => ?_)
        go_simp
        refine hKo _ _ ?_
        clear hKo Ko
        try simp only [Act.put, nm1, nm2, nm3, i64_w]
        refine wpList_plain rfl (fun Ko hKo => ?_)
        go_simp
        refine hKo _ _ ?_
        clear hKo Ko
        try simp only [Act.put, nm1, nm2, nm3, i64_w]
        refine wpList_nil ?_
        (try simp only [Exit.then, Exit.inBlock, ↓reduceIte, Nat.reduceEqDiff])
        refine hK92 _ _ ?_
        refine wp_cond_false rfl ?_
        refine wp_skip ?_
        (try simp only [Exit.then, Exit.inBlock, ↓reduceIte, Nat.reduceEqDiff])
        refine hK91 _ _ ?_
        refine wp_seq_k (fun K94 hK94 => ?_)
        refine' wp_region_up 15 [Slot.det _, Slot.det _, Slot.det (.agg #[.int .i64 t95, .int .i64 t96]), Slot.det _, Slot.det (.agg #[.int .i64 t98, .int .i64 t99]), Slot.det _, Slot.det (.agg #[.int .i64 t101, .int .i64 t102]), Slot.det _, Slot.det (.agg #[.int .i64 t104, .int .i64 t105]), Slot.any (RowTo eI 2 w85.heap.size t107 (fun v => .tuple #[v, .int .i64 t110])) false, Slot.any (RowTo eI 2 w85.heap.size t107 (fun v => .tuple #[v, .int .i64 t110])) false, Slot.any (RowTo eI 2 w85.heap.size t107 (fun v => v)) false, Slot.det (.int .i64 t110), Slot.any (RowTo eI 2 w85.heap.size t107 (fun v => v)) false, Slot.det _] (by kernel_rfl) (by kernel_rfl) ?main
        case main =>
         simp only [List.take_succ_cons, List.take_zero]
         refine wpK_ops rfl (fun w1 hu => ?_) ?_
         · clear hu
           go_simp
           first | done | rfl
         simp only [Act.put, nm1, nm2, nm3, i64_w]
         refine wpK_ops rfl (fun w1 hu => ?_) ?_
         · have cl0 := ((hb2.up (((((((hu7.out.trans hu10.out).trans hu13.out).trans hu37.out).trans hu61.out).trans hu67.out).grow hg79.out (fun k hk => Nat.le_trans ((Nat.le_trans ((Nat.le_trans ((Nat.le_trans (hu7.out.size) hu10.out.size)) hu13.out.size)) hu37.out.size)) ((fun k hk => (lb76.out k hk).1) k hk))).trans hu86.out)).up ((Up.refl _).drew.trans hu)).cell (o := 0) rfl
           have cl1 := ((hb2.up (((((((hu7.out.trans hu10.out).trans hu13.out).trans hu37.out).trans hu61.out).trans hu67.out).grow hg79.out (fun k hk => Nat.le_trans ((Nat.le_trans ((Nat.le_trans ((Nat.le_trans (hu7.out.size) hu10.out.size)) hu13.out.size)) hu37.out.size)) ((fun k hk => (lb76.out k hk).1) k hk))).trans hu86.out)).up ((Up.refl _).drew.trans hu)).cell (o := 1) rfl
           go_simp
           first | done | rfl
         simp only [Act.put, nm1, nm2, nm3, i64_w]
         refine wpK_ops rfl (fun w1 hu => ?_) ?_
         · have hcl := (laws_toPoint.calls K a1_0 a1_1 t95 t96 w1  A97.out)
           clear hu
           replace hcl := Aside0.mk hcl
           go_simp
           exact hcl.out
         simp only [Act.put, nm1, nm2, nm3, i64_w]
         refine wpK_ops rfl (fun w1 hu => ?_) ?_
         · have cl0 := ((hb5.up ((((((hu10.out.trans hu13.out).trans hu37.out).trans hu61.out).trans hu67.out).grow hg79.out (fun k hk => Nat.le_trans ((Nat.le_trans ((Nat.le_trans (hu10.out.size) hu13.out.size)) hu37.out.size)) ((fun k hk => (lb76.out k hk).1) k hk))).trans hu86.out)).up ((Up.refl _).drew.trans hu)).cell (o := 0) rfl
           have cl1 := ((hb5.up ((((((hu10.out.trans hu13.out).trans hu37.out).trans hu61.out).trans hu67.out).grow hg79.out (fun k hk => Nat.le_trans ((Nat.le_trans ((Nat.le_trans (hu10.out.size) hu13.out.size)) hu37.out.size)) ((fun k hk => (lb76.out k hk).1) k hk))).trans hu86.out)).up ((Up.refl _).drew.trans hu)).cell (o := 1) rfl
           go_simp
           first | done | rfl
         simp only [Act.put, nm1, nm2, nm3, i64_w]
         refine wpK_ops rfl (fun w1 hu => ?_) ?_
         · have hcl := (laws_toPoint.calls K a2_0 a2_1 t98 t99 w1  A100.out)
           clear hu
           replace hcl := Aside0.mk hcl
           go_simp
           exact hcl.out
         simp only [Act.put, nm1, nm2, nm3, i64_w]
         refine wpK_ops rfl (fun w1 hu => ?_) ?_
         · have cl0 := ((hb8.up (((((hu13.out.trans hu37.out).trans hu61.out).trans hu67.out).grow hg79.out (fun k hk => Nat.le_trans ((Nat.le_trans (hu13.out.size) hu37.out.size)) ((fun k hk => (lb76.out k hk).1) k hk))).trans hu86.out)).up ((Up.refl _).drew.trans hu)).cell (o := 0) rfl
           have cl1 := ((hb8.up (((((hu13.out.trans hu37.out).trans hu61.out).trans hu67.out).grow hg79.out (fun k hk => Nat.le_trans ((Nat.le_trans (hu13.out.size) hu37.out.size)) ((fun k hk => (lb76.out k hk).1) k hk))).trans hu86.out)).up ((Up.refl _).drew.trans hu)).cell (o := 1) rfl
           go_simp
           first | done | rfl
         simp only [Act.put, nm1, nm2, nm3, i64_w]
         refine wpK_ops rfl (fun w1 hu => ?_) ?_
         · have hcl := (laws_toPoint.calls K a3_0 a3_1 t101 t102 w1  A103.out)
           clear hu
           replace hcl := Aside0.mk hcl
           go_simp
           exact hcl.out
         simp only [Act.put, nm1, nm2, nm3, i64_w]
         refine wpK_ops rfl (fun w1 hu => ?_) ?_
         · have cl0 := ((hb11.up ((((hu37.out.trans hu61.out).trans hu67.out).grow hg79.out (fun k hk => Nat.le_trans (hu37.out.size) ((fun k hk => (lb76.out k hk).1) k hk))).trans hu86.out)).up ((Up.refl _).drew.trans hu)).cell (o := 0) rfl
           have cl1 := ((hb11.up ((((hu37.out.trans hu61.out).trans hu67.out).grow hg79.out (fun k hk => Nat.le_trans (hu37.out.size) ((fun k hk => (lb76.out k hk).1) k hk))).trans hu86.out)).up ((Up.refl _).drew.trans hu)).cell (o := 1) rfl
           go_simp
           first | done | rfl
         simp only [Act.put, nm1, nm2, nm3, i64_w]
         refine wpK_ops rfl (fun w1 hu => ?_) ?_
         · have hcl := (laws_toPoint.calls K a4_0 a4_1 t104 t105 w1  A106.out)
           clear hu
           replace hcl := Aside0.mk hcl
           go_simp
           exact hcl.out
         simp only [Act.put, nm1, nm2, nm3, i64_w]
         refine wpK_any rfl (stab_row _ _ _ _ _) (fun w1 hu hl => ?_) (fun v112 => ?_)
         · have hcl := impl_WeightsOf.calls K a0 t95 t96 t98 t99 t101 t102 t104 t105 t107 t110 w1  A111.out
           have hz := ((Up.refl _).drew.trans hu).size
           clear hu
           replace hcl := Aside0.mk hcl
           exact fresh_row (by first | (go_simp; done) | (go_simp; rfl)) hcl.out hz
         simp only [Act.put, nm1, nm2, nm3, i64_w]
         refine wpK_any rfl (stab_row _ _ _ _ _) (fun w1 hu hl => ?_) (fun v113 => ?_)
         · exact any_of_run (by first | (go_simp; done) | (go_simp; rfl)) (hl.1 (by kernel_rfl))
         simp only [Act.put, nm1, nm2, nm3, i64_w]
         refine wpK_any rfl (stab_row _ _ _ _ _) (fun w1 hu hl => ?_) (fun v114 => ?_)
         · obtain ⟨A0_, c0_, e0_, hO0_⟩ := hl.1 (by kernel_rfl)
           clear hl hu
           dsimp only at e0_
           subst e0_
           exact any_of_run (u := .slice A0_ t107.length c0_) (by first | (go_simp; done) | (go_simp; rfl)) ⟨A0_, c0_, rfl, hO0_⟩
         simp only [Act.put, nm1, nm2, nm3, i64_w]
         refine wpK_det rfl (fun w1 hu hl => ?_) ?_
         · obtain ⟨A0_, c0_, e0_, hO0_⟩ := hl.2.1 (by kernel_rfl)
           clear hl hu
           dsimp only at e0_
           subst e0_
           clear hO0_
           go_simp
           first | done | rfl
         simp only [Act.put, nm1, nm2, nm3, i64_w]
         refine wpK_any rfl (stab_row _ _ _ _ _) (fun w1 hu hl => ?_) (fun v115 => ?_)
         · exact any_of_run (by first | (go_simp; done) | (go_simp; rfl)) (hl.1 (by kernel_rfl))
         simp only [Act.put, nm1, nm2, nm3, i64_w]
         refine wpK_ops rfl (fun w1 hu => ?_) ?_
         · clear hu
           go_simp
           first | done | rfl
         simp only [Act.put, nm1, nm2, nm3, i64_w]
         refine wpK_nil ?_
         intro w116 hu hap
         simp only [List.drop_succ_cons, List.drop_zero]
         replace hu := (Up.refl _).drew.trans hu
         obtain ⟨-, -, ⟨P108, q109, e0, ht107⟩, -, -, -, -, -, -, -, -, -, -⟩ := hap
         dsimp only at e0
         subst e0
         have hu117 := Aside0.mk hu
         clear hu
         refine wpList_nil ?_
         (try simp only [Exit.then, Exit.inBlock, ↓reduceIte, Nat.reduceEqDiff])
         refine hK94 _ _ ?_
         refine wp_seq_k (fun K118 hK118 => ?_)
         refine wp_seq_k (fun K119 hK119 => ?_)
         refine wp_region_lit ?_
         refine wpList_plain rfl (fun Ko hKo => ?_)
         go_simp
         refine hKo _ _ ?_
         clear hKo Ko
         try simp only [Act.put, nm1, nm2, nm3, i64_w]
         refine wpList_plain rfl (fun Ko hKo => ?_)
         go_simp
         refine hKo _ _ ?_
         clear hKo Ko
         try simp only [Act.put, nm1, nm2, nm3, i64_w]
         refine step_call (wanted_none rfl) (by first | (go_simp; done) | (go_simp; rfl)) (laws_eqInt64S.calls K P108 q109 t107 P28 q29 t27 false w116 ht107.rd ((ht27.up ((((hu61.out.trans hu67.out).grow hg79.out (fun k hk => Nat.le_trans (Nat.le_refl _) ((fun k hk => (lb76.out k hk).1) k hk))).trans hu86.out).trans hu117.out)).rd) A121.out) ?_
         rintro e w122 ⟨rfl, hu⟩
         have hu123 := Aside0.mk hu
         clear hu
         refine ⟨_, rfl, ?_⟩
         simp only [Act.put, nm1, nm2, nm3, i64_w]
         refine wpList_plain rfl (fun Ko hKo => ?_)
         go_simp
         refine hKo _ _ ?_
         clear hKo Ko
         try simp only [Act.put, nm1, nm2, nm3, i64_w]
         refine wpList_plain rfl (fun Ko hKo => ?_)
         go_simp
         refine hKo _ _ ?_
         clear hKo Ko
         try simp only [Act.put, nm1, nm2, nm3, i64_w]
         refine step_no rfl ?_
         simp only [Act.put, nm1, nm2, nm3, i64_w]
         refine step_no rfl ?_
         simp only [Act.put, nm1, nm2, nm3, i64_w]
         refine step_no rfl ?_
         simp only [Act.put, nm1, nm2, nm3, i64_w]
         refine wpList_plain rfl (fun Ko hKo => ?_)
         go_simp
         refine hKo _ _ ?_
         clear hKo Ko
         try simp only [Act.put, nm1, nm2, nm3, i64_w]
         refine wpList_nil ?_
         (try simp only [Exit.then, Exit.inBlock, ↓reduceIte, Nat.reduceEqDiff])
         refine hK119 _ _ ?_
         refine wp_cond_true rfl ?_
         refine wp_seq_k (fun K142 hK142 => ?_)
         refine wp_region_lit ?_
         refine wpList_plain rfl (fun Ko hKo => ?_)
         go_simp
         refine hKo _ _ ?_
         clear hKo Ko
         try simp only [Act.put, nm1, nm2, nm3, i64_w]
         refine wpList_nil ?_
         (try simp only [Exit.then, Exit.inBlock, ↓reduceIte, Nat.reduceEqDiff])
         refine hK142 _ _ ?_
         refine wp_ret ?_
         (try simp only [Exit.then, Exit.inBlock, ↓reduceIte, Nat.reduceEqDiff])
         refine hQf _ _ _ ?_
         exact bodyPost_ret (v := .bool false) (by first | rfl | (simp [results, Try.results5, go_sem]; done) | (simp [results, Try.results5, go_sem]; rfl)) rfl ⟨rfl, ((((((((((hu4.out.trans hu7.out).trans hu10.out).trans hu13.out).trans hu37.out).trans hu61.out).trans hu67.out).grow hg79.out (fun k hk => Nat.le_trans ((Nat.le_trans ((Nat.le_trans ((Nat.le_trans ((Nat.le_trans (hu4.out.size) hu7.out.size)) hu10.out.size)) hu13.out.size)) hu37.out.size)) ((fun k hk => (lb76.out k hk).1) k hk))).trans hu86.out).trans hu117.out).trans hu123.out)⟩
    ·
     rw [if_neg c93] at H
     replace c93 := Bool.eq_false_iff.mpr c93
     have c93n : (t83 != t72) = true := by rw [bne, c93]; rfl
     have c93p : ¬ t83 = t72 := fun e => by simp [e] at c93
     obtain rfl := Option.some.inj H
     go_enter Try.func5, Try.ntmps5
     refine wp_hide (fun Qf hQf => ?_)
     refine wp_seq_k (fun K1 hK1 => ?_)
     refine wp_region_lit ?_
     refine step_new (cs := [.int .i64 a1_0, .int .i64 a1_1]) (T := 22) (f := fun b => .pointer (some ⟨b, 0, none⟩)) rfl (by first | (go_simp; done) | (go_simp; rfl)) ?_
     intro b2 w3 hu lb hb2
     simp only [Act.put, nm1, nm2, nm3, i64_w]
     have lbb2 := Aside0.mk lb
     have ltb2 := Aside0.mk hb2.lt
     clear lb
     have hu4 := Aside0.mk hu
     clear hu
     refine step_new (cs := [.int .i64 a2_0, .int .i64 a2_1]) (T := 22) (f := fun b => .pointer (some ⟨b, 0, none⟩)) rfl (by first | (go_simp; done) | (go_simp; rfl)) ?_
     intro b5 w6 hu lb hb5
     simp only [Act.put, nm1, nm2, nm3, i64_w]
     have lbb5 := Aside0.mk lb
     have ltb5 := Aside0.mk hb5.lt
     clear lb
     have hu7 := Aside0.mk hu
     clear hu
     refine step_new (cs := [.int .i64 a3_0, .int .i64 a3_1]) (T := 22) (f := fun b => .pointer (some ⟨b, 0, none⟩)) rfl (by first | (go_simp; done) | (go_simp; rfl)) ?_
     intro b8 w9 hu lb hb8
     simp only [Act.put, nm1, nm2, nm3, i64_w]
     have lbb8 := Aside0.mk lb
     have ltb8 := Aside0.mk hb8.lt
     clear lb
     have hu10 := Aside0.mk hu
     clear hu
     refine step_new (cs := [.int .i64 a4_0, .int .i64 a4_1]) (T := 22) (f := fun b => .pointer (some ⟨b, 0, none⟩)) rfl (by first | (go_simp; done) | (go_simp; rfl)) ?_
     intro b11 w12 hu lb hb11
     simp only [Act.put, nm1, nm2, nm3, i64_w]
     have lbb11 := Aside0.mk lb
     have ltb11 := Aside0.mk hb11.lt
     clear lb
     have hu13 := Aside0.mk hu
     clear hu
     refine wpList_plain rfl (fun Ko hKo => ?_)
     go_simp
     refine hKo _ _ ?_
     clear hKo Ko
     try simp only [Act.put, nm1, nm2, nm3, i64_w]
     refine wpList_nil ?_
     (try simp only [Exit.then, Exit.inBlock, ↓reduceIte, Nat.reduceEqDiff])
     refine hK1 _ _ ?_
     refine wp_seq_k (fun K14 hK14 => ?_)
     refine' wp_region_up 15 [Slot.det _, Slot.det _, Slot.det (.agg #[.int .i64 t15, .int .i64 t16]), Slot.det _, Slot.det (.agg #[.int .i64 t18, .int .i64 t19]), Slot.det _, Slot.det (.agg #[.int .i64 t21, .int .i64 t22]), Slot.det _, Slot.det (.agg #[.int .i64 t24, .int .i64 t25]), Slot.any (RowTo eI 2 w12.heap.size t27 (fun v => .tuple #[v, .int .i64 t30])) false, Slot.any (RowTo eI 2 w12.heap.size t27 (fun v => .tuple #[v, .int .i64 t30])) false, Slot.any (RowTo eI 2 w12.heap.size t27 (fun v => v)) false, Slot.det (.int .i64 t30), Slot.any (RowTo eI 2 w12.heap.size t27 (fun v => v)) false, Slot.det _] (by kernel_rfl) (by kernel_rfl) ?main
     case main =>
      simp only [List.take_succ_cons, List.take_zero]
      refine wpK_ops rfl (fun w1 hu => ?_) ?_
      · clear hu
        go_simp
        first | done | rfl
      simp only [Act.put, nm1, nm2, nm3, i64_w]
      refine wpK_ops rfl (fun w1 hu => ?_) ?_
      · have cl0 := ((hb2.up ((hu7.out.trans hu10.out).trans hu13.out)).up ((Up.refl _).drew.trans hu)).cell (o := 0) rfl
        have cl1 := ((hb2.up ((hu7.out.trans hu10.out).trans hu13.out)).up ((Up.refl _).drew.trans hu)).cell (o := 1) rfl
        go_simp
        first | done | rfl
      simp only [Act.put, nm1, nm2, nm3, i64_w]
      refine wpK_ops rfl (fun w1 hu => ?_) ?_
      · have hcl := (laws_toPoint.calls K a1_0 a1_1 t15 t16 w1  A17.out)
        clear hu
        replace hcl := Aside0.mk hcl
        go_simp
        exact hcl.out
      simp only [Act.put, nm1, nm2, nm3, i64_w]
      refine wpK_ops rfl (fun w1 hu => ?_) ?_
      · have cl0 := ((hb5.up (hu10.out.trans hu13.out)).up ((Up.refl _).drew.trans hu)).cell (o := 0) rfl
        have cl1 := ((hb5.up (hu10.out.trans hu13.out)).up ((Up.refl _).drew.trans hu)).cell (o := 1) rfl
        go_simp
        first | done | rfl
      simp only [Act.put, nm1, nm2, nm3, i64_w]
      refine wpK_ops rfl (fun w1 hu => ?_) ?_
      · have hcl := (laws_toPoint.calls K a2_0 a2_1 t18 t19 w1  A20.out)
        clear hu
        replace hcl := Aside0.mk hcl
        go_simp
        exact hcl.out
      simp only [Act.put, nm1, nm2, nm3, i64_w]
      refine wpK_ops rfl (fun w1 hu => ?_) ?_
      · have cl0 := ((hb8.up hu13.out).up ((Up.refl _).drew.trans hu)).cell (o := 0) rfl
        have cl1 := ((hb8.up hu13.out).up ((Up.refl _).drew.trans hu)).cell (o := 1) rfl
        go_simp
        first | done | rfl
      simp only [Act.put, nm1, nm2, nm3, i64_w]
      refine wpK_ops rfl (fun w1 hu => ?_) ?_
      · have hcl := (laws_toPoint.calls K a3_0 a3_1 t21 t22 w1  A23.out)
        clear hu
        replace hcl := Aside0.mk hcl
        go_simp
        exact hcl.out
      simp only [Act.put, nm1, nm2, nm3, i64_w]
      refine wpK_ops rfl (fun w1 hu => ?_) ?_
      · have cl0 := (hb11.up ((Up.refl _).drew.trans hu)).cell (o := 0) rfl
        have cl1 := (hb11.up ((Up.refl _).drew.trans hu)).cell (o := 1) rfl
        go_simp
        first | done | rfl
      simp only [Act.put, nm1, nm2, nm3, i64_w]
      refine wpK_ops rfl (fun w1 hu => ?_) ?_
      · have hcl := (laws_toPoint.calls K a4_0 a4_1 t24 t25 w1  A26.out)
        clear hu
        replace hcl := Aside0.mk hcl
        go_simp
        exact hcl.out
      simp only [Act.put, nm1, nm2, nm3, i64_w]
      refine wpK_any rfl (stab_row _ _ _ _ _) (fun w1 hu hl => ?_) (fun v32 => ?_)
      · have hcl := spec_WeightsOf.calls K a0 t15 t16 t18 t19 t21 t22 t24 t25 t27 t30 w1  A31.out
        have hz := ((Up.refl _).drew.trans hu).size
        clear hu
        replace hcl := Aside0.mk hcl
        exact fresh_row (by first | (go_simp; done) | (go_simp; rfl)) hcl.out hz
      simp only [Act.put, nm1, nm2, nm3, i64_w]
      refine wpK_any rfl (stab_row _ _ _ _ _) (fun w1 hu hl => ?_) (fun v33 => ?_)
      · exact any_of_run (by first | (go_simp; done) | (go_simp; rfl)) (hl.1 (by kernel_rfl))
      simp only [Act.put, nm1, nm2, nm3, i64_w]
      refine wpK_any rfl (stab_row _ _ _ _ _) (fun w1 hu hl => ?_) (fun v34 => ?_)
      · obtain ⟨A0_, c0_, e0_, hO0_⟩ := hl.1 (by kernel_rfl)
        clear hl hu
        dsimp only at e0_
        subst e0_
        exact any_of_run (u := .slice A0_ t27.length c0_) (by first | (go_simp; done) | (go_simp; rfl)) ⟨A0_, c0_, rfl, hO0_⟩
      simp only [Act.put, nm1, nm2, nm3, i64_w]
      refine wpK_det rfl (fun w1 hu hl => ?_) ?_
      · obtain ⟨A0_, c0_, e0_, hO0_⟩ := hl.2.1 (by kernel_rfl)
        clear hl hu
        dsimp only at e0_
        subst e0_
        clear hO0_
        go_simp
        first | done | rfl
      simp only [Act.put, nm1, nm2, nm3, i64_w]
      refine wpK_any rfl (stab_row _ _ _ _ _) (fun w1 hu hl => ?_) (fun v35 => ?_)
      · exact any_of_run (by first | (go_simp; done) | (go_simp; rfl)) (hl.1 (by kernel_rfl))
      simp only [Act.put, nm1, nm2, nm3, i64_w]
      refine wpK_ops rfl (fun w1 hu => ?_) ?_
      · clear hu
        go_simp
        first | done | rfl
      simp only [Act.put, nm1, nm2, nm3, i64_w]
      refine wpK_nil ?_
      intro w36 hu hap
      simp only [List.drop_succ_cons, List.drop_zero]
      replace hu := (Up.refl _).drew.trans hu
      obtain ⟨-, -, ⟨P28, q29, e0, ht27⟩, -, -, -, -, -, -, -, -, -, -⟩ := hap
      dsimp only at e0
      subst e0
      have hu37 := Aside0.mk hu
      clear hu
      refine wpList_nil ?_
      (try simp only [Exit.then, Exit.inBlock, ↓reduceIte, Nat.reduceEqDiff])
      refine hK14 _ _ ?_
      refine wp_seq_k (fun K38 hK38 => ?_)
      refine' wp_region_up 15 [Slot.det _, Slot.det _, Slot.det (.agg #[.int .i64 t39, .int .i64 t40]), Slot.det _, Slot.det (.agg #[.int .i64 t42, .int .i64 t43]), Slot.det _, Slot.det (.agg #[.int .i64 t45, .int .i64 t46]), Slot.det _, Slot.det (.agg #[.int .i64 t48, .int .i64 t49]), Slot.any (RowTo eI 2 w36.heap.size t51 (fun v => .tuple #[v, .int .i64 t54])) false, Slot.any (RowTo eI 2 w36.heap.size t51 (fun v => .tuple #[v, .int .i64 t54])) false, Slot.any (RowTo eI 2 w36.heap.size t51 (fun v => v)) false, Slot.det (.int .i64 t54), Slot.any (RowTo eI 2 w36.heap.size t51 (fun v => v)) false, Slot.det _] (by kernel_rfl) (by kernel_rfl) ?main
      case main =>
       simp only [List.take_succ_cons, List.take_zero]
       refine wpK_ops rfl (fun w1 hu => ?_) ?_
       · clear hu
         go_simp
         first | done | rfl
       simp only [Act.put, nm1, nm2, nm3, i64_w]
       refine wpK_ops rfl (fun w1 hu => ?_) ?_
       · have cl0 := ((hb2.up (((hu7.out.trans hu10.out).trans hu13.out).trans hu37.out)).up ((Up.refl _).drew.trans hu)).cell (o := 0) rfl
         have cl1 := ((hb2.up (((hu7.out.trans hu10.out).trans hu13.out).trans hu37.out)).up ((Up.refl _).drew.trans hu)).cell (o := 1) rfl
         go_simp
         first | done | rfl
       simp only [Act.put, nm1, nm2, nm3, i64_w]
       refine wpK_ops rfl (fun w1 hu => ?_) ?_
       · have hcl := (laws_toPoint.calls K a1_0 a1_1 t39 t40 w1  A41.out)
         clear hu
         replace hcl := Aside0.mk hcl
         go_simp
         exact hcl.out
       simp only [Act.put, nm1, nm2, nm3, i64_w]
       refine wpK_ops rfl (fun w1 hu => ?_) ?_
       · have cl0 := ((hb5.up ((hu10.out.trans hu13.out).trans hu37.out)).up ((Up.refl _).drew.trans hu)).cell (o := 0) rfl
         have cl1 := ((hb5.up ((hu10.out.trans hu13.out).trans hu37.out)).up ((Up.refl _).drew.trans hu)).cell (o := 1) rfl
         go_simp
         first | done | rfl
       simp only [Act.put, nm1, nm2, nm3, i64_w]
       refine wpK_ops rfl (fun w1 hu => ?_) ?_
       · have hcl := (laws_toPoint.calls K a2_0 a2_1 t42 t43 w1  A44.out)
         clear hu
         replace hcl := Aside0.mk hcl
         go_simp
         exact hcl.out
       simp only [Act.put, nm1, nm2, nm3, i64_w]
       refine wpK_ops rfl (fun w1 hu => ?_) ?_
       · have cl0 := ((hb8.up (hu13.out.trans hu37.out)).up ((Up.refl _).drew.trans hu)).cell (o := 0) rfl
         have cl1 := ((hb8.up (hu13.out.trans hu37.out)).up ((Up.refl _).drew.trans hu)).cell (o := 1) rfl
         go_simp
         first | done | rfl
       simp only [Act.put, nm1, nm2, nm3, i64_w]
       refine wpK_ops rfl (fun w1 hu => ?_) ?_
       · have hcl := (laws_toPoint.calls K a3_0 a3_1 t45 t46 w1  A47.out)
         clear hu
         replace hcl := Aside0.mk hcl
         go_simp
         exact hcl.out
       simp only [Act.put, nm1, nm2, nm3, i64_w]
       refine wpK_ops rfl (fun w1 hu => ?_) ?_
       · have cl0 := ((hb11.up hu37.out).up ((Up.refl _).drew.trans hu)).cell (o := 0) rfl
         have cl1 := ((hb11.up hu37.out).up ((Up.refl _).drew.trans hu)).cell (o := 1) rfl
         go_simp
         first | done | rfl
       simp only [Act.put, nm1, nm2, nm3, i64_w]
       refine wpK_ops rfl (fun w1 hu => ?_) ?_
       · have hcl := (laws_toPoint.calls K a4_0 a4_1 t48 t49 w1  A50.out)
         clear hu
         replace hcl := Aside0.mk hcl
         go_simp
         exact hcl.out
       simp only [Act.put, nm1, nm2, nm3, i64_w]
       refine wpK_any rfl (stab_row _ _ _ _ _) (fun w1 hu hl => ?_) (fun v56 => ?_)
       · have hcl := impl_WeightsOf.calls K a0 t39 t40 t42 t43 t45 t46 t48 t49 t51 t54 w1  A55.out
         have hz := ((Up.refl _).drew.trans hu).size
         clear hu
         replace hcl := Aside0.mk hcl
         exact fresh_row (by first | (go_simp; done) | (go_simp; rfl)) hcl.out hz
       simp only [Act.put, nm1, nm2, nm3, i64_w]
       refine wpK_any rfl (stab_row _ _ _ _ _) (fun w1 hu hl => ?_) (fun v57 => ?_)
       · exact any_of_run (by first | (go_simp; done) | (go_simp; rfl)) (hl.1 (by kernel_rfl))
       simp only [Act.put, nm1, nm2, nm3, i64_w]
       refine wpK_any rfl (stab_row _ _ _ _ _) (fun w1 hu hl => ?_) (fun v58 => ?_)
       · obtain ⟨A0_, c0_, e0_, hO0_⟩ := hl.1 (by kernel_rfl)
         clear hl hu
         dsimp only at e0_
         subst e0_
         exact any_of_run (u := .slice A0_ t51.length c0_) (by first | (go_simp; done) | (go_simp; rfl)) ⟨A0_, c0_, rfl, hO0_⟩
       simp only [Act.put, nm1, nm2, nm3, i64_w]
       refine wpK_det rfl (fun w1 hu hl => ?_) ?_
       · obtain ⟨A0_, c0_, e0_, hO0_⟩ := hl.2.1 (by kernel_rfl)
         clear hl hu
         dsimp only at e0_
         subst e0_
         clear hO0_
         go_simp
         first | done | rfl
       simp only [Act.put, nm1, nm2, nm3, i64_w]
       refine wpK_any rfl (stab_row _ _ _ _ _) (fun w1 hu hl => ?_) (fun v59 => ?_)
       · exact any_of_run (by first | (go_simp; done) | (go_simp; rfl)) (hl.1 (by kernel_rfl))
       simp only [Act.put, nm1, nm2, nm3, i64_w]
       refine wpK_ops rfl (fun w1 hu => ?_) ?_
       · clear hu
         go_simp
         first | done | rfl
       simp only [Act.put, nm1, nm2, nm3, i64_w]
       refine wpK_nil ?_
       intro w60 hu hap
       simp only [List.drop_succ_cons, List.drop_zero]
       replace hu := (Up.refl _).drew.trans hu
       obtain ⟨-, -, ⟨P52, q53, e0, ht51⟩, -, -, -, -, -, -, -, -, -, -⟩ := hap
       dsimp only at e0
       subst e0
       have hu61 := Aside0.mk hu
       clear hu
       refine wpList_nil ?_
       (try simp only [Exit.then, Exit.inBlock, ↓reduceIte, Nat.reduceEqDiff])
       refine hK38 _ _ ?_
       refine wp_seq_k (fun K62 hK62 => ?_)
       refine wp_seq_k (fun K63 hK63 => ?_)
       refine wp_region_lit ?_
       refine wpList_plain rfl (fun Ko hKo => ?_)
       go_simp
       refine hKo _ _ ?_
       clear hKo Ko
       try simp only [Act.put, nm1, nm2, nm3, i64_w]
       refine wpList_plain rfl (fun Ko hKo => ?_)
       go_simp
       refine hKo _ _ ?_
       clear hKo Ko
       try simp only [Act.put, nm1, nm2, nm3, i64_w]
       refine step_call (wanted_none rfl) (by first | (go_simp; done) | (go_simp; rfl)) (laws_eqInt64S.calls K P52 q53 t51 P28 q29 t27 true w60 ht51.rd ((ht27.up hu61.out).rd) A65.out) ?_
       rintro e w66 ⟨rfl, hu⟩
       have hu67 := Aside0.mk hu
       clear hu
       refine ⟨_, rfl, ?_⟩
       simp only [Act.put, nm1, nm2, nm3, i64_w]
       refine wpList_plain rfl (fun Ko hKo => ?_)
       go_simp
       refine hKo _ _ ?_
       clear hKo Ko
       try simp only [Act.put, nm1, nm2, nm3, i64_w]
       refine wpList_plain rfl (fun Ko hKo => ?_)
       go_simp
       refine hKo _ _ ?_
       clear hKo Ko
       try simp only [Act.put, nm1, nm2, nm3, i64_w]
       refine wpList_step (fun Ko hKo => ?_)
       go_simp
       refine hKo _ _ ?_
       clear hKo Ko
       try simp only [Act.put, nm1, nm2, nm3, i64_w]
       refine wpList_step (fun Ko hKo => ?_)
       go_simp
       refine hKo _ _ ?_
       clear hKo Ko
       try simp only [Act.put, nm1, nm2, nm3, i64_w]
       refine wpList_step (fun Ko hKo => ?_)
       go_simp
       refine hKo _ _ ?_
       clear hKo Ko
       try simp only [Act.put, nm1, nm2, nm3, i64_w]
       refine wpList_plain rfl (fun Ko hKo => ?_)
       go_simp
       refine hKo _ _ ?_
       clear hKo Ko
       try simp only [Act.put, nm1, nm2, nm3, i64_w]
       refine wpList_nil ?_
       (try simp only [Exit.then, Exit.inBlock, ↓reduceIte, Nat.reduceEqDiff])
       refine hK63 _ _ ?_
       refine wp_cond_false rfl ?_
       refine wp_skip ?_
       (try simp only [Exit.then, Exit.inBlock, ↓reduceIte, Nat.reduceEqDiff])
       refine hK62 _ _ ?_
       refine wp_seq_k (fun K70 hK70 => ?_)
       refine wp_region_lit ?_
       refine wpList_plain rfl (fun Ko hKo => ?_)
       go_simp
       refine hKo _ _ ?_
       clear hKo Ko
       try simp only [Act.put, nm1, nm2, nm3, i64_w]
       refine wpList_nil ?_
       (try simp only [Exit.then, Exit.inBlock, ↓reduceIte, Nat.reduceEqDiff])
       refine hK70 _ _ ?_
       refine wp_seq_k (fun K71 hK71 => ?_)
       refine wp_region_lit ?_
       refine wpList_plain rfl (fun Ko hKo => ?_)
       go_simp
       refine hKo _ _ ?_
       clear hKo Ko
       try simp only [Act.put, nm1, nm2, nm3, i64_w]
       refine wpList_plain rfl (fun Ko hKo => ?_)
       go_simp
       refine hKo _ _ ?_
       clear hKo Ko
       try simp only [Act.put, nm1, nm2, nm3, i64_w]
       refine step_call (wanted_none rfl) (by first | (go_simp; done) | (go_simp; rfl)) (laws_markInt64S.calls K P52 q53 w36.heap.size t51 1 t72 t73 w66 (ht51.up hu67.out) A74.out) ?_
       have lb76 := Aside0.mk (ht51.up hu67.out).lt
       rintro e w75 ⟨rfl, h77, hl, hg⟩
       have hg79 := Aside0.mk hg
       have hl78 := hl
       clear hg hl
       have hl80 : Aside0 (t51.length = t73.length) := Aside0.mk hl78.out
       refine ⟨_, rfl, ?_⟩
       simp only [Act.put, nm1, nm2, nm3, i64_w]
       refine wpList_plain rfl (fun Ko hKo => ?_)
       go_simp
       refine hKo _ _ ?_
       clear hKo Ko
       try simp only [Act.put, nm1, nm2, nm3, i64_w]
       refine wpList_nil ?_
       (try simp only [Exit.then, Exit.inBlock, ↓reduceIte, Nat.reduceEqDiff])
       refine hK71 _ _ ?_
       refine wp_seq_k (fun K81 hK81 => ?_)
       refine wp_region_lit ?_
       refine wpList_plain rfl (fun Ko hKo => ?_)
       go_simp
       refine hKo _ _ ?_
       clear hKo Ko
       try simp only [Act.put, nm1, nm2, nm3, i64_w]
       refine wpList_nil ?_
       (try simp only [Exit.then, Exit.inBlock, ↓reduceIte, Nat.reduceEqDiff])
       refine hK81 _ _ ?_
       refine wp_seq_k (fun K82 hK82 => ?_)
       refine wp_region_lit ?_
       refine wpList_plain rfl (fun Ko hKo => ?_)
       go_simp
       refine hKo _ _ ?_
       clear hKo Ko
       try simp only [Act.put, nm1, nm2, nm3, i64_w]
       refine wpList_plain rfl (fun Ko hKo => ?_)
       go_simp
       refine hKo _ _ ?_
       clear hKo Ko
       try simp only [Act.put, nm1, nm2, nm3, i64_w]
       refine step_call (wanted_none rfl) (by first | (go_simp; done) | (go_simp; rfl)) (Eq.mp (congrArg (fun n_ => Calls Try.prog 23 #[.slice P52 n_ q53, .int .i64 1] w75 _) (Eq.symm hl80.out)) (laws_heldInt64S.calls K P52 q53 t73 1 t83 w75 h77.rd A84.out)) ?_
       rintro e w85 ⟨rfl, hu⟩
       have hu86 := Aside0.mk hu
       clear hu
       refine ⟨_, rfl, ?_⟩
       simp only [Act.put, nm1, nm2, nm3, i64_w]
       refine wpList_plain rfl (fun Ko hKo => ?_)
       go_simp
       refine hKo _ _ ?_
       clear hKo Ko
       try simp only [Act.put, nm1, nm2, nm3, i64_w]
       refine wpList_nil ?_
       (try simp only [Exit.then, Exit.inBlock, ↓reduceIte, Nat.reduceEqDiff])
       refine hK82 _ _ ?_
       refine wp_seq_k (fun K87 hK87 => ?_)
       refine wp_seq_k (fun K88 hK88 => ?_)
       refine wp_region_lit ?_
       refine wpList_plain rfl (fun Ko hKo => ?_)
       go_simp
       refine hKo _ _ ?_
       clear hKo Ko
       try simp only [Act.put, nm1, nm2, nm3, i64_w]
       refine wpList_plain rfl (fun Ko hKo => ?_)
       go_simp
       refine hKo _ _ ?_
       clear hKo Ko
       try simp only [Act.put, nm1, nm2, nm3, i64_w]
       refine wpList_nil ?_
       (try simp only [Exit.then, Exit.inBlock, ↓reduceIte, Nat.reduceEqDiff])
       refine hK88 _ _ ?_
       refine wp_cond_false rfl ?_
       refine wp_skip ?_
       (try simp only [Exit.then, Exit.inBlock, ↓reduceIte, Nat.reduceEqDiff])
       refine hK87 _ _ ?_
       refine wp_seq_k (fun K91 hK91 => ?_)
       refine wp_seq_k (fun K92 hK92 => ?_)
       refine wp_region_lit ?_
       refine wpList_plain rfl (fun Ko hKo => ?_)
       go_simp
       refine hKo _ _ ?_
       clear hKo Ko
       try simp only [Act.put, nm1, nm2, nm3, i64_w]
       refine wpList_plain rfl (fun Ko hKo => ?_)
       go_simp
       refine hKo _ _ ?_
       clear hKo Ko
       try simp only [Act.put, nm1, nm2, nm3, i64_w]
       refine wpList_plain rfl (fun Ko hKo => ?_)
       go_simp
       refine hKo _ _ ?_
       clear hKo Ko
       try simp only [Act.put, nm1, nm2, nm3, i64_w]
       refine wpList_nil ?_
       (try simp only [Exit.then, Exit.inBlock, ↓reduceIte, Nat.reduceEqDiff])
       refine hK92 _ _ ?_
       refine wp_cond_true rfl ?_
       refine wp_seq_k (fun K143 hK143 => ?_)
       refine wp_region_lit ?_
       refine wpList_plain rfl (fun Ko hKo => ?_)
       go_simp
       refine hKo _ _ ?_
       clear hKo Ko
       try simp only [Act.put, nm1, nm2, nm3, i64_w]
       refine wpList_nil ?_
       (try simp only [Exit.then, Exit.inBlock, ↓reduceIte, Nat.reduceEqDiff])
       refine hK143 _ _ ?_
       refine wp_ret ?_
       (try simp only [Exit.then, Exit.inBlock, ↓reduceIte, Nat.reduceEqDiff])
       refine hQf _ _ _ ?_
       exact bodyPost_ret (v := .bool false) (by first | rfl | (simp [results, Try.results5, go_sem]; done) | (simp [results, Try.results5, go_sem]; rfl)) rfl ⟨rfl, ((((((((hu4.out.trans hu7.out).trans hu10.out).trans hu13.out).trans hu37.out).trans hu61.out).trans hu67.out).grow hg79.out (fun k hk => Nat.le_trans ((Nat.le_trans ((Nat.le_trans ((Nat.le_trans ((Nat.le_trans (hu4.out.size) hu7.out.size)) hu10.out.size)) hu13.out.size)) hu37.out.size)) ((fun k hk => (lb76.out k hk).1) k hk))).trans hu86.out)⟩
  ·
   rw [if_neg c69] at H
   replace c69 := Bool.eq_false_iff.mpr c69
   have c69n : (t54 != t30) = true := by rw [bne, c69]; rfl
   have c69p : ¬ t54 = t30 := fun e => by simp [e] at c69
   obtain rfl := Option.some.inj H
   go_enter Try.func5, Try.ntmps5
   refine wp_hide (fun Qf hQf => ?_)
   refine wp_seq_k (fun K1 hK1 => ?_)
   refine wp_region_lit ?_
   refine step_new (cs := [.int .i64 a1_0, .int .i64 a1_1]) (T := 22) (f := fun b => .pointer (some ⟨b, 0, none⟩)) rfl (by first | (go_simp; done) | (go_simp; rfl)) ?_
   intro b2 w3 hu lb hb2
   simp only [Act.put, nm1, nm2, nm3, i64_w]
   have lbb2 := Aside0.mk lb
   have ltb2 := Aside0.mk hb2.lt
   clear lb
   have hu4 := Aside0.mk hu
   clear hu
   refine step_new (cs := [.int .i64 a2_0, .int .i64 a2_1]) (T := 22) (f := fun b => .pointer (some ⟨b, 0, none⟩)) rfl (by first | (go_simp; done) | (go_simp; rfl)) ?_
   intro b5 w6 hu lb hb5
   simp only [Act.put, nm1, nm2, nm3, i64_w]
   have lbb5 := Aside0.mk lb
   have ltb5 := Aside0.mk hb5.lt
   clear lb
   have hu7 := Aside0.mk hu
   clear hu
   refine step_new (cs := [.int .i64 a3_0, .int .i64 a3_1]) (T := 22) (f := fun b => .pointer (some ⟨b, 0, none⟩)) rfl (by first | (go_simp; done) | (go_simp; rfl)) ?_
   intro b8 w9 hu lb hb8
   simp only [Act.put, nm1, nm2, nm3, i64_w]
   have lbb8 := Aside0.mk lb
   have ltb8 := Aside0.mk hb8.lt
   clear lb
   have hu10 := Aside0.mk hu
   clear hu
   refine step_new (cs := [.int .i64 a4_0, .int .i64 a4_1]) (T := 22) (f := fun b => .pointer (some ⟨b, 0, none⟩)) rfl (by first | (go_simp; done) | (go_simp; rfl)) ?_
   intro b11 w12 hu lb hb11
   simp only [Act.put, nm1, nm2, nm3, i64_w]
   have lbb11 := Aside0.mk lb
   have ltb11 := Aside0.mk hb11.lt
   clear lb
   have hu13 := Aside0.mk hu
   clear hu
   refine wpList_plain rfl (fun Ko hKo => ?_)
   go_simp
   refine hKo _ _ ?_
   clear hKo Ko
   try simp only [Act.put, nm1, nm2, nm3, i64_w]
   refine wpList_nil ?_
   (try simp only [Exit.then, Exit.inBlock, ↓reduceIte, Nat.reduceEqDiff])
   refine hK1 _ _ ?_
   refine wp_seq_k (fun K14 hK14 => ?_)
   refine' wp_region_up 15 [Slot.det _, Slot.det _, Slot.det (.agg #[.int .i64 t15, .int .i64 t16]), Slot.det _, Slot.det (.agg #[.int .i64 t18, .int .i64 t19]), Slot.det _, Slot.det (.agg #[.int .i64 t21, .int .i64 t22]), Slot.det _, Slot.det (.agg #[.int .i64 t24, .int .i64 t25]), Slot.any (RowTo eI 2 w12.heap.size t27 (fun v => .tuple #[v, .int .i64 t30])) false, Slot.any (RowTo eI 2 w12.heap.size t27 (fun v => .tuple #[v, .int .i64 t30])) false, Slot.any (RowTo eI 2 w12.heap.size t27 (fun v => v)) false, Slot.det (.int .i64 t30), Slot.any (RowTo eI 2 w12.heap.size t27 (fun v => v)) false, Slot.det _] (by kernel_rfl) (by kernel_rfl) ?main
   case main =>
    simp only [List.take_succ_cons, List.take_zero]
    refine wpK_ops rfl (fun w1 hu => ?_) ?_
    · clear hu
      go_simp
      first | done | rfl
    simp only [Act.put, nm1, nm2, nm3, i64_w]
    refine wpK_ops rfl (fun w1 hu => ?_) ?_
    · have cl0 := ((hb2.up ((hu7.out.trans hu10.out).trans hu13.out)).up ((Up.refl _).drew.trans hu)).cell (o := 0) rfl
      have cl1 := ((hb2.up ((hu7.out.trans hu10.out).trans hu13.out)).up ((Up.refl _).drew.trans hu)).cell (o := 1) rfl
      go_simp
      first | done | rfl
    simp only [Act.put, nm1, nm2, nm3, i64_w]
    refine wpK_ops rfl (fun w1 hu => ?_) ?_
    · have hcl := (laws_toPoint.calls K a1_0 a1_1 t15 t16 w1  A17.out)
      clear hu
      replace hcl := Aside0.mk hcl
      go_simp
      exact hcl.out
    simp only [Act.put, nm1, nm2, nm3, i64_w]
    refine wpK_ops rfl (fun w1 hu => ?_) ?_
    · have cl0 := ((hb5.up (hu10.out.trans hu13.out)).up ((Up.refl _).drew.trans hu)).cell (o := 0) rfl
      have cl1 := ((hb5.up (hu10.out.trans hu13.out)).up ((Up.refl _).drew.trans hu)).cell (o := 1) rfl
      go_simp
      first | done | rfl
    simp only [Act.put, nm1, nm2, nm3, i64_w]
    refine wpK_ops rfl (fun w1 hu => ?_) ?_
    · have hcl := (laws_toPoint.calls K a2_0 a2_1 t18 t19 w1  A20.out)
      clear hu
      replace hcl := Aside0.mk hcl
      go_simp
      exact hcl.out
    simp only [Act.put, nm1, nm2, nm3, i64_w]
    refine wpK_ops rfl (fun w1 hu => ?_) ?_
    · have cl0 := ((hb8.up hu13.out).up ((Up.refl _).drew.trans hu)).cell (o := 0) rfl
      have cl1 := ((hb8.up hu13.out).up ((Up.refl _).drew.trans hu)).cell (o := 1) rfl
      go_simp
      first | done | rfl
    simp only [Act.put, nm1, nm2, nm3, i64_w]
    refine wpK_ops rfl (fun w1 hu => ?_) ?_
    · have hcl := (laws_toPoint.calls K a3_0 a3_1 t21 t22 w1  A23.out)
      clear hu
      replace hcl := Aside0.mk hcl
      go_simp
      exact hcl.out
    simp only [Act.put, nm1, nm2, nm3, i64_w]
    refine wpK_ops rfl (fun w1 hu => ?_) ?_
    · have cl0 := (hb11.up ((Up.refl _).drew.trans hu)).cell (o := 0) rfl
      have cl1 := (hb11.up ((Up.refl _).drew.trans hu)).cell (o := 1) rfl
      go_simp
      first | done | rfl
    simp only [Act.put, nm1, nm2, nm3, i64_w]
    refine wpK_ops rfl (fun w1 hu => ?_) ?_
    · have hcl := (laws_toPoint.calls K a4_0 a4_1 t24 t25 w1  A26.out)
      clear hu
      replace hcl := Aside0.mk hcl
      go_simp
      exact hcl.out
    simp only [Act.put, nm1, nm2, nm3, i64_w]
    refine wpK_any rfl (stab_row _ _ _ _ _) (fun w1 hu hl => ?_) (fun v32 => ?_)
    · have hcl := spec_WeightsOf.calls K a0 t15 t16 t18 t19 t21 t22 t24 t25 t27 t30 w1  A31.out
      have hz := ((Up.refl _).drew.trans hu).size
      clear hu
      replace hcl := Aside0.mk hcl
      exact fresh_row (by first | (go_simp; done) | (go_simp; rfl)) hcl.out hz
    simp only [Act.put, nm1, nm2, nm3, i64_w]
    refine wpK_any rfl (stab_row _ _ _ _ _) (fun w1 hu hl => ?_) (fun v33 => ?_)
    · exact any_of_run (by first | (go_simp; done) | (go_simp; rfl)) (hl.1 (by kernel_rfl))
    simp only [Act.put, nm1, nm2, nm3, i64_w]
    refine wpK_any rfl (stab_row _ _ _ _ _) (fun w1 hu hl => ?_) (fun v34 => ?_)
    · obtain ⟨A0_, c0_, e0_, hO0_⟩ := hl.1 (by kernel_rfl)
      clear hl hu
      dsimp only at e0_
      subst e0_
      exact any_of_run (u := .slice A0_ t27.length c0_) (by first | (go_simp; done) | (go_simp; rfl)) ⟨A0_, c0_, rfl, hO0_⟩
    simp only [Act.put, nm1, nm2, nm3, i64_w]
    refine wpK_det rfl (fun w1 hu hl => ?_) ?_
    · obtain ⟨A0_, c0_, e0_, hO0_⟩ := hl.2.1 (by kernel_rfl)
      clear hl hu
      dsimp only at e0_
      subst e0_
      clear hO0_
      go_simp
      first | done | rfl
    simp only [Act.put, nm1, nm2, nm3, i64_w]
    refine wpK_any rfl (stab_row _ _ _ _ _) (fun w1 hu hl => ?_) (fun v35 => ?_)
    · exact any_of_run (by first | (go_simp; done) | (go_simp; rfl)) (hl.1 (by kernel_rfl))
    simp only [Act.put, nm1, nm2, nm3, i64_w]
    refine wpK_ops rfl (fun w1 hu => ?_) ?_
    · clear hu
      go_simp
      first | done | rfl
    simp only [Act.put, nm1, nm2, nm3, i64_w]
    refine wpK_nil ?_
    intro w36 hu hap
    simp only [List.drop_succ_cons, List.drop_zero]
    replace hu := (Up.refl _).drew.trans hu
    obtain ⟨-, -, ⟨P28, q29, e0, ht27⟩, -, -, -, -, -, -, -, -, -, -⟩ := hap
    dsimp only at e0
    subst e0
    have hu37 := Aside0.mk hu
    clear hu
    refine wpList_nil ?_
    (try simp only [Exit.then, Exit.inBlock, ↓reduceIte, Nat.reduceEqDiff])
    refine hK14 _ _ ?_
    refine wp_seq_k (fun K38 hK38 => ?_)
    refine' wp_region_up 15 [Slot.det _, Slot.det _, Slot.det (.agg #[.int .i64 t39, .int .i64 t40]), Slot.det _, Slot.det (.agg #[.int .i64 t42, .int .i64 t43]), Slot.det _, Slot.det (.agg #[.int .i64 t45, .int .i64 t46]), Slot.det _, Slot.det (.agg #[.int .i64 t48, .int .i64 t49]), Slot.any (RowTo eI 2 w36.heap.size t51 (fun v => .tuple #[v, .int .i64 t54])) false, Slot.any (RowTo eI 2 w36.heap.size t51 (fun v => .tuple #[v, .int .i64 t54])) false, Slot.any (RowTo eI 2 w36.heap.size t51 (fun v => v)) false, Slot.det (.int .i64 t54), Slot.any (RowTo eI 2 w36.heap.size t51 (fun v => v)) false, Slot.det _] (by kernel_rfl) (by kernel_rfl) ?main
    case main =>
     simp only [List.take_succ_cons, List.take_zero]
     refine wpK_ops rfl (fun w1 hu => ?_) ?_
     · clear hu
       go_simp
       first | done | rfl
     simp only [Act.put, nm1, nm2, nm3, i64_w]
     refine wpK_ops rfl (fun w1 hu => ?_) ?_
     · have cl0 := ((hb2.up (((hu7.out.trans hu10.out).trans hu13.out).trans hu37.out)).up ((Up.refl _).drew.trans hu)).cell (o := 0) rfl
       have cl1 := ((hb2.up (((hu7.out.trans hu10.out).trans hu13.out).trans hu37.out)).up ((Up.refl _).drew.trans hu)).cell (o := 1) rfl
       go_simp
       first | done | rfl
     simp only [Act.put, nm1, nm2, nm3, i64_w]
     refine wpK_ops rfl (fun w1 hu => ?_) ?_
     · have hcl := (laws_toPoint.calls K a1_0 a1_1 t39 t40 w1  A41.out)
       clear hu
       replace hcl := Aside0.mk hcl
       go_simp
       exact hcl.out
     simp only [Act.put, nm1, nm2, nm3, i64_w]
     refine wpK_ops rfl (fun w1 hu => ?_) ?_
     · have cl0 := ((hb5.up ((hu10.out.trans hu13.out).trans hu37.out)).up ((Up.refl _).drew.trans hu)).cell (o := 0) rfl
       have cl1 := ((hb5.up ((hu10.out.trans hu13.out).trans hu37.out)).up ((Up.refl _).drew.trans hu)).cell (o := 1) rfl
       go_simp
       first | done | rfl
     simp only [Act.put, nm1, nm2, nm3, i64_w]
     refine wpK_ops rfl (fun w1 hu => ?_) ?_
     · have hcl := (laws_toPoint.calls K a2_0 a2_1 t42 t43 w1  A44.out)
       clear hu
       replace hcl := Aside0.mk hcl
       go_simp
       exact hcl.out
     simp only [Act.put, nm1, nm2, nm3, i64_w]
     refine wpK_ops rfl (fun w1 hu => ?_) ?_
     · have cl0 := ((hb8.up (hu13.out.trans hu37.out)).up ((Up.refl _).drew.trans hu)).cell (o := 0) rfl
       have cl1 := ((hb8.up (hu13.out.trans hu37.out)).up ((Up.refl _).drew.trans hu)).cell (o := 1) rfl
       go_simp
       first | done | rfl
     simp only [Act.put, nm1, nm2, nm3, i64_w]
     refine wpK_ops rfl (fun w1 hu => ?_) ?_
     · have hcl := (laws_toPoint.calls K a3_0 a3_1 t45 t46 w1  A47.out)
       clear hu
       replace hcl := Aside0.mk hcl
       go_simp
       exact hcl.out
     simp only [Act.put, nm1, nm2, nm3, i64_w]
     refine wpK_ops rfl (fun w1 hu => ?_) ?_
     · have cl0 := ((hb11.up hu37.out).up ((Up.refl _).drew.trans hu)).cell (o := 0) rfl
       have cl1 := ((hb11.up hu37.out).up ((Up.refl _).drew.trans hu)).cell (o := 1) rfl
       go_simp
       first | done | rfl
     simp only [Act.put, nm1, nm2, nm3, i64_w]
     refine wpK_ops rfl (fun w1 hu => ?_) ?_
     · have hcl := (laws_toPoint.calls K a4_0 a4_1 t48 t49 w1  A50.out)
       clear hu
       replace hcl := Aside0.mk hcl
       go_simp
       exact hcl.out
     simp only [Act.put, nm1, nm2, nm3, i64_w]
     refine wpK_any rfl (stab_row _ _ _ _ _) (fun w1 hu hl => ?_) (fun v56 => ?_)
     · have hcl := impl_WeightsOf.calls K a0 t39 t40 t42 t43 t45 t46 t48 t49 t51 t54 w1  A55.out
       have hz := ((Up.refl _).drew.trans hu).size
       clear hu
       replace hcl := Aside0.mk hcl
       exact fresh_row (by first | (go_simp; done) | (go_simp; rfl)) hcl.out hz
     simp only [Act.put, nm1, nm2, nm3, i64_w]
     refine wpK_any rfl (stab_row _ _ _ _ _) (fun w1 hu hl => ?_) (fun v57 => ?_)
     · exact any_of_run (by first | (go_simp; done) | (go_simp; rfl)) (hl.1 (by kernel_rfl))
     simp only [Act.put, nm1, nm2, nm3, i64_w]
     refine wpK_any rfl (stab_row _ _ _ _ _) (fun w1 hu hl => ?_) (fun v58 => ?_)
     · obtain ⟨A0_, c0_, e0_, hO0_⟩ := hl.1 (by kernel_rfl)
       clear hl hu
       dsimp only at e0_
       subst e0_
       exact any_of_run (u := .slice A0_ t51.length c0_) (by first | (go_simp; done) | (go_simp; rfl)) ⟨A0_, c0_, rfl, hO0_⟩
     simp only [Act.put, nm1, nm2, nm3, i64_w]
     refine wpK_det rfl (fun w1 hu hl => ?_) ?_
     · obtain ⟨A0_, c0_, e0_, hO0_⟩ := hl.2.1 (by kernel_rfl)
       clear hl hu
       dsimp only at e0_
       subst e0_
       clear hO0_
       go_simp
       first | done | rfl
     simp only [Act.put, nm1, nm2, nm3, i64_w]
     refine wpK_any rfl (stab_row _ _ _ _ _) (fun w1 hu hl => ?_) (fun v59 => ?_)
     · exact any_of_run (by first | (go_simp; done) | (go_simp; rfl)) (hl.1 (by kernel_rfl))
     simp only [Act.put, nm1, nm2, nm3, i64_w]
     refine wpK_ops rfl (fun w1 hu => ?_) ?_
     · clear hu
       go_simp
       first | done | rfl
     simp only [Act.put, nm1, nm2, nm3, i64_w]
     refine wpK_nil ?_
     intro w60 hu hap
     simp only [List.drop_succ_cons, List.drop_zero]
     replace hu := (Up.refl _).drew.trans hu
     obtain ⟨-, -, ⟨P52, q53, e0, ht51⟩, -, -, -, -, -, -, -, -, -, -⟩ := hap
     dsimp only at e0
     subst e0
     have hu61 := Aside0.mk hu
     clear hu
     refine wpList_nil ?_
     (try simp only [Exit.then, Exit.inBlock, ↓reduceIte, Nat.reduceEqDiff])
     refine hK38 _ _ ?_
     refine wp_seq_k (fun K62 hK62 => ?_)
     refine wp_seq_k (fun K63 hK63 => ?_)
     refine wp_region_lit ?_
     refine wpList_plain rfl (fun Ko hKo => ?_)
     go_simp
     refine hKo _ _ ?_
     clear hKo Ko
     try simp only [Act.put, nm1, nm2, nm3, i64_w]
     refine wpList_plain rfl (fun Ko hKo => ?_)
     go_simp
     refine hKo _ _ ?_
     clear hKo Ko
     try simp only [Act.put, nm1, nm2, nm3, i64_w]
     refine step_call (wanted_none rfl) (by first | (go_simp; done) | (go_simp; rfl)) (laws_eqInt64S.calls K P52 q53 t51 P28 q29 t27 true w60 ht51.rd ((ht27.up hu61.out).rd) A65.out) ?_
     rintro e w66 ⟨rfl, hu⟩
     have hu67 := Aside0.mk hu
     clear hu
     refine ⟨_, rfl, ?_⟩
     simp only [Act.put, nm1, nm2, nm3, i64_w]
     refine wpList_plain rfl (fun Ko hKo => ?_)
     go_simp
     refine hKo _ _ ?_
     clear hKo Ko
     try simp only [Act.put, nm1, nm2, nm3, i64_w]
     refine wpList_plain rfl (fun Ko hKo => ?_)
     go_simp
     refine hKo _ _ ?_
     clear hKo Ko
     try simp only [Act.put, nm1, nm2, nm3, i64_w]
     refine wpList_step (fun Ko hKo => ?_)
     go_simp
     refine hKo _ _ ?_
     clear hKo Ko
     try simp only [Act.put, nm1, nm2, nm3, i64_w]
     refine wpList_step (fun Ko hKo => ?_)
     go_simp
     refine hKo _ _ ?_
     clear hKo Ko
     try simp only [Act.put, nm1, nm2, nm3, i64_w]
     refine wpList_step (fun Ko hKo => ?_)
     go_simp
     refine hKo _ _ ?_
     clear hKo Ko
     try simp only [Act.put, nm1, nm2, nm3, i64_w]
     refine wpList_plain rfl (fun Ko hKo => ?_)
     go_simp
     refine hKo _ _ ?_
     clear hKo Ko
     try simp only [Act.put, nm1, nm2, nm3, i64_w]
     refine wpList_nil ?_
     (try simp only [Exit.then, Exit.inBlock, ↓reduceIte, Nat.reduceEqDiff])
     refine hK63 _ _ ?_
     refine wp_cond_true rfl ?_
     refine wp_seq_k (fun K144 hK144 => ?_)
     refine wp_region_lit ?_
     refine wpList_plain rfl (fun Ko hKo => ?_)
     go_simp
     refine hKo _ _ ?_
     clear hKo Ko
     try simp only [Act.put, nm1, nm2, nm3, i64_w]
     refine wpList_nil ?_
     (try simp only [Exit.then, Exit.inBlock, ↓reduceIte, Nat.reduceEqDiff])
     refine hK144 _ _ ?_
     refine wp_ret ?_
     (try simp only [Exit.then, Exit.inBlock, ↓reduceIte, Nat.reduceEqDiff])
     refine hQf _ _ _ ?_
     exact bodyPost_ret (v := .bool false) (by first | rfl | (simp [results, Try.results5, go_sem]; done) | (simp [results, Try.results5, go_sem]; rfl)) rfl ⟨rfl, ((((((hu4.out.trans hu7.out).trans hu10.out).trans hu13.out).trans hu37.out).trans hu61.out).trans hu67.out)⟩
 ·
  rw [if_neg c68] at H
  replace c68 := Bool.eq_false_iff.mpr c68
  subst c68
  obtain rfl := Option.some.inj H
  go_enter Try.func5, Try.ntmps5
  refine wp_hide (fun Qf hQf => ?_)
  refine wp_seq_k (fun K1 hK1 => ?_)
  refine wp_region_lit ?_
  refine step_new (cs := [.int .i64 a1_0, .int .i64 a1_1]) (T := 22) (f := fun b => .pointer (some ⟨b, 0, none⟩)) rfl (by first | (go_simp; done) | (go_simp; rfl)) ?_
  intro b2 w3 hu lb hb2
  simp only [Act.put, nm1, nm2, nm3, i64_w]
  have lbb2 := Aside0.mk lb
  have ltb2 := Aside0.mk hb2.lt
  clear lb
  have hu4 := Aside0.mk hu
  clear hu
  refine step_new (cs := [.int .i64 a2_0, .int .i64 a2_1]) (T := 22) (f := fun b => .pointer (some ⟨b, 0, none⟩)) rfl (by first | (go_simp; done) | (go_simp; rfl)) ?_
  intro b5 w6 hu lb hb5
  simp only [Act.put, nm1, nm2, nm3, i64_w]
  have lbb5 := Aside0.mk lb
  have ltb5 := Aside0.mk hb5.lt
  clear lb
  have hu7 := Aside0.mk hu
  clear hu
  refine step_new (cs := [.int .i64 a3_0, .int .i64 a3_1]) (T := 22) (f := fun b => .pointer (some ⟨b, 0, none⟩)) rfl (by first | (go_simp; done) | (go_simp; rfl)) ?_
  intro b8 w9 hu lb hb8
  simp only [Act.put, nm1, nm2, nm3, i64_w]
  have lbb8 := Aside0.mk lb
  have ltb8 := Aside0.mk hb8.lt
  clear lb
  have hu10 := Aside0.mk hu
  clear hu
  refine step_new (cs := [.int .i64 a4_0, .int .i64 a4_1]) (T := 22) (f := fun b => .pointer (some ⟨b, 0, none⟩)) rfl (by first | (go_simp; done) | (go_simp; rfl)) ?_
  intro b11 w12 hu lb hb11
  simp only [Act.put, nm1, nm2, nm3, i64_w]
  have lbb11 := Aside0.mk lb
  have ltb11 := Aside0.mk hb11.lt
  clear lb
  have hu13 := Aside0.mk hu
  clear hu
  refine wpList_plain rfl (fun Ko hKo => ?_)
  go_simp
  refine hKo _ _ ?_
  clear hKo Ko
  try simp only [Act.put, nm1, nm2, nm3, i64_w]
  refine wpList_nil ?_
  (try simp only [Exit.then, Exit.inBlock, ↓reduceIte, Nat.reduceEqDiff])
  refine hK1 _ _ ?_
  refine wp_seq_k (fun K14 hK14 => ?_)
  refine' wp_region_up 15 [Slot.det _, Slot.det _, Slot.det (.agg #[.int .i64 t15, .int .i64 t16]), Slot.det _, Slot.det (.agg #[.int .i64 t18, .int .i64 t19]), Slot.det _, Slot.det (.agg #[.int .i64 t21, .int .i64 t22]), Slot.det _, Slot.det (.agg #[.int .i64 t24, .int .i64 t25]), Slot.any (RowTo eI 2 w12.heap.size t27 (fun v => .tuple #[v, .int .i64 t30])) false, Slot.any (RowTo eI 2 w12.heap.size t27 (fun v => .tuple #[v, .int .i64 t30])) false, Slot.any (RowTo eI 2 w12.heap.size t27 (fun v => v)) false, Slot.det (.int .i64 t30), Slot.any (RowTo eI 2 w12.heap.size t27 (fun v => v)) false, Slot.det _] (by kernel_rfl) (by kernel_rfl) ?main
  case main =>
   simp only [List.take_succ_cons, List.take_zero]
   refine wpK_ops rfl (fun w1 hu => ?_) ?_
   · clear hu
     go_simp
     first | done | rfl
   simp only [Act.put, nm1, nm2, nm3, i64_w]
   refine wpK_ops rfl (fun w1 hu => ?_) ?_
   · have cl0 := ((hb2.up ((hu7.out.trans hu10.out).trans hu13.out)).up ((Up.refl _).drew.trans hu)).cell (o := 0) rfl
     have cl1 := ((hb2.up ((hu7.out.trans hu10.out).trans hu13.out)).up ((Up.refl _).drew.trans hu)).cell (o := 1) rfl
     go_simp
     first | done | rfl
   simp only [Act.put, nm1, nm2, nm3, i64_w]
   refine wpK_ops rfl (fun w1 hu => ?_) ?_
   · have hcl := (laws_toPoint.calls K a1_0 a1_1 t15 t16 w1  A17.out)
     clear hu
     replace hcl := Aside0.mk hcl
     go_simp
     exact hcl.out
   simp only [Act.put, nm1, nm2, nm3, i64_w]
   refine wpK_ops rfl (fun w1 hu => ?_) ?_
   · have cl0 := ((hb5.up (hu10.out.trans hu13.out)).up ((Up.refl _).drew.trans hu)).cell (o := 0) rfl
     have cl1 := ((hb5.up (hu10.out.trans hu13.out)).up ((Up.refl _).drew.trans hu)).cell (o := 1) rfl
     go_simp
     first | done | rfl
   simp only [Act.put, nm1, nm2, nm3, i64_w]
   refine wpK_ops rfl (fun w1 hu => ?_) ?_
   · have hcl := (laws_toPoint.calls K a2_0 a2_1 t18 t19 w1  A20.out)
     clear hu
     replace hcl := Aside0.mk hcl
     go_simp
     exact hcl.out
   simp only [Act.put, nm1, nm2, nm3, i64_w]
   refine wpK_ops rfl (fun w1 hu => ?_) ?_
   · have cl0 := ((hb8.up hu13.out).up ((Up.refl _).drew.trans hu)).cell (o := 0) rfl
     have cl1 := ((hb8.up hu13.out).up ((Up.refl _).drew.trans hu)).cell (o := 1) rfl
     go_simp
     first | done | rfl
   simp only [Act.put, nm1, nm2, nm3, i64_w]
   refine wpK_ops rfl (fun w1 hu => ?_) ?_
   · have hcl := (laws_toPoint.calls K a3_0 a3_1 t21 t22 w1  A23.out)
     clear hu
     replace hcl := Aside0.mk hcl
     go_simp
     exact hcl.out
   simp only [Act.put, nm1, nm2, nm3, i64_w]
   refine wpK_ops rfl (fun w1 hu => ?_) ?_
   · have cl0 := (hb11.up ((Up.refl _).drew.trans hu)).cell (o := 0) rfl
     have cl1 := (hb11.up ((Up.refl _).drew.trans hu)).cell (o := 1) rfl
     go_simp
     first | done | rfl
   simp only [Act.put, nm1, nm2, nm3, i64_w]
   refine wpK_ops rfl (fun w1 hu => ?_) ?_
   · have hcl := (laws_toPoint.calls K a4_0 a4_1 t24 t25 w1  A26.out)
     clear hu
     replace hcl := Aside0.mk hcl
     go_simp
     exact hcl.out
   simp only [Act.put, nm1, nm2, nm3, i64_w]
   refine wpK_any rfl (stab_row _ _ _ _ _) (fun w1 hu hl => ?_) (fun v32 => ?_)
   · have hcl := spec_WeightsOf.calls K a0 t15 t16 t18 t19 t21 t22 t24 t25 t27 t30 w1  A31.out
     have hz := ((Up.refl _).drew.trans hu).size
     clear hu
     replace hcl := Aside0.mk hcl
     exact fresh_row (by first | (go_simp; done) | (go_simp; rfl)) hcl.out hz
   simp only [Act.put, nm1, nm2, nm3, i64_w]
   refine wpK_any rfl (stab_row _ _ _ _ _) (fun w1 hu hl => ?_) (fun v33 => ?_)
   · exact any_of_run (by first | (go_simp; done) | (go_simp; rfl)) (hl.1 (by kernel_rfl))
   simp only [Act.put, nm1, nm2, nm3, i64_w]
   refine wpK_any rfl (stab_row _ _ _ _ _) (fun w1 hu hl => ?_) (fun v34 => ?_)
   · obtain ⟨A0_, c0_, e0_, hO0_⟩ := hl.1 (by kernel_rfl)
     clear hl hu
     dsimp only at e0_
     subst e0_
     exact any_of_run (u := .slice A0_ t27.length c0_) (by first | (go_simp; done) | (go_simp; rfl)) ⟨A0_, c0_, rfl, hO0_⟩
   simp only [Act.put, nm1, nm2, nm3, i64_w]
   refine wpK_det rfl (fun w1 hu hl => ?_) ?_
   · obtain ⟨A0_, c0_, e0_, hO0_⟩ := hl.2.1 (by kernel_rfl)
     clear hl hu
     dsimp only at e0_
     subst e0_
     clear hO0_
     go_simp
     first | done | rfl
   simp only [Act.put, nm1, nm2, nm3, i64_w]
   refine wpK_any rfl (stab_row _ _ _ _ _) (fun w1 hu hl => ?_) (fun v35 => ?_)
   · exact any_of_run (by first | (go_simp; done) | (go_simp; rfl)) (hl.1 (by kernel_rfl))
   simp only [Act.put, nm1, nm2, nm3, i64_w]
   refine wpK_ops rfl (fun w1 hu => ?_) ?_
   · clear hu
     go_simp
     first | done | rfl
   simp only [Act.put, nm1, nm2, nm3, i64_w]
   refine wpK_nil ?_
   intro w36 hu hap
   simp only [List.drop_succ_cons, List.drop_zero]
   replace hu := (Up.refl _).drew.trans hu
   obtain ⟨-, -, ⟨P28, q29, e0, ht27⟩, -, -, -, -, -, -, -, -, -, -⟩ := hap
   dsimp only at e0
   subst e0
   have hu37 := Aside0.mk hu
   clear hu
   refine wpList_nil ?_
   (try simp only [Exit.then, Exit.inBlock, ↓reduceIte, Nat.reduceEqDiff])
   refine hK14 _ _ ?_
   refine wp_seq_k (fun K38 hK38 => ?_)
   refine' wp_region_up 15 [Slot.det _, Slot.det _, Slot.det (.agg #[.int .i64 t39, .int .i64 t40]), Slot.det _, Slot.det (.agg #[.int .i64 t42, .int .i64 t43]), Slot.det _, Slot.det (.agg #[.int .i64 t45, .int .i64 t46]), Slot.det _, Slot.det (.agg #[.int .i64 t48, .int .i64 t49]), Slot.any (RowTo eI 2 w36.heap.size t51 (fun v => .tuple #[v, .int .i64 t54])) false, Slot.any (RowTo eI 2 w36.heap.size t51 (fun v => .tuple #[v, .int .i64 t54])) false, Slot.any (RowTo eI 2 w36.heap.size t51 (fun v => v)) false, Slot.det (.int .i64 t54), Slot.any (RowTo eI 2 w36.heap.size t51 (fun v => v)) false, Slot.det _] (by kernel_rfl) (by kernel_rfl) ?main
   case main =>
    simp only [List.take_succ_cons, List.take_zero]
    refine wpK_ops rfl (fun w1 hu => ?_) ?_
    · clear hu
      go_simp
      first | done | rfl
    simp only [Act.put, nm1, nm2, nm3, i64_w]
    refine wpK_ops rfl (fun w1 hu => ?_) ?_
    · have cl0 := ((hb2.up (((hu7.out.trans hu10.out).trans hu13.out).trans hu37.out)).up ((Up.refl _).drew.trans hu)).cell (o := 0) rfl
      have cl1 := ((hb2.up (((hu7.out.trans hu10.out).trans hu13.out).trans hu37.out)).up ((Up.refl _).drew.trans hu)).cell (o := 1) rfl
      go_simp
      first | done | rfl
    simp only [Act.put, nm1, nm2, nm3, i64_w]
    refine wpK_ops rfl (fun w1 hu => ?_) ?_
    · have hcl := (laws_toPoint.calls K a1_0 a1_1 t39 t40 w1  A41.out)
      clear hu
      replace hcl := Aside0.mk hcl
      go_simp
      exact hcl.out
    simp only [Act.put, nm1, nm2, nm3, i64_w]
    refine wpK_ops rfl (fun w1 hu => ?_) ?_
    · have cl0 := ((hb5.up ((hu10.out.trans hu13.out).trans hu37.out)).up ((Up.refl _).drew.trans hu)).cell (o := 0) rfl
      have cl1 := ((hb5.up ((hu10.out.trans hu13.out).trans hu37.out)).up ((Up.refl _).drew.trans hu)).cell (o := 1) rfl
      go_simp
      first | done | rfl
    simp only [Act.put, nm1, nm2, nm3, i64_w]
    refine wpK_ops rfl (fun w1 hu => ?_) ?_
    · have hcl := (laws_toPoint.calls K a2_0 a2_1 t42 t43 w1  A44.out)
      clear hu
      replace hcl := Aside0.mk hcl
      go_simp
      exact hcl.out
    simp only [Act.put, nm1, nm2, nm3, i64_w]
    refine wpK_ops rfl (fun w1 hu => ?_) ?_
    · have cl0 := ((hb8.up (hu13.out.trans hu37.out)).up ((Up.refl _).drew.trans hu)).cell (o := 0) rfl
      have cl1 := ((hb8.up (hu13.out.trans hu37.out)).up ((Up.refl _).drew.trans hu)).cell (o := 1) rfl
      go_simp
      first | done | rfl
    simp only [Act.put, nm1, nm2, nm3, i64_w]
    refine wpK_ops rfl (fun w1 hu => ?_) ?_
    · have hcl := (laws_toPoint.calls K a3_0 a3_1 t45 t46 w1  A47.out)
      clear hu
      replace hcl := Aside0.mk hcl
      go_simp
      exact hcl.out
    simp only [Act.put, nm1, nm2, nm3, i64_w]
    refine wpK_ops rfl (fun w1 hu => ?_) ?_
    · have cl0 := ((hb11.up hu37.out).up ((Up.refl _).drew.trans hu)).cell (o := 0) rfl
      have cl1 := ((hb11.up hu37.out).up ((Up.refl _).drew.trans hu)).cell (o := 1) rfl
      go_simp
      first | done | rfl
    simp only [Act.put, nm1, nm2, nm3, i64_w]
    refine wpK_ops rfl (fun w1 hu => ?_) ?_
    · have hcl := (laws_toPoint.calls K a4_0 a4_1 t48 t49 w1  A50.out)
      clear hu
      replace hcl := Aside0.mk hcl
      go_simp
      exact hcl.out
    simp only [Act.put, nm1, nm2, nm3, i64_w]
    refine wpK_any rfl (stab_row _ _ _ _ _) (fun w1 hu hl => ?_) (fun v56 => ?_)
    · have hcl := impl_WeightsOf.calls K a0 t39 t40 t42 t43 t45 t46 t48 t49 t51 t54 w1  A55.out
      have hz := ((Up.refl _).drew.trans hu).size
      clear hu
      replace hcl := Aside0.mk hcl
      exact fresh_row (by first | (go_simp; done) | (go_simp; rfl)) hcl.out hz
    simp only [Act.put, nm1, nm2, nm3, i64_w]
    refine wpK_any rfl (stab_row _ _ _ _ _) (fun w1 hu hl => ?_) (fun v57 => ?_)
    · exact any_of_run (by first | (go_simp; done) | (go_simp; rfl)) (hl.1 (by kernel_rfl))
    simp only [Act.put, nm1, nm2, nm3, i64_w]
    refine wpK_any rfl (stab_row _ _ _ _ _) (fun w1 hu hl => ?_) (fun v58 => ?_)
    · obtain ⟨A0_, c0_, e0_, hO0_⟩ := hl.1 (by kernel_rfl)
      clear hl hu
      dsimp only at e0_
      subst e0_
      exact any_of_run (u := .slice A0_ t51.length c0_) (by first | (go_simp; done) | (go_simp; rfl)) ⟨A0_, c0_, rfl, hO0_⟩
    simp only [Act.put, nm1, nm2, nm3, i64_w]
    refine wpK_det rfl (fun w1 hu hl => ?_) ?_
    · obtain ⟨A0_, c0_, e0_, hO0_⟩ := hl.2.1 (by kernel_rfl)
      clear hl hu
      dsimp only at e0_
      subst e0_
      clear hO0_
      go_simp
      first | done | rfl
    simp only [Act.put, nm1, nm2, nm3, i64_w]
    refine wpK_any rfl (stab_row _ _ _ _ _) (fun w1 hu hl => ?_) (fun v59 => ?_)
    · exact any_of_run (by first | (go_simp; done) | (go_simp; rfl)) (hl.1 (by kernel_rfl))
    simp only [Act.put, nm1, nm2, nm3, i64_w]
    refine wpK_ops rfl (fun w1 hu => ?_) ?_
    · clear hu
      go_simp
      first | done | rfl
    simp only [Act.put, nm1, nm2, nm3, i64_w]
    refine wpK_nil ?_
    intro w60 hu hap
    simp only [List.drop_succ_cons, List.drop_zero]
    replace hu := (Up.refl _).drew.trans hu
    obtain ⟨-, -, ⟨P52, q53, e0, ht51⟩, -, -, -, -, -, -, -, -, -, -⟩ := hap
    dsimp only at e0
    subst e0
    have hu61 := Aside0.mk hu
    clear hu
    refine wpList_nil ?_
    (try simp only [Exit.then, Exit.inBlock, ↓reduceIte, Nat.reduceEqDiff])
    refine hK38 _ _ ?_
    refine wp_seq_k (fun K62 hK62 => ?_)
    refine wp_seq_k (fun K63 hK63 => ?_)
    refine wp_region_lit ?_
    refine wpList_plain rfl (fun Ko hKo => ?_)
    go_simp
    refine hKo _ _ ?_
    clear hKo Ko
    try simp only [Act.put, nm1, nm2, nm3, i64_w]
    refine wpList_plain rfl (fun Ko hKo => ?_)
    go_simp
    refine hKo _ _ ?_
    clear hKo Ko
    try simp only [Act.put, nm1, nm2, nm3, i64_w]
    refine step_call (wanted_none rfl) (by first | (go_simp; done) | (go_simp; rfl)) (laws_eqInt64S.calls K P52 q53 t51 P28 q29 t27 false w60 ht51.rd ((ht27.up hu61.out).rd) A65.out) ?_
    rintro e w66 ⟨rfl, hu⟩
    have hu67 := Aside0.mk hu
    clear hu
    refine ⟨_, rfl, ?_⟩
    simp only [Act.put, nm1, nm2, nm3, i64_w]
    refine wpList_plain rfl (fun Ko hKo => ?_)
    go_simp
    refine hKo _ _ ?_
    clear hKo Ko
    try simp only [Act.put, nm1, nm2, nm3, i64_w]
    refine wpList_plain rfl (fun Ko hKo => ?_)
    go_simp
    refine hKo _ _ ?_
    clear hKo Ko
    try simp only [Act.put, nm1, nm2, nm3, i64_w]
    refine step_no rfl ?_
    simp only [Act.put, nm1, nm2, nm3, i64_w]
    refine step_no rfl ?_
    simp only [Act.put, nm1, nm2, nm3, i64_w]
    refine step_no rfl ?_
    simp only [Act.put, nm1, nm2, nm3, i64_w]
    refine wpList_plain rfl (fun Ko hKo => ?_)
    go_simp
    refine hKo _ _ ?_
    clear hKo Ko
    try simp only [Act.put, nm1, nm2, nm3, i64_w]
    refine wpList_nil ?_
    (try simp only [Exit.then, Exit.inBlock, ↓reduceIte, Nat.reduceEqDiff])
    refine hK63 _ _ ?_
    refine wp_cond_true rfl ?_
    refine wp_seq_k (fun K145 hK145 => ?_)
    refine wp_region_lit ?_
    refine wpList_plain rfl (fun Ko hKo => ?_)
    go_simp
    refine hKo _ _ ?_
    clear hKo Ko
    try simp only [Act.put, nm1, nm2, nm3, i64_w]
    refine wpList_nil ?_
    (try simp only [Exit.then, Exit.inBlock, ↓reduceIte, Nat.reduceEqDiff])
    refine hK145 _ _ ?_
    refine wp_ret ?_
    (try simp only [Exit.then, Exit.inBlock, ↓reduceIte, Nat.reduceEqDiff])
    refine hQf _ _ _ ?_
    exact bodyPost_ret (v := .bool false) (by first | rfl | (simp [results, Try.results5, go_sem]; done) | (simp [results, Try.results5, go_sem]; rfl)) rfl ⟨rfl, ((((((hu4.out.trans hu7.out).trans hu10.out).trans hu13.out).trans hu37.out).trans hu61.out).trans hu67.out)⟩

end Go.Proofs.Ytohpnbfgemngmaa
