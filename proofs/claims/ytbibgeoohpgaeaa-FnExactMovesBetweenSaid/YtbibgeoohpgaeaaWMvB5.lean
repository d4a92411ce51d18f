/- The walks: each of these functions of the program computes what its plain function says: laws_FnExactMovesBetween. -/
import Derived.Test.YtbibgeoohpgaeaaProg
import Derived.Test.YtbibgeoohpgaeaaD1
import Derived.WalkKit
import Derived.KernelRfl
import Derived.BigQuiet
import Derived.Deep.LoopGhost
import Derived.Laws.StructEq
import Derived.Test.YtbibgeoohpgaeaaWMvB4
namespace Go.Proofs.Ytbibgeoohpgaeaa
open Go Go.RowKit
attribute [local go_sem] Oper.quiet Oper.quietAt Oper.quietUpon
attribute [local irreducible] wpList
set_option linter.unusedVariables false
set_option linter.unusedSimpArgs false
attribute [local go_sem] eqT26

set_option maxHeartbeats 40000000 in
set_option maxRecDepth 100000 in
theorem laws_FnExactMovesBetween.calls (K : Nat) (a0 : Int) (a1 : Int) (a2_0 : Int) (a2_1 : Int) (a3_0 : Int) (a3_1 : Int) (a4_0 : Int) (a4_1 : Int) (a5_0 : Int) (a5_1 : Int) (r0 : Bool) (w : World)  (h : laws_FnExactMovesBetween.f K a0 a1 a2_0 a2_1 a3_0 a3_1 a4_0 a4_1 a5_0 a5_1 = some (r0)) :
    Calls Try.prog 12 #[.int .i64 a0, .int .i64 a1, .agg #[.int .i64 a2_0, .int .i64 a2_1], .agg #[.int .i64 a3_0, .int .i64 a3_1], .agg #[.int .i64 a4_0, .int .i64 a4_1], .agg #[.int .i64 a5_0, .int .i64 a5_1]] w fun e w' => e = .returned (.bool r0) ∧ Up w w' := by
 have H : (((laws_toPoint.f K a2_0 a2_1).bind fun (t15, t16) => ((laws_toPoint.f K a3_0 a3_1).bind fun (t18, t19) => ((laws_toPoint.f K a4_0 a4_1).bind fun (t21, t22) => ((laws_toPoint.f K a5_0 a5_1).bind fun (t24, t25) => ((spec_MovesBetween.f K a0 a1 t15 t16 t18 t19 t21 t22 t24 t25).bind fun (t27, t30) => ((laws_toPoint.f K a2_0 a2_1).bind fun (t39, t40) => ((laws_toPoint.f K a3_0 a3_1).bind fun (t42, t43) => ((laws_toPoint.f K a4_0 a4_1).bind fun (t45, t46) => ((laws_toPoint.f K a5_0 a5_1).bind fun (t48, t49) => ((impl_MovesBetween.f K a0 a1 t39 t40 t42 t43 t45 t46 t48 t49).bind fun (t51, t54) => ((laws_eqMoveS.f K t51 t27).bind fun t64 => (if t64 = true then (if (t54 == t30) = true then ((laws_markMoveS.f K t51 1).bind fun (t77, t78) => ((laws_heldMoveS.f K t78 1).bind fun t91 => (if decide (t91 < 0) = true then some false else (if (t91 == t77) = true then ((laws_toPoint.f K a2_0 a2_1).bind fun (t105, t106) => ((laws_toPoint.f K a3_0 a3_1).bind fun (t108, t109) => ((laws_toPoint.f K a4_0 a4_1).bind fun (t111, t112) => ((laws_toPoint.f K a5_0 a5_1).bind fun (t114, t115) => ((impl_MovesBetween.f K a0 a1 t105 t106 t108 t109 t111 t112 t114 t115).bind fun (t117, t120) => ((laws_eqMoveS.f K t117 t27).bind fun t130 => (if t130 = true then (if (t120 == t30) = true then ((laws_heldMoveS.f K t78 1).bind fun t139 => (if decide (t139 < 0) = true then some false else (if (t139 == t77) = true then some true else some false))) else some false) else some false))))))) else some false)))) else some false) else some false)))))))))))) : Option (Bool)) = some (r0) := h
 clear h
 replace H := Option.bind_eq_some_iff.mp H
 obtain ⟨⟨t15, t16⟩, A17, H⟩ := H
 replace A17 := Aside0.mk A17
 try dsimp only at H
 replace H := Option.bind_eq_some_iff.mp H
 obtain ⟨⟨t18, t19⟩, A20, H⟩ := H
 replace A20 := Aside0.mk A20
 try dsimp only at H
 replace H := Option.bind_eq_some_iff.mp H
 obtain ⟨⟨t21, t22⟩, A23, H⟩ := H
 replace A23 := Aside0.mk A23
 try dsimp only at H
 replace H := Option.bind_eq_some_iff.mp H
 obtain ⟨⟨t24, t25⟩, A26, H⟩ := H
 replace A26 := Aside0.mk A26
 try dsimp only at H
 replace H := Option.bind_eq_some_iff.mp H
 obtain ⟨⟨t27, t30⟩, A31, H⟩ := H
 replace A31 := Aside0.mk A31
 try dsimp only at H
 replace H := Option.bind_eq_some_iff.mp H
 obtain ⟨⟨t39, t40⟩, A41, H⟩ := H
 replace A41 := Aside0.mk A41
 try dsimp only at H
 replace H := Option.bind_eq_some_iff.mp H
 obtain ⟨⟨t42, t43⟩, A44, H⟩ := H
 replace A44 := Aside0.mk A44
 try dsimp only at H
 replace H := Option.bind_eq_some_iff.mp H
 obtain ⟨⟨t45, t46⟩, A47, H⟩ := H
 replace A47 := Aside0.mk A47
 try dsimp only at H
 replace H := Option.bind_eq_some_iff.mp H
 obtain ⟨⟨t48, t49⟩, A50, H⟩ := H
 replace A50 := Aside0.mk A50
 try dsimp only at H
 replace H := Option.bind_eq_some_iff.mp H
 obtain ⟨⟨t51, t54⟩, A55, H⟩ := H
 replace A55 := Aside0.mk A55
 try dsimp only at H
 replace H := Option.bind_eq_some_iff.mp H
 obtain ⟨t64, A65, H⟩ := H
 replace A65 := Aside0.mk A65
 try dsimp only at H
 go_enter Try.func12, Try.ntmps12
 refine wp_hide (fun Qf hQf => ?_)
 refine wp_seq_k (fun K1 hK1 => ?_)
 refine wp_region_lit ?_
 refine step_new (cs := [.int .i64 a2_0, .int .i64 a2_1]) (T := 23) (f := fun b => .pointer (some ⟨b, 0, none⟩)) rfl (by first | (go_simp; done) | (go_simp; rfl)) ?_
 intro b2 w3 hu lb hb2
 simp only [Act.put, nm1, nm2, nm3, i64_w]
 have lbb2 := Aside0.mk lb
 have ltb2 := Aside0.mk hb2.lt
 clear lb
 have hu4 := Aside0.mk hu
 clear hu
 refine step_new (cs := [.int .i64 a3_0, .int .i64 a3_1]) (T := 23) (f := fun b => .pointer (some ⟨b, 0, none⟩)) rfl (by first | (go_simp; done) | (go_simp; rfl)) ?_
 intro b5 w6 hu lb hb5
 simp only [Act.put, nm1, nm2, nm3, i64_w]
 have lbb5 := Aside0.mk lb
 have ltb5 := Aside0.mk hb5.lt
 clear lb
 have hu7 := Aside0.mk hu
 clear hu
 refine step_new (cs := [.int .i64 a4_0, .int .i64 a4_1]) (T := 23) (f := fun b => .pointer (some ⟨b, 0, none⟩)) rfl (by first | (go_simp; done) | (go_simp; rfl)) ?_
 intro b8 w9 hu lb hb8
 simp only [Act.put, nm1, nm2, nm3, i64_w]
 have lbb8 := Aside0.mk lb
 have ltb8 := Aside0.mk hb8.lt
 clear lb
 have hu10 := Aside0.mk hu
 clear hu
 refine step_new (cs := [.int .i64 a5_0, .int .i64 a5_1]) (T := 23) (f := fun b => .pointer (some ⟨b, 0, none⟩)) rfl (by first | (go_simp; done) | (go_simp; rfl)) ?_
 intro b11 w12 hu lb hb11
 simp only [Act.put, nm1, nm2, nm3, i64_w]
 have lbb11 := Aside0.mk lb
 have ltb11 := Aside0.mk hb11.lt
 clear lb
 have hu13 := Aside0.mk hu
 clear hu
 refine wpList_plain rfl (fun Ko hKo => ?_)
 go_simp
 refine hKo _ _ ?_
 clear hKo Ko
 try simp only [Act.put, nm1, nm2, nm3, i64_w]
 refine wpList_nil ?_
 (try simp only [Exit.then, Exit.inBlock, ↓reduceIte, Nat.reduceEqDiff])
 refine hK1 _ _ ?_
 refine wp_seq_k (fun K14 hK14 => ?_)
 refine' wp_region_up 16 [Slot.det _, Slot.det _, Slot.det _, Slot.det (.agg #[.int .i64 t15, .int .i64 t16]), Slot.det _, Slot.det (.agg #[.int .i64 t18, .int .i64 t19]), Slot.det _, Slot.det (.agg #[.int .i64 t21, .int .i64 t22]), Slot.det _, Slot.det (.agg #[.int .i64 t24, .int .i64 t25]), Slot.any (RowTo e6 30 w12.heap.size t27 (fun v => .tuple #[v, .int .i64 t30])) false, Slot.any (RowTo e6 30 w12.heap.size t27 (fun v => .tuple #[v, .int .i64 t30])) false, Slot.any (RowTo e6 30 w12.heap.size t27 (fun v => v)) false, Slot.det (.int .i64 t30), Slot.any (RowTo e6 30 w12.heap.size t27 (fun v => v)) false, Slot.det _] (by kernel_rfl) (by kernel_rfl) ?main
 case main =>
  simp only [List.take_succ_cons, List.take_zero]
  refine wpK_ops rfl (fun w1 hu => ?_) ?_
  · clear hu
    go_simp
    first | done | rfl
  simp only [Act.put, nm1, nm2, nm3, i64_w]
  refine wpK_ops rfl (fun w1 hu => ?_) ?_
  · clear hu
    go_simp
    first | done | rfl
  simp only [Act.put, nm1, nm2, nm3, i64_w]
  refine wpK_ops rfl (fun w1 hu => ?_) ?_
  · have cl0 := ((hb2.up ((hu7.out.trans hu10.out).trans hu13.out)).up ((Up.refl _).drew.trans hu)).cell (o := 0) rfl
    have cl1 := ((hb2.up ((hu7.out.trans hu10.out).trans hu13.out)).up ((Up.refl _).drew.trans hu)).cell (o := 1) rfl
    go_simp
    first | done | rfl
  simp only [Act.put, nm1, nm2, nm3, i64_w]
  refine wpK_ops rfl (fun w1 hu => ?_) ?_
  · have hcl := (laws_toPoint.calls K a2_0 a2_1 t15 t16 w1  A17.out)
    clear hu
    replace hcl := Aside0.mk hcl
    go_simp
    exact hcl.out
  simp only [Act.put, nm1, nm2, nm3, i64_w]
  refine wpK_ops rfl (fun w1 hu => ?_) ?_
  · have cl0 := ((hb5.up (hu10.out.trans hu13.out)).up ((Up.refl _).drew.trans hu)).cell (o := 0) rfl
    have cl1 := ((hb5.up (hu10.out.trans hu13.out)).up ((Up.refl _).drew.trans hu)).cell (o := 1) rfl
    go_simp
    first | done | rfl
  simp only [Act.put, nm1, nm2, nm3, i64_w]
  refine wpK_ops rfl (fun w1 hu => ?_) ?_
  · have hcl := (laws_toPoint.calls K a3_0 a3_1 t18 t19 w1  A20.out)
    clear hu
    replace hcl := Aside0.mk hcl
    go_simp
    exact hcl.out
  simp only [Act.put, nm1, nm2, nm3, i64_w]
  refine wpK_ops rfl (fun w1 hu => ?_) ?_
  · have cl0 := ((hb8.up hu13.out).up ((Up.refl _).drew.trans hu)).cell (o := 0) rfl
    have cl1 := ((hb8.up hu13.out).up ((Up.refl _).drew.trans hu)).cell (o := 1) rfl
    go_simp
    first | done | rfl
  simp only [Act.put, nm1, nm2, nm3, i64_w]
  refine wpK_ops rfl (fun w1 hu => ?_) ?_
  · have hcl := (laws_toPoint.calls K a4_0 a4_1 t21 t22 w1  A23.out)
    clear hu
    replace hcl := Aside0.mk hcl
    go_simp
    exact hcl.out
  simp only [Act.put, nm1, nm2, nm3, i64_w]
  refine wpK_ops rfl (fun w1 hu => ?_) ?_
  · have cl0 := (hb11.up ((Up.refl _).drew.trans hu)).cell (o := 0) rfl
    have cl1 := (hb11.up ((Up.refl _).drew.trans hu)).cell (o := 1) rfl
    go_simp
    first | done | rfl
  simp only [Act.put, nm1, nm2, nm3, i64_w]
  refine wpK_ops rfl (fun w1 hu => ?_) ?_
  · have hcl := (laws_toPoint.calls K a5_0 a5_1 t24 t25 w1  A26.out)
    clear hu
    replace hcl := Aside0.mk hcl
    go_simp
    exact hcl.out
  simp only [Act.put, nm1, nm2, nm3, i64_w]
  refine wpK_any rfl (stab_row _ _ _ _ _) (fun w1 hu hl => ?_) (fun v32 => ?_)
  · have hcl := spec_MovesBetween.calls K a0 a1 t15 t16 t18 t19 t21 t22 t24 t25 t27 t30 w1  A31.out
    have hz := ((Up.refl _).drew.trans hu).size
    clear hu
    replace hcl := Aside0.mk hcl
    exact fresh_row (by first | (go_simp; done) | (go_simp; rfl)) hcl.out hz
  simp only [Act.put, nm1, nm2, nm3, i64_w]
  refine wpK_any rfl (stab_row _ _ _ _ _) (fun w1 hu hl => ?_) (fun v33 => ?_)
  · exact any_of_run (by first | (go_simp; done) | (go_simp; rfl)) (hl.1 (by kernel_rfl))
  simp only [Act.put, nm1, nm2, nm3, i64_w]
  refine wpK_any rfl (stab_row _ _ _ _ _) (fun w1 hu hl => ?_) (fun v34 => ?_)
  · obtain ⟨A0_, c0_, e0_, hO0_⟩ := hl.1 (by kernel_rfl)
    clear hl hu
    dsimp only at e0_
    subst e0_
    exact any_of_run (u := .slice A0_ t27.length c0_) (by first | (go_simp; done) | (go_simp; rfl)) ⟨A0_, c0_, rfl, hO0_⟩
  simp only [Act.put, nm1, nm2, nm3, i64_w]
  refine wpK_det rfl (fun w1 hu hl => ?_) ?_
  · obtain ⟨A0_, c0_, e0_, hO0_⟩ := hl.2.1 (by kernel_rfl)
    clear hl hu
    dsimp only at e0_
    subst e0_
    clear hO0_
    go_simp
    first | done | rfl
  simp only [Act.put, nm1, nm2, nm3, i64_w]
  refine wpK_any rfl (stab_row _ _ _ _ _) (fun w1 hu hl => ?_) (fun v35 => ?_)
  · exact any_of_run (by first | (go_simp; done) | (go_simp; rfl)) (hl.1 (by kernel_rfl))
  simp only [Act.put, nm1, nm2, nm3, i64_w]
  refine wpK_ops rfl (fun w1 hu => ?_) ?_
  · clear hu
    go_simp
    first | done | rfl
  simp only [Act.put, nm1, nm2, nm3, i64_w]
  refine wpK_nil ?_
  intro w36 hu hap
  simp only [List.drop_succ_cons, List.drop_zero]
  replace hu := (Up.refl _).drew.trans hu
  obtain ⟨-, -, ⟨P28, q29, e0, ht27⟩, -, -, -, -, -, -, -, -, -, -⟩ := hap
  dsimp only at e0
  subst e0
  have hu37 := Aside0.mk hu
  clear hu
  refine wpList_nil ?_
  (try simp only [Exit.then, Exit.inBlock, ↓reduceIte, Nat.reduceEqDiff])
  refine hK14 _ _ ?_
  refine wp_seq_k (fun K38 hK38 => ?_)
  refine' wp_region_up 16 [Slot.det _, Slot.det _, Slot.det _, Slot.det (.agg #[.int .i64 t39, .int .i64 t40]), Slot.det _, Slot.det (.agg #[.int .i64 t42, .int .i64 t43]), Slot.det _, Slot.det (.agg #[.int .i64 t45, .int .i64 t46]), Slot.det _, Slot.det (.agg #[.int .i64 t48, .int .i64 t49]), Slot.any (RowTo e6 30 w36.heap.size t51 (fun v => .tuple #[v, .int .i64 t54])) false, Slot.any (RowTo e6 30 w36.heap.size t51 (fun v => .tuple #[v, .int .i64 t54])) false, Slot.any (RowTo e6 30 w36.heap.size t51 (fun v => v)) false, Slot.det (.int .i64 t54), Slot.any (RowTo e6 30 w36.heap.size t51 (fun v => v)) false, Slot.det _] (by kernel_rfl) (by kernel_rfl) ?main
  case main =>
   simp only [List.take_succ_cons, List.take_zero]
   refine wpK_ops rfl (fun w1 hu => ?_) ?_
   · clear hu
     go_simp
     first | done | rfl
   simp only [Act.put, nm1, nm2, nm3, i64_w]
   refine wpK_ops rfl (fun w1 hu => ?_) ?_
   · clear hu
     go_simp
     first | done | rfl
   simp only [Act.put, nm1, nm2, nm3, i64_w]
   refine wpK_ops rfl (fun w1 hu => ?_) ?_
   · have cl0 := ((hb2.up (((hu7.out.trans hu10.out).trans hu13.out).trans hu37.out)).up ((Up.refl _).drew.trans hu)).cell (o := 0) rfl
     have cl1 := ((hb2.up (((hu7.out.trans hu10.out).trans hu13.out).trans hu37.out)).up ((Up.refl _).drew.trans hu)).cell (o := 1) rfl
     go_simp
     first | done | rfl
   simp only [Act.put, nm1, nm2, nm3, i64_w]
   refine wpK_ops rfl (fun w1 hu => ?_) ?_
   · have hcl := (laws_toPoint.calls K a2_0 a2_1 t39 t40 w1  A41.out)
     clear hu
     replace hcl := Aside0.mk hcl
     go_simp
     exact hcl.out
   simp only [Act.put, nm1, nm2, nm3, i64_w]
   refine wpK_ops rfl (fun w1 hu => ?_) ?_
   · have cl0 := ((hb5.up ((hu10.out.trans hu13.out).trans hu37.out)).up ((Up.refl _).drew.trans hu)).cell (o := 0) rfl
     have cl1 := ((hb5.up ((hu10.out.trans hu13.out).trans hu37.out)).up ((Up.refl _).drew.trans hu)).cell (o := 1) rfl
     go_simp
     first | done | rfl
   simp only [Act.put, nm1, nm2, nm3, i64_w]
   refine wpK_ops rfl (fun w1 hu => ?_) ?_
   · have hcl := (laws_toPoint.calls K a3_0 a3_1 t42 t43 w1  A44.out)
     clear hu
     replace hcl := Aside0.mk hcl
     go_simp
     exact hcl.out
   simp only [Act.put, nm1, nm2, nm3, i64_w]
   refine wpK_ops rfl (fun w1 hu => ?_) ?_
   · have cl0 := ((hb8.up (hu13.out.trans hu37.out)).up ((Up.refl _).drew.trans hu)).cell (o := 0) rfl
     have cl1 := ((hb8.up (hu13.out.trans hu37.out)).up ((Up.refl _).drew.trans hu)).cell (o := 1) rfl
     go_simp
     first | done | rfl
   simp only [Act.put, nm1, nm2, nm3, i64_w]
   refine wpK_ops rfl (fun w1 hu => ?_) ?_
   · have hcl := (laws_toPoint.calls K a4_0 a4_1 t45 t46 w1  A47.out)
     clear hu
     replace hcl := Aside0.mk hcl
     go_simp
     exact hcl.out
   simp only [Act.put, nm1, nm2, nm3, i64_w]
   refine wpK_ops rfl (fun w1 hu => ?_) ?_
   · have cl0 := ((hb11.up hu37.out).up ((Up.refl _).drew.trans hu)).cell (o := 0) rfl
     have cl1 := ((hb11.up hu37.out).up ((Up.refl _).drew.trans hu)).cell (o := 1) rfl
     go_simp
     first | done | rfl
   simp only [Act.put, nm1, nm2, nm3, i64_w]
   refine wpK_ops rfl (fun w1 hu => ?_) ?_
   · have hcl := (laws_toPoint.calls K a5_0 a5_1 t48 t49 w1  A50.out)
     clear hu
     replace hcl := Aside0.mk hcl
     go_simp
     exact hcl.out
   simp only [Act.put, nm1, nm2, nm3, i64_w]
   refine wpK_any rfl (stab_row _ _ _ _ _) (fun w1 hu hl => ?_) (fun v56 => ?_)
   · have hcl := impl_MovesBetween.calls K a0 a1 t39 t40 t42 t43 t45 t46 t48 t49 t51 t54 w1  A55.out
     have hz := ((Up.refl _).drew.trans hu).size
     clear hu
     replace hcl := Aside0.mk hcl
     exact fresh_row (by first | (go_simp; done) | (go_simp; rfl)) hcl.out hz
   simp only [Act.put, nm1, nm2, nm3, i64_w]
   refine wpK_any rfl (stab_row _ _ _ _ _) (fun w1 hu hl => ?_) (fun v57 => ?_)
   · exact any_of_run (by first | (go_simp; done) | (go_simp; rfl)) (hl.1 (by kernel_rfl))
   simp only [Act.put, nm1, nm2, nm3, i64_w]
   refine wpK_any rfl (stab_row _ _ _ _ _) (fun w1 hu hl => ?_) (fun v58 => ?_)
   · obtain ⟨A0_, c0_, e0_, hO0_⟩ := hl.1 (by kernel_rfl)
     clear hl hu
     dsimp only at e0_
     subst e0_
     exact any_of_run (u := .slice A0_ t51.length c0_) (by first | (go_simp; done) | (go_simp; rfl)) ⟨A0_, c0_, rfl, hO0_⟩
   simp only [Act.put, nm1, nm2, nm3, i64_w]
   refine wpK_det rfl (fun w1 hu hl => ?_) ?_
   · obtain ⟨A0_, c0_, e0_, hO0_⟩ := hl.2.1 (by kernel_rfl)
     clear hl hu
     dsimp only at e0_
     subst e0_
     clear hO0_
     go_simp
     first | done | rfl
   simp only [Act.put, nm1, nm2, nm3, i64_w]
   refine wpK_any rfl (stab_row _ _ _ _ _) (fun w1 hu hl => ?_) (fun v59 => ?_)
   · exact any_of_run (by first | (go_simp; done) | (go_simp; rfl)) (hl.1 (by kernel_rfl))
   simp only [Act.put, nm1, nm2, nm3, i64_w]
   refine wpK_ops rfl (fun w1 hu => ?_) ?_
   · clear hu
     go_simp
     first | done | rfl
   simp only [Act.put, nm1, nm2, nm3, i64_w]
   refine wpK_nil ?_
   intro w60 hu hap
   simp only [List.drop_succ_cons, List.drop_zero]
   replace hu := (Up.refl _).drew.trans hu
   obtain ⟨-, -, ⟨P52, q53, e0, ht51⟩, -, -, -, -, -, -, -, -, -, -⟩ := hap
   dsimp only at e0
   subst e0
   have hu61 := Aside0.mk hu
   clear hu
   refine wpList_nil ?_
   (try simp only [Exit.then, Exit.inBlock, ↓reduceIte, Nat.reduceEqDiff])
   refine hK38 _ _ ?_
   refine wp_seq_k (fun K62 hK62 => ?_)
   refine wp_seq_k (fun K63 hK63 => ?_)
   refine wp_region_lit ?_
   refine wpList_plain rfl (fun Ko hKo => ?_)
   go_simp
   refine hKo _ _ ?_
   clear hKo Ko
   try simp only [Act.put, nm1, nm2, nm3, i64_w]
   refine wpList_plain rfl (fun Ko hKo => ?_)
   go_simp
   refine hKo _ _ ?_
   clear hKo Ko
   try simp only [Act.put, nm1, nm2, nm3, i64_w]
   refine step_call (wanted_none rfl) (by first | (go_simp; done) | (go_simp; rfl)) (laws_eqMoveS.calls K P52 q53 t51 P28 q29 t27 t64 w60 ht51.rd ((ht27.up hu61.out).rd) A65.out) ?_
   rintro e w66 ⟨rfl, hu⟩
   have hu67 := Aside0.mk hu
   clear hu
   refine ⟨_, rfl, ?_⟩
   simp only [Act.put, nm1, nm2, nm3, i64_w]
   refine wpList_plain rfl (fun Ko hKo => ?_)
   go_simp
   refine hKo _ _ ?_
   clear hKo Ko
   try simp only [Act.put, nm1, nm2, nm3, i64_w]
   refine wpList_plain rfl (fun Ko hKo => ?_)
   go_simp
   refine hKo _ _ ?_
   clear hKo Ko
   try simp only [Act.put, nm1, nm2, nm3, i64_w]
   have hm69 := Aside0.mk ((((((hu4.out.trans hu7.out).trans hu10.out).trans hu13.out).trans hu37.out).trans hu61.out).trans hu67.out)
   have hm70 := Aside0.mk (Nat.le_trans ((Nat.le_trans ((Nat.le_trans ((Nat.le_trans ((Nat.le_trans ((Nat.le_trans (hu4.out.size) hu7.out.size)) hu10.out.size)) hu13.out.size)) hu37.out.size)) hu61.out.size)) hu67.out.size)
   have h71 := (hb2.up (((((hu7.out.trans hu10.out).trans hu13.out).trans hu37.out).trans hu61.out).trans hu67.out))
   have h72 := (hb5.up ((((hu10.out.trans hu13.out).trans hu37.out).trans hu61.out).trans hu67.out))
   have h73 := (hb8.up (((hu13.out.trans hu37.out).trans hu61.out).trans hu67.out))
   by_cases c68 : (t64) = true
   ·
    rw [if_pos c68] at H
    subst c68
    refine wpList_step (fun Ko hKo => ?_)
    go_simp
    refine hKo _ _ ?_
    clear hKo Ko
    try simp only [Act.put, nm1, nm2, nm3, i64_w]
    refine wpList_step (fun Ko hKo => ?_)
    go_simp
    refine hKo _ _ ?_
    clear hKo Ko
    try simp only [Act.put, nm1, nm2, nm3, i64_w]
    refine wpList_step (fun Ko hKo => ?_)
    go_simp
    refine hKo _ _ ?_
    clear hKo Ko
    try simp only [Act.put, nm1, nm2, nm3, i64_w]
    refine wpList_plain rfl (fun Ko hKo => ?_)
    go_simp
    refine hKo _ _ ?_
    clear hKo Ko
    try simp only [Act.put, nm1, nm2, nm3, i64_w]
    refine wpList_nil ?_
    (try simp only [Exit.then, Exit.inBlock, ↓reduceIte, Nat.reduceEqDiff])
    refine hK63 _ _ ?_
    by_cases c74 : (t54 == t30) = true
    ·
     rw [if_pos c74] at H
     have c74n : (t54 != t30) = false := by rw [bne, c74]; rfl
     replace H := Option.bind_eq_some_iff.mp H
     obtain ⟨⟨t77, t78⟩, A79, H⟩ := H
     replace A79 := Aside0.mk A79
     try dsimp only at H
     replace H := Option.bind_eq_some_iff.mp H
     obtain ⟨t91, A92, H⟩ := H
     replace A92 := Aside0.mk A92
     try dsimp only at H
     try simp only [c74, c74n, Bool.not_true, Bool.not_false]
     refine wp_cond_false rfl ?_
     refine wp_skip ?_
     (try simp only [Exit.then, Exit.inBlock, ↓reduceIte, Nat.reduceEqDiff])
     refine hK62 _ _ ?_
     refine wp_seq_k (fun K75 hK75 => ?_)
     refine wp_region_lit ?_
     refine wpList_plain rfl (fun Ko hKo => ?_)
     go_simp
     refine hKo _ _ ?_
     clear hKo Ko
     try simp only [Act.put, nm1, nm2, nm3, i64_w]
     refine wpList_nil ?_
     (try simp only [Exit.then, Exit.inBlock, ↓reduceIte, Nat.reduceEqDiff])
     refine hK75 _ _ ?_
     refine wp_seq_k (fun K76 hK76 => ?_)
     refine wp_region_lit ?_
     refine wpList_plain rfl (fun Ko hKo => ?_)
     go_simp
     refine hKo _ _ ?_
     clear hKo Ko
     try simp only [Act.put, nm1, nm2, nm3, i64_w]
     refine wpList_plain rfl (fun Ko hKo => ?_)
     go_simp
     refine hKo _ _ ?_
     clear hKo Ko
     try simp only [Act.put, nm1, nm2, nm3, i64_w]
     refine step_call (wanted_none rfl) (by first | (go_simp; done) | (go_simp; rfl)) (laws_markMoveS.calls K P52 q53 w36.heap.size t51 1 t77 t78 w66 (ht51.up hu67.out) A79.out) ?_
     have lb81 := Aside0.mk (ht51.up hu67.out).lt
     rintro e w80 ⟨rfl, h82, hl, hg⟩
     have hg84 := Aside0.mk hg
     have hl83 := hl
     clear hg hl
     have h85 := h71.grow hg84.out (fun k hk => Ne.symm ((fun k hk => Nat.ne_of_lt (Nat.lt_of_lt_of_le (Nat.lt_of_lt_of_le ltb2.out ((Nat.le_trans ((Nat.le_trans ((Nat.le_trans (hu7.out.size) hu10.out.size)) hu13.out.size)) hu37.out.size))) ((fun k hk => Nat.le_trans (Nat.le_refl _) (ht51.lt k hk).1) k hk))) k hk))
     have h86 := h72.grow hg84.out (fun k hk => Ne.symm ((fun k hk => Nat.ne_of_lt (Nat.lt_of_lt_of_le (Nat.lt_of_lt_of_le ltb5.out ((Nat.le_trans ((Nat.le_trans (hu10.out.size) hu13.out.size)) hu37.out.size))) ((fun k hk => Nat.le_trans (Nat.le_refl _) (ht51.lt k hk).1) k hk))) k hk))
     have h87 := h73.grow hg84.out (fun k hk => Ne.symm ((fun k hk => Nat.ne_of_lt (Nat.lt_of_lt_of_le (Nat.lt_of_lt_of_le ltb8.out ((Nat.le_trans (hu13.out.size) hu37.out.size))) ((fun k hk => Nat.le_trans (Nat.le_refl _) (ht51.lt k hk).1) k hk))) k hk))
     have hl88 : Aside0 (t51.length = t78.length) := Aside0.mk hl83.out
     refine ⟨_, rfl, ?_⟩
     simp only [Act.put, nm1, nm2, nm3, i64_w]
     refine wpList_plain rfl (fun Ko hKo => ?_)
     go_simp
     refine hKo _ _ ?_
     clear hKo Ko
     try simp only [Act.put, nm1, nm2, nm3, i64_w]
     refine wpList_nil ?_
     (try simp only [Exit.then, Exit.inBlock, ↓reduceIte, Nat.reduceEqDiff])
     refine hK76 _ _ ?_
     refine wp_seq_k (fun K89 hK89 => ?_)
     refine wp_region_lit ?_
     refine wpList_plain rfl (fun Ko hKo => ?_)
     go_simp
     refine hKo _ _ ?_
     clear hKo Ko
     try simp only [Act.put, nm1, nm2, nm3, i64_w]
     refine wpList_nil ?_
     (try simp only [Exit.then, Exit.inBlock, ↓reduceIte, Nat.reduceEqDiff])
     refine hK89 _ _ ?_
     refine wp_seq_k (fun K90 hK90 => ?_)
     refine wp_region_lit ?_
     refine wpList_plain rfl (fun Ko hKo => ?_)
     go_simp
     refine hKo _ _ ?_
     clear hKo Ko
     try simp only [Act.put, nm1, nm2, nm3, i64_w]
     refine wpList_plain rfl (fun Ko hKo => ?_)
     go_simp
     refine hKo _ _ ?_
     clear hKo Ko
     try simp only [Act.put, nm1, nm2, nm3, i64_w]
     refine step_call (wanted_none rfl) (by first | (go_simp; done) | (go_simp; rfl)) (Eq.mp (congrArg (fun n_ => Calls Try.prog 42 #[.slice P52 n_ q53, .int .i64 1] w80 _) (Eq.symm hl88.out)) (laws_heldMoveS.calls K P52 q53 t78 1 t91 w80 h82.rd A92.out)) ?_
     rintro e w93 ⟨rfl, hu⟩
     have hu94 := Aside0.mk hu
     clear hu
     refine ⟨_, rfl, ?_⟩
     simp only [Act.put, nm1, nm2, nm3, i64_w]
     refine wpList_plain rfl (fun Ko hKo => ?_)
     go_simp
     refine hKo _ _ ?_
     clear hKo Ko
     try simp only [Act.put, nm1, nm2, nm3, i64_w]
     refine wpList_nil ?_
     (try simp only [Exit.then, Exit.inBlock, ↓reduceIte, Nat.reduceEqDiff])
     refine hK90 _ _ ?_
     refine wp_seq_k (fun K95 hK95 => ?_)
     refine wp_seq_k (fun K96 hK96 => ?_)
     refine wp_region_lit ?_
     refine wpList_plain rfl (fun Ko hKo => ?_)
     go_simp
     refine hKo _ _ ?_
     clear hKo Ko
     try simp only [Act.put, nm1, nm2, nm3, i64_w]
     refine wpList_plain rfl (fun Ko hKo => ?_)
     go_simp
     refine hKo _ _ ?_
     clear hKo Ko
     try simp only [Act.put, nm1, nm2, nm3, i64_w]
     refine wpList_nil ?_
     (try simp only [Exit.then, Exit.inBlock, ↓reduceIte, Nat.reduceEqDiff])
     refine hK96 _ _ ?_
     have hm98 := Aside0.mk ((hm69.out.grow hg84.out (fun k hk => Nat.le_trans ((Nat.le_trans ((Nat.le_trans ((Nat.le_trans ((Nat.le_trans (hu4.out.size) hu7.out.size)) hu10.out.size)) hu13.out.size)) hu37.out.size)) ((fun k hk => (lb81.out k hk).1) k hk))).trans hu94.out)
     have h99 := (hb11.up ((((hu37.out.trans hu61.out).trans hu67.out).grow hg84.out (fun k hk => Nat.le_trans (hu37.out.size) ((fun k hk => (lb81.out k hk).1) k hk))).trans hu94.out))
     by_cases c97 : (decide (t91 < 0)) = true
     ·
      rw [if_pos c97] at H
      obtain rfl := Option.some.inj H
      try simp only [c97, Bool.not_true, Bool.not_false]
      refine wp_cond_true rfl ?_
      refine wp_seq_k (fun K100 hK100 => ?_)
      refine wp_region_lit ?_
      refine wpList_plain rfl (fun Ko hKo => ?_)
      go_simp
      refine hKo _ _ ?_
      clear hKo Ko
      try simp only [Act.put, nm1, nm2, nm3, i64_w]
      refine wpList_nil ?_
      (try simp only [Exit.then, Exit.inBlock, ↓reduceIte, Nat.reduceEqDiff])
      refine hK100 _ _ ?_
      refine wp_ret ?_
      (try simp only [Exit.then, Exit.inBlock, ↓reduceIte, Nat.reduceEqDiff])
      refine hQf _ _ _ ?_
      exact bodyPost_ret (v := .bool false) (by first | rfl | (simp [results, Try.results12, go_sem]; done) | (simp [results, Try.results12, go_sem]; rfl)) rfl ⟨rfl, hm98.out⟩
     ·
      rw [if_neg c97] at H
      replace c97 := Bool.eq_false_iff.mpr c97
      try simp only [c97, Bool.not_true, Bool.not_false]
      refine wp_cond_false rfl ?_
      refine wp_skip ?_
      (try simp only [Exit.then, Exit.inBlock, ↓reduceIte, Nat.reduceEqDiff])
      refine hK95 _ _ ?_
      refine wp_seq_k (fun K101 hK101 => ?_)
      refine wp_seq_k (fun K102 hK102 => ?_)
      refine wp_region_lit ?_
      refine wpList_plain rfl (fun Ko hKo => ?_)
      go_simp
      refine hKo _ _ ?_
      clear hKo Ko
      try simp only [Act.put, nm1, nm2, nm3, i64_w]
      refine wpList_plain rfl (fun Ko hKo => ?_)
      go_simp
      refine hKo _ _ ?_
      clear hKo Ko
      try simp only [Act.put, nm1, nm2, nm3, i64_w]
      refine wpList_plain rfl (fun Ko hKo => ?_)
      go_simp
      refine hKo _ _ ?_
      clear hKo Ko
      try simp only [Act.put, nm1, nm2, nm3, i64_w]
      refine wpList_nil ?_
      (try simp only [Exit.then, Exit.inBlock, ↓reduceIte, Nat.reduceEqDiff])
      refine hK102 _ _ ?_
      by_cases c103 : (t91 == t77) = true
      ·
       rw [if_pos c103] at H
       have c103n : (t91 != t77) = false := by rw [bne, c103]; rfl
       replace H := Option.bind_eq_some_iff.mp H
       obtain ⟨⟨t105, t106⟩, A107, H⟩ := H
       replace A107 := Aside0.mk A107
       try dsimp only at H
       replace H := Option.bind_eq_some_iff.mp H
       obtain ⟨⟨t108, t109⟩, A110, H⟩ := H
       replace A110 := Aside0.mk A110
       try dsimp only at H
       replace H := Option.bind_eq_some_iff.mp H
       obtain ⟨⟨t111, t112⟩, A113, H⟩ := H
       replace A113 := Aside0.mk A113
       try dsimp only at H
       replace H := Option.bind_eq_some_iff.mp H
       obtain ⟨⟨t114, t115⟩, A116, H⟩ := H
       replace A116 := Aside0.mk A116
       try dsimp only at H
       replace H := Option.bind_eq_some_iff.mp H
       obtain ⟨⟨t117, t120⟩, A121, H⟩ := H
       replace A121 := Aside0.mk A121
       try dsimp only at H
       replace H := Option.bind_eq_some_iff.mp H
       obtain ⟨t130, A131, H⟩ := H
       replace A131 := Aside0.mk A131
       try dsimp only at H
       try simp only [c103, c103n, Bool.not_true, Bool.not_false]
       refine wp_cond_false rfl ?_
       refine wp_skip ?_
       (try simp only [Exit.then, Exit.inBlock, ↓reduceIte, Nat.reduceEqDiff])
       refine hK101 _ _ ?_
       refine wp_seq_k (fun K104 hK104 => ?_)
       refine' wp_region_up 16 [Slot.det _, Slot.det _, Slot.det _, Slot.det (.agg #[.int .i64 t105, .int .i64 t106]), Slot.det _, Slot.det (.agg #[.int .i64 t108, .int .i64 t109]), Slot.det _, Slot.det (.agg #[.int .i64 t111, .int .i64 t112]), Slot.det _, Slot.det (.agg #[.int .i64 t114, .int .i64 t115]), Slot.any (RowTo e6 30 w93.heap.size t117 (fun v => .tuple #[v, .int .i64 t120])) false, Slot.any (RowTo e6 30 w93.heap.size t117 (fun v => .tuple #[v, .int .i64 t120])) false, Slot.any (RowTo e6 30 w93.heap.size t117 (fun v => v)) false, Slot.det (.int .i64 t120), Slot.any (RowTo e6 30 w93.heap.size t117 (fun v => v)) false, Slot.det _] (by kernel_rfl) (by kernel_rfl) ?main
       case main =>
        simp only [List.take_succ_cons, List.take_zero]
        refine wpK_ops rfl (fun w1 hu => ?_) ?_
        · clear hu
          go_simp
          first | done | rfl
        simp only [Act.put, nm1, nm2, nm3, i64_w]
        refine wpK_ops rfl (fun w1 hu => ?_) ?_
        · clear hu
          go_simp
          first | done | rfl
        simp only [Act.put, nm1, nm2, nm3, i64_w]
        refine wpK_ops rfl (fun w1 hu => ?_) ?_
        · have cl0 := ((h85.up hu94.out).up ((Up.refl _).drew.trans hu)).cell (o := 0) rfl
          have cl1 := ((h85.up hu94.out).up ((Up.refl _).drew.trans hu)).cell (o := 1) rfl
          go_simp
          first | done | rfl
        simp only [Act.put, nm1, nm2, nm3, i64_w]
        refine wpK_ops rfl (fun w1 hu => ?_) ?_
        · have hcl := (laws_toPoint.calls K a2_0 a2_1 t105 t106 w1  A107.out)
          clear hu
          replace hcl := Aside0.mk hcl
          go_simp
          exact hcl.out
        simp only [Act.put, nm1, nm2, nm3, i64_w]
        refine wpK_ops rfl (fun w1 hu => ?_) ?_
        · have cl0 := ((h86.up hu94.out).up ((Up.refl _).drew.trans hu)).cell (o := 0) rfl
          have cl1 := ((h86.up hu94.out).up ((Up.refl _).drew.trans hu)).cell (o := 1) rfl
          go_simp
          first | done | rfl
        simp only [Act.put, nm1, nm2, nm3, i64_w]
        refine wpK_ops rfl (fun w1 hu => ?_) ?_
        · have hcl := (laws_toPoint.calls K a3_0 a3_1 t108 t109 w1  A110.out)
          clear hu
          replace hcl := Aside0.mk hcl
          go_simp
          exact hcl.out
        simp only [Act.put, nm1, nm2, nm3, i64_w]
        refine wpK_ops rfl (fun w1 hu => ?_) ?_
        · have cl0 := ((h87.up hu94.out).up ((Up.refl _).drew.trans hu)).cell (o := 0) rfl
          have cl1 := ((h87.up hu94.out).up ((Up.refl _).drew.trans hu)).cell (o := 1) rfl
          go_simp
          first | done | rfl
        simp only [Act.put, nm1, nm2, nm3, i64_w]
        refine wpK_ops rfl (fun w1 hu => ?_) ?_
        · have hcl := (laws_toPoint.calls K a4_0 a4_1 t111 t112 w1  A113.out)
          clear hu
          replace hcl := Aside0.mk hcl
          go_simp
          exact hcl.out
        simp only [Act.put, nm1, nm2, nm3, i64_w]
        refine wpK_ops rfl (fun w1 hu => ?_) ?_
        · have cl0 := (h99.up ((Up.refl _).drew.trans hu)).cell (o := 0) rfl
          have cl1 := (h99.up ((Up.refl _).drew.trans hu)).cell (o := 1) rfl
          go_simp
          first | done | rfl
        simp only [Act.put, nm1, nm2, nm3, i64_w]
        refine wpK_ops rfl (fun w1 hu => ?_) ?_
        · have hcl := (laws_toPoint.calls K a5_0 a5_1 t114 t115 w1  A116.out)
          clear hu
          replace hcl := Aside0.mk hcl
          go_simp
          exact hcl.out
        simp only [Act.put, nm1, nm2, nm3, i64_w]
        refine wpK_any rfl (stab_row _ _ _ _ _) (fun w1 hu hl => ?_) (fun v122 => ?_)
        · have hcl := impl_MovesBetween.calls K a0 a1 t105 t106 t108 t109 t111 t112 t114 t115 t117 t120 w1  A121.out
          have hz := ((Up.refl _).drew.trans hu).size
          clear hu
          replace hcl := Aside0.mk hcl
          exact fresh_row (by first | (go_simp; done) | (go_simp; rfl)) hcl.out hz
        simp only [Act.put, nm1, nm2, nm3, i64_w]
        refine wpK_any rfl (stab_row _ _ _ _ _) (fun w1 hu hl => ?_) (fun v123 => ?_)
        · exact any_of_run (by first | (go_simp; done) | (go_simp; rfl)) (hl.1 (by kernel_rfl))
        simp only [Act.put, nm1, nm2, nm3, i64_w]
        refine wpK_any rfl (stab_row _ _ _ _ _) (fun w1 hu hl => ?_) (fun v124 => ?_)
        · obtain ⟨A0_, c0_, e0_, hO0_⟩ := hl.1 (by kernel_rfl)
          clear hl hu
          dsimp only at e0_
          subst e0_
          exact any_of_run (u := .slice A0_ t117.length c0_) (by first | (go_simp; done) | (go_simp; rfl)) ⟨A0_, c0_, rfl, hO0_⟩
        simp only [Act.put, nm1, nm2, nm3, i64_w]
        refine wpK_det rfl (fun w1 hu hl => ?_) ?_
        · obtain ⟨A0_, c0_, e0_, hO0_⟩ := hl.2.1 (by kernel_rfl)
          clear hl hu
          dsimp only at e0_
          subst e0_
          clear hO0_
          go_simp
          first | done | rfl
        simp only [Act.put, nm1, nm2, nm3, i64_w]
        refine wpK_any rfl (stab_row _ _ _ _ _) (fun w1 hu hl => ?_) (fun v125 => ?_)
        · exact any_of_run (by first | (go_simp; done) | (go_simp; rfl)) (hl.1 (by kernel_rfl))
        simp only [Act.put, nm1, nm2, nm3, i64_w]
        refine wpK_ops rfl (fun w1 hu => ?_) ?_
        · clear hu
          go_simp
          first | done | rfl
        simp only [Act.put, nm1, nm2, nm3, i64_w]
        refine wpK_nil ?_
        intro w126 hu hap
        simp only [List.drop_succ_cons, List.drop_zero]
        replace hu := (Up.refl _).drew.trans hu
        obtain ⟨-, -, ⟨P118, q119, e0, ht117⟩, -, -, -, -, -, -, -, -, -, -⟩ := hap
        dsimp only at e0
        subst e0
        have hu127 := Aside0.mk hu
        clear hu
        refine wpList_nil ?_
        (try simp only [Exit.then, Exit.inBlock, ↓reduceIte, Nat.reduceEqDiff])
        refine hK104 _ _ ?_
        refine wp_seq_k (fun K128 hK128 => ?_)
        refine wp_seq_k (fun K129 hK129 => ?_)
        refine wp_region_lit ?_
        refine wpList_plain rfl (fun Ko hKo => ?_)
        go_simp
        refine hKo _ _ ?_
        clear hKo Ko
        try simp only [Act.put, nm1, nm2, nm3, i64_w]
        refine wpList_plain rfl (fun Ko hKo => ?_)
        go_simp
        refine hKo _ _ ?_
        clear hKo Ko
        try simp only [Act.put, nm1, nm2, nm3, i64_w]
        refine step_call (wanted_none rfl) (by first | (go_simp; done) | (go_simp; rfl)) (laws_eqMoveS.calls K P118 q119 t117 P28 q29 t27 t130 w126 ht117.rd ((ht27.up ((((hu61.out.trans hu67.out).grow hg84.out (fun k hk => Nat.le_trans (Nat.le_refl _) ((fun k hk => (lb81.out k hk).1) k hk))).trans hu94.out).trans hu127.out)).rd) A131.out) ?_
        rintro e w132 ⟨rfl, hu⟩
        have hu133 := Aside0.mk hu
        clear hu
        refine ⟨_, rfl, ?_⟩
        simp only [Act.put, nm1, nm2, nm3, i64_w]
        refine wpList_plain rfl (fun Ko hKo => ?_)
        go_simp
        refine hKo _ _ ?_
        clear hKo Ko
        try simp only [Act.put, nm1, nm2, nm3, i64_w]
        refine wpList_plain rfl (fun Ko hKo => ?_)
        go_simp
        refine hKo _ _ ?_
        clear hKo Ko
        try simp only [Act.put, nm1, nm2, nm3, i64_w]
        have hm135 := Aside0.mk (Nat.le_trans ((Nat.le_trans ((Nat.le_trans ((Nat.le_trans (hm70.out) hg84.out.size)) hu94.out.size)) hu127.out.size)) hu133.out.size)
        by_cases c134 : (t130) = true
        ·
         rw [if_pos c134] at H
         subst c134
         refine wpList_step (fun Ko hKo => ?_)
         go_simp
         refine hKo _ _ ?_
         clear hKo Ko
         try simp only [Act.put, nm1, nm2, nm3, i64_w]
         refine wpList_step (fun Ko hKo => ?_)
         go_simp
         refine hKo _ _ ?_
         clear hKo Ko
         try simp only [Act.put, nm1, nm2, nm3, i64_w]
         refine wpList_step (fun Ko hKo => ?_)
         go_simp
         refine hKo _ _ ?_
         clear hKo Ko
         try simp only [Act.put, nm1, nm2, nm3, i64_w]
         refine wpList_plain rfl (fun Ko hKo => ?_)
         go_simp
         refine hKo _ _ ?_
         clear hKo Ko
         try simp only [Act.put, nm1, nm2, nm3, i64_w]
         refine wpList_nil ?_
         (try simp only [Exit.then, Exit.inBlock, ↓reduceIte, Nat.reduceEqDiff])
         refine hK129 _ _ ?_
         by_cases c136 : (t120 == t30) = true
         ·
          rw [if_pos c136] at H
          have c136n : (t120 != t30) = false := by rw [bne, c136]; rfl
          replace H := Option.bind_eq_some_iff.mp H
          obtain ⟨t139, A140, H⟩ := H
          replace A140 := Aside0.mk A140
          try dsimp only at H
          try simp only [c136, c136n, Bool.not_true, Bool.not_false]
          refine wp_cond_false rfl ?_
          refine wp_skip ?_
          (try simp only [Exit.then, Exit.inBlock, ↓reduceIte, Nat.reduceEqDiff])
          refine hK128 _ _ ?_
          refine wp_seq_k (fun K137 hK137 => ?_)
          refine wp_region_lit ?_
          refine wpList_plain rfl (fun Ko hKo => ?_)
          go_simp
          refine hKo _ _ ?_
          clear hKo Ko
          try simp only [Act.put, nm1, nm2, nm3, i64_w]
          refine wpList_nil ?_
          (try simp only [Exit.then, Exit.inBlock, ↓reduceIte, Nat.reduceEqDiff])
          refine hK137 _ _ ?_
          refine wp_seq_k (fun K138 hK138 => ?_)
          refine wp_region_lit ?_
          refine wpList_plain rfl (fun Ko hKo => ?_)
          go_simp
          refine hKo _ _ ?_
          clear hKo Ko
          try simp only [Act.put, nm1, nm2, nm3, i64_w]
          refine wpList_plain rfl (fun Ko hKo => ?_)
          go_simp
          refine hKo _ _ ?_
          clear hKo Ko
          try simp only [Act.put, nm1, nm2, nm3, i64_w]
          refine step_call (wanted_none rfl) (by first | (go_simp; done) | (go_simp; rfl)) (Eq.mp (congrArg (fun n_ => Calls Try.prog 42 #[.slice P52 n_ q53, .int .i64 1] w132 _) (Eq.symm hl88.out)) (laws_heldMoveS.calls K P52 q53 t78 1 t139 w132 ((h82.up ((hu94.out.trans hu127.out).trans hu133.out)).rd) A140.out)) ?_
          rintro e w141 ⟨rfl, hu⟩
          have hu142 := Aside0.mk hu
          clear hu
          refine ⟨_, rfl, ?_⟩
          simp only [Act.put, nm1, nm2, nm3, i64_w]
          refine wpList_plain rfl (fun Ko hKo => ?_)
          go_simp
          refine hKo _ _ ?_
          clear hKo Ko
          try simp only [Act.put, nm1, nm2, nm3, i64_w]
          refine wpList_nil ?_
          (try simp only [Exit.then, Exit.inBlock, ↓reduceIte, Nat.reduceEqDiff])
          refine hK138 _ _ ?_
          refine wp_seq_k (fun K143 hK143 => ?_)
          refine wp_seq_k (fun K144 hK144 => ?_)
          refine wp_region_lit ?_
          refine wpList_plain rfl (fun Ko hKo => ?_)
          go_simp
          refine hKo _ _ ?_
          clear hKo Ko
          try simp only [Act.put, nm1, nm2, nm3, i64_w]
          refine wpList_plain rfl (fun Ko hKo => ?_)
          go_simp
          refine hKo _ _ ?_
          clear hKo Ko
          try simp only [Act.put, nm1, nm2, nm3, i64_w]
          refine wpList_nil ?_
          (try simp only [Exit.then, Exit.inBlock, ↓reduceIte, Nat.reduceEqDiff])
          refine hK144 _ _ ?_
          have h146 := (h85.up (((hu94.out.trans hu127.out).trans hu133.out).trans hu142.out))
          have h147 := (h86.up (((hu94.out.trans hu127.out).trans hu133.out).trans hu142.out))
          have h148 := (h87.up (((hu94.out.trans hu127.out).trans hu133.out).trans hu142.out))
          by_cases c145 : (decide (t139 < 0)) = true
          ·
           rw [if_pos c145] at H
           obtain rfl := Option.some.inj H
           try simp only [c145, Bool.not_true, Bool.not_false]
           refine wp_cond_true rfl ?_
           refine wp_seq_k (fun K149 hK149 => ?_)
           refine wp_region_lit ?_
           refine wpList_plain rfl (fun Ko hKo => ?_)
           go_simp
           refine hKo _ _ ?_
           clear hKo Ko
           try simp only [Act.put, nm1, nm2, nm3, i64_w]
           refine wpList_nil ?_
           (try simp only [Exit.then, Exit.inBlock, ↓reduceIte, Nat.reduceEqDiff])
           refine hK149 _ _ ?_
           refine wp_ret ?_
           (try simp only [Exit.then, Exit.inBlock, ↓reduceIte, Nat.reduceEqDiff])
           refine hQf _ _ _ ?_
           exact bodyPost_ret (v := .bool false) (by first | rfl | (simp [results, Try.results12, go_sem]; done) | (simp [results, Try.results12, go_sem]; rfl)) rfl ⟨rfl, (((hm98.out.trans hu127.out).trans hu133.out).trans hu142.out)⟩
          ·
           rw [if_neg c145] at H
           replace c145 := Bool.eq_false_iff.mpr c145
           try simp only [c145, Bool.not_true, Bool.not_false]
           refine wp_cond_false rfl ?_
           refine wp_skip ?_
           (try simp only [Exit.then, Exit.inBlock, ↓reduceIte, Nat.reduceEqDiff])
           refine hK143 _ _ ?_
           refine wp_seq_k (fun K150 hK150 => ?_)
           refine wp_seq_k (fun K151 hK151 => ?_)
           refine wp_region_lit ?_
           refine wpList_plain rfl (fun Ko hKo => ?_)
           go_simp
           refine hKo _ _ ?_
           clear hKo Ko
           try simp only [Act.put, nm1, nm2, nm3, i64_w]
           refine wpList_plain rfl (fun Ko hKo => ?_)
           go_simp
           refine hKo _ _ ?_
           clear hKo Ko
           try simp only [Act.put, nm1, nm2, nm3, i64_w]
           refine wpList_plain rfl (fun Ko hKo => ?_)
           go_simp
           refine hKo _ _ ?_
           clear hKo Ko
           try simp only [Act.put, nm1, nm2, nm3, i64_w]
           refine wpList_nil ?_
           (try simp only [Exit.then, Exit.inBlock, ↓reduceIte, Nat.reduceEqDiff])
           refine hK151 _ _ ?_
           by_cases c152 : (t139 == t77) = true
           ·
            rw [if_pos c152] at H
            have c152n : (t139 != t77) = false := by rw [bne, c152]; rfl
            obtain rfl := Option.some.inj H
            try simp only [c152, c152n, Bool.not_true, Bool.not_false]
            refine wp_cond_false rfl ?_
            refine wp_skip ?_
            (try simp only [Exit.then, Exit.inBlock, ↓reduceIte, Nat.reduceEqDiff])
            refine hK150 _ _ ?_
            refine wp_seq_k (fun K153 hK153 => ?_)
            refine wp_region_lit ?_
            refine wpList_plain rfl (fun Ko hKo => ?_)
            go_simp
            refine hKo _ _ ?_
            clear hKo Ko
            try simp only [Act.put, nm1, nm2, nm3, i64_w]
            refine wpList_nil ?_
            (try simp only [Exit.then, Exit.inBlock, ↓reduceIte, Nat.reduceEqDiff])
            refine hK153 _ _ ?_
            refine wp_ret ?_
            (try simp only [Exit.then, Exit.inBlock, ↓reduceIte, Nat.reduceEqDiff])
            refine hQf _ _ _ ?_
            exact bodyPost_ret (v := .bool true) (by first | rfl | (simp [results, Try.results12, go_sem]; done) | (simp [results, Try.results12, go_sem]; rfl)) rfl ⟨rfl, (((hm98.out.trans hu127.out).trans hu133.out).trans hu142.out)⟩
           ·
            rw [if_neg c152] at H
            replace c152 := Bool.eq_false_iff.mpr c152
            have c152n : (t139 != t77) = true := by rw [bne, c152]; rfl
            have c152p : ¬ t139 = t77 := fun e => by simp [e] at c152
            obtain rfl := Option.some.inj H
            try simp only [c152, c152n, Bool.not_true, Bool.not_false]
            refine wp_cond_true rfl ?_
            refine wp_seq_k (fun K154 hK154 => ?_)
            refine wp_region_lit ?_
            refine wpList_plain rfl (fun Ko hKo => ?_)
            go_simp
            refine hKo _ _ ?_
            clear hKo Ko
            try simp only [Act.put, nm1, nm2, nm3, i64_w]
            refine wpList_nil ?_
            (try simp only [Exit.then, Exit.inBlock, ↓reduceIte, Nat.reduceEqDiff])
            refine hK154 _ _ ?_
            refine wp_ret ?_
            (try simp only [Exit.then, Exit.inBlock, ↓reduceIte, Nat.reduceEqDiff])
            refine hQf _ _ _ ?_
            exact bodyPost_ret (v := .bool false) (by first | rfl | (simp [results, Try.results12, go_sem]; done) | (simp [results, Try.results12, go_sem]; rfl)) rfl ⟨rfl, (((hm98.out.trans hu127.out).trans hu133.out).trans hu142.out)⟩
         ·
          rw [if_neg c136] at H
          replace c136 := Bool.eq_false_iff.mpr c136
          have c136n : (t120 != t30) = true := by rw [bne, c136]; rfl
          have c136p : ¬ t120 = t30 := fun e => by simp [e] at c136
          obtain rfl := Option.some.inj H
          try simp only [c136, c136n, Bool.not_true, Bool.not_false]
          refine wp_cond_true rfl ?_
          refine wp_seq_k (fun K155 hK155 => ?_)
          refine wp_region_lit ?_
          refine wpList_plain rfl (fun Ko hKo => ?_)
          go_simp
          refine hKo _ _ ?_
          clear hKo Ko
          try simp only [Act.put, nm1, nm2, nm3, i64_w]
          refine wpList_nil ?_
          (try simp only [Exit.then, Exit.inBlock, ↓reduceIte, Nat.reduceEqDiff])
          refine hK155 _ _ ?_
          refine wp_ret ?_
          (try simp only [Exit.then, Exit.inBlock, ↓reduceIte, Nat.reduceEqDiff])
          refine hQf _ _ _ ?_
          exact bodyPost_ret (v := .bool false) (by first | rfl | (simp [results, Try.results12, go_sem]; done) | (simp [results, Try.results12, go_sem]; rfl)) rfl ⟨rfl, ((hm98.out.trans hu127.out).trans hu133.out)⟩
        ·
         rw [if_neg c134] at H
         replace c134 := Bool.eq_false_iff.mpr c134
         subst c134
         obtain rfl := Option.some.inj H
         refine step_no rfl ?_
         simp only [Act.put, nm1, nm2, nm3, i64_w]
         refine step_no rfl ?_
         simp only [Act.put, nm1, nm2, nm3, i64_w]
         refine step_no rfl ?_
         simp only [Act.put, nm1, nm2, nm3, i64_w]
         refine wpList_plain rfl (fun Ko hKo => ?_)
         go_simp
         refine hKo _ _ ?_
         clear hKo Ko
         try simp only [Act.put, nm1, nm2, nm3, i64_w]
         refine wpList_nil ?_
         (try simp only [Exit.then, Exit.inBlock, ↓reduceIte, Nat.reduceEqDiff])
         refine hK129 _ _ ?_
         refine wp_cond_true rfl ?_
         refine wp_seq_k (fun K156 hK156 => ?_)
         refine wp_region_lit ?_
         refine wpList_plain rfl (fun Ko hKo => ?_)
         go_simp
         refine hKo _ _ ?_
         clear hKo Ko
         try simp only [Act.put, nm1, nm2, nm3, i64_w]
         refine wpList_nil ?_
         (try simp only [Exit.then, Exit.inBlock, ↓reduceIte, Nat.reduceEqDiff])
         refine hK156 _ _ ?_
         refine wp_ret ?_
         (try simp only [Exit.then, Exit.inBlock, ↓reduceIte, Nat.reduceEqDiff])
         refine hQf _ _ _ ?_
         exact bodyPost_ret (v := .bool false) (by first | rfl | (simp [results, Try.results12, go_sem]; done) | (simp [results, Try.results12, go_sem]; rfl)) rfl ⟨rfl, ((hm98.out.trans hu127.out).trans hu133.out)⟩
      ·
       rw [if_neg c103] at H
       replace c103 := Bool.eq_false_iff.mpr c103
       have c103n : (t91 != t77) = true := by rw [bne, c103]; rfl
       have c103p : ¬ t91 = t77 := fun e => by simp [e] at c103
       obtain rfl := Option.some.inj H
       try simp only [c103, c103n, Bool.not_true, Bool.not_false]
       refine wp_cond_true rfl ?_
       refine wp_seq_k (fun K157 hK157 => ?_)
       refine wp_region_lit ?_
       refine wpList_plain rfl (fun Ko hKo => ?_)
       go_simp
       refine hKo _ _ ?_
       clear hKo Ko
       try simp only [Act.put, nm1, nm2, nm3, i64_w]
       refine wpList_nil ?_
       (try simp only [Exit.then, Exit.inBlock, ↓reduceIte, Nat.reduceEqDiff])
       refine hK157 _ _ ?_
       refine wp_ret ?_
       (try simp only [Exit.then, Exit.inBlock, ↓reduceIte, Nat.reduceEqDiff])
       refine hQf _ _ _ ?_
       exact bodyPost_ret (v := .bool false) (by first | rfl | (simp [results, Try.results12, go_sem]; done) | (simp [results, Try.results12, go_sem]; rfl)) rfl ⟨rfl, hm98.out⟩
    ·
     rw [if_neg c74] at H
     replace c74 := Bool.eq_false_iff.mpr c74
     have c74n : (t54 != t30) = true := by rw [bne, c74]; rfl
     have c74p : ¬ t54 = t30 := fun e => by simp [e] at c74
     obtain rfl := Option.some.inj H
     try simp only [c74, c74n, Bool.not_true, Bool.not_false]
     refine wp_cond_true rfl ?_
     refine wp_seq_k (fun K158 hK158 => ?_)
     refine wp_region_lit ?_
     refine wpList_plain rfl (fun Ko hKo => ?_)
     go_simp
     refine hKo _ _ ?_
     clear hKo Ko
     try simp only [Act.put, nm1, nm2, nm3, i64_w]
     refine wpList_nil ?_
     (try simp only [Exit.then, Exit.inBlock, ↓reduceIte, Nat.reduceEqDiff])
     refine hK158 _ _ ?_
     refine wp_ret ?_
     (try simp only [Exit.then, Exit.inBlock, ↓reduceIte, Nat.reduceEqDiff])
     refine hQf _ _ _ ?_
     exact bodyPost_ret (v := .bool false) (by first | rfl | (simp [results, Try.results12, go_sem]; done) | (simp [results, Try.results12, go_sem]; rfl)) rfl ⟨rfl, hm69.out⟩
   ·
    rw [if_neg c68] at H
    replace c68 := Bool.eq_false_iff.mpr c68
    subst c68
    obtain rfl := Option.some.inj H
    refine step_no rfl ?_
    simp only [Act.put, nm1, nm2, nm3, i64_w]
    refine step_no rfl ?_
    simp only [Act.put, nm1, nm2, nm3, i64_w]
    refine step_no rfl ?_
    simp only [Act.put, nm1, nm2, nm3, i64_w]
    refine wpList_plain rfl (fun Ko hKo => ?_)
    go_simp
    refine hKo _ _ ?_
    clear hKo Ko
    try simp only [Act.put, nm1, nm2, nm3, i64_w]
    refine wpList_nil ?_
    (try simp only [Exit.then, Exit.inBlock, ↓reduceIte, Nat.reduceEqDiff])
    refine hK63 _ _ ?_
    refine wp_cond_true rfl ?_
    refine wp_seq_k (fun K159 hK159 => ?_)
    refine wp_region_lit ?_
    refine wpList_plain rfl (fun Ko hKo => ?_)
    go_simp
    refine hKo _ _ ?_
    clear hKo Ko
    try simp only [Act.put, nm1, nm2, nm3, i64_w]
    refine wpList_nil ?_
    (try simp only [Exit.then, Exit.inBlock, ↓reduceIte, Nat.reduceEqDiff])
    refine hK159 _ _ ?_
    refine wp_ret ?_
    (try simp only [Exit.then, Exit.inBlock, ↓reduceIte, Nat.reduceEqDiff])
    refine hQf _ _ _ ?_
    exact bodyPost_ret (v := .bool false) (by first | rfl | (simp [results, Try.results12, go_sem]; done) | (simp [results, Try.results12, go_sem]; rfl)) rfl ⟨rfl, hm69.out⟩

end Go.Proofs.Ytbibgeoohpgaeaa
