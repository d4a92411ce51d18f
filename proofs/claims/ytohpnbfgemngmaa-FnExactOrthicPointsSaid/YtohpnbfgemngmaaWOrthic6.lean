/- The walks: each of these functions of the program computes what its plain function says: laws_FnExactOrthicPoints. -/
import Derived.Test.YtohpnbfgemngmaaProg
import Derived.Test.YtohpnbfgemngmaaD1
import Derived.WalkKit
import Derived.KernelRfl
import Derived.BigQuiet
import Derived.Deep.LoopGhost
import Derived.Laws.StructEq
import Derived.Test.YtohpnbfgemngmaaWOrthic5
namespace Go.Proofs.Ytohpnbfgemngmaa
open Go Go.RowKit
attribute [local go_sem] Oper.quiet Oper.quietAt Oper.quietUpon
set_option linter.unusedVariables false
set_option linter.unusedSimpArgs false

set_option maxHeartbeats 4000000 in
set_option maxRecDepth 100000 in
theorem laws_FnExactOrthicPoints.calls (K : Nat) (a0 : Int) (a1 : Int) (a2_0 : Int) (a2_1 : Int) (a3_0 : Int) (a3_1 : Int) (a4_0 : Int) (a4_1 : Int) (r0 : Bool) (w : World)  (h : laws_FnExactOrthicPoints.f K a0 a1 a2_0 a2_1 a3_0 a3_1 a4_0 a4_1 = some (r0)) :
    Calls Try.prog 12 #[.int .i64 a0, .int .i64 a1, .agg #[.int .i64 a2_0, .int .i64 a2_1], .agg #[.int .i64 a3_0, .int .i64 a3_1], .agg #[.int .i64 a4_0, .int .i64 a4_1]] w fun e w' => e = .returned (.bool r0) ∧ Up w w' := by
 have H : (((laws_toPoint.f K a2_0 a2_1).bind fun (t12, t13) => ((laws_toPoint.f K a3_0 a3_1).bind fun (t15, t16) => ((laws_toPoint.f K a4_0 a4_1).bind fun (t18, t19) => ((spec_OrthicPoints.f K a0 a1 t12 t13 t15 t16 t18 t19).bind fun (t21, t24) => ((laws_toPoint.f K a2_0 a2_1).bind fun (t33, t34) => ((laws_toPoint.f K a3_0 a3_1).bind fun (t36, t37) => ((laws_toPoint.f K a4_0 a4_1).bind fun (t39, t40) => ((impl_OrthicPoints.f K a0 a1 t33 t34 t36 t37 t39 t40).bind fun (t42, t45) => ((laws_eqPointS.f K t42 t21).bind fun t55 => (if t55 = true then (if (t45 == t24) = true then ((laws_markPointS.f K t42 1).bind fun (t63, t64) => ((laws_heldPointS.f K t64 1).bind fun t74 => (if decide (t74 < 0) = true then some false else (if (t74 == t63) = true then ((laws_toPoint.f K a2_0 a2_1).bind fun (t86, t87) => ((laws_toPoint.f K a3_0 a3_1).bind fun (t89, t90) => ((laws_toPoint.f K a4_0 a4_1).bind fun (t92, t93) => ((impl_OrthicPoints.f K a0 a1 t86 t87 t89 t90 t92 t93).bind fun (t95, t98) => ((laws_eqPointS.f K t95 t21).bind fun t108 => (if t108 = true then (if (t98 == t24) = true then ((laws_heldPointS.f K t64 1).bind fun t116 => (if decide (t116 < 0) = true then some false else (if (t116 == t63) = true then some true else some false))) else some false) else some false)))))) else some false)))) else some false) else some false)))))))))) : Option (Bool)) = some (r0) := h
 clear h
 replace H := Option.bind_eq_some_iff.mp H
 obtain ⟨⟨t12, t13⟩, A14, H⟩ := H
 replace A14 := Aside0.mk A14
 try dsimp only at H
 replace H := Option.bind_eq_some_iff.mp H
 obtain ⟨⟨t15, t16⟩, A17, H⟩ := H
 replace A17 := Aside0.mk A17
 try dsimp only at H
 replace H := Option.bind_eq_some_iff.mp H
 obtain ⟨⟨t18, t19⟩, A20, H⟩ := H
 replace A20 := Aside0.mk A20
 try dsimp only at H
 replace H := Option.bind_eq_some_iff.mp H
 obtain ⟨⟨t21, t24⟩, A25, H⟩ := H
 replace A25 := Aside0.mk A25
 try dsimp only at H
 replace H := Option.bind_eq_some_iff.mp H
 obtain ⟨⟨t33, t34⟩, A35, H⟩ := H
 replace A35 := Aside0.mk A35
 try dsimp only at H
 replace H := Option.bind_eq_some_iff.mp H
 obtain ⟨⟨t36, t37⟩, A38, H⟩ := H
 replace A38 := Aside0.mk A38
 try dsimp only at H
 replace H := Option.bind_eq_some_iff.mp H
 obtain ⟨⟨t39, t40⟩, A41, H⟩ := H
 replace A41 := Aside0.mk A41
 try dsimp only at H
 replace H := Option.bind_eq_some_iff.mp H
 obtain ⟨⟨t42, t45⟩, A46, H⟩ := H
 replace A46 := Aside0.mk A46
 try dsimp only at H
 replace H := Option.bind_eq_some_iff.mp H
 obtain ⟨t55, A56, H⟩ := H
 replace A56 := Aside0.mk A56
 try dsimp only at H
 by_cases c59 : (t55) = true
 ·
  rw [if_pos c59] at H
  subst c59
  by_cases c60 : (t45 == t24) = true
  ·
   rw [if_pos c60] at H
   have c60n : (t45 != t24) = false := by rw [bne, c60]; rfl
   replace H := Option.bind_eq_some_iff.mp H
   obtain ⟨⟨t63, t64⟩, A65, H⟩ := H
   replace A65 := Aside0.mk A65
   try dsimp only at H
   replace H := Option.bind_eq_some_iff.mp H
   obtain ⟨t74, A75, H⟩ := H
   replace A75 := Aside0.mk A75
   try dsimp only at H
   by_cases c80 : (decide (t74 < 0)) = true
   ·
    rw [if_pos c80] at H
    obtain rfl := Option.some.inj H
    go_enter Try.func12, Try.ntmps12
    refine wp_hide (fun Qf hQf => ?_)
    refine wp_seq_k (fun K1 hK1 => ?_)
    refine wp_region_lit ?_
    refine step_new (cs := [.int .i64 a2_0, .int .i64 a2_1]) (T := 22) (f := fun b => .pointer (some ⟨b, 0, none⟩)) rfl (by first | (go_simp; done) | (go_simp; rfl)) ?_
    intro b2 w3 hu lb hb2
    simp only [Act.put, nm1, nm2, nm3, i64_w]
    have lbb2 := Aside0.mk lb
    have ltb2 := Aside0.mk hb2.lt
    clear lb
    have hu4 := Aside0.mk hu
    clear hu
    refine step_new (cs := [.int .i64 a3_0, .int .i64 a3_1]) (T := 22) (f := fun b => .pointer (some ⟨b, 0, none⟩)) rfl (by first | (go_simp; done) | (go_simp; rfl)) ?_
    intro b5 w6 hu lb hb5
    simp only [Act.put, nm1, nm2, nm3, i64_w]
    have lbb5 := Aside0.mk lb
    have ltb5 := Aside0.mk hb5.lt
    clear lb
    have hu7 := Aside0.mk hu
    clear hu
    refine step_new (cs := [.int .i64 a4_0, .int .i64 a4_1]) (T := 22) (f := fun b => .pointer (some ⟨b, 0, none⟩)) rfl (by first | (go_simp; done) | (go_simp; rfl)) ?_
    intro b8 w9 hu lb hb8
    simp only [Act.put, nm1, nm2, nm3, i64_w]
    have lbb8 := Aside0.mk lb
    have ltb8 := Aside0.mk hb8.lt
    clear lb
    have hu10 := Aside0.mk hu
    clear hu
    refine wpList_plain rfl (fun Ko hKo => ?_)
    go_simp
    refine hKo _ _ ?_
    clear hKo Ko
    try simp only [Act.put, nm1, nm2, nm3, i64_w]
    refine wpList_nil ?_
    (try simp only [Exit.then, Exit.inBlock, ↓reduceIte, Nat.reduceEqDiff])
    refine hK1 _ _ ?_
    refine wp_seq_k (fun K11 hK11 => ?_)
    refine' wp_region_up 14 [Slot.det _, Slot.det _, Slot.det _, Slot.det (.agg #[.int .i64 t12, .int .i64 t13]), Slot.det _, Slot.det (.agg #[.int .i64 t15, .int .i64 t16]), Slot.det _, Slot.det (.agg #[.int .i64 t18, .int .i64 t19]), Slot.any (RowTo e2 25 w9.heap.size t21 (fun v => .tuple #[v, .int .i64 t24])) false, Slot.any (RowTo e2 25 w9.heap.size t21 (fun v => .tuple #[v, .int .i64 t24])) false, Slot.any (RowTo e2 25 w9.heap.size t21 (fun v => v)) false, Slot.det (.int .i64 t24), Slot.any (RowTo e2 25 w9.heap.size t21 (fun v => v)) false, Slot.det _] (by kernel_rfl) (by kernel_rfl) ?main
    case main =>
     simp only [List.take_succ_cons, List.take_zero]
     refine wpK_ops rfl (fun w1 hu => ?_) ?_
     · clear hu
       go_simp
       first | done | rfl
     simp only [Act.put, nm1, nm2, nm3, i64_w]
     refine wpK_ops rfl (fun w1 hu => ?_) ?_
     · clear hu
       go_simp
       first | done | rfl
     simp only [Act.put, nm1, nm2, nm3, i64_w]
     refine wpK_ops rfl (fun w1 hu => ?_) ?_
     · have cl0 := ((hb2.up (hu7.out.trans hu10.out)).up ((Up.refl _).drew.trans hu)).cell (o := 0) rfl
       have cl1 := ((hb2.up (hu7.out.trans hu10.out)).up ((Up.refl _).drew.trans hu)).cell (o := 1) rfl
       go_simp
       first | done | rfl
     simp only [Act.put, nm1, nm2, nm3, i64_w]
     refine wpK_ops rfl (fun w1 hu => ?_) ?_
     · have hcl := (laws_toPoint.calls K a2_0 a2_1 t12 t13 w1  A14.out)
       clear hu
       replace hcl := Aside0.mk hcl
       go_simp
       exact hcl.out
     simp only [Act.put, nm1, nm2, nm3, i64_w]
     refine wpK_ops rfl (fun w1 hu => ?_) ?_
     · have cl0 := ((hb5.up hu10.out).up ((Up.refl _).drew.trans hu)).cell (o := 0) rfl
       have cl1 := ((hb5.up hu10.out).up ((Up.refl _).drew.trans hu)).cell (o := 1) rfl
       go_simp
       first | done | rfl
     simp only [Act.put, nm1, nm2, nm3, i64_w]
     refine wpK_ops rfl (fun w1 hu => ?_) ?_
     · have hcl := (laws_toPoint.calls K a3_0 a3_1 t15 t16 w1  A17.out)
       clear hu
       replace hcl := Aside0.mk hcl
       go_simp
       exact hcl.out
     simp only [Act.put, nm1, nm2, nm3, i64_w]
     refine wpK_ops rfl (fun w1 hu => ?_) ?_
     · have cl0 := (hb8.up ((Up.refl _).drew.trans hu)).cell (o := 0) rfl
       have cl1 := (hb8.up ((Up.refl _).drew.trans hu)).cell (o := 1) rfl
       go_simp
       first | done | rfl
     simp only [Act.put, nm1, nm2, nm3, i64_w]
     refine wpK_ops rfl (fun w1 hu => ?_) ?_
     · have hcl := (laws_toPoint.calls K a4_0 a4_1 t18 t19 w1  A20.out)
       clear hu
       replace hcl := Aside0.mk hcl
       go_simp
       exact hcl.out
     simp only [Act.put, nm1, nm2, nm3, i64_w]
     refine wpK_any rfl (stab_row _ _ _ _ _) (fun w1 hu hl => ?_) (fun v26 => ?_)
     · have hcl := spec_OrthicPoints.calls K a0 a1 t12 t13 t15 t16 t18 t19 t21 t24 w1  A25.out
       have hz := ((Up.refl _).drew.trans hu).size
       clear hu
       replace hcl := Aside0.mk hcl
       exact fresh_row (by first | (go_simp; done) | (go_simp; rfl)) hcl.out hz
     simp only [Act.put, nm1, nm2, nm3, i64_w]
     refine wpK_any rfl (stab_row _ _ _ _ _) (fun w1 hu hl => ?_) (fun v27 => ?_)
     · exact any_of_run (by first | (go_simp; done) | (go_simp; rfl)) (hl.1 (by kernel_rfl))
     simp only [Act.put, nm1, nm2, nm3, i64_w]
     refine wpK_any rfl (stab_row _ _ _ _ _) (fun w1 hu hl => ?_) (fun v28 => ?_)
     · obtain ⟨A0_, c0_, e0_, hO0_⟩ := hl.1 (by kernel_rfl)
       clear hl hu
       dsimp only at e0_
       subst e0_
       exact any_of_run (u := .slice A0_ t21.length c0_) (by first | (go_simp; done) | (go_simp; rfl)) ⟨A0_, c0_, rfl, hO0_⟩
     simp only [Act.put, nm1, nm2, nm3, i64_w]
     refine wpK_det rfl (fun w1 hu hl => ?_) ?_
     · obtain ⟨A0_, c0_, e0_, hO0_⟩ := hl.2.1 (by kernel_rfl)
       clear hl hu
       dsimp only at e0_
       subst e0_
       clear hO0_
       go_simp
       first | done | rfl
     simp only [Act.put, nm1, nm2, nm3, i64_w]
     refine wpK_any rfl (stab_row _ _ _ _ _) (fun w1 hu hl => ?_) (fun v29 => ?_)
     · exact any_of_run (by first | (go_simp; done) | (go_simp; rfl)) (hl.1 (by kernel_rfl))
     simp only [Act.put, nm1, nm2, nm3, i64_w]
     refine wpK_ops rfl (fun w1 hu => ?_) ?_
     · clear hu
       go_simp
       first | done | rfl
     simp only [Act.put, nm1, nm2, nm3, i64_w]
     refine wpK_nil ?_
     intro w30 hu hap
     simp only [List.drop_succ_cons, List.drop_zero]
     replace hu := (Up.refl _).drew.trans hu
     obtain ⟨-, -, ⟨P22, q23, e0, ht21⟩, -, -, -, -, -, -, -, -, -, -⟩ := hap
     dsimp only at e0
     subst e0
     have hu31 := Aside0.mk hu
     clear hu
     refine wpList_nil ?_
     (try simp only [Exit.then, Exit.inBlock, ↓reduceIte, Nat.reduceEqDiff])
     refine hK11 _ _ ?_
     refine wp_seq_k (fun K32 hK32 => ?_)
     refine' wp_region_up 14 [Slot.det _, Slot.det _, Slot.det _, Slot.det (.agg #[.int .i64 t33, .int .i64 t34]), Slot.det _, Slot.det (.agg #[.int .i64 t36, .int .i64 t37]), Slot.det _, Slot.det (.agg #[.int .i64 t39, .int .i64 t40]), Slot.any (RowTo e2 25 w30.heap.size t42 (fun v => .tuple #[v, .int .i64 t45])) false, Slot.any (RowTo e2 25 w30.heap.size t42 (fun v => .tuple #[v, .int .i64 t45])) false, Slot.any (RowTo e2 25 w30.heap.size t42 (fun v => v)) false, Slot.det (.int .i64 t45), Slot.any (RowTo e2 25 w30.heap.size t42 (fun v => v)) false, Slot.det _] (by kernel_rfl) (by kernel_rfl) ?main
     case main =>
      simp only [List.take_succ_cons, List.take_zero]
      refine wpK_ops rfl (fun w1 hu => ?_) ?_
      · clear hu
        go_simp
        first | done | rfl
      simp only [Act.put, nm1, nm2, nm3, i64_w]
      refine wpK_ops rfl (fun w1 hu => ?_) ?_
      · clear hu
        go_simp
        first | done | rfl
      simp only [Act.put, nm1, nm2, nm3, i64_w]
      refine wpK_ops rfl (fun w1 hu => ?_) ?_
      · have cl0 := ((hb2.up ((hu7.out.trans hu10.out).trans hu31.out)).up ((Up.refl _).drew.trans hu)).cell (o := 0) rfl
        have cl1 := ((hb2.up ((hu7.out.trans hu10.out).trans hu31.out)).up ((Up.refl _).drew.trans hu)).cell (o := 1) rfl
        go_simp
        first | done | rfl
      simp only [Act.put, nm1, nm2, nm3, i64_w]
      refine wpK_ops rfl (fun w1 hu => ?_) ?_
      · have hcl := (laws_toPoint.calls K a2_0 a2_1 t33 t34 w1  A35.out)
        clear hu
        replace hcl := Aside0.mk hcl
        go_simp
        exact hcl.out
      simp only [Act.put, nm1, nm2, nm3, i64_w]
      refine wpK_ops rfl (fun w1 hu => ?_) ?_
      · have cl0 := ((hb5.up (hu10.out.trans hu31.out)).up ((Up.refl _).drew.trans hu)).cell (o := 0) rfl
        have cl1 := ((hb5.up (hu10.out.trans hu31.out)).up ((Up.refl _).drew.trans hu)).cell (o := 1) rfl
        go_simp
        first | done | rfl
      simp only [Act.put, nm1, nm2, nm3, i64_w]
      refine wpK_ops rfl (fun w1 hu => ?_) ?_
      · have hcl := (laws_toPoint.calls K a3_0 a3_1 t36 t37 w1  A38.out)
        clear hu
        replace hcl := Aside0.mk hcl
        go_simp
        exact hcl.out
      simp only [Act.put, nm1, nm2, nm3, i64_w]
      refine wpK_ops rfl (fun w1 hu => ?_) ?_
      · have cl0 := ((hb8.up hu31.out).up ((Up.refl _).drew.trans hu)).cell (o := 0) rfl
        have cl1 := ((hb8.up hu31.out).up ((Up.refl _).drew.trans hu)).cell (o := 1) rfl
        go_simp
        first | done | rfl
      simp only [Act.put, nm1, nm2, nm3, i64_w]
      refine wpK_ops rfl (fun w1 hu => ?_) ?_
      · have hcl := (laws_toPoint.calls K a4_0 a4_1 t39 t40 w1  A41.out)
        clear hu
        replace hcl := Aside0.mk hcl
        go_simp
        exact hcl.out
      simp only [Act.put, nm1, nm2, nm3, i64_w]
      refine wpK_any rfl (stab_row _ _ _ _ _) (fun w1 hu hl => ?_) (fun v47 => ?_)
      · have hcl := impl_OrthicPoints.calls K a0 a1 t33 t34 t36 t37 t39 t40 t42 t45 w1  A46.out
        have hz := ((Up.refl _).drew.trans hu).size
        clear hu
        replace hcl := Aside0.mk hcl
        exact fresh_row (by first | (go_simp; done) | (go_simp; rfl)) hcl.out hz
      simp only [Act.put, nm1, nm2, nm3, i64_w]
      refine wpK_any rfl (stab_row _ _ _ _ _) (fun w1 hu hl => ?_) (fun v48 => ?_)
      · exact any_of_run (by first | (go_simp; done) | (go_simp; rfl)) (hl.1 (by kernel_rfl))
      simp only [Act.put, nm1, nm2, nm3, i64_w]
      refine wpK_any rfl (stab_row _ _ _ _ _) (fun w1 hu hl => ?_) (fun v49 => ?_)
      · obtain ⟨A0_, c0_, e0_, hO0_⟩ := hl.1 (by kernel_rfl)
        clear hl hu
        dsimp only at e0_
        subst e0_
        exact any_of_run (u := .slice A0_ t42.length c0_) (by first | (go_simp; done) | (go_simp; rfl)) ⟨A0_, c0_, rfl, hO0_⟩
      simp only [Act.put, nm1, nm2, nm3, i64_w]
      refine wpK_det rfl (fun w1 hu hl => ?_) ?_
      · obtain ⟨A0_, c0_, e0_, hO0_⟩ := hl.2.1 (by kernel_rfl)
        clear hl hu
        dsimp only at e0_
        subst e0_
        clear hO0_
        go_simp
        first | done | rfl
      simp only [Act.put, nm1, nm2, nm3, i64_w]
      refine wpK_any rfl (stab_row _ _ _ _ _) (fun w1 hu hl => ?_) (fun v50 => ?_)
      · exact any_of_run (by first | (go_simp; done) | (go_simp; rfl)) (hl.1 (by kernel_rfl))
      simp only [Act.put, nm1, nm2, nm3, i64_w]
      refine wpK_ops rfl (fun w1 hu => ?_) ?_
      · clear hu
        go_simp
        first | done | rfl
      simp only [Act.put, nm1, nm2, nm3, i64_w]
      refine wpK_nil ?_
      intro w51 hu hap
      simp only [List.drop_succ_cons, List.drop_zero]
      replace hu := (Up.refl _).drew.trans hu
      obtain ⟨-, -, ⟨P43, q44, e0, ht42⟩, -, -, -, -, -, -, -, -, -, -⟩ := hap
      dsimp only at e0
      subst e0
      have hu52 := Aside0.mk hu
      clear hu
      refine wpList_nil ?_
      (try simp only [Exit.then, Exit.inBlock, ↓reduceIte, Nat.reduceEqDiff])
      refine hK32 _ _ ?_
      refine wp_seq_k (fun K53 hK53 => ?_)
      refine wp_seq_k (fun K54 hK54 => ?_)
      refine wp_region_lit ?_
      refine wpList_plain rfl (fun Ko hKo => ?_)
      go_simp
      refine hKo _ _ ?_
      clear hKo Ko
      try simp only [Act.put, nm1, nm2, nm3, i64_w]
      refine wpList_plain rfl (fun Ko hKo => ?_)
      go_simp
      refine hKo _ _ ?_
      clear hKo Ko
      try simp only [Act.put, nm1, nm2, nm3, i64_w]
      refine step_call (wanted_none rfl) (by first | (go_simp; done) | (go_simp; rfl)) (laws_eqPointS.calls K P43 q44 t42 P22 q23 t21 true w51 ht42.rd ((ht21.up hu52.out).rd) A56.out) ?_
      rintro e w57 ⟨rfl, hu⟩
      have hu58 := Aside0.mk hu
      clear hu
      refine ⟨_, rfl, ?_⟩
      simp only [Act.put, nm1, nm2, nm3, i64_w]
      refine wpList_plain rfl (fun Ko hKo => ?_)
      go_simp
      refine hKo _ _ ?_
      clear hKo Ko
      try simp only [Act.put, nm1, nm2, nm3, i64_w]
      refine wpList_plain rfl (fun Ko hKo => ?_)
      go_simp
      refine hKo _ _ ?_
      clear hKo Ko
      try simp only [Act.put, nm1, nm2, nm3, i64_w]
      refine wpList_step (fun Ko hKo => ?_)
      go_simp
      refine hKo _ _ ?_
      clear hKo Ko
      try simp only [Act.put, nm1, nm2, nm3, i64_w]
      refine wpList_step (fun Ko hKo => ?_)
      go_simp
      refine hKo _ _ ?_
      clear hKo Ko
      try simp only [Act.put, nm1, nm2, nm3, i64_w]
      refine wpList_step (fun Ko hKo => ?_)
      go_simp
      refine hKo _ _ ?_
      clear hKo Ko
      try simp only [Act.put, nm1, nm2, nm3, i64_w]
      refine wpList_plain rfl (fun Ko hKo => ?_)
      go_simp
      refine hKo _ _ ?_
      clear hKo Ko
      try simp only [Act.put, nm1, nm2, nm3, i64_w]
      refine wpList_nil ?_
      (try simp only [Exit.then, Exit.inBlock, ↓reduceIte, Nat.reduceEqDiff])
      refine hK54 _ _ ?_
      refine wp_cond_false rfl ?_
      refine wp_skip ?_
      (try simp only [Exit.then, Exit.inBlock, ↓reduceIte, Nat.reduceEqDiff])
      refine hK53 _ _ ?_
      refine wp_seq_k (fun K61 hK61 => ?_)
      refine wp_region_lit ?_
      refine wpList_plain rfl (fun Ko hKo => ?_)
      go_simp
      refine hKo _ _ ?_
      clear hKo Ko
      try simp only [Act.put, nm1, nm2, nm3, i64_w]
      refine wpList_nil ?_
      (try simp only [Exit.then, Exit.inBlock, ↓reduceIte, Nat.reduceEqDiff])
      refine hK61 _ _ ?_
      refine wp_seq_k (fun K62 hK62 => ?_)
      refine wp_region_lit ?_
      refine wpList_plain rfl (fun Ko hKo => ?_)
      go_simp
      refine hKo _ _ ?_
      clear hKo Ko
      try simp only [Act.put, nm1, nm2, nm3, i64_w]
      refine wpList_plain rfl (fun Ko hKo => ?_)
      go_simp
      refine hKo _ _ ?_
      clear hKo Ko
      try simp only [Act.put, nm1, nm2, nm3, i64_w]
      refine step_call (wanted_none rfl) (by first | (go_simp; done) | (go_simp; rfl)) (laws_markPointS.calls K P43 q44 w30.heap.size t42 1 t63 t64 w57 (ht42.up hu58.out) A65.out) ?_
      have lb67 := Aside0.mk (ht42.up hu58.out).lt
      rintro e w66 ⟨rfl, h68, hl, hg⟩
      have hg70 := Aside0.mk hg
      have hl69 := hl
      clear hg hl
      have hl71 : Aside0 (t42.length = t64.length) := Aside0.mk hl69.out
      refine ⟨_, rfl, ?_⟩
      simp only [Act.put, nm1, nm2, nm3, i64_w]
      refine wpList_plain rfl (fun Ko hKo => ?_)
      go_simp
      refine hKo _ _ ?_
      clear hKo Ko
      try simp only [Act.put, nm1, nm2, nm3, i64_w]
      refine wpList_nil ?_
      (try simp only [Exit.then, Exit.inBlock, ↓reduceIte, Nat.reduceEqDiff])
      refine hK62 _ _ ?_
      refine wp_seq_k (fun K72 hK72 => ?_)
      refine wp_region_lit ?_
      refine wpList_plain rfl (fun Ko hKo => ?_)
      go_simp
      refine hKo _ _ ?_
      clear hKo Ko
      try simp only [Act.put, nm1, nm2, nm3, i64_w]
      refine wpList_nil ?_
      (try simp only [Exit.then, Exit.inBlock, ↓reduceIte, Nat.reduceEqDiff])
      refine hK72 _ _ ?_
      refine wp_seq_k (fun K73 hK73 => ?_)
      refine wp_region_lit ?_
      refine wpList_plain rfl (fun Ko hKo => ?_)
      go_simp
      refine hKo _ _ ?_
      clear hKo Ko
      try simp only [Act.put, nm1, nm2, nm3, i64_w]
      refine wpList_plain rfl (fun Ko hKo => ?_)
      go_simp
      refine hKo _ _ ?_
      clear hKo Ko
      try simp only [Act.put, nm1, nm2, nm3, i64_w]
      refine step_call (wanted_none rfl) (by first | (go_simp; done) | (go_simp; rfl)) (Eq.mp (congrArg (fun n_ => Calls Try.prog 41 #[.slice P43 n_ q44, .int .i64 1] w66 _) (Eq.symm hl71.out)) (laws_heldPointS.calls K P43 q44 t64 1 t74 w66 h68.rd A75.out)) ?_
      rintro e w76 ⟨rfl, hu⟩
      have hu77 := Aside0.mk hu
      clear hu
      refine ⟨_, rfl, ?_⟩
      simp only [Act.put, nm1, nm2, nm3, i64_w]
      refine wpList_plain rfl (fun Ko hKo => ?_)
      go_simp
      refine hKo _ _ ?_
      clear hKo Ko
      try simp only [Act.put, nm1, nm2, nm3, i64_w]
      refine wpList_nil ?_
      (try simp only [Exit.then, Exit.inBlock, ↓reduceIte, Nat.reduceEqDiff])
      refine hK73 _ _ ?_
      refine wp_seq_k (fun K78 hK78 => ?_)
      refine wp_seq_k (fun K79 hK79 => ?_)
      refine wp_region_lit ?_
      refine wpList_plain rfl (fun Ko hKo => ?_)
      go_simp
      refine hKo _ _ ?_
      clear hKo Ko
      try simp only [Act.put, nm1, nm2, nm3, i64_w]
      refine wpList_plain rfl (fun Ko hKo => ?_)
      go_simp
      refine hKo _ _ ?_
      clear hKo Ko
      try simp only [Act.put, nm1, nm2, nm3, i64_w]
      refine wpList_nil ?_
      (try simp only [Exit.then, Exit.inBlock, ↓reduceIte, Nat.reduceEqDiff])
      refine hK79 _ _ ?_
      refine wp_cond_true rfl ?_
      refine wp_seq_k (fun K81 hK81 => ?_)
      refine wp_region_lit ?_
      refine wpList_plain rfl (fun Ko hKo => ?_)
      go_simp
      refine hKo _ _ ?_
      clear hKo Ko
      try simp only [Act.put, nm1, nm2, nm3, i64_w]
      refine wpList_nil ?_
      (try simp only [Exit.then, Exit.inBlock, ↓reduceIte, Nat.reduceEqDiff])
      refine hK81 _ _ ?_
      refine wp_ret ?_
      (try simp only [Exit.then, Exit.inBlock, ↓reduceIte, Nat.reduceEqDiff])
      refine hQf _ _ _ ?_
      exact bodyPost_ret (v := .bool false) (by first | rfl | (simp [results, Try.results12, go_sem]; done) | (simp [results, Try.results12, go_sem]; rfl)) rfl ⟨rfl, (((((((hu4.out.trans hu7.out).trans hu10.out).trans hu31.out).trans hu52.out).trans hu58.out).grow hg70.out (fun k hk => Nat.le_trans ((Nat.le_trans ((Nat.le_trans ((Nat.le_trans (hu4.out.size) hu7.out.size)) hu10.out.size)) hu31.out.size)) ((fun k hk => (lb67.out k hk).1) k hk))).trans hu77.out)⟩
   ·
    rw [if_neg c80] at H
    replace c80 := Bool.eq_false_iff.mpr c80
    by_cases c84 : (t74 == t63) = true
    ·
     rw [if_pos c84] at H
     have c84n : (t74 != t63) = false := by rw [bne, c84]; rfl
     replace H := Option.bind_eq_some_iff.mp H
     obtain ⟨⟨t86, t87⟩, A88, H⟩ := H
     replace A88 := Aside0.mk A88
     try dsimp only at H
     replace H := Option.bind_eq_some_iff.mp H
     obtain ⟨⟨t89, t90⟩, A91, H⟩ := H
     replace A91 := Aside0.mk A91
     try dsimp only at H
     replace H := Option.bind_eq_some_iff.mp H
     obtain ⟨⟨t92, t93⟩, A94, H⟩ := H
     replace A94 := Aside0.mk A94
     try dsimp only at H
     replace H := Option.bind_eq_some_iff.mp H
     obtain ⟨⟨t95, t98⟩, A99, H⟩ := H
     replace A99 := Aside0.mk A99
     try dsimp only at H
     replace H := Option.bind_eq_some_iff.mp H
     obtain ⟨t108, A109, H⟩ := H
     replace A109 := Aside0.mk A109
     try dsimp only at H
     by_cases c112 : (t108) = true
     ·
      rw [if_pos c112] at H
      subst c112
      by_cases c113 : (t98 == t24) = true
      ·
       rw [if_pos c113] at H
       have c113n : (t98 != t24) = false := by rw [bne, c113]; rfl
       replace H := Option.bind_eq_some_iff.mp H
       obtain ⟨t116, A117, H⟩ := H
       replace A117 := Aside0.mk A117
       try dsimp only at H
       by_cases c122 : (decide (t116 < 0)) = true
       ·
        rw [if_pos c122] at H
        obtain rfl := Option.some.inj H
        go_enter Try.func12, Try.ntmps12
        refine wp_hide (fun Qf hQf => ?_)
        refine wp_seq_k (fun K1 hK1 => ?_)
        refine wp_region_lit ?_
        refine step_new (cs := [.int .i64 a2_0, .int .i64 a2_1]) (T := 22) (f := fun b => .pointer (some ⟨b, 0, none⟩)) rfl (by first | (go_simp; done) | (go_simp; rfl)) ?_
        intro b2 w3 hu lb hb2
        simp only [Act.put, nm1, nm2, nm3, i64_w]
        have lbb2 := Aside0.mk lb
        have ltb2 := Aside0.mk hb2.lt
        clear lb
        have hu4 := Aside0.mk hu
        clear hu
        refine step_new (cs := [.int .i64 a3_0, .int .i64 a3_1]) (T := 22) (f := fun b => .pointer (some ⟨b, 0, none⟩)) rfl (by first | (go_simp; done) | (go_simp; rfl)) ?_
        intro b5 w6 hu lb hb5
        simp only [Act.put, nm1, nm2, nm3, i64_w]
        have lbb5 := Aside0.mk lb
        have ltb5 := Aside0.mk hb5.lt
        clear lb
        have hu7 := Aside0.mk hu
        clear hu
        refine step_new (cs := [.int .i64 a4_0, .int .i64 a4_1]) (T := 22) (f := fun b => .pointer (some ⟨b, 0, none⟩)) rfl (by first | (go_simp; done) | (go_simp; rfl)) ?_
        intro b8 w9 hu lb hb8
        simp only [Act.put, nm1, nm2, nm3, i64_w]
        have lbb8 := Aside0.mk lb
        have ltb8 := Aside0.mk hb8.lt
        clear lb
        have hu10 := Aside0.mk hu
        clear hu
        refine wpList_plain rfl (fun Ko hKo => ?_)
        go_simp
        refine hKo _ _ ?_
        clear hKo Ko
        try simp only [Act.put, nm1, nm2, nm3, i64_w]
        refine wpList_nil ?_
        (try simp only [Exit.then, Exit.inBlock, ↓reduceIte, Nat.reduceEqDiff])
        refine hK1 _ _ ?_
        refine wp_seq_k (fun K11 hK11 => ?_)
        refine' wp_region_up 14 [Slot.det _, Slot.det _, Slot.det _, Slot.det (.agg #[.int .i64 t12, .int .i64 t13]), Slot.det _, Slot.det (.agg #[.int .i64 t15, .int .i64 t16]), Slot.det _, Slot.det (.agg #[.int .i64 t18, .int .i64 t19]), Slot.any (RowTo e2 25 w9.heap.size t21 (fun v => .tuple #[v, .int .i64 t24])) false, Slot.any (RowTo e2 25 w9.heap.size t21 (fun v => .tuple #[v, .int .i64 t24])) false, Slot.any (RowTo e2 25 w9.heap.size t21 (fun v => v)) false, Slot.det (.int .i64 t24), Slot.any (RowTo e2 25 w9.heap.size t21 (fun v => v)) false, Slot.det _] (by kernel_rfl) (by kernel_rfl) ?main
        case main =>
         simp only [List.take_succ_cons, List.take_zero]
         refine wpK_ops rfl (fun w1 hu => ?_) ?_
         · clear hu
           go_simp
           first | done | rfl
         simp only [Act.put, nm1, nm2, nm3, i64_w]
         refine wpK_ops rfl (fun w1 hu => ?_) ?_
         · clear hu
           go_simp
           first | done | rfl
         simp only [Act.put, nm1, nm2, nm3, i64_w]
         refine wpK_ops rfl (fun w1 hu => ?_) ?_
         · have cl0 := ((hb2.up (hu7.out.trans hu10.out)).up ((Up.refl _).drew.trans hu)).cell (o := 0) rfl
           have cl1 := ((hb2.up (hu7.out.trans hu10.out)).up ((Up.refl _).drew.trans hu)).cell (o := 1) rfl
           go_simp
           first | done | rfl
         simp only [Act.put, nm1, nm2, nm3, i64_w]
         refine wpK_ops rfl (fun w1 hu => ?_) ?_
         · have hcl := (laws_toPoint.calls K a2_0 a2_1 t12 t13 w1  A14.out)
           clear hu
           replace hcl := Aside0.mk hcl
           go_simp
           exact hcl.out
         simp only [Act.put, nm1, nm2, nm3, i64_w]
         refine wpK_ops rfl (fun w1 hu => ?_) ?_
         · have cl0 := ((hb5.up hu10.out).up ((Up.refl _).drew.trans hu)).cell (o := 0) rfl
           have cl1 := ((hb5.up hu10.out).up ((Up.refl _).drew.trans hu)).cell (o := 1) rfl
           go_simp
           first | done | rfl
         simp only [Act.put, nm1, nm2, nm3, i64_w]
         refine wpK_ops rfl (fun w1 hu => ?_) ?_
         · have hcl := (laws_toPoint.calls K a3_0 a3_1 t15 t16 w1  A17.out)
           clear hu
           replace hcl := Aside0.mk hcl
           go_simp
           exact hcl.out
         simp only [Act.put, nm1, nm2, nm3, i64_w]
         refine wpK_ops rfl (fun w1 hu => ?_) ?_
         · have cl0 := (hb8.up ((Up.refl _).drew.trans hu)).cell (o := 0) rfl
           have cl1 := (hb8.up ((Up.refl _).drew.trans hu)).cell (o := 1) rfl
           go_simp
           first | done | rfl
         simp only [Act.put, nm1, nm2, nm3, i64_w]
         refine wpK_ops rfl (fun w1 hu => ?_) ?_
         · have hcl := (laws_toPoint.calls K a4_0 a4_1 t18 t19 w1  A20.out)
           clear hu
           replace hcl := Aside0.mk hcl
           go_simp
           exact hcl.out
         simp only [Act.put, nm1, nm2, nm3, i64_w]
         refine wpK_any rfl (stab_row _ _ _ _ _) (fun w1 hu hl => ?_) (fun v26 => ?_)
         · have hcl := spec_OrthicPoints.calls K a0 a1 t12 t13 t15 t16 t18 t19 t21 t24 w1  A25.out
           have hz := ((Up.refl _).drew.trans hu).size
           clear hu
           replace hcl := Aside0.mk hcl
           exact fresh_row (by first | (go_simp; done) | (go_simp; rfl)) hcl.out hz
         simp only [Act.put, nm1, nm2, nm3, i64_w]
         refine wpK_any rfl (stab_row _ _ _ _ _) (fun w1 hu hl => ?_) (fun v27 => ?_)
         · exact any_of_run (by first | (go_simp; done) | (go_simp; rfl)) (hl.1 (by kernel_rfl))
         simp only [Act.put, nm1, nm2, nm3, i64_w]
         refine wpK_any rfl (stab_row _ _ _ _ _) (fun w1 hu hl => ?_) (fun v28 => ?_)
         · obtain ⟨A0_, c0_, e0_, hO0_⟩ := hl.1 (by kernel_rfl)
           clear hl hu
           dsimp only at e0_
           subst e0_
           exact any_of_run (u := .slice A0_ t21.length c0_) (by first | (go_simp; done) | (go_simp; rfl)) ⟨A0_, c0_, rfl, hO0_⟩
         simp only [Act.put, nm1, nm2, nm3, i64_w]
         refine wpK_det rfl (fun w1 hu hl => ?_) ?_
         · obtain ⟨A0_, c0_, e0_, hO0_⟩ := hl.2.1 (by kernel_rfl)
           clear hl hu
           dsimp only at e0_
           subst e0_
           clear hO0_
           go_simp
           first | done | rfl
         simp only [Act.put, nm1, nm2, nm3, i64_w]
         refine wpK_any rfl (stab_row _ _ _ _ _) (fun w1 hu hl => ?_) (fun v29 => ?_)
         · exact any_of_run (by first | (go_simp; done) | (go_simp; rfl)) (hl.1 (by kernel_rfl))
         simp only [Act.put, nm1, nm2, nm3, i64_w]
         refine wpK_ops rfl (fun w1 hu => ?_) ?_
         · clear hu
           go_simp
           first | done | rfl
         simp only [Act.put, nm1, nm2, nm3, i64_w]
         refine wpK_nil ?_
         intro w30 hu hap
         simp only [List.drop_succ_cons, List.drop_zero]
         replace hu := (Up.refl _).drew.trans hu
         obtain ⟨-, -, ⟨P22, q23, e0, ht21⟩, -, -, -, -, -, -, -, -, -, -⟩ := hap
         dsimp only at e0
         subst e0
         have hu31 := Aside0.mk hu
         clear hu
         refine wpList_nil ?_
         (try simp only [Exit.then, Exit.inBlock, ↓reduceIte, Nat.reduceEqDiff])
         refine hK11 _ _ ?_
         refine wp_seq_k (fun K32 hK32 => ?_)
         refine' wp_region_up 14 [Slot.det _, Slot.det _, Slot.det _, Slot.det (.agg #[.int .i64 t33, .int .i64 t34]), Slot.det _, Slot.det (.agg #[.int .i64 t36, .int .i64 t37]), Slot.det _, Slot.det (.agg #[.int .i64 t39, .int .i64 t40]), Slot.any (RowTo e2 25 w30.heap.size t42 (fun v => .tuple #[v, .int .i64 t45])) false, Slot.any (RowTo e2 25 w30.heap.size t42 (fun v => .tuple #[v, .int .i64 t45])) false, Slot.any (RowTo e2 25 w30.heap.size t42 (fun v => v)) false, Slot.det (.int .i64 t45), Slot.any (RowTo e2 25 w30.heap.size t42 (fun v => v)) false, Slot.det _] (by kernel_rfl) (by kernel_rfl) ?main
         case main =>
          simp only [List.take_succ_cons, List.take_zero]
          refine wpK_ops rfl (fun w1 hu => ?_) ?_
          · clear hu
            go_simp
            first | done | rfl
          simp only [Act.put, nm1, nm2, nm3, i64_w]
          refine wpK_ops rfl (fun w1 hu => ?_) ?_
          · clear hu
            go_simp
            first | done | rfl
          simp only [Act.put, nm1, nm2, nm3, i64_w]
          refine wpK_ops rfl (fun w1 hu => ?_) ?_
          · have cl0 := ((hb2.up ((hu7.out.trans hu10.out).trans hu31.out)).up ((Up.refl _).drew.trans hu)).cell (o := 0) rfl
            have cl1 := ((hb2.up ((hu7.out.trans hu10.out).trans hu31.out)).up ((Up.refl _).drew.trans hu)).cell (o := 1) rfl
            go_simp
            first | done | rfl
          simp only [Act.put, nm1, nm2, nm3, i64_w]
          refine wpK_ops rfl (fun w1 hu => ?_) ?_
          · have hcl := (laws_toPoint.calls K a2_0 a2_1 t33 t34 w1  A35.out)
            clear hu
            replace hcl := Aside0.mk hcl
            go_simp
            exact hcl.out
          simp only [Act.put, nm1, nm2, nm3, i64_w]
          refine wpK_ops rfl (fun w1 hu => ?_) ?_
          · have cl0 := ((hb5.up (hu10.out.trans hu31.out)).up ((Up.refl _).drew.trans hu)).cell (o := 0) rfl
            have cl1 := ((hb5.up (hu10.out.trans hu31.out)).up ((Up.refl _).drew.trans hu)).cell (o := 1) rfl
            go_simp
            first | done | rfl
          simp only [Act.put, nm1, nm2, nm3, i64_w]
          refine wpK_ops rfl (fun w1 hu => ?_) ?_
          · have hcl := (laws_toPoint.calls K a3_0 a3_1 t36 t37 w1  A38.out)
            clear hu
            replace hcl := Aside0.mk hcl
            go_simp
            exact hcl.out
          simp only [Act.put, nm1, nm2, nm3, i64_w]
          refine wpK_ops rfl (fun w1 hu => ?_) ?_
          · have cl0 := ((hb8.up hu31.out).up ((Up.refl _).drew.trans hu)).cell (o := 0) rfl
            have cl1 := ((hb8.up hu31.out).up ((Up.refl _).drew.trans hu)).cell (o := 1) rfl
            go_simp
            first | done | rfl
          simp only [Act.put, nm1, nm2, nm3, i64_w]
          refine wpK_ops rfl (fun w1 hu => ?_) ?_
          · have hcl := (laws_toPoint.calls K a4_0 a4_1 t39 t40 w1  A41.out)
            clear hu
            replace hcl := Aside0.mk hcl
            go_simp
            exact hcl.out
          simp only [Act.put, nm1, nm2, nm3, i64_w]
          refine wpK_any rfl (stab_row _ _ _ _ _) (fun w1 hu hl => ?_) (fun v47 => ?_)
          · have hcl := impl_OrthicPoints.calls K a0 a1 t33 t34 t36 t37 t39 t40 t42 t45 w1  A46.out
            have hz := ((Up.refl _).drew.trans hu).size
            clear hu
            replace hcl := Aside0.mk hcl
            exact fresh_row (by first | (go_simp; done) | (go_simp; rfl)) hcl.out hz
          simp only [Act.put, nm1, nm2, nm3, i64_w]
          refine wpK_any rfl (stab_row _ _ _ _ _) (fun w1 hu hl => ?_) (fun v48 => ?_)
          · exact any_of_run (by first | (go_simp; done) | (go_simp; rfl)) (hl.1 (by kernel_rfl))
          simp only [Act.put, nm1, nm2, nm3, i64_w]
          refine wpK_any rfl (stab_row _ _ _ _ _) (fun w1 hu hl => ?_) (fun v49 => ?_)
          · obtain ⟨A0_, c0_, e0_, hO0_⟩ := hl.1 (by kernel_rfl)
            clear hl hu
            dsimp only at e0_
            subst e0_
            exact any_of_run (u := .slice A0_ t42.length c0_) (by first | (go_simp; done) | (go_simp; rfl)) ⟨A0_, c0_, rfl, hO0_⟩
          simp only [Act.put, nm1, nm2, nm3, i64_w]
          refine wpK_det rfl (fun w1 hu hl => ?_) ?_
          · obtain ⟨A0_, c0_, e0_, hO0_⟩ := hl.2.1 (by kernel_rfl)
            clear hl hu
            dsimp only at e0_
            subst e0_
            clear hO0_
            go_simp
            first | done | rfl
          simp only [Act.put, nm1, nm2, nm3, i64_w]
          refine wpK_any rfl (stab_row _ _ _ _ _) (fun w1 hu hl => ?_) (fun v50 => ?_)
          · exact any_of_run (by first | (go_simp; done) | (go_simp; rfl)) (hl.1 (by kernel_rfl))
          simp only [Act.put, nm1, nm2, nm3, i64_w]
          refine wpK_ops rfl (fun w1 hu => ?_) ?_
          · clear hu
            go_simp
            first | done | rfl
          simp only [Act.put, nm1, nm2, nm3, i64_w]
          refine wpK_nil ?_
          intro w51 hu hap
          simp only [List.drop_succ_cons, List.drop_zero]
          replace hu := (Up.refl _).drew.trans hu
          obtain ⟨-, -, ⟨P43, q44, e0, ht42⟩, -, -, -, -, -, -, -, -, -, -⟩ := hap
          dsimp only at e0
          subst e0
          have hu52 := Aside0.mk hu
          clear hu
          refine wpList_nil ?_
          (try simp only [Exit.then, Exit.inBlock, ↓reduceIte, Nat.reduceEqDiff])
          refine hK32 _ _ ?_
          refine wp_seq_k (fun K53 hK53 => ?_)
          refine wp_seq_k (fun K54 hK54 => ?_)
          refine wp_region_lit ?_
          refine wpList_plain rfl (fun Ko hKo => ?_)
          go_simp
          refine hKo _ _ ?_
          clear hKo Ko
          try simp only [Act.put, nm1, nm2, nm3, i64_w]
          refine wpList_plain rfl (fun Ko hKo => ?_)
          go_simp
          refine hKo _ _ ?_
          clear hKo Ko
          try simp only [Act.put, nm1, nm2, nm3, i64_w]
          refine step_call (wanted_none rfl) (by first | (go_simp; done) | (go_simp; rfl)) (laws_eqPointS.calls K P43 q44 t42 P22 q23 t21 true w51 ht42.rd ((ht21.up hu52.out).rd) A56.out) ?_
          rintro e w57 ⟨rfl, hu⟩
          have hu58 := Aside0.mk hu
          clear hu
          refine ⟨_, rfl, ?_⟩
          simp only [Act.put, nm1, nm2, nm3, i64_w]
          refine wpList_plain rfl (fun Ko hKo => ?_)
          go_simp
          refine hKo _ _ ?_
          clear hKo Ko
          try simp only [Act.put, nm1, nm2, nm3, i64_w]
          refine wpList_plain rfl (fun Ko hKo => ?_)
          go_simp
          refine hKo _ _ ?_
          clear hKo Ko
          try simp only [Act.put, nm1, nm2, nm3, i64_w]
          refine wpList_step (fun Ko hKo => ?_)
          go_simp
          refine hKo _ _ ?_
          clear hKo Ko
          try simp only [Act.put, nm1, nm2, nm3, i64_w]
          refine wpList_step (fun Ko hKo => ?_)
          go_simp
          refine hKo _ _ ?_
          clear hKo Ko
          try simp only [Act.put, nm1, nm2, nm3, i64_w]
          refine wpList_step (fun Ko hKo => ?_)
          go_simp
          refine hKo _ _ ?_
          clear hKo Ko
          try simp only [Act.put, nm1, nm2, nm3, i64_w]
          refine wpList_plain rfl (fun Ko hKo => ?_)
          go_simp
          refine hKo _ _ ?_
          clear hKo Ko
          try simp only [Act.put, nm1, nm2, nm3, i64_w]
          refine wpList_nil ?_
          (try simp only [Exit.then, Exit.inBlock, ↓reduceIte, Nat.reduceEqDiff])
          refine hK54 _ _ ?_
          refine wp_cond_false rfl ?_
          refine wp_skip ?_
          (try simp only [Exit.then, Exit.inBlock, ↓reduceIte, Nat.reduceEqDiff])
          refine hK53 _ _ ?_
          refine wp_seq_k (fun K61 hK61 => ?_)
          refine wp_region_lit ?_
          refine wpList_plain rfl (fun Ko hKo => ?_)
          go_simp
          refine hKo _ _ ?_
          clear hKo Ko
          try simp only [Act.put, nm1, nm2, nm3, i64_w]
          refine wpList_nil ?_
          (try simp only [Exit.then, Exit.inBlock, ↓reduceIte, Nat.reduceEqDiff])
          refine hK61 _ _ ?_
          refine wp_seq_k (fun K62 hK62 => ?_)
          refine wp_region_lit ?_
          refine wpList_plain rfl (fun Ko hKo => ?_)
          go_simp
          refine hKo _ _ ?_
          clear hKo Ko
          try simp only [Act.put, nm1, nm2, nm3, i64_w]
          refine wpList_plain rfl (fun Ko hKo => ?_)
          go_simp
          refine hKo _ _ ?_
          clear hKo Ko
          try simp only [Act.put, nm1, nm2, nm3, i64_w]
          refine step_call (wanted_none rfl) (by first | (go_simp; done) | (go_simp; rfl)) (laws_markPointS.calls K P43 q44 w30.heap.size t42 1 t63 t64 w57 (ht42.up hu58.out) A65.out) ?_
          have lb67 := Aside0.mk (ht42.up hu58.out).lt
          rintro e w66 ⟨rfl, h68, hl, hg⟩
          have hg70 := Aside0.mk hg
          have hl69 := hl
          clear hg hl
          have hl71 : Aside0 (t42.length = t64.length) := Aside0.mk hl69.out
          refine ⟨_, rfl, ?_⟩
          simp only [Act.put, nm1, nm2, nm3, i64_w]
          refine wpList_plain rfl (fun Ko hKo => ?_)
          go_simp
          refine hKo _ _ ?_
          clear hKo Ko
          try simp only [Act.put, nm1, nm2, nm3, i64_w]
          refine wpList_nil ?_
          (try simp only [Exit.then, Exit.inBlock, ↓reduceIte, Nat.reduceEqDiff])
          refine hK62 _ _ ?_
          refine wp_seq_k (fun K72 hK72 => ?_)
          refine wp_region_lit ?_
          refine wpList_plain rfl (fun Ko hKo => ?_)
          go_simp
          refine hKo _ _ ?_
          clear hKo Ko
          try simp only [Act.put, nm1, nm2, nm3, i64_w]
          refine wpList_nil ?_
          (try simp only [Exit.then, Exit.inBlock, ↓reduceIte, Nat.reduceEqDiff])
          refine hK72 _ _ ?_
          refine wp_seq_k (fun K73 hK73 => ?_)
          refine wp_region_lit ?_
          refine wpList_plain rfl (fun Ko hKo => ?_)
          go_simp
          refine hKo _ _ ?_
          clear hKo Ko
          try simp only [Act.put, nm1, nm2, nm3, i64_w]
          refine wpList_plain rfl (fun Ko hKo => ?_)
          go_simp
          refine hKo _ _ ?_
          clear hKo Ko
          try simp only [Act.put, nm1, nm2, nm3, i64_w]
          refine step_call (wanted_none rfl) (by first | (go_simp; done) | (go_simp; rfl)) (Eq.mp (congrArg (fun n_ => Calls Try.prog 41 #[.slice P43 n_ q44, .int .i64 1] w66 _) (Eq.symm hl71.out)) (laws_heldPointS.calls K P43 q44 t64 1 t74 w66 h68.rd A75.out)) ?_
          rintro e w76 ⟨rfl, hu⟩
          have hu77 := Aside0.mk hu
          clear hu
          refine ⟨_, rfl, ?_⟩
          simp only [Act.put, nm1, nm2, nm3, i64_w]
          refine wpList_plain rfl (fun Ko hKo => ?_)
          go_simp
          refine hKo _ _ ?_
          clear hKo Ko
          try simp only [Act.put, nm1, nm2, nm3, i64_w]
          refine wpList_nil ?_
          (try simp only [Exit.then, Exit.inBlock, ↓reduceIte, Nat.reduceEqDiff])
          refine hK73 _ _ ?_
          refine wp_seq_k (fun K78 hK78 => ?_)
          refine wp_seq_k (fun K79 hK79 => ?_)
          refine wp_region_lit ?_
          refine wpList_plain rfl (fun Ko hKo => ?_)
          go_simp
          refine hKo _ _ ?_
          clear hKo Ko
          try simp only [Act.put, nm1, nm2, nm3, i64_w]
          refine wpList_plain rfl (fun Ko hKo => ?_)
          go_simp
          refine hKo _ _ ?_
          clear hKo Ko
          try simp only [Act.put, nm1, nm2, nm3, i64_w]
          refine wpList_nil ?_
          (try simp only [Exit.then, Exit.inBlock, ↓reduceIte, Nat.reduceEqDiff])
          refine hK79 _ _ ?_
          refine wp_cond_false rfl ?_
          refine wp_skip ?_
          (try simp only [Exit.then, Exit.inBlock, ↓reduceIte, Nat.reduceEqDiff])
          refine hK78 _ _ ?_
          refine wp_seq_k (fun K82 hK82 => ?_)
          refine wp_seq_k (fun K83 hK83 => ?_)
          refine wp_region_lit ?_
          refine wpList_plain rfl (fun Ko hKo => ?_)
          go_simp
          refine hKo _ _ ?_
          clear hKo Ko
          try simp only [Act.put, nm1, nm2, nm3, i64_w]
          refine wpList_plain rfl (fun Ko hKo => ?_)
          go_simp
          refine hKo _ _ ?_
          clear hKo Ko
          try simp only [Act.put, nm1, nm2, nm3, i64_w]
          refine wpList_plain rfl (fun Ko hKo => ?_)
          go_simp
          refine hKo _ _ ?_
          clear hKo Ko
          try simp only [Act.put, nm1, nm2, nm3, i64_w]
          refine wpList_nil ?_
          (try simp only [Exit.then, Exit.inBlock, ↓reduceIte, Nat.reduceEqDiff])
          refine hK83 _ _ ?_
          refine wp_cond_false rfl ?_
          refine wp_skip ?_
          (try simp only [Exit.then, Exit.inBlock, ↓reduceIte, Nat.reduceEqDiff])
          refine hK82 _ _ ?_
          refine wp_seq_k (fun K85 hK85 => ?_)
          refine' wp_region_up 14 [Slot.det _, Slot.det _, Slot.det _, Slot.det (.agg #[.int .i64 t86, .int .i64 t87]), Slot.det _, Slot.det (.agg #[.int .i64 t89, .int .i64 t90]), Slot.det _, Slot.det (.agg #[.int .i64 t92, .int .i64 t93]), Slot.any (RowTo e2 25 w76.heap.size t95 (fun v => .tuple #[v, .int .i64 t98])) false, Slot.any (RowTo e2 25 w76.heap.size t95 (fun v => .tuple #[v, .int .i64 t98])) false, Slot.any (RowTo e2 25 w76.heap.size t95 (fun v => v)) false, Slot.det (.int .i64 t98), Slot.any (RowTo e2 25 w76.heap.size t95 (fun v => v)) false, Slot.det _] (by kernel_rfl) (by kernel_rfl) ?main
          case main =>
           simp only [List.take_succ_cons, List.take_zero]
           refine wpK_ops rfl (fun w1 hu => ?_) ?_
           · clear hu
             go_simp
             first | done | rfl
           simp only [Act.put, nm1, nm2, nm3, i64_w]
           refine wpK_ops rfl (fun w1 hu => ?_) ?_
           · clear hu
             go_simp
             first | done | rfl
           simp only [Act.put, nm1, nm2, nm3, i64_w]
           refine wpK_ops rfl (fun w1 hu => ?_) ?_
           · have cl0 := ((hb2.up ((((((hu7.out.trans hu10.out).trans hu31.out).trans hu52.out).trans hu58.out).grow hg70.out (fun k hk => Nat.le_trans ((Nat.le_trans ((Nat.le_trans (hu7.out.size) hu10.out.size)) hu31.out.size)) ((fun k hk => (lb67.out k hk).1) k hk))).trans hu77.out)).up ((Up.refl _).drew.trans hu)).cell (o := 0) rfl
             have cl1 := ((hb2.up ((((((hu7.out.trans hu10.out).trans hu31.out).trans hu52.out).trans hu58.out).grow hg70.out (fun k hk => Nat.le_trans ((Nat.le_trans ((Nat.le_trans (hu7.out.size) hu10.out.size)) hu31.out.size)) ((fun k hk => (lb67.out k hk).1) k hk))).trans hu77.out)).up ((Up.refl _).drew.trans hu)).cell (o := 1) rfl
             go_simp
             first | done | rfl
           simp only [Act.put, nm1, nm2, nm3, i64_w]
           refine wpK_ops rfl (fun w1 hu => ?_) ?_
           · have hcl := (laws_toPoint.calls K a2_0 a2_1 t86 t87 w1  A88.out)
             clear hu
             replace hcl := Aside0.mk hcl
             go_simp
             exact hcl.out
           simp only [Act.put, nm1, nm2, nm3, i64_w]
           refine wpK_ops rfl (fun w1 hu => ?_) ?_
           · have cl0 := ((hb5.up (((((hu10.out.trans hu31.out).trans hu52.out).trans hu58.out).grow hg70.out (fun k hk => Nat.le_trans ((Nat.le_trans (hu10.out.size) hu31.out.size)) ((fun k hk => (lb67.out k hk).1) k hk))).trans hu77.out)).up ((Up.refl _).drew.trans hu)).cell (o := 0) rfl
             have cl1 := ((hb5.up (((((hu10.out.trans hu31.out).trans hu52.out).trans hu58.out).grow hg70.out (fun k hk => Nat.le_trans ((Nat.le_trans (hu10.out.size) hu31.out.size)) ((fun k hk => (lb67.out k hk).1) k hk))).trans hu77.out)).up ((Up.refl _).drew.trans hu)).cell (o := 1) rfl
             go_simp
             first | done | rfl
           simp only [Act.put, nm1, nm2, nm3, i64_w]
           refine wpK_ops rfl (fun w1 hu => ?_) ?_
           · have hcl := (laws_toPoint.calls K a3_0 a3_1 t89 t90 w1  A91.out)
             clear hu
             replace hcl := Aside0.mk hcl
             go_simp
             exact hcl.out
           simp only [Act.put, nm1, nm2, nm3, i64_w]
           refine wpK_ops rfl (fun w1 hu => ?_) ?_
           · have cl0 := ((hb8.up ((((hu31.out.trans hu52.out).trans hu58.out).grow hg70.out (fun k hk => Nat.le_trans (hu31.out.size) ((fun k hk => (lb67.out k hk).1) k hk))).trans hu77.out)).up ((Up.refl _).drew.trans hu)).cell (o := 0) rfl
             have cl1 := ((hb8.up ((((hu31.out.trans hu52.out).trans hu58.out).grow hg70.out (fun k hk => Nat.le_trans (hu31.out.size) ((fun k hk => (lb67.out k hk).1) k hk))).trans hu77.out)).up ((Up.refl _).drew.trans hu)).cell (o := 1) rfl
             go_simp
             first | done | rfl
           simp only [Act.put, nm1, nm2, nm3, i64_w]
           refine wpK_ops rfl (fun w1 hu => ?_) ?_
           · have hcl := (laws_toPoint.calls K a4_0 a4_1 t92 t93 w1  A94.out)
             clear hu
             replace hcl := Aside0.mk hcl
             go_simp
             exact hcl.out
           simp only [Act.put, nm1, nm2, nm3, i64_w]
           refine wpK_any rfl (stab_row _ _ _ _ _) (fun w1 hu hl => ?_) (fun v100 => ?_)
           · have hcl := impl_OrthicPoints.calls K a0 a1 t86 t87 t89 t90 t92 t93 t95 t98 w1  A99.out
             have hz := ((Up.refl _).drew.trans hu).size
             clear hu
             replace hcl := Aside0.mk hcl
             exact fresh_row (by first | (go_simp; done) | (go_simp; rfl)) hcl.out hz
           simp only [Act.put, nm1, nm2, nm3, i64_w]
           refine wpK_any rfl (stab_row _ _ _ _ _) (fun w1 hu hl => ?_) (fun v101 => ?_)
           · exact any_of_run (by first | (go_simp; done) | (go_simp; rfl)) (hl.1 (by kernel_rfl))
           simp only [Act.put, nm1, nm2, nm3, i64_w]
           refine wpK_any rfl (stab_row _ _ _ _ _) (fun w1 hu hl => ?_) (fun v102 => ?_)
           · obtain ⟨A0_, c0_, e0_, hO0_⟩ := hl.1 (by kernel_rfl)
             clear hl hu
             dsimp only at e0_
             subst e0_
             exact any_of_run (u := .slice A0_ t95.length c0_) (by first | (go_simp; done) | (go_simp; rfl)) ⟨A0_, c0_, rfl, hO0_⟩
           simp only [Act.put, nm1, nm2, nm3, i64_w]
           refine wpK_det rfl (fun w1 hu hl => ?_) ?_
           · obtain ⟨A0_, c0_, e0_, hO0_⟩ := hl.2.1 (by kernel_rfl)
             clear hl hu
             dsimp only at e0_
             subst e0_
             clear hO0_
             go_simp
             first | done | rfl
           simp only [Act.put, nm1, nm2, nm3, i64_w]
           refine wpK_any rfl (stab_row _ _ _ _ _) (fun w1 hu hl => ?_) (fun v103 => ?_)
           · exact any_of_run (by first | (go_simp; done) | (go_simp; rfl)) (hl.1 (by kernel_rfl))
           simp only [Act.put, nm1, nm2, nm3, i64_w]
           refine wpK_ops rfl (fun w1 hu => ?_) ?_
           · clear hu
             go_simp
             first | done | rfl
           simp only [Act.put, nm1, nm2, nm3, i64_w]
           refine wpK_nil ?_
           intro w104 hu hap
           simp only [List.drop_succ_cons, List.drop_zero]
           replace hu := (Up.refl _).drew.trans hu
           obtain ⟨-, -, ⟨P96, q97, e0, ht95⟩, -, -, -, -, -, -, -, -, -, -⟩ := hap
           dsimp only at e0
           subst e0
           have hu105 := Aside0.mk hu
           clear hu
           refine wpList_nil ?_
           (try simp only [Exit.then, Exit.inBlock, ↓reduceIte, Nat.reduceEqDiff])
           refine hK85 _ _ ?_
           refine wp_seq_k (fun K106 hK106 => ?_)
           refine wp_seq_k (fun K107 hK107 => ?_)
           refine wp_region_lit ?_
           refine wpList_plain rfl (fun Ko hKo => ?_)
           go_simp
           refine hKo _ _ ?_
           clear hKo Ko
           try simp only [Act.put, nm1, nm2, nm3, i64_w]
           refine wpList_plain rfl (fun Ko hKo => ?_)
           go_simp
           refine hKo _ _ ?_
           clear hKo Ko
           try simp only [Act.put, nm1, nm2, nm3, i64_w]
           refine step_call (wanted_none rfl) (by first | (go_simp; done) | (go_simp; rfl)) (laws_eqPointS.calls K P96 q97 t95 P22 q23 t21 true w104 ht95.rd ((ht21.up ((((hu52.out.trans hu58.out).grow hg70.out (fun k hk => Nat.le_trans (Nat.le_refl _) ((fun k hk => (lb67.out k hk).1) k hk))).trans hu77.out).trans hu105.out)).rd) A109.out) ?_
           rintro e w110 ⟨rfl, hu⟩
           have hu111 := Aside0.mk hu
           clear hu
           refine ⟨_, rfl, ?_⟩
           simp only [Act.put, nm1, nm2, nm3, i64_w]
           refine wpList_plain rfl (fun Ko hKo => ?_)
           go_simp
           refine hKo _ _ ?_
           clear hKo Ko
           try simp only [Act.put, nm1, nm2, nm3, i64_w]
           refine wpList_plain rfl (fun Ko hKo => ?_)
           go_simp
           refine hKo _ _ ?_
           clear hKo Ko
           try simp only [Act.put, nm1, nm2, nm3, i64_w]
           refine wpList_step (fun Ko hKo => ?_)
           go_simp
           refine hKo _ _ ?_
           clear hKo Ko
           try simp only [Act.put, nm1, nm2, nm3, i64_w]
           refine wpList_step (fun Ko hKo => ?_)
           go_simp
           refine hKo _ _ ?_
           clear hKo Ko
           try simp only [Act.put, nm1, nm2, nm3, i64_w]
           refine wpList_step (fun Ko hKo => ?_)
           go_simp
           refine hKo _ _ ?_
           clear hKo Ko
           try simp only [Act.put, nm1, nm2, nm3, i64_w]
           refine wpList_plain rfl (fun Ko hKo => ?_)
           go_simp
           refine hKo _ _ ?_
           clear hKo Ko
           try simp only [Act.put, nm1, nm2, nm3, i64_w]
           refine wpList_nil ?_
           (try simp only [Exit.then, Exit.inBlock, ↓reduceIte, Nat.reduceEqDiff])
           refine hK107 _ _ ?_
           refine wp_cond_false rfl ?_
           refine wp_skip ?_
           (try simp only [Exit.then, Exit.inBlock, ↓reduceIte, Nat.reduceEqDiff])
           refine hK106 _ _ ?_
           refine wp_seq_k (fun K114 hK114 => ?_)
           refine wp_region_lit ?_
           refine wpList_plain rfl (fun Ko hKo => ?_)
           go_simp
           refine hKo _ _ ?_
           clear hKo Ko
           try simp only [Act.put, nm1, nm2, nm3, i64_w]
           refine wpList_nil ?_
           (try simp only [Exit.then, Exit.inBlock, ↓reduceIte, Nat.reduceEqDiff])
           refine hK114 _ _ ?_
           refine wp_seq_k (fun K115 hK115 => ?_)
           refine wp_region_lit ?_
           refine wpList_plain rfl (fun Ko hKo => ?_)
           go_simp
           refine hKo _ _ ?_
           clear hKo Ko
           try simp only [Act.put, nm1, nm2, nm3, i64_w]
           refine wpList_plain rfl (fun Ko hKo => ?_)
           go_simp
           refine hKo _ _ ?_
           clear hKo Ko
           try simp only [Act.put, nm1, nm2, nm3, i64_w]
           refine step_call (wanted_none rfl) (by first | (go_simp; done) | (go_simp; rfl)) (Eq.mp (congrArg (fun n_ => Calls Try.prog 41 #[.slice P43 n_ q44, .int .i64 1] w110 _) (Eq.symm hl71.out)) (laws_heldPointS.calls K P43 q44 t64 1 t116 w110 ((h68.up ((hu77.out.trans hu105.out).trans hu111.out)).rd) A117.out)) ?_
           rintro e w118 ⟨rfl, hu⟩
           have hu119 := Aside0.mk hu
           clear hu
           refine ⟨_, rfl, ?_⟩
           simp only [Act.put, nm1, nm2, nm3, i64_w]
           refine wpList_plain rfl (fun Ko hKo => ?_)
           go_simp
           refine hKo _ _ ?_
           clear hKo Ko
           try simp only [Act.put, nm1, nm2, nm3, i64_w]
           refine wpList_nil ?_
           (try simp only [Exit.then, Exit.inBlock, ↓reduceIte, Nat.reduceEqDiff])
           refine hK115 _ _ ?_
           refine wp_seq_k (fun K120 hK120 => ?_)
           refine wp_seq_k (fun K121 hK121 => ?_)
           refine wp_region_lit ?_
           refine wpList_plain rfl (fun Ko hKo => ?_)
           go_simp
           refine hKo _ _ ?_
           clear hKo Ko
           try simp only [Act.put, nm1, nm2, nm3, i64_w]
           refine wpList_plain rfl (fun Ko hKo => ?_)
           go_simp
           refine hKo _ _ ?_
           clear hKo Ko
           try simp only [Act.put, nm1, nm2, nm3, i64_w]
           refine wpList_nil ?_
           (try simp only [Exit.then, Exit.inBlock, ↓reduceIte, Nat.reduceEqDiff])
           refine hK121 _ _ ?_
           refine wp_cond_true rfl ?_
           refine wp_seq_k (fun K123 hK123 => ?_)
           refine wp_region_lit ?_
           refine wpList_plain rfl (fun Ko hKo => ?_)
           go_simp
           refine hKo _ _ ?_
           clear hKo Ko
           try simp only [Act.put, nm1, nm2, nm3, i64_w]
           refine wpList_nil ?_
           (try simp only [Exit.then, Exit.inBlock, ↓reduceIte, Nat.reduceEqDiff])
           refine hK123 _ _ ?_
           refine wp_ret ?_
           (try simp only [Exit.then, Exit.inBlock, ↓reduceIte, Nat.reduceEqDiff])
           refine hQf _ _ _ ?_
           exact bodyPost_ret (v := .bool false) (by first | rfl | (simp [results, Try.results12, go_sem]; done) | (simp [results, Try.results12, go_sem]; rfl)) rfl ⟨rfl, ((((((((((hu4.out.trans hu7.out).trans hu10.out).trans hu31.out).trans hu52.out).trans hu58.out).grow hg70.out (fun k hk => Nat.le_trans ((Nat.le_trans ((Nat.le_trans ((Nat.le_trans (hu4.out.size) hu7.out.size)) hu10.out.size)) hu31.out.size)) ((fun k hk => (lb67.out k hk).1) k hk))).trans hu77.out).trans hu105.out).trans hu111.out).trans hu119.out)⟩
       ·
        rw [if_neg c122] at H
        replace c122 := Bool.eq_false_iff.mpr c122
        by_cases c126 : (t116 == t63) = true
        ·
         rw [if_pos c126] at H
         have c126n : (t116 != t63) = false := by rw [bne, c126]; rfl
         obtain rfl := Option.some.inj H
         go_enter Try.func12, Try.ntmps12
         refine wp_hide (fun Qf hQf => ?_)
         refine wp_seq_k (fun K1 hK1 => ?_)
         refine wp_region_lit ?_
         refine step_new (cs := [.int .i64 a2_0, .int .i64 a2_1]) (T := 22) (f := fun b => .pointer (some ⟨b, 0, none⟩)) rfl (by first | (go_simp; done) | (go_simp; rfl)) ?_
         intro b2 w3 hu lb hb2
         simp only [Act.put, nm1, nm2, nm3, i64_w]
         have lbb2 := Aside0.mk lb
         have ltb2 := Aside0.mk hb2.lt
         clear lb
         have hu4 := Aside0.mk hu
         clear hu
         refine step_new (cs := [.int .i64 a3_0, .int .i64 a3_1]) (T := 22) (f := fun b => .pointer (some ⟨b, 0, none⟩)) rfl (by first | (go_simp; done) | (go_simp; rfl)) ?_
         intro b5 w6 hu lb hb5
         simp only [Act.put, nm1, nm2, nm3, i64_w]
         have lbb5 := Aside0.mk lb
         have ltb5 := Aside0.mk hb5.lt
         clear lb
         have hu7 := Aside0.mk hu
         clear hu
         refine step_new (cs := [.int .i64 a4_0, .int .i64 a4_1]) (T := 22) (f := fun b => .pointer (some ⟨b, 0, none⟩)) rfl (by first | (go_simp; done) | (go_simp; rfl)) ?_
         intro b8 w9 hu lb hb8
         simp only [Act.put, nm1, nm2, nm3, i64_w]
         have lbb8 := Aside0.mk lb
         have ltb8 := Aside0.mk hb8.lt
         clear lb
         have hu10 := Aside0.mk hu
         clear hu
         refine wpList_plain rfl (fun Ko hKo => ?_)
         go_simp
         refine hKo _ _ ?_
         clear hKo Ko
         try simp only [Act.put, nm1, nm2, nm3, i64_w]
         refine wpList_nil ?_
         (try simp only [Exit.then, Exit.inBlock, ↓reduceIte, Nat.reduceEqDiff])
         refine hK1 _ _ ?_
         refine wp_seq_k (fun K11 hK11 => ?_)
         refine' wp_region_up 14 [Slot.det _, Slot.det _, Slot.det _, Slot.det (.agg #[.int .i64 t12, .int .i64 t13]), Slot.det _, Slot.det (.agg #[.int .i64 t15, .int .i64 t16]), Slot.det _, Slot.det (.agg #[.int .i64 t18, .int .i64 t19]), Slot.any (RowTo e2 25 w9.heap.size t21 (fun v => .tuple #[v, .int .i64 t24])) false, Slot.any (RowTo e2 25 w9.heap.size t21 (fun v => .tuple #[v, .int .i64 t24])) false, Slot.any (RowTo e2 25 w9.heap.size t21 (fun v => v)) false, Slot.det (.int .i64 t24), Slot.any (RowTo e2 25 w9.heap.size t21 (fun v => v)) false, Slot.det _] (by kernel_rfl) (by kernel_rfl) ?main
         case main =>
          simp only [List.take_succ_cons, List.take_zero]
          refine wpK_ops rfl (fun w1 hu => ?_) ?_
          · clear hu
            go_simp
            first | done | rfl
          simp only [Act.put, nm1, nm2, nm3, i64_w]
          refine wpK_ops rfl (fun w1 hu => ?_) ?_
          · clear hu
            go_simp
            first | done | rfl
          simp only [Act.put, nm1, nm2, nm3, i64_w]
          refine wpK_ops rfl (fun w1 hu => ?_) ?_
          · have cl0 := ((hb2.up (hu7.out.trans hu10.out)).up ((Up.refl _).drew.trans hu)).cell (o := 0) rfl
            have cl1 := ((hb2.up (hu7.out.trans hu10.out)).up ((Up.refl _).drew.trans hu)).cell (o := 1) rfl
            go_simp
            first | done | rfl
          simp only [Act.put, nm1, nm2, nm3, i64_w]
          refine wpK_ops rfl (fun w1 hu => ?_) ?_
          · have hcl := (laws_toPoint.calls K a2_0 a2_1 t12 t13 w1  A14.out)
            clear hu
            replace hcl := Aside0.mk hcl
            go_simp
            exact hcl.out
          simp only [Act.put, nm1, nm2, nm3, i64_w]
          refine wpK_ops rfl (fun w1 hu => ?_) ?_
          · have cl0 := ((hb5.up hu10.out).up ((Up.refl _).drew.trans hu)).cell (o := 0) rfl
            have cl1 := ((hb5.up hu10.out).up ((Up.refl _).drew.trans hu)).cell (o := 1) rfl
            go_simp
            first | done | rfl
          simp only [Act.put, nm1, nm2, nm3, i64_w]
          refine wpK_ops rfl (fun w1 hu => ?_) ?_
          · have hcl := (laws_toPoint.calls K a3_0 a3_1 t15 t16 w1  A17.out)
            clear hu
            replace hcl := Aside0.mk hcl
            go_simp
            exact hcl.out
          simp only [Act.put, nm1, nm2, nm3, i64_w]
          refine wpK_ops rfl (fun w1 hu => ?_) ?_
          · have cl0 := (hb8.up ((Up.refl _).drew.trans hu)).cell (o := 0) rfl
            have cl1 := (hb8.up ((Up.refl _).drew.trans hu)).cell (o := 1) rfl
            go_simp
            first | done | rfl
          simp only [Act.put, nm1, nm2, nm3, i64_w]
          refine wpK_ops rfl (fun w1 hu => ?_) ?_
          · have hcl := (laws_toPoint.calls K a4_0 a4_1 t18 t19 w1  A20.out)
            clear hu
            replace hcl := Aside0.mk hcl
            go_simp
            exact hcl.out
          simp only [Act.put, nm1, nm2, nm3, i64_w]
          refine wpK_any rfl (stab_row _ _ _ _ _) (fun w1 hu hl => ?_) (fun v26 => ?_)
          · have hcl := spec_OrthicPoints.calls K a0 a1 t12 t13 t15 t16 t18 t19 t21 t24 w1  A25.out
            have hz := ((Up.refl _).drew.trans hu).size
            clear hu
            replace hcl := Aside0.mk hcl
            exact fresh_row (by first | (go_simp; done) | (go_simp; rfl)) hcl.out hz
          simp only [Act.put, nm1, nm2, nm3, i64_w]
          refine wpK_any rfl (stab_row _ _ _ _ _) (fun w1 hu hl => ?_) (fun v27 => ?_)
          · exact any_of_run (by first | (go_simp; done) | (go_simp; rfl)) (hl.1 (by kernel_rfl))
          simp only [Act.put, nm1, nm2, nm3, i64_w]
          refine wpK_any rfl (stab_row _ _ _ _ _) (fun w1 hu hl => ?_) (fun v28 => ?_)
          · obtain ⟨A0_, c0_, e0_, hO0_⟩ := hl.1 (by kernel_rfl)
            clear hl hu
            dsimp only at e0_
            subst e0_
            exact any_of_run (u := .slice A0_ t21.length c0_) (by first | (go_simp; done) | (go_simp; rfl)) ⟨A0_, c0_, rfl, hO0_⟩
          simp only [Act.put, nm1, nm2, nm3, i64_w]
          refine wpK_det rfl (fun w1 hu hl => ?_) ?_
          · obtain ⟨A0_, c0_, e0_, hO0_⟩ := hl.2.1 (by kernel_rfl)
            clear hl hu
            dsimp only at e0_
            subst e0_
            clear hO0_
            go_simp
            first | done | rfl
          simp only [Act.put, nm1, nm2, nm3, i64_w]
          refine wpK_any rfl (stab_row _ _ _ _ _) (fun w1 hu hl => ?_) (fun v29 => ?_)
          · exact any_of_run (by first | (go_simp; done) | (go_simp; rfl)) (hl.1 (by kernel_rfl))
          simp only [Act.put, nm1, nm2, nm3, i64_w]
          refine wpK_ops rfl (fun w1 hu => ?_) ?_
          · clear hu
            go_simp
            first | done | rfl
          simp only [Act.put, nm1, nm2, nm3, i64_w]
          refine wpK_nil ?_
          intro w30 hu hap
          simp only [List.drop_succ_cons, List.drop_zero]
          replace hu := (Up.refl _).drew.trans hu
          obtain ⟨-, -, ⟨P22, q23, e0, ht21⟩, -, -, -, -, -, -, -, -, -, -⟩ := hap
          dsimp only at e0
          subst e0
          have hu31 := Aside0.mk hu
          clear hu
          refine wpList_nil ?_
          (try simp only [Exit.then, Exit.inBlock, ↓reduceIte, Nat.reduceEqDiff])
          refine hK11 _ _ ?_
          refine wp_seq_k (fun K32 hK32 => ?_)
          refine' wp_region_up 14 [Slot.det _, Slot.det _, Slot.det _, Slot.det (.agg #[.int .i64 t33, .int .i64 t34]), Slot.det _, Slot.det (.agg #[.int .i64 t36, .int .i64 t37]), Slot.det _, Slot.det (.agg #[.int .i64 t39, .int .i64 t40]), Slot.any (RowTo e2 25 w30.heap.size t42 (fun v => .tuple #[v, .int .i64 t45])) false, Slot.any (RowTo e2 25 w30.heap.size t42 (fun v => .tuple #[v, .int .i64 t45])) false, Slot.any (RowTo e2 25 w30.heap.size t42 (fun v => v)) false, Slot.det (.int .i64 t45), Slot.any (RowTo e2 25 w30.heap.size t42 (fun v => v)) false, Slot.det _] (by kernel_rfl) (by kernel_rfl) ?main
          case main =>
           simp only [List.take_succ_cons, List.take_zero]
           refine wpK_ops rfl (fun w1 hu => ?_) ?_
           · clear hu
             go_simp
             first | done | rfl
           simp only [Act.put, nm1, nm2, nm3, i64_w]
           refine wpK_ops rfl (fun w1 hu => ?_) ?_
           · clear hu
             go_simp
             first | done | rfl
           simp only [Act.put, nm1, nm2, nm3, i64_w]
           refine wpK_ops rfl (fun w1 hu => ?_) ?_
           · have cl0 := ((hb2.up ((hu7.out.trans hu10.out).trans hu31.out)).up ((Up.refl _).drew.trans hu)).cell (o := 0) rfl
             have cl1 := ((hb2.up ((hu7.out.trans hu10.out).trans hu31.out)).up ((Up.refl _).drew.trans hu)).cell (o := 1) rfl
             go_simp
             first | done | rfl
           simp only [Act.put, nm1, nm2, nm3, i64_w]
           refine wpK_ops rfl (fun w1 hu => ?_) ?_
           · have hcl := (laws_toPoint.calls K a2_0 a2_1 t33 t34 w1  A35.out)
             clear hu
             replace hcl := Aside0.mk hcl
             go_simp
             exact hcl.out
           simp only [Act.put, nm1, nm2, nm3, i64_w]
           refine wpK_ops rfl (fun w1 hu => ?_) ?_
           · have cl0 := ((hb5.up (hu10.out.trans hu31.out)).up ((Up.refl _).drew.trans hu)).cell (o := 0) rfl
             have cl1 := ((hb5.up (hu10.out.trans hu31.out)).up ((Up.refl _).drew.trans hu)).cell (o := 1) rfl
             go_simp
             first | done | rfl
           simp only [Act.put, nm1, nm2, nm3, i64_w]
           refine wpK_ops rfl (fun w1 hu => ?_) ?_
           · have hcl := (laws_toPoint.calls K a3_0 a3_1 t36 t37 w1  A38.out)
             clear hu
             replace hcl := Aside0.mk hcl
             go_simp
             exact hcl.out
           simp only [Act.put, nm1, nm2, nm3, i64_w]
           refine wpK_ops rfl (fun w1 hu => ?_) ?_
           · have cl0 := ((hb8.up hu31.out).up ((Up.refl _).drew.trans hu)).cell (o := 0) rfl
             have cl1 := ((hb8.up hu31.out).up ((Up.refl _).drew.trans hu)).cell (o := 1) rfl
             go_simp
             first | done | rfl
           simp only [Act.put, nm1, nm2, nm3, i64_w]
           refine wpK_ops rfl (fun w1 hu => ?_) ?_
           · have hcl := (laws_toPoint.calls K a4_0 a4_1 t39 t40 w1  A41.out)
             clear hu
             replace hcl := Aside0.mk hcl
             go_simp
             exact hcl.out
           simp only [Act.put, nm1, nm2, nm3, i64_w]
           refine wpK_any rfl (stab_row _ _ _ _ _) (fun w1 hu hl => ?_) (fun v47 => ?_)
           · have hcl := impl_OrthicPoints.calls K a0 a1 t33 t34 t36 t37 t39 t40 t42 t45 w1  A46.out
             have hz := ((Up.refl _).drew.trans hu).size
             clear hu
             replace hcl := Aside0.mk hcl
             exact fresh_row (by first | (go_simp; done) | (go_simp; rfl)) hcl.out hz
           simp only [Act.put, nm1, nm2, nm3, i64_w]
           refine wpK_any rfl (stab_row _ _ _ _ _) (fun w1 hu hl => ?_) (fun v48 => ?_)
           · exact any_of_run (by first | (go_simp; done) | (go_simp; rfl)) (hl.1 (by kernel_rfl))
           simp only [Act.put, nm1, nm2, nm3, i64_w]
           refine wpK_any rfl (stab_row _ _ _ _ _) (fun w1 hu hl => ?_) (fun v49 => ?_)
           · obtain ⟨A0_, c0_, e0_, hO0_⟩ := hl.1 (by kernel_rfl)
             clear hl hu
             dsimp only at e0_
             subst e0_
             exact any_of_run (u := .slice A0_ t42.length c0_) (by first | (go_simp; done) | (go_simp; rfl)) ⟨A0_, c0_, rfl, hO0_⟩
           simp only [Act.put, nm1, nm2, nm3, i64_w]
           refine wpK_det rfl (fun w1 hu hl => ?_) ?_
           · obtain ⟨A0_, c0_, e0_, hO0_⟩ := hl.2.1 (by kernel_rfl)
             clear hl hu
             dsimp only at e0_
             subst e0_
             clear hO0_
             go_simp
             first | done | rfl
           simp only [Act.put, nm1, nm2, nm3, i64_w]
           refine wpK_any rfl (stab_row _ _ _ _ _) (fun w1 hu hl => ?_) (fun v50 => ?_)
           · exact any_of_run (by first | (go_simp; done) | (go_simp; rfl)) (hl.1 (by kernel_rfl))
           simp only [Act.put, nm1, nm2, nm3, i64_w]
           refine wpK_ops rfl (fun w1 hu => ?_) ?_
           · clear hu
             go_simp
             first | done | rfl
           simp only [Act.put, nm1, nm2, nm3, i64_w]
           refine wpK_nil ?_
           intro w51 hu hap
           simp only [List.drop_succ_cons, List.drop_zero]
           replace hu := (Up.refl _).drew.trans hu
           obtain ⟨-, -, ⟨P43, q44, e0, ht42⟩, -, -, -, -, -, -, -, -, -, -⟩ := hap
           dsimp only at e0
           subst e0
           have hu52 := Aside0.mk hu
           clear hu
           refine wpList_nil ?_
           (try simp only [Exit.then, Exit.inBlock, ↓reduceIte, Nat.reduceEqDiff])
           refine hK32 _ _ ?_
           refine wp_seq_k (fun K53 hK53 => ?_)
           refine wp_seq_k (fun K54 hK54 => ?_)
           refine wp_region_lit ?_
           refine wpList_plain rfl (fun Ko hKo => ?_)
           go_simp
           refine hKo _ _ ?_
           clear hKo Ko
           try simp only [Act.put, nm1, nm2, nm3, i64_w]
           refine wpList_plain rfl (fun Ko hKo => ?_)
           go_simp
           refine hKo _ _ ?_
           clear hKo Ko
           try simp only [Act.put, nm1, nm2, nm3, i64_w]
           refine step_call (wanted_none rfl) (by first | (go_simp; done) | (go_simp; rfl)) (laws_eqPointS.calls K P43 q44 t42 P22 q23 t21 true w51 ht42.rd ((ht21.up hu52.out).rd) A56.out) ?_
           rintro e w57 ⟨rfl, hu⟩
           have hu58 := Aside0.mk hu
           clear hu
           refine ⟨_, rfl, ?_⟩
           simp only [Act.put, nm1, nm2, nm3, i64_w]
           refine wpList_plain rfl (fun Ko hKo => ?_)
           go_simp
           refine hKo _ _ ?_
           clear hKo Ko
           try simp only [Act.put, nm1, nm2, nm3, i64_w]
           refine wpList_plain rfl (fun Ko hKo => ?_)
           go_simp
           refine hKo _ _ ?_
           clear hKo Ko
           try simp only [Act.put, nm1, nm2, nm3, i64_w]
           refine wpList_step (fun Ko hKo => ?_)
           go_simp
           refine hKo _ _ ?_
           clear hKo Ko
           try simp only [Act.put, nm1, nm2, nm3, i64_w]
           refine wpList_step (fun Ko hKo => ?_)
           go_simp
           refine hKo _ _ ?_
           clear hKo Ko
           try simp only [Act.put, nm1, nm2, nm3, i64_w]
           refine wpList_step (fun Ko hKo => ?_)
           go_simp
           refine hKo _ _ ?_
           clear hKo Ko
           try simp only [Act.put, nm1, nm2, nm3, i64_w]
           refine wpList_plain rfl (fun Ko hKo => ?_)
           go_simp
           refine hKo _ _ ?_
           clear hKo Ko
           try simp only [Act.put, nm1, nm2, nm3, i64_w]
           refine wpList_nil ?_
           (try simp only [Exit.then, Exit.inBlock, ↓reduceIte, Nat.reduceEqDiff])
           refine hK54 _ _ ?_
           refine wp_cond_false rfl ?_
           refine wp_skip ?_
           (try simp only [Exit.then, Exit.inBlock, ↓reduceIte, Nat.reduceEqDiff])
           refine hK53 _ _ ?_
           refine wp_seq_k (fun K61 hK61 => ?_)
           refine wp_region_lit ?_
           refine wpList_plain rfl (fun Ko hKo => ?_)
           go_simp
           refine hKo _ _ ?_
           clear hKo Ko
           try simp only [Act.put, nm1, nm2, nm3, i64_w]
           refine wpList_nil ?_
           (try simp only [Exit.then, Exit.inBlock, ↓reduceIte, Nat.reduceEqDiff])
           refine hK61 _ _ ?_
           refine wp_seq_k (fun K62 hK62 => ?_)
           refine wp_region_lit ?_
           refine wpList_plain rfl (fun Ko hKo => ?_)
           go_simp
           refine hKo _ _ ?_
           clear hKo Ko
           try simp only [Act.put, nm1, nm2, nm3, i64_w]
           refine wpList_plain rfl (fun Ko hKo => ?_)
           go_simp
           refine hKo _ _ ?_
           clear hKo Ko
           try simp only [Act.put, nm1, nm2, nm3, i64_w]
           refine step_call (wanted_none rfl) (by first | (go_simp; done) | (go_simp; rfl)) (laws_markPointS.calls K P43 q44 w30.heap.size t42 1 t63 t64 w57 (ht42.up hu58.out) A65.out) ?_
           have lb67 := Aside0.mk (ht42.up hu58.out).lt
           rintro e w66 ⟨rfl, h68, hl, hg⟩
           have hg70 := Aside0.mk hg
           have hl69 := hl
           clear hg hl
           have hl71 : Aside0 (t42.length = t64.length) := Aside0.mk hl69.out
           refine ⟨_, rfl, ?_⟩
           simp only [Act.put, nm1, nm2, nm3, i64_w]
           refine wpList_plain rfl (fun Ko hKo => ?_)
           go_simp
           refine hKo _ _ ?_
           clear hKo Ko
           try simp only [Act.put, nm1, nm2, nm3, i64_w]
           refine wpList_nil ?_
           (try simp only [Exit.then, Exit.inBlock, ↓reduceIte, Nat.reduceEqDiff])
           refine hK62 _ _ ?_
           refine wp_seq_k (fun K72 hK72 => ?_)
           refine wp_region_lit ?_
           refine wpList_plain rfl (fun Ko hKo => ?_)
           go_simp
           refine hKo _ _ ?_
           clear hKo Ko
           try simp only [Act.put, nm1, nm2, nm3, i64_w]
           refine wpList_nil ?_
           (try simp only [Exit.then, Exit.inBlock, ↓reduceIte, Nat.reduceEqDiff])
           refine hK72 _ _ ?_
           refine wp_seq_k (fun K73 hK73 => ?_)
           refine wp_region_lit ?_
           refine wpList_plain rfl (fun Ko hKo => ?_)
           go_simp
           refine hKo _ _ ?_
           clear hKo Ko
           try simp only [Act.put, nm1, nm2, nm3, i64_w]
           refine wpList_plain rfl (fun Ko hKo => ?_)
           go_simp
           refine hKo _ _ ?_
           clear hKo Ko
           try simp only [Act.put, nm1, nm2, nm3, i64_w]
           refine step_call (wanted_none rfl) (by first | (go_simp; done) | (go_simp; rfl)) (Eq.mp (congrArg (fun n_ => Calls Try.prog 41 #[.slice P43 n_ q44, .int .i64 1] w66 _) (Eq.symm hl71.out)) (laws_heldPointS.calls K P43 q44 t64 1 t74 w66 h68.rd A75.out)) ?_
           rintro e w76 ⟨rfl, hu⟩
           have hu77 := Aside0.mk hu
           clear hu
           refine ⟨_, rfl, ?_⟩
           simp only [Act.put, nm1, nm2, nm3, i64_w]
           refine wpList_plain rfl (fun Ko hKo => ?_)
           go_simp
           refine hKo _ _ ?_
           clear hKo Ko
           try simp only [Act.put, nm1, nm2, nm3, i64_w]
           refine wpList_nil ?_
           (try simp only [Exit.then, Exit.inBlock, ↓reduceIte, Nat.reduceEqDiff])
           refine hK73 _ _ ?_
           refine wp_seq_k (fun K78 hK78 => ?_)
           refine wp_seq_k (fun K79 hK79 => ?_)
           refine wp_region_lit ?_
           refine wpList_plain rfl (fun Ko hKo => ?_)
           go_simp
           refine hKo _ _ ?_
           clear hKo Ko
           try simp only [Act.put, nm1, nm2, nm3, i64_w]
           refine wpList_plain rfl (fun Ko hKo => ?_)
           go_simp
           refine hKo _ _ ?_
           clear hKo Ko
           try simp only [Act.put, nm1, nm2, nm3, i64_w]
           refine wpList_nil ?_
           (try simp only [Exit.then, Exit.inBlock, ↓reduceIte, Nat.reduceEqDiff])
           refine hK79 _ _ ?_
           refine wp_cond_false rfl ?_
           refine wp_skip ?_
           (try simp only [Exit.then, Exit.inBlock, ↓reduceIte, Nat.reduceEqDiff])
           refine hK78 _ _ ?_
           refine wp_seq_k (fun K82 hK82 => ?_)
           refine wp_seq_k (fun K83 hK83 => ?_)
           refine wp_region_lit ?_
           refine wpList_plain rfl (fun Ko hKo => ?_)
           go_simp
           refine hKo _ _ ?_
           clear hKo Ko
           try simp only [Act.put, nm1, nm2, nm3, i64_w]
           refine wpList_plain rfl (fun Ko hKo => ?_)
           go_simp
           refine hKo _ _ ?_
           clear hKo Ko
           try simp only [Act.put, nm1, nm2, nm3, i64_w]
           refine wpList_plain rfl (fun Ko hKo => ?_)
           go_simp
           refine hKo _ _ ?_
           clear hKo Ko
           try simp only [Act.put, nm1, nm2, nm3, i64_w]
           refine wpList_nil ?_
           (try simp only [Exit.then, Exit.inBlock, ↓reduceIte, Nat.reduceEqDiff])
           refine hK83 _ _ ?_
           refine wp_cond_false rfl ?_
           refine wp_skip ?_
           (try simp only [Exit.then, Exit.inBlock, ↓reduceIte, Nat.reduceEqDiff])
           refine hK82 _ _ ?_
           refine wp_seq_k (fun K85 hK85 => ?_)
           refine' wp_region_up 14 [Slot.det _, Slot.det _, Slot.det _, Slot.det (.agg #[.int .i64 t86, .int .i64 t87]), Slot.det _, Slot.det (.agg #[.int .i64 t89, .int .i64 t90]), Slot.det _, Slot.det (.agg #[.int .i64 t92, .int .i64 t93]), Slot.any (RowTo e2 25 w76.heap.size t95 (fun v => .tuple #[v, .int .i64 t98])) false, Slot.any (RowTo e2 25 w76.heap.size t95 (fun v => .tuple #[v, .int .i64 t98])) false, Slot.any (RowTo e2 25 w76.heap.size t95 (fun v => v)) false, Slot.det (.int .i64 t98), Slot.any (RowTo e2 25 w76.heap.size t95 (fun v => v)) false, Slot.det _] (by kernel_rfl) (by kernel_rfl) ?main
           case main =>
            simp only [List.take_succ_cons, List.take_zero]
            refine wpK_ops rfl (fun w1 hu => ?_) ?_
            · clear hu
              go_simp
              first | done | rfl
            simp only [Act.put, nm1, nm2, nm3, i64_w]
            refine wpK_ops rfl (fun w1 hu => ?_) ?_
            · clear hu
              go_simp
              first | done | rfl
            simp only [Act.put, nm1, nm2, nm3, i64_w]
            refine wpK_ops rfl (fun w1 hu => ?_) ?_
            · have cl0 := ((hb2.up ((((((hu7.out.trans hu10.out).trans hu31.out).trans hu52.out).trans hu58.out).grow hg70.out (fun k hk => Nat.le_trans ((Nat.le_trans ((Nat.le_trans (hu7.out.size) hu10.out.size)) hu31.out.size)) ((fun k hk => (lb67.out k hk).1) k hk))).trans hu77.out)).up ((Up.refl _).drew.trans hu)).cell (o := 0) rfl
              have cl1 := ((hb2.up ((((((hu7.out.trans hu10.out).trans hu31.out).trans hu52.out).trans hu58.out).grow hg70.out (fun k hk => Nat.le_trans ((Nat.le_trans ((Nat.le_trans (hu7.out.size) hu10.out.size)) hu31.out.size)) ((fun k hk => (lb67.out k hk).1) k hk))).trans hu77.out)).up ((Up.refl _).drew.trans hu)).cell (o := 1) rfl
              go_simp
              first | done | rfl
            simp only [Act.put, nm1, nm2, nm3, i64_w]
            refine wpK_ops rfl (fun w1 hu => ?_) ?_
            · have hcl := (laws_toPoint.calls K a2_0 a2_1 t86 t87 w1  A88.out)
              clear hu
              replace hcl := Aside0.mk hcl
              go_simp
              exact hcl.out
            simp only [Act.put, nm1, nm2, nm3, i64_w]
            refine wpK_ops rfl (fun w1 hu => ?_) ?_
            · have cl0 := ((hb5.up (((((hu10.out.trans hu31.out).trans hu52.out).trans hu58.out).grow hg70.out (fun k hk => Nat.le_trans ((Nat.le_trans (hu10.out.size) hu31.out.size)) ((fun k hk => (lb67.out k hk).1) k hk))).trans hu77.out)).up ((Up.refl _).drew.trans hu)).cell (o := 0) rfl
              have cl1 := ((hb5.up (((((hu10.out.trans hu31.out).trans hu52.out).trans hu58.out).grow hg70.out (fun k hk => Nat.le_trans ((Nat.le_trans (hu10.out.size) hu31.out.size)) ((fun k hk => (lb67.out k hk).1) k hk))).trans hu77.out)).up ((Up.refl _).drew.trans hu)).cell (o := 1) rfl
              go_simp
              first | done | rfl
            simp only [Act.put, nm1, nm2, nm3, i64_w]
            refine wpK_ops rfl (fun w1 hu => ?_) ?_
            · have hcl := (laws_toPoint.calls K a3_0 a3_1 t89 t90 w1  A91.out)
              clear hu
              replace hcl := Aside0.mk hcl
              go_simp
              exact hcl.out
            simp only [Act.put, nm1, nm2, nm3, i64_w]
            refine wpK_ops rfl (fun w1 hu => ?_) ?_
            · have cl0 := ((hb8.up ((((hu31.out.trans hu52.out).trans hu58.out).grow hg70.out (fun k hk => Nat.le_trans (hu31.out.size) ((fun k hk => (lb67.out k hk).1) k hk))).trans hu77.out)).up ((Up.refl _).drew.trans hu)).cell (o := 0) rfl
              have cl1 := ((hb8.up ((((hu31.out.trans hu52.out).trans hu58.out).grow hg70.out (fun k hk => Nat.le_trans (hu31.out.size) ((fun k hk => (lb67.out k hk).1) k hk))).trans hu77.out)).up ((Up.refl _).drew.trans hu)).cell (o := 1) rfl
              go_simp
              first | done | rfl
            simp only [Act.put, nm1, nm2, nm3, i64_w]
            refine wpK_ops rfl (fun w1 hu => ?_) ?_
            · have hcl := (laws_toPoint.calls K a4_0 a4_1 t92 t93 w1  A94.out)
              clear hu
              replace hcl := Aside0.mk hcl
              go_simp
              exact hcl.out
            simp only [Act.put, nm1, nm2, nm3, i64_w]
            refine wpK_any rfl (stab_row _ _ _ _ _) (fun w1 hu hl => ?_) (fun v100 => ?_)
            · have hcl := impl_OrthicPoints.calls K a0 a1 t86 t87 t89 t90 t92 t93 t95 t98 w1  A99.out
              have hz := ((Up.refl _).drew.trans hu).size
              clear hu
              replace hcl := Aside0.mk hcl
              exact fresh_row (by first | (go_simp; done) | (go_simp; rfl)) hcl.out hz
            simp only [Act.put, nm1, nm2, nm3, i64_w]
            refine wpK_any rfl (stab_row _ _ _ _ _) (fun w1 hu hl => ?_) (fun v101 => ?_)
            · exact any_of_run (by first | (go_simp; done) | (go_simp; rfl)) (hl.1 (by kernel_rfl))
            simp only [Act.put, nm1, nm2, nm3, i64_w]
            refine wpK_any rfl (stab_row _ _ _ _ _) (fun w1 hu hl => ?_) (fun v102 => ?_)
            · obtain ⟨A0_, c0_, e0_, hO0_⟩ := hl.1 (by kernel_rfl)
              clear hl hu
              dsimp only at e0_
              subst e0_
              exact any_of_run (u := .slice A0_ t95.length c0_) (by first | (go_simp; done) | (go_simp; rfl)) ⟨A0_, c0_, rfl, hO0_⟩
            simp only [Act.put, nm1, nm2, nm3, i64_w]
            refine wpK_det rfl (fun w1 hu hl => ?_) ?_
            · obtain ⟨A0_, c0_, e0_, hO0_⟩ := hl.2.1 (by kernel_rfl)
              clear hl hu
              dsimp only at e0_
              subst e0_
              clear hO0_
              go_simp
              first | done | rfl
            simp only [Act.put, nm1, nm2, nm3, i64_w]
            refine wpK_any rfl (stab_row _ _ _ _ _) (fun w1 hu hl => ?_) (fun v103 => ?_)
            · exact any_of_run (by first | (go_simp; done) | (go_simp; rfl)) (hl.1 (by kernel_rfl))
            simp only [Act.put, nm1, nm2, nm3, i64_w]
            refine wpK_ops rfl (fun w1 hu => ?_) ?_
            · clear hu
              go_simp
              first | done | rfl
            simp only [Act.put, nm1, nm2, nm3, i64_w]
            refine wpK_nil ?_
            intro w104 hu hap
            simp only [List.drop_succ_cons, List.drop_zero]
            replace hu := (Up.refl _).drew.trans hu
            obtain ⟨-, -, ⟨P96, q97, e0, ht95⟩, -, -, -, -, -, -, -, -, -, -⟩ := hap
            dsimp only at e0
            subst e0
            have hu105 := Aside0.mk hu
            clear hu
            refine wpList_nil ?_
            (try simp only [Exit.then, Exit.inBlock, ↓reduceIte, Nat.reduceEqDiff])
            refine hK85 _ _ ?_
            refine wp_seq_k (fun K106 hK106 => ?_)
            refine wp_seq_k (fun K107 hK107 => ?_)
            refine wp_region_lit ?_
            refine wpList_plain rfl (fun Ko hKo => ?_)
            go_simp
            refine hKo _ _ ?_
            clear hKo Ko
            try simp only [Act.put, nm1, nm2, nm3, i64_w]
            refine wpList_plain rfl (fun Ko hKo => ?_)
            go_simp
            refine hKo _ _ ?_
            clear hKo Ko
            try simp only [Act.put, nm1, nm2, nm3, i64_w]
            refine step_call (wanted_none rfl) (by first | (go_simp; done) | (go_simp; rfl)) (laws_eqPointS.calls K P96 q97 t95 P22 q23 t21 true w104 ht95.rd ((ht21.up ((((hu52.out.trans hu58.out).grow hg70.out (fun k hk => Nat.le_trans (Nat.le_refl _) ((fun k hk => (lb67.out k hk).1) k hk))).trans hu77.out).trans hu105.out)).rd) A109.out) ?_
            rintro e w110 ⟨rfl, hu⟩
            have hu111 := Aside0.mk hu
            clear hu
            refine ⟨_, rfl, ?_⟩
            simp only [Act.put, nm1, nm2, nm3, i64_w]
            refine wpList_plain rfl (fun Ko hKo => ?_)
            go_simp
            refine hKo _ _ ?_
            clear hKo Ko
            try simp only [Act.put, nm1, nm2, nm3, i64_w]
            refine wpList_plain rfl (fun Ko hKo => ?_)
            go_simp
            refine hKo _ _ ?_
            clear hKo Ko
            try simp only [Act.put, nm1, nm2, nm3, i64_w]
            refine wpList_step (fun Ko hKo => ?_)
            go_simp
            refine hKo _ _ ?_
            clear hKo Ko
            try simp only [Act.put, nm1, nm2, nm3, i64_w]
            refine wpList_step (fun Ko hKo => ?_)
            go_simp
            refine hKo _ _ ?_
            clear hKo Ko
            try simp only [Act.put, nm1, nm2, nm3, i64_w]
            refine wpList_step (fun Ko hKo => ?_)
            go_simp
            refine hKo _ _ ?_
            clear hKo Ko
            try simp only [Act.put, nm1, nm2, nm3, i64_w]
            refine wpList_plain rfl (fun Ko hKo => ?_)
            go_simp
            refine hKo _ _ ?_
            clear hKo Ko
            try simp only [Act.put, nm1, nm2, nm3, i64_w]
            refine wpList_nil ?_
            (try simp only [Exit.then, Exit.inBlock, ↓reduceIte, Nat.reduceEqDiff])
            refine hK107 _ _ ?_
            refine wp_cond_false rfl ?_
            refine wp_skip ?_
            (try simp only [Exit.then, Exit.inBlock, ↓reduceIte, Nat.reduceEqDiff])
            refine hK106 _ _ ?_
            refine wp_seq_k (fun K114 hK114 => ?_)
            refine wp_region_lit ?_
            refine wpList_plain rfl (fun Ko hKo => ?_)
            go_simp
            refine hKo _ _ ?_
            clear hKo Ko
            try simp only [Act.put, nm1, nm2, nm3, i64_w]
            refine wpList_nil ?_
            (try simp only [Exit.then, Exit.inBlock, ↓reduceIte, Nat.reduceEqDiff])
            refine hK114 _ _ ?_
            refine wp_seq_k (fun K115 hK115 => ?_)
            refine wp_region_lit ?_
            refine wpList_plain rfl (fun Ko hKo => ?_)
            go_simp
            refine hKo _ _ ?_
            clear hKo Ko
            try simp only [Act.put, nm1, nm2, nm3, i64_w]
            refine wpList_plain rfl (fun Ko hKo => ?_)
            go_simp
            refine hKo _ _ ?_
            clear hKo Ko
            try simp only [Act.put, nm1, nm2, nm3, i64_w]
            refine step_call (wanted_none rfl) (by first | (go_simp; done) | (go_simp; rfl)) (Eq.mp (congrArg (fun n_ => Calls Try.prog 41 #[.slice P43 n_ q44, .int .i64 1] w110 _) (Eq.symm hl71.out)) (laws_heldPointS.calls K P43 q44 t64 1 t116 w110 ((h68.up ((hu77.out.trans hu105.out).trans hu111.out)).rd) A117.out)) ?_
            rintro e w118 ⟨rfl, hu⟩
            have hu119 := Aside0.mk hu
            clear hu
            refine ⟨_, rfl, ?_⟩
            simp only [Act.put, nm1, nm2, nm3, i64_w]
            refine wpList_plain rfl (fun Ko hKo => ?_)
            go_simp
            refine hKo _ _ ?_
            clear hKo Ko
            try simp only [Act.put, nm1, nm2, nm3, i64_w]
            refine wpList_nil ?_
            (try simp only [Exit.then, Exit.inBlock, ↓reduceIte, Nat.reduceEqDiff])
            refine hK115 _ _ ?_
            refine wp_seq_k (fun K120 hK120 => ?_)
            refine wp_seq_k (fun K121 hK121 => ?_)
            refine wp_region_lit ?_
            refine wpList_plain rfl (fun Ko hKo => ?_)
            go_simp
            refine hKo _ _ ?_
            clear hKo Ko
            try simp only [Act.put, nm1, nm2, nm3, i64_w]
            refine wpList_plain rfl (fun Ko hKo => ?_)
            go_simp
            refine hKo _ _ ?_
            clear hKo Ko
            try simp only [Act.put, nm1, nm2, nm3, i64_w]
            refine wpList_nil ?_
            (try simp only [Exit.then, Exit.inBlock, ↓reduceIte, Nat.reduceEqDiff])
            refine hK121 _ _ ?_
            refine wp_cond_false rfl ?_
            refine wp_skip ?_
            (try simp only [Exit.then, Exit.inBlock, ↓reduceIte, Nat.reduceEqDiff])
            refine hK120 _ _ ?_
            refine wp_seq_k (fun K124 hK124 => ?_)
            refine wp_seq_k (fun K125 hK125 => ?_)
            refine wp_region_lit ?_
            refine wpList_plain rfl (fun Ko hKo => ?_)
            go_simp
            refine hKo _ _ ?_
            clear hKo Ko
            try simp only [Act.put, nm1, nm2, nm3, i64_w]
            refine wpList_plain rfl (fun Ko hKo => ?_)
            go_simp
            refine hKo _ _ ?_
            clear hKo Ko
            try simp only [Act.put, nm1, nm2, nm3, i64_w]
            refine wpList_plain rfl (fun Ko hKo => ?_)
            go_simp
            refine hKo _ _ ?_
            clear hKo Ko
            try simp only [Act.put, nm1, nm2, nm3, i64_w]
            refine wpList_nil ?_
            (try simp only [Exit.then, Exit.inBlock, ↓reduceIte, Nat.reduceEqDiff])
            refine hK125 _ _ ?_
            refine wp_cond_false rfl ?_
            refine wp_skip ?_
            (try simp only [Exit.then, Exit.inBlock, ↓reduceIte, Nat.reduceEqDiff])
            refine hK124 _ _ ?_
            refine wp_seq_k (fun K127 hK127 => ?_)
            refine wp_region_lit ?_
            refine wpList_plain rfl (fun Ko hKo => ?_)
            go_simp
            refine hKo _ _ ?_
            clear hKo Ko
            try simp only [Act.put, nm1, nm2, nm3, i64_w]
            refine wpList_nil ?_
            (try simp only [Exit.then, Exit.inBlock, ↓reduceIte, Nat.reduceEqDiff])
            refine hK127 _ _ ?_
            refine wp_ret ?_
            (try simp only [Exit.then, Exit.inBlock, ↓reduceIte, Nat.reduceEqDiff])
            refine hQf _ _ _ ?_
            exact bodyPost_ret (v := .bool true) (by first | rfl | (simp [results, Try.results12, go_sem]; done) | (simp [results, Try.results12, go_sem]; rfl)) rfl ⟨rfl, ((((((((((hu4.out.trans hu7.out).trans hu10.out).trans hu31.out).trans hu52.out).trans hu58.out).grow hg70.out (fun k hk => Nat.le_trans ((Nat.le_trans ((Nat.le_trans ((Nat.le_trans (hu4.out.size) hu7.out.size)) hu10.out.size)) hu31.out.size)) ((fun k hk => (lb67.out k hk).1) k hk))).trans hu77.out).trans hu105.out).trans hu111.out).trans hu119.out)⟩
        ·
         rw [if_neg c126] at H
         replace c126 := Bool.eq_false_iff.mpr c126
         have c126n : (t116 != t63) = true := by rw [bne, c126]; rfl
         have c126p : ¬ t116 = t63 := fun e => by simp [e] at c126
         obtain rfl := Option.some.inj H
         go_enter Try.func12, Try.ntmps12
         refine wp_hide (fun Qf hQf => ?_)
         refine wp_seq_k (fun K1 hK1 => ?_)
         refine wp_region_lit ?_
         refine step_new (cs := [.int .i64 a2_0, .int .i64 a2_1]) (T := 22) (f := fun b => .pointer (some ⟨b, 0, none⟩)) rfl (by first | (go_simp; done) | (go_simp; rfl)) ?_
         intro b2 w3 hu lb hb2
         simp only [Act.put, nm1, nm2, nm3, i64_w]
         have lbb2 := Aside0.mk lb
         have ltb2 := Aside0.mk hb2.lt
         clear lb
         have hu4 := Aside0.mk hu
         clear hu
         refine step_new (cs := [.int .i64 a3_0, .int .i64 a3_1]) (T := 22) (f := fun b => .pointer (some ⟨b, 0, none⟩)) rfl (by first | (go_simp; done) | (go_simp; rfl)) ?_
         intro b5 w6 hu lb hb5
         simp only [Act.put, nm1, nm2, nm3, i64_w]
         have lbb5 := Aside0.mk lb
         have ltb5 := Aside0.mk hb5.lt
         clear lb
         have hu7 := Aside0.mk hu
         clear hu
         refine step_new (cs := [.int .i64 a4_0, .int .i64 a4_1]) (T := 22) (f := fun b => .pointer (some ⟨b, 0, none⟩)) rfl (by first | (go_simp; done) | (go_simp; rfl)) ?_
         intro b8 w9 hu lb hb8
         simp only [Act.put, nm1, nm2, nm3, i64_w]
         have lbb8 := Aside0.mk lb
         have ltb8 := Aside0.mk hb8.lt
         clear lb
         have hu10 := Aside0.mk hu
         clear hu
         refine wpList_plain rfl (fun Ko hKo => ?_)
         go_simp
         refine hKo _ _ ?_
         clear hKo Ko
         try simp only [Act.put, nm1, nm2, nm3, i64_w]
         refine wpList_nil ?_
         (try simp only [Exit.then, Exit.inBlock, ↓reduceIte, Nat.reduceEqDiff])
         refine hK1 _ _ ?_
         refine wp_seq_k (fun K11 hK11 => ?_)
         refine' wp_region_up 14 [Slot.det _, Slot.det _, Slot.det _, Slot.det (.agg #[.int .i64 t12, .int .i64 t13]), Slot.det _, Slot.det (.agg #[.int .i64 t15, .int .i64 t16]), Slot.det _, Slot.det (.agg #[.int .i64 t18, .int .i64 t19]), Slot.any (RowTo e2 25 w9.heap.size t21 (fun v => .tuple #[v, .int .i64 t24])) false, Slot.any (RowTo e2 25 w9.heap.size t21 (fun v => .tuple #[v, .int .i64 t24])) false, Slot.any (RowTo e2 25 w9.heap.size t21 (fun v => v)) false, Slot.det (.int .i64 t24), Slot.any (RowTo e2 25 w9.heap.size t21 (fun v => v)) false, Slot.det _] (by kernel_rfl) (by kernel_rfl) ?main
         case main =>
          simp only [List.take_succ_cons, List.take_zero]
          refine wpK_ops rfl (fun w1 hu => ?_) ?_
          · clear hu
            go_simp
            first | done | rfl
          simp only [Act.put, nm1, nm2, nm3, i64_w]
          refine wpK_ops rfl (fun w1 hu => ?_) ?_
          · clear hu
            go_simp
            first | done | rfl
          simp only [Act.put, nm1, nm2, nm3, i64_w]
          refine wpK_ops rfl (fun w1 hu => ?_) ?_
          · have cl0 := ((hb2.up (hu7.out.trans hu10.out)).up ((Up.refl _).drew.trans hu)).cell (o := 0) rfl
            have cl1 := ((hb2.up (hu7.out.trans hu10.out)).up ((Up.refl _).drew.trans hu)).cell (o := 1) rfl
            go_simp
            first | done | rfl
          simp only [Act.put, nm1, nm2, nm3, i64_w]
          refine wpK_ops rfl (fun w1 hu => ?_) ?_
          · have hcl := (laws_toPoint.calls K a2_0 a2_1 t12 t13 w1  A14.out)
            clear hu
            replace hcl := Aside0.mk hcl
            go_simp
            exact hcl.out
          simp only [Act.put, nm1, nm2, nm3, i64_w]
          refine wpK_ops rfl (fun w1 hu => ?_) ?_
          · have cl0 := ((hb5.up hu10.out).up ((Up.refl _).drew.trans hu)).cell (o := 0) rfl
            have cl1 := ((hb5.up hu10.out).up ((Up.refl _).drew.trans hu)).cell (o := 1) rfl
            go_simp
            first | done | rfl
          simp only [Act.put, nm1, nm2, nm3, i64_w]
          refine wpK_ops rfl (fun w1 hu => ?_) ?_
          · have hcl := (laws_toPoint.calls K a3_0 a3_1 t15 t16 w1  A17.out)
            clear hu
            replace hcl := Aside0.mk hcl
            go_simp
            exact hcl.out
          simp only [Act.put, nm1, nm2, nm3, i64_w]
          refine wpK_ops rfl (fun w1 hu => ?_) ?_
          · have cl0 := (hb8.up ((Up.refl _).drew.trans hu)).cell (o := 0) rfl
            have cl1 := (hb8.up ((Up.refl _).drew.trans hu)).cell (o := 1) rfl
            go_simp
            first | done | rfl
          simp only [Act.put, nm1, nm2, nm3, i64_w]
          refine wpK_ops rfl (fun w1 hu => ?_) ?_
          · have hcl := (laws_toPoint.calls K a4_0 a4_1 t18 t19 w1  A20.out)
            clear hu
            replace hcl := Aside0.mk hcl
            go_simp
            exact hcl.out
          simp only [Act.put, nm1, nm2, nm3, i64_w]
          refine wpK_any rfl (stab_row _ _ _ _ _) (fun w1 hu hl => ?_) (fun v26 => ?_)
          · have hcl := spec_OrthicPoints.calls K a0 a1 t12 t13 t15 t16 t18 t19 t21 t24 w1  A25.out
            have hz := ((Up.refl _).drew.trans hu).size
            clear hu
            replace hcl := Aside0.mk hcl
            exact fresh_row (by first | (go_simp; done) | (go_simp; rfl)) hcl.out hz
          simp only [Act.put, nm1, nm2, nm3, i64_w]
          refine wpK_any rfl (stab_row _ _ _ _ _) (fun w1 hu hl => ?_) (fun v27 => ?_)
          · exact any_of_run (by first | (go_simp; done) | (go_simp; rfl)) (hl.1 (by kernel_rfl))
          simp only [Act.put, nm1, nm2, nm3, i64_w]
          refine wpK_any rfl (stab_row _ _ _ _ _) (fun w1 hu hl => ?_) (fun v28 => ?_)
          · obtain ⟨A0_, c0_, e0_, hO0_⟩ := hl.1 (by kernel_rfl)
            clear hl hu
            dsimp only at e0_
            subst e0_
            exact any_of_run (u := .slice A0_ t21.length c0_) (by first | (go_simp; done) | (go_simp; rfl)) ⟨A0_, c0_, rfl, hO0_⟩
          simp only [Act.put, nm1, nm2, nm3, i64_w]
          refine wpK_det rfl (fun w1 hu hl => ?_) ?_
          · obtain ⟨A0_, c0_, e0_, hO0_⟩ := hl.2.1 (by kernel_rfl)
            clear hl hu
            dsimp only at e0_
            subst e0_
            clear hO0_
            go_simp
            first | done | rfl
          simp only [Act.put, nm1, nm2, nm3, i64_w]
          refine wpK_any rfl (stab_row _ _ _ _ _) (fun w1 hu hl => ?_) (fun v29 => ?_)
          · exact any_of_run (by first | (go_simp; done) | (go_simp; rfl)) (hl.1 (by kernel_rfl))
          simp only [Act.put, nm1, nm2, nm3, i64_w]
          refine wpK_ops rfl (fun w1 hu => ?_) ?_
          · clear hu
            go_simp
            first | done | rfl
          simp only [Act.put, nm1, nm2, nm3, i64_w]
          refine wpK_nil ?_
          intro w30 hu hap
          simp only [List.drop_succ_cons, List.drop_zero]
          replace hu := (Up.refl _).drew.trans hu
          obtain ⟨-, -, ⟨P22, q23, e0, ht21⟩, -, -, -, -, -, -, -, -, -, -⟩ := hap
          dsimp only at e0
          subst e0
          have hu31 := Aside0.mk hu
          clear hu
          refine wpList_nil ?_
          (try simp only [Exit.then, Exit.inBlock, ↓reduceIte, Nat.reduceEqDiff])
          refine hK11 _ _ ?_
          refine wp_seq_k (fun K32 hK32 => ?_)
          refine' wp_region_up 14 [Slot.det _, Slot.det _, Slot.det _, Slot.det (.agg #[.int .i64 t33, .int .i64 t34]), Slot.det _, Slot.det (.agg #[.int .i64 t36, .int .i64 t37]), Slot.det _, Slot.det (.agg #[.int .i64 t39, .int .i64 t40]), Slot.any (RowTo e2 25 w30.heap.size t42 (fun v => .tuple #[v, .int .i64 t45])) false, Slot.any (RowTo e2 25 w30.heap.size t42 (fun v => .tuple #[v, .int .i64 t45])) false, Slot.any (RowTo e2 25 w30.heap.size t42 (fun v => v)) false, Slot.det (.int .i64 t45), Slot.any (RowTo e2 25 w30.heap.size t42 (fun v => v)) false, Slot.det _] (by kernel_rfl) (by kernel_rfl) ?main
          case main =>
           simp only [List.take_succ_cons, List.take_zero]
           refine wpK_ops rfl (fun w1 hu => ?_) ?_
           · clear hu
             go_simp
             first | done | rfl
           simp only [Act.put, nm1, nm2, nm3, i64_w]
           refine wpK_ops rfl (fun w1 hu => ?_) ?_
           · clear hu
             go_simp
             first | done | rfl
           simp only [Act.put, nm1, nm2, nm3, i64_w]
           refine wpK_ops rfl (fun w1 hu => ?_) ?_
           · have cl0 := ((hb2.up ((hu7.out.trans hu10.out).trans hu31.out)).up ((Up.refl _).drew.trans hu)).cell (o := 0) rfl
             have cl1 := ((hb2.up ((hu7.out.trans hu10.out).trans hu31.out)).up ((Up.refl _).drew.trans hu)).cell (o := 1) rfl
             go_simp
             first | done | rfl
           simp only [Act.put, nm1, nm2, nm3, i64_w]
           refine wpK_ops rfl (fun w1 hu => ?_) ?_
           · have hcl := (laws_toPoint.calls K a2_0 a2_1 t33 t34 w1  A35.out)
             clear hu
             replace hcl := Aside0.mk hcl
             go_simp
             exact hcl.out
           simp only [Act.put, nm1, nm2, nm3, i64_w]
           refine wpK_ops rfl (fun w1 hu => ?_) ?_
           · have cl0 := ((hb5.up (hu10.out.trans hu31.out)).up ((Up.refl _).drew.trans hu)).cell (o := 0) rfl
             have cl1 := ((hb5.up (hu10.out.trans hu31.out)).up ((Up.refl _).drew.trans hu)).cell (o := 1) rfl
             go_simp
             first | done | rfl
           simp only [Act.put, nm1, nm2, nm3, i64_w]
           refine wpK_ops rfl (fun w1 hu => ?_) ?_
           · have hcl := (laws_toPoint.calls K a3_0 a3_1 t36 t37 w1  A38.out)
             clear hu
             replace hcl := Aside0.mk hcl
             go_simp
             exact hcl.out
           simp only [Act.put, nm1, nm2, nm3, i64_w]
           refine wpK_ops rfl (fun w1 hu => ?_) ?_
           · have cl0 := ((hb8.up hu31.out).up ((Up.refl _).drew.trans hu)).cell (o := 0) rfl
             have cl1 := ((hb8.up hu31.out).up ((Up.refl _).drew.trans hu)).cell (o := 1) rfl
             go_simp
             first | done | rfl
           simp only [Act.put, nm1, nm2, nm3, i64_w]
           refine wpK_ops rfl (fun w1 hu => ?_) ?_
           · have hcl := (laws_toPoint.calls K a4_0 a4_1 t39 t40 w1  A41.out)
             clear hu
             replace hcl := Aside0.mk hcl
             go_simp
             exact hcl.out
           simp only [Act.put, nm1, nm2, nm3, i64_w]
           refine wpK_any rfl (stab_row _ _ _ _ _) (fun w1 hu hl => ?_) (fun v47 => ?_)
           · have hcl := impl_OrthicPoints.calls K a0 a1 t33 t34 t36 t37 t39 t40 t42 t45 w1  A46.out
             have hz := ((Up.refl _).drew.trans hu).size
             clear hu
             replace hcl := Aside0.mk hcl
             exact fresh_row (by first | (go_simp; done) | (go_simp; rfl)) hcl.out hz
           simp only [Act.put, nm1, nm2, nm3, i64_w]
           refine wpK_any rfl (stab_row _ _ _ _ _) (fun w1 hu hl => ?_) (fun v48 => ?_)
           · exact any_of_run (by first | (go_simp; done) | (go_simp; rfl)) (hl.1 (by kernel_rfl))
           simp only [Act.put, nm1, nm2, nm3, i64_w]
           refine wpK_any rfl (stab_row _ _ _ _ _) (fun w1 hu hl => ?_) (fun v49 => ?_)
           · obtain ⟨A0_, c0_, e0_, hO0_⟩ := hl.1 (by kernel_rfl)
             clear hl hu
             dsimp only at e0_
             subst e0_
             exact any_of_run (u := .slice A0_ t42.length c0_) (by first | (go_simp; done) | (go_simp; rfl)) ⟨A0_, c0_, rfl, hO0_⟩
           simp only [Act.put, nm1, nm2, nm3, i64_w]
           refine wpK_det rfl (fun w1 hu hl => ?_) ?_
           · obtain ⟨A0_, c0_, e0_, hO0_⟩ := hl.2.1 (by kernel_rfl)
             clear hl hu
             dsimp only at e0_
             subst e0_
             clear hO0_
             go_simp
             first | done | rfl
           simp only [Act.put, nm1, nm2, nm3, i64_w]
           refine wpK_any rfl (stab_row _ _ _ _ _) (fun w1 hu hl => ?_) (fun v50 => ?_)
           · exact any_of_run (by first | (go_simp; done) | (go_simp; rfl)) (hl.1 (by kernel_rfl))
           simp only [Act.put, nm1, nm2, nm3, i64_w]
           refine wpK_ops rfl (fun w1 hu => ?_) ?_
           · clear hu
             go_simp
             first | done | rfl
           simp only [Act.put, nm1, nm2, nm3, i64_w]
           refine wpK_nil ?_
           intro w51 hu hap
           simp only [List.drop_succ_cons, List.drop_zero]
           replace hu := (Up.refl _).drew.trans hu
           obtain ⟨-, -, ⟨P43, q44, e0, ht42⟩, -, -, -, -, -, -, -, -, -, -⟩ := hap
           dsimp only at e0
           subst e0
           have hu52 := Aside0.mk hu
           clear hu
           refine wpList_nil ?_
           (try simp only [Exit.then, Exit.inBlock, ↓reduceIte, Nat.reduceEqDiff])
           refine hK32 _ _ ?_
           refine wp_seq_k (fun K53 hK53 => ?_)
           refine wp_seq_k (fun K54 hK54 => ?_)
           refine wp_region_lit ?_
           refine wpList_plain rfl (fun Ko hKo => ?_)
           go_simp
           refine hKo _ _ ?_
           clear hKo Ko
           try simp only [Act.put, nm1, nm2, nm3, i64_w]
           refine wpList_plain rfl (fun Ko hKo => ?_)
           go_simp
           refine hKo _ _ ?_
           clear hKo Ko
           try simp only [Act.put, nm1, nm2, nm3, i64_w]
           refine step_call (wanted_none rfl) (by first | (go_simp; done) | (go_simp; rfl)) (laws_eqPointS.calls K P43 q44 t42 P22 q23 t21 true w51 ht42.rd ((ht21.up hu52.out).rd) A56.out) ?_
           rintro e w57 ⟨rfl, hu⟩
           have hu58 := Aside0.mk hu
           clear hu
           refine ⟨_, rfl, ?_⟩
           simp only [Act.put, nm1, nm2, nm3, i64_w]
           refine wpList_plain rfl (fun Ko hKo => ?_)
           go_simp
           refine hKo _ _ ?_
           clear hKo Ko
           try simp only [Act.put, nm1, nm2, nm3, i64_w]
           refine wpList_plain rfl (fun Ko hKo => ?_)
           go_simp
           refine hKo _ _ ?_
           clear hKo Ko
           try simp only [Act.put, nm1, nm2, nm3, i64_w]
           refine wpList_step (fun Ko hKo => ?_)
           go_simp
           refine hKo _ _ ?_
           clear hKo Ko
           try simp only [Act.put, nm1, nm2, nm3, i64_w]
           refine wpList_step (fun Ko hKo => ?_)
           go_simp
           refine hKo _ _ ?_
           clear hKo Ko
           try simp only [Act.put, nm1, nm2, nm3, i64_w]
           refine wpList_step (fun Ko hKo => ?_)
           go_simp
           refine hKo _ _ ?_
           clear hKo Ko
           try simp only [Act.put, nm1, nm2, nm3, i64_w]
           refine wpList_plain rfl (fun Ko hKo => ?_)
           go_simp
           refine hKo _ _ ?_
           clear hKo Ko
           try simp only [Act.put, nm1, nm2, nm3, i64_w]
           refine wpList_nil ?_
           (try simp only [Exit.then, Exit.inBlock, ↓reduceIte, Nat.reduceEqDiff])
           refine hK54 _ _ ?_
           refine wp_cond_false rfl ?_
           refine wp_skip ?_
           (try simp only [Exit.then, Exit.inBlock, ↓reduceIte, Nat.reduceEqDiff])
           refine hK53 _ _ ?_
           refine wp_seq_k (fun K61 hK61 => ?_)
           refine wp_region_lit ?_
           refine wpList_plain rfl (fun Ko hKo => ?_)
           go_simp
           refine hKo _ _ ?_
           clear hKo Ko
           try simp only [Act.put, nm1, nm2, nm3, i64_w]
           refine wpList_nil ?_
           (try simp only [Exit.then, Exit.inBlock, ↓reduceIte, Nat.reduceEqDiff])
           refine hK61 _ _ ?_
           refine wp_seq_k (fun K62 hK62 => ?_)
           refine wp_region_lit ?_
           refine wpList_plain rfl (fun Ko hKo => ?_)
           go_simp
           refine hKo _ _ ?_
           clear hKo Ko
           try simp only [Act.put, nm1, nm2, nm3, i64_w]
           refine wpList_plain rfl (fun Ko hKo => ?_)
           go_simp
           refine hKo _ _ ?_
           clear hKo Ko
           try simp only [Act.put, nm1, nm2, nm3, i64_w]
           refine step_call (wanted_none rfl) (by first | (go_simp; done) | (go_simp; rfl)) (laws_markPointS.calls K P43 q44 w30.heap.size t42 1 t63 t64 w57 (ht42.up hu58.out) A65.out) ?_
           have lb67 := Aside0.mk (ht42.up hu58.out).lt
           rintro e w66 ⟨rfl, h68, hl, hg⟩
           have hg70 := Aside0.mk hg
           have hl69 := hl
           clear hg hl
           have hl71 : Aside0 (t42.length = t64.length) := Aside0.mk hl69.out
           refine ⟨_, rfl, ?_⟩
           simp only [Act.put, nm1, nm2, nm3, i64_w]
           refine wpList_plain rfl (fun Ko hKo => ?_)
           go_simp
           refine hKo _ _ ?_
           clear hKo Ko
           try simp only [Act.put, nm1, nm2, nm3, i64_w]
           refine wpList_nil ?_
           (try simp only [Exit.then, Exit.inBlock, ↓reduceIte, Nat.reduceEqDiff])
           refine hK62 _ _ ?_
           refine wp_seq_k (fun K72 hK72 => ?_)
           refine wp_region_lit ?_
           refine wpList_plain rfl (fun Ko hKo => ?_)
           go_simp
           refine hKo _ _ ?_
           clear hKo Ko
           try simp only [Act.put, nm1, nm2, nm3, i64_w]
           refine wpList_nil ?_
           (try simp only [Exit.then, Exit.inBlock, ↓reduceIte, Nat.reduceEqDiff])
           refine hK72 _ _ ?_
           refine wp_seq_k (fun K73 hK73 => ?_)
           refine wp_region_lit ?_
           refine wpList_plain rfl (fun Ko hKo => ?_)
           go_simp
           refine hKo _ _ ?_
           clear hKo Ko
           try simp only [Act.put, nm1, nm2, nm3, i64_w]
           refine wpList_plain rfl (fun Ko hKo => ?_)
           go_simp
           refine hKo _ _ ?_
           clear hKo Ko
           try simp only [Act.put, nm1, nm2, nm3, i64_w]
           refine step_call (wanted_none rfl) (by first | (go_simp; done) | (go_simp; rfl)) (Eq.mp (congrArg (fun n_ => Calls Try.prog 41 #[.slice P43 n_ q44, .int .i64 1] w66 _) (Eq.symm hl71.out)) (laws_heldPointS.calls K P43 q44 t64 1 t74 w66 h68.rd A75.out)) ?_
           rintro e w76 ⟨rfl, hu⟩
           have hu77 := Aside0.mk hu
           clear hu
           refine ⟨_, rfl, ?_⟩
           simp only [Act.put, nm1, nm2, nm3, i64_w]
           refine wpList_plain rfl (fun Ko hKo => ?_)
           go_simp
           refine hKo _ _ ?_
           clear hKo Ko
           try simp only [Act.put, nm1, nm2, nm3, i64_w]
           refine wpList_nil ?_
           (try simp only [Exit.then, Exit.inBlock, ↓reduceIte, Nat.reduceEqDiff])
           refine hK73 _ _ ?_
           refine wp_seq_k (fun K78 hK78 => ?_)
           refine wp_seq_k (fun K79 hK79 => ?_)
           refine wp_region_lit ?_
           refine wpList_plain rfl (fun Ko hKo => ?_)
           go_simp
           refine hKo _ _ ?_
           clear hKo Ko
           try simp only [Act.put, nm1, nm2, nm3, i64_w]
           refine wpList_plain rfl (fun Ko hKo => ?_)
           go_simp
           refine hKo _ _ ?_
           clear hKo Ko
           try simp only [Act.put, nm1, nm2, nm3, i64_w]
           refine wpList_nil ?_
           (try simp only [Exit.then, Exit.inBlock, ↓reduceIte, Nat.reduceEqDiff])
           refine hK79 _ _ ?_
           refine wp_cond_false rfl ?_
           refine wp_skip ?_
           (try simp only [Exit.then, Exit.inBlock, ↓reduceIte, Nat.reduceEqDiff])
           refine hK78 _ _ ?_
           refine wp_seq_k (fun K82 hK82 => ?_)
           refine wp_seq_k (fun K83 hK83 => ?_)
           refine wp_region_lit ?_
           refine wpList_plain rfl (fun Ko hKo => ?_)
           go_simp
           refine hKo _ _ ?_
           clear hKo Ko
           try simp only [Act.put, nm1, nm2, nm3, i64_w]
           refine wpList_plain rfl (fun Ko hKo => ?_)
           go_simp
           refine hKo _ _ ?_
           clear hKo Ko
           try simp only [Act.put, nm1, nm2, nm3, i64_w]
           refine wpList_plain rfl (fun Ko hKo => ?_)
           go_simp
           refine hKo _ _ ?_
           clear hKo Ko
           try simp only [Act.put, nm1, nm2, nm3, i64_w]
           refine wpList_nil ?_
           (try simp only [Exit.then, Exit.inBlock, ↓reduceIte, Nat.reduceEqDiff])
           refine hK83 _ _ ?_
           refine wp_cond_false rfl ?_
           refine wp_skip ?_
           (try simp only [Exit.then, Exit.inBlock, ↓reduceIte, Nat.reduceEqDiff])
           refine hK82 _ _ ?_
           refine wp_seq_k (fun K85 hK85 => ?_)
           refine' wp_region_up 14 [Slot.det _, Slot.det _, Slot.det _, Slot.det (.agg #[.int .i64 t86, .int .i64 t87]), Slot.det _, Slot.det (.agg #[.int .i64 t89, .int .i64 t90]), Slot.det _, Slot.det (.agg #[.int .i64 t92, .int .i64 t93]), Slot.any (RowTo e2 25 w76.heap.size t95 (fun v => .tuple #[v, .int .i64 t98])) false, Slot.any (RowTo e2 25 w76.heap.size t95 (fun v => .tuple #[v, .int .i64 t98])) false, Slot.any (RowTo e2 25 w76.heap.size t95 (fun v => v)) false, Slot.det (.int .i64 t98), Slot.any (RowTo e2 25 w76.heap.size t95 (fun v => v)) false, Slot.det _] (by kernel_rfl) (by kernel_rfl) ?main
           case main =>
            simp only [List.take_succ_cons, List.take_zero]
            refine wpK_ops rfl (fun w1 hu => ?_) ?_
            · clear hu
              go_simp
              first | done | rfl
            simp only [Act.put, nm1, nm2, nm3, i64_w]
            refine wpK_ops rfl (fun w1 hu => ?_) ?_
            · clear hu
              go_simp
              first | done | rfl
            simp only [Act.put, nm1, nm2, nm3, i64_w]
            refine wpK_ops rfl (fun w1 hu => ?_) ?_
            · have cl0 := ((hb2.up ((((((hu7.out.trans hu10.out).trans hu31.out).trans hu52.out).trans hu58.out).grow hg70.out (fun k hk => Nat.le_trans ((Nat.le_trans ((Nat.le_trans (hu7.out.size) hu10.out.size)) hu31.out.size)) ((fun k hk => (lb67.out k hk).1) k hk))).trans hu77.out)).up ((Up.refl _).drew.trans hu)).cell (o := 0) rfl
              have cl1 := ((hb2.up ((((((hu7.out.trans hu10.out).trans hu31.out).trans hu52.out).trans hu58.out).grow hg70.out (fun k hk => Nat.le_trans ((Nat.le_trans ((Nat.le_trans (hu7.out.size) hu10.out.size)) hu31.out.size)) ((fun k hk => (lb67.out k hk).1) k hk))).trans hu77.out)).up ((Up.refl _).drew.trans hu)).cell (o := 1) rfl
              go_simp
              first | done | rfl
            simp only [Act.put, nm1, nm2, nm3, i64_w]
            refine wpK_ops rfl (fun w1 hu => ?_) ?_
            · have hcl := (laws_toPoint.calls K a2_0 a2_1 t86 t87 w1  A88.out)
              clear hu
              replace hcl := Aside0.mk hcl
              go_simp
              exact hcl.out
            simp only [Act.put, nm1, nm2, nm3, i64_w]
            refine wpK_ops rfl (fun w1 hu => ?_) ?_
            · have cl0 := ((hb5.up (((((hu10.out.trans hu31.out).trans hu52.out).trans hu58.out).grow hg70.out (fun k hk => Nat.le_trans ((Nat.le_trans (hu10.out.size) hu31.out.size)) ((fun k hk => (lb67.out k hk).1) k hk))).trans hu77.out)).up ((Up.refl _).drew.trans hu)).cell (o := 0) rfl
              have cl1 := ((hb5.up (((((hu10.out.trans hu31.out).trans hu52.out).trans hu58.out).grow hg70.out (fun k hk => Nat.le_trans ((Nat.le_trans (hu10.out.size) hu31.out.size)) ((fun k hk => (lb67.out k hk).1) k hk))).trans hu77.out)).up ((Up.refl _).drew.trans hu)).cell (o := 1) rfl
              go_simp
              first | done | rfl
            simp only [Act.put, nm1, nm2, nm3, i64_w]
            refine wpK_ops rfl (fun w1 hu => ?_) ?_
            · have hcl := (laws_toPoint.calls K a3_0 a3_1 t89 t90 w1  A91.out)
              clear hu
              replace hcl := Aside0.mk hcl
              go_simp
              exact hcl.out
            simp only [Act.put, nm1, nm2, nm3, i64_w]
            refine wpK_ops rfl (fun w1 hu => ?_) ?_
            · have cl0 := ((hb8.up ((((hu31.out.trans hu52.out).trans hu58.out).grow hg70.out (fun k hk => Nat.le_trans (hu31.out.size) ((fun k hk => (lb67.out k hk).1) k hk))).trans hu77.out)).up ((Up.refl _).drew.trans hu)).cell (o := 0) rfl
              have cl1 := ((hb8.up ((((hu31.out.trans hu52.out).trans hu58.out).grow hg70.out (fun k hk => Nat.le_trans (hu31.out.size) ((fun k hk => (lb67.out k hk).1) k hk))).trans hu77.out)).up ((Up.refl _).drew.trans hu)).cell (o := 1) rfl
              go_simp
              first | done | rfl
            simp only [Act.put, nm1, nm2, nm3, i64_w]
            refine wpK_ops rfl (fun w1 hu => ?_) ?_
            · have hcl := (laws_toPoint.calls K a4_0 a4_1 t92 t93 w1  A94.out)
              clear hu
              replace hcl := Aside0.mk hcl
              go_simp
              exact hcl.out
            simp only [Act.put, nm1, nm2, nm3, i64_w]
            refine wpK_any rfl (stab_row _ _ _ _ _) (fun w1 hu hl => ?_) (fun v100 => ?_)
            · have hcl := impl_OrthicPoints.calls K a0 a1 t86 t87 t89 t90 t92 t93 t95 t98 w1  A99.out
              have hz := ((Up.refl _).drew.trans hu).size
              clear hu
              replace hcl := Aside0.mk hcl
              exact fresh_row (by first | (go_simp; done) | (go_simp; rfl)) hcl.out hz
            simp only [Act.put, nm1, nm2, nm3, i64_w]
            refine wpK_any rfl (stab_row _ _ _ _ _) (fun w1 hu hl => ?_) (fun v101 => ?_)
            · exact any_of_run (by first | (go_simp; done) | (go_simp; rfl)) (hl.1 (by kernel_rfl))
            simp only [Act.put, nm1, nm2, nm3, i64_w]
            refine wpK_any rfl (stab_row _ _ _ _ _) (fun w1 hu hl => ?_) (fun v102 => ?_)
            · obtain ⟨A0_, c0_, e0_, hO0_⟩ := hl.1 (by kernel_rfl)
              clear hl hu
              dsimp only at e0_
              subst e0_
              exact any_of_run (u := .slice A0_ t95.length c0_) (by first | (go_simp; done) | (go_simp; rfl)) ⟨A0_, c0_, rfl, hO0_⟩
            simp only [Act.put, nm1, nm2, nm3, i64_w]
            refine wpK_det rfl (fun w1 hu hl => ?_) ?_
            · obtain ⟨A0_, c0_, e0_, hO0_⟩ := hl.2.1 (by kernel_rfl)
              clear hl hu
              dsimp only at e0_
              subst e0_
              clear hO0_
              go_simp
              first | done | rfl
            simp only [Act.put, nm1, nm2, nm3, i64_w]
            refine wpK_any rfl (stab_row _ _ _ _ _) (fun w1 hu hl => ?_) (fun v103 => ?_)
            · exact any_of_run (by first | (go_simp; done) | (go_simp; rfl)) (hl.1 (by kernel_rfl))
            simp only [Act.put, nm1, nm2, nm3, i64_w]
            refine wpK_ops rfl (fun w1 hu => ?_) ?_
            · clear hu
              go_simp
              first | done | rfl
            simp only [Act.put, nm1, nm2, nm3, i64_w]
            refine wpK_nil ?_
            intro w104 hu hap
            simp only [List.drop_succ_cons, List.drop_zero]
            replace hu := (Up.refl _).drew.trans hu
            obtain ⟨-, -, ⟨P96, q97, e0, ht95⟩, -, -, -, -, -, -, -, -, -, -⟩ := hap
            dsimp only at e0
            subst e0
            have hu105 := Aside0.mk hu
            clear hu
            refine wpList_nil ?_
            (try simp only [Exit.then, Exit.inBlock, ↓reduceIte, Nat.reduceEqDiff])
            refine hK85 _ _ ?_
            refine wp_seq_k (fun K106 hK106 => ?_)
            refine wp_seq_k (fun K107 hK107 => ?_)
            refine wp_region_lit ?_
            refine wpList_plain rfl (fun Ko hKo => ?_)
            go_simp
            refine hKo _ _ ?_
            clear hKo Ko
            try simp only [Act.put, nm1, nm2, nm3, i64_w]
            refine wpList_plain rfl (fun Ko hKo => ?_)
            go_simp
            refine hKo _ _ ?_
            clear hKo Ko
            try simp only [Act.put, nm1, nm2, nm3, i64_w]
            refine step_call (wanted_none rfl) (by first | (go_simp; done) | (go_simp; rfl)) (laws_eqPointS.calls K P96 q97 t95 P22 q23 t21 true w104 ht95.rd ((ht21.up ((((hu52.out.trans hu58.out).grow hg70.out (fun k hk => Nat.le_trans (Nat.le_refl _) ((fun k hk => (lb67.out k hk).1) k hk))).trans hu77.out).trans hu105.out)).rd) A109.out) ?_
            rintro e w110 ⟨rfl, hu⟩
            have hu111 := Aside0.mk hu
            clear hu
            refine ⟨_, rfl, ?_⟩
            simp only [Act.put, nm1, nm2, nm3, i64_w]
            refine wpList_plain rfl (fun Ko hKo => ?_)
            go_simp
            refine hKo _ _ ?_
            clear hKo Ko
            try simp only [Act.put, nm1, nm2, nm3, i64_w]
            refine wpList_plain rfl (fun Ko hKo => ?_)
            go_simp
            refine hKo _ _ ?_
            clear hKo Ko
            try simp only [Act.put, nm1, nm2, nm3, i64_w]
            refine wpList_step (fun Ko hKo => ?_)
            go_simp
            refine hKo _ _ ?_
            clear hKo Ko
            try simp only [Act.put, nm1, nm2, nm3, i64_w]
            refine wpList_step (fun Ko hKo => ?_)
            go_simp
            refine hKo _ _ ?_
            clear hKo Ko
            try simp only [Act.put, nm1, nm2, nm3, i64_w]
            refine wpList_step (fun Ko hKo => ?_)
            go_simp
            refine hKo _ _ ?_
            clear hKo Ko
            try simp only [Act.put, nm1, nm2, nm3, i64_w]
            refine wpList_plain rfl (fun Ko hKo => ?_)
            go_simp
            refine hKo _ _ ?_
            clear hKo Ko
            try simp only [Act.put, nm1, nm2, nm3, i64_w]
            refine wpList_nil ?_
            (try simp only [Exit.then, Exit.inBlock, ↓reduceIte, Nat.reduceEqDiff])
            refine hK107 _ _ ?_
            refine wp_cond_false rfl ?_
            refine wp_skip ?_
            (try simp only [Exit.then, Exit.inBlock, ↓reduceIte, Nat.reduceEqDiff])
            refine hK106 _ _ ?_
            refine wp_seq_k (fun K114 hK114 => ?_)
            refine wp_region_lit ?_
            refine wpList_plain rfl (fun Ko hKo => ?_)
            go_simp
            refine hKo _ _ ?_
            clear hKo Ko
            try simp only [Act.put, nm1, nm2, nm3, i64_w]
            refine wpList_nil ?_
            (try simp only [Exit.then, Exit.inBlock, ↓reduceIte, Nat.reduceEqDiff])
            refine hK114 _ _ ?_
            refine wp_seq_k (fun K115 hK115 => ?_)
            refine wp_region_lit ?_
            refine wpList_plain rfl (fun Ko hKo => ?_)
            go_simp
            refine hKo _ _ ?_
            clear hKo Ko
            try simp only [Act.put, nm1, nm2, nm3, i64_w]
            refine wpList_plain rfl (fun Ko hKo => ?_)
            go_simp
            refine hKo _ _ ?_
            clear hKo Ko
            try simp only [Act.put, nm1, nm2, nm3, i64_w]
            refine step_call (wanted_none rfl) (by first | (go_simp; done) | (go_simp; rfl)) (Eq.mp (congrArg (fun n_ => Calls Try.prog 41 #[.slice P43 n_ q44, .int .i64 1] w110 _) (Eq.symm hl71.out)) (laws_heldPointS.calls K P43 q44 t64 1 t116 w110 ((h68.up ((hu77.out.trans hu105.out).trans hu111.out)).rd) A117.out)) ?_
            rintro e w118 ⟨rfl, hu⟩
            have hu119 := Aside0.mk hu
            clear hu
            refine ⟨_, rfl, ?_⟩
            simp only [Act.put, nm1, nm2, nm3, i64_w]
            refine wpList_plain rfl (fun Ko hKo => ?_)
            go_simp
            refine hKo _ _ ?_
            clear hKo Ko
            try simp only [Act.put, nm1, nm2, nm3, i64_w]
            refine wpList_nil ?_
            (try simp only [Exit.then, Exit.inBlock, ↓reduceIte, Nat.reduceEqDiff])
            refine hK115 _ _ ?_
            refine wp_seq_k (fun K120 hK120 => ?_)
            refine wp_seq_k (fun K121 hK121 => ?_)
            refine wp_region_lit ?_
            refine wpList_plain rfl (fun Ko hKo => ?_)
            go_simp
            refine hKo _ _ ?_
            clear hKo Ko
            try simp only [Act.put, nm1, nm2, nm3, i64_w]
            refine wpList_plain rfl (fun Ko hKo => ?_)
            go_simp
            refine hKo _ _ ?_
            clear hKo Ko
            try simp only [Act.put, nm1, nm2, nm3, i64_w]
            refine wpList_nil ?_
            (try simp only [Exit.then, Exit.inBlock, ↓reduceIte, Nat.reduceEqDiff])
            refine hK121 _ _ ?_
            refine wp_cond_false rfl ?_
            refine wp_skip ?_
            (try simp only [Exit.then, Exit.inBlock, ↓reduceIte, Nat.reduceEqDiff])
            refine hK120 _ _ ?_
            refine wp_seq_k (fun K124 hK124 => ?_)
            refine wp_seq_k (fun K125 hK125 => ?_)
            refine wp_region_lit ?_
            refine wpList_plain rfl (fun Ko hKo => ?_)
            go_simp
            refine hKo _ _ ?_
            clear hKo Ko
            try simp only [Act.put, nm1, nm2, nm3, i64_w]
            refine wpList_plain rfl (fun Ko hKo => ?_)
            go_simp
            refine hKo _ _ ?_
            clear hKo Ko
            try simp only [Act.put, nm1, nm2, nm3, i64_w]
            refine wpList_plain rfl (fun Ko hKo => ?_)
            go_simp
            refine hKo _ _ ?_
            clear hKo Ko
            try simp only [Act.put, nm1, nm2, nm3, i64_w]
            refine wpList_nil ?_
            (try simp only [Exit.then, Exit.inBlock, ↓reduceIte, Nat.reduceEqDiff])
            refine hK125 _ _ ?_
            refine wp_cond_true rfl ?_
            refine wp_seq_k (fun K128 hK128 => ?_)
            refine wp_region_lit ?_
            refine wpList_plain rfl (fun Ko hKo => ?_)
            go_simp
            refine hKo _ _ ?_
            clear hKo Ko
            try simp only [Act.put, nm1, nm2, nm3, i64_w]
            refine wpList_nil ?_
            (try simp only [Exit.then, Exit.inBlock, ↓reduceIte, Nat.reduceEqDiff])
            refine hK128 _ _ ?_
            refine wp_ret ?_
            (try simp only [Exit.then, Exit.inBlock, ↓reduceIte, Nat.reduceEqDiff])
            refine hQf _ _ _ ?_
            exact bodyPost_ret (v := .bool false) (by first | rfl | (simp [results, Try.results12, go_sem]; done) | (simp [results, Try.results12, go_sem]; rfl)) rfl ⟨rfl, ((((((((((hu4.out.trans hu7.out).trans hu10.out).trans hu31.out).trans hu52.out).trans hu58.out).grow hg70.out (fun k hk => Nat.le_trans ((Nat.le_trans ((Nat.le_trans ((Nat.le_trans (hu4.out.size) hu7.out.size)) hu10.out.size)) hu31.out.size)) ((fun k hk => (lb67.out k hk).1) k hk))).trans hu77.out).trans hu105.out).trans hu111.out).trans hu119.out)⟩
      ·
       rw [if_neg c113] at H
       replace c113 := Bool.eq_false_iff.mpr c113
       have c113n : (t98 != t24) = true := by rw [bne, c113]; rfl
       have c113p : ¬ t98 = t24 := fun e => by simp [e] at c113
       obtain rfl := Option.some.inj H
       go_enter Try.func12, Try.ntmps12
       refine wp_hide (fun Qf hQf => ?_)
       refine wp_seq_k (fun K1 hK1 => ?_)
       refine wp_region_lit ?_
       refine step_new (cs := [.int .i64 a2_0, .int .i64 a2_1]) (T := 22) (f := fun b => .pointer (some ⟨b, 0, none⟩)) rfl (by first | (go_simp; done) | (go_simp; rfl)) ?_
       intro b2 w3 hu lb hb2
       simp only [Act.put, nm1, nm2, nm3, i64_w]
       have lbb2 := Aside0.mk lb
       have ltb2 := Aside0.mk hb2.lt
       clear lb
       have hu4 := Aside0.mk hu
       clear hu
       refine step_new (cs := [.int .i64 a3_0, .int .i64 a3_1]) (T := 22) (f := fun b => .pointer (some ⟨b, 0, none⟩)) rfl (by first | (go_simp; done) | (go_simp; rfl)) ?_
       intro b5 w6 hu lb hb5
       simp only [Act.put, nm1, nm2, nm3, i64_w]
       have lbb5 := Aside0.mk lb
       have ltb5 := Aside0.mk hb5.lt
       clear lb
       have hu7 := Aside0.mk hu
       clear hu
       refine step_new (cs := [.int .i64 a4_0, .int .i64 a4_1]) (T := 22) (f := fun b => .pointer (some ⟨b, 0, none⟩)) rfl (by first | (go_simp; done) | (go_simp; rfl)) ?_
       intro b8 w9 hu lb hb8
       simp only [Act.put, nm1, nm2, nm3, i64_w]
       have lbb8 := Aside0.mk lb
       have ltb8 := Aside0.mk hb8.lt
       clear lb
       have hu10 := Aside0.mk hu
       clear hu
       refine wpList_plain rfl (fun Ko hKo => ?_)
       go_simp
       refine hKo _ _ ?_
       clear hKo Ko
       try simp only [Act.put, nm1, nm2, nm3, i64_w]
       refine wpList_nil ?_
       (try simp only [Exit.then, Exit.inBlock, ↓reduceIte, Nat.reduceEqDiff])
       refine hK1 _ _ ?_
       refine wp_seq_k (fun K11 hK11 => ?_)
       refine' wp_region_up 14 [Slot.det _, Slot.det _, Slot.det _, Slot.det (.agg #[.int .i64 t12, .int .i64 t13]), Slot.det _, Slot.det (.agg #[.int .i64 t15, .int .i64 t16]), Slot.det _, Slot.det (.agg #[.int .i64 t18, .int .i64 t19]), Slot.any (RowTo e2 25 w9.heap.size t21 (fun v => .tuple #[v, .int .i64 t24])) false, Slot.any (RowTo e2 25 w9.heap.size t21 (fun v => .tuple #[v, .int .i64 t24])) false, Slot.any (RowTo e2 25 w9.heap.size t21 (fun v => v)) false, Slot.det (.int .i64 t24), Slot.any (RowTo e2 25 w9.heap.size t21 (fun v => v)) false, Slot.det _] (by kernel_rfl) (by kernel_rfl) ?main
       case main =>
        simp only [List.take_succ_cons, List.take_zero]
        refine wpK_ops rfl (fun w1 hu => ?_) ?_
        · clear hu
          go_simp
          first | done | rfl
        simp only [Act.put, nm1, nm2, nm3, i64_w]
        refine wpK_ops rfl (fun w1 hu => ?_) ?_
        · clear hu
          go_simp
          first | done | rfl
        simp only [Act.put, nm1, nm2, nm3, i64_w]
        refine wpK_ops rfl (fun w1 hu => ?_) ?_
        · have cl0 := ((hb2.up (hu7.out.trans hu10.out)).up ((Up.refl _).drew.trans hu)).cell (o := 0) rfl
          have cl1 := ((hb2.up (hu7.out.trans hu10.out)).up ((Up.refl _).drew.trans hu)).cell (o := 1) rfl
          go_simp
          first | done | rfl
        simp only [Act.put, nm1, nm2, nm3, i64_w]
        refine wpK_ops rfl (fun w1 hu => ?_) ?_
        · have hcl := (laws_toPoint.calls K a2_0 a2_1 t12 t13 w1  A14.out)
          clear hu
          replace hcl := Aside0.mk hcl
          go_simp
          exact hcl.out
        simp only [Act.put, nm1, nm2, nm3, i64_w]
        refine wpK_ops rfl (fun w1 hu => ?_) ?_
        · have cl0 := ((hb5.up hu10.out).up ((Up.refl _).drew.trans hu)).cell (o := 0) rfl
          have cl1 := ((hb5.up hu10.out).up ((Up.refl _).drew.trans hu)).cell (o := 1) rfl
          go_simp
          first | done | rfl
        simp only [Act.put, nm1, nm2, nm3, i64_w]
        refine wpK_ops rfl (fun w1 hu => ?_) ?_
        · have hcl := (laws_toPoint.calls K a3_0 a3_1 t15 t16 w1  A17.out)
          clear hu
          replace hcl := Aside0.mk hcl
          go_simp
          exact hcl.out
        simp only [Act.put, nm1, nm2, nm3, i64_w]
        refine wpK_ops rfl (fun w1 hu => ?_) ?_
        · have cl0 := (hb8.up ((Up.refl _).drew.trans hu)).cell (o := 0) rfl
          have cl1 := (hb8.up ((Up.refl _).drew.trans hu)).cell (o := 1) rfl
          go_simp
          first | done | rfl
        simp only [Act.put, nm1, nm2, nm3, i64_w]
        refine wpK_ops rfl (fun w1 hu => ?_) ?_
        · have hcl := (laws_toPoint.calls K a4_0 a4_1 t18 t19 w1  A20.out)
          clear hu
          replace hcl := Aside0.mk hcl
          go_simp
          exact hcl.out
        simp only [Act.put, nm1, nm2, nm3, i64_w]
        refine wpK_any rfl (stab_row _ _ _ _ _) (fun w1 hu hl => ?_) (fun v26 => ?_)
        · have hcl := spec_OrthicPoints.calls K a0 a1 t12 t13 t15 t16 t18 t19 t21 t24 w1  A25.out
          have hz := ((Up.refl _).drew.trans hu).size
          clear hu
          replace hcl := Aside0.mk hcl
          exact fresh_row (by first | (go_simp; done) | (go_simp; rfl)) hcl.out hz
        simp only [Act.put, nm1, nm2, nm3, i64_w]
        refine wpK_any rfl (stab_row _ _ _ _ _) (fun w1 hu hl => ?_) (fun v27 => ?_)
        · exact any_of_run (by first | (go_simp; done) | (go_simp; rfl)) (hl.1 (by kernel_rfl))
        simp only [Act.put, nm1, nm2, nm3, i64_w]
        refine wpK_any rfl (stab_row _ _ _ _ _) (fun w1 hu hl => ?_) (fun v28 => ?_)
        · obtain ⟨A0_, c0_, e0_, hO0_⟩ := hl.1 (by kernel_rfl)
          clear hl hu
          dsimp only at e0_
          subst e0_
          exact any_of_run (u := .slice A0_ t21.length c0_) (by first | (go_simp; done) | (go_simp; rfl)) ⟨A0_, c0_, rfl, hO0_⟩
        simp only [Act.put, nm1, nm2, nm3, i64_w]
        refine wpK_det rfl (fun w1 hu hl => ?_) ?_
        · obtain ⟨A0_, c0_, e0_, hO0_⟩ := hl.2.1 (by kernel_rfl)
          clear hl hu
          dsimp only at e0_
          subst e0_
          clear hO0_
          go_simp
          first | done | rfl
        simp only [Act.put, nm1, nm2, nm3, i64_w]
        refine wpK_any rfl (stab_row _ _ _ _ _) (fun w1 hu hl => ?_) (fun v29 => ?_)
        · exact any_of_run (by first | (go_simp; done) | (go_simp; rfl)) (hl.1 (by kernel_rfl))
        simp only [Act.put, nm1, nm2, nm3, i64_w]
        refine wpK_ops rfl (fun w1 hu => ?_) ?_
        · clear hu
          go_simp
          first | done | rfl
        simp only [Act.put, nm1, nm2, nm3, i64_w]
        refine wpK_nil ?_
        intro w30 hu hap
        simp only [List.drop_succ_cons, List.drop_zero]
        replace hu := (Up.refl _).drew.trans hu
        obtain ⟨-, -, ⟨P22, q23, e0, ht21⟩, -, -, -, -, -, -, -, -, -, -⟩ := hap
        dsimp only at e0
        subst e0
        have hu31 := Aside0.mk hu
        clear hu
        refine wpList_nil ?_
        (try simp only [Exit.then, Exit.inBlock, ↓reduceIte, Nat.reduceEqDiff])
        refine hK11 _ _ ?_
        refine wp_seq_k (fun K32 hK32 => ?_)
        refine' wp_region_up 14 [Slot.det _, Slot.det _, Slot.det _, Slot.det (.agg #[.int .i64 t33, .int .i64 t34]), Slot.det _, Slot.det (.agg #[.int .i64 t36, .int .i64 t37]), Slot.det _, Slot.det (.agg #[.int .i64 t39, .int .i64 t40]), Slot.any (RowTo e2 25 w30.heap.size t42 (fun v => .tuple #[v, .int .i64 t45])) false, Slot.any (RowTo e2 25 w30.heap.size t42 (fun v => .tuple #[v, .int .i64 t45])) false, Slot.any (RowTo e2 25 w30.heap.size t42 (fun v => v)) false, Slot.det (.int .i64 t45), Slot.any (RowTo e2 25 w30.heap.size t42 (fun v => v)) false, Slot.det _] (by kernel_rfl) (by kernel_rfl) ?main
        case main =>
         simp only [List.take_succ_cons, List.take_zero]
         refine wpK_ops rfl (fun w1 hu => ?_) ?_
         · clear hu
           go_simp
           first | done | rfl
         simp only [Act.put, nm1, nm2, nm3, i64_w]
         refine wpK_ops rfl (fun w1 hu => ?_) ?_
         · clear hu
           go_simp
           first | done | rfl
         simp only [Act.put, nm1, nm2, nm3, i64_w]
         refine wpK_ops rfl (fun w1 hu => ?_) ?_
         · have cl0 := ((hb2.up ((hu7.out.trans hu10.out).trans hu31.out)).up ((Up.refl _).drew.trans hu)).cell (o := 0) rfl
           have cl1 := ((hb2.up ((hu7.out.trans hu10.out).trans hu31.out)).up ((Up.refl _).drew.trans hu)).cell (o := 1) rfl
           go_simp
           first | done | rfl
         simp only [Act.put, nm1, nm2, nm3, i64_w]
         refine wpK_ops rfl (fun w1 hu => ?_) ?_
         · have hcl := (laws_toPoint.calls K a2_0 a2_1 t33 t34 w1  A35.out)
           clear hu
           replace hcl := Aside0.mk hcl
           go_simp
           exact hcl.out
         simp only [Act.put, nm1, nm2, nm3, i64_w]
         refine wpK_ops rfl (fun w1 hu => ?_) ?_
         · have cl0 := ((hb5.up (hu10.out.trans hu31.out)).up ((Up.refl _).drew.trans hu)).cell (o := 0) rfl
           have cl1 := ((hb5.up (hu10.out.trans hu31.out)).up ((Up.refl _).drew.trans hu)).cell (o := 1) rfl
           go_simp
           first | done | rfl
         simp only [Act.put, nm1, nm2, nm3, i64_w]
         refine wpK_ops rfl (fun w1 hu => ?_) ?_
         · have hcl := (laws_toPoint.calls K a3_0 a3_1 t36 t37 w1  A38.out)
           clear hu
           replace hcl := Aside0.mk hcl
           go_simp
           exact hcl.out
         simp only [Act.put, nm1, nm2, nm3, i64_w]
         refine wpK_ops rfl (fun w1 hu => ?_) ?_
         · have cl0 := ((hb8.up hu31.out).up ((Up.refl _).drew.trans hu)).cell (o := 0) rfl
           have cl1 := ((hb8.up hu31.out).up ((Up.refl _).drew.trans hu)).cell (o := 1) rfl
           go_simp
           first | done | rfl
         simp only [Act.put, nm1, nm2, nm3, i64_w]
         refine wpK_ops rfl (fun w1 hu => ?_) ?_
         · have hcl := (laws_toPoint.calls K a4_0 a4_1 t39 t40 w1  A41.out)
           clear hu
           replace hcl := Aside0.mk hcl
           go_simp
           exact hcl.out
         simp only [Act.put, nm1, nm2, nm3, i64_w]
         refine wpK_any rfl (stab_row _ _ _ _ _) (fun w1 hu hl => ?_) (fun v47 => ?_)
         · have hcl := impl_OrthicPoints.calls K a0 a1 t33 t34 t36 t37 t39 t40 t42 t45 w1  A46.out
           have hz := ((Up.refl _).drew.trans hu).size
           clear hu
           replace hcl := Aside0.mk hcl
           exact fresh_row (by first | (go_simp; done) | (go_simp; rfl)) hcl.out hz
         simp only [Act.put, nm1, nm2, nm3, i64_w]
         refine wpK_any rfl (stab_row _ _ _ _ _) (fun w1 hu hl => ?_) (fun v48 => ?_)
         · exact any_of_run (by first | (go_simp; done) | (go_simp; rfl)) (hl.1 (by kernel_rfl))
         simp only [Act.put, nm1, nm2, nm3, i64_w]
         refine wpK_any rfl (stab_row _ _ _ _ _) (fun w1 hu hl => ?_) (fun v49 => ?_)
         · obtain ⟨A0_, c0_, e0_, hO0_⟩ := hl.1 (by kernel_rfl)
           clear hl hu
           dsimp only at e0_
           subst e0_
           exact any_of_run (u := .slice A0_ t42.length c0_) (by first | (go_simp; done) | (go_simp; rfl)) ⟨A0_, c0_, rfl, hO0_⟩
         simp only [Act.put, nm1, nm2, nm3, i64_w]
         refine wpK_det rfl (fun w1 hu hl => ?_) ?_
         · obtain ⟨A0_, c0_, e0_, hO0_⟩ := hl.2.1 (by kernel_rfl)
           clear hl hu
           dsimp only at e0_
           subst e0_
           clear hO0_
           go_simp
           first | done | rfl
         simp only [Act.put, nm1, nm2, nm3, i64_w]
         refine wpK_any rfl (stab_row _ _ _ _ _) (fun w1 hu hl => ?_) (fun v50 => ?_)
         · exact any_of_run (by first | (go_simp; done) | (go_simp; rfl)) (hl.1 (by kernel_rfl))
         simp only [Act.put, nm1, nm2, nm3, i64_w]
         refine wpK_ops rfl (fun w1 hu => ?_) ?_
         · clear hu
           go_simp
           first | done | rfl
         simp only [Act.put, nm1, nm2, nm3, i64_w]
         refine wpK_nil ?_
         intro w51 hu hap
         simp only [List.drop_succ_cons, List.drop_zero]
         replace hu := (Up.refl _).drew.trans hu
         obtain ⟨-, -, ⟨P43, q44, e0, ht42⟩, -, -, -, -, -, -, -, -, -, -⟩ := hap
         dsimp only at e0
         subst e0
         have hu52 := Aside0.mk hu
         clear hu
         refine wpList_nil ?_
         (try simp only [Exit.then, Exit.inBlock, ↓reduceIte, Nat.reduceEqDiff])
         refine hK32 _ _ ?_
         refine wp_seq_k (fun K53 hK53 => ?_)
         refine wp_seq_k (fun K54 hK54 => ?_)
         refine wp_region_lit ?_
         refine wpList_plain rfl (fun Ko hKo => ?_)
         go_simp
         refine hKo _ _ ?_
         clear hKo Ko
         try simp only [Act.put, nm1, nm2, nm3, i64_w]
         refine wpList_plain rfl (fun Ko hKo => ?_)
         go_simp
         refine hKo _ _ ?_
         clear hKo Ko
         try simp only [Act.put, nm1, nm2, nm3, i64_w]
         refine step_call (wanted_none rfl) (by first | (go_simp; done) | (go_simp; rfl)) (laws_eqPointS.calls K P43 q44 t42 P22 q23 t21 true w51 ht42.rd ((ht21.up hu52.out).rd) A56.out) ?_
         rintro e w57 ⟨rfl, hu⟩
         have hu58 := Aside0.mk hu
         clear hu
         refine ⟨_, rfl, ?_⟩
         simp only [Act.put, nm1, nm2, nm3, i64_w]
         refine wpList_plain rfl (fun Ko hKo => ?_)
         go_simp
         refine hKo _ _ ?_
         clear hKo Ko
         try simp only [Act.put, nm1, nm2, nm3, i64_w]
         refine wpList_plain rfl (fun Ko hKo => ?_)
         go_simp
         refine hKo _ _ ?_
         clear hKo Ko
         try simp only [Act.put, nm1, nm2, nm3, i64_w]
         refine wpList_step (fun Ko hKo => ?_)
         go_simp
         refine hKo _ _ ?_
         clear hKo Ko
         try simp only [Act.put, nm1, nm2, nm3, i64_w]
         refine wpList_step (fun Ko hKo => ?_)
         go_simp
         refine hKo _ _ ?_
         clear hKo Ko
         try simp only [Act.put, nm1, nm2, nm3, i64_w]
         refine wpList_step (fun Ko hKo => ?_)
         go_simp
         refine hKo _ _ ?_
         clear hKo Ko
         try simp only [Act.put, nm1, nm2, nm3, i64_w]
         refine wpList_plain rfl (fun Ko hKo => ?_)
         go_simp
         refine hKo _ _ ?_
         clear hKo Ko
         try simp only [Act.put, nm1, nm2, nm3, i64_w]
         refine wpList_nil ?_
         (try simp only [Exit.then, Exit.inBlock, ↓reduceIte, Nat.reduceEqDiff])
         refine hK54 _ _ ?_
         refine wp_cond_false rfl ?_
         refine wp_skip ?_
         (try simp only [Exit.then, Exit.inBlock, ↓reduceIte, Nat.reduceEqDiff])
         refine hK53 _ _ ?_
         refine wp_seq_k (fun K61 hK61 => ?_)
         refine wp_region_lit ?_
         refine wpList_plain rfl (fun Ko hKo => ?_)
         go_simp
         refine hKo _ _ ?_
         clear hKo Ko
         try simp only [Act.put, nm1, nm2, nm3, i64_w]
         refine wpList_nil ?_
         (try simp only [Exit.then, Exit.inBlock, ↓reduceIte, Nat.reduceEqDiff])
         refine hK61 _ _ ?_
         refine wp_seq_k (fun K62 hK62 => ?_)
         refine wp_region_lit ?_
         refine wpList_plain rfl (fun Ko hKo => ?_)
         go_simp
         refine hKo _ _ ?_
         clear hKo Ko
         try simp only [Act.put, nm1, nm2, nm3, i64_w]
         refine wpList_plain rfl (fun Ko hKo => ?_)
         go_simp
         refine hKo _ _ ?_
         clear hKo Ko
         try simp only [Act.put, nm1, nm2, nm3, i64_w]
         refine step_call (wanted_none rfl) (by first | (go_simp; done) | (go_simp; rfl)) (laws_markPointS.calls K P43 q44 w30.heap.size t42 1 t63 t64 w57 (ht42.up hu58.out) A65.out) ?_
         have lb67 := Aside0.mk (ht42.up hu58.out).lt
         rintro e w66 ⟨rfl, h68, hl, hg⟩
         have hg70 := Aside0.mk hg
         have hl69 := hl
         clear hg hl
         have hl71 : Aside0 (t42.length = t64.length) := Aside0.mk hl69.out
         refine ⟨_, rfl, ?_⟩
         simp only [Act.put, nm1, nm2, nm3, i64_w]
         refine wpList_plain rfl (fun Ko hKo => ?_)
         go_simp
         refine hKo _ _ ?_
         clear hKo Ko
         try simp only [Act.put, nm1, nm2, nm3, i64_w]
         refine wpList_nil ?_
         (try simp only [Exit.then, Exit.inBlock, ↓reduceIte, Nat.reduceEqDiff])
         refine hK62 _ _ ?_
         refine wp_seq_k (fun K72 hK72 => ?_)
         refine wp_region_lit ?_
         refine wpList_plain rfl (fun Ko hKo => ?_)
         go_simp
         refine hKo _ _ ?_
         clear hKo Ko
         try simp only [Act.put, nm1, nm2, nm3, i64_w]
         refine wpList_nil ?_
         (try simp only [Exit.then, Exit.inBlock, ↓reduceIte, Nat.reduceEqDiff])
         refine hK72 _ _ ?_
         refine wp_seq_k (fun K73 hK73 => ?_)
         refine wp_region_lit ?_
         refine wpList_plain rfl (fun Ko hKo => ?_)
         go_simp
         refine hKo _ _ ?_
         clear hKo Ko
         try simp only [Act.put, nm1, nm2, nm3, i64_w]
         refine wpList_plain rfl (fun Ko hKo => ?_)
         go_simp
         refine hKo _ _ ?_
         clear hKo Ko
         try simp only [Act.put, nm1, nm2, nm3, i64_w]
         refine step_call (wanted_none rfl) (by first | (go_simp; done) | (go_simp; rfl)) (Eq.mp (congrArg (fun n_ => Calls Try.prog 41 #[.slice P43 n_ q44, .int .i64 1] w66 _) (Eq.symm hl71.out)) (laws_heldPointS.calls K P43 q44 t64 1 t74 w66 h68.rd A75.out)) ?_
         rintro e w76 ⟨rfl, hu⟩
         have hu77 := Aside0.mk hu
         clear hu
         refine ⟨_, rfl, ?_⟩
         simp only [Act.put, nm1, nm2, nm3, i64_w]
         refine wpList_plain rfl (fun Ko hKo => ?_)
         go_simp
         refine hKo _ _ ?_
         clear hKo Ko
         try simp only [Act.put, nm1, nm2, nm3, i64_w]
         refine wpList_nil ?_
         (try simp only [Exit.then, Exit.inBlock, ↓reduceIte, Nat.reduceEqDiff])
         refine hK73 _ _ ?_
         refine wp_seq_k (fun K78 hK78 => ?_)
         refine wp_seq_k (fun K79 hK79 => ?_)
         refine wp_region_lit ?_
         refine wpList_plain rfl (fun Ko hKo => ?_)
         go_simp
         refine hKo _ _ ?_
         clear hKo Ko
         try simp only [Act.put, nm1, nm2, nm3, i64_w]
         refine wpList_plain rfl (fun Ko hKo => ?_)
         go_simp
         refine hKo _ _ ?_
         clear hKo Ko
         try simp only [Act.put, nm1, nm2, nm3, i64_w]
         refine wpList_nil ?_
         (try simp only [Exit.then, Exit.inBlock, ↓reduceIte, Nat.reduceEqDiff])
         refine hK79 _ _ ?_
         refine wp_cond_false rfl ?_
         refine wp_skip ?_
         (try simp only [Exit.then, Exit.inBlock, ↓reduceIte, Nat.reduceEqDiff])
         refine hK78 _ _ ?_
         refine wp_seq_k (fun K82 hK82 => ?_)
         refine wp_seq_k (fun K83 hK83 => ?_)
         refine wp_region_lit ?_
         refine wpList_plain rfl (fun Ko hKo => ?_)
         go_simp
         refine hKo _ _ ?_
         clear hKo Ko
         try simp only [Act.put, nm1, nm2, nm3, i64_w]
         refine wpList_plain rfl (fun Ko hKo => ?_)
         go_simp
         refine hKo _ _ ?_
         clear hKo Ko
         try simp only [Act.put, nm1, nm2, nm3, i64_w]
         refine wpList_plain rfl (fun Ko hKo => ?_)
         go_simp
         refine hKo _ _ ?_
         clear hKo Ko
         try simp only [Act.put, nm1, nm2, nm3, i64_w]
         refine wpList_nil ?_
         (try simp only [Exit.then, Exit.inBlock, ↓reduceIte, Nat.reduceEqDiff])
         refine hK83 _ _ ?_
         refine wp_cond_false rfl ?_
         refine wp_skip ?_
         (try simp only [Exit.then, Exit.inBlock, ↓reduceIte, Nat.reduceEqDiff])
         refine hK82 _ _ ?_
         refine wp_seq_k (fun K85 hK85 => ?_)
         refine' wp_region_up 14 [Slot.det _, Slot.det _, Slot.det _, Slot.det (.agg #[.int .i64 t86, .int .i64 t87]), Slot.det _, Slot.det (.agg #[.int .i64 t89, .int .i64 t90]), Slot.det _, Slot.det (.agg #[.int .i64 t92, .int .i64 t93]), Slot.any (RowTo e2 25 w76.heap.size t95 (fun v => .tuple #[v, .int .i64 t98])) false, Slot.any (RowTo e2 25 w76.heap.size t95 (fun v => .tuple #[v, .int .i64 t98])) false, Slot.any (RowTo e2 25 w76.heap.size t95 (fun v => v)) false, Slot.det (.int .i64 t98), Slot.any (RowTo e2 25 w76.heap.size t95 (fun v => v)) false, Slot.det _] (by kernel_rfl) (by kernel_rfl) ?main
         case main =>
          simp only [List.take_succ_cons, List.take_zero]
          refine wpK_ops rfl (fun w1 hu => ?_) ?_
          · clear hu
            go_simp
            first | done | rfl
          simp only [Act.put, nm1, nm2, nm3, i64_w]
          refine wpK_ops rfl (fun w1 hu => ?_) ?_
          · clear hu
            go_simp
            first | done | rfl
          simp only [Act.put, nm1, nm2, nm3, i64_w]
          refine wpK_ops rfl (fun w1 hu => ?_) ?_
          · have cl0 := ((hb2.up ((((((hu7.out.trans hu10.out).trans hu31.out).trans hu52.out).trans hu58.out).grow hg70.out (fun k hk => Nat.le_trans ((Nat.le_trans ((Nat.le_trans (hu7.out.size) hu10.out.size)) hu31.out.size)) ((fun k hk => (lb67.out k hk).1) k hk))).trans hu77.out)).up ((Up.refl _).drew.trans hu)).cell (o := 0) rfl
            have cl1 := ((hb2.up ((((((hu7.out.trans hu10.out).trans hu31.out).trans hu52.out).trans hu58.out).grow hg70.out (fun k hk => Nat.le_trans ((Nat.le_trans ((Nat.le_trans (hu7.out.size) hu10.out.size)) hu31.out.size)) ((fun k hk => (lb67.out k hk).1) k hk))).trans hu77.out)).up ((Up.refl _).drew.trans hu)).cell (o := 1) rfl
            go_simp
            first | done | rfl
          simp only [Act.put, nm1, nm2, nm3, i64_w]
          refine wpK_ops rfl (fun w1 hu => ?_) ?_
          · have hcl := (laws_toPoint.calls K a2_0 a2_1 t86 t87 w1  A88.out)
            clear hu
            replace hcl := Aside0.mk hcl
            go_simp
            exact hcl.out
          simp only [Act.put, nm1, nm2, nm3, i64_w]
          refine wpK_ops rfl (fun w1 hu => ?_) ?_
          · have cl0 := ((hb5.up (((((hu10.out.trans hu31.out).trans hu52.out).trans hu58.out).grow hg70.out (fun k hk => Nat.le_trans ((Nat.le_trans (hu10.out.size) hu31.out.size)) ((fun k hk => (lb67.out k hk).1) k hk))).trans hu77.out)).up ((Up.refl _).drew.trans hu)).cell (o := 0) rfl
            have cl1 := ((hb5.up (((((hu10.out.trans hu31.out).trans hu52.out).trans hu58.out).grow hg70.out (fun k hk => Nat.le_trans ((Nat.le_trans (hu10.out.size) hu31.out.size)) ((fun k hk => (lb67.out k hk).1) k hk))).trans hu77.out)).up ((Up.refl _).drew.trans hu)).cell (o := 1) rfl
            go_simp
            first | done | rfl
          simp only [Act.put, nm1, nm2, nm3, i64_w]
          refine wpK_ops rfl (fun w1 hu => ?_) ?_
          · have hcl := (laws_toPoint.calls K a3_0 a3_1 t89 t90 w1  A91.out)
            clear hu
            replace hcl := Aside0.mk hcl
            go_simp
            exact hcl.out
          simp only [Act.put, nm1, nm2, nm3, i64_w]
          refine wpK_ops rfl (fun w1 hu => ?_) ?_
          · have cl0 := ((hb8.up ((((hu31.out.trans hu52.out).trans hu58.out).grow hg70.out (fun k hk => Nat.le_trans (hu31.out.size) ((fun k hk => (lb67.out k hk).1) k hk))).trans hu77.out)).up ((Up.refl _).drew.trans hu)).cell (o := 0) rfl
            have cl1 := ((hb8.up ((((hu31.out.trans hu52.out).trans hu58.out).grow hg70.out (fun k hk => Nat.le_trans (hu31.out.size) ((fun k hk => (lb67.out k hk).1) k hk))).trans hu77.out)).up ((Up.refl _).drew.trans hu)).cell (o := 1) rfl
            go_simp
            first | done | rfl
          simp only [Act.put, nm1, nm2, nm3, i64_w]
          refine wpK_ops rfl (fun w1 hu => ?_) ?_
          · have hcl := (laws_toPoint.calls K a4_0 a4_1 t92 t93 w1  A94.out)
            clear hu
            replace hcl := Aside0.mk hcl
            go_simp
            exact hcl.out
          simp only [Act.put, nm1, nm2, nm3, i64_w]
          refine wpK_any rfl (stab_row _ _ _ _ _) (fun w1 hu hl => ?_) (fun v100 => ?_)
          · have hcl := impl_OrthicPoints.calls K a0 a1 t86 t87 t89 t90 t92 t93 t95 t98 w1  A99.out
            have hz := ((Up.refl _).drew.trans hu).size
            clear hu
            replace hcl := Aside0.mk hcl
            exact fresh_row (by first | (go_simp; done) | (go_simp; rfl)) hcl.out hz
          simp only [Act.put, nm1, nm2, nm3, i64_w]
          refine wpK_any rfl (stab_row _ _ _ _ _) (fun w1 hu hl => ?_) (fun v101 => ?_)
          · exact any_of_run (by first | (go_simp; done) | (go_simp; rfl)) (hl.1 (by kernel_rfl))
          simp only [Act.put, nm1, nm2, nm3, i64_w]
          refine wpK_any rfl (stab_row _ _ _ _ _) (fun w1 hu hl => ?_) (fun v102 => ?_)
          · obtain ⟨A0_, c0_, e0_, hO0_⟩ := hl.1 (by kernel_rfl)
            clear hl hu
            dsimp only at e0_
            subst e0_
            exact any_of_run (u := .slice A0_ t95.length c0_) (by first | (go_simp; done) | (go_simp; rfl)) ⟨A0_, c0_, rfl, hO0_⟩
          simp only [Act.put, nm1, nm2, nm3, i64_w]
          refine wpK_det rfl (fun w1 hu hl => ?_) ?_
          · obtain ⟨A0_, c0_, e0_, hO0_⟩ := hl.2.1 (by kernel_rfl)
            clear hl hu
            dsimp only at e0_
            subst e0_
            clear hO0_
            go_simp
            first | done | rfl
          simp only [Act.put, nm1, nm2, nm3, i64_w]
          refine wpK_any rfl (stab_row _ _ _ _ _) (fun w1 hu hl => ?_) (fun v103 => ?_)
          · exact any_of_run (by first | (go_simp; done) | (go_simp; rfl)) (hl.1 (by kernel_rfl))
          simp only [Act.put, nm1, nm2, nm3, i64_w]
          refine wpK_ops rfl (fun w1 hu => ?_) ?_
          · clear hu
            go_simp
            first | done | rfl
          simp only [Act.put, nm1, nm2, nm3, i64_w]
          refine wpK_nil ?_
          intro w104 hu hap
          simp only [List.drop_succ_cons, List.drop_zero]
          replace hu := (Up.refl _).drew.trans hu
          obtain ⟨-, -, ⟨P96, q97, e0, ht95⟩, -, -, -, -, -, -, -, -, -, -⟩ := hap
          dsimp only at e0
          subst e0
          have hu105 := Aside0.mk hu
          clear hu
          refine wpList_nil ?_
          (try simp only [Exit.then, Exit.inBlock, ↓reduceIte, Nat.reduceEqDiff])
          refine hK85 _ _ ?_
          refine wp_seq_k (fun K106 hK106 => ?_)
          refine wp_seq_k (fun K107 hK107 => ?_)
          refine wp_region_lit ?_
          refine wpList_plain rfl (fun Ko hKo => ?_)
          go_simp
          refine hKo _ _ ?_
          clear hKo Ko
          try simp only [Act.put, nm1, nm2, nm3, i64_w]
          refine wpList_plain rfl (fun Ko hKo => ?_)
          go_simp
          refine hKo _ _ ?_
          clear hKo Ko
          try simp only [Act.put, nm1, nm2, nm3, i64_w]
          refine step_call (wanted_none rfl) (by first | (go_simp; done) | (go_simp; rfl)) (laws_eqPointS.calls K P96 q97 t95 P22 q23 t21 true w104 ht95.rd ((ht21.up ((((hu52.out.trans hu58.out).grow hg70.out (fun k hk => Nat.le_trans (Nat.le_refl _) ((fun k hk => (lb67.out k hk).1) k hk))).trans hu77.out).trans hu105.out)).rd) A109.out) ?_
          rintro e w110 ⟨rfl, hu⟩
          have hu111 := Aside0.mk hu
          clear hu
          refine ⟨_, rfl, ?_⟩
          simp only [Act.put, nm1, nm2, nm3, i64_w]
          refine wpList_plain rfl (fun Ko hKo => ?_)
          go_simp
          refine hKo _ _ ?_
          clear hKo Ko
          try simp only [Act.put, nm1, nm2, nm3, i64_w]
          refine wpList_plain rfl (fun Ko hKo => ?_)
          go_simp
          refine hKo _ _ ?_
          clear hKo Ko
          try simp only [Act.put, nm1, nm2, nm3, i64_w]
          refine wpList_step (fun Ko hKo => ?_)
          go_simp
          refine hKo _ _ ?_
          clear hKo Ko
          try simp only [Act.put, nm1, nm2, nm3, i64_w]
          refine wpList_step (fun Ko hKo => ?_)
          go_simp
          refine hKo _ _ ?_
          clear hKo Ko
          try simp only [Act.put, nm1, nm2, nm3, i64_w]
          refine wpList_step (fun Ko hKo => ?_)
          go_simp
          refine hKo _ _ ?_
          clear hKo Ko
          try simp only [Act.put, nm1, nm2, nm3, i64_w]
          refine wpList_plain rfl (fun Ko hKo => ?_)
          go_simp
          refine hKo _ _ ?_
          clear hKo Ko
          try simp only [Act.put, nm1, nm2, nm3, i64_w]
          refine wpList_nil ?_
          (try simp only [Exit.then, Exit.inBlock, ↓reduceIte, Nat.reduceEqDiff])
          refine hK107 _ _ ?_
          refine wp_cond_true rfl ?_
          refine wp_seq_k (fun K129 hK129 => ?_)
          refine wp_region_lit ?_
          refine wpList_plain rfl (fun Ko hKo => ?_)
          go_simp
          refine hKo _ _ ?_
          clear hKo Ko
          try simp only [Act.put, nm1, nm2, nm3, i64_w]
          refine wpList_nil ?_
          (try simp only [Exit.then, Exit.inBlock, ↓reduceIte, Nat.reduceEqDiff])
          refine hK129 _ _ ?_
          refine wp_ret ?_
          (try simp only [Exit.then, Exit.inBlock, ↓reduceIte, Nat.reduceEqDiff])
          refine hQf _ _ _ ?_
          exact bodyPost_ret (v := .bool false) (by first | rfl | (simp [results, Try.results12, go_sem]; done) | (simp [results, Try.results12, go_sem]; rfl)) rfl ⟨rfl, (((((((((hu4.out.trans hu7.out).trans hu10.out).trans hu31.out).trans hu52.out).trans hu58.out).grow hg70.out (fun k hk => Nat.le_trans ((Nat.le_trans ((Nat.le_trans ((Nat.le_trans (hu4.out.size) hu7.out.size)) hu10.out.size)) hu31.out.size)) ((fun k hk => (lb67.out k hk).1) k hk))).trans hu77.out).trans hu105.out).trans hu111.out)⟩
     ·
      rw [if_neg c112] at H
      replace c112 := Bool.eq_false_iff.mpr c112
      subst c112
      obtain rfl := Option.some.inj H
      go_enter Try.func12, Try.ntmps12
      refine wp_hide (fun Qf hQf => ?_)
      refine wp_seq_k (fun K1 hK1 => ?_)
      refine wp_region_lit ?_
      refine step_new (cs := [.int .i64 a2_0, .int .i64 a2_1]) (T := 22) (f := fun b => .pointer (some ⟨b, 0, none⟩)) rfl (by first | (go_simp; done) | (go_simp; rfl)) ?_
      intro b2 w3 hu lb hb2
      simp only [Act.put, nm1, nm2, nm3, i64_w]
      have lbb2 := Aside0.mk lb
      have ltb2 := Aside0.mk hb2.lt
      clear lb
      have hu4 := Aside0.mk hu
      clear hu
      refine step_new (cs := [.int .i64 a3_0, .int .i64 a3_1]) (T := 22) (f := fun b => .pointer (some ⟨b, 0, none⟩)) rfl (by first | (go_simp; done) | (go_simp; rfl)) ?_
      intro b5 w6 hu lb hb5
      simp only [Act.put, nm1, nm2, nm3, i64_w]
      have lbb5 := Aside0.mk lb
      have ltb5 := Aside0.mk hb5.lt
      clear lb
      have hu7 := Aside0.mk hu
      clear hu
      refine step_new (cs := [.int .i64 a4_0, .int .i64 a4_1]) (T := 22) (f := fun b => .pointer (some ⟨b, 0, none⟩)) rfl (by first | (go_simp; done) | (go_simp; rfl)) ?_
      intro b8 w9 hu lb hb8
      simp only [Act.put, nm1, nm2, nm3, i64_w]
      have lbb8 := Aside0.mk lb
      have ltb8 := Aside0.mk hb8.lt
      clear lb
      have hu10 := Aside0.mk hu
      clear hu
      refine wpList_plain rfl (fun Ko hKo => ?_)
      go_simp
      refine hKo _ _ ?_
      clear hKo Ko
      try simp only [Act.put, nm1, nm2, nm3, i64_w]
      refine wpList_nil ?_
      (try simp only [Exit.then, Exit.inBlock, ↓reduceIte, Nat.reduceEqDiff])
      refine hK1 _ _ ?_
      refine wp_seq_k (fun K11 hK11 => ?_)
      refine' wp_region_up 14 [Slot.det _, Slot.det _, Slot.det _, Slot.det (.agg #[.int .i64 t12, .int .i64 t13]), Slot.det _, Slot.det (.agg #[.int .i64 t15, .int .i64 t16]), Slot.det _, Slot.det (.agg #[.int .i64 t18, .int .i64 t19]), Slot.any (RowTo e2 25 w9.heap.size t21 (fun v => .tuple #[v, .int .i64 t24])) false, Slot.any (RowTo e2 25 w9.heap.size t21 (fun v => .tuple #[v, .int .i64 t24])) false, Slot.any (RowTo e2 25 w9.heap.size t21 (fun v => v)) false, Slot.det (.int .i64 t24), Slot.any (RowTo e2 25 w9.heap.size t21 (fun v => v)) false, Slot.det _] (by kernel_rfl) (by kernel_rfl) ?main
      case main =>
       simp only [List.take_succ_cons, List.take_zero]
       refine wpK_ops rfl (fun w1 hu => ?_) ?_
       · clear hu
         go_simp
         first | done | rfl
       simp only [Act.put, nm1, nm2, nm3, i64_w]
       refine wpK_ops rfl (fun w1 hu => ?_) ?_
       · clear hu
         go_simp
         first | done | rfl
       simp only [Act.put, nm1, nm2, nm3, i64_w]
       refine wpK_ops rfl (fun w1 hu => ?_) ?_
       · have cl0 := ((hb2.up (hu7.out.trans hu10.out)).up ((Up.refl _).drew.trans hu)).cell (o := 0) rfl
         have cl1 := ((hb2.up (hu7.out.trans hu10.out)).up ((Up.refl _).drew.trans hu)).cell (o := 1) rfl
         go_simp
         first | done | rfl
       simp only [Act.put, nm1, nm2, nm3, i64_w]
       refine wpK_ops rfl (fun w1 hu => ?_) ?_
       · have hcl := (laws_toPoint.calls K a2_0 a2_1 t12 t13 w1  A14.out)
         clear hu
         replace hcl := Aside0.mk hcl
         go_simp
         exact hcl.out
       simp only [Act.put, nm1, nm2, nm3, i64_w]
       refine wpK_ops rfl (fun w1 hu => ?_) ?_
       · have cl0 := ((hb5.up hu10.out).up ((Up.refl _).drew.trans hu)).cell (o := 0) rfl
         have cl1 := ((hb5.up hu10.out).up ((Up.refl _).drew.trans hu)).cell (o := 1) rfl
         go_simp
         first | done | rfl
       simp only [Act.put, nm1, nm2, nm3, i64_w]
       refine wpK_ops rfl (fun w1 hu => ?_) ?_
       · have hcl := (laws_toPoint.calls K a3_0 a3_1 t15 t16 w1  A17.out)
         clear hu
         replace hcl := Aside0.mk hcl
         go_simp
         exact hcl.out
       simp only [Act.put, nm1, nm2, nm3, i64_w]
       refine wpK_ops rfl (fun w1 hu => ?_) ?_
       · have cl0 := (hb8.up ((Up.refl _).drew.trans hu)).cell (o := 0) rfl
         have cl1 := (hb8.up ((Up.refl _).drew.trans hu)).cell (o := 1) rfl
         go_simp
         first | done | rfl
       simp only [Act.put, nm1, nm2, nm3, i64_w]
       refine wpK_ops rfl (fun w1 hu => ?_) ?_
       · have hcl := (laws_toPoint.calls K a4_0 a4_1 t18 t19 w1  A20.out)
         clear hu
         replace hcl := Aside0.mk hcl
         go_simp
         exact hcl.out
       simp only [Act.put, nm1, nm2, nm3, i64_w]
       refine wpK_any rfl (stab_row _ _ _ _ _) (fun w1 hu hl => ?_) (fun v26 => ?_)
       · have hcl := spec_OrthicPoints.calls K a0 a1 t12 t13 t15 t16 t18 t19 t21 t24 w1  A25.out
         have hz := ((Up.refl _).drew.trans hu).size
         clear hu
         replace hcl := Aside0.mk hcl
         exact fresh_row (by first | (go_simp; done) | (go_simp; rfl)) hcl.out hz
       simp only [Act.put, nm1, nm2, nm3, i64_w]
       refine wpK_any rfl (stab_row _ _ _ _ _) (fun w1 hu hl => ?_) (fun v27 => ?_)
       · exact any_of_run (by first | (go_simp; done) | (go_simp; rfl)) (hl.1 (by kernel_rfl))
       simp only [Act.put, nm1, nm2, nm3, i64_w]
       refine wpK_any rfl (stab_row _ _ _ _ _) (fun w1 hu hl => ?_) (fun v28 => ?_)
       · obtain ⟨A0_, c0_, e0_, hO0_⟩ := hl.1 (by kernel_rfl)
         clear hl hu
         dsimp only at e0_
         subst e0_
         exact any_of_run (u := .slice A0_ t21.length c0_) (by first | (go_simp; done) | (go_simp; rfl)) ⟨A0_, c0_, rfl, hO0_⟩
       simp only [Act.put, nm1, nm2, nm3, i64_w]
       refine wpK_det rfl (fun w1 hu hl => ?_) ?_
       · obtain ⟨A0_, c0_, e0_, hO0_⟩ := hl.2.1 (by kernel_rfl)
         clear hl hu
         dsimp only at e0_
         subst e0_
         clear hO0_
         go_simp
         first | done | rfl
       simp only [Act.put, nm1, nm2, nm3, i64_w]
       refine wpK_any rfl (stab_row _ _ _ _ _) (fun w1 hu hl => ?_) (fun v29 => ?_)
       · exact any_of_run (by first | (go_simp; done) | (go_simp; rfl)) (hl.1 (by kernel_rfl))
       simp only [Act.put, nm1, nm2, nm3, i64_w]
       refine wpK_ops rfl (fun w1 hu => ?_) ?_
       · clear hu
         go_simp
         first | done | rfl
       simp only [Act.put, nm1, nm2, nm3, i64_w]
       refine wpK_nil ?_
       intro w30 hu hap
       simp only [List.drop_succ_cons, List.drop_zero]
       replace hu := (Up.refl _).drew.trans hu
       obtain ⟨-, -, ⟨P22, q23, e0, ht21⟩, -, -, -, -, -, -, -, -, -, -⟩ := hap
       dsimp only at e0
       subst e0
       have hu31 := Aside0.mk hu
       clear hu
       refine wpList_nil ?_
       (try simp only [Exit.then, Exit.inBlock, ↓reduceIte, Nat.reduceEqDiff])
       refine hK11 _ _ ?_
       refine wp_seq_k (fun K32 hK32 => ?_)
       refine' wp_region_up 14 [Slot.det _, Slot.det _, Slot.det _, Slot.det (.agg #[.int .i64 t33, .int .i64 t34]), Slot.det _, Slot.det (.agg #[.int .i64 t36, .int .i64 t37]), Slot.det _, Slot.det (.agg #[.int .i64 t39, .int .i64 t40]), Slot.any (RowTo e2 25 w30.heap.size t42 (fun v => .tuple #[v, .int .i64 t45])) false, Slot.any (RowTo e2 25 w30.heap.size t42 (fun v => .tuple #[v, .int .i64 t45])) false, Slot.any (RowTo e2 25 w30.heap.size t42 (fun v => v)) false, Slot.det (.int .i64 t45), Slot.any (RowTo e2 25 w30.heap.size t42 (fun v => v)) false, Slot.det _] (by kernel_rfl) (by kernel_rfl) ?main
       case main =>
        simp only [List.take_succ_cons, List.take_zero]
        refine wpK_ops rfl (fun w1 hu => ?_) ?_
        · clear hu
          go_simp
          first | done | rfl
        simp only [Act.put, nm1, nm2, nm3, i64_w]
        refine wpK_ops rfl (fun w1 hu => ?_) ?_
        · clear hu
          go_simp
          first | done | rfl
        simp only [Act.put, nm1, nm2, nm3, i64_w]
        refine wpK_ops rfl (fun w1 hu => ?_) ?_
        · have cl0 := ((hb2.up ((hu7.out.trans hu10.out).trans hu31.out)).up ((Up.refl _).drew.trans hu)).cell (o := 0) rfl
          have cl1 := ((hb2.up ((hu7.out.trans hu10.out).trans hu31.out)).up ((Up.refl _).drew.trans hu)).cell (o := 1) rfl
          go_simp
          first | done | rfl
        simp only [Act.put, nm1, nm2, nm3, i64_w]
        refine wpK_ops rfl (fun w1 hu => ?_) ?_
        · have hcl := (laws_toPoint.calls K a2_0 a2_1 t33 t34 w1  A35.out)
          clear hu
          replace hcl := Aside0.mk hcl
          go_simp
          exact hcl.out
        simp only [Act.put, nm1, nm2, nm3, i64_w]
        refine wpK_ops rfl (fun w1 hu => ?_) ?_
        · have cl0 := ((hb5.up (hu10.out.trans hu31.out)).up ((Up.refl _).drew.trans hu)).cell (o := 0) rfl
          have cl1 := ((hb5.up (hu10.out.trans hu31.out)).up ((Up.refl _).drew.trans hu)).cell (o := 1) rfl
          go_simp
          first | done | rfl
        simp only [Act.put, nm1, nm2, nm3, i64_w]
        refine wpK_ops rfl (fun w1 hu => ?_) ?_
        · have hcl := (laws_toPoint.calls K a3_0 a3_1 t36 t37 w1  A38.out)
          clear hu
          replace hcl := Aside0.mk hcl
          go_simp
          exact hcl.out
        simp only [Act.put, nm1, nm2, nm3, i64_w]
        refine wpK_ops rfl (fun w1 hu => ?_) ?_
        · have cl0 := ((hb8.up hu31.out).up ((Up.refl _).drew.trans hu)).cell (o := 0) rfl
          have cl1 := ((hb8.up hu31.out).up ((Up.refl _).drew.trans hu)).cell (o := 1) rfl
          go_simp
          first | done | rfl
        simp only [Act.put, nm1, nm2, nm3, i64_w]
        refine wpK_ops rfl (fun w1 hu => ?_) ?_
        · have hcl := (laws_toPoint.calls K a4_0 a4_1 t39 t40 w1  A41.out)
          clear hu
          replace hcl := Aside0.mk hcl
          go_simp
          exact hcl.out
        simp only [Act.put, nm1, nm2, nm3, i64_w]
        refine wpK_any rfl (stab_row _ _ _ _ _) (fun w1 hu hl => ?_) (fun v47 => ?_)
        · have hcl := impl_OrthicPoints.calls K a0 a1 t33 t34 t36 t37 t39 t40 t42 t45 w1  A46.out
          have hz := ((Up.refl _).drew.trans hu).size
          clear hu
          replace hcl := Aside0.mk hcl
          exact fresh_row (by first | (go_simp; done) | (go_simp; rfl)) hcl.out hz
        simp only [Act.put, nm1, nm2, nm3, i64_w]
        refine wpK_any rfl (stab_row _ _ _ _ _) (fun w1 hu hl => ?_) (fun v48 => ?_)
        · exact any_of_run (by first | (go_simp; done) | (go_simp; rfl)) (hl.1 (by kernel_rfl))
        simp only [Act.put, nm1, nm2, nm3, i64_w]
        refine wpK_any rfl (stab_row _ _ _ _ _) (fun w1 hu hl => ?_) (fun v49 => ?_)
        · obtain ⟨A0_, c0_, e0_, hO0_⟩ := hl.1 (by kernel_rfl)
          clear hl hu
          dsimp only at e0_
          subst e0_
          exact any_of_run (u := .slice A0_ t42.length c0_) (by first | (go_simp; done) | (go_simp; rfl)) ⟨A0_, c0_, rfl, hO0_⟩
        simp only [Act.put, nm1, nm2, nm3, i64_w]
        refine wpK_det rfl (fun w1 hu hl => ?_) ?_
        · obtain ⟨A0_, c0_, e0_, hO0_⟩ := hl.2.1 (by kernel_rfl)
          clear hl hu
          dsimp only at e0_
          subst e0_
          clear hO0_
          go_simp
          first | done | rfl
        simp only [Act.put, nm1, nm2, nm3, i64_w]
        refine wpK_any rfl (stab_row _ _ _ _ _) (fun w1 hu hl => ?_) (fun v50 => ?_)
        · exact any_of_run (by first | (go_simp; done) | (go_simp; rfl)) (hl.1 (by kernel_rfl))
        simp only [Act.put, nm1, nm2, nm3, i64_w]
        refine wpK_ops rfl (fun w1 hu => ?_) ?_
        · clear hu
          go_simp
          first | done | rfl
        simp only [Act.put, nm1, nm2, nm3, i64_w]
        refine wpK_nil ?_
        intro w51 hu hap
        simp only [List.drop_succ_cons, List.drop_zero]
        replace hu := (Up.refl _).drew.trans hu
        obtain ⟨-, -, ⟨P43, q44, e0, ht42⟩, -, -, -, -, -, -, -, -, -, -⟩ := hap
        dsimp only at e0
        subst e0
        have hu52 := Aside0.mk hu
        clear hu
        refine wpList_nil ?_
        (try simp only [Exit.then, Exit.inBlock, ↓reduceIte, Nat.reduceEqDiff])
        refine hK32 _ _ ?_
        refine wp_seq_k (fun K53 hK53 => ?_)
        refine wp_seq_k (fun K54 hK54 => ?_)
        refine wp_region_lit ?_
        refine wpList_plain rfl (fun Ko hKo => ?_)
        go_simp
        refine hKo _ _ ?_
        clear hKo Ko
        try simp only [Act.put, nm1, nm2, nm3, i64_w]
        refine wpList_plain rfl (fun Ko hKo => ?_)
        go_simp
        refine hKo _ _ ?_
        clear hKo Ko
        try simp only [Act.put, nm1, nm2, nm3, i64_w]
        refine step_call (wanted_none rfl) (by first | (go_simp; done) | (go_simp; rfl)) (laws_eqPointS.calls K P43 q44 t42 P22 q23 t21 true w51 ht42.rd ((ht21.up hu52.out).rd) A56.out) ?_
        rintro e w57 ⟨rfl, hu⟩
        have hu58 := Aside0.mk hu
        clear hu
        refine ⟨_, rfl, ?_⟩
        simp only [Act.put, nm1, nm2, nm3, i64_w]
        refine wpList_plain rfl (fun Ko hKo => ?_)
        go_simp
        refine hKo _ _ ?_
        clear hKo Ko
        try simp only [Act.put, nm1, nm2, nm3, i64_w]
        refine wpList_plain rfl (fun Ko hKo => ?_)
        go_simp
        refine hKo _ _ ?_
        clear hKo Ko
        try simp only [Act.put, nm1, nm2, nm3, i64_w]
        refine wpList_step (fun Ko hKo => ?_)
        go_simp
        refine hKo _ _ ?_
        clear hKo Ko
        try simp only [Act.put, nm1, nm2, nm3, i64_w]
        refine wpList_step (fun Ko hKo => ?_)
        go_simp
        refine hKo _ _ ?_
        clear hKo Ko
        try simp only [Act.put, nm1, nm2, nm3, i64_w]
        refine wpList_step (fun Ko hKo => ?_)
        go_simp
        refine hKo _ _ ?_
        clear hKo Ko
        try simp only [Act.put, nm1, nm2, nm3, i64_w]
        refine wpList_plain rfl (fun Ko hKo => ?_)
        go_simp
        refine hKo _ _ ?_
        clear hKo Ko
        try simp only [Act.put, nm1, nm2, nm3, i64_w]
        refine wpList_nil ?_
        (try simp only [Exit.then, Exit.inBlock, ↓reduceIte, Nat.reduceEqDiff])
        refine hK54 _ _ ?_
        refine wp_cond_false rfl ?_
        refine wp_skip ?_
        (try simp only [Exit.then, Exit.inBlock, ↓reduceIte, Nat.reduceEqDiff])
        refine hK53 _ _ ?_
        refine wp_seq_k (fun K61 hK61 => ?_)
        refine wp_region_lit ?_
        refine wpList_plain rfl (fun Ko hKo => ?_)
        go_simp
        refine hKo _ _ ?_
        clear hKo Ko
        try simp only [Act.put, nm1, nm2, nm3, i64_w]
        refine wpList_nil ?_
        (try simp only [Exit.then, Exit.inBlock, ↓reduceIte, Nat.reduceEqDiff])
        refine hK61 _ _ ?_
        refine wp_seq_k (fun K62 hK62 => ?_)
        refine wp_region_lit ?_
        refine wpList_plain rfl (fun Ko hKo => ?_)
        go_simp
        refine hKo _ _ ?_
        clear hKo Ko
        try simp only [Act.put, nm1, nm2, nm3, i64_w]
        refine wpList_plain rfl (fun Ko hKo => ?_)
        go_simp
        refine hKo _ _ ?_
        clear hKo Ko
        try simp only [Act.put, nm1, nm2, nm3, i64_w]
        refine step_call (wanted_none rfl) (by first | (go_simp; done) | (go_simp; rfl)) (laws_markPointS.calls K P43 q44 w30.heap.size t42 1 t63 t64 w57 (ht42.up hu58.out) A65.out) ?_
        have lb67 := Aside0.mk (ht42.up hu58.out).lt
        rintro e w66 ⟨rfl, h68, hl, hg⟩
        have hg70 := Aside0.mk hg
        have hl69 := hl
        clear hg hl
        have hl71 : Aside0 (t42.length = t64.length) := Aside0.mk hl69.out
        refine ⟨_, rfl, ?_⟩
        simp only [Act.put, nm1, nm2, nm3, i64_w]
        refine wpList_plain rfl (fun Ko hKo => ?_)
        go_simp
        refine hKo _ _ ?_
        clear hKo Ko
        try simp only [Act.put, nm1, nm2, nm3, i64_w]
        refine wpList_nil ?_
        (try simp only [Exit.then, Exit.inBlock, ↓reduceIte, Nat.reduceEqDiff])
        refine hK62 _ _ ?_
        refine wp_seq_k (fun K72 hK72 => ?_)
        refine wp_region_lit ?_
        refine wpList_plain rfl (fun Ko hKo => ?_)
        go_simp
        refine hKo _ _ ?_
        clear hKo Ko
        try simp only [Act.put, nm1, nm2, nm3, i64_w]
        refine wpList_nil ?_
        (try simp only [Exit.then, Exit.inBlock, ↓reduceIte, Nat.reduceEqDiff])
        refine hK72 _ _ ?_
        refine wp_seq_k (fun K73 hK73 => ?_)
        refine wp_region_lit ?_
        refine wpList_plain rfl (fun Ko hKo => ?_)
        go_simp
        refine hKo _ _ ?_
        clear hKo Ko
        try simp only [Act.put, nm1, nm2, nm3, i64_w]
        refine wpList_plain rfl (fun Ko hKo => ?_)
        go_simp
        refine hKo _ _ ?_
        clear hKo Ko
        try simp only [Act.put, nm1, nm2, nm3, i64_w]
        refine step_call (wanted_none rfl) (by first | (go_simp; done) | (go_simp; rfl)) (Eq.mp (congrArg (fun n_ => Calls Try.prog 41 #[.slice P43 n_ q44, .int .i64 1] w66 _) (Eq.symm hl71.out)) (laws_heldPointS.calls K P43 q44 t64 1 t74 w66 h68.rd A75.out)) ?_
        rintro e w76 ⟨rfl, hu⟩
        have hu77 := Aside0.mk hu
        clear hu
        refine ⟨_, rfl, ?_⟩
        simp only [Act.put, nm1, nm2, nm3, i64_w]
        refine wpList_plain rfl (fun Ko hKo => ?_)
        go_simp
        refine hKo _ _ ?_
        clear hKo Ko
        try simp only [Act.put, nm1, nm2, nm3, i64_w]
        refine wpList_nil ?_
        (try simp only [Exit.then, Exit.inBlock, ↓reduceIte, Nat.reduceEqDiff])
        refine hK73 _ _ ?_
        refine wp_seq_k (fun K78 hK78 => ?_)
        refine wp_seq_k (fun K79 hK79 => ?_)
        refine wp_region_lit ?_
        refine wpList_plain rfl (fun Ko hKo => ?_)
        go_simp
        refine hKo _ _ ?_
        clear hKo Ko
        try simp only [Act.put, nm1, nm2, nm3, i64_w]
        refine wpList_plain rfl (fun Ko hKo => ?_)
        go_simp
        refine hKo _ _ ?_
        clear hKo Ko
        try simp only [Act.put, nm1, nm2, nm3, i64_w]
        refine wpList_nil ?_
        (try simp only [Exit.then, Exit.inBlock, ↓reduceIte, Nat.reduceEqDiff])
        refine hK79 _ _ ?_
        refine wp_cond_false rfl ?_
        refine wp_skip ?_
        (try simp only [Exit.then, Exit.inBlock, ↓reduceIte, Nat.reduceEqDiff])
        refine hK78 _ _ ?_
        refine wp_seq_k (fun K82 hK82 => ?_)
        refine wp_seq_k (fun K83 hK83 => ?_)
        refine wp_region_lit ?_
        refine wpList_plain rfl (fun Ko hKo => ?_)
        go_simp
        refine hKo _ _ ?_
        clear hKo Ko
        try simp only [Act.put, nm1, nm2, nm3, i64_w]
        refine wpList_plain rfl (fun Ko hKo => ?_)
        go_simp
        refine hKo _ _ ?_
        clear hKo Ko
        try simp only [Act.put, nm1, nm2, nm3, i64_w]
        refine wpList_plain rfl (fun Ko hKo => ?_)
        go_simp
        refine hKo _ _ ?_
        clear hKo Ko
        try simp only [Act.put, nm1, nm2, nm3, i64_w]
        refine wpList_nil ?_
        (try simp only [Exit.then, Exit.inBlock, ↓reduceIte, Nat.reduceEqDiff])
        refine hK83 _ _ ?_
        refine wp_cond_false rfl ?_
        refine wp_skip ?_
        (try simp only [Exit.then, Exit.inBlock, ↓reduceIte, Nat.reduceEqDiff])
        refine hK82 _ _ ?_
        refine wp_seq_k (fun K85 hK85 => ?_)
        refine' wp_region_up 14 [Slot.det _, Slot.det _, Slot.det _, Slot.det (.agg #[.int .i64 t86, .int .i64 t87]), Slot.det _, Slot.det (.agg #[.int .i64 t89, .int .i64 t90]), Slot.det _, Slot.det (.agg #[.int .i64 t92, .int .i64 t93]), Slot.any (RowTo e2 25 w76.heap.size t95 (fun v => .tuple #[v, .int .i64 t98])) false, Slot.any (RowTo e2 25 w76.heap.size t95 (fun v => .tuple #[v, .int .i64 t98])) false, Slot.any (RowTo e2 25 w76.heap.size t95 (fun v => v)) false, Slot.det (.int .i64 t98), Slot.any (RowTo e2 25 w76.heap.size t95 (fun v => v)) false, Slot.det _] (by kernel_rfl) (by kernel_rfl) ?main
        case main =>
         simp only [List.take_succ_cons, List.take_zero]
         refine wpK_ops rfl (fun w1 hu => ?_) ?_
         · clear hu
           go_simp
           first | done | rfl
         simp only [Act.put, nm1, nm2, nm3, i64_w]
         refine wpK_ops rfl (fun w1 hu => ?_) ?_
         · clear hu
           go_simp
           first | done | rfl
         simp only [Act.put, nm1, nm2, nm3, i64_w]
         refine wpK_ops rfl (fun w1 hu => ?_) ?_
         · have cl0 := ((hb2.up ((((((hu7.out.trans hu10.out).trans hu31.out).trans hu52.out).trans hu58.out).grow hg70.out (fun k hk => Nat.le_trans ((Nat.le_trans ((Nat.le_trans (hu7.out.size) hu10.out.size)) hu31.out.size)) ((fun k hk => (lb67.out k hk).1) k hk))).trans hu77.out)).up ((Up.refl _).drew.trans hu)).cell (o := 0) rfl
           have cl1 := ((hb2.up ((((((hu7.out.trans hu10.out).trans hu31.out).trans hu52.out).trans hu58.out).grow hg70.out (fun k hk => Nat.le_trans ((Nat.le_trans ((Nat.le_trans (hu7.out.size) hu10.out.size)) hu31.out.size)) ((fun k hk => (lb67.out k hk).1) k hk))).trans hu77.out)).up ((Up.refl _).drew.trans hu)).cell (o := 1) rfl
           go_simp
           first | done | rfl
         simp only [Act.put, nm1, nm2, nm3, i64_w]
         refine wpK_ops rfl (fun w1 hu => ?_) ?_
         · have hcl := (laws_toPoint.calls K a2_0 a2_1 t86 t87 w1  A88.out)
           clear hu
           replace hcl := Aside0.mk hcl
           go_simp
           exact hcl.out
         simp only [Act.put, nm1, nm2, nm3, i64_w]
         refine wpK_ops rfl (fun w1 hu => ?_) ?_
         · have cl0 := ((hb5.up (((((hu10.out.trans hu31.out).trans hu52.out).trans hu58.out).grow hg70.out (fun k hk => Nat.le_trans ((Nat.le_trans (hu10.out.size) hu31.out.size)) ((fun k hk => (lb67.out k hk).1) k hk))).trans hu77.out)).up ((Up.refl _).drew.trans hu)).cell (o := 0) rfl
           have cl1 := ((hb5.up (((((hu10.out.trans hu31.out).trans hu52.out).trans hu58.out).grow hg70.out (fun k hk => Nat.le_trans ((Nat.le_trans (hu10.out.size) hu31.out.size)) ((fun k hk => (lb67.out k hk).1) k hk))).trans hu77.out)).up ((Up.refl _).drew.trans hu)).cell (o := 1) rfl
           go_simp
           first | done | rfl
         simp only [Act.put, nm1, nm2, nm3, i64_w]
         refine wpK_ops rfl (fun w1 hu => ?_) ?_
         · have hcl := (laws_toPoint.calls K a3_0 a3_1 t89 t90 w1  A91.out)
           clear hu
           replace hcl := Aside0.mk hcl
           go_simp
           exact hcl.out
         simp only [Act.put, nm1, nm2, nm3, i64_w]
         refine wpK_ops rfl (fun w1 hu => ?_) ?_
         · have cl0 := ((hb8.up ((((hu31.out.trans hu52.out).trans hu58.out).grow hg70.out (fun k hk => Nat.le_trans (hu31.out.size) ((fun k hk => (lb67.out k hk).1) k hk))).trans hu77.out)).up ((Up.refl _).drew.trans hu)).cell (o := 0) rfl
           have cl1 := ((hb8.up ((((hu31.out.trans hu52.out).trans hu58.out).grow hg70.out (fun k hk => Nat.le_trans (hu31.out.size) ((fun k hk => (lb67.out k hk).1) k hk))).trans hu77.out)).up ((Up.refl _).drew.trans hu)).cell (o := 1) rfl
           go_simp
           first | done | rfl
         simp only [Act.put, nm1, nm2, nm3, i64_w]
         refine wpK_ops rfl (fun w1 hu => ?_) ?_
         · have hcl := (laws_toPoint.calls K a4_0 a4_1 t92 t93 w1  A94.out)
           clear hu
           replace hcl := Aside0.mk hcl
           go_simp
           exact hcl.out
         simp only [Act.put, nm1, nm2, nm3, i64_w]
         refine wpK_any rfl (stab_row _ _ _ _ _) (fun w1 hu hl => ?_) (fun v100 => ?_)
         · have hcl := impl_OrthicPoints.calls K a0 a1 t86 t87 t89 t90 t92 t93 t95 t98 w1  A99.out
           have hz := ((Up.refl _).drew.trans hu).size
           clear hu
           replace hcl := Aside0.mk hcl
           exact fresh_row (by first | (go_simp; done) | (go_simp; rfl)) hcl.out hz
         simp only [Act.put, nm1, nm2, nm3, i64_w]
         refine wpK_any rfl (stab_row _ _ _ _ _) (fun w1 hu hl => ?_) (fun v101 => ?_)
         · exact any_of_run (by first | (go_simp; done) | (go_simp; rfl)) (hl.1 (by kernel_rfl))
         simp only [Act.put, nm1, nm2, nm3, i64_w]
         refine wpK_any rfl (stab_row _ _ _ _ _) (fun w1 hu hl => ?_) (fun v102 => ?_)
         · obtain ⟨A0_, c0_, e0_, hO0_⟩ := hl.1 (by kernel_rfl)
           clear hl hu
           dsimp only at e0_
           subst e0_
           exact any_of_run (u := .slice A0_ t95.length c0_) (by first | (go_simp; done) | (go_simp; rfl)) ⟨A0_, c0_, rfl, hO0_⟩
         simp only [Act.put, nm1, nm2, nm3, i64_w]
         refine wpK_det rfl (fun w1 hu hl => ?_) ?_
         · obtain ⟨A0_, c0_, e0_, hO0_⟩ := hl.2.1 (by kernel_rfl)
           clear hl hu
           dsimp only at e0_
           subst e0_
           clear hO0_
           go_simp
           first | done | rfl
         simp only [Act.put, nm1, nm2, nm3, i64_w]
         refine wpK_any rfl (stab_row _ _ _ _ _) (fun w1 hu hl => ?_) (fun v103 => ?_)
         · exact any_of_run (by first | (go_simp; done) | (go_simp; rfl)) (hl.1 (by kernel_rfl))
         simp only [Act.put, nm1, nm2, nm3, i64_w]
         refine wpK_ops rfl (fun w1 hu => ?_) ?_
         · clear hu
           go_simp
           first | done | rfl
         simp only [Act.put, nm1, nm2, nm3, i64_w]
         refine wpK_nil ?_
         intro w104 hu hap
         simp only [List.drop_succ_cons, List.drop_zero]
         replace hu := (Up.refl _).drew.trans hu
         obtain ⟨-, -, ⟨P96, q97, e0, ht95⟩, -, -, -, -, -, -, -, -, -, -⟩ := hap
         dsimp only at e0
         subst e0
         have hu105 := Aside0.mk hu
         clear hu
         refine wpList_nil ?_
         (try simp only [Exit.then, Exit.inBlock, ↓reduceIte, Nat.reduceEqDiff])
         refine hK85 _ _ ?_
         refine wp_seq_k (fun K106 hK106 => ?_)
         refine wp_seq_k (fun K107 hK107 => ?_)
         refine wp_region_lit ?_
         refine wpList_plain rfl (fun Ko hKo => ?_)
         go_simp
         refine hKo _ _ ?_
         clear hKo Ko
         try simp only [Act.put, nm1, nm2, nm3, i64_w]
         refine wpList_plain rfl (fun Ko hKo => ?_)
         go_simp
         refine hKo _ _ ?_
         clear hKo Ko
         try simp only [Act.put, nm1, nm2, nm3, i64_w]
         refine step_call (wanted_none rfl) (by first | (go_simp; done) | (go_simp; rfl)) (laws_eqPointS.calls K P96 q97 t95 P22 q23 t21 false w104 ht95.rd ((ht21.up ((((hu52.out.trans hu58.out).grow hg70.out (fun k hk => Nat.le_trans (Nat.le_refl _) ((fun k hk => (lb67.out k hk).1) k hk))).trans hu77.out).trans hu105.out)).rd) A109.out) ?_
         rintro e w110 ⟨rfl, hu⟩
         have hu111 := Aside0.mk hu
         clear hu
         refine ⟨_, rfl, ?_⟩
         simp only [Act.put, nm1, nm2, nm3, i64_w]
         refine wpList_plain rfl (fun Ko hKo => ?_)
         go_simp
         refine hKo _ _ ?_
         clear hKo Ko
         try simp only [Act.put, nm1, nm2, nm3, i64_w]
         refine wpList_plain rfl (fun Ko hKo => ?_)
         go_simp
         refine hKo _ _ ?_
         clear hKo Ko
         try simp only [Act.put, nm1, nm2, nm3, i64_w]
         refine step_no rfl ?_
         simp only [Act.put, nm1, nm2, nm3, i64_w]
         refine step_no rfl ?_
         simp only [Act.put, nm1, nm2, nm3, i64_w]
         refine step_no rfl ?_
         simp only [Act.put, nm1, nm2, nm3, i64_w]
         refine wpList_plain rfl (fun Ko hKo => ?_)
         go_simp
         refine hKo _ _ ?_
         clear hKo Ko
         try simp only [Act.put, nm1, nm2, nm3, i64_w]
         refine wpList_nil ?_
         (try simp only [Exit.then, Exit.inBlock, ↓reduceIte, Nat.reduceEqDiff])
         refine hK107 _ _ ?_
         refine wp_cond_true rfl ?_
         refine wp_seq_k (fun K130 hK130 => ?_)
         refine wp_region_lit ?_
         refine wpList_plain rfl (fun Ko hKo => ?_)
         go_simp
         refine hKo _ _ ?_
         clear hKo Ko
         try simp only [Act.put, nm1, nm2, nm3, i64_w]
         refine wpList_nil ?_
         (try simp only [Exit.then, Exit.inBlock, ↓reduceIte, Nat.reduceEqDiff])
         refine hK130 _ _ ?_
         refine wp_ret ?_
         (try simp only [Exit.then, Exit.inBlock, ↓reduceIte, Nat.reduceEqDiff])
         refine hQf _ _ _ ?_
         exact bodyPost_ret (v := .bool false) (by first | rfl | (simp [results, Try.results12, go_sem]; done) | (simp [results, Try.results12, go_sem]; rfl)) rfl ⟨rfl, (((((((((hu4.out.trans hu7.out).trans hu10.out).trans hu31.out).trans hu52.out).trans hu58.out).grow hg70.out (fun k hk => Nat.le_trans ((Nat.le_trans ((Nat.le_trans ((Nat.le_trans (hu4.out.size) hu7.out.size)) hu10.out.size)) hu31.out.size)) ((fun k hk => (lb67.out k hk).1) k hk))).trans hu77.out).trans hu105.out).trans hu111.out)⟩
    ·
     rw [if_neg c84] at H
     replace c84 := Bool.eq_false_iff.mpr c84
     have c84n : (t74 != t63) = true := by rw [bne, c84]; rfl
     have c84p : ¬ t74 = t63 := fun e => by simp [e] at c84
     obtain rfl := Option.some.inj H
     go_enter Try.func12, Try.ntmps12
     refine wp_hide (fun Qf hQf => ?_)
     refine wp_seq_k (fun K1 hK1 => ?_)
     refine wp_region_lit ?_
     refine step_new (cs := [.int .i64 a2_0, .int .i64 a2_1]) (T := 22) (f := fun b => .pointer (some ⟨b, 0, none⟩)) rfl (by first | (go_simp; done) | (go_simp; rfl)) ?_
     intro b2 w3 hu lb hb2
     simp only [Act.put, nm1, nm2, nm3, i64_w]
     have lbb2 := Aside0.mk lb
     have ltb2 := Aside0.mk hb2.lt
     clear lb
     have hu4 := Aside0.mk hu
     clear hu
     refine step_new (cs := [.int .i64 a3_0, .int .i64 a3_1]) (T := 22) (f := fun b => .pointer (some ⟨b, 0, none⟩)) rfl (by first | (go_simp; done) | (go_simp; rfl)) ?_
     intro b5 w6 hu lb hb5
     simp only [Act.put, nm1, nm2, nm3, i64_w]
     have lbb5 := Aside0.mk lb
     have ltb5 := Aside0.mk hb5.lt
     clear lb
     have hu7 := Aside0.mk hu
     clear hu
     refine step_new (cs := [.int .i64 a4_0, .int .i64 a4_1]) (T := 22) (f := fun b => .pointer (some ⟨b, 0, none⟩)) rfl (by first | (go_simp; done) | (go_simp; rfl)) ?_
     intro b8 w9 hu lb hb8
     simp only [Act.put, nm1, nm2, nm3, i64_w]
     have lbb8 := Aside0.mk lb
     have ltb8 := Aside0.mk hb8.lt
     clear lb
     have hu10 := Aside0.mk hu
     clear hu
     refine wpList_plain rfl (fun Ko hKo => ?_)
     go_simp
     refine hKo _ _ ?_
     clear hKo Ko
     try simp only [Act.put, nm1, nm2, nm3, i64_w]
     refine wpList_nil ?_
     (try simp only [Exit.then, Exit.inBlock, ↓reduceIte, Nat.reduceEqDiff])
     refine hK1 _ _ ?_
     refine wp_seq_k (fun K11 hK11 => ?_)
     refine' wp_region_up 14 [Slot.det _, Slot.det _, Slot.det _, Slot.det (.agg #[.int .i64 t12, .int .i64 t13]), Slot.det _, Slot.det (.agg #[.int .i64 t15, .int .i64 t16]), Slot.det _, Slot.det (.agg #[.int .i64 t18, .int .i64 t19]), Slot.any (RowTo e2 25 w9.heap.size t21 (fun v => .tuple #[v, .int .i64 t24])) false, Slot.any (RowTo e2 25 w9.heap.size t21 (fun v => .tuple #[v, .int .i64 t24])) false, Slot.any (RowTo e2 25 w9.heap.size t21 (fun v => v)) false, Slot.det (.int .i64 t24), Slot.any (RowTo e2 25 w9.heap.size t21 (fun v => v)) false, Slot.det _] (by kernel_rfl) (by kernel_rfl) ?main
     case main =>
      simp only [List.take_succ_cons, List.take_zero]
      refine wpK_ops rfl (fun w1 hu => ?_) ?_
      · clear hu
        go_simp
        first | done | rfl
      simp only [Act.put, nm1, nm2, nm3, i64_w]
      refine wpK_ops rfl (fun w1 hu => ?_) ?_
      · clear hu
        go_simp
        first | done | rfl
      simp only [Act.put, nm1, nm2, nm3, i64_w]
      refine wpK_ops rfl (fun w1 hu => ?_) ?_
      · have cl0 := ((hb2.up (hu7.out.trans hu10.out)).up ((Up.refl _).drew.trans hu)).cell (o := 0) rfl
        have cl1 := ((hb2.up (hu7.out.trans hu10.out)).up ((Up.refl _).drew.trans hu)).cell (o := 1) rfl
        go_simp
        first | done | rfl
      simp only [Act.put, nm1, nm2, nm3, i64_w]
      refine wpK_ops rfl (fun w1 hu => ?_) ?_
      · have hcl := (laws_toPoint.calls K a2_0 a2_1 t12 t13 w1  A14.out)
        clear hu
        replace hcl := Aside0.mk hcl
        go_simp
        exact hcl.out
      simp only [Act.put, nm1, nm2, nm3, i64_w]
      refine wpK_ops rfl (fun w1 hu => ?_) ?_
      · have cl0 := ((hb5.up hu10.out).up ((Up.refl _).drew.trans hu)).cell (o := 0) rfl
        have cl1 := ((hb5.up hu10.out).up ((Up.refl _).drew.trans hu)).cell (o := 1) rfl
        go_simp
        first | done | rfl
      simp only [Act.put, nm1, nm2, nm3, i64_w]
      refine wpK_ops rfl (fun w1 hu => ?_) ?_
      · have hcl := (laws_toPoint.calls K a3_0 a3_1 t15 t16 w1  A17.out)
        clear hu
        replace hcl := Aside0.mk hcl
        go_simp
        exact hcl.out
      simp only [Act.put, nm1, nm2, nm3, i64_w]
      refine wpK_ops rfl (fun w1 hu => ?_) ?_
      · have cl0 := (hb8.up ((Up.refl _).drew.trans hu)).cell (o := 0) rfl
        have cl1 := (hb8.up ((Up.refl _).drew.trans hu)).cell (o := 1) rfl
        go_simp
        first | done | rfl
      simp only [Act.put, nm1, nm2, nm3, i64_w]
      refine wpK_ops rfl (fun w1 hu => ?_) ?_
      · have hcl := (laws_toPoint.calls K a4_0 a4_1 t18 t19 w1  A20.out)
        clear hu
        replace hcl := Aside0.mk hcl
        go_simp
        exact hcl.out
      simp only [Act.put, nm1, nm2, nm3, i64_w]
      refine wpK_any rfl (stab_row _ _ _ _ _) (fun w1 hu hl => ?_) (fun v26 => ?_)
      · have hcl := spec_OrthicPoints.calls K a0 a1 t12 t13 t15 t16 t18 t19 t21 t24 w1  A25.out
        have hz := ((Up.refl _).drew.trans hu).size
        clear hu
        replace hcl := Aside0.mk hcl
        exact fresh_row (by first | (go_simp; done) | (go_simp; rfl)) hcl.out hz
      simp only [Act.put, nm1, nm2, nm3, i64_w]
      refine wpK_any rfl (stab_row _ _ _ _ _) (fun w1 hu hl => ?_) (fun v27 => ?_)
      · exact any_of_run (by first | (go_simp; done) | (go_simp; rfl)) (hl.1 (by kernel_rfl))
      simp only [Act.put, nm1, nm2, nm3, i64_w]
      refine wpK_any rfl (stab_row _ _ _ _ _) (fun w1 hu hl => ?_) (fun v28 => ?_)
      · obtain ⟨A0_, c0_, e0_, hO0_⟩ := hl.1 (by kernel_rfl)
        clear hl hu
        dsimp only at e0_
        subst e0_
        exact any_of_run (u := .slice A0_ t21.length c0_) (by first | (go_simp; done) | (go_simp; rfl)) ⟨A0_, c0_, rfl, hO0_⟩
      simp only [Act.put, nm1, nm2, nm3, i64_w]
      refine wpK_det rfl (fun w1 hu hl => ?_) ?_
      · obtain ⟨A0_, c0_, e0_, hO0_⟩ := hl.2.1 (by kernel_rfl)
        clear hl hu
        dsimp only at e0_
        subst e0_
        clear hO0_
        go_simp
        first | done | rfl
      simp only [Act.put, nm1, nm2, nm3, i64_w]
      refine wpK_any rfl (stab_row _ _ _ _ _) (fun w1 hu hl => ?_) (fun v29 => ?_)
      · exact any_of_run (by first | (go_simp; done) | (go_simp; rfl)) (hl.1 (by kernel_rfl))
      simp only [Act.put, nm1, nm2, nm3, i64_w]
      refine wpK_ops rfl (fun w1 hu => ?_) ?_
      · clear hu
        go_simp
        first | done | rfl
      simp only [Act.put, nm1, nm2, nm3, i64_w]
      refine wpK_nil ?_
      intro w30 hu hap
      simp only [List.drop_succ_cons, List.drop_zero]
      replace hu := (Up.refl _).drew.trans hu
      obtain ⟨-, -, ⟨P22, q23, e0, ht21⟩, -, -, -, -, -, -, -, -, -, -⟩ := hap
      dsimp only at e0
      subst e0
      have hu31 := Aside0.mk hu
      clear hu
      refine wpList_nil ?_
      (try simp only [Exit.then, Exit.inBlock, ↓reduceIte, Nat.reduceEqDiff])
      refine hK11 _ _ ?_
      refine wp_seq_k (fun K32 hK32 => ?_)
      refine' wp_region_up 14 [Slot.det _, Slot.det _, Slot.det _, Slot.det (.agg #[.int .i64 t33, .int .i64 t34]), Slot.det _, Slot.det (.agg #[.int .i64 t36, .int .i64 t37]), Slot.det _, Slot.det (.agg #[.int .i64 t39, .int .i64 t40]), Slot.any (RowTo e2 25 w30.heap.size t42 (fun v => .tuple #[v, .int .i64 t45])) false, Slot.any (RowTo e2 25 w30.heap.size t42 (fun v => .tuple #[v, .int .i64 t45])) false, Slot.any (RowTo e2 25 w30.heap.size t42 (fun v => v)) false, Slot.det (.int .i64 t45), Slot.any (RowTo e2 25 w30.heap.size t42 (fun v => v)) false, Slot.det _] (by kernel_rfl) (by kernel_rfl) ?main
      case main =>
       simp only [List.take_succ_cons, List.take_zero]
       refine wpK_ops rfl (fun w1 hu => ?_) ?_
       · clear hu
         go_simp
         first | done | rfl
       simp only [Act.put, nm1, nm2, nm3, i64_w]
       refine wpK_ops rfl (fun w1 hu => ?_) ?_
       · clear hu
         go_simp
         first | done | rfl
       simp only [Act.put, nm1, nm2, nm3, i64_w]
       refine wpK_ops rfl (fun w1 hu => ?_) ?_
       · have cl0 := ((hb2.up ((hu7.out.trans hu10.out).trans hu31.out)).up ((Up.refl _).drew.trans hu)).cell (o := 0) rfl
         have cl1 := ((hb2.up ((hu7.out.trans hu10.out).trans hu31.out)).up ((Up.refl _).drew.trans hu)).cell (o := 1) rfl
         go_simp
         first | done | rfl
       simp only [Act.put, nm1, nm2, nm3, i64_w]
       refine wpK_ops rfl (fun w1 hu => ?_) ?_
       · have hcl := (laws_toPoint.calls K a2_0 a2_1 t33 t34 w1  A35.out)
         clear hu
         replace hcl := Aside0.mk hcl
         go_simp
         exact hcl.out
       simp only [Act.put, nm1, nm2, nm3, i64_w]
       refine wpK_ops rfl (fun w1 hu => ?_) ?_
       · have cl0 := ((hb5.up (hu10.out.trans hu31.out)).up ((Up.refl _).drew.trans hu)).cell (o := 0) rfl
         have cl1 := ((hb5.up (hu10.out.trans hu31.out)).up ((Up.refl _).drew.trans hu)).cell (o := 1) rfl
         go_simp
         first | done | rfl
       simp only [Act.put, nm1, nm2, nm3, i64_w]
       refine wpK_ops rfl (fun w1 hu => ?_) ?_
       · have hcl := (laws_toPoint.calls K a3_0 a3_1 t36 t37 w1  A38.out)
         clear hu
         replace hcl := Aside0.mk hcl
         go_simp
         exact hcl.out
       simp only [Act.put, nm1, nm2, nm3, i64_w]
       refine wpK_ops rfl (fun w1 hu => ?_) ?_
       · have cl0 := ((hb8.up hu31.out).up ((Up.refl _).drew.trans hu)).cell (o := 0) rfl
         have cl1 := ((hb8.up hu31.out).up ((Up.refl _).drew.trans hu)).cell (o := 1) rfl
         go_simp
         first | done | rfl
       simp only [Act.put, nm1, nm2, nm3, i64_w]
       refine wpK_ops rfl (fun w1 hu => ?_) ?_
       · have hcl := (laws_toPoint.calls K a4_0 a4_1 t39 t40 w1  A41.out)
         clear hu
         replace hcl := Aside0.mk hcl
         go_simp
         exact hcl.out
       simp only [Act.put, nm1, nm2, nm3, i64_w]
       refine wpK_any rfl (stab_row _ _ _ _ _) (fun w1 hu hl => ?_) (fun v47 => ?_)
       · have hcl := impl_OrthicPoints.calls K a0 a1 t33 t34 t36 t37 t39 t40 t42 t45 w1  A46.out
         have hz := ((Up.refl _).drew.trans hu).size
         clear hu
         replace hcl := Aside0.mk hcl
         exact fresh_row (by first | (go_simp; done) | (go_simp; rfl)) hcl.out hz
       simp only [Act.put, nm1, nm2, nm3, i64_w]
       refine wpK_any rfl (stab_row _ _ _ _ _) (fun w1 hu hl => ?_) (fun v48 => ?_)
       · exact any_of_run (by first | (go_simp; done) | (go_simp; rfl)) (hl.1 (by kernel_rfl))
       simp only [Act.put, nm1, nm2, nm3, i64_w]
       refine wpK_any rfl (stab_row _ _ _ _ _) (fun w1 hu hl => ?_) (fun v49 => ?_)
       · obtain ⟨A0_, c0_, e0_, hO0_⟩ := hl.1 (by kernel_rfl)
         clear hl hu
         dsimp only at e0_
         subst e0_
         exact any_of_run (u := .slice A0_ t42.length c0_) (by first | (go_simp; done) | (go_simp; rfl)) ⟨A0_, c0_, rfl, hO0_⟩
       simp only [Act.put, nm1, nm2, nm3, i64_w]
       refine wpK_det rfl (fun w1 hu hl => ?_) ?_
       · obtain ⟨A0_, c0_, e0_, hO0_⟩ := hl.2.1 (by kernel_rfl)
         clear hl hu
         dsimp only at e0_
         subst e0_
         clear hO0_
         go_simp
         first | done | rfl
       simp only [Act.put, nm1, nm2, nm3, i64_w]
       refine wpK_any rfl (stab_row _ _ _ _ _) (fun w1 hu hl => ?_) (fun v50 => ?_)
       · exact any_of_run (by first | (go_simp; done) | (go_simp; rfl)) (hl.1 (by kernel_rfl))
       simp only [Act.put, nm1, nm2, nm3, i64_w]
       refine wpK_ops rfl (fun w1 hu => ?_) ?_
       · clear hu
         go_simp
         first | done | rfl
       simp only [Act.put, nm1, nm2, nm3, i64_w]
       refine wpK_nil ?_
       intro w51 hu hap
       simp only [List.drop_succ_cons, List.drop_zero]
       replace hu := (Up.refl _).drew.trans hu
       obtain ⟨-, -, ⟨P43, q44, e0, ht42⟩, -, -, -, -, -, -, -, -, -, -⟩ := hap
       dsimp only at e0
       subst e0
       have hu52 := Aside0.mk hu
       clear hu
       refine wpList_nil ?_
       (try simp only [Exit.then, Exit.inBlock, ↓reduceIte, Nat.reduceEqDiff])
       refine hK32 _ _ ?_
       refine wp_seq_k (fun K53 hK53 => ?_)
       refine wp_seq_k (fun K54 hK54 => ?_)
       refine wp_region_lit ?_
       refine wpList_plain rfl (fun Ko hKo => ?_)
       go_simp
       refine hKo _ _ ?_
       clear hKo Ko
       try simp only [Act.put, nm1, nm2, nm3, i64_w]
       refine wpList_plain rfl (fun Ko hKo => ?_)
       go_simp
       refine hKo _ _ ?_
       clear hKo Ko
       try simp only [Act.put, nm1, nm2, nm3, i64_w]
       refine step_call (wanted_none rfl) (by first | (go_simp; done) | (go_simp; rfl)) (laws_eqPointS.calls K P43 q44 t42 P22 q23 t21 true w51 ht42.rd ((ht21.up hu52.out).rd) A56.out) ?_
       rintro e w57 ⟨rfl, hu⟩
       have hu58 := Aside0.mk hu
       clear hu
       refine ⟨_, rfl, ?_⟩
       simp only [Act.put, nm1, nm2, nm3, i64_w]
       refine wpList_plain rfl (fun Ko hKo => ?_)
       go_simp
       refine hKo _ _ ?_
       clear hKo Ko
       try simp only [Act.put, nm1, nm2, nm3, i64_w]
       refine wpList_plain rfl (fun Ko hKo => ?_)
       go_simp
       refine hKo _ _ ?_
       clear hKo Ko
       try simp only [Act.put, nm1, nm2, nm3, i64_w]
       refine wpList_step (fun Ko hKo => ?_)
       go_simp
       refine hKo _ _ ?_
       clear hKo Ko
       try simp only [Act.put, nm1, nm2, nm3, i64_w]
       refine wpList_step (fun Ko hKo => ?_)
       go_simp
       refine hKo _ _ ?_
       clear hKo Ko
       try simp only [Act.put, nm1, nm2, nm3, i64_w]
       refine wpList_step (fun Ko hKo => ?_)
       go_simp
       refine hKo _ _ ?_
       clear hKo Ko
       try simp only [Act.put, nm1, nm2, nm3, i64_w]
       refine wpList_plain rfl (fun Ko hKo => ?_)
       go_simp
       refine hKo _ _ ?_
       clear hKo Ko
       try simp only [Act.put, nm1, nm2, nm3, i64_w]
       refine wpList_nil ?_
       (try simp only [Exit.then, Exit.inBlock, ↓reduceIte, Nat.reduceEqDiff])
       refine hK54 _ _ ?_
       refine wp_cond_false rfl ?_
       refine wp_skip ?_
       (try simp only [Exit.then, Exit.inBlock, ↓reduceIte, Nat.reduceEqDiff])
       refine hK53 _ _ ?_
       refine wp_seq_k (fun K61 hK61 => ?_)
       refine wp_region_lit ?_
       refine wpList_plain rfl (fun Ko hKo => ?_)
       go_simp
       refine hKo _ _ ?_
       clear hKo Ko
       try simp only [Act.put, nm1, nm2, nm3, i64_w]
       refine wpList_nil ?_
       (try simp only [Exit.then, Exit.inBlock, ↓reduceIte, Nat.reduceEqDiff])
       refine hK61 _ _ ?_
       refine wp_seq_k (fun K62 hK62 => ?_)
       refine wp_region_lit ?_
       refine wpList_plain rfl (fun Ko hKo => ?_)
       go_simp
       refine hKo _ _ ?_
       clear hKo Ko
       try simp only [Act.put, nm1, nm2, nm3, i64_w]
       refine wpList_plain rfl (fun Ko hKo => ?_)
       go_simp
       refine hKo _ _ ?_
       clear hKo Ko
       try simp only [Act.put, nm1, nm2, nm3, i64_w]
       refine step_call (wanted_none rfl) (by first | (go_simp; done) | (go_simp; rfl)) (laws_markPointS.calls K P43 q44 w30.heap.size t42 1 t63 t64 w57 (ht42.up hu58.out) A65.out) ?_
       have lb67 := Aside0.mk (ht42.up hu58.out).lt
       rintro e w66 ⟨rfl, h68, hl, hg⟩
       have hg70 := Aside0.mk hg
       have hl69 := hl
       clear hg hl
       have hl71 : Aside0 (t42.length = t64.length) := Aside0.mk hl69.out
       refine ⟨_, rfl, ?_⟩
       simp only [Act.put, nm1, nm2, nm3, i64_w]
       refine wpList_plain rfl (fun Ko hKo => ?_)
       go_simp
       refine hKo _ _ ?_
       clear hKo Ko
       try simp only [Act.put, nm1, nm2, nm3, i64_w]
       refine wpList_nil ?_
       (try simp only [Exit.then, Exit.inBlock, ↓reduceIte, Nat.reduceEqDiff])
       refine hK62 _ _ ?_
       refine wp_seq_k (fun K72 hK72 => ?_)
       refine wp_region_lit ?_
       refine wpList_plain rfl (fun Ko hKo => ?_)
       go_simp
       refine hKo _ _ ?_
       clear hKo Ko
       try simp only [Act.put, nm1, nm2, nm3, i64_w]
       refine wpList_nil ?_
       (try simp only [Exit.then, Exit.inBlock, ↓reduceIte, Nat.reduceEqDiff])
       refine hK72 _ _ ?_
       refine wp_seq_k (fun K73 hK73 => ?_)
       refine wp_region_lit ?_
       refine wpList_plain rfl (fun Ko hKo => ?_)
       go_simp
       refine hKo _ _ ?_
       clear hKo Ko
       try simp only [Act.put, nm1, nm2, nm3, i64_w]
       refine wpList_plain rfl (fun Ko hKo => ?_)
       go_simp
       refine hKo _ _ ?_
       clear hKo Ko
       try simp only [Act.put, nm1, nm2, nm3, i64_w]
       refine step_call (wanted_none rfl) (by first | (go_simp; done) | (go_simp; rfl)) (Eq.mp (congrArg (fun n_ => Calls Try.prog 41 #[.slice P43 n_ q44, .int .i64 1] w66 _) (Eq.symm hl71.out)) (laws_heldPointS.calls K P43 q44 t64 1 t74 w66 h68.rd A75.out)) ?_
       rintro e w76 ⟨rfl, hu⟩
       have hu77 := Aside0.mk hu
       clear hu
       refine ⟨_, rfl, ?_⟩
       simp only [Act.put, nm1, nm2, nm3, i64_w]
       refine wpList_plain rfl (fun Ko hKo => ?_)
       go_simp
       refine hKo _ _ ?_
       clear hKo Ko
       try simp only [Act.put, nm1, nm2, nm3, i64_w]
       refine wpList_nil ?_
       (try simp only [Exit.then, Exit.inBlock, ↓reduceIte, Nat.reduceEqDiff])
       refine hK73 _ _ ?_
       refine wp_seq_k (fun K78 hK78 => ?_)
       refine wp_seq_k (fun K79 hK79 => ?_)
       refine wp_region_lit ?_
       refine wpList_plain rfl (fun Ko hKo => ?_)
       go_simp
       refine hKo _ _ ?_
       clear hKo Ko
       try simp only [Act.put, nm1, nm2, nm3, i64_w]
       refine wpList_plain rfl (fun Ko hKo => ?_)
       go_simp
       refine hKo _ _ ?_
       clear hKo Ko
       try simp only [Act.put, nm1, nm2, nm3, i64_w]
       refine wpList_nil ?_
       (try simp only [Exit.then, Exit.inBlock, ↓reduceIte, Nat.reduceEqDiff])
       refine hK79 _ _ ?_
       refine wp_cond_false rfl ?_
       refine wp_skip ?_
       (try simp only [Exit.then, Exit.inBlock, ↓reduceIte, Nat.reduceEqDiff])
       refine hK78 _ _ ?_
       refine wp_seq_k (fun K82 hK82 => ?_)
       refine wp_seq_k (fun K83 hK83 => ?_)
       refine wp_region_lit ?_
       refine wpList_plain rfl (fun Ko hKo => ?_)
       go_simp
       refine hKo _ _ ?_
       clear hKo Ko
       try simp only [Act.put, nm1, nm2, nm3, i64_w]
       refine wpList_plain rfl (fun Ko hKo => ?_)
       go_simp
       refine hKo _ _ ?_
       clear hKo Ko
       try simp only [Act.put, nm1, nm2, nm3, i64_w]
       refine wpList_plain rfl (fun Ko hKo => ?_)
       go_simp
       refine hKo _ _ ?_
       clear hKo Ko
       try simp only [Act.put, nm1, nm2, nm3, i64_w]
       refine wpList_nil ?_
       (try simp only [Exit.then, Exit.inBlock, ↓reduceIte, Nat.reduceEqDiff])
       refine hK83 _ _ ?_
       refine wp_cond_true rfl ?_
       refine wp_seq_k (fun K131 hK131 => ?_)
       refine wp_region_lit ?_
       refine wpList_plain rfl (fun Ko hKo => ?_)
       go_simp
       refine hKo _ _ ?_
       clear hKo Ko
       try simp only [Act.put, nm1, nm2, nm3, i64_w]
       refine wpList_nil ?_
       (try simp only [Exit.then, Exit.inBlock, ↓reduceIte, Nat.reduceEqDiff])
       refine hK131 _ _ ?_
       refine wp_ret ?_
       (try simp only [Exit.then, Exit.inBlock, ↓reduceIte, Nat.reduceEqDiff])
       refine hQf _ _ _ ?_
       exact bodyPost_ret (v := .bool false) (by first | rfl | (simp [results, Try.results12, go_sem]; done) | (simp [results, Try.results12, go_sem]; rfl)) rfl ⟨rfl, (((((((hu4.out.trans hu7.out).trans hu10.out).trans hu31.out).trans hu52.out).trans hu58.out).grow hg70.out (fun k hk => Nat.le_trans ((Nat.le_trans ((Nat.le_trans ((Nat.le_trans (hu4.out.size) hu7.out.size)) hu10.out.size)) hu31.out.size)) ((fun k hk => (lb67.out k hk).1) k hk))).trans hu77.out)⟩
  ·
   rw [if_neg c60] at H
   replace c60 := Bool.eq_false_iff.mpr c60
   have c60n : (t45 != t24) = true := by rw [bne, c60]; rfl
   have c60p : ¬ t45 = t24 := fun e => by simp [e] at c60
   obtain rfl := Option.some.inj H
   go_enter Try.func12, Try.ntmps12
   refine wp_hide (fun Qf hQf => ?_)
   refine wp_seq_k (fun K1 hK1 => ?_)
   refine wp_region_lit ?_
   refine step_new (cs := [.int .i64 a2_0, .int .i64 a2_1]) (T := 22) (f := fun b => .pointer (some ⟨b, 0, none⟩)) rfl (by first | (go_simp; done) | (go_simp; rfl)) ?_
   intro b2 w3 hu lb hb2
   simp only [Act.put, nm1, nm2, nm3, i64_w]
   have lbb2 := Aside0.mk lb
   have ltb2 := Aside0.mk hb2.lt
   clear lb
   have hu4 := Aside0.mk hu
   clear hu
   refine step_new (cs := [.int .i64 a3_0, .int .i64 a3_1]) (T := 22) (f := fun b => .pointer (some ⟨b, 0, none⟩)) rfl (by first | (go_simp; done) | (go_simp; rfl)) ?_
   intro b5 w6 hu lb hb5
   simp only [Act.put, nm1, nm2, nm3, i64_w]
   have lbb5 := Aside0.mk lb
   have ltb5 := Aside0.mk hb5.lt
   clear lb
   have hu7 := Aside0.mk hu
   clear hu
   refine step_new (cs := [.int .i64 a4_0, .int .i64 a4_1]) (T := 22) (f := fun b => .pointer (some ⟨b, 0, none⟩)) rfl (by first | (go_simp; done) | (go_simp; rfl)) ?_
   intro b8 w9 hu lb hb8
   simp only [Act.put, nm1, nm2, nm3, i64_w]
   have lbb8 := Aside0.mk lb
   have ltb8 := Aside0.mk hb8.lt
   clear lb
   have hu10 := Aside0.mk hu
   clear hu
   refine wpList_plain rfl (fun Ko hKo => ?_)
   go_simp
   refine hKo _ _ ?_
   clear hKo Ko
   try simp only [Act.put, nm1, nm2, nm3, i64_w]
   refine wpList_nil ?_
   (try simp only [Exit.then, Exit.inBlock, ↓reduceIte, Nat.reduceEqDiff])
   refine hK1 _ _ ?_
   refine wp_seq_k (fun K11 hK11 => ?_)
   refine' wp_region_up 14 [Slot.det _, Slot.det _, Slot.det _, Slot.det (.agg #[.int .i64 t12, .int .i64 t13]), Slot.det _, Slot.det (.agg #[.int .i64 t15, .int .i64 t16]), Slot.det _, Slot.det (.agg #[.int .i64 t18, .int .i64 t19]), Slot.any (RowTo e2 25 w9.heap.size t21 (fun v => .tuple #[v, .int .i64 t24])) false, Slot.any (RowTo e2 25 w9.heap.size t21 (fun v => .tuple #[v, .int .i64 t24])) false, Slot.any (RowTo e2 25 w9.heap.size t21 (fun v => v)) false, Slot.det (.int .i64 t24), Slot.any (RowTo e2 25 w9.heap.size t21 (fun v => v)) false, Slot.det _] (by kernel_rfl) (by kernel_rfl) ?main
   case main =>
    simp only [List.take_succ_cons, List.take_zero]
    refine wpK_ops rfl (fun w1 hu => ?_) ?_
    · clear hu
      go_simp
      first | done | rfl
    simp only [Act.put, nm1, nm2, nm3, i64_w]
    refine wpK_ops rfl (fun w1 hu => ?_) ?_
    · clear hu
      go_simp
      first | done | rfl
    simp only [Act.put, nm1, nm2, nm3, i64_w]
    refine wpK_ops rfl (fun w1 hu => ?_) ?_
    · have cl0 := ((hb2.up (hu7.out.trans hu10.out)).up ((Up.refl _).drew.trans hu)).cell (o := 0) rfl
      have cl1 := ((hb2.up (hu7.out.trans hu10.out)).up ((Up.refl _).drew.trans hu)).cell (o := 1) rfl
      go_simp
      first | done | rfl
    simp only [Act.put, nm1, nm2, nm3, i64_w]
    refine wpK_ops rfl (fun w1 hu => ?_) ?_
    · have hcl := (laws_toPoint.calls K a2_0 a2_1 t12 t13 w1  A14.out)
      clear hu
      replace hcl := Aside0.mk hcl
      go_simp
      exact hcl.out
    simp only [Act.put, nm1, nm2, nm3, i64_w]
    refine wpK_ops rfl (fun w1 hu => ?_) ?_
    · have cl0 := ((hb5.up hu10.out).up ((Up.refl _).drew.trans hu)).cell (o := 0) rfl
      have cl1 := ((hb5.up hu10.out).up ((Up.refl _).drew.trans hu)).cell (o := 1) rfl
      go_simp
      first | done | rfl
    simp only [Act.put, nm1, nm2, nm3, i64_w]
    refine wpK_ops rfl (fun w1 hu => ?_) ?_
    · have hcl := (laws_toPoint.calls K a3_0 a3_1 t15 t16 w1  A17.out)
      clear hu
      replace hcl := Aside0.mk hcl
      go_simp
      exact hcl.out
    simp only [Act.put, nm1, nm2, nm3, i64_w]
    refine wpK_ops rfl (fun w1 hu => ?_) ?_
    · have cl0 := (hb8.up ((Up.refl _).drew.trans hu)).cell (o := 0) rfl
      have cl1 := (hb8.up ((Up.refl _).drew.trans hu)).cell (o := 1) rfl
      go_simp
      first | done | rfl
    simp only [Act.put, nm1, nm2, nm3, i64_w]
    refine wpK_ops rfl (fun w1 hu => ?_) ?_
    · have hcl := (laws_toPoint.calls K a4_0 a4_1 t18 t19 w1  A20.out)
      clear hu
      replace hcl := Aside0.mk hcl
      go_simp
      exact hcl.out
    simp only [Act.put, nm1, nm2, nm3, i64_w]
    refine wpK_any rfl (stab_row _ _ _ _ _) (fun w1 hu hl => ?_) (fun v26 => ?_)
    · have hcl := spec_OrthicPoints.calls K a0 a1 t12 t13 t15 t16 t18 t19 t21 t24 w1  A25.out
      have hz := ((Up.refl _).drew.trans hu).size
      clear hu
      replace hcl := Aside0.mk hcl
      exact fresh_row (by first | (go_simp; done) | (go_simp; rfl)) hcl.out hz
    simp only [Act.put, nm1, nm2, nm3, i64_w]
    refine wpK_any rfl (stab_row _ _ _ _ _) (fun w1 hu hl => ?_) (fun v27 => ?_)
    · exact any_of_run (by first | (go_simp; done) | (go_simp; rfl)) (hl.1 (by kernel_rfl))
    simp only [Act.put, nm1, nm2, nm3, i64_w]
    refine wpK_any rfl (stab_row _ _ _ _ _) (fun w1 hu hl => ?_) (fun v28 => ?_)
    · obtain ⟨A0_, c0_, e0_, hO0_⟩ := hl.1 (by kernel_rfl)
      clear hl hu
      dsimp only at e0_
      subst e0_
      exact any_of_run (u := .slice A0_ t21.length c0_) (by first | (go_simp; done) | (go_simp; rfl)) ⟨A0_, c0_, rfl, hO0_⟩
    simp only [Act.put, nm1, nm2, nm3, i64_w]
    refine wpK_det rfl (fun w1 hu hl => ?_) ?_
    · obtain ⟨A0_, c0_, e0_, hO0_⟩ := hl.2.1 (by kernel_rfl)
      clear hl hu
      dsimp only at e0_
      subst e0_
      clear hO0_
      go_simp
      first | done | rfl
    simp only [Act.put, nm1, nm2, nm3, i64_w]
    refine wpK_any rfl (stab_row _ _ _ _ _) (fun w1 hu hl => ?_) (fun v29 => ?_)
    · exact any_of_run (by first | (go_simp; done) | (go_simp; rfl)) (hl.1 (by kernel_rfl))
    simp only [Act.put, nm1, nm2, nm3, i64_w]
    refine wpK_ops rfl (fun w1 hu => ?_) ?_
    · clear hu
      go_simp
      first | done | rfl
    simp only [Act.put, nm1, nm2, nm3, i64_w]
    refine wpK_nil ?_
    intro w30 hu hap
    simp only [List.drop_succ_cons, List.drop_zero]
    replace hu := (Up.refl _).drew.trans hu
    obtain ⟨-, -, ⟨P22, q23, e0, ht21⟩, -, -, -, -, -, -, -, -, -, -⟩ := hap
    dsimp only at e0
    subst e0
    have hu31 := Aside0.mk hu
    clear hu
    refine wpList_nil ?_
    (try simp only [Exit.then, Exit.inBlock, ↓reduceIte, Nat.reduceEqDiff])
    refine hK11 _ _ ?_
    refine wp_seq_k (fun K32 hK32 => ?_)
    refine' wp_region_up 14 [Slot.det _, Slot.det _, Slot.det _, Slot.det (.agg #[.int .i64 t33, .int .i64 t34]), Slot.det _, Slot.det (.agg #[.int .i64 t36, .int .i64 t37]), Slot.det _, Slot.det (.agg #[.int .i64 t39, .int .i64 t40]), Slot.any (RowTo e2 25 w30.heap.size t42 (fun v => .tuple #[v, .int .i64 t45])) false, Slot.any (RowTo e2 25 w30.heap.size t42 (fun v => .tuple #[v, .int .i64 t45])) false, Slot.any (RowTo e2 25 w30.heap.size t42 (fun v => v)) false, Slot.det (.int .i64 t45), Slot.any (RowTo e2 25 w30.heap.size t42 (fun v => v)) false, Slot.det _] (by kernel_rfl) (by kernel_rfl) ?main
    case main =>
     simp only [List.take_succ_cons, List.take_zero]
     refine wpK_ops rfl (fun w1 hu => ?_) ?_
     · clear hu
       go_simp
       first | done | rfl
     simp only [Act.put, nm1, nm2, nm3, i64_w]
     refine wpK_ops rfl (fun w1 hu => ?_) ?_
     · clear hu
       go_simp
       first | done | rfl
     simp only [Act.put, nm1, nm2, nm3, i64_w]
     refine wpK_ops rfl (fun w1 hu => ?_) ?_
     · have cl0 := ((hb2.up ((hu7.out.trans hu10.out).trans hu31.out)).up ((Up.refl _).drew.trans hu)).cell (o := 0) rfl
       have cl1 := ((hb2.up ((hu7.out.trans hu10.out).trans hu31.out)).up ((Up.refl _).drew.trans hu)).cell (o := 1) rfl
       go_simp
       first | done | rfl
     simp only [Act.put, nm1, nm2, nm3, i64_w]
     refine wpK_ops rfl (fun w1 hu => ?_) ?_
     · have hcl := (laws_toPoint.calls K a2_0 a2_1 t33 t34 w1  A35.out)
       clear hu
       replace hcl := Aside0.mk hcl
       go_simp
       exact hcl.out
     simp only [Act.put, nm1, nm2, nm3, i64_w]
     refine wpK_ops rfl (fun w1 hu => ?_) ?_
     · have cl0 := ((hb5.up (hu10.out.trans hu31.out)).up ((Up.refl _).drew.trans hu)).cell (o := 0) rfl
       have cl1 := ((hb5.up (hu10.out.trans hu31.out)).up ((Up.refl _).drew.trans hu)).cell (o := 1) rfl
       go_simp
       first | done | rfl
     simp only [Act.put, nm1, nm2, nm3, i64_w]
     refine wpK_ops rfl (fun w1 hu => ?_) ?_
     · have hcl := (laws_toPoint.calls K a3_0 a3_1 t36 t37 w1  A38.out)
       clear hu
       replace hcl := Aside0.mk hcl
       go_simp
       exact hcl.out
     simp only [Act.put, nm1, nm2, nm3, i64_w]
     refine wpK_ops rfl (fun w1 hu => ?_) ?_
     · have cl0 := ((hb8.up hu31.out).up ((Up.refl _).drew.trans hu)).cell (o := 0) rfl
       have cl1 := ((hb8.up hu31.out).up ((Up.refl _).drew.trans hu)).cell (o := 1) rfl
       go_simp
       first | done | rfl
     simp only [Act.put, nm1, nm2, nm3, i64_w]
     refine wpK_ops rfl (fun w1 hu => ?_) ?_
     · have hcl := (laws_toPoint.calls K a4_0 a4_1 t39 t40 w1  A41.out)
       clear hu
       replace hcl := Aside0.mk hcl
       go_simp
       exact hcl.out
     simp only [Act.put, nm1, nm2, nm3, i64_w]
     refine wpK_any rfl (stab_row _ _ _ _ _) (fun w1 hu hl => ?_) (fun v47 => ?_)
     · have hcl := impl_OrthicPoints.calls K a0 a1 t33 t34 t36 t37 t39 t40 t42 t45 w1  A46.out
       have hz := ((Up.refl _).drew.trans hu).size
       clear hu
       replace hcl := Aside0.mk hcl
       exact fresh_row (by first | (go_simp; done) | (go_simp; rfl)) hcl.out hz
     simp only [Act.put, nm1, nm2, nm3, i64_w]
     refine wpK_any rfl (stab_row _ _ _ _ _) (fun w1 hu hl => ?_) (fun v48 => ?_)
     · exact any_of_run (by first | (go_simp; done) | (go_simp; rfl)) (hl.1 (by kernel_rfl))
     simp only [Act.put, nm1, nm2, nm3, i64_w]
     refine wpK_any rfl (stab_row _ _ _ _ _) (fun w1 hu hl => ?_) (fun v49 => ?_)
     · obtain ⟨A0_, c0_, e0_, hO0_⟩ := hl.1 (by kernel_rfl)
       clear hl hu
       dsimp only at e0_
       subst e0_
       exact any_of_run (u := .slice A0_ t42.length c0_) (by first | (go_simp; done) | (go_simp; rfl)) ⟨A0_, c0_, rfl, hO0_⟩
     simp only [Act.put, nm1, nm2, nm3, i64_w]
     refine wpK_det rfl (fun w1 hu hl => ?_) ?_
     · obtain ⟨A0_, c0_, e0_, hO0_⟩ := hl.2.1 (by kernel_rfl)
       clear hl hu
       dsimp only at e0_
       subst e0_
       clear hO0_
       go_simp
       first | done | rfl
     simp only [Act.put, nm1, nm2, nm3, i64_w]
     refine wpK_any rfl (stab_row _ _ _ _ _) (fun w1 hu hl => ?_) (fun v50 => ?_)
     · exact any_of_run (by first | (go_simp; done) | (go_simp; rfl)) (hl.1 (by kernel_rfl))
     simp only [Act.put, nm1, nm2, nm3, i64_w]
     refine wpK_ops rfl (fun w1 hu => ?_) ?_
     · clear hu
       go_simp
       first | done | rfl
     simp only [Act.put, nm1, nm2, nm3, i64_w]
     refine wpK_nil ?_
     intro w51 hu hap
     simp only [List.drop_succ_cons, List.drop_zero]
     replace hu := (Up.refl _).drew.trans hu
     obtain ⟨-, -, ⟨P43, q44, e0, ht42⟩, -, -, -, -, -, -, -, -, -, -⟩ := hap
     dsimp only at e0
     subst e0
     have hu52 := Aside0.mk hu
     clear hu
     refine wpList_nil ?_
     (try simp only [Exit.then, Exit.inBlock, ↓reduceIte, Nat.reduceEqDiff])
     refine hK32 _ _ ?_
     refine wp_seq_k (fun K53 hK53 => ?_)
     refine wp_seq_k (fun K54 hK54 => ?_)
     refine wp_region_lit ?_
     refine wpList_plain rfl (fun Ko hKo => ?_)
     go_simp
     refine hKo _ _ ?_
     clear hKo Ko
     try simp only [Act.put, nm1, nm2, nm3, i64_w]
     refine wpList_plain rfl (fun Ko hKo => ?_)
     go_simp
     refine hKo _ _ ?_
     clear hKo Ko
     try simp only [Act.put, nm1, nm2, nm3, i64_w]
     refine step_call (wanted_none rfl) (by first | (go_simp; done) | (go_simp; rfl)) (laws_eqPointS.calls K P43 q44 t42 P22 q23 t21 true w51 ht42.rd ((ht21.up hu52.out).rd) A56.out) ?_
     rintro e w57 ⟨rfl, hu⟩
     have hu58 := Aside0.mk hu
     clear hu
     refine ⟨_, rfl, ?_⟩
     simp only [Act.put, nm1, nm2, nm3, i64_w]
     refine wpList_plain rfl (fun Ko hKo => ?_)
     go_simp
     refine hKo _ _ ?_
     clear hKo Ko
     try simp only [Act.put, nm1, nm2, nm3, i64_w]
     refine wpList_plain rfl (fun Ko hKo => ?_)
     go_simp
     refine hKo _ _ ?_
     clear hKo Ko
     try simp only [Act.put, nm1, nm2, nm3, i64_w]
     refine wpList_step (fun Ko hKo => ?_)
     go_simp
     refine hKo _ _ ?_
     clear hKo Ko
     try simp only [Act.put, nm1, nm2, nm3, i64_w]
     refine wpList_step (fun Ko hKo => ?_)
     go_simp
     refine hKo _ _ ?_
     clear hKo Ko
     try simp only [Act.put, nm1, nm2, nm3, i64_w]
     refine wpList_step (fun Ko hKo => ?_)
     go_simp
     refine hKo _ _ ?_
     clear hKo Ko
     try simp only [Act.put, nm1, nm2, nm3, i64_w]
     refine wpList_plain rfl (fun Ko hKo => ?_)
     go_simp
     refine hKo _ _ ?_
     clear hKo Ko
     try simp only [Act.put, nm1, nm2, nm3, i64_w]
     refine wpList_nil ?_
     (try simp only [Exit.then, Exit.inBlock, ↓reduceIte, Nat.reduceEqDiff])
     refine hK54 _ _ ?_
     refine wp_cond_true rfl ?_
     refine wp_seq_k (fun K132 hK132 => ?_)
     refine wp_region_lit ?_
     refine wpList_plain rfl (fun Ko hKo => ?_)
     go_simp
     refine hKo _ _ ?_
     clear hKo Ko
     try simp only [Act.put, nm1, nm2, nm3, i64_w]
     refine wpList_nil ?_
     (try simp only [Exit.then, Exit.inBlock, ↓reduceIte, Nat.reduceEqDiff])
     refine hK132 _ _ ?_
     refine wp_ret ?_
     (try simp only [Exit.then, Exit.inBlock, ↓reduceIte, Nat.reduceEqDiff])
     refine hQf _ _ _ ?_
     exact bodyPost_ret (v := .bool false) (by first | rfl | (simp [results, Try.results12, go_sem]; done) | (simp [results, Try.results12, go_sem]; rfl)) rfl ⟨rfl, (((((hu4.out.trans hu7.out).trans hu10.out).trans hu31.out).trans hu52.out).trans hu58.out)⟩
 ·
  rw [if_neg c59] at H
  replace c59 := Bool.eq_false_iff.mpr c59
  subst c59
  obtain rfl := Option.some.inj H
  go_enter Try.func12, Try.ntmps12
  refine wp_hide (fun Qf hQf => ?_)
  refine wp_seq_k (fun K1 hK1 => ?_)
  refine wp_region_lit ?_
  refine step_new (cs := [.int .i64 a2_0, .int .i64 a2_1]) (T := 22) (f := fun b => .pointer (some ⟨b, 0, none⟩)) rfl (by first | (go_simp; done) | (go_simp; rfl)) ?_
  intro b2 w3 hu lb hb2
  simp only [Act.put, nm1, nm2, nm3, i64_w]
  have lbb2 := Aside0.mk lb
  have ltb2 := Aside0.mk hb2.lt
  clear lb
  have hu4 := Aside0.mk hu
  clear hu
  refine step_new (cs := [.int .i64 a3_0, .int .i64 a3_1]) (T := 22) (f := fun b => .pointer (some ⟨b, 0, none⟩)) rfl (by first | (go_simp; done) | (go_simp; rfl)) ?_
  intro b5 w6 hu lb hb5
  simp only [Act.put, nm1, nm2, nm3, i64_w]
  have lbb5 := Aside0.mk lb
  have ltb5 := Aside0.mk hb5.lt
  clear lb
  have hu7 := Aside0.mk hu
  clear hu
  refine step_new (cs := [.int .i64 a4_0, .int .i64 a4_1]) (T := 22) (f := fun b => .pointer (some ⟨b, 0, none⟩)) rfl (by first | (go_simp; done) | (go_simp; rfl)) ?_
  intro b8 w9 hu lb hb8
  simp only [Act.put, nm1, nm2, nm3, i64_w]
  have lbb8 := Aside0.mk lb
  have ltb8 := Aside0.mk hb8.lt
  clear lb
  have hu10 := Aside0.mk hu
  clear hu
  refine wpList_plain rfl (fun Ko hKo => ?_)
  go_simp
  refine hKo _ _ ?_
  clear hKo Ko
  try simp only [Act.put, nm1, nm2, nm3, i64_w]
  refine wpList_nil ?_
  (try simp only [Exit.then, Exit.inBlock, ↓reduceIte, Nat.reduceEqDiff])
  refine hK1 _ _ ?_
  refine wp_seq_k (fun K11 hK11 => ?_)
  refine' wp_region_up 14 [Slot.det _, Slot.det _, Slot.det _, Slot.det (.agg #[.int .i64 t12, .int .i64 t13]), Slot.det _, Slot.det (.agg #[.int .i64 t15, .int .i64 t16]), Slot.det _, Slot.det (.agg #[.int .i64 t18, .int .i64 t19]), Slot.any (RowTo e2 25 w9.heap.size t21 (fun v => .tuple #[v, .int .i64 t24])) false, Slot.any (RowTo e2 25 w9.heap.size t21 (fun v => .tuple #[v, .int .i64 t24])) false, Slot.any (RowTo e2 25 w9.heap.size t21 (fun v => v)) false, Slot.det (.int .i64 t24), Slot.any (RowTo e2 25 w9.heap.size t21 (fun v => v)) false, Slot.det _] (by kernel_rfl) (by kernel_rfl) ?main
  case main =>
   simp only [List.take_succ_cons, List.take_zero]
   refine wpK_ops rfl (fun w1 hu => ?_) ?_
   · clear hu
     go_simp
     first | done | rfl
   simp only [Act.put, nm1, nm2, nm3, i64_w]
   refine wpK_ops rfl (fun w1 hu => ?_) ?_
   · clear hu
     go_simp
     first | done | rfl
   simp only [Act.put, nm1, nm2, nm3, i64_w]
   refine wpK_ops rfl (fun w1 hu => ?_) ?_
   · have cl0 := ((hb2.up (hu7.out.trans hu10.out)).up ((Up.refl _).drew.trans hu)).cell (o := 0) rfl
     have cl1 := ((hb2.up (hu7.out.trans hu10.out)).up ((Up.refl _).drew.trans hu)).cell (o := 1) rfl
     go_simp
     first | done | rfl
   simp only [Act.put, nm1, nm2, nm3, i64_w]
   refine wpK_ops rfl (fun w1 hu => ?_) ?_
   · have hcl := (laws_toPoint.calls K a2_0 a2_1 t12 t13 w1  A14.out)
     clear hu
     replace hcl := Aside0.mk hcl
     go_simp
     exact hcl.out
   simp only [Act.put, nm1, nm2, nm3, i64_w]
   refine wpK_ops rfl (fun w1 hu => ?_) ?_
   · have cl0 := ((hb5.up hu10.out).up ((Up.refl _).drew.trans hu)).cell (o := 0) rfl
     have cl1 := ((hb5.up hu10.out).up ((Up.refl _).drew.trans hu)).cell (o := 1) rfl
     go_simp
     first | done | rfl
   simp only [Act.put, nm1, nm2, nm3, i64_w]
   refine wpK_ops rfl (fun w1 hu => ?_) ?_
   · have hcl := (laws_toPoint.calls K a3_0 a3_1 t15 t16 w1  A17.out)
     clear hu
     replace hcl := Aside0.mk hcl
     go_simp
     exact hcl.out
   simp only [Act.put, nm1, nm2, nm3, i64_w]
   refine wpK_ops rfl (fun w1 hu => ?_) ?_
   · have cl0 := (hb8.up ((Up.refl _).drew.trans hu)).cell (o := 0) rfl
     have cl1 := (hb8.up ((Up.refl _).drew.trans hu)).cell (o := 1) rfl
     go_simp
     first | done | rfl
   simp only [Act.put, nm1, nm2, nm3, i64_w]
   refine wpK_ops rfl (fun w1 hu => ?_) ?_
   · have hcl := (laws_toPoint.calls K a4_0 a4_1 t18 t19 w1  A20.out)
     clear hu
     replace hcl := Aside0.mk hcl
     go_simp
     exact hcl.out
   simp only [Act.put, nm1, nm2, nm3, i64_w]
   refine wpK_any rfl (stab_row _ _ _ _ _) (fun w1 hu hl => ?_) (fun v26 => ?_)
   · have hcl := spec_OrthicPoints.calls K a0 a1 t12 t13 t15 t16 t18 t19 t21 t24 w1  A25.out
     have hz := ((Up.refl _).drew.trans hu).size
     clear hu
     replace hcl := Aside0.mk hcl
     exact fresh_row (by first | (go_simp; done) | (go_simp; rfl)) hcl.out hz
   simp only [Act.put, nm1, nm2, nm3, i64_w]
   refine wpK_any rfl (stab_row _ _ _ _ _) (fun w1 hu hl => ?_) (fun v27 => ?_)
   · exact any_of_run (by first | (go_simp; done) | (go_simp; rfl)) (hl.1 (by kernel_rfl))
   simp only [Act.put, nm1, nm2, nm3, i64_w]
   refine wpK_any rfl (stab_row _ _ _ _ _) (fun w1 hu hl => ?_) (fun v28 => ?_)
   · obtain ⟨A0_, c0_, e0_, hO0_⟩ := hl.1 (by kernel_rfl)
     clear hl hu
     dsimp only at e0_
     subst e0_
     exact any_of_run (u := .slice A0_ t21.length c0_) (by first | (go_simp; done) | (go_simp; rfl)) ⟨A0_, c0_, rfl, hO0_⟩
   simp only [Act.put, nm1, nm2, nm3, i64_w]
   refine wpK_det rfl (fun w1 hu hl => ?_) ?_
   · obtain ⟨A0_, c0_, e0_, hO0_⟩ := hl.2.1 (by kernel_rfl)
     clear hl hu
     dsimp only at e0_
     subst e0_
     clear hO0_
     go_simp
     first | done | rfl
   simp only [Act.put, nm1, nm2, nm3, i64_w]
   refine wpK_any rfl (stab_row _ _ _ _ _) (fun w1 hu hl => ?_) (fun v29 => ?_)
   · exact any_of_run (by first | (go_simp; done) | (go_simp; rfl)) (hl.1 (by kernel_rfl))
   simp only [Act.put, nm1, nm2, nm3, i64_w]
   refine wpK_ops rfl (fun w1 hu => ?_) ?_
   · clear hu
     go_simp
     first | done | rfl
   simp only [Act.put, nm1, nm2, nm3, i64_w]
   refine wpK_nil ?_
   intro w30 hu hap
   simp only [List.drop_succ_cons, List.drop_zero]
   replace hu := (Up.refl _).drew.trans hu
   obtain ⟨-, -, ⟨P22, q23, e0, ht21⟩, -, -, -, -, -, -, -, -, -, -⟩ := hap
   dsimp only at e0
   subst e0
   have hu31 := Aside0.mk hu
   clear hu
   refine wpList_nil ?_
   (try simp only [Exit.then, Exit.inBlock, ↓reduceIte, Nat.reduceEqDiff])
   refine hK11 _ _ ?_
   refine wp_seq_k (fun K32 hK32 => ?_)
   refine' wp_region_up 14 [Slot.det _, Slot.det _, Slot.det _, Slot.det (.agg #[.int .i64 t33, .int .i64 t34]), Slot.det _, Slot.det (.agg #[.int .i64 t36, .int .i64 t37]), Slot.det _, Slot.det (.agg #[.int .i64 t39, .int .i64 t40]), Slot.any (RowTo e2 25 w30.heap.size t42 (fun v => .tuple #[v, .int .i64 t45])) false, Slot.any (RowTo e2 25 w30.heap.size t42 (fun v => .tuple #[v, .int .i64 t45])) false, Slot.any (RowTo e2 25 w30.heap.size t42 (fun v => v)) false, Slot.det (.int .i64 t45), Slot.any (RowTo e2 25 w30.heap.size t42 (fun v => v)) false, Slot.det _] (by kernel_rfl) (by kernel_rfl) ?main
   case main =>
    simp only [List.take_succ_cons, List.take_zero]
    refine wpK_ops rfl (fun w1 hu => ?_) ?_
    · clear hu
      go_simp
      first | done | rfl
    simp only [Act.put, nm1, nm2, nm3, i64_w]
    refine wpK_ops rfl (fun w1 hu => ?_) ?_
    · clear hu
      go_simp
      first | done | rfl
    simp only [Act.put, nm1, nm2, nm3, i64_w]
    refine wpK_ops rfl (fun w1 hu => ?_) ?_
    · have cl0 := ((hb2.up ((hu7.out.trans hu10.out).trans hu31.out)).up ((Up.refl _).drew.trans hu)).cell (o := 0) rfl
      have cl1 := ((hb2.up ((hu7.out.trans hu10.out).trans hu31.out)).up ((Up.refl _).drew.trans hu)).cell (o := 1) rfl
      go_simp
      first | done | rfl
    simp only [Act.put, nm1, nm2, nm3, i64_w]
    refine wpK_ops rfl (fun w1 hu => ?_) ?_
    · have hcl := (laws_toPoint.calls K a2_0 a2_1 t33 t34 w1  A35.out)
      clear hu
      replace hcl := Aside0.mk hcl
      go_simp
      exact hcl.out
    simp only [Act.put, nm1, nm2, nm3, i64_w]
    refine wpK_ops rfl (fun w1 hu => ?_) ?_
    · have cl0 := ((hb5.up (hu10.out.trans hu31.out)).up ((Up.refl _).drew.trans hu)).cell (o := 0) rfl
      have cl1 := ((hb5.up (hu10.out.trans hu31.out)).up ((Up.refl _).drew.trans hu)).cell (o := 1) rfl
      go_simp
      first | done | rfl
    simp only [Act.put, nm1, nm2, nm3, i64_w]
    refine wpK_ops rfl (fun w1 hu => ?_) ?_
    · have hcl := (laws_toPoint.calls K a3_0 a3_1 t36 t37 w1  A38.out)
      clear hu
      replace hcl := Aside0.mk hcl
      go_simp
      exact hcl.out
    simp only [Act.put, nm1, nm2, nm3, i64_w]
    refine wpK_ops rfl (fun w1 hu => ?_) ?_
    · have cl0 := ((hb8.up hu31.out).up ((Up.refl _).drew.trans hu)).cell (o := 0) rfl
      have cl1 := ((hb8.up hu31.out).up ((Up.refl _).drew.trans hu)).cell (o := 1) rfl
      go_simp
      first | done | rfl
    simp only [Act.put, nm1, nm2, nm3, i64_w]
    refine wpK_ops rfl (fun w1 hu => ?_) ?_
    · have hcl := (laws_toPoint.calls K a4_0 a4_1 t39 t40 w1  A41.out)
      clear hu
      replace hcl := Aside0.mk hcl
      go_simp
      exact hcl.out
    simp only [Act.put, nm1, nm2, nm3, i64_w]
    refine wpK_any rfl (stab_row _ _ _ _ _) (fun w1 hu hl => ?_) (fun v47 => ?_)
    · have hcl := impl_OrthicPoints.calls K a0 a1 t33 t34 t36 t37 t39 t40 t42 t45 w1  A46.out
      have hz := ((Up.refl _).drew.trans hu).size
      clear hu
      replace hcl := Aside0.mk hcl
      exact fresh_row (by first | (go_simp; done) | (go_simp; rfl)) hcl.out hz
    simp only [Act.put, nm1, nm2, nm3, i64_w]
    refine wpK_any rfl (stab_row _ _ _ _ _) (fun w1 hu hl => ?_) (fun v48 => ?_)
    · exact any_of_run (by first | (go_simp; done) | (go_simp; rfl)) (hl.1 (by kernel_rfl))
    simp only [Act.put, nm1, nm2, nm3, i64_w]
    refine wpK_any rfl (stab_row _ _ _ _ _) (fun w1 hu hl => ?_) (fun v49 => ?_)
    · obtain ⟨A0_, c0_, e0_, hO0_⟩ := hl.1 (by kernel_rfl)
      clear hl hu
      dsimp only at e0_
      subst e0_
      exact any_of_run (u := .slice A0_ t42.length c0_) (by first | (go_simp; done) | (go_simp; rfl)) ⟨A0_, c0_, rfl, hO0_⟩
    simp only [Act.put, nm1, nm2, nm3, i64_w]
    refine wpK_det rfl (fun w1 hu hl => ?_) ?_
    · obtain ⟨A0_, c0_, e0_, hO0_⟩ := hl.2.1 (by kernel_rfl)
      clear hl hu
      dsimp only at e0_
      subst e0_
      clear hO0_
      go_simp
      first | done | rfl
    simp only [Act.put, nm1, nm2, nm3, i64_w]
    refine wpK_any rfl (stab_row _ _ _ _ _) (fun w1 hu hl => ?_) (fun v50 => ?_)
    · exact any_of_run (by first | (go_simp; done) | (go_simp; rfl)) (hl.1 (by kernel_rfl))
    simp only [Act.put, nm1, nm2, nm3, i64_w]
    refine wpK_ops rfl (fun w1 hu => ?_) ?_
    · clear hu
      go_simp
      first | done | rfl
    simp only [Act.put, nm1, nm2, nm3, i64_w]
    refine wpK_nil ?_
    intro w51 hu hap
    simp only [List.drop_succ_cons, List.drop_zero]
    replace hu := (Up.refl _).drew.trans hu
    obtain ⟨-, -, ⟨P43, q44, e0, ht42⟩, -, -, -, -, -, -, -, -, -, -⟩ := hap
    dsimp only at e0
    subst e0
    have hu52 := Aside0.mk hu
    clear hu
    refine wpList_nil ?_
    (try simp only [Exit.then, Exit.inBlock, ↓reduceIte, Nat.reduceEqDiff])
    refine hK32 _ _ ?_
    refine wp_seq_k (fun K53 hK53 => ?_)
    refine wp_seq_k (fun K54 hK54 => ?_)
    refine wp_region_lit ?_
    refine wpList_plain rfl (fun Ko hKo => ?_)
    go_simp
    refine hKo _ _ ?_
    clear hKo Ko
    try simp only [Act.put, nm1, nm2, nm3, i64_w]
    refine wpList_plain rfl (fun Ko hKo => ?_)
    go_simp
    refine hKo _ _ ?_
    clear hKo Ko
    try simp only [Act.put, nm1, nm2, nm3, i64_w]
    refine step_call (wanted_none rfl) (by first | (go_simp; done) | (go_simp; rfl)) (laws_eqPointS.calls K P43 q44 t42 P22 q23 t21 false w51 ht42.rd ((ht21.up hu52.out).rd) A56.out) ?_
    rintro e w57 ⟨rfl, hu⟩
    have hu58 := Aside0.mk hu
    clear hu
    refine ⟨_, rfl, ?_⟩
    simp only [Act.put, nm1, nm2, nm3, i64_w]
    refine wpList_plain rfl (fun Ko hKo => ?_)
    go_simp
    refine hKo _ _ ?_
    clear hKo Ko
    try simp only [Act.put, nm1, nm2, nm3, i64_w]
    refine wpList_plain rfl (fun Ko hKo => ?_)
    go_simp
    refine hKo _ _ ?_
    clear hKo Ko
    try simp only [Act.put, nm1, nm2, nm3, i64_w]
    refine step_no rfl ?_
    simp only [Act.put, nm1, nm2, nm3, i64_w]
    refine step_no rfl ?_
    simp only [Act.put, nm1, nm2, nm3, i64_w]
    refine step_no rfl ?_
    simp only [Act.put, nm1, nm2, nm3, i64_w]
    refine wpList_plain rfl (fun Ko hKo => ?_)
    go_simp
    refine hKo _ _ ?_
    clear hKo Ko
    try simp only [Act.put, nm1, nm2, nm3, i64_w]
    refine wpList_nil ?_
    (try simp only [Exit.then, Exit.inBlock, ↓reduceIte, Nat.reduceEqDiff])
    refine hK54 _ _ ?_
    refine wp_cond_true rfl ?_
    refine wp_seq_k (fun K133 hK133 => ?_)
    refine wp_region_lit ?_
    refine wpList_plain rfl (fun Ko hKo => ?_)
    go_simp
    refine hKo _ _ ?_
    clear hKo Ko
    try simp only [Act.put, nm1, nm2, nm3, i64_w]
    refine wpList_nil ?_
    (try simp only [Exit.then, Exit.inBlock, ↓reduceIte, Nat.reduceEqDiff])
    refine hK133 _ _ ?_
    refine wp_ret ?_
    (try simp only [Exit.then, Exit.inBlock, ↓reduceIte, Nat.reduceEqDiff])
    refine hQf _ _ _ ?_
    exact bodyPost_ret (v := .bool false) (by first | rfl | (simp [results, Try.results12, go_sem]; done) | (simp [results, Try.results12, go_sem]; rfl)) rfl ⟨rfl, (((((hu4.out.trans hu7.out).trans hu10.out).trans hu31.out).trans hu52.out).trans hu58.out)⟩

end Go.Proofs.Ytohpnbfgemngmaa
