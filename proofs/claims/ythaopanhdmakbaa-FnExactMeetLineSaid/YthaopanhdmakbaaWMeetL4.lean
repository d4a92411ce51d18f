/- The walks: each of these functions of the program computes what its plain function says: laws_FnExactMeetLine. -/
import Derived.Test.YthaopanhdmakbaaProg
import Derived.Test.YthaopanhdmakbaaD1
import Derived.WalkKit
import Derived.KernelRfl
import Derived.BigQuiet
import Derived.Deep.LoopGhost
import Derived.Laws.StructEq
import Derived.Test.YthaopanhdmakbaaWMeetL3
namespace Go.Proofs.Ythaopanhdmakbaa
open Go Go.RowKit
attribute [local go_sem] Oper.quiet Oper.quietAt Oper.quietUpon
attribute [local irreducible] wpList
set_option linter.unusedVariables false
set_option linter.unusedSimpArgs false

set_option maxHeartbeats 4000000 in
set_option maxRecDepth 100000 in
theorem laws_FnExactMeetLine.calls (K : Nat) (a0 : Int) (a1 : Int) (a2_0 : Int) (a2_1 : Int) (a2_2 : Int) (a3_0 : Int) (a3_1 : Int) (a3_2 : Int) (r0 : Bool) (w : World)  (h : laws_FnExactMeetLine.f K a0 a1 a2_0 a2_1 a2_2 a3_0 a3_1 a3_2 = some (r0)) :
    Calls Try.prog 12 #[.int .i64 a0, .int .i64 a1, .agg #[.int .i64 a2_0, .int .i64 a2_1, .int .i64 a2_2], .agg #[.int .i64 a3_0, .int .i64 a3_1, .int .i64 a3_2]] w fun e w' => e = .returned (.bool r0) ∧ Up w w' := by
 have H : (((laws_toCircle.f K a2_0 a2_1 a2_2).bind fun (t9, t10, t11) => ((laws_toLine.f K a3_0 a3_1 a3_2).bind fun (t13, t14, t15) => ((spec_MeetLine.f K a0 a1 t9 t10 t11 t13 t14 t15).bind fun (t17, t20) => ((laws_toCircle.f K a2_0 a2_1 a2_2).bind fun (t29, t30, t31) => ((laws_toLine.f K a3_0 a3_1 a3_2).bind fun (t33, t34, t35) => ((impl_MeetLine.f K a0 a1 t29 t30 t31 t33 t34 t35).bind fun (t37, t40) => ((laws_eqPointS.f K t37 t17).bind fun t50 => (if t50 = true then (if (t40 == t20) = true then ((laws_markPointS.f K t37 1).bind fun (t58, t59) => ((laws_heldPointS.f K t59 1).bind fun t69 => (if decide (t69 < 0) = true then some false else (if (t69 == t58) = true then ((laws_toCircle.f K a2_0 a2_1 a2_2).bind fun (t81, t82, t83) => ((laws_toLine.f K a3_0 a3_1 a3_2).bind fun (t85, t86, t87) => ((impl_MeetLine.f K a0 a1 t81 t82 t83 t85 t86 t87).bind fun (t89, t92) => ((laws_eqPointS.f K t89 t17).bind fun t102 => (if t102 = true then (if (t92 == t20) = true then ((laws_heldPointS.f K t59 1).bind fun t110 => (if decide (t110 < 0) = true then some false else (if (t110 == t58) = true then some true else some false))) else some false) else some false))))) else some false)))) else some false) else some false)))))))) : Option (Bool)) = some (r0) := h
 clear h
 replace H := Option.bind_eq_some_iff.mp H
 obtain ⟨⟨t9, t10, t11⟩, A12, H⟩ := H
 replace A12 := Aside0.mk A12
 try dsimp only at H
 replace H := Option.bind_eq_some_iff.mp H
 obtain ⟨⟨t13, t14, t15⟩, A16, H⟩ := H
 replace A16 := Aside0.mk A16
 try dsimp only at H
 replace H := Option.bind_eq_some_iff.mp H
 obtain ⟨⟨t17, t20⟩, A21, H⟩ := H
 replace A21 := Aside0.mk A21
 try dsimp only at H
 replace H := Option.bind_eq_some_iff.mp H
 obtain ⟨⟨t29, t30, t31⟩, A32, H⟩ := H
 replace A32 := Aside0.mk A32
 try dsimp only at H
 replace H := Option.bind_eq_some_iff.mp H
 obtain ⟨⟨t33, t34, t35⟩, A36, H⟩ := H
 replace A36 := Aside0.mk A36
 try dsimp only at H
 replace H := Option.bind_eq_some_iff.mp H
 obtain ⟨⟨t37, t40⟩, A41, H⟩ := H
 replace A41 := Aside0.mk A41
 try dsimp only at H
 replace H := Option.bind_eq_some_iff.mp H
 obtain ⟨t50, A51, H⟩ := H
 replace A51 := Aside0.mk A51
 try dsimp only at H
 by_cases c54 : (t50) = true
 ·
  rw [if_pos c54] at H
  subst c54
  by_cases c55 : (t40 == t20) = true
  ·
   rw [if_pos c55] at H
   have c55n : (t40 != t20) = false := by rw [bne, c55]; rfl
   replace H := Option.bind_eq_some_iff.mp H
   obtain ⟨⟨t58, t59⟩, A60, H⟩ := H
   replace A60 := Aside0.mk A60
   try dsimp only at H
   replace H := Option.bind_eq_some_iff.mp H
   obtain ⟨t69, A70, H⟩ := H
   replace A70 := Aside0.mk A70
   try dsimp only at H
   by_cases c75 : (decide (t69 < 0)) = true
   ·
    rw [if_pos c75] at H
    obtain rfl := Option.some.inj H
    go_enter Try.func12, Try.ntmps12
    refine wp_hide (fun Qf hQf => ?_)
    refine wp_seq_k (fun K1 hK1 => ?_)
    refine wp_region_lit ?_
    refine step_new (cs := [.int .i64 a2_0, .int .i64 a2_1, .int .i64 a2_2]) (T := 24) (f := fun b => .pointer (some ⟨b, 0, none⟩)) rfl (by first | (go_simp; done) | (go_simp; rfl)) ?_
    intro b2 w3 hu lb hb2
    simp only [Act.put, nm1, nm2, nm3, i64_w]
    have lbb2 := Aside0.mk lb
    have ltb2 := Aside0.mk hb2.lt
    clear lb
    have hu4 := Aside0.mk hu
    clear hu
    refine step_new (cs := [.int .i64 a3_0, .int .i64 a3_1, .int .i64 a3_2]) (T := 39) (f := fun b => .pointer (some ⟨b, 0, none⟩)) rfl (by first | (go_simp; done) | (go_simp; rfl)) ?_
    intro b5 w6 hu lb hb5
    simp only [Act.put, nm1, nm2, nm3, i64_w]
    have lbb5 := Aside0.mk lb
    have ltb5 := Aside0.mk hb5.lt
    clear lb
    have hu7 := Aside0.mk hu
    clear hu
    refine wpList_plain rfl (fun Ko hKo => ?_)
    go_simp
    refine hKo _ _ ?_
    clear hKo Ko
    try simp only [Act.put, nm1, nm2, nm3, i64_w]
    refine wpList_nil ?_
    (try simp only [Exit.then, Exit.inBlock, ↓reduceIte, Nat.reduceEqDiff])
    refine hK1 _ _ ?_
    refine wp_seq_k (fun K8 hK8 => ?_)
    refine' wp_region_up 12 [Slot.det _, Slot.det _, Slot.det _, Slot.det (.agg #[.int .i64 t9, .int .i64 t10, .int .i64 t11]), Slot.det _, Slot.det (.agg #[.int .i64 t13, .int .i64 t14, .int .i64 t15]), Slot.any (RowTo e2 27 w6.heap.size t17 (fun v => .tuple #[v, .int .i64 t20])) false, Slot.any (RowTo e2 27 w6.heap.size t17 (fun v => .tuple #[v, .int .i64 t20])) false, Slot.any (RowTo e2 27 w6.heap.size t17 (fun v => v)) false, Slot.det (.int .i64 t20), Slot.any (RowTo e2 27 w6.heap.size t17 (fun v => v)) false, Slot.det _] (by kernel_rfl) (by kernel_rfl) ?main
    case main =>
     simp only [List.take_succ_cons, List.take_zero]
     refine wpK_ops rfl (fun w1 hu => ?_) ?_
     · clear hu
       go_simp
       first | done | rfl
     simp only [Act.put, nm1, nm2, nm3, i64_w]
     refine wpK_ops rfl (fun w1 hu => ?_) ?_
     · clear hu
       go_simp
       first | done | rfl
     simp only [Act.put, nm1, nm2, nm3, i64_w]
     refine wpK_ops rfl (fun w1 hu => ?_) ?_
     · have cl0 := ((hb2.up hu7.out).up ((Up.refl _).drew.trans hu)).cell (o := 0) rfl
       have cl1 := ((hb2.up hu7.out).up ((Up.refl _).drew.trans hu)).cell (o := 1) rfl
       have cl2 := ((hb2.up hu7.out).up ((Up.refl _).drew.trans hu)).cell (o := 2) rfl
       go_simp
       first | done | rfl
     simp only [Act.put, nm1, nm2, nm3, i64_w]
     refine wpK_ops rfl (fun w1 hu => ?_) ?_
     · have hcl := (laws_toCircle.calls K a2_0 a2_1 a2_2 t9 t10 t11 w1  A12.out)
       clear hu
       replace hcl := Aside0.mk hcl
       go_simp
       exact hcl.out
     simp only [Act.put, nm1, nm2, nm3, i64_w]
     refine wpK_ops rfl (fun w1 hu => ?_) ?_
     · have cl0 := (hb5.up ((Up.refl _).drew.trans hu)).cell (o := 0) rfl
       have cl1 := (hb5.up ((Up.refl _).drew.trans hu)).cell (o := 1) rfl
       have cl2 := (hb5.up ((Up.refl _).drew.trans hu)).cell (o := 2) rfl
       go_simp
       first | done | rfl
     simp only [Act.put, nm1, nm2, nm3, i64_w]
     refine wpK_ops rfl (fun w1 hu => ?_) ?_
     · have hcl := (laws_toLine.calls K a3_0 a3_1 a3_2 t13 t14 t15 w1  A16.out)
       clear hu
       replace hcl := Aside0.mk hcl
       go_simp
       exact hcl.out
     simp only [Act.put, nm1, nm2, nm3, i64_w]
     refine wpK_any rfl (stab_row _ _ _ _ _) (fun w1 hu hl => ?_) (fun v22 => ?_)
     · have hcl := spec_MeetLine.calls K a0 a1 t9 t10 t11 t13 t14 t15 t17 t20 w1  A21.out
       have hz := ((Up.refl _).drew.trans hu).size
       clear hu
       replace hcl := Aside0.mk hcl
       exact fresh_row (by first | (go_simp; done) | (go_simp; rfl)) hcl.out hz
     simp only [Act.put, nm1, nm2, nm3, i64_w]
     refine wpK_any rfl (stab_row _ _ _ _ _) (fun w1 hu hl => ?_) (fun v23 => ?_)
     · exact any_of_run (by first | (go_simp; done) | (go_simp; rfl)) (hl.1 (by kernel_rfl))
     simp only [Act.put, nm1, nm2, nm3, i64_w]
     refine wpK_any rfl (stab_row _ _ _ _ _) (fun w1 hu hl => ?_) (fun v24 => ?_)
     · obtain ⟨A0_, c0_, e0_, hO0_⟩ := hl.1 (by kernel_rfl)
       clear hl hu
       dsimp only at e0_
       subst e0_
       exact any_of_run (u := .slice A0_ t17.length c0_) (by first | (go_simp; done) | (go_simp; rfl)) ⟨A0_, c0_, rfl, hO0_⟩
     simp only [Act.put, nm1, nm2, nm3, i64_w]
     refine wpK_det rfl (fun w1 hu hl => ?_) ?_
     · obtain ⟨A0_, c0_, e0_, hO0_⟩ := hl.2.1 (by kernel_rfl)
       clear hl hu
       dsimp only at e0_
       subst e0_
       clear hO0_
       go_simp
       first | done | rfl
     simp only [Act.put, nm1, nm2, nm3, i64_w]
     refine wpK_any rfl (stab_row _ _ _ _ _) (fun w1 hu hl => ?_) (fun v25 => ?_)
     · exact any_of_run (by first | (go_simp; done) | (go_simp; rfl)) (hl.1 (by kernel_rfl))
     simp only [Act.put, nm1, nm2, nm3, i64_w]
     refine wpK_ops rfl (fun w1 hu => ?_) ?_
     · clear hu
       go_simp
       first | done | rfl
     simp only [Act.put, nm1, nm2, nm3, i64_w]
     refine wpK_nil ?_
     intro w26 hu hap
     simp only [List.drop_succ_cons, List.drop_zero]
     replace hu := (Up.refl _).drew.trans hu
     obtain ⟨-, -, ⟨P18, q19, e0, ht17⟩, -, -, -, -, -, -, -, -, -, -⟩ := hap
     dsimp only at e0
     subst e0
     have hu27 := Aside0.mk hu
     clear hu
     refine wpList_nil ?_
     (try simp only [Exit.then, Exit.inBlock, ↓reduceIte, Nat.reduceEqDiff])
     refine hK8 _ _ ?_
     refine wp_seq_k (fun K28 hK28 => ?_)
     refine' wp_region_up 12 [Slot.det _, Slot.det _, Slot.det _, Slot.det (.agg #[.int .i64 t29, .int .i64 t30, .int .i64 t31]), Slot.det _, Slot.det (.agg #[.int .i64 t33, .int .i64 t34, .int .i64 t35]), Slot.any (RowTo e2 27 w26.heap.size t37 (fun v => .tuple #[v, .int .i64 t40])) false, Slot.any (RowTo e2 27 w26.heap.size t37 (fun v => .tuple #[v, .int .i64 t40])) false, Slot.any (RowTo e2 27 w26.heap.size t37 (fun v => v)) false, Slot.det (.int .i64 t40), Slot.any (RowTo e2 27 w26.heap.size t37 (fun v => v)) false, Slot.det _] (by kernel_rfl) (by kernel_rfl) ?main
     case main =>
      simp only [List.take_succ_cons, List.take_zero]
      refine wpK_ops rfl (fun w1 hu => ?_) ?_
      · clear hu
        go_simp
        first | done | rfl
      simp only [Act.put, nm1, nm2, nm3, i64_w]
      refine wpK_ops rfl (fun w1 hu => ?_) ?_
      · clear hu
        go_simp
        first | done | rfl
      simp only [Act.put, nm1, nm2, nm3, i64_w]
      refine wpK_ops rfl (fun w1 hu => ?_) ?_
      · have cl0 := ((hb2.up (hu7.out.trans hu27.out)).up ((Up.refl _).drew.trans hu)).cell (o := 0) rfl
        have cl1 := ((hb2.up (hu7.out.trans hu27.out)).up ((Up.refl _).drew.trans hu)).cell (o := 1) rfl
        have cl2 := ((hb2.up (hu7.out.trans hu27.out)).up ((Up.refl _).drew.trans hu)).cell (o := 2) rfl
        go_simp
        first | done | rfl
      simp only [Act.put, nm1, nm2, nm3, i64_w]
      refine wpK_ops rfl (fun w1 hu => ?_) ?_
      · have hcl := (laws_toCircle.calls K a2_0 a2_1 a2_2 t29 t30 t31 w1  A32.out)
        clear hu
        replace hcl := Aside0.mk hcl
        go_simp
        exact hcl.out
      simp only [Act.put, nm1, nm2, nm3, i64_w]
      refine wpK_ops rfl (fun w1 hu => ?_) ?_
      · have cl0 := ((hb5.up hu27.out).up ((Up.refl _).drew.trans hu)).cell (o := 0) rfl
        have cl1 := ((hb5.up hu27.out).up ((Up.refl _).drew.trans hu)).cell (o := 1) rfl
        have cl2 := ((hb5.up hu27.out).up ((Up.refl _).drew.trans hu)).cell (o := 2) rfl
        go_simp
        first | done | rfl
      simp only [Act.put, nm1, nm2, nm3, i64_w]
      refine wpK_ops rfl (fun w1 hu => ?_) ?_
      · have hcl := (laws_toLine.calls K a3_0 a3_1 a3_2 t33 t34 t35 w1  A36.out)
        clear hu
        replace hcl := Aside0.mk hcl
        go_simp
        exact hcl.out
      simp only [Act.put, nm1, nm2, nm3, i64_w]
      refine wpK_any rfl (stab_row _ _ _ _ _) (fun w1 hu hl => ?_) (fun v42 => ?_)
      · have hcl := impl_MeetLine.calls K a0 a1 t29 t30 t31 t33 t34 t35 t37 t40 w1  A41.out
        have hz := ((Up.refl _).drew.trans hu).size
        clear hu
        replace hcl := Aside0.mk hcl
        exact fresh_row (by first | (go_simp; done) | (go_simp; rfl)) hcl.out hz
      simp only [Act.put, nm1, nm2, nm3, i64_w]
      refine wpK_any rfl (stab_row _ _ _ _ _) (fun w1 hu hl => ?_) (fun v43 => ?_)
      · exact any_of_run (by first | (go_simp; done) | (go_simp; rfl)) (hl.1 (by kernel_rfl))
      simp only [Act.put, nm1, nm2, nm3, i64_w]
      refine wpK_any rfl (stab_row _ _ _ _ _) (fun w1 hu hl => ?_) (fun v44 => ?_)
      · obtain ⟨A0_, c0_, e0_, hO0_⟩ := hl.1 (by kernel_rfl)
        clear hl hu
        dsimp only at e0_
        subst e0_
        exact any_of_run (u := .slice A0_ t37.length c0_) (by first | (go_simp; done) | (go_simp; rfl)) ⟨A0_, c0_, rfl, hO0_⟩
      simp only [Act.put, nm1, nm2, nm3, i64_w]
      refine wpK_det rfl (fun w1 hu hl => ?_) ?_
      · obtain ⟨A0_, c0_, e0_, hO0_⟩ := hl.2.1 (by kernel_rfl)
        clear hl hu
        dsimp only at e0_
        subst e0_
        clear hO0_
        go_simp
        first | done | rfl
      simp only [Act.put, nm1, nm2, nm3, i64_w]
      refine wpK_any rfl (stab_row _ _ _ _ _) (fun w1 hu hl => ?_) (fun v45 => ?_)
      · exact any_of_run (by first | (go_simp; done) | (go_simp; rfl)) (hl.1 (by kernel_rfl))
      simp only [Act.put, nm1, nm2, nm3, i64_w]
      refine wpK_ops rfl (fun w1 hu => ?_) ?_
      · clear hu
        go_simp
        first | done | rfl
      simp only [Act.put, nm1, nm2, nm3, i64_w]
      refine wpK_nil ?_
      intro w46 hu hap
      simp only [List.drop_succ_cons, List.drop_zero]
      replace hu := (Up.refl _).drew.trans hu
      obtain ⟨-, -, ⟨P38, q39, e0, ht37⟩, -, -, -, -, -, -, -, -, -, -⟩ := hap
      dsimp only at e0
      subst e0
      have hu47 := Aside0.mk hu
      clear hu
      refine wpList_nil ?_
      (try simp only [Exit.then, Exit.inBlock, ↓reduceIte, Nat.reduceEqDiff])
      refine hK28 _ _ ?_
      refine wp_seq_k (fun K48 hK48 => ?_)
      refine wp_seq_k (fun K49 hK49 => ?_)
      refine wp_region_lit ?_
      refine wpList_plain rfl (fun Ko hKo => ?_)
      go_simp
      refine hKo _ _ ?_
      clear hKo Ko
      try simp only [Act.put, nm1, nm2, nm3, i64_w]
      refine wpList_plain rfl (fun Ko hKo => ?_)
      go_simp
      refine hKo _ _ ?_
      clear hKo Ko
      try simp only [Act.put, nm1, nm2, nm3, i64_w]
      refine step_call (wanted_none rfl) (by first | (go_simp; done) | (go_simp; rfl)) (laws_eqPointS.calls K P38 q39 t37 P18 q19 t17 true w46 ht37.rd ((ht17.up hu47.out).rd) A51.out) ?_
      rintro e w52 ⟨rfl, hu⟩
      have hu53 := Aside0.mk hu
      clear hu
      refine ⟨_, rfl, ?_⟩
      simp only [Act.put, nm1, nm2, nm3, i64_w]
      refine wpList_plain rfl (fun Ko hKo => ?_)
      go_simp
      refine hKo _ _ ?_
      clear hKo Ko
      try simp only [Act.put, nm1, nm2, nm3, i64_w]
      refine wpList_plain rfl (fun Ko hKo => ?_)
      go_simp
      refine hKo _ _ ?_
      clear hKo Ko
      try simp only [Act.put, nm1, nm2, nm3, i64_w]
      refine wpList_step (fun Ko hKo => ?_)
      go_simp
      refine hKo _ _ ?_
      clear hKo Ko
      try simp only [Act.put, nm1, nm2, nm3, i64_w]
      refine wpList_step (fun Ko hKo => ?_)
      go_simp
      refine hKo _ _ ?_
      clear hKo Ko
      try simp only [Act.put, nm1, nm2, nm3, i64_w]
      refine wpList_step (fun Ko hKo => ?_)
      go_simp
      refine hKo _ _ ?_
      clear hKo Ko
      try simp only [Act.put, nm1, nm2, nm3, i64_w]
      refine wpList_plain rfl (fun Ko hKo => ?_)
      go_simp
      refine hKo _ _ ?_
      clear hKo Ko
      try simp only [Act.put, nm1, nm2, nm3, i64_w]
      refine wpList_nil ?_
      (try simp only [Exit.then, Exit.inBlock, ↓reduceIte, Nat.reduceEqDiff])
      refine hK49 _ _ ?_
      refine wp_cond_false rfl ?_
      refine wp_skip ?_
      (try simp only [Exit.then, Exit.inBlock, ↓reduceIte, Nat.reduceEqDiff])
      refine hK48 _ _ ?_
      refine wp_seq_k (fun K56 hK56 => ?_)
      refine wp_region_lit ?_
      refine wpList_plain rfl (fun Ko hKo => ?_)
      go_simp
      refine hKo _ _ ?_
      clear hKo Ko
      try simp only [Act.put, nm1, nm2, nm3, i64_w]
      refine wpList_nil ?_
      (try simp only [Exit.then, Exit.inBlock, ↓reduceIte, Nat.reduceEqDiff])
      refine hK56 _ _ ?_
      refine wp_seq_k (fun K57 hK57 => ?_)
      refine wp_region_lit ?_
      refine wpList_plain rfl (fun Ko hKo => ?_)
      go_simp
      refine hKo _ _ ?_
      clear hKo Ko
      try simp only [Act.put, nm1, nm2, nm3, i64_w]
      refine wpList_plain rfl (fun Ko hKo => ?_)
      go_simp
      refine hKo _ _ ?_
      clear hKo Ko
      try simp only [Act.put, nm1, nm2, nm3, i64_w]
      refine step_call (wanted_none rfl) (by first | (go_simp; done) | (go_simp; rfl)) (laws_markPointS.calls K P38 q39 w26.heap.size t37 1 t58 t59 w52 (ht37.up hu53.out) A60.out) ?_
      have lb62 := Aside0.mk (ht37.up hu53.out).lt
      rintro e w61 ⟨rfl, h63, hl, hg⟩
      have hg65 := Aside0.mk hg
      have hl64 := hl
      clear hg hl
      have hl66 : Aside0 (t37.length = t59.length) := Aside0.mk hl64.out
      refine ⟨_, rfl, ?_⟩
      simp only [Act.put, nm1, nm2, nm3, i64_w]
      refine wpList_plain rfl (fun Ko hKo => ?_)
      go_simp
      refine hKo _ _ ?_
      clear hKo Ko
      try simp only [Act.put, nm1, nm2, nm3, i64_w]
      refine wpList_nil ?_
      (try simp only [Exit.then, Exit.inBlock, ↓reduceIte, Nat.reduceEqDiff])
      refine hK57 _ _ ?_
      refine wp_seq_k (fun K67 hK67 => ?_)
      refine wp_region_lit ?_
      refine wpList_plain rfl (fun Ko hKo => ?_)
      go_simp
      refine hKo _ _ ?_
      clear hKo Ko
      try simp only [Act.put, nm1, nm2, nm3, i64_w]
      refine wpList_nil ?_
      (try simp only [Exit.then, Exit.inBlock, ↓reduceIte, Nat.reduceEqDiff])
      refine hK67 _ _ ?_
      refine wp_seq_k (fun K68 hK68 => ?_)
      refine wp_region_lit ?_
      refine wpList_plain rfl (fun Ko hKo => ?_)
      go_simp
      refine hKo _ _ ?_
      clear hKo Ko
      try simp only [Act.put, nm1, nm2, nm3, i64_w]
      refine wpList_plain rfl (fun Ko hKo => ?_)
      go_simp
      refine hKo _ _ ?_
      clear hKo Ko
      try simp only [Act.put, nm1, nm2, nm3, i64_w]
      refine step_call (wanted_none rfl) (by first | (go_simp; done) | (go_simp; rfl)) (Eq.mp (congrArg (fun n_ => Calls Try.prog 30 #[.slice P38 n_ q39, .int .i64 1] w61 _) (Eq.symm hl66.out)) (laws_heldPointS.calls K P38 q39 t59 1 t69 w61 h63.rd A70.out)) ?_
      rintro e w71 ⟨rfl, hu⟩
      have hu72 := Aside0.mk hu
      clear hu
      refine ⟨_, rfl, ?_⟩
      simp only [Act.put, nm1, nm2, nm3, i64_w]
      refine wpList_plain rfl (fun Ko hKo => ?_)
      go_simp
      refine hKo _ _ ?_
      clear hKo Ko
      try simp only [Act.put, nm1, nm2, nm3, i64_w]
      refine wpList_nil ?_
      (try simp only [Exit.then, Exit.inBlock, ↓reduceIte, Nat.reduceEqDiff])
      refine hK68 _ _ ?_
      refine wp_seq_k (fun K73 hK73 => ?_)
      refine wp_seq_k (fun K74 hK74 => ?_)
      refine wp_region_lit ?_
      refine wpList_plain rfl (fun Ko hKo => ?_)
      go_simp
      refine hKo _ _ ?_
      clear hKo Ko
      try simp only [Act.put, nm1, nm2, nm3, i64_w]
      refine wpList_plain rfl (fun Ko hKo => ?_)
      go_simp
      refine hKo _ _ ?_
      clear hKo Ko
      try simp only [Act.put, nm1, nm2, nm3, i64_w]
      refine wpList_nil ?_
      (try simp only [Exit.then, Exit.inBlock, ↓reduceIte, Nat.reduceEqDiff])
      refine hK74 _ _ ?_
      refine wp_cond_true rfl ?_
      refine wp_seq_k (fun K76 hK76 => ?_)
      refine wp_region_lit ?_
      refine wpList_plain rfl (fun Ko hKo => ?_)
      go_simp
      refine hKo _ _ ?_
      clear hKo Ko
      try simp only [Act.put, nm1, nm2, nm3, i64_w]
      refine wpList_nil ?_
      (try simp only [Exit.then, Exit.inBlock, ↓reduceIte, Nat.reduceEqDiff])
      refine hK76 _ _ ?_
      refine wp_ret ?_
      (try simp only [Exit.then, Exit.inBlock, ↓reduceIte, Nat.reduceEqDiff])
      refine hQf _ _ _ ?_
      exact bodyPost_ret (v := .bool false) (by first | rfl | (simp [results, Try.results12, go_sem]; done) | (simp [results, Try.results12, go_sem]; rfl)) rfl ⟨rfl, ((((((hu4.out.trans hu7.out).trans hu27.out).trans hu47.out).trans hu53.out).grow hg65.out (fun k hk => Nat.le_trans ((Nat.le_trans ((Nat.le_trans (hu4.out.size) hu7.out.size)) hu27.out.size)) ((fun k hk => (lb62.out k hk).1) k hk))).trans hu72.out)⟩
   ·
    rw [if_neg c75] at H
    replace c75 := Bool.eq_false_iff.mpr c75
    by_cases c79 : (t69 == t58) = true
    ·
     rw [if_pos c79] at H
     have c79n : (t69 != t58) = false := by rw [bne, c79]; rfl
     replace H := Option.bind_eq_some_iff.mp H
     obtain ⟨⟨t81, t82, t83⟩, A84, H⟩ := H
     replace A84 := Aside0.mk A84
     try dsimp only at H
     replace H := Option.bind_eq_some_iff.mp H
     obtain ⟨⟨t85, t86, t87⟩, A88, H⟩ := H
     replace A88 := Aside0.mk A88
     try dsimp only at H
     replace H := Option.bind_eq_some_iff.mp H
     obtain ⟨⟨t89, t92⟩, A93, H⟩ := H
     replace A93 := Aside0.mk A93
     try dsimp only at H
     replace H := Option.bind_eq_some_iff.mp H
     obtain ⟨t102, A103, H⟩ := H
     replace A103 := Aside0.mk A103
     try dsimp only at H
     by_cases c106 : (t102) = true
     ·
      rw [if_pos c106] at H
      subst c106
      by_cases c107 : (t92 == t20) = true
      ·
       rw [if_pos c107] at H
       have c107n : (t92 != t20) = false := by rw [bne, c107]; rfl
       replace H := Option.bind_eq_some_iff.mp H
       obtain ⟨t110, A111, H⟩ := H
       replace A111 := Aside0.mk A111
       try dsimp only at H
       by_cases c116 : (decide (t110 < 0)) = true
       ·
        rw [if_pos c116] at H
        obtain rfl := Option.some.inj H
        go_enter Try.func12, Try.ntmps12
        refine wp_hide (fun Qf hQf => ?_)
        refine wp_seq_k (fun K1 hK1 => ?_)
        refine wp_region_lit ?_
        refine step_new (cs := [.int .i64 a2_0, .int .i64 a2_1, .int .i64 a2_2]) (T := 24) (f := fun b => .pointer (some ⟨b, 0, none⟩)) rfl (by first | (go_simp; done) | (go_simp; rfl)) ?_
        intro b2 w3 hu lb hb2
        simp only [Act.put, nm1, nm2, nm3, i64_w]
        have lbb2 := Aside0.mk lb
        have ltb2 := Aside0.mk hb2.lt
        clear lb
        have hu4 := Aside0.mk hu
        clear hu
        refine step_new (cs := [.int .i64 a3_0, .int .i64 a3_1, .int .i64 a3_2]) (T := 39) (f := fun b => .pointer (some ⟨b, 0, none⟩)) rfl (by first | (go_simp; done) | (go_simp; rfl)) ?_
        intro b5 w6 hu lb hb5
        simp only [Act.put, nm1, nm2, nm3, i64_w]
        have lbb5 := Aside0.mk lb
        have ltb5 := Aside0.mk hb5.lt
        clear lb
        have hu7 := Aside0.mk hu
        clear hu
        refine wpList_plain rfl (fun Ko hKo => ?_)
        go_simp
        refine hKo _ _ ?_
        clear hKo Ko
        try simp only [Act.put, nm1, nm2, nm3, i64_w]
        refine wpList_nil ?_
        (try simp only [Exit.then, Exit.inBlock, ↓reduceIte, Nat.reduceEqDiff])
        refine hK1 _ _ ?_
        refine wp_seq_k (fun K8 hK8 => ?_)
        refine' wp_region_up 12 [Slot.det _, Slot.det _, Slot.det _, Slot.det (.agg #[.int .i64 t9, .int .i64 t10, .int .i64 t11]), Slot.det _, Slot.det (.agg #[.int .i64 t13, .int .i64 t14, .int .i64 t15]), Slot.any (RowTo e2 27 w6.heap.size t17 (fun v => .tuple #[v, .int .i64 t20])) false, Slot.any (RowTo e2 27 w6.heap.size t17 (fun v => .tuple #[v, .int .i64 t20])) false, Slot.any (RowTo e2 27 w6.heap.size t17 (fun v => v)) false, Slot.det (.int .i64 t20), Slot.any (RowTo e2 27 w6.heap.size t17 (fun v => v)) false, Slot.det _] (by kernel_rfl) (by kernel_rfl) ?main
        case main =>
         simp only [List.take_succ_cons, List.take_zero]
         refine wpK_ops rfl (fun w1 hu => ?_) ?_
         · clear hu
           go_simp
           first | done | rfl
         simp only [Act.put, nm1, nm2, nm3, i64_w]
         refine wpK_ops rfl (fun w1 hu => ?_) ?_
         · clear hu
           go_simp
           first | done | rfl
         simp only [Act.put, nm1, nm2, nm3, i64_w]
         refine wpK_ops rfl (fun w1 hu => ?_) ?_
         · have cl0 := ((hb2.up hu7.out).up ((Up.refl _).drew.trans hu)).cell (o := 0) rfl
           have cl1 := ((hb2.up hu7.out).up ((Up.refl _).drew.trans hu)).cell (o := 1) rfl
           have cl2 := ((hb2.up hu7.out).up ((Up.refl _).drew.trans hu)).cell (o := 2) rfl
           go_simp
           first | done | rfl
         simp only [Act.put, nm1, nm2, nm3, i64_w]
         refine wpK_ops rfl (fun w1 hu => ?_) ?_
         · have hcl := (laws_toCircle.calls K a2_0 a2_1 a2_2 t9 t10 t11 w1  A12.out)
           clear hu
           replace hcl := Aside0.mk hcl
           go_simp
           exact hcl.out
         simp only [Act.put, nm1, nm2, nm3, i64_w]
         refine wpK_ops rfl (fun w1 hu => ?_) ?_
         · have cl0 := (hb5.up ((Up.refl _).drew.trans hu)).cell (o := 0) rfl
           have cl1 := (hb5.up ((Up.refl _).drew.trans hu)).cell (o := 1) rfl
           have cl2 := (hb5.up ((Up.refl _).drew.trans hu)).cell (o := 2) rfl
           go_simp
           first | done | rfl
         simp only [Act.put, nm1, nm2, nm3, i64_w]
         refine wpK_ops rfl (fun w1 hu => ?_) ?_
         · have hcl := (laws_toLine.calls K a3_0 a3_1 a3_2 t13 t14 t15 w1  A16.out)
           clear hu
           replace hcl := Aside0.mk hcl
           go_simp
           exact hcl.out
         simp only [Act.put, nm1, nm2, nm3, i64_w]
         refine wpK_any rfl (stab_row _ _ _ _ _) (fun w1 hu hl => ?_) (fun v22 => ?_)
         · have hcl := spec_MeetLine.calls K a0 a1 t9 t10 t11 t13 t14 t15 t17 t20 w1  A21.out
           have hz := ((Up.refl _).drew.trans hu).size
           clear hu
           replace hcl := Aside0.mk hcl
           exact fresh_row (by first | (go_simp; done) | (go_simp; rfl)) hcl.out hz
         simp only [Act.put, nm1, nm2, nm3, i64_w]
         refine wpK_any rfl (stab_row _ _ _ _ _) (fun w1 hu hl => ?_) (fun v23 => ?_)
         · exact any_of_run (by first | (go_simp; done) | (go_simp; rfl)) (hl.1 (by kernel_rfl))
         simp only [Act.put, nm1, nm2, nm3, i64_w]
         refine wpK_any rfl (stab_row _ _ _ _ _) (fun w1 hu hl => ?_) (fun v24 => ?_)
         · obtain ⟨A0_, c0_, e0_, hO0_⟩ := hl.1 (by kernel_rfl)
           clear hl hu
           dsimp only at e0_
           subst e0_
           exact any_of_run (u := .slice A0_ t17.length c0_) (by first | (go_simp; done) | (go_simp; rfl)) ⟨A0_, c0_, rfl, hO0_⟩
         simp only [Act.put, nm1, nm2, nm3, i64_w]
         refine wpK_det rfl (fun w1 hu hl => ?_) ?_
         · obtain ⟨A0_, c0_, e0_, hO0_⟩ := hl.2.1 (by kernel_rfl)
           clear hl hu
           dsimp only at e0_
           subst e0_
           clear hO0_
           go_simp
           first | done | rfl
         simp only [Act.put, nm1, nm2, nm3, i64_w]
         refine wpK_any rfl (stab_row _ _ _ _ _) (fun w1 hu hl => ?_) (fun v25 => ?_)
         · exact any_of_run (by first | (go_simp; done) | (go_simp; rfl)) (hl.1 (by kernel_rfl))
         simp only [Act.put, nm1, nm2, nm3, i64_w]
         refine wpK_ops rfl (fun w1 hu => ?_) ?_
         · clear hu
           go_simp
           first | done | rfl
         simp only [Act.put, nm1, nm2, nm3, i64_w]
         refine wpK_nil ?_
         intro w26 hu hap
         simp only [List.drop_succ_cons, List.drop_zero]
         replace hu := (Up.refl _).drew.trans hu
         obtain ⟨-, -, ⟨P18, q19, e0, ht17⟩, -, -, -, -, -, -, -, -, -, -⟩ := hap
         dsimp only at e0
         subst e0
         have hu27 := Aside0.mk hu
         clear hu
         refine wpList_nil ?_
         (try simp only [Exit.then, Exit.inBlock, ↓reduceIte, Nat.reduceEqDiff])
         refine hK8 _ _ ?_
         refine wp_seq_k (fun K28 hK28 => ?_)
         refine' wp_region_up 12 [Slot.det _, Slot.det _, Slot.det _, Slot.det (.agg #[.int .i64 t29, .int .i64 t30, .int .i64 t31]), Slot.det _, Slot.det (.agg #[.int .i64 t33, .int .i64 t34, .int .i64 t35]), Slot.any (RowTo e2 27 w26.heap.size t37 (fun v => .tuple #[v, .int .i64 t40])) false, Slot.any (RowTo e2 27 w26.heap.size t37 (fun v => .tuple #[v, .int .i64 t40])) false, Slot.any (RowTo e2 27 w26.heap.size t37 (fun v => v)) false, Slot.det (.int .i64 t40), Slot.any (RowTo e2 27 w26.heap.size t37 (fun v => v)) false, Slot.det _] (by kernel_rfl) (by kernel_rfl) ?main
         case main =>
          simp only [List.take_succ_cons, List.take_zero]
          refine wpK_ops rfl (fun w1 hu => ?_) ?_
          · clear hu
            go_simp
            first | done | rfl
          simp only [Act.put, nm1, nm2, nm3, i64_w]
          refine wpK_ops rfl (fun w1 hu => ?_) ?_
          · clear hu
            go_simp
            first | done | rfl
          simp only [Act.put, nm1, nm2, nm3, i64_w]
          refine wpK_ops rfl (fun w1 hu => ?_) ?_
          · have cl0 := ((hb2.up (hu7.out.trans hu27.out)).up ((Up.refl _).drew.trans hu)).cell (o := 0) rfl
            have cl1 := ((hb2.up (hu7.out.trans hu27.out)).up ((Up.refl _).drew.trans hu)).cell (o := 1) rfl
            have cl2 := ((hb2.up (hu7.out.trans hu27.out)).up ((Up.refl _).drew.trans hu)).cell (o := 2) rfl
            go_simp
            first | done | rfl
          simp only [Act.put, nm1, nm2, nm3, i64_w]
          refine wpK_ops rfl (fun w1 hu => ?_) ?_
          · have hcl := (laws_toCircle.calls K a2_0 a2_1 a2_2 t29 t30 t31 w1  A32.out)
            clear hu
            replace hcl := Aside0.mk hcl
            go_simp
            exact hcl.out
          simp only [Act.put, nm1, nm2, nm3, i64_w]
          refine wpK_ops rfl (fun w1 hu => ?_) ?_
          · have cl0 := ((hb5.up hu27.out).up ((Up.refl _).drew.trans hu)).cell (o := 0) rfl
            have cl1 := ((hb5.up hu27.out).up ((Up.refl _).drew.trans hu)).cell (o := 1) rfl
            have cl2 := ((hb5.up hu27.out).up ((Up.refl _).drew.trans hu)).cell (o := 2) rfl
            go_simp
            first | done | rfl
          simp only [Act.put, nm1, nm2, nm3, i64_w]
          refine wpK_ops rfl (fun w1 hu => ?_) ?_
          · have hcl := (laws_toLine.calls K a3_0 a3_1 a3_2 t33 t34 t35 w1  A36.out)
            clear hu
            replace hcl := Aside0.mk hcl
            go_simp
            exact hcl.out
          simp only [Act.put, nm1, nm2, nm3, i64_w]
          refine wpK_any rfl (stab_row _ _ _ _ _) (fun w1 hu hl => ?_) (fun v42 => ?_)
          · have hcl := impl_MeetLine.calls K a0 a1 t29 t30 t31 t33 t34 t35 t37 t40 w1  A41.out
            have hz := ((Up.refl _).drew.trans hu).size
            clear hu
            replace hcl := Aside0.mk hcl
            exact fresh_row (by first | (go_simp; done) | (go_simp; rfl)) hcl.out hz
          simp only [Act.put, nm1, nm2, nm3, i64_w]
          refine wpK_any rfl (stab_row _ _ _ _ _) (fun w1 hu hl => ?_) (fun v43 => ?_)
          · exact any_of_run (by first | (go_simp; done) | (go_simp; rfl)) (hl.1 (by kernel_rfl))
          simp only [Act.put, nm1, nm2, nm3, i64_w]
          refine wpK_any rfl (stab_row _ _ _ _ _) (fun w1 hu hl => ?_) (fun v44 => ?_)
          · obtain ⟨A0_, c0_, e0_, hO0_⟩ := hl.1 (by kernel_rfl)
            clear hl hu
            dsimp only at e0_
            subst e0_
            exact any_of_run (u := .slice A0_ t37.length c0_) (by first | (go_simp; done) | (go_simp; rfl)) ⟨A0_, c0_, rfl, hO0_⟩
          simp only [Act.put, nm1, nm2, nm3, i64_w]
          refine wpK_det rfl (fun w1 hu hl => ?_) ?_
          · obtain ⟨A0_, c0_, e0_, hO0_⟩ := hl.2.1 (by kernel_rfl)
            clear hl hu
            dsimp only at e0_
            subst e0_
            clear hO0_
            go_simp
            first | done | rfl
          simp only [Act.put, nm1, nm2, nm3, i64_w]
          refine wpK_any rfl (stab_row _ _ _ _ _) (fun w1 hu hl => ?_) (fun v45 => ?_)
          · exact any_of_run (by first | (go_simp; done) | (go_simp; rfl)) (hl.1 (by kernel_rfl))
          simp only [Act.put, nm1, nm2, nm3, i64_w]
          refine wpK_ops rfl (fun w1 hu => ?_) ?_
          · clear hu
            go_simp
            first | done | rfl
          simp only [Act.put, nm1, nm2, nm3, i64_w]
          refine wpK_nil ?_
          intro w46 hu hap
          simp only [List.drop_succ_cons, List.drop_zero]
          replace hu := (Up.refl _).drew.trans hu
          obtain ⟨-, -, ⟨P38, q39, e0, ht37⟩, -, -, -, -, -, -, -, -, -, -⟩ := hap
          dsimp only at e0
          subst e0
          have hu47 := Aside0.mk hu
          clear hu
          refine wpList_nil ?_
          (try simp only [Exit.then, Exit.inBlock, ↓reduceIte, Nat.reduceEqDiff])
          refine hK28 _ _ ?_
          refine wp_seq_k (fun K48 hK48 => ?_)
          refine wp_seq_k (fun K49 hK49 => ?_)
          refine wp_region_lit ?_
          refine wpList_plain rfl (fun Ko hKo => ?_)
          go_simp
          refine hKo _ _ ?_
          clear hKo Ko
          try simp only [Act.put, nm1, nm2, nm3, i64_w]
          refine wpList_plain rfl (fun Ko hKo => ?_)
          go_simp
          refine hKo _ _ ?_
          clear hKo Ko
          try simp only [Act.put, nm1, nm2, nm3, i64_w]
          refine step_call (wanted_none rfl) (by first | (go_simp; done) | (go_simp; rfl)) (laws_eqPointS.calls K P38 q39 t37 P18 q19 t17 true w46 ht37.rd ((ht17.up hu47.out).rd) A51.out) ?_
          rintro e w52 ⟨rfl, hu⟩
          have hu53 := Aside0.mk hu
          clear hu
          refine ⟨_, rfl, ?_⟩
          simp only [Act.put, nm1, nm2, nm3, i64_w]
          refine wpList_plain rfl (fun Ko hKo => ?_)
          go_simp
          refine hKo _ _ ?_
          clear hKo Ko
          try simp only [Act.put, nm1, nm2, nm3, i64_w]
          refine wpList_plain rfl (fun Ko hKo => ?_)
          go_simp
          refine hKo _ _ ?_
          clear hKo Ko
          try simp only [Act.put, nm1, nm2, nm3, i64_w]
          refine wpList_step (fun Ko hKo => ?_)
          go_simp
          refine hKo _ _ ?_
          clear hKo Ko
          try simp only [Act.put, nm1, nm2, nm3, i64_w]
          refine wpList_step (fun Ko hKo => ?_)
          go_simp
          refine hKo _ _ ?_
          clear hKo Ko
          try simp only [Act.put, nm1, nm2, nm3, i64_w]
          refine wpList_step (fun Ko hKo => ?_)
          go_simp
          refine hKo _ _ ?_
          clear hKo Ko
          try simp only [Act.put, nm1, nm2, nm3, i64_w]
          refine wpList_plain rfl (fun Ko hKo => ?_)
          go_simp
          refine hKo _ _ ?_
          clear hKo Ko
          try simp only [Act.put, nm1, nm2, nm3, i64_w]
          refine wpList_nil ?_
          (try simp only [Exit.then, Exit.inBlock, ↓reduceIte, Nat.reduceEqDiff])
          refine hK49 _ _ ?_
          refine wp_cond_false rfl ?_
          refine wp_skip ?_
          (try simp only [Exit.then, Exit.inBlock, ↓reduceIte, Nat.reduceEqDiff])
          refine hK48 _ _ ?_
          refine wp_seq_k (fun K56 hK56 => ?_)
          refine wp_region_lit ?_
          refine wpList_plain rfl (fun Ko hKo => ?_)
          go_simp
          refine hKo _ _ ?_
          clear hKo Ko
          try simp only [Act.put, nm1, nm2, nm3, i64_w]
          refine wpList_nil ?_
          (try simp only [Exit.then, Exit.inBlock, ↓reduceIte, Nat.reduceEqDiff])
          refine hK56 _ _ ?_
          refine wp_seq_k (fun K57 hK57 => ?_)
          refine wp_region_lit ?_
          refine wpList_plain rfl (fun Ko hKo => ?_)
          go_simp
          refine hKo _ _ ?_
          clear hKo Ko
          try simp only [Act.put, nm1, nm2, nm3, i64_w]
          refine wpList_plain rfl (fun Ko hKo => ?_)
          go_simp
          refine hKo _ _ ?_
          clear hKo Ko
          try simp only [Act.put, nm1, nm2, nm3, i64_w]
          refine step_call (wanted_none rfl) (by first | (go_simp; done) | (go_simp; rfl)) (laws_markPointS.calls K P38 q39 w26.heap.size t37 1 t58 t59 w52 (ht37.up hu53.out) A60.out) ?_
          have lb62 := Aside0.mk (ht37.up hu53.out).lt
          rintro e w61 ⟨rfl, h63, hl, hg⟩
          have hg65 := Aside0.mk hg
          have hl64 := hl
          clear hg hl
          have hl66 : Aside0 (t37.length = t59.length) := Aside0.mk hl64.out
          refine ⟨_, rfl, ?_⟩
          simp only [Act.put, nm1, nm2, nm3, i64_w]
          refine wpList_plain rfl (fun Ko hKo => ?_)
          go_simp
          refine hKo _ _ ?_
          clear hKo Ko
          try simp only [Act.put, nm1, nm2, nm3, i64_w]
          refine wpList_nil ?_
          (try simp only [Exit.then, Exit.inBlock, ↓reduceIte, Nat.reduceEqDiff])
          refine hK57 _ _ ?_
          refine wp_seq_k (fun K67 hK67 => ?_)
          refine wp_region_lit ?_
          refine wpList_plain rfl (fun Ko hKo => ?_)
          go_simp
          refine hKo _ _ ?_
          clear hKo Ko
          try simp only [Act.put, nm1, nm2, nm3, i64_w]
          refine wpList_nil ?_
          (try simp only [Exit.then, Exit.inBlock, ↓reduceIte, Nat.reduceEqDiff])
          refine hK67 _ _ ?_
          refine wp_seq_k (fun K68 hK68 => ?_)
          refine wp_region_lit ?_
          refine wpList_plain rfl (fun Ko hKo => ?_)
          go_simp
          refine hKo _ _ ?_
          clear hKo Ko
          try simp only [Act.put, nm1, nm2, nm3, i64_w]
          refine wpList_plain rfl (fun Ko hKo => ?_)
          go_simp
          refine hKo _ _ ?_
          clear hKo Ko
          try simp only [Act.put, nm1, nm2, nm3, i64_w]
          refine step_call (wanted_none rfl) (by first | (go_simp; done) | (go_simp; rfl)) (Eq.mp (congrArg (fun n_ => Calls Try.prog 30 #[.slice P38 n_ q39, .int .i64 1] w61 _) (Eq.symm hl66.out)) (laws_heldPointS.calls K P38 q39 t59 1 t69 w61 h63.rd A70.out)) ?_
          rintro e w71 ⟨rfl, hu⟩
          have hu72 := Aside0.mk hu
          clear hu
          refine ⟨_, rfl, ?_⟩
          simp only [Act.put, nm1, nm2, nm3, i64_w]
          refine wpList_plain rfl (fun Ko hKo => ?_)
          go_simp
          refine hKo _ _ ?_
          clear hKo Ko
          try simp only [Act.put, nm1, nm2, nm3, i64_w]
          refine wpList_nil ?_
          (try simp only [Exit.then, Exit.inBlock, ↓reduceIte, Nat.reduceEqDiff])
          refine hK68 _ _ ?_
          refine wp_seq_k (fun K73 hK73 => ?_)
          refine wp_seq_k (fun K74 hK74 => ?_)
          refine wp_region_lit ?_
          refine wpList_plain rfl (fun Ko hKo => ?_)
          go_simp
          refine hKo _ _ ?_
          clear hKo Ko
          try simp only [Act.put, nm1, nm2, nm3, i64_w]
          refine wpList_plain rfl (fun Ko hKo => ?_)
          go_simp
          refine hKo _ _ ?_
          clear hKo Ko
          try simp only [Act.put, nm1, nm2, nm3, i64_w]
          refine wpList_nil ?_
          (try simp only [Exit.then, Exit.inBlock, ↓reduceIte, Nat.reduceEqDiff])
          refine hK74 _ _ ?_
          refine wp_cond_false rfl ?_
          refine wp_skip ?_
          (try simp only [Exit.then, Exit.inBlock, ↓reduceIte, Nat.reduceEqDiff])
          refine hK73 _ _ ?_
          refine wp_seq_k (fun K77 hK77 => ?_)
          refine wp_seq_k (fun K78 hK78 => ?_)
          refine wp_region_lit ?_
          refine wpList_plain rfl (fun Ko hKo => ?_)
          go_simp
          refine hKo _ _ ?_
          clear hKo Ko
          try simp only [Act.put, nm1, nm2, nm3, i64_w]
          refine wpList_plain rfl (fun Ko hKo => ?_)
          go_simp
          refine hKo _ _ ?_
          clear hKo Ko
          try simp only [Act.put, nm1, nm2, nm3, i64_w]
          refine wpList_plain rfl (fun Ko hKo => ?_)
          go_simp
          refine hKo _ _ ?_
          clear hKo Ko
          try simp only [Act.put, nm1, nm2, nm3, i64_w]
          refine wpList_nil ?_
          (try simp only [Exit.then, Exit.inBlock, ↓reduceIte, Nat.reduceEqDiff])
          refine hK78 _ _ ?_
          refine wp_cond_false rfl ?_
          refine wp_skip ?_
          (try simp only [Exit.then, Exit.inBlock, ↓reduceIte, Nat.reduceEqDiff])
          refine hK77 _ _ ?_
          refine wp_seq_k (fun K80 hK80 => ?_)
          refine' wp_region_up 12 [Slot.det _, Slot.det _, Slot.det _, Slot.det (.agg #[.int .i64 t81, .int .i64 t82, .int .i64 t83]), Slot.det _, Slot.det (.agg #[.int .i64 t85, .int .i64 t86, .int .i64 t87]), Slot.any (RowTo e2 27 w71.heap.size t89 (fun v => .tuple #[v, .int .i64 t92])) false, Slot.any (RowTo e2 27 w71.heap.size t89 (fun v => .tuple #[v, .int .i64 t92])) false, Slot.any (RowTo e2 27 w71.heap.size t89 (fun v => v)) false, Slot.det (.int .i64 t92), Slot.any (RowTo e2 27 w71.heap.size t89 (fun v => v)) false, Slot.det _] (by kernel_rfl) (by kernel_rfl) ?main
          case main =>
           simp only [List.take_succ_cons, List.take_zero]
           refine wpK_ops rfl (fun w1 hu => ?_) ?_
           · clear hu
             go_simp
             first | done | rfl
           simp only [Act.put, nm1, nm2, nm3, i64_w]
           refine wpK_ops rfl (fun w1 hu => ?_) ?_
           · clear hu
             go_simp
             first | done | rfl
           simp only [Act.put, nm1, nm2, nm3, i64_w]
           refine wpK_ops rfl (fun w1 hu => ?_) ?_
           · have cl0 := ((hb2.up (((((hu7.out.trans hu27.out).trans hu47.out).trans hu53.out).grow hg65.out (fun k hk => Nat.le_trans ((Nat.le_trans (hu7.out.size) hu27.out.size)) ((fun k hk => (lb62.out k hk).1) k hk))).trans hu72.out)).up ((Up.refl _).drew.trans hu)).cell (o := 0) rfl
             have cl1 := ((hb2.up (((((hu7.out.trans hu27.out).trans hu47.out).trans hu53.out).grow hg65.out (fun k hk => Nat.le_trans ((Nat.le_trans (hu7.out.size) hu27.out.size)) ((fun k hk => (lb62.out k hk).1) k hk))).trans hu72.out)).up ((Up.refl _).drew.trans hu)).cell (o := 1) rfl
             have cl2 := ((hb2.up (((((hu7.out.trans hu27.out).trans hu47.out).trans hu53.out).grow hg65.out (fun k hk => Nat.le_trans ((Nat.le_trans (hu7.out.size) hu27.out.size)) ((fun k hk => (lb62.out k hk).1) k hk))).trans hu72.out)).up ((Up.refl _).drew.trans hu)).cell (o := 2) rfl
             go_simp
             first | done | rfl
           simp only [Act.put, nm1, nm2, nm3, i64_w]
           refine wpK_ops rfl (fun w1 hu => ?_) ?_
           · have hcl := (laws_toCircle.calls K a2_0 a2_1 a2_2 t81 t82 t83 w1  A84.out)
             clear hu
             replace hcl := Aside0.mk hcl
             go_simp
             exact hcl.out
           simp only [Act.put, nm1, nm2, nm3, i64_w]
           refine wpK_ops rfl (fun w1 hu => ?_) ?_
           · have cl0 := ((hb5.up ((((hu27.out.trans hu47.out).trans hu53.out).grow hg65.out (fun k hk => Nat.le_trans (hu27.out.size) ((fun k hk => (lb62.out k hk).1) k hk))).trans hu72.out)).up ((Up.refl _).drew.trans hu)).cell (o := 0) rfl
             have cl1 := ((hb5.up ((((hu27.out.trans hu47.out).trans hu53.out).grow hg65.out (fun k hk => Nat.le_trans (hu27.out.size) ((fun k hk => (lb62.out k hk).1) k hk))).trans hu72.out)).up ((Up.refl _).drew.trans hu)).cell (o := 1) rfl
             have cl2 := ((hb5.up ((((hu27.out.trans hu47.out).trans hu53.out).grow hg65.out (fun k hk => Nat.le_trans (hu27.out.size) ((fun k hk => (lb62.out k hk).1) k hk))).trans hu72.out)).up ((Up.refl _).drew.trans hu)).cell (o := 2) rfl
             go_simp
             first | done | rfl
           simp only [Act.put, nm1, nm2, nm3, i64_w]
           refine wpK_ops rfl (fun w1 hu => ?_) ?_
           · have hcl := (laws_toLine.calls K a3_0 a3_1 a3_2 t85 t86 t87 w1  A88.out)
             clear hu
             replace hcl := Aside0.mk hcl
             go_simp
             exact hcl.out
           simp only [Act.put, nm1, nm2, nm3, i64_w]
           refine wpK_any rfl (stab_row _ _ _ _ _) (fun w1 hu hl => ?_) (fun v94 => ?_)
           · have hcl := impl_MeetLine.calls K a0 a1 t81 t82 t83 t85 t86 t87 t89 t92 w1  A93.out
             have hz := ((Up.refl _).drew.trans hu).size
             clear hu
             replace hcl := Aside0.mk hcl
             exact fresh_row (by first | (go_simp; done) | (go_simp; rfl)) hcl.out hz
           simp only [Act.put, nm1, nm2, nm3, i64_w]
           refine wpK_any rfl (stab_row _ _ _ _ _) (fun w1 hu hl => ?_) (fun v95 => ?_)
           · exact any_of_run (by first | (go_simp; done) | (go_simp; rfl)) (hl.1 (by kernel_rfl))
           simp only [Act.put, nm1, nm2, nm3, i64_w]
           refine wpK_any rfl (stab_row _ _ _ _ _) (fun w1 hu hl => ?_) (fun v96 => ?_)
           · obtain ⟨A0_, c0_, e0_, hO0_⟩ := hl.1 (by kernel_rfl)
             clear hl hu
             dsimp only at e0_
             subst e0_
             exact any_of_run (u := .slice A0_ t89.length c0_) (by first | (go_simp; done) | (go_simp; rfl)) ⟨A0_, c0_, rfl, hO0_⟩
           simp only [Act.put, nm1, nm2, nm3, i64_w]
           refine wpK_det rfl (fun w1 hu hl => ?_) ?_
           · obtain ⟨A0_, c0_, e0_, hO0_⟩ := hl.2.1 (by kernel_rfl)
             clear hl hu
             dsimp only at e0_
             subst e0_
             clear hO0_
             go_simp
             first | done | rfl
           simp only [Act.put, nm1, nm2, nm3, i64_w]
           refine wpK_any rfl (stab_row _ _ _ _ _) (fun w1 hu hl => ?_) (fun v97 => ?_)
           · exact any_of_run (by first | (go_simp; done) | (go_simp; rfl)) (hl.1 (by kernel_rfl))
           simp only [Act.put, nm1, nm2, nm3, i64_w]
           refine wpK_ops rfl (fun w1 hu => ?_) ?_
           · clear hu
             go_simp
             first | done | rfl
           simp only [Act.put, nm1, nm2, nm3, i64_w]
           refine wpK_nil ?_
           intro w98 hu hap
           simp only [List.drop_succ_cons, List.drop_zero]
           replace hu := (Up.refl _).drew.trans hu
           obtain ⟨-, -, ⟨P90, q91, e0, ht89⟩, -, -, -, -, -, -, -, -, -, -⟩ := hap
           dsimp only at e0
           subst e0
           have hu99 := Aside0.mk hu
           clear hu
           refine wpList_nil ?_
           (try simp only [Exit.then, Exit.inBlock, ↓reduceIte, Nat.reduceEqDiff])
           refine hK80 _ _ ?_
           refine wp_seq_k (fun K100 hK100 => ?_)
           refine wp_seq_k (fun K101 hK101 => ?_)
           refine wp_region_lit ?_
           refine wpList_plain rfl (fun Ko hKo => ?_)
           go_simp
           refine hKo _ _ ?_
           clear hKo Ko
           try simp only [Act.put, nm1, nm2, nm3, i64_w]
           refine wpList_plain rfl (fun Ko hKo => ?_)
           go_simp
           refine hKo _ _ ?_
           clear hKo Ko
           try simp only [Act.put, nm1, nm2, nm3, i64_w]
           refine step_call (wanted_none rfl) (by first | (go_simp; done) | (go_simp; rfl)) (laws_eqPointS.calls K P90 q91 t89 P18 q19 t17 true w98 ht89.rd ((ht17.up ((((hu47.out.trans hu53.out).grow hg65.out (fun k hk => Nat.le_trans (Nat.le_refl _) ((fun k hk => (lb62.out k hk).1) k hk))).trans hu72.out).trans hu99.out)).rd) A103.out) ?_
           rintro e w104 ⟨rfl, hu⟩
           have hu105 := Aside0.mk hu
           clear hu
           refine ⟨_, rfl, ?_⟩
           simp only [Act.put, nm1, nm2, nm3, i64_w]
           refine wpList_plain rfl (fun Ko hKo => ?_)
           go_simp
           refine hKo _ _ ?_
           clear hKo Ko
           try simp only [Act.put, nm1, nm2, nm3, i64_w]
           refine wpList_plain rfl (fun Ko hKo => ?_)
           go_simp
           refine hKo _ _ ?_
           clear hKo Ko
           try simp only [Act.put, nm1, nm2, nm3, i64_w]
           refine wpList_step (fun Ko hKo => ?_)
           go_simp
           refine hKo _ _ ?_
           clear hKo Ko
           try simp only [Act.put, nm1, nm2, nm3, i64_w]
           refine wpList_step (fun Ko hKo => ?_)
           go_simp
           refine hKo _ _ ?_
           clear hKo Ko
           try simp only [Act.put, nm1, nm2, nm3, i64_w]
           refine wpList_step (fun Ko hKo => ?_)
           go_simp
           refine hKo _ _ ?_
           clear hKo Ko
           try simp only [Act.put, nm1, nm2, nm3, i64_w]
           refine wpList_plain rfl (fun Ko hKo => ?_)
           go_simp
           refine hKo _ _ ?_
           clear hKo Ko
           try simp only [Act.put, nm1, nm2, nm3, i64_w]
           refine wpList_nil ?_
           (try simp only [Exit.then, Exit.inBlock, ↓reduceIte, Nat.reduceEqDiff])
           refine hK101 _ _ ?_
           refine wp_cond_false rfl ?_
           refine wp_skip ?_
           (try simp only [Exit.then, Exit.inBlock, ↓reduceIte, Nat.reduceEqDiff])
           refine hK100 _ _ ?_
           refine wp_seq_k (fun K108 hK108 => ?_)
           refine wp_region_lit ?_
           refine wpList_plain rfl (fun Ko hKo => ?_)
           go_simp
           refine hKo _ _ ?_
           clear hKo Ko
           try simp only [Act.put, nm1, nm2, nm3, i64_w]
           refine wpList_nil ?_
           (try simp only [Exit.then, Exit.inBlock, ↓reduceIte, Nat.reduceEqDiff])
           refine hK108 _ _ ?_
           refine wp_seq_k (fun K109 hK109 => ?_)
           refine wp_region_lit ?_
           refine wpList_plain rfl (fun Ko hKo => ?_)
           go_simp
           refine hKo _ _ ?_
           clear hKo Ko
           try simp only [Act.put, nm1, nm2, nm3, i64_w]
           refine wpList_plain rfl (fun Ko hKo => ?_)
           go_simp
           refine hKo _ _ ?_
           clear hKo Ko
           try simp only [Act.put, nm1, nm2, nm3, i64_w]
           refine step_call (wanted_none rfl) (by first | (go_simp; done) | (go_simp; rfl)) (Eq.mp (congrArg (fun n_ => Calls Try.prog 30 #[.slice P38 n_ q39, .int .i64 1] w104 _) (Eq.symm hl66.out)) (laws_heldPointS.calls K P38 q39 t59 1 t110 w104 ((h63.up ((hu72.out.trans hu99.out).trans hu105.out)).rd) A111.out)) ?_
           rintro e w112 ⟨rfl, hu⟩
           have hu113 := Aside0.mk hu
           clear hu
           refine ⟨_, rfl, ?_⟩
           simp only [Act.put, nm1, nm2, nm3, i64_w]
           refine wpList_plain rfl (fun Ko hKo => ?_)
           go_simp
           refine hKo _ _ ?_
           clear hKo Ko
           try simp only [Act.put, nm1, nm2, nm3, i64_w]
           refine wpList_nil ?_
           (try simp only [Exit.then, Exit.inBlock, ↓reduceIte, Nat.reduceEqDiff])
           refine hK109 _ _ ?_
           refine wp_seq_k (fun K114 hK114 => ?_)
           refine wp_seq_k (fun K115 hK115 => ?_)
           refine wp_region_lit ?_
           refine wpList_plain rfl (fun Ko hKo => ?_)
           go_simp
           refine hKo _ _ ?_
           clear hKo Ko
           try simp only [Act.put, nm1, nm2, nm3, i64_w]
           refine wpList_plain rfl (fun Ko hKo => ?_)
           go_simp
           refine hKo _ _ ?_
           clear hKo Ko
           try simp only [Act.put, nm1, nm2, nm3, i64_w]
           refine wpList_nil ?_
           (try simp only [Exit.then, Exit.inBlock, ↓reduceIte, Nat.reduceEqDiff])
           refine hK115 _ _ ?_
           refine wp_cond_true rfl ?_
           refine wp_seq_k (fun K117 hK117 => ?_)
           refine wp_region_lit ?_
           refine wpList_plain rfl (fun Ko hKo => ?_)
           go_simp
           refine hKo _ _ ?_
           clear hKo Ko
           try simp only [Act.put, nm1, nm2, nm3, i64_w]
           refine wpList_nil ?_
           (try simp only [Exit.then, Exit.inBlock, ↓reduceIte, Nat.reduceEqDiff])
           refine hK117 _ _ ?_
           refine wp_ret ?_
           (try simp only [Exit.then, Exit.inBlock, ↓reduceIte, Nat.reduceEqDiff])
           refine hQf _ _ _ ?_
           exact bodyPost_ret (v := .bool false) (by first | rfl | (simp [results, Try.results12, go_sem]; done) | (simp [results, Try.results12, go_sem]; rfl)) rfl ⟨rfl, (((((((((hu4.out.trans hu7.out).trans hu27.out).trans hu47.out).trans hu53.out).grow hg65.out (fun k hk => Nat.le_trans ((Nat.le_trans ((Nat.le_trans (hu4.out.size) hu7.out.size)) hu27.out.size)) ((fun k hk => (lb62.out k hk).1) k hk))).trans hu72.out).trans hu99.out).trans hu105.out).trans hu113.out)⟩
       ·
        rw [if_neg c116] at H
        replace c116 := Bool.eq_false_iff.mpr c116
        by_cases c120 : (t110 == t58) = true
        ·
         rw [if_pos c120] at H
         have c120n : (t110 != t58) = false := by rw [bne, c120]; rfl
         obtain rfl := Option.some.inj H
         go_enter Try.func12, Try.ntmps12
         refine wp_hide (fun Qf hQf => ?_)
         refine wp_seq_k (fun K1 hK1 => ?_)
         refine wp_region_lit ?_
         refine step_new (cs := [.int .i64 a2_0, .int .i64 a2_1, .int .i64 a2_2]) (T := 24) (f := fun b => .pointer (some ⟨b, 0, none⟩)) rfl (by first | (go_simp; done) | (go_simp; rfl)) ?_
         intro b2 w3 hu lb hb2
         simp only [Act.put, nm1, nm2, nm3, i64_w]
         have lbb2 := Aside0.mk lb
         have ltb2 := Aside0.mk hb2.lt
         clear lb
         have hu4 := Aside0.mk hu
         clear hu
         refine step_new (cs := [.int .i64 a3_0, .int .i64 a3_1, .int .i64 a3_2]) (T := 39) (f := fun b => .pointer (some ⟨b, 0, none⟩)) rfl (by first | (go_simp; done) | (go_simp; rfl)) ?_
         intro b5 w6 hu lb hb5
         simp only [Act.put, nm1, nm2, nm3, i64_w]
         have lbb5 := Aside0.mk lb
         have ltb5 := Aside0.mk hb5.lt
         clear lb
         have hu7 := Aside0.mk hu
         clear hu
         refine wpList_plain rfl (fun Ko hKo => ?_)
         go_simp
         refine hKo _ _ ?_
         clear hKo Ko
         try simp only [Act.put, nm1, nm2, nm3, i64_w]
         refine wpList_nil ?_
         (try simp only [Exit.then, Exit.inBlock, ↓reduceIte, Nat.reduceEqDiff])
         refine hK1 _ _ ?_
         refine wp_seq_k (fun K8 hK8 => ?_)
         refine' wp_region_up 12 [Slot.det _, Slot.det _, Slot.det _, Slot.det (.agg #[.int .i64 t9, .int .i64 t10, .int .i64 t11]), Slot.det _, Slot.det (.agg #[.int .i64 t13, .int .i64 t14, .int .i64 t15]), Slot.any (RowTo e2 27 w6.heap.size t17 (fun v => .tuple #[v, .int .i64 t20])) false, Slot.any (RowTo e2 27 w6.heap.size t17 (fun v => .tuple #[v, .int .i64 t20])) false, Slot.any (RowTo e2 27 w6.heap.size t17 (fun v => v)) false, Slot.det (.int .i64 t20), Slot.any (RowTo e2 27 w6.heap.size t17 (fun v => v)) false, Slot.det _] (by kernel_rfl) (by kernel_rfl) ?main
         case main =>
          simp only [List.take_succ_cons, List.take_zero]
          refine wpK_ops rfl (fun w1 hu => ?_) ?_
          · clear hu
            go_simp
            first | done | rfl
          simp only [Act.put, nm1, nm2, nm3, i64_w]
          refine wpK_ops rfl (fun w1 hu => ?_) ?_
          · clear hu
            go_simp
            first | done | rfl
          simp only [Act.put, nm1, nm2, nm3, i64_w]
          refine wpK_ops rfl (fun w1 hu => ?_) ?_
          · have cl0 := ((hb2.up hu7.out).up ((Up.refl _).drew.trans hu)).cell (o := 0) rfl
            have cl1 := ((hb2.up hu7.out).up ((Up.refl _).drew.trans hu)).cell (o := 1) rfl
            have cl2 := ((hb2.up hu7.out).up ((Up.refl _).drew.trans hu)).cell (o := 2) rfl
            go_simp
            first | done | rfl
          simp only [Act.put, nm1, nm2, nm3, i64_w]
          refine wpK_ops rfl (fun w1 hu => ?_) ?_
          · have hcl := (laws_toCircle.calls K a2_0 a2_1 a2_2 t9 t10 t11 w1  A12.out)
            clear hu
            replace hcl := Aside0.mk hcl
            go_simp
            exact hcl.out
          simp only [Act.put, nm1, nm2, nm3, i64_w]
          refine wpK_ops rfl (fun w1 hu => ?_) ?_
          · have cl0 := (hb5.up ((Up.refl _).drew.trans hu)).cell (o := 0) rfl
            have cl1 := (hb5.up ((Up.refl _).drew.trans hu)).cell (o := 1) rfl
            have cl2 := (hb5.up ((Up.refl _).drew.trans hu)).cell (o := 2) rfl
            go_simp
            first | done | rfl
          simp only [Act.put, nm1, nm2, nm3, i64_w]
          refine wpK_ops rfl (fun w1 hu => ?_) ?_
          · have hcl := (laws_toLine.calls K a3_0 a3_1 a3_2 t13 t14 t15 w1  A16.out)
            clear hu
            replace hcl := Aside0.mk hcl
            go_simp
            exact hcl.out
          simp only [Act.put, nm1, nm2, nm3, i64_w]
          refine wpK_any rfl (stab_row _ _ _ _ _) (fun w1 hu hl => ?_) (fun v22 => ?_)
          · have hcl := spec_MeetLine.calls K a0 a1 t9 t10 t11 t13 t14 t15 t17 t20 w1  A21.out
            have hz := ((Up.refl _).drew.trans hu).size
            clear hu
            replace hcl := Aside0.mk hcl
            exact fresh_row (by first | (go_simp; done) | (go_simp; rfl)) hcl.out hz
          simp only [Act.put, nm1, nm2, nm3, i64_w]
          refine wpK_any rfl (stab_row _ _ _ _ _) (fun w1 hu hl => ?_) (fun v23 => ?_)
          · exact any_of_run (by first | (go_simp; done) | (go_simp; rfl)) (hl.1 (by kernel_rfl))
          simp only [Act.put, nm1, nm2, nm3, i64_w]
          refine wpK_any rfl (stab_row _ _ _ _ _) (fun w1 hu hl => ?_) (fun v24 => ?_)
          · obtain ⟨A0_, c0_, e0_, hO0_⟩ := hl.1 (by kernel_rfl)
            clear hl hu
            dsimp only at e0_
            subst e0_
            exact any_of_run (u := .slice A0_ t17.length c0_) (by first | (go_simp; done) | (go_simp; rfl)) ⟨A0_, c0_, rfl, hO0_⟩
          simp only [Act.put, nm1, nm2, nm3, i64_w]
          refine wpK_det rfl (fun w1 hu hl => ?_) ?_
          · obtain ⟨A0_, c0_, e0_, hO0_⟩ := hl.2.1 (by kernel_rfl)
            clear hl hu
            dsimp only at e0_
            subst e0_
            clear hO0_
            go_simp
            first | done | rfl
          simp only [Act.put, nm1, nm2, nm3, i64_w]
          refine wpK_any rfl (stab_row _ _ _ _ _) (fun w1 hu hl => ?_) (fun v25 => ?_)
          · exact any_of_run (by first | (go_simp; done) | (go_simp; rfl)) (hl.1 (by kernel_rfl))
          simp only [Act.put, nm1, nm2, nm3, i64_w]
          refine wpK_ops rfl (fun w1 hu => ?_) ?_
          · clear hu
            go_simp
            first | done | rfl
          simp only [Act.put, nm1, nm2, nm3, i64_w]
          refine wpK_nil ?_
          intro w26 hu hap
          simp only [List.drop_succ_cons, List.drop_zero]
          replace hu := (Up.refl _).drew.trans hu
          obtain ⟨-, -, ⟨P18, q19, e0, ht17⟩, -, -, -, -, -, -, -, -, -, -⟩ := hap
          dsimp only at e0
          subst e0
          have hu27 := Aside0.mk hu
          clear hu
          refine wpList_nil ?_
          (try simp only [Exit.then, Exit.inBlock, ↓reduceIte, Nat.reduceEqDiff])
          refine hK8 _ _ ?_
          refine wp_seq_k (fun K28 hK28 => ?_)
          refine' wp_region_up 12 [Slot.det _, Slot.det _, Slot.det _, Slot.det (.agg #[.int .i64 t29, .int .i64 t30, .int .i64 t31]), Slot.det _, Slot.det (.agg #[.int .i64 t33, .int .i64 t34, .int .i64 t35]), Slot.any (RowTo e2 27 w26.heap.size t37 (fun v => .tuple #[v, .int .i64 t40])) false, Slot.any (RowTo e2 27 w26.heap.size t37 (fun v => .tuple #[v, .int .i64 t40])) false, Slot.any (RowTo e2 27 w26.heap.size t37 (fun v => v)) false, Slot.det (.int .i64 t40), Slot.any (RowTo e2 27 w26.heap.size t37 (fun v => v)) false, Slot.det _] (by kernel_rfl) (by kernel_rfl) ?main
          case main =>
           simp only [List.take_succ_cons, List.take_zero]
           refine wpK_ops rfl (fun w1 hu => ?_) ?_
           · clear hu
             go_simp
             first | done | rfl
           simp only [Act.put, nm1, nm2, nm3, i64_w]
           refine wpK_ops rfl (fun w1 hu => ?_) ?_
           · clear hu
             go_simp
             first | done | rfl
           simp only [Act.put, nm1, nm2, nm3, i64_w]
           refine wpK_ops rfl (fun w1 hu => ?_) ?_
           · have cl0 := ((hb2.up (hu7.out.trans hu27.out)).up ((Up.refl _).drew.trans hu)).cell (o := 0) rfl
             have cl1 := ((hb2.up (hu7.out.trans hu27.out)).up ((Up.refl _).drew.trans hu)).cell (o := 1) rfl
             have cl2 := ((hb2.up (hu7.out.trans hu27.out)).up ((Up.refl _).drew.trans hu)).cell (o := 2) rfl
             go_simp
             first | done | rfl
           simp only [Act.put, nm1, nm2, nm3, i64_w]
           refine wpK_ops rfl (fun w1 hu => ?_) ?_
           · have hcl := (laws_toCircle.calls K a2_0 a2_1 a2_2 t29 t30 t31 w1  A32.out)
             clear hu
             replace hcl := Aside0.mk hcl
             go_simp
             exact hcl.out
           simp only [Act.put, nm1, nm2, nm3, i64_w]
           refine wpK_ops rfl (fun w1 hu => ?_) ?_
           · have cl0 := ((hb5.up hu27.out).up ((Up.refl _).drew.trans hu)).cell (o := 0) rfl
             have cl1 := ((hb5.up hu27.out).up ((Up.refl _).drew.trans hu)).cell (o := 1) rfl
             have cl2 := ((hb5.up hu27.out).up ((Up.refl _).drew.trans hu)).cell (o := 2) rfl
             go_simp
             first | done | rfl
           simp only [Act.put, nm1, nm2, nm3, i64_w]
           refine wpK_ops rfl (fun w1 hu => ?_) ?_
           · have hcl := (laws_toLine.calls K a3_0 a3_1 a3_2 t33 t34 t35 w1  A36.out)
             clear hu
             replace hcl := Aside0.mk hcl
             go_simp
             exact hcl.out
           simp only [Act.put, nm1, nm2, nm3, i64_w]
           refine wpK_any rfl (stab_row _ _ _ _ _) (fun w1 hu hl => ?_) (fun v42 => ?_)
           · have hcl := impl_MeetLine.calls K a0 a1 t29 t30 t31 t33 t34 t35 t37 t40 w1  A41.out
             have hz := ((Up.refl _).drew.trans hu).size
             clear hu
             replace hcl := Aside0.mk hcl
             exact fresh_row (by first | (go_simp; done) | (go_simp; rfl)) hcl.out hz
           simp only [Act.put, nm1, nm2, nm3, i64_w]
           refine wpK_any rfl (stab_row _ _ _ _ _) (fun w1 hu hl => ?_) (fun v43 => ?_)
           · exact any_of_run (by first | (go_simp; done) | (go_simp; rfl)) (hl.1 (by kernel_rfl))
           simp only [Act.put, nm1, nm2, nm3, i64_w]
           refine wpK_any rfl (stab_row _ _ _ _ _) (fun w1 hu hl => ?_) (fun v44 => ?_)
           · obtain ⟨A0_, c0_, e0_, hO0_⟩ := hl.1 (by kernel_rfl)
             clear hl hu
             dsimp only at e0_
             subst e0_
             exact any_of_run (u := .slice A0_ t37.length c0_) (by first | (go_simp; done) | (go_simp; rfl)) ⟨A0_, c0_, rfl, hO0_⟩
           simp only [Act.put, nm1, nm2, nm3, i64_w]
           refine wpK_det rfl (fun w1 hu hl => ?_) ?_
           · obtain ⟨A0_, c0_, e0_, hO0_⟩ := hl.2.1 (by kernel_rfl)
             clear hl hu
             dsimp only at e0_
             subst e0_
             clear hO0_
             go_simp
             first | done | rfl
           simp only [Act.put, nm1, nm2, nm3, i64_w]
           refine wpK_any rfl (stab_row _ _ _ _ _) (fun w1 hu hl => ?_) (fun v45 => ?_)
           · exact any_of_run (by first | (go_simp; done) | (go_simp; rfl)) (hl.1 (by kernel_rfl))
           simp only [Act.put, nm1, nm2, nm3, i64_w]
           refine wpK_ops rfl (fun w1 hu => ?_) ?_
           · clear hu
             go_simp
             first | done | rfl
           simp only [Act.put, nm1, nm2, nm3, i64_w]
           refine wpK_nil ?_
           intro w46 hu hap
           simp only [List.drop_succ_cons, List.drop_zero]
           replace hu := (Up.refl _).drew.trans hu
           obtain ⟨-, -, ⟨P38, q39, e0, ht37⟩, -, -, -, -, -, -, -, -, -, -⟩ := hap
           dsimp only at e0
           subst e0
           have hu47 := Aside0.mk hu
           clear hu
           refine wpList_nil ?_
           (try simp only [Exit.then, Exit.inBlock, ↓reduceIte, Nat.reduceEqDiff])
           refine hK28 _ _ ?_
           refine wp_seq_k (fun K48 hK48 => ?_)
           refine wp_seq_k (fun K49 hK49 => ?_)
           refine wp_region_lit ?_
           refine wpList_plain rfl (fun Ko hKo => ?_)
           go_simp
           refine hKo _ _ ?_
           clear hKo Ko
           try simp only [Act.put, nm1, nm2, nm3, i64_w]
           refine wpList_plain rfl (fun Ko hKo => ?_)
           go_simp
           refine hKo _ _ ?_
           clear hKo Ko
           try simp only [Act.put, nm1, nm2, nm3, i64_w]
           refine step_call (wanted_none rfl) (by first | (go_simp; done) | (go_simp; rfl)) (laws_eqPointS.calls K P38 q39 t37 P18 q19 t17 true w46 ht37.rd ((ht17.up hu47.out).rd) A51.out) ?_
           rintro e w52 ⟨rfl, hu⟩
           have hu53 := Aside0.mk hu
           clear hu
           refine ⟨_, rfl, ?_⟩
           simp only [Act.put, nm1, nm2, nm3, i64_w]
           refine wpList_plain rfl (fun Ko hKo => ?_)
           go_simp
           refine hKo _ _ ?_
           clear hKo Ko
           try simp only [Act.put, nm1, nm2, nm3, i64_w]
           refine wpList_plain rfl (fun Ko hKo => ?_)
           go_simp
           refine hKo _ _ ?_
           clear hKo Ko
           try simp only [Act.put, nm1, nm2, nm3, i64_w]
           refine wpList_step (fun Ko hKo => ?_)
           go_simp
           refine hKo _ _ ?_
           clear hKo Ko
           try simp only [Act.put, nm1, nm2, nm3, i64_w]
           refine wpList_step (fun Ko hKo => ?_)
           go_simp
           refine hKo _ _ ?_
           clear hKo Ko
           try simp only [Act.put, nm1, nm2, nm3, i64_w]
           refine wpList_step (fun Ko hKo => ?_)
           go_simp
           refine hKo _ _ ?_
           clear hKo Ko
           try simp only [Act.put, nm1, nm2, nm3, i64_w]
           refine wpList_plain rfl (fun Ko hKo => ?_)
           go_simp
           refine hKo _ _ ?_
           clear hKo Ko
           try simp only [Act.put, nm1, nm2, nm3, i64_w]
           refine wpList_nil ?_
           (try simp only [Exit.then, Exit.inBlock, ↓reduceIte, Nat.reduceEqDiff])
           refine hK49 _ _ ?_
           refine wp_cond_false rfl ?_
           refine wp_skip ?_
           (try simp only [Exit.then, Exit.inBlock, ↓reduceIte, Nat.reduceEqDiff])
           refine hK48 _ _ ?_
           refine wp_seq_k (fun K56 hK56 => ?_)
           refine wp_region_lit ?_
           refine wpList_plain rfl (fun Ko hKo => ?_)
           go_simp
           refine hKo _ _ ?_
           clear hKo Ko
           try simp only [Act.put, nm1, nm2, nm3, i64_w]
           refine wpList_nil ?_
           (try simp only [Exit.then, Exit.inBlock, ↓reduceIte, Nat.reduceEqDiff])
           refine hK56 _ _ ?_
           refine wp_seq_k (fun K57 hK57 => ?_)
           refine wp_region_lit ?_
           refine wpList_plain rfl (fun Ko hKo => ?_)
           go_simp
           refine hKo _ _ ?_
           clear hKo Ko
           try simp only [Act.put, nm1, nm2, nm3, i64_w]
           refine wpList_plain rfl (fun Ko hKo => ?_)
           go_simp
           refine hKo _ _ ?_
           clear hKo Ko
           try simp only [Act.put, nm1, nm2, nm3, i64_w]
           refine step_call (wanted_none rfl) (by first | (go_simp; done) | (go_simp; rfl)) (laws_markPointS.calls K P38 q39 w26.heap.size t37 1 t58 t59 w52 (ht37.up hu53.out) A60.out) ?_
           have lb62 := Aside0.mk (ht37.up hu53.out).lt
           rintro e w61 ⟨rfl, h63, hl, hg⟩
           have hg65 := Aside0.mk hg
           have hl64 := hl
           clear hg hl
           have hl66 : Aside0 (t37.length = t59.length) := Aside0.mk hl64.out
           refine ⟨_, rfl, ?_⟩
           simp only [Act.put, nm1, nm2, nm3, i64_w]
           refine wpList_plain rfl (fun Ko hKo => ?_)
           go_simp
           refine hKo _ _ ?_
           clear hKo Ko
           try simp only [Act.put, nm1, nm2, nm3, i64_w]
           refine wpList_nil ?_
           (try simp only [Exit.then, Exit.inBlock, ↓reduceIte, Nat.reduceEqDiff])
           refine hK57 _ _ ?_
           refine wp_seq_k (fun K67 hK67 => ?_)
           refine wp_region_lit ?_
           refine wpList_plain rfl (fun Ko hKo => ?_)
           go_simp
           refine hKo _ _ ?_
           clear hKo Ko
           try simp only [Act.put, nm1, nm2, nm3, i64_w]
           refine wpList_nil ?_
           (try simp only [Exit.then, Exit.inBlock, ↓reduceIte, Nat.reduceEqDiff])
           refine hK67 _ _ ?_
           refine wp_seq_k (fun K68 hK68 => ?_)
           refine wp_region_lit ?_
           refine wpList_plain rfl (fun Ko hKo => ?_)
           go_simp
           refine hKo _ _ ?_
           clear hKo Ko
           try simp only [Act.put, nm1, nm2, nm3, i64_w]
           refine wpList_plain rfl (fun Ko hKo => ?_)
           go_simp
           refine hKo _ _ ?_
           clear hKo Ko
           try simp only [Act.put, nm1, nm2, nm3, i64_w]
           refine step_call (wanted_none rfl) (by first | (go_simp; done) | (go_simp; rfl)) (Eq.mp (congrArg (fun n_ => Calls Try.prog 30 #[.slice P38 n_ q39, .int .i64 1] w61 _) (Eq.symm hl66.out)) (laws_heldPointS.calls K P38 q39 t59 1 t69 w61 h63.rd A70.out)) ?_
           rintro e w71 ⟨rfl, hu⟩
           have hu72 := Aside0.mk hu
           clear hu
           refine ⟨_, rfl, ?_⟩
           simp only [Act.put, nm1, nm2, nm3, i64_w]
           refine wpList_plain rfl (fun Ko hKo => ?_)
           go_simp
           refine hKo _ _ ?_
           clear hKo Ko
           try simp only [Act.put, nm1, nm2, nm3, i64_w]
           refine wpList_nil ?_
           (try simp only [Exit.then, Exit.inBlock, ↓reduceIte, Nat.reduceEqDiff])
           refine hK68 _ _ ?_
           refine wp_seq_k (fun K73 hK73 => ?_)
           refine wp_seq_k (fun K74 hK74 => ?_)
           refine wp_region_lit ?_
           refine wpList_plain rfl (fun Ko hKo => ?_)
           go_simp
           refine hKo _ _ ?_
           clear hKo Ko
           try simp only [Act.put, nm1, nm2, nm3, i64_w]
           refine wpList_plain rfl (fun Ko hKo => ?_)
           go_simp
           refine hKo _ _ ?_
           clear hKo Ko
           try simp only [Act.put, nm1, nm2, nm3, i64_w]
           refine wpList_nil ?_
           (try simp only [Exit.then, Exit.inBlock, ↓reduceIte, Nat.reduceEqDiff])
           refine hK74 _ _ ?_
           refine wp_cond_false rfl ?_
           refine wp_skip ?_
           (try simp only [Exit.then, Exit.inBlock, ↓reduceIte, Nat.reduceEqDiff])
           refine hK73 _ _ ?_
           refine wp_seq_k (fun K77 hK77 => ?_)
           refine wp_seq_k (fun K78 hK78 => ?_)
           refine wp_region_lit ?_
           refine wpList_plain rfl (fun Ko hKo => ?_)
           go_simp
           refine hKo _ _ ?_
           clear hKo Ko
           try simp only [Act.put, nm1, nm2, nm3, i64_w]
           refine wpList_plain rfl (fun Ko hKo => ?_)
           go_simp
           refine hKo _ _ ?_
           clear hKo Ko
           try simp only [Act.put, nm1, nm2, nm3, i64_w]
           refine wpList_plain rfl (fun Ko hKo => ?_)
           go_simp
           refine hKo _ _ ?_
           clear hKo Ko
           try simp only [Act.put, nm1, nm2, nm3, i64_w]
           refine wpList_nil ?_
           (try simp only [Exit.then, Exit.inBlock, ↓reduceIte, Nat.reduceEqDiff])
           refine hK78 _ _ ?_
           refine wp_cond_false rfl ?_
           refine wp_skip ?_
           (try simp only [Exit.then, Exit.inBlock, ↓reduceIte, Nat.reduceEqDiff])
           refine hK77 _ _ ?_
           refine wp_seq_k (fun K80 hK80 => ?_)
           refine' wp_region_up 12 [Slot.det _, Slot.det _, Slot.det _, Slot.det (.agg #[.int .i64 t81, .int .i64 t82, .int .i64 t83]), Slot.det _, Slot.det (.agg #[.int .i64 t85, .int .i64 t86, .int .i64 t87]), Slot.any (RowTo e2 27 w71.heap.size t89 (fun v => .tuple #[v, .int .i64 t92])) false, Slot.any (RowTo e2 27 w71.heap.size t89 (fun v => .tuple #[v, .int .i64 t92])) false, Slot.any (RowTo e2 27 w71.heap.size t89 (fun v => v)) false, Slot.det (.int .i64 t92), Slot.any (RowTo e2 27 w71.heap.size t89 (fun v => v)) false, Slot.det _] (by kernel_rfl) (by kernel_rfl) ?main
           case main =>
            simp only [List.take_succ_cons, List.take_zero]
            refine wpK_ops rfl (fun w1 hu => ?_) ?_
            · clear hu
              go_simp
              first | done | rfl
            simp only [Act.put, nm1, nm2, nm3, i64_w]
            refine wpK_ops rfl (fun w1 hu => ?_) ?_
            · clear hu
              go_simp
              first | done | rfl
            simp only [Act.put, nm1, nm2, nm3, i64_w]
            refine wpK_ops rfl (fun w1 hu => ?_) ?_
            · have cl0 := ((hb2.up (((((hu7.out.trans hu27.out).trans hu47.out).trans hu53.out).grow hg65.out (fun k hk => Nat.le_trans ((Nat.le_trans (hu7.out.size) hu27.out.size)) ((fun k hk => (lb62.out k hk).1) k hk))).trans hu72.out)).up ((Up.refl _).drew.trans hu)).cell (o := 0) rfl
              have cl1 := ((hb2.up (((((hu7.out.trans hu27.out).trans hu47.out).trans hu53.out).grow hg65.out (fun k hk => Nat.le_trans ((Nat.le_trans (hu7.out.size) hu27.out.size)) ((fun k hk => (lb62.out k hk).1) k hk))).trans hu72.out)).up ((Up.refl _).drew.trans hu)).cell (o := 1) rfl
              have cl2 := ((hb2.up (((((hu7.out.trans hu27.out).trans hu47.out).trans hu53.out).grow hg65.out (fun k hk => Nat.le_trans ((Nat.le_trans (hu7.out.size) hu27.out.size)) ((fun k hk => (lb62.out k hk).1) k hk))).trans hu72.out)).up ((Up.refl _).drew.trans hu)).cell (o := 2) rfl
              go_simp
              first | done | rfl
            simp only [Act.put, nm1, nm2, nm3, i64_w]
            refine wpK_ops rfl (fun w1 hu => ?_) ?_
            · have hcl := (laws_toCircle.calls K a2_0 a2_1 a2_2 t81 t82 t83 w1  A84.out)
              clear hu
              replace hcl := Aside0.mk hcl
              go_simp
              exact hcl.out
            simp only [Act.put, nm1, nm2, nm3, i64_w]
            refine wpK_ops rfl (fun w1 hu => ?_) ?_
            · have cl0 := ((hb5.up ((((hu27.out.trans hu47.out).trans hu53.out).grow hg65.out (fun k hk => Nat.le_trans (hu27.out.size) ((fun k hk => (lb62.out k hk).1) k hk))).trans hu72.out)).up ((Up.refl _).drew.trans hu)).cell (o := 0) rfl
              have cl1 := ((hb5.up ((((hu27.out.trans hu47.out).trans hu53.out).grow hg65.out (fun k hk => Nat.le_trans (hu27.out.size) ((fun k hk => (lb62.out k hk).1) k hk))).trans hu72.out)).up ((Up.refl _).drew.trans hu)).cell (o := 1) rfl
              have cl2 := ((hb5.up ((((hu27.out.trans hu47.out).trans hu53.out).grow hg65.out (fun k hk => Nat.le_trans (hu27.out.size) ((fun k hk => (lb62.out k hk).1) k hk))).trans hu72.out)).up ((Up.refl _).drew.trans hu)).cell (o := 2) rfl
              go_simp
              first | done | rfl
            simp only [Act.put, nm1, nm2, nm3, i64_w]
            refine wpK_ops rfl (fun w1 hu => ?_) ?_
            · have hcl := (laws_toLine.calls K a3_0 a3_1 a3_2 t85 t86 t87 w1  A88.out)
              clear hu
              replace hcl := Aside0.mk hcl
              go_simp
              exact hcl.out
            simp only [Act.put, nm1, nm2, nm3, i64_w]
            refine wpK_any rfl (stab_row _ _ _ _ _) (fun w1 hu hl => ?_) (fun v94 => ?_)
            · have hcl := impl_MeetLine.calls K a0 a1 t81 t82 t83 t85 t86 t87 t89 t92 w1  A93.out
              have hz := ((Up.refl _).drew.trans hu).size
              clear hu
              replace hcl := Aside0.mk hcl
              exact fresh_row (by first | (go_simp; done) | (go_simp; rfl)) hcl.out hz
            simp only [Act.put, nm1, nm2, nm3, i64_w]
            refine wpK_any rfl (stab_row _ _ _ _ _) (fun w1 hu hl => ?_) (fun v95 => ?_)
            · exact any_of_run (by first | (go_simp; done) | (go_simp; rfl)) (hl.1 (by kernel_rfl))
            simp only [Act.put, nm1, nm2, nm3, i64_w]
            refine wpK_any rfl (stab_row _ _ _ _ _) (fun w1 hu hl => ?_) (fun v96 => ?_)
            · obtain ⟨A0_, c0_, e0_, hO0_⟩ := hl.1 (by kernel_rfl)
              clear hl hu
              dsimp only at e0_
              subst e0_
              exact any_of_run (u := .slice A0_ t89.length c0_) (by first | (go_simp; done) | (go_simp; rfl)) ⟨A0_, c0_, rfl, hO0_⟩
            simp only [Act.put, nm1, nm2, nm3, i64_w]
            refine wpK_det rfl (fun w1 hu hl => ?_) ?_
            · obtain ⟨A0_, c0_, e0_, hO0_⟩ := hl.2.1 (by kernel_rfl)
              clear hl hu
              dsimp only at e0_
              subst e0_
              clear hO0_
              go_simp
              first | done | rfl
            simp only [Act.put, nm1, nm2, nm3, i64_w]
            refine wpK_any rfl (stab_row _ _ _ _ _) (fun w1 hu hl => ?_) (fun v97 => ?_)
            · exact any_of_run (by first | (go_simp; done) | (go_simp; rfl)) (hl.1 (by kernel_rfl))
            simp only [Act.put, nm1, nm2, nm3, i64_w]
            refine wpK_ops rfl (fun w1 hu => ?_) ?_
            · clear hu
              go_simp
              first | done | rfl
            simp only [Act.put, nm1, nm2, nm3, i64_w]
            refine wpK_nil ?_
            intro w98 hu hap
            simp only [List.drop_succ_cons, List.drop_zero]
            replace hu := (Up.refl _).drew.trans hu
            obtain ⟨-, -, ⟨P90, q91, e0, ht89⟩, -, -, -, -, -, -, -, -, -, -⟩ := hap
            dsimp only at e0
            subst e0
            have hu99 := Aside0.mk hu
            clear hu
            refine wpList_nil ?_
            (try simp only [Exit.then, Exit.inBlock, ↓reduceIte, Nat.reduceEqDiff])
            refine hK80 _ _ ?_
            refine wp_seq_k (fun K100 hK100 => ?_)
            refine wp_seq_k (fun K101 hK101 => ?_)
            refine wp_region_lit ?_
            refine wpList_plain rfl (fun Ko hKo => ?_)
            go_simp
            refine hKo _ _ ?_
            clear hKo Ko
            try simp only [Act.put, nm1, nm2, nm3, i64_w]
            refine wpList_plain rfl (fun Ko hKo => ?_)
            go_simp
            refine hKo _ _ ?_
            clear hKo Ko
            try simp only [Act.put, nm1, nm2, nm3, i64_w]
            refine step_call (wanted_none rfl) (by first | (go_simp; done) | (go_simp; rfl)) (laws_eqPointS.calls K P90 q91 t89 P18 q19 t17 true w98 ht89.rd ((ht17.up ((((hu47.out.trans hu53.out).grow hg65.out (fun k hk => Nat.le_trans (Nat.le_refl _) ((fun k hk => (lb62.out k hk).1) k hk))).trans hu72.out).trans hu99.out)).rd) A103.out) ?_
            rintro e w104 ⟨rfl, hu⟩
            have hu105 := Aside0.mk hu
            clear hu
            refine ⟨_, rfl, ?_⟩
            simp only [Act.put, nm1, nm2, nm3, i64_w]
            refine wpList_plain rfl (fun Ko hKo => ?_)
            go_simp
            refine hKo _ _ ?_
            clear hKo Ko
            try simp only [Act.put, nm1, nm2, nm3, i64_w]
            refine wpList_plain rfl (fun Ko hKo => ?_)
            go_simp
            refine hKo _ _ ?_
            clear hKo Ko
            try simp only [Act.put, nm1, nm2, nm3, i64_w]
            refine wpList_step (fun Ko hKo => ?_)
            go_simp
            refine hKo _ _ ?_
            clear hKo Ko
            try simp only [Act.put, nm1, nm2, nm3, i64_w]
            refine wpList_step (fun Ko hKo => ?_)
            go_simp
            refine hKo _ _ ?_
            clear hKo Ko
            try simp only [Act.put, nm1, nm2, nm3, i64_w]
            refine wpList_step (fun Ko hKo => ?_)
            go_simp
            refine hKo _ _ ?_
            clear hKo Ko
            try simp only [Act.put, nm1, nm2, nm3, i64_w]
            refine wpList_plain rfl (fun Ko hKo => ?_)
            go_simp
            refine hKo _ _ ?_
            clear hKo Ko
            try simp only [Act.put, nm1, nm2, nm3, i64_w]
            refine wpList_nil ?_
            (try simp only [Exit.then, Exit.inBlock, ↓reduceIte, Nat.reduceEqDiff])
            refine hK101 _ _ ?_
            refine wp_cond_false rfl ?_
            refine wp_skip ?_
            (try simp only [Exit.then, Exit.inBlock, ↓reduceIte, Nat.reduceEqDiff])
            refine hK100 _ _ ?_
            refine wp_seq_k (fun K108 hK108 => ?_)
            refine wp_region_lit ?_
            refine wpList_plain rfl (fun Ko hKo => ?_)
            go_simp
            refine hKo _ _ ?_
            clear hKo Ko
            try simp only [Act.put, nm1, nm2, nm3, i64_w]
            refine wpList_nil ?_
            (try simp only [Exit.then, Exit.inBlock, ↓reduceIte, Nat.reduceEqDiff])
            refine hK108 _ _ ?_
            refine wp_seq_k (fun K109 hK109 => ?_)
            refine wp_region_lit ?_
            refine wpList_plain rfl (fun Ko hKo => ?_)
            go_simp
            refine hKo _ _ ?_
            clear hKo Ko
            try simp only [Act.put, nm1, nm2, nm3, i64_w]
            refine wpList_plain rfl (fun Ko hKo => ?_)
            go_simp
            refine hKo _ _ ?_
            clear hKo Ko
            try simp only [Act.put, nm1, nm2, nm3, i64_w]
            refine step_call (wanted_none rfl) (by first | (go_simp; done) | (go_simp; rfl)) (Eq.mp (congrArg (fun n_ => Calls Try.prog 30 #[.slice P38 n_ q39, .int .i64 1] w104 _) (Eq.symm hl66.out)) (laws_heldPointS.calls K P38 q39 t59 1 t110 w104 ((h63.up ((hu72.out.trans hu99.out).trans hu105.out)).rd) A111.out)) ?_
            rintro e w112 ⟨rfl, hu⟩
            have hu113 := Aside0.mk hu
            clear hu
            refine ⟨_, rfl, ?_⟩
            simp only [Act.put, nm1, nm2, nm3, i64_w]
            refine wpList_plain rfl (fun Ko hKo => ?_)
            go_simp
            refine hKo _ _ ?_
            clear hKo Ko
            try simp only [Act.put, nm1, nm2, nm3, i64_w]
            refine wpList_nil ?_
            (try simp only [Exit.then, Exit.inBlock, ↓reduceIte, Nat.reduceEqDiff])
            refine hK109 _ _ ?_
            refine wp_seq_k (fun K114 hK114 => ?_)
            refine wp_seq_k (fun K115 hK115 => ?_)
            refine wp_region_lit ?_
            refine wpList_plain rfl (fun Ko hKo => ?_)
            go_simp
            refine hKo _ _ ?_
            clear hKo Ko
            try simp only [Act.put, nm1, nm2, nm3, i64_w]
            refine wpList_plain rfl (fun Ko hKo => ?_)
            go_simp
            refine hKo _ _ ?_
            clear hKo Ko
            try simp only [Act.put, nm1, nm2, nm3, i64_w]
            refine wpList_nil ?_
            (try simp only [Exit.then, Exit.inBlock, ↓reduceIte, Nat.reduceEqDiff])
            refine hK115 _ _ ?_
            refine wp_cond_false rfl ?_
            refine wp_skip ?_
            (try simp only [Exit.then, Exit.inBlock, ↓reduceIte, Nat.reduceEqDiff])
            refine hK114 _ _ ?_
            refine wp_seq_k (fun K118 hK118 => ?_)
            refine wp_seq_k (fun K119 hK119 => ?_)
            refine wp_region_lit ?_
            refine wpList_plain rfl (fun Ko hKo => ?_)
            go_simp
            refine hKo _ _ ?_
            clear hKo Ko
            try simp only [Act.put, nm1, nm2, nm3, i64_w]
            refine wpList_plain rfl (fun Ko hKo => ?_)
            go_simp
            refine hKo _ _ ?_
            clear hKo Ko
            try simp only [Act.put, nm1, nm2, nm3, i64_w]
            refine wpList_plain rfl (fun Ko hKo => ?_)
            go_simp
            refine hKo _ _ ?_
            clear hKo Ko
            try simp only [Act.put, nm1, nm2, nm3, i64_w]
            refine wpList_nil ?_
            (try simp only [Exit.then, Exit.inBlock, ↓reduceIte, Nat.reduceEqDiff])
            refine hK119 _ _ ?_
            refine wp_cond_false rfl ?_
            refine wp_skip ?_
            (try simp only [Exit.then, Exit.inBlock, ↓reduceIte, Nat.reduceEqDiff])
            refine hK118 _ _ ?_
            refine wp_seq_k (fun K121 hK121 => ?_)
            refine wp_region_lit ?_
            refine wpList_plain rfl (fun Ko hKo => ?_)
            go_simp
            refine hKo _ _ ?_
            clear hKo Ko
            try simp only [Act.put, nm1, nm2, nm3, i64_w]
            refine wpList_nil ?_
            (try simp only [Exit.then, Exit.inBlock, ↓reduceIte, Nat.reduceEqDiff])
            refine hK121 _ _ ?_
            refine wp_ret ?_
            (try simp only [Exit.then, Exit.inBlock, ↓reduceIte, Nat.reduceEqDiff])
            refine hQf _ _ _ ?_
            exact bodyPost_ret (v := .bool true) (by first | rfl | (simp [results, Try.results12, go_sem]; done) | (simp [results, Try.results12, go_sem]; rfl)) rfl ⟨rfl, (((((((((hu4.out.trans hu7.out).trans hu27.out).trans hu47.out).trans hu53.out).grow hg65.out (fun k hk => Nat.le_trans ((Nat.le_trans ((Nat.le_trans (hu4.out.size) hu7.out.size)) hu27.out.size)) ((fun k hk => (lb62.out k hk).1) k hk))).trans hu72.out).trans hu99.out).trans hu105.out).trans hu113.out)⟩
        ·
         rw [if_neg c120] at H
         replace c120 := Bool.eq_false_iff.mpr c120
         have c120n : (t110 != t58) = true := by rw [bne, c120]; rfl
         have c120p : ¬ t110 = t58 := fun e => by simp [e] at c120
         obtain rfl := Option.some.inj H
         go_enter Try.func12, Try.ntmps12
         refine wp_hide (fun Qf hQf => ?_)
         refine wp_seq_k (fun K1 hK1 => ?_)
         refine wp_region_lit ?_
         refine step_new (cs := [.int .i64 a2_0, .int .i64 a2_1, .int .i64 a2_2]) (T := 24) (f := fun b => .pointer (some ⟨b, 0, none⟩)) rfl (by first | (go_simp; done) | (go_simp; rfl)) ?_
         intro b2 w3 hu lb hb2
         simp only [Act.put, nm1, nm2, nm3, i64_w]
         have lbb2 := Aside0.mk lb
         have ltb2 := Aside0.mk hb2.lt
         clear lb
         have hu4 := Aside0.mk hu
         clear hu
         refine step_new (cs := [.int .i64 a3_0, .int .i64 a3_1, .int .i64 a3_2]) (T := 39) (f := fun b => .pointer (some ⟨b, 0, none⟩)) rfl (by first | (go_simp; done) | (go_simp; rfl)) ?_
         intro b5 w6 hu lb hb5
         simp only [Act.put, nm1, nm2, nm3, i64_w]
         have lbb5 := Aside0.mk lb
         have ltb5 := Aside0.mk hb5.lt
         clear lb
         have hu7 := Aside0.mk hu
         clear hu
         refine wpList_plain rfl (fun Ko hKo => ?_)
         go_simp
         refine hKo _ _ ?_
         clear hKo Ko
         try simp only [Act.put, nm1, nm2, nm3, i64_w]
         refine wpList_nil ?_
         (try simp only [Exit.then, Exit.inBlock, ↓reduceIte, Nat.reduceEqDiff])
         refine hK1 _ _ ?_
         refine wp_seq_k (fun K8 hK8 => ?_)
         refine' wp_region_up 12 [Slot.det _, Slot.det _, Slot.det _, Slot.det (.agg #[.int .i64 t9, .int .i64 t10, .int .i64 t11]), Slot.det _, Slot.det (.agg #[.int .i64 t13, .int .i64 t14, .int .i64 t15]), Slot.any (RowTo e2 27 w6.heap.size t17 (fun v => .tuple #[v, .int .i64 t20])) false, Slot.any (RowTo e2 27 w6.heap.size t17 (fun v => .tuple #[v, .int .i64 t20])) false, Slot.any (RowTo e2 27 w6.heap.size t17 (fun v => v)) false, Slot.det (.int .i64 t20), Slot.any (RowTo e2 27 w6.heap.size t17 (fun v => v)) false, Slot.det _] (by kernel_rfl) (by kernel_rfl) ?main
         case main =>
          simp only [List.take_succ_cons, List.take_zero]
          refine wpK_ops rfl (fun w1 hu => ?_) ?_
          · clear hu
            go_simp
            first | done | rfl
          simp only [Act.put, nm1, nm2, nm3, i64_w]
          refine wpK_ops rfl (fun w1 hu => ?_) ?_
          · clear hu
            go_simp
            first | done | rfl
          simp only [Act.put, nm1, nm2, nm3, i64_w]
          refine wpK_ops rfl (fun w1 hu => ?_) ?_
          · have cl0 := ((hb2.up hu7.out).up ((Up.refl _).drew.trans hu)).cell (o := 0) rfl
            have cl1 := ((hb2.up hu7.out).up ((Up.refl _).drew.trans hu)).cell (o := 1) rfl
            have cl2 := ((hb2.up hu7.out).up ((Up.refl _).drew.trans hu)).cell (o := 2) rfl
            go_simp
            first | done | rfl
          simp only [Act.put, nm1, nm2, nm3, i64_w]
          refine wpK_ops rfl (fun w1 hu => ?_) ?_
          · have hcl := (laws_toCircle.calls K a2_0 a2_1 a2_2 t9 t10 t11 w1  A12.out)
            clear hu
            replace hcl := Aside0.mk hcl
            go_simp
            exact hcl.out
          simp only [Act.put, nm1, nm2, nm3, i64_w]
          refine wpK_ops rfl (fun w1 hu => ?_) ?_
          · have cl0 := (hb5.up ((Up.refl _).drew.trans hu)).cell (o := 0) rfl
            have cl1 := (hb5.up ((Up.refl _).drew.trans hu)).cell (o := 1) rfl
            have cl2 := (hb5.up ((Up.refl _).drew.trans hu)).cell (o := 2) rfl
            go_simp
            first | done | rfl
          simp only [Act.put, nm1, nm2, nm3, i64_w]
          refine wpK_ops rfl (fun w1 hu => ?_) ?_
          · have hcl := (laws_toLine.calls K a3_0 a3_1 a3_2 t13 t14 t15 w1  A16.out)
            clear hu
            replace hcl := Aside0.mk hcl
            go_simp
            exact hcl.out
          simp only [Act.put, nm1, nm2, nm3, i64_w]
          refine wpK_any rfl (stab_row _ _ _ _ _) (fun w1 hu hl => ?_) (fun v22 => ?_)
          · have hcl := spec_MeetLine.calls K a0 a1 t9 t10 t11 t13 t14 t15 t17 t20 w1  A21.out
            have hz := ((Up.refl _).drew.trans hu).size
            clear hu
            replace hcl := Aside0.mk hcl
            exact fresh_row (by first | (go_simp; done) | (go_simp; rfl)) hcl.out hz
          simp only [Act.put, nm1, nm2, nm3, i64_w]
          refine wpK_any rfl (stab_row _ _ _ _ _) (fun w1 hu hl => ?_) (fun v23 => ?_)
          · exact any_of_run (by first | (go_simp; done) | (go_simp; rfl)) (hl.1 (by kernel_rfl))
          simp only [Act.put, nm1, nm2, nm3, i64_w]
          refine wpK_any rfl (stab_row _ _ _ _ _) (fun w1 hu hl => ?_) (fun v24 => ?_)
          · obtain ⟨A0_, c0_, e0_, hO0_⟩ := hl.1 (by kernel_rfl)
            clear hl hu
            dsimp only at e0_
            subst e0_
            exact any_of_run (u := .slice A0_ t17.length c0_) (by first | (go_simp; done) | (go_simp; rfl)) ⟨A0_, c0_, rfl, hO0_⟩
          simp only [Act.put, nm1, nm2, nm3, i64_w]
          refine wpK_det rfl (fun w1 hu hl => ?_) ?_
          · obtain ⟨A0_, c0_, e0_, hO0_⟩ := hl.2.1 (by kernel_rfl)
            clear hl hu
            dsimp only at e0_
            subst e0_
            clear hO0_
            go_simp
            first | done | rfl
          simp only [Act.put, nm1, nm2, nm3, i64_w]
          refine wpK_any rfl (stab_row _ _ _ _ _) (fun w1 hu hl => ?_) (fun v25 => ?_)
          · exact any_of_run (by first | (go_simp; done) | (go_simp; rfl)) (hl.1 (by kernel_rfl))
          simp only [Act.put, nm1, nm2, nm3, i64_w]
          refine wpK_ops rfl (fun w1 hu => ?_) ?_
          · clear hu
            go_simp
            first | done | rfl
          simp only [Act.put, nm1, nm2, nm3, i64_w]
          refine wpK_nil ?_
          intro w26 hu hap
          simp only [List.drop_succ_cons, List.drop_zero]
          replace hu := (Up.refl _).drew.trans hu
          obtain ⟨-, -, ⟨P18, q19, e0, ht17⟩, -, -, -, -, -, -, -, -, -, -⟩ := hap
          dsimp only at e0
          subst e0
          have hu27 := Aside0.mk hu
          clear hu
          refine wpList_nil ?_
          (try simp only [Exit.then, Exit.inBlock, ↓reduceIte, Nat.reduceEqDiff])
          refine hK8 _ _ ?_
          refine wp_seq_k (fun K28 hK28 => ?_)
          refine' wp_region_up 12 [Slot.det _, Slot.det _, Slot.det _, Slot.det (.agg #[.int .i64 t29, .int .i64 t30, .int .i64 t31]), Slot.det _, Slot.det (.agg #[.int .i64 t33, .int .i64 t34, .int .i64 t35]), Slot.any (RowTo e2 27 w26.heap.size t37 (fun v => .tuple #[v, .int .i64 t40])) false, Slot.any (RowTo e2 27 w26.heap.size t37 (fun v => .tuple #[v, .int .i64 t40])) false, Slot.any (RowTo e2 27 w26.heap.size t37 (fun v => v)) false, Slot.det (.int .i64 t40), Slot.any (RowTo e2 27 w26.heap.size t37 (fun v => v)) false, Slot.det _] (by kernel_rfl) (by kernel_rfl) ?main
          case main =>
           simp only [List.take_succ_cons, List.take_zero]
           refine wpK_ops rfl (fun w1 hu => ?_) ?_
           · clear hu
             go_simp
             first | done | rfl
           simp only [Act.put, nm1, nm2, nm3, i64_w]
           refine wpK_ops rfl (fun w1 hu => ?_) ?_
           · clear hu
             go_simp
             first | done | rfl
           simp only [Act.put, nm1, nm2, nm3, i64_w]
           refine wpK_ops rfl (fun w1 hu => ?_) ?_
           · have cl0 := ((hb2.up (hu7.out.trans hu27.out)).up ((Up.refl _).drew.trans hu)).cell (o := 0) rfl
             have cl1 := ((hb2.up (hu7.out.trans hu27.out)).up ((Up.refl _).drew.trans hu)).cell (o := 1) rfl
             have cl2 := ((hb2.up (hu7.out.trans hu27.out)).up ((Up.refl _).drew.trans hu)).cell (o := 2) rfl
             go_simp
             first | done | rfl
           simp only [Act.put, nm1, nm2, nm3, i64_w]
           refine wpK_ops rfl (fun w1 hu => ?_) ?_
           · have hcl := (laws_toCircle.calls K a2_0 a2_1 a2_2 t29 t30 t31 w1  A32.out)
             clear hu
             replace hcl := Aside0.mk hcl
             go_simp
             exact hcl.out
           simp only [Act.put, nm1, nm2, nm3, i64_w]
           refine wpK_ops rfl (fun w1 hu => ?_) ?_
           · have cl0 := ((hb5.up hu27.out).up ((Up.refl _).drew.trans hu)).cell (o := 0) rfl
             have cl1 := ((hb5.up hu27.out).up ((Up.refl _).drew.trans hu)).cell (o := 1) rfl
             have cl2 := ((hb5.up hu27.out).up ((Up.refl _).drew.trans hu)).cell (o := 2) rfl
             go_simp
             first | done | rfl
           simp only [Act.put, nm1, nm2, nm3, i64_w]
           refine wpK_ops rfl (fun w1 hu => ?_) ?_
           · have hcl := (laws_toLine.calls K a3_0 a3_1 a3_2 t33 t34 t35 w1  A36.out)
             clear hu
             replace hcl := Aside0.mk hcl
             go_simp
             exact hcl.out
           simp only [Act.put, nm1, nm2, nm3, i64_w]
           refine wpK_any rfl (stab_row _ _ _ _ _) (fun w1 hu hl => ?_) (fun v42 => ?_)
           · have hcl := impl_MeetLine.calls K a0 a1 t29 t30 t31 t33 t34 t35 t37 t40 w1  A41.out
             have hz := ((Up.refl _).drew.trans hu).size
             clear hu
             replace hcl := Aside0.mk hcl
             exact fresh_row (by first | (go_simp; done) | (go_simp; rfl)) hcl.out hz
           simp only [Act.put, nm1, nm2, nm3, i64_w]
           refine wpK_any rfl (stab_row _ _ _ _ _) (fun w1 hu hl => ?_) (fun v43 => ?_)
           · exact any_of_run (by first | (go_simp; done) | (go_simp; rfl)) (hl.1 (by kernel_rfl))
           simp only [Act.put, nm1, nm2, nm3, i64_w]
           refine wpK_any rfl (stab_row _ _ _ _ _) (fun w1 hu hl => ?_) (fun v44 => ?_)
           · obtain ⟨A0_, c0_, e0_, hO0_⟩ := hl.1 (by kernel_rfl)
             clear hl hu
             dsimp only at e0_
             subst e0_
             exact any_of_run (u := .slice A0_ t37.length c0_) (by first | (go_simp; done) | (go_simp; rfl)) ⟨A0_, c0_, rfl, hO0_⟩
           simp only [Act.put, nm1, nm2, nm3, i64_w]
           refine wpK_det rfl (fun w1 hu hl => ?_) ?_
           · obtain ⟨A0_, c0_, e0_, hO0_⟩ := hl.2.1 (by kernel_rfl)
             clear hl hu
             dsimp only at e0_
             subst e0_
             clear hO0_
             go_simp
             first | done | rfl
           simp only [Act.put, nm1, nm2, nm3, i64_w]
           refine wpK_any rfl (stab_row _ _ _ _ _) (fun w1 hu hl => ?_) (fun v45 => ?_)
           · exact any_of_run (by first | (go_simp; done) | (go_simp; rfl)) (hl.1 (by kernel_rfl))
           simp only [Act.put, nm1, nm2, nm3, i64_w]
           refine wpK_ops rfl (fun w1 hu => ?_) ?_
           · clear hu
             go_simp
             first | done | rfl
           simp only [Act.put, nm1, nm2, nm3, i64_w]
           refine wpK_nil ?_
           intro w46 hu hap
           simp only [List.drop_succ_cons, List.drop_zero]
           replace hu := (Up.refl _).drew.trans hu
           obtain ⟨-, -, ⟨P38, q39, e0, ht37⟩, -, -, -, -, -, -, -, -, -, -⟩ := hap
           dsimp only at e0
           subst e0
           have hu47 := Aside0.mk hu
           clear hu
           refine wpList_nil ?_
           (try simp only [Exit.then, Exit.inBlock, ↓reduceIte, Nat.reduceEqDiff])
           refine hK28 _ _ ?_
           refine wp_seq_k (fun K48 hK48 => ?_)
           refine wp_seq_k (fun K49 hK49 => ?_)
           refine wp_region_lit ?_
           refine wpList_plain rfl (fun Ko hKo => ?_)
           go_simp
           refine hKo _ _ ?_
           clear hKo Ko
           try simp only [Act.put, nm1, nm2, nm3, i64_w]
           refine wpList_plain rfl (fun Ko hKo => ?_)
           go_simp
           refine hKo _ _ ?_
           clear hKo Ko
           try simp only [Act.put, nm1, nm2, nm3, i64_w]
           refine step_call (wanted_none rfl) (by first | (go_simp; done) | (go_simp; rfl)) (laws_eqPointS.calls K P38 q39 t37 P18 q19 t17 true w46 ht37.rd ((ht17.up hu47.out).rd) A51.out) ?_
           rintro e w52 ⟨rfl, hu⟩
           have hu53 := Aside0.mk hu
           clear hu
           refine ⟨_, rfl, ?_⟩
           simp only [Act.put, nm1, nm2, nm3, i64_w]
           refine wpList_plain rfl (fun Ko hKo => ?_)
           go_simp
           refine hKo _ _ ?_
           clear hKo Ko
           try simp only [Act.put, nm1, nm2, nm3, i64_w]
           refine wpList_plain rfl (fun Ko hKo => ?_)
           go_simp
           refine hKo _ _ ?_
           clear hKo Ko
           try simp only [Act.put, nm1, nm2, nm3, i64_w]
           refine wpList_step (fun Ko hKo => ?_)
           go_simp
           refine hKo _ _ ?_
           clear hKo Ko
           try simp only [Act.put, nm1, nm2, nm3, i64_w]
           refine wpList_step (fun Ko hKo => ?_)
           go_simp
           refine hKo _ _ ?_
           clear hKo Ko
           try simp only [Act.put, nm1, nm2, nm3, i64_w]
           refine wpList_step (fun Ko hKo => ?_)
           go_simp
           refine hKo _ _ ?_
           clear hKo Ko
           try simp only [Act.put, nm1, nm2, nm3, i64_w]
           refine wpList_plain rfl (fun Ko hKo => ?_)
           go_simp
           refine hKo _ _ ?_
           clear hKo Ko
           try simp only [Act.put, nm1, nm2, nm3, i64_w]
           refine wpList_nil ?_
           (try simp only [Exit.then, Exit.inBlock, ↓reduceIte, Nat.reduceEqDiff])
           refine hK49 _ _ ?_
           refine wp_cond_false rfl ?_
           refine wp_skip ?_
           (try simp only [Exit.then, Exit.inBlock, ↓reduceIte, Nat.reduceEqDiff])
           refine hK48 _ _ ?_
           refine wp_seq_k (fun K56 hK56 => ?_)
           refine wp_region_lit ?_
           refine wpList_plain rfl (fun Ko hKo => ?_)
           go_simp
           refine hKo _ _ ?_
           clear hKo Ko
           try simp only [Act.put, nm1, nm2, nm3, i64_w]
           refine wpList_nil ?_
           (try simp only [Exit.then, Exit.inBlock, ↓reduceIte, Nat.reduceEqDiff])
           refine hK56 _ _ ?_
           refine wp_seq_k (fun K57 hK57 => ?_)
           refine wp_region_lit ?_
           refine wpList_plain rfl (fun Ko hKo => ?_)
           go_simp
           refine hKo _ _ ?_
           clear hKo Ko
           try simp only [Act.put, nm1, nm2, nm3, i64_w]
           refine wpList_plain rfl (fun Ko hKo => ?_)
           go_simp
           refine hKo _ _ ?_
           clear hKo Ko
           try simp only [Act.put, nm1, nm2, nm3, i64_w]
           refine step_call (wanted_none rfl) (by first | (go_simp; done) | (go_simp; rfl)) (laws_markPointS.calls K P38 q39 w26.heap.size t37 1 t58 t59 w52 (ht37.up hu53.out) A60.out) ?_
           have lb62 := Aside0.mk (ht37.up hu53.out).lt
           rintro e w61 ⟨rfl, h63, hl, hg⟩
           have hg65 := Aside0.mk hg
           have hl64 := hl
           clear hg hl
           have hl66 : Aside0 (t37.length = t59.length) := Aside0.mk hl64.out
           refine ⟨_, rfl, ?_⟩
           simp only [Act.put, nm1, nm2, nm3, i64_w]
           refine wpList_plain rfl (fun Ko hKo => ?_)
           go_simp
           refine hKo _ _ ?_
           clear hKo Ko
           try simp only [Act.put, nm1, nm2, nm3, i64_w]
           refine wpList_nil ?_
           (try simp only [Exit.then, Exit.inBlock, ↓reduceIte, Nat.reduceEqDiff])
           refine hK57 _ _ ?_
           refine wp_seq_k (fun K67 hK67 => ?_)
           refine wp_region_lit ?_
           refine wpList_plain rfl (fun Ko hKo => ?_)
           go_simp
           refine hKo _ _ ?_
           clear hKo Ko
           try simp only [Act.put, nm1, nm2, nm3, i64_w]
           refine wpList_nil ?_
           (try simp only [Exit.then, Exit.inBlock, ↓reduceIte, Nat.reduceEqDiff])
           refine hK67 _ _ ?_
           refine wp_seq_k (fun K68 hK68 => ?_)
           refine wp_region_lit ?_
           refine wpList_plain rfl (fun Ko hKo => ?_)
           go_simp
           refine hKo _ _ ?_
           clear hKo Ko
           try simp only [Act.put, nm1, nm2, nm3, i64_w]
           refine wpList_plain rfl (fun Ko hKo => ?_)
           go_simp
           refine hKo _ _ ?_
           clear hKo Ko
           try simp only [Act.put, nm1, nm2, nm3, i64_w]
           refine step_call (wanted_none rfl) (by first | (go_simp; done) | (go_simp; rfl)) (Eq.mp (congrArg (fun n_ => Calls Try.prog 30 #[.slice P38 n_ q39, .int .i64 1] w61 _) (Eq.symm hl66.out)) (laws_heldPointS.calls K P38 q39 t59 1 t69 w61 h63.rd A70.out)) ?_
           rintro e w71 ⟨rfl, hu⟩
           have hu72 := Aside0.mk hu
           clear hu
           refine ⟨_, rfl, ?_⟩
           simp only [Act.put, nm1, nm2, nm3, i64_w]
           refine wpList_plain rfl (fun Ko hKo => ?_)
           go_simp
           refine hKo _ _ ?_
           clear hKo Ko
           try simp only [Act.put, nm1, nm2, nm3, i64_w]
           refine wpList_nil ?_
           (try simp only [Exit.then, Exit.inBlock, ↓reduceIte, Nat.reduceEqDiff])
           refine hK68 _ _ ?_
           refine wp_seq_k (fun K73 hK73 => ?_)
           refine wp_seq_k (fun K74 hK74 => ?_)
           refine wp_region_lit ?_
           refine wpList_plain rfl (fun Ko hKo => ?_)
           go_simp
           refine hKo _ _ ?_
           clear hKo Ko
           try simp only [Act.put, nm1, nm2, nm3, i64_w]
           refine wpList_plain rfl (fun Ko hKo => ?_)
           go_simp
           refine hKo _ _ ?_
           clear hKo Ko
           try simp only [Act.put, nm1, nm2, nm3, i64_w]
           refine wpList_nil ?_
           (try simp only [Exit.then, Exit.inBlock, ↓reduceIte, Nat.reduceEqDiff])
           refine hK74 _ _ ?_
           refine wp_cond_false rfl ?_
           refine wp_skip ?_
           (try simp only [Exit.then, Exit.inBlock, ↓reduceIte, Nat.reduceEqDiff])
           refine hK73 _ _ ?_
           refine wp_seq_k (fun K77 hK77 => ?_)
           refine wp_seq_k (fun K78 hK78 => ?_)
           refine wp_region_lit ?_
           refine wpList_plain rfl (fun Ko hKo => ?_)
           go_simp
           refine hKo _ _ ?_
           clear hKo Ko
           try simp only [Act.put, nm1, nm2, nm3, i64_w]
           refine wpList_plain rfl (fun Ko hKo => ?_)
           go_simp
           refine hKo _ _ ?_
           clear hKo Ko
           try simp only [Act.put, nm1, nm2, nm3, i64_w]
           refine wpList_plain rfl (fun Ko hKo => ?_)
           go_simp
           refine hKo _ _ ?_
           clear hKo Ko
           try simp only [Act.put, nm1, nm2, nm3, i64_w]
           refine wpList_nil ?_
           (try simp only [Exit.then, Exit.inBlock, ↓reduceIte, Nat.reduceEqDiff])
           refine hK78 _ _ ?_
           refine wp_cond_false rfl ?_
           refine wp_skip ?_
           (try simp only [Exit.then, Exit.inBlock, ↓reduceIte, Nat.reduceEqDiff])
           refine hK77 _ _ ?_
           refine wp_seq_k (fun K80 hK80 => ?_)
           refine' wp_region_up 12 [Slot.det _, Slot.det _, Slot.det _, Slot.det (.agg #[.int .i64 t81, .int .i64 t82, .int .i64 t83]), Slot.det _, Slot.det (.agg #[.int .i64 t85, .int .i64 t86, .int .i64 t87]), Slot.any (RowTo e2 27 w71.heap.size t89 (fun v => .tuple #[v, .int .i64 t92])) false, Slot.any (RowTo e2 27 w71.heap.size t89 (fun v => .tuple #[v, .int .i64 t92])) false, Slot.any (RowTo e2 27 w71.heap.size t89 (fun v => v)) false, Slot.det (.int .i64 t92), Slot.any (RowTo e2 27 w71.heap.size t89 (fun v => v)) false, Slot.det _] (by kernel_rfl) (by kernel_rfl) ?main
           case main =>
            simp only [List.take_succ_cons, List.take_zero]
            refine wpK_ops rfl (fun w1 hu => ?_) ?_
            · clear hu
              go_simp
              first | done | rfl
            simp only [Act.put, nm1, nm2, nm3, i64_w]
            refine wpK_ops rfl (fun w1 hu => ?_) ?_
            · clear hu
              go_simp
              first | done | rfl
            simp only [Act.put, nm1, nm2, nm3, i64_w]
            refine wpK_ops rfl (fun w1 hu => ?_) ?_
            · have cl0 := ((hb2.up (((((hu7.out.trans hu27.out).trans hu47.out).trans hu53.out).grow hg65.out (fun k hk => Nat.le_trans ((Nat.le_trans (hu7.out.size) hu27.out.size)) ((fun k hk => (lb62.out k hk).1) k hk))).trans hu72.out)).up ((Up.refl _).drew.trans hu)).cell (o := 0) rfl
              have cl1 := ((hb2.up (((((hu7.out.trans hu27.out).trans hu47.out).trans hu53.out).grow hg65.out (fun k hk => Nat.le_trans ((Nat.le_trans (hu7.out.size) hu27.out.size)) ((fun k hk => (lb62.out k hk).1) k hk))).trans hu72.out)).up ((Up.refl _).drew.trans hu)).cell (o := 1) rfl
              have cl2 := ((hb2.up (((((hu7.out.trans hu27.out).trans hu47.out).trans hu53.out).grow hg65.out (fun k hk => Nat.le_trans ((Nat.le_trans (hu7.out.size) hu27.out.size)) ((fun k hk => (lb62.out k hk).1) k hk))).trans hu72.out)).up ((Up.refl _).drew.trans hu)).cell (o := 2) rfl
              go_simp
              first | done | rfl
            simp only [Act.put, nm1, nm2, nm3, i64_w]
            refine wpK_ops rfl (fun w1 hu => ?_) ?_
            · have hcl := (laws_toCircle.calls K a2_0 a2_1 a2_2 t81 t82 t83 w1  A84.out)
              clear hu
              replace hcl := Aside0.mk hcl
              go_simp
              exact hcl.out
            simp only [Act.put, nm1, nm2, nm3, i64_w]
            refine wpK_ops rfl (fun w1 hu => ?_) ?_
            · have cl0 := ((hb5.up ((((hu27.out.trans hu47.out).trans hu53.out).grow hg65.out (fun k hk => Nat.le_trans (hu27.out.size) ((fun k hk => (lb62.out k hk).1) k hk))).trans hu72.out)).up ((Up.refl _).drew.trans hu)).cell (o := 0) rfl
              have cl1 := ((hb5.up ((((hu27.out.trans hu47.out).trans hu53.out).grow hg65.out (fun k hk => Nat.le_trans (hu27.out.size) ((fun k hk => (lb62.out k hk).1) k hk))).trans hu72.out)).up ((Up.refl _).drew.trans hu)).cell (o := 1) rfl
              have cl2 := ((hb5.up ((((hu27.out.trans hu47.out).trans hu53.out).grow hg65.out (fun k hk => Nat.le_trans (hu27.out.size) ((fun k hk => (lb62.out k hk).1) k hk))).trans hu72.out)).up ((Up.refl _).drew.trans hu)).cell (o := 2) rfl
              go_simp
              first | done | rfl
            simp only [Act.put, nm1, nm2, nm3, i64_w]
            refine wpK_ops rfl (fun w1 hu => ?_) ?_
            · have hcl := (laws_toLine.calls K a3_0 a3_1 a3_2 t85 t86 t87 w1  A88.out)
              clear hu
              replace hcl := Aside0.mk hcl
              go_simp
              exact hcl.out
            simp only [Act.put, nm1, nm2, nm3, i64_w]
            refine wpK_any rfl (stab_row _ _ _ _ _) (fun w1 hu hl => ?_) (fun v94 => ?_)
            · have hcl := impl_MeetLine.calls K a0 a1 t81 t82 t83 t85 t86 t87 t89 t92 w1  A93.out
              have hz := ((Up.refl _).drew.trans hu).size
              clear hu
              replace hcl := Aside0.mk hcl
              exact fresh_row (by first | (go_simp; done) | (go_simp; rfl)) hcl.out hz
            simp only [Act.put, nm1, nm2, nm3, i64_w]
            refine wpK_any rfl (stab_row _ _ _ _ _) (fun w1 hu hl => ?_) (fun v95 => ?_)
            · exact any_of_run (by first | (go_simp; done) | (go_simp; rfl)) (hl.1 (by kernel_rfl))
            simp only [Act.put, nm1, nm2, nm3, i64_w]
            refine wpK_any rfl (stab_row _ _ _ _ _) (fun w1 hu hl => ?_) (fun v96 => ?_)
            · obtain ⟨A0_, c0_, e0_, hO0_⟩ := hl.1 (by kernel_rfl)
              clear hl hu
              dsimp only at e0_
              subst e0_
              exact any_of_run (u := .slice A0_ t89.length c0_) (by first | (go_simp; done) | (go_simp; rfl)) ⟨A0_, c0_, rfl, hO0_⟩
            simp only [Act.put, nm1, nm2, nm3, i64_w]
            refine wpK_det rfl (fun w1 hu hl => ?_) ?_
            · obtain ⟨A0_, c0_, e0_, hO0_⟩ := hl.2.1 (by kernel_rfl)
              clear hl hu
              dsimp only at e0_
              subst e0_
              clear hO0_
              go_simp
              first | done | rfl
            simp only [Act.put, nm1, nm2, nm3, i64_w]
            refine wpK_any rfl (stab_row _ _ _ _ _) (fun w1 hu hl => ?_) (fun v97 => ?_)
            · exact any_of_run (by first | (go_simp; done) | (go_simp; rfl)) (hl.1 (by kernel_rfl))
            simp only [Act.put, nm1, nm2, nm3, i64_w]
            refine wpK_ops rfl (fun w1 hu => ?_) ?_
            · clear hu
              go_simp
              first | done | rfl
            simp only [Act.put, nm1, nm2, nm3, i64_w]
            refine wpK_nil ?_
            intro w98 hu hap
            simp only [List.drop_succ_cons, List.drop_zero]
            replace hu := (Up.refl _).drew.trans hu
            obtain ⟨-, -, ⟨P90, q91, e0, ht89⟩, -, -, -, -, -, -, -, -, -, -⟩ := hap
            dsimp only at e0
            subst e0
            have hu99 := Aside0.mk hu
            clear hu
            refine wpList_nil ?_
            (try simp only [Exit.then, Exit.inBlock, ↓reduceIte, Nat.reduceEqDiff])
            refine hK80 _ _ ?_
            refine wp_seq_k (fun K100 hK100 => ?_)
            refine wp_seq_k (fun K101 hK101 => ?_)
            refine wp_region_lit ?_
            refine wpList_plain rfl (fun Ko hKo => ?_)
            go_simp
            refine hKo _ _ ?_
            clear hKo Ko
            try simp only [Act.put, nm1, nm2, nm3, i64_w]
            refine wpList_plain rfl (fun Ko hKo => ?_)
            go_simp
            refine hKo _ _ ?_
            clear hKo Ko
            try simp only [Act.put, nm1, nm2, nm3, i64_w]
            refine step_call (wanted_none rfl) (by first | (go_simp; done) | (go_simp; rfl)) (laws_eqPointS.calls K P90 q91 t89 P18 q19 t17 true w98 ht89.rd ((ht17.up ((((hu47.out.trans hu53.out).grow hg65.out (fun k hk => Nat.le_trans (Nat.le_refl _) ((fun k hk => (lb62.out k hk).1) k hk))).trans hu72.out).trans hu99.out)).rd) A103.out) ?_
            rintro e w104 ⟨rfl, hu⟩
            have hu105 := Aside0.mk hu
            clear hu
            refine ⟨_, rfl, ?_⟩
            simp only [Act.put, nm1, nm2, nm3, i64_w]
            refine wpList_plain rfl (fun Ko hKo => ?_)
            go_simp
            refine hKo _ _ ?_
            clear hKo Ko
            try simp only [Act.put, nm1, nm2, nm3, i64_w]
            refine wpList_plain rfl (fun Ko hKo => ?_)
            go_simp
            refine hKo _ _ ?_
            clear hKo Ko
            try simp only [Act.put, nm1, nm2, nm3, i64_w]
            refine wpList_step (fun Ko hKo => ?_)
            go_simp
            refine hKo _ _ ?_
            clear hKo Ko
            try simp only [Act.put, nm1, nm2, nm3, i64_w]
            refine wpList_step (fun Ko hKo => ?_)
            go_simp
            refine hKo _ _ ?_
            clear hKo Ko
            try simp only [Act.put, nm1, nm2, nm3, i64_w]
            refine wpList_step (fun Ko hKo => ?_)
            go_simp
            refine hKo _ _ ?_
            clear hKo Ko
            try simp only [Act.put, nm1, nm2, nm3, i64_w]
            refine wpList_plain rfl (fun Ko hKo => ?_)
            go_simp
            refine hKo _ _ ?_
            clear hKo Ko
            try simp only [Act.put, nm1, nm2, nm3, i64_w]
            refine wpList_nil ?_
            (try simp only [Exit.then, Exit.inBlock, ↓reduceIte, Nat.reduceEqDiff])
            refine hK101 _ _ ?_
            refine wp_cond_false rfl ?_
            refine wp_skip ?_
            (try simp only [Exit.then, Exit.inBlock, ↓reduceIte, Nat.reduceEqDiff])
            refine hK100 _ _ ?_
            refine wp_seq_k (fun K108 hK108 => ?_)
            refine wp_region_lit ?_
            refine wpList_plain rfl (fun Ko hKo => ?_)
            go_simp
            refine hKo _ _ ?_
            clear hKo Ko
            try simp only [Act.put, nm1, nm2, nm3, i64_w]
            refine wpList_nil ?_
            (try simp only [Exit.then, Exit.inBlock, ↓reduceIte, Nat.reduceEqDiff])
            refine hK108 _ _ ?_
            refine wp_seq_k (fun K109 hK109 => ?_)
            refine wp_region_lit ?_
            refine wpList_plain rfl (fun Ko hKo => ?_)
            go_simp
            refine hKo _ _ ?_
            clear hKo Ko
            try simp only [Act.put, nm1, nm2, nm3, i64_w]
            refine wpList_plain rfl (fun Ko hKo => ?_)
            go_simp
            refine hKo _ _ ?_
            clear hKo Ko
            try simp only [Act.put, nm1, nm2, nm3, i64_w]
            refine step_call (wanted_none rfl) (by first | (go_simp; done) | (go_simp; rfl)) (Eq.mp (congrArg (fun n_ => Calls Try.prog 30 #[.slice P38 n_ q39, .int .i64 1] w104 _) (Eq.symm hl66.out)) (laws_heldPointS.calls K P38 q39 t59 1 t110 w104 ((h63.up ((hu72.out.trans hu99.out).trans hu105.out)).rd) A111.out)) ?_
            rintro e w112 ⟨rfl, hu⟩
            have hu113 := Aside0.mk hu
            clear hu
            refine ⟨_, rfl, ?_⟩
            simp only [Act.put, nm1, nm2, nm3, i64_w]
            refine wpList_plain rfl (fun Ko hKo => ?_)
            go_simp
            refine hKo _ _ ?_
            clear hKo Ko
            try simp only [Act.put, nm1, nm2, nm3, i64_w]
            refine wpList_nil ?_
            (try simp only [Exit.then, Exit.inBlock, ↓reduceIte, Nat.reduceEqDiff])
            refine hK109 _ _ ?_
            refine wp_seq_k (fun K114 hK114 => ?_)
            refine wp_seq_k (fun K115 hK115 => ?_)
            refine wp_region_lit ?_
            refine wpList_plain rfl (fun Ko hKo => ?_)
            go_simp
            refine hKo _ _ ?_
            clear hKo Ko
            try simp only [Act.put, nm1, nm2, nm3, i64_w]
            refine wpList_plain rfl (fun Ko hKo => ?_)
            go_simp
            refine hKo _ _ ?_
            clear hKo Ko
            try simp only [Act.put, nm1, nm2, nm3, i64_w]
            refine wpList_nil ?_
            (try simp only [Exit.then, Exit.inBlock, ↓reduceIte, Nat.reduceEqDiff])
            refine hK115 _ _ ?_
            refine wp_cond_false rfl ?_
            refine wp_skip ?_
            (try simp only [Exit.then, Exit.inBlock, ↓reduceIte, Nat.reduceEqDiff])
            refine hK114 _ _ ?_
            refine wp_seq_k (fun K118 hK118 => ?_)
            refine wp_seq_k (fun K119 hK119 => ?_)
            refine wp_region_lit ?_
            refine wpList_plain rfl (fun Ko hKo => ?_)
            go_simp
            refine hKo _ _ ?_
            clear hKo Ko
            try simp only [Act.put, nm1, nm2, nm3, i64_w]
            refine wpList_plain rfl (fun Ko hKo => ?_)
            go_simp
            refine hKo _ _ ?_
            clear hKo Ko
            try simp only [Act.put, nm1, nm2, nm3, i64_w]
            refine wpList_plain rfl (fun Ko hKo => ?_)
            go_simp
            refine hKo _ _ ?_
            clear hKo Ko
            try simp only [Act.put, nm1, nm2, nm3, i64_w]
            refine wpList_nil ?_
            (try simp only [Exit.then, Exit.inBlock, ↓reduceIte, Nat.reduceEqDiff])
            refine hK119 _ _ ?_
            refine wp_cond_true rfl ?_
            refine wp_seq_k (fun K122 hK122 => ?_)
            refine wp_region_lit ?_
            refine wpList_plain rfl (fun Ko hKo => ?_)
            go_simp
            refine hKo _ _ ?_
            clear hKo Ko
            try simp only [Act.put, nm1, nm2, nm3, i64_w]
            refine wpList_nil ?_
            (try simp only [Exit.then, Exit.inBlock, ↓reduceIte, Nat.reduceEqDiff])
            refine hK122 _ _ ?_
            refine wp_ret ?_
            (try simp only [Exit.then, Exit.inBlock, ↓reduceIte, Nat.reduceEqDiff])
            refine hQf _ _ _ ?_
            exact bodyPost_ret (v := .bool false) (by first | rfl | (simp [results, Try.results12, go_sem]; done) | (simp [results, Try.results12, go_sem]; rfl)) rfl ⟨rfl, (((((((((hu4.out.trans hu7.out).trans hu27.out).trans hu47.out).trans hu53.out).grow hg65.out (fun k hk => Nat.le_trans ((Nat.le_trans ((Nat.le_trans (hu4.out.size) hu7.out.size)) hu27.out.size)) ((fun k hk => (lb62.out k hk).1) k hk))).trans hu72.out).trans hu99.out).trans hu105.out).trans hu113.out)⟩
      ·
       rw [if_neg c107] at H
       replace c107 := Bool.eq_false_iff.mpr c107
       have c107n : (t92 != t20) = true := by rw [bne, c107]; rfl
       have c107p : ¬ t92 = t20 := fun e => by simp [e] at c107
       obtain rfl := Option.some.inj H
       go_enter Try.func12, Try.ntmps12
       refine wp_hide (fun Qf hQf => ?_)
       refine wp_seq_k (fun K1 hK1 => ?_)
       refine wp_region_lit ?_
       refine step_new (cs := [.int .i64 a2_0, .int .i64 a2_1, .int .i64 a2_2]) (T := 24) (f := fun b => .pointer (some ⟨b, 0, none⟩)) rfl (by first | (go_simp; done) | (go_simp; rfl)) ?_
       intro b2 w3 hu lb hb2
       simp only [Act.put, nm1, nm2, nm3, i64_w]
       have lbb2 := Aside0.mk lb
       have ltb2 := Aside0.mk hb2.lt
       clear lb
       have hu4 := Aside0.mk hu
       clear hu
       refine step_new (cs := [.int .i64 a3_0, .int .i64 a3_1, .int .i64 a3_2]) (T := 39) (f := fun b => .pointer (some ⟨b, 0, none⟩)) rfl (by first | (go_simp; done) | (go_simp; rfl)) ?_
       intro b5 w6 hu lb hb5
       simp only [Act.put, nm1, nm2, nm3, i64_w]
       have lbb5 := Aside0.mk lb
       have ltb5 := Aside0.mk hb5.lt
       clear lb
       have hu7 := Aside0.mk hu
       clear hu
       refine wpList_plain rfl (fun Ko hKo => ?_)
       go_simp
       refine hKo _ _ ?_
       clear hKo Ko
       try simp only [Act.put, nm1, nm2, nm3, i64_w]
       refine wpList_nil ?_
       (try simp only [Exit.then, Exit.inBlock, ↓reduceIte, Nat.reduceEqDiff])
       refine hK1 _ _ ?_
       refine wp_seq_k (fun K8 hK8 => ?_)
       refine' wp_region_up 12 [Slot.det _, Slot.det _, Slot.det _, Slot.det (.agg #[.int .i64 t9, .int .i64 t10, .int .i64 t11]), Slot.det _, Slot.det (.agg #[.int .i64 t13, .int .i64 t14, .int .i64 t15]), Slot.any (RowTo e2 27 w6.heap.size t17 (fun v => .tuple #[v, .int .i64 t20])) false, Slot.any (RowTo e2 27 w6.heap.size t17 (fun v => .tuple #[v, .int .i64 t20])) false, Slot.any (RowTo e2 27 w6.heap.size t17 (fun v => v)) false, Slot.det (.int .i64 t20), Slot.any (RowTo e2 27 w6.heap.size t17 (fun v => v)) false, Slot.det _] (by kernel_rfl) (by kernel_rfl) ?main
       case main =>
        simp only [List.take_succ_cons, List.take_zero]
        refine wpK_ops rfl (fun w1 hu => ?_) ?_
        · clear hu
          go_simp
          first | done | rfl
        simp only [Act.put, nm1, nm2, nm3, i64_w]
        refine wpK_ops rfl (fun w1 hu => ?_) ?_
        · clear hu
          go_simp
          first | done | rfl
        simp only [Act.put, nm1, nm2, nm3, i64_w]
        refine wpK_ops rfl (fun w1 hu => ?_) ?_
        · have cl0 := ((hb2.up hu7.out).up ((Up.refl _).drew.trans hu)).cell (o := 0) rfl
          have cl1 := ((hb2.up hu7.out).up ((Up.refl _).drew.trans hu)).cell (o := 1) rfl
          have cl2 := ((hb2.up hu7.out).up ((Up.refl _).drew.trans hu)).cell (o := 2) rfl
          go_simp
          first | done | rfl
        simp only [Act.put, nm1, nm2, nm3, i64_w]
        refine wpK_ops rfl (fun w1 hu => ?_) ?_
        · have hcl := (laws_toCircle.calls K a2_0 a2_1 a2_2 t9 t10 t11 w1  A12.out)
          clear hu
          replace hcl := Aside0.mk hcl
          go_simp
          exact hcl.out
        simp only [Act.put, nm1, nm2, nm3, i64_w]
        refine wpK_ops rfl (fun w1 hu => ?_) ?_
        · have cl0 := (hb5.up ((Up.refl _).drew.trans hu)).cell (o := 0) rfl
          have cl1 := (hb5.up ((Up.refl _).drew.trans hu)).cell (o := 1) rfl
          have cl2 := (hb5.up ((Up.refl _).drew.trans hu)).cell (o := 2) rfl
          go_simp
          first | done | rfl
        simp only [Act.put, nm1, nm2, nm3, i64_w]
        refine wpK_ops rfl (fun w1 hu => ?_) ?_
        · have hcl := (laws_toLine.calls K a3_0 a3_1 a3_2 t13 t14 t15 w1  A16.out)
          clear hu
          replace hcl := Aside0.mk hcl
          go_simp
          exact hcl.out
        simp only [Act.put, nm1, nm2, nm3, i64_w]
        refine wpK_any rfl (stab_row _ _ _ _ _) (fun w1 hu hl => ?_) (fun v22 => ?_)
        · have hcl := spec_MeetLine.calls K a0 a1 t9 t10 t11 t13 t14 t15 t17 t20 w1  A21.out
          have hz := ((Up.refl _).drew.trans hu).size
          clear hu
          replace hcl := Aside0.mk hcl
          exact fresh_row (by first | (go_simp; done) | (go_simp; rfl)) hcl.out hz
        simp only [Act.put, nm1, nm2, nm3, i64_w]
        refine wpK_any rfl (stab_row _ _ _ _ _) (fun w1 hu hl => ?_) (fun v23 => ?_)
        · exact any_of_run (by first | (go_simp; done) | (go_simp; rfl)) (hl.1 (by kernel_rfl))
        simp only [Act.put, nm1, nm2, nm3, i64_w]
        refine wpK_any rfl (stab_row _ _ _ _ _) (fun w1 hu hl => ?_) (fun v24 => ?_)
        · obtain ⟨A0_, c0_, e0_, hO0_⟩ := hl.1 (by kernel_rfl)
          clear hl hu
          dsimp only at e0_
          subst e0_
          exact any_of_run (u := .slice A0_ t17.length c0_) (by first | (go_simp; done) | (go_simp; rfl)) ⟨A0_, c0_, rfl, hO0_⟩
        simp only [Act.put, nm1, nm2, nm3, i64_w]
        refine wpK_det rfl (fun w1 hu hl => ?_) ?_
        · obtain ⟨A0_, c0_, e0_, hO0_⟩ := hl.2.1 (by kernel_rfl)
          clear hl hu
          dsimp only at e0_
          subst e0_
          clear hO0_
          go_simp
          first | done | rfl
        simp only [Act.put, nm1, nm2, nm3, i64_w]
        refine wpK_any rfl (stab_row _ _ _ _ _) (fun w1 hu hl => ?_) (fun v25 => ?_)
        · exact any_of_run (by first | (go_simp; done) | (go_simp; rfl)) (hl.1 (by kernel_rfl))
        simp only [Act.put, nm1, nm2, nm3, i64_w]
        refine wpK_ops rfl (fun w1 hu => ?_) ?_
        · clear hu
          go_simp
          first | done | rfl
        simp only [Act.put, nm1, nm2, nm3, i64_w]
        refine wpK_nil ?_
        intro w26 hu hap
        simp only [List.drop_succ_cons, List.drop_zero]
        replace hu := (Up.refl _).drew.trans hu
        obtain ⟨-, -, ⟨P18, q19, e0, ht17⟩, -, -, -, -, -, -, -, -, -, -⟩ := hap
        dsimp only at e0
        subst e0
        have hu27 := Aside0.mk hu
        clear hu
        refine wpList_nil ?_
        (try simp only [Exit.then, Exit.inBlock, ↓reduceIte, Nat.reduceEqDiff])
        refine hK8 _ _ ?_
        refine wp_seq_k (fun K28 hK28 => ?_)
        refine' wp_region_up 12 [Slot.det _, Slot.det _, Slot.det _, Slot.det (.agg #[.int .i64 t29, .int .i64 t30, .int .i64 t31]), Slot.det _, Slot.det (.agg #[.int .i64 t33, .int .i64 t34, .int .i64 t35]), Slot.any (RowTo e2 27 w26.heap.size t37 (fun v => .tuple #[v, .int .i64 t40])) false, Slot.any (RowTo e2 27 w26.heap.size t37 (fun v => .tuple #[v, .int .i64 t40])) false, Slot.any (RowTo e2 27 w26.heap.size t37 (fun v => v)) false, Slot.det (.int .i64 t40), Slot.any (RowTo e2 27 w26.heap.size t37 (fun v => v)) false, Slot.det _] (by kernel_rfl) (by kernel_rfl) ?main
        case main =>
         simp only [List.take_succ_cons, List.take_zero]
         refine wpK_ops rfl (fun w1 hu => ?_) ?_
         · clear hu
           go_simp
           first | done | rfl
         simp only [Act.put, nm1, nm2, nm3, i64_w]
         refine wpK_ops rfl (fun w1 hu => ?_) ?_
         · clear hu
           go_simp
           first | done | rfl
         simp only [Act.put, nm1, nm2, nm3, i64_w]
         refine wpK_ops rfl (fun w1 hu => ?_) ?_
         · have cl0 := ((hb2.up (hu7.out.trans hu27.out)).up ((Up.refl _).drew.trans hu)).cell (o := 0) rfl
           have cl1 := ((hb2.up (hu7.out.trans hu27.out)).up ((Up.refl _).drew.trans hu)).cell (o := 1) rfl
           have cl2 := ((hb2.up (hu7.out.trans hu27.out)).up ((Up.refl _).drew.trans hu)).cell (o := 2) rfl
           go_simp
           first | done | rfl
         simp only [Act.put, nm1, nm2, nm3, i64_w]
         refine wpK_ops rfl (fun w1 hu => ?_) ?_
         · have hcl := (laws_toCircle.calls K a2_0 a2_1 a2_2 t29 t30 t31 w1  A32.out)
           clear hu
           replace hcl := Aside0.mk hcl
           go_simp
           exact hcl.out
         simp only [Act.put, nm1, nm2, nm3, i64_w]
         refine wpK_ops rfl (fun w1 hu => ?_) ?_
         · have cl0 := ((hb5.up hu27.out).up ((Up.refl _).drew.trans hu)).cell (o := 0) rfl
           have cl1 := ((hb5.up hu27.out).up ((Up.refl _).drew.trans hu)).cell (o := 1) rfl
           have cl2 := ((hb5.up hu27.out).up ((Up.refl _).drew.trans hu)).cell (o := 2) rfl
           go_simp
           first | done | rfl
         simp only [Act.put, nm1, nm2, nm3, i64_w]
         refine wpK_ops rfl (fun w1 hu => ?_) ?_
         · have hcl := (laws_toLine.calls K a3_0 a3_1 a3_2 t33 t34 t35 w1  A36.out)
           clear hu
           replace hcl := Aside0.mk hcl
           go_simp
           exact hcl.out
         simp only [Act.put, nm1, nm2, nm3, i64_w]
         refine wpK_any rfl (stab_row _ _ _ _ _) (fun w1 hu hl => ?_) (fun v42 => ?_)
         · have hcl := impl_MeetLine.calls K a0 a1 t29 t30 t31 t33 t34 t35 t37 t40 w1  A41.out
           have hz := ((Up.refl _).drew.trans hu).size
           clear hu
           replace hcl := Aside0.mk hcl
           exact fresh_row (by first | (go_simp; done) | (go_simp; rfl)) hcl.out hz
         simp only [Act.put, nm1, nm2, nm3, i64_w]
         refine wpK_any rfl (stab_row _ _ _ _ _) (fun w1 hu hl => ?_) (fun v43 => ?_)
         · exact any_of_run (by first | (go_simp; done) | (go_simp; rfl)) (hl.1 (by kernel_rfl))
         simp only [Act.put, nm1, nm2, nm3, i64_w]
         refine wpK_any rfl (stab_row _ _ _ _ _) (fun w1 hu hl => ?_) (fun v44 => ?_)
         · obtain ⟨A0_, c0_, e0_, hO0_⟩ := hl.1 (by kernel_rfl)
           clear hl hu
           dsimp only at e0_
           subst e0_
           exact any_of_run (u := .slice A0_ t37.length c0_) (by first | (go_simp; done) | (go_simp; rfl)) ⟨A0_, c0_, rfl, hO0_⟩
         simp only [Act.put, nm1, nm2, nm3, i64_w]
         refine wpK_det rfl (fun w1 hu hl => ?_) ?_
         · obtain ⟨A0_, c0_, e0_, hO0_⟩ := hl.2.1 (by kernel_rfl)
           clear hl hu
           dsimp only at e0_
           subst e0_
           clear hO0_
           go_simp
           first | done | rfl
         simp only [Act.put, nm1, nm2, nm3, i64_w]
         refine wpK_any rfl (stab_row _ _ _ _ _) (fun w1 hu hl => ?_) (fun v45 => ?_)
         · exact any_of_run (by first | (go_simp; done) | (go_simp; rfl)) (hl.1 (by kernel_rfl))
         simp only [Act.put, nm1, nm2, nm3, i64_w]
         refine wpK_ops rfl (fun w1 hu => ?_) ?_
         · clear hu
           go_simp
           first | done | rfl
         simp only [Act.put, nm1, nm2, nm3, i64_w]
         refine wpK_nil ?_
         intro w46 hu hap
         simp only [List.drop_succ_cons, List.drop_zero]
         replace hu := (Up.refl _).drew.trans hu
         obtain ⟨-, -, ⟨P38, q39, e0, ht37⟩, -, -, -, -, -, -, -, -, -, -⟩ := hap
         dsimp only at e0
         subst e0
         have hu47 := Aside0.mk hu
         clear hu
         refine wpList_nil ?_
         (try simp only [Exit.then, Exit.inBlock, ↓reduceIte, Nat.reduceEqDiff])
         refine hK28 _ _ ?_
         refine wp_seq_k (fun K48 hK48 => ?_)
         refine wp_seq_k (fun K49 hK49 => ?_)
         refine wp_region_lit ?_
         refine wpList_plain rfl (fun Ko hKo => ?_)
         go_simp
         refine hKo _ _ ?_
         clear hKo Ko
         try simp only [Act.put, nm1, nm2, nm3, i64_w]
         refine wpList_plain rfl (fun Ko hKo => ?_)
         go_simp
         refine hKo _ _ ?_
         clear hKo Ko
         try simp only [Act.put, nm1, nm2, nm3, i64_w]
         refine step_call (wanted_none rfl) (by first | (go_simp; done) | (go_simp; rfl)) (laws_eqPointS.calls K P38 q39 t37 P18 q19 t17 true w46 ht37.rd ((ht17.up hu47.out).rd) A51.out) ?_
         rintro e w52 ⟨rfl, hu⟩
         have hu53 := Aside0.mk hu
         clear hu
         refine ⟨_, rfl, ?_⟩
         simp only [Act.put, nm1, nm2, nm3, i64_w]
         refine wpList_plain rfl (fun Ko hKo => ?_)
         go_simp
         refine hKo _ _ ?_
         clear hKo Ko
         try simp only [Act.put, nm1, nm2, nm3, i64_w]
         refine wpList_plain rfl (fun Ko hKo => ?_)
         go_simp
         refine hKo _ _ ?_
         clear hKo Ko
         try simp only [Act.put, nm1, nm2, nm3, i64_w]
         refine wpList_step (fun Ko hKo => ?_)
         go_simp
         refine hKo _ _ ?_
         clear hKo Ko
         try simp only [Act.put, nm1, nm2, nm3, i64_w]
         refine wpList_step (fun Ko hKo => ?_)
         go_simp
         refine hKo _ _ ?_
         clear hKo Ko
         try simp only [Act.put, nm1, nm2, nm3, i64_w]
         refine wpList_step (fun Ko hKo => ?_)
         go_simp
         refine hKo _ _ ?_
         clear hKo Ko
         try simp only [Act.put, nm1, nm2, nm3, i64_w]
         refine wpList_plain rfl (fun Ko hKo => ?_)
         go_simp
         refine hKo _ _ ?_
         clear hKo Ko
         try simp only [Act.put, nm1, nm2, nm3, i64_w]
         refine wpList_nil ?_
         (try simp only [Exit.then, Exit.inBlock, ↓reduceIte, Nat.reduceEqDiff])
         refine hK49 _ _ ?_
         refine wp_cond_false rfl ?_
         refine wp_skip ?_
         (try simp only [Exit.then, Exit.inBlock, ↓reduceIte, Nat.reduceEqDiff])
         refine hK48 _ _ ?_
         refine wp_seq_k (fun K56 hK56 => ?_)
         refine wp_region_lit ?_
         refine wpList_plain rfl (fun Ko hKo => ?_)
         go_simp
         refine hKo _ _ ?_
         clear hKo Ko
         try simp only [Act.put, nm1, nm2, nm3, i64_w]
         refine wpList_nil ?_
         (try simp only [Exit.then, Exit.inBlock, ↓reduceIte, Nat.reduceEqDiff])
         refine hK56 _ _ ?_
         refine wp_seq_k (fun K57 hK57 => ?_)
         refine wp_region_lit ?_
         refine wpList_plain rfl (fun Ko hKo => ?_)
         go_simp
         refine hKo _ _ ?_
         clear hKo Ko
         try simp only [Act.put, nm1, nm2, nm3, i64_w]
         refine wpList_plain rfl (fun Ko hKo => ?_)
         go_simp
         refine hKo _ _ ?_
         clear hKo Ko
         try simp only [Act.put, nm1, nm2, nm3, i64_w]
         refine step_call (wanted_none rfl) (by first | (go_simp; done) | (go_simp; rfl)) (laws_markPointS.calls K P38 q39 w26.heap.size t37 1 t58 t59 w52 (ht37.up hu53.out) A60.out) ?_
         have lb62 := Aside0.mk (ht37.up hu53.out).lt
         rintro e w61 ⟨rfl, h63, hl, hg⟩
         have hg65 := Aside0.mk hg
         have hl64 := hl
         clear hg hl
         have hl66 : Aside0 (t37.length = t59.length) := Aside0.mk hl64.out
         refine ⟨_, rfl, ?_⟩
         simp only [Act.put, nm1, nm2, nm3, i64_w]
         refine wpList_plain rfl (fun Ko hKo => ?_)
         go_simp
         refine hKo _ _ ?_
         clear hKo Ko
         try simp only [Act.put, nm1, nm2, nm3, i64_w]
         refine wpList_nil ?_
         (try simp only [Exit.then, Exit.inBlock, ↓reduceIte, Nat.reduceEqDiff])
         refine hK57 _ _ ?_
         refine wp_seq_k (fun K67 hK67 => ?_)
         refine wp_region_lit ?_
         refine wpList_plain rfl (fun Ko hKo => ?_)
         go_simp
         refine hKo _ _ ?_
         clear hKo Ko
         try simp only [Act.put, nm1, nm2, nm3, i64_w]
         refine wpList_nil ?_
         (try simp only [Exit.then, Exit.inBlock, ↓reduceIte, Nat.reduceEqDiff])
         refine hK67 _ _ ?_
         refine wp_seq_k (fun K68 hK68 => ?_)
         refine wp_region_lit ?_
         refine wpList_plain rfl (fun Ko hKo => ?_)
         go_simp
         refine hKo _ _ ?_
         clear hKo Ko
         try simp only [Act.put, nm1, nm2, nm3, i64_w]
         refine wpList_plain rfl (fun Ko hKo => ?_)
         go_simp
         refine hKo _ _ ?_
         clear hKo Ko
         try simp only [Act.put, nm1, nm2, nm3, i64_w]
         refine step_call (wanted_none rfl) (by first | (go_simp; done) | (go_simp; rfl)) (Eq.mp (congrArg (fun n_ => Calls Try.prog 30 #[.slice P38 n_ q39, .int .i64 1] w61 _) (Eq.symm hl66.out)) (laws_heldPointS.calls K P38 q39 t59 1 t69 w61 h63.rd A70.out)) ?_
         rintro e w71 ⟨rfl, hu⟩
         have hu72 := Aside0.mk hu
         clear hu
         refine ⟨_, rfl, ?_⟩
         simp only [Act.put, nm1, nm2, nm3, i64_w]
         refine wpList_plain rfl (fun Ko hKo => ?_)
         go_simp
         refine hKo _ _ ?_
         clear hKo Ko
         try simp only [Act.put, nm1, nm2, nm3, i64_w]
         refine wpList_nil ?_
         (try simp only [Exit.then, Exit.inBlock, ↓reduceIte, Nat.reduceEqDiff])
         refine hK68 _ _ ?_
         refine wp_seq_k (fun K73 hK73 => ?_)
         refine wp_seq_k (fun K74 hK74 => ?_)
         refine wp_region_lit ?_
         refine wpList_plain rfl (fun Ko hKo => ?_)
         go_simp
         refine hKo _ _ ?_
         clear hKo Ko
         try simp only [Act.put, nm1, nm2, nm3, i64_w]
         refine wpList_plain rfl (fun Ko hKo => ?_)
         go_simp
         refine hKo _ _ ?_
         clear hKo Ko
         try simp only [Act.put, nm1, nm2, nm3, i64_w]
         refine wpList_nil ?_
         (try simp only [Exit.then, Exit.inBlock, ↓reduceIte, Nat.reduceEqDiff])
         refine hK74 _ _ ?_
         refine wp_cond_false rfl ?_
         refine wp_skip ?_
         (try simp only [Exit.then, Exit.inBlock, ↓reduceIte, Nat.reduceEqDiff])
         refine hK73 _ _ ?_
         refine wp_seq_k (fun K77 hK77 => ?_)
         refine wp_seq_k (fun K78 hK78 => ?_)
         refine wp_region_lit ?_
         refine wpList_plain rfl (fun Ko hKo => ?_)
         go_simp
         refine hKo _ _ ?_
         clear hKo Ko
         try simp only [Act.put, nm1, nm2, nm3, i64_w]
         refine wpList_plain rfl (fun Ko hKo => ?_)
         go_simp
         refine hKo _ _ ?_
         clear hKo Ko
         try simp only [Act.put, nm1, nm2, nm3, i64_w]
         refine wpList_plain rfl (fun Ko hKo => ?_)
         go_simp
         refine hKo _ _ ?_
         clear hKo Ko
         try simp only [Act.put, nm1, nm2, nm3, i64_w]
         refine wpList_nil ?_
         (try simp only [Exit.then, Exit.inBlock, ↓reduceIte, Nat.reduceEqDiff])
         refine hK78 _ _ ?_
         refine wp_cond_false rfl ?_
         refine wp_skip ?_
         (try simp only [Exit.then, Exit.inBlock, ↓reduceIte, Nat.reduceEqDiff])
         refine hK77 _ _ ?_
         refine wp_seq_k (fun K80 hK80 => ?_)
         refine' wp_region_up 12 [Slot.det _, Slot.det _, Slot.det _, Slot.det (.agg #[.int .i64 t81, .int .i64 t82, .int .i64 t83]), Slot.det _, Slot.det (.agg #[.int .i64 t85, .int .i64 t86, .int .i64 t87]), Slot.any (RowTo e2 27 w71.heap.size t89 (fun v => .tuple #[v, .int .i64 t92])) false, Slot.any (RowTo e2 27 w71.heap.size t89 (fun v => .tuple #[v, .int .i64 t92])) false, Slot.any (RowTo e2 27 w71.heap.size t89 (fun v => v)) false, Slot.det (.int .i64 t92), Slot.any (RowTo e2 27 w71.heap.size t89 (fun v => v)) false, Slot.det _] (by kernel_rfl) (by kernel_rfl) ?main
         case main =>
          simp only [List.take_succ_cons, List.take_zero]
          refine wpK_ops rfl (fun w1 hu => ?_) ?_
          · clear hu
            go_simp
            first | done | rfl
          simp only [Act.put, nm1, nm2, nm3, i64_w]
          refine wpK_ops rfl (fun w1 hu => ?_) ?_
          · clear hu
            go_simp
            first | done | rfl
          simp only [Act.put, nm1, nm2, nm3, i64_w]
          refine wpK_ops rfl (fun w1 hu => ?_) ?_
          · have cl0 := ((hb2.up (((((hu7.out.trans hu27.out).trans hu47.out).trans hu53.out).grow hg65.out (fun k hk => Nat.le_trans ((Nat.le_trans (hu7.out.size) hu27.out.size)) ((fun k hk => (lb62.out k hk).1) k hk))).trans hu72.out)).up ((Up.refl _).drew.trans hu)).cell (o := 0) rfl
            have cl1 := ((hb2.up (((((hu7.out.trans hu27.out).trans hu47.out).trans hu53.out).grow hg65.out (fun k hk => Nat.le_trans ((Nat.le_trans (hu7.out.size) hu27.out.size)) ((fun k hk => (lb62.out k hk).1) k hk))).trans hu72.out)).up ((Up.refl _).drew.trans hu)).cell (o := 1) rfl
            have cl2 := ((hb2.up (((((hu7.out.trans hu27.out).trans hu47.out).trans hu53.out).grow hg65.out (fun k hk => Nat.le_trans ((Nat.le_trans (hu7.out.size) hu27.out.size)) ((fun k hk => (lb62.out k hk).1) k hk))).trans hu72.out)).up ((Up.refl _).drew.trans hu)).cell (o := 2) rfl
            go_simp
            first | done | rfl
          simp only [Act.put, nm1, nm2, nm3, i64_w]
          refine wpK_ops rfl (fun w1 hu => ?_) ?_
          · have hcl := (laws_toCircle.calls K a2_0 a2_1 a2_2 t81 t82 t83 w1  A84.out)
            clear hu
            replace hcl := Aside0.mk hcl
            go_simp
            exact hcl.out
          simp only [Act.put, nm1, nm2, nm3, i64_w]
          refine wpK_ops rfl (fun w1 hu => ?_) ?_
          · have cl0 := ((hb5.up ((((hu27.out.trans hu47.out).trans hu53.out).grow hg65.out (fun k hk => Nat.le_trans (hu27.out.size) ((fun k hk => (lb62.out k hk).1) k hk))).trans hu72.out)).up ((Up.refl _).drew.trans hu)).cell (o := 0) rfl
            have cl1 := ((hb5.up ((((hu27.out.trans hu47.out).trans hu53.out).grow hg65.out (fun k hk => Nat.le_trans (hu27.out.size) ((fun k hk => (lb62.out k hk).1) k hk))).trans hu72.out)).up ((Up.refl _).drew.trans hu)).cell (o := 1) rfl
            have cl2 := ((hb5.up ((((hu27.out.trans hu47.out).trans hu53.out).grow hg65.out (fun k hk => Nat.le_trans (hu27.out.size) ((fun k hk => (lb62.out k hk).1) k hk))).trans hu72.out)).up ((Up.refl _).drew.trans hu)).cell (o := 2) rfl
            go_simp
            first | done | rfl
          simp only [Act.put, nm1, nm2, nm3, i64_w]
          refine wpK_ops rfl (fun w1 hu => ?_) ?_
          · have hcl := (laws_toLine.calls K a3_0 a3_1 a3_2 t85 t86 t87 w1  A88.out)
            clear hu
            replace hcl := Aside0.mk hcl
            go_simp
            exact hcl.out
          simp only [Act.put, nm1, nm2, nm3, i64_w]
          refine wpK_any rfl (stab_row _ _ _ _ _) (fun w1 hu hl => ?_) (fun v94 => ?_)
          · have hcl := impl_MeetLine.calls K a0 a1 t81 t82 t83 t85 t86 t87 t89 t92 w1  A93.out
            have hz := ((Up.refl _).drew.trans hu).size
            clear hu
            replace hcl := Aside0.mk hcl
            exact fresh_row (by first | (go_simp; done) | (go_simp; rfl)) hcl.out hz
          simp only [Act.put, nm1, nm2, nm3, i64_w]
          refine wpK_any rfl (stab_row _ _ _ _ _) (fun w1 hu hl => ?_) (fun v95 => ?_)
          · exact any_of_run (by first | (go_simp; done) | (go_simp; rfl)) (hl.1 (by kernel_rfl))
          simp only [Act.put, nm1, nm2, nm3, i64_w]
          refine wpK_any rfl (stab_row _ _ _ _ _) (fun w1 hu hl => ?_) (fun v96 => ?_)
          · obtain ⟨A0_, c0_, e0_, hO0_⟩ := hl.1 (by kernel_rfl)
            clear hl hu
            dsimp only at e0_
            subst e0_
            exact any_of_run (u := .slice A0_ t89.length c0_) (by first | (go_simp; done) | (go_simp; rfl)) ⟨A0_, c0_, rfl, hO0_⟩
          simp only [Act.put, nm1, nm2, nm3, i64_w]
          refine wpK_det rfl (fun w1 hu hl => ?_) ?_
          · obtain ⟨A0_, c0_, e0_, hO0_⟩ := hl.2.1 (by kernel_rfl)
            clear hl hu
            dsimp only at e0_
            subst e0_
            clear hO0_
            go_simp
            first | done | rfl
          simp only [Act.put, nm1, nm2, nm3, i64_w]
          refine wpK_any rfl (stab_row _ _ _ _ _) (fun w1 hu hl => ?_) (fun v97 => ?_)
          · exact any_of_run (by first | (go_simp; done) | (go_simp; rfl)) (hl.1 (by kernel_rfl))
          simp only [Act.put, nm1, nm2, nm3, i64_w]
          refine wpK_ops rfl (fun w1 hu => ?_) ?_
          · clear hu
            go_simp
            first | done | rfl
          simp only [Act.put, nm1, nm2, nm3, i64_w]
          refine wpK_nil ?_
          intro w98 hu hap
          simp only [List.drop_succ_cons, List.drop_zero]
          replace hu := (Up.refl _).drew.trans hu
          obtain ⟨-, -, ⟨P90, q91, e0, ht89⟩, -, -, -, -, -, -, -, -, -, -⟩ := hap
          dsimp only at e0
          subst e0
          have hu99 := Aside0.mk hu
          clear hu
          refine wpList_nil ?_
          (try simp only [Exit.then, Exit.inBlock, ↓reduceIte, Nat.reduceEqDiff])
          refine hK80 _ _ ?_
          refine wp_seq_k (fun K100 hK100 => ?_)
          refine wp_seq_k (fun K101 hK101 => ?_)
          refine wp_region_lit ?_
          refine wpList_plain rfl (fun Ko hKo => ?_)
          go_simp
          refine hKo _ _ ?_
          clear hKo Ko
          try simp only [Act.put, nm1, nm2, nm3, i64_w]
          refine wpList_plain rfl (fun Ko hKo => ?_)
          go_simp
          refine hKo _ _ ?_
          clear hKo Ko
          try simp only [Act.put, nm1, nm2, nm3, i64_w]
          refine step_call (wanted_none rfl) (by first | (go_simp; done) | (go_simp; rfl)) (laws_eqPointS.calls K P90 q91 t89 P18 q19 t17 true w98 ht89.rd ((ht17.up ((((hu47.out.trans hu53.out).grow hg65.out (fun k hk => Nat.le_trans (Nat.le_refl _) ((fun k hk => (lb62.out k hk).1) k hk))).trans hu72.out).trans hu99.out)).rd) A103.out) ?_
          rintro e w104 ⟨rfl, hu⟩
          have hu105 := Aside0.mk hu
          clear hu
          refine ⟨_, rfl, ?_⟩
          simp only [Act.put, nm1, nm2, nm3, i64_w]
          refine wpList_plain rfl (fun Ko hKo => ?_)
          go_simp
          refine hKo _ _ ?_
          clear hKo Ko
          try simp only [Act.put, nm1, nm2, nm3, i64_w]
          refine wpList_plain rfl (fun Ko hKo => ?_)
          go_simp
          refine hKo _ _ ?_
          clear hKo Ko
          try simp only [Act.put, nm1, nm2, nm3, i64_w]
          refine wpList_step (fun Ko hKo => ?_)
          go_simp
          refine hKo _ _ ?_
          clear hKo Ko
          try simp only [Act.put, nm1, nm2, nm3, i64_w]
          refine wpList_step (fun Ko hKo => ?_)
          go_simp
          refine hKo _ _ ?_
          clear hKo Ko
          try simp only [Act.put, nm1, nm2, nm3, i64_w]
          refine wpList_step (fun Ko hKo => ?_)
          go_simp
          refine hKo _ _ ?_
          clear hKo Ko
          try simp only [Act.put, nm1, nm2, nm3, i64_w]
          refine wpList_plain rfl (fun Ko hKo => ?_)
          go_simp
          refine hKo _ _ ?_
          clear hKo Ko
          try simp only [Act.put, nm1, nm2, nm3, i64_w]
          refine wpList_nil ?_
          (try simp only [Exit.then, Exit.inBlock, ↓reduceIte, Nat.reduceEqDiff])
          refine hK101 _ _ ?_
          refine wp_cond_true rfl ?_
          refine wp_seq_k (fun K123 hK123 => ?_)
          refine wp_region_lit ?_
          refine wpList_plain rfl (fun Ko hKo => ?_)
          go_simp
          refine hKo _ _ ?_
          clear hKo Ko
          try simp only [Act.put, nm1, nm2, nm3, i64_w]
          refine wpList_nil ?_
          (try simp only [Exit.then, Exit.inBlock, ↓reduceIte, Nat.reduceEqDiff])
          refine hK123 _ _ ?_
          refine wp_ret ?_
          (try simp only [Exit.then, Exit.inBlock, ↓reduceIte, Nat.reduceEqDiff])
          refine hQf _ _ _ ?_
          exact bodyPost_ret (v := .bool false) (by first | rfl | (simp [results, Try.results12, go_sem]; done) | (simp [results, Try.results12, go_sem]; rfl)) rfl ⟨rfl, ((((((((hu4.out.trans hu7.out).trans hu27.out).trans hu47.out).trans hu53.out).grow hg65.out (fun k hk => Nat.le_trans ((Nat.le_trans ((Nat.le_trans (hu4.out.size) hu7.out.size)) hu27.out.size)) ((fun k hk => (lb62.out k hk).1) k hk))).trans hu72.out).trans hu99.out).trans hu105.out)⟩
     ·
      rw [if_neg c106] at H
      replace c106 := Bool.eq_false_iff.mpr c106
      subst c106
      obtain rfl := Option.some.inj H
      go_enter Try.func12, Try.ntmps12
      refine wp_hide (fun Qf hQf => ?_)
      refine wp_seq_k (fun K1 hK1 => ?_)
      refine wp_region_lit ?_
      refine step_new (cs := [.int .i64 a2_0, .int .i64 a2_1, .int .i64 a2_2]) (T := 24) (f := fun b => .pointer (some ⟨b, 0, none⟩)) rfl (by first | (go_simp; done) | (go_simp; rfl)) ?_
      intro b2 w3 hu lb hb2
      simp only [Act.put, nm1, nm2, nm3, i64_w]
      have lbb2 := Aside0.mk lb
      have ltb2 := Aside0.mk hb2.lt
      clear lb
      have hu4 := Aside0.mk hu
      clear hu
      refine step_new (cs := [.int .i64 a3_0, .int .i64 a3_1, .int .i64 a3_2]) (T := 39) (f := fun b => .pointer (some ⟨b, 0, none⟩)) rfl (by first | (go_simp; done) | (go_simp; rfl)) ?_
      intro b5 w6 hu lb hb5
      simp only [Act.put, nm1, nm2, nm3, i64_w]
      have lbb5 := Aside0.mk lb
      have ltb5 := Aside0.mk hb5.lt
      clear lb
      have hu7 := Aside0.mk hu
      clear hu
      refine wpList_plain rfl (fun Ko hKo => ?_)
      go_simp
      refine hKo _ _ ?_
      clear hKo Ko
      try simp only [Act.put, nm1, nm2, nm3, i64_w]
      refine wpList_nil ?_
      (try simp only [Exit.then, Exit.inBlock, ↓reduceIte, Nat.reduceEqDiff])
      refine hK1 _ _ ?_
      refine wp_seq_k (fun K8 hK8 => ?_)
      refine' wp_region_up 12 [Slot.det _, Slot.det _, Slot.det _, Slot.det (.agg #[.int .i64 t9, .int .i64 t10, .int .i64 t11]), Slot.det _, Slot.det (.agg #[.int .i64 t13, .int .i64 t14, .int .i64 t15]), Slot.any (RowTo e2 27 w6.heap.size t17 (fun v => .tuple #[v, .int .i64 t20])) false, Slot.any (RowTo e2 27 w6.heap.size t17 (fun v => .tuple #[v, .int .i64 t20])) false, Slot.any (RowTo e2 27 w6.heap.size t17 (fun v => v)) false, Slot.det (.int .i64 t20), Slot.any (RowTo e2 27 w6.heap.size t17 (fun v => v)) false, Slot.det _] (by kernel_rfl) (by kernel_rfl) ?main
      case main =>
       simp only [List.take_succ_cons, List.take_zero]
       refine wpK_ops rfl (fun w1 hu => ?_) ?_
       · clear hu
         go_simp
         first | done | rfl
       simp only [Act.put, nm1, nm2, nm3, i64_w]
       refine wpK_ops rfl (fun w1 hu => ?_) ?_
       · clear hu
         go_simp
         first | done | rfl
       simp only [Act.put, nm1, nm2, nm3, i64_w]
       refine wpK_ops rfl (fun w1 hu => ?_) ?_
       · have cl0 := ((hb2.up hu7.out).up ((Up.refl _).drew.trans hu)).cell (o := 0) rfl
         have cl1 := ((hb2.up hu7.out).up ((Up.refl _).drew.trans hu)).cell (o := 1) rfl
         have cl2 := ((hb2.up hu7.out).up ((Up.refl _).drew.trans hu)).cell (o := 2) rfl
         go_simp
         first | done | rfl
       simp only [Act.put, nm1, nm2, nm3, i64_w]
       refine wpK_ops rfl (fun w1 hu => ?_) ?_
       · have hcl := (laws_toCircle.calls K a2_0 a2_1 a2_2 t9 t10 t11 w1  A12.out)
         clear hu
         replace hcl := Aside0.mk hcl
         go_simp
         exact hcl.out
       simp only [Act.put, nm1, nm2, nm3, i64_w]
       refine wpK_ops rfl (fun w1 hu => ?_) ?_
       · have cl0 := (hb5.up ((Up.refl _).drew.trans hu)).cell (o := 0) rfl
         have cl1 := (hb5.up ((Up.refl _).drew.trans hu)).cell (o := 1) rfl
         have cl2 := (hb5.up ((Up.refl _).drew.trans hu)).cell (o := 2) rfl
         go_simp
         first | done | rfl
       simp only [Act.put, nm1, nm2, nm3, i64_w]
       refine wpK_ops rfl (fun w1 hu => ?_) ?_
       · have hcl := (laws_toLine.calls K a3_0 a3_1 a3_2 t13 t14 t15 w1  A16.out)
         clear hu
         replace hcl := Aside0.mk hcl
         go_simp
         exact hcl.out
       simp only [Act.put, nm1, nm2, nm3, i64_w]
       refine wpK_any rfl (stab_row _ _ _ _ _) (fun w1 hu hl => ?_) (fun v22 => ?_)
       · have hcl := spec_MeetLine.calls K a0 a1 t9 t10 t11 t13 t14 t15 t17 t20 w1  A21.out
         have hz := ((Up.refl _).drew.trans hu).size
         clear hu
         replace hcl := Aside0.mk hcl
         exact fresh_row (by first | (go_simp; done) | (go_simp; rfl)) hcl.out hz
       simp only [Act.put, nm1, nm2, nm3, i64_w]
       refine wpK_any rfl (stab_row _ _ _ _ _) (fun w1 hu hl => ?_) (fun v23 => ?_)
       · exact any_of_run (by first | (go_simp; done) | (go_simp; rfl)) (hl.1 (by kernel_rfl))
       simp only [Act.put, nm1, nm2, nm3, i64_w]
       refine wpK_any rfl (stab_row _ _ _ _ _) (fun w1 hu hl => ?_) (fun v24 => ?_)
       · obtain ⟨A0_, c0_, e0_, hO0_⟩ := hl.1 (by kernel_rfl)
         clear hl hu
         dsimp only at e0_
         subst e0_
         exact any_of_run (u := .slice A0_ t17.length c0_) (by first | (go_simp; done) | (go_simp; rfl)) ⟨A0_, c0_, rfl, hO0_⟩
       simp only [Act.put, nm1, nm2, nm3, i64_w]
       refine wpK_det rfl (fun w1 hu hl => ?_) ?_
       · obtain ⟨A0_, c0_, e0_, hO0_⟩ := hl.2.1 (by kernel_rfl)
         clear hl hu
         dsimp only at e0_
         subst e0_
         clear hO0_
         go_simp
         first | done | rfl
       simp only [Act.put, nm1, nm2, nm3, i64_w]
       refine wpK_any rfl (stab_row _ _ _ _ _) (fun w1 hu hl => ?_) (fun v25 => ?_)
       · exact any_of_run (by first | (go_simp; done) | (go_simp; rfl)) (hl.1 (by kernel_rfl))
       simp only [Act.put, nm1, nm2, nm3, i64_w]
       refine wpK_ops rfl (fun w1 hu => ?_) ?_
       · clear hu
         go_simp
         first | done | rfl
       simp only [Act.put, nm1, nm2, nm3, i64_w]
       refine wpK_nil ?_
       intro w26 hu hap
       simp only [List.drop_succ_cons, List.drop_zero]
       replace hu := (Up.refl _).drew.trans hu
       obtain ⟨-, -, ⟨P18, q19, e0, ht17⟩, -, -, -, -, -, -, -, -, -, -⟩ := hap
       dsimp only at e0
       subst e0
       have hu27 := Aside0.mk hu
       clear hu
       refine wpList_nil ?_
       (try simp only [Exit.then, Exit.inBlock, ↓reduceIte, Nat.reduceEqDiff])
       refine hK8 _ _ ?_
       refine wp_seq_k (fun K28 hK28 => ?_)
       refine' wp_region_up 12 [Slot.det _, Slot.det _, Slot.det _, Slot.det (.agg #[.int .i64 t29, .int .i64 t30, .int .i64 t31]), Slot.det _, Slot.det (.agg #[.int .i64 t33, .int .i64 t34, .int .i64 t35]), Slot.any (RowTo e2 27 w26.heap.size t37 (fun v => .tuple #[v, .int .i64 t40])) false, Slot.any (RowTo e2 27 w26.heap.size t37 (fun v => .tuple #[v, .int .i64 t40])) false, Slot.any (RowTo e2 27 w26.heap.size t37 (fun v => v)) false, Slot.det (.int .i64 t40), Slot.any (RowTo e2 27 w26.heap.size t37 (fun v => v)) false, Slot.det _] (by kernel_rfl) (by kernel_rfl) ?main
       case main =>
        simp only [List.take_succ_cons, List.take_zero]
        refine wpK_ops rfl (fun w1 hu => ?_) ?_
        · clear hu
          go_simp
          first | done | rfl
        simp only [Act.put, nm1, nm2, nm3, i64_w]
        refine wpK_ops rfl (fun w1 hu => ?_) ?_
        · clear hu
          go_simp
          first | done | rfl
        simp only [Act.put, nm1, nm2, nm3, i64_w]
        refine wpK_ops rfl (fun w1 hu => ?_) ?_
        · have cl0 := ((hb2.up (hu7.out.trans hu27.out)).up ((Up.refl _).drew.trans hu)).cell (o := 0) rfl
          have cl1 := ((hb2.up (hu7.out.trans hu27.out)).up ((Up.refl _).drew.trans hu)).cell (o := 1) rfl
          have cl2 := ((hb2.up (hu7.out.trans hu27.out)).up ((Up.refl _).drew.trans hu)).cell (o := 2) rfl
          go_simp
          first | done | rfl
        simp only [Act.put, nm1, nm2, nm3, i64_w]
        refine wpK_ops rfl (fun w1 hu => ?_) ?_
        · have hcl := (laws_toCircle.calls K a2_0 a2_1 a2_2 t29 t30 t31 w1  A32.out)
          clear hu
          replace hcl := Aside0.mk hcl
          go_simp
          exact hcl.out
        simp only [Act.put, nm1, nm2, nm3, i64_w]
        refine wpK_ops rfl (fun w1 hu => ?_) ?_
        · have cl0 := ((hb5.up hu27.out).up ((Up.refl _).drew.trans hu)).cell (o := 0) rfl
          have cl1 := ((hb5.up hu27.out).up ((Up.refl _).drew.trans hu)).cell (o := 1) rfl
          have cl2 := ((hb5.up hu27.out).up ((Up.refl _).drew.trans hu)).cell (o := 2) rfl
          go_simp
          first | done | rfl
        simp only [Act.put, nm1, nm2, nm3, i64_w]
        refine wpK_ops rfl (fun w1 hu => ?_) ?_
        · have hcl := (laws_toLine.calls K a3_0 a3_1 a3_2 t33 t34 t35 w1  A36.out)
          clear hu
          replace hcl := Aside0.mk hcl
          go_simp
          exact hcl.out
        simp only [Act.put, nm1, nm2, nm3, i64_w]
        refine wpK_any rfl (stab_row _ _ _ _ _) (fun w1 hu hl => ?_) (fun v42 => ?_)
        · have hcl := impl_MeetLine.calls K a0 a1 t29 t30 t31 t33 t34 t35 t37 t40 w1  A41.out
          have hz := ((Up.refl _).drew.trans hu).size
          clear hu
          replace hcl := Aside0.mk hcl
          exact fresh_row (by first | (go_simp; done) | (go_simp; rfl)) hcl.out hz
        simp only [Act.put, nm1, nm2, nm3, i64_w]
        refine wpK_any rfl (stab_row _ _ _ _ _) (fun w1 hu hl => ?_) (fun v43 => ?_)
        · exact any_of_run (by first | (go_simp; done) | (go_simp; rfl)) (hl.1 (by kernel_rfl))
        simp only [Act.put, nm1, nm2, nm3, i64_w]
        refine wpK_any rfl (stab_row _ _ _ _ _) (fun w1 hu hl => ?_) (fun v44 => ?_)
        · obtain ⟨A0_, c0_, e0_, hO0_⟩ := hl.1 (by kernel_rfl)
          clear hl hu
          dsimp only at e0_
          subst e0_
          exact any_of_run (u := .slice A0_ t37.length c0_) (by first | (go_simp; done) | (go_simp; rfl)) ⟨A0_, c0_, rfl, hO0_⟩
        simp only [Act.put, nm1, nm2, nm3, i64_w]
        refine wpK_det rfl (fun w1 hu hl => ?_) ?_
        · obtain ⟨A0_, c0_, e0_, hO0_⟩ := hl.2.1 (by kernel_rfl)
          clear hl hu
          dsimp only at e0_
          subst e0_
          clear hO0_
          go_simp
          first | done | rfl
        simp only [Act.put, nm1, nm2, nm3, i64_w]
        refine wpK_any rfl (stab_row _ _ _ _ _) (fun w1 hu hl => ?_) (fun v45 => ?_)
        · exact any_of_run (by first | (go_simp; done) | (go_simp; rfl)) (hl.1 (by kernel_rfl))
        simp only [Act.put, nm1, nm2, nm3, i64_w]
        refine wpK_ops rfl (fun w1 hu => ?_) ?_
        · clear hu
          go_simp
          first | done | rfl
        simp only [Act.put, nm1, nm2, nm3, i64_w]
        refine wpK_nil ?_
        intro w46 hu hap
        simp only [List.drop_succ_cons, List.drop_zero]
        replace hu := (Up.refl _).drew.trans hu
        obtain ⟨-, -, ⟨P38, q39, e0, ht37⟩, -, -, -, -, -, -, -, -, -, -⟩ := hap
        dsimp only at e0
        subst e0
        have hu47 := Aside0.mk hu
        clear hu
        refine wpList_nil ?_
        (try simp only [Exit.then, Exit.inBlock, ↓reduceIte, Nat.reduceEqDiff])
        refine hK28 _ _ ?_
        refine wp_seq_k (fun K48 hK48 => ?_)
        refine wp_seq_k (fun K49 hK49 => ?_)
        refine wp_region_lit ?_
        refine wpList_plain rfl (fun Ko hKo => ?_)
        go_simp
        refine hKo _ _ ?_
        clear hKo Ko
        try simp only [Act.put, nm1, nm2, nm3, i64_w]
        refine wpList_plain rfl (fun Ko hKo => ?_)
        go_simp
        refine hKo _ _ ?_
        clear hKo Ko
        try simp only [Act.put, nm1, nm2, nm3, i64_w]
        refine step_call (wanted_none rfl) (by first | (go_simp; done) | (go_simp; rfl)) (laws_eqPointS.calls K P38 q39 t37 P18 q19 t17 true w46 ht37.rd ((ht17.up hu47.out).rd) A51.out) ?_
        rintro e w52 ⟨rfl, hu⟩
        have hu53 := Aside0.mk hu
        clear hu
        refine ⟨_, rfl, ?_⟩
        simp only [Act.put, nm1, nm2, nm3, i64_w]
        refine wpList_plain rfl (fun Ko hKo => ?_)
        go_simp
        refine hKo _ _ ?_
        clear hKo Ko
        try simp only [Act.put, nm1, nm2, nm3, i64_w]
        refine wpList_plain rfl (fun Ko hKo => ?_)
        go_simp
        refine hKo _ _ ?_
        clear hKo Ko
        try simp only [Act.put, nm1, nm2, nm3, i64_w]
        refine wpList_step (fun Ko hKo => ?_)
        go_simp
        refine hKo _ _ ?_
        clear hKo Ko
        try simp only [Act.put, nm1, nm2, nm3, i64_w]
        refine wpList_step (fun Ko hKo => ?_)
        go_simp
        refine hKo _ _ ?_
        clear hKo Ko
        try simp only [Act.put, nm1, nm2, nm3, i64_w]
        refine wpList_step (fun Ko hKo => ?_)
        go_simp
        refine hKo _ _ ?_
        clear hKo Ko
        try simp only [Act.put, nm1, nm2, nm3, i64_w]
        refine wpList_plain rfl (fun Ko hKo => ?_)
        go_simp
        refine hKo _ _ ?_
        clear hKo Ko
        try simp only [Act.put, nm1, nm2, nm3, i64_w]
        refine wpList_nil ?_
        (try simp only [Exit.then, Exit.inBlock, ↓reduceIte, Nat.reduceEqDiff])
        refine hK49 _ _ ?_
        refine wp_cond_false rfl ?_
        refine wp_skip ?_
        (try simp only [Exit.then, Exit.inBlock, ↓reduceIte, Nat.reduceEqDiff])
        refine hK48 _ _ ?_
        refine wp_seq_k (fun K56 hK56 => ?_)
        refine wp_region_lit ?_
        refine wpList_plain rfl (fun Ko hKo => ?_)
        go_simp
        refine hKo _ _ ?_
        clear hKo Ko
        try simp only [Act.put, nm1, nm2, nm3, i64_w]
        refine wpList_nil ?_
        (try simp only [Exit.then, Exit.inBlock, ↓reduceIte, Nat.reduceEqDiff])
        refine hK56 _ _ ?_
        refine wp_seq_k (fun K57 hK57 => ?_)
        refine wp_region_lit ?_
        refine wpList_plain rfl (fun Ko hKo => ?_)
        go_simp
        refine hKo _ _ ?_
        clear hKo Ko
        try simp only [Act.put, nm1, nm2, nm3, i64_w]
        refine wpList_plain rfl (fun Ko hKo => ?_)
        go_simp
        refine hKo _ _ ?_
        clear hKo Ko
        try simp only [Act.put, nm1, nm2, nm3, i64_w]
        refine step_call (wanted_none rfl) (by first | (go_simp; done) | (go_simp; rfl)) (laws_markPointS.calls K P38 q39 w26.heap.size t37 1 t58 t59 w52 (ht37.up hu53.out) A60.out) ?_
        have lb62 := Aside0.mk (ht37.up hu53.out).lt
        rintro e w61 ⟨rfl, h63, hl, hg⟩
        have hg65 := Aside0.mk hg
        have hl64 := hl
        clear hg hl
        have hl66 : Aside0 (t37.length = t59.length) := Aside0.mk hl64.out
        refine ⟨_, rfl, ?_⟩
        simp only [Act.put, nm1, nm2, nm3, i64_w]
        refine wpList_plain rfl (fun Ko hKo => ?_)
        go_simp
        refine hKo _ _ ?_
        clear hKo Ko
        try simp only [Act.put, nm1, nm2, nm3, i64_w]
        refine wpList_nil ?_
        (try simp only [Exit.then, Exit.inBlock, ↓reduceIte, Nat.reduceEqDiff])
        refine hK57 _ _ ?_
        refine wp_seq_k (fun K67 hK67 => ?_)
        refine wp_region_lit ?_
        refine wpList_plain rfl (fun Ko hKo => ?_)
        go_simp
        refine hKo _ _ ?_
        clear hKo Ko
        try simp only [Act.put, nm1, nm2, nm3, i64_w]
        refine wpList_nil ?_
        (try simp only [Exit.then, Exit.inBlock, ↓reduceIte, Nat.reduceEqDiff])
        refine hK67 _ _ ?_
        refine wp_seq_k (fun K68 hK68 => ?_)
        refine wp_region_lit ?_
        refine wpList_plain rfl (fun Ko hKo => ?_)
        go_simp
        refine hKo _ _ ?_
        clear hKo Ko
        try simp only [Act.put, nm1, nm2, nm3, i64_w]
        refine wpList_plain rfl (fun Ko hKo => ?_)
        go_simp
        refine hKo _ _ ?_
        clear hKo Ko
        try simp only [Act.put, nm1, nm2, nm3, i64_w]
        refine step_call (wanted_none rfl) (by first | (go_simp; done) | (go_simp; rfl)) (Eq.mp (congrArg (fun n_ => Calls Try.prog 30 #[.slice P38 n_ q39, .int .i64 1] w61 _) (Eq.symm hl66.out)) (laws_heldPointS.calls K P38 q39 t59 1 t69 w61 h63.rd A70.out)) ?_
        rintro e w71 ⟨rfl, hu⟩
        have hu72 := Aside0.mk hu
        clear hu
        refine ⟨_, rfl, ?_⟩
        simp only [Act.put, nm1, nm2, nm3, i64_w]
        refine wpList_plain rfl (fun Ko hKo => ?_)
        go_simp
        refine hKo _ _ ?_
        clear hKo Ko
        try simp only [Act.put, nm1, nm2, nm3, i64_w]
        refine wpList_nil ?_
        (try simp only [Exit.then, Exit.inBlock, ↓reduceIte, Nat.reduceEqDiff])
        refine hK68 _ _ ?_
        refine wp_seq_k (fun K73 hK73 => ?_)
        refine wp_seq_k (fun K74 hK74 => ?_)
        refine wp_region_lit ?_
        refine wpList_plain rfl (fun Ko hKo => ?_)
        go_simp
        refine hKo _ _ ?_
        clear hKo Ko
        try simp only [Act.put, nm1, nm2, nm3, i64_w]
        refine wpList_plain rfl (fun Ko hKo => ?_)
        go_simp
        refine hKo _ _ ?_
        clear hKo Ko
        try simp only [Act.put, nm1, nm2, nm3, i64_w]
        refine wpList_nil ?_
        (try simp only [Exit.then, Exit.inBlock, ↓reduceIte, Nat.reduceEqDiff])
        refine hK74 _ _ ?_
        refine wp_cond_false rfl ?_
        refine wp_skip ?_
        (try simp only [Exit.then, Exit.inBlock, ↓reduceIte, Nat.reduceEqDiff])
        refine hK73 _ _ ?_
        refine wp_seq_k (fun K77 hK77 => ?_)
        refine wp_seq_k (fun K78 hK78 => ?_)
        refine wp_region_lit ?_
        refine wpList_plain rfl (fun Ko hKo => ?_)
        go_simp
        refine hKo _ _ ?_
        clear hKo Ko
        try simp only [Act.put, nm1, nm2, nm3, i64_w]
        refine wpList_plain rfl (fun Ko hKo => ?_)
        go_simp
        refine hKo _ _ ?_
        clear hKo Ko
        try simp only [Act.put, nm1, nm2, nm3, i64_w]
        refine wpList_plain rfl (fun Ko hKo => ?_)
        go_simp
        refine hKo _ _ ?_
        clear hKo Ko
        try simp only [Act.put, nm1, nm2, nm3, i64_w]
        refine wpList_nil ?_
        (try simp only [Exit.then, Exit.inBlock, ↓reduceIte, Nat.reduceEqDiff])
        refine hK78 _ _ ?_
        refine wp_cond_false rfl ?_
        refine wp_skip ?_
        (try simp only [Exit.then, Exit.inBlock, ↓reduceIte, Nat.reduceEqDiff])
        refine hK77 _ _ ?_
        refine wp_seq_k (fun K80 hK80 => ?_)
        refine' wp_region_up 12 [Slot.det _, Slot.det _, Slot.det _, Slot.det (.agg #[.int .i64 t81, .int .i64 t82, .int .i64 t83]), Slot.det _, Slot.det (.agg #[.int .i64 t85, .int .i64 t86, .int .i64 t87]), Slot.any (RowTo e2 27 w71.heap.size t89 (fun v => .tuple #[v, .int .i64 t92])) false, Slot.any (RowTo e2 27 w71.heap.size t89 (fun v => .tuple #[v, .int .i64 t92])) false, Slot.any (RowTo e2 27 w71.heap.size t89 (fun v => v)) false, Slot.det (.int .i64 t92), Slot.any (RowTo e2 27 w71.heap.size t89 (fun v => v)) false, Slot.det _] (by kernel_rfl) (by kernel_rfl) ?main
        case main =>
         simp only [List.take_succ_cons, List.take_zero]
         refine wpK_ops rfl (fun w1 hu => ?_) ?_
         · clear hu
           go_simp
           first | done | rfl
         simp only [Act.put, nm1, nm2, nm3, i64_w]
         refine wpK_ops rfl (fun w1 hu => ?_) ?_
         · clear hu
           go_simp
           first | done | rfl
         simp only [Act.put, nm1, nm2, nm3, i64_w]
         refine wpK_ops rfl (fun w1 hu => ?_) ?_
         · have cl0 := ((hb2.up (((((hu7.out.trans hu27.out).trans hu47.out).trans hu53.out).grow hg65.out (fun k hk => Nat.le_trans ((Nat.le_trans (hu7.out.size) hu27.out.size)) ((fun k hk => (lb62.out k hk).1) k hk))).trans hu72.out)).up ((Up.refl _).drew.trans hu)).cell (o := 0) rfl
           have cl1 := ((hb2.up (((((hu7.out.trans hu27.out).trans hu47.out).trans hu53.out).grow hg65.out (fun k hk => Nat.le_trans ((Nat.le_trans (hu7.out.size) hu27.out.size)) ((fun k hk => (lb62.out k hk).1) k hk))).trans hu72.out)).up ((Up.refl _).drew.trans hu)).cell (o := 1) rfl
           have cl2 := ((hb2.up (((((hu7.out.trans hu27.out).trans hu47.out).trans hu53.out).grow hg65.out (fun k hk => Nat.le_trans ((Nat.le_trans (hu7.out.size) hu27.out.size)) ((fun k hk => (lb62.out k hk).1) k hk))).trans hu72.out)).up ((Up.refl _).drew.trans hu)).cell (o := 2) rfl
           go_simp
           first | done | rfl
         simp only [Act.put, nm1, nm2, nm3, i64_w]
         refine wpK_ops rfl (fun w1 hu => ?_) ?_
         · have hcl := (laws_toCircle.calls K a2_0 a2_1 a2_2 t81 t82 t83 w1  A84.out)
           clear hu
           replace hcl := Aside0.mk hcl
           go_simp
           exact hcl.out
         simp only [Act.put, nm1, nm2, nm3, i64_w]
         refine wpK_ops rfl (fun w1 hu => ?_) ?_
         · have cl0 := ((hb5.up ((((hu27.out.trans hu47.out).trans hu53.out).grow hg65.out (fun k hk => Nat.le_trans (hu27.out.size) ((fun k hk => (lb62.out k hk).1) k hk))).trans hu72.out)).up ((Up.refl _).drew.trans hu)).cell (o := 0) rfl
           have cl1 := ((hb5.up ((((hu27.out.trans hu47.out).trans hu53.out).grow hg65.out (fun k hk => Nat.le_trans (hu27.out.size) ((fun k hk => (lb62.out k hk).1) k hk))).trans hu72.out)).up ((Up.refl _).drew.trans hu)).cell (o := 1) rfl
           have cl2 := ((hb5.up ((((hu27.out.trans hu47.out).trans hu53.out).grow hg65.out (fun k hk => Nat.le_trans (hu27.out.size) ((fun k hk => (lb62.out k hk).1) k hk))).trans hu72.out)).up ((Up.refl _).drew.trans hu)).cell (o := 2) rfl
           go_simp
           first | done | rfl
         simp only [Act.put, nm1, nm2, nm3, i64_w]
         refine wpK_ops rfl (fun w1 hu => ?_) ?_
         · have hcl := (laws_toLine.calls K a3_0 a3_1 a3_2 t85 t86 t87 w1  A88.out)
           clear hu
           replace hcl := Aside0.mk hcl
           go_simp
           exact hcl.out
         simp only [Act.put, nm1, nm2, nm3, i64_w]
         refine wpK_any rfl (stab_row _ _ _ _ _) (fun w1 hu hl => ?_) (fun v94 => ?_)
         · have hcl := impl_MeetLine.calls K a0 a1 t81 t82 t83 t85 t86 t87 t89 t92 w1  A93.out
           have hz := ((Up.refl _).drew.trans hu).size
           clear hu
           replace hcl := Aside0.mk hcl
           exact fresh_row (by first | (go_simp; done) | (go_simp; rfl)) hcl.out hz
         simp only [Act.put, nm1, nm2, nm3, i64_w]
         refine wpK_any rfl (stab_row _ _ _ _ _) (fun w1 hu hl => ?_) (fun v95 => ?_)
         · exact any_of_run (by first | (go_simp; done) | (go_simp; rfl)) (hl.1 (by kernel_rfl))
         simp only [Act.put, nm1, nm2, nm3, i64_w]
         refine wpK_any rfl (stab_row _ _ _ _ _) (fun w1 hu hl => ?_) (fun v96 => ?_)
         · obtain ⟨A0_, c0_, e0_, hO0_⟩ := hl.1 (by kernel_rfl)
           clear hl hu
           dsimp only at e0_
           subst e0_
           exact any_of_run (u := .slice A0_ t89.length c0_) (by first | (go_simp; done) | (go_simp; rfl)) ⟨A0_, c0_, rfl, hO0_⟩
         simp only [Act.put, nm1, nm2, nm3, i64_w]
         refine wpK_det rfl (fun w1 hu hl => ?_) ?_
         · obtain ⟨A0_, c0_, e0_, hO0_⟩ := hl.2.1 (by kernel_rfl)
           clear hl hu
           dsimp only at e0_
           subst e0_
           clear hO0_
           go_simp
           first | done | rfl
         simp only [Act.put, nm1, nm2, nm3, i64_w]
         refine wpK_any rfl (stab_row _ _ _ _ _) (fun w1 hu hl => ?_) (fun v97 => ?_)
         · exact any_of_run (by first | (go_simp; done) | (go_simp; rfl)) (hl.1 (by kernel_rfl))
         simp only [Act.put, nm1, nm2, nm3, i64_w]
         refine wpK_ops rfl (fun w1 hu => ?_) ?_
         · clear hu
           go_simp
           first | done | rfl
         simp only [Act.put, nm1, nm2, nm3, i64_w]
         refine wpK_nil ?_
         intro w98 hu hap
         simp only [List.drop_succ_cons, List.drop_zero]
         replace hu := (Up.refl _).drew.trans hu
         obtain ⟨-, -, ⟨P90, q91, e0, ht89⟩, -, -, -, -, -, -, -, -, -, -⟩ := hap
         dsimp only at e0
         subst e0
         have hu99 := Aside0.mk hu
         clear hu
         refine wpList_nil ?_
         (try simp only [Exit.then, Exit.inBlock, ↓reduceIte, Nat.reduceEqDiff])
         refine hK80 _ _ ?_
         refine wp_seq_k (fun K100 hK100 => ?_)
         refine wp_seq_k (fun K101 hK101 => ?_)
         refine wp_region_lit ?_
         refine wpList_plain rfl (fun Ko hKo => ?_)
         go_simp
         refine hKo _ _ ?_
         clear hKo Ko
         try simp only [Act.put, nm1, nm2, nm3, i64_w]
         refine wpList_plain rfl (fun Ko hKo => ?_)
         go_simp
         refine hKo _ _ ?_
         clear hKo Ko
         try simp only [Act.put, nm1, nm2, nm3, i64_w]
         refine step_call (wanted_none rfl) (by first | (go_simp; done) | (go_simp; rfl)) (laws_eqPointS.calls K P90 q91 t89 P18 q19 t17 false w98 ht89.rd ((ht17.up ((((hu47.out.trans hu53.out).grow hg65.out (fun k hk => Nat.le_trans (Nat.le_refl _) ((fun k hk => (lb62.out k hk).1) k hk))).trans hu72.out).trans hu99.out)).rd) A103.out) ?_
         rintro e w104 ⟨rfl, hu⟩
         have hu105 := Aside0.mk hu
         clear hu
         refine ⟨_, rfl, ?_⟩
         simp only [Act.put, nm1, nm2, nm3, i64_w]
         refine wpList_plain rfl (fun Ko hKo => ?_)
         go_simp
         refine hKo _ _ ?_
         clear hKo Ko
         try simp only [Act.put, nm1, nm2, nm3, i64_w]
         refine wpList_plain rfl (fun Ko hKo => ?_)
         go_simp
         refine hKo _ _ ?_
         clear hKo Ko
         try simp only [Act.put, nm1, nm2, nm3, i64_w]
         refine step_no rfl ?_
         simp only [Act.put, nm1, nm2, nm3, i64_w]
         refine step_no rfl ?_
         simp only [Act.put, nm1, nm2, nm3, i64_w]
         refine step_no rfl ?_
         simp only [Act.put, nm1, nm2, nm3, i64_w]
         refine wpList_plain rfl (fun Ko hKo => ?_)
         go_simp
         refine hKo _ _ ?_
         clear hKo Ko
         try simp only [Act.put, nm1, nm2, nm3, i64_w]
         refine wpList_nil ?_
         (try simp only [Exit.then, Exit.inBlock, ↓reduceIte, Nat.reduceEqDiff])
         refine hK101 _ _ ?_
         refine wp_cond_true rfl ?_
         refine wp_seq_k (fun K124 hK124 => ?_)
         refine wp_region_lit ?_
         refine wpList_plain rfl (fun Ko hKo => ?_)
         go_simp
         refine hKo _ _ ?_
         clear hKo Ko
         try simp only [Act.put, nm1, nm2, nm3, i64_w]
         refine wpList_nil ?_
         (try simp only [Exit.then, Exit.inBlock, ↓reduceIte, Nat.reduceEqDiff])
         refine hK124 _ _ ?_
         refine wp_ret ?_
         (try simp only [Exit.then, Exit.inBlock, ↓reduceIte, Nat.reduceEqDiff])
         refine hQf _ _ _ ?_
         exact bodyPost_ret (v := .bool false) (by first | rfl | (simp [results, Try.results12, go_sem]; done) | (simp [results, Try.results12, go_sem]; rfl)) rfl ⟨rfl, ((((((((hu4.out.trans hu7.out).trans hu27.out).trans hu47.out).trans hu53.out).grow hg65.out (fun k hk => Nat.le_trans ((Nat.le_trans ((Nat.le_trans (hu4.out.size) hu7.out.size)) hu27.out.size)) ((fun k hk => (lb62.out k hk).1) k hk))).trans hu72.out).trans hu99.out).trans hu105.out)⟩
    ·
     rw [if_neg c79] at H
     replace c79 := Bool.eq_false_iff.mpr c79
     have c79n : (t69 != t58) = true := by rw [bne, c79]; rfl
     have c79p : ¬ t69 = t58 := fun e => by simp [e] at c79
     obtain rfl := Option.some.inj H
     go_enter Try.func12, Try.ntmps12
     refine wp_hide (fun Qf hQf => ?_)
     refine wp_seq_k (fun K1 hK1 => ?_)
     refine wp_region_lit ?_
     refine step_new (cs := [.int .i64 a2_0, .int .i64 a2_1, .int .i64 a2_2]) (T := 24) (f := fun b => .pointer (some ⟨b, 0, none⟩)) rfl (by first | (go_simp; done) | (go_simp; rfl)) ?_
     intro b2 w3 hu lb hb2
     simp only [Act.put, nm1, nm2, nm3, i64_w]
     have lbb2 := Aside0.mk lb
     have ltb2 := Aside0.mk hb2.lt
     clear lb
     have hu4 := Aside0.mk hu
     clear hu
     refine step_new (cs := [.int .i64 a3_0, .int .i64 a3_1, .int .i64 a3_2]) (T := 39) (f := fun b => .pointer (some ⟨b, 0, none⟩)) rfl (by first | (go_simp; done) | (go_simp; rfl)) ?_
     intro b5 w6 hu lb hb5
     simp only [Act.put, nm1, nm2, nm3, i64_w]
     have lbb5 := Aside0.mk lb
     have ltb5 := Aside0.mk hb5.lt
     clear lb
     have hu7 := Aside0.mk hu
     clear hu
     refine wpList_plain rfl (fun Ko hKo => ?_)
     go_simp
     refine hKo _ _ ?_
     clear hKo Ko
     try simp only [Act.put, nm1, nm2, nm3, i64_w]
     refine wpList_nil ?_
     (try simp only [Exit.then, Exit.inBlock, ↓reduceIte, Nat.reduceEqDiff])
     refine hK1 _ _ ?_
     refine wp_seq_k (fun K8 hK8 => ?_)
     refine' wp_region_up 12 [Slot.det _, Slot.det _, Slot.det _, Slot.det (.agg #[.int .i64 t9, .int .i64 t10, .int .i64 t11]), Slot.det _, Slot.det (.agg #[.int .i64 t13, .int .i64 t14, .int .i64 t15]), Slot.any (RowTo e2 27 w6.heap.size t17 (fun v => .tuple #[v, .int .i64 t20])) false, Slot.any (RowTo e2 27 w6.heap.size t17 (fun v => .tuple #[v, .int .i64 t20])) false, Slot.any (RowTo e2 27 w6.heap.size t17 (fun v => v)) false, Slot.det (.int .i64 t20), Slot.any (RowTo e2 27 w6.heap.size t17 (fun v => v)) false, Slot.det _] (by kernel_rfl) (by kernel_rfl) ?main
     case main =>
      simp only [List.take_succ_cons, List.take_zero]
      refine wpK_ops rfl (fun w1 hu => ?_) ?_
      · clear hu
        go_simp
        first | done | rfl
      simp only [Act.put, nm1, nm2, nm3, i64_w]
      refine wpK_ops rfl (fun w1 hu => ?_) ?_
      · clear hu
        go_simp
        first | done | rfl
      simp only [Act.put, nm1, nm2, nm3, i64_w]
      refine wpK_ops rfl (fun w1 hu => ?_) ?_
      · have cl0 := ((hb2.up hu7.out).up ((Up.refl _).drew.trans hu)).cell (o := 0) rfl
        have cl1 := ((hb2.up hu7.out).up ((Up.refl _).drew.trans hu)).cell (o := 1) rfl
        have cl2 := ((hb2.up hu7.out).up ((Up.refl _).drew.trans hu)).cell (o := 2) rfl
        go_simp
        first | done | rfl
      simp only [Act.put, nm1, nm2, nm3, i64_w]
      refine wpK_ops rfl (fun w1 hu => ?_) ?_
      · have hcl := (laws_toCircle.calls K a2_0 a2_1 a2_2 t9 t10 t11 w1  A12.out)
        clear hu
        replace hcl := Aside0.mk hcl
        go_simp
        exact hcl.out
      simp only [Act.put, nm1, nm2, nm3, i64_w]
      refine wpK_ops rfl (fun w1 hu => ?_) ?_
      · have cl0 := (hb5.up ((Up.refl _).drew.trans hu)).cell (o := 0) rfl
        have cl1 := (hb5.up ((Up.refl _).drew.trans hu)).cell (o := 1) rfl
        have cl2 := (hb5.up ((Up.refl _).drew.trans hu)).cell (o := 2) rfl
        go_simp
        first | done | rfl
      simp only [Act.put, nm1, nm2, nm3, i64_w]
      refine wpK_ops rfl (fun w1 hu => ?_) ?_
      · have hcl := (laws_toLine.calls K a3_0 a3_1 a3_2 t13 t14 t15 w1  A16.out)
        clear hu
        replace hcl := Aside0.mk hcl
        go_simp
        exact hcl.out
      simp only [Act.put, nm1, nm2, nm3, i64_w]
      refine wpK_any rfl (stab_row _ _ _ _ _) (fun w1 hu hl => ?_) (fun v22 => ?_)
      · have hcl := spec_MeetLine.calls K a0 a1 t9 t10 t11 t13 t14 t15 t17 t20 w1  A21.out
        have hz := ((Up.refl _).drew.trans hu).size
        clear hu
        replace hcl := Aside0.mk hcl
        exact fresh_row (by first | (go_simp; done) | (go_simp; rfl)) hcl.out hz
      simp only [Act.put, nm1, nm2, nm3, i64_w]
      refine wpK_any rfl (stab_row _ _ _ _ _) (fun w1 hu hl => ?_) (fun v23 => ?_)
      · exact any_of_run (by first | (go_simp; done) | (go_simp; rfl)) (hl.1 (by kernel_rfl))
      simp only [Act.put, nm1, nm2, nm3, i64_w]
      refine wpK_any rfl (stab_row _ _ _ _ _) (fun w1 hu hl => ?_) (fun v24 => ?_)
      · obtain ⟨A0_, c0_, e0_, hO0_⟩ := hl.1 (by kernel_rfl)
        clear hl hu
        dsimp only at e0_
        subst e0_
        exact any_of_run (u := .slice A0_ t17.length c0_) (by first | (go_simp; done) | (go_simp; rfl)) ⟨A0_, c0_, rfl, hO0_⟩
      simp only [Act.put, nm1, nm2, nm3, i64_w]
      refine wpK_det rfl (fun w1 hu hl => ?_) ?_
      · obtain ⟨A0_, c0_, e0_, hO0_⟩ := hl.2.1 (by kernel_rfl)
        clear hl hu
        dsimp only at e0_
        subst e0_
        clear hO0_
        go_simp
        first | done | rfl
      simp only [Act.put, nm1, nm2, nm3, i64_w]
      refine wpK_any rfl (stab_row _ _ _ _ _) (fun w1 hu hl => ?_) (fun v25 => ?_)
      · exact any_of_run (by first | (go_simp; done) | (go_simp; rfl)) (hl.1 (by kernel_rfl))
      simp only [Act.put, nm1, nm2, nm3, i64_w]
      refine wpK_ops rfl (fun w1 hu => ?_) ?_
      · clear hu
        go_simp
        first | done | rfl
      simp only [Act.put, nm1, nm2, nm3, i64_w]
      refine wpK_nil ?_
      intro w26 hu hap
      simp only [List.drop_succ_cons, List.drop_zero]
      replace hu := (Up.refl _).drew.trans hu
      obtain ⟨-, -, ⟨P18, q19, e0, ht17⟩, -, -, -, -, -, -, -, -, -, -⟩ := hap
      dsimp only at e0
      subst e0
      have hu27 := Aside0.mk hu
      clear hu
      refine wpList_nil ?_
      (try simp only [Exit.then, Exit.inBlock, ↓reduceIte, Nat.reduceEqDiff])
      refine hK8 _ _ ?_
      refine wp_seq_k (fun K28 hK28 => ?_)
      refine' wp_region_up 12 [Slot.det _, Slot.det _, Slot.det _, Slot.det (.agg #[.int .i64 t29, .int .i64 t30, .int .i64 t31]), Slot.det _, Slot.det (.agg #[.int .i64 t33, .int .i64 t34, .int .i64 t35]), Slot.any (RowTo e2 27 w26.heap.size t37 (fun v => .tuple #[v, .int .i64 t40])) false, Slot.any (RowTo e2 27 w26.heap.size t37 (fun v => .tuple #[v, .int .i64 t40])) false, Slot.any (RowTo e2 27 w26.heap.size t37 (fun v => v)) false, Slot.det (.int .i64 t40), Slot.any (RowTo e2 27 w26.heap.size t37 (fun v => v)) false, Slot.det _] (by kernel_rfl) (by kernel_rfl) ?main
      case main =>
       simp only [List.take_succ_cons, List.take_zero]
       refine wpK_ops rfl (fun w1 hu => ?_) ?_
       · clear hu
         go_simp
         first | done | rfl
       simp only [Act.put, nm1, nm2, nm3, i64_w]
       refine wpK_ops rfl (fun w1 hu => ?_) ?_
       · clear hu
         go_simp
         first | done | rfl
       simp only [Act.put, nm1, nm2, nm3, i64_w]
       refine wpK_ops rfl (fun w1 hu => ?_) ?_
       · have cl0 := ((hb2.up (hu7.out.trans hu27.out)).up ((Up.refl _).drew.trans hu)).cell (o := 0) rfl
         have cl1 := ((hb2.up (hu7.out.trans hu27.out)).up ((Up.refl _).drew.trans hu)).cell (o := 1) rfl
         have cl2 := ((hb2.up (hu7.out.trans hu27.out)).up ((Up.refl _).drew.trans hu)).cell (o := 2) rfl
         go_simp
         first | done | rfl
       simp only [Act.put, nm1, nm2, nm3, i64_w]
       refine wpK_ops rfl (fun w1 hu => ?_) ?_
       · have hcl := (laws_toCircle.calls K a2_0 a2_1 a2_2 t29 t30 t31 w1  A32.out)
         clear hu
         replace hcl := Aside0.mk hcl
         go_simp
         exact hcl.out
       simp only [Act.put, nm1, nm2, nm3, i64_w]
       refine wpK_ops rfl (fun w1 hu => ?_) ?_
       · have cl0 := ((hb5.up hu27.out).up ((Up.refl _).drew.trans hu)).cell (o := 0) rfl
         have cl1 := ((hb5.up hu27.out).up ((Up.refl _).drew.trans hu)).cell (o := 1) rfl
         have cl2 := ((hb5.up hu27.out).up ((Up.refl _).drew.trans hu)).cell (o := 2) rfl
         go_simp
         first | done | rfl
       simp only [Act.put, nm1, nm2, nm3, i64_w]
       refine wpK_ops rfl (fun w1 hu => ?_) ?_
       · have hcl := (laws_toLine.calls K a3_0 a3_1 a3_2 t33 t34 t35 w1  A36.out)
         clear hu
         replace hcl := Aside0.mk hcl
         go_simp
         exact hcl.out
       simp only [Act.put, nm1, nm2, nm3, i64_w]
       refine wpK_any rfl (stab_row _ _ _ _ _) (fun w1 hu hl => ?_) (fun v42 => ?_)
       · have hcl := impl_MeetLine.calls K a0 a1 t29 t30 t31 t33 t34 t35 t37 t40 w1  A41.out
         have hz := ((Up.refl _).drew.trans hu).size
         clear hu
         replace hcl := Aside0.mk hcl
         exact fresh_row (by first | (go_simp; done) | (go_simp; rfl)) hcl.out hz
       simp only [Act.put, nm1, nm2, nm3, i64_w]
       refine wpK_any rfl (stab_row _ _ _ _ _) (fun w1 hu hl => ?_) (fun v43 => ?_)
       · exact any_of_run (by first | (go_simp; done) | (go_simp; rfl)) (hl.1 (by kernel_rfl))
       simp only [Act.put, nm1, nm2, nm3, i64_w]
       refine wpK_any rfl (stab_row _ _ _ _ _) (fun w1 hu hl => ?_) (fun v44 => ?_)
       · obtain ⟨A0_, c0_, e0_, hO0_⟩ := hl.1 (by kernel_rfl)
         clear hl hu
         dsimp only at e0_
         subst e0_
         exact any_of_run (u := .slice A0_ t37.length c0_) (by first | (go_simp; done) | (go_simp; rfl)) ⟨A0_, c0_, rfl, hO0_⟩
       simp only [Act.put, nm1, nm2, nm3, i64_w]
       refine wpK_det rfl (fun w1 hu hl => ?_) ?_
       · obtain ⟨A0_, c0_, e0_, hO0_⟩ := hl.2.1 (by kernel_rfl)
         clear hl hu
         dsimp only at e0_
         subst e0_
         clear hO0_
         go_simp
         first | done | rfl
       simp only [Act.put, nm1, nm2, nm3, i64_w]
       refine wpK_any rfl (stab_row _ _ _ _ _) (fun w1 hu hl => ?_) (fun v45 => ?_)
       · exact any_of_run (by first | (go_simp; done) | (go_simp; rfl)) (hl.1 (by kernel_rfl))
       simp only [Act.put, nm1, nm2, nm3, i64_w]
       refine wpK_ops rfl (fun w1 hu => ?_) ?_
       · clear hu
         go_simp
         first | done | rfl
       simp only [Act.put, nm1, nm2, nm3, i64_w]
       refine wpK_nil ?_
       intro w46 hu hap
       simp only [List.drop_succ_cons, List.drop_zero]
       replace hu := (Up.refl _).drew.trans hu
       obtain ⟨-, -, ⟨P38, q39, e0, ht37⟩, -, -, -, -, -, -, -, -, -, -⟩ := hap
       dsimp only at e0
       subst e0
       have hu47 := Aside0.mk hu
       clear hu
       refine wpList_nil ?_
       (try simp only [Exit.then, Exit.inBlock, ↓reduceIte, Nat.reduceEqDiff])
       refine hK28 _ _ ?_
       refine wp_seq_k (fun K48 hK48 => ?_)
       refine wp_seq_k (fun K49 hK49 => ?_)
       refine wp_region_lit ?_
       refine wpList_plain rfl (fun Ko hKo => ?_)
       go_simp
       refine hKo _ _ ?_
       clear hKo Ko
       try simp only [Act.put, nm1, nm2, nm3, i64_w]
       refine wpList_plain rfl (fun Ko hKo => ?_)
       go_simp
       refine hKo _ _ ?_
       clear hKo Ko
       try simp only [Act.put, nm1, nm2, nm3, i64_w]
       refine step_call (wanted_none rfl) (by first | (go_simp; done) | (go_simp; rfl)) (laws_eqPointS.calls K P38 q39 t37 P18 q19 t17 true w46 ht37.rd ((ht17.up hu47.out).rd) A51.out) ?_
       rintro e w52 ⟨rfl, hu⟩
       have hu53 := Aside0.mk hu
       clear hu
       refine ⟨_, rfl, ?_⟩
       simp only [Act.put, nm1, nm2, nm3, i64_w]
       refine wpList_plain rfl (fun Ko hKo => ?_)
       go_simp
       refine hKo _ _ ?_
       clear hKo Ko
       try simp only [Act.put, nm1, nm2, nm3, i64_w]
       refine wpList_plain rfl (fun Ko hKo => ?_)
       go_simp
       refine hKo _ _ ?_
       clear hKo Ko
       try simp only [Act.put, nm1, nm2, nm3, i64_w]
       refine wpList_step (fun Ko hKo => ?_)
       go_simp
       refine hKo _ _ ?_
       clear hKo Ko
       try simp only [Act.put, nm1, nm2, nm3, i64_w]
       refine wpList_step (fun Ko hKo => ?_)
       go_simp
       refine hKo _ _ ?_
       clear hKo Ko
       try simp only [Act.put, nm1, nm2, nm3, i64_w]
       refine wpList_step (fun Ko hKo => ?_)
       go_simp
       refine hKo _ _ ?_
       clear hKo Ko
       try simp only [Act.put, nm1, nm2, nm3, i64_w]
       refine wpList_plain rfl (fun Ko hKo => ?_)
       go_simp
       refine hKo _ _ ?_
       clear hKo Ko
       try simp only [Act.put, nm1, nm2, nm3, i64_w]
       refine wpList_nil ?_
       (try simp only [Exit.then, Exit.inBlock, ↓reduceIte, Nat.reduceEqDiff])
       refine hK49 _ _ ?_
       refine wp_cond_false rfl ?_
       refine wp_skip ?_
       (try simp only [Exit.then, Exit.inBlock, ↓reduceIte, Nat.reduceEqDiff])
       refine hK48 _ _ ?_
       refine wp_seq_k (fun K56 hK56 => ?_)
       refine wp_region_lit ?_
       refine wpList_plain rfl (fun Ko hKo => ?_)
       go_simp
       refine hKo _ _ ?_
       clear hKo Ko
       try simp only [Act.put, nm1, nm2, nm3, i64_w]
       refine wpList_nil ?_
       (try simp only [Exit.then, Exit.inBlock, ↓reduceIte, Nat.reduceEqDiff])
       refine hK56 _ _ ?_
       refine wp_seq_k (fun K57 hK57 => ?_)
       refine wp_region_lit ?_
       refine wpList_plain rfl (fun Ko hKo => ?_)
       go_simp
       refine hKo _ _ ?_
       clear hKo Ko
       try simp only [Act.put, nm1, nm2, nm3, i64_w]
       refine wpList_plain rfl (fun Ko hKo => ?_)
       go_simp
       refine hKo _ _ ?_
       clear hKo Ko
       try simp only [Act.put, nm1, nm2, nm3, i64_w]
       refine step_call (wanted_none rfl) (by first | (go_simp; done) | (go_simp; rfl)) (laws_markPointS.calls K P38 q39 w26.heap.size t37 1 t58 t59 w52 (ht37.up hu53.out) A60.out) ?_
       have lb62 := Aside0.mk (ht37.up hu53.out).lt
       rintro e w61 ⟨rfl, h63, hl, hg⟩
       have hg65 := Aside0.mk hg
       have hl64 := hl
       clear hg hl
       have hl66 : Aside0 (t37.length = t59.length) := Aside0.mk hl64.out
       refine ⟨_, rfl, ?_⟩
       simp only [Act.put, nm1, nm2, nm3, i64_w]
       refine wpList_plain rfl (fun Ko hKo => ?_)
       go_simp
       refine hKo _ _ ?_
       clear hKo Ko
       try simp only [Act.put, nm1, nm2, nm3, i64_w]
       refine wpList_nil ?_
       (try simp only [Exit.then, Exit.inBlock, ↓reduceIte, Nat.reduceEqDiff])
       refine hK57 _ _ ?_
       refine wp_seq_k (fun K67 hK67 => ?_)
       refine wp_region_lit ?_
       refine wpList_plain rfl (fun Ko hKo => ?_)
       go_simp
       refine hKo _ _ ?_
       clear hKo Ko
       try simp only [Act.put, nm1, nm2, nm3, i64_w]
       refine wpList_nil ?_
       (try simp only [Exit.then, Exit.inBlock, ↓reduceIte, Nat.reduceEqDiff])
       refine hK67 _ _ ?_
       refine wp_seq_k (fun K68 hK68 => ?_)
       refine wp_region_lit ?_
       refine wpList_plain rfl (fun Ko hKo => ?_)
       go_simp
       refine hKo _ _ ?_
       clear hKo Ko
       try simp only [Act.put, nm1, nm2, nm3, i64_w]
       refine wpList_plain rfl (fun Ko hKo => ?_)
       go_simp
       refine hKo _ _ ?_
       clear hKo Ko
       try simp only [Act.put, nm1, nm2, nm3, i64_w]
       refine step_call (wanted_none rfl) (by first | (go_simp; done) | (go_simp; rfl)) (Eq.mp (congrArg (fun n_ => Calls Try.prog 30 #[.slice P38 n_ q39, .int .i64 1] w61 _) (Eq.symm hl66.out)) (laws_heldPointS.calls K P38 q39 t59 1 t69 w61 h63.rd A70.out)) ?_
       rintro e w71 ⟨rfl, hu⟩
       have hu72 := Aside0.mk hu
       clear hu
       refine ⟨_, rfl, ?_⟩
       simp only [Act.put, nm1, nm2, nm3, i64_w]
       refine wpList_plain rfl (fun Ko hKo => ?_)
       go_simp
       refine hKo _ _ ?_
       clear hKo Ko
       try simp only [Act.put, nm1, nm2, nm3, i64_w]
       refine wpList_nil ?_
       (try simp only [Exit.then, Exit.inBlock, ↓reduceIte, Nat.reduceEqDiff])
       refine hK68 _ _ ?_
       refine wp_seq_k (fun K73 hK73 => ?_)
       refine wp_seq_k (fun K74 hK74 => ?_)
       refine wp_region_lit ?_
       refine wpList_plain rfl (fun Ko hKo => ?_)
       go_simp
       refine hKo _ _ ?_
       clear hKo Ko
       try simp only [Act.put, nm1, nm2, nm3, i64_w]
       refine wpList_plain rfl (fun Ko hKo => ?_)
       go_simp
       refine hKo _ _ ?_
       clear hKo Ko
       try simp only [Act.put, nm1, nm2, nm3, i64_w]
       refine wpList_nil ?_
       (try simp only [Exit.then, Exit.inBlock, ↓reduceIte, Nat.reduceEqDiff])
       refine hK74 _ _ ?_
       refine wp_cond_false rfl ?_
       refine wp_skip ?_
       (try simp only [Exit.then, Exit.inBlock, ↓reduceIte, Nat.reduceEqDiff])
       refine hK73 _ _ ?_
       refine wp_seq_k (fun K77 hK77 => ?_)
       refine wp_seq_k (fun K78 hK78 => ?_)
       refine wp_region_lit ?_
       refine wpList_plain rfl (fun Ko hKo => ?_)
       go_simp
       refine hKo _ _ ?_
       clear hKo Ko
       try simp only [Act.put, nm1, nm2, nm3, i64_w]
       refine wpList_plain rfl (fun Ko hKo => ?_)
       go_simp
       refine hKo _ _ ?_
       clear hKo Ko
       try simp only [Act.put, nm1, nm2, nm3, i64_w]
       refine wpList_plain rfl (fun Ko hKo => ?_)
       go_simp
       refine hKo _ _ ?_
       clear hKo Ko
       try simp only [Act.put, nm1, nm2, nm3, i64_w]
       refine wpList_nil ?_
       (try simp only [Exit.then, Exit.inBlock, ↓reduceIte, Nat.reduceEqDiff])
       refine hK78 _ _ ?_
       refine wp_cond_true rfl ?_
       refine wp_seq_k (fun K125 hK125 => ?_)
       refine wp_region_lit ?_
       refine wpList_plain rfl (fun Ko hKo => ?_)
       go_simp
       refine hKo _ _ ?_
       clear hKo Ko
       try simp only [Act.put, nm1, nm2, nm3, i64_w]
       refine wpList_nil ?_
       (try simp only [Exit.then, Exit.inBlock, ↓reduceIte, Nat.reduceEqDiff])
       refine hK125 _ _ ?_
       refine wp_ret ?_
       (try simp only [Exit.then, Exit.inBlock, ↓reduceIte, Nat.reduceEqDiff])
       refine hQf _ _ _ ?_
       exact bodyPost_ret (v := .bool false) (by first | rfl | (simp [results, Try.results12, go_sem]; done) | (simp [results, Try.results12, go_sem]; rfl)) rfl ⟨rfl, ((((((hu4.out.trans hu7.out).trans hu27.out).trans hu47.out).trans hu53.out).grow hg65.out (fun k hk => Nat.le_trans ((Nat.le_trans ((Nat.le_trans (hu4.out.size) hu7.out.size)) hu27.out.size)) ((fun k hk => (lb62.out k hk).1) k hk))).trans hu72.out)⟩
  ·
   rw [if_neg c55] at H
   replace c55 := Bool.eq_false_iff.mpr c55
   have c55n : (t40 != t20) = true := by rw [bne, c55]; rfl
   have c55p : ¬ t40 = t20 := fun e => by simp [e] at c55
   obtain rfl := Option.some.inj H
   go_enter Try.func12, Try.ntmps12
   refine wp_hide (fun Qf hQf => ?_)
   refine wp_seq_k (fun K1 hK1 => ?_)
   refine wp_region_lit ?_
   refine step_new (cs := [.int .i64 a2_0, .int .i64 a2_1, .int .i64 a2_2]) (T := 24) (f := fun b => .pointer (some ⟨b, 0, none⟩)) rfl (by first | (go_simp; done) | (go_simp; rfl)) ?_
   intro b2 w3 hu lb hb2
   simp only [Act.put, nm1, nm2, nm3, i64_w]
   have lbb2 := Aside0.mk lb
   have ltb2 := Aside0.mk hb2.lt
   clear lb
   have hu4 := Aside0.mk hu
   clear hu
   refine step_new (cs := [.int .i64 a3_0, .int .i64 a3_1, .int .i64 a3_2]) (T := 39) (f := fun b => .pointer (some ⟨b, 0, none⟩)) rfl (by first | (go_simp; done) | (go_simp; rfl)) ?_
   intro b5 w6 hu lb hb5
   simp only [Act.put, nm1, nm2, nm3, i64_w]
   have lbb5 := Aside0.mk lb
   have ltb5 := Aside0.mk hb5.lt
   clear lb
   have hu7 := Aside0.mk hu
   clear hu
   refine wpList_plain rfl (fun Ko hKo => ?_)
   go_simp
   refine hKo _ _ ?_
   clear hKo Ko
   try simp only [Act.put, nm1, nm2, nm3, i64_w]
   refine wpList_nil ?_
   (try simp only [Exit.then, Exit.inBlock, ↓reduceIte, Nat.reduceEqDiff])
   refine hK1 _ _ ?_
   refine wp_seq_k (fun K8 hK8 => ?_)
   refine' wp_region_up 12 [Slot.det _, Slot.det _, Slot.det _, Slot.det (.agg #[.int .i64 t9, .int .i64 t10, .int .i64 t11]), Slot.det _, Slot.det (.agg #[.int .i64 t13, .int .i64 t14, .int .i64 t15]), Slot.any (RowTo e2 27 w6.heap.size t17 (fun v => .tuple #[v, .int .i64 t20])) false, Slot.any (RowTo e2 27 w6.heap.size t17 (fun v => .tuple #[v, .int .i64 t20])) false, Slot.any (RowTo e2 27 w6.heap.size t17 (fun v => v)) false, Slot.det (.int .i64 t20), Slot.any (RowTo e2 27 w6.heap.size t17 (fun v => v)) false, Slot.det _] (by kernel_rfl) (by kernel_rfl) ?main
   case main =>
    simp only [List.take_succ_cons, List.take_zero]
    refine wpK_ops rfl (fun w1 hu => ?_) ?_
    · clear hu
      go_simp
      first | done | rfl
    simp only [Act.put, nm1, nm2, nm3, i64_w]
    refine wpK_ops rfl (fun w1 hu => ?_) ?_
    · clear hu
      go_simp
      first | done | rfl
    simp only [Act.put, nm1, nm2, nm3, i64_w]
    refine wpK_ops rfl (fun w1 hu => ?_) ?_
    · have cl0 := ((hb2.up hu7.out).up ((Up.refl _).drew.trans hu)).cell (o := 0) rfl
      have cl1 := ((hb2.up hu7.out).up ((Up.refl _).drew.trans hu)).cell (o := 1) rfl
      have cl2 := ((hb2.up hu7.out).up ((Up.refl _).drew.trans hu)).cell (o := 2) rfl
      go_simp
      first | done | rfl
    simp only [Act.put, nm1, nm2, nm3, i64_w]
    refine wpK_ops rfl (fun w1 hu => ?_) ?_
    · have hcl := (laws_toCircle.calls K a2_0 a2_1 a2_2 t9 t10 t11 w1  A12.out)
      clear hu
      replace hcl := Aside0.mk hcl
      go_simp
      exact hcl.out
    simp only [Act.put, nm1, nm2, nm3, i64_w]
    refine wpK_ops rfl (fun w1 hu => ?_) ?_
    · have cl0 := (hb5.up ((Up.refl _).drew.trans hu)).cell (o := 0) rfl
      have cl1 := (hb5.up ((Up.refl _).drew.trans hu)).cell (o := 1) rfl
      have cl2 := (hb5.up ((Up.refl _).drew.trans hu)).cell (o := 2) rfl
      go_simp
      first | done | rfl
    simp only [Act.put, nm1, nm2, nm3, i64_w]
    refine wpK_ops rfl (fun w1 hu => ?_) ?_
    · have hcl := (laws_toLine.calls K a3_0 a3_1 a3_2 t13 t14 t15 w1  A16.out)
      clear hu
      replace hcl := Aside0.mk hcl
      go_simp
      exact hcl.out
    simp only [Act.put, nm1, nm2, nm3, i64_w]
    refine wpK_any rfl (stab_row _ _ _ _ _) (fun w1 hu hl => ?_) (fun v22 => ?_)
    · have hcl := spec_MeetLine.calls K a0 a1 t9 t10 t11 t13 t14 t15 t17 t20 w1  A21.out
      have hz := ((Up.refl _).drew.trans hu).size
      clear hu
      replace hcl := Aside0.mk hcl
      exact fresh_row (by first | (go_simp; done) | (go_simp; rfl)) hcl.out hz
    simp only [Act.put, nm1, nm2, nm3, i64_w]
    refine wpK_any rfl (stab_row _ _ _ _ _) (fun w1 hu hl => ?_) (fun v23 => ?_)
    · exact any_of_run (by first | (go_simp; done) | (go_simp; rfl)) (hl.1 (by kernel_rfl))
    simp only [Act.put, nm1, nm2, nm3, i64_w]
    refine wpK_any rfl (stab_row _ _ _ _ _) (fun w1 hu hl => ?_) (fun v24 => ?_)
    · obtain ⟨A0_, c0_, e0_, hO0_⟩ := hl.1 (by kernel_rfl)
      clear hl hu
      dsimp only at e0_
      subst e0_
      exact any_of_run (u := .slice A0_ t17.length c0_) (by first | (go_simp; done) | (go_simp; rfl)) ⟨A0_, c0_, rfl, hO0_⟩
    simp only [Act.put, nm1, nm2, nm3, i64_w]
    refine wpK_det rfl (fun w1 hu hl => ?_) ?_
    · obtain ⟨A0_, c0_, e0_, hO0_⟩ := hl.2.1 (by kernel_rfl)
      clear hl hu
      dsimp only at e0_
      subst e0_
      clear hO0_
      go_simp
      first | done | rfl
    simp only [Act.put, nm1, nm2, nm3, i64_w]
    refine wpK_any rfl (stab_row _ _ _ _ _) (fun w1 hu hl => ?_) (fun v25 => ?_)
    · exact any_of_run (by first | (go_simp; done) | (go_simp; rfl)) (hl.1 (by kernel_rfl))
    simp only [Act.put, nm1, nm2, nm3, i64_w]
    refine wpK_ops rfl (fun w1 hu => ?_) ?_
    · clear hu
      go_simp
      first | done | rfl
    simp only [Act.put, nm1, nm2, nm3, i64_w]
    refine wpK_nil ?_
    intro w26 hu hap
    simp only [List.drop_succ_cons, List.drop_zero]
    replace hu := (Up.refl _).drew.trans hu
    obtain ⟨-, -, ⟨P18, q19, e0, ht17⟩, -, -, -, -, -, -, -, -, -, -⟩ := hap
    dsimp only at e0
    subst e0
    have hu27 := Aside0.mk hu
    clear hu
    refine wpList_nil ?_
    (try simp only [Exit.then, Exit.inBlock, ↓reduceIte, Nat.reduceEqDiff])
    refine hK8 _ _ ?_
    refine wp_seq_k (fun K28 hK28 => ?_)
    refine' wp_region_up 12 [Slot.det _, Slot.det _, Slot.det _, Slot.det (.agg #[.int .i64 t29, .int .i64 t30, .int .i64 t31]), Slot.det _, Slot.det (.agg #[.int .i64 t33, .int .i64 t34, .int .i64 t35]), Slot.any (RowTo e2 27 w26.heap.size t37 (fun v => .tuple #[v, .int .i64 t40])) false, Slot.any (RowTo e2 27 w26.heap.size t37 (fun v => .tuple #[v, .int .i64 t40])) false, Slot.any (RowTo e2 27 w26.heap.size t37 (fun v => v)) false, Slot.det (.int .i64 t40), Slot.any (RowTo e2 27 w26.heap.size t37 (fun v => v)) false, Slot.det _] (by kernel_rfl) (by kernel_rfl) ?main
    case main =>
     simp only [List.take_succ_cons, List.take_zero]
     refine wpK_ops rfl (fun w1 hu => ?_) ?_
     · clear hu
       go_simp
       first | done | rfl
     simp only [Act.put, nm1, nm2, nm3, i64_w]
     refine wpK_ops rfl (fun w1 hu => ?_) ?_
     · clear hu
       go_simp
       first | done | rfl
     simp only [Act.put, nm1, nm2, nm3, i64_w]
     refine wpK_ops rfl (fun w1 hu => ?_) ?_
     · have cl0 := ((hb2.up (hu7.out.trans hu27.out)).up ((Up.refl _).drew.trans hu)).cell (o := 0) rfl
       have cl1 := ((hb2.up (hu7.out.trans hu27.out)).up ((Up.refl _).drew.trans hu)).cell (o := 1) rfl
       have cl2 := ((hb2.up (hu7.out.trans hu27.out)).up ((Up.refl _).drew.trans hu)).cell (o := 2) rfl
       go_simp
       first | done | rfl
     simp only [Act.put, nm1, nm2, nm3, i64_w]
     refine wpK_ops rfl (fun w1 hu => ?_) ?_
     · have hcl := (laws_toCircle.calls K a2_0 a2_1 a2_2 t29 t30 t31 w1  A32.out)
       clear hu
       replace hcl := Aside0.mk hcl
       go_simp
       exact hcl.out
     simp only [Act.put, nm1, nm2, nm3, i64_w]
     refine wpK_ops rfl (fun w1 hu => ?_) ?_
     · have cl0 := ((hb5.up hu27.out).up ((Up.refl _).drew.trans hu)).cell (o := 0) rfl
       have cl1 := ((hb5.up hu27.out).up ((Up.refl _).drew.trans hu)).cell (o := 1) rfl
       have cl2 := ((hb5.up hu27.out).up ((Up.refl _).drew.trans hu)).cell (o := 2) rfl
       go_simp
       first | done | rfl
     simp only [Act.put, nm1, nm2, nm3, i64_w]
     refine wpK_ops rfl (fun w1 hu => ?_) ?_
     · have hcl := (laws_toLine.calls K a3_0 a3_1 a3_2 t33 t34 t35 w1  A36.out)
       clear hu
       replace hcl := Aside0.mk hcl
       go_simp
       exact hcl.out
     simp only [Act.put, nm1, nm2, nm3, i64_w]
     refine wpK_any rfl (stab_row _ _ _ _ _) (fun w1 hu hl => ?_) (fun v42 => ?_)
     · have hcl := impl_MeetLine.calls K a0 a1 t29 t30 t31 t33 t34 t35 t37 t40 w1  A41.out
       have hz := ((Up.refl _).drew.trans hu).size
       clear hu
       replace hcl := Aside0.mk hcl
       exact fresh_row (by first | (go_simp; done) | (go_simp; rfl)) hcl.out hz
     simp only [Act.put, nm1, nm2, nm3, i64_w]
     refine wpK_any rfl (stab_row _ _ _ _ _) (fun w1 hu hl => ?_) (fun v43 => ?_)
     · exact any_of_run (by first | (go_simp; done) | (go_simp; rfl)) (hl.1 (by kernel_rfl))
     simp only [Act.put, nm1, nm2, nm3, i64_w]
     refine wpK_any rfl (stab_row _ _ _ _ _) (fun w1 hu hl => ?_) (fun v44 => ?_)
     · obtain ⟨A0_, c0_, e0_, hO0_⟩ := hl.1 (by kernel_rfl)
       clear hl hu
       dsimp only at e0_
       subst e0_
       exact any_of_run (u := .slice A0_ t37.length c0_) (by first | (go_simp; done) | (go_simp; rfl)) ⟨A0_, c0_, rfl, hO0_⟩
     simp only [Act.put, nm1, nm2, nm3, i64_w]
     refine wpK_det rfl (fun w1 hu hl => ?_) ?_
     · obtain ⟨A0_, c0_, e0_, hO0_⟩ := hl.2.1 (by kernel_rfl)
       clear hl hu
       dsimp only at e0_
       subst e0_
       clear hO0_
       go_simp
       first | done | rfl
     simp only [Act.put, nm1, nm2, nm3, i64_w]
     refine wpK_any rfl (stab_row _ _ _ _ _) (fun w1 hu hl => ?_) (fun v45 => ?_)
     · exact any_of_run (by first | (go_simp; done) | (go_simp; rfl)) (hl.1 (by kernel_rfl))
     simp only [Act.put, nm1, nm2, nm3, i64_w]
     refine wpK_ops rfl (fun w1 hu => ?_) ?_
     · clear hu
       go_simp
       first | done | rfl
     simp only [Act.put, nm1, nm2, nm3, i64_w]
     refine wpK_nil ?_
     intro w46 hu hap
     simp only [List.drop_succ_cons, List.drop_zero]
     replace hu := (Up.refl _).drew.trans hu
     obtain ⟨-, -, ⟨P38, q39, e0, ht37⟩, -, -, -, -, -, -, -, -, -, -⟩ := hap
     dsimp only at e0
     subst e0
     have hu47 := Aside0.mk hu
     clear hu
     refine wpList_nil ?_
     (try simp only [Exit.then, Exit.inBlock, ↓reduceIte, Nat.reduceEqDiff])
     refine hK28 _ _ ?_
     refine wp_seq_k (fun K48 hK48 => ?_)
     refine wp_seq_k (fun K49 hK49 => ?_)
     refine wp_region_lit ?_
     refine wpList_plain rfl (fun Ko hKo => ?_)
     go_simp
     refine hKo _ _ ?_
     clear hKo Ko
     try simp only [Act.put, nm1, nm2, nm3, i64_w]
     refine wpList_plain rfl (fun Ko hKo => ?_)
     go_simp
     refine hKo _ _ ?_
     clear hKo Ko
     try simp only [Act.put, nm1, nm2, nm3, i64_w]
     refine step_call (wanted_none rfl) (by first | (go_simp; done) | (go_simp; rfl)) (laws_eqPointS.calls K P38 q39 t37 P18 q19 t17 true w46 ht37.rd ((ht17.up hu47.out).rd) A51.out) ?_
     rintro e w52 ⟨rfl, hu⟩
     have hu53 := Aside0.mk hu
     clear hu
     refine ⟨_, rfl, ?_⟩
     simp only [Act.put, nm1, nm2, nm3, i64_w]
     refine wpList_plain rfl (fun Ko hKo => ?_)
     go_simp
     refine hKo _ _ ?_
     clear hKo Ko
     try simp only [Act.put, nm1, nm2, nm3, i64_w]
     refine wpList_plain rfl (fun Ko hKo => ?_)
     go_simp
     refine hKo _ _ ?_
     clear hKo Ko
     try simp only [Act.put, nm1, nm2, nm3, i64_w]
     refine wpList_step (fun Ko hKo => ?_)
     go_simp
     refine hKo _ _ ?_
     clear hKo Ko
     try simp only [Act.put, nm1, nm2, nm3, i64_w]
     refine wpList_step (fun Ko hKo => ?_)
     go_simp
     refine hKo _ _ ?_
     clear hKo Ko
     try simp only [Act.put, nm1, nm2, nm3, i64_w]
     refine wpList_step (fun Ko hKo => ?_)
     go_simp
     refine hKo _ _ ?_
     clear hKo Ko
     try simp only [Act.put, nm1, nm2, nm3, i64_w]
     refine wpList_plain rfl (fun Ko hKo => ?_)
     go_simp
     refine hKo _ _ ?_
     clear hKo Ko
     try simp only [Act.put, nm1, nm2, nm3, i64_w]
     refine wpList_nil ?_
     (try simp only [Exit.then, Exit.inBlock, ↓reduceIte, Nat.reduceEqDiff])
     refine hK49 _ _ ?_
     refine wp_cond_true rfl ?_
     refine wp_seq_k (fun K126 hK126 => ?_)
     refine wp_region_lit ?_
     refine wpList_plain rfl (fun Ko hKo => ?_)
     go_simp
     refine hKo _ _ ?_
     clear hKo Ko
     try simp only [Act.put, nm1, nm2, nm3, i64_w]
     refine wpList_nil ?_
     (try simp only [Exit.then, Exit.inBlock, ↓reduceIte, Nat.reduceEqDiff])
     refine hK126 _ _ ?_
     refine wp_ret ?_
     (try simp only [Exit.then, Exit.inBlock, ↓reduceIte, Nat.reduceEqDiff])
     refine hQf _ _ _ ?_
     exact bodyPost_ret (v := .bool false) (by first | rfl | (simp [results, Try.results12, go_sem]; done) | (simp [results, Try.results12, go_sem]; rfl)) rfl ⟨rfl, ((((hu4.out.trans hu7.out).trans hu27.out).trans hu47.out).trans hu53.out)⟩
 ·
  rw [if_neg c54] at H
  replace c54 := Bool.eq_false_iff.mpr c54
  subst c54
  obtain rfl := Option.some.inj H
  go_enter Try.func12, Try.ntmps12
  refine wp_hide (fun Qf hQf => ?_)
  refine wp_seq_k (fun K1 hK1 => ?_)
  refine wp_region_lit ?_
  refine step_new (cs := [.int .i64 a2_0, .int .i64 a2_1, .int .i64 a2_2]) (T := 24) (f := fun b => .pointer (some ⟨b, 0, none⟩)) rfl (by first | (go_simp; done) | (go_simp; rfl)) ?_
  intro b2 w3 hu lb hb2
  simp only [Act.put, nm1, nm2, nm3, i64_w]
  have lbb2 := Aside0.mk lb
  have ltb2 := Aside0.mk hb2.lt
  clear lb
  have hu4 := Aside0.mk hu
  clear hu
  refine step_new (cs := [.int .i64 a3_0, .int .i64 a3_1, .int .i64 a3_2]) (T := 39) (f := fun b => .pointer (some ⟨b, 0, none⟩)) rfl (by first | (go_simp; done) | (go_simp; rfl)) ?_
  intro b5 w6 hu lb hb5
  simp only [Act.put, nm1, nm2, nm3, i64_w]
  have lbb5 := Aside0.mk lb
  have ltb5 := Aside0.mk hb5.lt
  clear lb
  have hu7 := Aside0.mk hu
  clear hu
  refine wpList_plain rfl (fun Ko hKo => ?_)
  go_simp
  refine hKo _ _ ?_
  clear hKo Ko
  try simp only [Act.put, nm1, nm2, nm3, i64_w]
  refine wpList_nil ?_
  (try simp only [Exit.then, Exit.inBlock, ↓reduceIte, Nat.reduceEqDiff])
  refine hK1 _ _ ?_
  refine wp_seq_k (fun K8 hK8 => ?_)
  refine' wp_region_up 12 [Slot.det _, Slot.det _, Slot.det _, Slot.det (.agg #[.int .i64 t9, .int .i64 t10, .int .i64 t11]), Slot.det _, Slot.det (.agg #[.int .i64 t13, .int .i64 t14, .int .i64 t15]), Slot.any (RowTo e2 27 w6.heap.size t17 (fun v => .tuple #[v, .int .i64 t20])) false, Slot.any (RowTo e2 27 w6.heap.size t17 (fun v => .tuple #[v, .int .i64 t20])) false, Slot.any (RowTo e2 27 w6.heap.size t17 (fun v => v)) false, Slot.det (.int .i64 t20), Slot.any (RowTo e2 27 w6.heap.size t17 (fun v => v)) false, Slot.det _] (by kernel_rfl) (by kernel_rfl) ?main
  case main =>
   simp only [List.take_succ_cons, List.take_zero]
   refine wpK_ops rfl (fun w1 hu => ?_) ?_
   · clear hu
     go_simp
     first | done | rfl
   simp only [Act.put, nm1, nm2, nm3, i64_w]
   refine wpK_ops rfl (fun w1 hu => ?_) ?_
   · clear hu
     go_simp
     first | done | rfl
   simp only [Act.put, nm1, nm2, nm3, i64_w]
   refine wpK_ops rfl (fun w1 hu => ?_) ?_
   · have cl0 := ((hb2.up hu7.out).up ((Up.refl _).drew.trans hu)).cell (o := 0) rfl
     have cl1 := ((hb2.up hu7.out).up ((Up.refl _).drew.trans hu)).cell (o := 1) rfl
     have cl2 := ((hb2.up hu7.out).up ((Up.refl _).drew.trans hu)).cell (o := 2) rfl
     go_simp
     first | done | rfl
   simp only [Act.put, nm1, nm2, nm3, i64_w]
   refine wpK_ops rfl (fun w1 hu => ?_) ?_
   · have hcl := (laws_toCircle.calls K a2_0 a2_1 a2_2 t9 t10 t11 w1  A12.out)
     clear hu
     replace hcl := Aside0.mk hcl
     go_simp
     exact hcl.out
   simp only [Act.put, nm1, nm2, nm3, i64_w]
   refine wpK_ops rfl (fun w1 hu => ?_) ?_
   · have cl0 := (hb5.up ((Up.refl _).drew.trans hu)).cell (o := 0) rfl
     have cl1 := (hb5.up ((Up.refl _).drew.trans hu)).cell (o := 1) rfl
     have cl2 := (hb5.up ((Up.refl _).drew.trans hu)).cell (o := 2) rfl
     go_simp
     first | done | rfl
   simp only [Act.put, nm1, nm2, nm3, i64_w]
   refine wpK_ops rfl (fun w1 hu => ?_) ?_
   · have hcl := (laws_toLine.calls K a3_0 a3_1 a3_2 t13 t14 t15 w1  A16.out)
     clear hu
     replace hcl := Aside0.mk hcl
     go_simp
     exact hcl.out
   simp only [Act.put, nm1, nm2, nm3, i64_w]
   refine wpK_any rfl (stab_row _ _ _ _ _) (fun w1 hu hl => ?_) (fun v22 => ?_)
   · have hcl := spec_MeetLine.calls K a0 a1 t9 t10 t11 t13 t14 t15 t17 t20 w1  A21.out
     have hz := ((Up.refl _).drew.trans hu).size
     clear hu
     replace hcl := Aside0.mk hcl
     exact fresh_row (by first | (go_simp; done) | (go_simp; rfl)) hcl.out hz
   simp only [Act.put, nm1, nm2, nm3, i64_w]
   refine wpK_any rfl (stab_row _ _ _ _ _) (fun w1 hu hl => ?_) (fun v23 => ?_)
   · exact any_of_run (by first | (go_simp; done) | (go_simp; rfl)) (hl.1 (by kernel_rfl))
   simp only [Act.put, nm1, nm2, nm3, i64_w]
   refine wpK_any rfl (stab_row _ _ _ _ _) (fun w1 hu hl => ?_) (fun v24 => ?_)
   · obtain ⟨A0_, c0_, e0_, hO0_⟩ := hl.1 (by kernel_rfl)
     clear hl hu
     dsimp only at e0_
     subst e0_
     exact any_of_run (u := .slice A0_ t17.length c0_) (by first | (go_simp; done) | (go_simp; rfl)) ⟨A0_, c0_, rfl, hO0_⟩
   simp only [Act.put, nm1, nm2, nm3, i64_w]
   refine wpK_det rfl (fun w1 hu hl => ?_) ?_
   · obtain ⟨A0_, c0_, e0_, hO0_⟩ := hl.2.1 (by kernel_rfl)
     clear hl hu
     dsimp only at e0_
     subst e0_
     clear hO0_
     go_simp
     first | done | rfl
   simp only [Act.put, nm1, nm2, nm3, i64_w]
   refine wpK_any rfl (stab_row _ _ _ _ _) (fun w1 hu hl => ?_) (fun v25 => ?_)
   · exact any_of_run (by first | (go_simp; done) | (go_simp; rfl)) (hl.1 (by kernel_rfl))
   simp only [Act.put, nm1, nm2, nm3, i64_w]
   refine wpK_ops rfl (fun w1 hu => ?_) ?_
   · clear hu
     go_simp
     first | done | rfl
   simp only [Act.put, nm1, nm2, nm3, i64_w]
   refine wpK_nil ?_
   intro w26 hu hap
   simp only [List.drop_succ_cons, List.drop_zero]
   replace hu := (Up.refl _).drew.trans hu
   obtain ⟨-, -, ⟨P18, q19, e0, ht17⟩, -, -, -, -, -, -, -, -, -, -⟩ := hap
   dsimp only at e0
   subst e0
   have hu27 := Aside0.mk hu
   clear hu
   refine wpList_nil ?_
   (try simp only [Exit.then, Exit.inBlock, ↓reduceIte, Nat.reduceEqDiff])
   refine hK8 _ _ ?_
   refine wp_seq_k (fun K28 hK28 => ?_)
   refine' wp_region_up 12 [Slot.det _, Slot.det _, Slot.det _, Slot.det (.agg #[.int .i64 t29, .int .i64 t30, .int .i64 t31]), Slot.det _, Slot.det (.agg #[.int .i64 t33, .int .i64 t34, .int .i64 t35]), Slot.any (RowTo e2 27 w26.heap.size t37 (fun v => .tuple #[v, .int .i64 t40])) false, Slot.any (RowTo e2 27 w26.heap.size t37 (fun v => .tuple #[v, .int .i64 t40])) false, Slot.any (RowTo e2 27 w26.heap.size t37 (fun v => v)) false, Slot.det (.int .i64 t40), Slot.any (RowTo e2 27 w26.heap.size t37 (fun v => v)) false, Slot.det _] (by kernel_rfl) (by kernel_rfl) ?main
   case main =>
    simp only [List.take_succ_cons, List.take_zero]
    refine wpK_ops rfl (fun w1 hu => ?_) ?_
    · clear hu
      go_simp
      first | done | rfl
    simp only [Act.put, nm1, nm2, nm3, i64_w]
    refine wpK_ops rfl (fun w1 hu => ?_) ?_
    · clear hu
      go_simp
      first | done | rfl
    simp only [Act.put, nm1, nm2, nm3, i64_w]
    refine wpK_ops rfl (fun w1 hu => ?_) ?_
    · have cl0 := ((hb2.up (hu7.out.trans hu27.out)).up ((Up.refl _).drew.trans hu)).cell (o := 0) rfl
      have cl1 := ((hb2.up (hu7.out.trans hu27.out)).up ((Up.refl _).drew.trans hu)).cell (o := 1) rfl
      have cl2 := ((hb2.up (hu7.out.trans hu27.out)).up ((Up.refl _).drew.trans hu)).cell (o := 2) rfl
      go_simp
      first | done | rfl
    simp only [Act.put, nm1, nm2, nm3, i64_w]
    refine wpK_ops rfl (fun w1 hu => ?_) ?_
    · have hcl := (laws_toCircle.calls K a2_0 a2_1 a2_2 t29 t30 t31 w1  A32.out)
      clear hu
      replace hcl := Aside0.mk hcl
      go_simp
      exact hcl.out
    simp only [Act.put, nm1, nm2, nm3, i64_w]
    refine wpK_ops rfl (fun w1 hu => ?_) ?_
    · have cl0 := ((hb5.up hu27.out).up ((Up.refl _).drew.trans hu)).cell (o := 0) rfl
      have cl1 := ((hb5.up hu27.out).up ((Up.refl _).drew.trans hu)).cell (o := 1) rfl
      have cl2 := ((hb5.up hu27.out).up ((Up.refl _).drew.trans hu)).cell (o := 2) rfl
      go_simp
      first | done | rfl
    simp only [Act.put, nm1, nm2, nm3, i64_w]
    refine wpK_ops rfl (fun w1 hu => ?_) ?_
    · have hcl := (laws_toLine.calls K a3_0 a3_1 a3_2 t33 t34 t35 w1  A36.out)
      clear hu
      replace hcl := Aside0.mk hcl
      go_simp
      exact hcl.out
    simp only [Act.put, nm1, nm2, nm3, i64_w]
    refine wpK_any rfl (stab_row _ _ _ _ _) (fun w1 hu hl => ?_) (fun v42 => ?_)
    · have hcl := impl_MeetLine.calls K a0 a1 t29 t30 t31 t33 t34 t35 t37 t40 w1  A41.out
      have hz := ((Up.refl _).drew.trans hu).size
      clear hu
      replace hcl := Aside0.mk hcl
      exact fresh_row (by first | (go_simp; done) | (go_simp; rfl)) hcl.out hz
    simp only [Act.put, nm1, nm2, nm3, i64_w]
    refine wpK_any rfl (stab_row _ _ _ _ _) (fun w1 hu hl => ?_) (fun v43 => ?_)
    · exact any_of_run (by first | (go_simp; done) | (go_simp; rfl)) (hl.1 (by kernel_rfl))
    simp only [Act.put, nm1, nm2, nm3, i64_w]
    refine wpK_any rfl (stab_row _ _ _ _ _) (fun w1 hu hl => ?_) (fun v44 => ?_)
    · obtain ⟨A0_, c0_, e0_, hO0_⟩ := hl.1 (by kernel_rfl)
      clear hl hu
      dsimp only at e0_
      subst e0_
      exact any_of_run (u := .slice A0_ t37.length c0_) (by first | (go_simp; done) | (go_simp; rfl)) ⟨A0_, c0_, rfl, hO0_⟩
    simp only [Act.put, nm1, nm2, nm3, i64_w]
    refine wpK_det rfl (fun w1 hu hl => ?_) ?_
    · obtain ⟨A0_, c0_, e0_, hO0_⟩ := hl.2.1 (by kernel_rfl)
      clear hl hu
      dsimp only at e0_
      subst e0_
      clear hO0_
      go_simp
      first | done | rfl
    simp only [Act.put, nm1, nm2, nm3, i64_w]
    refine wpK_any rfl (stab_row _ _ _ _ _) (fun w1 hu hl => ?_) (fun v45 => ?_)
    · exact any_of_run (by first | (go_simp; done) | (go_simp; rfl)) (hl.1 (by kernel_rfl))
    simp only [Act.put, nm1, nm2, nm3, i64_w]
    refine wpK_ops rfl (fun w1 hu => ?_) ?_
    · clear hu
      go_simp
      first | done | rfl
    simp only [Act.put, nm1, nm2, nm3, i64_w]
    refine wpK_nil ?_
    intro w46 hu hap
    simp only [List.drop_succ_cons, List.drop_zero]
    replace hu := (Up.refl _).drew.trans hu
    obtain ⟨-, -, ⟨P38, q39, e0, ht37⟩, -, -, -, -, -, -, -, -, -, -⟩ := hap
    dsimp only at e0
    subst e0
    have hu47 := Aside0.mk hu
    clear hu
    refine wpList_nil ?_
    (try simp only [Exit.then, Exit.inBlock, ↓reduceIte, Nat.reduceEqDiff])
    refine hK28 _ _ ?_
    refine wp_seq_k (fun K48 hK48 => ?_)
    refine wp_seq_k (fun K49 hK49 => ?_)
    refine wp_region_lit ?_
    refine wpList_plain rfl (fun Ko hKo => ?_)
    go_simp
    refine hKo _ _ ?_
    clear hKo Ko
    try simp only [Act.put, nm1, nm2, nm3, i64_w]
    refine wpList_plain rfl (fun Ko hKo => ?_)
    go_simp
    refine hKo _ _ ?_
    clear hKo Ko
    try simp only [Act.put, nm1, nm2, nm3, i64_w]
    refine step_call (wanted_none rfl) (by first | (go_simp; done) | (go_simp; rfl)) (laws_eqPointS.calls K P38 q39 t37 P18 q19 t17 false w46 ht37.rd ((ht17.up hu47.out).rd) A51.out) ?_
    rintro e w52 ⟨rfl, hu⟩
    have hu53 := Aside0.mk hu
    clear hu
    refine ⟨_, rfl, ?_⟩
    simp only [Act.put, nm1, nm2, nm3, i64_w]
    refine wpList_plain rfl (fun Ko hKo => ?_)
    go_simp
    refine hKo _ _ ?_
    clear hKo Ko
    try simp only [Act.put, nm1, nm2, nm3, i64_w]
    refine wpList_plain rfl (fun Ko hKo => ?_)
    go_simp
    refine hKo _ _ ?_
    clear hKo Ko
    try simp only [Act.put, nm1, nm2, nm3, i64_w]
    refine step_no rfl ?_
    simp only [Act.put, nm1, nm2, nm3, i64_w]
    refine step_no rfl ?_
    simp only [Act.put, nm1, nm2, nm3, i64_w]
    refine step_no rfl ?_
    simp only [Act.put, nm1, nm2, nm3, i64_w]
    refine wpList_plain rfl (fun Ko hKo => ?_)
    go_simp
    refine hKo _ _ ?_
    clear hKo Ko
    try simp only [Act.put, nm1, nm2, nm3, i64_w]
    refine wpList_nil ?_
    (try simp only [Exit.then, Exit.inBlock, ↓reduceIte, Nat.reduceEqDiff])
    refine hK49 _ _ ?_
    refine wp_cond_true rfl ?_
    refine wp_seq_k (fun K127 hK127 => ?_)
    refine wp_region_lit ?_
    refine wpList_plain rfl (fun Ko hKo => ?_)
    go_simp
    refine hKo _ _ ?_
    clear hKo Ko
    try simp only [Act.put, nm1, nm2, nm3, i64_w]
    refine wpList_nil ?_
    (try simp only [Exit.then, Exit.inBlock, ↓reduceIte, Nat.reduceEqDiff])
    refine hK127 _ _ ?_
    refine wp_ret ?_
    (try simp only [Exit.then, Exit.inBlock, ↓reduceIte, Nat.reduceEqDiff])
    refine hQf _ _ _ ?_
    exact bodyPost_ret (v := .bool false) (by first | rfl | (simp [results, Try.results12, go_sem]; done) | (simp [results, Try.results12, go_sem]; rfl)) rfl ⟨rfl, ((((hu4.out.trans hu7.out).trans hu27.out).trans hu47.out).trans hu53.out)⟩

end Go.Proofs.Ythaopanhdmakbaa
