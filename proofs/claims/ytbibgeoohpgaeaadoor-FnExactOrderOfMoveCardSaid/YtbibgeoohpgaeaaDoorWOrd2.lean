/- The walks: each of these functions of the program computes what its plain function says: spec_l07Code, spec_l01Plus, spec_l07Move, spec_l07Times, spec_OrderOfMove, impl_IsField, impl_isColour, impl_isNumber, impl_areNumbers, impl_isPoint, impl_isMap, impl_always, impl_moveAsked_1__impl_always, impl_asked__impl_moveAsked_1_impl_always, impl_rest, impl_turned, impl_product. -/
import Derived.Test.YtbibgeoohpgaeaaDoorProg
import Derived.Test.YtbibgeoohpgaeaaDoorD1
import Derived.WalkKit
import Derived.KernelRfl
import Derived.BigQuiet
import Derived.Deep.LoopGhost
import Derived.Laws.StructEq
import Derived.Test.YtbibgeoohpgaeaaDoorWOrd1
namespace Go.Proofs.YtbibgeoohpgaeaaDoor
open Go Go.RowKit
attribute [local go_sem] Oper.quiet Oper.quietAt Oper.quietUpon
attribute [local irreducible] wpList
set_option linter.unusedVariables false
set_option linter.unusedSimpArgs false
attribute [local go_sem] eqT22
attribute [local go_sem] eqT28
attribute [local go_sem] eqT30
attribute [local go_sem] eqR30

set_option maxHeartbeats 4000000 in
set_option maxRecDepth 100000 in
theorem spec_l07Code.calls (K : Nat) (a0 : Int) (a1 : Int) (a2_0 : Int) (a2_1 : Int) (a2_2 : Int) (a2_3 : Int) (a2_4 : Int) (a2_5 : Int) (r0 : Int) (w : World)  (h : spec_l07Code.f K a0 a1 a2_0 a2_1 a2_2 a2_3 a2_4 a2_5 = some (r0)) :
    Calls Tryd.prog 10 #[.int .i64 a0, .int .i64 a1, .agg #[.int .i64 a2_0, .int .i64 a2_1, .int .i64 a2_2, .int .i64 a2_3, .int .i64 a2_4, .int .i64 a2_5]] w fun e w' => e = .returned (.int .i64 r0) ∧ Up w w' := by
 have H : (((spec_l07Maps.f K a0 ([(a2_0, a2_1, a2_2, a2_3, a2_4, a2_5)])).bind fun t9 => (if (t9 == 0) = true then ((spec_l01In.f K a1 0 2).bind fun t16 => (if t16 = true then ((spec_l07Good.f K a0 a1 a2_0 a2_1 a2_2 a2_3 a2_4 a2_5).bind fun t23 => (if t23 = true then some t9 else some 5)) else some 2)) else some t9)) : Option (Int)) = some (r0) := h
 clear h
 replace H := Option.bind_eq_some_iff.mp H
 obtain ⟨t9, A10, H⟩ := H
 replace A10 := Aside0.mk A10
 try dsimp only at H
 by_cases c15 : (t9 == 0) = true
 ·
  rw [if_pos c15] at H
  have c15n : (t9 != 0) = false := by rw [bne, c15]; rfl
  replace H := Option.bind_eq_some_iff.mp H
  obtain ⟨t16, A17, H⟩ := H
  replace A17 := Aside0.mk A17
  try dsimp only at H
  by_cases c20 : (t16) = true
  ·
   rw [if_pos c20] at H
   subst c20
   replace H := Option.bind_eq_some_iff.mp H
   obtain ⟨t23, A24, H⟩ := H
   replace A24 := Aside0.mk A24
   try dsimp only at H
   by_cases c27 : (t23) = true
   ·
    rw [if_pos c27] at H
    subst c27
    obtain rfl := Option.some.inj H
    go_enter Tryd.func10, Tryd.ntmps10
    refine wp_hide (fun Qf hQf => ?_)
    refine wp_seq_k (fun K1 hK1 => ?_)
    refine wp_region_lit ?_
    refine step_new (cs := [.int .i64 a2_0, .int .i64 a2_1, .int .i64 a2_2, .int .i64 a2_3, .int .i64 a2_4, .int .i64 a2_5]) (T := 30) (f := fun b => .pointer (some ⟨b, 0, none⟩)) rfl (by first | (go_simp; done) | (go_simp; rfl)) ?_
    intro b2 w3 hu lb hb2
    simp only [Act.put, nm1, nm2, nm3, i64_w]
    have lbb2 := Aside0.mk lb
    have ltb2 := Aside0.mk hb2.lt
    clear lb
    have hu4 := Aside0.mk hu
    clear hu
    refine wpList_plain rfl (fun Ko hKo => ?_)
    go_simp
    refine hKo _ _ ?_
    clear hKo Ko
    try simp only [Act.put, nm1, nm2, nm3, i64_w]
    refine wpList_nil ?_
    (try simp only [Exit.then, Exit.inBlock, ↓reduceIte, Nat.reduceEqDiff])
    refine hK1 _ _ ?_
    refine wp_seq_k (fun K5 hK5 => ?_)
    refine wp_region_lit ?_
    refine wpList_plain rfl (fun Ko hKo => ?_)
    go_simp
    refine hKo _ _ ?_
    clear hKo Ko
    try simp only [Act.put, nm1, nm2, nm3, i64_w]
    have cl0 := hb2.cell (o := 0) rfl
    have cl1 := hb2.cell (o := 1) rfl
    have cl2 := hb2.cell (o := 2) rfl
    have cl3 := hb2.cell (o := 3) rfl
    have cl4 := hb2.cell (o := 4) rfl
    have cl5 := hb2.cell (o := 5) rfl
    refine wpList_plain rfl (fun Ko hKo => ?_)
    go_simp
    refine hKo _ _ ?_
    clear hKo Ko
    clear cl0 cl1 cl2 cl3 cl4 cl5
    try simp only [Act.put, nm1, nm2, nm3, i64_w]
    refine step_new (cs := [.int .i64 a2_0, .int .i64 a2_1, .int .i64 a2_2, .int .i64 a2_3, .int .i64 a2_4, .int .i64 a2_5]) (T := 30) (f := fun b => .slice (some ⟨b, 0, none⟩) 1 1) rfl (by first | (go_simp; done) | (go_simp; rfl)) ?_
    intro b6 w7 hu lb hb6
    simp only [Act.put, nm1, nm2, nm3, i64_w]
    have lbb6 := Aside0.mk lb
    have ltb6 := Aside0.mk hb6.lt
    clear lb
    have hu8 := Aside0.mk hu
    clear hu
    refine step_call (wanted_none rfl) (by first | (go_simp; done) | (go_simp; rfl)) (spec_l07Maps.calls K a0 (some ⟨b6, 0, none⟩) 1 ([(a2_0, a2_1, a2_2, a2_3, a2_4, a2_5)]) t9 w7 (Rd.of_blk (E := e6) (xs := [(a2_0, a2_1, a2_2, a2_3, a2_4, a2_5)]) (o := 0) hb6 (by simp) (fun j u hu => by rcases j with _ | _ | _ | _ | _ | _ | j <;> simp_all [Enc.flat, e6])) A10.out) ?_
    rintro e w11 ⟨rfl, hu⟩
    have hu12 := Aside0.mk hu
    clear hu
    refine ⟨_, rfl, ?_⟩
    simp only [Act.put, nm1, nm2, nm3, i64_w]
    refine wpList_plain rfl (fun Ko hKo => ?_)
    go_simp
    refine hKo _ _ ?_
    clear hKo Ko
    try simp only [Act.put, nm1, nm2, nm3, i64_w]
    refine wpList_nil ?_
    (try simp only [Exit.then, Exit.inBlock, ↓reduceIte, Nat.reduceEqDiff])
    refine hK5 _ _ ?_
    refine wp_seq_k (fun K13 hK13 => ?_)
    refine wp_seq_k (fun K14 hK14 => ?_)
    refine wp_region_lit ?_
    refine wpList_plain rfl (fun Ko hKo => ?_)
    go_simp
    refine hKo _ _ ?_
    clear hKo Ko
    try simp only [Act.put, nm1, nm2, nm3, i64_w]
    refine wpList_plain rfl (fun Ko hKo => ?_)
    go_simp
    refine hKo _ _ ?_
    clear hKo Ko
    try simp only [Act.put, nm1, nm2, nm3, i64_w]
    refine wpList_plain rfl (fun Ko hKo => ?_)
    go_simp
    refine hKo _ _ ?_
    clear hKo Ko
    try simp only [Act.put, nm1, nm2, nm3, i64_w]
    refine wpList_step (fun Ko hKo => ?_)
    go_simp
    refine hKo _ _ ?_
    clear hKo Ko
    try simp only [Act.put, nm1, nm2, nm3, i64_w]
    refine step_call rfl (by first | (go_simp; done) | (go_simp; rfl)) (spec_l01In.calls K a1 0 2 true w11  A17.out) ?_
    rintro e w18 ⟨rfl, hu⟩
    have hu19 := Aside0.mk hu
    clear hu
    refine ⟨_, rfl, ?_⟩
    simp only [Act.put, nm1, nm2, nm3, i64_w]
    refine wpList_step (fun Ko hKo => ?_)
    go_simp
    refine hKo _ _ ?_
    clear hKo Ko
    try simp only [Act.put, nm1, nm2, nm3, i64_w]
    refine wpList_plain rfl (fun Ko hKo => ?_)
    go_simp
    refine hKo _ _ ?_
    clear hKo Ko
    try simp only [Act.put, nm1, nm2, nm3, i64_w]
    refine wpList_nil ?_
    (try simp only [Exit.then, Exit.inBlock, ↓reduceIte, Nat.reduceEqDiff])
    refine hK14 _ _ ?_
    refine wp_cond_false rfl ?_
    refine wp_skip ?_
    (try simp only [Exit.then, Exit.inBlock, ↓reduceIte, Nat.reduceEqDiff])
    refine hK13 _ _ ?_
    refine wp_seq_k (fun K21 hK21 => ?_)
    refine wp_seq_k (fun K22 hK22 => ?_)
    refine wp_region_lit ?_
    refine wpList_plain rfl (fun Ko hKo => ?_)
    go_simp
    refine hKo _ _ ?_
    clear hKo Ko
    try simp only [Act.put, nm1, nm2, nm3, i64_w]
    refine wpList_plain rfl (fun Ko hKo => ?_)
    go_simp
    refine hKo _ _ ?_
    clear hKo Ko
    try simp only [Act.put, nm1, nm2, nm3, i64_w]
    refine wpList_plain rfl (fun Ko hKo => ?_)
    go_simp
    refine hKo _ _ ?_
    clear hKo Ko
    try simp only [Act.put, nm1, nm2, nm3, i64_w]
    refine wpList_step (fun Ko hKo => ?_)
    go_simp
    refine hKo _ _ ?_
    clear hKo Ko
    try simp only [Act.put, nm1, nm2, nm3, i64_w]
    refine wpList_step (fun Ko hKo => ?_)
    go_simp
    refine hKo _ _ ?_
    clear hKo Ko
    try simp only [Act.put, nm1, nm2, nm3, i64_w]
    have cl0 := (hb2.up ((hu8.out.trans hu12.out).trans hu19.out)).cell (o := 0) rfl
    have cl1 := (hb2.up ((hu8.out.trans hu12.out).trans hu19.out)).cell (o := 1) rfl
    have cl2 := (hb2.up ((hu8.out.trans hu12.out).trans hu19.out)).cell (o := 2) rfl
    have cl3 := (hb2.up ((hu8.out.trans hu12.out).trans hu19.out)).cell (o := 3) rfl
    have cl4 := (hb2.up ((hu8.out.trans hu12.out).trans hu19.out)).cell (o := 4) rfl
    have cl5 := (hb2.up ((hu8.out.trans hu12.out).trans hu19.out)).cell (o := 5) rfl
    refine wpList_step (fun Ko hKo => ?_)
    go_simp
    refine hKo _ _ ?_
    clear hKo Ko
    clear cl0 cl1 cl2 cl3 cl4 cl5
    try simp only [Act.put, nm1, nm2, nm3, i64_w]
    refine step_call rfl (by first | (go_simp; done) | (go_simp; rfl)) (spec_l07Good.calls K a0 a1 a2_0 a2_1 a2_2 a2_3 a2_4 a2_5 true w18  A24.out) ?_
    rintro e w25 ⟨rfl, hu⟩
    have hu26 := Aside0.mk hu
    clear hu
    refine ⟨_, rfl, ?_⟩
    simp only [Act.put, nm1, nm2, nm3, i64_w]
    refine wpList_step (fun Ko hKo => ?_)
    go_simp
    refine hKo _ _ ?_
    clear hKo Ko
    try simp only [Act.put, nm1, nm2, nm3, i64_w]
    refine wpList_plain rfl (fun Ko hKo => ?_)
    go_simp
    refine hKo _ _ ?_
    clear hKo Ko
    try simp only [Act.put, nm1, nm2, nm3, i64_w]
    refine wpList_nil ?_
    (try simp only [Exit.then, Exit.inBlock, ↓reduceIte, Nat.reduceEqDiff])
    refine hK22 _ _ ?_
    refine wp_cond_false rfl ?_
    refine wp_skip ?_
    (try simp only [Exit.then, Exit.inBlock, ↓reduceIte, Nat.reduceEqDiff])
    refine hK21 _ _ ?_
    refine wp_seq_k (fun K28 hK28 => ?_)
    refine wp_region_lit ?_
    refine wpList_plain rfl (fun Ko hKo => ?_)
    go_simp
    refine hKo _ _ ?_
    clear hKo Ko
    try simp only [Act.put, nm1, nm2, nm3, i64_w]
    refine wpList_plain rfl (fun Ko hKo => ?_)
    go_simp
    refine hKo _ _ ?_
    clear hKo Ko
    try simp only [Act.put, nm1, nm2, nm3, i64_w]
    refine wpList_nil ?_
    (try simp only [Exit.then, Exit.inBlock, ↓reduceIte, Nat.reduceEqDiff])
    refine hK28 _ _ ?_
    refine wp_ret ?_
    (try simp only [Exit.then, Exit.inBlock, ↓reduceIte, Nat.reduceEqDiff])
    refine hQf _ _ _ ?_
    exact bodyPost_ret (v := .int .i64 t9) (by first | rfl | (simp [results, Tryd.results10, go_sem]; done) | (simp [results, Tryd.results10, go_sem]; rfl)) rfl ⟨rfl, ((((hu4.out.trans hu8.out).trans hu12.out).trans hu19.out).trans hu26.out)⟩
   ·
    rw [if_neg c27] at H
    replace c27 := Bool.eq_false_iff.mpr c27
    subst c27
    obtain rfl := Option.some.inj H
    go_enter Tryd.func10, Tryd.ntmps10
    refine wp_hide (fun Qf hQf => ?_)
    refine wp_seq_k (fun K1 hK1 => ?_)
    refine wp_region_lit ?_
    refine step_new (cs := [.int .i64 a2_0, .int .i64 a2_1, .int .i64 a2_2, .int .i64 a2_3, .int .i64 a2_4, .int .i64 a2_5]) (T := 30) (f := fun b => .pointer (some ⟨b, 0, none⟩)) rfl (by first | (go_simp; done) | (go_simp; rfl)) ?_
    intro b2 w3 hu lb hb2
    simp only [Act.put, nm1, nm2, nm3, i64_w]
    have lbb2 := Aside0.mk lb
    have ltb2 := Aside0.mk hb2.lt
    clear lb
    have hu4 := Aside0.mk hu
    clear hu
    refine wpList_plain rfl (fun Ko hKo => ?_)
    go_simp
    refine hKo _ _ ?_
    clear hKo Ko
    try simp only [Act.put, nm1, nm2, nm3, i64_w]
    refine wpList_nil ?_
    (try simp only [Exit.then, Exit.inBlock, ↓reduceIte, Nat.reduceEqDiff])
    refine hK1 _ _ ?_
    refine wp_seq_k (fun K5 hK5 => ?_)
    refine wp_region_lit ?_
    refine wpList_plain rfl (fun Ko hKo => ?_)
    go_simp
    refine hKo _ _ ?_
    clear hKo Ko
    try simp only [Act.put, nm1, nm2, nm3, i64_w]
    have cl0 := hb2.cell (o := 0) rfl
    have cl1 := hb2.cell (o := 1) rfl
    have cl2 := hb2.cell (o := 2) rfl
    have cl3 := hb2.cell (o := 3) rfl
    have cl4 := hb2.cell (o := 4) rfl
    have cl5 := hb2.cell (o := 5) rfl
    refine wpList_plain rfl (fun Ko hKo => ?_)
    go_simp
    refine hKo _ _ ?_
    clear hKo Ko
    clear cl0 cl1 cl2 cl3 cl4 cl5
    try simp only [Act.put, nm1, nm2, nm3, i64_w]
    refine step_new (cs := [.int .i64 a2_0, .int .i64 a2_1, .int .i64 a2_2, .int .i64 a2_3, .int .i64 a2_4, .int .i64 a2_5]) (T := 30) (f := fun b => .slice (some ⟨b, 0, none⟩) 1 1) rfl (by first | (go_simp; done) | (go_simp; rfl)) ?_
    intro b6 w7 hu lb hb6
    simp only [Act.put, nm1, nm2, nm3, i64_w]
    have lbb6 := Aside0.mk lb
    have ltb6 := Aside0.mk hb6.lt
    clear lb
    have hu8 := Aside0.mk hu
    clear hu
    refine step_call (wanted_none rfl) (by first | (go_simp; done) | (go_simp; rfl)) (spec_l07Maps.calls K a0 (some ⟨b6, 0, none⟩) 1 ([(a2_0, a2_1, a2_2, a2_3, a2_4, a2_5)]) t9 w7 (Rd.of_blk (E := e6) (xs := [(a2_0, a2_1, a2_2, a2_3, a2_4, a2_5)]) (o := 0) hb6 (by simp) (fun j u hu => by rcases j with _ | _ | _ | _ | _ | _ | j <;> simp_all [Enc.flat, e6])) A10.out) ?_
    rintro e w11 ⟨rfl, hu⟩
    have hu12 := Aside0.mk hu
    clear hu
    refine ⟨_, rfl, ?_⟩
    simp only [Act.put, nm1, nm2, nm3, i64_w]
    refine wpList_plain rfl (fun Ko hKo => ?_)
    go_simp
    refine hKo _ _ ?_
    clear hKo Ko
    try simp only [Act.put, nm1, nm2, nm3, i64_w]
    refine wpList_nil ?_
    (try simp only [Exit.then, Exit.inBlock, ↓reduceIte, Nat.reduceEqDiff])
    refine hK5 _ _ ?_
    refine wp_seq_k (fun K13 hK13 => ?_)
    refine wp_seq_k (fun K14 hK14 => ?_)
    refine wp_region_lit ?_
    refine wpList_plain rfl (fun Ko hKo => ?_)
    go_simp
    refine hKo _ _ ?_
    clear hKo Ko
    try simp only [Act.put, nm1, nm2, nm3, i64_w]
    refine wpList_plain rfl (fun Ko hKo => ?_)
    go_simp
    refine hKo _ _ ?_
    clear hKo Ko
    try simp only [Act.put, nm1, nm2, nm3, i64_w]
    refine wpList_plain rfl (fun Ko hKo => ?_)
    go_simp
    refine hKo _ _ ?_
    clear hKo Ko
    try simp only [Act.put, nm1, nm2, nm3, i64_w]
    refine wpList_step (fun Ko hKo => ?_)
    go_simp
    refine hKo _ _ ?_
    clear hKo Ko
    try simp only [Act.put, nm1, nm2, nm3, i64_w]
    refine step_call rfl (by first | (go_simp; done) | (go_simp; rfl)) (spec_l01In.calls K a1 0 2 true w11  A17.out) ?_
    rintro e w18 ⟨rfl, hu⟩
    have hu19 := Aside0.mk hu
    clear hu
    refine ⟨_, rfl, ?_⟩
    simp only [Act.put, nm1, nm2, nm3, i64_w]
    refine wpList_step (fun Ko hKo => ?_)
    go_simp
    refine hKo _ _ ?_
    clear hKo Ko
    try simp only [Act.put, nm1, nm2, nm3, i64_w]
    refine wpList_plain rfl (fun Ko hKo => ?_)
    go_simp
    refine hKo _ _ ?_
    clear hKo Ko
    try simp only [Act.put, nm1, nm2, nm3, i64_w]
    refine wpList_nil ?_
    (try simp only [Exit.then, Exit.inBlock, ↓reduceIte, Nat.reduceEqDiff])
    refine hK14 _ _ ?_
    refine wp_cond_false rfl ?_
    refine wp_skip ?_
    (try simp only [Exit.then, Exit.inBlock, ↓reduceIte, Nat.reduceEqDiff])
    refine hK13 _ _ ?_
    refine wp_seq_k (fun K21 hK21 => ?_)
    refine wp_seq_k (fun K22 hK22 => ?_)
    refine wp_region_lit ?_
    refine wpList_plain rfl (fun Ko hKo => ?_)
    go_simp
    refine hKo _ _ ?_
    clear hKo Ko
    try simp only [Act.put, nm1, nm2, nm3, i64_w]
    refine wpList_plain rfl (fun Ko hKo => ?_)
    go_simp
    refine hKo _ _ ?_
    clear hKo Ko
    try simp only [Act.put, nm1, nm2, nm3, i64_w]
    refine wpList_plain rfl (fun Ko hKo => ?_)
    go_simp
    refine hKo _ _ ?_
    clear hKo Ko
    try simp only [Act.put, nm1, nm2, nm3, i64_w]
    refine wpList_step (fun Ko hKo => ?_)
    go_simp
    refine hKo _ _ ?_
    clear hKo Ko
    try simp only [Act.put, nm1, nm2, nm3, i64_w]
    refine wpList_step (fun Ko hKo => ?_)
    go_simp
    refine hKo _ _ ?_
    clear hKo Ko
    try simp only [Act.put, nm1, nm2, nm3, i64_w]
    have cl0 := (hb2.up ((hu8.out.trans hu12.out).trans hu19.out)).cell (o := 0) rfl
    have cl1 := (hb2.up ((hu8.out.trans hu12.out).trans hu19.out)).cell (o := 1) rfl
    have cl2 := (hb2.up ((hu8.out.trans hu12.out).trans hu19.out)).cell (o := 2) rfl
    have cl3 := (hb2.up ((hu8.out.trans hu12.out).trans hu19.out)).cell (o := 3) rfl
    have cl4 := (hb2.up ((hu8.out.trans hu12.out).trans hu19.out)).cell (o := 4) rfl
    have cl5 := (hb2.up ((hu8.out.trans hu12.out).trans hu19.out)).cell (o := 5) rfl
    refine wpList_step (fun Ko hKo => ?_)
    go_simp
    refine hKo _ _ ?_
    clear hKo Ko
    clear cl0 cl1 cl2 cl3 cl4 cl5
    try simp only [Act.put, nm1, nm2, nm3, i64_w]
    refine step_call rfl (by first | (go_simp; done) | (go_simp; rfl)) (spec_l07Good.calls K a0 a1 a2_0 a2_1 a2_2 a2_3 a2_4 a2_5 false w18  A24.out) ?_
    rintro e w25 ⟨rfl, hu⟩
    have hu26 := Aside0.mk hu
    clear hu
    refine ⟨_, rfl, ?_⟩
    simp only [Act.put, nm1, nm2, nm3, i64_w]
    refine wpList_step (fun Ko hKo => ?_)
    go_simp
    refine hKo _ _ ?_
    clear hKo Ko
    try simp only [Act.put, nm1, nm2, nm3, i64_w]
    refine wpList_plain rfl (fun Ko hKo => ?_)
    go_simp
    refine hKo _ _ ?_
    clear hKo Ko
    try simp only [Act.put, nm1, nm2, nm3, i64_w]
    refine wpList_nil ?_
    (try simp only [Exit.then, Exit.inBlock, ↓reduceIte, Nat.reduceEqDiff])
    refine hK22 _ _ ?_
    refine wp_cond_true rfl ?_
    refine wp_region_lit ?_
    refine wpList_plain rfl (fun Ko hKo => ?_)
    go_simp
    refine hKo _ _ ?_
    clear hKo Ko
    try simp only [Act.put, nm1, nm2, nm3, i64_w]
    refine wpList_nil ?_
    (try simp only [Exit.then, Exit.inBlock, ↓reduceIte, Nat.reduceEqDiff])
    refine hK21 _ _ ?_
    refine wp_seq_k (fun K29 hK29 => ?_)
    refine wp_region_lit ?_
    refine wpList_plain rfl (fun Ko hKo => ?_)
    go_simp
    refine hKo _ _ ?_
    clear hKo Ko
    try simp only [Act.put, nm1, nm2, nm3, i64_w]
    refine wpList_plain rfl (fun Ko hKo => ?_)
    go_simp
    refine hKo _ _ ?_
    clear hKo Ko
    try simp only [Act.put, nm1, nm2, nm3, i64_w]
    refine wpList_nil ?_
    (try simp only [Exit.then, Exit.inBlock, ↓reduceIte, Nat.reduceEqDiff])
    refine hK29 _ _ ?_
    refine wp_ret ?_
    (try simp only [Exit.then, Exit.inBlock, ↓reduceIte, Nat.reduceEqDiff])
    refine hQf _ _ _ ?_
    exact bodyPost_ret (v := .int .i64 5) (by first | rfl | (simp [results, Tryd.results10, go_sem]; done) | (simp [results, Tryd.results10, go_sem]; rfl)) rfl ⟨rfl, ((((hu4.out.trans hu8.out).trans hu12.out).trans hu19.out).trans hu26.out)⟩
  ·
   rw [if_neg c20] at H
   replace c20 := Bool.eq_false_iff.mpr c20
   subst c20
   obtain rfl := Option.some.inj H
   go_enter Tryd.func10, Tryd.ntmps10
   refine wp_hide (fun Qf hQf => ?_)
   refine wp_seq_k (fun K1 hK1 => ?_)
   refine wp_region_lit ?_
   refine step_new (cs := [.int .i64 a2_0, .int .i64 a2_1, .int .i64 a2_2, .int .i64 a2_3, .int .i64 a2_4, .int .i64 a2_5]) (T := 30) (f := fun b => .pointer (some ⟨b, 0, none⟩)) rfl (by first | (go_simp; done) | (go_simp; rfl)) ?_
   intro b2 w3 hu lb hb2
   simp only [Act.put, nm1, nm2, nm3, i64_w]
   have lbb2 := Aside0.mk lb
   have ltb2 := Aside0.mk hb2.lt
   clear lb
   have hu4 := Aside0.mk hu
   clear hu
   refine wpList_plain rfl (fun Ko hKo => ?_)
   go_simp
   refine hKo _ _ ?_
   clear hKo Ko
   try simp only [Act.put, nm1, nm2, nm3, i64_w]
   refine wpList_nil ?_
   (try simp only [Exit.then, Exit.inBlock, ↓reduceIte, Nat.reduceEqDiff])
   refine hK1 _ _ ?_
   refine wp_seq_k (fun K5 hK5 => ?_)
   refine wp_region_lit ?_
   refine wpList_plain rfl (fun Ko hKo => ?_)
   go_simp
   refine hKo _ _ ?_
   clear hKo Ko
   try simp only [Act.put, nm1, nm2, nm3, i64_w]
   have cl0 := hb2.cell (o := 0) rfl
   have cl1 := hb2.cell (o := 1) rfl
   have cl2 := hb2.cell (o := 2) rfl
   have cl3 := hb2.cell (o := 3) rfl
   have cl4 := hb2.cell (o := 4) rfl
   have cl5 := hb2.cell (o := 5) rfl
   refine wpList_plain rfl (fun Ko hKo => ?_)
   go_simp
   refine hKo _ _ ?_
   clear hKo Ko
   clear cl0 cl1 cl2 cl3 cl4 cl5
   try simp only [Act.put, nm1, nm2, nm3, i64_w]
   refine step_new (cs := [.int .i64 a2_0, .int .i64 a2_1, .int .i64 a2_2, .int .i64 a2_3, .int .i64 a2_4, .int .i64 a2_5]) (T := 30) (f := fun b => .slice (some ⟨b, 0, none⟩) 1 1) rfl (by first | (go_simp; done) | (go_simp; rfl)) ?_
   intro b6 w7 hu lb hb6
   simp only [Act.put, nm1, nm2, nm3, i64_w]
   have lbb6 := Aside0.mk lb
   have ltb6 := Aside0.mk hb6.lt
   clear lb
   have hu8 := Aside0.mk hu
   clear hu
   refine step_call (wanted_none rfl) (by first | (go_simp; done) | (go_simp; rfl)) (spec_l07Maps.calls K a0 (some ⟨b6, 0, none⟩) 1 ([(a2_0, a2_1, a2_2, a2_3, a2_4, a2_5)]) t9 w7 (Rd.of_blk (E := e6) (xs := [(a2_0, a2_1, a2_2, a2_3, a2_4, a2_5)]) (o := 0) hb6 (by simp) (fun j u hu => by rcases j with _ | _ | _ | _ | _ | _ | j <;> simp_all [Enc.flat, e6])) A10.out) ?_
   rintro e w11 ⟨rfl, hu⟩
   have hu12 := Aside0.mk hu
   clear hu
   refine ⟨_, rfl, ?_⟩
   simp only [Act.put, nm1, nm2, nm3, i64_w]
   refine wpList_plain rfl (fun Ko hKo => ?_)
   go_simp
   refine hKo _ _ ?_
   clear hKo Ko
   try simp only [Act.put, nm1, nm2, nm3, i64_w]
   refine wpList_nil ?_
   (try simp only [Exit.then, Exit.inBlock, ↓reduceIte, Nat.reduceEqDiff])
   refine hK5 _ _ ?_
   refine wp_seq_k (fun K13 hK13 => ?_)
   refine wp_seq_k (fun K14 hK14 => ?_)
   refine wp_region_lit ?_
   refine wpList_plain rfl (fun Ko hKo => ?_)
   go_simp
   refine hKo _ _ ?_
   clear hKo Ko
   try simp only [Act.put, nm1, nm2, nm3, i64_w]
   refine wpList_plain rfl (fun Ko hKo => ?_)
   go_simp
   refine hKo _ _ ?_
   clear hKo Ko
   try simp only [Act.put, nm1, nm2, nm3, i64_w]
   refine wpList_plain rfl (fun Ko hKo => ?_)
   go_simp
   refine hKo _ _ ?_
   clear hKo Ko
   try simp only [Act.put, nm1, nm2, nm3, i64_w]
   refine wpList_step (fun Ko hKo => ?_)
   go_simp
   refine hKo _ _ ?_
   clear hKo Ko
   try simp only [Act.put, nm1, nm2, nm3, i64_w]
   refine step_call rfl (by first | (go_simp; done) | (go_simp; rfl)) (spec_l01In.calls K a1 0 2 false w11  A17.out) ?_
   rintro e w18 ⟨rfl, hu⟩
   have hu19 := Aside0.mk hu
   clear hu
   refine ⟨_, rfl, ?_⟩
   simp only [Act.put, nm1, nm2, nm3, i64_w]
   refine wpList_step (fun Ko hKo => ?_)
   go_simp
   refine hKo _ _ ?_
   clear hKo Ko
   try simp only [Act.put, nm1, nm2, nm3, i64_w]
   refine wpList_plain rfl (fun Ko hKo => ?_)
   go_simp
   refine hKo _ _ ?_
   clear hKo Ko
   try simp only [Act.put, nm1, nm2, nm3, i64_w]
   refine wpList_nil ?_
   (try simp only [Exit.then, Exit.inBlock, ↓reduceIte, Nat.reduceEqDiff])
   refine hK14 _ _ ?_
   refine wp_cond_true rfl ?_
   refine wp_region_lit ?_
   refine wpList_plain rfl (fun Ko hKo => ?_)
   go_simp
   refine hKo _ _ ?_
   clear hKo Ko
   try simp only [Act.put, nm1, nm2, nm3, i64_w]
   refine wpList_nil ?_
   (try simp only [Exit.then, Exit.inBlock, ↓reduceIte, Nat.reduceEqDiff])
   refine hK13 _ _ ?_
   refine wp_seq_k (fun K30 hK30 => ?_)
   refine wp_seq_k (fun K31 hK31 => ?_)
   refine wp_region_lit ?_
   refine wpList_plain rfl (fun Ko hKo => ?_)
   go_simp
   refine hKo _ _ ?_
   clear hKo Ko
   try simp only [Act.put, nm1, nm2, nm3, i64_w]
   refine wpList_plain rfl (fun Ko hKo => ?_)
   go_simp
   refine hKo _ _ ?_
   clear hKo Ko
   try simp only [Act.put, nm1, nm2, nm3, i64_w]
   refine wpList_plain rfl (fun Ko hKo => ?_)
   go_simp
   refine hKo _ _ ?_
   clear hKo Ko
   try simp only [Act.put, nm1, nm2, nm3, i64_w]
   refine step_no rfl ?_
   simp only [Act.put, nm1, nm2, nm3, i64_w]
   refine step_no rfl ?_
   simp only [Act.put, nm1, nm2, nm3, i64_w]
   refine step_no rfl ?_
   simp only [Act.put, nm1, nm2, nm3, i64_w]
   refine step_no rfl ?_
   simp only [Act.put, nm1, nm2, nm3, i64_w]
   refine step_no rfl ?_
   simp only [Act.put, nm1, nm2, nm3, i64_w]
   refine wpList_plain rfl (fun Ko hKo => ?_)
   go_simp
   refine hKo _ _ ?_
   clear hKo Ko
   try simp only [Act.put, nm1, nm2, nm3, i64_w]
   refine wpList_nil ?_
   (try simp only [Exit.then, Exit.inBlock, ↓reduceIte, Nat.reduceEqDiff])
   refine hK31 _ _ ?_
   refine wp_cond_false rfl ?_
   refine wp_skip ?_
   (try simp only [Exit.then, Exit.inBlock, ↓reduceIte, Nat.reduceEqDiff])
   refine hK30 _ _ ?_
   refine wp_seq_k (fun K32 hK32 => ?_)
   refine wp_region_lit ?_
   refine wpList_plain rfl (fun Ko hKo => ?_)
   go_simp
   refine hKo _ _ ?_
   clear hKo Ko
   try simp only [Act.put, nm1, nm2, nm3, i64_w]
   refine wpList_plain rfl (fun Ko hKo => ?_)
   go_simp
   refine hKo _ _ ?_
   clear hKo Ko
   try simp only [Act.put, nm1, nm2, nm3, i64_w]
   refine wpList_nil ?_
   (try simp only [Exit.then, Exit.inBlock, ↓reduceIte, Nat.reduceEqDiff])
   refine hK32 _ _ ?_
   refine wp_ret ?_
   (try simp only [Exit.then, Exit.inBlock, ↓reduceIte, Nat.reduceEqDiff])
   refine hQf _ _ _ ?_
   exact bodyPost_ret (v := .int .i64 2) (by first | rfl | (simp [results, Tryd.results10, go_sem]; done) | (simp [results, Tryd.results10, go_sem]; rfl)) rfl ⟨rfl, (((hu4.out.trans hu8.out).trans hu12.out).trans hu19.out)⟩
 ·
  rw [if_neg c15] at H
  replace c15 := Bool.eq_false_iff.mpr c15
  have c15n : (t9 != 0) = true := by rw [bne, c15]; rfl
  have c15p : ¬ t9 = 0 := fun e => by simp [e] at c15
  obtain rfl := Option.some.inj H
  go_enter Tryd.func10, Tryd.ntmps10
  refine wp_hide (fun Qf hQf => ?_)
  refine wp_seq_k (fun K1 hK1 => ?_)
  refine wp_region_lit ?_
  refine step_new (cs := [.int .i64 a2_0, .int .i64 a2_1, .int .i64 a2_2, .int .i64 a2_3, .int .i64 a2_4, .int .i64 a2_5]) (T := 30) (f := fun b => .pointer (some ⟨b, 0, none⟩)) rfl (by first | (go_simp; done) | (go_simp; rfl)) ?_
  intro b2 w3 hu lb hb2
  simp only [Act.put, nm1, nm2, nm3, i64_w]
  have lbb2 := Aside0.mk lb
  have ltb2 := Aside0.mk hb2.lt
  clear lb
  have hu4 := Aside0.mk hu
  clear hu
  refine wpList_plain rfl (fun Ko hKo => ?_)
  go_simp
  refine hKo _ _ ?_
  clear hKo Ko
  try simp only [Act.put, nm1, nm2, nm3, i64_w]
  refine wpList_nil ?_
  (try simp only [Exit.then, Exit.inBlock, ↓reduceIte, Nat.reduceEqDiff])
  refine hK1 _ _ ?_
  refine wp_seq_k (fun K5 hK5 => ?_)
  refine wp_region_lit ?_
  refine wpList_plain rfl (fun Ko hKo => ?_)
  go_simp
  refine hKo _ _ ?_
  clear hKo Ko
  try simp only [Act.put, nm1, nm2, nm3, i64_w]
  have cl0 := hb2.cell (o := 0) rfl
  have cl1 := hb2.cell (o := 1) rfl
  have cl2 := hb2.cell (o := 2) rfl
  have cl3 := hb2.cell (o := 3) rfl
  have cl4 := hb2.cell (o := 4) rfl
  have cl5 := hb2.cell (o := 5) rfl
  refine wpList_plain rfl (fun Ko hKo => ?_)
  go_simp
  refine hKo _ _ ?_
  clear hKo Ko
  clear cl0 cl1 cl2 cl3 cl4 cl5
  try simp only [Act.put, nm1, nm2, nm3, i64_w]
  refine step_new (cs := [.int .i64 a2_0, .int .i64 a2_1, .int .i64 a2_2, .int .i64 a2_3, .int .i64 a2_4, .int .i64 a2_5]) (T := 30) (f := fun b => .slice (some ⟨b, 0, none⟩) 1 1) rfl (by first | (go_simp; done) | (go_simp; rfl)) ?_
  intro b6 w7 hu lb hb6
  simp only [Act.put, nm1, nm2, nm3, i64_w]
  have lbb6 := Aside0.mk lb
  have ltb6 := Aside0.mk hb6.lt
  clear lb
  have hu8 := Aside0.mk hu
  clear hu
  refine step_call (wanted_none rfl) (by first | (go_simp; done) | (go_simp; rfl)) (spec_l07Maps.calls K a0 (some ⟨b6, 0, none⟩) 1 ([(a2_0, a2_1, a2_2, a2_3, a2_4, a2_5)]) t9 w7 (Rd.of_blk (E := e6) (xs := [(a2_0, a2_1, a2_2, a2_3, a2_4, a2_5)]) (o := 0) hb6 (by simp) (fun j u hu => by rcases j with _ | _ | _ | _ | _ | _ | j <;> simp_all [Enc.flat, e6])) A10.out) ?_
  rintro e w11 ⟨rfl, hu⟩
  have hu12 := Aside0.mk hu
  clear hu
  refine ⟨_, rfl, ?_⟩
  simp only [Act.put, nm1, nm2, nm3, i64_w]
  refine wpList_plain rfl (fun Ko hKo => ?_)
  go_simp
  refine hKo _ _ ?_
  clear hKo Ko
  try simp only [Act.put, nm1, nm2, nm3, i64_w]
  refine wpList_nil ?_
  (try simp only [Exit.then, Exit.inBlock, ↓reduceIte, Nat.reduceEqDiff])
  refine hK5 _ _ ?_
  refine wp_seq_k (fun K13 hK13 => ?_)
  refine wp_seq_k (fun K14 hK14 => ?_)
  refine wp_region_lit ?_
  refine wpList_plain rfl (fun Ko hKo => ?_)
  go_simp
  refine hKo _ _ ?_
  clear hKo Ko
  try simp only [Act.put, nm1, nm2, nm3, i64_w]
  refine wpList_plain rfl (fun Ko hKo => ?_)
  go_simp
  refine hKo _ _ ?_
  clear hKo Ko
  try simp only [Act.put, nm1, nm2, nm3, i64_w]
  refine wpList_plain rfl (fun Ko hKo => ?_)
  go_simp
  refine hKo _ _ ?_
  clear hKo Ko
  try simp only [Act.put, nm1, nm2, nm3, i64_w]
  refine step_no rfl ?_
  simp only [Act.put, nm1, nm2, nm3, i64_w]
  refine step_no rfl ?_
  simp only [Act.put, nm1, nm2, nm3, i64_w]
  refine step_no rfl ?_
  simp only [Act.put, nm1, nm2, nm3, i64_w]
  refine wpList_plain rfl (fun Ko hKo => ?_)
  go_simp
  refine hKo _ _ ?_
  clear hKo Ko
  try simp only [Act.put, nm1, nm2, nm3, i64_w]
  refine wpList_nil ?_
  (try simp only [Exit.then, Exit.inBlock, ↓reduceIte, Nat.reduceEqDiff])
  refine hK14 _ _ ?_
  refine wp_cond_false rfl ?_
  refine wp_skip ?_
  (try simp only [Exit.then, Exit.inBlock, ↓reduceIte, Nat.reduceEqDiff])
  refine hK13 _ _ ?_
  refine wp_seq_k (fun K33 hK33 => ?_)
  refine wp_seq_k (fun K34 hK34 => ?_)
  refine wp_region_lit ?_
  refine wpList_plain rfl (fun Ko hKo => ?_)
  go_simp
  refine hKo _ _ ?_
  clear hKo Ko
  try simp only [Act.put, nm1, nm2, nm3, i64_w]
  refine wpList_plain rfl (fun Ko hKo => ?_)
  go_simp
  refine hKo _ _ ?_
  clear hKo Ko
  try simp only [Act.put, nm1, nm2, nm3, i64_w]
  refine wpList_plain rfl (fun Ko hKo => ?_)
  go_simp
  refine hKo _ _ ?_
  clear hKo Ko
  try simp only [Act.put, nm1, nm2, nm3, i64_w]
  refine step_no rfl ?_
  simp only [Act.put, nm1, nm2, nm3, i64_w]
  refine step_no rfl ?_
  simp only [Act.put, nm1, nm2, nm3, i64_w]
  refine step_no rfl ?_
  simp only [Act.put, nm1, nm2, nm3, i64_w]
  refine step_no rfl ?_
  simp only [Act.put, nm1, nm2, nm3, i64_w]
  refine step_no rfl ?_
  simp only [Act.put, nm1, nm2, nm3, i64_w]
  refine wpList_plain rfl (fun Ko hKo => ?_)
  go_simp
  refine hKo _ _ ?_
  clear hKo Ko
  try simp only [Act.put, nm1, nm2, nm3, i64_w]
  refine wpList_nil ?_
  (try simp only [Exit.then, Exit.inBlock, ↓reduceIte, Nat.reduceEqDiff])
  refine hK34 _ _ ?_
  refine wp_cond_false rfl ?_
  refine wp_skip ?_
  (try simp only [Exit.then, Exit.inBlock, ↓reduceIte, Nat.reduceEqDiff])
  refine hK33 _ _ ?_
  refine wp_seq_k (fun K35 hK35 => ?_)
  refine wp_region_lit ?_
  refine wpList_plain rfl (fun Ko hKo => ?_)
  go_simp
  refine hKo _ _ ?_
  clear hKo Ko
  try simp only [Act.put, nm1, nm2, nm3, i64_w]
  refine wpList_plain rfl (fun Ko hKo => ?_)
  go_simp
  refine hKo _ _ ?_
  clear hKo Ko
  try simp only [Act.put, nm1, nm2, nm3, i64_w]
  refine wpList_nil ?_
  (try simp only [Exit.then, Exit.inBlock, ↓reduceIte, Nat.reduceEqDiff])
  refine hK35 _ _ ?_
  refine wp_ret ?_
  (try simp only [Exit.then, Exit.inBlock, ↓reduceIte, Nat.reduceEqDiff])
  refine hQf _ _ _ ?_
  exact bodyPost_ret (v := .int .i64 t9) (by first | rfl | (simp [results, Tryd.results10, go_sem]; done) | (simp [results, Tryd.results10, go_sem]; rfl)) rfl ⟨rfl, ((hu4.out.trans hu8.out).trans hu12.out)⟩

set_option maxHeartbeats 4000000 in
set_option maxRecDepth 100000 in
theorem spec_l01Plus.calls (K : Nat) (a0 : Int) (a1_0 : Int) (a1_1 : Int) (a2_0 : Int) (a2_1 : Int) (r0 : Int) (r1 : Int) (w : World)  (h : spec_l01Plus.f K a0 a1_0 a1_1 a2_0 a2_1 = some (r0, r1)) :
    Calls Tryd.prog 39 #[.int .i64 a0, .agg #[.int .i64 a1_0, .int .i64 a1_1], .agg #[.int .i64 a2_0, .int .i64 a2_1]] w fun e w' => e = .returned (.agg #[.int .i64 r0, .int .i64 r1]) ∧ Up w w' := by
 have H : (((spec_l01Mod.f K (wrap64 (a1_0 + a2_0)) a0).bind fun t12 => ((spec_l01Mod.f K (wrap64 (a1_1 + a2_1)) a0).bind fun t14 => some (t12, t14))) : Option (Int × Int)) = some (r0, r1) := h
 clear h
 replace H := Option.bind_eq_some_iff.mp H
 obtain ⟨t12, A13, H⟩ := H
 replace A13 := Aside0.mk A13
 try dsimp only at H
 replace H := Option.bind_eq_some_iff.mp H
 obtain ⟨t14, A15, H⟩ := H
 replace A15 := Aside0.mk A15
 try dsimp only at H
 simp only [Option.some.injEq, Prod.mk.injEq] at H
 obtain ⟨rfl, rfl⟩ := H
 go_enter Tryd.func39, Tryd.ntmps39
 refine wp_hide (fun Qf hQf => ?_)
 refine wp_seq_k (fun K1 hK1 => ?_)
 refine wp_region_lit ?_
 refine step_new (cs := [.int .i64 a1_0, .int .i64 a1_1]) (T := 28) (f := fun b => .pointer (some ⟨b, 0, none⟩)) rfl (by first | (go_simp; done) | (go_simp; rfl)) ?_
 intro b2 w3 hu lb hb2
 simp only [Act.put, nm1, nm2, nm3, i64_w]
 have lbb2 := Aside0.mk lb
 have ltb2 := Aside0.mk hb2.lt
 clear lb
 have hu4 := Aside0.mk hu
 clear hu
 refine step_new (cs := [.int .i64 a2_0, .int .i64 a2_1]) (T := 28) (f := fun b => .pointer (some ⟨b, 0, none⟩)) rfl (by first | (go_simp; done) | (go_simp; rfl)) ?_
 intro b5 w6 hu lb hb5
 simp only [Act.put, nm1, nm2, nm3, i64_w]
 have lbb5 := Aside0.mk lb
 have ltb5 := Aside0.mk hb5.lt
 clear lb
 have hu7 := Aside0.mk hu
 clear hu
 refine step_new (cs := [.int .i64 0, .int .i64 0]) (T := 28) (f := fun b => .pointer (some ⟨b, 0, none⟩)) rfl (by first | (go_simp; done) | (go_simp; rfl)) ?_
 intro b8 w9 hu lb hb8
 simp only [Act.put, nm1, nm2, nm3, i64_w]
 have lbb8 := Aside0.mk lb
 have ltb8 := Aside0.mk hb8.lt
 clear lb
 have hu10 := Aside0.mk hu
 clear hu
 refine wpList_nil ?_
 (try simp only [Exit.then, Exit.inBlock, ↓reduceIte, Nat.reduceEqDiff])
 refine hK1 _ _ ?_
 refine wp_seq_k (fun K11 hK11 => ?_)
 refine' wp_region_up 15 [Slot.det _, Slot.det _, Slot.det _, Slot.det _, Slot.det _, Slot.det _, Slot.det (.int .i64 t12), Slot.det _, Slot.det _, Slot.det _, Slot.det _, Slot.det _, Slot.det _, Slot.det (.int .i64 t14), Slot.det _] (by kernel_rfl) (by kernel_rfl) ?main
 case main =>
  simp only [List.take_succ_cons, List.take_zero]
  refine wpK_ops rfl (fun w1 hu => ?_) ?_
  · clear hu
    go_simp
    first | done | rfl
  simp only [Act.put, nm1, nm2, nm3, i64_w]
  refine wpK_ops rfl (fun w1 hu => ?_) ?_
  · have cl0 := ((hb2.up (hu7.out.trans hu10.out)).up ((Up.refl _).drew.trans hu)).cell (o := 0) rfl
    go_simp
    first | done | rfl
  simp only [Act.put, nm1, nm2, nm3, i64_w]
  refine wpK_ops rfl (fun w1 hu => ?_) ?_
  · clear hu
    go_simp
    first | done | rfl
  simp only [Act.put, nm1, nm2, nm3, i64_w]
  refine wpK_ops rfl (fun w1 hu => ?_) ?_
  · have cl0 := ((hb5.up hu10.out).up ((Up.refl _).drew.trans hu)).cell (o := 0) rfl
    go_simp
    first | done | rfl
  simp only [Act.put, nm1, nm2, nm3, i64_w]
  refine wpK_ops rfl (fun w1 hu => ?_) ?_
  · clear hu
    go_simp
    first | done | rfl
  simp only [Act.put, nm1, nm2, nm3, i64_w]
  refine wpK_ops rfl (fun w1 hu => ?_) ?_
  · clear hu
    go_simp
    first | done | rfl
  simp only [Act.put, nm1, nm2, nm3, i64_w]
  refine wpK_ops rfl (fun w1 hu => ?_) ?_
  · have hcl := (spec_l01Mod.calls K (wrap64 (a1_0 + a2_0)) a0 t12 w1  A13.out)
    clear hu
    replace hcl := Aside0.mk hcl
    go_simp
    exact hcl.out
  simp only [Act.put, nm1, nm2, nm3, i64_w]
  refine wpK_ops rfl (fun w1 hu => ?_) ?_
  · clear hu
    go_simp
    first | done | rfl
  simp only [Act.put, nm1, nm2, nm3, i64_w]
  refine wpK_ops rfl (fun w1 hu => ?_) ?_
  · have cl0 := ((hb2.up (hu7.out.trans hu10.out)).up ((Up.refl _).drew.trans hu)).cell (o := 1) rfl
    go_simp
    first | done | rfl
  simp only [Act.put, nm1, nm2, nm3, i64_w]
  refine wpK_ops rfl (fun w1 hu => ?_) ?_
  · clear hu
    go_simp
    first | done | rfl
  simp only [Act.put, nm1, nm2, nm3, i64_w]
  refine wpK_ops rfl (fun w1 hu => ?_) ?_
  · have cl0 := ((hb5.up hu10.out).up ((Up.refl _).drew.trans hu)).cell (o := 1) rfl
    go_simp
    first | done | rfl
  simp only [Act.put, nm1, nm2, nm3, i64_w]
  refine wpK_ops rfl (fun w1 hu => ?_) ?_
  · clear hu
    go_simp
    first | done | rfl
  simp only [Act.put, nm1, nm2, nm3, i64_w]
  refine wpK_ops rfl (fun w1 hu => ?_) ?_
  · clear hu
    go_simp
    first | done | rfl
  simp only [Act.put, nm1, nm2, nm3, i64_w]
  refine wpK_ops rfl (fun w1 hu => ?_) ?_
  · have hcl := (spec_l01Mod.calls K (wrap64 (a1_1 + a2_1)) a0 t14 w1  A15.out)
    clear hu
    replace hcl := Aside0.mk hcl
    go_simp
    exact hcl.out
  simp only [Act.put, nm1, nm2, nm3, i64_w]
  refine wpK_ops rfl (fun w1 hu => ?_) ?_
  · clear hu
    go_simp
    first | done | rfl
  simp only [Act.put, nm1, nm2, nm3, i64_w]
  refine wpK_nil ?_
  intro w16 hu hap
  simp only [List.drop_succ_cons, List.drop_zero]
  replace hu := (Up.refl _).drew.trans hu
  clear hap
  have hu17 := Aside0.mk hu
  clear hu
  have hB0 := (hb8.up hu17.out)
  have cl0 := hB0.cell (o := 0) rfl
  have fr0 := hB0.free 0
  have cl1 := hB0.cell (o := 1) rfl
  have fr1 := hB0.free 1
  refine step_store (b := b8) (cs' := [.int .i64 t12, .int .i64 t14]) (T := 28) (W' := ((w16.setCell ⟨b8, 0, none⟩ (.int .i64 t12)).setCell ⟨b8, 1, none⟩ (.int .i64 t14))) rfl rfl (by first | (go_simp; done) | (go_simp; rfl)) (((Sto.refl _ _).setCell 0 _).setCell 1 _) (((hB0).setCell 0 _).setCell 1 _) ?_
  clear hB0 cl0 fr0 cl1 fr1
  intro w18 hs hb20
  have hs19 := Aside0.mk hs
  clear hs
  refine wpList_nil ?_
  (try simp only [Exit.then, Exit.inBlock, ↓reduceIte, Nat.reduceEqDiff])
  refine hK11 _ _ ?_
  refine wp_ret ?_
  (try simp only [Exit.then, Exit.inBlock, ↓reduceIte, Nat.reduceEqDiff])
  refine hQf _ _ _ ?_
  have cr0 := hb20.cell (o := 0) rfl
  have cr1 := hb20.cell (o := 1) rfl
  exact bodyPost_ret (v := .agg #[.int .i64 t12, .int .i64 t14]) (by first | rfl | (simp [results, Tryd.results39, go_sem, cr0, cr1]; done) | (simp [results, Tryd.results39, go_sem, cr0, cr1]; rfl)) rfl ⟨rfl, ((((hu4.out.trans hu7.out).trans hu10.out).trans hu17.out).sto (Nat.le_trans ((Nat.le_trans (hu4.out.size) hu7.out.size)) lbb8.out) hs19.out)⟩

set_option maxHeartbeats 4000000 in
set_option maxRecDepth 100000 in
theorem spec_l07Move.calls (K : Nat) (a0 : Int) (a1_0 : Int) (a1_1 : Int) (a1_2 : Int) (a1_3 : Int) (a1_4 : Int) (a1_5 : Int) (a2_0 : Int) (a2_1 : Int) (r0 : Int) (r1 : Int) (w : World)  (h : spec_l07Move.f K a0 a1_0 a1_1 a1_2 a1_3 a1_4 a1_5 a2_0 a2_1 = some (r0, r1)) :
    Calls Tryd.prog 25 #[.int .i64 a0, .agg #[.int .i64 a1_0, .int .i64 a1_1, .int .i64 a1_2, .int .i64 a1_3, .int .i64 a1_4, .int .i64 a1_5], .agg #[.int .i64 a2_0, .int .i64 a2_1]] w fun e w' => e = .returned (.agg #[.int .i64 r0, .int .i64 r1]) ∧ Up w w' := by
 have H : (((spec_l07Lead.f K a0 a1_0 a1_1 a1_2 a1_3 a1_4 a1_5 a2_0 a2_1).bind fun (t12, t13) => ((spec_l01Plus.f K a0 t12 t13 a1_4 a1_5).bind fun (t15, t16) => some (t15, t16))) : Option (Int × Int)) = some (r0, r1) := h
 clear h
 replace H := Option.bind_eq_some_iff.mp H
 obtain ⟨⟨t12, t13⟩, A14, H⟩ := H
 replace A14 := Aside0.mk A14
 try dsimp only at H
 replace H := Option.bind_eq_some_iff.mp H
 obtain ⟨⟨t15, t16⟩, A17, H⟩ := H
 replace A17 := Aside0.mk A17
 try dsimp only at H
 simp only [Option.some.injEq, Prod.mk.injEq] at H
 obtain ⟨rfl, rfl⟩ := H
 go_enter Tryd.func25, Tryd.ntmps25
 refine wp_hide (fun Qf hQf => ?_)
 refine wp_seq_k (fun K1 hK1 => ?_)
 refine wp_region_lit ?_
 refine step_new (cs := [.int .i64 a1_0, .int .i64 a1_1, .int .i64 a1_2, .int .i64 a1_3, .int .i64 a1_4, .int .i64 a1_5]) (T := 30) (f := fun b => .pointer (some ⟨b, 0, none⟩)) rfl (by first | (go_simp; done) | (go_simp; rfl)) ?_
 intro b2 w3 hu lb hb2
 simp only [Act.put, nm1, nm2, nm3, i64_w]
 have lbb2 := Aside0.mk lb
 have ltb2 := Aside0.mk hb2.lt
 clear lb
 have hu4 := Aside0.mk hu
 clear hu
 refine step_new (cs := [.int .i64 a2_0, .int .i64 a2_1]) (T := 28) (f := fun b => .pointer (some ⟨b, 0, none⟩)) rfl (by first | (go_simp; done) | (go_simp; rfl)) ?_
 intro b5 w6 hu lb hb5
 simp only [Act.put, nm1, nm2, nm3, i64_w]
 have lbb5 := Aside0.mk lb
 have ltb5 := Aside0.mk hb5.lt
 clear lb
 have hu7 := Aside0.mk hu
 clear hu
 refine step_new (cs := [.int .i64 0, .int .i64 0]) (T := 28) (f := fun b => .pointer (some ⟨b, 0, none⟩)) rfl (by first | (go_simp; done) | (go_simp; rfl)) ?_
 intro b8 w9 hu lb hb8
 simp only [Act.put, nm1, nm2, nm3, i64_w]
 have lbb8 := Aside0.mk lb
 have ltb8 := Aside0.mk hb8.lt
 clear lb
 have hu10 := Aside0.mk hu
 clear hu
 refine wpList_nil ?_
 (try simp only [Exit.then, Exit.inBlock, ↓reduceIte, Nat.reduceEqDiff])
 refine hK1 _ _ ?_
 refine wp_seq_k (fun K11 hK11 => ?_)
 refine' wp_region_up 8 [Slot.det _, Slot.det _, Slot.det _, Slot.det _, Slot.det (.agg #[.int .i64 t12, .int .i64 t13]), Slot.det _, Slot.det _, Slot.det (.agg #[.int .i64 t15, .int .i64 t16])] (by kernel_rfl) (by kernel_rfl) ?main
 case main =>
  simp only [List.take_succ_cons, List.take_zero]
  refine wpK_ops rfl (fun w1 hu => ?_) ?_
  · clear hu
    go_simp
    first | done | rfl
  simp only [Act.put, nm1, nm2, nm3, i64_w]
  refine wpK_ops rfl (fun w1 hu => ?_) ?_
  · clear hu
    go_simp
    first | done | rfl
  simp only [Act.put, nm1, nm2, nm3, i64_w]
  refine wpK_ops rfl (fun w1 hu => ?_) ?_
  · have cl0 := ((hb2.up (hu7.out.trans hu10.out)).up ((Up.refl _).drew.trans hu)).cell (o := 0) rfl
    have cl1 := ((hb2.up (hu7.out.trans hu10.out)).up ((Up.refl _).drew.trans hu)).cell (o := 1) rfl
    have cl2 := ((hb2.up (hu7.out.trans hu10.out)).up ((Up.refl _).drew.trans hu)).cell (o := 2) rfl
    have cl3 := ((hb2.up (hu7.out.trans hu10.out)).up ((Up.refl _).drew.trans hu)).cell (o := 3) rfl
    have cl4 := ((hb2.up (hu7.out.trans hu10.out)).up ((Up.refl _).drew.trans hu)).cell (o := 4) rfl
    have cl5 := ((hb2.up (hu7.out.trans hu10.out)).up ((Up.refl _).drew.trans hu)).cell (o := 5) rfl
    go_simp
    first | done | rfl
  simp only [Act.put, nm1, nm2, nm3, i64_w]
  refine wpK_ops rfl (fun w1 hu => ?_) ?_
  · have cl0 := ((hb5.up hu10.out).up ((Up.refl _).drew.trans hu)).cell (o := 0) rfl
    have cl1 := ((hb5.up hu10.out).up ((Up.refl _).drew.trans hu)).cell (o := 1) rfl
    go_simp
    first | done | rfl
  simp only [Act.put, nm1, nm2, nm3, i64_w]
  refine wpK_ops rfl (fun w1 hu => ?_) ?_
  · have hcl := (spec_l07Lead.calls K a0 a1_0 a1_1 a1_2 a1_3 a1_4 a1_5 a2_0 a2_1 t12 t13 w1  A14.out)
    clear hu
    replace hcl := Aside0.mk hcl
    go_simp
    exact hcl.out
  simp only [Act.put, nm1, nm2, nm3, i64_w]
  refine wpK_ops rfl (fun w1 hu => ?_) ?_
  · clear hu
    go_simp
    first | done | rfl
  simp only [Act.put, nm1, nm2, nm3, i64_w]
  refine wpK_ops rfl (fun w1 hu => ?_) ?_
  · have cl0 := ((hb2.up (hu7.out.trans hu10.out)).up ((Up.refl _).drew.trans hu)).cell (o := 4) rfl
    have cl1 := ((hb2.up (hu7.out.trans hu10.out)).up ((Up.refl _).drew.trans hu)).cell (o := 5) rfl
    go_simp
    first | done | rfl
  simp only [Act.put, nm1, nm2, nm3, i64_w]
  refine wpK_ops rfl (fun w1 hu => ?_) ?_
  · have hcl := (spec_l01Plus.calls K a0 t12 t13 a1_4 a1_5 t15 t16 w1  A17.out)
    clear hu
    replace hcl := Aside0.mk hcl
    go_simp
    exact hcl.out
  simp only [Act.put, nm1, nm2, nm3, i64_w]
  refine wpK_nil ?_
  intro w18 hu hap
  simp only [List.drop_succ_cons, List.drop_zero]
  replace hu := (Up.refl _).drew.trans hu
  clear hap
  have hu19 := Aside0.mk hu
  clear hu
  have hB0 := (hb8.up hu19.out)
  have cl0 := hB0.cell (o := 0) rfl
  have fr0 := hB0.free 0
  have cl1 := hB0.cell (o := 1) rfl
  have fr1 := hB0.free 1
  refine step_store (b := b8) (cs' := [.int .i64 t15, .int .i64 t16]) (T := 28) (W' := ((w18.setCell ⟨b8, 0, none⟩ (.int .i64 t15)).setCell ⟨b8, 1, none⟩ (.int .i64 t16))) rfl rfl (by first | (go_simp; done) | (go_simp; rfl)) (((Sto.refl _ _).setCell 0 _).setCell 1 _) (((hB0).setCell 0 _).setCell 1 _) ?_
  clear hB0 cl0 fr0 cl1 fr1
  intro w20 hs hb22
  have hs21 := Aside0.mk hs
  clear hs
  refine wpList_nil ?_
  (try simp only [Exit.then, Exit.inBlock, ↓reduceIte, Nat.reduceEqDiff])
  refine hK11 _ _ ?_
  refine wp_ret ?_
  (try simp only [Exit.then, Exit.inBlock, ↓reduceIte, Nat.reduceEqDiff])
  refine hQf _ _ _ ?_
  have cr0 := hb22.cell (o := 0) rfl
  have cr1 := hb22.cell (o := 1) rfl
  exact bodyPost_ret (v := .agg #[.int .i64 t15, .int .i64 t16]) (by first | rfl | (simp [results, Tryd.results25, go_sem, cr0, cr1]; done) | (simp [results, Tryd.results25, go_sem, cr0, cr1]; rfl)) rfl ⟨rfl, ((((hu4.out.trans hu7.out).trans hu10.out).trans hu19.out).sto (Nat.le_trans ((Nat.le_trans (hu4.out.size) hu7.out.size)) lbb8.out) hs21.out)⟩

set_option maxHeartbeats 4000000 in
set_option maxRecDepth 100000 in
theorem spec_l07Times.calls (K : Nat) (a0 : Int) (a1_0 : Int) (a1_1 : Int) (a1_2 : Int) (a1_3 : Int) (a1_4 : Int) (a1_5 : Int) (a2_0 : Int) (a2_1 : Int) (a2_2 : Int) (a2_3 : Int) (a2_4 : Int) (a2_5 : Int) (r0 : Int) (r1 : Int) (r2 : Int) (r3 : Int) (r4 : Int) (r5 : Int) (w : World)  (h : spec_l07Times.f K a0 a1_0 a1_1 a1_2 a1_3 a1_4 a1_5 a2_0 a2_1 a2_2 a2_3 a2_4 a2_5 = some (r0, r1, r2, r3, r4, r5)) :
    Calls Tryd.prog 11 #[.int .i64 a0, .agg #[.int .i64 a1_0, .int .i64 a1_1, .int .i64 a1_2, .int .i64 a1_3, .int .i64 a1_4, .int .i64 a1_5], .agg #[.int .i64 a2_0, .int .i64 a2_1, .int .i64 a2_2, .int .i64 a2_3, .int .i64 a2_4, .int .i64 a2_5]] w fun e w' => e = .returned (.agg #[.int .i64 r0, .int .i64 r1, .int .i64 r2, .int .i64 r3, .int .i64 r4, .int .i64 r5]) ∧ Up w w' := by
 have H : (((spec_l07Lead.f K a0 a1_0 a1_1 a1_2 a1_3 a1_4 a1_5 1 0).bind fun (t12, t13) => ((spec_l07Lead.f K a0 a2_0 a2_1 a2_2 a2_3 a2_4 a2_5 t12 t13).bind fun (t15, t16) => ((spec_l07Lead.f K a0 a1_0 a1_1 a1_2 a1_3 a1_4 a1_5 0 1).bind fun (t18, t19) => ((spec_l07Lead.f K a0 a2_0 a2_1 a2_2 a2_3 a2_4 a2_5 t18 t19).bind fun (t21, t22) => ((spec_l07Move.f K a0 a2_0 a2_1 a2_2 a2_3 a2_4 a2_5 a1_4 a1_5).bind fun (t40, t41) => some (t15, t21, t16, t22, t40, t41)))))) : Option (Int × Int × Int × Int × Int × Int)) = some (r0, r1, r2, r3, r4, r5) := h
 clear h
 replace H := Option.bind_eq_some_iff.mp H
 obtain ⟨⟨t12, t13⟩, A14, H⟩ := H
 replace A14 := Aside0.mk A14
 try dsimp only at H
 replace H := Option.bind_eq_some_iff.mp H
 obtain ⟨⟨t15, t16⟩, A17, H⟩ := H
 replace A17 := Aside0.mk A17
 try dsimp only at H
 replace H := Option.bind_eq_some_iff.mp H
 obtain ⟨⟨t18, t19⟩, A20, H⟩ := H
 replace A20 := Aside0.mk A20
 try dsimp only at H
 replace H := Option.bind_eq_some_iff.mp H
 obtain ⟨⟨t21, t22⟩, A23, H⟩ := H
 replace A23 := Aside0.mk A23
 try dsimp only at H
 replace H := Option.bind_eq_some_iff.mp H
 obtain ⟨⟨t40, t41⟩, A42, H⟩ := H
 replace A42 := Aside0.mk A42
 try dsimp only at H
 simp only [Option.some.injEq, Prod.mk.injEq] at H
 obtain ⟨rfl, rfl, rfl, rfl, rfl, rfl⟩ := H
 go_enter Tryd.func11, Tryd.ntmps11
 refine wp_hide (fun Qf hQf => ?_)
 refine wp_seq_k (fun K1 hK1 => ?_)
 refine wp_region_lit ?_
 refine step_new (cs := [.int .i64 a1_0, .int .i64 a1_1, .int .i64 a1_2, .int .i64 a1_3, .int .i64 a1_4, .int .i64 a1_5]) (T := 30) (f := fun b => .pointer (some ⟨b, 0, none⟩)) rfl (by first | (go_simp; done) | (go_simp; rfl)) ?_
 intro b2 w3 hu lb hb2
 simp only [Act.put, nm1, nm2, nm3, i64_w]
 have lbb2 := Aside0.mk lb
 have ltb2 := Aside0.mk hb2.lt
 clear lb
 have hu4 := Aside0.mk hu
 clear hu
 refine step_new (cs := [.int .i64 a2_0, .int .i64 a2_1, .int .i64 a2_2, .int .i64 a2_3, .int .i64 a2_4, .int .i64 a2_5]) (T := 30) (f := fun b => .pointer (some ⟨b, 0, none⟩)) rfl (by first | (go_simp; done) | (go_simp; rfl)) ?_
 intro b5 w6 hu lb hb5
 simp only [Act.put, nm1, nm2, nm3, i64_w]
 have lbb5 := Aside0.mk lb
 have ltb5 := Aside0.mk hb5.lt
 clear lb
 have hu7 := Aside0.mk hu
 clear hu
 refine step_new (cs := [.int .i64 0, .int .i64 0, .int .i64 0, .int .i64 0, .int .i64 0, .int .i64 0]) (T := 30) (f := fun b => .pointer (some ⟨b, 0, none⟩)) rfl (by first | (go_simp; done) | (go_simp; rfl)) ?_
 intro b8 w9 hu lb hb8
 simp only [Act.put, nm1, nm2, nm3, i64_w]
 have lbb8 := Aside0.mk lb
 have ltb8 := Aside0.mk hb8.lt
 clear lb
 have hu10 := Aside0.mk hu
 clear hu
 refine wpList_nil ?_
 (try simp only [Exit.then, Exit.inBlock, ↓reduceIte, Nat.reduceEqDiff])
 refine hK1 _ _ ?_
 refine wp_seq_k (fun K11 hK11 => ?_)
 refine' wp_region_up 16 [Slot.det _, Slot.det _, Slot.det _, Slot.det _, Slot.det _, Slot.det (.agg #[.int .i64 t12, .int .i64 t13]), Slot.det (.agg #[.int .i64 t15, .int .i64 t16]), Slot.det _, Slot.det _, Slot.det _, Slot.det _, Slot.det _, Slot.det (.agg #[.int .i64 t18, .int .i64 t19]), Slot.det (.agg #[.int .i64 t21, .int .i64 t22]), Slot.any (PtrTo [.int .i64 0, .int .i64 0] 28) true, Slot.any (PtrTo [.int .i64 0, .int .i64 0] 28) true] (by kernel_rfl) (by kernel_rfl) ?main
 case main =>
  simp only [List.take_succ_cons, List.take_zero]
  refine wpK_ops rfl (fun w1 hu => ?_) ?_
  · clear hu
    go_simp
    first | done | rfl
  simp only [Act.put, nm1, nm2, nm3, i64_w]
  refine wpK_ops rfl (fun w1 hu => ?_) ?_
  · have cl0 := ((hb5.up hu10.out).up ((Up.refl _).drew.trans hu)).cell (o := 0) rfl
    have cl1 := ((hb5.up hu10.out).up ((Up.refl _).drew.trans hu)).cell (o := 1) rfl
    have cl2 := ((hb5.up hu10.out).up ((Up.refl _).drew.trans hu)).cell (o := 2) rfl
    have cl3 := ((hb5.up hu10.out).up ((Up.refl _).drew.trans hu)).cell (o := 3) rfl
    have cl4 := ((hb5.up hu10.out).up ((Up.refl _).drew.trans hu)).cell (o := 4) rfl
    have cl5 := ((hb5.up hu10.out).up ((Up.refl _).drew.trans hu)).cell (o := 5) rfl
    go_simp
    first | done | rfl
  simp only [Act.put, nm1, nm2, nm3, i64_w]
  refine wpK_ops rfl (fun w1 hu => ?_) ?_
  · clear hu
    go_simp
    first | done | rfl
  simp only [Act.put, nm1, nm2, nm3, i64_w]
  refine wpK_ops rfl (fun w1 hu => ?_) ?_
  · have cl0 := ((hb2.up (hu7.out.trans hu10.out)).up ((Up.refl _).drew.trans hu)).cell (o := 0) rfl
    have cl1 := ((hb2.up (hu7.out.trans hu10.out)).up ((Up.refl _).drew.trans hu)).cell (o := 1) rfl
    have cl2 := ((hb2.up (hu7.out.trans hu10.out)).up ((Up.refl _).drew.trans hu)).cell (o := 2) rfl
    have cl3 := ((hb2.up (hu7.out.trans hu10.out)).up ((Up.refl _).drew.trans hu)).cell (o := 3) rfl
    have cl4 := ((hb2.up (hu7.out.trans hu10.out)).up ((Up.refl _).drew.trans hu)).cell (o := 4) rfl
    have cl5 := ((hb2.up (hu7.out.trans hu10.out)).up ((Up.refl _).drew.trans hu)).cell (o := 5) rfl
    go_simp
    first | done | rfl
  simp only [Act.put, nm1, nm2, nm3, i64_w]
  refine wpK_ops rfl (fun w1 hu => ?_) ?_
  · clear hu
    go_simp
    first | done | rfl
  simp only [Act.put, nm1, nm2, nm3, i64_w]
  refine wpK_ops rfl (fun w1 hu => ?_) ?_
  · have hcl := (spec_l07Lead.calls K a0 a1_0 a1_1 a1_2 a1_3 a1_4 a1_5 1 0 t12 t13 w1  A14.out)
    clear hu
    replace hcl := Aside0.mk hcl
    go_simp
    exact hcl.out
  simp only [Act.put, nm1, nm2, nm3, i64_w]
  refine wpK_ops rfl (fun w1 hu => ?_) ?_
  · have hcl := (spec_l07Lead.calls K a0 a2_0 a2_1 a2_2 a2_3 a2_4 a2_5 t12 t13 t15 t16 w1  A17.out)
    clear hu
    replace hcl := Aside0.mk hcl
    go_simp
    exact hcl.out
  simp only [Act.put, nm1, nm2, nm3, i64_w]
  refine wpK_ops rfl (fun w1 hu => ?_) ?_
  · clear hu
    go_simp
    first | done | rfl
  simp only [Act.put, nm1, nm2, nm3, i64_w]
  refine wpK_ops rfl (fun w1 hu => ?_) ?_
  · have cl0 := ((hb5.up hu10.out).up ((Up.refl _).drew.trans hu)).cell (o := 0) rfl
    have cl1 := ((hb5.up hu10.out).up ((Up.refl _).drew.trans hu)).cell (o := 1) rfl
    have cl2 := ((hb5.up hu10.out).up ((Up.refl _).drew.trans hu)).cell (o := 2) rfl
    have cl3 := ((hb5.up hu10.out).up ((Up.refl _).drew.trans hu)).cell (o := 3) rfl
    have cl4 := ((hb5.up hu10.out).up ((Up.refl _).drew.trans hu)).cell (o := 4) rfl
    have cl5 := ((hb5.up hu10.out).up ((Up.refl _).drew.trans hu)).cell (o := 5) rfl
    go_simp
    first | done | rfl
  simp only [Act.put, nm1, nm2, nm3, i64_w]
  refine wpK_ops rfl (fun w1 hu => ?_) ?_
  · clear hu
    go_simp
    first | done | rfl
  simp only [Act.put, nm1, nm2, nm3, i64_w]
  refine wpK_ops rfl (fun w1 hu => ?_) ?_
  · have cl0 := ((hb2.up (hu7.out.trans hu10.out)).up ((Up.refl _).drew.trans hu)).cell (o := 0) rfl
    have cl1 := ((hb2.up (hu7.out.trans hu10.out)).up ((Up.refl _).drew.trans hu)).cell (o := 1) rfl
    have cl2 := ((hb2.up (hu7.out.trans hu10.out)).up ((Up.refl _).drew.trans hu)).cell (o := 2) rfl
    have cl3 := ((hb2.up (hu7.out.trans hu10.out)).up ((Up.refl _).drew.trans hu)).cell (o := 3) rfl
    have cl4 := ((hb2.up (hu7.out.trans hu10.out)).up ((Up.refl _).drew.trans hu)).cell (o := 4) rfl
    have cl5 := ((hb2.up (hu7.out.trans hu10.out)).up ((Up.refl _).drew.trans hu)).cell (o := 5) rfl
    go_simp
    first | done | rfl
  simp only [Act.put, nm1, nm2, nm3, i64_w]
  refine wpK_ops rfl (fun w1 hu => ?_) ?_
  · clear hu
    go_simp
    first | done | rfl
  simp only [Act.put, nm1, nm2, nm3, i64_w]
  refine wpK_ops rfl (fun w1 hu => ?_) ?_
  · have hcl := (spec_l07Lead.calls K a0 a1_0 a1_1 a1_2 a1_3 a1_4 a1_5 0 1 t18 t19 w1  A20.out)
    clear hu
    replace hcl := Aside0.mk hcl
    go_simp
    exact hcl.out
  simp only [Act.put, nm1, nm2, nm3, i64_w]
  refine wpK_ops rfl (fun w1 hu => ?_) ?_
  · have hcl := (spec_l07Lead.calls K a0 a2_0 a2_1 a2_2 a2_3 a2_4 a2_5 t18 t19 t21 t22 w1  A23.out)
    clear hu
    replace hcl := Aside0.mk hcl
    go_simp
    exact hcl.out
  simp only [Act.put, nm1, nm2, nm3, i64_w]
  refine wpK_any rfl (stab_ptr _ _) (fun w1 _ _ => fresh_ptr (by first | (go_simp; done) | (go_simp; rfl))) (fun v24 => ?_)
  simp only [Act.put, nm1, nm2, nm3, i64_w]
  refine wpK_any rfl (stab_ptr _ _) (fun w1 _ _ => fresh_ptr (by first | (go_simp; done) | (go_simp; rfl))) (fun v26 => ?_)
  simp only [Act.put, nm1, nm2, nm3, i64_w]
  refine wpK_nil ?_
  intro w28 hu hap
  simp only [List.drop_succ_cons, List.drop_zero]
  replace hu := (Up.refl _).drew.trans hu
  obtain ⟨hf0, hn0, ⟨b27, e0, hb27⟩, hf1, hn1, ⟨b25, e1, hb25⟩, -⟩ := hap
  have lbb27 := Aside0.mk (hf0 rfl b27 (by rw [e0]; rfl)).1
  have ltb27 := Aside0.mk hb27.lt
  have lbb25 := Aside0.mk (hf1 rfl b25 (by rw [e1]; rfl)).1
  have ltb25 := Aside0.mk hb25.lt
  have ne29 := Aside0.mk (hn0 _ (.head _) rfl rfl b27 b25 (by rw [e0]; rfl) (by rw [e1]; rfl)).symm
  dsimp only at e0 e1
  subst e0 e1
  clear hf0 hn0 hf1 hn1
  have hu30 := Aside0.mk hu
  clear hu
  have hB0 := hb25
  have cl0 := hB0.cell (o := 0) rfl
  have fr0 := hB0.free 0
  have cl1 := hB0.cell (o := 1) rfl
  have fr1 := hB0.free 1
  refine step_store (b := b25) (cs' := [.int .i64 t15, .int .i64 t16]) (T := 28) (W' := ((w28.setCell ⟨b25, 0, none⟩ (.int .i64 t15)).setCell ⟨b25, 1, none⟩ (.int .i64 t16))) rfl rfl (by first | (go_simp; done) | (go_simp; rfl)) (((Sto.refl _ _).setCell 0 _).setCell 1 _) (((hB0).setCell 0 _).setCell 1 _) ?_
  clear hB0 cl0 fr0 cl1 fr1
  intro w31 hs hb33
  have hs32 := Aside0.mk hs
  clear hs
  have h34 := hb27.sto hs32.out (Ne.symm (ne29.out))
  have hB0 := h34
  have cl0 := hB0.cell (o := 0) rfl
  have fr0 := hB0.free 0
  have cl1 := hB0.cell (o := 1) rfl
  have fr1 := hB0.free 1
  refine step_store (b := b27) (cs' := [.int .i64 t21, .int .i64 t22]) (T := 28) (W' := ((w31.setCell ⟨b27, 0, none⟩ (.int .i64 t21)).setCell ⟨b27, 1, none⟩ (.int .i64 t22))) rfl rfl (by first | (go_simp; done) | (go_simp; rfl)) (((Sto.refl _ _).setCell 0 _).setCell 1 _) (((hB0).setCell 0 _).setCell 1 _) ?_
  clear hB0 cl0 fr0 cl1 fr1
  intro w35 hs hb37
  have hs36 := Aside0.mk hs
  clear hs
  have h38 := hb33.sto hs36.out ne29.out
  refine wpList_nil ?_
  (try simp only [Exit.then, Exit.inBlock, ↓reduceIte, Nat.reduceEqDiff])
  refine hK11 _ _ ?_
  refine wp_seq_k (fun K39 hK39 => ?_)
  refine' wp_region_up 15 [Slot.det _, Slot.det _, Slot.det _, Slot.det _, Slot.det _, Slot.det _, Slot.det _, Slot.det _, Slot.det _, Slot.det _, Slot.det _, Slot.det _, Slot.det _, Slot.det (.agg #[.int .i64 t40, .int .i64 t41]), Slot.det _] (by kernel_rfl) (by kernel_rfl) ?main
  case main =>
   simp only [List.take_succ_cons, List.take_zero]
   refine wpK_ops rfl (fun w1 hu => ?_) ?_
   · clear hu
     go_simp
     first | done | rfl
   simp only [Act.put, nm1, nm2, nm3, i64_w]
   refine wpK_ops rfl (fun w1 hu => ?_) ?_
   · have cl0 := (h38.up ((Up.refl _).drew.trans hu)).cell (o := 0) rfl
     go_simp
     first | done | rfl
   simp only [Act.put, nm1, nm2, nm3, i64_w]
   refine wpK_ops rfl (fun w1 hu => ?_) ?_
   · clear hu
     go_simp
     first | done | rfl
   simp only [Act.put, nm1, nm2, nm3, i64_w]
   refine wpK_ops rfl (fun w1 hu => ?_) ?_
   · have cl0 := (hb37.up ((Up.refl _).drew.trans hu)).cell (o := 0) rfl
     go_simp
     first | done | rfl
   simp only [Act.put, nm1, nm2, nm3, i64_w]
   refine wpK_ops rfl (fun w1 hu => ?_) ?_
   · clear hu
     go_simp
     first | done | rfl
   simp only [Act.put, nm1, nm2, nm3, i64_w]
   refine wpK_ops rfl (fun w1 hu => ?_) ?_
   · have cl0 := (h38.up ((Up.refl _).drew.trans hu)).cell (o := 1) rfl
     go_simp
     first | done | rfl
   simp only [Act.put, nm1, nm2, nm3, i64_w]
   refine wpK_ops rfl (fun w1 hu => ?_) ?_
   · clear hu
     go_simp
     first | done | rfl
   simp only [Act.put, nm1, nm2, nm3, i64_w]
   refine wpK_ops rfl (fun w1 hu => ?_) ?_
   · have cl0 := (hb37.up ((Up.refl _).drew.trans hu)).cell (o := 1) rfl
     go_simp
     first | done | rfl
   simp only [Act.put, nm1, nm2, nm3, i64_w]
   refine wpK_ops rfl (fun w1 hu => ?_) ?_
   · clear hu
     go_simp
     first | done | rfl
   simp only [Act.put, nm1, nm2, nm3, i64_w]
   refine wpK_ops rfl (fun w1 hu => ?_) ?_
   · clear hu
     go_simp
     first | done | rfl
   simp only [Act.put, nm1, nm2, nm3, i64_w]
   refine wpK_ops rfl (fun w1 hu => ?_) ?_
   · have cl0 := ((hb5.up (((hu10.out.trans hu30.out).sto (Nat.le_trans (hu10.out.size) lbb25.out) hs32.out).sto (Nat.le_trans (hu10.out.size) lbb27.out) hs36.out)).up ((Up.refl _).drew.trans hu)).cell (o := 0) rfl
     have cl1 := ((hb5.up (((hu10.out.trans hu30.out).sto (Nat.le_trans (hu10.out.size) lbb25.out) hs32.out).sto (Nat.le_trans (hu10.out.size) lbb27.out) hs36.out)).up ((Up.refl _).drew.trans hu)).cell (o := 1) rfl
     have cl2 := ((hb5.up (((hu10.out.trans hu30.out).sto (Nat.le_trans (hu10.out.size) lbb25.out) hs32.out).sto (Nat.le_trans (hu10.out.size) lbb27.out) hs36.out)).up ((Up.refl _).drew.trans hu)).cell (o := 2) rfl
     have cl3 := ((hb5.up (((hu10.out.trans hu30.out).sto (Nat.le_trans (hu10.out.size) lbb25.out) hs32.out).sto (Nat.le_trans (hu10.out.size) lbb27.out) hs36.out)).up ((Up.refl _).drew.trans hu)).cell (o := 3) rfl
     have cl4 := ((hb5.up (((hu10.out.trans hu30.out).sto (Nat.le_trans (hu10.out.size) lbb25.out) hs32.out).sto (Nat.le_trans (hu10.out.size) lbb27.out) hs36.out)).up ((Up.refl _).drew.trans hu)).cell (o := 4) rfl
     have cl5 := ((hb5.up (((hu10.out.trans hu30.out).sto (Nat.le_trans (hu10.out.size) lbb25.out) hs32.out).sto (Nat.le_trans (hu10.out.size) lbb27.out) hs36.out)).up ((Up.refl _).drew.trans hu)).cell (o := 5) rfl
     go_simp
     first | done | rfl
   simp only [Act.put, nm1, nm2, nm3, i64_w]
   refine wpK_ops rfl (fun w1 hu => ?_) ?_
   · clear hu
     go_simp
     first | done | rfl
   simp only [Act.put, nm1, nm2, nm3, i64_w]
   refine wpK_ops rfl (fun w1 hu => ?_) ?_
   · have cl0 := ((hb2.up ((((hu7.out.trans hu10.out).trans hu30.out).sto (Nat.le_trans ((Nat.le_trans (hu7.out.size) hu10.out.size)) lbb25.out) hs32.out).sto (Nat.le_trans ((Nat.le_trans (hu7.out.size) hu10.out.size)) lbb27.out) hs36.out)).up ((Up.refl _).drew.trans hu)).cell (o := 4) rfl
     have cl1 := ((hb2.up ((((hu7.out.trans hu10.out).trans hu30.out).sto (Nat.le_trans ((Nat.le_trans (hu7.out.size) hu10.out.size)) lbb25.out) hs32.out).sto (Nat.le_trans ((Nat.le_trans (hu7.out.size) hu10.out.size)) lbb27.out) hs36.out)).up ((Up.refl _).drew.trans hu)).cell (o := 5) rfl
     go_simp
     first | done | rfl
   simp only [Act.put, nm1, nm2, nm3, i64_w]
   refine wpK_ops rfl (fun w1 hu => ?_) ?_
   · have hcl := (spec_l07Move.calls K a0 a2_0 a2_1 a2_2 a2_3 a2_4 a2_5 a1_4 a1_5 t40 t41 w1  A42.out)
     clear hu
     replace hcl := Aside0.mk hcl
     go_simp
     exact hcl.out
   simp only [Act.put, nm1, nm2, nm3, i64_w]
   refine wpK_ops rfl (fun w1 hu => ?_) ?_
   · clear hu
     go_simp
     first | done | rfl
   simp only [Act.put, nm1, nm2, nm3, i64_w]
   refine wpK_nil ?_
   intro w43 hu hap
   simp only [List.drop_succ_cons, List.drop_zero]
   replace hu := (Up.refl _).drew.trans hu
   clear hap
   have hu44 := Aside0.mk hu
   clear hu
   have hB0 := (hb8.up (((hu30.out.sto (Nat.le_trans (Nat.le_refl _) lbb25.out) hs32.out).sto (Nat.le_trans (Nat.le_refl _) lbb27.out) hs36.out).trans hu44.out))
   have cl0 := hB0.cell (o := 0) rfl
   have fr0 := hB0.free 0
   have cl1 := hB0.cell (o := 1) rfl
   have fr1 := hB0.free 1
   have cl2 := hB0.cell (o := 2) rfl
   have fr2 := hB0.free 2
   have cl3 := hB0.cell (o := 3) rfl
   have fr3 := hB0.free 3
   have cl4 := hB0.cell (o := 4) rfl
   have fr4 := hB0.free 4
   have cl5 := hB0.cell (o := 5) rfl
   have fr5 := hB0.free 5
   refine step_store (b := b8) (cs' := [.int .i64 t15, .int .i64 t21, .int .i64 t16, .int .i64 t22, .int .i64 t40, .int .i64 t41]) (T := 30) (W' := ((((((w43.setCell ⟨b8, 0, none⟩ (.int .i64 t15)).setCell ⟨b8, 1, none⟩ (.int .i64 t21)).setCell ⟨b8, 2, none⟩ (.int .i64 t16)).setCell ⟨b8, 3, none⟩ (.int .i64 t22)).setCell ⟨b8, 4, none⟩ (.int .i64 t40)).setCell ⟨b8, 5, none⟩ (.int .i64 t41))) rfl rfl (by first | (go_simp; done) | (go_simp; rfl)) (((((((Sto.refl _ _).setCell 0 _).setCell 1 _).setCell 2 _).setCell 3 _).setCell 4 _).setCell 5 _) (((((((hB0).setCell 0 _).setCell 1 _).setCell 2 _).setCell 3 _).setCell 4 _).setCell 5 _) ?_
   clear hB0 cl0 fr0 cl1 fr1 cl2 fr2 cl3 fr3 cl4 fr4 cl5 fr5
   intro w45 hs hb47
   have hs46 := Aside0.mk hs
   clear hs
   have h48 := (h38.up hu44.out).sto hs46.out (Ne.symm (Nat.ne_of_lt (Nat.lt_of_lt_of_le ltb8.out lbb25.out)))
   have h49 := (hb37.up hu44.out).sto hs46.out (Ne.symm (Nat.ne_of_lt (Nat.lt_of_lt_of_le ltb8.out lbb27.out)))
   refine wpList_nil ?_
   (try simp only [Exit.then, Exit.inBlock, ↓reduceIte, Nat.reduceEqDiff])
   refine hK39 _ _ ?_
   refine wp_ret ?_
   (try simp only [Exit.then, Exit.inBlock, ↓reduceIte, Nat.reduceEqDiff])
   refine hQf _ _ _ ?_
   have cr0 := hb47.cell (o := 0) rfl
   have cr1 := hb47.cell (o := 1) rfl
   have cr2 := hb47.cell (o := 2) rfl
   have cr3 := hb47.cell (o := 3) rfl
   have cr4 := hb47.cell (o := 4) rfl
   have cr5 := hb47.cell (o := 5) rfl
   exact bodyPost_ret (v := .agg #[.int .i64 t15, .int .i64 t21, .int .i64 t16, .int .i64 t22, .int .i64 t40, .int .i64 t41]) (by first | rfl | (simp [results, Tryd.results11, go_sem, cr0, cr1, cr2, cr3, cr4, cr5]; done) | (simp [results, Tryd.results11, go_sem, cr0, cr1, cr2, cr3, cr4, cr5]; rfl)) rfl ⟨rfl, (((((((hu4.out.trans hu7.out).trans hu10.out).trans hu30.out).sto (Nat.le_trans ((Nat.le_trans ((Nat.le_trans (hu4.out.size) hu7.out.size)) hu10.out.size)) lbb25.out) hs32.out).sto (Nat.le_trans ((Nat.le_trans ((Nat.le_trans (hu4.out.size) hu7.out.size)) hu10.out.size)) lbb27.out) hs36.out).trans hu44.out).sto (Nat.le_trans ((Nat.le_trans (hu4.out.size) hu7.out.size)) lbb8.out) hs46.out)⟩

set_option maxHeartbeats 4000000 in
set_option maxRecDepth 100000 in
theorem spec_OrderOfMove.calls (K : Nat) (a0 : Int) (a1 : Int) (a2_0 : Int) (a2_1 : Int) (a2_2 : Int) (a2_3 : Int) (a2_4 : Int) (a2_5 : Int) (r0 : Int) (r1 : Int) (w : World)  (h : spec_OrderOfMove.f K a0 a1 a2_0 a2_1 a2_2 a2_3 a2_4 a2_5 = some (r0, r1)) :
    Calls Tryd.prog 5 #[.int .i64 a0, .int .i64 a1, .agg #[.int .i64 a2_0, .int .i64 a2_1, .int .i64 a2_2, .int .i64 a2_3, .int .i64 a2_4, .int .i64 a2_5]] w fun e w' => e = .returned (.tuple #[.int .i64 r0, .int .i64 r1]) ∧ Up w w' := by
 have H : (((spec_l07Code.f K a0 a1 a2_0 a2_1 a2_2 a2_3 a2_4 a2_5).bind fun t7 => (if (t7 == 0) = true then (spec_OrderOfMove.l0 K a0 a2_0 a2_1 a2_2 a2_3 a2_4 a2_5 K 1 a2_0 a2_1 a2_2 a2_3 a2_4 a2_5) else some (0, t7))) : Option (Int × Int)) = some (r0, r1) := h
 clear h
 replace H := Option.bind_eq_some_iff.mp H
 obtain ⟨t7, A8, H⟩ := H
 replace A8 := Aside0.mk A8
 try dsimp only at H
 by_cases c12 : (t7 == 0) = true
 ·
  rw [if_pos c12] at H
  have c12n : (t7 != 0) = false := by rw [bne, c12]; rfl
  go_enter Tryd.func5, Tryd.ntmps5
  refine wp_hide (fun Qf hQf => ?_)
  refine wp_seq_k (fun K1 hK1 => ?_)
  refine wp_region_lit ?_
  refine step_new (cs := [.int .i64 a2_0, .int .i64 a2_1, .int .i64 a2_2, .int .i64 a2_3, .int .i64 a2_4, .int .i64 a2_5]) (T := 30) (f := fun b => .pointer (some ⟨b, 0, none⟩)) rfl (by first | (go_simp; done) | (go_simp; rfl)) ?_
  intro b2 w3 hu lb hb2
  simp only [Act.put, nm1, nm2, nm3, i64_w]
  have lbb2 := Aside0.mk lb
  have ltb2 := Aside0.mk hb2.lt
  clear lb
  have hu4 := Aside0.mk hu
  clear hu
  refine wpList_plain rfl (fun Ko hKo => ?_)
  go_simp
  refine hKo _ _ ?_
  clear hKo Ko
  try simp only [Act.put, nm1, nm2, nm3, i64_w]
  refine wpList_plain rfl (fun Ko hKo => ?_)
  go_simp
  refine hKo _ _ ?_
  clear hKo Ko
  try simp only [Act.put, nm1, nm2, nm3, i64_w]
  refine wpList_nil ?_
  (try simp only [Exit.then, Exit.inBlock, ↓reduceIte, Nat.reduceEqDiff])
  refine hK1 _ _ ?_
  refine wp_seq_k (fun K5 hK5 => ?_)
  refine wp_seq_k (fun K6 hK6 => ?_)
  refine wp_region_lit ?_
  refine wpList_plain rfl (fun Ko hKo => ?_)
  go_simp
  refine hKo _ _ ?_
  clear hKo Ko
  try simp only [Act.put, nm1, nm2, nm3, i64_w]
  refine wpList_plain rfl (fun Ko hKo => ?_)
  go_simp
  refine hKo _ _ ?_
  clear hKo Ko
  try simp only [Act.put, nm1, nm2, nm3, i64_w]
  have cl0 := hb2.cell (o := 0) rfl
  have cl1 := hb2.cell (o := 1) rfl
  have cl2 := hb2.cell (o := 2) rfl
  have cl3 := hb2.cell (o := 3) rfl
  have cl4 := hb2.cell (o := 4) rfl
  have cl5 := hb2.cell (o := 5) rfl
  refine wpList_plain rfl (fun Ko hKo => ?_)
  go_simp
  refine hKo _ _ ?_
  clear hKo Ko
  clear cl0 cl1 cl2 cl3 cl4 cl5
  try simp only [Act.put, nm1, nm2, nm3, i64_w]
  refine step_call (wanted_none rfl) (by first | (go_simp; done) | (go_simp; rfl)) (spec_l07Code.calls K a0 a1 a2_0 a2_1 a2_2 a2_3 a2_4 a2_5 t7 w3  A8.out) ?_
  rintro e w9 ⟨rfl, hu⟩
  have hu10 := Aside0.mk hu
  clear hu
  refine ⟨_, rfl, ?_⟩
  simp only [Act.put, nm1, nm2, nm3, i64_w]
  refine wpList_plain rfl (fun Ko hKo => ?_)
  go_simp
  refine hKo _ _ ?_
  clear hKo Ko
  try simp only [Act.put, nm1, nm2, nm3, i64_w]
  refine wpList_nil ?_
  (try simp only [Exit.then, Exit.inBlock, ↓reduceIte, Nat.reduceEqDiff])
  refine hK6 _ _ ?_
  refine wp_seq_k (fun K11 hK11 => ?_)
  refine wp_region_lit ?_
  refine wpList_plain rfl (fun Ko hKo => ?_)
  go_simp
  refine hKo _ _ ?_
  clear hKo Ko
  try simp only [Act.put, nm1, nm2, nm3, i64_w]
  refine wpList_plain rfl (fun Ko hKo => ?_)
  go_simp
  refine hKo _ _ ?_
  clear hKo Ko
  try simp only [Act.put, nm1, nm2, nm3, i64_w]
  refine wpList_nil ?_
  (try simp only [Exit.then, Exit.inBlock, ↓reduceIte, Nat.reduceEqDiff])
  refine hK11 _ _ ?_
  refine wp_cond_false rfl ?_
  refine wp_skip ?_
  (try simp only [Exit.then, Exit.inBlock, ↓reduceIte, Nat.reduceEqDiff])
  refine hK5 _ _ ?_
  refine wp_seq_k (fun K13 hK13 => ?_)
  refine wp_region_lit ?_
  refine wpList_plain rfl (fun Ko hKo => ?_)
  go_simp
  refine hKo _ _ ?_
  clear hKo Ko
  try simp only [Act.put, nm1, nm2, nm3, i64_w]
  refine wpList_plain rfl (fun Ko hKo => ?_)
  go_simp
  refine hKo _ _ ?_
  clear hKo Ko
  try simp only [Act.put, nm1, nm2, nm3, i64_w]
  refine step_new (cs := [.int .i64 0, .int .i64 0, .int .i64 0, .int .i64 0, .int .i64 0, .int .i64 0]) (T := 30) (f := fun b => .pointer (some ⟨b, 0, none⟩)) rfl (by first | (go_simp; done) | (go_simp; rfl)) ?_
  intro b14 w15 hu lb hb14
  simp only [Act.put, nm1, nm2, nm3, i64_w]
  have lbb14 := Aside0.mk lb
  have ltb14 := Aside0.mk hb14.lt
  clear lb
  have hu16 := Aside0.mk hu
  clear hu
  refine wpList_plain rfl (fun Ko hKo => ?_)
  go_simp
  refine hKo _ _ ?_
  clear hKo Ko
  try simp only [Act.put, nm1, nm2, nm3, i64_w]
  have hB0 := hb14
  have cl0 := hB0.cell (o := 0) rfl
  have fr0 := hB0.free 0
  have cl1 := hB0.cell (o := 1) rfl
  have fr1 := hB0.free 1
  have cl2 := hB0.cell (o := 2) rfl
  have fr2 := hB0.free 2
  have cl3 := hB0.cell (o := 3) rfl
  have fr3 := hB0.free 3
  have cl4 := hB0.cell (o := 4) rfl
  have fr4 := hB0.free 4
  have cl5 := hB0.cell (o := 5) rfl
  have fr5 := hB0.free 5
  refine step_store (b := b14) (cs' := [.int .i64 1, .int .i64 0, .int .i64 0, .int .i64 1, .int .i64 0, .int .i64 0]) (T := 30) (W' := ((((((w15.setCell ⟨b14, 0, none⟩ (.int .i64 1)).setCell ⟨b14, 1, none⟩ (.int .i64 0)).setCell ⟨b14, 2, none⟩ (.int .i64 0)).setCell ⟨b14, 3, none⟩ (.int .i64 1)).setCell ⟨b14, 4, none⟩ (.int .i64 0)).setCell ⟨b14, 5, none⟩ (.int .i64 0))) rfl rfl (by first | (go_simp; done) | (go_simp; rfl)) (((((((Sto.refl _ _).setCell 0 _).setCell 1 _).setCell 2 _).setCell 3 _).setCell 4 _).setCell 5 _) (((((((hB0).setCell 0 _).setCell 1 _).setCell 2 _).setCell 3 _).setCell 4 _).setCell 5 _) ?_
  clear hB0 cl0 fr0 cl1 fr1 cl2 fr2 cl3 fr3 cl4 fr4 cl5 fr5
  intro w17 hs hb19
  have hs18 := Aside0.mk hs
  clear hs
  refine wpList_nil ?_
  (try simp only [Exit.then, Exit.inBlock, ↓reduceIte, Nat.reduceEqDiff])
  refine hK13 _ _ ?_
  refine wp_seq_k (fun K20 hK20 => ?_)
  refine wp_seq_k (fun K21 hK21 => ?_)
  refine wp_region_lit ?_
  have cl0 := (hb2.up ((hu10.out.trans hu16.out).sto (Nat.le_trans (hu10.out.size) lbb14.out) hs18.out)).cell (o := 0) rfl
  have cl1 := (hb2.up ((hu10.out.trans hu16.out).sto (Nat.le_trans (hu10.out.size) lbb14.out) hs18.out)).cell (o := 1) rfl
  have cl2 := (hb2.up ((hu10.out.trans hu16.out).sto (Nat.le_trans (hu10.out.size) lbb14.out) hs18.out)).cell (o := 2) rfl
  have cl3 := (hb2.up ((hu10.out.trans hu16.out).sto (Nat.le_trans (hu10.out.size) lbb14.out) hs18.out)).cell (o := 3) rfl
  have cl4 := (hb2.up ((hu10.out.trans hu16.out).sto (Nat.le_trans (hu10.out.size) lbb14.out) hs18.out)).cell (o := 4) rfl
  have cl5 := (hb2.up ((hu10.out.trans hu16.out).sto (Nat.le_trans (hu10.out.size) lbb14.out) hs18.out)).cell (o := 5) rfl
  refine wpList_plain rfl (fun Ko hKo => ?_)
  go_simp
  refine hKo _ _ ?_
  clear hKo Ko
  clear cl0 cl1 cl2 cl3 cl4 cl5
  try simp only [Act.put, nm1, nm2, nm3, i64_w]
  refine step_new (cs := [.int .i64 0, .int .i64 0, .int .i64 0, .int .i64 0, .int .i64 0, .int .i64 0]) (T := 30) (f := fun b => .pointer (some ⟨b, 0, none⟩)) rfl (by first | (go_simp; done) | (go_simp; rfl)) ?_
  intro b22 w23 hu lb hb22
  simp only [Act.put, nm1, nm2, nm3, i64_w]
  have lbb22 := Aside0.mk lb
  have ltb22 := Aside0.mk hb22.lt
  clear lb
  have hu24 := Aside0.mk hu
  clear hu
  have hB0 := hb22
  have cl0 := hB0.cell (o := 0) rfl
  have fr0 := hB0.free 0
  have cl1 := hB0.cell (o := 1) rfl
  have fr1 := hB0.free 1
  have cl2 := hB0.cell (o := 2) rfl
  have fr2 := hB0.free 2
  have cl3 := hB0.cell (o := 3) rfl
  have fr3 := hB0.free 3
  have cl4 := hB0.cell (o := 4) rfl
  have fr4 := hB0.free 4
  have cl5 := hB0.cell (o := 5) rfl
  have fr5 := hB0.free 5
  refine step_store (b := b22) (cs' := [.int .i64 a2_0, .int .i64 a2_1, .int .i64 a2_2, .int .i64 a2_3, .int .i64 a2_4, .int .i64 a2_5]) (T := 30) (W' := ((((((w23.setCell ⟨b22, 0, none⟩ (.int .i64 a2_0)).setCell ⟨b22, 1, none⟩ (.int .i64 a2_1)).setCell ⟨b22, 2, none⟩ (.int .i64 a2_2)).setCell ⟨b22, 3, none⟩ (.int .i64 a2_3)).setCell ⟨b22, 4, none⟩ (.int .i64 a2_4)).setCell ⟨b22, 5, none⟩ (.int .i64 a2_5))) rfl rfl (by first | (go_simp; done) | (go_simp; rfl)) (((((((Sto.refl _ _).setCell 0 _).setCell 1 _).setCell 2 _).setCell 3 _).setCell 4 _).setCell 5 _) (((((((hB0).setCell 0 _).setCell 1 _).setCell 2 _).setCell 3 _).setCell 4 _).setCell 5 _) ?_
  clear hB0 cl0 fr0 cl1 fr1 cl2 fr2 cl3 fr3 cl4 fr4 cl5 fr5
  intro w25 hs hb27
  have hs26 := Aside0.mk hs
  clear hs
  refine wpList_nil ?_
  (try simp only [Exit.then, Exit.inBlock, ↓reduceIte, Nat.reduceEqDiff])
  refine hK21 _ _ ?_
  refine wp_block ?_
  have HL39 := Aside0.mk H
  clear H
  go_loopg [9, 11] K (fun kq v9 v11 w' => ∃ (x28 : Int) (b29 : Nat) (x30 : Int) (x31 : Int) (x32 : Int) (x33 : Int) (x34 : Int) (x35 : Int), v9 = .int .i64 x28 ∧ v11 = .pointer (some ⟨b29, 0, none⟩) ∧ Aside0 (spec_OrderOfMove.l0 K a0 a2_0 a2_1 a2_2 a2_3 a2_4 a2_5 kq x28 x30 x31 x32 x33 x34 x35 = some (r0, r1)) ∧ Aside0 (kq ≤ K) ∧ Aside0 (Up w25 w') ∧ Aside0 (w25.heap.size ≤ w'.heap.size) ∧ Blk w' b29 [.int .i64 x30, .int .i64 x31, .int .i64 x32, .int .i64 x33, .int .i64 x34, .int .i64 x35] 30 ∧ Aside0 (b29 < w'.heap.size) ∧ Aside0 (w17.heap.size ≤ b29))
  case atStart => exact ⟨1, b22, a2_0, a2_1, a2_2, a2_3, a2_4, a2_5, (by first | rfl | simp), (by first | rfl | simp), HL39, ⟨Nat.le_refl _⟩, ⟨(Up.refl _)⟩, ⟨Nat.le_refl _⟩, hb27, ⟨(Nat.lt_of_lt_of_le ltb22.out ((Nat.le_of_eq hs26.out.size.symm)))⟩, ⟨lbb22.out⟩⟩
  case round =>
   rename_i J46 K47 hJ46 hK47
   obtain ⟨x28, b29, x30, x31, x32, x33, x34, x35, rfl, rfl, HL45, hk44, hu37, hz38, h40, lt41, lb42⟩ := hrel
   obtain ⟨w36, rfl⟩ : ∃ wo : World, wo = wr := ⟨_, rfl⟩
   obtain ⟨k43, rfl⟩ | rfl : (∃ k, gk = k + 1) ∨ gk = 0 := by rcases gk with _ | k; exact .inr rfl; exact .inl ⟨k, rfl⟩
   case inr => exact absurd HL45.out (by simp [spec_OrderOfMove.l0])
   have H := HL45.out
   clear HL45
   rw [spec_OrderOfMove.l0] at H
   by_cases c50 : (x30 == 1 && (x31 == 0 && (x32 == 0 && (x33 == 1 && (x34 == 0 && x35 == 0))))) = true
   ·
    rw [if_pos c50] at H
    simp only [Option.some.injEq, Prod.mk.injEq] at H
    obtain ⟨rfl, rfl⟩ := H
    refine wp_seq_k (fun K48 hK48 => ?_)
    refine wp_seq_k (fun K49 hK49 => ?_)
    refine wp_region_lit ?_
    have cl0 := h40.cell (o := 0) rfl
    have cl1 := h40.cell (o := 1) rfl
    have cl2 := h40.cell (o := 2) rfl
    have cl3 := h40.cell (o := 3) rfl
    have cl4 := h40.cell (o := 4) rfl
    have cl5 := h40.cell (o := 5) rfl
    refine wpList_plain rfl (fun Ko hKo => ?_)
    go_simp
    refine hKo _ _ ?_
    clear hKo Ko
    clear cl0 cl1 cl2 cl3 cl4 cl5
    try simp only [Act.put, nm1, nm2, nm3, i64_w]
    have cl0 := (hb19.up ((hu24.out.sto (Nat.le_trans (Nat.le_refl _) lbb22.out) hs26.out).trans hu37.out)).cell (o := 0) rfl
    have cl1 := (hb19.up ((hu24.out.sto (Nat.le_trans (Nat.le_refl _) lbb22.out) hs26.out).trans hu37.out)).cell (o := 1) rfl
    have cl2 := (hb19.up ((hu24.out.sto (Nat.le_trans (Nat.le_refl _) lbb22.out) hs26.out).trans hu37.out)).cell (o := 2) rfl
    have cl3 := (hb19.up ((hu24.out.sto (Nat.le_trans (Nat.le_refl _) lbb22.out) hs26.out).trans hu37.out)).cell (o := 3) rfl
    have cl4 := (hb19.up ((hu24.out.sto (Nat.le_trans (Nat.le_refl _) lbb22.out) hs26.out).trans hu37.out)).cell (o := 4) rfl
    have cl5 := (hb19.up ((hu24.out.sto (Nat.le_trans (Nat.le_refl _) lbb22.out) hs26.out).trans hu37.out)).cell (o := 5) rfl
    refine wpList_plain rfl (fun Ko hKo => ?_)
    go_simp
    refine hKo _ _ ?_
    clear hKo Ko
    clear cl0 cl1 cl2 cl3 cl4 cl5
    try simp only [Act.put, nm1, nm2, nm3, i64_w]
    refine wpList_plain rfl (fun Ko hKo => ?_)
    go_simp
    refine hKo _ _ ?_
    clear hKo Ko
    try simp only [Act.put, nm1, nm2, nm3, i64_w]
    refine wpList_nil ?_
    (try simp only [Exit.then, Exit.inBlock, ↓reduceIte, Nat.reduceEqDiff])
    refine hK49 _ _ ?_
    refine wp_cond_false rfl ?_
    refine wp_exit ?_
    (try simp only [Exit.then, Exit.inBlock, ↓reduceIte, Nat.reduceEqDiff])
    refine hK20 _ _ ?_
    refine wp_seq_k (fun K51 hK51 => ?_)
    refine wp_region_lit ?_
    refine wpList_plain rfl (fun Ko hKo => ?_)
    go_simp
    refine hKo _ _ ?_
    clear hKo Ko
    try simp only [Act.put, nm1, nm2, nm3, i64_w]
    refine wpList_plain rfl (fun Ko hKo => ?_)
    go_simp
    refine hKo _ _ ?_
    clear hKo Ko
    try simp only [Act.put, nm1, nm2, nm3, i64_w]
    refine wpList_plain rfl (fun Ko hKo => ?_)
    go_simp
    refine hKo _ _ ?_
    clear hKo Ko
    try simp only [Act.put, nm1, nm2, nm3, i64_w]
    refine wpList_nil ?_
    (try simp only [Exit.then, Exit.inBlock, ↓reduceIte, Nat.reduceEqDiff])
    refine hK51 _ _ ?_
    refine wp_ret ?_
    (try simp only [Exit.then, Exit.inBlock, ↓reduceIte, Nat.reduceEqDiff])
    refine hQf _ _ _ ?_
    exact bodyPost_ret (v := .tuple #[.int .i64 x28, .int .i64 0]) (by first | rfl | (simp [results, Tryd.results5, go_sem]; done) | (simp [results, Tryd.results5, go_sem]; rfl)) rfl ⟨rfl, ((((((hu4.out.trans hu10.out).trans hu16.out).sto (Nat.le_trans ((Nat.le_trans (hu4.out.size) hu10.out.size)) lbb14.out) hs18.out).trans hu24.out).sto (Nat.le_trans ((Nat.le_trans ((Nat.le_trans ((Nat.le_trans (hu4.out.size) hu10.out.size)) hu16.out.size)) (Nat.le_of_eq hs18.out.size.symm))) lbb22.out) hs26.out).trans hu37.out)⟩
   ·
    rw [if_neg c50] at H
    replace c50 := Bool.eq_false_iff.mpr c50
    replace H := Option.bind_eq_some_iff.mp H
    obtain ⟨⟨t61, t62, t63, t64, t65, t66⟩, A67, H⟩ := H
    replace A67 := Aside0.mk A67
    try dsimp only at H
    have HL73 := Aside0.mk H
    clear H
    refine wp_seq_k (fun K48 hK48 => ?_)
    refine wp_seq_k (fun K49 hK49 => ?_)
    refine wp_region_lit ?_
    have cl0 := h40.cell (o := 0) rfl
    have cl1 := h40.cell (o := 1) rfl
    have cl2 := h40.cell (o := 2) rfl
    have cl3 := h40.cell (o := 3) rfl
    have cl4 := h40.cell (o := 4) rfl
    have cl5 := h40.cell (o := 5) rfl
    refine wpList_plain rfl (fun Ko hKo => ?_)
    go_simp
    refine hKo _ _ ?_
    clear hKo Ko
    clear cl0 cl1 cl2 cl3 cl4 cl5
    try simp only [Act.put, nm1, nm2, nm3, i64_w]
    have cl0 := (hb19.up ((hu24.out.sto (Nat.le_trans (Nat.le_refl _) lbb22.out) hs26.out).trans hu37.out)).cell (o := 0) rfl
    have cl1 := (hb19.up ((hu24.out.sto (Nat.le_trans (Nat.le_refl _) lbb22.out) hs26.out).trans hu37.out)).cell (o := 1) rfl
    have cl2 := (hb19.up ((hu24.out.sto (Nat.le_trans (Nat.le_refl _) lbb22.out) hs26.out).trans hu37.out)).cell (o := 2) rfl
    have cl3 := (hb19.up ((hu24.out.sto (Nat.le_trans (Nat.le_refl _) lbb22.out) hs26.out).trans hu37.out)).cell (o := 3) rfl
    have cl4 := (hb19.up ((hu24.out.sto (Nat.le_trans (Nat.le_refl _) lbb22.out) hs26.out).trans hu37.out)).cell (o := 4) rfl
    have cl5 := (hb19.up ((hu24.out.sto (Nat.le_trans (Nat.le_refl _) lbb22.out) hs26.out).trans hu37.out)).cell (o := 5) rfl
    refine wpList_plain rfl (fun Ko hKo => ?_)
    go_simp
    refine hKo _ _ ?_
    clear hKo Ko
    clear cl0 cl1 cl2 cl3 cl4 cl5
    try simp only [Act.put, nm1, nm2, nm3, i64_w]
    refine wpList_plain rfl (fun Ko hKo => ?_)
    go_simp
    refine hKo _ _ ?_
    clear hKo Ko
    try simp only [Act.put, nm1, nm2, nm3, i64_w]
    refine wpList_nil ?_
    (try simp only [Exit.then, Exit.inBlock, ↓reduceIte, Nat.reduceEqDiff])
    refine hK49 _ _ ?_
    refine wp_cond_true rfl ?_
    refine wp_skip ?_
    (try simp only [Exit.then, Exit.inBlock, ↓reduceIte, Nat.reduceEqDiff])
    refine hK48 _ _ ?_
    refine wp_seq_k (fun K52 hK52 => ?_)
    refine wp_block ?_
    refine wp_region_lit ?_
    refine wpList_plain rfl (fun Ko hKo => ?_)
    go_simp
    refine hKo _ _ ?_
    clear hKo Ko
    try simp only [Act.put, nm1, nm2, nm3, i64_w]
    refine wpList_plain rfl (fun Ko hKo => ?_)
    go_simp
    refine hKo _ _ ?_
    clear hKo Ko
    try simp only [Act.put, nm1, nm2, nm3, i64_w]
    refine wpList_plain rfl (fun Ko hKo => ?_)
    go_simp
    refine hKo _ _ ?_
    clear hKo Ko
    try simp only [Act.put, nm1, nm2, nm3, i64_w]
    refine wpList_nil ?_
    (try simp only [Exit.then, Exit.inBlock, ↓reduceIte, Nat.reduceEqDiff])
    refine hK52 _ _ ?_
    refine wp_seq_k (fun K53 hK53 => ?_)
    refine wp_seq_k (fun K54 hK54 => ?_)
    refine wp_region_lit ?_
    have cl0 := h40.cell (o := 0) rfl
    have cl1 := h40.cell (o := 1) rfl
    have cl2 := h40.cell (o := 2) rfl
    have cl3 := h40.cell (o := 3) rfl
    have cl4 := h40.cell (o := 4) rfl
    have cl5 := h40.cell (o := 5) rfl
    refine wpList_plain rfl (fun Ko hKo => ?_)
    go_simp
    refine hKo _ _ ?_
    clear hKo Ko
    clear cl0 cl1 cl2 cl3 cl4 cl5
    try simp only [Act.put, nm1, nm2, nm3, i64_w]
    refine wpList_nil ?_
    (try simp only [Exit.then, Exit.inBlock, ↓reduceIte, Nat.reduceEqDiff])
    refine hK54 _ _ ?_
    refine wp_region_lit ?_
    refine step_new (cs := [.int .i64 0, .int .i64 0, .int .i64 0, .int .i64 0, .int .i64 0, .int .i64 0]) (T := 30) (f := fun b => .pointer (some ⟨b, 0, none⟩)) rfl (by first | (go_simp; done) | (go_simp; rfl)) ?_
    intro b55 w56 hu lb hb55
    simp only [Act.put, nm1, nm2, nm3, i64_w]
    have lbb55 := Aside0.mk lb
    have ltb55 := Aside0.mk hb55.lt
    clear lb
    have hu57 := Aside0.mk hu
    clear hu
    have hB0 := hb55
    have cl0 := hB0.cell (o := 0) rfl
    have fr0 := hB0.free 0
    have cl1 := hB0.cell (o := 1) rfl
    have fr1 := hB0.free 1
    have cl2 := hB0.cell (o := 2) rfl
    have fr2 := hB0.free 2
    have cl3 := hB0.cell (o := 3) rfl
    have fr3 := hB0.free 3
    have cl4 := hB0.cell (o := 4) rfl
    have fr4 := hB0.free 4
    have cl5 := hB0.cell (o := 5) rfl
    have fr5 := hB0.free 5
    refine step_store (b := b55) (cs' := [.int .i64 x30, .int .i64 x31, .int .i64 x32, .int .i64 x33, .int .i64 x34, .int .i64 x35]) (T := 30) (W' := ((((((w56.setCell ⟨b55, 0, none⟩ (.int .i64 x30)).setCell ⟨b55, 1, none⟩ (.int .i64 x31)).setCell ⟨b55, 2, none⟩ (.int .i64 x32)).setCell ⟨b55, 3, none⟩ (.int .i64 x33)).setCell ⟨b55, 4, none⟩ (.int .i64 x34)).setCell ⟨b55, 5, none⟩ (.int .i64 x35))) rfl rfl (by first | (go_simp; done) | (go_simp; rfl)) (((((((Sto.refl _ _).setCell 0 _).setCell 1 _).setCell 2 _).setCell 3 _).setCell 4 _).setCell 5 _) (((((((hB0).setCell 0 _).setCell 1 _).setCell 2 _).setCell 3 _).setCell 4 _).setCell 5 _) ?_
    clear hB0 cl0 fr0 cl1 fr1 cl2 fr2 cl3 fr3 cl4 fr4 cl5 fr5
    intro w58 hs hb60
    have hs59 := Aside0.mk hs
    clear hs
    refine wpList_nil ?_
    (try simp only [Exit.then, Exit.inBlock, ↓reduceIte, Nat.reduceEqDiff])
    refine hK53 _ _ ?_
    refine wp_region_lit ?_
    refine wpList_plain rfl (fun Ko hKo => ?_)
    go_simp
    refine hKo _ _ ?_
    clear hKo Ko
    try simp only [Act.put, nm1, nm2, nm3, i64_w]
    have cl0 := hb60.cell (o := 0) rfl
    have cl1 := hb60.cell (o := 1) rfl
    have cl2 := hb60.cell (o := 2) rfl
    have cl3 := hb60.cell (o := 3) rfl
    have cl4 := hb60.cell (o := 4) rfl
    have cl5 := hb60.cell (o := 5) rfl
    refine wpList_plain rfl (fun Ko hKo => ?_)
    go_simp
    refine hKo _ _ ?_
    clear hKo Ko
    clear cl0 cl1 cl2 cl3 cl4 cl5
    try simp only [Act.put, nm1, nm2, nm3, i64_w]
    have cl0 := (hb2.up (((((((hu10.out.trans hu16.out).sto (Nat.le_trans (hu10.out.size) lbb14.out) hs18.out).trans hu24.out).sto (Nat.le_trans ((Nat.le_trans ((Nat.le_trans (hu10.out.size) hu16.out.size)) (Nat.le_of_eq hs18.out.size.symm))) lbb22.out) hs26.out).trans hu37.out).trans hu57.out).sto (Nat.le_trans ((Nat.le_trans ((Nat.le_trans ((Nat.le_trans ((Nat.le_trans ((Nat.le_trans (hu10.out.size) hu16.out.size)) (Nat.le_of_eq hs18.out.size.symm))) hu24.out.size)) (Nat.le_of_eq hs26.out.size.symm))) hz38.out)) lbb55.out) hs59.out)).cell (o := 0) rfl
    have cl1 := (hb2.up (((((((hu10.out.trans hu16.out).sto (Nat.le_trans (hu10.out.size) lbb14.out) hs18.out).trans hu24.out).sto (Nat.le_trans ((Nat.le_trans ((Nat.le_trans (hu10.out.size) hu16.out.size)) (Nat.le_of_eq hs18.out.size.symm))) lbb22.out) hs26.out).trans hu37.out).trans hu57.out).sto (Nat.le_trans ((Nat.le_trans ((Nat.le_trans ((Nat.le_trans ((Nat.le_trans ((Nat.le_trans (hu10.out.size) hu16.out.size)) (Nat.le_of_eq hs18.out.size.symm))) hu24.out.size)) (Nat.le_of_eq hs26.out.size.symm))) hz38.out)) lbb55.out) hs59.out)).cell (o := 1) rfl
    have cl2 := (hb2.up (((((((hu10.out.trans hu16.out).sto (Nat.le_trans (hu10.out.size) lbb14.out) hs18.out).trans hu24.out).sto (Nat.le_trans ((Nat.le_trans ((Nat.le_trans (hu10.out.size) hu16.out.size)) (Nat.le_of_eq hs18.out.size.symm))) lbb22.out) hs26.out).trans hu37.out).trans hu57.out).sto (Nat.le_trans ((Nat.le_trans ((Nat.le_trans ((Nat.le_trans ((Nat.le_trans ((Nat.le_trans (hu10.out.size) hu16.out.size)) (Nat.le_of_eq hs18.out.size.symm))) hu24.out.size)) (Nat.le_of_eq hs26.out.size.symm))) hz38.out)) lbb55.out) hs59.out)).cell (o := 2) rfl
    have cl3 := (hb2.up (((((((hu10.out.trans hu16.out).sto (Nat.le_trans (hu10.out.size) lbb14.out) hs18.out).trans hu24.out).sto (Nat.le_trans ((Nat.le_trans ((Nat.le_trans (hu10.out.size) hu16.out.size)) (Nat.le_of_eq hs18.out.size.symm))) lbb22.out) hs26.out).trans hu37.out).trans hu57.out).sto (Nat.le_trans ((Nat.le_trans ((Nat.le_trans ((Nat.le_trans ((Nat.le_trans ((Nat.le_trans (hu10.out.size) hu16.out.size)) (Nat.le_of_eq hs18.out.size.symm))) hu24.out.size)) (Nat.le_of_eq hs26.out.size.symm))) hz38.out)) lbb55.out) hs59.out)).cell (o := 3) rfl
    have cl4 := (hb2.up (((((((hu10.out.trans hu16.out).sto (Nat.le_trans (hu10.out.size) lbb14.out) hs18.out).trans hu24.out).sto (Nat.le_trans ((Nat.le_trans ((Nat.le_trans (hu10.out.size) hu16.out.size)) (Nat.le_of_eq hs18.out.size.symm))) lbb22.out) hs26.out).trans hu37.out).trans hu57.out).sto (Nat.le_trans ((Nat.le_trans ((Nat.le_trans ((Nat.le_trans ((Nat.le_trans ((Nat.le_trans (hu10.out.size) hu16.out.size)) (Nat.le_of_eq hs18.out.size.symm))) hu24.out.size)) (Nat.le_of_eq hs26.out.size.symm))) hz38.out)) lbb55.out) hs59.out)).cell (o := 4) rfl
    have cl5 := (hb2.up (((((((hu10.out.trans hu16.out).sto (Nat.le_trans (hu10.out.size) lbb14.out) hs18.out).trans hu24.out).sto (Nat.le_trans ((Nat.le_trans ((Nat.le_trans (hu10.out.size) hu16.out.size)) (Nat.le_of_eq hs18.out.size.symm))) lbb22.out) hs26.out).trans hu37.out).trans hu57.out).sto (Nat.le_trans ((Nat.le_trans ((Nat.le_trans ((Nat.le_trans ((Nat.le_trans ((Nat.le_trans (hu10.out.size) hu16.out.size)) (Nat.le_of_eq hs18.out.size.symm))) hu24.out.size)) (Nat.le_of_eq hs26.out.size.symm))) hz38.out)) lbb55.out) hs59.out)).cell (o := 5) rfl
    refine wpList_plain rfl (fun Ko hKo => ?_)
    go_simp
    refine hKo _ _ ?_
    clear hKo Ko
    clear cl0 cl1 cl2 cl3 cl4 cl5
    try simp only [Act.put, nm1, nm2, nm3, i64_w]
    refine step_call (wanted_none rfl) (by first | (go_simp; done) | (go_simp; rfl)) (spec_l07Times.calls K a0 x30 x31 x32 x33 x34 x35 a2_0 a2_1 a2_2 a2_3 a2_4 a2_5 t61 t62 t63 t64 t65 t66 w58  A67.out) ?_
    rintro e w68 ⟨rfl, hu⟩
    have hu69 := Aside0.mk hu
    clear hu
    refine ⟨_, rfl, ?_⟩
    simp only [Act.put, nm1, nm2, nm3, i64_w]
    have hB0 := (hb60.up hu69.out)
    have cl0 := hB0.cell (o := 0) rfl
    have fr0 := hB0.free 0
    have cl1 := hB0.cell (o := 1) rfl
    have fr1 := hB0.free 1
    have cl2 := hB0.cell (o := 2) rfl
    have fr2 := hB0.free 2
    have cl3 := hB0.cell (o := 3) rfl
    have fr3 := hB0.free 3
    have cl4 := hB0.cell (o := 4) rfl
    have fr4 := hB0.free 4
    have cl5 := hB0.cell (o := 5) rfl
    have fr5 := hB0.free 5
    refine step_store (b := b55) (cs' := [.int .i64 t61, .int .i64 t62, .int .i64 t63, .int .i64 t64, .int .i64 t65, .int .i64 t66]) (T := 30) (W' := ((((((w68.setCell ⟨b55, 0, none⟩ (.int .i64 t61)).setCell ⟨b55, 1, none⟩ (.int .i64 t62)).setCell ⟨b55, 2, none⟩ (.int .i64 t63)).setCell ⟨b55, 3, none⟩ (.int .i64 t64)).setCell ⟨b55, 4, none⟩ (.int .i64 t65)).setCell ⟨b55, 5, none⟩ (.int .i64 t66))) rfl rfl (by first | (go_simp; done) | (go_simp; rfl)) (((((((Sto.refl _ _).setCell 0 _).setCell 1 _).setCell 2 _).setCell 3 _).setCell 4 _).setCell 5 _) (((((((hB0).setCell 0 _).setCell 1 _).setCell 2 _).setCell 3 _).setCell 4 _).setCell 5 _) ?_
    clear hB0 cl0 fr0 cl1 fr1 cl2 fr2 cl3 fr3 cl4 fr4 cl5 fr5
    intro w70 hs hb72
    have hs71 := Aside0.mk hs
    clear hs
    refine wpList_nil ?_
    (try simp only [Exit.then, Exit.inBlock, ↓reduceIte, Nat.reduceEqDiff])
    refine hK47 _ _ ?_
    go_roundg k43
    case measure => exact Nat.lt_succ_self _
    case rel => exact ⟨wrap64 (x28 + 1), b55, t61, t62, t63, t64, t65, t66, (by first | rfl | simp), (by first | rfl | simp), HL73, ⟨by have := hk44.out; omega⟩, ⟨((((hu37.out.trans hu57.out).sto (Nat.le_trans ((Nat.le_trans (Nat.le_refl _) hz38.out)) lbb55.out) hs59.out).trans hu69.out).sto (Nat.le_trans ((Nat.le_trans (Nat.le_refl _) hz38.out)) lbb55.out) hs71.out)⟩, ⟨(Nat.le_trans ((Nat.le_trans ((Nat.le_trans ((Nat.le_trans ((Nat.le_trans (Nat.le_refl _) hz38.out)) hu57.out.size)) (Nat.le_of_eq hs59.out.size.symm))) hu69.out.size)) (Nat.le_of_eq hs71.out.size.symm))⟩, hb72, ⟨(Nat.lt_of_lt_of_le ltb55.out ((Nat.le_trans ((Nat.le_trans ((Nat.le_of_eq hs59.out.size.symm)) hu69.out.size)) (Nat.le_of_eq hs71.out.size.symm))))⟩, ⟨(Nat.le_trans ((Nat.le_trans ((Nat.le_trans (hu24.out.size) (Nat.le_of_eq hs26.out.size.symm))) hz38.out)) lbb55.out)⟩⟩
 ·
  rw [if_neg c12] at H
  replace c12 := Bool.eq_false_iff.mpr c12
  have c12n : (t7 != 0) = true := by rw [bne, c12]; rfl
  have c12p : ¬ t7 = 0 := fun e => by simp [e] at c12
  simp only [Option.some.injEq, Prod.mk.injEq] at H
  obtain ⟨rfl, rfl⟩ := H
  go_enter Tryd.func5, Tryd.ntmps5
  refine wp_hide (fun Qf hQf => ?_)
  refine wp_seq_k (fun K1 hK1 => ?_)
  refine wp_region_lit ?_
  refine step_new (cs := [.int .i64 a2_0, .int .i64 a2_1, .int .i64 a2_2, .int .i64 a2_3, .int .i64 a2_4, .int .i64 a2_5]) (T := 30) (f := fun b => .pointer (some ⟨b, 0, none⟩)) rfl (by first | (go_simp; done) | (go_simp; rfl)) ?_
  intro b2 w3 hu lb hb2
  simp only [Act.put, nm1, nm2, nm3, i64_w]
  have lbb2 := Aside0.mk lb
  have ltb2 := Aside0.mk hb2.lt
  clear lb
  have hu4 := Aside0.mk hu
  clear hu
  refine wpList_plain rfl (fun Ko hKo => ?_)
  go_simp
  refine hKo _ _ ?_
  clear hKo Ko
  try simp only [Act.put, nm1, nm2, nm3, i64_w]
  refine wpList_plain rfl (fun Ko hKo => ?_)
  go_simp
  refine hKo _ _ ?_
  clear hKo Ko
  try simp only [Act.put, nm1, nm2, nm3, i64_w]
  refine wpList_nil ?_
  (try simp only [Exit.then, Exit.inBlock, ↓reduceIte, Nat.reduceEqDiff])
  refine hK1 _ _ ?_
  refine wp_seq_k (fun K5 hK5 => ?_)
  refine wp_seq_k (fun K6 hK6 => ?_)
  refine wp_region_lit ?_
  refine wpList_plain rfl (fun Ko hKo => ?_)
  go_simp
  refine hKo _ _ ?_
  clear hKo Ko
  try simp only [Act.put, nm1, nm2, nm3, i64_w]
  refine wpList_plain rfl (fun Ko hKo => ?_)
  go_simp
  refine hKo _ _ ?_
  clear hKo Ko
  try simp only [Act.put, nm1, nm2, nm3, i64_w]
  have cl0 := hb2.cell (o := 0) rfl
  have cl1 := hb2.cell (o := 1) rfl
  have cl2 := hb2.cell (o := 2) rfl
  have cl3 := hb2.cell (o := 3) rfl
  have cl4 := hb2.cell (o := 4) rfl
  have cl5 := hb2.cell (o := 5) rfl
  refine wpList_plain rfl (fun Ko hKo => ?_)
  go_simp
  refine hKo _ _ ?_
  clear hKo Ko
  clear cl0 cl1 cl2 cl3 cl4 cl5
  try simp only [Act.put, nm1, nm2, nm3, i64_w]
  refine step_call (wanted_none rfl) (by first | (go_simp; done) | (go_simp; rfl)) (spec_l07Code.calls K a0 a1 a2_0 a2_1 a2_2 a2_3 a2_4 a2_5 t7 w3  A8.out) ?_
  rintro e w9 ⟨rfl, hu⟩
  have hu10 := Aside0.mk hu
  clear hu
  refine ⟨_, rfl, ?_⟩
  simp only [Act.put, nm1, nm2, nm3, i64_w]
  refine wpList_plain rfl (fun Ko hKo => ?_)
  go_simp
  refine hKo _ _ ?_
  clear hKo Ko
  try simp only [Act.put, nm1, nm2, nm3, i64_w]
  refine wpList_nil ?_
  (try simp only [Exit.then, Exit.inBlock, ↓reduceIte, Nat.reduceEqDiff])
  refine hK6 _ _ ?_
  refine wp_seq_k (fun K11 hK11 => ?_)
  refine wp_region_lit ?_
  refine wpList_plain rfl (fun Ko hKo => ?_)
  go_simp
  refine hKo _ _ ?_
  clear hKo Ko
  try simp only [Act.put, nm1, nm2, nm3, i64_w]
  refine wpList_plain rfl (fun Ko hKo => ?_)
  go_simp
  refine hKo _ _ ?_
  clear hKo Ko
  try simp only [Act.put, nm1, nm2, nm3, i64_w]
  refine wpList_nil ?_
  (try simp only [Exit.then, Exit.inBlock, ↓reduceIte, Nat.reduceEqDiff])
  refine hK11 _ _ ?_
  refine wp_cond_true rfl ?_
  refine wp_seq_k (fun K74 hK74 => ?_)
  refine wp_region_lit ?_
  refine wpList_plain rfl (fun Ko hKo => ?_)
  go_simp
  refine hKo _ _ ?_
  clear hKo Ko
  try simp only [Act.put, nm1, nm2, nm3, i64_w]
  refine wpList_plain rfl (fun Ko hKo => ?_)
  go_simp
  refine hKo _ _ ?_
  clear hKo Ko
  try simp only [Act.put, nm1, nm2, nm3, i64_w]
  refine wpList_plain rfl (fun Ko hKo => ?_)
  go_simp
  refine hKo _ _ ?_
  clear hKo Ko
  try simp only [Act.put, nm1, nm2, nm3, i64_w]
  refine wpList_nil ?_
  (try simp only [Exit.then, Exit.inBlock, ↓reduceIte, Nat.reduceEqDiff])
  refine hK74 _ _ ?_
  refine wp_ret ?_
  (try simp only [Exit.then, Exit.inBlock, ↓reduceIte, Nat.reduceEqDiff])
  refine hQf _ _ _ ?_
  exact bodyPost_ret (v := .tuple #[.int .i64 0, .int .i64 t7]) (by first | rfl | (simp [results, Tryd.results5, go_sem]; done) | (simp [results, Tryd.results5, go_sem]; rfl)) rfl ⟨rfl, (hu4.out.trans hu10.out)⟩

set_option maxHeartbeats 4000000 in
set_option maxRecDepth 100000 in
theorem impl_IsField.calls (K : Nat) (a0 : Int) (r0 : Bool) (w : World)  (h : impl_IsField.f K a0 = some (r0)) :
    Calls Tryd.prog 40 #[.int .i64 a0] w fun e w' => e = .returned (.bool r0) ∧ Up w w' := by
 have H : ((if (a0 == 3) = true then some true else (if (a0 == 5) = true then some true else (if (a0 == 7) = true then some true else (if (a0 == 11) = true then some true else (if (a0 == 13) = true then some true else (if (a0 == 17) = true then some true else (if (a0 == 19) = true then some true else (if (a0 == 23) = true then some true else (if (a0 == 29) = true then some true else (if (a0 == 31) = true then some true else some false)))))))))) : Option (Bool)) = some (r0) := h
 clear h
 by_cases c6 : (a0 == 3) = true
 ·
  rw [if_pos c6] at H
  have c6n : (a0 != 3) = false := by rw [bne, c6]; rfl
  obtain rfl := Option.some.inj H
  go_enter Tryd.func40, Tryd.ntmps40
  refine wp_hide (fun Qf hQf => ?_)
  refine wp_seq_k (fun K1 hK1 => ?_)
  refine wp_region_lit ?_
  refine wpList_plain rfl (fun Ko hKo => ?_)
  go_simp
  refine hKo _ _ ?_
  clear hKo Ko
  try simp only [Act.put, nm1, nm2, nm3, i64_w]
  refine wpList_nil ?_
  (try simp only [Exit.then, Exit.inBlock, ↓reduceIte, Nat.reduceEqDiff])
  refine hK1 _ _ ?_
  refine wp_seq_k (fun K2 hK2 => ?_)
  refine wp_seq_k (fun K3 hK3 => ?_)
  refine wp_region_lit ?_
  refine wpList_plain rfl (fun Ko hKo => ?_)
  go_simp
  refine hKo _ _ ?_
  clear hKo Ko
  try simp only [Act.put, nm1, nm2, nm3, i64_w]
  refine wpList_nil ?_
  (try simp only [Exit.then, Exit.inBlock, ↓reduceIte, Nat.reduceEqDiff])
  refine hK3 _ _ ?_
  refine wp_block ?_
  refine wp_seq_k (fun K4 hK4 => ?_)
  refine wp_seq_k (fun K5 hK5 => ?_)
  refine wp_region_lit ?_
  refine wpList_plain rfl (fun Ko hKo => ?_)
  go_simp
  refine hKo _ _ ?_
  clear hKo Ko
  try simp only [Act.put, nm1, nm2, nm3, i64_w]
  refine wpList_plain rfl (fun Ko hKo => ?_)
  go_simp
  refine hKo _ _ ?_
  clear hKo Ko
  try simp only [Act.put, nm1, nm2, nm3, i64_w]
  refine wpList_nil ?_
  (try simp only [Exit.then, Exit.inBlock, ↓reduceIte, Nat.reduceEqDiff])
  refine hK5 _ _ ?_
  refine wp_cond_true rfl ?_
  refine wp_skip ?_
  (try simp only [Exit.then, Exit.inBlock, ↓reduceIte, Nat.reduceEqDiff])
  refine hK4 _ _ ?_
  refine wp_cond_true rfl ?_
  refine wp_seq_k (fun K7 hK7 => ?_)
  refine wp_region_lit ?_
  refine wpList_plain rfl (fun Ko hKo => ?_)
  go_simp
  refine hKo _ _ ?_
  clear hKo Ko
  try simp only [Act.put, nm1, nm2, nm3, i64_w]
  refine wpList_nil ?_
  (try simp only [Exit.then, Exit.inBlock, ↓reduceIte, Nat.reduceEqDiff])
  refine hK7 _ _ ?_
  refine wp_ret ?_
  (try simp only [Exit.then, Exit.inBlock, ↓reduceIte, Nat.reduceEqDiff])
  refine hQf _ _ _ ?_
  exact bodyPost_ret (v := .bool true) (by first | rfl | (simp [results, Tryd.results40, go_sem]; done) | (simp [results, Tryd.results40, go_sem]; rfl)) rfl ⟨rfl, (Up.refl _)⟩
 ·
  rw [if_neg c6] at H
  replace c6 := Bool.eq_false_iff.mpr c6
  have c6n : (a0 != 3) = true := by rw [bne, c6]; rfl
  have c6p : ¬ a0 = 3 := fun e => by simp [e] at c6
  by_cases c9 : (a0 == 5) = true
  ·
   rw [if_pos c9] at H
   have c9n : (a0 != 5) = false := by rw [bne, c9]; rfl
   obtain rfl := Option.some.inj H
   go_enter Tryd.func40, Tryd.ntmps40
   refine wp_hide (fun Qf hQf => ?_)
   refine wp_seq_k (fun K1 hK1 => ?_)
   refine wp_region_lit ?_
   refine wpList_plain rfl (fun Ko hKo => ?_)
   go_simp
   refine hKo _ _ ?_
   clear hKo Ko
   try simp only [Act.put, nm1, nm2, nm3, i64_w]
   refine wpList_nil ?_
   (try simp only [Exit.then, Exit.inBlock, ↓reduceIte, Nat.reduceEqDiff])
   refine hK1 _ _ ?_
   refine wp_seq_k (fun K2 hK2 => ?_)
   refine wp_seq_k (fun K3 hK3 => ?_)
   refine wp_region_lit ?_
   refine wpList_plain rfl (fun Ko hKo => ?_)
   go_simp
   refine hKo _ _ ?_
   clear hKo Ko
   try simp only [Act.put, nm1, nm2, nm3, i64_w]
   refine wpList_nil ?_
   (try simp only [Exit.then, Exit.inBlock, ↓reduceIte, Nat.reduceEqDiff])
   refine hK3 _ _ ?_
   refine wp_block ?_
   refine wp_seq_k (fun K4 hK4 => ?_)
   refine wp_seq_k (fun K5 hK5 => ?_)
   refine wp_region_lit ?_
   refine wpList_plain rfl (fun Ko hKo => ?_)
   go_simp
   refine hKo _ _ ?_
   clear hKo Ko
   try simp only [Act.put, nm1, nm2, nm3, i64_w]
   refine wpList_plain rfl (fun Ko hKo => ?_)
   go_simp
   refine hKo _ _ ?_
   clear hKo Ko
   try simp only [Act.put, nm1, nm2, nm3, i64_w]
   refine wpList_nil ?_
   (try simp only [Exit.then, Exit.inBlock, ↓reduceIte, Nat.reduceEqDiff])
   refine hK5 _ _ ?_
   refine wp_cond_false rfl ?_
   refine wp_seq_k (fun K8 hK8 => ?_)
   refine wp_region_lit ?_
   refine wpList_plain rfl (fun Ko hKo => ?_)
   go_simp
   refine hKo _ _ ?_
   clear hKo Ko
   try simp only [Act.put, nm1, nm2, nm3, i64_w]
   refine wpList_plain rfl (fun Ko hKo => ?_)
   go_simp
   refine hKo _ _ ?_
   clear hKo Ko
   try simp only [Act.put, nm1, nm2, nm3, i64_w]
   refine wpList_nil ?_
   (try simp only [Exit.then, Exit.inBlock, ↓reduceIte, Nat.reduceEqDiff])
   refine hK8 _ _ ?_
   refine wp_cond_true rfl ?_
   refine wp_skip ?_
   (try simp only [Exit.then, Exit.inBlock, ↓reduceIte, Nat.reduceEqDiff])
   refine hK4 _ _ ?_
   refine wp_cond_true rfl ?_
   refine wp_seq_k (fun K10 hK10 => ?_)
   refine wp_region_lit ?_
   refine wpList_plain rfl (fun Ko hKo => ?_)
   go_simp
   refine hKo _ _ ?_
   clear hKo Ko
   try simp only [Act.put, nm1, nm2, nm3, i64_w]
   refine wpList_nil ?_
   (try simp only [Exit.then, Exit.inBlock, ↓reduceIte, Nat.reduceEqDiff])
   refine hK10 _ _ ?_
   refine wp_ret ?_
   (try simp only [Exit.then, Exit.inBlock, ↓reduceIte, Nat.reduceEqDiff])
   refine hQf _ _ _ ?_
   exact bodyPost_ret (v := .bool true) (by first | rfl | (simp [results, Tryd.results40, go_sem]; done) | (simp [results, Tryd.results40, go_sem]; rfl)) rfl ⟨rfl, (Up.refl _)⟩
  ·
   rw [if_neg c9] at H
   replace c9 := Bool.eq_false_iff.mpr c9
   have c9n : (a0 != 5) = true := by rw [bne, c9]; rfl
   have c9p : ¬ a0 = 5 := fun e => by simp [e] at c9
   by_cases c12 : (a0 == 7) = true
   ·
    rw [if_pos c12] at H
    have c12n : (a0 != 7) = false := by rw [bne, c12]; rfl
    obtain rfl := Option.some.inj H
    go_enter Tryd.func40, Tryd.ntmps40
    refine wp_hide (fun Qf hQf => ?_)
    refine wp_seq_k (fun K1 hK1 => ?_)
    refine wp_region_lit ?_
    refine wpList_plain rfl (fun Ko hKo => ?_)
    go_simp
    refine hKo _ _ ?_
    clear hKo Ko
    try simp only [Act.put, nm1, nm2, nm3, i64_w]
    refine wpList_nil ?_
    (try simp only [Exit.then, Exit.inBlock, ↓reduceIte, Nat.reduceEqDiff])
    refine hK1 _ _ ?_
    refine wp_seq_k (fun K2 hK2 => ?_)
    refine wp_seq_k (fun K3 hK3 => ?_)
    refine wp_region_lit ?_
    refine wpList_plain rfl (fun Ko hKo => ?_)
    go_simp
    refine hKo _ _ ?_
    clear hKo Ko
    try simp only [Act.put, nm1, nm2, nm3, i64_w]
    refine wpList_nil ?_
    (try simp only [Exit.then, Exit.inBlock, ↓reduceIte, Nat.reduceEqDiff])
    refine hK3 _ _ ?_
    refine wp_block ?_
    refine wp_seq_k (fun K4 hK4 => ?_)
    refine wp_seq_k (fun K5 hK5 => ?_)
    refine wp_region_lit ?_
    refine wpList_plain rfl (fun Ko hKo => ?_)
    go_simp
    refine hKo _ _ ?_
    clear hKo Ko
    try simp only [Act.put, nm1, nm2, nm3, i64_w]
    refine wpList_plain rfl (fun Ko hKo => ?_)
    go_simp
    refine hKo _ _ ?_
    clear hKo Ko
    try simp only [Act.put, nm1, nm2, nm3, i64_w]
    refine wpList_nil ?_
    (try simp only [Exit.then, Exit.inBlock, ↓reduceIte, Nat.reduceEqDiff])
    refine hK5 _ _ ?_
    refine wp_cond_false rfl ?_
    refine wp_seq_k (fun K8 hK8 => ?_)
    refine wp_region_lit ?_
    refine wpList_plain rfl (fun Ko hKo => ?_)
    go_simp
    refine hKo _ _ ?_
    clear hKo Ko
    try simp only [Act.put, nm1, nm2, nm3, i64_w]
    refine wpList_plain rfl (fun Ko hKo => ?_)
    go_simp
    refine hKo _ _ ?_
    clear hKo Ko
    try simp only [Act.put, nm1, nm2, nm3, i64_w]
    refine wpList_nil ?_
    (try simp only [Exit.then, Exit.inBlock, ↓reduceIte, Nat.reduceEqDiff])
    refine hK8 _ _ ?_
    refine wp_cond_false rfl ?_
    refine wp_seq_k (fun K11 hK11 => ?_)
    refine wp_region_lit ?_
    refine wpList_plain rfl (fun Ko hKo => ?_)
    go_simp
    refine hKo _ _ ?_
    clear hKo Ko
    try simp only [Act.put, nm1, nm2, nm3, i64_w]
    refine wpList_plain rfl (fun Ko hKo => ?_)
    go_simp
    refine hKo _ _ ?_
    clear hKo Ko
    try simp only [Act.put, nm1, nm2, nm3, i64_w]
    refine wpList_nil ?_
    (try simp only [Exit.then, Exit.inBlock, ↓reduceIte, Nat.reduceEqDiff])
    refine hK11 _ _ ?_
    refine wp_cond_true rfl ?_
    refine wp_skip ?_
    (try simp only [Exit.then, Exit.inBlock, ↓reduceIte, Nat.reduceEqDiff])
    refine hK4 _ _ ?_
    refine wp_cond_true rfl ?_
    refine wp_seq_k (fun K13 hK13 => ?_)
    refine wp_region_lit ?_
    refine wpList_plain rfl (fun Ko hKo => ?_)
    go_simp
    refine hKo _ _ ?_
    clear hKo Ko
    try simp only [Act.put, nm1, nm2, nm3, i64_w]
    refine wpList_nil ?_
    (try simp only [Exit.then, Exit.inBlock, ↓reduceIte, Nat.reduceEqDiff])
    refine hK13 _ _ ?_
    refine wp_ret ?_
    (try simp only [Exit.then, Exit.inBlock, ↓reduceIte, Nat.reduceEqDiff])
    refine hQf _ _ _ ?_
    exact bodyPost_ret (v := .bool true) (by first | rfl | (simp [results, Tryd.results40, go_sem]; done) | (simp [results, Tryd.results40, go_sem]; rfl)) rfl ⟨rfl, (Up.refl _)⟩
   ·
    rw [if_neg c12] at H
    replace c12 := Bool.eq_false_iff.mpr c12
    have c12n : (a0 != 7) = true := by rw [bne, c12]; rfl
    have c12p : ¬ a0 = 7 := fun e => by simp [e] at c12
    by_cases c15 : (a0 == 11) = true
    ·
     rw [if_pos c15] at H
     have c15n : (a0 != 11) = false := by rw [bne, c15]; rfl
     obtain rfl := Option.some.inj H
     go_enter Tryd.func40, Tryd.ntmps40
     refine wp_hide (fun Qf hQf => ?_)
     refine wp_seq_k (fun K1 hK1 => ?_)
     refine wp_region_lit ?_
     refine wpList_plain rfl (fun Ko hKo => ?_)
     go_simp
     refine hKo _ _ ?_
     clear hKo Ko
     try simp only [Act.put, nm1, nm2, nm3, i64_w]
     refine wpList_nil ?_
     (try simp only [Exit.then, Exit.inBlock, ↓reduceIte, Nat.reduceEqDiff])
     refine hK1 _ _ ?_
     refine wp_seq_k (fun K2 hK2 => ?_)
     refine wp_seq_k (fun K3 hK3 => ?_)
     refine wp_region_lit ?_
     refine wpList_plain rfl (fun Ko hKo => ?_)
     go_simp
     refine hKo _ _ ?_
     clear hKo Ko
     try simp only [Act.put, nm1, nm2, nm3, i64_w]
     refine wpList_nil ?_
     (try simp only [Exit.then, Exit.inBlock, ↓reduceIte, Nat.reduceEqDiff])
     refine hK3 _ _ ?_
     refine wp_block ?_
     refine wp_seq_k (fun K4 hK4 => ?_)
     refine wp_seq_k (fun K5 hK5 => ?_)
     refine wp_region_lit ?_
     refine wpList_plain rfl (fun Ko hKo => ?_)
     go_simp
     refine hKo _ _ ?_
     clear hKo Ko
     try simp only [Act.put, nm1, nm2, nm3, i64_w]
     refine wpList_plain rfl (fun Ko hKo => ?_)
     go_simp
     refine hKo _ _ ?_
     clear hKo Ko
     try simp only [Act.put, nm1, nm2, nm3, i64_w]
     refine wpList_nil ?_
     (try simp only [Exit.then, Exit.inBlock, ↓reduceIte, Nat.reduceEqDiff])
     refine hK5 _ _ ?_
     refine wp_cond_false rfl ?_
     refine wp_seq_k (fun K8 hK8 => ?_)
     refine wp_region_lit ?_
     refine wpList_plain rfl (fun Ko hKo => ?_)
     go_simp
     refine hKo _ _ ?_
     clear hKo Ko
     try simp only [Act.put, nm1, nm2, nm3, i64_w]
     refine wpList_plain rfl (fun Ko hKo => ?_)
     go_simp
     refine hKo _ _ ?_
     clear hKo Ko
     try simp only [Act.put, nm1, nm2, nm3, i64_w]
     refine wpList_nil ?_
     (try simp only [Exit.then, Exit.inBlock, ↓reduceIte, Nat.reduceEqDiff])
     refine hK8 _ _ ?_
     refine wp_cond_false rfl ?_
     refine wp_seq_k (fun K11 hK11 => ?_)
     refine wp_region_lit ?_
     refine wpList_plain rfl (fun Ko hKo => ?_)
     go_simp
     refine hKo _ _ ?_
     clear hKo Ko
     try simp only [Act.put, nm1, nm2, nm3, i64_w]
     refine wpList_plain rfl (fun Ko hKo => ?_)
     go_simp
     refine hKo _ _ ?_
     clear hKo Ko
     try simp only [Act.put, nm1, nm2, nm3, i64_w]
     refine wpList_nil ?_
     (try simp only [Exit.then, Exit.inBlock, ↓reduceIte, Nat.reduceEqDiff])
     refine hK11 _ _ ?_
     refine wp_cond_false rfl ?_
     refine wp_seq_k (fun K14 hK14 => ?_)
     refine wp_region_lit ?_
     refine wpList_plain rfl (fun Ko hKo => ?_)
     go_simp
     refine hKo _ _ ?_
     clear hKo Ko
     try simp only [Act.put, nm1, nm2, nm3, i64_w]
     refine wpList_plain rfl (fun Ko hKo => ?_)
     go_simp
     refine hKo _ _ ?_
     clear hKo Ko
     try simp only [Act.put, nm1, nm2, nm3, i64_w]
     refine wpList_nil ?_
     (try simp only [Exit.then, Exit.inBlock, ↓reduceIte, Nat.reduceEqDiff])
     refine hK14 _ _ ?_
     refine wp_cond_true rfl ?_
     refine wp_skip ?_
     (try simp only [Exit.then, Exit.inBlock, ↓reduceIte, Nat.reduceEqDiff])
     refine hK4 _ _ ?_
     refine wp_cond_true rfl ?_
     refine wp_seq_k (fun K16 hK16 => ?_)
     refine wp_region_lit ?_
     refine wpList_plain rfl (fun Ko hKo => ?_)
     go_simp
     refine hKo _ _ ?_
     clear hKo Ko
     try simp only [Act.put, nm1, nm2, nm3, i64_w]
     refine wpList_nil ?_
     (try simp only [Exit.then, Exit.inBlock, ↓reduceIte, Nat.reduceEqDiff])
     refine hK16 _ _ ?_
     refine wp_ret ?_
     (try simp only [Exit.then, Exit.inBlock, ↓reduceIte, Nat.reduceEqDiff])
     refine hQf _ _ _ ?_
     exact bodyPost_ret (v := .bool true) (by first | rfl | (simp [results, Tryd.results40, go_sem]; done) | (simp [results, Tryd.results40, go_sem]; rfl)) rfl ⟨rfl, (Up.refl _)⟩
    ·
     rw [if_neg c15] at H
     replace c15 := Bool.eq_false_iff.mpr c15
     have c15n : (a0 != 11) = true := by rw [bne, c15]; rfl
     have c15p : ¬ a0 = 11 := fun e => by simp [e] at c15
     by_cases c18 : (a0 == 13) = true
     ·
      rw [if_pos c18] at H
      have c18n : (a0 != 13) = false := by rw [bne, c18]; rfl
      obtain rfl := Option.some.inj H
      go_enter Tryd.func40, Tryd.ntmps40
      refine wp_hide (fun Qf hQf => ?_)
      refine wp_seq_k (fun K1 hK1 => ?_)
      refine wp_region_lit ?_
      refine wpList_plain rfl (fun Ko hKo => ?_)
      go_simp
      refine hKo _ _ ?_
      clear hKo Ko
      try simp only [Act.put, nm1, nm2, nm3, i64_w]
      refine wpList_nil ?_
      (try simp only [Exit.then, Exit.inBlock, ↓reduceIte, Nat.reduceEqDiff])
      refine hK1 _ _ ?_
      refine wp_seq_k (fun K2 hK2 => ?_)
      refine wp_seq_k (fun K3 hK3 => ?_)
      refine wp_region_lit ?_
      refine wpList_plain rfl (fun Ko hKo => ?_)
      go_simp
      refine hKo _ _ ?_
      clear hKo Ko
      try simp only [Act.put, nm1, nm2, nm3, i64_w]
      refine wpList_nil ?_
      (try simp only [Exit.then, Exit.inBlock, ↓reduceIte, Nat.reduceEqDiff])
      refine hK3 _ _ ?_
      refine wp_block ?_
      refine wp_seq_k (fun K4 hK4 => ?_)
      refine wp_seq_k (fun K5 hK5 => ?_)
      refine wp_region_lit ?_
      refine wpList_plain rfl (fun Ko hKo => ?_)
      go_simp
      refine hKo _ _ ?_
      clear hKo Ko
      try simp only [Act.put, nm1, nm2, nm3, i64_w]
      refine wpList_plain rfl (fun Ko hKo => ?_)
      go_simp
      refine hKo _ _ ?_
      clear hKo Ko
      try simp only [Act.put, nm1, nm2, nm3, i64_w]
      refine wpList_nil ?_
      (try simp only [Exit.then, Exit.inBlock, ↓reduceIte, Nat.reduceEqDiff])
      refine hK5 _ _ ?_
      refine wp_cond_false rfl ?_
      refine wp_seq_k (fun K8 hK8 => ?_)
      refine wp_region_lit ?_
      refine wpList_plain rfl (fun Ko hKo => ?_)
      go_simp
      refine hKo _ _ ?_
      clear hKo Ko
      try simp only [Act.put, nm1, nm2, nm3, i64_w]
      refine wpList_plain rfl (fun Ko hKo => ?_)
      go_simp
      refine hKo _ _ ?_
      clear hKo Ko
      try simp only [Act.put, nm1, nm2, nm3, i64_w]
      refine wpList_nil ?_
      (try simp only [Exit.then, Exit.inBlock, ↓reduceIte, Nat.reduceEqDiff])
      refine hK8 _ _ ?_
      refine wp_cond_false rfl ?_
      refine wp_seq_k (fun K11 hK11 => ?_)
      refine wp_region_lit ?_
      refine wpList_plain rfl (fun Ko hKo => ?_)
      go_simp
      refine hKo _ _ ?_
      clear hKo Ko
      try simp only [Act.put, nm1, nm2, nm3, i64_w]
      refine wpList_plain rfl (fun Ko hKo => ?_)
      go_simp
      refine hKo _ _ ?_
      clear hKo Ko
      try simp only [Act.put, nm1, nm2, nm3, i64_w]
      refine wpList_nil ?_
      (try simp only [Exit.then, Exit.inBlock, ↓reduceIte, Nat.reduceEqDiff])
      refine hK11 _ _ ?_
      refine wp_cond_false rfl ?_
      refine wp_seq_k (fun K14 hK14 => ?_)
      refine wp_region_lit ?_
      refine wpList_plain rfl (fun Ko hKo => ?_)
      go_simp
      refine hKo _ _ ?_
      clear hKo Ko
      try simp only [Act.put, nm1, nm2, nm3, i64_w]
      refine wpList_plain rfl (fun Ko hKo => ?_)
      go_simp
      refine hKo _ _ ?_
      clear hKo Ko
      try simp only [Act.put, nm1, nm2, nm3, i64_w]
      refine wpList_nil ?_
      (try simp only [Exit.then, Exit.inBlock, ↓reduceIte, Nat.reduceEqDiff])
      refine hK14 _ _ ?_
      refine wp_cond_false rfl ?_
      refine wp_seq_k (fun K17 hK17 => ?_)
      refine wp_region_lit ?_
      refine wpList_plain rfl (fun Ko hKo => ?_)
      go_simp
      refine hKo _ _ ?_
      clear hKo Ko
      try simp only [Act.put, nm1, nm2, nm3, i64_w]
      refine wpList_plain rfl (fun Ko hKo => ?_)
      go_simp
      refine hKo _ _ ?_
      clear hKo Ko
      try simp only [Act.put, nm1, nm2, nm3, i64_w]
      refine wpList_nil ?_
      (try simp only [Exit.then, Exit.inBlock, ↓reduceIte, Nat.reduceEqDiff])
      refine hK17 _ _ ?_
      refine wp_cond_true rfl ?_
      refine wp_skip ?_
      (try simp only [Exit.then, Exit.inBlock, ↓reduceIte, Nat.reduceEqDiff])
      refine hK4 _ _ ?_
      refine wp_cond_true rfl ?_
      refine wp_seq_k (fun K19 hK19 => ?_)
      refine wp_region_lit ?_
      refine wpList_plain rfl (fun Ko hKo => ?_)
      go_simp
      refine hKo _ _ ?_
      clear hKo Ko
      try simp only [Act.put, nm1, nm2, nm3, i64_w]
      refine wpList_nil ?_
      (try simp only [Exit.then, Exit.inBlock, ↓reduceIte, Nat.reduceEqDiff])
      refine hK19 _ _ ?_
      refine wp_ret ?_
      (try simp only [Exit.then, Exit.inBlock, ↓reduceIte, Nat.reduceEqDiff])
      refine hQf _ _ _ ?_
      exact bodyPost_ret (v := .bool true) (by first | rfl | (simp [results, Tryd.results40, go_sem]; done) | (simp [results, Tryd.results40, go_sem]; rfl)) rfl ⟨rfl, (Up.refl _)⟩
     ·
      rw [if_neg c18] at H
      replace c18 := Bool.eq_false_iff.mpr c18
      have c18n : (a0 != 13) = true := by rw [bne, c18]; rfl
      have c18p : ¬ a0 = 13 := fun e => by simp [e] at c18
      by_cases c21 : (a0 == 17) = true
      ·
       rw [if_pos c21] at H
       have c21n : (a0 != 17) = false := by rw [bne, c21]; rfl
       obtain rfl := Option.some.inj H
       go_enter Tryd.func40, Tryd.ntmps40
       refine wp_hide (fun Qf hQf => ?_)
       refine wp_seq_k (fun K1 hK1 => ?_)
       refine wp_region_lit ?_
       refine wpList_plain rfl (fun Ko hKo => ?_)
       go_simp
       refine hKo _ _ ?_
       clear hKo Ko
       try simp only [Act.put, nm1, nm2, nm3, i64_w]
       refine wpList_nil ?_
       (try simp only [Exit.then, Exit.inBlock, ↓reduceIte, Nat.reduceEqDiff])
       refine hK1 _ _ ?_
       refine wp_seq_k (fun K2 hK2 => ?_)
       refine wp_seq_k (fun K3 hK3 => ?_)
       refine wp_region_lit ?_
       refine wpList_plain rfl (fun Ko hKo => ?_)
       go_simp
       refine hKo _ _ ?_
       clear hKo Ko
       try simp only [Act.put, nm1, nm2, nm3, i64_w]
       refine wpList_nil ?_
       (try simp only [Exit.then, Exit.inBlock, ↓reduceIte, Nat.reduceEqDiff])
       refine hK3 _ _ ?_
       refine wp_block ?_
       refine wp_seq_k (fun K4 hK4 => ?_)
       refine wp_seq_k (fun K5 hK5 => ?_)
       refine wp_region_lit ?_
       refine wpList_plain rfl (fun Ko hKo => ?_)
       go_simp
       refine hKo _ _ ?_
       clear hKo Ko
       try simp only [Act.put, nm1, nm2, nm3, i64_w]
       refine wpList_plain rfl (fun Ko hKo => ?_)
       go_simp
       refine hKo _ _ ?_
       clear hKo Ko
       try simp only [Act.put, nm1, nm2, nm3, i64_w]
       refine wpList_nil ?_
       (try simp only [Exit.then, Exit.inBlock, ↓reduceIte, Nat.reduceEqDiff])
       refine hK5 _ _ ?_
       refine wp_cond_false rfl ?_
       refine wp_seq_k (fun K8 hK8 => ?_)
       refine wp_region_lit ?_
       refine wpList_plain rfl (fun Ko hKo => ?_)
       go_simp
       refine hKo _ _ ?_
       clear hKo Ko
       try simp only [Act.put, nm1, nm2, nm3, i64_w]
       refine wpList_plain rfl (fun Ko hKo => ?_)
       go_simp
       refine hKo _ _ ?_
       clear hKo Ko
       try simp only [Act.put, nm1, nm2, nm3, i64_w]
       refine wpList_nil ?_
       (try simp only [Exit.then, Exit.inBlock, ↓reduceIte, Nat.reduceEqDiff])
       refine hK8 _ _ ?_
       refine wp_cond_false rfl ?_
       refine wp_seq_k (fun K11 hK11 => ?_)
       refine wp_region_lit ?_
       refine wpList_plain rfl (fun Ko hKo => ?_)
       go_simp
       refine hKo _ _ ?_
       clear hKo Ko
       try simp only [Act.put, nm1, nm2, nm3, i64_w]
       refine wpList_plain rfl (fun Ko hKo => ?_)
       go_simp
       refine hKo _ _ ?_
       clear hKo Ko
       try simp only [Act.put, nm1, nm2, nm3, i64_w]
       refine wpList_nil ?_
       (try simp only [Exit.then, Exit.inBlock, ↓reduceIte, Nat.reduceEqDiff])
       refine hK11 _ _ ?_
       refine wp_cond_false rfl ?_
       refine wp_seq_k (fun K14 hK14 => ?_)
       refine wp_region_lit ?_
       refine wpList_plain rfl (fun Ko hKo => ?_)
       go_simp
       refine hKo _ _ ?_
       clear hKo Ko
       try simp only [Act.put, nm1, nm2, nm3, i64_w]
       refine wpList_plain rfl (fun Ko hKo => ?_)
       go_simp
       refine hKo _ _ ?_
       clear hKo Ko
       try simp only [Act.put, nm1, nm2, nm3, i64_w]
       refine wpList_nil ?_
       (try simp only [Exit.then, Exit.inBlock, ↓reduceIte, Nat.reduceEqDiff])
       refine hK14 _ _ ?_
       refine wp_cond_false rfl ?_
       refine wp_seq_k (fun K17 hK17 => ?_)
       refine wp_region_lit ?_
       refine wpList_plain rfl (fun Ko hKo => ?_)
       go_simp
       refine hKo _ _ ?_
       clear hKo Ko
       try simp only [Act.put, nm1, nm2, nm3, i64_w]
       refine wpList_plain rfl (fun Ko hKo => ?_)
       go_simp
       refine hKo _ _ ?_
       clear hKo Ko
       try simp only [Act.put, nm1, nm2, nm3, i64_w]
       refine wpList_nil ?_
       (try simp only [Exit.then, Exit.inBlock, ↓reduceIte, Nat.reduceEqDiff])
       refine hK17 _ _ ?_
       refine wp_cond_false rfl ?_
       refine wp_seq_k (fun K20 hK20 => ?_)
       refine wp_region_lit ?_
       refine wpList_plain rfl (fun Ko hKo => ?_)
       go_simp
       refine hKo _ _ ?_
       clear hKo Ko
       try simp only [Act.put, nm1, nm2, nm3, i64_w]
       refine wpList_plain rfl (fun Ko hKo => ?_)
       go_simp
       refine hKo _ _ ?_
       clear hKo Ko
       try simp only [Act.put, nm1, nm2, nm3, i64_w]
       refine wpList_nil ?_
       (try simp only [Exit.then, Exit.inBlock, ↓reduceIte, Nat.reduceEqDiff])
       refine hK20 _ _ ?_
       refine wp_cond_true rfl ?_
       refine wp_skip ?_
       (try simp only [Exit.then, Exit.inBlock, ↓reduceIte, Nat.reduceEqDiff])
       refine hK4 _ _ ?_
       refine wp_cond_true rfl ?_
       refine wp_seq_k (fun K22 hK22 => ?_)
       refine wp_region_lit ?_
       refine wpList_plain rfl (fun Ko hKo => ?_)
       go_simp
       refine hKo _ _ ?_
       clear hKo Ko
       try simp only [Act.put, nm1, nm2, nm3, i64_w]
       refine wpList_nil ?_
       (try simp only [Exit.then, Exit.inBlock, ↓reduceIte, Nat.reduceEqDiff])
       refine hK22 _ _ ?_
       refine wp_ret ?_
       (try simp only [Exit.then, Exit.inBlock, ↓reduceIte, Nat.reduceEqDiff])
       refine hQf _ _ _ ?_
       exact bodyPost_ret (v := .bool true) (by first | rfl | (simp [results, Tryd.results40, go_sem]; done) | (simp [results, Tryd.results40, go_sem]; rfl)) rfl ⟨rfl, (Up.refl _)⟩
      ·
       rw [if_neg c21] at H
       replace c21 := Bool.eq_false_iff.mpr c21
       have c21n : (a0 != 17) = true := by rw [bne, c21]; rfl
       have c21p : ¬ a0 = 17 := fun e => by simp [e] at c21
       by_cases c24 : (a0 == 19) = true
       ·
        rw [if_pos c24] at H
        have c24n : (a0 != 19) = false := by rw [bne, c24]; rfl
        obtain rfl := Option.some.inj H
        go_enter Tryd.func40, Tryd.ntmps40
        refine wp_hide (fun Qf hQf => ?_)
        refine wp_seq_k (fun K1 hK1 => ?_)
        refine wp_region_lit ?_
        refine wpList_plain rfl (fun Ko hKo => ?_)
        go_simp
        refine hKo _ _ ?_
        clear hKo Ko
        try simp only [Act.put, nm1, nm2, nm3, i64_w]
        refine wpList_nil ?_
        (try simp only [Exit.then, Exit.inBlock, ↓reduceIte, Nat.reduceEqDiff])
        refine hK1 _ _ ?_
        refine wp_seq_k (fun K2 hK2 => ?_)
        refine wp_seq_k (fun K3 hK3 => ?_)
        refine wp_region_lit ?_
        refine wpList_plain rfl (fun Ko hKo => ?_)
        go_simp
        refine hKo _ _ ?_
        clear hKo Ko
        try simp only [Act.put, nm1, nm2, nm3, i64_w]
        refine wpList_nil ?_
        (try simp only [Exit.then, Exit.inBlock, ↓reduceIte, Nat.reduceEqDiff])
        refine hK3 _ _ ?_
        refine wp_block ?_
        refine wp_seq_k (fun K4 hK4 => ?_)
        refine wp_seq_k (fun K5 hK5 => ?_)
        refine wp_region_lit ?_
        refine wpList_plain rfl (fun Ko hKo => ?_)
        go_simp
        refine hKo _ _ ?_
        clear hKo Ko
        try simp only [Act.put, nm1, nm2, nm3, i64_w]
        refine wpList_plain rfl (fun Ko hKo => ?_)
        go_simp
        refine hKo _ _ ?_
        clear hKo Ko
        try simp only [Act.put, nm1, nm2, nm3, i64_w]
        refine wpList_nil ?_
        (try simp only [Exit.then, Exit.inBlock, ↓reduceIte, Nat.reduceEqDiff])
        refine hK5 _ _ ?_
        refine wp_cond_false rfl ?_
        refine wp_seq_k (fun K8 hK8 => ?_)
        refine wp_region_lit ?_
        refine wpList_plain rfl (fun Ko hKo => ?_)
        go_simp
        refine hKo _ _ ?_
        clear hKo Ko
        try simp only [Act.put, nm1, nm2, nm3, i64_w]
        refine wpList_plain rfl (fun Ko hKo => ?_)
        go_simp
        refine hKo _ _ ?_
        clear hKo Ko
        try simp only [Act.put, nm1, nm2, nm3, i64_w]
        refine wpList_nil ?_
        (try simp only [Exit.then, Exit.inBlock, ↓reduceIte, Nat.reduceEqDiff])
        refine hK8 _ _ ?_
        refine wp_cond_false rfl ?_
        refine wp_seq_k (fun K11 hK11 => ?_)
        refine wp_region_lit ?_
        refine wpList_plain rfl (fun Ko hKo => ?_)
        go_simp
        refine hKo _ _ ?_
        clear hKo Ko
        try simp only [Act.put, nm1, nm2, nm3, i64_w]
        refine wpList_plain rfl (fun Ko hKo => ?_)
        go_simp
        refine hKo _ _ ?_
        clear hKo Ko
        try simp only [Act.put, nm1, nm2, nm3, i64_w]
        refine wpList_nil ?_
        (try simp only [Exit.then, Exit.inBlock, ↓reduceIte, Nat.reduceEqDiff])
        refine hK11 _ _ ?_
        refine wp_cond_false rfl ?_
        refine wp_seq_k (fun K14 hK14 => ?_)
        refine wp_region_lit ?_
        refine wpList_plain rfl (fun Ko hKo => ?_)
        go_simp
        refine hKo _ _ ?_
        clear hKo Ko
        try simp only [Act.put, nm1, nm2, nm3, i64_w]
        refine wpList_plain rfl (fun Ko hKo => ?_)
        go_simp
        refine hKo _ _ ?_
        clear hKo Ko
        try simp only [Act.put, nm1, nm2, nm3, i64_w]
        refine wpList_nil ?_
        (try simp only [Exit.then, Exit.inBlock, ↓reduceIte, Nat.reduceEqDiff])
        refine hK14 _ _ ?_
        refine wp_cond_false rfl ?_
        refine wp_seq_k (fun K17 hK17 => ?_)
        refine wp_region_lit ?_
        refine wpList_plain rfl (fun Ko hKo => ?_)
        go_simp
        refine hKo _ _ ?_
        clear hKo Ko
        try simp only [Act.put, nm1, nm2, nm3, i64_w]
        refine wpList_plain rfl (fun Ko hKo => ?_)
        go_simp
        refine hKo _ _ ?_
        clear hKo Ko
        try simp only [Act.put, nm1, nm2, nm3, i64_w]
        refine wpList_nil ?_
        (try simp only [Exit.then, Exit.inBlock, ↓reduceIte, Nat.reduceEqDiff])
        refine hK17 _ _ ?_
        refine wp_cond_false rfl ?_
        refine wp_seq_k (fun K20 hK20 => ?_)
        refine wp_region_lit ?_
        refine wpList_plain rfl (fun Ko hKo => ?_)
        go_simp
        refine hKo _ _ ?_
        clear hKo Ko
        try simp only [Act.put, nm1, nm2, nm3, i64_w]
        refine wpList_plain rfl (fun Ko hKo => ?_)
        go_simp
        refine hKo _ _ ?_
        clear hKo Ko
        try simp only [Act.put, nm1, nm2, nm3, i64_w]
        refine wpList_nil ?_
        (try simp only [Exit.then, Exit.inBlock, ↓reduceIte, Nat.reduceEqDiff])
        refine hK20 _ _ ?_
        refine wp_cond_false rfl ?_
        refine wp_seq_k (fun K23 hK23 => ?_)
        refine wp_region_lit ?_
        refine wpList_plain rfl (fun Ko hKo => ?_)
        go_simp
        refine hKo _ _ ?_
        clear hKo Ko
        try simp only [Act.put, nm1, nm2, nm3, i64_w]
        refine wpList_plain rfl (fun Ko hKo => ?_)
        go_simp
        refine hKo _ _ ?_
        clear hKo Ko
        try simp only [Act.put, nm1, nm2, nm3, i64_w]
        refine wpList_nil ?_
        (try simp only [Exit.then, Exit.inBlock, ↓reduceIte, Nat.reduceEqDiff])
        refine hK23 _ _ ?_
        refine wp_cond_true rfl ?_
        refine wp_skip ?_
        (try simp only [Exit.then, Exit.inBlock, ↓reduceIte, Nat.reduceEqDiff])
        refine hK4 _ _ ?_
        refine wp_cond_true rfl ?_
        refine wp_seq_k (fun K25 hK25 => ?_)
        refine wp_region_lit ?_
        refine wpList_plain rfl (fun Ko hKo => ?_)
        go_simp
        refine hKo _ _ ?_
        clear hKo Ko
        try simp only [Act.put, nm1, nm2, nm3, i64_w]
        refine wpList_nil ?_
        (try simp only [Exit.then, Exit.inBlock, ↓reduceIte, Nat.reduceEqDiff])
        refine hK25 _ _ ?_
        refine wp_ret ?_
        (try simp only [Exit.then, Exit.inBlock, ↓reduceIte, Nat.reduceEqDiff])
        refine hQf _ _ _ ?_
        exact bodyPost_ret (v := .bool true) (by first | rfl | (simp [results, Tryd.results40, go_sem]; done) | (simp [results, Tryd.results40, go_sem]; rfl)) rfl ⟨rfl, (Up.refl _)⟩
       ·
        rw [if_neg c24] at H
        replace c24 := Bool.eq_false_iff.mpr c24
        have c24n : (a0 != 19) = true := by rw [bne, c24]; rfl
        have c24p : ¬ a0 = 19 := fun e => by simp [e] at c24
        by_cases c27 : (a0 == 23) = true
        ·
         rw [if_pos c27] at H
         have c27n : (a0 != 23) = false := by rw [bne, c27]; rfl
         obtain rfl := Option.some.inj H
         go_enter Tryd.func40, Tryd.ntmps40
         refine wp_hide (fun Qf hQf => ?_)
         refine wp_seq_k (fun K1 hK1 => ?_)
         refine wp_region_lit ?_
         refine wpList_plain rfl (fun Ko hKo => ?_)
         go_simp
         refine hKo _ _ ?_
         clear hKo Ko
         try simp only [Act.put, nm1, nm2, nm3, i64_w]
         refine wpList_nil ?_
         (try simp only [Exit.then, Exit.inBlock, ↓reduceIte, Nat.reduceEqDiff])
         refine hK1 _ _ ?_
         refine wp_seq_k (fun K2 hK2 => ?_)
         refine wp_seq_k (fun K3 hK3 => ?_)
         refine wp_region_lit ?_
         refine wpList_plain rfl (fun Ko hKo => ?_)
         go_simp
         refine hKo _ _ ?_
         clear hKo Ko
         try simp only [Act.put, nm1, nm2, nm3, i64_w]
         refine wpList_nil ?_
         (try simp only [Exit.then, Exit.inBlock, ↓reduceIte, Nat.reduceEqDiff])
         refine hK3 _ _ ?_
         refine wp_block ?_
         refine wp_seq_k (fun K4 hK4 => ?_)
         refine wp_seq_k (fun K5 hK5 => ?_)
         refine wp_region_lit ?_
         refine wpList_plain rfl (fun Ko hKo => ?_)
         go_simp
         refine hKo _ _ ?_
         clear hKo Ko
         try simp only [Act.put, nm1, nm2, nm3, i64_w]
         refine wpList_plain rfl (fun Ko hKo => ?_)
         go_simp
         refine hKo _ _ ?_
         clear hKo Ko
         try simp only [Act.put, nm1, nm2, nm3, i64_w]
         refine wpList_nil ?_
         (try simp only [Exit.then, Exit.inBlock, ↓reduceIte, Nat.reduceEqDiff])
         refine hK5 _ _ ?_
         refine wp_cond_false rfl ?_
         refine wp_seq_k (fun K8 hK8 => ?_)
         refine wp_region_lit ?_
         refine wpList_plain rfl (fun Ko hKo => ?_)
         go_simp
         refine hKo _ _ ?_
         clear hKo Ko
         try simp only [Act.put, nm1, nm2, nm3, i64_w]
         refine wpList_plain rfl (fun Ko hKo => ?_)
         go_simp
         refine hKo _ _ ?_
         clear hKo Ko
         try simp only [Act.put, nm1, nm2, nm3, i64_w]
         refine wpList_nil ?_
         (try simp only [Exit.then, Exit.inBlock, ↓reduceIte, Nat.reduceEqDiff])
         refine hK8 _ _ ?_
         refine wp_cond_false rfl ?_
         refine wp_seq_k (fun K11 hK11 => ?_)
         refine wp_region_lit ?_
         refine wpList_plain rfl (fun Ko hKo => ?_)
         go_simp
         refine hKo _ _ ?_
         clear hKo Ko
         try simp only [Act.put, nm1, nm2, nm3, i64_w]
         refine wpList_plain rfl (fun Ko hKo => ?_)
         go_simp
         refine hKo _ _ ?_
         clear hKo Ko
         try simp only [Act.put, nm1, nm2, nm3, i64_w]
         refine wpList_nil ?_
         (try simp only [Exit.then, Exit.inBlock, ↓reduceIte, Nat.reduceEqDiff])
         refine hK11 _ _ ?_
         refine wp_cond_false rfl ?_
         refine wp_seq_k (fun K14 hK14 => ?_)
         refine wp_region_lit ?_
         refine wpList_plain rfl (fun Ko hKo => ?_)
         go_simp
         refine hKo _ _ ?_
         clear hKo Ko
         try simp only [Act.put, nm1, nm2, nm3, i64_w]
         refine wpList_plain rfl (fun Ko hKo => ?_)
         go_simp
         refine hKo _ _ ?_
         clear hKo Ko
         try simp only [Act.put, nm1, nm2, nm3, i64_w]
         refine wpList_nil ?_
         (try simp only [Exit.then, Exit.inBlock, ↓reduceIte, Nat.reduceEqDiff])
         refine hK14 _ _ ?_
         refine wp_cond_false rfl ?_
         refine wp_seq_k (fun K17 hK17 => ?_)
         refine wp_region_lit ?_
         refine wpList_plain rfl (fun Ko hKo => ?_)
         go_simp
         refine hKo _ _ ?_
         clear hKo Ko
         try simp only [Act.put, nm1, nm2, nm3, i64_w]
         refine wpList_plain rfl (fun Ko hKo => ?_)
         go_simp
         refine hKo _ _ ?_
         clear hKo Ko
         try simp only [Act.put, nm1, nm2, nm3, i64_w]
         refine wpList_nil ?_
         (try simp only [Exit.then, Exit.inBlock, ↓reduceIte, Nat.reduceEqDiff])
         refine hK17 _ _ ?_
         refine wp_cond_false rfl ?_
         refine wp_seq_k (fun K20 hK20 => ?_)
         refine wp_region_lit ?_
         refine wpList_plain rfl (fun Ko hKo => ?_)
         go_simp
         refine hKo _ _ ?_
         clear hKo Ko
         try simp only [Act.put, nm1, nm2, nm3, i64_w]
         refine wpList_plain rfl (fun Ko hKo => ?_)
         go_simp
         refine hKo _ _ ?_
         clear hKo Ko
         try simp only [Act.put, nm1, nm2, nm3, i64_w]
         refine wpList_nil ?_
         (try simp only [Exit.then, Exit.inBlock, ↓reduceIte, Nat.reduceEqDiff])
         refine hK20 _ _ ?_
         refine wp_cond_false rfl ?_
         refine wp_seq_k (fun K23 hK23 => ?_)
         refine wp_region_lit ?_
         refine wpList_plain rfl (fun Ko hKo => ?_)
         go_simp
         refine hKo _ _ ?_
         clear hKo Ko
         try simp only [Act.put, nm1, nm2, nm3, i64_w]
         refine wpList_plain rfl (fun Ko hKo => ?_)
         go_simp
         refine hKo _ _ ?_
         clear hKo Ko
         try simp only [Act.put, nm1, nm2, nm3, i64_w]
         refine wpList_nil ?_
         (try simp only [Exit.then, Exit.inBlock, ↓reduceIte, Nat.reduceEqDiff])
         refine hK23 _ _ ?_
         refine wp_cond_false rfl ?_
         refine wp_seq_k (fun K26 hK26 => ?_)
         refine wp_region_lit ?_
         refine wpList_plain rfl (fun Ko hKo => ?_)
         go_simp
         refine hKo _ _ ?_
         clear hKo Ko
         try simp only [Act.put, nm1, nm2, nm3, i64_w]
         refine wpList_plain rfl (fun Ko hKo => ?_)
         go_simp
         refine hKo _ _ ?_
         clear hKo Ko
         try simp only [Act.put, nm1, nm2, nm3, i64_w]
         refine wpList_nil ?_
         (try simp only [Exit.then, Exit.inBlock, ↓reduceIte, Nat.reduceEqDiff])
         refine hK26 _ _ ?_
         refine wp_cond_true rfl ?_
         refine wp_skip ?_
         (try simp only [Exit.then, Exit.inBlock, ↓reduceIte, Nat.reduceEqDiff])
         refine hK4 _ _ ?_
         refine wp_cond_true rfl ?_
         refine wp_seq_k (fun K28 hK28 => ?_)
         refine wp_region_lit ?_
         refine wpList_plain rfl (fun Ko hKo => ?_)
         go_simp
         refine hKo _ _ ?_
         clear hKo Ko
         try simp only [Act.put, nm1, nm2, nm3, i64_w]
         refine wpList_nil ?_
         (try simp only [Exit.then, Exit.inBlock, ↓reduceIte, Nat.reduceEqDiff])
         refine hK28 _ _ ?_
         refine wp_ret ?_
         (try simp only [Exit.then, Exit.inBlock, ↓reduceIte, Nat.reduceEqDiff])
         refine hQf _ _ _ ?_
         exact bodyPost_ret (v := .bool true) (by first | rfl | (simp [results, Tryd.results40, go_sem]; done) | (simp [results, Tryd.results40, go_sem]; rfl)) rfl ⟨rfl, (Up.refl _)⟩
        ·
         rw [if_neg c27] at H
         replace c27 := Bool.eq_false_iff.mpr c27
         have c27n : (a0 != 23) = true := by rw [bne, c27]; rfl
         have c27p : ¬ a0 = 23 := fun e => by simp [e] at c27
         by_cases c30 : (a0 == 29) = true
         ·
          rw [if_pos c30] at H
          have c30n : (a0 != 29) = false := by rw [bne, c30]; rfl
          obtain rfl := Option.some.inj H
          go_enter Tryd.func40, Tryd.ntmps40
          refine wp_hide (fun Qf hQf => ?_)
          refine wp_seq_k (fun K1 hK1 => ?_)
          refine wp_region_lit ?_
          refine wpList_plain rfl (fun Ko hKo => ?_)
          go_simp
          refine hKo _ _ ?_
          clear hKo Ko
          try simp only [Act.put, nm1, nm2, nm3, i64_w]
          refine wpList_nil ?_
          (try simp only [Exit.then, Exit.inBlock, ↓reduceIte, Nat.reduceEqDiff])
          refine hK1 _ _ ?_
          refine wp_seq_k (fun K2 hK2 => ?_)
          refine wp_seq_k (fun K3 hK3 => ?_)
          refine wp_region_lit ?_
          refine wpList_plain rfl (fun Ko hKo => ?_)
          go_simp
          refine hKo _ _ ?_
          clear hKo Ko
          try simp only [Act.put, nm1, nm2, nm3, i64_w]
          refine wpList_nil ?_
          (try simp only [Exit.then, Exit.inBlock, ↓reduceIte, Nat.reduceEqDiff])
          refine hK3 _ _ ?_
          refine wp_block ?_
          refine wp_seq_k (fun K4 hK4 => ?_)
          refine wp_seq_k (fun K5 hK5 => ?_)
          refine wp_region_lit ?_
          refine wpList_plain rfl (fun Ko hKo => ?_)
          go_simp
          refine hKo _ _ ?_
          clear hKo Ko
          try simp only [Act.put, nm1, nm2, nm3, i64_w]
          refine wpList_plain rfl (fun Ko hKo => ?_)
          go_simp
          refine hKo _ _ ?_
          clear hKo Ko
          try simp only [Act.put, nm1, nm2, nm3, i64_w]
          refine wpList_nil ?_
          (try simp only [Exit.then, Exit.inBlock, ↓reduceIte, Nat.reduceEqDiff])
          refine hK5 _ _ ?_
          refine wp_cond_false rfl ?_
          refine wp_seq_k (fun K8 hK8 => ?_)
          refine wp_region_lit ?_
          refine wpList_plain rfl (fun Ko hKo => ?_)
          go_simp
          refine hKo _ _ ?_
          clear hKo Ko
          try simp only [Act.put, nm1, nm2, nm3, i64_w]
          refine wpList_plain rfl (fun Ko hKo => ?_)
          go_simp
          refine hKo _ _ ?_
          clear hKo Ko
          try simp only [Act.put, nm1, nm2, nm3, i64_w]
          refine wpList_nil ?_
          (try simp only [Exit.then, Exit.inBlock, ↓reduceIte, Nat.reduceEqDiff])
          refine hK8 _ _ ?_
          refine wp_cond_false rfl ?_
          refine wp_seq_k (fun K11 hK11 => ?_)
          refine wp_region_lit ?_
          refine wpList_plain rfl (fun Ko hKo => ?_)
          go_simp
          refine hKo _ _ ?_
          clear hKo Ko
          try simp only [Act.put, nm1, nm2, nm3, i64_w]
          refine wpList_plain rfl (fun Ko hKo => ?_)
          go_simp
          refine hKo _ _ ?_
          clear hKo Ko
          try simp only [Act.put, nm1, nm2, nm3, i64_w]
          refine wpList_nil ?_
          (try simp only [Exit.then, Exit.inBlock, ↓reduceIte, Nat.reduceEqDiff])
          refine hK11 _ _ ?_
          refine wp_cond_false rfl ?_
          refine wp_seq_k (fun K14 hK14 => ?_)
          refine wp_region_lit ?_
          refine wpList_plain rfl (fun Ko hKo => ?_)
          go_simp
          refine hKo _ _ ?_
          clear hKo Ko
          try simp only [Act.put, nm1, nm2, nm3, i64_w]
          refine wpList_plain rfl (fun Ko hKo => ?_)
          go_simp
          refine hKo _ _ ?_
          clear hKo Ko
          try simp only [Act.put, nm1, nm2, nm3, i64_w]
          refine wpList_nil ?_
          (try simp only [Exit.then, Exit.inBlock, ↓reduceIte, Nat.reduceEqDiff])
          refine hK14 _ _ ?_
          refine wp_cond_false rfl ?_
          refine wp_seq_k (fun K17 hK17 => ?_)
          refine wp_region_lit ?_
          refine wpList_plain rfl (fun Ko hKo => ?_)
          go_simp
          refine hKo _ _ ?_
          clear hKo Ko
          try simp only [Act.put, nm1, nm2, nm3, i64_w]
          refine wpList_plain rfl (fun Ko hKo => ?_)
          go_simp
          refine hKo _ _ ?_
          clear hKo Ko
          try simp only [Act.put, nm1, nm2, nm3, i64_w]
          refine wpList_nil ?_
          (try simp only [Exit.then, Exit.inBlock, ↓reduceIte, Nat.reduceEqDiff])
          refine hK17 _ _ ?_
          refine wp_cond_false rfl ?_
          refine wp_seq_k (fun K20 hK20 => ?_)
          refine wp_region_lit ?_
          refine wpList_plain rfl (fun Ko hKo => ?_)
          go_simp
          refine hKo _ _ ?_
          clear hKo Ko
          try simp only [Act.put, nm1, nm2, nm3, i64_w]
          refine wpList_plain rfl (fun Ko hKo => ?_)
          go_simp
          refine hKo _ _ ?_
          clear hKo Ko
          try simp only [Act.put, nm1, nm2, nm3, i64_w]
          refine wpList_nil ?_
          (try simp only [Exit.then, Exit.inBlock, ↓reduceIte, Nat.reduceEqDiff])
          refine hK20 _ _ ?_
          refine wp_cond_false rfl ?_
          refine wp_seq_k (fun K23 hK23 => ?_)
          refine wp_region_lit ?_
          refine wpList_plain rfl (fun Ko hKo => ?_)
          go_simp
          refine hKo _ _ ?_
          clear hKo Ko
          try simp only [Act.put, nm1, nm2, nm3, i64_w]
          refine wpList_plain rfl (fun Ko hKo => ?_)
          go_simp
          refine hKo _ _ ?_
          clear hKo Ko
          try simp only [Act.put, nm1, nm2, nm3, i64_w]
          refine wpList_nil ?_
          (try simp only [Exit.then, Exit.inBlock, ↓reduceIte, Nat.reduceEqDiff])
          refine hK23 _ _ ?_
          refine wp_cond_false rfl ?_
          refine wp_seq_k (fun K26 hK26 => ?_)
          refine wp_region_lit ?_
          refine wpList_plain rfl (fun Ko hKo => ?_)
          go_simp
          refine hKo _ _ ?_
          clear hKo Ko
          try simp only [Act.put, nm1, nm2, nm3, i64_w]
          refine wpList_plain rfl (fun Ko hKo => ?_)
          go_simp
          refine hKo _ _ ?_
          clear hKo Ko
          try simp only [Act.put, nm1, nm2, nm3, i64_w]
          refine wpList_nil ?_
          (try simp only [Exit.then, Exit.inBlock, ↓reduceIte, Nat.reduceEqDiff])
          refine hK26 _ _ ?_
          refine wp_cond_false rfl ?_
          refine wp_seq_k (fun K29 hK29 => ?_)
          refine wp_region_lit ?_
          refine wpList_plain rfl (fun Ko hKo => ?_)
          go_simp
          refine hKo _ _ ?_
          clear hKo Ko
          try simp only [Act.put, nm1, nm2, nm3, i64_w]
          refine wpList_plain rfl (fun Ko hKo => ?_)
          go_simp
          refine hKo _ _ ?_
          clear hKo Ko
          try simp only [Act.put, nm1, nm2, nm3, i64_w]
          refine wpList_nil ?_
          (try simp only [Exit.then, Exit.inBlock, ↓reduceIte, Nat.reduceEqDiff])
          refine hK29 _ _ ?_
          refine wp_cond_true rfl ?_
          refine wp_skip ?_
          (try simp only [Exit.then, Exit.inBlock, ↓reduceIte, Nat.reduceEqDiff])
          refine hK4 _ _ ?_
          refine wp_cond_true rfl ?_
          refine wp_seq_k (fun K31 hK31 => ?_)
          refine wp_region_lit ?_
          refine wpList_plain rfl (fun Ko hKo => ?_)
          go_simp
          refine hKo _ _ ?_
          clear hKo Ko
          try simp only [Act.put, nm1, nm2, nm3, i64_w]
          refine wpList_nil ?_
          (try simp only [Exit.then, Exit.inBlock, ↓reduceIte, Nat.reduceEqDiff])
          refine hK31 _ _ ?_
          refine wp_ret ?_
          (try simp only [Exit.then, Exit.inBlock, ↓reduceIte, Nat.reduceEqDiff])
          refine hQf _ _ _ ?_
          exact bodyPost_ret (v := .bool true) (by first | rfl | (simp [results, Tryd.results40, go_sem]; done) | (simp [results, Tryd.results40, go_sem]; rfl)) rfl ⟨rfl, (Up.refl _)⟩
         ·
          rw [if_neg c30] at H
          replace c30 := Bool.eq_false_iff.mpr c30
          have c30n : (a0 != 29) = true := by rw [bne, c30]; rfl
          have c30p : ¬ a0 = 29 := fun e => by simp [e] at c30
          by_cases c32 : (a0 == 31) = true
          ·
           rw [if_pos c32] at H
           have c32n : (a0 != 31) = false := by rw [bne, c32]; rfl
           obtain rfl := Option.some.inj H
           go_enter Tryd.func40, Tryd.ntmps40
           refine wp_hide (fun Qf hQf => ?_)
           refine wp_seq_k (fun K1 hK1 => ?_)
           refine wp_region_lit ?_
           refine wpList_plain rfl (fun Ko hKo => ?_)
           go_simp
           refine hKo _ _ ?_
           clear hKo Ko
           try simp only [Act.put, nm1, nm2, nm3, i64_w]
           refine wpList_nil ?_
           (try simp only [Exit.then, Exit.inBlock, ↓reduceIte, Nat.reduceEqDiff])
           refine hK1 _ _ ?_
           refine wp_seq_k (fun K2 hK2 => ?_)
           refine wp_seq_k (fun K3 hK3 => ?_)
           refine wp_region_lit ?_
           refine wpList_plain rfl (fun Ko hKo => ?_)
           go_simp
           refine hKo _ _ ?_
           clear hKo Ko
           try simp only [Act.put, nm1, nm2, nm3, i64_w]
           refine wpList_nil ?_
           (try simp only [Exit.then, Exit.inBlock, ↓reduceIte, Nat.reduceEqDiff])
           refine hK3 _ _ ?_
           refine wp_block ?_
           refine wp_seq_k (fun K4 hK4 => ?_)
           refine wp_seq_k (fun K5 hK5 => ?_)
           refine wp_region_lit ?_
           refine wpList_plain rfl (fun Ko hKo => ?_)
           go_simp
           refine hKo _ _ ?_
           clear hKo Ko
           try simp only [Act.put, nm1, nm2, nm3, i64_w]
           refine wpList_plain rfl (fun Ko hKo => ?_)
           go_simp
           refine hKo _ _ ?_
           clear hKo Ko
           try simp only [Act.put, nm1, nm2, nm3, i64_w]
           refine wpList_nil ?_
           (try simp only [Exit.then, Exit.inBlock, ↓reduceIte, Nat.reduceEqDiff])
           refine hK5 _ _ ?_
           refine wp_cond_false rfl ?_
           refine wp_seq_k (fun K8 hK8 => ?_)
           refine wp_region_lit ?_
           refine wpList_plain rfl (fun Ko hKo => ?_)
           go_simp
           refine hKo _ _ ?_
           clear hKo Ko
           try simp only [Act.put, nm1, nm2, nm3, i64_w]
           refine wpList_plain rfl (fun Ko hKo => ?_)
           go_simp
           refine hKo _ _ ?_
           clear hKo Ko
           try simp only [Act.put, nm1, nm2, nm3, i64_w]
           refine wpList_nil ?_
           (try simp only [Exit.then, Exit.inBlock, ↓reduceIte, Nat.reduceEqDiff])
           refine hK8 _ _ ?_
           refine wp_cond_false rfl ?_
           refine wp_seq_k (fun K11 hK11 => ?_)
           refine wp_region_lit ?_
           refine wpList_plain rfl (fun Ko hKo => ?_)
           go_simp
           refine hKo _ _ ?_
           clear hKo Ko
           try simp only [Act.put, nm1, nm2, nm3, i64_w]
           refine wpList_plain rfl (fun Ko hKo => ?_)
           go_simp
           refine hKo _ _ ?_
           clear hKo Ko
           try simp only [Act.put, nm1, nm2, nm3, i64_w]
           refine wpList_nil ?_
           (try simp only [Exit.then, Exit.inBlock, ↓reduceIte, Nat.reduceEqDiff])
           refine hK11 _ _ ?_
           refine wp_cond_false rfl ?_
           refine wp_seq_k (fun K14 hK14 => ?_)
           refine wp_region_lit ?_
           refine wpList_plain rfl (fun Ko hKo => ?_)
           go_simp
           refine hKo _ _ ?_
           clear hKo Ko
           try simp only [Act.put, nm1, nm2, nm3, i64_w]
           refine wpList_plain rfl (fun Ko hKo => ?_)
           go_simp
           refine hKo _ _ ?_
           clear hKo Ko
           try simp only [Act.put, nm1, nm2, nm3, i64_w]
           refine wpList_nil ?_
           (try simp only [Exit.then, Exit.inBlock, ↓reduceIte, Nat.reduceEqDiff])
           refine hK14 _ _ ?_
           refine wp_cond_false rfl ?_
           refine wp_seq_k (fun K17 hK17 => ?_)
           refine wp_region_lit ?_
           refine wpList_plain rfl (fun Ko hKo => ?_)
           go_simp
           refine hKo _ _ ?_
           clear hKo Ko
           try simp only [Act.put, nm1, nm2, nm3, i64_w]
           refine wpList_plain rfl (fun Ko hKo => ?_)
           go_simp
           refine hKo _ _ ?_
           clear hKo Ko
           try simp only [Act.put, nm1, nm2, nm3, i64_w]
           refine wpList_nil ?_
           (try simp only [Exit.then, Exit.inBlock, ↓reduceIte, Nat.reduceEqDiff])
           refine hK17 _ _ ?_
           refine wp_cond_false rfl ?_
           refine wp_seq_k (fun K20 hK20 => ?_)
           refine wp_region_lit ?_
           refine wpList_plain rfl (fun Ko hKo => ?_)
           go_simp
           refine hKo _ _ ?_
           clear hKo Ko
           try simp only [Act.put, nm1, nm2, nm3, i64_w]
           refine wpList_plain rfl (fun Ko hKo => ?_)
           go_simp
           refine hKo _ _ ?_
           clear hKo Ko
           try simp only [Act.put, nm1, nm2, nm3, i64_w]
           refine wpList_nil ?_
           (try simp only [Exit.then, Exit.inBlock, ↓reduceIte, Nat.reduceEqDiff])
           refine hK20 _ _ ?_
           refine wp_cond_false rfl ?_
           refine wp_seq_k (fun K23 hK23 => ?_)
           refine wp_region_lit ?_
           refine wpList_plain rfl (fun Ko hKo => ?_)
           go_simp
           refine hKo _ _ ?_
           clear hKo Ko
           try simp only [Act.put, nm1, nm2, nm3, i64_w]
           refine wpList_plain rfl (fun Ko hKo => ?_)
           go_simp
           refine hKo _ _ ?_
           clear hKo Ko
           try simp only [Act.put, nm1, nm2, nm3, i64_w]
           refine wpList_nil ?_
           (try simp only [Exit.then, Exit.inBlock, ↓reduceIte, Nat.reduceEqDiff])
           refine hK23 _ _ ?_
           refine wp_cond_false rfl ?_
           refine wp_seq_k (fun K26 hK26 => ?_)
           refine wp_region_lit ?_
           refine wpList_plain rfl (fun Ko hKo => ?_)
           go_simp
           refine hKo _ _ ?_
           clear hKo Ko
           try simp only [Act.put, nm1, nm2, nm3, i64_w]
           refine wpList_plain rfl (fun Ko hKo => ?_)
           go_simp
           refine hKo _ _ ?_
           clear hKo Ko
           try simp only [Act.put, nm1, nm2, nm3, i64_w]
           refine wpList_nil ?_
           (try simp only [Exit.then, Exit.inBlock, ↓reduceIte, Nat.reduceEqDiff])
           refine hK26 _ _ ?_
           refine wp_cond_false rfl ?_
           refine wp_seq_k (fun K29 hK29 => ?_)
           refine wp_region_lit ?_
           refine wpList_plain rfl (fun Ko hKo => ?_)
           go_simp
           refine hKo _ _ ?_
           clear hKo Ko
           try simp only [Act.put, nm1, nm2, nm3, i64_w]
           refine wpList_plain rfl (fun Ko hKo => ?_)
           go_simp
           refine hKo _ _ ?_
           clear hKo Ko
           try simp only [Act.put, nm1, nm2, nm3, i64_w]
           refine wpList_nil ?_
           (try simp only [Exit.then, Exit.inBlock, ↓reduceIte, Nat.reduceEqDiff])
           refine hK29 _ _ ?_
           refine wp_cond_false rfl ?_
           refine wp_region_lit ?_
           refine wpList_plain rfl (fun Ko hKo => ?_)
           go_simp
           refine hKo _ _ ?_
           clear hKo Ko
           try simp only [Act.put, nm1, nm2, nm3, i64_w]
           refine wpList_plain rfl (fun Ko hKo => ?_)
           go_simp
           refine hKo _ _ ?_
           clear hKo Ko
           try simp only [Act.put, nm1, nm2, nm3, i64_w]
           refine wpList_nil ?_
           (try simp only [Exit.then, Exit.inBlock, ↓reduceIte, Nat.reduceEqDiff])
           refine hK4 _ _ ?_
           refine wp_cond_true rfl ?_
           refine wp_seq_k (fun K33 hK33 => ?_)
           refine wp_region_lit ?_
           refine wpList_plain rfl (fun Ko hKo => ?_)
           go_simp
           refine hKo _ _ ?_
           clear hKo Ko
           try simp only [Act.put, nm1, nm2, nm3, i64_w]
           refine wpList_nil ?_
           (try simp only [Exit.then, Exit.inBlock, ↓reduceIte, Nat.reduceEqDiff])
           refine hK33 _ _ ?_
           refine wp_ret ?_
           (try simp only [Exit.then, Exit.inBlock, ↓reduceIte, Nat.reduceEqDiff])
           refine hQf _ _ _ ?_
           exact bodyPost_ret (v := .bool true) (by first | rfl | (simp [results, Tryd.results40, go_sem]; done) | (simp [results, Tryd.results40, go_sem]; rfl)) rfl ⟨rfl, (Up.refl _)⟩
          ·
           rw [if_neg c32] at H
           replace c32 := Bool.eq_false_iff.mpr c32
           have c32n : (a0 != 31) = true := by rw [bne, c32]; rfl
           have c32p : ¬ a0 = 31 := fun e => by simp [e] at c32
           obtain rfl := Option.some.inj H
           go_enter Tryd.func40, Tryd.ntmps40
           refine wp_hide (fun Qf hQf => ?_)
           refine wp_seq_k (fun K1 hK1 => ?_)
           refine wp_region_lit ?_
           refine wpList_plain rfl (fun Ko hKo => ?_)
           go_simp
           refine hKo _ _ ?_
           clear hKo Ko
           try simp only [Act.put, nm1, nm2, nm3, i64_w]
           refine wpList_nil ?_
           (try simp only [Exit.then, Exit.inBlock, ↓reduceIte, Nat.reduceEqDiff])
           refine hK1 _ _ ?_
           refine wp_seq_k (fun K2 hK2 => ?_)
           refine wp_seq_k (fun K3 hK3 => ?_)
           refine wp_region_lit ?_
           refine wpList_plain rfl (fun Ko hKo => ?_)
           go_simp
           refine hKo _ _ ?_
           clear hKo Ko
           try simp only [Act.put, nm1, nm2, nm3, i64_w]
           refine wpList_nil ?_
           (try simp only [Exit.then, Exit.inBlock, ↓reduceIte, Nat.reduceEqDiff])
           refine hK3 _ _ ?_
           refine wp_block ?_
           refine wp_seq_k (fun K4 hK4 => ?_)
           refine wp_seq_k (fun K5 hK5 => ?_)
           refine wp_region_lit ?_
           refine wpList_plain rfl (fun Ko hKo => ?_)
           go_simp
           refine hKo _ _ ?_
           clear hKo Ko
           try simp only [Act.put, nm1, nm2, nm3, i64_w]
           refine wpList_plain rfl (fun Ko hKo => ?_)
           go_simp
           refine hKo _ _ ?_
           clear hKo Ko
           try simp only [Act.put, nm1, nm2, nm3, i64_w]
           refine wpList_nil ?_
           (try simp only [Exit.then, Exit.inBlock, ↓reduceIte, Nat.reduceEqDiff])
           refine hK5 _ _ ?_
           refine wp_cond_false rfl ?_
           refine wp_seq_k (fun K8 hK8 => ?_)
           refine wp_region_lit ?_
           refine wpList_plain rfl (fun Ko hKo => ?_)
           go_simp
           refine hKo _ _ ?_
           clear hKo Ko
           try simp only [Act.put, nm1, nm2, nm3, i64_w]
           refine wpList_plain rfl (fun Ko hKo => ?_)
           go_simp
           refine hKo _ _ ?_
           clear hKo Ko
           try simp only [Act.put, nm1, nm2, nm3, i64_w]
           refine wpList_nil ?_
           (try simp only [Exit.then, Exit.inBlock, ↓reduceIte, Nat.reduceEqDiff])
           refine hK8 _ _ ?_
           refine wp_cond_false rfl ?_
           refine wp_seq_k (fun K11 hK11 => ?_)
           refine wp_region_lit ?_
           refine wpList_plain rfl (fun Ko hKo => ?_)
           go_simp
           refine hKo _ _ ?_
           clear hKo Ko
           try simp only [Act.put, nm1, nm2, nm3, i64_w]
           refine wpList_plain rfl (fun Ko hKo => ?_)
           go_simp
           refine hKo _ _ ?_
           clear hKo Ko
           try simp only [Act.put, nm1, nm2, nm3, i64_w]
           refine wpList_nil ?_
           (try simp only [Exit.then, Exit.inBlock, ↓reduceIte, Nat.reduceEqDiff])
           refine hK11 _ _ ?_
           refine wp_cond_false rfl ?_
           refine wp_seq_k (fun K14 hK14 => ?_)
           refine wp_region_lit ?_
           refine wpList_plain rfl (fun Ko hKo => ?_)
           go_simp
           refine hKo _ _ ?_
           clear hKo Ko
           try simp only [Act.put, nm1, nm2, nm3, i64_w]
           refine wpList_plain rfl (fun Ko hKo => ?_)
           go_simp
           refine hKo _ _ ?_
           clear hKo Ko
           try simp only [Act.put, nm1, nm2, nm3, i64_w]
           refine wpList_nil ?_
           (try simp only [Exit.then, Exit.inBlock, ↓reduceIte, Nat.reduceEqDiff])
           refine hK14 _ _ ?_
           refine wp_cond_false rfl ?_
           refine wp_seq_k (fun K17 hK17 => ?_)
           refine wp_region_lit ?_
           refine wpList_plain rfl (fun Ko hKo => ?_)
           go_simp
           refine hKo _ _ ?_
           clear hKo Ko
           try simp only [Act.put, nm1, nm2, nm3, i64_w]
           refine wpList_plain rfl (fun Ko hKo => ?_)
           go_simp
           refine hKo _ _ ?_
           clear hKo Ko
           try simp only [Act.put, nm1, nm2, nm3, i64_w]
           refine wpList_nil ?_
           (try simp only [Exit.then, Exit.inBlock, ↓reduceIte, Nat.reduceEqDiff])
           refine hK17 _ _ ?_
           refine wp_cond_false rfl ?_
           refine wp_seq_k (fun K20 hK20 => ?_)
           refine wp_region_lit ?_
           refine wpList_plain rfl (fun Ko hKo => ?_)
           go_simp
           refine hKo _ _ ?_
           clear hKo Ko
           try simp only [Act.put, nm1, nm2, nm3, i64_w]
           refine wpList_plain rfl (fun Ko hKo => ?_)
           go_simp
           refine hKo _ _ ?_
           clear hKo Ko
           try simp only [Act.put, nm1, nm2, nm3, i64_w]
           refine wpList_nil ?_
           (try simp only [Exit.then, Exit.inBlock, ↓reduceIte, Nat.reduceEqDiff])
           refine hK20 _ _ ?_
           refine wp_cond_false rfl ?_
           refine wp_seq_k (fun K23 hK23 => ?_)
           refine wp_region_lit ?_
           refine wpList_plain rfl (fun Ko hKo => ?_)
           go_simp
           refine hKo _ _ ?_
           clear hKo Ko
           try simp only [Act.put, nm1, nm2, nm3, i64_w]
           refine wpList_plain rfl (fun Ko hKo => ?_)
           go_simp
           refine hKo _ _ ?_
           clear hKo Ko
           try simp only [Act.put, nm1, nm2, nm3, i64_w]
           refine wpList_nil ?_
           (try simp only [Exit.then, Exit.inBlock, ↓reduceIte, Nat.reduceEqDiff])
           refine hK23 _ _ ?_
           refine wp_cond_false rfl ?_
           refine wp_seq_k (fun K26 hK26 => ?_)
           refine wp_region_lit ?_
           refine wpList_plain rfl (fun Ko hKo => ?_)
           go_simp
           refine hKo _ _ ?_
           clear hKo Ko
           try simp only [Act.put, nm1, nm2, nm3, i64_w]
           refine wpList_plain rfl (fun Ko hKo => ?_)
           go_simp
           refine hKo _ _ ?_
           clear hKo Ko
           try simp only [Act.put, nm1, nm2, nm3, i64_w]
           refine wpList_nil ?_
           (try simp only [Exit.then, Exit.inBlock, ↓reduceIte, Nat.reduceEqDiff])
           refine hK26 _ _ ?_
           refine wp_cond_false rfl ?_
           refine wp_seq_k (fun K29 hK29 => ?_)
           refine wp_region_lit ?_
           refine wpList_plain rfl (fun Ko hKo => ?_)
           go_simp
           refine hKo _ _ ?_
           clear hKo Ko
           try simp only [Act.put, nm1, nm2, nm3, i64_w]
           refine wpList_plain rfl (fun Ko hKo => ?_)
           go_simp
           refine hKo _ _ ?_
           clear hKo Ko
           try simp only [Act.put, nm1, nm2, nm3, i64_w]
           refine wpList_nil ?_
           (try simp only [Exit.then, Exit.inBlock, ↓reduceIte, Nat.reduceEqDiff])
           refine hK29 _ _ ?_
           refine wp_cond_false rfl ?_
           refine wp_region_lit ?_
           refine wpList_plain rfl (fun Ko hKo => ?_)
           go_simp
           refine hKo _ _ ?_
           clear hKo Ko
           try simp only [Act.put, nm1, nm2, nm3, i64_w]
           refine wpList_plain rfl (fun Ko hKo => ?_)
           go_simp
           refine hKo _ _ ?_
           clear hKo Ko
           try simp only [Act.put, nm1, nm2, nm3, i64_w]
           refine wpList_nil ?_
           (try simp only [Exit.then, Exit.inBlock, ↓reduceIte, Nat.reduceEqDiff])
           refine hK4 _ _ ?_
           refine wp_cond_false rfl ?_
           refine wp_skip ?_
           (try simp only [Exit.then, Exit.inBlock, ↓reduceIte, Nat.reduceEqDiff])
           refine hK2 _ _ ?_
           refine wp_seq_k (fun K34 hK34 => ?_)
           refine wp_region_lit ?_
           refine wpList_plain rfl (fun Ko hKo => ?_)
           go_simp
           refine hKo _ _ ?_
           clear hKo Ko
           try simp only [Act.put, nm1, nm2, nm3, i64_w]
           refine wpList_nil ?_
           (try simp only [Exit.then, Exit.inBlock, ↓reduceIte, Nat.reduceEqDiff])
           refine hK34 _ _ ?_
           refine wp_ret ?_
           (try simp only [Exit.then, Exit.inBlock, ↓reduceIte, Nat.reduceEqDiff])
           refine hQf _ _ _ ?_
           exact bodyPost_ret (v := .bool false) (by first | rfl | (simp [results, Tryd.results40, go_sem]; done) | (simp [results, Tryd.results40, go_sem]; rfl)) rfl ⟨rfl, (Up.refl _)⟩

set_option maxHeartbeats 4000000 in
set_option maxRecDepth 100000 in
theorem impl_isColour.calls (K : Nat) (a0 : Int) (r0 : Bool) (w : World)  (h : impl_isColour.f K a0 = some (r0)) :
    Calls Tryd.prog 28 #[.int .i64 a0] w fun e w' => e = .returned (.bool r0) ∧ Up w w' := by
 have H : ((if decide (0 ≤ a0) = true then some (decide (a0 ≤ 2)) else some false) : Option (Bool)) = some (r0) := h
 clear h
 by_cases c3 : (decide (0 ≤ a0)) = true
 ·
  rw [if_pos c3] at H
  obtain rfl := Option.some.inj H
  go_enter Tryd.func28, Tryd.ntmps28
  refine wp_hide (fun Qf hQf => ?_)
  refine wp_seq_k (fun K1 hK1 => ?_)
  refine wp_region_lit ?_
  refine wpList_plain rfl (fun Ko hKo => ?_)
  go_simp
  refine hKo _ _ ?_
  clear hKo Ko
  try simp only [Act.put, nm1, nm2, nm3, i64_w]
  refine wpList_nil ?_
  (try simp only [Exit.then, Exit.inBlock, ↓reduceIte, Nat.reduceEqDiff])
  refine hK1 _ _ ?_
  refine wp_seq_k (fun K2 hK2 => ?_)
  refine wp_region_lit ?_
  refine wpList_plain rfl (fun Ko hKo => ?_)
  go_simp
  refine hKo _ _ ?_
  clear hKo Ko
  try simp only [Act.put, nm1, nm2, nm3, i64_w]
  refine wpList_plain rfl (fun Ko hKo => ?_)
  go_simp
  refine hKo _ _ ?_
  clear hKo Ko
  try simp only [Act.put, nm1, nm2, nm3, i64_w]
  refine wpList_plain rfl (fun Ko hKo => ?_)
  go_simp
  refine hKo _ _ ?_
  clear hKo Ko
  try simp only [Act.put, nm1, nm2, nm3, i64_w]
  refine wpList_step (fun Ko hKo => ?_)
  go_simp
  refine hKo _ _ ?_
  clear hKo Ko
  try simp only [Act.put, nm1, nm2, nm3, i64_w]
  refine wpList_step (fun Ko hKo => ?_)
  go_simp
  refine hKo _ _ ?_
  clear hKo Ko
  try simp only [Act.put, nm1, nm2, nm3, i64_w]
  refine wpList_plain rfl (fun Ko hKo => ?_)
  go_simp
  refine hKo _ _ ?_
  clear hKo Ko
  try simp only [Act.put, nm1, nm2, nm3, i64_w]
  refine wpList_plain rfl (fun Ko hKo => ?_)
  go_simp
  refine hKo _ _ ?_
  clear hKo Ko
  try simp only [Act.put, nm1, nm2, nm3, i64_w]
  refine wpList_nil ?_
  (try simp only [Exit.then, Exit.inBlock, ↓reduceIte, Nat.reduceEqDiff])
  refine hK2 _ _ ?_
  refine wp_ret ?_
  (try simp only [Exit.then, Exit.inBlock, ↓reduceIte, Nat.reduceEqDiff])
  refine hQf _ _ _ ?_
  exact bodyPost_ret (v := .bool (decide (a0 ≤ 2))) (by first | rfl | (simp [results, Tryd.results28, go_sem]; done) | (simp [results, Tryd.results28, go_sem]; rfl)) rfl ⟨rfl, (Up.refl _)⟩
 ·
  rw [if_neg c3] at H
  replace c3 := Bool.eq_false_iff.mpr c3
  obtain rfl := Option.some.inj H
  go_enter Tryd.func28, Tryd.ntmps28
  refine wp_hide (fun Qf hQf => ?_)
  refine wp_seq_k (fun K1 hK1 => ?_)
  refine wp_region_lit ?_
  refine wpList_plain rfl (fun Ko hKo => ?_)
  go_simp
  refine hKo _ _ ?_
  clear hKo Ko
  try simp only [Act.put, nm1, nm2, nm3, i64_w]
  refine wpList_nil ?_
  (try simp only [Exit.then, Exit.inBlock, ↓reduceIte, Nat.reduceEqDiff])
  refine hK1 _ _ ?_
  refine wp_seq_k (fun K2 hK2 => ?_)
  refine wp_region_lit ?_
  refine wpList_plain rfl (fun Ko hKo => ?_)
  go_simp
  refine hKo _ _ ?_
  clear hKo Ko
  try simp only [Act.put, nm1, nm2, nm3, i64_w]
  refine wpList_plain rfl (fun Ko hKo => ?_)
  go_simp
  refine hKo _ _ ?_
  clear hKo Ko
  try simp only [Act.put, nm1, nm2, nm3, i64_w]
  refine wpList_plain rfl (fun Ko hKo => ?_)
  go_simp
  refine hKo _ _ ?_
  clear hKo Ko
  try simp only [Act.put, nm1, nm2, nm3, i64_w]
  refine step_no rfl ?_
  simp only [Act.put, nm1, nm2, nm3, i64_w]
  refine step_no rfl ?_
  simp only [Act.put, nm1, nm2, nm3, i64_w]
  refine wpList_plain rfl (fun Ko hKo => ?_)
  go_simp
  refine hKo _ _ ?_
  clear hKo Ko
  try simp only [Act.put, nm1, nm2, nm3, i64_w]
  refine wpList_plain rfl (fun Ko hKo => ?_)
  go_simp
  refine hKo _ _ ?_
  clear hKo Ko
  try simp only [Act.put, nm1, nm2, nm3, i64_w]
  refine wpList_nil ?_
  (try simp only [Exit.then, Exit.inBlock, ↓reduceIte, Nat.reduceEqDiff])
  refine hK2 _ _ ?_
  refine wp_ret ?_
  (try simp only [Exit.then, Exit.inBlock, ↓reduceIte, Nat.reduceEqDiff])
  refine hQf _ _ _ ?_
  exact bodyPost_ret (v := .bool false) (by first | rfl | (simp [results, Tryd.results28, go_sem]; done) | (simp [results, Tryd.results28, go_sem]; rfl)) rfl ⟨rfl, (Up.refl _)⟩

set_option maxHeartbeats 4000000 in
set_option maxRecDepth 100000 in
theorem impl_isNumber.calls (K : Nat) (a0 : Int) (a1 : Int) (r0 : Bool) (w : World)  (h : impl_isNumber.f K a0 a1 = some (r0)) :
    Calls Tryd.prog 48 #[.int .i64 a0, .int .i64 a1] w fun e w' => e = .returned (.bool r0) ∧ Up w w' := by
 have H : ((if decide (0 ≤ a1) = true then some (decide (a1 < a0)) else some false) : Option (Bool)) = some (r0) := h
 clear h
 by_cases c3 : (decide (0 ≤ a1)) = true
 ·
  rw [if_pos c3] at H
  obtain rfl := Option.some.inj H
  go_enter Tryd.func48, Tryd.ntmps48
  refine wp_hide (fun Qf hQf => ?_)
  refine wp_seq_k (fun K1 hK1 => ?_)
  refine wp_region_lit ?_
  refine wpList_plain rfl (fun Ko hKo => ?_)
  go_simp
  refine hKo _ _ ?_
  clear hKo Ko
  try simp only [Act.put, nm1, nm2, nm3, i64_w]
  refine wpList_nil ?_
  (try simp only [Exit.then, Exit.inBlock, ↓reduceIte, Nat.reduceEqDiff])
  refine hK1 _ _ ?_
  refine wp_seq_k (fun K2 hK2 => ?_)
  refine wp_region_lit ?_
  refine wpList_plain rfl (fun Ko hKo => ?_)
  go_simp
  refine hKo _ _ ?_
  clear hKo Ko
  try simp only [Act.put, nm1, nm2, nm3, i64_w]
  refine wpList_plain rfl (fun Ko hKo => ?_)
  go_simp
  refine hKo _ _ ?_
  clear hKo Ko
  try simp only [Act.put, nm1, nm2, nm3, i64_w]
  refine wpList_plain rfl (fun Ko hKo => ?_)
  go_simp
  refine hKo _ _ ?_
  clear hKo Ko
  try simp only [Act.put, nm1, nm2, nm3, i64_w]
  refine wpList_step (fun Ko hKo => ?_)
  go_simp
  refine hKo _ _ ?_
  clear hKo Ko
  try simp only [Act.put, nm1, nm2, nm3, i64_w]
  refine wpList_step (fun Ko hKo => ?_)
  go_simp
  refine hKo _ _ ?_
  clear hKo Ko
  try simp only [Act.put, nm1, nm2, nm3, i64_w]
  refine wpList_step (fun Ko hKo => ?_)
  go_simp
  refine hKo _ _ ?_
  clear hKo Ko
  try simp only [Act.put, nm1, nm2, nm3, i64_w]
  refine wpList_plain rfl (fun Ko hKo => ?_)
  go_simp
  refine hKo _ _ ?_
  clear hKo Ko
  try simp only [Act.put, nm1, nm2, nm3, i64_w]
  refine wpList_plain rfl (fun Ko hKo => ?_)
  go_simp
  refine hKo _ _ ?_
  clear hKo Ko
  try simp only [Act.put, nm1, nm2, nm3, i64_w]
  refine wpList_nil ?_
  (try simp only [Exit.then, Exit.inBlock, ↓reduceIte, Nat.reduceEqDiff])
  refine hK2 _ _ ?_
  refine wp_ret ?_
  (try simp only [Exit.then, Exit.inBlock, ↓reduceIte, Nat.reduceEqDiff])
  refine hQf _ _ _ ?_
  exact bodyPost_ret (v := .bool (decide (a1 < a0))) (by first | rfl | (simp [results, Tryd.results48, go_sem]; done) | (simp [results, Tryd.results48, go_sem]; rfl)) rfl ⟨rfl, (Up.refl _)⟩
 ·
  rw [if_neg c3] at H
  replace c3 := Bool.eq_false_iff.mpr c3
  obtain rfl := Option.some.inj H
  go_enter Tryd.func48, Tryd.ntmps48
  refine wp_hide (fun Qf hQf => ?_)
  refine wp_seq_k (fun K1 hK1 => ?_)
  refine wp_region_lit ?_
  refine wpList_plain rfl (fun Ko hKo => ?_)
  go_simp
  refine hKo _ _ ?_
  clear hKo Ko
  try simp only [Act.put, nm1, nm2, nm3, i64_w]
  refine wpList_nil ?_
  (try simp only [Exit.then, Exit.inBlock, ↓reduceIte, Nat.reduceEqDiff])
  refine hK1 _ _ ?_
  refine wp_seq_k (fun K2 hK2 => ?_)
  refine wp_region_lit ?_
  refine wpList_plain rfl (fun Ko hKo => ?_)
  go_simp
  refine hKo _ _ ?_
  clear hKo Ko
  try simp only [Act.put, nm1, nm2, nm3, i64_w]
  refine wpList_plain rfl (fun Ko hKo => ?_)
  go_simp
  refine hKo _ _ ?_
  clear hKo Ko
  try simp only [Act.put, nm1, nm2, nm3, i64_w]
  refine wpList_plain rfl (fun Ko hKo => ?_)
  go_simp
  refine hKo _ _ ?_
  clear hKo Ko
  try simp only [Act.put, nm1, nm2, nm3, i64_w]
  refine step_no rfl ?_
  simp only [Act.put, nm1, nm2, nm3, i64_w]
  refine step_no rfl ?_
  simp only [Act.put, nm1, nm2, nm3, i64_w]
  refine step_no rfl ?_
  simp only [Act.put, nm1, nm2, nm3, i64_w]
  refine wpList_plain rfl (fun Ko hKo => ?_)
  go_simp
  refine hKo _ _ ?_
  clear hKo Ko
  try simp only [Act.put, nm1, nm2, nm3, i64_w]
  refine wpList_plain rfl (fun Ko hKo => ?_)
  go_simp
  refine hKo _ _ ?_
  clear hKo Ko
  try simp only [Act.put, nm1, nm2, nm3, i64_w]
  refine wpList_nil ?_
  (try simp only [Exit.then, Exit.inBlock, ↓reduceIte, Nat.reduceEqDiff])
  refine hK2 _ _ ?_
  refine wp_ret ?_
  (try simp only [Exit.then, Exit.inBlock, ↓reduceIte, Nat.reduceEqDiff])
  refine hQf _ _ _ ?_
  exact bodyPost_ret (v := .bool false) (by first | rfl | (simp [results, Tryd.results48, go_sem]; done) | (simp [results, Tryd.results48, go_sem]; rfl)) rfl ⟨rfl, (Up.refl _)⟩

set_option maxHeartbeats 4000000 in
set_option maxRecDepth 100000 in
theorem impl_areNumbers.calls (K : Nat) (a0 : Int) (a1_A : Option Addr) (a1_c : Nat) (a1 : List (Int)) (r0 : Bool) (w : World) (ha1 : Rd eI w a1_A a1) (h : impl_areNumbers.f K a0 a1 = some (r0)) :
    Calls Tryd.prog 41 #[.int .i64 a0, .slice a1_A a1.length a1_c] w fun e w' => e = .returned (.bool r0) ∧ Up w w' := by
 have H : ((impl_areNumbers.l0 K a0 a1 K 0) : Option (Bool)) = some (r0) := h
 clear h
 go_enter Tryd.func41, Tryd.ntmps41
 refine wp_hide (fun Qf hQf => ?_)
 refine wp_seq_k (fun K1 hK1 => ?_)
 refine wp_region_lit ?_
 refine wpList_plain rfl (fun Ko hKo => ?_)
 go_simp
 refine hKo _ _ ?_
 clear hKo Ko
 try simp only [Act.put, nm1, nm2, nm3, i64_w]
 refine wpList_nil ?_
 (try simp only [Exit.then, Exit.inBlock, ↓reduceIte, Nat.reduceEqDiff])
 refine hK1 _ _ ?_
 refine wp_seq_k (fun K2 hK2 => ?_)
 refine wp_seq_k (fun K3 hK3 => ?_)
 refine wp_region_lit ?_
 refine wpList_plain rfl (fun Ko hKo => ?_)
 go_simp
 refine hKo _ _ ?_
 clear hKo Ko
 try simp only [Act.put, nm1, nm2, nm3, i64_w]
 refine wpList_plain rfl (fun Ko hKo => ?_)
 go_simp
 refine hKo _ _ ?_
 clear hKo Ko
 try simp only [Act.put, nm1, nm2, nm3, i64_w]
 refine wpList_plain rfl (fun Ko hKo => ?_)
 go_simp
 refine hKo _ _ ?_
 clear hKo Ko
 try simp only [Act.put, nm1, nm2, nm3, i64_w]
 refine wpList_nil ?_
 (try simp only [Exit.then, Exit.inBlock, ↓reduceIte, Nat.reduceEqDiff])
 refine hK3 _ _ ?_
 refine wp_block ?_
 have HL8 := Aside0.mk H
 clear H
 go_loopg [9] K (fun kq v9 w' => ∃ (x4 : Int), v9 = .int .i64 x4 ∧ Aside0 (impl_areNumbers.l0 K a0 a1 kq x4 = some (r0)) ∧ Aside0 (kq ≤ K) ∧ Aside0 (Up w w') ∧ Aside0 (w.heap.size ≤ w'.heap.size))
 case atStart => exact ⟨0, (by first | rfl | simp), HL8, ⟨Nat.le_refl _⟩, ⟨(Up.refl _)⟩, ⟨Nat.le_refl _⟩⟩
 case round =>
  rename_i J12 K13 hJ12 hK13
  obtain ⟨x4, rfl, HL11, hk10, hu6, hz7⟩ := hrel
  obtain ⟨w5, rfl⟩ : ∃ wo : World, wo = wr := ⟨_, rfl⟩
  obtain ⟨k9, rfl⟩ | rfl : (∃ k, gk = k + 1) ∨ gk = 0 := by rcases gk with _ | k; exact .inr rfl; exact .inl ⟨k, rfl⟩
  case inr => exact absurd HL11.out (by simp [impl_areNumbers.l0])
  have H := HL11.out
  clear HL11
  rw [impl_areNumbers.l0] at H
  by_cases c16 : (decide (x4 < (a1.length : Int))) = true
  ·
   rw [if_pos c16] at H
   replace H := Option.bind_eq_some_iff.mp H
   obtain ⟨t19, A20, H⟩ := H
   replace A20 := Aside0.mk A20
   try dsimp only at H
   replace H := Option.bind_eq_some_iff.mp H
   obtain ⟨t25, A26, H⟩ := H
   replace A26 := Aside0.mk A26
   try dsimp only at H
   by_cases c29 : (t25) = true
   ·
    rw [if_pos c29] at H
    subst c29
    have HL30 := Aside0.mk H
    clear H
    refine wp_seq_k (fun K14 hK14 => ?_)
    refine wp_region_lit ?_
    refine wpList_plain rfl (fun Ko hKo => ?_)
    go_simp
    refine hKo _ _ ?_
    clear hKo Ko
    try simp only [Act.put, nm1, nm2, nm3, i64_w]
    refine wpList_nil ?_
    (try simp only [Exit.then, Exit.inBlock, ↓reduceIte, Nat.reduceEqDiff])
    refine hK14 _ _ ?_
    refine wp_seq_k (fun K15 hK15 => ?_)
    refine wp_cond_true rfl ?_
    refine wp_skip ?_
    (try simp only [Exit.then, Exit.inBlock, ↓reduceIte, Nat.reduceEqDiff])
    refine hK15 _ _ ?_
    refine wp_seq_k (fun K17 hK17 => ?_)
    refine wp_block ?_
    refine wp_seq_k (fun K18 hK18 => ?_)
    refine wp_region_lit ?_
    refine step_index eI (T := 2) (wanted_none rfl) rfl (by kernel_rfl) (by kernel_rfl) rfl rfl rfl (ha1.up hu6.out) A20.out ?_
    intro ad21 hat he
    have he22 := Aside0.mk he
    have hat23 := Aside0.mk hat
    clear he hat
    simp only [Act.put, nm1, nm2, nm3, i64_w]
    have cl0 := he22.out 0 _ rfl
    rw [addr_add0] at cl0
    refine wpList_plain rfl (fun Ko hKo => ?_)
    go_simp
    refine hKo _ _ ?_
    clear hKo Ko
    clear cl0
    try simp only [Act.put, nm1, nm2, nm3, i64_w]
    refine wpList_plain rfl (fun Ko hKo => ?_)
    go_simp
    refine hKo _ _ ?_
    clear hKo Ko
    try simp only [Act.put, nm1, nm2, nm3, i64_w]
    refine wpList_nil ?_
    (try simp only [Exit.then, Exit.inBlock, ↓reduceIte, Nat.reduceEqDiff])
    refine hK18 _ _ ?_
    refine wp_seq_k (fun K24 hK24 => ?_)
    refine wp_region_lit ?_
    refine wpList_plain rfl (fun Ko hKo => ?_)
    go_simp
    refine hKo _ _ ?_
    clear hKo Ko
    try simp only [Act.put, nm1, nm2, nm3, i64_w]
    refine wpList_plain rfl (fun Ko hKo => ?_)
    go_simp
    refine hKo _ _ ?_
    clear hKo Ko
    try simp only [Act.put, nm1, nm2, nm3, i64_w]
    refine step_call (wanted_none rfl) (by first | (go_simp; done) | (go_simp; rfl)) (impl_isNumber.calls K a0 t19 true w5  A26.out) ?_
    rintro e w27 ⟨rfl, hu⟩
    have hu28 := Aside0.mk hu
    clear hu
    refine ⟨_, rfl, ?_⟩
    simp only [Act.put, nm1, nm2, nm3, i64_w]
    refine wpList_plain rfl (fun Ko hKo => ?_)
    go_simp
    refine hKo _ _ ?_
    clear hKo Ko
    try simp only [Act.put, nm1, nm2, nm3, i64_w]
    refine wpList_nil ?_
    (try simp only [Exit.then, Exit.inBlock, ↓reduceIte, Nat.reduceEqDiff])
    refine hK24 _ _ ?_
    refine wp_cond_false rfl ?_
    refine wp_skip ?_
    (try simp only [Exit.then, Exit.inBlock, ↓reduceIte, Nat.reduceEqDiff])
    refine hK17 _ _ ?_
    refine wp_region_lit ?_
    refine wpList_plain rfl (fun Ko hKo => ?_)
    go_simp
    refine hKo _ _ ?_
    clear hKo Ko
    try simp only [Act.put, nm1, nm2, nm3, i64_w]
    refine wpList_plain rfl (fun Ko hKo => ?_)
    go_simp
    refine hKo _ _ ?_
    clear hKo Ko
    try simp only [Act.put, nm1, nm2, nm3, i64_w]
    refine wpList_nil ?_
    (try simp only [Exit.then, Exit.inBlock, ↓reduceIte, Nat.reduceEqDiff])
    refine hK13 _ _ ?_
    go_roundg k9
    case measure => exact Nat.lt_succ_self _
    case rel => exact ⟨wrap64 (x4 + 1), (by first | rfl | simp), HL30, ⟨by have := hk10.out; omega⟩, ⟨(hu6.out.trans hu28.out)⟩, ⟨(Nat.le_trans ((Nat.le_trans (Nat.le_refl _) hz7.out)) hu28.out.size)⟩⟩
   ·
    rw [if_neg c29] at H
    replace c29 := Bool.eq_false_iff.mpr c29
    subst c29
    obtain rfl := Option.some.inj H
    refine wp_seq_k (fun K14 hK14 => ?_)
    refine wp_region_lit ?_
    refine wpList_plain rfl (fun Ko hKo => ?_)
    go_simp
    refine hKo _ _ ?_
    clear hKo Ko
    try simp only [Act.put, nm1, nm2, nm3, i64_w]
    refine wpList_nil ?_
    (try simp only [Exit.then, Exit.inBlock, ↓reduceIte, Nat.reduceEqDiff])
    refine hK14 _ _ ?_
    refine wp_seq_k (fun K15 hK15 => ?_)
    refine wp_cond_true rfl ?_
    refine wp_skip ?_
    (try simp only [Exit.then, Exit.inBlock, ↓reduceIte, Nat.reduceEqDiff])
    refine hK15 _ _ ?_
    refine wp_seq_k (fun K17 hK17 => ?_)
    refine wp_block ?_
    refine wp_seq_k (fun K18 hK18 => ?_)
    refine wp_region_lit ?_
    refine step_index eI (T := 2) (wanted_none rfl) rfl (by kernel_rfl) (by kernel_rfl) rfl rfl rfl (ha1.up hu6.out) A20.out ?_
    intro ad21 hat he
    have he22 := Aside0.mk he
    have hat23 := Aside0.mk hat
    clear he hat
    simp only [Act.put, nm1, nm2, nm3, i64_w]
    have cl0 := he22.out 0 _ rfl
    rw [addr_add0] at cl0
    refine wpList_plain rfl (fun Ko hKo => ?_)
    go_simp
    refine hKo _ _ ?_
    clear hKo Ko
    clear cl0
    try simp only [Act.put, nm1, nm2, nm3, i64_w]
    refine wpList_plain rfl (fun Ko hKo => ?_)
    go_simp
    refine hKo _ _ ?_
    clear hKo Ko
    try simp only [Act.put, nm1, nm2, nm3, i64_w]
    refine wpList_nil ?_
    (try simp only [Exit.then, Exit.inBlock, ↓reduceIte, Nat.reduceEqDiff])
    refine hK18 _ _ ?_
    refine wp_seq_k (fun K24 hK24 => ?_)
    refine wp_region_lit ?_
    refine wpList_plain rfl (fun Ko hKo => ?_)
    go_simp
    refine hKo _ _ ?_
    clear hKo Ko
    try simp only [Act.put, nm1, nm2, nm3, i64_w]
    refine wpList_plain rfl (fun Ko hKo => ?_)
    go_simp
    refine hKo _ _ ?_
    clear hKo Ko
    try simp only [Act.put, nm1, nm2, nm3, i64_w]
    refine step_call (wanted_none rfl) (by first | (go_simp; done) | (go_simp; rfl)) (impl_isNumber.calls K a0 t19 false w5  A26.out) ?_
    rintro e w27 ⟨rfl, hu⟩
    have hu28 := Aside0.mk hu
    clear hu
    refine ⟨_, rfl, ?_⟩
    simp only [Act.put, nm1, nm2, nm3, i64_w]
    refine wpList_plain rfl (fun Ko hKo => ?_)
    go_simp
    refine hKo _ _ ?_
    clear hKo Ko
    try simp only [Act.put, nm1, nm2, nm3, i64_w]
    refine wpList_nil ?_
    (try simp only [Exit.then, Exit.inBlock, ↓reduceIte, Nat.reduceEqDiff])
    refine hK24 _ _ ?_
    refine wp_cond_true rfl ?_
    refine wp_seq_k (fun K31 hK31 => ?_)
    refine wp_region_lit ?_
    refine wpList_plain rfl (fun Ko hKo => ?_)
    go_simp
    refine hKo _ _ ?_
    clear hKo Ko
    try simp only [Act.put, nm1, nm2, nm3, i64_w]
    refine wpList_nil ?_
    (try simp only [Exit.then, Exit.inBlock, ↓reduceIte, Nat.reduceEqDiff])
    refine hK31 _ _ ?_
    refine wp_ret ?_
    (try simp only [Exit.then, Exit.inBlock, ↓reduceIte, Nat.reduceEqDiff])
    refine hQf _ _ _ ?_
    exact bodyPost_ret (v := .bool false) (by first | rfl | (simp [results, Tryd.results41, go_sem]; done) | (simp [results, Tryd.results41, go_sem]; rfl)) rfl ⟨rfl, (hu6.out.trans hu28.out)⟩
  ·
   rw [if_neg c16] at H
   replace c16 := Bool.eq_false_iff.mpr c16
   obtain rfl := Option.some.inj H
   refine wp_seq_k (fun K14 hK14 => ?_)
   refine wp_region_lit ?_
   refine wpList_plain rfl (fun Ko hKo => ?_)
   go_simp
   refine hKo _ _ ?_
   clear hKo Ko
   try simp only [Act.put, nm1, nm2, nm3, i64_w]
   refine wpList_nil ?_
   (try simp only [Exit.then, Exit.inBlock, ↓reduceIte, Nat.reduceEqDiff])
   refine hK14 _ _ ?_
   refine wp_seq_k (fun K15 hK15 => ?_)
   refine wp_cond_false rfl ?_
   refine wp_exit ?_
   (try simp only [Exit.then, Exit.inBlock, ↓reduceIte, Nat.reduceEqDiff])
   refine hK2 _ _ ?_
   refine wp_seq_k (fun K32 hK32 => ?_)
   refine wp_region_lit ?_
   refine wpList_plain rfl (fun Ko hKo => ?_)
   go_simp
   refine hKo _ _ ?_
   clear hKo Ko
   try simp only [Act.put, nm1, nm2, nm3, i64_w]
   refine wpList_nil ?_
   (try simp only [Exit.then, Exit.inBlock, ↓reduceIte, Nat.reduceEqDiff])
   refine hK32 _ _ ?_
   refine wp_ret ?_
   (try simp only [Exit.then, Exit.inBlock, ↓reduceIte, Nat.reduceEqDiff])
   refine hQf _ _ _ ?_
   exact bodyPost_ret (v := .bool true) (by first | rfl | (simp [results, Tryd.results41, go_sem]; done) | (simp [results, Tryd.results41, go_sem]; rfl)) rfl ⟨rfl, hu6.out⟩

set_option maxHeartbeats 4000000 in
set_option maxRecDepth 100000 in
theorem impl_isPoint.calls (K : Nat) (a0 : Int) (a1_0 : Int) (a1_1 : Int) (r0 : Bool) (w : World)  (h : impl_isPoint.f K a0 a1_0 a1_1 = some (r0)) :
    Calls Tryd.prog 42 #[.int .i64 a0, .agg #[.int .i64 a1_0, .int .i64 a1_1]] w fun e w' => e = .returned (.bool r0) ∧ Up w w' := by
 have H : (((impl_areNumbers.f K a0 ([a1_0, a1_1])).bind fun t6 => some t6) : Option (Bool)) = some (r0) := h
 clear h
 replace H := Option.bind_eq_some_iff.mp H
 obtain ⟨t6, A7, H⟩ := H
 replace A7 := Aside0.mk A7
 try dsimp only at H
 obtain rfl := Option.some.inj H
 go_enter Tryd.func42, Tryd.ntmps42
 refine wp_hide (fun Qf hQf => ?_)
 refine wp_seq_k (fun K1 hK1 => ?_)
 refine wp_region_lit ?_
 refine step_new (cs := [.int .i64 a1_0, .int .i64 a1_1]) (T := 28) (f := fun b => .pointer (some ⟨b, 0, none⟩)) rfl (by first | (go_simp; done) | (go_simp; rfl)) ?_
 intro b2 w3 hu lb hb2
 simp only [Act.put, nm1, nm2, nm3, i64_w]
 have lbb2 := Aside0.mk lb
 have ltb2 := Aside0.mk hb2.lt
 clear lb
 have hu4 := Aside0.mk hu
 clear hu
 refine wpList_plain rfl (fun Ko hKo => ?_)
 go_simp
 refine hKo _ _ ?_
 clear hKo Ko
 try simp only [Act.put, nm1, nm2, nm3, i64_w]
 refine wpList_nil ?_
 (try simp only [Exit.then, Exit.inBlock, ↓reduceIte, Nat.reduceEqDiff])
 refine hK1 _ _ ?_
 refine wp_seq_k (fun K5 hK5 => ?_)
 refine wp_region_lit ?_
 refine wpList_plain rfl (fun Ko hKo => ?_)
 go_simp
 refine hKo _ _ ?_
 clear hKo Ko
 try simp only [Act.put, nm1, nm2, nm3, i64_w]
 refine wpList_plain rfl (fun Ko hKo => ?_)
 go_simp
 refine hKo _ _ ?_
 clear hKo Ko
 try simp only [Act.put, nm1, nm2, nm3, i64_w]
 refine step_call (wanted_none rfl) (by first | (go_simp; done) | (go_simp; rfl)) (impl_areNumbers.calls K a0 (some ⟨b2, 0, none⟩) 2 ([a1_0, a1_1]) t6 w3 (Rd.of_blk (E := eI) (xs := [a1_0, a1_1]) (o := 0) hb2 (by simp) (fun j u hu => by rcases j with _ | _ | j <;> simp_all [Enc.flat, eI])) A7.out) ?_
 rintro e w8 ⟨rfl, hu⟩
 have hu9 := Aside0.mk hu
 clear hu
 refine ⟨_, rfl, ?_⟩
 simp only [Act.put, nm1, nm2, nm3, i64_w]
 refine wpList_plain rfl (fun Ko hKo => ?_)
 go_simp
 refine hKo _ _ ?_
 clear hKo Ko
 try simp only [Act.put, nm1, nm2, nm3, i64_w]
 refine wpList_nil ?_
 (try simp only [Exit.then, Exit.inBlock, ↓reduceIte, Nat.reduceEqDiff])
 refine hK5 _ _ ?_
 refine wp_ret ?_
 (try simp only [Exit.then, Exit.inBlock, ↓reduceIte, Nat.reduceEqDiff])
 refine hQf _ _ _ ?_
 exact bodyPost_ret (v := .bool t6) (by first | rfl | (simp [results, Tryd.results42, go_sem]; done) | (simp [results, Tryd.results42, go_sem]; rfl)) rfl ⟨rfl, (hu4.out.trans hu9.out)⟩

set_option maxHeartbeats 4000000 in
set_option maxRecDepth 100000 in
theorem impl_isMap.calls (K : Nat) (a0 : Int) (a1_0 : Int) (a1_1 : Int) (a1_2 : Int) (a1_3 : Int) (a1_4 : Int) (a1_5 : Int) (r0 : Bool) (w : World)  (h : impl_isMap.f K a0 a1_0 a1_1 a1_2 a1_3 a1_4 a1_5 = some (r0)) :
    Calls Tryd.prog 29 #[.int .i64 a0, .agg #[.int .i64 a1_0, .int .i64 a1_1, .int .i64 a1_2, .int .i64 a1_3, .int .i64 a1_4, .int .i64 a1_5]] w fun e w' => e = .returned (.bool r0) ∧ Up w w' := by
 have H : (((impl_areNumbers.f K a0 ([a1_0, a1_1, a1_2, a1_3])).bind fun t6 => (if t6 = true then ((impl_isPoint.f K a0 a1_4 a1_5).bind fun t11 => some t11) else some false)) : Option (Bool)) = some (r0) := h
 clear h
 replace H := Option.bind_eq_some_iff.mp H
 obtain ⟨t6, A7, H⟩ := H
 replace A7 := Aside0.mk A7
 try dsimp only at H
 by_cases c10 : (t6) = true
 ·
  rw [if_pos c10] at H
  subst c10
  replace H := Option.bind_eq_some_iff.mp H
  obtain ⟨t11, A12, H⟩ := H
  replace A12 := Aside0.mk A12
  try dsimp only at H
  obtain rfl := Option.some.inj H
  go_enter Tryd.func29, Tryd.ntmps29
  refine wp_hide (fun Qf hQf => ?_)
  refine wp_seq_k (fun K1 hK1 => ?_)
  refine wp_region_lit ?_
  refine step_new (cs := [.int .i64 a1_0, .int .i64 a1_1, .int .i64 a1_2, .int .i64 a1_3, .int .i64 a1_4, .int .i64 a1_5]) (T := 30) (f := fun b => .pointer (some ⟨b, 0, none⟩)) rfl (by first | (go_simp; done) | (go_simp; rfl)) ?_
  intro b2 w3 hu lb hb2
  simp only [Act.put, nm1, nm2, nm3, i64_w]
  have lbb2 := Aside0.mk lb
  have ltb2 := Aside0.mk hb2.lt
  clear lb
  have hu4 := Aside0.mk hu
  clear hu
  refine wpList_plain rfl (fun Ko hKo => ?_)
  go_simp
  refine hKo _ _ ?_
  clear hKo Ko
  try simp only [Act.put, nm1, nm2, nm3, i64_w]
  refine wpList_nil ?_
  (try simp only [Exit.then, Exit.inBlock, ↓reduceIte, Nat.reduceEqDiff])
  refine hK1 _ _ ?_
  refine wp_seq_k (fun K5 hK5 => ?_)
  refine wp_region_lit ?_
  refine wpList_plain rfl (fun Ko hKo => ?_)
  go_simp
  refine hKo _ _ ?_
  clear hKo Ko
  try simp only [Act.put, nm1, nm2, nm3, i64_w]
  refine wpList_plain rfl (fun Ko hKo => ?_)
  go_simp
  refine hKo _ _ ?_
  clear hKo Ko
  try simp only [Act.put, nm1, nm2, nm3, i64_w]
  refine wpList_plain rfl (fun Ko hKo => ?_)
  go_simp
  refine hKo _ _ ?_
  clear hKo Ko
  try simp only [Act.put, nm1, nm2, nm3, i64_w]
  refine step_call (wanted_none rfl) (by first | (go_simp; done) | (go_simp; rfl)) (impl_areNumbers.calls K a0 (some ⟨b2, 0, none⟩) 4 ([a1_0, a1_1, a1_2, a1_3]) true w3 (Rd.of_blk (E := eI) (xs := [a1_0, a1_1, a1_2, a1_3]) (o := 0) hb2 (by simp) (fun j u hu => by rcases j with _ | _ | _ | _ | _ | _ | j <;> simp_all [Enc.flat, eI])) A7.out) ?_
  rintro e w8 ⟨rfl, hu⟩
  have hu9 := Aside0.mk hu
  clear hu
  refine ⟨_, rfl, ?_⟩
  simp only [Act.put, nm1, nm2, nm3, i64_w]
  refine wpList_plain rfl (fun Ko hKo => ?_)
  go_simp
  refine hKo _ _ ?_
  clear hKo Ko
  try simp only [Act.put, nm1, nm2, nm3, i64_w]
  refine wpList_step (fun Ko hKo => ?_)
  go_simp
  refine hKo _ _ ?_
  clear hKo Ko
  try simp only [Act.put, nm1, nm2, nm3, i64_w]
  refine wpList_step (fun Ko hKo => ?_)
  go_simp
  refine hKo _ _ ?_
  clear hKo Ko
  try simp only [Act.put, nm1, nm2, nm3, i64_w]
  have cl0 := (hb2.up hu9.out).cell (o := 4) rfl
  have cl1 := (hb2.up hu9.out).cell (o := 5) rfl
  refine wpList_step (fun Ko hKo => ?_)
  go_simp
  refine hKo _ _ ?_
  clear hKo Ko
  clear cl0 cl1
  try simp only [Act.put, nm1, nm2, nm3, i64_w]
  refine step_call rfl (by first | (go_simp; done) | (go_simp; rfl)) (impl_isPoint.calls K a0 a1_4 a1_5 t11 w8  A12.out) ?_
  rintro e w13 ⟨rfl, hu⟩
  have hu14 := Aside0.mk hu
  clear hu
  refine ⟨_, rfl, ?_⟩
  simp only [Act.put, nm1, nm2, nm3, i64_w]
  refine wpList_plain rfl (fun Ko hKo => ?_)
  go_simp
  refine hKo _ _ ?_
  clear hKo Ko
  try simp only [Act.put, nm1, nm2, nm3, i64_w]
  refine wpList_plain rfl (fun Ko hKo => ?_)
  go_simp
  refine hKo _ _ ?_
  clear hKo Ko
  try simp only [Act.put, nm1, nm2, nm3, i64_w]
  refine wpList_nil ?_
  (try simp only [Exit.then, Exit.inBlock, ↓reduceIte, Nat.reduceEqDiff])
  refine hK5 _ _ ?_
  refine wp_ret ?_
  (try simp only [Exit.then, Exit.inBlock, ↓reduceIte, Nat.reduceEqDiff])
  refine hQf _ _ _ ?_
  exact bodyPost_ret (v := .bool t11) (by first | rfl | (simp [results, Tryd.results29, go_sem]; done) | (simp [results, Tryd.results29, go_sem]; rfl)) rfl ⟨rfl, ((hu4.out.trans hu9.out).trans hu14.out)⟩
 ·
  rw [if_neg c10] at H
  replace c10 := Bool.eq_false_iff.mpr c10
  subst c10
  obtain rfl := Option.some.inj H
  go_enter Tryd.func29, Tryd.ntmps29
  refine wp_hide (fun Qf hQf => ?_)
  refine wp_seq_k (fun K1 hK1 => ?_)
  refine wp_region_lit ?_
  refine step_new (cs := [.int .i64 a1_0, .int .i64 a1_1, .int .i64 a1_2, .int .i64 a1_3, .int .i64 a1_4, .int .i64 a1_5]) (T := 30) (f := fun b => .pointer (some ⟨b, 0, none⟩)) rfl (by first | (go_simp; done) | (go_simp; rfl)) ?_
  intro b2 w3 hu lb hb2
  simp only [Act.put, nm1, nm2, nm3, i64_w]
  have lbb2 := Aside0.mk lb
  have ltb2 := Aside0.mk hb2.lt
  clear lb
  have hu4 := Aside0.mk hu
  clear hu
  refine wpList_plain rfl (fun Ko hKo => ?_)
  go_simp
  refine hKo _ _ ?_
  clear hKo Ko
  try simp only [Act.put, nm1, nm2, nm3, i64_w]
  refine wpList_nil ?_
  (try simp only [Exit.then, Exit.inBlock, ↓reduceIte, Nat.reduceEqDiff])
  refine hK1 _ _ ?_
  refine wp_seq_k (fun K5 hK5 => ?_)
  refine wp_region_lit ?_
  refine wpList_plain rfl (fun Ko hKo => ?_)
  go_simp
  refine hKo _ _ ?_
  clear hKo Ko
  try simp only [Act.put, nm1, nm2, nm3, i64_w]
  refine wpList_plain rfl (fun Ko hKo => ?_)
  go_simp
  refine hKo _ _ ?_
  clear hKo Ko
  try simp only [Act.put, nm1, nm2, nm3, i64_w]
  refine wpList_plain rfl (fun Ko hKo => ?_)
  go_simp
  refine hKo _ _ ?_
  clear hKo Ko
  try simp only [Act.put, nm1, nm2, nm3, i64_w]
  refine step_call (wanted_none rfl) (by first | (go_simp; done) | (go_simp; rfl)) (impl_areNumbers.calls K a0 (some ⟨b2, 0, none⟩) 4 ([a1_0, a1_1, a1_2, a1_3]) false w3 (Rd.of_blk (E := eI) (xs := [a1_0, a1_1, a1_2, a1_3]) (o := 0) hb2 (by simp) (fun j u hu => by rcases j with _ | _ | _ | _ | _ | _ | j <;> simp_all [Enc.flat, eI])) A7.out) ?_
  rintro e w8 ⟨rfl, hu⟩
  have hu9 := Aside0.mk hu
  clear hu
  refine ⟨_, rfl, ?_⟩
  simp only [Act.put, nm1, nm2, nm3, i64_w]
  refine wpList_plain rfl (fun Ko hKo => ?_)
  go_simp
  refine hKo _ _ ?_
  clear hKo Ko
  try simp only [Act.put, nm1, nm2, nm3, i64_w]
  refine step_no rfl ?_
  simp only [Act.put, nm1, nm2, nm3, i64_w]
  refine step_no rfl ?_
  simp only [Act.put, nm1, nm2, nm3, i64_w]
  refine step_no rfl ?_
  simp only [Act.put, nm1, nm2, nm3, i64_w]
  refine step_no rfl ?_
  simp only [Act.put, nm1, nm2, nm3, i64_w]
  refine wpList_plain rfl (fun Ko hKo => ?_)
  go_simp
  refine hKo _ _ ?_
  clear hKo Ko
  try simp only [Act.put, nm1, nm2, nm3, i64_w]
  refine wpList_plain rfl (fun Ko hKo => ?_)
  go_simp
  refine hKo _ _ ?_
  clear hKo Ko
  try simp only [Act.put, nm1, nm2, nm3, i64_w]
  refine wpList_nil ?_
  (try simp only [Exit.then, Exit.inBlock, ↓reduceIte, Nat.reduceEqDiff])
  refine hK5 _ _ ?_
  refine wp_ret ?_
  (try simp only [Exit.then, Exit.inBlock, ↓reduceIte, Nat.reduceEqDiff])
  refine hQf _ _ _ ?_
  exact bodyPost_ret (v := .bool false) (by first | rfl | (simp [results, Tryd.results29, go_sem]; done) | (simp [results, Tryd.results29, go_sem]; rfl)) rfl ⟨rfl, (hu4.out.trans hu9.out)⟩

set_option maxHeartbeats 4000000 in
set_option maxRecDepth 100000 in
theorem impl_always.calls (K : Nat)  (r0 : Bool) (w : World)  (h : impl_always.f K  = some (r0)) :
    Calls Tryd.prog 15 #[] w fun e w' => e = .returned (.bool r0) ∧ Up w w' := by
 have H : (some true : Option (Bool)) = some (r0) := h
 clear h
 obtain rfl := Option.some.inj H
 go_enter Tryd.func15, Tryd.ntmps15
 refine wp_hide (fun Qf hQf => ?_)
 refine wp_seq_k (fun K1 hK1 => ?_)
 refine wp_region_lit ?_
 refine wpList_plain rfl (fun Ko hKo => ?_)
 go_simp
 refine hKo _ _ ?_
 clear hKo Ko
 try simp only [Act.put, nm1, nm2, nm3, i64_w]
 refine wpList_nil ?_
 (try simp only [Exit.then, Exit.inBlock, ↓reduceIte, Nat.reduceEqDiff])
 refine hK1 _ _ ?_
 refine wp_seq_k (fun K2 hK2 => ?_)
 refine wp_region_lit ?_
 refine wpList_plain rfl (fun Ko hKo => ?_)
 go_simp
 refine hKo _ _ ?_
 clear hKo Ko
 try simp only [Act.put, nm1, nm2, nm3, i64_w]
 refine wpList_nil ?_
 (try simp only [Exit.then, Exit.inBlock, ↓reduceIte, Nat.reduceEqDiff])
 refine hK2 _ _ ?_
 refine wp_ret ?_
 (try simp only [Exit.then, Exit.inBlock, ↓reduceIte, Nat.reduceEqDiff])
 refine hQf _ _ _ ?_
 exact bodyPost_ret (v := .bool true) (by first | rfl | (simp [results, Tryd.results15, go_sem]; done) | (simp [results, Tryd.results15, go_sem]; rfl)) rfl ⟨rfl, (Up.refl _)⟩

set_option maxHeartbeats 4000000 in
set_option maxRecDepth 100000 in
theorem impl_moveAsked_1__impl_always.calls (K : Nat) (bf0 : Nat) (f0_0 : Int) (bf1 : Nat) (f1_0 : Int) (bf2 : Nat) (f2_0 : Int) (f2_1 : Int) (f2_2 : Int) (f2_3 : Int) (f2_4 : Int) (f2_5 : Int) (bf3 : Nat) (r0 : Bool) (w : World) (hf0 : Blk w bf0 [.int .i64 f0_0] 2) (hf1 : Blk w bf1 [.int .i64 f1_0] 2) (hf2 : Blk w bf2 [.int .i64 f2_0, .int .i64 f2_1, .int .i64 f2_2, .int .i64 f2_3, .int .i64 f2_4, .int .i64 f2_5] 30) (hf3 : Blk w bf3 [.func (.func 15) #[] #[]] 38) (h : impl_moveAsked_1__impl_always.f K f0_0 f1_0 f2_0 f2_1 f2_2 f2_3 f2_4 f2_5 = some (r0)) :
    Calls Tryd.prog 27 #[.pointer (some ⟨bf0, 0, none⟩), .pointer (some ⟨bf1, 0, none⟩), .pointer (some ⟨bf2, 0, none⟩), .pointer (some ⟨bf3, 0, none⟩)] w fun e w' => e = .returned (.bool r0) ∧ Up w w' := by
 have H : (((impl_isColour.f K f0_0).bind fun t3 => (if t3 = true then ((impl_isMap.f K f1_0 f2_0 f2_1 f2_2 f2_3 f2_4 f2_5).bind fun t8 => (if t8 = true then ((impl_always.f K ).bind fun t13 => some t13) else some false)) else some false)) : Option (Bool)) = some (r0) := h
 clear h
 replace H := Option.bind_eq_some_iff.mp H
 obtain ⟨t3, A4, H⟩ := H
 replace A4 := Aside0.mk A4
 try dsimp only at H
 by_cases c7 : (t3) = true
 ·
  rw [if_pos c7] at H
  subst c7
  replace H := Option.bind_eq_some_iff.mp H
  obtain ⟨t8, A9, H⟩ := H
  replace A9 := Aside0.mk A9
  try dsimp only at H
  by_cases c12 : (t8) = true
  ·
   rw [if_pos c12] at H
   subst c12
   replace H := Option.bind_eq_some_iff.mp H
   obtain ⟨t13, A14, H⟩ := H
   replace A14 := Aside0.mk A14
   try dsimp only at H
   obtain rfl := Option.some.inj H
   have ltbf0 := Aside0.mk hf0.lt
   have ltbf1 := Aside0.mk hf1.lt
   have ltbf2 := Aside0.mk hf2.lt
   have ltbf3 := Aside0.mk hf3.lt
   go_enter Tryd.func27, Tryd.ntmps27
   refine wp_hide (fun Qf hQf => ?_)
   refine wp_seq_k (fun K1 hK1 => ?_)
   refine wp_region_lit ?_
   refine wpList_plain rfl (fun Ko hKo => ?_)
   go_simp
   refine hKo _ _ ?_
   clear hKo Ko
   try simp only [Act.put, nm1, nm2, nm3, i64_w]
   refine wpList_nil ?_
   (try simp only [Exit.then, Exit.inBlock, ↓reduceIte, Nat.reduceEqDiff])
   refine hK1 _ _ ?_
   refine wp_seq_k (fun K2 hK2 => ?_)
   refine wp_region_lit ?_
   have cl0 := hf0.cell (o := 0) rfl
   refine wpList_plain rfl (fun Ko hKo => ?_)
   go_simp
   refine hKo _ _ ?_
   clear hKo Ko
   clear cl0
   try simp only [Act.put, nm1, nm2, nm3, i64_w]
   refine step_call (wanted_none rfl) (by first | (go_simp; done) | (go_simp; rfl)) (impl_isColour.calls K f0_0 true w  A4.out) ?_
   rintro e w5 ⟨rfl, hu⟩
   have hu6 := Aside0.mk hu
   clear hu
   refine ⟨_, rfl, ?_⟩
   simp only [Act.put, nm1, nm2, nm3, i64_w]
   refine wpList_plain rfl (fun Ko hKo => ?_)
   go_simp
   refine hKo _ _ ?_
   clear hKo Ko
   try simp only [Act.put, nm1, nm2, nm3, i64_w]
   have cl0 := (hf1.up hu6.out).cell (o := 0) rfl
   refine wpList_step (fun Ko hKo => ?_)
   go_simp
   refine hKo _ _ ?_
   clear hKo Ko
   clear cl0
   try simp only [Act.put, nm1, nm2, nm3, i64_w]
   have cl0 := (hf2.up hu6.out).cell (o := 0) rfl
   have cl1 := (hf2.up hu6.out).cell (o := 1) rfl
   have cl2 := (hf2.up hu6.out).cell (o := 2) rfl
   have cl3 := (hf2.up hu6.out).cell (o := 3) rfl
   have cl4 := (hf2.up hu6.out).cell (o := 4) rfl
   have cl5 := (hf2.up hu6.out).cell (o := 5) rfl
   refine wpList_step (fun Ko hKo => ?_)
   go_simp
   refine hKo _ _ ?_
   clear hKo Ko
   clear cl0 cl1 cl2 cl3 cl4 cl5
   try simp only [Act.put, nm1, nm2, nm3, i64_w]
   refine step_call rfl (by first | (go_simp; done) | (go_simp; rfl)) (impl_isMap.calls K f1_0 f2_0 f2_1 f2_2 f2_3 f2_4 f2_5 true w5  A9.out) ?_
   rintro e w10 ⟨rfl, hu⟩
   have hu11 := Aside0.mk hu
   clear hu
   refine ⟨_, rfl, ?_⟩
   simp only [Act.put, nm1, nm2, nm3, i64_w]
   refine wpList_plain rfl (fun Ko hKo => ?_)
   go_simp
   refine hKo _ _ ?_
   clear hKo Ko
   try simp only [Act.put, nm1, nm2, nm3, i64_w]
   refine wpList_plain rfl (fun Ko hKo => ?_)
   go_simp
   refine hKo _ _ ?_
   clear hKo Ko
   try simp only [Act.put, nm1, nm2, nm3, i64_w]
   have cl0 := (hf3.up (hu6.out.trans hu11.out)).cell (o := 0) rfl
   refine wpList_step (fun Ko hKo => ?_)
   go_simp
   refine hKo _ _ ?_
   clear hKo Ko
   clear cl0
   try simp only [Act.put, nm1, nm2, nm3, i64_w]
   refine step_call rfl (by first | (go_simp; done) | (go_simp; rfl)) (impl_always.calls K  t13 w10  A14.out) ?_
   rintro e w15 ⟨rfl, hu⟩
   have hu16 := Aside0.mk hu
   clear hu
   refine ⟨_, rfl, ?_⟩
   simp only [Act.put, nm1, nm2, nm3, i64_w]
   refine wpList_plain rfl (fun Ko hKo => ?_)
   go_simp
   refine hKo _ _ ?_
   clear hKo Ko
   try simp only [Act.put, nm1, nm2, nm3, i64_w]
   refine wpList_plain rfl (fun Ko hKo => ?_)
   go_simp
   refine hKo _ _ ?_
   clear hKo Ko
   try simp only [Act.put, nm1, nm2, nm3, i64_w]
   refine wpList_nil ?_
   (try simp only [Exit.then, Exit.inBlock, ↓reduceIte, Nat.reduceEqDiff])
   refine hK2 _ _ ?_
   refine wp_ret ?_
   (try simp only [Exit.then, Exit.inBlock, ↓reduceIte, Nat.reduceEqDiff])
   refine hQf _ _ _ ?_
   exact bodyPost_ret (v := .bool t13) (by first | rfl | (simp [results, Tryd.results27, go_sem]; done) | (simp [results, Tryd.results27, go_sem]; rfl)) rfl ⟨rfl, ((hu6.out.trans hu11.out).trans hu16.out)⟩
  ·
   rw [if_neg c12] at H
   replace c12 := Bool.eq_false_iff.mpr c12
   subst c12
   obtain rfl := Option.some.inj H
   have ltbf0 := Aside0.mk hf0.lt
   have ltbf1 := Aside0.mk hf1.lt
   have ltbf2 := Aside0.mk hf2.lt
   have ltbf3 := Aside0.mk hf3.lt
   go_enter Tryd.func27, Tryd.ntmps27
   refine wp_hide (fun Qf hQf => ?_)
   refine wp_seq_k (fun K1 hK1 => ?_)
   refine wp_region_lit ?_
   refine wpList_plain rfl (fun Ko hKo => ?_)
   go_simp
   refine hKo _ _ ?_
   clear hKo Ko
   try simp only [Act.put, nm1, nm2, nm3, i64_w]
   refine wpList_nil ?_
   (try simp only [Exit.then, Exit.inBlock, ↓reduceIte, Nat.reduceEqDiff])
   refine hK1 _ _ ?_
   refine wp_seq_k (fun K2 hK2 => ?_)
   refine wp_region_lit ?_
   have cl0 := hf0.cell (o := 0) rfl
   refine wpList_plain rfl (fun Ko hKo => ?_)
   go_simp
   refine hKo _ _ ?_
   clear hKo Ko
   clear cl0
   try simp only [Act.put, nm1, nm2, nm3, i64_w]
   refine step_call (wanted_none rfl) (by first | (go_simp; done) | (go_simp; rfl)) (impl_isColour.calls K f0_0 true w  A4.out) ?_
   rintro e w5 ⟨rfl, hu⟩
   have hu6 := Aside0.mk hu
   clear hu
   refine ⟨_, rfl, ?_⟩
   simp only [Act.put, nm1, nm2, nm3, i64_w]
   refine wpList_plain rfl (fun Ko hKo => ?_)
   go_simp
   refine hKo _ _ ?_
   clear hKo Ko
   try simp only [Act.put, nm1, nm2, nm3, i64_w]
   have cl0 := (hf1.up hu6.out).cell (o := 0) rfl
   refine wpList_step (fun Ko hKo => ?_)
   go_simp
   refine hKo _ _ ?_
   clear hKo Ko
   clear cl0
   try simp only [Act.put, nm1, nm2, nm3, i64_w]
   have cl0 := (hf2.up hu6.out).cell (o := 0) rfl
   have cl1 := (hf2.up hu6.out).cell (o := 1) rfl
   have cl2 := (hf2.up hu6.out).cell (o := 2) rfl
   have cl3 := (hf2.up hu6.out).cell (o := 3) rfl
   have cl4 := (hf2.up hu6.out).cell (o := 4) rfl
   have cl5 := (hf2.up hu6.out).cell (o := 5) rfl
   refine wpList_step (fun Ko hKo => ?_)
   go_simp
   refine hKo _ _ ?_
   clear hKo Ko
   clear cl0 cl1 cl2 cl3 cl4 cl5
   try simp only [Act.put, nm1, nm2, nm3, i64_w]
   refine step_call rfl (by first | (go_simp; done) | (go_simp; rfl)) (impl_isMap.calls K f1_0 f2_0 f2_1 f2_2 f2_3 f2_4 f2_5 false w5  A9.out) ?_
   rintro e w10 ⟨rfl, hu⟩
   have hu11 := Aside0.mk hu
   clear hu
   refine ⟨_, rfl, ?_⟩
   simp only [Act.put, nm1, nm2, nm3, i64_w]
   refine wpList_plain rfl (fun Ko hKo => ?_)
   go_simp
   refine hKo _ _ ?_
   clear hKo Ko
   try simp only [Act.put, nm1, nm2, nm3, i64_w]
   refine wpList_plain rfl (fun Ko hKo => ?_)
   go_simp
   refine hKo _ _ ?_
   clear hKo Ko
   try simp only [Act.put, nm1, nm2, nm3, i64_w]
   refine step_no rfl ?_
   simp only [Act.put, nm1, nm2, nm3, i64_w]
   refine step_no rfl ?_
   simp only [Act.put, nm1, nm2, nm3, i64_w]
   refine wpList_plain rfl (fun Ko hKo => ?_)
   go_simp
   refine hKo _ _ ?_
   clear hKo Ko
   try simp only [Act.put, nm1, nm2, nm3, i64_w]
   refine wpList_plain rfl (fun Ko hKo => ?_)
   go_simp
   refine hKo _ _ ?_
   clear hKo Ko
   try simp only [Act.put, nm1, nm2, nm3, i64_w]
   refine wpList_nil ?_
   (try simp only [Exit.then, Exit.inBlock, ↓reduceIte, Nat.reduceEqDiff])
   refine hK2 _ _ ?_
   refine wp_ret ?_
   (try simp only [Exit.then, Exit.inBlock, ↓reduceIte, Nat.reduceEqDiff])
   refine hQf _ _ _ ?_
   exact bodyPost_ret (v := .bool false) (by first | rfl | (simp [results, Tryd.results27, go_sem]; done) | (simp [results, Tryd.results27, go_sem]; rfl)) rfl ⟨rfl, (hu6.out.trans hu11.out)⟩
 ·
  rw [if_neg c7] at H
  replace c7 := Bool.eq_false_iff.mpr c7
  subst c7
  obtain rfl := Option.some.inj H
  have ltbf0 := Aside0.mk hf0.lt
  have ltbf1 := Aside0.mk hf1.lt
  have ltbf2 := Aside0.mk hf2.lt
  have ltbf3 := Aside0.mk hf3.lt
  go_enter Tryd.func27, Tryd.ntmps27
  refine wp_hide (fun Qf hQf => ?_)
  refine wp_seq_k (fun K1 hK1 => ?_)
  refine wp_region_lit ?_
  refine wpList_plain rfl (fun Ko hKo => ?_)
  go_simp
  refine hKo _ _ ?_
  clear hKo Ko
  try simp only [Act.put, nm1, nm2, nm3, i64_w]
  refine wpList_nil ?_
  (try simp only [Exit.then, Exit.inBlock, ↓reduceIte, Nat.reduceEqDiff])
  refine hK1 _ _ ?_
  refine wp_seq_k (fun K2 hK2 => ?_)
  refine wp_region_lit ?_
  have cl0 := hf0.cell (o := 0) rfl
  refine wpList_plain rfl (fun Ko hKo => ?_)
  go_simp
  refine hKo _ _ ?_
  clear hKo Ko
  clear cl0
  try simp only [Act.put, nm1, nm2, nm3, i64_w]
  refine step_call (wanted_none rfl) (by first | (go_simp; done) | (go_simp; rfl)) (impl_isColour.calls K f0_0 false w  A4.out) ?_
  rintro e w5 ⟨rfl, hu⟩
  have hu6 := Aside0.mk hu
  clear hu
  refine ⟨_, rfl, ?_⟩
  simp only [Act.put, nm1, nm2, nm3, i64_w]
  refine wpList_plain rfl (fun Ko hKo => ?_)
  go_simp
  refine hKo _ _ ?_
  clear hKo Ko
  try simp only [Act.put, nm1, nm2, nm3, i64_w]
  refine step_no rfl ?_
  simp only [Act.put, nm1, nm2, nm3, i64_w]
  refine step_no rfl ?_
  simp only [Act.put, nm1, nm2, nm3, i64_w]
  refine step_no rfl ?_
  simp only [Act.put, nm1, nm2, nm3, i64_w]
  refine wpList_plain rfl (fun Ko hKo => ?_)
  go_simp
  refine hKo _ _ ?_
  clear hKo Ko
  try simp only [Act.put, nm1, nm2, nm3, i64_w]
  refine wpList_plain rfl (fun Ko hKo => ?_)
  go_simp
  refine hKo _ _ ?_
  clear hKo Ko
  try simp only [Act.put, nm1, nm2, nm3, i64_w]
  refine step_no rfl ?_
  simp only [Act.put, nm1, nm2, nm3, i64_w]
  refine step_no rfl ?_
  simp only [Act.put, nm1, nm2, nm3, i64_w]
  refine wpList_plain rfl (fun Ko hKo => ?_)
  go_simp
  refine hKo _ _ ?_
  clear hKo Ko
  try simp only [Act.put, nm1, nm2, nm3, i64_w]
  refine wpList_plain rfl (fun Ko hKo => ?_)
  go_simp
  refine hKo _ _ ?_
  clear hKo Ko
  try simp only [Act.put, nm1, nm2, nm3, i64_w]
  refine wpList_nil ?_
  (try simp only [Exit.then, Exit.inBlock, ↓reduceIte, Nat.reduceEqDiff])
  refine hK2 _ _ ?_
  refine wp_ret ?_
  (try simp only [Exit.then, Exit.inBlock, ↓reduceIte, Nat.reduceEqDiff])
  refine hQf _ _ _ ?_
  exact bodyPost_ret (v := .bool false) (by first | rfl | (simp [results, Tryd.results27, go_sem]; done) | (simp [results, Tryd.results27, go_sem]; rfl)) rfl ⟨rfl, hu6.out⟩

set_option maxHeartbeats 4000000 in
set_option maxRecDepth 100000 in
theorem impl_asked__impl_moveAsked_1_impl_always.calls (K : Nat) (a0 : Int) (bc1_0 : Nat) (c1_0_0 : Int) (bc1_1 : Nat) (c1_1_0 : Int) (bc1_2 : Nat) (c1_2_0 : Int) (c1_2_1 : Int) (c1_2_2 : Int) (c1_2_3 : Int) (c1_2_4 : Int) (c1_2_5 : Int) (bc1_3 : Nat) (r0 : Int) (w : World) (hc1_0 : Blk w bc1_0 [.int .i64 c1_0_0] 2) (hc1_1 : Blk w bc1_1 [.int .i64 c1_1_0] 2) (hc1_2 : Blk w bc1_2 [.int .i64 c1_2_0, .int .i64 c1_2_1, .int .i64 c1_2_2, .int .i64 c1_2_3, .int .i64 c1_2_4, .int .i64 c1_2_5] 30) (hc1_3 : Blk w bc1_3 [.func (.func 15) #[] #[]] 38) (h : impl_asked__impl_moveAsked_1_impl_always.f K a0 c1_0_0 c1_1_0 c1_2_0 c1_2_1 c1_2_2 c1_2_3 c1_2_4 c1_2_5 = some (r0)) :
    Calls Tryd.prog 26 #[.int .i64 a0, .func (.func 27) #[] #[.pointer (some ⟨bc1_0, 0, none⟩), .pointer (some ⟨bc1_1, 0, none⟩), .pointer (some ⟨bc1_2, 0, none⟩), .pointer (some ⟨bc1_3, 0, none⟩)]] w fun e w' => e = .returned (.int .i64 r0) ∧ Up w w' := by
 have H : (((impl_IsField.f K a0).bind fun t4 => (if t4 = true then ((impl_moveAsked_1__impl_always.f K c1_0_0 c1_1_0 c1_2_0 c1_2_1 c1_2_2 c1_2_3 c1_2_4 c1_2_5).bind fun t11 => (if t11 = true then some 0 else some 2)) else some 1)) : Option (Int)) = some (r0) := h
 clear h
 replace H := Option.bind_eq_some_iff.mp H
 obtain ⟨t4, A5, H⟩ := H
 replace A5 := Aside0.mk A5
 try dsimp only at H
 by_cases c8 : (t4) = true
 ·
  rw [if_pos c8] at H
  subst c8
  replace H := Option.bind_eq_some_iff.mp H
  obtain ⟨t11, A12, H⟩ := H
  replace A12 := Aside0.mk A12
  try dsimp only at H
  by_cases c15 : (t11) = true
  ·
   rw [if_pos c15] at H
   subst c15
   obtain rfl := Option.some.inj H
   have ltbc1_0 := Aside0.mk hc1_0.lt
   have ltbc1_1 := Aside0.mk hc1_1.lt
   have ltbc1_2 := Aside0.mk hc1_2.lt
   have ltbc1_3 := Aside0.mk hc1_3.lt
   go_enter Tryd.func26, Tryd.ntmps26
   refine wp_hide (fun Qf hQf => ?_)
   refine wp_seq_k (fun K1 hK1 => ?_)
   refine wp_region_lit ?_
   refine wpList_plain rfl (fun Ko hKo => ?_)
   go_simp
   refine hKo _ _ ?_
   clear hKo Ko
   try simp only [Act.put, nm1, nm2, nm3, i64_w]
   refine wpList_nil ?_
   (try simp only [Exit.then, Exit.inBlock, ↓reduceIte, Nat.reduceEqDiff])
   refine hK1 _ _ ?_
   refine wp_seq_k (fun K2 hK2 => ?_)
   refine wp_seq_k (fun K3 hK3 => ?_)
   refine wp_region_lit ?_
   refine wpList_plain rfl (fun Ko hKo => ?_)
   go_simp
   refine hKo _ _ ?_
   clear hKo Ko
   try simp only [Act.put, nm1, nm2, nm3, i64_w]
   refine step_call (wanted_none rfl) (by first | (go_simp; done) | (go_simp; rfl)) (impl_IsField.calls K a0 true w  A5.out) ?_
   rintro e w6 ⟨rfl, hu⟩
   have hu7 := Aside0.mk hu
   clear hu
   refine ⟨_, rfl, ?_⟩
   simp only [Act.put, nm1, nm2, nm3, i64_w]
   refine wpList_plain rfl (fun Ko hKo => ?_)
   go_simp
   refine hKo _ _ ?_
   clear hKo Ko
   try simp only [Act.put, nm1, nm2, nm3, i64_w]
   refine wpList_nil ?_
   (try simp only [Exit.then, Exit.inBlock, ↓reduceIte, Nat.reduceEqDiff])
   refine hK3 _ _ ?_
   refine wp_cond_false rfl ?_
   refine wp_skip ?_
   (try simp only [Exit.then, Exit.inBlock, ↓reduceIte, Nat.reduceEqDiff])
   refine hK2 _ _ ?_
   refine wp_seq_k (fun K9 hK9 => ?_)
   refine wp_seq_k (fun K10 hK10 => ?_)
   refine wp_region_lit ?_
   refine wpList_plain rfl (fun Ko hKo => ?_)
   go_simp
   refine hKo _ _ ?_
   clear hKo Ko
   try simp only [Act.put, nm1, nm2, nm3, i64_w]
   refine step_call (wanted_none rfl) (by first | (go_simp; done) | (go_simp; rfl)) (impl_moveAsked_1__impl_always.calls K bc1_0 c1_0_0 bc1_1 c1_1_0 bc1_2 c1_2_0 c1_2_1 c1_2_2 c1_2_3 c1_2_4 c1_2_5 bc1_3 true w6 (hc1_0.up hu7.out) (hc1_1.up hu7.out) (hc1_2.up hu7.out) (hc1_3.up hu7.out) A12.out) ?_
   rintro e w13 ⟨rfl, hu⟩
   have hu14 := Aside0.mk hu
   clear hu
   refine ⟨_, rfl, ?_⟩
   simp only [Act.put, nm1, nm2, nm3, i64_w]
   refine wpList_plain rfl (fun Ko hKo => ?_)
   go_simp
   refine hKo _ _ ?_
   clear hKo Ko
   try simp only [Act.put, nm1, nm2, nm3, i64_w]
   refine wpList_nil ?_
   (try simp only [Exit.then, Exit.inBlock, ↓reduceIte, Nat.reduceEqDiff])
   refine hK10 _ _ ?_
   refine wp_cond_false rfl ?_
   refine wp_skip ?_
   (try simp only [Exit.then, Exit.inBlock, ↓reduceIte, Nat.reduceEqDiff])
   refine hK9 _ _ ?_
   refine wp_seq_k (fun K16 hK16 => ?_)
   refine wp_region_lit ?_
   refine wpList_plain rfl (fun Ko hKo => ?_)
   go_simp
   refine hKo _ _ ?_
   clear hKo Ko
   try simp only [Act.put, nm1, nm2, nm3, i64_w]
   refine wpList_nil ?_
   (try simp only [Exit.then, Exit.inBlock, ↓reduceIte, Nat.reduceEqDiff])
   refine hK16 _ _ ?_
   refine wp_ret ?_
   (try simp only [Exit.then, Exit.inBlock, ↓reduceIte, Nat.reduceEqDiff])
   refine hQf _ _ _ ?_
   exact bodyPost_ret (v := .int .i64 0) (by first | rfl | (simp [results, Tryd.results26, go_sem]; done) | (simp [results, Tryd.results26, go_sem]; rfl)) rfl ⟨rfl, (hu7.out.trans hu14.out)⟩
  ·
   rw [if_neg c15] at H
   replace c15 := Bool.eq_false_iff.mpr c15
   subst c15
   obtain rfl := Option.some.inj H
   have ltbc1_0 := Aside0.mk hc1_0.lt
   have ltbc1_1 := Aside0.mk hc1_1.lt
   have ltbc1_2 := Aside0.mk hc1_2.lt
   have ltbc1_3 := Aside0.mk hc1_3.lt
   go_enter Tryd.func26, Tryd.ntmps26
   refine wp_hide (fun Qf hQf => ?_)
   refine wp_seq_k (fun K1 hK1 => ?_)
   refine wp_region_lit ?_
   refine wpList_plain rfl (fun Ko hKo => ?_)
   go_simp
   refine hKo _ _ ?_
   clear hKo Ko
   try simp only [Act.put, nm1, nm2, nm3, i64_w]
   refine wpList_nil ?_
   (try simp only [Exit.then, Exit.inBlock, ↓reduceIte, Nat.reduceEqDiff])
   refine hK1 _ _ ?_
   refine wp_seq_k (fun K2 hK2 => ?_)
   refine wp_seq_k (fun K3 hK3 => ?_)
   refine wp_region_lit ?_
   refine wpList_plain rfl (fun Ko hKo => ?_)
   go_simp
   refine hKo _ _ ?_
   clear hKo Ko
   try simp only [Act.put, nm1, nm2, nm3, i64_w]
   refine step_call (wanted_none rfl) (by first | (go_simp; done) | (go_simp; rfl)) (impl_IsField.calls K a0 true w  A5.out) ?_
   rintro e w6 ⟨rfl, hu⟩
   have hu7 := Aside0.mk hu
   clear hu
   refine ⟨_, rfl, ?_⟩
   simp only [Act.put, nm1, nm2, nm3, i64_w]
   refine wpList_plain rfl (fun Ko hKo => ?_)
   go_simp
   refine hKo _ _ ?_
   clear hKo Ko
   try simp only [Act.put, nm1, nm2, nm3, i64_w]
   refine wpList_nil ?_
   (try simp only [Exit.then, Exit.inBlock, ↓reduceIte, Nat.reduceEqDiff])
   refine hK3 _ _ ?_
   refine wp_cond_false rfl ?_
   refine wp_skip ?_
   (try simp only [Exit.then, Exit.inBlock, ↓reduceIte, Nat.reduceEqDiff])
   refine hK2 _ _ ?_
   refine wp_seq_k (fun K9 hK9 => ?_)
   refine wp_seq_k (fun K10 hK10 => ?_)
   refine wp_region_lit ?_
   refine wpList_plain rfl (fun Ko hKo => ?_)
   go_simp
   refine hKo _ _ ?_
   clear hKo Ko
   try simp only [Act.put, nm1, nm2, nm3, i64_w]
   refine step_call (wanted_none rfl) (by first | (go_simp; done) | (go_simp; rfl)) (impl_moveAsked_1__impl_always.calls K bc1_0 c1_0_0 bc1_1 c1_1_0 bc1_2 c1_2_0 c1_2_1 c1_2_2 c1_2_3 c1_2_4 c1_2_5 bc1_3 false w6 (hc1_0.up hu7.out) (hc1_1.up hu7.out) (hc1_2.up hu7.out) (hc1_3.up hu7.out) A12.out) ?_
   rintro e w13 ⟨rfl, hu⟩
   have hu14 := Aside0.mk hu
   clear hu
   refine ⟨_, rfl, ?_⟩
   simp only [Act.put, nm1, nm2, nm3, i64_w]
   refine wpList_plain rfl (fun Ko hKo => ?_)
   go_simp
   refine hKo _ _ ?_
   clear hKo Ko
   try simp only [Act.put, nm1, nm2, nm3, i64_w]
   refine wpList_nil ?_
   (try simp only [Exit.then, Exit.inBlock, ↓reduceIte, Nat.reduceEqDiff])
   refine hK10 _ _ ?_
   refine wp_cond_true rfl ?_
   refine wp_seq_k (fun K17 hK17 => ?_)
   refine wp_region_lit ?_
   refine wpList_plain rfl (fun Ko hKo => ?_)
   go_simp
   refine hKo _ _ ?_
   clear hKo Ko
   try simp only [Act.put, nm1, nm2, nm3, i64_w]
   refine wpList_nil ?_
   (try simp only [Exit.then, Exit.inBlock, ↓reduceIte, Nat.reduceEqDiff])
   refine hK17 _ _ ?_
   refine wp_ret ?_
   (try simp only [Exit.then, Exit.inBlock, ↓reduceIte, Nat.reduceEqDiff])
   refine hQf _ _ _ ?_
   exact bodyPost_ret (v := .int .i64 2) (by first | rfl | (simp [results, Tryd.results26, go_sem]; done) | (simp [results, Tryd.results26, go_sem]; rfl)) rfl ⟨rfl, (hu7.out.trans hu14.out)⟩
 ·
  rw [if_neg c8] at H
  replace c8 := Bool.eq_false_iff.mpr c8
  subst c8
  obtain rfl := Option.some.inj H
  have ltbc1_0 := Aside0.mk hc1_0.lt
  have ltbc1_1 := Aside0.mk hc1_1.lt
  have ltbc1_2 := Aside0.mk hc1_2.lt
  have ltbc1_3 := Aside0.mk hc1_3.lt
  go_enter Tryd.func26, Tryd.ntmps26
  refine wp_hide (fun Qf hQf => ?_)
  refine wp_seq_k (fun K1 hK1 => ?_)
  refine wp_region_lit ?_
  refine wpList_plain rfl (fun Ko hKo => ?_)
  go_simp
  refine hKo _ _ ?_
  clear hKo Ko
  try simp only [Act.put, nm1, nm2, nm3, i64_w]
  refine wpList_nil ?_
  (try simp only [Exit.then, Exit.inBlock, ↓reduceIte, Nat.reduceEqDiff])
  refine hK1 _ _ ?_
  refine wp_seq_k (fun K2 hK2 => ?_)
  refine wp_seq_k (fun K3 hK3 => ?_)
  refine wp_region_lit ?_
  refine wpList_plain rfl (fun Ko hKo => ?_)
  go_simp
  refine hKo _ _ ?_
  clear hKo Ko
  try simp only [Act.put, nm1, nm2, nm3, i64_w]
  refine step_call (wanted_none rfl) (by first | (go_simp; done) | (go_simp; rfl)) (impl_IsField.calls K a0 false w  A5.out) ?_
  rintro e w6 ⟨rfl, hu⟩
  have hu7 := Aside0.mk hu
  clear hu
  refine ⟨_, rfl, ?_⟩
  simp only [Act.put, nm1, nm2, nm3, i64_w]
  refine wpList_plain rfl (fun Ko hKo => ?_)
  go_simp
  refine hKo _ _ ?_
  clear hKo Ko
  try simp only [Act.put, nm1, nm2, nm3, i64_w]
  refine wpList_nil ?_
  (try simp only [Exit.then, Exit.inBlock, ↓reduceIte, Nat.reduceEqDiff])
  refine hK3 _ _ ?_
  refine wp_cond_true rfl ?_
  refine wp_seq_k (fun K18 hK18 => ?_)
  refine wp_region_lit ?_
  refine wpList_plain rfl (fun Ko hKo => ?_)
  go_simp
  refine hKo _ _ ?_
  clear hKo Ko
  try simp only [Act.put, nm1, nm2, nm3, i64_w]
  refine wpList_nil ?_
  (try simp only [Exit.then, Exit.inBlock, ↓reduceIte, Nat.reduceEqDiff])
  refine hK18 _ _ ?_
  refine wp_ret ?_
  (try simp only [Exit.then, Exit.inBlock, ↓reduceIte, Nat.reduceEqDiff])
  refine hQf _ _ _ ?_
  exact bodyPost_ret (v := .int .i64 1) (by first | rfl | (simp [results, Tryd.results26, go_sem]; done) | (simp [results, Tryd.results26, go_sem]; rfl)) rfl ⟨rfl, hu7.out⟩

set_option maxHeartbeats 4000000 in
set_option maxRecDepth 100000 in
theorem impl_rest.calls (K : Nat) (a0 : Int) (a1 : Int) (r0 : Int) (w : World)  (h : impl_rest.f K a0 a1 = some (r0)) :
    Calls Tryd.prog 31 #[.int .i64 a0, .int .i64 a1] w fun e w' => e = .returned (.int .i64 r0) ∧ Up w w' := by
 have H : ((if (a0 == 0) = true then none else some (Int.tmod (wrap64 ((Int.tmod a1 a0) + a0)) a0)) : Option (Int)) = some (r0) := h
 clear h
 by_cases c3 : (a0 == 0) = true
 ·
  rw [if_pos c3] at H
  have c3n : (a0 != 0) = false := by rw [bne, c3]; rfl
  exact absurd H (by simp)
 ·
  rw [if_neg c3] at H
  replace c3 := Bool.eq_false_iff.mpr c3
  have c3n : (a0 != 0) = true := by rw [bne, c3]; rfl
  have c3p : ¬ a0 = 0 := fun e => by simp [e] at c3
  obtain rfl := Option.some.inj H
  go_enter Tryd.func31, Tryd.ntmps31
  refine wp_hide (fun Qf hQf => ?_)
  refine wp_seq_k (fun K1 hK1 => ?_)
  refine wp_region_lit ?_
  refine wpList_plain rfl (fun Ko hKo => ?_)
  go_simp
  refine hKo _ _ ?_
  clear hKo Ko
  try simp only [Act.put, nm1, nm2, nm3, i64_w]
  refine wpList_nil ?_
  (try simp only [Exit.then, Exit.inBlock, ↓reduceIte, Nat.reduceEqDiff])
  refine hK1 _ _ ?_
  refine wp_seq_k (fun K2 hK2 => ?_)
  refine wp_region_lit ?_
  refine wpList_plain rfl (fun Ko hKo => ?_)
  go_simp
  refine hKo _ _ ?_
  clear hKo Ko
  try simp only [Act.put, nm1, nm2, nm3, i64_w]
  refine wpList_plain rfl (fun Ko hKo => ?_)
  go_simp
  refine hKo _ _ ?_
  clear hKo Ko
  try simp only [Act.put, nm1, nm2, nm3, i64_w]
  refine wpList_plain rfl (fun Ko hKo => ?_)
  go_simp
  refine hKo _ _ ?_
  clear hKo Ko
  try simp only [Act.put, nm1, nm2, nm3, i64_w]
  refine wpList_plain rfl (fun Ko hKo => ?_)
  go_simp
  refine hKo _ _ ?_
  clear hKo Ko
  try simp only [Act.put, nm1, nm2, nm3, i64_w]
  refine wpList_plain rfl (fun Ko hKo => ?_)
  go_simp
  refine hKo _ _ ?_
  clear hKo Ko
  try simp only [Act.put, nm1, nm2, nm3, i64_w]
  refine wpList_plain rfl (fun Ko hKo => ?_)
  go_simp
  refine hKo _ _ ?_
  clear hKo Ko
  try simp only [Act.put, nm1, nm2, nm3, i64_w]
  refine wpList_plain rfl (fun Ko hKo => ?_)
  go_simp
  refine hKo _ _ ?_
  clear hKo Ko
  try simp only [Act.put, nm1, nm2, nm3, i64_w]
  refine wpList_plain rfl (fun Ko hKo => ?_)
  go_simp
  refine hKo _ _ ?_
  clear hKo Ko
  try simp only [Act.put, nm1, nm2, nm3, i64_w]
  refine wpList_nil ?_
  (try simp only [Exit.then, Exit.inBlock, ↓reduceIte, Nat.reduceEqDiff])
  refine hK2 _ _ ?_
  refine wp_ret ?_
  (try simp only [Exit.then, Exit.inBlock, ↓reduceIte, Nat.reduceEqDiff])
  refine hQf _ _ _ ?_
  exact bodyPost_ret (v := .int .i64 (Int.tmod (wrap64 ((Int.tmod a1 a0) + a0)) a0)) (by first | rfl | (simp [results, Tryd.results31, go_sem]; done) | (simp [results, Tryd.results31, go_sem]; rfl)) rfl ⟨rfl, (Up.refl _)⟩

set_option maxHeartbeats 4000000 in
set_option maxRecDepth 100000 in
theorem impl_turned.calls (K : Nat) (a0 : Int) (a1_0 : Int) (a1_1 : Int) (a1_2 : Int) (a1_3 : Int) (a2_0 : Int) (a2_1 : Int) (r0 : Int) (r1 : Int) (w : World)  (h : impl_turned.f K a0 a1_0 a1_1 a1_2 a1_3 a2_0 a2_1 = some (r0, r1)) :
    Calls Tryd.prog 43 #[.int .i64 a0, .agg #[.int .i64 a1_0, .int .i64 a1_1, .int .i64 a1_2, .int .i64 a1_3], .agg #[.int .i64 a2_0, .int .i64 a2_1]] w fun e w' => e = .returned (.agg #[.int .i64 r0, .int .i64 r1]) ∧ Up w w' := by
 have H : (((impl_rest.f K a0 (wrap64 ((wrap64 (a1_0 * a2_0)) + (wrap64 (a1_1 * a2_1))))).bind fun t12 => ((impl_rest.f K a0 (wrap64 ((wrap64 (a1_2 * a2_0)) + (wrap64 (a1_3 * a2_1))))).bind fun t14 => some (t12, t14))) : Option (Int × Int)) = some (r0, r1) := h
 clear h
 replace H := Option.bind_eq_some_iff.mp H
 obtain ⟨t12, A13, H⟩ := H
 replace A13 := Aside0.mk A13
 try dsimp only at H
 replace H := Option.bind_eq_some_iff.mp H
 obtain ⟨t14, A15, H⟩ := H
 replace A15 := Aside0.mk A15
 try dsimp only at H
 simp only [Option.some.injEq, Prod.mk.injEq] at H
 obtain ⟨rfl, rfl⟩ := H
 go_enter Tryd.func43, Tryd.ntmps43
 refine wp_hide (fun Qf hQf => ?_)
 refine wp_seq_k (fun K1 hK1 => ?_)
 refine wp_region_lit ?_
 refine step_new (cs := [.int .i64 a1_0, .int .i64 a1_1, .int .i64 a1_2, .int .i64 a1_3]) (T := 22) (f := fun b => .pointer (some ⟨b, 0, none⟩)) rfl (by first | (go_simp; done) | (go_simp; rfl)) ?_
 intro b2 w3 hu lb hb2
 simp only [Act.put, nm1, nm2, nm3, i64_w]
 have lbb2 := Aside0.mk lb
 have ltb2 := Aside0.mk hb2.lt
 clear lb
 have hu4 := Aside0.mk hu
 clear hu
 refine step_new (cs := [.int .i64 a2_0, .int .i64 a2_1]) (T := 28) (f := fun b => .pointer (some ⟨b, 0, none⟩)) rfl (by first | (go_simp; done) | (go_simp; rfl)) ?_
 intro b5 w6 hu lb hb5
 simp only [Act.put, nm1, nm2, nm3, i64_w]
 have lbb5 := Aside0.mk lb
 have ltb5 := Aside0.mk hb5.lt
 clear lb
 have hu7 := Aside0.mk hu
 clear hu
 refine step_new (cs := [.int .i64 0, .int .i64 0]) (T := 28) (f := fun b => .pointer (some ⟨b, 0, none⟩)) rfl (by first | (go_simp; done) | (go_simp; rfl)) ?_
 intro b8 w9 hu lb hb8
 simp only [Act.put, nm1, nm2, nm3, i64_w]
 have lbb8 := Aside0.mk lb
 have ltb8 := Aside0.mk hb8.lt
 clear lb
 have hu10 := Aside0.mk hu
 clear hu
 refine wpList_nil ?_
 (try simp only [Exit.then, Exit.inBlock, ↓reduceIte, Nat.reduceEqDiff])
 refine hK1 _ _ ?_
 refine wp_seq_k (fun K11 hK11 => ?_)
 refine' wp_region_up 27 [Slot.det _, Slot.det _, Slot.det _, Slot.det _, Slot.det _, Slot.det _, Slot.det _, Slot.det _, Slot.det _, Slot.det _, Slot.det _, Slot.det _, Slot.det (.int .i64 t12), Slot.det _, Slot.det _, Slot.det _, Slot.det _, Slot.det _, Slot.det _, Slot.det _, Slot.det _, Slot.det _, Slot.det _, Slot.det _, Slot.det _, Slot.det (.int .i64 t14), Slot.det _] (by kernel_rfl) (by kernel_rfl) ?main
 case main =>
  simp only [List.take_succ_cons, List.take_zero]
  refine wpK_ops rfl (fun w1 hu => ?_) ?_
  · clear hu
    go_simp
    first | done | rfl
  simp only [Act.put, nm1, nm2, nm3, i64_w]
  refine wpK_ops rfl (fun w1 hu => ?_) ?_
  · clear hu
    go_simp
    first | done | rfl
  simp only [Act.put, nm1, nm2, nm3, i64_w]
  refine wpK_ops rfl (fun w1 hu => ?_) ?_
  · have cl0 := ((hb2.up (hu7.out.trans hu10.out)).up ((Up.refl _).drew.trans hu)).cell (o := 0) rfl
    go_simp
    first | done | rfl
  simp only [Act.put, nm1, nm2, nm3, i64_w]
  refine wpK_ops rfl (fun w1 hu => ?_) ?_
  · clear hu
    go_simp
    first | done | rfl
  simp only [Act.put, nm1, nm2, nm3, i64_w]
  refine wpK_ops rfl (fun w1 hu => ?_) ?_
  · have cl0 := ((hb5.up hu10.out).up ((Up.refl _).drew.trans hu)).cell (o := 0) rfl
    go_simp
    first | done | rfl
  simp only [Act.put, nm1, nm2, nm3, i64_w]
  refine wpK_ops rfl (fun w1 hu => ?_) ?_
  · clear hu
    go_simp
    first | done | rfl
  simp only [Act.put, nm1, nm2, nm3, i64_w]
  refine wpK_ops rfl (fun w1 hu => ?_) ?_
  · clear hu
    go_simp
    first | done | rfl
  simp only [Act.put, nm1, nm2, nm3, i64_w]
  refine wpK_ops rfl (fun w1 hu => ?_) ?_
  · have cl0 := ((hb2.up (hu7.out.trans hu10.out)).up ((Up.refl _).drew.trans hu)).cell (o := 1) rfl
    go_simp
    first | done | rfl
  simp only [Act.put, nm1, nm2, nm3, i64_w]
  refine wpK_ops rfl (fun w1 hu => ?_) ?_
  · clear hu
    go_simp
    first | done | rfl
  simp only [Act.put, nm1, nm2, nm3, i64_w]
  refine wpK_ops rfl (fun w1 hu => ?_) ?_
  · have cl0 := ((hb5.up hu10.out).up ((Up.refl _).drew.trans hu)).cell (o := 1) rfl
    go_simp
    first | done | rfl
  simp only [Act.put, nm1, nm2, nm3, i64_w]
  refine wpK_ops rfl (fun w1 hu => ?_) ?_
  · clear hu
    go_simp
    first | done | rfl
  simp only [Act.put, nm1, nm2, nm3, i64_w]
  refine wpK_ops rfl (fun w1 hu => ?_) ?_
  · clear hu
    go_simp
    first | done | rfl
  simp only [Act.put, nm1, nm2, nm3, i64_w]
  refine wpK_ops rfl (fun w1 hu => ?_) ?_
  · have hcl := (impl_rest.calls K a0 (wrap64 ((wrap64 (a1_0 * a2_0)) + (wrap64 (a1_1 * a2_1)))) t12 w1  A13.out)
    clear hu
    replace hcl := Aside0.mk hcl
    go_simp
    exact hcl.out
  simp only [Act.put, nm1, nm2, nm3, i64_w]
  refine wpK_ops rfl (fun w1 hu => ?_) ?_
  · clear hu
    go_simp
    first | done | rfl
  simp only [Act.put, nm1, nm2, nm3, i64_w]
  refine wpK_ops rfl (fun w1 hu => ?_) ?_
  · clear hu
    go_simp
    first | done | rfl
  simp only [Act.put, nm1, nm2, nm3, i64_w]
  refine wpK_ops rfl (fun w1 hu => ?_) ?_
  · have cl0 := ((hb2.up (hu7.out.trans hu10.out)).up ((Up.refl _).drew.trans hu)).cell (o := 2) rfl
    go_simp
    first | done | rfl
  simp only [Act.put, nm1, nm2, nm3, i64_w]
  refine wpK_ops rfl (fun w1 hu => ?_) ?_
  · clear hu
    go_simp
    first | done | rfl
  simp only [Act.put, nm1, nm2, nm3, i64_w]
  refine wpK_ops rfl (fun w1 hu => ?_) ?_
  · have cl0 := ((hb5.up hu10.out).up ((Up.refl _).drew.trans hu)).cell (o := 0) rfl
    go_simp
    first | done | rfl
  simp only [Act.put, nm1, nm2, nm3, i64_w]
  refine wpK_ops rfl (fun w1 hu => ?_) ?_
  · clear hu
    go_simp
    first | done | rfl
  simp only [Act.put, nm1, nm2, nm3, i64_w]
  refine wpK_ops rfl (fun w1 hu => ?_) ?_
  · clear hu
    go_simp
    first | done | rfl
  simp only [Act.put, nm1, nm2, nm3, i64_w]
  refine wpK_ops rfl (fun w1 hu => ?_) ?_
  · have cl0 := ((hb2.up (hu7.out.trans hu10.out)).up ((Up.refl _).drew.trans hu)).cell (o := 3) rfl
    go_simp
    first | done | rfl
  simp only [Act.put, nm1, nm2, nm3, i64_w]
  refine wpK_ops rfl (fun w1 hu => ?_) ?_
  · clear hu
    go_simp
    first | done | rfl
  simp only [Act.put, nm1, nm2, nm3, i64_w]
  refine wpK_ops rfl (fun w1 hu => ?_) ?_
  · have cl0 := ((hb5.up hu10.out).up ((Up.refl _).drew.trans hu)).cell (o := 1) rfl
    go_simp
    first | done | rfl
  simp only [Act.put, nm1, nm2, nm3, i64_w]
  refine wpK_ops rfl (fun w1 hu => ?_) ?_
  · clear hu
    go_simp
    first | done | rfl
  simp only [Act.put, nm1, nm2, nm3, i64_w]
  refine wpK_ops rfl (fun w1 hu => ?_) ?_
  · clear hu
    go_simp
    first | done | rfl
  simp only [Act.put, nm1, nm2, nm3, i64_w]
  refine wpK_ops rfl (fun w1 hu => ?_) ?_
  · have hcl := (impl_rest.calls K a0 (wrap64 ((wrap64 (a1_2 * a2_0)) + (wrap64 (a1_3 * a2_1)))) t14 w1  A15.out)
    clear hu
    replace hcl := Aside0.mk hcl
    go_simp
    exact hcl.out
  simp only [Act.put, nm1, nm2, nm3, i64_w]
  refine wpK_ops rfl (fun w1 hu => ?_) ?_
  · clear hu
    go_simp
    first | done | rfl
  simp only [Act.put, nm1, nm2, nm3, i64_w]
  refine wpK_nil ?_
  intro w16 hu hap
  simp only [List.drop_succ_cons, List.drop_zero]
  replace hu := (Up.refl _).drew.trans hu
  clear hap
  have hu17 := Aside0.mk hu
  clear hu
  have hB0 := (hb8.up hu17.out)
  have cl0 := hB0.cell (o := 0) rfl
  have fr0 := hB0.free 0
  have cl1 := hB0.cell (o := 1) rfl
  have fr1 := hB0.free 1
  refine step_store (b := b8) (cs' := [.int .i64 t12, .int .i64 t14]) (T := 28) (W' := ((w16.setCell ⟨b8, 0, none⟩ (.int .i64 t12)).setCell ⟨b8, 1, none⟩ (.int .i64 t14))) rfl rfl (by first | (go_simp; done) | (go_simp; rfl)) (((Sto.refl _ _).setCell 0 _).setCell 1 _) (((hB0).setCell 0 _).setCell 1 _) ?_
  clear hB0 cl0 fr0 cl1 fr1
  intro w18 hs hb20
  have hs19 := Aside0.mk hs
  clear hs
  refine wpList_nil ?_
  (try simp only [Exit.then, Exit.inBlock, ↓reduceIte, Nat.reduceEqDiff])
  refine hK11 _ _ ?_
  refine wp_ret ?_
  (try simp only [Exit.then, Exit.inBlock, ↓reduceIte, Nat.reduceEqDiff])
  refine hQf _ _ _ ?_
  have cr0 := hb20.cell (o := 0) rfl
  have cr1 := hb20.cell (o := 1) rfl
  exact bodyPost_ret (v := .agg #[.int .i64 t12, .int .i64 t14]) (by first | rfl | (simp [results, Tryd.results43, go_sem, cr0, cr1]; done) | (simp [results, Tryd.results43, go_sem, cr0, cr1]; rfl)) rfl ⟨rfl, ((((hu4.out.trans hu7.out).trans hu10.out).trans hu17.out).sto (Nat.le_trans ((Nat.le_trans (hu4.out.size) hu7.out.size)) lbb8.out) hs19.out)⟩

set_option maxHeartbeats 4000000 in
set_option maxRecDepth 100000 in
theorem impl_product.calls (K : Nat) (a0 : Int) (a1 : Int) (a2_0 : Int) (a2_1 : Int) (a3_0 : Int) (a3_1 : Int) (r0 : Int) (w : World)  (h : impl_product.f K a0 a1 a2_0 a2_1 a3_0 a3_1 = some (r0)) :
    Calls Tryd.prog 44 #[.int .i64 a0, .int .i64 a1, .agg #[.int .i64 a2_0, .int .i64 a2_1], .agg #[.int .i64 a3_0, .int .i64 a3_1]] w fun e w' => e = .returned (.int .i64 r0) ∧ Up w w' := by
 have H : ((if (a1 == 0) = true then ((impl_rest.f K a0 (wrap64 ((wrap64 (a2_0 * a3_0)) + (wrap64 (a2_1 * a3_1))))).bind fun t13 => some t13) else (if (a1 == 1) = true then ((impl_rest.f K a0 (wrap64 ((wrap64 (a2_0 * a3_0)) - (wrap64 (a2_1 * a3_1))))).bind fun t20 => some t20) else ((impl_rest.f K a0 (wrap64 ((wrap64 (a2_0 * a3_1)) + (wrap64 (a2_1 * a3_0))))).bind fun t25 => some t25))) : Option (Int)) = some (r0) := h
 clear h
 by_cases c11 : (a1 == 0) = true
 ·
  rw [if_pos c11] at H
  have c11n : (a1 != 0) = false := by rw [bne, c11]; rfl
  replace H := Option.bind_eq_some_iff.mp H
  obtain ⟨t13, A14, H⟩ := H
  replace A14 := Aside0.mk A14
  try dsimp only at H
  obtain rfl := Option.some.inj H
  go_enter Tryd.func44, Tryd.ntmps44
  refine wp_hide (fun Qf hQf => ?_)
  refine wp_seq_k (fun K1 hK1 => ?_)
  refine wp_region_lit ?_
  refine step_new (cs := [.int .i64 a2_0, .int .i64 a2_1]) (T := 28) (f := fun b => .pointer (some ⟨b, 0, none⟩)) rfl (by first | (go_simp; done) | (go_simp; rfl)) ?_
  intro b2 w3 hu lb hb2
  simp only [Act.put, nm1, nm2, nm3, i64_w]
  have lbb2 := Aside0.mk lb
  have ltb2 := Aside0.mk hb2.lt
  clear lb
  have hu4 := Aside0.mk hu
  clear hu
  refine step_new (cs := [.int .i64 a3_0, .int .i64 a3_1]) (T := 28) (f := fun b => .pointer (some ⟨b, 0, none⟩)) rfl (by first | (go_simp; done) | (go_simp; rfl)) ?_
  intro b5 w6 hu lb hb5
  simp only [Act.put, nm1, nm2, nm3, i64_w]
  have lbb5 := Aside0.mk lb
  have ltb5 := Aside0.mk hb5.lt
  clear lb
  have hu7 := Aside0.mk hu
  clear hu
  refine wpList_plain rfl (fun Ko hKo => ?_)
  go_simp
  refine hKo _ _ ?_
  clear hKo Ko
  try simp only [Act.put, nm1, nm2, nm3, i64_w]
  refine wpList_nil ?_
  (try simp only [Exit.then, Exit.inBlock, ↓reduceIte, Nat.reduceEqDiff])
  refine hK1 _ _ ?_
  refine wp_seq_k (fun K8 hK8 => ?_)
  refine wp_seq_k (fun K9 hK9 => ?_)
  refine wp_region_lit ?_
  refine wpList_plain rfl (fun Ko hKo => ?_)
  go_simp
  refine hKo _ _ ?_
  clear hKo Ko
  try simp only [Act.put, nm1, nm2, nm3, i64_w]
  refine wpList_nil ?_
  (try simp only [Exit.then, Exit.inBlock, ↓reduceIte, Nat.reduceEqDiff])
  refine hK9 _ _ ?_
  refine wp_block ?_
  refine wp_seq_k (fun K10 hK10 => ?_)
  refine wp_region_lit ?_
  refine wpList_plain rfl (fun Ko hKo => ?_)
  go_simp
  refine hKo _ _ ?_
  clear hKo Ko
  try simp only [Act.put, nm1, nm2, nm3, i64_w]
  refine wpList_plain rfl (fun Ko hKo => ?_)
  go_simp
  refine hKo _ _ ?_
  clear hKo Ko
  try simp only [Act.put, nm1, nm2, nm3, i64_w]
  refine wpList_nil ?_
  (try simp only [Exit.then, Exit.inBlock, ↓reduceIte, Nat.reduceEqDiff])
  refine hK10 _ _ ?_
  refine wp_cond_true rfl ?_
  refine wp_seq_k (fun K12 hK12 => ?_)
  refine wp_region_lit ?_
  refine wpList_plain rfl (fun Ko hKo => ?_)
  go_simp
  refine hKo _ _ ?_
  clear hKo Ko
  try simp only [Act.put, nm1, nm2, nm3, i64_w]
  refine wpList_plain rfl (fun Ko hKo => ?_)
  go_simp
  refine hKo _ _ ?_
  clear hKo Ko
  try simp only [Act.put, nm1, nm2, nm3, i64_w]
  have cl0 := (hb2.up hu7.out).cell (o := 0) rfl
  refine wpList_plain rfl (fun Ko hKo => ?_)
  go_simp
  refine hKo _ _ ?_
  clear hKo Ko
  clear cl0
  try simp only [Act.put, nm1, nm2, nm3, i64_w]
  refine wpList_plain rfl (fun Ko hKo => ?_)
  go_simp
  refine hKo _ _ ?_
  clear hKo Ko
  try simp only [Act.put, nm1, nm2, nm3, i64_w]
  have cl0 := hb5.cell (o := 0) rfl
  refine wpList_plain rfl (fun Ko hKo => ?_)
  go_simp
  refine hKo _ _ ?_
  clear hKo Ko
  clear cl0
  try simp only [Act.put, nm1, nm2, nm3, i64_w]
  refine wpList_plain rfl (fun Ko hKo => ?_)
  go_simp
  refine hKo _ _ ?_
  clear hKo Ko
  try simp only [Act.put, nm1, nm2, nm3, i64_w]
  refine wpList_plain rfl (fun Ko hKo => ?_)
  go_simp
  refine hKo _ _ ?_
  clear hKo Ko
  try simp only [Act.put, nm1, nm2, nm3, i64_w]
  have cl0 := (hb2.up hu7.out).cell (o := 1) rfl
  refine wpList_plain rfl (fun Ko hKo => ?_)
  go_simp
  refine hKo _ _ ?_
  clear hKo Ko
  clear cl0
  try simp only [Act.put, nm1, nm2, nm3, i64_w]
  refine wpList_plain rfl (fun Ko hKo => ?_)
  go_simp
  refine hKo _ _ ?_
  clear hKo Ko
  try simp only [Act.put, nm1, nm2, nm3, i64_w]
  have cl0 := hb5.cell (o := 1) rfl
  refine wpList_plain rfl (fun Ko hKo => ?_)
  go_simp
  refine hKo _ _ ?_
  clear hKo Ko
  clear cl0
  try simp only [Act.put, nm1, nm2, nm3, i64_w]
  refine wpList_plain rfl (fun Ko hKo => ?_)
  go_simp
  refine hKo _ _ ?_
  clear hKo Ko
  try simp only [Act.put, nm1, nm2, nm3, i64_w]
  refine wpList_plain rfl (fun Ko hKo => ?_)
  go_simp
  refine hKo _ _ ?_
  clear hKo Ko
  try simp only [Act.put, nm1, nm2, nm3, i64_w]
  refine step_call (wanted_none rfl) (by first | (go_simp; done) | (go_simp; rfl)) (impl_rest.calls K a0 (wrap64 ((wrap64 (a2_0 * a3_0)) + (wrap64 (a2_1 * a3_1)))) t13 w6  A14.out) ?_
  rintro e w15 ⟨rfl, hu⟩
  have hu16 := Aside0.mk hu
  clear hu
  refine ⟨_, rfl, ?_⟩
  simp only [Act.put, nm1, nm2, nm3, i64_w]
  refine wpList_plain rfl (fun Ko hKo => ?_)
  go_simp
  refine hKo _ _ ?_
  clear hKo Ko
  try simp only [Act.put, nm1, nm2, nm3, i64_w]
  refine wpList_nil ?_
  (try simp only [Exit.then, Exit.inBlock, ↓reduceIte, Nat.reduceEqDiff])
  refine hK12 _ _ ?_
  refine wp_ret ?_
  (try simp only [Exit.then, Exit.inBlock, ↓reduceIte, Nat.reduceEqDiff])
  refine hQf _ _ _ ?_
  exact bodyPost_ret (v := .int .i64 t13) (by first | rfl | (simp [results, Tryd.results44, go_sem]; done) | (simp [results, Tryd.results44, go_sem]; rfl)) rfl ⟨rfl, ((hu4.out.trans hu7.out).trans hu16.out)⟩
 ·
  rw [if_neg c11] at H
  replace c11 := Bool.eq_false_iff.mpr c11
  have c11n : (a1 != 0) = true := by rw [bne, c11]; rfl
  have c11p : ¬ a1 = 0 := fun e => by simp [e] at c11
  by_cases c18 : (a1 == 1) = true
  ·
   rw [if_pos c18] at H
   have c18n : (a1 != 1) = false := by rw [bne, c18]; rfl
   replace H := Option.bind_eq_some_iff.mp H
   obtain ⟨t20, A21, H⟩ := H
   replace A21 := Aside0.mk A21
   try dsimp only at H
   obtain rfl := Option.some.inj H
   go_enter Tryd.func44, Tryd.ntmps44
   refine wp_hide (fun Qf hQf => ?_)
   refine wp_seq_k (fun K1 hK1 => ?_)
   refine wp_region_lit ?_
   refine step_new (cs := [.int .i64 a2_0, .int .i64 a2_1]) (T := 28) (f := fun b => .pointer (some ⟨b, 0, none⟩)) rfl (by first | (go_simp; done) | (go_simp; rfl)) ?_
   intro b2 w3 hu lb hb2
   simp only [Act.put, nm1, nm2, nm3, i64_w]
   have lbb2 := Aside0.mk lb
   have ltb2 := Aside0.mk hb2.lt
   clear lb
   have hu4 := Aside0.mk hu
   clear hu
   refine step_new (cs := [.int .i64 a3_0, .int .i64 a3_1]) (T := 28) (f := fun b => .pointer (some ⟨b, 0, none⟩)) rfl (by first | (go_simp; done) | (go_simp; rfl)) ?_
   intro b5 w6 hu lb hb5
   simp only [Act.put, nm1, nm2, nm3, i64_w]
   have lbb5 := Aside0.mk lb
   have ltb5 := Aside0.mk hb5.lt
   clear lb
   have hu7 := Aside0.mk hu
   clear hu
   refine wpList_plain rfl (fun Ko hKo => ?_)
   go_simp
   refine hKo _ _ ?_
   clear hKo Ko
   try simp only [Act.put, nm1, nm2, nm3, i64_w]
   refine wpList_nil ?_
   (try simp only [Exit.then, Exit.inBlock, ↓reduceIte, Nat.reduceEqDiff])
   refine hK1 _ _ ?_
   refine wp_seq_k (fun K8 hK8 => ?_)
   refine wp_seq_k (fun K9 hK9 => ?_)
   refine wp_region_lit ?_
   refine wpList_plain rfl (fun Ko hKo => ?_)
   go_simp
   refine hKo _ _ ?_
   clear hKo Ko
   try simp only [Act.put, nm1, nm2, nm3, i64_w]
   refine wpList_nil ?_
   (try simp only [Exit.then, Exit.inBlock, ↓reduceIte, Nat.reduceEqDiff])
   refine hK9 _ _ ?_
   refine wp_block ?_
   refine wp_seq_k (fun K10 hK10 => ?_)
   refine wp_region_lit ?_
   refine wpList_plain rfl (fun Ko hKo => ?_)
   go_simp
   refine hKo _ _ ?_
   clear hKo Ko
   try simp only [Act.put, nm1, nm2, nm3, i64_w]
   refine wpList_plain rfl (fun Ko hKo => ?_)
   go_simp
   refine hKo _ _ ?_
   clear hKo Ko
   try simp only [Act.put, nm1, nm2, nm3, i64_w]
   refine wpList_nil ?_
   (try simp only [Exit.then, Exit.inBlock, ↓reduceIte, Nat.reduceEqDiff])
   refine hK10 _ _ ?_
   refine wp_cond_false rfl ?_
   refine wp_seq_k (fun K17 hK17 => ?_)
   refine wp_region_lit ?_
   refine wpList_plain rfl (fun Ko hKo => ?_)
   go_simp
   refine hKo _ _ ?_
   clear hKo Ko
   try simp only [Act.put, nm1, nm2, nm3, i64_w]
   refine wpList_plain rfl (fun Ko hKo => ?_)
   go_simp
   refine hKo _ _ ?_
   clear hKo Ko
   try simp only [Act.put, nm1, nm2, nm3, i64_w]
   refine wpList_nil ?_
   (try simp only [Exit.then, Exit.inBlock, ↓reduceIte, Nat.reduceEqDiff])
   refine hK17 _ _ ?_
   refine wp_cond_true rfl ?_
   refine wp_seq_k (fun K19 hK19 => ?_)
   refine wp_region_lit ?_
   refine wpList_plain rfl (fun Ko hKo => ?_)
   go_simp
   refine hKo _ _ ?_
   clear hKo Ko
   try simp only [Act.put, nm1, nm2, nm3, i64_w]
   refine wpList_plain rfl (fun Ko hKo => ?_)
   go_simp
   refine hKo _ _ ?_
   clear hKo Ko
   try simp only [Act.put, nm1, nm2, nm3, i64_w]
   have cl0 := (hb2.up hu7.out).cell (o := 0) rfl
   refine wpList_plain rfl (fun Ko hKo => ?_)
   go_simp
   refine hKo _ _ ?_
   clear hKo Ko
   clear cl0
   try simp only [Act.put, nm1, nm2, nm3, i64_w]
   refine wpList_plain rfl (fun Ko hKo => ?_)
   go_simp
   refine hKo _ _ ?_
   clear hKo Ko
   try simp only [Act.put, nm1, nm2, nm3, i64_w]
   have cl0 := hb5.cell (o := 0) rfl
   refine wpList_plain rfl (fun Ko hKo => ?_)
   go_simp
   refine hKo _ _ ?_
   clear hKo Ko
   clear cl0
   try simp only [Act.put, nm1, nm2, nm3, i64_w]
   refine wpList_plain rfl (fun Ko hKo => ?_)
   go_simp
   refine hKo _ _ ?_
   clear hKo Ko
   try simp only [Act.put, nm1, nm2, nm3, i64_w]
   refine wpList_plain rfl (fun Ko hKo => ?_)
   go_simp
   refine hKo _ _ ?_
   clear hKo Ko
   try simp only [Act.put, nm1, nm2, nm3, i64_w]
   have cl0 := (hb2.up hu7.out).cell (o := 1) rfl
   refine wpList_plain rfl (fun Ko hKo => ?_)
   go_simp
   refine hKo _ _ ?_
   clear hKo Ko
   clear cl0
   try simp only [Act.put, nm1, nm2, nm3, i64_w]
   refine wpList_plain rfl (fun Ko hKo => ?_)
   go_simp
   refine hKo _ _ ?_
   clear hKo Ko
   try simp only [Act.put, nm1, nm2, nm3, i64_w]
   have cl0 := hb5.cell (o := 1) rfl
   refine wpList_plain rfl (fun Ko hKo => ?_)
   go_simp
   refine hKo _ _ ?_
   clear hKo Ko
   clear cl0
   try simp only [Act.put, nm1, nm2, nm3, i64_w]
   refine wpList_plain rfl (fun Ko hKo => ?_)
   go_simp
   refine hKo _ _ ?_
   clear hKo Ko
   try simp only [Act.put, nm1, nm2, nm3, i64_w]
   refine wpList_plain rfl (fun Ko hKo => ?_)
   go_simp
   refine hKo _ _ ?_
   clear hKo Ko
   try simp only [Act.put, nm1, nm2, nm3, i64_w]
   refine step_call (wanted_none rfl) (by first | (go_simp; done) | (go_simp; rfl)) (impl_rest.calls K a0 (wrap64 ((wrap64 (a2_0 * a3_0)) - (wrap64 (a2_1 * a3_1)))) t20 w6  A21.out) ?_
   rintro e w22 ⟨rfl, hu⟩
   have hu23 := Aside0.mk hu
   clear hu
   refine ⟨_, rfl, ?_⟩
   simp only [Act.put, nm1, nm2, nm3, i64_w]
   refine wpList_plain rfl (fun Ko hKo => ?_)
   go_simp
   refine hKo _ _ ?_
   clear hKo Ko
   try simp only [Act.put, nm1, nm2, nm3, i64_w]
   refine wpList_nil ?_
   (try simp only [Exit.then, Exit.inBlock, ↓reduceIte, Nat.reduceEqDiff])
   refine hK19 _ _ ?_
   refine wp_ret ?_
   (try simp only [Exit.then, Exit.inBlock, ↓reduceIte, Nat.reduceEqDiff])
   refine hQf _ _ _ ?_
   exact bodyPost_ret (v := .int .i64 t20) (by first | rfl | (simp [results, Tryd.results44, go_sem]; done) | (simp [results, Tryd.results44, go_sem]; rfl)) rfl ⟨rfl, ((hu4.out.trans hu7.out).trans hu23.out)⟩
  ·
   rw [if_neg c18] at H
   replace c18 := Bool.eq_false_iff.mpr c18
   have c18n : (a1 != 1) = true := by rw [bne, c18]; rfl
   have c18p : ¬ a1 = 1 := fun e => by simp [e] at c18
   replace H := Option.bind_eq_some_iff.mp H
   obtain ⟨t25, A26, H⟩ := H
   replace A26 := Aside0.mk A26
   try dsimp only at H
   obtain rfl := Option.some.inj H
   go_enter Tryd.func44, Tryd.ntmps44
   refine wp_hide (fun Qf hQf => ?_)
   refine wp_seq_k (fun K1 hK1 => ?_)
   refine wp_region_lit ?_
   refine step_new (cs := [.int .i64 a2_0, .int .i64 a2_1]) (T := 28) (f := fun b => .pointer (some ⟨b, 0, none⟩)) rfl (by first | (go_simp; done) | (go_simp; rfl)) ?_
   intro b2 w3 hu lb hb2
   simp only [Act.put, nm1, nm2, nm3, i64_w]
   have lbb2 := Aside0.mk lb
   have ltb2 := Aside0.mk hb2.lt
   clear lb
   have hu4 := Aside0.mk hu
   clear hu
   refine step_new (cs := [.int .i64 a3_0, .int .i64 a3_1]) (T := 28) (f := fun b => .pointer (some ⟨b, 0, none⟩)) rfl (by first | (go_simp; done) | (go_simp; rfl)) ?_
   intro b5 w6 hu lb hb5
   simp only [Act.put, nm1, nm2, nm3, i64_w]
   have lbb5 := Aside0.mk lb
   have ltb5 := Aside0.mk hb5.lt
   clear lb
   have hu7 := Aside0.mk hu
   clear hu
   refine wpList_plain rfl (fun Ko hKo => ?_)
   go_simp
   refine hKo _ _ ?_
   clear hKo Ko
   try simp only [Act.put, nm1, nm2, nm3, i64_w]
   refine wpList_nil ?_
   (try simp only [Exit.then, Exit.inBlock, ↓reduceIte, Nat.reduceEqDiff])
   refine hK1 _ _ ?_
   refine wp_seq_k (fun K8 hK8 => ?_)
   refine wp_seq_k (fun K9 hK9 => ?_)
   refine wp_region_lit ?_
   refine wpList_plain rfl (fun Ko hKo => ?_)
   go_simp
   refine hKo _ _ ?_
   clear hKo Ko
   try simp only [Act.put, nm1, nm2, nm3, i64_w]
   refine wpList_nil ?_
   (try simp only [Exit.then, Exit.inBlock, ↓reduceIte, Nat.reduceEqDiff])
   refine hK9 _ _ ?_
   refine wp_block ?_
   refine wp_seq_k (fun K10 hK10 => ?_)
   refine wp_region_lit ?_
   refine wpList_plain rfl (fun Ko hKo => ?_)
   go_simp
   refine hKo _ _ ?_
   clear hKo Ko
   try simp only [Act.put, nm1, nm2, nm3, i64_w]
   refine wpList_plain rfl (fun Ko hKo => ?_)
   go_simp
   refine hKo _ _ ?_
   clear hKo Ko
   try simp only [Act.put, nm1, nm2, nm3, i64_w]
   refine wpList_nil ?_
   (try simp only [Exit.then, Exit.inBlock, ↓reduceIte, Nat.reduceEqDiff])
   refine hK10 _ _ ?_
   refine wp_cond_false rfl ?_
   refine wp_seq_k (fun K17 hK17 => ?_)
   refine wp_region_lit ?_
   refine wpList_plain rfl (fun Ko hKo => ?_)
   go_simp
   refine hKo _ _ ?_
   clear hKo Ko
   try simp only [Act.put, nm1, nm2, nm3, i64_w]
   refine wpList_plain rfl (fun Ko hKo => ?_)
   go_simp
   refine hKo _ _ ?_
   clear hKo Ko
   try simp only [Act.put, nm1, nm2, nm3, i64_w]
   refine wpList_nil ?_
   (try simp only [Exit.then, Exit.inBlock, ↓reduceIte, Nat.reduceEqDiff])
   refine hK17 _ _ ?_
   refine wp_cond_false rfl ?_
   refine wp_skip ?_
   (try simp only [Exit.then, Exit.inBlock, ↓reduceIte, Nat.reduceEqDiff])
   refine hK8 _ _ ?_
   refine wp_seq_k (fun K24 hK24 => ?_)
   refine wp_region_lit ?_
   refine wpList_plain rfl (fun Ko hKo => ?_)
   go_simp
   refine hKo _ _ ?_
   clear hKo Ko
   try simp only [Act.put, nm1, nm2, nm3, i64_w]
   refine wpList_plain rfl (fun Ko hKo => ?_)
   go_simp
   refine hKo _ _ ?_
   clear hKo Ko
   try simp only [Act.put, nm1, nm2, nm3, i64_w]
   have cl0 := (hb2.up hu7.out).cell (o := 0) rfl
   refine wpList_plain rfl (fun Ko hKo => ?_)
   go_simp
   refine hKo _ _ ?_
   clear hKo Ko
   clear cl0
   try simp only [Act.put, nm1, nm2, nm3, i64_w]
   refine wpList_plain rfl (fun Ko hKo => ?_)
   go_simp
   refine hKo _ _ ?_
   clear hKo Ko
   try simp only [Act.put, nm1, nm2, nm3, i64_w]
   have cl0 := hb5.cell (o := 1) rfl
   refine wpList_plain rfl (fun Ko hKo => ?_)
   go_simp
   refine hKo _ _ ?_
   clear hKo Ko
   clear cl0
   try simp only [Act.put, nm1, nm2, nm3, i64_w]
   refine wpList_plain rfl (fun Ko hKo => ?_)
   go_simp
   refine hKo _ _ ?_
   clear hKo Ko
   try simp only [Act.put, nm1, nm2, nm3, i64_w]
   refine wpList_plain rfl (fun Ko hKo => ?_)
   go_simp
   refine hKo _ _ ?_
   clear hKo Ko
   try simp only [Act.put, nm1, nm2, nm3, i64_w]
   have cl0 := (hb2.up hu7.out).cell (o := 1) rfl
   refine wpList_plain rfl (fun Ko hKo => ?_)
   go_simp
   refine hKo _ _ ?_
   clear hKo Ko
   clear cl0
   try simp only [Act.put, nm1, nm2, nm3, i64_w]
   refine wpList_plain rfl (fun Ko hKo => ?_)
   go_simp
   refine hKo _ _ ?_
   clear hKo Ko
   try simp only [Act.put, nm1, nm2, nm3, i64_w]
   have cl0 := hb5.cell (o := 0) rfl
   refine wpList_plain rfl (fun Ko hKo => ?_)
   go_simp
   refine hKo _ _ ?_
   clear hKo Ko
   clear cl0
   try simp only [Act.put, nm1, nm2, nm3, i64_w]
   refine wpList_plain rfl (fun Ko hKo => ?_)
   go_simp
   refine hKo _ _ ?_
   clear hKo Ko
   try simp only [Act.put, nm1, nm2, nm3, i64_w]
   refine wpList_plain rfl (fun Ko hKo => ?_)
   go_simp
   refine hKo _ _ ?_
   clear hKo Ko
   try simp only [Act.put, nm1, nm2, nm3, i64_w]
   refine step_call (wanted_none rfl) (by first | (go_simp; done) | (go_simp; rfl)) (impl_rest.calls K a0 (wrap64 ((wrap64 (a2_0 * a3_1)) + (wrap64 (a2_1 * a3_0)))) t25 w6  A26.out) ?_
   rintro e w27 ⟨rfl, hu⟩
   have hu28 := Aside0.mk hu
   clear hu
   refine ⟨_, rfl, ?_⟩
   simp only [Act.put, nm1, nm2, nm3, i64_w]
   refine wpList_plain rfl (fun Ko hKo => ?_)
   go_simp
   refine hKo _ _ ?_
   clear hKo Ko
   try simp only [Act.put, nm1, nm2, nm3, i64_w]
   refine wpList_nil ?_
   (try simp only [Exit.then, Exit.inBlock, ↓reduceIte, Nat.reduceEqDiff])
   refine hK24 _ _ ?_
   refine wp_ret ?_
   (try simp only [Exit.then, Exit.inBlock, ↓reduceIte, Nat.reduceEqDiff])
   refine hQf _ _ _ ?_
   exact bodyPost_ret (v := .int .i64 t25) (by first | rfl | (simp [results, Tryd.results44, go_sem]; done) | (simp [results, Tryd.results44, go_sem]; rfl)) rfl ⟨rfl, ((hu4.out.trans hu7.out).trans hu28.out)⟩

end Go.Proofs.YtbibgeoohpgaeaaDoor
