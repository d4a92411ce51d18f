/- The walks: each of these functions of the program computes what its plain function says: impl_keeps, impl_IsMove, laws_FnExactIsMove. -/
import Derived.Test.YtbibgeoohpgaeaaProg
import Derived.Test.YtbibgeoohpgaeaaD1
import Derived.WalkKit
import Derived.KernelRfl
import Derived.BigQuiet
import Derived.Deep.LoopGhost
import Derived.Laws.StructEq
import Derived.Test.YtbibgeoohpgaeaaWIsM2
namespace Go.Proofs.Ytbibgeoohpgaeaa
open Go Go.RowKit
attribute [local go_sem] Oper.quiet Oper.quietAt Oper.quietUpon
set_option linter.unusedVariables false
set_option linter.unusedSimpArgs false

set_option maxHeartbeats 4000000 in
set_option maxRecDepth 100000 in
theorem impl_keeps.calls (K : Nat) (a0 : Int) (a1 : Int) (a2_0 : Int) (a2_1 : Int) (a2_2 : Int) (a2_3 : Int) (r0 : Bool) (w : World)  (h : impl_keeps.f K a0 a1 a2_0 a2_1 a2_2 a2_3 = some (r0)) :
    Calls Try.prog 57 #[.int .i64 a0, .int .i64 a1, .agg #[.int .i64 a2_0, .int .i64 a2_1, .int .i64 a2_2, .int .i64 a2_3]] w fun e w' => e = .returned (.bool r0) ∧ Up w w' := by
 have H : (((impl_turned.f K a0 a2_0 a2_1 a2_2 a2_3 1 0).bind fun (t22, t23) => ((impl_product.f K a0 a1 1 0 1 0).bind fun t34 => ((impl_product.f K a0 a1 t22 t23 t22 t23).bind fun t36 => (if (t34 == t36) = true then ((impl_turned.f K a0 a2_0 a2_1 a2_2 a2_3 0 1).bind fun (t53, t54) => ((impl_product.f K a0 a1 0 1 0 1).bind fun t65 => ((impl_product.f K a0 a1 t53 t54 t53 t54).bind fun t67 => (if (t65 == t67) = true then ((impl_turned.f K a0 a2_0 a2_1 a2_2 a2_3 1 1).bind fun (t84, t85) => ((impl_product.f K a0 a1 1 1 1 1).bind fun t96 => ((impl_product.f K a0 a1 t84 t85 t84 t85).bind fun t98 => (if (t96 == t98) = true then some true else some false)))) else some false)))) else some false)))) : Option (Bool)) = some (r0) := h
 clear h
 replace H := Option.bind_eq_some_iff.mp H
 obtain ⟨⟨t22, t23⟩, A24, H⟩ := H
 replace A24 := Aside0.mk A24
 try dsimp only at H
 replace H := Option.bind_eq_some_iff.mp H
 obtain ⟨t34, A35, H⟩ := H
 replace A35 := Aside0.mk A35
 try dsimp only at H
 replace H := Option.bind_eq_some_iff.mp H
 obtain ⟨t36, A37, H⟩ := H
 replace A37 := Aside0.mk A37
 try dsimp only at H
 by_cases c40 : (t34 == t36) = true
 ·
  rw [if_pos c40] at H
  have c40n : (t34 != t36) = false := by rw [bne, c40]; rfl
  replace H := Option.bind_eq_some_iff.mp H
  obtain ⟨⟨t53, t54⟩, A55, H⟩ := H
  replace A55 := Aside0.mk A55
  try dsimp only at H
  replace H := Option.bind_eq_some_iff.mp H
  obtain ⟨t65, A66, H⟩ := H
  replace A66 := Aside0.mk A66
  try dsimp only at H
  replace H := Option.bind_eq_some_iff.mp H
  obtain ⟨t67, A68, H⟩ := H
  replace A68 := Aside0.mk A68
  try dsimp only at H
  by_cases c71 : (t65 == t67) = true
  ·
   rw [if_pos c71] at H
   have c71n : (t65 != t67) = false := by rw [bne, c71]; rfl
   replace H := Option.bind_eq_some_iff.mp H
   obtain ⟨⟨t84, t85⟩, A86, H⟩ := H
   replace A86 := Aside0.mk A86
   try dsimp only at H
   replace H := Option.bind_eq_some_iff.mp H
   obtain ⟨t96, A97, H⟩ := H
   replace A97 := Aside0.mk A97
   try dsimp only at H
   replace H := Option.bind_eq_some_iff.mp H
   obtain ⟨t98, A99, H⟩ := H
   replace A99 := Aside0.mk A99
   try dsimp only at H
   by_cases c102 : (t96 == t98) = true
   ·
    rw [if_pos c102] at H
    have c102n : (t96 != t98) = false := by rw [bne, c102]; rfl
    obtain rfl := Option.some.inj H
    go_enter Try.func57, Try.ntmps57
    refine wp_hide (fun Qf hQf => ?_)
    refine wp_seq_k (fun K1 hK1 => ?_)
    refine wp_region_lit ?_
    refine step_new (cs := [.int .i64 a2_0, .int .i64 a2_1, .int .i64 a2_2, .int .i64 a2_3]) (T := 22) (f := fun b => .pointer (some ⟨b, 0, none⟩)) rfl (by first | (go_simp; done) | (go_simp; rfl)) ?_
    intro b2 w3 hu lb hb2
    simp only [Act.put, nm1, nm2, nm3, i64_w]
    have lbb2 := Aside0.mk lb
    have ltb2 := Aside0.mk hb2.lt
    clear lb
    have hu4 := Aside0.mk hu
    clear hu
    refine wpList_plain rfl (fun Ko hKo => ?_)
    go_simp
    refine hKo _ _ ?_
    clear hKo Ko
    try simp only [Act.put, nm1, nm2, nm3, i64_w]
    refine wpList_nil ?_
    (try simp only [Exit.then, Exit.inBlock, ↓reduceIte, Nat.reduceEqDiff])
    refine hK1 _ _ ?_
    refine wp_seq_k (fun K5 hK5 => ?_)
    refine wp_seq_k (fun K6 hK6 => ?_)
    refine wp_region_lit ?_
    refine wpList_plain rfl (fun Ko hKo => ?_)
    go_simp
    refine hKo _ _ ?_
    clear hKo Ko
    try simp only [Act.put, nm1, nm2, nm3, i64_w]
    refine wpList_plain rfl (fun Ko hKo => ?_)
    go_simp
    refine hKo _ _ ?_
    clear hKo Ko
    try simp only [Act.put, nm1, nm2, nm3, i64_w]
    refine wpList_plain rfl (fun Ko hKo => ?_)
    go_simp
    refine hKo _ _ ?_
    clear hKo Ko
    try simp only [Act.put, nm1, nm2, nm3, i64_w]
    refine step_new (cs := [.int .i64 1, .int .i64 0, .int .i64 0, .int .i64 1, .int .i64 1, .int .i64 1]) (T := 26) (f := fun b => .slice (some ⟨b, 0, none⟩) 3 3) rfl (by first | (go_simp; done) | (go_simp; rfl)) ?_
    intro b7 w8 hu lb hb7
    simp only [Act.put, nm1, nm2, nm3, i64_w]
    have lbb7 := Aside0.mk lb
    have ltb7 := Aside0.mk hb7.lt
    clear lb
    have hu9 := Aside0.mk hu
    clear hu
    refine wpList_plain rfl (fun Ko hKo => ?_)
    go_simp
    refine hKo _ _ ?_
    clear hKo Ko
    try simp only [Act.put, nm1, nm2, nm3, i64_w]
    refine wpList_plain rfl (fun Ko hKo => ?_)
    go_simp
    refine hKo _ _ ?_
    clear hKo Ko
    try simp only [Act.put, nm1, nm2, nm3, i64_w]
    refine wpList_nil ?_
    (try simp only [Exit.then, Exit.inBlock, ↓reduceIte, Nat.reduceEqDiff])
    refine hK6 _ _ ?_
    refine wp_block ?_
    refine wp_loop_rounds 40 ?_
    refine rounds_k (fun K10 hK10 => ?_)
    refine wp_seq_k (fun K11 hK11 => ?_)
    refine wp_region_lit ?_
    refine wpList_plain rfl (fun Ko hKo => ?_)
    go_simp
    refine hKo _ _ ?_
    clear hKo Ko
    try simp only [Act.put, nm1, nm2, nm3, i64_w]
    refine wpList_nil ?_
    (try simp only [Exit.then, Exit.inBlock, ↓reduceIte, Nat.reduceEqDiff])
    refine hK11 _ _ ?_
    refine wp_seq_k (fun K12 hK12 => ?_)
    refine wp_cond_true rfl ?_
    refine wp_skip ?_
    (try simp only [Exit.then, Exit.inBlock, ↓reduceIte, Nat.reduceEqDiff])
    refine hK12 _ _ ?_
    refine wp_seq_k (fun K13 hK13 => ?_)
    refine wp_block ?_
    refine wp_seq_k (fun K14 hK14 => ?_)
    refine wp_region_lit ?_
    refine wpList_plain rfl (fun Ko hKo => ?_)
    go_simp
    refine hKo _ _ ?_
    clear hKo Ko
    try simp only [Act.put, nm1, nm2, nm3, i64_w]
    have cl0 := hb7.cell (o := 0) rfl
    have cl1 := hb7.cell (o := 1) rfl
    refine wpList_plain rfl (fun Ko hKo => ?_)
    go_simp
    refine hKo _ _ ?_
    clear hKo Ko
    clear cl0 cl1
    try simp only [Act.put, nm1, nm2, nm3, i64_w]
    refine step_new (cs := [.int .i64 0, .int .i64 0]) (T := 26) (f := fun b => .pointer (some ⟨b, 0, none⟩)) rfl (by first | (go_simp; done) | (go_simp; rfl)) ?_
    intro b15 w16 hu lb hb15
    simp only [Act.put, nm1, nm2, nm3, i64_w]
    have lbb15 := Aside0.mk lb
    have ltb15 := Aside0.mk hb15.lt
    clear lb
    have hu17 := Aside0.mk hu
    clear hu
    have hB0 := hb15
    have cl0 := hB0.cell (o := 0) rfl
    have fr0 := hB0.free 0
    have cl1 := hB0.cell (o := 1) rfl
    have fr1 := hB0.free 1
    refine step_store (b := b15) (cs' := [.int .i64 1, .int .i64 0]) (T := 26) (W' := ((w16.setCell ⟨b15, 0, none⟩ (.int .i64 1)).setCell ⟨b15, 1, none⟩ (.int .i64 0))) rfl rfl (by first | (go_simp; done) | (go_simp; rfl)) (((Sto.refl _ _).setCell 0 _).setCell 1 _) (((hB0).setCell 0 _).setCell 1 _) ?_
    clear hB0 cl0 fr0 cl1 fr1
    intro w18 hs hb20
    have hs19 := Aside0.mk hs
    clear hs
    refine wpList_nil ?_
    (try simp only [Exit.then, Exit.inBlock, ↓reduceIte, Nat.reduceEqDiff])
    refine hK14 _ _ ?_
    refine wp_seq_k (fun K21 hK21 => ?_)
    refine wp_region_lit ?_
    refine wpList_plain rfl (fun Ko hKo => ?_)
    go_simp
    refine hKo _ _ ?_
    clear hKo Ko
    try simp only [Act.put, nm1, nm2, nm3, i64_w]
    have cl0 := (hb2.up ((hu9.out.trans hu17.out).sto (Nat.le_trans (hu9.out.size) lbb15.out) hs19.out)).cell (o := 0) rfl
    have cl1 := (hb2.up ((hu9.out.trans hu17.out).sto (Nat.le_trans (hu9.out.size) lbb15.out) hs19.out)).cell (o := 1) rfl
    have cl2 := (hb2.up ((hu9.out.trans hu17.out).sto (Nat.le_trans (hu9.out.size) lbb15.out) hs19.out)).cell (o := 2) rfl
    have cl3 := (hb2.up ((hu9.out.trans hu17.out).sto (Nat.le_trans (hu9.out.size) lbb15.out) hs19.out)).cell (o := 3) rfl
    refine wpList_plain rfl (fun Ko hKo => ?_)
    go_simp
    refine hKo _ _ ?_
    clear hKo Ko
    clear cl0 cl1 cl2 cl3
    try simp only [Act.put, nm1, nm2, nm3, i64_w]
    have cl0 := hb20.cell (o := 0) rfl
    have cl1 := hb20.cell (o := 1) rfl
    refine wpList_plain rfl (fun Ko hKo => ?_)
    go_simp
    refine hKo _ _ ?_
    clear hKo Ko
    clear cl0 cl1
    try simp only [Act.put, nm1, nm2, nm3, i64_w]
    refine step_call (wanted_none rfl) (by first | (go_simp; done) | (go_simp; rfl)) (impl_turned.calls K a0 a2_0 a2_1 a2_2 a2_3 1 0 t22 t23 w18  A24.out) ?_
    rintro e w25 ⟨rfl, hu⟩
    have hu26 := Aside0.mk hu
    clear hu
    refine ⟨_, rfl, ?_⟩
    simp only [Act.put, nm1, nm2, nm3, i64_w]
    refine step_new (cs := [.int .i64 0, .int .i64 0]) (T := 26) (f := fun b => .pointer (some ⟨b, 0, none⟩)) rfl (by first | (go_simp; done) | (go_simp; rfl)) ?_
    intro b27 w28 hu lb hb27
    simp only [Act.put, nm1, nm2, nm3, i64_w]
    have lbb27 := Aside0.mk lb
    have ltb27 := Aside0.mk hb27.lt
    clear lb
    have hu29 := Aside0.mk hu
    clear hu
    have hB0 := hb27
    have cl0 := hB0.cell (o := 0) rfl
    have fr0 := hB0.free 0
    have cl1 := hB0.cell (o := 1) rfl
    have fr1 := hB0.free 1
    refine step_store (b := b27) (cs' := [.int .i64 t22, .int .i64 t23]) (T := 26) (W' := ((w28.setCell ⟨b27, 0, none⟩ (.int .i64 t22)).setCell ⟨b27, 1, none⟩ (.int .i64 t23))) rfl rfl (by first | (go_simp; done) | (go_simp; rfl)) (((Sto.refl _ _).setCell 0 _).setCell 1 _) (((hB0).setCell 0 _).setCell 1 _) ?_
    clear hB0 cl0 fr0 cl1 fr1
    intro w30 hs hb32
    have hs31 := Aside0.mk hs
    clear hs
    refine wpList_nil ?_
    (try simp only [Exit.then, Exit.inBlock, ↓reduceIte, Nat.reduceEqDiff])
    refine hK21 _ _ ?_
    refine wp_seq_k (fun K33 hK33 => ?_)
    refine' wp_region_up 11 [Slot.det _, Slot.det _, Slot.det _, Slot.det _, Slot.det (.int .i64 t34), Slot.det _, Slot.det _, Slot.det _, Slot.det _, Slot.det (.int .i64 t36), Slot.det _] (by kernel_rfl) (by kernel_rfl) ?main
    case main =>
     simp only [List.take_succ_cons, List.take_zero]
     refine wpK_ops rfl (fun w1 hu => ?_) ?_
     · clear hu
       go_simp
       first | done | rfl
     simp only [Act.put, nm1, nm2, nm3, i64_w]
     refine wpK_ops rfl (fun w1 hu => ?_) ?_
     · clear hu
       go_simp
       first | done | rfl
     simp only [Act.put, nm1, nm2, nm3, i64_w]
     refine wpK_ops rfl (fun w1 hu => ?_) ?_
     · have cl0 := ((hb20.up ((hu26.out.trans hu29.out).sto (Nat.le_trans (hu26.out.size) lbb27.out) hs31.out)).up ((Up.refl _).drew.trans hu)).cell (o := 0) rfl
       have cl1 := ((hb20.up ((hu26.out.trans hu29.out).sto (Nat.le_trans (hu26.out.size) lbb27.out) hs31.out)).up ((Up.refl _).drew.trans hu)).cell (o := 1) rfl
       go_simp
       first | done | rfl
     simp only [Act.put, nm1, nm2, nm3, i64_w]
     refine wpK_ops rfl (fun w1 hu => ?_) ?_
     · have cl0 := ((hb20.up ((hu26.out.trans hu29.out).sto (Nat.le_trans (hu26.out.size) lbb27.out) hs31.out)).up ((Up.refl _).drew.trans hu)).cell (o := 0) rfl
       have cl1 := ((hb20.up ((hu26.out.trans hu29.out).sto (Nat.le_trans (hu26.out.size) lbb27.out) hs31.out)).up ((Up.refl _).drew.trans hu)).cell (o := 1) rfl
       go_simp
       first | done | rfl
     simp only [Act.put, nm1, nm2, nm3, i64_w]
     refine wpK_ops rfl (fun w1 hu => ?_) ?_
     · have hcl := (impl_product.calls K a0 a1 1 0 1 0 t34 w1  A35.out)
       clear hu
       replace hcl := Aside0.mk hcl
       go_simp
       exact hcl.out
     simp only [Act.put, nm1, nm2, nm3, i64_w]
     refine wpK_ops rfl (fun w1 hu => ?_) ?_
     · clear hu
       go_simp
       first | done | rfl
     simp only [Act.put, nm1, nm2, nm3, i64_w]
     refine wpK_ops rfl (fun w1 hu => ?_) ?_
     · clear hu
       go_simp
       first | done | rfl
     simp only [Act.put, nm1, nm2, nm3, i64_w]
     refine wpK_ops rfl (fun w1 hu => ?_) ?_
     · have cl0 := (hb32.up ((Up.refl _).drew.trans hu)).cell (o := 0) rfl
       have cl1 := (hb32.up ((Up.refl _).drew.trans hu)).cell (o := 1) rfl
       go_simp
       first | done | rfl
     simp only [Act.put, nm1, nm2, nm3, i64_w]
     refine wpK_ops rfl (fun w1 hu => ?_) ?_
     · have cl0 := (hb32.up ((Up.refl _).drew.trans hu)).cell (o := 0) rfl
       have cl1 := (hb32.up ((Up.refl _).drew.trans hu)).cell (o := 1) rfl
       go_simp
       first | done | rfl
     simp only [Act.put, nm1, nm2, nm3, i64_w]
     refine wpK_ops rfl (fun w1 hu => ?_) ?_
     · have hcl := (impl_product.calls K a0 a1 t22 t23 t22 t23 t36 w1  A37.out)
       clear hu
       replace hcl := Aside0.mk hcl
       go_simp
       exact hcl.out
     simp only [Act.put, nm1, nm2, nm3, i64_w]
     refine wpK_ops rfl (fun w1 hu => ?_) ?_
     · clear hu
       go_simp
       first | done | rfl
     simp only [Act.put, nm1, nm2, nm3, i64_w]
     refine wpK_nil ?_
     intro w38 hu hap
     simp only [List.drop_succ_cons, List.drop_zero]
     replace hu := (Up.refl _).drew.trans hu
     clear hap
     have hu39 := Aside0.mk hu
     clear hu
     refine wpList_nil ?_
     (try simp only [Exit.then, Exit.inBlock, ↓reduceIte, Nat.reduceEqDiff])
     refine hK33 _ _ ?_
     refine wp_cond_false rfl ?_
     refine wp_skip ?_
     (try simp only [Exit.then, Exit.inBlock, ↓reduceIte, Nat.reduceEqDiff])
     refine hK13 _ _ ?_
     refine wp_region_lit ?_
     refine wpList_plain rfl (fun Ko hKo => ?_)
     go_simp
     refine hKo _ _ ?_
     clear hKo Ko
     try simp only [Act.put, nm1, nm2, nm3, i64_w]
     try simp only [show wrap64 1 = 1 from wlit rfl]
     refine wpList_plain rfl (fun Ko hKo => ?_)
     go_simp
     refine hKo _ _ ?_
     clear hKo Ko
     try simp only [Act.put, nm1, nm2, nm3, i64_w]
     refine wpList_nil ?_
     (try simp only [Exit.then, Exit.inBlock, ↓reduceIte, Nat.reduceEqDiff])
     refine hK10 _ _ ?_
     refine rounds_k (fun K41 hK41 => ?_)
     refine wp_seq_k (fun K42 hK42 => ?_)
     refine wp_region_lit ?_
     refine wpList_plain rfl (fun Ko hKo => ?_)
     go_simp
     refine hKo _ _ ?_
     clear hKo Ko
     try simp only [Act.put, nm1, nm2, nm3, i64_w]
     refine wpList_nil ?_
     (try simp only [Exit.then, Exit.inBlock, ↓reduceIte, Nat.reduceEqDiff])
     refine hK42 _ _ ?_
     refine wp_seq_k (fun K43 hK43 => ?_)
     refine wp_cond_true rfl ?_
     refine wp_skip ?_
     (try simp only [Exit.then, Exit.inBlock, ↓reduceIte, Nat.reduceEqDiff])
     refine hK43 _ _ ?_
     refine wp_seq_k (fun K44 hK44 => ?_)
     refine wp_block ?_
     refine wp_seq_k (fun K45 hK45 => ?_)
     refine wp_region_lit ?_
     refine wpList_plain rfl (fun Ko hKo => ?_)
     go_simp
     refine hKo _ _ ?_
     clear hKo Ko
     try simp only [Act.put, nm1, nm2, nm3, i64_w]
     have cl0 := (hb7.up (((((hu17.out.sto (Nat.le_trans (Nat.le_refl _) lbb15.out) hs19.out).trans hu26.out).trans hu29.out).sto (Nat.le_trans ((Nat.le_trans ((Nat.le_trans (hu17.out.size) (Nat.le_of_eq hs19.out.size.symm))) hu26.out.size)) lbb27.out) hs31.out).trans hu39.out)).cell (o := 2) rfl
     have cl1 := (hb7.up (((((hu17.out.sto (Nat.le_trans (Nat.le_refl _) lbb15.out) hs19.out).trans hu26.out).trans hu29.out).sto (Nat.le_trans ((Nat.le_trans ((Nat.le_trans (hu17.out.size) (Nat.le_of_eq hs19.out.size.symm))) hu26.out.size)) lbb27.out) hs31.out).trans hu39.out)).cell (o := 3) rfl
     refine wpList_plain rfl (fun Ko hKo => ?_)
     go_simp
     refine hKo _ _ ?_
     clear hKo Ko
     clear cl0 cl1
     try simp only [Act.put, nm1, nm2, nm3, i64_w]
     refine step_new (cs := [.int .i64 0, .int .i64 0]) (T := 26) (f := fun b => .pointer (some ⟨b, 0, none⟩)) rfl (by first | (go_simp; done) | (go_simp; rfl)) ?_
     intro b46 w47 hu lb hb46
     simp only [Act.put, nm1, nm2, nm3, i64_w]
     have lbb46 := Aside0.mk lb
     have ltb46 := Aside0.mk hb46.lt
     clear lb
     have hu48 := Aside0.mk hu
     clear hu
     have hB0 := hb46
     have cl0 := hB0.cell (o := 0) rfl
     have fr0 := hB0.free 0
     have cl1 := hB0.cell (o := 1) rfl
     have fr1 := hB0.free 1
     refine step_store (b := b46) (cs' := [.int .i64 0, .int .i64 1]) (T := 26) (W' := ((w47.setCell ⟨b46, 0, none⟩ (.int .i64 0)).setCell ⟨b46, 1, none⟩ (.int .i64 1))) rfl rfl (by first | (go_simp; done) | (go_simp; rfl)) (((Sto.refl _ _).setCell 0 _).setCell 1 _) (((hB0).setCell 0 _).setCell 1 _) ?_
     clear hB0 cl0 fr0 cl1 fr1
     intro w49 hs hb51
     have hs50 := Aside0.mk hs
     clear hs
     refine wpList_nil ?_
     (try simp only [Exit.then, Exit.inBlock, ↓reduceIte, Nat.reduceEqDiff])
     refine hK45 _ _ ?_
     refine wp_seq_k (fun K52 hK52 => ?_)
     refine wp_region_lit ?_
     refine wpList_plain rfl (fun Ko hKo => ?_)
     go_simp
     refine hKo _ _ ?_
     clear hKo Ko
     try simp only [Act.put, nm1, nm2, nm3, i64_w]
     have cl0 := (hb2.up ((((((((hu9.out.trans hu17.out).sto (Nat.le_trans (hu9.out.size) lbb15.out) hs19.out).trans hu26.out).trans hu29.out).sto (Nat.le_trans ((Nat.le_trans ((Nat.le_trans ((Nat.le_trans (hu9.out.size) hu17.out.size)) (Nat.le_of_eq hs19.out.size.symm))) hu26.out.size)) lbb27.out) hs31.out).trans hu39.out).trans hu48.out).sto (Nat.le_trans ((Nat.le_trans ((Nat.le_trans ((Nat.le_trans ((Nat.le_trans ((Nat.le_trans ((Nat.le_trans (hu9.out.size) hu17.out.size)) (Nat.le_of_eq hs19.out.size.symm))) hu26.out.size)) hu29.out.size)) (Nat.le_of_eq hs31.out.size.symm))) hu39.out.size)) lbb46.out) hs50.out)).cell (o := 0) rfl
     have cl1 := (hb2.up ((((((((hu9.out.trans hu17.out).sto (Nat.le_trans (hu9.out.size) lbb15.out) hs19.out).trans hu26.out).trans hu29.out).sto (Nat.le_trans ((Nat.le_trans ((Nat.le_trans ((Nat.le_trans (hu9.out.size) hu17.out.size)) (Nat.le_of_eq hs19.out.size.symm))) hu26.out.size)) lbb27.out) hs31.out).trans hu39.out).trans hu48.out).sto (Nat.le_trans ((Nat.le_trans ((Nat.le_trans ((Nat.le_trans ((Nat.le_trans ((Nat.le_trans ((Nat.le_trans (hu9.out.size) hu17.out.size)) (Nat.le_of_eq hs19.out.size.symm))) hu26.out.size)) hu29.out.size)) (Nat.le_of_eq hs31.out.size.symm))) hu39.out.size)) lbb46.out) hs50.out)).cell (o := 1) rfl
     have cl2 := (hb2.up ((((((((hu9.out.trans hu17.out).sto (Nat.le_trans (hu9.out.size) lbb15.out) hs19.out).trans hu26.out).trans hu29.out).sto (Nat.le_trans ((Nat.le_trans ((Nat.le_trans ((Nat.le_trans (hu9.out.size) hu17.out.size)) (Nat.le_of_eq hs19.out.size.symm))) hu26.out.size)) lbb27.out) hs31.out).trans hu39.out).trans hu48.out).sto (Nat.le_trans ((Nat.le_trans ((Nat.le_trans ((Nat.le_trans ((Nat.le_trans ((Nat.le_trans ((Nat.le_trans (hu9.out.size) hu17.out.size)) (Nat.le_of_eq hs19.out.size.symm))) hu26.out.size)) hu29.out.size)) (Nat.le_of_eq hs31.out.size.symm))) hu39.out.size)) lbb46.out) hs50.out)).cell (o := 2) rfl
     have cl3 := (hb2.up ((((((((hu9.out.trans hu17.out).sto (Nat.le_trans (hu9.out.size) lbb15.out) hs19.out).trans hu26.out).trans hu29.out).sto (Nat.le_trans ((Nat.le_trans ((Nat.le_trans ((Nat.le_trans (hu9.out.size) hu17.out.size)) (Nat.le_of_eq hs19.out.size.symm))) hu26.out.size)) lbb27.out) hs31.out).trans hu39.out).trans hu48.out).sto (Nat.le_trans ((Nat.le_trans ((Nat.le_trans ((Nat.le_trans ((Nat.le_trans ((Nat.le_trans ((Nat.le_trans (hu9.out.size) hu17.out.size)) (Nat.le_of_eq hs19.out.size.symm))) hu26.out.size)) hu29.out.size)) (Nat.le_of_eq hs31.out.size.symm))) hu39.out.size)) lbb46.out) hs50.out)).cell (o := 3) rfl
     refine wpList_plain rfl (fun Ko hKo => ?_)
     go_simp
     refine hKo _ _ ?_
     clear hKo Ko
     clear cl0 cl1 cl2 cl3
     try simp only [Act.put, nm1, nm2, nm3, i64_w]
     have cl0 := hb51.cell (o := 0) rfl
     have cl1 := hb51.cell (o := 1) rfl
     refine wpList_plain rfl (fun Ko hKo => ?_)
     go_simp
     refine hKo _ _ ?_
     clear hKo Ko
     clear cl0 cl1
     try simp only [Act.put, nm1, nm2, nm3, i64_w]
     refine step_call (wanted_none rfl) (by first | (go_simp; done) | (go_simp; rfl)) (impl_turned.calls K a0 a2_0 a2_1 a2_2 a2_3 0 1 t53 t54 w49  A55.out) ?_
     rintro e w56 ⟨rfl, hu⟩
     have hu57 := Aside0.mk hu
     clear hu
     refine ⟨_, rfl, ?_⟩
     simp only [Act.put, nm1, nm2, nm3, i64_w]
     refine step_new (cs := [.int .i64 0, .int .i64 0]) (T := 26) (f := fun b => .pointer (some ⟨b, 0, none⟩)) rfl (by first | (go_simp; done) | (go_simp; rfl)) ?_
     intro b58 w59 hu lb hb58
     simp only [Act.put, nm1, nm2, nm3, i64_w]
     have lbb58 := Aside0.mk lb
     have ltb58 := Aside0.mk hb58.lt
     clear lb
     have hu60 := Aside0.mk hu
     clear hu
     have hB0 := hb58
     have cl0 := hB0.cell (o := 0) rfl
     have fr0 := hB0.free 0
     have cl1 := hB0.cell (o := 1) rfl
     have fr1 := hB0.free 1
     refine step_store (b := b58) (cs' := [.int .i64 t53, .int .i64 t54]) (T := 26) (W' := ((w59.setCell ⟨b58, 0, none⟩ (.int .i64 t53)).setCell ⟨b58, 1, none⟩ (.int .i64 t54))) rfl rfl (by first | (go_simp; done) | (go_simp; rfl)) (((Sto.refl _ _).setCell 0 _).setCell 1 _) (((hB0).setCell 0 _).setCell 1 _) ?_
     clear hB0 cl0 fr0 cl1 fr1
     intro w61 hs hb63
     have hs62 := Aside0.mk hs
     clear hs
     refine wpList_nil ?_
     (try simp only [Exit.then, Exit.inBlock, ↓reduceIte, Nat.reduceEqDiff])
     refine hK52 _ _ ?_
     refine wp_seq_k (fun K64 hK64 => ?_)
     refine' wp_region_up 11 [Slot.det _, Slot.det _, Slot.det _, Slot.det _, Slot.det (.int .i64 t65), Slot.det _, Slot.det _, Slot.det _, Slot.det _, Slot.det (.int .i64 t67), Slot.det _] (by kernel_rfl) (by kernel_rfl) ?main
     case main =>
      simp only [List.take_succ_cons, List.take_zero]
      refine wpK_ops rfl (fun w1 hu => ?_) ?_
      · clear hu
        go_simp
        first | done | rfl
      simp only [Act.put, nm1, nm2, nm3, i64_w]
      refine wpK_ops rfl (fun w1 hu => ?_) ?_
      · clear hu
        go_simp
        first | done | rfl
      simp only [Act.put, nm1, nm2, nm3, i64_w]
      refine wpK_ops rfl (fun w1 hu => ?_) ?_
      · have cl0 := ((hb51.up ((hu57.out.trans hu60.out).sto (Nat.le_trans (hu57.out.size) lbb58.out) hs62.out)).up ((Up.refl _).drew.trans hu)).cell (o := 0) rfl
        have cl1 := ((hb51.up ((hu57.out.trans hu60.out).sto (Nat.le_trans (hu57.out.size) lbb58.out) hs62.out)).up ((Up.refl _).drew.trans hu)).cell (o := 1) rfl
        go_simp
        first | done | rfl
      simp only [Act.put, nm1, nm2, nm3, i64_w]
      refine wpK_ops rfl (fun w1 hu => ?_) ?_
      · have cl0 := ((hb51.up ((hu57.out.trans hu60.out).sto (Nat.le_trans (hu57.out.size) lbb58.out) hs62.out)).up ((Up.refl _).drew.trans hu)).cell (o := 0) rfl
        have cl1 := ((hb51.up ((hu57.out.trans hu60.out).sto (Nat.le_trans (hu57.out.size) lbb58.out) hs62.out)).up ((Up.refl _).drew.trans hu)).cell (o := 1) rfl
        go_simp
        first | done | rfl
      simp only [Act.put, nm1, nm2, nm3, i64_w]
      refine wpK_ops rfl (fun w1 hu => ?_) ?_
      · have hcl := (impl_product.calls K a0 a1 0 1 0 1 t65 w1  A66.out)
        clear hu
        replace hcl := Aside0.mk hcl
        go_simp
        exact hcl.out
      simp only [Act.put, nm1, nm2, nm3, i64_w]
      refine wpK_ops rfl (fun w1 hu => ?_) ?_
      · clear hu
        go_simp
        first | done | rfl
      simp only [Act.put, nm1, nm2, nm3, i64_w]
      refine wpK_ops rfl (fun w1 hu => ?_) ?_
      · clear hu
        go_simp
        first | done | rfl
      simp only [Act.put, nm1, nm2, nm3, i64_w]
      refine wpK_ops rfl (fun w1 hu => ?_) ?_
      · have cl0 := (hb63.up ((Up.refl _).drew.trans hu)).cell (o := 0) rfl
        have cl1 := (hb63.up ((Up.refl _).drew.trans hu)).cell (o := 1) rfl
        go_simp
        first | done | rfl
      simp only [Act.put, nm1, nm2, nm3, i64_w]
      refine wpK_ops rfl (fun w1 hu => ?_) ?_
      · have cl0 := (hb63.up ((Up.refl _).drew.trans hu)).cell (o := 0) rfl
        have cl1 := (hb63.up ((Up.refl _).drew.trans hu)).cell (o := 1) rfl
        go_simp
        first | done | rfl
      simp only [Act.put, nm1, nm2, nm3, i64_w]
      refine wpK_ops rfl (fun w1 hu => ?_) ?_
      · have hcl := (impl_product.calls K a0 a1 t53 t54 t53 t54 t67 w1  A68.out)
        clear hu
        replace hcl := Aside0.mk hcl
        go_simp
        exact hcl.out
      simp only [Act.put, nm1, nm2, nm3, i64_w]
      refine wpK_ops rfl (fun w1 hu => ?_) ?_
      · clear hu
        go_simp
        first | done | rfl
      simp only [Act.put, nm1, nm2, nm3, i64_w]
      refine wpK_nil ?_
      intro w69 hu hap
      simp only [List.drop_succ_cons, List.drop_zero]
      replace hu := (Up.refl _).drew.trans hu
      clear hap
      have hu70 := Aside0.mk hu
      clear hu
      refine wpList_nil ?_
      (try simp only [Exit.then, Exit.inBlock, ↓reduceIte, Nat.reduceEqDiff])
      refine hK64 _ _ ?_
      refine wp_cond_false rfl ?_
      refine wp_skip ?_
      (try simp only [Exit.then, Exit.inBlock, ↓reduceIte, Nat.reduceEqDiff])
      refine hK44 _ _ ?_
      refine wp_region_lit ?_
      refine wpList_plain rfl (fun Ko hKo => ?_)
      go_simp
      refine hKo _ _ ?_
      clear hKo Ko
      try simp only [Act.put, nm1, nm2, nm3, i64_w]
      try simp only [show wrap64 2 = 2 from wlit rfl]
      refine wpList_plain rfl (fun Ko hKo => ?_)
      go_simp
      refine hKo _ _ ?_
      clear hKo Ko
      try simp only [Act.put, nm1, nm2, nm3, i64_w]
      refine wpList_nil ?_
      (try simp only [Exit.then, Exit.inBlock, ↓reduceIte, Nat.reduceEqDiff])
      refine hK41 _ _ ?_
      refine rounds_k (fun K72 hK72 => ?_)
      refine wp_seq_k (fun K73 hK73 => ?_)
      refine wp_region_lit ?_
      refine wpList_plain rfl (fun Ko hKo => ?_)
      go_simp
      refine hKo _ _ ?_
      clear hKo Ko
      try simp only [Act.put, nm1, nm2, nm3, i64_w]
      refine wpList_nil ?_
      (try simp only [Exit.then, Exit.inBlock, ↓reduceIte, Nat.reduceEqDiff])
      refine hK73 _ _ ?_
      refine wp_seq_k (fun K74 hK74 => ?_)
      refine wp_cond_true rfl ?_
      refine wp_skip ?_
      (try simp only [Exit.then, Exit.inBlock, ↓reduceIte, Nat.reduceEqDiff])
      refine hK74 _ _ ?_
      refine wp_seq_k (fun K75 hK75 => ?_)
      refine wp_block ?_
      refine wp_seq_k (fun K76 hK76 => ?_)
      refine wp_region_lit ?_
      refine wpList_plain rfl (fun Ko hKo => ?_)
      go_simp
      refine hKo _ _ ?_
      clear hKo Ko
      try simp only [Act.put, nm1, nm2, nm3, i64_w]
      have cl0 := (hb7.up (((((((((((hu17.out.sto (Nat.le_trans (Nat.le_refl _) lbb15.out) hs19.out).trans hu26.out).trans hu29.out).sto (Nat.le_trans ((Nat.le_trans ((Nat.le_trans (hu17.out.size) (Nat.le_of_eq hs19.out.size.symm))) hu26.out.size)) lbb27.out) hs31.out).trans hu39.out).trans hu48.out).sto (Nat.le_trans ((Nat.le_trans ((Nat.le_trans ((Nat.le_trans ((Nat.le_trans ((Nat.le_trans (hu17.out.size) (Nat.le_of_eq hs19.out.size.symm))) hu26.out.size)) hu29.out.size)) (Nat.le_of_eq hs31.out.size.symm))) hu39.out.size)) lbb46.out) hs50.out).trans hu57.out).trans hu60.out).sto (Nat.le_trans ((Nat.le_trans ((Nat.le_trans ((Nat.le_trans ((Nat.le_trans ((Nat.le_trans ((Nat.le_trans ((Nat.le_trans ((Nat.le_trans (hu17.out.size) (Nat.le_of_eq hs19.out.size.symm))) hu26.out.size)) hu29.out.size)) (Nat.le_of_eq hs31.out.size.symm))) hu39.out.size)) hu48.out.size)) (Nat.le_of_eq hs50.out.size.symm))) hu57.out.size)) lbb58.out) hs62.out).trans hu70.out)).cell (o := 4) rfl
      have cl1 := (hb7.up (((((((((((hu17.out.sto (Nat.le_trans (Nat.le_refl _) lbb15.out) hs19.out).trans hu26.out).trans hu29.out).sto (Nat.le_trans ((Nat.le_trans ((Nat.le_trans (hu17.out.size) (Nat.le_of_eq hs19.out.size.symm))) hu26.out.size)) lbb27.out) hs31.out).trans hu39.out).trans hu48.out).sto (Nat.le_trans ((Nat.le_trans ((Nat.le_trans ((Nat.le_trans ((Nat.le_trans ((Nat.le_trans (hu17.out.size) (Nat.le_of_eq hs19.out.size.symm))) hu26.out.size)) hu29.out.size)) (Nat.le_of_eq hs31.out.size.symm))) hu39.out.size)) lbb46.out) hs50.out).trans hu57.out).trans hu60.out).sto (Nat.le_trans ((Nat.le_trans ((Nat.le_trans ((Nat.le_trans ((Nat.le_trans ((Nat.le_trans ((Nat.le_trans ((Nat.le_trans ((Nat.le_trans (hu17.out.size) (Nat.le_of_eq hs19.out.size.symm))) hu26.out.size)) hu29.out.size)) (Nat.le_of_eq hs31.out.size.symm))) hu39.out.size)) hu48.out.size)) (Nat.le_of_eq hs50.out.size.symm))) hu57.out.size)) lbb58.out) hs62.out).trans hu70.out)).cell (o := 5) rfl
      refine wpList_plain rfl (fun Ko hKo => ?_)
      go_simp
      refine hKo _ _ ?_
      clear hKo Ko
      clear cl0 cl1
      try simp only [Act.put, nm1, nm2, nm3, i64_w]
      refine step_new (cs := [.int .i64 0, .int .i64 0]) (T := 26) (f := fun b => .pointer (some ⟨b, 0, none⟩)) rfl (by first | (go_simp; done) | (go_simp; rfl)) ?_
      intro b77 w78 hu lb hb77
      simp only [Act.put, nm1, nm2, nm3, i64_w]
      have lbb77 := Aside0.mk lb
      have ltb77 := Aside0.mk hb77.lt
      clear lb
      have hu79 := Aside0.mk hu
      clear hu
      have hB0 := hb77
      have cl0 := hB0.cell (o := 0) rfl
      have fr0 := hB0.free 0
      have cl1 := hB0.cell (o := 1) rfl
      have fr1 := hB0.free 1
      refine step_store (b := b77) (cs' := [.int .i64 1, .int .i64 1]) (T := 26) (W' := ((w78.setCell ⟨b77, 0, none⟩ (.int .i64 1)).setCell ⟨b77, 1, none⟩ (.int .i64 1))) rfl rfl (by first | (go_simp; done) | (go_simp; rfl)) (((Sto.refl _ _).setCell 0 _).setCell 1 _) (((hB0).setCell 0 _).setCell 1 _) ?_
      clear hB0 cl0 fr0 cl1 fr1
      intro w80 hs hb82
      have hs81 := Aside0.mk hs
      clear hs
      refine wpList_nil ?_
      (try simp only [Exit.then, Exit.inBlock, ↓reduceIte, Nat.reduceEqDiff])
      refine hK76 _ _ ?_
      refine wp_seq_k (fun K83 hK83 => ?_)
      refine wp_region_lit ?_
      refine wpList_plain rfl (fun Ko hKo => ?_)
      go_simp
      refine hKo _ _ ?_
      clear hKo Ko
      try simp only [Act.put, nm1, nm2, nm3, i64_w]
      have cl0 := (hb2.up ((((((((((((((hu9.out.trans hu17.out).sto (Nat.le_trans (hu9.out.size) lbb15.out) hs19.out).trans hu26.out).trans hu29.out).sto (Nat.le_trans ((Nat.le_trans ((Nat.le_trans ((Nat.le_trans (hu9.out.size) hu17.out.size)) (Nat.le_of_eq hs19.out.size.symm))) hu26.out.size)) lbb27.out) hs31.out).trans hu39.out).trans hu48.out).sto (Nat.le_trans ((Nat.le_trans ((Nat.le_trans ((Nat.le_trans ((Nat.le_trans ((Nat.le_trans ((Nat.le_trans (hu9.out.size) hu17.out.size)) (Nat.le_of_eq hs19.out.size.symm))) hu26.out.size)) hu29.out.size)) (Nat.le_of_eq hs31.out.size.symm))) hu39.out.size)) lbb46.out) hs50.out).trans hu57.out).trans hu60.out).sto (Nat.le_trans ((Nat.le_trans ((Nat.le_trans ((Nat.le_trans ((Nat.le_trans ((Nat.le_trans ((Nat.le_trans ((Nat.le_trans ((Nat.le_trans ((Nat.le_trans (hu9.out.size) hu17.out.size)) (Nat.le_of_eq hs19.out.size.symm))) hu26.out.size)) hu29.out.size)) (Nat.le_of_eq hs31.out.size.symm))) hu39.out.size)) hu48.out.size)) (Nat.le_of_eq hs50.out.size.symm))) hu57.out.size)) lbb58.out) hs62.out).trans hu70.out).trans hu79.out).sto (Nat.le_trans ((Nat.le_trans ((Nat.le_trans ((Nat.le_trans ((Nat.le_trans ((Nat.le_trans ((Nat.le_trans ((Nat.le_trans ((Nat.le_trans ((Nat.le_trans ((Nat.le_trans ((Nat.le_trans ((Nat.le_trans (hu9.out.size) hu17.out.size)) (Nat.le_of_eq hs19.out.size.symm))) hu26.out.size)) hu29.out.size)) (Nat.le_of_eq hs31.out.size.symm))) hu39.out.size)) hu48.out.size)) (Nat.le_of_eq hs50.out.size.symm))) hu57.out.size)) hu60.out.size)) (Nat.le_of_eq hs62.out.size.symm))) hu70.out.size)) lbb77.out) hs81.out)).cell (o := 0) rfl
      have cl1 := (hb2.up ((((((((((((((hu9.out.trans hu17.out).sto (Nat.le_trans (hu9.out.size) lbb15.out) hs19.out).trans hu26.out).trans hu29.out).sto (Nat.le_trans ((Nat.le_trans ((Nat.le_trans ((Nat.le_trans (hu9.out.size) hu17.out.size)) (Nat.le_of_eq hs19.out.size.symm))) hu26.out.size)) lbb27.out) hs31.out).trans hu39.out).trans hu48.out).sto (Nat.le_trans ((Nat.le_trans ((Nat.le_trans ((Nat.le_trans ((Nat.le_trans ((Nat.le_trans ((Nat.le_trans (hu9.out.size) hu17.out.size)) (Nat.le_of_eq hs19.out.size.symm))) hu26.out.size)) hu29.out.size)) (Nat.le_of_eq hs31.out.size.symm))) hu39.out.size)) lbb46.out) hs50.out).trans hu57.out).trans hu60.out).sto (Nat.le_trans ((Nat.le_trans ((Nat.le_trans ((Nat.le_trans ((Nat.le_trans ((Nat.le_trans ((Nat.le_trans ((Nat.le_trans ((Nat.le_trans ((Nat.le_trans (hu9.out.size) hu17.out.size)) (Nat.le_of_eq hs19.out.size.symm))) hu26.out.size)) hu29.out.size)) (Nat.le_of_eq hs31.out.size.symm))) hu39.out.size)) hu48.out.size)) (Nat.le_of_eq hs50.out.size.symm))) hu57.out.size)) lbb58.out) hs62.out).trans hu70.out).trans hu79.out).sto (Nat.le_trans ((Nat.le_trans ((Nat.le_trans ((Nat.le_trans ((Nat.le_trans ((Nat.le_trans ((Nat.le_trans ((Nat.le_trans ((Nat.le_trans ((Nat.le_trans ((Nat.le_trans ((Nat.le_trans ((Nat.le_trans (hu9.out.size) hu17.out.size)) (Nat.le_of_eq hs19.out.size.symm))) hu26.out.size)) hu29.out.size)) (Nat.le_of_eq hs31.out.size.symm))) hu39.out.size)) hu48.out.size)) (Nat.le_of_eq hs50.out.size.symm))) hu57.out.size)) hu60.out.size)) (Nat.le_of_eq hs62.out.size.symm))) hu70.out.size)) lbb77.out) hs81.out)).cell (o := 1) rfl
      have cl2 := (hb2.up ((((((((((((((hu9.out.trans hu17.out).sto (Nat.le_trans (hu9.out.size) lbb15.out) hs19.out).trans hu26.out).trans hu29.out).sto (Nat.le_trans ((Nat.le_trans ((Nat.le_trans ((Nat.le_trans (hu9.out.size) hu17.out.size)) (Nat.le_of_eq hs19.out.size.symm))) hu26.out.size)) lbb27.out) hs31.out).trans hu39.out).trans hu48.out).sto (Nat.le_trans ((Nat.le_trans ((Nat.le_trans ((Nat.le_trans ((Nat.le_trans ((Nat.le_trans ((Nat.le_trans (hu9.out.size) hu17.out.size)) (Nat.le_of_eq hs19.out.size.symm))) hu26.out.size)) hu29.out.size)) (Nat.le_of_eq hs31.out.size.symm))) hu39.out.size)) lbb46.out) hs50.out).trans hu57.out).trans hu60.out).sto (Nat.le_trans ((Nat.le_trans ((Nat.le_trans ((Nat.le_trans ((Nat.le_trans ((Nat.le_trans ((Nat.le_trans ((Nat.le_trans ((Nat.le_trans ((Nat.le_trans (hu9.out.size) hu17.out.size)) (Nat.le_of_eq hs19.out.size.symm))) hu26.out.size)) hu29.out.size)) (Nat.le_of_eq hs31.out.size.symm))) hu39.out.size)) hu48.out.size)) (Nat.le_of_eq hs50.out.size.symm))) hu57.out.size)) lbb58.out) hs62.out).trans hu70.out).trans hu79.out).sto (Nat.le_trans ((Nat.le_trans ((Nat.le_trans ((Nat.le_trans ((Nat.le_trans ((Nat.le_trans ((Nat.le_trans ((Nat.le_trans ((Nat.le_trans ((Nat.le_trans ((Nat.le_trans ((Nat.le_trans ((Nat.le_trans (hu9.out.size) hu17.out.size)) (Nat.le_of_eq hs19.out.size.symm))) hu26.out.size)) hu29.out.size)) (Nat.le_of_eq hs31.out.size.symm))) hu39.out.size)) hu48.out.size)) (Nat.le_of_eq hs50.out.size.symm))) hu57.out.size)) hu60.out.size)) (Nat.le_of_eq hs62.out.size.symm))) hu70.out.size)) lbb77.out) hs81.out)).cell (o := 2) rfl
      have cl3 := (hb2.up ((((((((((((((hu9.out.trans hu17.out).sto (Nat.le_trans (hu9.out.size) lbb15.out) hs19.out).trans hu26.out).trans hu29.out).sto (Nat.le_trans ((Nat.le_trans ((Nat.le_trans ((Nat.le_trans (hu9.out.size) hu17.out.size)) (Nat.le_of_eq hs19.out.size.symm))) hu26.out.size)) lbb27.out) hs31.out).trans hu39.out).trans hu48.out).sto (Nat.le_trans ((Nat.le_trans ((Nat.le_trans ((Nat.le_trans ((Nat.le_trans ((Nat.le_trans ((Nat.le_trans (hu9.out.size) hu17.out.size)) (Nat.le_of_eq hs19.out.size.symm))) hu26.out.size)) hu29.out.size)) (Nat.le_of_eq hs31.out.size.symm))) hu39.out.size)) lbb46.out) hs50.out).trans hu57.out).trans hu60.out).sto (Nat.le_trans ((Nat.le_trans ((Nat.le_trans ((Nat.le_trans ((Nat.le_trans ((Nat.le_trans ((Nat.le_trans ((Nat.le_trans ((Nat.le_trans ((Nat.le_trans (hu9.out.size) hu17.out.size)) (Nat.le_of_eq hs19.out.size.symm))) hu26.out.size)) hu29.out.size)) (Nat.le_of_eq hs31.out.size.symm))) hu39.out.size)) hu48.out.size)) (Nat.le_of_eq hs50.out.size.symm))) hu57.out.size)) lbb58.out) hs62.out).trans hu70.out).trans hu79.out).sto (Nat.le_trans ((Nat.le_trans ((Nat.le_trans ((Nat.le_trans ((Nat.le_trans ((Nat.le_trans ((Nat.le_trans ((Nat.le_trans ((Nat.le_trans ((Nat.le_trans ((Nat.le_trans ((Nat.le_trans ((Nat.le_trans (hu9.out.size) hu17.out.size)) (Nat.le_of_eq hs19.out.size.symm))) hu26.out.size)) hu29.out.size)) (Nat.le_of_eq hs31.out.size.symm))) hu39.out.size)) hu48.out.size)) (Nat.le_of_eq hs50.out.size.symm))) hu57.out.size)) hu60.out.size)) (Nat.le_of_eq hs62.out.size.symm))) hu70.out.size)) lbb77.out) hs81.out)).cell (o := 3) rfl
      refine wpList_plain rfl (fun Ko hKo => ?_)
      go_simp
      refine hKo _ _ ?_
      clear hKo Ko
      clear cl0 cl1 cl2 cl3
      try simp only [Act.put, nm1, nm2, nm3, i64_w]
      have cl0 := hb82.cell (o := 0) rfl
      have cl1 := hb82.cell (o := 1) rfl
      refine wpList_plain rfl (fun Ko hKo => ?_)
      go_simp
      refine hKo _ _ ?_
      clear hKo Ko
      clear cl0 cl1
      try simp only [Act.put, nm1, nm2, nm3, i64_w]
      refine step_call (wanted_none rfl) (by first | (go_simp; done) | (go_simp; rfl)) (impl_turned.calls K a0 a2_0 a2_1 a2_2 a2_3 1 1 t84 t85 w80  A86.out) ?_
      rintro e w87 ⟨rfl, hu⟩
      have hu88 := Aside0.mk hu
      clear hu
      refine ⟨_, rfl, ?_⟩
      simp only [Act.put, nm1, nm2, nm3, i64_w]
      refine step_new (cs := [.int .i64 0, .int .i64 0]) (T := 26) (f := fun b => .pointer (some ⟨b, 0, none⟩)) rfl (by first | (go_simp; done) | (go_simp; rfl)) ?_
      intro b89 w90 hu lb hb89
      simp only [Act.put, nm1, nm2, nm3, i64_w]
      have lbb89 := Aside0.mk lb
      have ltb89 := Aside0.mk hb89.lt
      clear lb
      have hu91 := Aside0.mk hu
      clear hu
      have hB0 := hb89
      have cl0 := hB0.cell (o := 0) rfl
      have fr0 := hB0.free 0
      have cl1 := hB0.cell (o := 1) rfl
      have fr1 := hB0.free 1
      refine step_store (b := b89) (cs' := [.int .i64 t84, .int .i64 t85]) (T := 26) (W' := ((w90.setCell ⟨b89, 0, none⟩ (.int .i64 t84)).setCell ⟨b89, 1, none⟩ (.int .i64 t85))) rfl rfl (by first | (go_simp; done) | (go_simp; rfl)) (((Sto.refl _ _).setCell 0 _).setCell 1 _) (((hB0).setCell 0 _).setCell 1 _) ?_
      clear hB0 cl0 fr0 cl1 fr1
      intro w92 hs hb94
      have hs93 := Aside0.mk hs
      clear hs
      refine wpList_nil ?_
      (try simp only [Exit.then, Exit.inBlock, ↓reduceIte, Nat.reduceEqDiff])
      refine hK83 _ _ ?_
      refine wp_seq_k (fun K95 hK95 => ?_)
      refine' wp_region_up 11 [Slot.det _, Slot.det _, Slot.det _, Slot.det _, Slot.det (.int .i64 t96), Slot.det _, Slot.det _, Slot.det _, Slot.det _, Slot.det (.int .i64 t98), Slot.det _] (by kernel_rfl) (by kernel_rfl) ?main
      case main =>
       simp only [List.take_succ_cons, List.take_zero]
       refine wpK_ops rfl (fun w1 hu => ?_) ?_
       · clear hu
         go_simp
         first | done | rfl
       simp only [Act.put, nm1, nm2, nm3, i64_w]
       refine wpK_ops rfl (fun w1 hu => ?_) ?_
       · clear hu
         go_simp
         first | done | rfl
       simp only [Act.put, nm1, nm2, nm3, i64_w]
       refine wpK_ops rfl (fun w1 hu => ?_) ?_
       · have cl0 := ((hb82.up ((hu88.out.trans hu91.out).sto (Nat.le_trans (hu88.out.size) lbb89.out) hs93.out)).up ((Up.refl _).drew.trans hu)).cell (o := 0) rfl
         have cl1 := ((hb82.up ((hu88.out.trans hu91.out).sto (Nat.le_trans (hu88.out.size) lbb89.out) hs93.out)).up ((Up.refl _).drew.trans hu)).cell (o := 1) rfl
         go_simp
         first | done | rfl
       simp only [Act.put, nm1, nm2, nm3, i64_w]
       refine wpK_ops rfl (fun w1 hu => ?_) ?_
       · have cl0 := ((hb82.up ((hu88.out.trans hu91.out).sto (Nat.le_trans (hu88.out.size) lbb89.out) hs93.out)).up ((Up.refl _).drew.trans hu)).cell (o := 0) rfl
         have cl1 := ((hb82.up ((hu88.out.trans hu91.out).sto (Nat.le_trans (hu88.out.size) lbb89.out) hs93.out)).up ((Up.refl _).drew.trans hu)).cell (o := 1) rfl
         go_simp
         first | done | rfl
       simp only [Act.put, nm1, nm2, nm3, i64_w]
       refine wpK_ops rfl (fun w1 hu => ?_) ?_
       · have hcl := (impl_product.calls K a0 a1 1 1 1 1 t96 w1  A97.out)
         clear hu
         replace hcl := Aside0.mk hcl
         go_simp
         exact hcl.out
       simp only [Act.put, nm1, nm2, nm3, i64_w]
       refine wpK_ops rfl (fun w1 hu => ?_) ?_
       · clear hu
         go_simp
         first | done | rfl
       simp only [Act.put, nm1, nm2, nm3, i64_w]
       refine wpK_ops rfl (fun w1 hu => ?_) ?_
       · clear hu
         go_simp
         first | done | rfl
       simp only [Act.put, nm1, nm2, nm3, i64_w]
       refine wpK_ops rfl (fun w1 hu => ?_) ?_
       · have cl0 := (hb94.up ((Up.refl _).drew.trans hu)).cell (o := 0) rfl
         have cl1 := (hb94.up ((Up.refl _).drew.trans hu)).cell (o := 1) rfl
         go_simp
         first | done | rfl
       simp only [Act.put, nm1, nm2, nm3, i64_w]
       refine wpK_ops rfl (fun w1 hu => ?_) ?_
       · have cl0 := (hb94.up ((Up.refl _).drew.trans hu)).cell (o := 0) rfl
         have cl1 := (hb94.up ((Up.refl _).drew.trans hu)).cell (o := 1) rfl
         go_simp
         first | done | rfl
       simp only [Act.put, nm1, nm2, nm3, i64_w]
       refine wpK_ops rfl (fun w1 hu => ?_) ?_
       · have hcl := (impl_product.calls K a0 a1 t84 t85 t84 t85 t98 w1  A99.out)
         clear hu
         replace hcl := Aside0.mk hcl
         go_simp
         exact hcl.out
       simp only [Act.put, nm1, nm2, nm3, i64_w]
       refine wpK_ops rfl (fun w1 hu => ?_) ?_
       · clear hu
         go_simp
         first | done | rfl
       simp only [Act.put, nm1, nm2, nm3, i64_w]
       refine wpK_nil ?_
       intro w100 hu hap
       simp only [List.drop_succ_cons, List.drop_zero]
       replace hu := (Up.refl _).drew.trans hu
       clear hap
       have hu101 := Aside0.mk hu
       clear hu
       refine wpList_nil ?_
       (try simp only [Exit.then, Exit.inBlock, ↓reduceIte, Nat.reduceEqDiff])
       refine hK95 _ _ ?_
       refine wp_cond_false rfl ?_
       refine wp_skip ?_
       (try simp only [Exit.then, Exit.inBlock, ↓reduceIte, Nat.reduceEqDiff])
       refine hK75 _ _ ?_
       refine wp_region_lit ?_
       refine wpList_plain rfl (fun Ko hKo => ?_)
       go_simp
       refine hKo _ _ ?_
       clear hKo Ko
       try simp only [Act.put, nm1, nm2, nm3, i64_w]
       try simp only [show wrap64 3 = 3 from wlit rfl]
       refine wpList_plain rfl (fun Ko hKo => ?_)
       go_simp
       refine hKo _ _ ?_
       clear hKo Ko
       try simp only [Act.put, nm1, nm2, nm3, i64_w]
       refine wpList_nil ?_
       (try simp only [Exit.then, Exit.inBlock, ↓reduceIte, Nat.reduceEqDiff])
       refine hK72 _ _ ?_
       refine rounds_k (fun K103 hK103 => ?_)
       refine wp_seq_k (fun K104 hK104 => ?_)
       refine wp_region_lit ?_
       refine wpList_plain rfl (fun Ko hKo => ?_)
       go_simp
       refine hKo _ _ ?_
       clear hKo Ko
       try simp only [Act.put, nm1, nm2, nm3, i64_w]
       refine wpList_nil ?_
       (try simp only [Exit.then, Exit.inBlock, ↓reduceIte, Nat.reduceEqDiff])
       refine hK104 _ _ ?_
       refine wp_seq_k (fun K105 hK105 => ?_)
       refine wp_cond_false rfl ?_
       refine wp_exit ?_
       (try simp only [Exit.then, Exit.inBlock, ↓reduceIte, Nat.reduceEqDiff])
       refine hK5 _ _ ?_
       refine wp_seq_k (fun K106 hK106 => ?_)
       refine wp_region_lit ?_
       refine wpList_plain rfl (fun Ko hKo => ?_)
       go_simp
       refine hKo _ _ ?_
       clear hKo Ko
       try simp only [Act.put, nm1, nm2, nm3, i64_w]
       refine wpList_nil ?_
       (try simp only [Exit.then, Exit.inBlock, ↓reduceIte, Nat.reduceEqDiff])
       refine hK106 _ _ ?_
       refine wp_ret ?_
       (try simp only [Exit.then, Exit.inBlock, ↓reduceIte, Nat.reduceEqDiff])
       refine hQf _ _ _ ?_
       exact bodyPost_ret (v := .bool true) (by first | rfl | (simp [results, Try.results57, go_sem]; done) | (simp [results, Try.results57, go_sem]; rfl)) rfl ⟨rfl, (((((((((((((((((((hu4.out.trans hu9.out).trans hu17.out).sto (Nat.le_trans ((Nat.le_trans (hu4.out.size) hu9.out.size)) lbb15.out) hs19.out).trans hu26.out).trans hu29.out).sto (Nat.le_trans ((Nat.le_trans ((Nat.le_trans ((Nat.le_trans ((Nat.le_trans (hu4.out.size) hu9.out.size)) hu17.out.size)) (Nat.le_of_eq hs19.out.size.symm))) hu26.out.size)) lbb27.out) hs31.out).trans hu39.out).trans hu48.out).sto (Nat.le_trans ((Nat.le_trans ((Nat.le_trans ((Nat.le_trans ((Nat.le_trans ((Nat.le_trans ((Nat.le_trans ((Nat.le_trans (hu4.out.size) hu9.out.size)) hu17.out.size)) (Nat.le_of_eq hs19.out.size.symm))) hu26.out.size)) hu29.out.size)) (Nat.le_of_eq hs31.out.size.symm))) hu39.out.size)) lbb46.out) hs50.out).trans hu57.out).trans hu60.out).sto (Nat.le_trans ((Nat.le_trans ((Nat.le_trans ((Nat.le_trans ((Nat.le_trans ((Nat.le_trans ((Nat.le_trans ((Nat.le_trans ((Nat.le_trans ((Nat.le_trans ((Nat.le_trans (hu4.out.size) hu9.out.size)) hu17.out.size)) (Nat.le_of_eq hs19.out.size.symm))) hu26.out.size)) hu29.out.size)) (Nat.le_of_eq hs31.out.size.symm))) hu39.out.size)) hu48.out.size)) (Nat.le_of_eq hs50.out.size.symm))) hu57.out.size)) lbb58.out) hs62.out).trans hu70.out).trans hu79.out).sto (Nat.le_trans ((Nat.le_trans ((Nat.le_trans ((Nat.le_trans ((Nat.le_trans ((Nat.le_trans ((Nat.le_trans ((Nat.le_trans ((Nat.le_trans ((Nat.le_trans ((Nat.le_trans ((Nat.le_trans ((Nat.le_trans ((Nat.le_trans (hu4.out.size) hu9.out.size)) hu17.out.size)) (Nat.le_of_eq hs19.out.size.symm))) hu26.out.size)) hu29.out.size)) (Nat.le_of_eq hs31.out.size.symm))) hu39.out.size)) hu48.out.size)) (Nat.le_of_eq hs50.out.size.symm))) hu57.out.size)) hu60.out.size)) (Nat.le_of_eq hs62.out.size.symm))) hu70.out.size)) lbb77.out) hs81.out).trans hu88.out).trans hu91.out).sto (Nat.le_trans ((Nat.le_trans ((Nat.le_trans ((Nat.le_trans ((Nat.le_trans ((Nat.le_trans ((Nat.le_trans ((Nat.le_trans ((Nat.le_trans ((Nat.le_trans ((Nat.le_trans ((Nat.le_trans ((Nat.le_trans ((Nat.le_trans ((Nat.le_trans ((Nat.le_trans ((Nat.le_trans (hu4.out.size) hu9.out.size)) hu17.out.size)) (Nat.le_of_eq hs19.out.size.symm))) hu26.out.size)) hu29.out.size)) (Nat.le_of_eq hs31.out.size.symm))) hu39.out.size)) hu48.out.size)) (Nat.le_of_eq hs50.out.size.symm))) hu57.out.size)) hu60.out.size)) (Nat.le_of_eq hs62.out.size.symm))) hu70.out.size)) hu79.out.size)) (Nat.le_of_eq hs81.out.size.symm))) hu88.out.size)) lbb89.out) hs93.out).trans hu101.out)⟩
   ·
    rw [if_neg c102] at H
    replace c102 := Bool.eq_false_iff.mpr c102
    have c102n : (t96 != t98) = true := by rw [bne, c102]; rfl
    have c102p : ¬ t96 = t98 := fun e => by simp [e] at c102
    obtain rfl := Option.some.inj H
    go_enter Try.func57, Try.ntmps57
    refine wp_hide (fun Qf hQf => ?_)
    refine wp_seq_k (fun K1 hK1 => ?_)
    refine wp_region_lit ?_
    refine step_new (cs := [.int .i64 a2_0, .int .i64 a2_1, .int .i64 a2_2, .int .i64 a2_3]) (T := 22) (f := fun b => .pointer (some ⟨b, 0, none⟩)) rfl (by first | (go_simp; done) | (go_simp; rfl)) ?_
    intro b2 w3 hu lb hb2
    simp only [Act.put, nm1, nm2, nm3, i64_w]
    have lbb2 := Aside0.mk lb
    have ltb2 := Aside0.mk hb2.lt
    clear lb
    have hu4 := Aside0.mk hu
    clear hu
    refine wpList_plain rfl (fun Ko hKo => ?_)
    go_simp
    refine hKo _ _ ?_
    clear hKo Ko
    try simp only [Act.put, nm1, nm2, nm3, i64_w]
    refine wpList_nil ?_
    (try simp only [Exit.then, Exit.inBlock, ↓reduceIte, Nat.reduceEqDiff])
    refine hK1 _ _ ?_
    refine wp_seq_k (fun K5 hK5 => ?_)
    refine wp_seq_k (fun K6 hK6 => ?_)
    refine wp_region_lit ?_
    refine wpList_plain rfl (fun Ko hKo => ?_)
    go_simp
    refine hKo _ _ ?_
    clear hKo Ko
    try simp only [Act.put, nm1, nm2, nm3, i64_w]
    refine wpList_plain rfl (fun Ko hKo => ?_)
    go_simp
    refine hKo _ _ ?_
    clear hKo Ko
    try simp only [Act.put, nm1, nm2, nm3, i64_w]
    refine wpList_plain rfl (fun Ko hKo => ?_)
    go_simp
    refine hKo _ _ ?_
    clear hKo Ko
    try simp only [Act.put, nm1, nm2, nm3, i64_w]
    refine step_new (cs := [.int .i64 1, .int .i64 0, .int .i64 0, .int .i64 1, .int .i64 1, .int .i64 1]) (T := 26) (f := fun b => .slice (some ⟨b, 0, none⟩) 3 3) rfl (by first | (go_simp; done) | (go_simp; rfl)) ?_
    intro b7 w8 hu lb hb7
    simp only [Act.put, nm1, nm2, nm3, i64_w]
    have lbb7 := Aside0.mk lb
    have ltb7 := Aside0.mk hb7.lt
    clear lb
    have hu9 := Aside0.mk hu
    clear hu
    refine wpList_plain rfl (fun Ko hKo => ?_)
    go_simp
    refine hKo _ _ ?_
    clear hKo Ko
    try simp only [Act.put, nm1, nm2, nm3, i64_w]
    refine wpList_plain rfl (fun Ko hKo => ?_)
    go_simp
    refine hKo _ _ ?_
    clear hKo Ko
    try simp only [Act.put, nm1, nm2, nm3, i64_w]
    refine wpList_nil ?_
    (try simp only [Exit.then, Exit.inBlock, ↓reduceIte, Nat.reduceEqDiff])
    refine hK6 _ _ ?_
    refine wp_block ?_
    refine wp_loop_rounds 40 ?_
    refine rounds_k (fun K10 hK10 => ?_)
    refine wp_seq_k (fun K11 hK11 => ?_)
    refine wp_region_lit ?_
    refine wpList_plain rfl (fun Ko hKo => ?_)
    go_simp
    refine hKo _ _ ?_
    clear hKo Ko
    try simp only [Act.put, nm1, nm2, nm3, i64_w]
    refine wpList_nil ?_
    (try simp only [Exit.then, Exit.inBlock, ↓reduceIte, Nat.reduceEqDiff])
    refine hK11 _ _ ?_
    refine wp_seq_k (fun K12 hK12 => ?_)
    refine wp_cond_true rfl ?_
    refine wp_skip ?_
    (try simp only [Exit.then, Exit.inBlock, ↓reduceIte, Nat.reduceEqDiff])
    refine hK12 _ _ ?_
    refine wp_seq_k (fun K13 hK13 => ?_)
    refine wp_block ?_
    refine wp_seq_k (fun K14 hK14 => ?_)
    refine wp_region_lit ?_
    refine wpList_plain rfl (fun Ko hKo => ?_)
    go_simp
    refine hKo _ _ ?_
    clear hKo Ko
    try simp only [Act.put, nm1, nm2, nm3, i64_w]
    have cl0 := hb7.cell (o := 0) rfl
    have cl1 := hb7.cell (o := 1) rfl
    refine wpList_plain rfl (fun Ko hKo => ?_)
    go_simp
    refine hKo _ _ ?_
    clear hKo Ko
    clear cl0 cl1
    try simp only [Act.put, nm1, nm2, nm3, i64_w]
    refine step_new (cs := [.int .i64 0, .int .i64 0]) (T := 26) (f := fun b => .pointer (some ⟨b, 0, none⟩)) rfl (by first | (go_simp; done) | (go_simp; rfl)) ?_
    intro b15 w16 hu lb hb15
    simp only [Act.put, nm1, nm2, nm3, i64_w]
    have lbb15 := Aside0.mk lb
    have ltb15 := Aside0.mk hb15.lt
    clear lb
    have hu17 := Aside0.mk hu
    clear hu
    have hB0 := hb15
    have cl0 := hB0.cell (o := 0) rfl
    have fr0 := hB0.free 0
    have cl1 := hB0.cell (o := 1) rfl
    have fr1 := hB0.free 1
    refine step_store (b := b15) (cs' := [.int .i64 1, .int .i64 0]) (T := 26) (W' := ((w16.setCell ⟨b15, 0, none⟩ (.int .i64 1)).setCell ⟨b15, 1, none⟩ (.int .i64 0))) rfl rfl (by first | (go_simp; done) | (go_simp; rfl)) (((Sto.refl _ _).setCell 0 _).setCell 1 _) (((hB0).setCell 0 _).setCell 1 _) ?_
    clear hB0 cl0 fr0 cl1 fr1
    intro w18 hs hb20
    have hs19 := Aside0.mk hs
    clear hs
    refine wpList_nil ?_
    (try simp only [Exit.then, Exit.inBlock, ↓reduceIte, Nat.reduceEqDiff])
    refine hK14 _ _ ?_
    refine wp_seq_k (fun K21 hK21 => ?_)
    refine wp_region_lit ?_
    refine wpList_plain rfl (fun Ko hKo => ?_)
    go_simp
    refine hKo _ _ ?_
    clear hKo Ko
    try simp only [Act.put, nm1, nm2, nm3, i64_w]
    have cl0 := (hb2.up ((hu9.out.trans hu17.out).sto (Nat.le_trans (hu9.out.size) lbb15.out) hs19.out)).cell (o := 0) rfl
    have cl1 := (hb2.up ((hu9.out.trans hu17.out).sto (Nat.le_trans (hu9.out.size) lbb15.out) hs19.out)).cell (o := 1) rfl
    have cl2 := (hb2.up ((hu9.out.trans hu17.out).sto (Nat.le_trans (hu9.out.size) lbb15.out) hs19.out)).cell (o := 2) rfl
    have cl3 := (hb2.up ((hu9.out.trans hu17.out).sto (Nat.le_trans (hu9.out.size) lbb15.out) hs19.out)).cell (o := 3) rfl
    refine wpList_plain rfl (fun Ko hKo => ?_)
    go_simp
    refine hKo _ _ ?_
    clear hKo Ko
    clear cl0 cl1 cl2 cl3
    try simp only [Act.put, nm1, nm2, nm3, i64_w]
    have cl0 := hb20.cell (o := 0) rfl
    have cl1 := hb20.cell (o := 1) rfl
    refine wpList_plain rfl (fun Ko hKo => ?_)
    go_simp
    refine hKo _ _ ?_
    clear hKo Ko
    clear cl0 cl1
    try simp only [Act.put, nm1, nm2, nm3, i64_w]
    refine step_call (wanted_none rfl) (by first | (go_simp; done) | (go_simp; rfl)) (impl_turned.calls K a0 a2_0 a2_1 a2_2 a2_3 1 0 t22 t23 w18  A24.out) ?_
    rintro e w25 ⟨rfl, hu⟩
    have hu26 := Aside0.mk hu
    clear hu
    refine ⟨_, rfl, ?_⟩
    simp only [Act.put, nm1, nm2, nm3, i64_w]
    refine step_new (cs := [.int .i64 0, .int .i64 0]) (T := 26) (f := fun b => .pointer (some ⟨b, 0, none⟩)) rfl (by first | (go_simp; done) | (go_simp; rfl)) ?_
    intro b27 w28 hu lb hb27
    simp only [Act.put, nm1, nm2, nm3, i64_w]
    have lbb27 := Aside0.mk lb
    have ltb27 := Aside0.mk hb27.lt
    clear lb
    have hu29 := Aside0.mk hu
    clear hu
    have hB0 := hb27
    have cl0 := hB0.cell (o := 0) rfl
    have fr0 := hB0.free 0
    have cl1 := hB0.cell (o := 1) rfl
    have fr1 := hB0.free 1
    refine step_store (b := b27) (cs' := [.int .i64 t22, .int .i64 t23]) (T := 26) (W' := ((w28.setCell ⟨b27, 0, none⟩ (.int .i64 t22)).setCell ⟨b27, 1, none⟩ (.int .i64 t23))) rfl rfl (by first | (go_simp; done) | (go_simp; rfl)) (((Sto.refl _ _).setCell 0 _).setCell 1 _) (((hB0).setCell 0 _).setCell 1 _) ?_
    clear hB0 cl0 fr0 cl1 fr1
    intro w30 hs hb32
    have hs31 := Aside0.mk hs
    clear hs
    refine wpList_nil ?_
    (try simp only [Exit.then, Exit.inBlock, ↓reduceIte, Nat.reduceEqDiff])
    refine hK21 _ _ ?_
    refine wp_seq_k (fun K33 hK33 => ?_)
    refine' wp_region_up 11 [Slot.det _, Slot.det _, Slot.det _, Slot.det _, Slot.det (.int .i64 t34), Slot.det _, Slot.det _, Slot.det _, Slot.det _, Slot.det (.int .i64 t36), Slot.det _] (by kernel_rfl) (by kernel_rfl) ?main
    case main =>
     simp only [List.take_succ_cons, List.take_zero]
     refine wpK_ops rfl (fun w1 hu => ?_) ?_
     · clear hu
       go_simp
       first | done | rfl
     simp only [Act.put, nm1, nm2, nm3, i64_w]
     refine wpK_ops rfl (fun w1 hu => ?_) ?_
     · clear hu
       go_simp
       first | done | rfl
     simp only [Act.put, nm1, nm2, nm3, i64_w]
     refine wpK_ops rfl (fun w1 hu => ?_) ?_
     · have cl0 := ((hb20.up ((hu26.out.trans hu29.out).sto (Nat.le_trans (hu26.out.size) lbb27.out) hs31.out)).up ((Up.refl _).drew.trans hu)).cell (o := 0) rfl
       have cl1 := ((hb20.up ((hu26.out.trans hu29.out).sto (Nat.le_trans (hu26.out.size) lbb27.out) hs31.out)).up ((Up.refl _).drew.trans hu)).cell (o := 1) rfl
       go_simp
       first | done | rfl
     simp only [Act.put, nm1, nm2, nm3, i64_w]
     refine wpK_ops rfl (fun w1 hu => ?_) ?_
     · have cl0 := ((hb20.up ((hu26.out.trans hu29.out).sto (Nat.le_trans (hu26.out.size) lbb27.out) hs31.out)).up ((Up.refl _).drew.trans hu)).cell (o := 0) rfl
       have cl1 := ((hb20.up ((hu26.out.trans hu29.out).sto (Nat.le_trans (hu26.out.size) lbb27.out) hs31.out)).up ((Up.refl _).drew.trans hu)).cell (o := 1) rfl
       go_simp
       first | done | rfl
     simp only [Act.put, nm1, nm2, nm3, i64_w]
     refine wpK_ops rfl (fun w1 hu => ?_) ?_
     · have hcl := (impl_product.calls K a0 a1 1 0 1 0 t34 w1  A35.out)
       clear hu
       replace hcl := Aside0.mk hcl
       go_simp
       exact hcl.out
     simp only [Act.put, nm1, nm2, nm3, i64_w]
     refine wpK_ops rfl (fun w1 hu => ?_) ?_
     · clear hu
       go_simp
       first | done | rfl
     simp only [Act.put, nm1, nm2, nm3, i64_w]
     refine wpK_ops rfl (fun w1 hu => ?_) ?_
     · clear hu
       go_simp
       first | done | rfl
     simp only [Act.put, nm1, nm2, nm3, i64_w]
     refine wpK_ops rfl (fun w1 hu => ?_) ?_
     · have cl0 := (hb32.up ((Up.refl _).drew.trans hu)).cell (o := 0) rfl
       have cl1 := (hb32.up ((Up.refl _).drew.trans hu)).cell (o := 1) rfl
       go_simp
       first | done | rfl
     simp only [Act.put, nm1, nm2, nm3, i64_w]
     refine wpK_ops rfl (fun w1 hu => ?_) ?_
     · have cl0 := (hb32.up ((Up.refl _).drew.trans hu)).cell (o := 0) rfl
       have cl1 := (hb32.up ((Up.refl _).drew.trans hu)).cell (o := 1) rfl
       go_simp
       first | done | rfl
     simp only [Act.put, nm1, nm2, nm3, i64_w]
     refine wpK_ops rfl (fun w1 hu => ?_) ?_
     · have hcl := (impl_product.calls K a0 a1 t22 t23 t22 t23 t36 w1  A37.out)
       clear hu
       replace hcl := Aside0.mk hcl
       go_simp
       exact hcl.out
     simp only [Act.put, nm1, nm2, nm3, i64_w]
     refine wpK_ops rfl (fun w1 hu => ?_) ?_
     · clear hu
       go_simp
       first | done | rfl
     simp only [Act.put, nm1, nm2, nm3, i64_w]
     refine wpK_nil ?_
     intro w38 hu hap
     simp only [List.drop_succ_cons, List.drop_zero]
     replace hu := (Up.refl _).drew.trans hu
     clear hap
     have hu39 := Aside0.mk hu
     clear hu
     refine wpList_nil ?_
     (try simp only [Exit.then, Exit.inBlock, ↓reduceIte, Nat.reduceEqDiff])
     refine hK33 _ _ ?_
     refine wp_cond_false rfl ?_
     refine wp_skip ?_
     (try simp only [Exit.then, Exit.inBlock, ↓reduceIte, Nat.reduceEqDiff])
     refine hK13 _ _ ?_
     refine wp_region_lit ?_
     refine wpList_plain rfl (fun Ko hKo => ?_)
     go_simp
     refine hKo _ _ ?_
     clear hKo Ko
     try simp only [Act.put, nm1, nm2, nm3, i64_w]
     try simp only [show wrap64 1 = 1 from wlit rfl]
     refine wpList_plain rfl (fun Ko hKo => ?_)
     go_simp
     refine hKo _ _ ?_
     clear hKo Ko
     try simp only [Act.put, nm1, nm2, nm3, i64_w]
     refine wpList_nil ?_
     (try simp only [Exit.then, Exit.inBlock, ↓reduceIte, Nat.reduceEqDiff])
     refine hK10 _ _ ?_
     refine rounds_k (fun K41 hK41 => ?_)
     refine wp_seq_k (fun K42 hK42 => ?_)
     refine wp_region_lit ?_
     refine wpList_plain rfl (fun Ko hKo => ?_)
     go_simp
     refine hKo _ _ ?_
     clear hKo Ko
     try simp only [Act.put, nm1, nm2, nm3, i64_w]
     refine wpList_nil ?_
     (try simp only [Exit.then, Exit.inBlock, ↓reduceIte, Nat.reduceEqDiff])
     refine hK42 _ _ ?_
     refine wp_seq_k (fun K43 hK43 => ?_)
     refine wp_cond_true rfl ?_
     refine wp_skip ?_
     (try simp only [Exit.then, Exit.inBlock, ↓reduceIte, Nat.reduceEqDiff])
     refine hK43 _ _ ?_
     refine wp_seq_k (fun K44 hK44 => ?_)
     refine wp_block ?_
     refine wp_seq_k (fun K45 hK45 => ?_)
     refine wp_region_lit ?_
     refine wpList_plain rfl (fun Ko hKo => ?_)
     go_simp
     refine hKo _ _ ?_
     clear hKo Ko
     try simp only [Act.put, nm1, nm2, nm3, i64_w]
     have cl0 := (hb7.up (((((hu17.out.sto (Nat.le_trans (Nat.le_refl _) lbb15.out) hs19.out).trans hu26.out).trans hu29.out).sto (Nat.le_trans ((Nat.le_trans ((Nat.le_trans (hu17.out.size) (Nat.le_of_eq hs19.out.size.symm))) hu26.out.size)) lbb27.out) hs31.out).trans hu39.out)).cell (o := 2) rfl
     have cl1 := (hb7.up (((((hu17.out.sto (Nat.le_trans (Nat.le_refl _) lbb15.out) hs19.out).trans hu26.out).trans hu29.out).sto (Nat.le_trans ((Nat.le_trans ((Nat.le_trans (hu17.out.size) (Nat.le_of_eq hs19.out.size.symm))) hu26.out.size)) lbb27.out) hs31.out).trans hu39.out)).cell (o := 3) rfl
     refine wpList_plain rfl (fun Ko hKo => ?_)
     go_simp
     refine hKo _ _ ?_
     clear hKo Ko
     clear cl0 cl1
     try simp only [Act.put, nm1, nm2, nm3, i64_w]
     refine step_new (cs := [.int .i64 0, .int .i64 0]) (T := 26) (f := fun b => .pointer (some ⟨b, 0, none⟩)) rfl (by first | (go_simp; done) | (go_simp; rfl)) ?_
     intro b46 w47 hu lb hb46
     simp only [Act.put, nm1, nm2, nm3, i64_w]
     have lbb46 := Aside0.mk lb
     have ltb46 := Aside0.mk hb46.lt
     clear lb
     have hu48 := Aside0.mk hu
     clear hu
     have hB0 := hb46
     have cl0 := hB0.cell (o := 0) rfl
     have fr0 := hB0.free 0
     have cl1 := hB0.cell (o := 1) rfl
     have fr1 := hB0.free 1
     refine step_store (b := b46) (cs' := [.int .i64 0, .int .i64 1]) (T := 26) (W' := ((w47.setCell ⟨b46, 0, none⟩ (.int .i64 0)).setCell ⟨b46, 1, none⟩ (.int .i64 1))) rfl rfl (by first | (go_simp; done) | (go_simp; rfl)) (((Sto.refl _ _).setCell 0 _).setCell 1 _) (((hB0).setCell 0 _).setCell 1 _) ?_
     clear hB0 cl0 fr0 cl1 fr1
     intro w49 hs hb51
     have hs50 := Aside0.mk hs
     clear hs
     refine wpList_nil ?_
     (try simp only [Exit.then, Exit.inBlock, ↓reduceIte, Nat.reduceEqDiff])
     refine hK45 _ _ ?_
     refine wp_seq_k (fun K52 hK52 => ?_)
     refine wp_region_lit ?_
     refine wpList_plain rfl (fun Ko hKo => ?_)
     go_simp
     refine hKo _ _ ?_
     clear hKo Ko
     try simp only [Act.put, nm1, nm2, nm3, i64_w]
     have cl0 := (hb2.up ((((((((hu9.out.trans hu17.out).sto (Nat.le_trans (hu9.out.size) lbb15.out) hs19.out).trans hu26.out).trans hu29.out).sto (Nat.le_trans ((Nat.le_trans ((Nat.le_trans ((Nat.le_trans (hu9.out.size) hu17.out.size)) (Nat.le_of_eq hs19.out.size.symm))) hu26.out.size)) lbb27.out) hs31.out).trans hu39.out).trans hu48.out).sto (Nat.le_trans ((Nat.le_trans ((Nat.le_trans ((Nat.le_trans ((Nat.le_trans ((Nat.le_trans ((Nat.le_trans (hu9.out.size) hu17.out.size)) (Nat.le_of_eq hs19.out.size.symm))) hu26.out.size)) hu29.out.size)) (Nat.le_of_eq hs31.out.size.symm))) hu39.out.size)) lbb46.out) hs50.out)).cell (o := 0) rfl
     have cl1 := (hb2.up ((((((((hu9.out.trans hu17.out).sto (Nat.le_trans (hu9.out.size) lbb15.out) hs19.out).trans hu26.out).trans hu29.out).sto (Nat.le_trans ((Nat.le_trans ((Nat.le_trans ((Nat.le_trans (hu9.out.size) hu17.out.size)) (Nat.le_of_eq hs19.out.size.symm))) hu26.out.size)) lbb27.out) hs31.out).trans hu39.out).trans hu48.out).sto (Nat.le_trans ((Nat.le_trans ((Nat.le_trans ((Nat.le_trans ((Nat.le_trans ((Nat.le_trans ((Nat.le_trans (hu9.out.size) hu17.out.size)) (Nat.le_of_eq hs19.out.size.symm))) hu26.out.size)) hu29.out.size)) (Nat.le_of_eq hs31.out.size.symm))) hu39.out.size)) lbb46.out) hs50.out)).cell (o := 1) rfl
     have cl2 := (hb2.up ((((((((hu9.out.trans hu17.out).sto (Nat.le_trans (hu9.out.size) lbb15.out) hs19.out).trans hu26.out).trans hu29.out).sto (Nat.le_trans ((Nat.le_trans ((Nat.le_trans ((Nat.le_trans (hu9.out.size) hu17.out.size)) (Nat.le_of_eq hs19.out.size.symm))) hu26.out.size)) lbb27.out) hs31.out).trans hu39.out).trans hu48.out).sto (Nat.le_trans ((Nat.le_trans ((Nat.le_trans ((Nat.le_trans ((Nat.le_trans ((Nat.le_trans ((Nat.le_trans (hu9.out.size) hu17.out.size)) (Nat.le_of_eq hs19.out.size.symm))) hu26.out.size)) hu29.out.size)) (Nat.le_of_eq hs31.out.size.symm))) hu39.out.size)) lbb46.out) hs50.out)).cell (o := 2) rfl
     have cl3 := (hb2.up ((((((((hu9.out.trans hu17.out).sto (Nat.le_trans (hu9.out.size) lbb15.out) hs19.out).trans hu26.out).trans hu29.out).sto (Nat.le_trans ((Nat.le_trans ((Nat.le_trans ((Nat.le_trans (hu9.out.size) hu17.out.size)) (Nat.le_of_eq hs19.out.size.symm))) hu26.out.size)) lbb27.out) hs31.out).trans hu39.out).trans hu48.out).sto (Nat.le_trans ((Nat.le_trans ((Nat.le_trans ((Nat.le_trans ((Nat.le_trans ((Nat.le_trans ((Nat.le_trans (hu9.out.size) hu17.out.size)) (Nat.le_of_eq hs19.out.size.symm))) hu26.out.size)) hu29.out.size)) (Nat.le_of_eq hs31.out.size.symm))) hu39.out.size)) lbb46.out) hs50.out)).cell (o := 3) rfl
     refine wpList_plain rfl (fun Ko hKo => ?_)
     go_simp
     refine hKo _ _ ?_
     clear hKo Ko
     clear cl0 cl1 cl2 cl3
     try simp only [Act.put, nm1, nm2, nm3, i64_w]
     have cl0 := hb51.cell (o := 0) rfl
     have cl1 := hb51.cell (o := 1) rfl
     refine wpList_plain rfl (fun Ko hKo => ?_)
     go_simp
     refine hKo _ _ ?_
     clear hKo Ko
     clear cl0 cl1
     try simp only [Act.put, nm1, nm2, nm3, i64_w]
     refine step_call (wanted_none rfl) (by first | (go_simp; done) | (go_simp; rfl)) (impl_turned.calls K a0 a2_0 a2_1 a2_2 a2_3 0 1 t53 t54 w49  A55.out) ?_
     rintro e w56 ⟨rfl, hu⟩
     have hu57 := Aside0.mk hu
     clear hu
     refine ⟨_, rfl, ?_⟩
     simp only [Act.put, nm1, nm2, nm3, i64_w]
     refine step_new (cs := [.int .i64 0, .int .i64 0]) (T := 26) (f := fun b => .pointer (some ⟨b, 0, none⟩)) rfl (by first | (go_simp; done) | (go_simp; rfl)) ?_
     intro b58 w59 hu lb hb58
     simp only [Act.put, nm1, nm2, nm3, i64_w]
     have lbb58 := Aside0.mk lb
     have ltb58 := Aside0.mk hb58.lt
     clear lb
     have hu60 := Aside0.mk hu
     clear hu
     have hB0 := hb58
     have cl0 := hB0.cell (o := 0) rfl
     have fr0 := hB0.free 0
     have cl1 := hB0.cell (o := 1) rfl
     have fr1 := hB0.free 1
     refine step_store (b := b58) (cs' := [.int .i64 t53, .int .i64 t54]) (T := 26) (W' := ((w59.setCell ⟨b58, 0, none⟩ (.int .i64 t53)).setCell ⟨b58, 1, none⟩ (.int .i64 t54))) rfl rfl (by first | (go_simp; done) | (go_simp; rfl)) (((Sto.refl _ _).setCell 0 _).setCell 1 _) (((hB0).setCell 0 _).setCell 1 _) ?_
     clear hB0 cl0 fr0 cl1 fr1
     intro w61 hs hb63
     have hs62 := Aside0.mk hs
     clear hs
     refine wpList_nil ?_
     (try simp only [Exit.then, Exit.inBlock, ↓reduceIte, Nat.reduceEqDiff])
     refine hK52 _ _ ?_
     refine wp_seq_k (fun K64 hK64 => ?_)
     refine' wp_region_up 11 [Slot.det _, Slot.det _, Slot.det _, Slot.det _, Slot.det (.int .i64 t65), Slot.det _, Slot.det _, Slot.det _, Slot.det _, Slot.det (.int .i64 t67), Slot.det _] (by kernel_rfl) (by kernel_rfl) ?main
     case main =>
      simp only [List.take_succ_cons, List.take_zero]
      refine wpK_ops rfl (fun w1 hu => ?_) ?_
      · clear hu
        go_simp
        first | done | rfl
      simp only [Act.put, nm1, nm2, nm3, i64_w]
      refine wpK_ops rfl (fun w1 hu => ?_) ?_
      · clear hu
        go_simp
        first | done | rfl
      simp only [Act.put, nm1, nm2, nm3, i64_w]
      refine wpK_ops rfl (fun w1 hu => ?_) ?_
      · have cl0 := ((hb51.up ((hu57.out.trans hu60.out).sto (Nat.le_trans (hu57.out.size) lbb58.out) hs62.out)).up ((Up.refl _).drew.trans hu)).cell (o := 0) rfl
        have cl1 := ((hb51.up ((hu57.out.trans hu60.out).sto (Nat.le_trans (hu57.out.size) lbb58.out) hs62.out)).up ((Up.refl _).drew.trans hu)).cell (o := 1) rfl
        go_simp
        first | done | rfl
      simp only [Act.put, nm1, nm2, nm3, i64_w]
      refine wpK_ops rfl (fun w1 hu => ?_) ?_
      · have cl0 := ((hb51.up ((hu57.out.trans hu60.out).sto (Nat.le_trans (hu57.out.size) lbb58.out) hs62.out)).up ((Up.refl _).drew.trans hu)).cell (o := 0) rfl
        have cl1 := ((hb51.up ((hu57.out.trans hu60.out).sto (Nat.le_trans (hu57.out.size) lbb58.out) hs62.out)).up ((Up.refl _).drew.trans hu)).cell (o := 1) rfl
        go_simp
        first | done | rfl
      simp only [Act.put, nm1, nm2, nm3, i64_w]
      refine wpK_ops rfl (fun w1 hu => ?_) ?_
      · have hcl := (impl_product.calls K a0 a1 0 1 0 1 t65 w1  A66.out)
        clear hu
        replace hcl := Aside0.mk hcl
        go_simp
        exact hcl.out
      simp only [Act.put, nm1, nm2, nm3, i64_w]
      refine wpK_ops rfl (fun w1 hu => ?_) ?_
      · clear hu
        go_simp
        first | done | rfl
      simp only [Act.put, nm1, nm2, nm3, i64_w]
      refine wpK_ops rfl (fun w1 hu => ?_) ?_
      · clear hu
        go_simp
        first | done | rfl
      simp only [Act.put, nm1, nm2, nm3, i64_w]
      refine wpK_ops rfl (fun w1 hu => ?_) ?_
      · have cl0 := (hb63.up ((Up.refl _).drew.trans hu)).cell (o := 0) rfl
        have cl1 := (hb63.up ((Up.refl _).drew.trans hu)).cell (o := 1) rfl
        go_simp
        first | done | rfl
      simp only [Act.put, nm1, nm2, nm3, i64_w]
      refine wpK_ops rfl (fun w1 hu => ?_) ?_
      · have cl0 := (hb63.up ((Up.refl _).drew.trans hu)).cell (o := 0) rfl
        have cl1 := (hb63.up ((Up.refl _).drew.trans hu)).cell (o := 1) rfl
        go_simp
        first | done | rfl
      simp only [Act.put, nm1, nm2, nm3, i64_w]
      refine wpK_ops rfl (fun w1 hu => ?_) ?_
      · have hcl := (impl_product.calls K a0 a1 t53 t54 t53 t54 t67 w1  A68.out)
        clear hu
        replace hcl := Aside0.mk hcl
        go_simp
        exact hcl.out
      simp only [Act.put, nm1, nm2, nm3, i64_w]
      refine wpK_ops rfl (fun w1 hu => ?_) ?_
      · clear hu
        go_simp
        first | done | rfl
      simp only [Act.put, nm1, nm2, nm3, i64_w]
      refine wpK_nil ?_
      intro w69 hu hap
      simp only [List.drop_succ_cons, List.drop_zero]
      replace hu := (Up.refl _).drew.trans hu
      clear hap
      have hu70 := Aside0.mk hu
      clear hu
      refine wpList_nil ?_
      (try simp only [Exit.then, Exit.inBlock, ↓reduceIte, Nat.reduceEqDiff])
      refine hK64 _ _ ?_
      refine wp_cond_false rfl ?_
      refine wp_skip ?_
      (try simp only [Exit.then, Exit.inBlock, ↓reduceIte, Nat.reduceEqDiff])
      refine hK44 _ _ ?_
      refine wp_region_lit ?_
      refine wpList_plain rfl (fun Ko hKo => ?_)
      go_simp
      refine hKo _ _ ?_
      clear hKo Ko
      try simp only [Act.put, nm1, nm2, nm3, i64_w]
      try simp only [show wrap64 2 = 2 from wlit rfl]
      refine wpList_plain rfl (fun Ko hKo => ?_)
      go_simp
      refine hKo _ _ ?_
      clear hKo Ko
      try simp only [Act.put, nm1, nm2, nm3, i64_w]
      refine wpList_nil ?_
      (try simp only [Exit.then, Exit.inBlock, ↓reduceIte, Nat.reduceEqDiff])
      refine hK41 _ _ ?_
      refine rounds_k (fun K72 hK72 => ?_)
      refine wp_seq_k (fun K73 hK73 => ?_)
      refine wp_region_lit ?_
      refine wpList_plain rfl (fun Ko hKo => ?_)
      go_simp
      refine hKo _ _ ?_
      clear hKo Ko
      try simp only [Act.put, nm1, nm2, nm3, i64_w]
      refine wpList_nil ?_
      (try simp only [Exit.then, Exit.inBlock, ↓reduceIte, Nat.reduceEqDiff])
      refine hK73 _ _ ?_
      refine wp_seq_k (fun K74 hK74 => ?_)
      refine wp_cond_true rfl ?_
      refine wp_skip ?_
      (try simp only [Exit.then, Exit.inBlock, ↓reduceIte, Nat.reduceEqDiff])
      refine hK74 _ _ ?_
      refine wp_seq_k (fun K75 hK75 => ?_)
      refine wp_block ?_
      refine wp_seq_k (fun K76 hK76 => ?_)
      refine wp_region_lit ?_
      refine wpList_plain rfl (fun Ko hKo => ?_)
      go_simp
      refine hKo _ _ ?_
      clear hKo Ko
      try simp only [Act.put, nm1, nm2, nm3, i64_w]
      have cl0 := (hb7.up (((((((((((hu17.out.sto (Nat.le_trans (Nat.le_refl _) lbb15.out) hs19.out).trans hu26.out).trans hu29.out).sto (Nat.le_trans ((Nat.le_trans ((Nat.le_trans (hu17.out.size) (Nat.le_of_eq hs19.out.size.symm))) hu26.out.size)) lbb27.out) hs31.out).trans hu39.out).trans hu48.out).sto (Nat.le_trans ((Nat.le_trans ((Nat.le_trans ((Nat.le_trans ((Nat.le_trans ((Nat.le_trans (hu17.out.size) (Nat.le_of_eq hs19.out.size.symm))) hu26.out.size)) hu29.out.size)) (Nat.le_of_eq hs31.out.size.symm))) hu39.out.size)) lbb46.out) hs50.out).trans hu57.out).trans hu60.out).sto (Nat.le_trans ((Nat.le_trans ((Nat.le_trans ((Nat.le_trans ((Nat.le_trans ((Nat.le_trans ((Nat.le_trans ((Nat.le_trans ((Nat.le_trans (hu17.out.size) (Nat.le_of_eq hs19.out.size.symm))) hu26.out.size)) hu29.out.size)) (Nat.le_of_eq hs31.out.size.symm))) hu39.out.size)) hu48.out.size)) (Nat.le_of_eq hs50.out.size.symm))) hu57.out.size)) lbb58.out) hs62.out).trans hu70.out)).cell (o := 4) rfl
      have cl1 := (hb7.up (((((((((((hu17.out.sto (Nat.le_trans (Nat.le_refl _) lbb15.out) hs19.out).trans hu26.out).trans hu29.out).sto (Nat.le_trans ((Nat.le_trans ((Nat.le_trans (hu17.out.size) (Nat.le_of_eq hs19.out.size.symm))) hu26.out.size)) lbb27.out) hs31.out).trans hu39.out).trans hu48.out).sto (Nat.le_trans ((Nat.le_trans ((Nat.le_trans ((Nat.le_trans ((Nat.le_trans ((Nat.le_trans (hu17.out.size) (Nat.le_of_eq hs19.out.size.symm))) hu26.out.size)) hu29.out.size)) (Nat.le_of_eq hs31.out.size.symm))) hu39.out.size)) lbb46.out) hs50.out).trans hu57.out).trans hu60.out).sto (Nat.le_trans ((Nat.le_trans ((Nat.le_trans ((Nat.le_trans ((Nat.le_trans ((Nat.le_trans ((Nat.le_trans ((Nat.le_trans ((Nat.le_trans (hu17.out.size) (Nat.le_of_eq hs19.out.size.symm))) hu26.out.size)) hu29.out.size)) (Nat.le_of_eq hs31.out.size.symm))) hu39.out.size)) hu48.out.size)) (Nat.le_of_eq hs50.out.size.symm))) hu57.out.size)) lbb58.out) hs62.out).trans hu70.out)).cell (o := 5) rfl
      refine wpList_plain rfl (fun Ko hKo => ?_)
      go_simp
      refine hKo _ _ ?_
      clear hKo Ko
      clear cl0 cl1
      try simp only [Act.put, nm1, nm2, nm3, i64_w]
      refine step_new (cs := [.int .i64 0, .int .i64 0]) (T := 26) (f := fun b => .pointer (some ⟨b, 0, none⟩)) rfl (by first | (go_simp; done) | (go_simp; rfl)) ?_
      intro b77 w78 hu lb hb77
      simp only [Act.put, nm1, nm2, nm3, i64_w]
      have lbb77 := Aside0.mk lb
      have ltb77 := Aside0.mk hb77.lt
      clear lb
      have hu79 := Aside0.mk hu
      clear hu
      have hB0 := hb77
      have cl0 := hB0.cell (o := 0) rfl
      have fr0 := hB0.free 0
      have cl1 := hB0.cell (o := 1) rfl
      have fr1 := hB0.free 1
      refine step_store (b := b77) (cs' := [.int .i64 1, .int .i64 1]) (T := 26) (W' := ((w78.setCell ⟨b77, 0, none⟩ (.int .i64 1)).setCell ⟨b77, 1, none⟩ (.int .i64 1))) rfl rfl (by first | (go_simp; done) | (go_simp; rfl)) (((Sto.refl _ _).setCell 0 _).setCell 1 _) (((hB0).setCell 0 _).setCell 1 _) ?_
      clear hB0 cl0 fr0 cl1 fr1
      intro w80 hs hb82
      have hs81 := Aside0.mk hs
      clear hs
      refine wpList_nil ?_
      (try simp only [Exit.then, Exit.inBlock, ↓reduceIte, Nat.reduceEqDiff])
      refine hK76 _ _ ?_
      refine wp_seq_k (fun K83 hK83 => ?_)
      refine wp_region_lit ?_
      refine wpList_plain rfl (fun Ko hKo => ?_)
      go_simp
      refine hKo _ _ ?_
      clear hKo Ko
      try simp only [Act.put, nm1, nm2, nm3, i64_w]
      have cl0 := (hb2.up ((((((((((((((hu9.out.trans hu17.out).sto (Nat.le_trans (hu9.out.size) lbb15.out) hs19.out).trans hu26.out).trans hu29.out).sto (Nat.le_trans ((Nat.le_trans ((Nat.le_trans ((Nat.le_trans (hu9.out.size) hu17.out.size)) (Nat.le_of_eq hs19.out.size.symm))) hu26.out.size)) lbb27.out) hs31.out).trans hu39.out).trans hu48.out).sto (Nat.le_trans ((Nat.le_trans ((Nat.le_trans ((Nat.le_trans ((Nat.le_trans ((Nat.le_trans ((Nat.le_trans (hu9.out.size) hu17.out.size)) (Nat.le_of_eq hs19.out.size.symm))) hu26.out.size)) hu29.out.size)) (Nat.le_of_eq hs31.out.size.symm))) hu39.out.size)) lbb46.out) hs50.out).trans hu57.out).trans hu60.out).sto (Nat.le_trans ((Nat.le_trans ((Nat.le_trans ((Nat.le_trans ((Nat.le_trans ((Nat.le_trans ((Nat.le_trans ((Nat.le_trans ((Nat.le_trans ((Nat.le_trans (hu9.out.size) hu17.out.size)) (Nat.le_of_eq hs19.out.size.symm))) hu26.out.size)) hu29.out.size)) (Nat.le_of_eq hs31.out.size.symm))) hu39.out.size)) hu48.out.size)) (Nat.le_of_eq hs50.out.size.symm))) hu57.out.size)) lbb58.out) hs62.out).trans hu70.out).trans hu79.out).sto (Nat.le_trans ((Nat.le_trans ((Nat.le_trans ((Nat.le_trans ((Nat.le_trans ((Nat.le_trans ((Nat.le_trans ((Nat.le_trans ((Nat.le_trans ((Nat.le_trans ((Nat.le_trans ((Nat.le_trans ((Nat.le_trans (hu9.out.size) hu17.out.size)) (Nat.le_of_eq hs19.out.size.symm))) hu26.out.size)) hu29.out.size)) (Nat.le_of_eq hs31.out.size.symm))) hu39.out.size)) hu48.out.size)) (Nat.le_of_eq hs50.out.size.symm))) hu57.out.size)) hu60.out.size)) (Nat.le_of_eq hs62.out.size.symm))) hu70.out.size)) lbb77.out) hs81.out)).cell (o := 0) rfl
      have cl1 := (hb2.up ((((((((((((((hu9.out.trans hu17.out).sto (Nat.le_trans (hu9.out.size) lbb15.out) hs19.out).trans hu26.out).trans hu29.out).sto (Nat.le_trans ((Nat.le_trans ((Nat.le_trans ((Nat.le_trans (hu9.out.size) hu17.out.size)) (Nat.le_of_eq hs19.out.size.symm))) hu26.out.size)) lbb27.out) hs31.out).trans hu39.out).trans hu48.out).sto (Nat.le_trans ((Nat.le_trans ((Nat.le_trans ((Nat.le_trans ((Nat.le_trans ((Nat.le_trans ((Nat.le_trans (hu9.out.size) hu17.out.size)) (Nat.le_of_eq hs19.out.size.symm))) hu26.out.size)) hu29.out.size)) (Nat.le_of_eq hs31.out.size.symm))) hu39.out.size)) lbb46.out) hs50.out).trans hu57.out).trans hu60.out).sto (Nat.le_trans ((Nat.le_trans ((Nat.le_trans ((Nat.le_trans ((Nat.le_trans ((Nat.le_trans ((Nat.le_trans ((Nat.le_trans ((Nat.le_trans ((Nat.le_trans (hu9.out.size) hu17.out.size)) (Nat.le_of_eq hs19.out.size.symm))) hu26.out.size)) hu29.out.size)) (Nat.le_of_eq hs31.out.size.symm))) hu39.out.size)) hu48.out.size)) (Nat.le_of_eq hs50.out.size.symm))) hu57.out.size)) lbb58.out) hs62.out).trans hu70.out).trans hu79.out).sto (Nat.le_trans ((Nat.le_trans ((Nat.le_trans ((Nat.le_trans ((Nat.le_trans ((Nat.le_trans ((Nat.le_trans ((Nat.le_trans ((Nat.le_trans ((Nat.le_trans ((Nat.le_trans ((Nat.le_trans ((Nat.le_trans (hu9.out.size) hu17.out.size)) (Nat.le_of_eq hs19.out.size.symm))) hu26.out.size)) hu29.out.size)) (Nat.le_of_eq hs31.out.size.symm))) hu39.out.size)) hu48.out.size)) (Nat.le_of_eq hs50.out.size.symm))) hu57.out.size)) hu60.out.size)) (Nat.le_of_eq hs62.out.size.symm))) hu70.out.size)) lbb77.out) hs81.out)).cell (o := 1) rfl
      have cl2 := (hb2.up ((((((((((((((hu9.out.trans hu17.out).sto (Nat.le_trans (hu9.out.size) lbb15.out) hs19.out).trans hu26.out).trans hu29.out).sto (Nat.le_trans ((Nat.le_trans ((Nat.le_trans ((Nat.le_trans (hu9.out.size) hu17.out.size)) (Nat.le_of_eq hs19.out.size.symm))) hu26.out.size)) lbb27.out) hs31.out).trans hu39.out).trans hu48.out).sto (Nat.le_trans ((Nat.le_trans ((Nat.le_trans ((Nat.le_trans ((Nat.le_trans ((Nat.le_trans ((Nat.le_trans (hu9.out.size) hu17.out.size)) (Nat.le_of_eq hs19.out.size.symm))) hu26.out.size)) hu29.out.size)) (Nat.le_of_eq hs31.out.size.symm))) hu39.out.size)) lbb46.out) hs50.out).trans hu57.out).trans hu60.out).sto (Nat.le_trans ((Nat.le_trans ((Nat.le_trans ((Nat.le_trans ((Nat.le_trans ((Nat.le_trans ((Nat.le_trans ((Nat.le_trans ((Nat.le_trans ((Nat.le_trans (hu9.out.size) hu17.out.size)) (Nat.le_of_eq hs19.out.size.symm))) hu26.out.size)) hu29.out.size)) (Nat.le_of_eq hs31.out.size.symm))) hu39.out.size)) hu48.out.size)) (Nat.le_of_eq hs50.out.size.symm))) hu57.out.size)) lbb58.out) hs62.out).trans hu70.out).trans hu79.out).sto (Nat.le_trans ((Nat.le_trans ((Nat.le_trans ((Nat.le_trans ((Nat.le_trans ((Nat.le_trans ((Nat.le_trans ((Nat.le_trans ((Nat.le_trans ((Nat.le_trans ((Nat.le_trans ((Nat.le_trans ((Nat.le_trans (hu9.out.size) hu17.out.size)) (Nat.le_of_eq hs19.out.size.symm))) hu26.out.size)) hu29.out.size)) (Nat.le_of_eq hs31.out.size.symm))) hu39.out.size)) hu48.out.size)) (Nat.le_of_eq hs50.out.size.symm))) hu57.out.size)) hu60.out.size)) (Nat.le_of_eq hs62.out.size.symm))) hu70.out.size)) lbb77.out) hs81.out)).cell (o := 2) rfl
      have cl3 := (hb2.up ((((((((((((((hu9.out.trans hu17.out).sto (Nat.le_trans (hu9.out.size) lbb15.out) hs19.out).trans hu26.out).trans hu29.out).sto (Nat.le_trans ((Nat.le_trans ((Nat.le_trans ((Nat.le_trans (hu9.out.size) hu17.out.size)) (Nat.le_of_eq hs19.out.size.symm))) hu26.out.size)) lbb27.out) hs31.out).trans hu39.out).trans hu48.out).sto (Nat.le_trans ((Nat.le_trans ((Nat.le_trans ((Nat.le_trans ((Nat.le_trans ((Nat.le_trans ((Nat.le_trans (hu9.out.size) hu17.out.size)) (Nat.le_of_eq hs19.out.size.symm))) hu26.out.size)) hu29.out.size)) (Nat.le_of_eq hs31.out.size.symm))) hu39.out.size)) lbb46.out) hs50.out).trans hu57.out).trans hu60.out).sto (Nat.le_trans ((Nat.le_trans ((Nat.le_trans ((Nat.le_trans ((Nat.le_trans ((Nat.le_trans ((Nat.le_trans ((Nat.le_trans ((Nat.le_trans ((Nat.le_trans (hu9.out.size) hu17.out.size)) (Nat.le_of_eq hs19.out.size.symm))) hu26.out.size)) hu29.out.size)) (Nat.le_of_eq hs31.out.size.symm))) hu39.out.size)) hu48.out.size)) (Nat.le_of_eq hs50.out.size.symm))) hu57.out.size)) lbb58.out) hs62.out).trans hu70.out).trans hu79.out).sto (Nat.le_trans ((Nat.le_trans ((Nat.le_trans ((Nat.le_trans ((Nat.le_trans ((Nat.le_trans ((Nat.le_trans ((Nat.le_trans ((Nat.le_trans ((Nat.le_trans ((Nat.le_trans ((Nat.le_trans ((Nat.le_trans (hu9.out.size) hu17.out.size)) (Nat.le_of_eq hs19.out.size.symm))) hu26.out.size)) hu29.out.size)) (Nat.le_of_eq hs31.out.size.symm))) hu39.out.size)) hu48.out.size)) (Nat.le_of_eq hs50.out.size.symm))) hu57.out.size)) hu60.out.size)) (Nat.le_of_eq hs62.out.size.symm))) hu70.out.size)) lbb77.out) hs81.out)).cell (o := 3) rfl
      refine wpList_plain rfl (fun Ko hKo => ?_)
      go_simp
      refine hKo _ _ ?_
      clear hKo Ko
      clear cl0 cl1 cl2 cl3
      try simp only [Act.put, nm1, nm2, nm3, i64_w]
      have cl0 := hb82.cell (o := 0) rfl
      have cl1 := hb82.cell (o := 1) rfl
      refine wpList_plain rfl (fun Ko hKo => ?_)
      go_simp
      refine hKo _ _ ?_
      clear hKo Ko
      clear cl0 cl1
      try simp only [Act.put, nm1, nm2, nm3, i64_w]
      refine step_call (wanted_none rfl) (by first | (go_simp; done) | (go_simp; rfl)) (impl_turned.calls K a0 a2_0 a2_1 a2_2 a2_3 1 1 t84 t85 w80  A86.out) ?_
      rintro e w87 ⟨rfl, hu⟩
      have hu88 := Aside0.mk hu
      clear hu
      refine ⟨_, rfl, ?_⟩
      simp only [Act.put, nm1, nm2, nm3, i64_w]
      refine step_new (cs := [.int .i64 0, .int .i64 0]) (T := 26) (f := fun b => .pointer (some ⟨b, 0, none⟩)) rfl (by first | (go_simp; done) | (go_simp; rfl)) ?_
      intro b89 w90 hu lb hb89
      simp only [Act.put, nm1, nm2, nm3, i64_w]
      have lbb89 := Aside0.mk lb
      have ltb89 := Aside0.mk hb89.lt
      clear lb
      have hu91 := Aside0.mk hu
      clear hu
      have hB0 := hb89
      have cl0 := hB0.cell (o := 0) rfl
      have fr0 := hB0.free 0
      have cl1 := hB0.cell (o := 1) rfl
      have fr1 := hB0.free 1
      refine step_store (b := b89) (cs' := [.int .i64 t84, .int .i64 t85]) (T := 26) (W' := ((w90.setCell ⟨b89, 0, none⟩ (.int .i64 t84)).setCell ⟨b89, 1, none⟩ (.int .i64 t85))) rfl rfl (by first | (go_simp; done) | (go_simp; rfl)) (((Sto.refl _ _).setCell 0 _).setCell 1 _) (((hB0).setCell 0 _).setCell 1 _) ?_
      clear hB0 cl0 fr0 cl1 fr1
      intro w92 hs hb94
      have hs93 := Aside0.mk hs
      clear hs
      refine wpList_nil ?_
      (try simp only [Exit.then, Exit.inBlock, ↓reduceIte, Nat.reduceEqDiff])
      refine hK83 _ _ ?_
      refine wp_seq_k (fun K95 hK95 => ?_)
      refine' wp_region_up 11 [Slot.det _, Slot.det _, Slot.det _, Slot.det _, Slot.det (.int .i64 t96), Slot.det _, Slot.det _, Slot.det _, Slot.det _, Slot.det (.int .i64 t98), Slot.det _] (by kernel_rfl) (by kernel_rfl) ?main
      case main =>
       simp only [List.take_succ_cons, List.take_zero]
       refine wpK_ops rfl (fun w1 hu => ?_) ?_
       · clear hu
         go_simp
         first | done | rfl
       simp only [Act.put, nm1, nm2, nm3, i64_w]
       refine wpK_ops rfl (fun w1 hu => ?_) ?_
       · clear hu
         go_simp
         first | done | rfl
       simp only [Act.put, nm1, nm2, nm3, i64_w]
       refine wpK_ops rfl (fun w1 hu => ?_) ?_
       · have cl0 := ((hb82.up ((hu88.out.trans hu91.out).sto (Nat.le_trans (hu88.out.size) lbb89.out) hs93.out)).up ((Up.refl _).drew.trans hu)).cell (o := 0) rfl
         have cl1 := ((hb82.up ((hu88.out.trans hu91.out).sto (Nat.le_trans (hu88.out.size) lbb89.out) hs93.out)).up ((Up.refl _).drew.trans hu)).cell (o := 1) rfl
         go_simp
         first | done | rfl
       simp only [Act.put, nm1, nm2, nm3, i64_w]
       refine wpK_ops rfl (fun w1 hu => ?_) ?_
       · have cl0 := ((hb82.up ((hu88.out.trans hu91.out).sto (Nat.le_trans (hu88.out.size) lbb89.out) hs93.out)).up ((Up.refl _).drew.trans hu)).cell (o := 0) rfl
         have cl1 := ((hb82.up ((hu88.out.trans hu91.out).sto (Nat.le_trans (hu88.out.size) lbb89.out) hs93.out)).up ((Up.refl _).drew.trans hu)).cell (o := 1) rfl
         go_simp
         first | done | rfl
       simp only [Act.put, nm1, nm2, nm3, i64_w]
       refine wpK_ops rfl (fun w1 hu => ?_) ?_
       · have hcl := (impl_product.calls K a0 a1 1 1 1 1 t96 w1  A97.out)
         clear hu
         replace hcl := Aside0.mk hcl
         go_simp
         exact hcl.out
       simp only [Act.put, nm1, nm2, nm3, i64_w]
       refine wpK_ops rfl (fun w1 hu => ?_) ?_
       · clear hu
         go_simp
         first | done | rfl
       simp only [Act.put, nm1, nm2, nm3, i64_w]
       refine wpK_ops rfl (fun w1 hu => ?_) ?_
       · clear hu
         go_simp
         first | done | rfl
       simp only [Act.put, nm1, nm2, nm3, i64_w]
       refine wpK_ops rfl (fun w1 hu => ?_) ?_
       · have cl0 := (hb94.up ((Up.refl _).drew.trans hu)).cell (o := 0) rfl
         have cl1 := (hb94.up ((Up.refl _).drew.trans hu)).cell (o := 1) rfl
         go_simp
         first | done | rfl
       simp only [Act.put, nm1, nm2, nm3, i64_w]
       refine wpK_ops rfl (fun w1 hu => ?_) ?_
       · have cl0 := (hb94.up ((Up.refl _).drew.trans hu)).cell (o := 0) rfl
         have cl1 := (hb94.up ((Up.refl _).drew.trans hu)).cell (o := 1) rfl
         go_simp
         first | done | rfl
       simp only [Act.put, nm1, nm2, nm3, i64_w]
       refine wpK_ops rfl (fun w1 hu => ?_) ?_
       · have hcl := (impl_product.calls K a0 a1 t84 t85 t84 t85 t98 w1  A99.out)
         clear hu
         replace hcl := Aside0.mk hcl
         go_simp
         exact hcl.out
       simp only [Act.put, nm1, nm2, nm3, i64_w]
       refine wpK_ops rfl (fun w1 hu => ?_) ?_
       · clear hu
         go_simp
         first | done | rfl
       simp only [Act.put, nm1, nm2, nm3, i64_w]
       refine wpK_nil ?_
       intro w100 hu hap
       simp only [List.drop_succ_cons, List.drop_zero]
       replace hu := (Up.refl _).drew.trans hu
       clear hap
       have hu101 := Aside0.mk hu
       clear hu
       refine wpList_nil ?_
       (try simp only [Exit.then, Exit.inBlock, ↓reduceIte, Nat.reduceEqDiff])
       refine hK95 _ _ ?_
       refine wp_cond_true rfl ?_
       refine wp_seq_k (fun K107 hK107 => ?_)
       refine wp_region_lit ?_
       refine wpList_plain rfl (fun Ko hKo => ?_)
       go_simp
       refine hKo _ _ ?_
       clear hKo Ko
       try simp only [Act.put, nm1, nm2, nm3, i64_w]
       refine wpList_nil ?_
       (try simp only [Exit.then, Exit.inBlock, ↓reduceIte, Nat.reduceEqDiff])
       refine hK107 _ _ ?_
       refine wp_ret ?_
       (try simp only [Exit.then, Exit.inBlock, ↓reduceIte, Nat.reduceEqDiff])
       refine hQf _ _ _ ?_
       exact bodyPost_ret (v := .bool false) (by first | rfl | (simp [results, Try.results57, go_sem]; done) | (simp [results, Try.results57, go_sem]; rfl)) rfl ⟨rfl, (((((((((((((((((((hu4.out.trans hu9.out).trans hu17.out).sto (Nat.le_trans ((Nat.le_trans (hu4.out.size) hu9.out.size)) lbb15.out) hs19.out).trans hu26.out).trans hu29.out).sto (Nat.le_trans ((Nat.le_trans ((Nat.le_trans ((Nat.le_trans ((Nat.le_trans (hu4.out.size) hu9.out.size)) hu17.out.size)) (Nat.le_of_eq hs19.out.size.symm))) hu26.out.size)) lbb27.out) hs31.out).trans hu39.out).trans hu48.out).sto (Nat.le_trans ((Nat.le_trans ((Nat.le_trans ((Nat.le_trans ((Nat.le_trans ((Nat.le_trans ((Nat.le_trans ((Nat.le_trans (hu4.out.size) hu9.out.size)) hu17.out.size)) (Nat.le_of_eq hs19.out.size.symm))) hu26.out.size)) hu29.out.size)) (Nat.le_of_eq hs31.out.size.symm))) hu39.out.size)) lbb46.out) hs50.out).trans hu57.out).trans hu60.out).sto (Nat.le_trans ((Nat.le_trans ((Nat.le_trans ((Nat.le_trans ((Nat.le_trans ((Nat.le_trans ((Nat.le_trans ((Nat.le_trans ((Nat.le_trans ((Nat.le_trans ((Nat.le_trans (hu4.out.size) hu9.out.size)) hu17.out.size)) (Nat.le_of_eq hs19.out.size.symm))) hu26.out.size)) hu29.out.size)) (Nat.le_of_eq hs31.out.size.symm))) hu39.out.size)) hu48.out.size)) (Nat.le_of_eq hs50.out.size.symm))) hu57.out.size)) lbb58.out) hs62.out).trans hu70.out).trans hu79.out).sto (Nat.le_trans ((Nat.le_trans ((Nat.le_trans ((Nat.le_trans ((Nat.le_trans ((Nat.le_trans ((Nat.le_trans ((Nat.le_trans ((Nat.le_trans ((Nat.le_trans ((Nat.le_trans ((Nat.le_trans ((Nat.le_trans ((Nat.le_trans (hu4.out.size) hu9.out.size)) hu17.out.size)) (Nat.le_of_eq hs19.out.size.symm))) hu26.out.size)) hu29.out.size)) (Nat.le_of_eq hs31.out.size.symm))) hu39.out.size)) hu48.out.size)) (Nat.le_of_eq hs50.out.size.symm))) hu57.out.size)) hu60.out.size)) (Nat.le_of_eq hs62.out.size.symm))) hu70.out.size)) lbb77.out) hs81.out).trans hu88.out).trans hu91.out).sto (Nat.le_trans ((Nat.le_trans ((Nat.le_trans ((Nat.le_trans ((Nat.le_trans ((Nat.le_trans ((Nat.le_trans ((Nat.le_trans ((Nat.le_trans ((Nat.le_trans ((Nat.le_trans ((Nat.le_trans ((Nat.le_trans ((Nat.le_trans ((Nat.le_trans ((Nat.le_trans ((Nat.le_trans (hu4.out.size) hu9.out.size)) hu17.out.size)) (Nat.le_of_eq hs19.out.size.symm))) hu26.out.size)) hu29.out.size)) (Nat.le_of_eq hs31.out.size.symm))) hu39.out.size)) hu48.out.size)) (Nat.le_of_eq hs50.out.size.symm))) hu57.out.size)) hu60.out.size)) (Nat.le_of_eq hs62.out.size.symm))) hu70.out.size)) hu79.out.size)) (Nat.le_of_eq hs81.out.size.symm))) hu88.out.size)) lbb89.out) hs93.out).trans hu101.out)⟩
  ·
   rw [if_neg c71] at H
   replace c71 := Bool.eq_false_iff.mpr c71
   have c71n : (t65 != t67) = true := by rw [bne, c71]; rfl
   have c71p : ¬ t65 = t67 := fun e => by simp [e] at c71
   obtain rfl := Option.some.inj H
   go_enter Try.func57, Try.ntmps57
   refine wp_hide (fun Qf hQf => ?_)
   refine wp_seq_k (fun K1 hK1 => ?_)
   refine wp_region_lit ?_
   refine step_new (cs := [.int .i64 a2_0, .int .i64 a2_1, .int .i64 a2_2, .int .i64 a2_3]) (T := 22) (f := fun b => .pointer (some ⟨b, 0, none⟩)) rfl (by first | (go_simp; done) | (go_simp; rfl)) ?_
   intro b2 w3 hu lb hb2
   simp only [Act.put, nm1, nm2, nm3, i64_w]
   have lbb2 := Aside0.mk lb
   have ltb2 := Aside0.mk hb2.lt
   clear lb
   have hu4 := Aside0.mk hu
   clear hu
   refine wpList_plain rfl (fun Ko hKo => ?_)
   go_simp
   refine hKo _ _ ?_
   clear hKo Ko
   try simp only [Act.put, nm1, nm2, nm3, i64_w]
   refine wpList_nil ?_
   (try simp only [Exit.then, Exit.inBlock, ↓reduceIte, Nat.reduceEqDiff])
   refine hK1 _ _ ?_
   refine wp_seq_k (fun K5 hK5 => ?_)
   refine wp_seq_k (fun K6 hK6 => ?_)
   refine wp_region_lit ?_
   refine wpList_plain rfl (fun Ko hKo => ?_)
   go_simp
   refine hKo _ _ ?_
   clear hKo Ko
   try simp only [Act.put, nm1, nm2, nm3, i64_w]
   refine wpList_plain rfl (fun Ko hKo => ?_)
   go_simp
   refine hKo _ _ ?_
   clear hKo Ko
   try simp only [Act.put, nm1, nm2, nm3, i64_w]
   refine wpList_plain rfl (fun Ko hKo => ?_)
   go_simp
   refine hKo _ _ ?_
   clear hKo Ko
   try simp only [Act.put, nm1, nm2, nm3, i64_w]
   refine step_new (cs := [.int .i64 1, .int .i64 0, .int .i64 0, .int .i64 1, .int .i64 1, .int .i64 1]) (T := 26) (f := fun b => .slice (some ⟨b, 0, none⟩) 3 3) rfl (by first | (go_simp; done) | (go_simp; rfl)) ?_
   intro b7 w8 hu lb hb7
   simp only [Act.put, nm1, nm2, nm3, i64_w]
   have lbb7 := Aside0.mk lb
   have ltb7 := Aside0.mk hb7.lt
   clear lb
   have hu9 := Aside0.mk hu
   clear hu
   refine wpList_plain rfl (fun Ko hKo => ?_)
   go_simp
   refine hKo _ _ ?_
   clear hKo Ko
   try simp only [Act.put, nm1, nm2, nm3, i64_w]
   refine wpList_plain rfl (fun Ko hKo => ?_)
   go_simp
   refine hKo _ _ ?_
   clear hKo Ko
   try simp only [Act.put, nm1, nm2, nm3, i64_w]
   refine wpList_nil ?_
   (try simp only [Exit.then, Exit.inBlock, ↓reduceIte, Nat.reduceEqDiff])
   refine hK6 _ _ ?_
   refine wp_block ?_
   refine wp_loop_rounds 40 ?_
   refine rounds_k (fun K10 hK10 => ?_)
   refine wp_seq_k (fun K11 hK11 => ?_)
   refine wp_region_lit ?_
   refine wpList_plain rfl (fun Ko hKo => ?_)
   go_simp
   refine hKo _ _ ?_
   clear hKo Ko
   try simp only [Act.put, nm1, nm2, nm3, i64_w]
   refine wpList_nil ?_
   (try simp only [Exit.then, Exit.inBlock, ↓reduceIte, Nat.reduceEqDiff])
   refine hK11 _ _ ?_
   refine wp_seq_k (fun K12 hK12 => ?_)
   refine wp_cond_true rfl ?_
   refine wp_skip ?_
   (try simp only [Exit.then, Exit.inBlock, ↓reduceIte, Nat.reduceEqDiff])
   refine hK12 _ _ ?_
   refine wp_seq_k (fun K13 hK13 => ?_)
   refine wp_block ?_
   refine wp_seq_k (fun K14 hK14 => ?_)
   refine wp_region_lit ?_
   refine wpList_plain rfl (fun Ko hKo => ?_)
   go_simp
   refine hKo _ _ ?_
   clear hKo Ko
   try simp only [Act.put, nm1, nm2, nm3, i64_w]
   have cl0 := hb7.cell (o := 0) rfl
   have cl1 := hb7.cell (o := 1) rfl
   refine wpList_plain rfl (fun Ko hKo => ?_)
   go_simp
   refine hKo _ _ ?_
   clear hKo Ko
   clear cl0 cl1
   try simp only [Act.put, nm1, nm2, nm3, i64_w]
   refine step_new (cs := [.int .i64 0, .int .i64 0]) (T := 26) (f := fun b => .pointer (some ⟨b, 0, none⟩)) rfl (by first | (go_simp; done) | (go_simp; rfl)) ?_
   intro b15 w16 hu lb hb15
   simp only [Act.put, nm1, nm2, nm3, i64_w]
   have lbb15 := Aside0.mk lb
   have ltb15 := Aside0.mk hb15.lt
   clear lb
   have hu17 := Aside0.mk hu
   clear hu
   have hB0 := hb15
   have cl0 := hB0.cell (o := 0) rfl
   have fr0 := hB0.free 0
   have cl1 := hB0.cell (o := 1) rfl
   have fr1 := hB0.free 1
   refine step_store (b := b15) (cs' := [.int .i64 1, .int .i64 0]) (T := 26) (W' := ((w16.setCell ⟨b15, 0, none⟩ (.int .i64 1)).setCell ⟨b15, 1, none⟩ (.int .i64 0))) rfl rfl (by first | (go_simp; done) | (go_simp; rfl)) (((Sto.refl _ _).setCell 0 _).setCell 1 _) (((hB0).setCell 0 _).setCell 1 _) ?_
   clear hB0 cl0 fr0 cl1 fr1
   intro w18 hs hb20
   have hs19 := Aside0.mk hs
   clear hs
   refine wpList_nil ?_
   (try simp only [Exit.then, Exit.inBlock, ↓reduceIte, Nat.reduceEqDiff])
   refine hK14 _ _ ?_
   refine wp_seq_k (fun K21 hK21 => ?_)
   refine wp_region_lit ?_
   refine wpList_plain rfl (fun Ko hKo => ?_)
   go_simp
   refine hKo _ _ ?_
   clear hKo Ko
   try simp only [Act.put, nm1, nm2, nm3, i64_w]
   have cl0 := (hb2.up ((hu9.out.trans hu17.out).sto (Nat.le_trans (hu9.out.size) lbb15.out) hs19.out)).cell (o := 0) rfl
   have cl1 := (hb2.up ((hu9.out.trans hu17.out).sto (Nat.le_trans (hu9.out.size) lbb15.out) hs19.out)).cell (o := 1) rfl
   have cl2 := (hb2.up ((hu9.out.trans hu17.out).sto (Nat.le_trans (hu9.out.size) lbb15.out) hs19.out)).cell (o := 2) rfl
   have cl3 := (hb2.up ((hu9.out.trans hu17.out).sto (Nat.le_trans (hu9.out.size) lbb15.out) hs19.out)).cell (o := 3) rfl
   refine wpList_plain rfl (fun Ko hKo => ?_)
   go_simp
   refine hKo _ _ ?_
   clear hKo Ko
   clear cl0 cl1 cl2 cl3
   try simp only [Act.put, nm1, nm2, nm3, i64_w]
   have cl0 := hb20.cell (o := 0) rfl
   have cl1 := hb20.cell (o := 1) rfl
   refine wpList_plain rfl (fun Ko hKo => ?_)
   go_simp
   refine hKo _ _ ?_
   clear hKo Ko
   clear cl0 cl1
   try simp only [Act.put, nm1, nm2, nm3, i64_w]
   refine step_call (wanted_none rfl) (by first | (go_simp; done) | (go_simp; rfl)) (impl_turned.calls K a0 a2_0 a2_1 a2_2 a2_3 1 0 t22 t23 w18  A24.out) ?_
   rintro e w25 ⟨rfl, hu⟩
   have hu26 := Aside0.mk hu
   clear hu
   refine ⟨_, rfl, ?_⟩
   simp only [Act.put, nm1, nm2, nm3, i64_w]
   refine step_new (cs := [.int .i64 0, .int .i64 0]) (T := 26) (f := fun b => .pointer (some ⟨b, 0, none⟩)) rfl (by first | (go_simp; done) | (go_simp; rfl)) ?_
   intro b27 w28 hu lb hb27
   simp only [Act.put, nm1, nm2, nm3, i64_w]
   have lbb27 := Aside0.mk lb
   have ltb27 := Aside0.mk hb27.lt
   clear lb
   have hu29 := Aside0.mk hu
   clear hu
   have hB0 := hb27
   have cl0 := hB0.cell (o := 0) rfl
   have fr0 := hB0.free 0
   have cl1 := hB0.cell (o := 1) rfl
   have fr1 := hB0.free 1
   refine step_store (b := b27) (cs' := [.int .i64 t22, .int .i64 t23]) (T := 26) (W' := ((w28.setCell ⟨b27, 0, none⟩ (.int .i64 t22)).setCell ⟨b27, 1, none⟩ (.int .i64 t23))) rfl rfl (by first | (go_simp; done) | (go_simp; rfl)) (((Sto.refl _ _).setCell 0 _).setCell 1 _) (((hB0).setCell 0 _).setCell 1 _) ?_
   clear hB0 cl0 fr0 cl1 fr1
   intro w30 hs hb32
   have hs31 := Aside0.mk hs
   clear hs
   refine wpList_nil ?_
   (try simp only [Exit.then, Exit.inBlock, ↓reduceIte, Nat.reduceEqDiff])
   refine hK21 _ _ ?_
   refine wp_seq_k (fun K33 hK33 => ?_)
   refine' wp_region_up 11 [Slot.det _, Slot.det _, Slot.det _, Slot.det _, Slot.det (.int .i64 t34), Slot.det _, Slot.det _, Slot.det _, Slot.det _, Slot.det (.int .i64 t36), Slot.det _] (by kernel_rfl) (by kernel_rfl) ?main
   case main =>
    simp only [List.take_succ_cons, List.take_zero]
    refine wpK_ops rfl (fun w1 hu => ?_) ?_
    · clear hu
      go_simp
      first | done | rfl
    simp only [Act.put, nm1, nm2, nm3, i64_w]
    refine wpK_ops rfl (fun w1 hu => ?_) ?_
    · clear hu
      go_simp
      first | done | rfl
    simp only [Act.put, nm1, nm2, nm3, i64_w]
    refine wpK_ops rfl (fun w1 hu => ?_) ?_
    · have cl0 := ((hb20.up ((hu26.out.trans hu29.out).sto (Nat.le_trans (hu26.out.size) lbb27.out) hs31.out)).up ((Up.refl _).drew.trans hu)).cell (o := 0) rfl
      have cl1 := ((hb20.up ((hu26.out.trans hu29.out).sto (Nat.le_trans (hu26.out.size) lbb27.out) hs31.out)).up ((Up.refl _).drew.trans hu)).cell (o := 1) rfl
      go_simp
      first | done | rfl
    simp only [Act.put, nm1, nm2, nm3, i64_w]
    refine wpK_ops rfl (fun w1 hu => ?_) ?_
    · have cl0 := ((hb20.up ((hu26.out.trans hu29.out).sto (Nat.le_trans (hu26.out.size) lbb27.out) hs31.out)).up ((Up.refl _).drew.trans hu)).cell (o := 0) rfl
      have cl1 := ((hb20.up ((hu26.out.trans hu29.out).sto (Nat.le_trans (hu26.out.size) lbb27.out) hs31.out)).up ((Up.refl _).drew.trans hu)).cell (o := 1) rfl
      go_simp
      first | done | rfl
    simp only [Act.put, nm1, nm2, nm3, i64_w]
    refine wpK_ops rfl (fun w1 hu => ?_) ?_
    · have hcl := (impl_product.calls K a0 a1 1 0 1 0 t34 w1  A35.out)
      clear hu
      replace hcl := Aside0.mk hcl
      go_simp
      exact hcl.out
    simp only [Act.put, nm1, nm2, nm3, i64_w]
    refine wpK_ops rfl (fun w1 hu => ?_) ?_
    · clear hu
      go_simp
      first | done | rfl
    simp only [Act.put, nm1, nm2, nm3, i64_w]
    refine wpK_ops rfl (fun w1 hu => ?_) ?_
    · clear hu
      go_simp
      first | done | rfl
    simp only [Act.put, nm1, nm2, nm3, i64_w]
    refine wpK_ops rfl (fun w1 hu => ?_) ?_
    · have cl0 := (hb32.up ((Up.refl _).drew.trans hu)).cell (o := 0) rfl
      have cl1 := (hb32.up ((Up.refl _).drew.trans hu)).cell (o := 1) rfl
      go_simp
      first | done | rfl
    simp only [Act.put, nm1, nm2, nm3, i64_w]
    refine wpK_ops rfl (fun w1 hu => ?_) ?_
    · have cl0 := (hb32.up ((Up.refl _).drew.trans hu)).cell (o := 0) rfl
      have cl1 := (hb32.up ((Up.refl _).drew.trans hu)).cell (o := 1) rfl
      go_simp
      first | done | rfl
    simp only [Act.put, nm1, nm2, nm3, i64_w]
    refine wpK_ops rfl (fun w1 hu => ?_) ?_
    · have hcl := (impl_product.calls K a0 a1 t22 t23 t22 t23 t36 w1  A37.out)
      clear hu
      replace hcl := Aside0.mk hcl
      go_simp
      exact hcl.out
    simp only [Act.put, nm1, nm2, nm3, i64_w]
    refine wpK_ops rfl (fun w1 hu => ?_) ?_
    · clear hu
      go_simp
      first | done | rfl
    simp only [Act.put, nm1, nm2, nm3, i64_w]
    refine wpK_nil ?_
    intro w38 hu hap
    simp only [List.drop_succ_cons, List.drop_zero]
    replace hu := (Up.refl _).drew.trans hu
    clear hap
    have hu39 := Aside0.mk hu
    clear hu
    refine wpList_nil ?_
    (try simp only [Exit.then, Exit.inBlock, ↓reduceIte, Nat.reduceEqDiff])
    refine hK33 _ _ ?_
    refine wp_cond_false rfl ?_
    refine wp_skip ?_
    (try simp only [Exit.then, Exit.inBlock, ↓reduceIte, Nat.reduceEqDiff])
    refine hK13 _ _ ?_
    refine wp_region_lit ?_
    refine wpList_plain rfl (fun Ko hKo => ?_)
    go_simp
    refine hKo _ _ ?_
    clear hKo Ko
    try simp only [Act.put, nm1, nm2, nm3, i64_w]
    try simp only [show wrap64 1 = 1 from wlit rfl]
    refine wpList_plain rfl (fun Ko hKo => ?_)
    go_simp
    refine hKo _ _ ?_
    clear hKo Ko
    try simp only [Act.put, nm1, nm2, nm3, i64_w]
    refine wpList_nil ?_
    (try simp only [Exit.then, Exit.inBlock, ↓reduceIte, Nat.reduceEqDiff])
    refine hK10 _ _ ?_
    refine rounds_k (fun K41 hK41 => ?_)
    refine wp_seq_k (fun K42 hK42 => ?_)
    refine wp_region_lit ?_
    refine wpList_plain rfl (fun Ko hKo => ?_)
    go_simp
    refine hKo _ _ ?_
    clear hKo Ko
    try simp only [Act.put, nm1, nm2, nm3, i64_w]
    refine wpList_nil ?_
    (try simp only [Exit.then, Exit.inBlock, ↓reduceIte, Nat.reduceEqDiff])
    refine hK42 _ _ ?_
    refine wp_seq_k (fun K43 hK43 => ?_)
    refine wp_cond_true rfl ?_
    refine wp_skip ?_
    (try simp only [Exit.then, Exit.inBlock, ↓reduceIte, Nat.reduceEqDiff])
    refine hK43 _ _ ?_
    refine wp_seq_k (fun K44 hK44 => ?_)
    refine wp_block ?_
    refine wp_seq_k (fun K45 hK45 => ?_)
    refine wp_region_lit ?_
    refine wpList_plain rfl (fun Ko hKo => ?_)
    go_simp
    refine hKo _ _ ?_
    clear hKo Ko
    try simp only [Act.put, nm1, nm2, nm3, i64_w]
    have cl0 := (hb7.up (((((hu17.out.sto (Nat.le_trans (Nat.le_refl _) lbb15.out) hs19.out).trans hu26.out).trans hu29.out).sto (Nat.le_trans ((Nat.le_trans ((Nat.le_trans (hu17.out.size) (Nat.le_of_eq hs19.out.size.symm))) hu26.out.size)) lbb27.out) hs31.out).trans hu39.out)).cell (o := 2) rfl
    have cl1 := (hb7.up (((((hu17.out.sto (Nat.le_trans (Nat.le_refl _) lbb15.out) hs19.out).trans hu26.out).trans hu29.out).sto (Nat.le_trans ((Nat.le_trans ((Nat.le_trans (hu17.out.size) (Nat.le_of_eq hs19.out.size.symm))) hu26.out.size)) lbb27.out) hs31.out).trans hu39.out)).cell (o := 3) rfl
    refine wpList_plain rfl (fun Ko hKo => ?_)
    go_simp
    refine hKo _ _ ?_
    clear hKo Ko
    clear cl0 cl1
    try simp only [Act.put, nm1, nm2, nm3, i64_w]
    refine step_new (cs := [.int .i64 0, .int .i64 0]) (T := 26) (f := fun b => .pointer (some ⟨b, 0, none⟩)) rfl (by first | (go_simp; done) | (go_simp; rfl)) ?_
    intro b46 w47 hu lb hb46
    simp only [Act.put, nm1, nm2, nm3, i64_w]
    have lbb46 := Aside0.mk lb
    have ltb46 := Aside0.mk hb46.lt
    clear lb
    have hu48 := Aside0.mk hu
    clear hu
    have hB0 := hb46
    have cl0 := hB0.cell (o := 0) rfl
    have fr0 := hB0.free 0
    have cl1 := hB0.cell (o := 1) rfl
    have fr1 := hB0.free 1
    refine step_store (b := b46) (cs' := [.int .i64 0, .int .i64 1]) (T := 26) (W' := ((w47.setCell ⟨b46, 0, none⟩ (.int .i64 0)).setCell ⟨b46, 1, none⟩ (.int .i64 1))) rfl rfl (by first | (go_simp; done) | (go_simp; rfl)) (((Sto.refl _ _).setCell 0 _).setCell 1 _) (((hB0).setCell 0 _).setCell 1 _) ?_
    clear hB0 cl0 fr0 cl1 fr1
    intro w49 hs hb51
    have hs50 := Aside0.mk hs
    clear hs
    refine wpList_nil ?_
    (try simp only [Exit.then, Exit.inBlock, ↓reduceIte, Nat.reduceEqDiff])
    refine hK45 _ _ ?_
    refine wp_seq_k (fun K52 hK52 => ?_)
    refine wp_region_lit ?_
    refine wpList_plain rfl (fun Ko hKo => ?_)
    go_simp
    refine hKo _ _ ?_
    clear hKo Ko
    try simp only [Act.put, nm1, nm2, nm3, i64_w]
    have cl0 := (hb2.up ((((((((hu9.out.trans hu17.out).sto (Nat.le_trans (hu9.out.size) lbb15.out) hs19.out).trans hu26.out).trans hu29.out).sto (Nat.le_trans ((Nat.le_trans ((Nat.le_trans ((Nat.le_trans (hu9.out.size) hu17.out.size)) (Nat.le_of_eq hs19.out.size.symm))) hu26.out.size)) lbb27.out) hs31.out).trans hu39.out).trans hu48.out).sto (Nat.le_trans ((Nat.le_trans ((Nat.le_trans ((Nat.le_trans ((Nat.le_trans ((Nat.le_trans ((Nat.le_trans (hu9.out.size) hu17.out.size)) (Nat.le_of_eq hs19.out.size.symm))) hu26.out.size)) hu29.out.size)) (Nat.le_of_eq hs31.out.size.symm))) hu39.out.size)) lbb46.out) hs50.out)).cell (o := 0) rfl
    have cl1 := (hb2.up ((((((((hu9.out.trans hu17.out).sto (Nat.le_trans (hu9.out.size) lbb15.out) hs19.out).trans hu26.out).trans hu29.out).sto (Nat.le_trans ((Nat.le_trans ((Nat.le_trans ((Nat.le_trans (hu9.out.size) hu17.out.size)) (Nat.le_of_eq hs19.out.size.symm))) hu26.out.size)) lbb27.out) hs31.out).trans hu39.out).trans hu48.out).sto (Nat.le_trans ((Nat.le_trans ((Nat.le_trans ((Nat.le_trans ((Nat.le_trans ((Nat.le_trans ((Nat.le_trans (hu9.out.size) hu17.out.size)) (Nat.le_of_eq hs19.out.size.symm))) hu26.out.size)) hu29.out.size)) (Nat.le_of_eq hs31.out.size.symm))) hu39.out.size)) lbb46.out) hs50.out)).cell (o := 1) rfl
    have cl2 := (hb2.up ((((((((hu9.out.trans hu17.out).sto (Nat.le_trans (hu9.out.size) lbb15.out) hs19.out).trans hu26.out).trans hu29.out).sto (Nat.le_trans ((Nat.le_trans ((Nat.le_trans ((Nat.le_trans (hu9.out.size) hu17.out.size)) (Nat.le_of_eq hs19.out.size.symm))) hu26.out.size)) lbb27.out) hs31.out).trans hu39.out).trans hu48.out).sto (Nat.le_trans ((Nat.le_trans ((Nat.le_trans ((Nat.le_trans ((Nat.le_trans ((Nat.le_trans ((Nat.le_trans (hu9.out.size) hu17.out.size)) (Nat.le_of_eq hs19.out.size.symm))) hu26.out.size)) hu29.out.size)) (Nat.le_of_eq hs31.out.size.symm))) hu39.out.size)) lbb46.out) hs50.out)).cell (o := 2) rfl
    have cl3 := (hb2.up ((((((((hu9.out.trans hu17.out).sto (Nat.le_trans (hu9.out.size) lbb15.out) hs19.out).trans hu26.out).trans hu29.out).sto (Nat.le_trans ((Nat.le_trans ((Nat.le_trans ((Nat.le_trans (hu9.out.size) hu17.out.size)) (Nat.le_of_eq hs19.out.size.symm))) hu26.out.size)) lbb27.out) hs31.out).trans hu39.out).trans hu48.out).sto (Nat.le_trans ((Nat.le_trans ((Nat.le_trans ((Nat.le_trans ((Nat.le_trans ((Nat.le_trans ((Nat.le_trans (hu9.out.size) hu17.out.size)) (Nat.le_of_eq hs19.out.size.symm))) hu26.out.size)) hu29.out.size)) (Nat.le_of_eq hs31.out.size.symm))) hu39.out.size)) lbb46.out) hs50.out)).cell (o := 3) rfl
    refine wpList_plain rfl (fun Ko hKo => ?_)
    go_simp
    refine hKo _ _ ?_
    clear hKo Ko
    clear cl0 cl1 cl2 cl3
    try simp only [Act.put, nm1, nm2, nm3, i64_w]
    have cl0 := hb51.cell (o := 0) rfl
    have cl1 := hb51.cell (o := 1) rfl
    refine wpList_plain rfl (fun Ko hKo => ?_)
    go_simp
    refine hKo _ _ ?_
    clear hKo Ko
    clear cl0 cl1
    try simp only [Act.put, nm1, nm2, nm3, i64_w]
    refine step_call (wanted_none rfl) (by first | (go_simp; done) | (go_simp; rfl)) (impl_turned.calls K a0 a2_0 a2_1 a2_2 a2_3 0 1 t53 t54 w49  A55.out) ?_
    rintro e w56 ⟨rfl, hu⟩
    have hu57 := Aside0.mk hu
    clear hu
    refine ⟨_, rfl, ?_⟩
    simp only [Act.put, nm1, nm2, nm3, i64_w]
    refine step_new (cs := [.int .i64 0, .int .i64 0]) (T := 26) (f := fun b => .pointer (some ⟨b, 0, none⟩)) rfl (by first | (go_simp; done) | (go_simp; rfl)) ?_
    intro b58 w59 hu lb hb58
    simp only [Act.put, nm1, nm2, nm3, i64_w]
    have lbb58 := Aside0.mk lb
    have ltb58 := Aside0.mk hb58.lt
    clear lb
    have hu60 := Aside0.mk hu
    clear hu
    have hB0 := hb58
    have cl0 := hB0.cell (o := 0) rfl
    have fr0 := hB0.free 0
    have cl1 := hB0.cell (o := 1) rfl
    have fr1 := hB0.free 1
    refine step_store (b := b58) (cs' := [.int .i64 t53, .int .i64 t54]) (T := 26) (W' := ((w59.setCell ⟨b58, 0, none⟩ (.int .i64 t53)).setCell ⟨b58, 1, none⟩ (.int .i64 t54))) rfl rfl (by first | (go_simp; done) | (go_simp; rfl)) (((Sto.refl _ _).setCell 0 _).setCell 1 _) (((hB0).setCell 0 _).setCell 1 _) ?_
    clear hB0 cl0 fr0 cl1 fr1
    intro w61 hs hb63
    have hs62 := Aside0.mk hs
    clear hs
    refine wpList_nil ?_
    (try simp only [Exit.then, Exit.inBlock, ↓reduceIte, Nat.reduceEqDiff])
    refine hK52 _ _ ?_
    refine wp_seq_k (fun K64 hK64 => ?_)
    refine' wp_region_up 11 [Slot.det _, Slot.det _, Slot.det _, Slot.det _, Slot.det (.int .i64 t65), Slot.det _, Slot.det _, Slot.det _, Slot.det _, Slot.det (.int .i64 t67), Slot.det _] (by kernel_rfl) (by kernel_rfl) ?main
    case main =>
     simp only [List.take_succ_cons, List.take_zero]
     refine wpK_ops rfl (fun w1 hu => ?_) ?_
     · clear hu
       go_simp
       first | done | rfl
     simp only [Act.put, nm1, nm2, nm3, i64_w]
     refine wpK_ops rfl (fun w1 hu => ?_) ?_
     · clear hu
       go_simp
       first | done | rfl
     simp only [Act.put, nm1, nm2, nm3, i64_w]
     refine wpK_ops rfl (fun w1 hu => ?_) ?_
     · have cl0 := ((hb51.up ((hu57.out.trans hu60.out).sto (Nat.le_trans (hu57.out.size) lbb58.out) hs62.out)).up ((Up.refl _).drew.trans hu)).cell (o := 0) rfl
       have cl1 := ((hb51.up ((hu57.out.trans hu60.out).sto (Nat.le_trans (hu57.out.size) lbb58.out) hs62.out)).up ((Up.refl _).drew.trans hu)).cell (o := 1) rfl
       go_simp
       first | done | rfl
     simp only [Act.put, nm1, nm2, nm3, i64_w]
     refine wpK_ops rfl (fun w1 hu => ?_) ?_
     · have cl0 := ((hb51.up ((hu57.out.trans hu60.out).sto (Nat.le_trans (hu57.out.size) lbb58.out) hs62.out)).up ((Up.refl _).drew.trans hu)).cell (o := 0) rfl
       have cl1 := ((hb51.up ((hu57.out.trans hu60.out).sto (Nat.le_trans (hu57.out.size) lbb58.out) hs62.out)).up ((Up.refl _).drew.trans hu)).cell (o := 1) rfl
       go_simp
       first | done | rfl
     simp only [Act.put, nm1, nm2, nm3, i64_w]
     refine wpK_ops rfl (fun w1 hu => ?_) ?_
     · have hcl := (impl_product.calls K a0 a1 0 1 0 1 t65 w1  A66.out)
       clear hu
       replace hcl := Aside0.mk hcl
       go_simp
       exact hcl.out
     simp only [Act.put, nm1, nm2, nm3, i64_w]
     refine wpK_ops rfl (fun w1 hu => ?_) ?_
     · clear hu
       go_simp
       first | done | rfl
     simp only [Act.put, nm1, nm2, nm3, i64_w]
     refine wpK_ops rfl (fun w1 hu => ?_) ?_
     · clear hu
       go_simp
       first | done | rfl
     simp only [Act.put, nm1, nm2, nm3, i64_w]
     refine wpK_ops rfl (fun w1 hu => ?_) ?_
     · have cl0 := (hb63.up ((Up.refl _).drew.trans hu)).cell (o := 0) rfl
       have cl1 := (hb63.up ((Up.refl _).drew.trans hu)).cell (o := 1) rfl
       go_simp
       first | done | rfl
     simp only [Act.put, nm1, nm2, nm3, i64_w]
     refine wpK_ops rfl (fun w1 hu => ?_) ?_
     · have cl0 := (hb63.up ((Up.refl _).drew.trans hu)).cell (o := 0) rfl
       have cl1 := (hb63.up ((Up.refl _).drew.trans hu)).cell (o := 1) rfl
       go_simp
       first | done | rfl
     simp only [Act.put, nm1, nm2, nm3, i64_w]
     refine wpK_ops rfl (fun w1 hu => ?_) ?_
     · have hcl := (impl_product.calls K a0 a1 t53 t54 t53 t54 t67 w1  A68.out)
       clear hu
       replace hcl := Aside0.mk hcl
       go_simp
       exact hcl.out
     simp only [Act.put, nm1, nm2, nm3, i64_w]
     refine wpK_ops rfl (fun w1 hu => ?_) ?_
     · clear hu
       go_simp
       first | done | rfl
     simp only [Act.put, nm1, nm2, nm3, i64_w]
     refine wpK_nil ?_
     intro w69 hu hap
     simp only [List.drop_succ_cons, List.drop_zero]
     replace hu := (Up.refl _).drew.trans hu
     clear hap
     have hu70 := Aside0.mk hu
     clear hu
     refine wpList_nil ?_
     (try simp only [Exit.then, Exit.inBlock, ↓reduceIte, Nat.reduceEqDiff])
     refine hK64 _ _ ?_
     refine wp_cond_true rfl ?_
     refine wp_seq_k (fun K108 hK108 => ?_)
     refine wp_region_lit ?_
     refine wpList_plain rfl (fun Ko hKo => ?_)
     go_simp
     refine hKo _ _ ?_
     clear hKo Ko
     try simp only [Act.put, nm1, nm2, nm3, i64_w]
     refine wpList_nil ?_
     (try simp only [Exit.then, Exit.inBlock, ↓reduceIte, Nat.reduceEqDiff])
     refine hK108 _ _ ?_
     refine wp_ret ?_
     (try simp only [Exit.then, Exit.inBlock, ↓reduceIte, Nat.reduceEqDiff])
     refine hQf _ _ _ ?_
     exact bodyPost_ret (v := .bool false) (by first | rfl | (simp [results, Try.results57, go_sem]; done) | (simp [results, Try.results57, go_sem]; rfl)) rfl ⟨rfl, (((((((((((((hu4.out.trans hu9.out).trans hu17.out).sto (Nat.le_trans ((Nat.le_trans (hu4.out.size) hu9.out.size)) lbb15.out) hs19.out).trans hu26.out).trans hu29.out).sto (Nat.le_trans ((Nat.le_trans ((Nat.le_trans ((Nat.le_trans ((Nat.le_trans (hu4.out.size) hu9.out.size)) hu17.out.size)) (Nat.le_of_eq hs19.out.size.symm))) hu26.out.size)) lbb27.out) hs31.out).trans hu39.out).trans hu48.out).sto (Nat.le_trans ((Nat.le_trans ((Nat.le_trans ((Nat.le_trans ((Nat.le_trans ((Nat.le_trans ((Nat.le_trans ((Nat.le_trans (hu4.out.size) hu9.out.size)) hu17.out.size)) (Nat.le_of_eq hs19.out.size.symm))) hu26.out.size)) hu29.out.size)) (Nat.le_of_eq hs31.out.size.symm))) hu39.out.size)) lbb46.out) hs50.out).trans hu57.out).trans hu60.out).sto (Nat.le_trans ((Nat.le_trans ((Nat.le_trans ((Nat.le_trans ((Nat.le_trans ((Nat.le_trans ((Nat.le_trans ((Nat.le_trans ((Nat.le_trans ((Nat.le_trans ((Nat.le_trans (hu4.out.size) hu9.out.size)) hu17.out.size)) (Nat.le_of_eq hs19.out.size.symm))) hu26.out.size)) hu29.out.size)) (Nat.le_of_eq hs31.out.size.symm))) hu39.out.size)) hu48.out.size)) (Nat.le_of_eq hs50.out.size.symm))) hu57.out.size)) lbb58.out) hs62.out).trans hu70.out)⟩
 ·
  rw [if_neg c40] at H
  replace c40 := Bool.eq_false_iff.mpr c40
  have c40n : (t34 != t36) = true := by rw [bne, c40]; rfl
  have c40p : ¬ t34 = t36 := fun e => by simp [e] at c40
  obtain rfl := Option.some.inj H
  go_enter Try.func57, Try.ntmps57
  refine wp_hide (fun Qf hQf => ?_)
  refine wp_seq_k (fun K1 hK1 => ?_)
  refine wp_region_lit ?_
  refine step_new (cs := [.int .i64 a2_0, .int .i64 a2_1, .int .i64 a2_2, .int .i64 a2_3]) (T := 22) (f := fun b => .pointer (some ⟨b, 0, none⟩)) rfl (by first | (go_simp; done) | (go_simp; rfl)) ?_
  intro b2 w3 hu lb hb2
  simp only [Act.put, nm1, nm2, nm3, i64_w]
  have lbb2 := Aside0.mk lb
  have ltb2 := Aside0.mk hb2.lt
  clear lb
  have hu4 := Aside0.mk hu
  clear hu
  refine wpList_plain rfl (fun Ko hKo => ?_)
  go_simp
  refine hKo _ _ ?_
  clear hKo Ko
  try simp only [Act.put, nm1, nm2, nm3, i64_w]
  refine wpList_nil ?_
  (try simp only [Exit.then, Exit.inBlock, ↓reduceIte, Nat.reduceEqDiff])
  refine hK1 _ _ ?_
  refine wp_seq_k (fun K5 hK5 => ?_)
  refine wp_seq_k (fun K6 hK6 => ?_)
  refine wp_region_lit ?_
  refine wpList_plain rfl (fun Ko hKo => ?_)
  go_simp
  refine hKo _ _ ?_
  clear hKo Ko
  try simp only [Act.put, nm1, nm2, nm3, i64_w]
  refine wpList_plain rfl (fun Ko hKo => ?_)
  go_simp
  refine hKo _ _ ?_
  clear hKo Ko
  try simp only [Act.put, nm1, nm2, nm3, i64_w]
  refine wpList_plain rfl (fun Ko hKo => ?_)
  go_simp
  refine hKo _ _ ?_
  clear hKo Ko
  try simp only [Act.put, nm1, nm2, nm3, i64_w]
  refine step_new (cs := [.int .i64 1, .int .i64 0, .int .i64 0, .int .i64 1, .int .i64 1, .int .i64 1]) (T := 26) (f := fun b => .slice (some ⟨b, 0, none⟩) 3 3) rfl (by first | (go_simp; done) | (go_simp; rfl)) ?_
  intro b7 w8 hu lb hb7
  simp only [Act.put, nm1, nm2, nm3, i64_w]
  have lbb7 := Aside0.mk lb
  have ltb7 := Aside0.mk hb7.lt
  clear lb
  have hu9 := Aside0.mk hu
  clear hu
  refine wpList_plain rfl (fun Ko hKo => ?_)
  go_simp
  refine hKo _ _ ?_
  clear hKo Ko
  try simp only [Act.put, nm1, nm2, nm3, i64_w]
  refine wpList_plain rfl (fun Ko hKo => ?_)
  go_simp
  refine hKo _ _ ?_
  clear hKo Ko
  try simp only [Act.put, nm1, nm2, nm3, i64_w]
  refine wpList_nil ?_
  (try simp only [Exit.then, Exit.inBlock, ↓reduceIte, Nat.reduceEqDiff])
  refine hK6 _ _ ?_
  refine wp_block ?_
  refine wp_loop_rounds 40 ?_
  refine rounds_k (fun K10 hK10 => ?_)
  refine wp_seq_k (fun K11 hK11 => ?_)
  refine wp_region_lit ?_
  refine wpList_plain rfl (fun Ko hKo => ?_)
  go_simp
  refine hKo _ _ ?_
  clear hKo Ko
  try simp only [Act.put, nm1, nm2, nm3, i64_w]
  refine wpList_nil ?_
  (try simp only [Exit.then, Exit.inBlock, ↓reduceIte, Nat.reduceEqDiff])
  refine hK11 _ _ ?_
  refine wp_seq_k (fun K12 hK12 => ?_)
  refine wp_cond_true rfl ?_
  refine wp_skip ?_
  (try simp only [Exit.then, Exit.inBlock, ↓reduceIte, Nat.reduceEqDiff])
  refine hK12 _ _ ?_
  refine wp_seq_k (fun K13 hK13 => ?_)
  refine wp_block ?_
  refine wp_seq_k (fun K14 hK14 => ?_)
  refine wp_region_lit ?_
  refine wpList_plain rfl (fun Ko hKo => ?_)
  go_simp
  refine hKo _ _ ?_
  clear hKo Ko
  try simp only [Act.put, nm1, nm2, nm3, i64_w]
  have cl0 := hb7.cell (o := 0) rfl
  have cl1 := hb7.cell (o := 1) rfl
  refine wpList_plain rfl (fun Ko hKo => ?_)
  go_simp
  refine hKo _ _ ?_
  clear hKo Ko
  clear cl0 cl1
  try simp only [Act.put, nm1, nm2, nm3, i64_w]
  refine step_new (cs := [.int .i64 0, .int .i64 0]) (T := 26) (f := fun b => .pointer (some ⟨b, 0, none⟩)) rfl (by first | (go_simp; done) | (go_simp; rfl)) ?_
  intro b15 w16 hu lb hb15
  simp only [Act.put, nm1, nm2, nm3, i64_w]
  have lbb15 := Aside0.mk lb
  have ltb15 := Aside0.mk hb15.lt
  clear lb
  have hu17 := Aside0.mk hu
  clear hu
  have hB0 := hb15
  have cl0 := hB0.cell (o := 0) rfl
  have fr0 := hB0.free 0
  have cl1 := hB0.cell (o := 1) rfl
  have fr1 := hB0.free 1
  refine step_store (b := b15) (cs' := [.int .i64 1, .int .i64 0]) (T := 26) (W' := ((w16.setCell ⟨b15, 0, none⟩ (.int .i64 1)).setCell ⟨b15, 1, none⟩ (.int .i64 0))) rfl rfl (by first | (go_simp; done) | (go_simp; rfl)) (((Sto.refl _ _).setCell 0 _).setCell 1 _) (((hB0).setCell 0 _).setCell 1 _) ?_
  clear hB0 cl0 fr0 cl1 fr1
  intro w18 hs hb20
  have hs19 := Aside0.mk hs
  clear hs
  refine wpList_nil ?_
  (try simp only [Exit.then, Exit.inBlock, ↓reduceIte, Nat.reduceEqDiff])
  refine hK14 _ _ ?_
  refine wp_seq_k (fun K21 hK21 => ?_)
  refine wp_region_lit ?_
  refine wpList_plain rfl (fun Ko hKo => ?_)
  go_simp
  refine hKo _ _ ?_
  clear hKo Ko
  try simp only [Act.put, nm1, nm2, nm3, i64_w]
  have cl0 := (hb2.up ((hu9.out.trans hu17.out).sto (Nat.le_trans (hu9.out.size) lbb15.out) hs19.out)).cell (o := 0) rfl
  have cl1 := (hb2.up ((hu9.out.trans hu17.out).sto (Nat.le_trans (hu9.out.size) lbb15.out) hs19.out)).cell (o := 1) rfl
  have cl2 := (hb2.up ((hu9.out.trans hu17.out).sto (Nat.le_trans (hu9.out.size) lbb15.out) hs19.out)).cell (o := 2) rfl
  have cl3 := (hb2.up ((hu9.out.trans hu17.out).sto (Nat.le_trans (hu9.out.size) lbb15.out) hs19.out)).cell (o := 3) rfl
  refine wpList_plain rfl (fun Ko hKo => ?_)
  go_simp
  refine hKo _ _ ?_
  clear hKo Ko
  clear cl0 cl1 cl2 cl3
  try simp only [Act.put, nm1, nm2, nm3, i64_w]
  have cl0 := hb20.cell (o := 0) rfl
  have cl1 := hb20.cell (o := 1) rfl
  refine wpList_plain rfl (fun Ko hKo => ?_)
  go_simp
  refine hKo _ _ ?_
  clear hKo Ko
  clear cl0 cl1
  try simp only [Act.put, nm1, nm2, nm3, i64_w]
  refine step_call (wanted_none rfl) (by first | (go_simp; done) | (go_simp; rfl)) (impl_turned.calls K a0 a2_0 a2_1 a2_2 a2_3 1 0 t22 t23 w18  A24.out) ?_
  rintro e w25 ⟨rfl, hu⟩
  have hu26 := Aside0.mk hu
  clear hu
  refine ⟨_, rfl, ?_⟩
  simp only [Act.put, nm1, nm2, nm3, i64_w]
  refine step_new (cs := [.int .i64 0, .int .i64 0]) (T := 26) (f := fun b => .pointer (some ⟨b, 0, none⟩)) rfl (by first | (go_simp; done) | (go_simp; rfl)) ?_
  intro b27 w28 hu lb hb27
  simp only [Act.put, nm1, nm2, nm3, i64_w]
  have lbb27 := Aside0.mk lb
  have ltb27 := Aside0.mk hb27.lt
  clear lb
  have hu29 := Aside0.mk hu
  clear hu
  have hB0 := hb27
  have cl0 := hB0.cell (o := 0) rfl
  have fr0 := hB0.free 0
  have cl1 := hB0.cell (o := 1) rfl
  have fr1 := hB0.free 1
  refine step_store (b := b27) (cs' := [.int .i64 t22, .int .i64 t23]) (T := 26) (W' := ((w28.setCell ⟨b27, 0, none⟩ (.int .i64 t22)).setCell ⟨b27, 1, none⟩ (.int .i64 t23))) rfl rfl (by first | (go_simp; done) | (go_simp; rfl)) (((Sto.refl _ _).setCell 0 _).setCell 1 _) (((hB0).setCell 0 _).setCell 1 _) ?_
  clear hB0 cl0 fr0 cl1 fr1
  intro w30 hs hb32
  have hs31 := Aside0.mk hs
  clear hs
  refine wpList_nil ?_
  (try simp only [Exit.then, Exit.inBlock, ↓reduceIte, Nat.reduceEqDiff])
  refine hK21 _ _ ?_
  refine wp_seq_k (fun K33 hK33 => ?_)
  refine' wp_region_up 11 [Slot.det _, Slot.det _, Slot.det _, Slot.det _, Slot.det (.int .i64 t34), Slot.det _, Slot.det _, Slot.det _, Slot.det _, Slot.det (.int .i64 t36), Slot.det _] (by kernel_rfl) (by kernel_rfl) ?main
  case main =>
   simp only [List.take_succ_cons, List.take_zero]
   refine wpK_ops rfl (fun w1 hu => ?_) ?_
   · clear hu
     go_simp
     first | done | rfl
   simp only [Act.put, nm1, nm2, nm3, i64_w]
   refine wpK_ops rfl (fun w1 hu => ?_) ?_
   · clear hu
     go_simp
     first | done | rfl
   simp only [Act.put, nm1, nm2, nm3, i64_w]
   refine wpK_ops rfl (fun w1 hu => ?_) ?_
   · have cl0 := ((hb20.up ((hu26.out.trans hu29.out).sto (Nat.le_trans (hu26.out.size) lbb27.out) hs31.out)).up ((Up.refl _).drew.trans hu)).cell (o := 0) rfl
     have cl1 := ((hb20.up ((hu26.out.trans hu29.out).sto (Nat.le_trans (hu26.out.size) lbb27.out) hs31.out)).up ((Up.refl _).drew.trans hu)).cell (o := 1) rfl
     go_simp
     first | done | rfl
   simp only [Act.put, nm1, nm2, nm3, i64_w]
   refine wpK_ops rfl (fun w1 hu => ?_) ?_
   · have cl0 := ((hb20.up ((hu26.out.trans hu29.out).sto (Nat.le_trans (hu26.out.size) lbb27.out) hs31.out)).up ((Up.refl _).drew.trans hu)).cell (o := 0) rfl
     have cl1 := ((hb20.up ((hu26.out.trans hu29.out).sto (Nat.le_trans (hu26.out.size) lbb27.out) hs31.out)).up ((Up.refl _).drew.trans hu)).cell (o := 1) rfl
     go_simp
     first | done | rfl
   simp only [Act.put, nm1, nm2, nm3, i64_w]
   refine wpK_ops rfl (fun w1 hu => ?_) ?_
   · have hcl := (impl_product.calls K a0 a1 1 0 1 0 t34 w1  A35.out)
     clear hu
     replace hcl := Aside0.mk hcl
     go_simp
     exact hcl.out
   simp only [Act.put, nm1, nm2, nm3, i64_w]
   refine wpK_ops rfl (fun w1 hu => ?_) ?_
   · clear hu
     go_simp
     first | done | rfl
   simp only [Act.put, nm1, nm2, nm3, i64_w]
   refine wpK_ops rfl (fun w1 hu => ?_) ?_
   · clear hu
     go_simp
     first | done | rfl
   simp only [Act.put, nm1, nm2, nm3, i64_w]
   refine wpK_ops rfl (fun w1 hu => ?_) ?_
   · have cl0 := (hb32.up ((Up.refl _).drew.trans hu)).cell (o := 0) rfl
     have cl1 := (hb32.up ((Up.refl _).drew.trans hu)).cell (o := 1) rfl
     go_simp
     first | done | rfl
   simp only [Act.put, nm1, nm2, nm3, i64_w]
   refine wpK_ops rfl (fun w1 hu => ?_) ?_
   · have cl0 := (hb32.up ((Up.refl _).drew.trans hu)).cell (o := 0) rfl
     have cl1 := (hb32.up ((Up.refl _).drew.trans hu)).cell (o := 1) rfl
     go_simp
     first | done | rfl
   simp only [Act.put, nm1, nm2, nm3, i64_w]
   refine wpK_ops rfl (fun w1 hu => ?_) ?_
   · have hcl := (impl_product.calls K a0 a1 t22 t23 t22 t23 t36 w1  A37.out)
     clear hu
     replace hcl := Aside0.mk hcl
     go_simp
     exact hcl.out
   simp only [Act.put, nm1, nm2, nm3, i64_w]
   refine wpK_ops rfl (fun w1 hu => ?_) ?_
   · clear hu
     go_simp
     first | done | rfl
   simp only [Act.put, nm1, nm2, nm3, i64_w]
   refine wpK_nil ?_
   intro w38 hu hap
   simp only [List.drop_succ_cons, List.drop_zero]
   replace hu := (Up.refl _).drew.trans hu
   clear hap
   have hu39 := Aside0.mk hu
   clear hu
   refine wpList_nil ?_
   (try simp only [Exit.then, Exit.inBlock, ↓reduceIte, Nat.reduceEqDiff])
   refine hK33 _ _ ?_
   refine wp_cond_true rfl ?_
   refine wp_seq_k (fun K109 hK109 => ?_)
   refine wp_region_lit ?_
   refine wpList_plain rfl (fun Ko hKo => ?_)
   go_simp
   refine hKo _ _ ?_
   clear hKo Ko
   try simp only [Act.put, nm1, nm2, nm3, i64_w]
   refine wpList_nil ?_
   (try simp only [Exit.then, Exit.inBlock, ↓reduceIte, Nat.reduceEqDiff])
   refine hK109 _ _ ?_
   refine wp_ret ?_
   (try simp only [Exit.then, Exit.inBlock, ↓reduceIte, Nat.reduceEqDiff])
   refine hQf _ _ _ ?_
   exact bodyPost_ret (v := .bool false) (by first | rfl | (simp [results, Try.results57, go_sem]; done) | (simp [results, Try.results57, go_sem]; rfl)) rfl ⟨rfl, (((((((hu4.out.trans hu9.out).trans hu17.out).sto (Nat.le_trans ((Nat.le_trans (hu4.out.size) hu9.out.size)) lbb15.out) hs19.out).trans hu26.out).trans hu29.out).sto (Nat.le_trans ((Nat.le_trans ((Nat.le_trans ((Nat.le_trans ((Nat.le_trans (hu4.out.size) hu9.out.size)) hu17.out.size)) (Nat.le_of_eq hs19.out.size.symm))) hu26.out.size)) lbb27.out) hs31.out).trans hu39.out)⟩

set_option maxHeartbeats 4000000 in
set_option maxRecDepth 100000 in
theorem impl_IsMove.calls (K : Nat) (a0 : Int) (a1 : Int) (a2_0 : Int) (a2_1 : Int) (a2_2 : Int) (a2_3 : Int) (a2_4 : Int) (a2_5 : Int) (r0 : Bool) (r1 : Int) (w : World)  (h : impl_IsMove.f K a0 a1 a2_0 a2_1 a2_2 a2_3 a2_4 a2_5 = some (r0, r1)) :
    Calls Try.prog 19 #[.int .i64 a0, .int .i64 a1, .agg #[.int .i64 a2_0, .int .i64 a2_1, .int .i64 a2_2, .int .i64 a2_3, .int .i64 a2_4, .int .i64 a2_5]] w fun e w' => e = .returned (.tuple #[.bool r0, .int .i64 r1]) ∧ Up w w' := by
 have H : (((impl_asked__impl_IsMove_1.f K a0 a1 a0 a2_0 a2_1 a2_2 a2_3 a2_4 a2_5).bind fun t13 => (if (t13 == 0) = true then ((impl_keeps.f K a0 a1 a2_0 a2_1 a2_2 a2_3).bind fun t20 => some (t20, 0)) else some (false, t13))) : Option (Bool × Int)) = some (r0, r1) := h
 clear h
 replace H := Option.bind_eq_some_iff.mp H
 obtain ⟨t13, A14, H⟩ := H
 replace A14 := Aside0.mk A14
 try dsimp only at H
 by_cases c18 : (t13 == 0) = true
 ·
  rw [if_pos c18] at H
  have c18n : (t13 != 0) = false := by rw [bne, c18]; rfl
  replace H := Option.bind_eq_some_iff.mp H
  obtain ⟨t20, A21, H⟩ := H
  replace A21 := Aside0.mk A21
  try dsimp only at H
  simp only [Option.some.injEq, Prod.mk.injEq] at H
  obtain ⟨rfl, rfl⟩ := H
  go_enter Try.func19, Try.ntmps19
  refine wp_hide (fun Qf hQf => ?_)
  refine wp_seq_k (fun K1 hK1 => ?_)
  refine wp_region_lit ?_
  refine step_new (cs := [.int .i64 a0]) (T := 2) (f := fun b => .pointer (some ⟨b, 0, none⟩)) rfl (by first | (go_simp; done) | (go_simp; rfl)) ?_
  intro b2 w3 hu lb hb2
  simp only [Act.put, nm1, nm2, nm3, i64_w]
  have lbb2 := Aside0.mk lb
  have ltb2 := Aside0.mk hb2.lt
  clear lb
  have hu4 := Aside0.mk hu
  clear hu
  refine step_new (cs := [.int .i64 a1]) (T := 2) (f := fun b => .pointer (some ⟨b, 0, none⟩)) rfl (by first | (go_simp; done) | (go_simp; rfl)) ?_
  intro b5 w6 hu lb hb5
  simp only [Act.put, nm1, nm2, nm3, i64_w]
  have lbb5 := Aside0.mk lb
  have ltb5 := Aside0.mk hb5.lt
  clear lb
  have hu7 := Aside0.mk hu
  clear hu
  refine step_new (cs := [.int .i64 a2_0, .int .i64 a2_1, .int .i64 a2_2, .int .i64 a2_3, .int .i64 a2_4, .int .i64 a2_5]) (T := 30) (f := fun b => .pointer (some ⟨b, 0, none⟩)) rfl (by first | (go_simp; done) | (go_simp; rfl)) ?_
  intro b8 w9 hu lb hb8
  simp only [Act.put, nm1, nm2, nm3, i64_w]
  have lbb8 := Aside0.mk lb
  have ltb8 := Aside0.mk hb8.lt
  clear lb
  have hu10 := Aside0.mk hu
  clear hu
  refine wpList_plain rfl (fun Ko hKo => ?_)
  go_simp
  refine hKo _ _ ?_
  clear hKo Ko
  try simp only [Act.put, nm1, nm2, nm3, i64_w]
  refine wpList_plain rfl (fun Ko hKo => ?_)
  go_simp
  refine hKo _ _ ?_
  clear hKo Ko
  try simp only [Act.put, nm1, nm2, nm3, i64_w]
  refine wpList_nil ?_
  (try simp only [Exit.then, Exit.inBlock, ↓reduceIte, Nat.reduceEqDiff])
  refine hK1 _ _ ?_
  refine wp_seq_k (fun K11 hK11 => ?_)
  refine wp_seq_k (fun K12 hK12 => ?_)
  refine wp_region_lit ?_
  have cl0 := (hb2.up (hu7.out.trans hu10.out)).cell (o := 0) rfl
  refine wpList_plain rfl (fun Ko hKo => ?_)
  go_simp
  refine hKo _ _ ?_
  clear hKo Ko
  clear cl0
  try simp only [Act.put, nm1, nm2, nm3, i64_w]
  refine wpList_plain rfl (fun Ko hKo => ?_)
  go_simp
  refine hKo _ _ ?_
  clear hKo Ko
  try simp only [Act.put, nm1, nm2, nm3, i64_w]
  refine step_call (wanted_none rfl) (by first | (go_simp; done) | (go_simp; rfl)) (impl_asked__impl_IsMove_1.calls K a0 b5 a1 b2 a0 b8 a2_0 a2_1 a2_2 a2_3 a2_4 a2_5 t13 w9 (hb5.up hu10.out) (hb2.up (hu7.out.trans hu10.out)) hb8 A14.out) ?_
  rintro e w15 ⟨rfl, hu⟩
  have hu16 := Aside0.mk hu
  clear hu
  refine ⟨_, rfl, ?_⟩
  simp only [Act.put, nm1, nm2, nm3, i64_w]
  refine wpList_plain rfl (fun Ko hKo => ?_)
  go_simp
  refine hKo _ _ ?_
  clear hKo Ko
  try simp only [Act.put, nm1, nm2, nm3, i64_w]
  refine wpList_nil ?_
  (try simp only [Exit.then, Exit.inBlock, ↓reduceIte, Nat.reduceEqDiff])
  refine hK12 _ _ ?_
  refine wp_seq_k (fun K17 hK17 => ?_)
  refine wp_region_lit ?_
  refine wpList_plain rfl (fun Ko hKo => ?_)
  go_simp
  refine hKo _ _ ?_
  clear hKo Ko
  try simp only [Act.put, nm1, nm2, nm3, i64_w]
  refine wpList_plain rfl (fun Ko hKo => ?_)
  go_simp
  refine hKo _ _ ?_
  clear hKo Ko
  try simp only [Act.put, nm1, nm2, nm3, i64_w]
  refine wpList_nil ?_
  (try simp only [Exit.then, Exit.inBlock, ↓reduceIte, Nat.reduceEqDiff])
  refine hK17 _ _ ?_
  refine wp_cond_false rfl ?_
  refine wp_skip ?_
  (try simp only [Exit.then, Exit.inBlock, ↓reduceIte, Nat.reduceEqDiff])
  refine hK11 _ _ ?_
  refine wp_seq_k (fun K19 hK19 => ?_)
  refine wp_region_lit ?_
  have cl0 := (hb2.up ((hu7.out.trans hu10.out).trans hu16.out)).cell (o := 0) rfl
  refine wpList_plain rfl (fun Ko hKo => ?_)
  go_simp
  refine hKo _ _ ?_
  clear hKo Ko
  clear cl0
  try simp only [Act.put, nm1, nm2, nm3, i64_w]
  have cl0 := (hb5.up (hu10.out.trans hu16.out)).cell (o := 0) rfl
  refine wpList_plain rfl (fun Ko hKo => ?_)
  go_simp
  refine hKo _ _ ?_
  clear hKo Ko
  clear cl0
  try simp only [Act.put, nm1, nm2, nm3, i64_w]
  refine wpList_plain rfl (fun Ko hKo => ?_)
  go_simp
  refine hKo _ _ ?_
  clear hKo Ko
  try simp only [Act.put, nm1, nm2, nm3, i64_w]
  have cl0 := (hb8.up hu16.out).cell (o := 0) rfl
  have cl1 := (hb8.up hu16.out).cell (o := 1) rfl
  have cl2 := (hb8.up hu16.out).cell (o := 2) rfl
  have cl3 := (hb8.up hu16.out).cell (o := 3) rfl
  refine wpList_plain rfl (fun Ko hKo => ?_)
  go_simp
  refine hKo _ _ ?_
  clear hKo Ko
  clear cl0 cl1 cl2 cl3
  try simp only [Act.put, nm1, nm2, nm3, i64_w]
  refine step_call (wanted_none rfl) (by first | (go_simp; done) | (go_simp; rfl)) (impl_keeps.calls K a0 a1 a2_0 a2_1 a2_2 a2_3 t20 w15  A21.out) ?_
  rintro e w22 ⟨rfl, hu⟩
  have hu23 := Aside0.mk hu
  clear hu
  refine ⟨_, rfl, ?_⟩
  simp only [Act.put, nm1, nm2, nm3, i64_w]
  refine wpList_plain rfl (fun Ko hKo => ?_)
  go_simp
  refine hKo _ _ ?_
  clear hKo Ko
  try simp only [Act.put, nm1, nm2, nm3, i64_w]
  refine wpList_plain rfl (fun Ko hKo => ?_)
  go_simp
  refine hKo _ _ ?_
  clear hKo Ko
  try simp only [Act.put, nm1, nm2, nm3, i64_w]
  refine wpList_nil ?_
  (try simp only [Exit.then, Exit.inBlock, ↓reduceIte, Nat.reduceEqDiff])
  refine hK19 _ _ ?_
  refine wp_ret ?_
  (try simp only [Exit.then, Exit.inBlock, ↓reduceIte, Nat.reduceEqDiff])
  refine hQf _ _ _ ?_
  exact bodyPost_ret (v := .tuple #[.bool t20, .int .i64 0]) (by first | rfl | (simp [results, Try.results19, go_sem]; done) | (simp [results, Try.results19, go_sem]; rfl)) rfl ⟨rfl, ((((hu4.out.trans hu7.out).trans hu10.out).trans hu16.out).trans hu23.out)⟩
 ·
  rw [if_neg c18] at H
  replace c18 := Bool.eq_false_iff.mpr c18
  have c18n : (t13 != 0) = true := by rw [bne, c18]; rfl
  have c18p : ¬ t13 = 0 := fun e => by simp [e] at c18
  simp only [Option.some.injEq, Prod.mk.injEq] at H
  obtain ⟨rfl, rfl⟩ := H
  go_enter Try.func19, Try.ntmps19
  refine wp_hide (fun Qf hQf => ?_)
  refine wp_seq_k (fun K1 hK1 => ?_)
  refine wp_region_lit ?_
  refine step_new (cs := [.int .i64 a0]) (T := 2) (f := fun b => .pointer (some ⟨b, 0, none⟩)) rfl (by first | (go_simp; done) | (go_simp; rfl)) ?_
  intro b2 w3 hu lb hb2
  simp only [Act.put, nm1, nm2, nm3, i64_w]
  have lbb2 := Aside0.mk lb
  have ltb2 := Aside0.mk hb2.lt
  clear lb
  have hu4 := Aside0.mk hu
  clear hu
  refine step_new (cs := [.int .i64 a1]) (T := 2) (f := fun b => .pointer (some ⟨b, 0, none⟩)) rfl (by first | (go_simp; done) | (go_simp; rfl)) ?_
  intro b5 w6 hu lb hb5
  simp only [Act.put, nm1, nm2, nm3, i64_w]
  have lbb5 := Aside0.mk lb
  have ltb5 := Aside0.mk hb5.lt
  clear lb
  have hu7 := Aside0.mk hu
  clear hu
  refine step_new (cs := [.int .i64 a2_0, .int .i64 a2_1, .int .i64 a2_2, .int .i64 a2_3, .int .i64 a2_4, .int .i64 a2_5]) (T := 30) (f := fun b => .pointer (some ⟨b, 0, none⟩)) rfl (by first | (go_simp; done) | (go_simp; rfl)) ?_
  intro b8 w9 hu lb hb8
  simp only [Act.put, nm1, nm2, nm3, i64_w]
  have lbb8 := Aside0.mk lb
  have ltb8 := Aside0.mk hb8.lt
  clear lb
  have hu10 := Aside0.mk hu
  clear hu
  refine wpList_plain rfl (fun Ko hKo => ?_)
  go_simp
  refine hKo _ _ ?_
  clear hKo Ko
  try simp only [Act.put, nm1, nm2, nm3, i64_w]
  refine wpList_plain rfl (fun Ko hKo => ?_)
  go_simp
  refine hKo _ _ ?_
  clear hKo Ko
  try simp only [Act.put, nm1, nm2, nm3, i64_w]
  refine wpList_nil ?_
  (try simp only [Exit.then, Exit.inBlock, ↓reduceIte, Nat.reduceEqDiff])
  refine hK1 _ _ ?_
  refine wp_seq_k (fun K11 hK11 => ?_)
  refine wp_seq_k (fun K12 hK12 => ?_)
  refine wp_region_lit ?_
  have cl0 := (hb2.up (hu7.out.trans hu10.out)).cell (o := 0) rfl
  refine wpList_plain rfl (fun Ko hKo => ?_)
  go_simp
  refine hKo _ _ ?_
  clear hKo Ko
  clear cl0
  try simp only [Act.put, nm1, nm2, nm3, i64_w]
  refine wpList_plain rfl (fun Ko hKo => ?_)
  go_simp
  refine hKo _ _ ?_
  clear hKo Ko
  try simp only [Act.put, nm1, nm2, nm3, i64_w]
  refine step_call (wanted_none rfl) (by first | (go_simp; done) | (go_simp; rfl)) (impl_asked__impl_IsMove_1.calls K a0 b5 a1 b2 a0 b8 a2_0 a2_1 a2_2 a2_3 a2_4 a2_5 t13 w9 (hb5.up hu10.out) (hb2.up (hu7.out.trans hu10.out)) hb8 A14.out) ?_
  rintro e w15 ⟨rfl, hu⟩
  have hu16 := Aside0.mk hu
  clear hu
  refine ⟨_, rfl, ?_⟩
  simp only [Act.put, nm1, nm2, nm3, i64_w]
  refine wpList_plain rfl (fun Ko hKo => ?_)
  go_simp
  refine hKo _ _ ?_
  clear hKo Ko
  try simp only [Act.put, nm1, nm2, nm3, i64_w]
  refine wpList_nil ?_
  (try simp only [Exit.then, Exit.inBlock, ↓reduceIte, Nat.reduceEqDiff])
  refine hK12 _ _ ?_
  refine wp_seq_k (fun K17 hK17 => ?_)
  refine wp_region_lit ?_
  refine wpList_plain rfl (fun Ko hKo => ?_)
  go_simp
  refine hKo _ _ ?_
  clear hKo Ko
  try simp only [Act.put, nm1, nm2, nm3, i64_w]
  refine wpList_plain rfl (fun Ko hKo => ?_)
  go_simp
  refine hKo _ _ ?_
  clear hKo Ko
  try simp only [Act.put, nm1, nm2, nm3, i64_w]
  refine wpList_nil ?_
  (try simp only [Exit.then, Exit.inBlock, ↓reduceIte, Nat.reduceEqDiff])
  refine hK17 _ _ ?_
  refine wp_cond_true rfl ?_
  refine wp_seq_k (fun K24 hK24 => ?_)
  refine wp_region_lit ?_
  refine wpList_plain rfl (fun Ko hKo => ?_)
  go_simp
  refine hKo _ _ ?_
  clear hKo Ko
  try simp only [Act.put, nm1, nm2, nm3, i64_w]
  refine wpList_plain rfl (fun Ko hKo => ?_)
  go_simp
  refine hKo _ _ ?_
  clear hKo Ko
  try simp only [Act.put, nm1, nm2, nm3, i64_w]
  refine wpList_plain rfl (fun Ko hKo => ?_)
  go_simp
  refine hKo _ _ ?_
  clear hKo Ko
  try simp only [Act.put, nm1, nm2, nm3, i64_w]
  refine wpList_nil ?_
  (try simp only [Exit.then, Exit.inBlock, ↓reduceIte, Nat.reduceEqDiff])
  refine hK24 _ _ ?_
  refine wp_ret ?_
  (try simp only [Exit.then, Exit.inBlock, ↓reduceIte, Nat.reduceEqDiff])
  refine hQf _ _ _ ?_
  exact bodyPost_ret (v := .tuple #[.bool false, .int .i64 t13]) (by first | rfl | (simp [results, Try.results19, go_sem]; done) | (simp [results, Try.results19, go_sem]; rfl)) rfl ⟨rfl, (((hu4.out.trans hu7.out).trans hu10.out).trans hu16.out)⟩

set_option maxHeartbeats 4000000 in
set_option maxRecDepth 100000 in
theorem laws_FnExactIsMove.calls (K : Nat) (a0 : Int) (a1 : Int) (a2_0 : Int) (a2_1 : Int) (a2_2 : Int) (a2_3 : Int) (a2_4 : Int) (a2_5 : Int) (r0 : Bool) (w : World)  (h : laws_FnExactIsMove.f K a0 a1 a2_0 a2_1 a2_2 a2_3 a2_4 a2_5 = some (r0)) :
    Calls Try.prog 4 #[.int .i64 a0, .int .i64 a1, .agg #[.int .i64 a2_0, .int .i64 a2_1, .int .i64 a2_2, .int .i64 a2_3, .int .i64 a2_4, .int .i64 a2_5]] w fun e w' => e = .returned (.bool r0) ∧ Up w w' := by
 have H : (((laws_toMove.f K a2_0 a2_1 a2_2 a2_3 a2_4 a2_5).bind fun (t6, t7, t8, t9, t10, t11) => ((spec_IsMove.f K a0 a1 t6 t7 t8 t9 t10 t11).bind fun (t15, t16) => ((laws_toMove.f K a2_0 a2_1 a2_2 a2_3 a2_4 a2_5).bind fun (t21, t22, t23, t24, t25, t26) => ((impl_IsMove.f K a0 a1 t21 t22 t23 t24 t25 t26).bind fun (t30, t31) => (if t30 = true then (if t15 = true then (if (t31 == t16) = true then some true else some false) else some false) else (if t15 = true then some false else (if (t31 == t16) = true then some true else some false))))))) : Option (Bool)) = some (r0) := h
 clear h
 replace H := Option.bind_eq_some_iff.mp H
 obtain ⟨⟨t6, t7, t8, t9, t10, t11⟩, A12, H⟩ := H
 replace A12 := Aside0.mk A12
 try dsimp only at H
 replace H := Option.bind_eq_some_iff.mp H
 obtain ⟨⟨t15, t16⟩, A17, H⟩ := H
 replace A17 := Aside0.mk A17
 try dsimp only at H
 replace H := Option.bind_eq_some_iff.mp H
 obtain ⟨⟨t21, t22, t23, t24, t25, t26⟩, A27, H⟩ := H
 replace A27 := Aside0.mk A27
 try dsimp only at H
 replace H := Option.bind_eq_some_iff.mp H
 obtain ⟨⟨t30, t31⟩, A32, H⟩ := H
 replace A32 := Aside0.mk A32
 try dsimp only at H
 by_cases c37 : (t30) = true
 ·
  rw [if_pos c37] at H
  subst c37
  by_cases c38 : (t15) = true
  ·
   rw [if_pos c38] at H
   subst c38
   by_cases c39 : (t31 == t16) = true
   ·
    rw [if_pos c39] at H
    have c39n : (t31 != t16) = false := by rw [bne, c39]; rfl
    obtain rfl := Option.some.inj H
    go_enter Try.func4, Try.ntmps4
    refine wp_hide (fun Qf hQf => ?_)
    refine wp_seq_k (fun K1 hK1 => ?_)
    refine wp_region_lit ?_
    refine step_new (cs := [.int .i64 a2_0, .int .i64 a2_1, .int .i64 a2_2, .int .i64 a2_3, .int .i64 a2_4, .int .i64 a2_5]) (T := 25) (f := fun b => .pointer (some ⟨b, 0, none⟩)) rfl (by first | (go_simp; done) | (go_simp; rfl)) ?_
    intro b2 w3 hu lb hb2
    simp only [Act.put, nm1, nm2, nm3, i64_w]
    have lbb2 := Aside0.mk lb
    have ltb2 := Aside0.mk hb2.lt
    clear lb
    have hu4 := Aside0.mk hu
    clear hu
    refine wpList_plain rfl (fun Ko hKo => ?_)
    go_simp
    refine hKo _ _ ?_
    clear hKo Ko
    try simp only [Act.put, nm1, nm2, nm3, i64_w]
    refine wpList_nil ?_
    (try simp only [Exit.then, Exit.inBlock, ↓reduceIte, Nat.reduceEqDiff])
    refine hK1 _ _ ?_
    refine wp_seq_k (fun K5 hK5 => ?_)
    refine wp_region_lit ?_
    refine wpList_plain rfl (fun Ko hKo => ?_)
    go_simp
    refine hKo _ _ ?_
    clear hKo Ko
    try simp only [Act.put, nm1, nm2, nm3, i64_w]
    refine wpList_plain rfl (fun Ko hKo => ?_)
    go_simp
    refine hKo _ _ ?_
    clear hKo Ko
    try simp only [Act.put, nm1, nm2, nm3, i64_w]
    have cl0 := hb2.cell (o := 0) rfl
    have cl1 := hb2.cell (o := 1) rfl
    have cl2 := hb2.cell (o := 2) rfl
    have cl3 := hb2.cell (o := 3) rfl
    have cl4 := hb2.cell (o := 4) rfl
    have cl5 := hb2.cell (o := 5) rfl
    refine wpList_plain rfl (fun Ko hKo => ?_)
    go_simp
    refine hKo _ _ ?_
    clear hKo Ko
    clear cl0 cl1 cl2 cl3 cl4 cl5
    try simp only [Act.put, nm1, nm2, nm3, i64_w]
    refine step_call (wanted_none rfl) (by first | (go_simp; done) | (go_simp; rfl)) (laws_toMove.calls K a2_0 a2_1 a2_2 a2_3 a2_4 a2_5 t6 t7 t8 t9 t10 t11 w3  A12.out) ?_
    rintro e w13 ⟨rfl, hu⟩
    have hu14 := Aside0.mk hu
    clear hu
    refine ⟨_, rfl, ?_⟩
    simp only [Act.put, nm1, nm2, nm3, i64_w]
    refine step_call (wanted_none rfl) (by first | (go_simp; done) | (go_simp; rfl)) (spec_IsMove.calls K a0 a1 t6 t7 t8 t9 t10 t11 true t16 w13  A17.out) ?_
    rintro e w18 ⟨rfl, hu⟩
    have hu19 := Aside0.mk hu
    clear hu
    refine ⟨_, rfl, ?_⟩
    simp only [Act.put, nm1, nm2, nm3, i64_w]
    refine wpList_plain rfl (fun Ko hKo => ?_)
    go_simp
    refine hKo _ _ ?_
    clear hKo Ko
    try simp only [Act.put, nm1, nm2, nm3, i64_w]
    refine wpList_plain rfl (fun Ko hKo => ?_)
    go_simp
    refine hKo _ _ ?_
    clear hKo Ko
    try simp only [Act.put, nm1, nm2, nm3, i64_w]
    refine wpList_plain rfl (fun Ko hKo => ?_)
    go_simp
    refine hKo _ _ ?_
    clear hKo Ko
    try simp only [Act.put, nm1, nm2, nm3, i64_w]
    refine wpList_plain rfl (fun Ko hKo => ?_)
    go_simp
    refine hKo _ _ ?_
    clear hKo Ko
    try simp only [Act.put, nm1, nm2, nm3, i64_w]
    refine wpList_plain rfl (fun Ko hKo => ?_)
    go_simp
    refine hKo _ _ ?_
    clear hKo Ko
    try simp only [Act.put, nm1, nm2, nm3, i64_w]
    refine wpList_nil ?_
    (try simp only [Exit.then, Exit.inBlock, ↓reduceIte, Nat.reduceEqDiff])
    refine hK5 _ _ ?_
    refine wp_seq_k (fun K20 hK20 => ?_)
    refine wp_region_lit ?_
    refine wpList_plain rfl (fun Ko hKo => ?_)
    go_simp
    refine hKo _ _ ?_
    clear hKo Ko
    try simp only [Act.put, nm1, nm2, nm3, i64_w]
    refine wpList_plain rfl (fun Ko hKo => ?_)
    go_simp
    refine hKo _ _ ?_
    clear hKo Ko
    try simp only [Act.put, nm1, nm2, nm3, i64_w]
    have cl0 := (hb2.up (hu14.out.trans hu19.out)).cell (o := 0) rfl
    have cl1 := (hb2.up (hu14.out.trans hu19.out)).cell (o := 1) rfl
    have cl2 := (hb2.up (hu14.out.trans hu19.out)).cell (o := 2) rfl
    have cl3 := (hb2.up (hu14.out.trans hu19.out)).cell (o := 3) rfl
    have cl4 := (hb2.up (hu14.out.trans hu19.out)).cell (o := 4) rfl
    have cl5 := (hb2.up (hu14.out.trans hu19.out)).cell (o := 5) rfl
    refine wpList_plain rfl (fun Ko hKo => ?_)
    go_simp
    refine hKo _ _ ?_
    clear hKo Ko
    clear cl0 cl1 cl2 cl3 cl4 cl5
    try simp only [Act.put, nm1, nm2, nm3, i64_w]
    refine step_call (wanted_none rfl) (by first | (go_simp; done) | (go_simp; rfl)) (laws_toMove.calls K a2_0 a2_1 a2_2 a2_3 a2_4 a2_5 t21 t22 t23 t24 t25 t26 w18  A27.out) ?_
    rintro e w28 ⟨rfl, hu⟩
    have hu29 := Aside0.mk hu
    clear hu
    refine ⟨_, rfl, ?_⟩
    simp only [Act.put, nm1, nm2, nm3, i64_w]
    refine step_call (wanted_none rfl) (by first | (go_simp; done) | (go_simp; rfl)) (impl_IsMove.calls K a0 a1 t21 t22 t23 t24 t25 t26 true t31 w28  A32.out) ?_
    rintro e w33 ⟨rfl, hu⟩
    have hu34 := Aside0.mk hu
    clear hu
    refine ⟨_, rfl, ?_⟩
    simp only [Act.put, nm1, nm2, nm3, i64_w]
    refine wpList_plain rfl (fun Ko hKo => ?_)
    go_simp
    refine hKo _ _ ?_
    clear hKo Ko
    try simp only [Act.put, nm1, nm2, nm3, i64_w]
    refine wpList_plain rfl (fun Ko hKo => ?_)
    go_simp
    refine hKo _ _ ?_
    clear hKo Ko
    try simp only [Act.put, nm1, nm2, nm3, i64_w]
    refine wpList_plain rfl (fun Ko hKo => ?_)
    go_simp
    refine hKo _ _ ?_
    clear hKo Ko
    try simp only [Act.put, nm1, nm2, nm3, i64_w]
    refine wpList_plain rfl (fun Ko hKo => ?_)
    go_simp
    refine hKo _ _ ?_
    clear hKo Ko
    try simp only [Act.put, nm1, nm2, nm3, i64_w]
    refine wpList_plain rfl (fun Ko hKo => ?_)
    go_simp
    refine hKo _ _ ?_
    clear hKo Ko
    try simp only [Act.put, nm1, nm2, nm3, i64_w]
    refine wpList_nil ?_
    (try simp only [Exit.then, Exit.inBlock, ↓reduceIte, Nat.reduceEqDiff])
    refine hK20 _ _ ?_
    refine wp_seq_k (fun K35 hK35 => ?_)
    refine wp_seq_k (fun K36 hK36 => ?_)
    refine wp_region_lit ?_
    refine wpList_plain rfl (fun Ko hKo => ?_)
    go_simp
    refine hKo _ _ ?_
    clear hKo Ko
    try simp only [Act.put, nm1, nm2, nm3, i64_w]
    refine wpList_plain rfl (fun Ko hKo => ?_)
    go_simp
    refine hKo _ _ ?_
    clear hKo Ko
    try simp only [Act.put, nm1, nm2, nm3, i64_w]
    refine wpList_plain rfl (fun Ko hKo => ?_)
    go_simp
    refine hKo _ _ ?_
    clear hKo Ko
    try simp only [Act.put, nm1, nm2, nm3, i64_w]
    refine wpList_plain rfl (fun Ko hKo => ?_)
    go_simp
    refine hKo _ _ ?_
    clear hKo Ko
    try simp only [Act.put, nm1, nm2, nm3, i64_w]
    refine wpList_step (fun Ko hKo => ?_)
    go_simp
    refine hKo _ _ ?_
    clear hKo Ko
    try simp only [Act.put, nm1, nm2, nm3, i64_w]
    refine wpList_step (fun Ko hKo => ?_)
    go_simp
    refine hKo _ _ ?_
    clear hKo Ko
    try simp only [Act.put, nm1, nm2, nm3, i64_w]
    refine wpList_step (fun Ko hKo => ?_)
    go_simp
    refine hKo _ _ ?_
    clear hKo Ko
    try simp only [Act.put, nm1, nm2, nm3, i64_w]
    refine wpList_plain rfl (fun Ko hKo => ?_)
    go_simp
    refine hKo _ _ ?_
    clear hKo Ko
    try simp only [Act.put, nm1, nm2, nm3, i64_w]
    refine wpList_nil ?_
    (try simp only [Exit.then, Exit.inBlock, ↓reduceIte, Nat.reduceEqDiff])
    refine hK36 _ _ ?_
    refine wp_cond_false rfl ?_
    refine wp_skip ?_
    (try simp only [Exit.then, Exit.inBlock, ↓reduceIte, Nat.reduceEqDiff])
    refine hK35 _ _ ?_
    refine wp_seq_k (fun K40 hK40 => ?_)
    refine wp_region_lit ?_
    refine wpList_plain rfl (fun Ko hKo => ?_)
    go_simp
    refine hKo _ _ ?_
    clear hKo Ko
    try simp only [Act.put, nm1, nm2, nm3, i64_w]
    refine wpList_nil ?_
    (try simp only [Exit.then, Exit.inBlock, ↓reduceIte, Nat.reduceEqDiff])
    refine hK40 _ _ ?_
    refine wp_ret ?_
    (try simp only [Exit.then, Exit.inBlock, ↓reduceIte, Nat.reduceEqDiff])
    refine hQf _ _ _ ?_
    exact bodyPost_ret (v := .bool true) (by first | rfl | (simp [results, Try.results4, go_sem]; done) | (simp [results, Try.results4, go_sem]; rfl)) rfl ⟨rfl, ((((hu4.out.trans hu14.out).trans hu19.out).trans hu29.out).trans hu34.out)⟩
   ·
    rw [if_neg c39] at H
    replace c39 := Bool.eq_false_iff.mpr c39
    have c39n : (t31 != t16) = true := by rw [bne, c39]; rfl
    have c39p : ¬ t31 = t16 := fun e => by simp [e] at c39
    obtain rfl := Option.some.inj H
    go_enter Try.func4, Try.ntmps4
    refine wp_hide (fun Qf hQf => ?_)
    refine wp_seq_k (fun K1 hK1 => ?_)
    refine wp_region_lit ?_
    refine step_new (cs := [.int .i64 a2_0, .int .i64 a2_1, .int .i64 a2_2, .int .i64 a2_3, .int .i64 a2_4, .int .i64 a2_5]) (T := 25) (f := fun b => .pointer (some ⟨b, 0, none⟩)) rfl (by first | (go_simp; done) | (go_simp; rfl)) ?_
    intro b2 w3 hu lb hb2
    simp only [Act.put, nm1, nm2, nm3, i64_w]
    have lbb2 := Aside0.mk lb
    have ltb2 := Aside0.mk hb2.lt
    clear lb
    have hu4 := Aside0.mk hu
    clear hu
    refine wpList_plain rfl (fun Ko hKo => ?_)
    go_simp
    refine hKo _ _ ?_
    clear hKo Ko
    try simp only [Act.put, nm1, nm2, nm3, i64_w]
    refine wpList_nil ?_
    (try simp only [Exit.then, Exit.inBlock, ↓reduceIte, Nat.reduceEqDiff])
    refine hK1 _ _ ?_
    refine wp_seq_k (fun K5 hK5 => ?_)
    refine wp_region_lit ?_
    refine wpList_plain rfl (fun Ko hKo => ?_)
    go_simp
    refine hKo _ _ ?_
    clear hKo Ko
    try simp only [Act.put, nm1, nm2, nm3, i64_w]
    refine wpList_plain rfl (fun Ko hKo => ?_)
    go_simp
    refine hKo _ _ ?_
    clear hKo Ko
    try simp only [Act.put, nm1, nm2, nm3, i64_w]
    have cl0 := hb2.cell (o := 0) rfl
    have cl1 := hb2.cell (o := 1) rfl
    have cl2 := hb2.cell (o := 2) rfl
    have cl3 := hb2.cell (o := 3) rfl
    have cl4 := hb2.cell (o := 4) rfl
    have cl5 := hb2.cell (o := 5) rfl
    refine wpList_plain rfl (fun Ko hKo => ?_)
    go_simp
    refine hKo _ _ ?_
    clear hKo Ko
    clear cl0 cl1 cl2 cl3 cl4 cl5
    try simp only [Act.put, nm1, nm2, nm3, i64_w]
    refine step_call (wanted_none rfl) (by first | (go_simp; done) | (go_simp; rfl)) (laws_toMove.calls K a2_0 a2_1 a2_2 a2_3 a2_4 a2_5 t6 t7 t8 t9 t10 t11 w3  A12.out) ?_
    rintro e w13 ⟨rfl, hu⟩
    have hu14 := Aside0.mk hu
    clear hu
    refine ⟨_, rfl, ?_⟩
    simp only [Act.put, nm1, nm2, nm3, i64_w]
    refine step_call (wanted_none rfl) (by first | (go_simp; done) | (go_simp; rfl)) (spec_IsMove.calls K a0 a1 t6 t7 t8 t9 t10 t11 true t16 w13  A17.out) ?_
    rintro e w18 ⟨rfl, hu⟩
    have hu19 := Aside0.mk hu
    clear hu
    refine ⟨_, rfl, ?_⟩
    simp only [Act.put, nm1, nm2, nm3, i64_w]
    refine wpList_plain rfl (fun Ko hKo => ?_)
    go_simp
    refine hKo _ _ ?_
    clear hKo Ko
    try simp only [Act.put, nm1, nm2, nm3, i64_w]
    refine wpList_plain rfl (fun Ko hKo => ?_)
    go_simp
    refine hKo _ _ ?_
    clear hKo Ko
    try simp only [Act.put, nm1, nm2, nm3, i64_w]
    refine wpList_plain rfl (fun Ko hKo => ?_)
    go_simp
    refine hKo _ _ ?_
    clear hKo Ko
    try simp only [Act.put, nm1, nm2, nm3, i64_w]
    refine wpList_plain rfl (fun Ko hKo => ?_)
    go_simp
    refine hKo _ _ ?_
    clear hKo Ko
    try simp only [Act.put, nm1, nm2, nm3, i64_w]
    refine wpList_plain rfl (fun Ko hKo => ?_)
    go_simp
    refine hKo _ _ ?_
    clear hKo Ko
    try simp only [Act.put, nm1, nm2, nm3, i64_w]
    refine wpList_nil ?_
    (try simp only [Exit.then, Exit.inBlock, ↓reduceIte, Nat.reduceEqDiff])
    refine hK5 _ _ ?_
    refine wp_seq_k (fun K20 hK20 => ?_)
    refine wp_region_lit ?_
    refine wpList_plain rfl (fun Ko hKo => ?_)
    go_simp
    refine hKo _ _ ?_
    clear hKo Ko
    try simp only [Act.put, nm1, nm2, nm3, i64_w]
    refine wpList_plain rfl (fun Ko hKo => ?_)
    go_simp
    refine hKo _ _ ?_
    clear hKo Ko
    try simp only [Act.put, nm1, nm2, nm3, i64_w]
    have cl0 := (hb2.up (hu14.out.trans hu19.out)).cell (o := 0) rfl
    have cl1 := (hb2.up (hu14.out.trans hu19.out)).cell (o := 1) rfl
    have cl2 := (hb2.up (hu14.out.trans hu19.out)).cell (o := 2) rfl
    have cl3 := (hb2.up (hu14.out.trans hu19.out)).cell (o := 3) rfl
    have cl4 := (hb2.up (hu14.out.trans hu19.out)).cell (o := 4) rfl
    have cl5 := (hb2.up (hu14.out.trans hu19.out)).cell (o := 5) rfl
    refine wpList_plain rfl (fun Ko hKo => ?_)
    go_simp
    refine hKo _ _ ?_
    clear hKo Ko
    clear cl0 cl1 cl2 cl3 cl4 cl5
    try simp only [Act.put, nm1, nm2, nm3, i64_w]
    refine step_call (wanted_none rfl) (by first | (go_simp; done) | (go_simp; rfl)) (laws_toMove.calls K a2_0 a2_1 a2_2 a2_3 a2_4 a2_5 t21 t22 t23 t24 t25 t26 w18  A27.out) ?_
    rintro e w28 ⟨rfl, hu⟩
    have hu29 := Aside0.mk hu
    clear hu
    refine ⟨_, rfl, ?_⟩
    simp only [Act.put, nm1, nm2, nm3, i64_w]
    refine step_call (wanted_none rfl) (by first | (go_simp; done) | (go_simp; rfl)) (impl_IsMove.calls K a0 a1 t21 t22 t23 t24 t25 t26 true t31 w28  A32.out) ?_
    rintro e w33 ⟨rfl, hu⟩
    have hu34 := Aside0.mk hu
    clear hu
    refine ⟨_, rfl, ?_⟩
    simp only [Act.put, nm1, nm2, nm3, i64_w]
    refine wpList_plain rfl (fun Ko hKo => ?_)
    go_simp
    refine hKo _ _ ?_
    clear hKo Ko
    try simp only [Act.put, nm1, nm2, nm3, i64_w]
    refine wpList_plain rfl (fun Ko hKo => ?_)
    go_simp
    refine hKo _ _ ?_
    clear hKo Ko
    try simp only [Act.put, nm1, nm2, nm3, i64_w]
    refine wpList_plain rfl (fun Ko hKo => ?_)
    go_simp
    refine hKo _ _ ?_
    clear hKo Ko
    try simp only [Act.put, nm1, nm2, nm3, i64_w]
    refine wpList_plain rfl (fun Ko hKo => ?_)
    go_simp
    refine hKo _ _ ?_
    clear hKo Ko
    try simp only [Act.put, nm1, nm2, nm3, i64_w]
    refine wpList_plain rfl (fun Ko hKo => ?_)
    go_simp
    refine hKo _ _ ?_
    clear hKo Ko
    try simp only [Act.put, nm1, nm2, nm3, i64_w]
    refine wpList_nil ?_
    (try simp only [Exit.then, Exit.inBlock, ↓reduceIte, Nat.reduceEqDiff])
    refine hK20 _ _ ?_
    refine wp_seq_k (fun K35 hK35 => ?_)
    refine wp_seq_k (fun K36 hK36 => ?_)
    refine wp_region_lit ?_
    refine wpList_plain rfl (fun Ko hKo => ?_)
    go_simp
    refine hKo _ _ ?_
    clear hKo Ko
    try simp only [Act.put, nm1, nm2, nm3, i64_w]
    refine wpList_plain rfl (fun Ko hKo => ?_)
    go_simp
    refine hKo _ _ ?_
    clear hKo Ko
    try simp only [Act.put, nm1, nm2, nm3, i64_w]
    refine wpList_plain rfl (fun Ko hKo => ?_)
    go_simp
    refine hKo _ _ ?_
    clear hKo Ko
    try simp only [Act.put, nm1, nm2, nm3, i64_w]
    refine wpList_plain rfl (fun Ko hKo => ?_)
    go_simp
    refine hKo _ _ ?_
    clear hKo Ko
    try simp only [Act.put, nm1, nm2, nm3, i64_w]
    refine wpList_step (fun Ko hKo => ?_)
    go_simp
    refine hKo _ _ ?_
    clear hKo Ko
    try simp only [Act.put, nm1, nm2, nm3, i64_w]
    refine wpList_step (fun Ko hKo => ?_)
    go_simp
    refine hKo _ _ ?_
    clear hKo Ko
    try simp only [Act.put, nm1, nm2, nm3, i64_w]
    refine wpList_step (fun Ko hKo => ?_)
    go_simp
    refine hKo _ _ ?_
    clear hKo Ko
    try simp only [Act.put, nm1, nm2, nm3, i64_w]
    refine wpList_plain rfl (fun Ko hKo => ?_)
    go_simp
    refine hKo _ _ ?_
    clear hKo Ko
    try simp only [Act.put, nm1, nm2, nm3, i64_w]
    refine wpList_nil ?_
    (try simp only [Exit.then, Exit.inBlock, ↓reduceIte, Nat.reduceEqDiff])
    refine hK36 _ _ ?_
    refine wp_cond_true rfl ?_
    refine wp_seq_k (fun K41 hK41 => ?_)
    refine wp_region_lit ?_
    refine wpList_plain rfl (fun Ko hKo => ?_)
    go_simp
    refine hKo _ _ ?_
    clear hKo Ko
    try simp only [Act.put, nm1, nm2, nm3, i64_w]
    refine wpList_nil ?_
    (try simp only [Exit.then, Exit.inBlock, ↓reduceIte, Nat.reduceEqDiff])
    refine hK41 _ _ ?_
    refine wp_ret ?_
    (try simp only [Exit.then, Exit.inBlock, ↓reduceIte, Nat.reduceEqDiff])
    refine hQf _ _ _ ?_
    exact bodyPost_ret (v := .bool false) (by first | rfl | (simp [results, Try.results4, go_sem]; done) | (simp [results, Try.results4, go_sem]; rfl)) rfl ⟨rfl, ((((hu4.out.trans hu14.out).trans hu19.out).trans hu29.out).trans hu34.out)⟩
  ·
   rw [if_neg c38] at H
   replace c38 := Bool.eq_false_iff.mpr c38
   subst c38
   obtain rfl := Option.some.inj H
   go_enter Try.func4, Try.ntmps4
   refine wp_hide (fun Qf hQf => ?_)
   refine wp_seq_k (fun K1 hK1 => ?_)
   refine wp_region_lit ?_
   refine step_new (cs := [.int .i64 a2_0, .int .i64 a2_1, .int .i64 a2_2, .int .i64 a2_3, .int .i64 a2_4, .int .i64 a2_5]) (T := 25) (f := fun b => .pointer (some ⟨b, 0, none⟩)) rfl (by first | (go_simp; done) | (go_simp; rfl)) ?_
   intro b2 w3 hu lb hb2
   simp only [Act.put, nm1, nm2, nm3, i64_w]
   have lbb2 := Aside0.mk lb
   have ltb2 := Aside0.mk hb2.lt
   clear lb
   have hu4 := Aside0.mk hu
   clear hu
   refine wpList_plain rfl (fun Ko hKo => ?_)
   go_simp
   refine hKo _ _ ?_
   clear hKo Ko
   try simp only [Act.put, nm1, nm2, nm3, i64_w]
   refine wpList_nil ?_
   (try simp only [Exit.then, Exit.inBlock, ↓reduceIte, Nat.reduceEqDiff])
   refine hK1 _ _ ?_
   refine wp_seq_k (fun K5 hK5 => ?_)
   refine wp_region_lit ?_
   refine wpList_plain rfl (fun Ko hKo => ?_)
   go_simp
   refine hKo _ _ ?_
   clear hKo Ko
   try simp only [Act.put, nm1, nm2, nm3, i64_w]
   refine wpList_plain rfl (fun Ko hKo => ?_)
   go_simp
   refine hKo _ _ ?_
   clear hKo Ko
   try simp only [Act.put, nm1, nm2, nm3, i64_w]
   have cl0 := hb2.cell (o := 0) rfl
   have cl1 := hb2.cell (o := 1) rfl
   have cl2 := hb2.cell (o := 2) rfl
   have cl3 := hb2.cell (o := 3) rfl
   have cl4 := hb2.cell (o := 4) rfl
   have cl5 := hb2.cell (o := 5) rfl
   refine wpList_plain rfl (fun Ko hKo => ?_)
   go_simp
   refine hKo _ _ ?_
   clear hKo Ko
   clear cl0 cl1 cl2 cl3 cl4 cl5
   try simp only [Act.put, nm1, nm2, nm3, i64_w]
   refine step_call (wanted_none rfl) (by first | (go_simp; done) | (go_simp; rfl)) (laws_toMove.calls K a2_0 a2_1 a2_2 a2_3 a2_4 a2_5 t6 t7 t8 t9 t10 t11 w3  A12.out) ?_
   rintro e w13 ⟨rfl, hu⟩
   have hu14 := Aside0.mk hu
   clear hu
   refine ⟨_, rfl, ?_⟩
   simp only [Act.put, nm1, nm2, nm3, i64_w]
   refine step_call (wanted_none rfl) (by first | (go_simp; done) | (go_simp; rfl)) (spec_IsMove.calls K a0 a1 t6 t7 t8 t9 t10 t11 false t16 w13  A17.out) ?_
   rintro e w18 ⟨rfl, hu⟩
   have hu19 := Aside0.mk hu
   clear hu
   refine ⟨_, rfl, ?_⟩
   simp only [Act.put, nm1, nm2, nm3, i64_w]
   refine wpList_plain rfl (fun Ko hKo => ?_)
   go_simp
   refine hKo _ _ ?_
   clear hKo Ko
   try simp only [Act.put, nm1, nm2, nm3, i64_w]
   refine wpList_plain rfl (fun Ko hKo => ?_)
   go_simp
   refine hKo _ _ ?_
   clear hKo Ko
   try simp only [Act.put, nm1, nm2, nm3, i64_w]
   refine wpList_plain rfl (fun Ko hKo => ?_)
   go_simp
   refine hKo _ _ ?_
   clear hKo Ko
   try simp only [Act.put, nm1, nm2, nm3, i64_w]
   refine wpList_plain rfl (fun Ko hKo => ?_)
   go_simp
   refine hKo _ _ ?_
   clear hKo Ko
   try simp only [Act.put, nm1, nm2, nm3, i64_w]
   refine wpList_plain rfl (fun Ko hKo => ?_)
   go_simp
   refine hKo _ _ ?_
   clear hKo Ko
   try simp only [Act.put, nm1, nm2, nm3, i64_w]
   refine wpList_nil ?_
   (try simp only [Exit.then, Exit.inBlock, ↓reduceIte, Nat.reduceEqDiff])
   refine hK5 _ _ ?_
   refine wp_seq_k (fun K20 hK20 => ?_)
   refine wp_region_lit ?_
   refine wpList_plain rfl (fun Ko hKo => ?_)
   go_simp
   refine hKo _ _ ?_
   clear hKo Ko
   try simp only [Act.put, nm1, nm2, nm3, i64_w]
   refine wpList_plain rfl (fun Ko hKo => ?_)
   go_simp
   refine hKo _ _ ?_
   clear hKo Ko
   try simp only [Act.put, nm1, nm2, nm3, i64_w]
   have cl0 := (hb2.up (hu14.out.trans hu19.out)).cell (o := 0) rfl
   have cl1 := (hb2.up (hu14.out.trans hu19.out)).cell (o := 1) rfl
   have cl2 := (hb2.up (hu14.out.trans hu19.out)).cell (o := 2) rfl
   have cl3 := (hb2.up (hu14.out.trans hu19.out)).cell (o := 3) rfl
   have cl4 := (hb2.up (hu14.out.trans hu19.out)).cell (o := 4) rfl
   have cl5 := (hb2.up (hu14.out.trans hu19.out)).cell (o := 5) rfl
   refine wpList_plain rfl (fun Ko hKo => ?_)
   go_simp
   refine hKo _ _ ?_
   clear hKo Ko
   clear cl0 cl1 cl2 cl3 cl4 cl5
   try simp only [Act.put, nm1, nm2, nm3, i64_w]
   refine step_call (wanted_none rfl) (by first | (go_simp; done) | (go_simp; rfl)) (laws_toMove.calls K a2_0 a2_1 a2_2 a2_3 a2_4 a2_5 t21 t22 t23 t24 t25 t26 w18  A27.out) ?_
   rintro e w28 ⟨rfl, hu⟩
   have hu29 := Aside0.mk hu
   clear hu
   refine ⟨_, rfl, ?_⟩
   simp only [Act.put, nm1, nm2, nm3, i64_w]
   refine step_call (wanted_none rfl) (by first | (go_simp; done) | (go_simp; rfl)) (impl_IsMove.calls K a0 a1 t21 t22 t23 t24 t25 t26 true t31 w28  A32.out) ?_
   rintro e w33 ⟨rfl, hu⟩
   have hu34 := Aside0.mk hu
   clear hu
   refine ⟨_, rfl, ?_⟩
   simp only [Act.put, nm1, nm2, nm3, i64_w]
   refine wpList_plain rfl (fun Ko hKo => ?_)
   go_simp
   refine hKo _ _ ?_
   clear hKo Ko
   try simp only [Act.put, nm1, nm2, nm3, i64_w]
   refine wpList_plain rfl (fun Ko hKo => ?_)
   go_simp
   refine hKo _ _ ?_
   clear hKo Ko
   try simp only [Act.put, nm1, nm2, nm3, i64_w]
   refine wpList_plain rfl (fun Ko hKo => ?_)
   go_simp
   refine hKo _ _ ?_
   clear hKo Ko
   try simp only [Act.put, nm1, nm2, nm3, i64_w]
   refine wpList_plain rfl (fun Ko hKo => ?_)
   go_simp
   refine hKo _ _ ?_
   clear hKo Ko
   try simp only [Act.put, nm1, nm2, nm3, i64_w]
   refine wpList_plain rfl (fun Ko hKo => ?_)
   go_simp
   refine hKo _ _ ?_
   clear hKo Ko
   try simp only [Act.put, nm1, nm2, nm3, i64_w]
   refine wpList_nil ?_
   (try simp only [Exit.then, Exit.inBlock, ↓reduceIte, Nat.reduceEqDiff])
   refine hK20 _ _ ?_
   refine wp_seq_k (fun K35 hK35 => ?_)
   refine wp_seq_k (fun K36 hK36 => ?_)
   refine wp_region_lit ?_
   refine wpList_plain rfl (fun Ko hKo => ?_)
   go_simp
   refine hKo _ _ ?_
   clear hKo Ko
   try simp only [Act.put, nm1, nm2, nm3, i64_w]
   refine wpList_plain rfl (fun Ko hKo => ?_)
   go_simp
   refine hKo _ _ ?_
   clear hKo Ko
   try simp only [Act.put, nm1, nm2, nm3, i64_w]
   refine wpList_plain rfl (fun Ko hKo => ?_)
   go_simp
   refine hKo _ _ ?_
   clear hKo Ko
   try simp only [Act.put, nm1, nm2, nm3, i64_w]
   refine wpList_plain rfl (fun Ko hKo => ?_)
   go_simp
   refine hKo _ _ ?_
   clear hKo Ko
   try simp only [Act.put, nm1, nm2, nm3, i64_w]
   refine step_no rfl ?_
   simp only [Act.put, nm1, nm2, nm3, i64_w]
   refine step_no rfl ?_
   simp only [Act.put, nm1, nm2, nm3, i64_w]
   refine step_no rfl ?_
   simp only [Act.put, nm1, nm2, nm3, i64_w]
   refine wpList_plain rfl (fun Ko hKo => ?_)
   go_simp
   refine hKo _ _ ?_
   clear hKo Ko
   try simp only [Act.put, nm1, nm2, nm3, i64_w]
   refine wpList_nil ?_
   (try simp only [Exit.then, Exit.inBlock, ↓reduceIte, Nat.reduceEqDiff])
   refine hK36 _ _ ?_
   refine wp_cond_true rfl ?_
   refine wp_seq_k (fun K42 hK42 => ?_)
   refine wp_region_lit ?_
   refine wpList_plain rfl (fun Ko hKo => ?_)
   go_simp
   refine hKo _ _ ?_
   clear hKo Ko
   try simp only [Act.put, nm1, nm2, nm3, i64_w]
   refine wpList_nil ?_
   (try simp only [Exit.then, Exit.inBlock, ↓reduceIte, Nat.reduceEqDiff])
   refine hK42 _ _ ?_
   refine wp_ret ?_
   (try simp only [Exit.then, Exit.inBlock, ↓reduceIte, Nat.reduceEqDiff])
   refine hQf _ _ _ ?_
   exact bodyPost_ret (v := .bool false) (by first | rfl | (simp [results, Try.results4, go_sem]; done) | (simp [results, Try.results4, go_sem]; rfl)) rfl ⟨rfl, ((((hu4.out.trans hu14.out).trans hu19.out).trans hu29.out).trans hu34.out)⟩
 ·
  rw [if_neg c37] at H
  replace c37 := Bool.eq_false_iff.mpr c37
  subst c37
  by_cases c43 : (t15) = true
  ·
   rw [if_pos c43] at H
   subst c43
   obtain rfl := Option.some.inj H
   go_enter Try.func4, Try.ntmps4
   refine wp_hide (fun Qf hQf => ?_)
   refine wp_seq_k (fun K1 hK1 => ?_)
   refine wp_region_lit ?_
   refine step_new (cs := [.int .i64 a2_0, .int .i64 a2_1, .int .i64 a2_2, .int .i64 a2_3, .int .i64 a2_4, .int .i64 a2_5]) (T := 25) (f := fun b => .pointer (some ⟨b, 0, none⟩)) rfl (by first | (go_simp; done) | (go_simp; rfl)) ?_
   intro b2 w3 hu lb hb2
   simp only [Act.put, nm1, nm2, nm3, i64_w]
   have lbb2 := Aside0.mk lb
   have ltb2 := Aside0.mk hb2.lt
   clear lb
   have hu4 := Aside0.mk hu
   clear hu
   refine wpList_plain rfl (fun Ko hKo => ?_)
   go_simp
   refine hKo _ _ ?_
   clear hKo Ko
   try simp only [Act.put, nm1, nm2, nm3, i64_w]
   refine wpList_nil ?_
   (try simp only [Exit.then, Exit.inBlock, ↓reduceIte, Nat.reduceEqDiff])
   refine hK1 _ _ ?_
   refine wp_seq_k (fun K5 hK5 => ?_)
   refine wp_region_lit ?_
   refine wpList_plain rfl (fun Ko hKo => ?_)
   go_simp
   refine hKo _ _ ?_
   clear hKo Ko
   try simp only [Act.put, nm1, nm2, nm3, i64_w]
   refine wpList_plain rfl (fun Ko hKo => ?_)
   go_simp
   refine hKo _ _ ?_
   clear hKo Ko
   try simp only [Act.put, nm1, nm2, nm3, i64_w]
   have cl0 := hb2.cell (o := 0) rfl
   have cl1 := hb2.cell (o := 1) rfl
   have cl2 := hb2.cell (o := 2) rfl
   have cl3 := hb2.cell (o := 3) rfl
   have cl4 := hb2.cell (o := 4) rfl
   have cl5 := hb2.cell (o := 5) rfl
   refine wpList_plain rfl (fun Ko hKo => ?_)
   go_simp
   refine hKo _ _ ?_
   clear hKo Ko
   clear cl0 cl1 cl2 cl3 cl4 cl5
   try simp only [Act.put, nm1, nm2, nm3, i64_w]
   refine step_call (wanted_none rfl) (by first | (go_simp; done) | (go_simp; rfl)) (laws_toMove.calls K a2_0 a2_1 a2_2 a2_3 a2_4 a2_5 t6 t7 t8 t9 t10 t11 w3  A12.out) ?_
   rintro e w13 ⟨rfl, hu⟩
   have hu14 := Aside0.mk hu
   clear hu
   refine ⟨_, rfl, ?_⟩
   simp only [Act.put, nm1, nm2, nm3, i64_w]
   refine step_call (wanted_none rfl) (by first | (go_simp; done) | (go_simp; rfl)) (spec_IsMove.calls K a0 a1 t6 t7 t8 t9 t10 t11 true t16 w13  A17.out) ?_
   rintro e w18 ⟨rfl, hu⟩
   have hu19 := Aside0.mk hu
   clear hu
   refine ⟨_, rfl, ?_⟩
   simp only [Act.put, nm1, nm2, nm3, i64_w]
   refine wpList_plain rfl (fun Ko hKo => ?_)
   go_simp
   refine hKo _ _ ?_
   clear hKo Ko
   try simp only [Act.put, nm1, nm2, nm3, i64_w]
   refine wpList_plain rfl (fun Ko hKo => ?_)
   go_simp
   refine hKo _ _ ?_
   clear hKo Ko
   try simp only [Act.put, nm1, nm2, nm3, i64_w]
   refine wpList_plain rfl (fun Ko hKo => ?_)
   go_simp
   refine hKo _ _ ?_
   clear hKo Ko
   try simp only [Act.put, nm1, nm2, nm3, i64_w]
   refine wpList_plain rfl (fun Ko hKo => ?_)
   go_simp
   refine hKo _ _ ?_
   clear hKo Ko
   try simp only [Act.put, nm1, nm2, nm3, i64_w]
   refine wpList_plain rfl (fun Ko hKo => ?_)
   go_simp
   refine hKo _ _ ?_
   clear hKo Ko
   try simp only [Act.put, nm1, nm2, nm3, i64_w]
   refine wpList_nil ?_
   (try simp only [Exit.then, Exit.inBlock, ↓reduceIte, Nat.reduceEqDiff])
   refine hK5 _ _ ?_
   refine wp_seq_k (fun K20 hK20 => ?_)
   refine wp_region_lit ?_
   refine wpList_plain rfl (fun Ko hKo => ?_)
   go_simp
   refine hKo _ _ ?_
   clear hKo Ko
   try simp only [Act.put, nm1, nm2, nm3, i64_w]
   refine wpList_plain rfl (fun Ko hKo => ?_)
   go_simp
   refine hKo _ _ ?_
   clear hKo Ko
   try simp only [Act.put, nm1, nm2, nm3, i64_w]
   have cl0 := (hb2.up (hu14.out.trans hu19.out)).cell (o := 0) rfl
   have cl1 := (hb2.up (hu14.out.trans hu19.out)).cell (o := 1) rfl
   have cl2 := (hb2.up (hu14.out.trans hu19.out)).cell (o := 2) rfl
   have cl3 := (hb2.up (hu14.out.trans hu19.out)).cell (o := 3) rfl
   have cl4 := (hb2.up (hu14.out.trans hu19.out)).cell (o := 4) rfl
   have cl5 := (hb2.up (hu14.out.trans hu19.out)).cell (o := 5) rfl
   refine wpList_plain rfl (fun Ko hKo => ?_)
   go_simp
   refine hKo _ _ ?_
   clear hKo Ko
   clear cl0 cl1 cl2 cl3 cl4 cl5
   try simp only [Act.put, nm1, nm2, nm3, i64_w]
   refine step_call (wanted_none rfl) (by first | (go_simp; done) | (go_simp; rfl)) (laws_toMove.calls K a2_0 a2_1 a2_2 a2_3 a2_4 a2_5 t21 t22 t23 t24 t25 t26 w18  A27.out) ?_
   rintro e w28 ⟨rfl, hu⟩
   have hu29 := Aside0.mk hu
   clear hu
   refine ⟨_, rfl, ?_⟩
   simp only [Act.put, nm1, nm2, nm3, i64_w]
   refine step_call (wanted_none rfl) (by first | (go_simp; done) | (go_simp; rfl)) (impl_IsMove.calls K a0 a1 t21 t22 t23 t24 t25 t26 false t31 w28  A32.out) ?_
   rintro e w33 ⟨rfl, hu⟩
   have hu34 := Aside0.mk hu
   clear hu
   refine ⟨_, rfl, ?_⟩
   simp only [Act.put, nm1, nm2, nm3, i64_w]
   refine wpList_plain rfl (fun Ko hKo => ?_)
   go_simp
   refine hKo _ _ ?_
   clear hKo Ko
   try simp only [Act.put, nm1, nm2, nm3, i64_w]
   refine wpList_plain rfl (fun Ko hKo => ?_)
   go_simp
   refine hKo _ _ ?_
   clear hKo Ko
   try simp only [Act.put, nm1, nm2, nm3, i64_w]
   refine wpList_plain rfl (fun Ko hKo => ?_)
   go_simp
   refine hKo _ _ ?_
   clear hKo Ko
   try simp only [Act.put, nm1, nm2, nm3, i64_w]
   refine wpList_plain rfl (fun Ko hKo => ?_)
   go_simp
   refine hKo _ _ ?_
   clear hKo Ko
   try simp only [Act.put, nm1, nm2, nm3, i64_w]
   refine wpList_plain rfl (fun Ko hKo => ?_)
   go_simp
   refine hKo _ _ ?_
   clear hKo Ko
   try simp only [Act.put, nm1, nm2, nm3, i64_w]
   refine wpList_nil ?_
   (try simp only [Exit.then, Exit.inBlock, ↓reduceIte, Nat.reduceEqDiff])
   refine hK20 _ _ ?_
   refine wp_seq_k (fun K35 hK35 => ?_)
   refine wp_seq_k (fun K36 hK36 => ?_)
   refine wp_region_lit ?_
   refine wpList_plain rfl (fun Ko hKo => ?_)
   go_simp
   refine hKo _ _ ?_
   clear hKo Ko
   try simp only [Act.put, nm1, nm2, nm3, i64_w]
   refine wpList_plain rfl (fun Ko hKo => ?_)
   go_simp
   refine hKo _ _ ?_
   clear hKo Ko
   try simp only [Act.put, nm1, nm2, nm3, i64_w]
   refine wpList_plain rfl (fun Ko hKo => ?_)
   go_simp
   refine hKo _ _ ?_
   clear hKo Ko
   try simp only [Act.put, nm1, nm2, nm3, i64_w]
   refine wpList_plain rfl (fun Ko hKo => ?_)
   go_simp
   refine hKo _ _ ?_
   clear hKo Ko
   try simp only [Act.put, nm1, nm2, nm3, i64_w]
   refine step_no rfl ?_
   simp only [Act.put, nm1, nm2, nm3, i64_w]
   refine step_no rfl ?_
   simp only [Act.put, nm1, nm2, nm3, i64_w]
   refine step_no rfl ?_
   simp only [Act.put, nm1, nm2, nm3, i64_w]
   refine wpList_plain rfl (fun Ko hKo => ?_)
   go_simp
   refine hKo _ _ ?_
   clear hKo Ko
   try simp only [Act.put, nm1, nm2, nm3, i64_w]
   refine wpList_nil ?_
   (try simp only [Exit.then, Exit.inBlock, ↓reduceIte, Nat.reduceEqDiff])
   refine hK36 _ _ ?_
   refine wp_cond_true rfl ?_
   refine wp_seq_k (fun K44 hK44 => ?_)
   refine wp_region_lit ?_
   refine wpList_plain rfl (fun Ko hKo => ?_)
   go_simp
   refine hKo _ _ ?_
   clear hKo Ko
   try simp only [Act.put, nm1, nm2, nm3, i64_w]
   refine wpList_nil ?_
   (try simp only [Exit.then, Exit.inBlock, ↓reduceIte, Nat.reduceEqDiff])
   refine hK44 _ _ ?_
   refine wp_ret ?_
   (try simp only [Exit.then, Exit.inBlock, ↓reduceIte, Nat.reduceEqDiff])
   refine hQf _ _ _ ?_
   exact bodyPost_ret (v := .bool false) (by first | rfl | (simp [results, Try.results4, go_sem]; done) | (simp [results, Try.results4, go_sem]; rfl)) rfl ⟨rfl, ((((hu4.out.trans hu14.out).trans hu19.out).trans hu29.out).trans hu34.out)⟩
  ·
   rw [if_neg c43] at H
   replace c43 := Bool.eq_false_iff.mpr c43
   subst c43
   by_cases c45 : (t31 == t16) = true
   ·
    rw [if_pos c45] at H
    have c45n : (t31 != t16) = false := by rw [bne, c45]; rfl
    obtain rfl := Option.some.inj H
    go_enter Try.func4, Try.ntmps4
    refine wp_hide (fun Qf hQf => ?_)
    refine wp_seq_k (fun K1 hK1 => ?_)
    refine wp_region_lit ?_
    refine step_new (cs := [.int .i64 a2_0, .int .i64 a2_1, .int .i64 a2_2, .int .i64 a2_3, .int .i64 a2_4, .int .i64 a2_5]) (T := 25) (f := fun b => .pointer (some ⟨b, 0, none⟩)) rfl (by first | (go_simp; done) | (go_simp; rfl)) ?_
    intro b2 w3 hu lb hb2
    simp only [Act.put, nm1, nm2, nm3, i64_w]
    have lbb2 := Aside0.mk lb
    have ltb2 := Aside0.mk hb2.lt
    clear lb
    have hu4 := Aside0.mk hu
    clear hu
    refine wpList_plain rfl (fun Ko hKo => ?_)
    go_simp
    refine hKo _ _ ?_
    clear hKo Ko
    try simp only [Act.put, nm1, nm2, nm3, i64_w]
    refine wpList_nil ?_
    (try simp only [Exit.then, Exit.inBlock, ↓reduceIte, Nat.reduceEqDiff])
    refine hK1 _ _ ?_
    refine wp_seq_k (fun K5 hK5 => ?_)
    refine wp_region_lit ?_
    refine wpList_plain rfl (fun Ko hKo => ?_)
    go_simp
    refine hKo _ _ ?_
    clear hKo Ko
    try simp only [Act.put, nm1, nm2, nm3, i64_w]
    refine wpList_plain rfl (fun Ko hKo => ?_)
    go_simp
    refine hKo _ _ ?_
    clear hKo Ko
    try simp only [Act.put, nm1, nm2, nm3, i64_w]
    have cl0 := hb2.cell (o := 0) rfl
    have cl1 := hb2.cell (o := 1) rfl
    have cl2 := hb2.cell (o := 2) rfl
    have cl3 := hb2.cell (o := 3) rfl
    have cl4 := hb2.cell (o := 4) rfl
    have cl5 := hb2.cell (o := 5) rfl
    refine wpList_plain rfl (fun Ko hKo => ?_)
    go_simp
    refine hKo _ _ ?_
    clear hKo Ko
    clear cl0 cl1 cl2 cl3 cl4 cl5
    try simp only [Act.put, nm1, nm2, nm3, i64_w]
    refine step_call (wanted_none rfl) (by first | (go_simp; done) | (go_simp; rfl)) (laws_toMove.calls K a2_0 a2_1 a2_2 a2_3 a2_4 a2_5 t6 t7 t8 t9 t10 t11 w3  A12.out) ?_
    rintro e w13 ⟨rfl, hu⟩
    have hu14 := Aside0.mk hu
    clear hu
    refine ⟨_, rfl, ?_⟩
    simp only [Act.put, nm1, nm2, nm3, i64_w]
    refine step_call (wanted_none rfl) (by first | (go_simp; done) | (go_simp; rfl)) (spec_IsMove.calls K a0 a1 t6 t7 t8 t9 t10 t11 false t16 w13  A17.out) ?_
    rintro e w18 ⟨rfl, hu⟩
    have hu19 := Aside0.mk hu
    clear hu
    refine ⟨_, rfl, ?_⟩
    simp only [Act.put, nm1, nm2, nm3, i64_w]
    refine wpList_plain rfl (fun Ko hKo => ?_)
    go_simp
    refine hKo _ _ ?_
    clear hKo Ko
    try simp only [Act.put, nm1, nm2, nm3, i64_w]
    refine wpList_plain rfl (fun Ko hKo => ?_)
    go_simp
    refine hKo _ _ ?_
    clear hKo Ko
    try simp only [Act.put, nm1, nm2, nm3, i64_w]
    refine wpList_plain rfl (fun Ko hKo => ?_)
    go_simp
    refine hKo _ _ ?_
    clear hKo Ko
    try simp only [Act.put, nm1, nm2, nm3, i64_w]
    refine wpList_plain rfl (fun Ko hKo => ?_)
    go_simp
    refine hKo _ _ ?_
    clear hKo Ko
    try simp only [Act.put, nm1, nm2, nm3, i64_w]
    refine wpList_plain rfl (fun Ko hKo => ?_)
    go_simp
    refine hKo _ _ ?_
    clear hKo Ko
    try simp only [Act.put, nm1, nm2, nm3, i64_w]
    refine wpList_nil ?_
    (try simp only [Exit.then, Exit.inBlock, ↓reduceIte, Nat.reduceEqDiff])
    refine hK5 _ _ ?_
    refine wp_seq_k (fun K20 hK20 => ?_)
    refine wp_region_lit ?_
    refine wpList_plain rfl (fun Ko hKo => ?_)
    go_simp
    refine hKo _ _ ?_
    clear hKo Ko
    try simp only [Act.put, nm1, nm2, nm3, i64_w]
    refine wpList_plain rfl (fun Ko hKo => ?_)
    go_simp
    refine hKo _ _ ?_
    clear hKo Ko
    try simp only [Act.put, nm1, nm2, nm3, i64_w]
    have cl0 := (hb2.up (hu14.out.trans hu19.out)).cell (o := 0) rfl
    have cl1 := (hb2.up (hu14.out.trans hu19.out)).cell (o := 1) rfl
    have cl2 := (hb2.up (hu14.out.trans hu19.out)).cell (o := 2) rfl
    have cl3 := (hb2.up (hu14.out.trans hu19.out)).cell (o := 3) rfl
    have cl4 := (hb2.up (hu14.out.trans hu19.out)).cell (o := 4) rfl
    have cl5 := (hb2.up (hu14.out.trans hu19.out)).cell (o := 5) rfl
    refine wpList_plain rfl (fun Ko hKo => ?_)
    go_simp
    refine hKo _ _ ?_
    clear hKo Ko
    clear cl0 cl1 cl2 cl3 cl4 cl5
    try simp only [Act.put, nm1, nm2, nm3, i64_w]
    refine step_call (wanted_none rfl) (by first | (go_simp; done) | (go_simp; rfl)) (laws_toMove.calls K a2_0 a2_1 a2_2 a2_3 a2_4 a2_5 t21 t22 t23 t24 t25 t26 w18  A27.out) ?_
    rintro e w28 ⟨rfl, hu⟩
    have hu29 := Aside0.mk hu
    clear hu
    refine ⟨_, rfl, ?_⟩
    simp only [Act.put, nm1, nm2, nm3, i64_w]
    refine step_call (wanted_none rfl) (by first | (go_simp; done) | (go_simp; rfl)) (impl_IsMove.calls K a0 a1 t21 t22 t23 t24 t25 t26 false t31 w28  A32.out) ?_
    rintro e w33 ⟨rfl, hu⟩
    have hu34 := Aside0.mk hu
    clear hu
    refine ⟨_, rfl, ?_⟩
    simp only [Act.put, nm1, nm2, nm3, i64_w]
    refine wpList_plain rfl (fun Ko hKo => ?_)
    go_simp
    refine hKo _ _ ?_
    clear hKo Ko
    try simp only [Act.put, nm1, nm2, nm3, i64_w]
    refine wpList_plain rfl (fun Ko hKo => ?_)
    go_simp
    refine hKo _ _ ?_
    clear hKo Ko
    try simp only [Act.put, nm1, nm2, nm3, i64_w]
    refine wpList_plain rfl (fun Ko hKo => ?_)
    go_simp
    refine hKo _ _ ?_
    clear hKo Ko
    try simp only [Act.put, nm1, nm2, nm3, i64_w]
    refine wpList_plain rfl (fun Ko hKo => ?_)
    go_simp
    refine hKo _ _ ?_
    clear hKo Ko
    try simp only [Act.put, nm1, nm2, nm3, i64_w]
    refine wpList_plain rfl (fun Ko hKo => ?_)
    go_simp
    refine hKo _ _ ?_
    clear hKo Ko
    try simp only [Act.put, nm1, nm2, nm3, i64_w]
    refine wpList_nil ?_
    (try simp only [Exit.then, Exit.inBlock, ↓reduceIte, Nat.reduceEqDiff])
    refine hK20 _ _ ?_
    refine wp_seq_k (fun K35 hK35 => ?_)
    refine wp_seq_k (fun K36 hK36 => ?_)
    refine wp_region_lit ?_
    refine wpList_plain rfl (fun Ko hKo => ?_)
    go_simp
    refine hKo _ _ ?_
    clear hKo Ko
    try simp only [Act.put, nm1, nm2, nm3, i64_w]
    refine wpList_plain rfl (fun Ko hKo => ?_)
    go_simp
    refine hKo _ _ ?_
    clear hKo Ko
    try simp only [Act.put, nm1, nm2, nm3, i64_w]
    refine wpList_plain rfl (fun Ko hKo => ?_)
    go_simp
    refine hKo _ _ ?_
    clear hKo Ko
    try simp only [Act.put, nm1, nm2, nm3, i64_w]
    refine wpList_plain rfl (fun Ko hKo => ?_)
    go_simp
    refine hKo _ _ ?_
    clear hKo Ko
    try simp only [Act.put, nm1, nm2, nm3, i64_w]
    refine wpList_step (fun Ko hKo => ?_)
    go_simp
    refine hKo _ _ ?_
    clear hKo Ko
    try simp only [Act.put, nm1, nm2, nm3, i64_w]
    refine wpList_step (fun Ko hKo => ?_)
    go_simp
    refine hKo _ _ ?_
    clear hKo Ko
    try simp only [Act.put, nm1, nm2, nm3, i64_w]
    refine wpList_step (fun Ko hKo => ?_)
    go_simp
    refine hKo _ _ ?_
    clear hKo Ko
    try simp only [Act.put, nm1, nm2, nm3, i64_w]
    refine wpList_plain rfl (fun Ko hKo => ?_)
    go_simp
    refine hKo _ _ ?_
    clear hKo Ko
    try simp only [Act.put, nm1, nm2, nm3, i64_w]
    refine wpList_nil ?_
    (try simp only [Exit.then, Exit.inBlock, ↓reduceIte, Nat.reduceEqDiff])
    refine hK36 _ _ ?_
    refine wp_cond_false rfl ?_
    refine wp_skip ?_
    (try simp only [Exit.then, Exit.inBlock, ↓reduceIte, Nat.reduceEqDiff])
    refine hK35 _ _ ?_
    refine wp_seq_k (fun K46 hK46 => ?_)
    refine wp_region_lit ?_
    refine wpList_plain rfl (fun Ko hKo => ?_)
    go_simp
    refine hKo _ _ ?_
    clear hKo Ko
    try simp only [Act.put, nm1, nm2, nm3, i64_w]
    refine wpList_nil ?_
    (try simp only [Exit.then, Exit.inBlock, ↓reduceIte, Nat.reduceEqDiff])
    refine hK46 _ _ ?_
    refine wp_ret ?_
    (try simp only [Exit.then, Exit.inBlock, ↓reduceIte, Nat.reduceEqDiff])
    refine hQf _ _ _ ?_
    exact bodyPost_ret (v := .bool true) (by first | rfl | (simp [results, Try.results4, go_sem]; done) | (simp [results, Try.results4, go_sem]; rfl)) rfl ⟨rfl, ((((hu4.out.trans hu14.out).trans hu19.out).trans hu29.out).trans hu34.out)⟩
   ·
    rw [if_neg c45] at H
    replace c45 := Bool.eq_false_iff.mpr c45
    have c45n : (t31 != t16) = true := by rw [bne, c45]; rfl
    have c45p : ¬ t31 = t16 := fun e => by simp [e] at c45
    obtain rfl := Option.some.inj H
    go_enter Try.func4, Try.ntmps4
    refine wp_hide (fun Qf hQf => ?_)
    refine wp_seq_k (fun K1 hK1 => ?_)
    refine wp_region_lit ?_
    refine step_new (cs := [.int .i64 a2_0, .int .i64 a2_1, .int .i64 a2_2, .int .i64 a2_3, .int .i64 a2_4, .int .i64 a2_5]) (T := 25) (f := fun b => .pointer (some ⟨b, 0, none⟩)) rfl (by first | (go_simp; done) | (go_simp; rfl)) ?_
    intro b2 w3 hu lb hb2
    simp only [Act.put, nm1, nm2, nm3, i64_w]
    have lbb2 := Aside0.mk lb
    have ltb2 := Aside0.mk hb2.lt
    clear lb
    have hu4 := Aside0.mk hu
    clear hu
    refine wpList_plain rfl (fun Ko hKo => ?_)
    go_simp
    refine hKo _ _ ?_
    clear hKo Ko
    try simp only [Act.put, nm1, nm2, nm3, i64_w]
    refine wpList_nil ?_
    (try simp only [Exit.then, Exit.inBlock, ↓reduceIte, Nat.reduceEqDiff])
    refine hK1 _ _ ?_
    refine wp_seq_k (fun K5 hK5 => ?_)
    refine wp_region_lit ?_
    refine wpList_plain rfl (fun Ko hKo => ?_)
    go_simp
    refine hKo _ _ ?_
    clear hKo Ko
    try simp only [Act.put, nm1, nm2, nm3, i64_w]
    refine wpList_plain rfl (fun Ko hKo => ?_)
    go_simp
    refine hKo _ _ ?_
    clear hKo Ko
    try simp only [Act.put, nm1, nm2, nm3, i64_w]
    have cl0 := hb2.cell (o := 0) rfl
    have cl1 := hb2.cell (o := 1) rfl
    have cl2 := hb2.cell (o := 2) rfl
    have cl3 := hb2.cell (o := 3) rfl
    have cl4 := hb2.cell (o := 4) rfl
    have cl5 := hb2.cell (o := 5) rfl
    refine wpList_plain rfl (fun Ko hKo => ?_)
    go_simp
    refine hKo _ _ ?_
    clear hKo Ko
    clear cl0 cl1 cl2 cl3 cl4 cl5
    try simp only [Act.put, nm1, nm2, nm3, i64_w]
    refine step_call (wanted_none rfl) (by first | (go_simp; done) | (go_simp; rfl)) (laws_toMove.calls K a2_0 a2_1 a2_2 a2_3 a2_4 a2_5 t6 t7 t8 t9 t10 t11 w3  A12.out) ?_
    rintro e w13 ⟨rfl, hu⟩
    have hu14 := Aside0.mk hu
    clear hu
    refine ⟨_, rfl, ?_⟩
    simp only [Act.put, nm1, nm2, nm3, i64_w]
    refine step_call (wanted_none rfl) (by first | (go_simp; done) | (go_simp; rfl)) (spec_IsMove.calls K a0 a1 t6 t7 t8 t9 t10 t11 false t16 w13  A17.out) ?_
    rintro e w18 ⟨rfl, hu⟩
    have hu19 := Aside0.mk hu
    clear hu
    refine ⟨_, rfl, ?_⟩
    simp only [Act.put, nm1, nm2, nm3, i64_w]
    refine wpList_plain rfl (fun Ko hKo => ?_)
    go_simp
    refine hKo _ _ ?_
    clear hKo Ko
    try simp only [Act.put, nm1, nm2, nm3, i64_w]
    refine wpList_plain rfl (fun Ko hKo => ?_)
    go_simp
    refine hKo _ _ ?_
    clear hKo Ko
    try simp only [Act.put, nm1, nm2, nm3, i64_w]
    refine wpList_plain rfl (fun Ko hKo => ?_)
    go_simp
    refine hKo _ _ ?_
    clear hKo Ko
    try simp only [Act.put, nm1, nm2, nm3, i64_w]
    refine wpList_plain rfl (fun Ko hKo => ?_)
    go_simp
    refine hKo _ _ ?_
    clear hKo Ko
    try simp only [Act.put, nm1, nm2, nm3, i64_w]
    refine wpList_plain rfl (fun Ko hKo => ?_)
    go_simp
    refine hKo _ _ ?_
    clear hKo Ko
    try simp only [Act.put, nm1, nm2, nm3, i64_w]
    refine wpList_nil ?_
    (try simp only [Exit.then, Exit.inBlock, ↓reduceIte, Nat.reduceEqDiff])
    refine hK5 _ _ ?_
    refine wp_seq_k (fun K20 hK20 => ?_)
    refine wp_region_lit ?_
    refine wpList_plain rfl (fun Ko hKo => ?_)
    go_simp
    refine hKo _ _ ?_
    clear hKo Ko
    try simp only [Act.put, nm1, nm2, nm3, i64_w]
    refine wpList_plain rfl (fun Ko hKo => ?_)
    go_simp
    refine hKo _ _ ?_
    clear hKo Ko
    try simp only [Act.put, nm1, nm2, nm3, i64_w]
    have cl0 := (hb2.up (hu14.out.trans hu19.out)).cell (o := 0) rfl
    have cl1 := (hb2.up (hu14.out.trans hu19.out)).cell (o := 1) rfl
    have cl2 := (hb2.up (hu14.out.trans hu19.out)).cell (o := 2) rfl
    have cl3 := (hb2.up (hu14.out.trans hu19.out)).cell (o := 3) rfl
    have cl4 := (hb2.up (hu14.out.trans hu19.out)).cell (o := 4) rfl
    have cl5 := (hb2.up (hu14.out.trans hu19.out)).cell (o := 5) rfl
    refine wpList_plain rfl (fun Ko hKo => ?_)
    go_simp
    refine hKo _ _ ?_
    clear hKo Ko
    clear cl0 cl1 cl2 cl3 cl4 cl5
    try simp only [Act.put, nm1, nm2, nm3, i64_w]
    refine step_call (wanted_none rfl) (by first | (go_simp; done) | (go_simp; rfl)) (laws_toMove.calls K a2_0 a2_1 a2_2 a2_3 a2_4 a2_5 t21 t22 t23 t24 t25 t26 w18  A27.out) ?_
    rintro e w28 ⟨rfl, hu⟩
    have hu29 := Aside0.mk hu
    clear hu
    refine ⟨_, rfl, ?_⟩
    simp only [Act.put, nm1, nm2, nm3, i64_w]
    refine step_call (wanted_none rfl) (by first | (go_simp; done) | (go_simp; rfl)) (impl_IsMove.calls K a0 a1 t21 t22 t23 t24 t25 t26 false t31 w28  A32.out) ?_
    rintro e w33 ⟨rfl, hu⟩
    have hu34 := Aside0.mk hu
    clear hu
    refine ⟨_, rfl, ?_⟩
    simp only [Act.put, nm1, nm2, nm3, i64_w]
    refine wpList_plain rfl (fun Ko hKo => ?_)
    go_simp
    refine hKo _ _ ?_
    clear hKo Ko
    try simp only [Act.put, nm1, nm2, nm3, i64_w]
    refine wpList_plain rfl (fun Ko hKo => ?_)
    go_simp
    refine hKo _ _ ?_
    clear hKo Ko
    try simp only [Act.put, nm1, nm2, nm3, i64_w]
    refine wpList_plain rfl (fun Ko hKo => ?_)
    go_simp
    refine hKo _ _ ?_
    clear hKo Ko
    try simp only [Act.put, nm1, nm2, nm3, i64_w]
    refine wpList_plain rfl (fun Ko hKo => ?_)
    go_simp
    refine hKo _ _ ?_
    clear hKo Ko
    try simp only [Act.put, nm1, nm2, nm3, i64_w]
    refine wpList_plain rfl (fun Ko hKo => ?_)
    go_simp
    refine hKo _ _ ?_
    clear hKo Ko
    try simp only [Act.put, nm1, nm2, nm3, i64_w]
    refine wpList_nil ?_
    (try simp only [Exit.then, Exit.inBlock, ↓reduceIte, Nat.reduceEqDiff])
    refine hK20 _ _ ?_
    refine wp_seq_k (fun K35 hK35 => ?_)
    refine wp_seq_k (fun K36 hK36 => ?_)
    refine wp_region_lit ?_
    refine wpList_plain rfl (fun Ko hKo => ?_)
    go_simp
    refine hKo _ _ ?_
    clear hKo Ko
    try simp only [Act.put, nm1, nm2, nm3, i64_w]
    refine wpList_plain rfl (fun Ko hKo => ?_)
    go_simp
    refine hKo _ _ ?_
    clear hKo Ko
    try simp only [Act.put, nm1, nm2, nm3, i64_w]
    refine wpList_plain rfl (fun Ko hKo => ?_)
    go_simp
    refine hKo _ _ ?_
    clear hKo Ko
    try simp only [Act.put, nm1, nm2, nm3, i64_w]
    refine wpList_plain rfl (fun Ko hKo => ?_)
    go_simp
    refine hKo _ _ ?_
    clear hKo Ko
    try simp only [Act.put, nm1, nm2, nm3, i64_w]
    refine wpList_step (fun Ko hKo => ?_)
    go_simp
    refine hKo _ _ ?_
    clear hKo Ko
    try simp only [Act.put, nm1, nm2, nm3, i64_w]
    refine wpList_step (fun Ko hKo => ?_)
    go_simp
    refine hKo _ _ ?_
    clear hKo Ko
    try simp only [Act.put, nm1, nm2, nm3, i64_w]
    refine wpList_step (fun Ko hKo => ?_)
    go_simp
    refine hKo _ _ ?_
    clear hKo Ko
    try simp only [Act.put, nm1, nm2, nm3, i64_w]
    refine wpList_plain rfl (fun Ko hKo => ?_)
    go_simp
    refine hKo _ _ ?_
    clear hKo Ko
    try simp only [Act.put, nm1, nm2, nm3, i64_w]
    refine wpList_nil ?_
    (try simp only [Exit.then, Exit.inBlock, ↓reduceIte, Nat.reduceEqDiff])
    refine hK36 _ _ ?_
    refine wp_cond_true rfl ?_
    refine wp_seq_k (fun K47 hK47 => ?_)
    refine wp_region_lit ?_
    refine wpList_plain rfl (fun Ko hKo => ?_)
    go_simp
    refine hKo _ _ ?_
    clear hKo Ko
    try simp only [Act.put, nm1, nm2, nm3, i64_w]
    refine wpList_nil ?_
    (try simp only [Exit.then, Exit.inBlock, ↓reduceIte, Nat.reduceEqDiff])
    refine hK47 _ _ ?_
    refine wp_ret ?_
    (try simp only [Exit.then, Exit.inBlock, ↓reduceIte, Nat.reduceEqDiff])
    refine hQf _ _ _ ?_
    exact bodyPost_ret (v := .bool false) (by first | rfl | (simp [results, Try.results4, go_sem]; done) | (simp [results, Try.results4, go_sem]; rfl)) rfl ⟨rfl, ((((hu4.out.trans hu14.out).trans hu19.out).trans hu29.out).trans hu34.out)⟩

end Go.Proofs.Ytbibgeoohpgaeaa
