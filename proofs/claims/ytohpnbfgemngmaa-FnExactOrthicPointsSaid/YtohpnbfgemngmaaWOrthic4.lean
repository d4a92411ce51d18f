/- The walks: each of these functions of the program computes what its plain function says: impl_OrthicPoints, laws_eqPoint, laws_eqPointS, laws_markPointS. -/
import Derived.Test.YtohpnbfgemngmaaProg
import Derived.Test.YtohpnbfgemngmaaD1
import Derived.WalkKit
import Derived.KernelRfl
import Derived.BigQuiet
import Derived.Deep.LoopGhost
import Derived.Laws.StructEq
import Derived.Test.YtohpnbfgemngmaaWOrthic3
namespace Go.Proofs.Ytohpnbfgemngmaa
open Go Go.RowKit
attribute [local go_sem] Oper.quiet Oper.quietAt Oper.quietUpon
set_option linter.unusedVariables false
set_option linter.unusedSimpArgs false

set_option maxHeartbeats 4000000 in
set_option maxRecDepth 100000 in
theorem impl_OrthicPoints.calls (K : Nat) (a0 : Int) (a1 : Int) (a2_0 : Int) (a2_1 : Int) (a3_0 : Int) (a3_1 : Int) (a4_0 : Int) (a4_1 : Int) (r0 : List (Int × Int)) (r1 : Int) (w : World)  (h : impl_OrthicPoints.f K a0 a1 a2_0 a2_1 a3_0 a3_1 a4_0 a4_1 = some (r0, r1)) :
    Calls Try.prog 38 #[.int .i64 a0, .int .i64 a1, .agg #[.int .i64 a2_0, .int .i64 a2_1], .agg #[.int .i64 a3_0, .int .i64 a3_1], .agg #[.int .i64 a4_0, .int .i64 a4_1]] w fun e w' => ∃ (Ar0 : Option Addr) (cr0 : Nat), e = .returned (.tuple #[.slice Ar0 r0.length cr0, .int .i64 r1]) ∧ Own e2 25 w' w.heap.size (.slice Ar0 r0.length cr0) r0 ∧ Up w w' := by
 have H : (((impl_triangle.f K a0 a1 a2_0 a2_1 a3_0 a3_1 a4_0 a4_1).bind fun t13 => (if (t13 == 0) = true then ((impl_lineThrough.f K a0 a3_0 a3_1 a4_0 a4_1).bind fun (t20, t21, t22) => ((impl_lineThrough.f K a0 a2_0 a2_1 a4_0 a4_1).bind fun (t24, t25, t26) => ((impl_lineThrough.f K a0 a2_0 a2_1 a3_0 a3_1).bind fun (t28, t29, t30) => ((impl_isNull.f K a0 a1 t20 t21 t22).bind fun t58 => (if t58 = true then some ([], 5) else ((impl_foot.f K a0 a1 a2_0 a2_1 t20 t21 t22).bind fun (t66, t67) => ((impl_isNull.f K a0 a1 t24 t25 t26).bind fun t100 => (if t100 = true then some ([], 5) else ((impl_foot.f K a0 a1 a3_0 a3_1 t24 t25 t26).bind fun (t108, t109) => (if decide ((([] : List (Int × Int)) ++ [(t66, t67)]).length ≤ 1000000) = true then ((impl_isNull.f K a0 a1 t28 t29 t30).bind fun t142 => (if t142 = true then some ([], 5) else ((impl_foot.f K a0 a1 a4_0 a4_1 t28 t29 t30).bind fun (t150, t151) => (if decide (((([] : List (Int × Int)) ++ [(t66, t67)]) ++ [(t108, t109)]).length ≤ 1000000) = true then some ((((([] : List (Int × Int)) ++ [(t66, t67)]) ++ [(t108, t109)]) ++ [(t150, t151)]), 0) else none)))) else none)))))))))) else some ([], t13))) : Option (List (Int × Int) × Int)) = some (r0, r1) := h
 clear h
 replace H := Option.bind_eq_some_iff.mp H
 obtain ⟨t13, A14, H⟩ := H
 replace A14 := Aside0.mk A14
 try dsimp only at H
 by_cases c18 : (t13 == 0) = true
 ·
  rw [if_pos c18] at H
  have c18n : (t13 != 0) = false := by rw [bne, c18]; rfl
  replace H := Option.bind_eq_some_iff.mp H
  obtain ⟨⟨t20, t21, t22⟩, A23, H⟩ := H
  replace A23 := Aside0.mk A23
  try dsimp only at H
  replace H := Option.bind_eq_some_iff.mp H
  obtain ⟨⟨t24, t25, t26⟩, A27, H⟩ := H
  replace A27 := Aside0.mk A27
  try dsimp only at H
  replace H := Option.bind_eq_some_iff.mp H
  obtain ⟨⟨t28, t29, t30⟩, A31, H⟩ := H
  replace A31 := Aside0.mk A31
  try dsimp only at H
  replace H := Option.bind_eq_some_iff.mp H
  obtain ⟨t58, A59, H⟩ := H
  replace A59 := Aside0.mk A59
  try dsimp only at H
  by_cases c62 : (t58) = true
  ·
   rw [if_pos c62] at H
   subst c62
   simp only [Option.some.injEq, Prod.mk.injEq] at H
   obtain ⟨rfl, rfl⟩ := H
   go_enter Try.func38, Try.ntmps38
   refine wp_hide (fun Qf hQf => ?_)
   refine wp_seq_k (fun K1 hK1 => ?_)
   refine wp_region_lit ?_
   refine step_new (cs := [.int .i64 a2_0, .int .i64 a2_1]) (T := 25) (f := fun b => .pointer (some ⟨b, 0, none⟩)) rfl (by first | (go_simp; done) | (go_simp; rfl)) ?_
   intro b2 w3 hu lb hb2
   simp only [Act.put, nm1, nm2, nm3, i64_w]
   have lbb2 := Aside0.mk lb
   have ltb2 := Aside0.mk hb2.lt
   clear lb
   have hu4 := Aside0.mk hu
   clear hu
   refine step_new (cs := [.int .i64 a3_0, .int .i64 a3_1]) (T := 25) (f := fun b => .pointer (some ⟨b, 0, none⟩)) rfl (by first | (go_simp; done) | (go_simp; rfl)) ?_
   intro b5 w6 hu lb hb5
   simp only [Act.put, nm1, nm2, nm3, i64_w]
   have lbb5 := Aside0.mk lb
   have ltb5 := Aside0.mk hb5.lt
   clear lb
   have hu7 := Aside0.mk hu
   clear hu
   refine step_new (cs := [.int .i64 a4_0, .int .i64 a4_1]) (T := 25) (f := fun b => .pointer (some ⟨b, 0, none⟩)) rfl (by first | (go_simp; done) | (go_simp; rfl)) ?_
   intro b8 w9 hu lb hb8
   simp only [Act.put, nm1, nm2, nm3, i64_w]
   have lbb8 := Aside0.mk lb
   have ltb8 := Aside0.mk hb8.lt
   clear lb
   have hu10 := Aside0.mk hu
   clear hu
   refine wpList_plain rfl (fun Ko hKo => ?_)
   go_simp
   refine hKo _ _ ?_
   clear hKo Ko
   try simp only [Act.put, nm1, nm2, nm3, i64_w]
   refine wpList_plain rfl (fun Ko hKo => ?_)
   go_simp
   refine hKo _ _ ?_
   clear hKo Ko
   try simp only [Act.put, nm1, nm2, nm3, i64_w]
   refine wpList_nil ?_
   (try simp only [Exit.then, Exit.inBlock, ↓reduceIte, Nat.reduceEqDiff])
   refine hK1 _ _ ?_
   refine wp_seq_k (fun K11 hK11 => ?_)
   refine wp_seq_k (fun K12 hK12 => ?_)
   refine wp_region_lit ?_
   refine wpList_plain rfl (fun Ko hKo => ?_)
   go_simp
   refine hKo _ _ ?_
   clear hKo Ko
   try simp only [Act.put, nm1, nm2, nm3, i64_w]
   refine wpList_plain rfl (fun Ko hKo => ?_)
   go_simp
   refine hKo _ _ ?_
   clear hKo Ko
   try simp only [Act.put, nm1, nm2, nm3, i64_w]
   have cl0 := (hb2.up (hu7.out.trans hu10.out)).cell (o := 0) rfl
   have cl1 := (hb2.up (hu7.out.trans hu10.out)).cell (o := 1) rfl
   refine wpList_plain rfl (fun Ko hKo => ?_)
   go_simp
   refine hKo _ _ ?_
   clear hKo Ko
   clear cl0 cl1
   try simp only [Act.put, nm1, nm2, nm3, i64_w]
   have cl0 := (hb5.up hu10.out).cell (o := 0) rfl
   have cl1 := (hb5.up hu10.out).cell (o := 1) rfl
   refine wpList_plain rfl (fun Ko hKo => ?_)
   go_simp
   refine hKo _ _ ?_
   clear hKo Ko
   clear cl0 cl1
   try simp only [Act.put, nm1, nm2, nm3, i64_w]
   have cl0 := hb8.cell (o := 0) rfl
   have cl1 := hb8.cell (o := 1) rfl
   refine wpList_plain rfl (fun Ko hKo => ?_)
   go_simp
   refine hKo _ _ ?_
   clear hKo Ko
   clear cl0 cl1
   try simp only [Act.put, nm1, nm2, nm3, i64_w]
   refine step_call (wanted_none rfl) (by first | (go_simp; done) | (go_simp; rfl)) (impl_triangle.calls K a0 a1 a2_0 a2_1 a3_0 a3_1 a4_0 a4_1 t13 w9  A14.out) ?_
   rintro e w15 ⟨rfl, hu⟩
   have hu16 := Aside0.mk hu
   clear hu
   refine ⟨_, rfl, ?_⟩
   simp only [Act.put, nm1, nm2, nm3, i64_w]
   refine wpList_plain rfl (fun Ko hKo => ?_)
   go_simp
   refine hKo _ _ ?_
   clear hKo Ko
   try simp only [Act.put, nm1, nm2, nm3, i64_w]
   refine wpList_nil ?_
   (try simp only [Exit.then, Exit.inBlock, ↓reduceIte, Nat.reduceEqDiff])
   refine hK12 _ _ ?_
   refine wp_seq_k (fun K17 hK17 => ?_)
   refine wp_region_lit ?_
   refine wpList_plain rfl (fun Ko hKo => ?_)
   go_simp
   refine hKo _ _ ?_
   clear hKo Ko
   try simp only [Act.put, nm1, nm2, nm3, i64_w]
   refine wpList_plain rfl (fun Ko hKo => ?_)
   go_simp
   refine hKo _ _ ?_
   clear hKo Ko
   try simp only [Act.put, nm1, nm2, nm3, i64_w]
   refine wpList_nil ?_
   (try simp only [Exit.then, Exit.inBlock, ↓reduceIte, Nat.reduceEqDiff])
   refine hK17 _ _ ?_
   refine wp_cond_false rfl ?_
   refine wp_skip ?_
   (try simp only [Exit.then, Exit.inBlock, ↓reduceIte, Nat.reduceEqDiff])
   refine hK11 _ _ ?_
   refine wp_seq_k (fun K19 hK19 => ?_)
   refine' wp_region_up 13 [Slot.det _, Slot.det _, Slot.det _, Slot.det (.agg #[.int .i64 t20, .int .i64 t21, .int .i64 t22]), Slot.det _, Slot.det _, Slot.det _, Slot.det (.agg #[.int .i64 t24, .int .i64 t25, .int .i64 t26]), Slot.det _, Slot.det _, Slot.det _, Slot.det (.agg #[.int .i64 t28, .int .i64 t29, .int .i64 t30]), Slot.any (SlTo 3 [.int .i64 t20, .int .i64 t21, .int .i64 t22, .int .i64 t24, .int .i64 t25, .int .i64 t26, .int .i64 t28, .int .i64 t29, .int .i64 t30] 39 w15.heap.size) false] (by kernel_rfl) (by kernel_rfl) ?main
   case main =>
    simp only [List.take_succ_cons, List.take_zero]
    refine wpK_ops rfl (fun w1 hu => ?_) ?_
    · clear hu
      go_simp
      first | done | rfl
    simp only [Act.put, nm1, nm2, nm3, i64_w]
    refine wpK_ops rfl (fun w1 hu => ?_) ?_
    · have cl0 := ((hb5.up (hu10.out.trans hu16.out)).up ((Up.refl _).drew.trans hu)).cell (o := 0) rfl
      have cl1 := ((hb5.up (hu10.out.trans hu16.out)).up ((Up.refl _).drew.trans hu)).cell (o := 1) rfl
      go_simp
      first | done | rfl
    simp only [Act.put, nm1, nm2, nm3, i64_w]
    refine wpK_ops rfl (fun w1 hu => ?_) ?_
    · have cl0 := ((hb8.up hu16.out).up ((Up.refl _).drew.trans hu)).cell (o := 0) rfl
      have cl1 := ((hb8.up hu16.out).up ((Up.refl _).drew.trans hu)).cell (o := 1) rfl
      go_simp
      first | done | rfl
    simp only [Act.put, nm1, nm2, nm3, i64_w]
    refine wpK_ops rfl (fun w1 hu => ?_) ?_
    · have hcl := (impl_lineThrough.calls K a0 a3_0 a3_1 a4_0 a4_1 t20 t21 t22 w1  A23.out)
      clear hu
      replace hcl := Aside0.mk hcl
      go_simp
      exact hcl.out
    simp only [Act.put, nm1, nm2, nm3, i64_w]
    refine wpK_ops rfl (fun w1 hu => ?_) ?_
    · clear hu
      go_simp
      first | done | rfl
    simp only [Act.put, nm1, nm2, nm3, i64_w]
    refine wpK_ops rfl (fun w1 hu => ?_) ?_
    · have cl0 := ((hb2.up ((hu7.out.trans hu10.out).trans hu16.out)).up ((Up.refl _).drew.trans hu)).cell (o := 0) rfl
      have cl1 := ((hb2.up ((hu7.out.trans hu10.out).trans hu16.out)).up ((Up.refl _).drew.trans hu)).cell (o := 1) rfl
      go_simp
      first | done | rfl
    simp only [Act.put, nm1, nm2, nm3, i64_w]
    refine wpK_ops rfl (fun w1 hu => ?_) ?_
    · have cl0 := ((hb8.up hu16.out).up ((Up.refl _).drew.trans hu)).cell (o := 0) rfl
      have cl1 := ((hb8.up hu16.out).up ((Up.refl _).drew.trans hu)).cell (o := 1) rfl
      go_simp
      first | done | rfl
    simp only [Act.put, nm1, nm2, nm3, i64_w]
    refine wpK_ops rfl (fun w1 hu => ?_) ?_
    · have hcl := (impl_lineThrough.calls K a0 a2_0 a2_1 a4_0 a4_1 t24 t25 t26 w1  A27.out)
      clear hu
      replace hcl := Aside0.mk hcl
      go_simp
      exact hcl.out
    simp only [Act.put, nm1, nm2, nm3, i64_w]
    refine wpK_ops rfl (fun w1 hu => ?_) ?_
    · clear hu
      go_simp
      first | done | rfl
    simp only [Act.put, nm1, nm2, nm3, i64_w]
    refine wpK_ops rfl (fun w1 hu => ?_) ?_
    · have cl0 := ((hb2.up ((hu7.out.trans hu10.out).trans hu16.out)).up ((Up.refl _).drew.trans hu)).cell (o := 0) rfl
      have cl1 := ((hb2.up ((hu7.out.trans hu10.out).trans hu16.out)).up ((Up.refl _).drew.trans hu)).cell (o := 1) rfl
      go_simp
      first | done | rfl
    simp only [Act.put, nm1, nm2, nm3, i64_w]
    refine wpK_ops rfl (fun w1 hu => ?_) ?_
    · have cl0 := ((hb5.up (hu10.out.trans hu16.out)).up ((Up.refl _).drew.trans hu)).cell (o := 0) rfl
      have cl1 := ((hb5.up (hu10.out.trans hu16.out)).up ((Up.refl _).drew.trans hu)).cell (o := 1) rfl
      go_simp
      first | done | rfl
    simp only [Act.put, nm1, nm2, nm3, i64_w]
    refine wpK_ops rfl (fun w1 hu => ?_) ?_
    · have hcl := (impl_lineThrough.calls K a0 a2_0 a2_1 a3_0 a3_1 t28 t29 t30 w1  A31.out)
      clear hu
      replace hcl := Aside0.mk hcl
      go_simp
      exact hcl.out
    simp only [Act.put, nm1, nm2, nm3, i64_w]
    refine wpK_any rfl (stab_sl _ _ _ _) (fun w1 hu _ => fresh_sl (by first | (go_simp; done) | (go_simp; rfl)) ((Up.refl _).drew.trans hu).size) (fun v32 => ?_)
    simp only [Act.put, nm1, nm2, nm3, i64_w]
    refine wpK_nil ?_
    intro w34 hu hap
    simp only [List.drop_succ_cons, List.drop_zero]
    replace hu := (Up.refl _).drew.trans hu
    obtain ⟨-, -, ⟨b33, e0, hb33, lbb33⟩, -⟩ := hap
    replace lbb33 := Aside0.mk lbb33
    have ltb33 := Aside0.mk hb33.lt
    dsimp only at e0
    subst e0
    have hu35 := Aside0.mk hu
    clear hu
    refine wpList_plain rfl (fun Ko hKo => ?_)
    go_simp
    refine hKo _ _ ?_
    clear hKo Ko
    try simp only [Act.put, nm1, nm2, nm3, i64_w]
    refine wpList_nil ?_
    (try simp only [Exit.then, Exit.inBlock, ↓reduceIte, Nat.reduceEqDiff])
    refine hK19 _ _ ?_
    refine wp_seq_k (fun K36 hK36 => ?_)
    refine wp_region_lit ?_
    refine step_new (cs := []) (T := 25) (f := fun b => .slice (some ⟨b, 0, none⟩) 0 0) rfl (by first | (go_simp; done) | (go_simp; rfl)) ?_
    intro b37 w38 hu lb hb37
    simp only [Act.put, nm1, nm2, nm3, i64_w]
    have lbb37 := Aside0.mk lb
    have ltb37 := Aside0.mk hb37.lt
    clear lb
    have hu39 := Aside0.mk hu
    clear hu
    refine wpList_plain rfl (fun Ko hKo => ?_)
    go_simp
    refine hKo _ _ ?_
    clear hKo Ko
    try simp only [Act.put, nm1, nm2, nm3, i64_w]
    refine wpList_nil ?_
    (try simp only [Exit.then, Exit.inBlock, ↓reduceIte, Nat.reduceEqDiff])
    refine hK36 _ _ ?_
    refine wp_seq_k (fun K40 hK40 => ?_)
    refine wp_seq_k (fun K41 hK41 => ?_)
    refine wp_region_lit ?_
    have cl0 := (hb2.up ((((hu7.out.trans hu10.out).trans hu16.out).trans hu35.out).trans hu39.out)).cell (o := 0) rfl
    have cl1 := (hb2.up ((((hu7.out.trans hu10.out).trans hu16.out).trans hu35.out).trans hu39.out)).cell (o := 1) rfl
    refine wpList_plain rfl (fun Ko hKo => ?_)
    go_simp
    refine hKo _ _ ?_
    clear hKo Ko
    clear cl0 cl1
    try simp only [Act.put, nm1, nm2, nm3, i64_w]
    have cl0 := (hb5.up (((hu10.out.trans hu16.out).trans hu35.out).trans hu39.out)).cell (o := 0) rfl
    have cl1 := (hb5.up (((hu10.out.trans hu16.out).trans hu35.out).trans hu39.out)).cell (o := 1) rfl
    refine wpList_plain rfl (fun Ko hKo => ?_)
    go_simp
    refine hKo _ _ ?_
    clear hKo Ko
    clear cl0 cl1
    try simp only [Act.put, nm1, nm2, nm3, i64_w]
    have cl0 := (hb8.up ((hu16.out.trans hu35.out).trans hu39.out)).cell (o := 0) rfl
    have cl1 := (hb8.up ((hu16.out.trans hu35.out).trans hu39.out)).cell (o := 1) rfl
    refine wpList_plain rfl (fun Ko hKo => ?_)
    go_simp
    refine hKo _ _ ?_
    clear hKo Ko
    clear cl0 cl1
    try simp only [Act.put, nm1, nm2, nm3, i64_w]
    refine step_new (cs := [.int .i64 a2_0, .int .i64 a2_1, .int .i64 a3_0, .int .i64 a3_1, .int .i64 a4_0, .int .i64 a4_1]) (T := 25) (f := fun b => .slice (some ⟨b, 0, none⟩) 3 3) rfl (by first | (go_simp; done) | (go_simp; rfl)) ?_
    intro b42 w43 hu lb hb42
    simp only [Act.put, nm1, nm2, nm3, i64_w]
    have lbb42 := Aside0.mk lb
    have ltb42 := Aside0.mk hb42.lt
    clear lb
    have hu44 := Aside0.mk hu
    clear hu
    refine wpList_plain rfl (fun Ko hKo => ?_)
    go_simp
    refine hKo _ _ ?_
    clear hKo Ko
    try simp only [Act.put, nm1, nm2, nm3, i64_w]
    refine wpList_plain rfl (fun Ko hKo => ?_)
    go_simp
    refine hKo _ _ ?_
    clear hKo Ko
    try simp only [Act.put, nm1, nm2, nm3, i64_w]
    refine wpList_nil ?_
    (try simp only [Exit.then, Exit.inBlock, ↓reduceIte, Nat.reduceEqDiff])
    refine hK41 _ _ ?_
    refine wp_block ?_
    refine wp_loop_rounds 40 ?_
    refine rounds_k (fun K45 hK45 => ?_)
    refine wp_seq_k (fun K46 hK46 => ?_)
    refine wp_region_lit ?_
    refine wpList_plain rfl (fun Ko hKo => ?_)
    go_simp
    refine hKo _ _ ?_
    clear hKo Ko
    try simp only [Act.put, nm1, nm2, nm3, i64_w]
    refine wpList_nil ?_
    (try simp only [Exit.then, Exit.inBlock, ↓reduceIte, Nat.reduceEqDiff])
    refine hK46 _ _ ?_
    refine wp_seq_k (fun K47 hK47 => ?_)
    refine wp_cond_true rfl ?_
    refine wp_skip ?_
    (try simp only [Exit.then, Exit.inBlock, ↓reduceIte, Nat.reduceEqDiff])
    refine hK47 _ _ ?_
    refine wp_seq_k (fun K48 hK48 => ?_)
    refine wp_block ?_
    refine wp_seq_k (fun K49 hK49 => ?_)
    refine wp_region_lit ?_
    refine wpList_plain rfl (fun Ko hKo => ?_)
    go_simp
    refine hKo _ _ ?_
    clear hKo Ko
    try simp only [Act.put, nm1, nm2, nm3, i64_w]
    refine wpList_plain rfl (fun Ko hKo => ?_)
    go_simp
    refine hKo _ _ ?_
    clear hKo Ko
    try simp only [Act.put, nm1, nm2, nm3, i64_w]
    have cl0 := hb42.cell (o := 0) rfl
    have cl1 := hb42.cell (o := 1) rfl
    refine wpList_plain rfl (fun Ko hKo => ?_)
    go_simp
    refine hKo _ _ ?_
    clear hKo Ko
    clear cl0 cl1
    try simp only [Act.put, nm1, nm2, nm3, i64_w]
    refine step_new (cs := [.int .i64 0, .int .i64 0]) (T := 25) (f := fun b => .pointer (some ⟨b, 0, none⟩)) rfl (by first | (go_simp; done) | (go_simp; rfl)) ?_
    intro b50 w51 hu lb hb50
    simp only [Act.put, nm1, nm2, nm3, i64_w]
    have lbb50 := Aside0.mk lb
    have ltb50 := Aside0.mk hb50.lt
    clear lb
    have hu52 := Aside0.mk hu
    clear hu
    refine wpList_plain rfl (fun Ko hKo => ?_)
    go_simp
    refine hKo _ _ ?_
    clear hKo Ko
    try simp only [Act.put, nm1, nm2, nm3, i64_w]
    have hB0 := hb50
    have cl0 := hB0.cell (o := 0) rfl
    have fr0 := hB0.free 0
    have cl1 := hB0.cell (o := 1) rfl
    have fr1 := hB0.free 1
    refine step_store (b := b50) (cs' := [.int .i64 a2_0, .int .i64 a2_1]) (T := 25) (W' := ((w51.setCell ⟨b50, 0, none⟩ (.int .i64 a2_0)).setCell ⟨b50, 1, none⟩ (.int .i64 a2_1))) rfl rfl (by first | (go_simp; done) | (go_simp; rfl)) (((Sto.refl _ _).setCell 0 _).setCell 1 _) (((hB0).setCell 0 _).setCell 1 _) ?_
    clear hB0 cl0 fr0 cl1 fr1
    intro w53 hs hb55
    have hs54 := Aside0.mk hs
    clear hs
    refine wpList_nil ?_
    (try simp only [Exit.then, Exit.inBlock, ↓reduceIte, Nat.reduceEqDiff])
    refine hK49 _ _ ?_
    refine wp_seq_k (fun K56 hK56 => ?_)
    refine wp_seq_k (fun K57 hK57 => ?_)
    refine wp_region_lit ?_
    refine wpList_plain rfl (fun Ko hKo => ?_)
    go_simp
    refine hKo _ _ ?_
    clear hKo Ko
    try simp only [Act.put, nm1, nm2, nm3, i64_w]
    refine wpList_plain rfl (fun Ko hKo => ?_)
    go_simp
    refine hKo _ _ ?_
    clear hKo Ko
    try simp only [Act.put, nm1, nm2, nm3, i64_w]
    refine wpList_plain rfl (fun Ko hKo => ?_)
    go_simp
    refine hKo _ _ ?_
    clear hKo Ko
    try simp only [Act.put, nm1, nm2, nm3, i64_w]
    refine wpList_plain rfl (fun Ko hKo => ?_)
    go_simp
    refine hKo _ _ ?_
    clear hKo Ko
    try simp only [Act.put, nm1, nm2, nm3, i64_w]
    refine wpList_plain rfl (fun Ko hKo => ?_)
    go_simp
    refine hKo _ _ ?_
    clear hKo Ko
    try simp only [Act.put, nm1, nm2, nm3, i64_w]
    have cl0 := (hb33.up (((hu39.out.trans hu44.out).trans hu52.out).sto (Nat.le_trans ((Nat.le_trans (hu39.out.size) hu44.out.size)) lbb50.out) hs54.out)).cell (o := 0) rfl
    have cl1 := (hb33.up (((hu39.out.trans hu44.out).trans hu52.out).sto (Nat.le_trans ((Nat.le_trans (hu39.out.size) hu44.out.size)) lbb50.out) hs54.out)).cell (o := 1) rfl
    have cl2 := (hb33.up (((hu39.out.trans hu44.out).trans hu52.out).sto (Nat.le_trans ((Nat.le_trans (hu39.out.size) hu44.out.size)) lbb50.out) hs54.out)).cell (o := 2) rfl
    refine wpList_plain rfl (fun Ko hKo => ?_)
    go_simp
    refine hKo _ _ ?_
    clear hKo Ko
    clear cl0 cl1 cl2
    try simp only [Act.put, nm1, nm2, nm3, i64_w]
    refine step_call (wanted_none rfl) (by first | (go_simp; done) | (go_simp; rfl)) (impl_isNull.calls K a0 a1 t20 t21 t22 true w53  A59.out) ?_
    rintro e w60 ⟨rfl, hu⟩
    have hu61 := Aside0.mk hu
    clear hu
    refine ⟨_, rfl, ?_⟩
    simp only [Act.put, nm1, nm2, nm3, i64_w]
    refine wpList_nil ?_
    (try simp only [Exit.then, Exit.inBlock, ↓reduceIte, Nat.reduceEqDiff])
    refine hK57 _ _ ?_
    refine wp_cond_true rfl ?_
    refine wp_seq_k (fun K63 hK63 => ?_)
    refine wp_region_lit ?_
    refine wpList_plain rfl (fun Ko hKo => ?_)
    go_simp
    refine hKo _ _ ?_
    clear hKo Ko
    try simp only [Act.put, nm1, nm2, nm3, i64_w]
    refine wpList_plain rfl (fun Ko hKo => ?_)
    go_simp
    refine hKo _ _ ?_
    clear hKo Ko
    try simp only [Act.put, nm1, nm2, nm3, i64_w]
    refine wpList_nil ?_
    (try simp only [Exit.then, Exit.inBlock, ↓reduceIte, Nat.reduceEqDiff])
    refine hK63 _ _ ?_
    refine wp_ret ?_
    have h65 : Own e2 25 w60 w60.heap.size (.slice none ([] : List (Int × Int)).length 0) [] := Own.nil
    (try simp only [Exit.then, Exit.inBlock, ↓reduceIte, Nat.reduceEqDiff])
    refine hQf _ _ _ ?_
    exact bodyPost_ret (v := .tuple #[.slice none 0 0, .int .i64 5]) (by first | rfl | (simp [results, Try.results38, go_sem]; done) | (simp [results, Try.results38, go_sem]; rfl)) rfl ⟨none, 0, rfl, (h65.lower ((Nat.le_trans ((Nat.le_trans ((Nat.le_trans ((Nat.le_trans ((Nat.le_trans ((Nat.le_trans ((Nat.le_trans ((Nat.le_trans ((Nat.le_trans (hu4.out.size) hu7.out.size)) hu10.out.size)) hu16.out.size)) hu35.out.size)) hu39.out.size)) hu44.out.size)) hu52.out.size)) (Nat.le_of_eq hs54.out.size.symm))) hu61.out.size))), (((((((((hu4.out.trans hu7.out).trans hu10.out).trans hu16.out).trans hu35.out).trans hu39.out).trans hu44.out).trans hu52.out).sto (Nat.le_trans ((Nat.le_trans ((Nat.le_trans ((Nat.le_trans ((Nat.le_trans ((Nat.le_trans ((Nat.le_trans (hu4.out.size) hu7.out.size)) hu10.out.size)) hu16.out.size)) hu35.out.size)) hu39.out.size)) hu44.out.size)) lbb50.out) hs54.out).trans hu61.out)⟩
  ·
   rw [if_neg c62] at H
   replace c62 := Bool.eq_false_iff.mpr c62
   subst c62
   replace H := Option.bind_eq_some_iff.mp H
   obtain ⟨⟨t66, t67⟩, A68, H⟩ := H
   replace A68 := Aside0.mk A68
   try dsimp only at H
   replace H := Option.bind_eq_some_iff.mp H
   obtain ⟨t100, A101, H⟩ := H
   replace A101 := Aside0.mk A101
   try dsimp only at H
   by_cases c104 : (t100) = true
   ·
    rw [if_pos c104] at H
    subst c104
    simp only [Option.some.injEq, Prod.mk.injEq] at H
    obtain ⟨rfl, rfl⟩ := H
    go_enter Try.func38, Try.ntmps38
    refine wp_hide (fun Qf hQf => ?_)
    refine wp_seq_k (fun K1 hK1 => ?_)
    refine wp_region_lit ?_
    refine step_new (cs := [.int .i64 a2_0, .int .i64 a2_1]) (T := 25) (f := fun b => .pointer (some ⟨b, 0, none⟩)) rfl (by first | (go_simp; done) | (go_simp; rfl)) ?_
    intro b2 w3 hu lb hb2
    simp only [Act.put, nm1, nm2, nm3, i64_w]
    have lbb2 := Aside0.mk lb
    have ltb2 := Aside0.mk hb2.lt
    clear lb
    have hu4 := Aside0.mk hu
    clear hu
    refine step_new (cs := [.int .i64 a3_0, .int .i64 a3_1]) (T := 25) (f := fun b => .pointer (some ⟨b, 0, none⟩)) rfl (by first | (go_simp; done) | (go_simp; rfl)) ?_
    intro b5 w6 hu lb hb5
    simp only [Act.put, nm1, nm2, nm3, i64_w]
    have lbb5 := Aside0.mk lb
    have ltb5 := Aside0.mk hb5.lt
    clear lb
    have hu7 := Aside0.mk hu
    clear hu
    refine step_new (cs := [.int .i64 a4_0, .int .i64 a4_1]) (T := 25) (f := fun b => .pointer (some ⟨b, 0, none⟩)) rfl (by first | (go_simp; done) | (go_simp; rfl)) ?_
    intro b8 w9 hu lb hb8
    simp only [Act.put, nm1, nm2, nm3, i64_w]
    have lbb8 := Aside0.mk lb
    have ltb8 := Aside0.mk hb8.lt
    clear lb
    have hu10 := Aside0.mk hu
    clear hu
    refine wpList_plain rfl (fun Ko hKo => ?_)
    go_simp
    refine hKo _ _ ?_
    clear hKo Ko
    try simp only [Act.put, nm1, nm2, nm3, i64_w]
    refine wpList_plain rfl (fun Ko hKo => ?_)
    go_simp
    refine hKo _ _ ?_
    clear hKo Ko
    try simp only [Act.put, nm1, nm2, nm3, i64_w]
    refine wpList_nil ?_
    (try simp only [Exit.then, Exit.inBlock, ↓reduceIte, Nat.reduceEqDiff])
    refine hK1 _ _ ?_
    refine wp_seq_k (fun K11 hK11 => ?_)
    refine wp_seq_k (fun K12 hK12 => ?_)
    refine wp_region_lit ?_
    refine wpList_plain rfl (fun Ko hKo => ?_)
    go_simp
    refine hKo _ _ ?_
    clear hKo Ko
    try simp only [Act.put, nm1, nm2, nm3, i64_w]
    refine wpList_plain rfl (fun Ko hKo => ?_)
    go_simp
    refine hKo _ _ ?_
    clear hKo Ko
    try simp only [Act.put, nm1, nm2, nm3, i64_w]
    have cl0 := (hb2.up (hu7.out.trans hu10.out)).cell (o := 0) rfl
    have cl1 := (hb2.up (hu7.out.trans hu10.out)).cell (o := 1) rfl
    refine wpList_plain rfl (fun Ko hKo => ?_)
    go_simp
    refine hKo _ _ ?_
    clear hKo Ko
    clear cl0 cl1
    try simp only [Act.put, nm1, nm2, nm3, i64_w]
    have cl0 := (hb5.up hu10.out).cell (o := 0) rfl
    have cl1 := (hb5.up hu10.out).cell (o := 1) rfl
    refine wpList_plain rfl (fun Ko hKo => ?_)
    go_simp
    refine hKo _ _ ?_
    clear hKo Ko
    clear cl0 cl1
    try simp only [Act.put, nm1, nm2, nm3, i64_w]
    have cl0 := hb8.cell (o := 0) rfl
    have cl1 := hb8.cell (o := 1) rfl
    refine wpList_plain rfl (fun Ko hKo => ?_)
    go_simp
    refine hKo _ _ ?_
    clear hKo Ko
    clear cl0 cl1
    try simp only [Act.put, nm1, nm2, nm3, i64_w]
    refine step_call (wanted_none rfl) (by first | (go_simp; done) | (go_simp; rfl)) (impl_triangle.calls K a0 a1 a2_0 a2_1 a3_0 a3_1 a4_0 a4_1 t13 w9  A14.out) ?_
    rintro e w15 ⟨rfl, hu⟩
    have hu16 := Aside0.mk hu
    clear hu
    refine ⟨_, rfl, ?_⟩
    simp only [Act.put, nm1, nm2, nm3, i64_w]
    refine wpList_plain rfl (fun Ko hKo => ?_)
    go_simp
    refine hKo _ _ ?_
    clear hKo Ko
    try simp only [Act.put, nm1, nm2, nm3, i64_w]
    refine wpList_nil ?_
    (try simp only [Exit.then, Exit.inBlock, ↓reduceIte, Nat.reduceEqDiff])
    refine hK12 _ _ ?_
    refine wp_seq_k (fun K17 hK17 => ?_)
    refine wp_region_lit ?_
    refine wpList_plain rfl (fun Ko hKo => ?_)
    go_simp
    refine hKo _ _ ?_
    clear hKo Ko
    try simp only [Act.put, nm1, nm2, nm3, i64_w]
    refine wpList_plain rfl (fun Ko hKo => ?_)
    go_simp
    refine hKo _ _ ?_
    clear hKo Ko
    try simp only [Act.put, nm1, nm2, nm3, i64_w]
    refine wpList_nil ?_
    (try simp only [Exit.then, Exit.inBlock, ↓reduceIte, Nat.reduceEqDiff])
    refine hK17 _ _ ?_
    refine wp_cond_false rfl ?_
    refine wp_skip ?_
    (try simp only [Exit.then, Exit.inBlock, ↓reduceIte, Nat.reduceEqDiff])
    refine hK11 _ _ ?_
    refine wp_seq_k (fun K19 hK19 => ?_)
    refine' wp_region_up 13 [Slot.det _, Slot.det _, Slot.det _, Slot.det (.agg #[.int .i64 t20, .int .i64 t21, .int .i64 t22]), Slot.det _, Slot.det _, Slot.det _, Slot.det (.agg #[.int .i64 t24, .int .i64 t25, .int .i64 t26]), Slot.det _, Slot.det _, Slot.det _, Slot.det (.agg #[.int .i64 t28, .int .i64 t29, .int .i64 t30]), Slot.any (SlTo 3 [.int .i64 t20, .int .i64 t21, .int .i64 t22, .int .i64 t24, .int .i64 t25, .int .i64 t26, .int .i64 t28, .int .i64 t29, .int .i64 t30] 39 w15.heap.size) false] (by kernel_rfl) (by kernel_rfl) ?main
    case main =>
     simp only [List.take_succ_cons, List.take_zero]
     refine wpK_ops rfl (fun w1 hu => ?_) ?_
     · clear hu
       go_simp
       first | done | rfl
     simp only [Act.put, nm1, nm2, nm3, i64_w]
     refine wpK_ops rfl (fun w1 hu => ?_) ?_
     · have cl0 := ((hb5.up (hu10.out.trans hu16.out)).up ((Up.refl _).drew.trans hu)).cell (o := 0) rfl
       have cl1 := ((hb5.up (hu10.out.trans hu16.out)).up ((Up.refl _).drew.trans hu)).cell (o := 1) rfl
       go_simp
       first | done | rfl
     simp only [Act.put, nm1, nm2, nm3, i64_w]
     refine wpK_ops rfl (fun w1 hu => ?_) ?_
     · have cl0 := ((hb8.up hu16.out).up ((Up.refl _).drew.trans hu)).cell (o := 0) rfl
       have cl1 := ((hb8.up hu16.out).up ((Up.refl _).drew.trans hu)).cell (o := 1) rfl
       go_simp
       first | done | rfl
     simp only [Act.put, nm1, nm2, nm3, i64_w]
     refine wpK_ops rfl (fun w1 hu => ?_) ?_
     · have hcl := (impl_lineThrough.calls K a0 a3_0 a3_1 a4_0 a4_1 t20 t21 t22 w1  A23.out)
       clear hu
       replace hcl := Aside0.mk hcl
       go_simp
       exact hcl.out
     simp only [Act.put, nm1, nm2, nm3, i64_w]
     refine wpK_ops rfl (fun w1 hu => ?_) ?_
     · clear hu
       go_simp
       first | done | rfl
     simp only [Act.put, nm1, nm2, nm3, i64_w]
     refine wpK_ops rfl (fun w1 hu => ?_) ?_
     · have cl0 := ((hb2.up ((hu7.out.trans hu10.out).trans hu16.out)).up ((Up.refl _).drew.trans hu)).cell (o := 0) rfl
       have cl1 := ((hb2.up ((hu7.out.trans hu10.out).trans hu16.out)).up ((Up.refl _).drew.trans hu)).cell (o := 1) rfl
       go_simp
       first | done | rfl
     simp only [Act.put, nm1, nm2, nm3, i64_w]
     refine wpK_ops rfl (fun w1 hu => ?_) ?_
     · have cl0 := ((hb8.up hu16.out).up ((Up.refl _).drew.trans hu)).cell (o := 0) rfl
       have cl1 := ((hb8.up hu16.out).up ((Up.refl _).drew.trans hu)).cell (o := 1) rfl
       go_simp
       first | done | rfl
     simp only [Act.put, nm1, nm2, nm3, i64_w]
     refine wpK_ops rfl (fun w1 hu => ?_) ?_
     · have hcl := (impl_lineThrough.calls K a0 a2_0 a2_1 a4_0 a4_1 t24 t25 t26 w1  A27.out)
       clear hu
       replace hcl := Aside0.mk hcl
       go_simp
       exact hcl.out
     simp only [Act.put, nm1, nm2, nm3, i64_w]
     refine wpK_ops rfl (fun w1 hu => ?_) ?_
     · clear hu
       go_simp
       first | done | rfl
     simp only [Act.put, nm1, nm2, nm3, i64_w]
     refine wpK_ops rfl (fun w1 hu => ?_) ?_
     · have cl0 := ((hb2.up ((hu7.out.trans hu10.out).trans hu16.out)).up ((Up.refl _).drew.trans hu)).cell (o := 0) rfl
       have cl1 := ((hb2.up ((hu7.out.trans hu10.out).trans hu16.out)).up ((Up.refl _).drew.trans hu)).cell (o := 1) rfl
       go_simp
       first | done | rfl
     simp only [Act.put, nm1, nm2, nm3, i64_w]
     refine wpK_ops rfl (fun w1 hu => ?_) ?_
     · have cl0 := ((hb5.up (hu10.out.trans hu16.out)).up ((Up.refl _).drew.trans hu)).cell (o := 0) rfl
       have cl1 := ((hb5.up (hu10.out.trans hu16.out)).up ((Up.refl _).drew.trans hu)).cell (o := 1) rfl
       go_simp
       first | done | rfl
     simp only [Act.put, nm1, nm2, nm3, i64_w]
     refine wpK_ops rfl (fun w1 hu => ?_) ?_
     · have hcl := (impl_lineThrough.calls K a0 a2_0 a2_1 a3_0 a3_1 t28 t29 t30 w1  A31.out)
       clear hu
       replace hcl := Aside0.mk hcl
       go_simp
       exact hcl.out
     simp only [Act.put, nm1, nm2, nm3, i64_w]
     refine wpK_any rfl (stab_sl _ _ _ _) (fun w1 hu _ => fresh_sl (by first | (go_simp; done) | (go_simp; rfl)) ((Up.refl _).drew.trans hu).size) (fun v32 => ?_)
     simp only [Act.put, nm1, nm2, nm3, i64_w]
     refine wpK_nil ?_
     intro w34 hu hap
     simp only [List.drop_succ_cons, List.drop_zero]
     replace hu := (Up.refl _).drew.trans hu
     obtain ⟨-, -, ⟨b33, e0, hb33, lbb33⟩, -⟩ := hap
     replace lbb33 := Aside0.mk lbb33
     have ltb33 := Aside0.mk hb33.lt
     dsimp only at e0
     subst e0
     have hu35 := Aside0.mk hu
     clear hu
     refine wpList_plain rfl (fun Ko hKo => ?_)
     go_simp
     refine hKo _ _ ?_
     clear hKo Ko
     try simp only [Act.put, nm1, nm2, nm3, i64_w]
     refine wpList_nil ?_
     (try simp only [Exit.then, Exit.inBlock, ↓reduceIte, Nat.reduceEqDiff])
     refine hK19 _ _ ?_
     refine wp_seq_k (fun K36 hK36 => ?_)
     refine wp_region_lit ?_
     refine step_new (cs := []) (T := 25) (f := fun b => .slice (some ⟨b, 0, none⟩) 0 0) rfl (by first | (go_simp; done) | (go_simp; rfl)) ?_
     intro b37 w38 hu lb hb37
     simp only [Act.put, nm1, nm2, nm3, i64_w]
     have lbb37 := Aside0.mk lb
     have ltb37 := Aside0.mk hb37.lt
     clear lb
     have hu39 := Aside0.mk hu
     clear hu
     refine wpList_plain rfl (fun Ko hKo => ?_)
     go_simp
     refine hKo _ _ ?_
     clear hKo Ko
     try simp only [Act.put, nm1, nm2, nm3, i64_w]
     refine wpList_nil ?_
     (try simp only [Exit.then, Exit.inBlock, ↓reduceIte, Nat.reduceEqDiff])
     refine hK36 _ _ ?_
     refine wp_seq_k (fun K40 hK40 => ?_)
     refine wp_seq_k (fun K41 hK41 => ?_)
     refine wp_region_lit ?_
     have cl0 := (hb2.up ((((hu7.out.trans hu10.out).trans hu16.out).trans hu35.out).trans hu39.out)).cell (o := 0) rfl
     have cl1 := (hb2.up ((((hu7.out.trans hu10.out).trans hu16.out).trans hu35.out).trans hu39.out)).cell (o := 1) rfl
     refine wpList_plain rfl (fun Ko hKo => ?_)
     go_simp
     refine hKo _ _ ?_
     clear hKo Ko
     clear cl0 cl1
     try simp only [Act.put, nm1, nm2, nm3, i64_w]
     have cl0 := (hb5.up (((hu10.out.trans hu16.out).trans hu35.out).trans hu39.out)).cell (o := 0) rfl
     have cl1 := (hb5.up (((hu10.out.trans hu16.out).trans hu35.out).trans hu39.out)).cell (o := 1) rfl
     refine wpList_plain rfl (fun Ko hKo => ?_)
     go_simp
     refine hKo _ _ ?_
     clear hKo Ko
     clear cl0 cl1
     try simp only [Act.put, nm1, nm2, nm3, i64_w]
     have cl0 := (hb8.up ((hu16.out.trans hu35.out).trans hu39.out)).cell (o := 0) rfl
     have cl1 := (hb8.up ((hu16.out.trans hu35.out).trans hu39.out)).cell (o := 1) rfl
     refine wpList_plain rfl (fun Ko hKo => ?_)
     go_simp
     refine hKo _ _ ?_
     clear hKo Ko
     clear cl0 cl1
     try simp only [Act.put, nm1, nm2, nm3, i64_w]
     refine step_new (cs := [.int .i64 a2_0, .int .i64 a2_1, .int .i64 a3_0, .int .i64 a3_1, .int .i64 a4_0, .int .i64 a4_1]) (T := 25) (f := fun b => .slice (some ⟨b, 0, none⟩) 3 3) rfl (by first | (go_simp; done) | (go_simp; rfl)) ?_
     intro b42 w43 hu lb hb42
     simp only [Act.put, nm1, nm2, nm3, i64_w]
     have lbb42 := Aside0.mk lb
     have ltb42 := Aside0.mk hb42.lt
     clear lb
     have hu44 := Aside0.mk hu
     clear hu
     refine wpList_plain rfl (fun Ko hKo => ?_)
     go_simp
     refine hKo _ _ ?_
     clear hKo Ko
     try simp only [Act.put, nm1, nm2, nm3, i64_w]
     refine wpList_plain rfl (fun Ko hKo => ?_)
     go_simp
     refine hKo _ _ ?_
     clear hKo Ko
     try simp only [Act.put, nm1, nm2, nm3, i64_w]
     refine wpList_nil ?_
     (try simp only [Exit.then, Exit.inBlock, ↓reduceIte, Nat.reduceEqDiff])
     refine hK41 _ _ ?_
     refine wp_block ?_
     refine wp_loop_rounds 40 ?_
     refine rounds_k (fun K45 hK45 => ?_)
     refine wp_seq_k (fun K46 hK46 => ?_)
     refine wp_region_lit ?_
     refine wpList_plain rfl (fun Ko hKo => ?_)
     go_simp
     refine hKo _ _ ?_
     clear hKo Ko
     try simp only [Act.put, nm1, nm2, nm3, i64_w]
     refine wpList_nil ?_
     (try simp only [Exit.then, Exit.inBlock, ↓reduceIte, Nat.reduceEqDiff])
     refine hK46 _ _ ?_
     refine wp_seq_k (fun K47 hK47 => ?_)
     refine wp_cond_true rfl ?_
     refine wp_skip ?_
     (try simp only [Exit.then, Exit.inBlock, ↓reduceIte, Nat.reduceEqDiff])
     refine hK47 _ _ ?_
     refine wp_seq_k (fun K48 hK48 => ?_)
     refine wp_block ?_
     refine wp_seq_k (fun K49 hK49 => ?_)
     refine wp_region_lit ?_
     refine wpList_plain rfl (fun Ko hKo => ?_)
     go_simp
     refine hKo _ _ ?_
     clear hKo Ko
     try simp only [Act.put, nm1, nm2, nm3, i64_w]
     refine wpList_plain rfl (fun Ko hKo => ?_)
     go_simp
     refine hKo _ _ ?_
     clear hKo Ko
     try simp only [Act.put, nm1, nm2, nm3, i64_w]
     have cl0 := hb42.cell (o := 0) rfl
     have cl1 := hb42.cell (o := 1) rfl
     refine wpList_plain rfl (fun Ko hKo => ?_)
     go_simp
     refine hKo _ _ ?_
     clear hKo Ko
     clear cl0 cl1
     try simp only [Act.put, nm1, nm2, nm3, i64_w]
     refine step_new (cs := [.int .i64 0, .int .i64 0]) (T := 25) (f := fun b => .pointer (some ⟨b, 0, none⟩)) rfl (by first | (go_simp; done) | (go_simp; rfl)) ?_
     intro b50 w51 hu lb hb50
     simp only [Act.put, nm1, nm2, nm3, i64_w]
     have lbb50 := Aside0.mk lb
     have ltb50 := Aside0.mk hb50.lt
     clear lb
     have hu52 := Aside0.mk hu
     clear hu
     refine wpList_plain rfl (fun Ko hKo => ?_)
     go_simp
     refine hKo _ _ ?_
     clear hKo Ko
     try simp only [Act.put, nm1, nm2, nm3, i64_w]
     have hB0 := hb50
     have cl0 := hB0.cell (o := 0) rfl
     have fr0 := hB0.free 0
     have cl1 := hB0.cell (o := 1) rfl
     have fr1 := hB0.free 1
     refine step_store (b := b50) (cs' := [.int .i64 a2_0, .int .i64 a2_1]) (T := 25) (W' := ((w51.setCell ⟨b50, 0, none⟩ (.int .i64 a2_0)).setCell ⟨b50, 1, none⟩ (.int .i64 a2_1))) rfl rfl (by first | (go_simp; done) | (go_simp; rfl)) (((Sto.refl _ _).setCell 0 _).setCell 1 _) (((hB0).setCell 0 _).setCell 1 _) ?_
     clear hB0 cl0 fr0 cl1 fr1
     intro w53 hs hb55
     have hs54 := Aside0.mk hs
     clear hs
     refine wpList_nil ?_
     (try simp only [Exit.then, Exit.inBlock, ↓reduceIte, Nat.reduceEqDiff])
     refine hK49 _ _ ?_
     refine wp_seq_k (fun K56 hK56 => ?_)
     refine wp_seq_k (fun K57 hK57 => ?_)
     refine wp_region_lit ?_
     refine wpList_plain rfl (fun Ko hKo => ?_)
     go_simp
     refine hKo _ _ ?_
     clear hKo Ko
     try simp only [Act.put, nm1, nm2, nm3, i64_w]
     refine wpList_plain rfl (fun Ko hKo => ?_)
     go_simp
     refine hKo _ _ ?_
     clear hKo Ko
     try simp only [Act.put, nm1, nm2, nm3, i64_w]
     refine wpList_plain rfl (fun Ko hKo => ?_)
     go_simp
     refine hKo _ _ ?_
     clear hKo Ko
     try simp only [Act.put, nm1, nm2, nm3, i64_w]
     refine wpList_plain rfl (fun Ko hKo => ?_)
     go_simp
     refine hKo _ _ ?_
     clear hKo Ko
     try simp only [Act.put, nm1, nm2, nm3, i64_w]
     refine wpList_plain rfl (fun Ko hKo => ?_)
     go_simp
     refine hKo _ _ ?_
     clear hKo Ko
     try simp only [Act.put, nm1, nm2, nm3, i64_w]
     have cl0 := (hb33.up (((hu39.out.trans hu44.out).trans hu52.out).sto (Nat.le_trans ((Nat.le_trans (hu39.out.size) hu44.out.size)) lbb50.out) hs54.out)).cell (o := 0) rfl
     have cl1 := (hb33.up (((hu39.out.trans hu44.out).trans hu52.out).sto (Nat.le_trans ((Nat.le_trans (hu39.out.size) hu44.out.size)) lbb50.out) hs54.out)).cell (o := 1) rfl
     have cl2 := (hb33.up (((hu39.out.trans hu44.out).trans hu52.out).sto (Nat.le_trans ((Nat.le_trans (hu39.out.size) hu44.out.size)) lbb50.out) hs54.out)).cell (o := 2) rfl
     refine wpList_plain rfl (fun Ko hKo => ?_)
     go_simp
     refine hKo _ _ ?_
     clear hKo Ko
     clear cl0 cl1 cl2
     try simp only [Act.put, nm1, nm2, nm3, i64_w]
     refine step_call (wanted_none rfl) (by first | (go_simp; done) | (go_simp; rfl)) (impl_isNull.calls K a0 a1 t20 t21 t22 false w53  A59.out) ?_
     rintro e w60 ⟨rfl, hu⟩
     have hu61 := Aside0.mk hu
     clear hu
     refine ⟨_, rfl, ?_⟩
     simp only [Act.put, nm1, nm2, nm3, i64_w]
     refine wpList_nil ?_
     (try simp only [Exit.then, Exit.inBlock, ↓reduceIte, Nat.reduceEqDiff])
     refine hK57 _ _ ?_
     refine wp_cond_false rfl ?_
     refine wp_skip ?_
     (try simp only [Exit.then, Exit.inBlock, ↓reduceIte, Nat.reduceEqDiff])
     refine hK56 _ _ ?_
     refine' wp_region_up 10 [Slot.det _, Slot.det _, Slot.det _, Slot.det _, Slot.det _, Slot.det _, Slot.det _, Slot.det _, Slot.det (.agg #[.int .i64 t66, .int .i64 t67]), Slot.any (SlTo 1 [.int .i64 t66, .int .i64 t67] 25 w60.heap.size) false] (by kernel_rfl) (by kernel_rfl) ?main
     case main =>
      simp only [List.take_succ_cons, List.take_zero]
      refine wpK_ops rfl (fun w1 hu => ?_) ?_
      · clear hu
        go_simp
        first | done | rfl
      simp only [Act.put, nm1, nm2, nm3, i64_w]
      refine wpK_ops rfl (fun w1 hu => ?_) ?_
      · clear hu
        go_simp
        first | done | rfl
      simp only [Act.put, nm1, nm2, nm3, i64_w]
      refine wpK_ops rfl (fun w1 hu => ?_) ?_
      · clear hu
        go_simp
        first | done | rfl
      simp only [Act.put, nm1, nm2, nm3, i64_w]
      refine wpK_ops rfl (fun w1 hu => ?_) ?_
      · have cl0 := ((hb55.up hu61.out).up ((Up.refl _).drew.trans hu)).cell (o := 0) rfl
        have cl1 := ((hb55.up hu61.out).up ((Up.refl _).drew.trans hu)).cell (o := 1) rfl
        go_simp
        first | done | rfl
      simp only [Act.put, nm1, nm2, nm3, i64_w]
      refine wpK_ops rfl (fun w1 hu => ?_) ?_
      · clear hu
        go_simp
        first | done | rfl
      simp only [Act.put, nm1, nm2, nm3, i64_w]
      refine wpK_ops rfl (fun w1 hu => ?_) ?_
      · clear hu
        go_simp
        first | done | rfl
      simp only [Act.put, nm1, nm2, nm3, i64_w]
      refine wpK_ops rfl (fun w1 hu => ?_) ?_
      · clear hu
        go_simp
        first | done | rfl
      simp only [Act.put, nm1, nm2, nm3, i64_w]
      refine wpK_ops rfl (fun w1 hu => ?_) ?_
      · have cl0 := ((hb33.up ((((hu39.out.trans hu44.out).trans hu52.out).sto (Nat.le_trans ((Nat.le_trans (hu39.out.size) hu44.out.size)) lbb50.out) hs54.out).trans hu61.out)).up ((Up.refl _).drew.trans hu)).cell (o := 0) rfl
        have cl1 := ((hb33.up ((((hu39.out.trans hu44.out).trans hu52.out).sto (Nat.le_trans ((Nat.le_trans (hu39.out.size) hu44.out.size)) lbb50.out) hs54.out).trans hu61.out)).up ((Up.refl _).drew.trans hu)).cell (o := 1) rfl
        have cl2 := ((hb33.up ((((hu39.out.trans hu44.out).trans hu52.out).sto (Nat.le_trans ((Nat.le_trans (hu39.out.size) hu44.out.size)) lbb50.out) hs54.out).trans hu61.out)).up ((Up.refl _).drew.trans hu)).cell (o := 2) rfl
        go_simp
        first | done | rfl
      simp only [Act.put, nm1, nm2, nm3, i64_w]
      refine wpK_ops rfl (fun w1 hu => ?_) ?_
      · have hcl := (impl_foot.calls K a0 a1 a2_0 a2_1 t20 t21 t22 t66 t67 w1  A68.out)
        clear hu
        replace hcl := Aside0.mk hcl
        go_simp
        exact hcl.out
      simp only [Act.put, nm1, nm2, nm3, i64_w]
      refine wpK_any rfl (stab_sl _ _ _ _) (fun w1 hu _ => fresh_sl (by first | (go_simp; done) | (go_simp; rfl)) ((Up.refl _).drew.trans hu).size) (fun v69 => ?_)
      simp only [Act.put, nm1, nm2, nm3, i64_w]
      refine wpK_nil ?_
      intro w71 hu hap
      simp only [List.drop_succ_cons, List.drop_zero]
      replace hu := (Up.refl _).drew.trans hu
      obtain ⟨-, -, ⟨b70, e0, hb70, lbb70⟩, -⟩ := hap
      replace lbb70 := Aside0.mk lbb70
      have ltb70 := Aside0.mk hb70.lt
      dsimp only at e0
      subst e0
      have hu72 := Aside0.mk hu
      clear hu
      have h74 : Own e2 25 w71 w34.heap.size (.slice (some ⟨b37, 0, none⟩) ([].length) 0) [] := Own.of_blk (hb37.up ((((hu44.out.trans hu52.out).sto (Nat.le_trans (hu44.out.size) lbb50.out) hs54.out).trans hu61.out).trans hu72.out)) lbb37.out rfl (by simp) (by simp [Enc.flat, e2])
      have h75 : Own e2 25 w38 w34.heap.size (.slice (some ⟨b37, 0, none⟩) ([].length) 0) [] := Own.of_blk hb37 lbb37.out rfl (by simp) (by simp [Enc.flat, e2])
      have hO0 := Aside0.mk h74
      refine step_append e2 (z := .agg #[.int .i64 0, .int .i64 0]) (bytes := 16) (base := w34.heap.size) (xs := ([] : List (Int × Int))) (ys := [(t66, t67)]) (wanted_none rfl) _ _ rfl rfl (by kernel_rfl) rfl (by decide) rfl rfl rfl hO0.out (Rd.of_blk (E := e2) (xs := [(t66, t67)]) (o := 0) hb70 (by simp) (fun j u hu => by rcases j with _ | _ | j <;> simp_all [Enc.flat, e2])) ((Nat.le_trans ((Nat.le_trans ((Nat.le_trans ((Nat.le_trans ((Nat.le_trans (hu39.out.size) hu44.out.size)) hu52.out.size)) (Nat.le_of_eq hs54.out.size.symm))) hu61.out.size)) hu72.out.size)) (by simp only [List.length_cons, List.length_nil]; omega) ?_
      intro P76 q77 w78 h80 hg hat
      have hg81 := Aside0.mk hg
      have hat82 := Aside0.mk hat
      simp only [Act.put, nm1, nm2, nm3, i64_w]
      have lb83 := Aside0.mk hO0.out.lt
      clear hO0 hg hat
      have h84 := (hb42.up (((hu52.out.sto (Nat.le_trans (Nat.le_refl _) lbb50.out) hs54.out).trans hu61.out).trans hu72.out)).grow hg81.out (fun k hk => Nat.ne_of_lt (Nat.lt_of_lt_of_le ((fun k hk => Nat.lt_of_lt_of_le (h75.lt k hk).2 (Nat.le_refl _)) k hk) lbb42.out))
      have h85 := (hb55.up (hu61.out.trans hu72.out)).grow hg81.out (fun k hk => Nat.ne_of_lt (Nat.lt_of_lt_of_le ((fun k hk => Nat.lt_of_lt_of_le (h75.lt k hk).2 (hu44.out.size)) k hk) lbb50.out))
      have h86 := hb70.grow hg81.out (fun k hk => Nat.ne_of_lt (Nat.lt_of_lt_of_le ((fun k hk => Nat.lt_of_lt_of_le (h75.lt k hk).2 ((Nat.le_trans ((Nat.le_trans ((Nat.le_trans (hu44.out.size) hu52.out.size)) (Nat.le_of_eq hs54.out.size.symm))) hu61.out.size))) k hk) lbb70.out))
      refine wpList_plain rfl (fun Ko hKo => ?_)
      go_simp
      refine hKo _ _ ?_
      clear hKo Ko
      try simp only [Act.put, nm1, nm2, nm3, i64_w]
      refine wpList_nil ?_
      (try simp only [Exit.then, Exit.inBlock, ↓reduceIte, Nat.reduceEqDiff])
      refine hK48 _ _ ?_
      refine wp_region_lit ?_
      refine wpList_plain rfl (fun Ko hKo => ?_)
      go_simp
      refine hKo _ _ ?_
      clear hKo Ko
      try simp only [Act.put, nm1, nm2, nm3, i64_w]
      try simp only [show wrap64 1 = 1 from wlit rfl]
      refine wpList_plain rfl (fun Ko hKo => ?_)
      go_simp
      refine hKo _ _ ?_
      clear hKo Ko
      try simp only [Act.put, nm1, nm2, nm3, i64_w]
      refine wpList_nil ?_
      (try simp only [Exit.then, Exit.inBlock, ↓reduceIte, Nat.reduceEqDiff])
      refine hK45 _ _ ?_
      refine rounds_k (fun K87 hK87 => ?_)
      refine wp_seq_k (fun K88 hK88 => ?_)
      refine wp_region_lit ?_
      refine wpList_plain rfl (fun Ko hKo => ?_)
      go_simp
      refine hKo _ _ ?_
      clear hKo Ko
      try simp only [Act.put, nm1, nm2, nm3, i64_w]
      refine wpList_nil ?_
      (try simp only [Exit.then, Exit.inBlock, ↓reduceIte, Nat.reduceEqDiff])
      refine hK88 _ _ ?_
      refine wp_seq_k (fun K89 hK89 => ?_)
      refine wp_cond_true rfl ?_
      refine wp_skip ?_
      (try simp only [Exit.then, Exit.inBlock, ↓reduceIte, Nat.reduceEqDiff])
      refine hK89 _ _ ?_
      refine wp_seq_k (fun K90 hK90 => ?_)
      refine wp_block ?_
      refine wp_seq_k (fun K91 hK91 => ?_)
      refine wp_region_lit ?_
      refine wpList_plain rfl (fun Ko hKo => ?_)
      go_simp
      refine hKo _ _ ?_
      clear hKo Ko
      try simp only [Act.put, nm1, nm2, nm3, i64_w]
      refine wpList_plain rfl (fun Ko hKo => ?_)
      go_simp
      refine hKo _ _ ?_
      clear hKo Ko
      try simp only [Act.put, nm1, nm2, nm3, i64_w]
      have cl0 := h84.cell (o := 2) rfl
      have cl1 := h84.cell (o := 3) rfl
      refine wpList_plain rfl (fun Ko hKo => ?_)
      go_simp
      refine hKo _ _ ?_
      clear hKo Ko
      clear cl0 cl1
      try simp only [Act.put, nm1, nm2, nm3, i64_w]
      refine step_new (cs := [.int .i64 0, .int .i64 0]) (T := 25) (f := fun b => .pointer (some ⟨b, 0, none⟩)) rfl (by first | (go_simp; done) | (go_simp; rfl)) ?_
      intro b92 w93 hu lb hb92
      simp only [Act.put, nm1, nm2, nm3, i64_w]
      have lbb92 := Aside0.mk lb
      have ltb92 := Aside0.mk hb92.lt
      clear lb
      have hu94 := Aside0.mk hu
      clear hu
      refine wpList_plain rfl (fun Ko hKo => ?_)
      go_simp
      refine hKo _ _ ?_
      clear hKo Ko
      try simp only [Act.put, nm1, nm2, nm3, i64_w]
      have hB0 := hb92
      have cl0 := hB0.cell (o := 0) rfl
      have fr0 := hB0.free 0
      have cl1 := hB0.cell (o := 1) rfl
      have fr1 := hB0.free 1
      refine step_store (b := b92) (cs' := [.int .i64 a3_0, .int .i64 a3_1]) (T := 25) (W' := ((w93.setCell ⟨b92, 0, none⟩ (.int .i64 a3_0)).setCell ⟨b92, 1, none⟩ (.int .i64 a3_1))) rfl rfl (by first | (go_simp; done) | (go_simp; rfl)) (((Sto.refl _ _).setCell 0 _).setCell 1 _) (((hB0).setCell 0 _).setCell 1 _) ?_
      clear hB0 cl0 fr0 cl1 fr1
      intro w95 hs hb97
      have hs96 := Aside0.mk hs
      clear hs
      refine wpList_nil ?_
      (try simp only [Exit.then, Exit.inBlock, ↓reduceIte, Nat.reduceEqDiff])
      refine hK91 _ _ ?_
      refine wp_seq_k (fun K98 hK98 => ?_)
      refine wp_seq_k (fun K99 hK99 => ?_)
      refine wp_region_lit ?_
      refine wpList_plain rfl (fun Ko hKo => ?_)
      go_simp
      refine hKo _ _ ?_
      clear hKo Ko
      try simp only [Act.put, nm1, nm2, nm3, i64_w]
      refine wpList_plain rfl (fun Ko hKo => ?_)
      go_simp
      refine hKo _ _ ?_
      clear hKo Ko
      try simp only [Act.put, nm1, nm2, nm3, i64_w]
      refine wpList_plain rfl (fun Ko hKo => ?_)
      go_simp
      refine hKo _ _ ?_
      clear hKo Ko
      try simp only [Act.put, nm1, nm2, nm3, i64_w]
      refine wpList_plain rfl (fun Ko hKo => ?_)
      go_simp
      refine hKo _ _ ?_
      clear hKo Ko
      try simp only [Act.put, nm1, nm2, nm3, i64_w]
      refine wpList_plain rfl (fun Ko hKo => ?_)
      go_simp
      refine hKo _ _ ?_
      clear hKo Ko
      try simp only [Act.put, nm1, nm2, nm3, i64_w]
      have cl0 := (hb33.up ((((((((hu39.out.trans hu44.out).trans hu52.out).sto (Nat.le_trans ((Nat.le_trans (hu39.out.size) hu44.out.size)) lbb50.out) hs54.out).trans hu61.out).trans hu72.out).grow hg81.out (fun k hk => Nat.le_trans (Nat.le_refl _) ((fun k hk => (lb83.out k hk).1) k hk))).trans hu94.out).sto (Nat.le_trans ((Nat.le_trans ((Nat.le_trans ((Nat.le_trans ((Nat.le_trans ((Nat.le_trans ((Nat.le_trans (hu39.out.size) hu44.out.size)) hu52.out.size)) (Nat.le_of_eq hs54.out.size.symm))) hu61.out.size)) hu72.out.size)) hg81.out.size)) lbb92.out) hs96.out)).cell (o := 3) rfl
      have cl1 := (hb33.up ((((((((hu39.out.trans hu44.out).trans hu52.out).sto (Nat.le_trans ((Nat.le_trans (hu39.out.size) hu44.out.size)) lbb50.out) hs54.out).trans hu61.out).trans hu72.out).grow hg81.out (fun k hk => Nat.le_trans (Nat.le_refl _) ((fun k hk => (lb83.out k hk).1) k hk))).trans hu94.out).sto (Nat.le_trans ((Nat.le_trans ((Nat.le_trans ((Nat.le_trans ((Nat.le_trans ((Nat.le_trans ((Nat.le_trans (hu39.out.size) hu44.out.size)) hu52.out.size)) (Nat.le_of_eq hs54.out.size.symm))) hu61.out.size)) hu72.out.size)) hg81.out.size)) lbb92.out) hs96.out)).cell (o := 4) rfl
      have cl2 := (hb33.up ((((((((hu39.out.trans hu44.out).trans hu52.out).sto (Nat.le_trans ((Nat.le_trans (hu39.out.size) hu44.out.size)) lbb50.out) hs54.out).trans hu61.out).trans hu72.out).grow hg81.out (fun k hk => Nat.le_trans (Nat.le_refl _) ((fun k hk => (lb83.out k hk).1) k hk))).trans hu94.out).sto (Nat.le_trans ((Nat.le_trans ((Nat.le_trans ((Nat.le_trans ((Nat.le_trans ((Nat.le_trans ((Nat.le_trans (hu39.out.size) hu44.out.size)) hu52.out.size)) (Nat.le_of_eq hs54.out.size.symm))) hu61.out.size)) hu72.out.size)) hg81.out.size)) lbb92.out) hs96.out)).cell (o := 5) rfl
      refine wpList_plain rfl (fun Ko hKo => ?_)
      go_simp
      refine hKo _ _ ?_
      clear hKo Ko
      clear cl0 cl1 cl2
      try simp only [Act.put, nm1, nm2, nm3, i64_w]
      refine step_call (wanted_none rfl) (by first | (go_simp; done) | (go_simp; rfl)) (impl_isNull.calls K a0 a1 t24 t25 t26 true w95  A101.out) ?_
      rintro e w102 ⟨rfl, hu⟩
      have hu103 := Aside0.mk hu
      clear hu
      refine ⟨_, rfl, ?_⟩
      simp only [Act.put, nm1, nm2, nm3, i64_w]
      refine wpList_nil ?_
      (try simp only [Exit.then, Exit.inBlock, ↓reduceIte, Nat.reduceEqDiff])
      refine hK99 _ _ ?_
      refine wp_cond_true rfl ?_
      refine wp_seq_k (fun K105 hK105 => ?_)
      refine wp_region_lit ?_
      refine wpList_plain rfl (fun Ko hKo => ?_)
      go_simp
      refine hKo _ _ ?_
      clear hKo Ko
      try simp only [Act.put, nm1, nm2, nm3, i64_w]
      refine wpList_plain rfl (fun Ko hKo => ?_)
      go_simp
      refine hKo _ _ ?_
      clear hKo Ko
      try simp only [Act.put, nm1, nm2, nm3, i64_w]
      refine wpList_nil ?_
      (try simp only [Exit.then, Exit.inBlock, ↓reduceIte, Nat.reduceEqDiff])
      refine hK105 _ _ ?_
      refine wp_ret ?_
      have h107 : Own e2 25 w102 w102.heap.size (.slice none ([] : List (Int × Int)).length 0) [] := Own.nil
      (try simp only [Exit.then, Exit.inBlock, ↓reduceIte, Nat.reduceEqDiff])
      refine hQf _ _ _ ?_
      exact bodyPost_ret (v := .tuple #[.slice none 0 0, .int .i64 5]) (by first | rfl | (simp [results, Try.results38, go_sem]; done) | (simp [results, Try.results38, go_sem]; rfl)) rfl ⟨none, 0, rfl, (h107.lower ((Nat.le_trans ((Nat.le_trans ((Nat.le_trans ((Nat.le_trans ((Nat.le_trans ((Nat.le_trans ((Nat.le_trans ((Nat.le_trans ((Nat.le_trans ((Nat.le_trans ((Nat.le_trans ((Nat.le_trans ((Nat.le_trans ((Nat.le_trans (hu4.out.size) hu7.out.size)) hu10.out.size)) hu16.out.size)) hu35.out.size)) hu39.out.size)) hu44.out.size)) hu52.out.size)) (Nat.le_of_eq hs54.out.size.symm))) hu61.out.size)) hu72.out.size)) hg81.out.size)) hu94.out.size)) (Nat.le_of_eq hs96.out.size.symm))) hu103.out.size))), ((((((((((((((hu4.out.trans hu7.out).trans hu10.out).trans hu16.out).trans hu35.out).trans hu39.out).trans hu44.out).trans hu52.out).sto (Nat.le_trans ((Nat.le_trans ((Nat.le_trans ((Nat.le_trans ((Nat.le_trans ((Nat.le_trans ((Nat.le_trans (hu4.out.size) hu7.out.size)) hu10.out.size)) hu16.out.size)) hu35.out.size)) hu39.out.size)) hu44.out.size)) lbb50.out) hs54.out).trans hu61.out).trans hu72.out).grow hg81.out (fun k hk => Nat.le_trans ((Nat.le_trans ((Nat.le_trans ((Nat.le_trans ((Nat.le_trans (hu4.out.size) hu7.out.size)) hu10.out.size)) hu16.out.size)) hu35.out.size)) ((fun k hk => (lb83.out k hk).1) k hk))).trans hu94.out).sto (Nat.le_trans ((Nat.le_trans ((Nat.le_trans ((Nat.le_trans ((Nat.le_trans ((Nat.le_trans ((Nat.le_trans ((Nat.le_trans ((Nat.le_trans ((Nat.le_trans ((Nat.le_trans ((Nat.le_trans (hu4.out.size) hu7.out.size)) hu10.out.size)) hu16.out.size)) hu35.out.size)) hu39.out.size)) hu44.out.size)) hu52.out.size)) (Nat.le_of_eq hs54.out.size.symm))) hu61.out.size)) hu72.out.size)) hg81.out.size)) lbb92.out) hs96.out).trans hu103.out)⟩
   ·
    rw [if_neg c104] at H
    replace c104 := Bool.eq_false_iff.mpr c104
    subst c104
    replace H := Option.bind_eq_some_iff.mp H
    obtain ⟨⟨t108, t109⟩, A110, H⟩ := H
    replace A110 := Aside0.mk A110
    try dsimp only at H
    by_cases c115 : (decide ((([] : List (Int × Int)) ++ [(t66, t67)]).length ≤ 1000000)) = true
    ·
     rw [if_pos c115] at H
     replace H := Option.bind_eq_some_iff.mp H
     obtain ⟨t142, A143, H⟩ := H
     replace A143 := Aside0.mk A143
     try dsimp only at H
     by_cases c146 : (t142) = true
     ·
      rw [if_pos c146] at H
      subst c146
      simp only [Option.some.injEq, Prod.mk.injEq] at H
      obtain ⟨rfl, rfl⟩ := H
      go_enter Try.func38, Try.ntmps38
      refine wp_hide (fun Qf hQf => ?_)
      refine wp_seq_k (fun K1 hK1 => ?_)
      refine wp_region_lit ?_
      refine step_new (cs := [.int .i64 a2_0, .int .i64 a2_1]) (T := 25) (f := fun b => .pointer (some ⟨b, 0, none⟩)) rfl (by first | (go_simp; done) | (go_simp; rfl)) ?_
      intro b2 w3 hu lb hb2
      simp only [Act.put, nm1, nm2, nm3, i64_w]
      have lbb2 := Aside0.mk lb
      have ltb2 := Aside0.mk hb2.lt
      clear lb
      have hu4 := Aside0.mk hu
      clear hu
      refine step_new (cs := [.int .i64 a3_0, .int .i64 a3_1]) (T := 25) (f := fun b => .pointer (some ⟨b, 0, none⟩)) rfl (by first | (go_simp; done) | (go_simp; rfl)) ?_
      intro b5 w6 hu lb hb5
      simp only [Act.put, nm1, nm2, nm3, i64_w]
      have lbb5 := Aside0.mk lb
      have ltb5 := Aside0.mk hb5.lt
      clear lb
      have hu7 := Aside0.mk hu
      clear hu
      refine step_new (cs := [.int .i64 a4_0, .int .i64 a4_1]) (T := 25) (f := fun b => .pointer (some ⟨b, 0, none⟩)) rfl (by first | (go_simp; done) | (go_simp; rfl)) ?_
      intro b8 w9 hu lb hb8
      simp only [Act.put, nm1, nm2, nm3, i64_w]
      have lbb8 := Aside0.mk lb
      have ltb8 := Aside0.mk hb8.lt
      clear lb
      have hu10 := Aside0.mk hu
      clear hu
      refine wpList_plain rfl (fun Ko hKo => ?_)
      go_simp
      refine hKo _ _ ?_
      clear hKo Ko
      try simp only [Act.put, nm1, nm2, nm3, i64_w]
      refine wpList_plain rfl (fun Ko hKo => ?_)
      go_simp
      refine hKo _ _ ?_
      clear hKo Ko
      try simp only [Act.put, nm1, nm2, nm3, i64_w]
      refine wpList_nil ?_
      (try simp only [Exit.then, Exit.inBlock, ↓reduceIte, Nat.reduceEqDiff])
      refine hK1 _ _ ?_
      refine wp_seq_k (fun K11 hK11 => ?_)
      refine wp_seq_k (fun K12 hK12 => ?_)
      refine wp_region_lit ?_
      refine wpList_plain rfl (fun Ko hKo => ?_)
      go_simp
      refine hKo _ _ ?_
      clear hKo Ko
      try simp only [Act.put, nm1, nm2, nm3, i64_w]
      refine wpList_plain rfl (fun Ko hKo => ?_)
      go_simp
      refine hKo _ _ ?_
      clear hKo Ko
      try simp only [Act.put, nm1, nm2, nm3, i64_w]
      have cl0 := (hb2.up (hu7.out.trans hu10.out)).cell (o := 0) rfl
      have cl1 := (hb2.up (hu7.out.trans hu10.out)).cell (o := 1) rfl
      refine wpList_plain rfl (fun Ko hKo => ?_)
      go_simp
      refine hKo _ _ ?_
      clear hKo Ko
      clear cl0 cl1
      try simp only [Act.put, nm1, nm2, nm3, i64_w]
      have cl0 := (hb5.up hu10.out).cell (o := 0) rfl
      have cl1 := (hb5.up hu10.out).cell (o := 1) rfl
      refine wpList_plain rfl (fun Ko hKo => ?_)
      go_simp
      refine hKo _ _ ?_
      clear hKo Ko
      clear cl0 cl1
      try simp only [Act.put, nm1, nm2, nm3, i64_w]
      have cl0 := hb8.cell (o := 0) rfl
      have cl1 := hb8.cell (o := 1) rfl
      refine wpList_plain rfl (fun Ko hKo => ?_)
      go_simp
      refine hKo _ _ ?_
      clear hKo Ko
      clear cl0 cl1
      try simp only [Act.put, nm1, nm2, nm3, i64_w]
      refine step_call (wanted_none rfl) (by first | (go_simp; done) | (go_simp; rfl)) (impl_triangle.calls K a0 a1 a2_0 a2_1 a3_0 a3_1 a4_0 a4_1 t13 w9  A14.out) ?_
      rintro e w15 ⟨rfl, hu⟩
      have hu16 := Aside0.mk hu
      clear hu
      refine ⟨_, rfl, ?_⟩
      simp only [Act.put, nm1, nm2, nm3, i64_w]
      refine wpList_plain rfl (fun Ko hKo => ?_)
      go_simp
      refine hKo _ _ ?_
      clear hKo Ko
      try simp only [Act.put, nm1, nm2, nm3, i64_w]
      refine wpList_nil ?_
      (try simp only [Exit.then, Exit.inBlock, ↓reduceIte, Nat.reduceEqDiff])
      refine hK12 _ _ ?_
      refine wp_seq_k (fun K17 hK17 => ?_)
      refine wp_region_lit ?_
      refine wpList_plain rfl (fun Ko hKo => ?_)
      go_simp
      refine hKo _ _ ?_
      clear hKo Ko
      try simp only [Act.put, nm1, nm2, nm3, i64_w]
      refine wpList_plain rfl (fun Ko hKo => ?_)
      go_simp
      refine hKo _ _ ?_
      clear hKo Ko
      try simp only [Act.put, nm1, nm2, nm3, i64_w]
      refine wpList_nil ?_
      (try simp only [Exit.then, Exit.inBlock, ↓reduceIte, Nat.reduceEqDiff])
      refine hK17 _ _ ?_
      refine wp_cond_false rfl ?_
      refine wp_skip ?_
      (try simp only [Exit.then, Exit.inBlock, ↓reduceIte, Nat.reduceEqDiff])
      refine hK11 _ _ ?_
      refine wp_seq_k (fun K19 hK19 => ?_)
      refine' wp_region_up 13 [Slot.det _, Slot.det _, Slot.det _, Slot.det (.agg #[.int .i64 t20, .int .i64 t21, .int .i64 t22]), Slot.det _, Slot.det _, Slot.det _, Slot.det (.agg #[.int .i64 t24, .int .i64 t25, .int .i64 t26]), Slot.det _, Slot.det _, Slot.det _, Slot.det (.agg #[.int .i64 t28, .int .i64 t29, .int .i64 t30]), Slot.any (SlTo 3 [.int .i64 t20, .int .i64 t21, .int .i64 t22, .int .i64 t24, .int .i64 t25, .int .i64 t26, .int .i64 t28, .int .i64 t29, .int .i64 t30] 39 w15.heap.size) false] (by kernel_rfl) (by kernel_rfl) ?main
      case main =>
       simp only [List.take_succ_cons, List.take_zero]
       refine wpK_ops rfl (fun w1 hu => ?_) ?_
       · clear hu
         go_simp
         first | done | rfl
       simp only [Act.put, nm1, nm2, nm3, i64_w]
       refine wpK_ops rfl (fun w1 hu => ?_) ?_
       · have cl0 := ((hb5.up (hu10.out.trans hu16.out)).up ((Up.refl _).drew.trans hu)).cell (o := 0) rfl
         have cl1 := ((hb5.up (hu10.out.trans hu16.out)).up ((Up.refl _).drew.trans hu)).cell (o := 1) rfl
         go_simp
         first | done | rfl
       simp only [Act.put, nm1, nm2, nm3, i64_w]
       refine wpK_ops rfl (fun w1 hu => ?_) ?_
       · have cl0 := ((hb8.up hu16.out).up ((Up.refl _).drew.trans hu)).cell (o := 0) rfl
         have cl1 := ((hb8.up hu16.out).up ((Up.refl _).drew.trans hu)).cell (o := 1) rfl
         go_simp
         first | done | rfl
       simp only [Act.put, nm1, nm2, nm3, i64_w]
       refine wpK_ops rfl (fun w1 hu => ?_) ?_
       · have hcl := (impl_lineThrough.calls K a0 a3_0 a3_1 a4_0 a4_1 t20 t21 t22 w1  A23.out)
         clear hu
         replace hcl := Aside0.mk hcl
         go_simp
         exact hcl.out
       simp only [Act.put, nm1, nm2, nm3, i64_w]
       refine wpK_ops rfl (fun w1 hu => ?_) ?_
       · clear hu
         go_simp
         first | done | rfl
       simp only [Act.put, nm1, nm2, nm3, i64_w]
       refine wpK_ops rfl (fun w1 hu => ?_) ?_
       · have cl0 := ((hb2.up ((hu7.out.trans hu10.out).trans hu16.out)).up ((Up.refl _).drew.trans hu)).cell (o := 0) rfl
         have cl1 := ((hb2.up ((hu7.out.trans hu10.out).trans hu16.out)).up ((Up.refl _).drew.trans hu)).cell (o := 1) rfl
         go_simp
         first | done | rfl
       simp only [Act.put, nm1, nm2, nm3, i64_w]
       refine wpK_ops rfl (fun w1 hu => ?_) ?_
       · have cl0 := ((hb8.up hu16.out).up ((Up.refl _).drew.trans hu)).cell (o := 0) rfl
         have cl1 := ((hb8.up hu16.out).up ((Up.refl _).drew.trans hu)).cell (o := 1) rfl
         go_simp
         first | done | rfl
       simp only [Act.put, nm1, nm2, nm3, i64_w]
       refine wpK_ops rfl (fun w1 hu => ?_) ?_
       · have hcl := (impl_lineThrough.calls K a0 a2_0 a2_1 a4_0 a4_1 t24 t25 t26 w1  A27.out)
         clear hu
         replace hcl := Aside0.mk hcl
         go_simp
         exact hcl.out
       simp only [Act.put, nm1, nm2, nm3, i64_w]
       refine wpK_ops rfl (fun w1 hu => ?_) ?_
       · clear hu
         go_simp
         first | done | rfl
       simp only [Act.put, nm1, nm2, nm3, i64_w]
       refine wpK_ops rfl (fun w1 hu => ?_) ?_
       · have cl0 := ((hb2.up ((hu7.out.trans hu10.out).trans hu16.out)).up ((Up.refl _).drew.trans hu)).cell (o := 0) rfl
         have cl1 := ((hb2.up ((hu7.out.trans hu10.out).trans hu16.out)).up ((Up.refl _).drew.trans hu)).cell (o := 1) rfl
         go_simp
         first | done | rfl
       simp only [Act.put, nm1, nm2, nm3, i64_w]
       refine wpK_ops rfl (fun w1 hu => ?_) ?_
       · have cl0 := ((hb5.up (hu10.out.trans hu16.out)).up ((Up.refl _).drew.trans hu)).cell (o := 0) rfl
         have cl1 := ((hb5.up (hu10.out.trans hu16.out)).up ((Up.refl _).drew.trans hu)).cell (o := 1) rfl
         go_simp
         first | done | rfl
       simp only [Act.put, nm1, nm2, nm3, i64_w]
       refine wpK_ops rfl (fun w1 hu => ?_) ?_
       · have hcl := (impl_lineThrough.calls K a0 a2_0 a2_1 a3_0 a3_1 t28 t29 t30 w1  A31.out)
         clear hu
         replace hcl := Aside0.mk hcl
         go_simp
         exact hcl.out
       simp only [Act.put, nm1, nm2, nm3, i64_w]
       refine wpK_any rfl (stab_sl _ _ _ _) (fun w1 hu _ => fresh_sl (by first | (go_simp; done) | (go_simp; rfl)) ((Up.refl _).drew.trans hu).size) (fun v32 => ?_)
       simp only [Act.put, nm1, nm2, nm3, i64_w]
       refine wpK_nil ?_
       intro w34 hu hap
       simp only [List.drop_succ_cons, List.drop_zero]
       replace hu := (Up.refl _).drew.trans hu
       obtain ⟨-, -, ⟨b33, e0, hb33, lbb33⟩, -⟩ := hap
       replace lbb33 := Aside0.mk lbb33
       have ltb33 := Aside0.mk hb33.lt
       dsimp only at e0
       subst e0
       have hu35 := Aside0.mk hu
       clear hu
       refine wpList_plain rfl (fun Ko hKo => ?_)
       go_simp
       refine hKo _ _ ?_
       clear hKo Ko
       try simp only [Act.put, nm1, nm2, nm3, i64_w]
       refine wpList_nil ?_
       (try simp only [Exit.then, Exit.inBlock, ↓reduceIte, Nat.reduceEqDiff])
       refine hK19 _ _ ?_
       refine wp_seq_k (fun K36 hK36 => ?_)
       refine wp_region_lit ?_
       refine step_new (cs := []) (T := 25) (f := fun b => .slice (some ⟨b, 0, none⟩) 0 0) rfl (by first | (go_simp; done) | (go_simp; rfl)) ?_
       intro b37 w38 hu lb hb37
       simp only [Act.put, nm1, nm2, nm3, i64_w]
       have lbb37 := Aside0.mk lb
       have ltb37 := Aside0.mk hb37.lt
       clear lb
       have hu39 := Aside0.mk hu
       clear hu
       refine wpList_plain rfl (fun Ko hKo => ?_)
       go_simp
       refine hKo _ _ ?_
       clear hKo Ko
       try simp only [Act.put, nm1, nm2, nm3, i64_w]
       refine wpList_nil ?_
       (try simp only [Exit.then, Exit.inBlock, ↓reduceIte, Nat.reduceEqDiff])
       refine hK36 _ _ ?_
       refine wp_seq_k (fun K40 hK40 => ?_)
       refine wp_seq_k (fun K41 hK41 => ?_)
       refine wp_region_lit ?_
       have cl0 := (hb2.up ((((hu7.out.trans hu10.out).trans hu16.out).trans hu35.out).trans hu39.out)).cell (o := 0) rfl
       have cl1 := (hb2.up ((((hu7.out.trans hu10.out).trans hu16.out).trans hu35.out).trans hu39.out)).cell (o := 1) rfl
       refine wpList_plain rfl (fun Ko hKo => ?_)
       go_simp
       refine hKo _ _ ?_
       clear hKo Ko
       clear cl0 cl1
       try simp only [Act.put, nm1, nm2, nm3, i64_w]
       have cl0 := (hb5.up (((hu10.out.trans hu16.out).trans hu35.out).trans hu39.out)).cell (o := 0) rfl
       have cl1 := (hb5.up (((hu10.out.trans hu16.out).trans hu35.out).trans hu39.out)).cell (o := 1) rfl
       refine wpList_plain rfl (fun Ko hKo => ?_)
       go_simp
       refine hKo _ _ ?_
       clear hKo Ko
       clear cl0 cl1
       try simp only [Act.put, nm1, nm2, nm3, i64_w]
       have cl0 := (hb8.up ((hu16.out.trans hu35.out).trans hu39.out)).cell (o := 0) rfl
       have cl1 := (hb8.up ((hu16.out.trans hu35.out).trans hu39.out)).cell (o := 1) rfl
       refine wpList_plain rfl (fun Ko hKo => ?_)
       go_simp
       refine hKo _ _ ?_
       clear hKo Ko
       clear cl0 cl1
       try simp only [Act.put, nm1, nm2, nm3, i64_w]
       refine step_new (cs := [.int .i64 a2_0, .int .i64 a2_1, .int .i64 a3_0, .int .i64 a3_1, .int .i64 a4_0, .int .i64 a4_1]) (T := 25) (f := fun b => .slice (some ⟨b, 0, none⟩) 3 3) rfl (by first | (go_simp; done) | (go_simp; rfl)) ?_
       intro b42 w43 hu lb hb42
       simp only [Act.put, nm1, nm2, nm3, i64_w]
       have lbb42 := Aside0.mk lb
       have ltb42 := Aside0.mk hb42.lt
       clear lb
       have hu44 := Aside0.mk hu
       clear hu
       refine wpList_plain rfl (fun Ko hKo => ?_)
       go_simp
       refine hKo _ _ ?_
       clear hKo Ko
       try simp only [Act.put, nm1, nm2, nm3, i64_w]
       refine wpList_plain rfl (fun Ko hKo => ?_)
       go_simp
       refine hKo _ _ ?_
       clear hKo Ko
       try simp only [Act.put, nm1, nm2, nm3, i64_w]
       refine wpList_nil ?_
       (try simp only [Exit.then, Exit.inBlock, ↓reduceIte, Nat.reduceEqDiff])
       refine hK41 _ _ ?_
       refine wp_block ?_
       refine wp_loop_rounds 40 ?_
       refine rounds_k (fun K45 hK45 => ?_)
       refine wp_seq_k (fun K46 hK46 => ?_)
       refine wp_region_lit ?_
       refine wpList_plain rfl (fun Ko hKo => ?_)
       go_simp
       refine hKo _ _ ?_
       clear hKo Ko
       try simp only [Act.put, nm1, nm2, nm3, i64_w]
       refine wpList_nil ?_
       (try simp only [Exit.then, Exit.inBlock, ↓reduceIte, Nat.reduceEqDiff])
       refine hK46 _ _ ?_
       refine wp_seq_k (fun K47 hK47 => ?_)
       refine wp_cond_true rfl ?_
       refine wp_skip ?_
       (try simp only [Exit.then, Exit.inBlock, ↓reduceIte, Nat.reduceEqDiff])
       refine hK47 _ _ ?_
       refine wp_seq_k (fun K48 hK48 => ?_)
       refine wp_block ?_
       refine wp_seq_k (fun K49 hK49 => ?_)
       refine wp_region_lit ?_
       refine wpList_plain rfl (fun Ko hKo => ?_)
       go_simp
       refine hKo _ _ ?_
       clear hKo Ko
       try simp only [Act.put, nm1, nm2, nm3, i64_w]
       refine wpList_plain rfl (fun Ko hKo => ?_)
       go_simp
       refine hKo _ _ ?_
       clear hKo Ko
       try simp only [Act.put, nm1, nm2, nm3, i64_w]
       have cl0 := hb42.cell (o := 0) rfl
       have cl1 := hb42.cell (o := 1) rfl
       refine wpList_plain rfl (fun Ko hKo => ?_)
       go_simp
       refine hKo _ _ ?_
       clear hKo Ko
       clear cl0 cl1
       try simp only [Act.put, nm1, nm2, nm3, i64_w]
       refine step_new (cs := [.int .i64 0, .int .i64 0]) (T := 25) (f := fun b => .pointer (some ⟨b, 0, none⟩)) rfl (by first | (go_simp; done) | (go_simp; rfl)) ?_
       intro b50 w51 hu lb hb50
       simp only [Act.put, nm1, nm2, nm3, i64_w]
       have lbb50 := Aside0.mk lb
       have ltb50 := Aside0.mk hb50.lt
       clear lb
       have hu52 := Aside0.mk hu
       clear hu
       refine wpList_plain rfl (fun Ko hKo => ?_)
       go_simp
       refine hKo _ _ ?_
       clear hKo Ko
       try simp only [Act.put, nm1, nm2, nm3, i64_w]
       have hB0 := hb50
       have cl0 := hB0.cell (o := 0) rfl
       have fr0 := hB0.free 0
       have cl1 := hB0.cell (o := 1) rfl
       have fr1 := hB0.free 1
       refine step_store (b := b50) (cs' := [.int .i64 a2_0, .int .i64 a2_1]) (T := 25) (W' := ((w51.setCell ⟨b50, 0, none⟩ (.int .i64 a2_0)).setCell ⟨b50, 1, none⟩ (.int .i64 a2_1))) rfl rfl (by first | (go_simp; done) | (go_simp; rfl)) (((Sto.refl _ _).setCell 0 _).setCell 1 _) (((hB0).setCell 0 _).setCell 1 _) ?_
       clear hB0 cl0 fr0 cl1 fr1
       intro w53 hs hb55
       have hs54 := Aside0.mk hs
       clear hs
       refine wpList_nil ?_
       (try simp only [Exit.then, Exit.inBlock, ↓reduceIte, Nat.reduceEqDiff])
       refine hK49 _ _ ?_
       refine wp_seq_k (fun K56 hK56 => ?_)
       refine wp_seq_k (fun K57 hK57 => ?_)
       refine wp_region_lit ?_
       refine wpList_plain rfl (fun Ko hKo => ?_)
       go_simp
       refine hKo _ _ ?_
       clear hKo Ko
       try simp only [Act.put, nm1, nm2, nm3, i64_w]
       refine wpList_plain rfl (fun Ko hKo => ?_)
       go_simp
       refine hKo _ _ ?_
       clear hKo Ko
       try simp only [Act.put, nm1, nm2, nm3, i64_w]
       refine wpList_plain rfl (fun Ko hKo => ?_)
       go_simp
       refine hKo _ _ ?_
       clear hKo Ko
       try simp only [Act.put, nm1, nm2, nm3, i64_w]
       refine wpList_plain rfl (fun Ko hKo => ?_)
       go_simp
       refine hKo _ _ ?_
       clear hKo Ko
       try simp only [Act.put, nm1, nm2, nm3, i64_w]
       refine wpList_plain rfl (fun Ko hKo => ?_)
       go_simp
       refine hKo _ _ ?_
       clear hKo Ko
       try simp only [Act.put, nm1, nm2, nm3, i64_w]
       have cl0 := (hb33.up (((hu39.out.trans hu44.out).trans hu52.out).sto (Nat.le_trans ((Nat.le_trans (hu39.out.size) hu44.out.size)) lbb50.out) hs54.out)).cell (o := 0) rfl
       have cl1 := (hb33.up (((hu39.out.trans hu44.out).trans hu52.out).sto (Nat.le_trans ((Nat.le_trans (hu39.out.size) hu44.out.size)) lbb50.out) hs54.out)).cell (o := 1) rfl
       have cl2 := (hb33.up (((hu39.out.trans hu44.out).trans hu52.out).sto (Nat.le_trans ((Nat.le_trans (hu39.out.size) hu44.out.size)) lbb50.out) hs54.out)).cell (o := 2) rfl
       refine wpList_plain rfl (fun Ko hKo => ?_)
       go_simp
       refine hKo _ _ ?_
       clear hKo Ko
       clear cl0 cl1 cl2
       try simp only [Act.put, nm1, nm2, nm3, i64_w]
       refine step_call (wanted_none rfl) (by first | (go_simp; done) | (go_simp; rfl)) (impl_isNull.calls K a0 a1 t20 t21 t22 false w53  A59.out) ?_
       rintro e w60 ⟨rfl, hu⟩
       have hu61 := Aside0.mk hu
       clear hu
       refine ⟨_, rfl, ?_⟩
       simp only [Act.put, nm1, nm2, nm3, i64_w]
       refine wpList_nil ?_
       (try simp only [Exit.then, Exit.inBlock, ↓reduceIte, Nat.reduceEqDiff])
       refine hK57 _ _ ?_
       refine wp_cond_false rfl ?_
       refine wp_skip ?_
       (try simp only [Exit.then, Exit.inBlock, ↓reduceIte, Nat.reduceEqDiff])
       refine hK56 _ _ ?_
       refine' wp_region_up 10 [Slot.det _, Slot.det _, Slot.det _, Slot.det _, Slot.det _, Slot.det _, Slot.det _, Slot.det _, Slot.det (.agg #[.int .i64 t66, .int .i64 t67]), Slot.any (SlTo 1 [.int .i64 t66, .int .i64 t67] 25 w60.heap.size) false] (by kernel_rfl) (by kernel_rfl) ?main
       case main =>
        simp only [List.take_succ_cons, List.take_zero]
        refine wpK_ops rfl (fun w1 hu => ?_) ?_
        · clear hu
          go_simp
          first | done | rfl
        simp only [Act.put, nm1, nm2, nm3, i64_w]
        refine wpK_ops rfl (fun w1 hu => ?_) ?_
        · clear hu
          go_simp
          first | done | rfl
        simp only [Act.put, nm1, nm2, nm3, i64_w]
        refine wpK_ops rfl (fun w1 hu => ?_) ?_
        · clear hu
          go_simp
          first | done | rfl
        simp only [Act.put, nm1, nm2, nm3, i64_w]
        refine wpK_ops rfl (fun w1 hu => ?_) ?_
        · have cl0 := ((hb55.up hu61.out).up ((Up.refl _).drew.trans hu)).cell (o := 0) rfl
          have cl1 := ((hb55.up hu61.out).up ((Up.refl _).drew.trans hu)).cell (o := 1) rfl
          go_simp
          first | done | rfl
        simp only [Act.put, nm1, nm2, nm3, i64_w]
        refine wpK_ops rfl (fun w1 hu => ?_) ?_
        · clear hu
          go_simp
          first | done | rfl
        simp only [Act.put, nm1, nm2, nm3, i64_w]
        refine wpK_ops rfl (fun w1 hu => ?_) ?_
        · clear hu
          go_simp
          first | done | rfl
        simp only [Act.put, nm1, nm2, nm3, i64_w]
        refine wpK_ops rfl (fun w1 hu => ?_) ?_
        · clear hu
          go_simp
          first | done | rfl
        simp only [Act.put, nm1, nm2, nm3, i64_w]
        refine wpK_ops rfl (fun w1 hu => ?_) ?_
        · have cl0 := ((hb33.up ((((hu39.out.trans hu44.out).trans hu52.out).sto (Nat.le_trans ((Nat.le_trans (hu39.out.size) hu44.out.size)) lbb50.out) hs54.out).trans hu61.out)).up ((Up.refl _).drew.trans hu)).cell (o := 0) rfl
          have cl1 := ((hb33.up ((((hu39.out.trans hu44.out).trans hu52.out).sto (Nat.le_trans ((Nat.le_trans (hu39.out.size) hu44.out.size)) lbb50.out) hs54.out).trans hu61.out)).up ((Up.refl _).drew.trans hu)).cell (o := 1) rfl
          have cl2 := ((hb33.up ((((hu39.out.trans hu44.out).trans hu52.out).sto (Nat.le_trans ((Nat.le_trans (hu39.out.size) hu44.out.size)) lbb50.out) hs54.out).trans hu61.out)).up ((Up.refl _).drew.trans hu)).cell (o := 2) rfl
          go_simp
          first | done | rfl
        simp only [Act.put, nm1, nm2, nm3, i64_w]
        refine wpK_ops rfl (fun w1 hu => ?_) ?_
        · have hcl := (impl_foot.calls K a0 a1 a2_0 a2_1 t20 t21 t22 t66 t67 w1  A68.out)
          clear hu
          replace hcl := Aside0.mk hcl
          go_simp
          exact hcl.out
        simp only [Act.put, nm1, nm2, nm3, i64_w]
        refine wpK_any rfl (stab_sl _ _ _ _) (fun w1 hu _ => fresh_sl (by first | (go_simp; done) | (go_simp; rfl)) ((Up.refl _).drew.trans hu).size) (fun v69 => ?_)
        simp only [Act.put, nm1, nm2, nm3, i64_w]
        refine wpK_nil ?_
        intro w71 hu hap
        simp only [List.drop_succ_cons, List.drop_zero]
        replace hu := (Up.refl _).drew.trans hu
        obtain ⟨-, -, ⟨b70, e0, hb70, lbb70⟩, -⟩ := hap
        replace lbb70 := Aside0.mk lbb70
        have ltb70 := Aside0.mk hb70.lt
        dsimp only at e0
        subst e0
        have hu72 := Aside0.mk hu
        clear hu
        have h74 : Own e2 25 w71 w34.heap.size (.slice (some ⟨b37, 0, none⟩) ([].length) 0) [] := Own.of_blk (hb37.up ((((hu44.out.trans hu52.out).sto (Nat.le_trans (hu44.out.size) lbb50.out) hs54.out).trans hu61.out).trans hu72.out)) lbb37.out rfl (by simp) (by simp [Enc.flat, e2])
        have h75 : Own e2 25 w38 w34.heap.size (.slice (some ⟨b37, 0, none⟩) ([].length) 0) [] := Own.of_blk hb37 lbb37.out rfl (by simp) (by simp [Enc.flat, e2])
        have hO0 := Aside0.mk h74
        refine step_append e2 (z := .agg #[.int .i64 0, .int .i64 0]) (bytes := 16) (base := w34.heap.size) (xs := ([] : List (Int × Int))) (ys := [(t66, t67)]) (wanted_none rfl) _ _ rfl rfl (by kernel_rfl) rfl (by decide) rfl rfl rfl hO0.out (Rd.of_blk (E := e2) (xs := [(t66, t67)]) (o := 0) hb70 (by simp) (fun j u hu => by rcases j with _ | _ | j <;> simp_all [Enc.flat, e2])) ((Nat.le_trans ((Nat.le_trans ((Nat.le_trans ((Nat.le_trans ((Nat.le_trans (hu39.out.size) hu44.out.size)) hu52.out.size)) (Nat.le_of_eq hs54.out.size.symm))) hu61.out.size)) hu72.out.size)) (by simp only [List.length_cons, List.length_nil]; omega) ?_
        intro P76 q77 w78 h80 hg hat
        have hg81 := Aside0.mk hg
        have hat82 := Aside0.mk hat
        simp only [Act.put, nm1, nm2, nm3, i64_w]
        have lb83 := Aside0.mk hO0.out.lt
        clear hO0 hg hat
        have h84 := (hb42.up (((hu52.out.sto (Nat.le_trans (Nat.le_refl _) lbb50.out) hs54.out).trans hu61.out).trans hu72.out)).grow hg81.out (fun k hk => Nat.ne_of_lt (Nat.lt_of_lt_of_le ((fun k hk => Nat.lt_of_lt_of_le (h75.lt k hk).2 (Nat.le_refl _)) k hk) lbb42.out))
        have h85 := (hb55.up (hu61.out.trans hu72.out)).grow hg81.out (fun k hk => Nat.ne_of_lt (Nat.lt_of_lt_of_le ((fun k hk => Nat.lt_of_lt_of_le (h75.lt k hk).2 (hu44.out.size)) k hk) lbb50.out))
        have h86 := hb70.grow hg81.out (fun k hk => Nat.ne_of_lt (Nat.lt_of_lt_of_le ((fun k hk => Nat.lt_of_lt_of_le (h75.lt k hk).2 ((Nat.le_trans ((Nat.le_trans ((Nat.le_trans (hu44.out.size) hu52.out.size)) (Nat.le_of_eq hs54.out.size.symm))) hu61.out.size))) k hk) lbb70.out))
        refine wpList_plain rfl (fun Ko hKo => ?_)
        go_simp
        refine hKo _ _ ?_
        clear hKo Ko
        try simp only [Act.put, nm1, nm2, nm3, i64_w]
        refine wpList_nil ?_
        (try simp only [Exit.then, Exit.inBlock, ↓reduceIte, Nat.reduceEqDiff])
        refine hK48 _ _ ?_
        refine wp_region_lit ?_
        refine wpList_plain rfl (fun Ko hKo => ?_)
        go_simp
        refine hKo _ _ ?_
        clear hKo Ko
        try simp only [Act.put, nm1, nm2, nm3, i64_w]
        try simp only [show wrap64 1 = 1 from wlit rfl]
        refine wpList_plain rfl (fun Ko hKo => ?_)
        go_simp
        refine hKo _ _ ?_
        clear hKo Ko
        try simp only [Act.put, nm1, nm2, nm3, i64_w]
        refine wpList_nil ?_
        (try simp only [Exit.then, Exit.inBlock, ↓reduceIte, Nat.reduceEqDiff])
        refine hK45 _ _ ?_
        refine rounds_k (fun K87 hK87 => ?_)
        refine wp_seq_k (fun K88 hK88 => ?_)
        refine wp_region_lit ?_
        refine wpList_plain rfl (fun Ko hKo => ?_)
        go_simp
        refine hKo _ _ ?_
        clear hKo Ko
        try simp only [Act.put, nm1, nm2, nm3, i64_w]
        refine wpList_nil ?_
        (try simp only [Exit.then, Exit.inBlock, ↓reduceIte, Nat.reduceEqDiff])
        refine hK88 _ _ ?_
        refine wp_seq_k (fun K89 hK89 => ?_)
        refine wp_cond_true rfl ?_
        refine wp_skip ?_
        (try simp only [Exit.then, Exit.inBlock, ↓reduceIte, Nat.reduceEqDiff])
        refine hK89 _ _ ?_
        refine wp_seq_k (fun K90 hK90 => ?_)
        refine wp_block ?_
        refine wp_seq_k (fun K91 hK91 => ?_)
        refine wp_region_lit ?_
        refine wpList_plain rfl (fun Ko hKo => ?_)
        go_simp
        refine hKo _ _ ?_
        clear hKo Ko
        try simp only [Act.put, nm1, nm2, nm3, i64_w]
        refine wpList_plain rfl (fun Ko hKo => ?_)
        go_simp
        refine hKo _ _ ?_
        clear hKo Ko
        try simp only [Act.put, nm1, nm2, nm3, i64_w]
        have cl0 := h84.cell (o := 2) rfl
        have cl1 := h84.cell (o := 3) rfl
        refine wpList_plain rfl (fun Ko hKo => ?_)
        go_simp
        refine hKo _ _ ?_
        clear hKo Ko
        clear cl0 cl1
        try simp only [Act.put, nm1, nm2, nm3, i64_w]
        refine step_new (cs := [.int .i64 0, .int .i64 0]) (T := 25) (f := fun b => .pointer (some ⟨b, 0, none⟩)) rfl (by first | (go_simp; done) | (go_simp; rfl)) ?_
        intro b92 w93 hu lb hb92
        simp only [Act.put, nm1, nm2, nm3, i64_w]
        have lbb92 := Aside0.mk lb
        have ltb92 := Aside0.mk hb92.lt
        clear lb
        have hu94 := Aside0.mk hu
        clear hu
        refine wpList_plain rfl (fun Ko hKo => ?_)
        go_simp
        refine hKo _ _ ?_
        clear hKo Ko
        try simp only [Act.put, nm1, nm2, nm3, i64_w]
        have hB0 := hb92
        have cl0 := hB0.cell (o := 0) rfl
        have fr0 := hB0.free 0
        have cl1 := hB0.cell (o := 1) rfl
        have fr1 := hB0.free 1
        refine step_store (b := b92) (cs' := [.int .i64 a3_0, .int .i64 a3_1]) (T := 25) (W' := ((w93.setCell ⟨b92, 0, none⟩ (.int .i64 a3_0)).setCell ⟨b92, 1, none⟩ (.int .i64 a3_1))) rfl rfl (by first | (go_simp; done) | (go_simp; rfl)) (((Sto.refl _ _).setCell 0 _).setCell 1 _) (((hB0).setCell 0 _).setCell 1 _) ?_
        clear hB0 cl0 fr0 cl1 fr1
        intro w95 hs hb97
        have hs96 := Aside0.mk hs
        clear hs
        refine wpList_nil ?_
        (try simp only [Exit.then, Exit.inBlock, ↓reduceIte, Nat.reduceEqDiff])
        refine hK91 _ _ ?_
        refine wp_seq_k (fun K98 hK98 => ?_)
        refine wp_seq_k (fun K99 hK99 => ?_)
        refine wp_region_lit ?_
        refine wpList_plain rfl (fun Ko hKo => ?_)
        go_simp
        refine hKo _ _ ?_
        clear hKo Ko
        try simp only [Act.put, nm1, nm2, nm3, i64_w]
        refine wpList_plain rfl (fun Ko hKo => ?_)
        go_simp
        refine hKo _ _ ?_
        clear hKo Ko
        try simp only [Act.put, nm1, nm2, nm3, i64_w]
        refine wpList_plain rfl (fun Ko hKo => ?_)
        go_simp
        refine hKo _ _ ?_
        clear hKo Ko
        try simp only [Act.put, nm1, nm2, nm3, i64_w]
        refine wpList_plain rfl (fun Ko hKo => ?_)
        go_simp
        refine hKo _ _ ?_
        clear hKo Ko
        try simp only [Act.put, nm1, nm2, nm3, i64_w]
        refine wpList_plain rfl (fun Ko hKo => ?_)
        go_simp
        refine hKo _ _ ?_
        clear hKo Ko
        try simp only [Act.put, nm1, nm2, nm3, i64_w]
        have cl0 := (hb33.up ((((((((hu39.out.trans hu44.out).trans hu52.out).sto (Nat.le_trans ((Nat.le_trans (hu39.out.size) hu44.out.size)) lbb50.out) hs54.out).trans hu61.out).trans hu72.out).grow hg81.out (fun k hk => Nat.le_trans (Nat.le_refl _) ((fun k hk => (lb83.out k hk).1) k hk))).trans hu94.out).sto (Nat.le_trans ((Nat.le_trans ((Nat.le_trans ((Nat.le_trans ((Nat.le_trans ((Nat.le_trans ((Nat.le_trans (hu39.out.size) hu44.out.size)) hu52.out.size)) (Nat.le_of_eq hs54.out.size.symm))) hu61.out.size)) hu72.out.size)) hg81.out.size)) lbb92.out) hs96.out)).cell (o := 3) rfl
        have cl1 := (hb33.up ((((((((hu39.out.trans hu44.out).trans hu52.out).sto (Nat.le_trans ((Nat.le_trans (hu39.out.size) hu44.out.size)) lbb50.out) hs54.out).trans hu61.out).trans hu72.out).grow hg81.out (fun k hk => Nat.le_trans (Nat.le_refl _) ((fun k hk => (lb83.out k hk).1) k hk))).trans hu94.out).sto (Nat.le_trans ((Nat.le_trans ((Nat.le_trans ((Nat.le_trans ((Nat.le_trans ((Nat.le_trans ((Nat.le_trans (hu39.out.size) hu44.out.size)) hu52.out.size)) (Nat.le_of_eq hs54.out.size.symm))) hu61.out.size)) hu72.out.size)) hg81.out.size)) lbb92.out) hs96.out)).cell (o := 4) rfl
        have cl2 := (hb33.up ((((((((hu39.out.trans hu44.out).trans hu52.out).sto (Nat.le_trans ((Nat.le_trans (hu39.out.size) hu44.out.size)) lbb50.out) hs54.out).trans hu61.out).trans hu72.out).grow hg81.out (fun k hk => Nat.le_trans (Nat.le_refl _) ((fun k hk => (lb83.out k hk).1) k hk))).trans hu94.out).sto (Nat.le_trans ((Nat.le_trans ((Nat.le_trans ((Nat.le_trans ((Nat.le_trans ((Nat.le_trans ((Nat.le_trans (hu39.out.size) hu44.out.size)) hu52.out.size)) (Nat.le_of_eq hs54.out.size.symm))) hu61.out.size)) hu72.out.size)) hg81.out.size)) lbb92.out) hs96.out)).cell (o := 5) rfl
        refine wpList_plain rfl (fun Ko hKo => ?_)
        go_simp
        refine hKo _ _ ?_
        clear hKo Ko
        clear cl0 cl1 cl2
        try simp only [Act.put, nm1, nm2, nm3, i64_w]
        refine step_call (wanted_none rfl) (by first | (go_simp; done) | (go_simp; rfl)) (impl_isNull.calls K a0 a1 t24 t25 t26 false w95  A101.out) ?_
        rintro e w102 ⟨rfl, hu⟩
        have hu103 := Aside0.mk hu
        clear hu
        refine ⟨_, rfl, ?_⟩
        simp only [Act.put, nm1, nm2, nm3, i64_w]
        refine wpList_nil ?_
        (try simp only [Exit.then, Exit.inBlock, ↓reduceIte, Nat.reduceEqDiff])
        refine hK99 _ _ ?_
        refine wp_cond_false rfl ?_
        refine wp_skip ?_
        (try simp only [Exit.then, Exit.inBlock, ↓reduceIte, Nat.reduceEqDiff])
        refine hK98 _ _ ?_
        refine' wp_region_up 10 [Slot.det _, Slot.det _, Slot.det _, Slot.det _, Slot.det _, Slot.det _, Slot.det _, Slot.det _, Slot.det (.agg #[.int .i64 t108, .int .i64 t109]), Slot.any (SlTo 1 [.int .i64 t108, .int .i64 t109] 25 w102.heap.size) false] (by kernel_rfl) (by kernel_rfl) ?main
        case main =>
         simp only [List.take_succ_cons, List.take_zero]
         refine wpK_ops rfl (fun w1 hu => ?_) ?_
         · clear hu
           go_simp
           first | done | rfl
         simp only [Act.put, nm1, nm2, nm3, i64_w]
         refine wpK_ops rfl (fun w1 hu => ?_) ?_
         · clear hu
           go_simp
           first | done | rfl
         simp only [Act.put, nm1, nm2, nm3, i64_w]
         refine wpK_ops rfl (fun w1 hu => ?_) ?_
         · clear hu
           go_simp
           first | done | rfl
         simp only [Act.put, nm1, nm2, nm3, i64_w]
         refine wpK_ops rfl (fun w1 hu => ?_) ?_
         · have cl0 := ((hb97.up hu103.out).up ((Up.refl _).drew.trans hu)).cell (o := 0) rfl
           have cl1 := ((hb97.up hu103.out).up ((Up.refl _).drew.trans hu)).cell (o := 1) rfl
           go_simp
           first | done | rfl
         simp only [Act.put, nm1, nm2, nm3, i64_w]
         refine wpK_ops rfl (fun w1 hu => ?_) ?_
         · clear hu
           go_simp
           first | done | rfl
         simp only [Act.put, nm1, nm2, nm3, i64_w]
         refine wpK_ops rfl (fun w1 hu => ?_) ?_
         · clear hu
           go_simp
           first | done | rfl
         simp only [Act.put, nm1, nm2, nm3, i64_w]
         refine wpK_ops rfl (fun w1 hu => ?_) ?_
         · clear hu
           go_simp
           first | done | rfl
         simp only [Act.put, nm1, nm2, nm3, i64_w]
         refine wpK_ops rfl (fun w1 hu => ?_) ?_
         · have cl0 := ((hb33.up (((((((((hu39.out.trans hu44.out).trans hu52.out).sto (Nat.le_trans ((Nat.le_trans (hu39.out.size) hu44.out.size)) lbb50.out) hs54.out).trans hu61.out).trans hu72.out).grow hg81.out (fun k hk => Nat.le_trans (Nat.le_refl _) ((fun k hk => (lb83.out k hk).1) k hk))).trans hu94.out).sto (Nat.le_trans ((Nat.le_trans ((Nat.le_trans ((Nat.le_trans ((Nat.le_trans ((Nat.le_trans ((Nat.le_trans (hu39.out.size) hu44.out.size)) hu52.out.size)) (Nat.le_of_eq hs54.out.size.symm))) hu61.out.size)) hu72.out.size)) hg81.out.size)) lbb92.out) hs96.out).trans hu103.out)).up ((Up.refl _).drew.trans hu)).cell (o := 3) rfl
           have cl1 := ((hb33.up (((((((((hu39.out.trans hu44.out).trans hu52.out).sto (Nat.le_trans ((Nat.le_trans (hu39.out.size) hu44.out.size)) lbb50.out) hs54.out).trans hu61.out).trans hu72.out).grow hg81.out (fun k hk => Nat.le_trans (Nat.le_refl _) ((fun k hk => (lb83.out k hk).1) k hk))).trans hu94.out).sto (Nat.le_trans ((Nat.le_trans ((Nat.le_trans ((Nat.le_trans ((Nat.le_trans ((Nat.le_trans ((Nat.le_trans (hu39.out.size) hu44.out.size)) hu52.out.size)) (Nat.le_of_eq hs54.out.size.symm))) hu61.out.size)) hu72.out.size)) hg81.out.size)) lbb92.out) hs96.out).trans hu103.out)).up ((Up.refl _).drew.trans hu)).cell (o := 4) rfl
           have cl2 := ((hb33.up (((((((((hu39.out.trans hu44.out).trans hu52.out).sto (Nat.le_trans ((Nat.le_trans (hu39.out.size) hu44.out.size)) lbb50.out) hs54.out).trans hu61.out).trans hu72.out).grow hg81.out (fun k hk => Nat.le_trans (Nat.le_refl _) ((fun k hk => (lb83.out k hk).1) k hk))).trans hu94.out).sto (Nat.le_trans ((Nat.le_trans ((Nat.le_trans ((Nat.le_trans ((Nat.le_trans ((Nat.le_trans ((Nat.le_trans (hu39.out.size) hu44.out.size)) hu52.out.size)) (Nat.le_of_eq hs54.out.size.symm))) hu61.out.size)) hu72.out.size)) hg81.out.size)) lbb92.out) hs96.out).trans hu103.out)).up ((Up.refl _).drew.trans hu)).cell (o := 5) rfl
           go_simp
           first | done | rfl
         simp only [Act.put, nm1, nm2, nm3, i64_w]
         refine wpK_ops rfl (fun w1 hu => ?_) ?_
         · have hcl := (impl_foot.calls K a0 a1 a3_0 a3_1 t24 t25 t26 t108 t109 w1  A110.out)
           clear hu
           replace hcl := Aside0.mk hcl
           go_simp
           exact hcl.out
         simp only [Act.put, nm1, nm2, nm3, i64_w]
         refine wpK_any rfl (stab_sl _ _ _ _) (fun w1 hu _ => fresh_sl (by first | (go_simp; done) | (go_simp; rfl)) ((Up.refl _).drew.trans hu).size) (fun v111 => ?_)
         simp only [Act.put, nm1, nm2, nm3, i64_w]
         refine wpK_nil ?_
         intro w113 hu hap
         simp only [List.drop_succ_cons, List.drop_zero]
         replace hu := (Up.refl _).drew.trans hu
         obtain ⟨-, -, ⟨b112, e0, hb112, lbb112⟩, -⟩ := hap
         replace lbb112 := Aside0.mk lbb112
         have ltb112 := Aside0.mk hb112.lt
         dsimp only at e0
         subst e0
         have hu114 := Aside0.mk hu
         clear hu
         have hO0 := Aside0.mk (h80.up (((hu94.out.sto (Nat.le_trans (Nat.le_refl _) lbb92.out) hs96.out).trans hu103.out).trans hu114.out))
         refine step_append e2 (z := .agg #[.int .i64 0, .int .i64 0]) (bytes := 16) (base := w34.heap.size) (xs := (([] : List (Int × Int)) ++ [(t66, t67)])) (ys := [(t108, t109)]) (wanted_none rfl) _ _ rfl rfl (by kernel_rfl) rfl (by decide) rfl rfl rfl hO0.out (Rd.of_blk (E := e2) (xs := [(t108, t109)]) (o := 0) hb112 (by simp) (fun j u hu => by rcases j with _ | _ | j <;> simp_all [Enc.flat, e2])) ((Nat.le_trans ((Nat.le_trans ((Nat.le_trans ((Nat.le_trans ((Nat.le_trans ((Nat.le_trans ((Nat.le_trans ((Nat.le_trans ((Nat.le_trans ((Nat.le_trans (hu39.out.size) hu44.out.size)) hu52.out.size)) (Nat.le_of_eq hs54.out.size.symm))) hu61.out.size)) hu72.out.size)) hg81.out.size)) hu94.out.size)) (Nat.le_of_eq hs96.out.size.symm))) hu103.out.size)) hu114.out.size)) (by have h0_ := (of_decide_eq_true (by assumption) : (([] : List (Int × Int)) ++ [(t66, t67)]).length ≤ 1000000); simp only [List.length_cons, List.length_nil]; omega) ?_
         intro P116 q117 w118 h120 hg hat
         have hg121 := Aside0.mk hg
         have hat122 := Aside0.mk hat
         simp only [Act.put, nm1, nm2, nm3, i64_w]
         have lb123 := Aside0.mk hO0.out.lt
         clear hO0 hg hat
         have h124 := (h84.up (((hu94.out.sto (Nat.le_trans (Nat.le_refl _) lbb92.out) hs96.out).trans hu103.out).trans hu114.out)).grow hg121.out (fun k hk => hat82.out.elim (fun e => (fun k hk => Nat.ne_of_lt (Nat.lt_of_lt_of_le ((fun k hk => Nat.lt_of_lt_of_le (h75.lt k hk).2 (Nat.le_refl _)) k hk) lbb42.out)) k (e.symm.trans hk)) (fun g => Nat.ne_of_gt (Nat.lt_of_lt_of_le (Nat.lt_of_lt_of_le ltb42.out ((Nat.le_trans ((Nat.le_trans ((Nat.le_trans (hu52.out.size) (Nat.le_of_eq hs54.out.size.symm))) hu61.out.size)) hu72.out.size))) (g k hk))))
         have h125 := (h85.up (((hu94.out.sto (Nat.le_trans (Nat.le_refl _) lbb92.out) hs96.out).trans hu103.out).trans hu114.out)).grow hg121.out (fun k hk => hat82.out.elim (fun e => (fun k hk => Nat.ne_of_lt (Nat.lt_of_lt_of_le ((fun k hk => Nat.lt_of_lt_of_le (h75.lt k hk).2 (hu44.out.size)) k hk) lbb50.out)) k (e.symm.trans hk)) (fun g => Nat.ne_of_gt (Nat.lt_of_lt_of_le (Nat.lt_of_lt_of_le ltb50.out ((Nat.le_trans ((Nat.le_trans ((Nat.le_of_eq hs54.out.size.symm)) hu61.out.size)) hu72.out.size))) (g k hk))))
         have h126 := (h86.up (((hu94.out.sto (Nat.le_trans (Nat.le_refl _) lbb92.out) hs96.out).trans hu103.out).trans hu114.out)).grow hg121.out (fun k hk => hat82.out.elim (fun e => (fun k hk => Nat.ne_of_lt (Nat.lt_of_lt_of_le ((fun k hk => Nat.lt_of_lt_of_le (h75.lt k hk).2 ((Nat.le_trans ((Nat.le_trans ((Nat.le_trans (hu44.out.size) hu52.out.size)) (Nat.le_of_eq hs54.out.size.symm))) hu61.out.size))) k hk) lbb70.out)) k (e.symm.trans hk)) (fun g => Nat.ne_of_gt (Nat.lt_of_lt_of_le ltb70.out (g k hk))))
         have h127 := (hb97.up (hu103.out.trans hu114.out)).grow hg121.out (fun k hk => Nat.ne_of_lt (Nat.lt_of_lt_of_le ((fun k hk => Nat.lt_of_lt_of_le (h80.lt k hk).2 (Nat.le_refl _)) k hk) lbb92.out))
         have h128 := hb112.grow hg121.out (fun k hk => Nat.ne_of_lt (Nat.lt_of_lt_of_le ((fun k hk => Nat.lt_of_lt_of_le (h80.lt k hk).2 ((Nat.le_trans ((Nat.le_trans (hu94.out.size) (Nat.le_of_eq hs96.out.size.symm))) hu103.out.size))) k hk) lbb112.out))
         refine wpList_plain rfl (fun Ko hKo => ?_)
         go_simp
         refine hKo _ _ ?_
         clear hKo Ko
         try simp only [Act.put, nm1, nm2, nm3, i64_w]
         refine wpList_nil ?_
         (try simp only [Exit.then, Exit.inBlock, ↓reduceIte, Nat.reduceEqDiff])
         refine hK90 _ _ ?_
         refine wp_region_lit ?_
         refine wpList_plain rfl (fun Ko hKo => ?_)
         go_simp
         refine hKo _ _ ?_
         clear hKo Ko
         try simp only [Act.put, nm1, nm2, nm3, i64_w]
         try simp only [show wrap64 2 = 2 from wlit rfl]
         refine wpList_plain rfl (fun Ko hKo => ?_)
         go_simp
         refine hKo _ _ ?_
         clear hKo Ko
         try simp only [Act.put, nm1, nm2, nm3, i64_w]
         refine wpList_nil ?_
         (try simp only [Exit.then, Exit.inBlock, ↓reduceIte, Nat.reduceEqDiff])
         refine hK87 _ _ ?_
         refine rounds_k (fun K129 hK129 => ?_)
         refine wp_seq_k (fun K130 hK130 => ?_)
         refine wp_region_lit ?_
         refine wpList_plain rfl (fun Ko hKo => ?_)
         go_simp
         refine hKo _ _ ?_
         clear hKo Ko
         try simp only [Act.put, nm1, nm2, nm3, i64_w]
         refine wpList_nil ?_
         (try simp only [Exit.then, Exit.inBlock, ↓reduceIte, Nat.reduceEqDiff])
         refine hK130 _ _ ?_
         refine wp_seq_k (fun K131 hK131 => ?_)
         refine wp_cond_true rfl ?_
         refine wp_skip ?_
         (try simp only [Exit.then, Exit.inBlock, ↓reduceIte, Nat.reduceEqDiff])
         refine hK131 _ _ ?_
         refine wp_seq_k (fun K132 hK132 => ?_)
         refine wp_block ?_
         refine wp_seq_k (fun K133 hK133 => ?_)
         refine wp_region_lit ?_
         refine wpList_plain rfl (fun Ko hKo => ?_)
         go_simp
         refine hKo _ _ ?_
         clear hKo Ko
         try simp only [Act.put, nm1, nm2, nm3, i64_w]
         refine wpList_plain rfl (fun Ko hKo => ?_)
         go_simp
         refine hKo _ _ ?_
         clear hKo Ko
         try simp only [Act.put, nm1, nm2, nm3, i64_w]
         have cl0 := h124.cell (o := 4) rfl
         have cl1 := h124.cell (o := 5) rfl
         refine wpList_plain rfl (fun Ko hKo => ?_)
         go_simp
         refine hKo _ _ ?_
         clear hKo Ko
         clear cl0 cl1
         try simp only [Act.put, nm1, nm2, nm3, i64_w]
         refine step_new (cs := [.int .i64 0, .int .i64 0]) (T := 25) (f := fun b => .pointer (some ⟨b, 0, none⟩)) rfl (by first | (go_simp; done) | (go_simp; rfl)) ?_
         intro b134 w135 hu lb hb134
         simp only [Act.put, nm1, nm2, nm3, i64_w]
         have lbb134 := Aside0.mk lb
         have ltb134 := Aside0.mk hb134.lt
         clear lb
         have hu136 := Aside0.mk hu
         clear hu
         refine wpList_plain rfl (fun Ko hKo => ?_)
         go_simp
         refine hKo _ _ ?_
         clear hKo Ko
         try simp only [Act.put, nm1, nm2, nm3, i64_w]
         have hB0 := hb134
         have cl0 := hB0.cell (o := 0) rfl
         have fr0 := hB0.free 0
         have cl1 := hB0.cell (o := 1) rfl
         have fr1 := hB0.free 1
         refine step_store (b := b134) (cs' := [.int .i64 a4_0, .int .i64 a4_1]) (T := 25) (W' := ((w135.setCell ⟨b134, 0, none⟩ (.int .i64 a4_0)).setCell ⟨b134, 1, none⟩ (.int .i64 a4_1))) rfl rfl (by first | (go_simp; done) | (go_simp; rfl)) (((Sto.refl _ _).setCell 0 _).setCell 1 _) (((hB0).setCell 0 _).setCell 1 _) ?_
         clear hB0 cl0 fr0 cl1 fr1
         intro w137 hs hb139
         have hs138 := Aside0.mk hs
         clear hs
         refine wpList_nil ?_
         (try simp only [Exit.then, Exit.inBlock, ↓reduceIte, Nat.reduceEqDiff])
         refine hK133 _ _ ?_
         refine wp_seq_k (fun K140 hK140 => ?_)
         refine wp_seq_k (fun K141 hK141 => ?_)
         refine wp_region_lit ?_
         refine wpList_plain rfl (fun Ko hKo => ?_)
         go_simp
         refine hKo _ _ ?_
         clear hKo Ko
         try simp only [Act.put, nm1, nm2, nm3, i64_w]
         refine wpList_plain rfl (fun Ko hKo => ?_)
         go_simp
         refine hKo _ _ ?_
         clear hKo Ko
         try simp only [Act.put, nm1, nm2, nm3, i64_w]
         refine wpList_plain rfl (fun Ko hKo => ?_)
         go_simp
         refine hKo _ _ ?_
         clear hKo Ko
         try simp only [Act.put, nm1, nm2, nm3, i64_w]
         refine wpList_plain rfl (fun Ko hKo => ?_)
         go_simp
         refine hKo _ _ ?_
         clear hKo Ko
         try simp only [Act.put, nm1, nm2, nm3, i64_w]
         refine wpList_plain rfl (fun Ko hKo => ?_)
         go_simp
         refine hKo _ _ ?_
         clear hKo Ko
         try simp only [Act.put, nm1, nm2, nm3, i64_w]
         have cl0 := (hb33.up (((((((((((((hu39.out.trans hu44.out).trans hu52.out).sto (Nat.le_trans ((Nat.le_trans (hu39.out.size) hu44.out.size)) lbb50.out) hs54.out).trans hu61.out).trans hu72.out).grow hg81.out (fun k hk => Nat.le_trans (Nat.le_refl _) ((fun k hk => (lb83.out k hk).1) k hk))).trans hu94.out).sto (Nat.le_trans ((Nat.le_trans ((Nat.le_trans ((Nat.le_trans ((Nat.le_trans ((Nat.le_trans ((Nat.le_trans (hu39.out.size) hu44.out.size)) hu52.out.size)) (Nat.le_of_eq hs54.out.size.symm))) hu61.out.size)) hu72.out.size)) hg81.out.size)) lbb92.out) hs96.out).trans hu103.out).trans hu114.out).grow hg121.out (fun k hk => Nat.le_trans (Nat.le_refl _) ((fun k hk => (lb123.out k hk).1) k hk))).trans hu136.out).sto (Nat.le_trans ((Nat.le_trans ((Nat.le_trans ((Nat.le_trans ((Nat.le_trans ((Nat.le_trans ((Nat.le_trans ((Nat.le_trans ((Nat.le_trans ((Nat.le_trans ((Nat.le_trans ((Nat.le_trans (hu39.out.size) hu44.out.size)) hu52.out.size)) (Nat.le_of_eq hs54.out.size.symm))) hu61.out.size)) hu72.out.size)) hg81.out.size)) hu94.out.size)) (Nat.le_of_eq hs96.out.size.symm))) hu103.out.size)) hu114.out.size)) hg121.out.size)) lbb134.out) hs138.out)).cell (o := 6) rfl
         have cl1 := (hb33.up (((((((((((((hu39.out.trans hu44.out).trans hu52.out).sto (Nat.le_trans ((Nat.le_trans (hu39.out.size) hu44.out.size)) lbb50.out) hs54.out).trans hu61.out).trans hu72.out).grow hg81.out (fun k hk => Nat.le_trans (Nat.le_refl _) ((fun k hk => (lb83.out k hk).1) k hk))).trans hu94.out).sto (Nat.le_trans ((Nat.le_trans ((Nat.le_trans ((Nat.le_trans ((Nat.le_trans ((Nat.le_trans ((Nat.le_trans (hu39.out.size) hu44.out.size)) hu52.out.size)) (Nat.le_of_eq hs54.out.size.symm))) hu61.out.size)) hu72.out.size)) hg81.out.size)) lbb92.out) hs96.out).trans hu103.out).trans hu114.out).grow hg121.out (fun k hk => Nat.le_trans (Nat.le_refl _) ((fun k hk => (lb123.out k hk).1) k hk))).trans hu136.out).sto (Nat.le_trans ((Nat.le_trans ((Nat.le_trans ((Nat.le_trans ((Nat.le_trans ((Nat.le_trans ((Nat.le_trans ((Nat.le_trans ((Nat.le_trans ((Nat.le_trans ((Nat.le_trans ((Nat.le_trans (hu39.out.size) hu44.out.size)) hu52.out.size)) (Nat.le_of_eq hs54.out.size.symm))) hu61.out.size)) hu72.out.size)) hg81.out.size)) hu94.out.size)) (Nat.le_of_eq hs96.out.size.symm))) hu103.out.size)) hu114.out.size)) hg121.out.size)) lbb134.out) hs138.out)).cell (o := 7) rfl
         have cl2 := (hb33.up (((((((((((((hu39.out.trans hu44.out).trans hu52.out).sto (Nat.le_trans ((Nat.le_trans (hu39.out.size) hu44.out.size)) lbb50.out) hs54.out).trans hu61.out).trans hu72.out).grow hg81.out (fun k hk => Nat.le_trans (Nat.le_refl _) ((fun k hk => (lb83.out k hk).1) k hk))).trans hu94.out).sto (Nat.le_trans ((Nat.le_trans ((Nat.le_trans ((Nat.le_trans ((Nat.le_trans ((Nat.le_trans ((Nat.le_trans (hu39.out.size) hu44.out.size)) hu52.out.size)) (Nat.le_of_eq hs54.out.size.symm))) hu61.out.size)) hu72.out.size)) hg81.out.size)) lbb92.out) hs96.out).trans hu103.out).trans hu114.out).grow hg121.out (fun k hk => Nat.le_trans (Nat.le_refl _) ((fun k hk => (lb123.out k hk).1) k hk))).trans hu136.out).sto (Nat.le_trans ((Nat.le_trans ((Nat.le_trans ((Nat.le_trans ((Nat.le_trans ((Nat.le_trans ((Nat.le_trans ((Nat.le_trans ((Nat.le_trans ((Nat.le_trans ((Nat.le_trans ((Nat.le_trans (hu39.out.size) hu44.out.size)) hu52.out.size)) (Nat.le_of_eq hs54.out.size.symm))) hu61.out.size)) hu72.out.size)) hg81.out.size)) hu94.out.size)) (Nat.le_of_eq hs96.out.size.symm))) hu103.out.size)) hu114.out.size)) hg121.out.size)) lbb134.out) hs138.out)).cell (o := 8) rfl
         refine wpList_plain rfl (fun Ko hKo => ?_)
         go_simp
         refine hKo _ _ ?_
         clear hKo Ko
         clear cl0 cl1 cl2
         try simp only [Act.put, nm1, nm2, nm3, i64_w]
         refine step_call (wanted_none rfl) (by first | (go_simp; done) | (go_simp; rfl)) (impl_isNull.calls K a0 a1 t28 t29 t30 true w137  A143.out) ?_
         rintro e w144 ⟨rfl, hu⟩
         have hu145 := Aside0.mk hu
         clear hu
         refine ⟨_, rfl, ?_⟩
         simp only [Act.put, nm1, nm2, nm3, i64_w]
         refine wpList_nil ?_
         (try simp only [Exit.then, Exit.inBlock, ↓reduceIte, Nat.reduceEqDiff])
         refine hK141 _ _ ?_
         refine wp_cond_true rfl ?_
         refine wp_seq_k (fun K147 hK147 => ?_)
         refine wp_region_lit ?_
         refine wpList_plain rfl (fun Ko hKo => ?_)
         go_simp
         refine hKo _ _ ?_
         clear hKo Ko
         try simp only [Act.put, nm1, nm2, nm3, i64_w]
         refine wpList_plain rfl (fun Ko hKo => ?_)
         go_simp
         refine hKo _ _ ?_
         clear hKo Ko
         try simp only [Act.put, nm1, nm2, nm3, i64_w]
         refine wpList_nil ?_
         (try simp only [Exit.then, Exit.inBlock, ↓reduceIte, Nat.reduceEqDiff])
         refine hK147 _ _ ?_
         refine wp_ret ?_
         have h149 : Own e2 25 w144 w144.heap.size (.slice none ([] : List (Int × Int)).length 0) [] := Own.nil
         (try simp only [Exit.then, Exit.inBlock, ↓reduceIte, Nat.reduceEqDiff])
         refine hQf _ _ _ ?_
         exact bodyPost_ret (v := .tuple #[.slice none 0 0, .int .i64 5]) (by first | rfl | (simp [results, Try.results38, go_sem]; done) | (simp [results, Try.results38, go_sem]; rfl)) rfl ⟨none, 0, rfl, (h149.lower ((Nat.le_trans ((Nat.le_trans ((Nat.le_trans ((Nat.le_trans ((Nat.le_trans ((Nat.le_trans ((Nat.le_trans ((Nat.le_trans ((Nat.le_trans ((Nat.le_trans ((Nat.le_trans ((Nat.le_trans ((Nat.le_trans ((Nat.le_trans ((Nat.le_trans ((Nat.le_trans ((Nat.le_trans ((Nat.le_trans ((Nat.le_trans (hu4.out.size) hu7.out.size)) hu10.out.size)) hu16.out.size)) hu35.out.size)) hu39.out.size)) hu44.out.size)) hu52.out.size)) (Nat.le_of_eq hs54.out.size.symm))) hu61.out.size)) hu72.out.size)) hg81.out.size)) hu94.out.size)) (Nat.le_of_eq hs96.out.size.symm))) hu103.out.size)) hu114.out.size)) hg121.out.size)) hu136.out.size)) (Nat.le_of_eq hs138.out.size.symm))) hu145.out.size))), (((((((((((((((((((hu4.out.trans hu7.out).trans hu10.out).trans hu16.out).trans hu35.out).trans hu39.out).trans hu44.out).trans hu52.out).sto (Nat.le_trans ((Nat.le_trans ((Nat.le_trans ((Nat.le_trans ((Nat.le_trans ((Nat.le_trans ((Nat.le_trans (hu4.out.size) hu7.out.size)) hu10.out.size)) hu16.out.size)) hu35.out.size)) hu39.out.size)) hu44.out.size)) lbb50.out) hs54.out).trans hu61.out).trans hu72.out).grow hg81.out (fun k hk => Nat.le_trans ((Nat.le_trans ((Nat.le_trans ((Nat.le_trans ((Nat.le_trans (hu4.out.size) hu7.out.size)) hu10.out.size)) hu16.out.size)) hu35.out.size)) ((fun k hk => (lb83.out k hk).1) k hk))).trans hu94.out).sto (Nat.le_trans ((Nat.le_trans ((Nat.le_trans ((Nat.le_trans ((Nat.le_trans ((Nat.le_trans ((Nat.le_trans ((Nat.le_trans ((Nat.le_trans ((Nat.le_trans ((Nat.le_trans ((Nat.le_trans (hu4.out.size) hu7.out.size)) hu10.out.size)) hu16.out.size)) hu35.out.size)) hu39.out.size)) hu44.out.size)) hu52.out.size)) (Nat.le_of_eq hs54.out.size.symm))) hu61.out.size)) hu72.out.size)) hg81.out.size)) lbb92.out) hs96.out).trans hu103.out).trans hu114.out).grow hg121.out (fun k hk => Nat.le_trans ((Nat.le_trans ((Nat.le_trans ((Nat.le_trans ((Nat.le_trans (hu4.out.size) hu7.out.size)) hu10.out.size)) hu16.out.size)) hu35.out.size)) ((fun k hk => (lb123.out k hk).1) k hk))).trans hu136.out).sto (Nat.le_trans ((Nat.le_trans ((Nat.le_trans ((Nat.le_trans ((Nat.le_trans ((Nat.le_trans ((Nat.le_trans ((Nat.le_trans ((Nat.le_trans ((Nat.le_trans ((Nat.le_trans ((Nat.le_trans ((Nat.le_trans ((Nat.le_trans ((Nat.le_trans ((Nat.le_trans ((Nat.le_trans (hu4.out.size) hu7.out.size)) hu10.out.size)) hu16.out.size)) hu35.out.size)) hu39.out.size)) hu44.out.size)) hu52.out.size)) (Nat.le_of_eq hs54.out.size.symm))) hu61.out.size)) hu72.out.size)) hg81.out.size)) hu94.out.size)) (Nat.le_of_eq hs96.out.size.symm))) hu103.out.size)) hu114.out.size)) hg121.out.size)) lbb134.out) hs138.out).trans hu145.out)⟩
     ·
      rw [if_neg c146] at H
      replace c146 := Bool.eq_false_iff.mpr c146
      subst c146
      replace H := Option.bind_eq_some_iff.mp H
      obtain ⟨⟨t150, t151⟩, A152, H⟩ := H
      replace A152 := Aside0.mk A152
      try dsimp only at H
      by_cases c157 : (decide (((([] : List (Int × Int)) ++ [(t66, t67)]) ++ [(t108, t109)]).length ≤ 1000000)) = true
      ·
       rw [if_pos c157] at H
       simp only [Option.some.injEq, Prod.mk.injEq] at H
       obtain ⟨rfl, rfl⟩ := H
       go_enter Try.func38, Try.ntmps38
       refine wp_hide (fun Qf hQf => ?_)
       refine wp_seq_k (fun K1 hK1 => ?_)
       refine wp_region_lit ?_
       refine step_new (cs := [.int .i64 a2_0, .int .i64 a2_1]) (T := 25) (f := fun b => .pointer (some ⟨b, 0, none⟩)) rfl (by first | (go_simp; done) | (go_simp; rfl)) ?_
       intro b2 w3 hu lb hb2
       simp only [Act.put, nm1, nm2, nm3, i64_w]
       have lbb2 := Aside0.mk lb
       have ltb2 := Aside0.mk hb2.lt
       clear lb
       have hu4 := Aside0.mk hu
       clear hu
       refine step_new (cs := [.int .i64 a3_0, .int .i64 a3_1]) (T := 25) (f := fun b => .pointer (some ⟨b, 0, none⟩)) rfl (by first | (go_simp; done) | (go_simp; rfl)) ?_
       intro b5 w6 hu lb hb5
       simp only [Act.put, nm1, nm2, nm3, i64_w]
       have lbb5 := Aside0.mk lb
       have ltb5 := Aside0.mk hb5.lt
       clear lb
       have hu7 := Aside0.mk hu
       clear hu
       refine step_new (cs := [.int .i64 a4_0, .int .i64 a4_1]) (T := 25) (f := fun b => .pointer (some ⟨b, 0, none⟩)) rfl (by first | (go_simp; done) | (go_simp; rfl)) ?_
       intro b8 w9 hu lb hb8
       simp only [Act.put, nm1, nm2, nm3, i64_w]
       have lbb8 := Aside0.mk lb
       have ltb8 := Aside0.mk hb8.lt
       clear lb
       have hu10 := Aside0.mk hu
       clear hu
       refine wpList_plain rfl (fun Ko hKo => ?_)
       go_simp
       refine hKo _ _ ?_
       clear hKo Ko
       try simp only [Act.put, nm1, nm2, nm3, i64_w]
       refine wpList_plain rfl (fun Ko hKo => ?_)
       go_simp
       refine hKo _ _ ?_
       clear hKo Ko
       try simp only [Act.put, nm1, nm2, nm3, i64_w]
       refine wpList_nil ?_
       (try simp only [Exit.then, Exit.inBlock, ↓reduceIte, Nat.reduceEqDiff])
       refine hK1 _ _ ?_
       refine wp_seq_k (fun K11 hK11 => ?_)
       refine wp_seq_k (fun K12 hK12 => ?_)
       refine wp_region_lit ?_
       refine wpList_plain rfl (fun Ko hKo => ?_)
       go_simp
       refine hKo _ _ ?_
       clear hKo Ko
       try simp only [Act.put, nm1, nm2, nm3, i64_w]
       refine wpList_plain rfl (fun Ko hKo => ?_)
       go_simp
       refine hKo _ _ ?_
       clear hKo Ko
       try simp only [Act.put, nm1, nm2, nm3, i64_w]
       have cl0 := (hb2.up (hu7.out.trans hu10.out)).cell (o := 0) rfl
       have cl1 := (hb2.up (hu7.out.trans hu10.out)).cell (o := 1) rfl
       refine wpList_plain rfl (fun Ko hKo => ?_)
       go_simp
       refine hKo _ _ ?_
       clear hKo Ko
       clear cl0 cl1
       try simp only [Act.put, nm1, nm2, nm3, i64_w]
       have cl0 := (hb5.up hu10.out).cell (o := 0) rfl
       have cl1 := (hb5.up hu10.out).cell (o := 1) rfl
       refine wpList_plain rfl (fun Ko hKo => ?_)
       go_simp
       refine hKo _ _ ?_
       clear hKo Ko
       clear cl0 cl1
       try simp only [Act.put, nm1, nm2, nm3, i64_w]
       have cl0 := hb8.cell (o := 0) rfl
       have cl1 := hb8.cell (o := 1) rfl
       refine wpList_plain rfl (fun Ko hKo => ?_)
       go_simp
       refine hKo _ _ ?_
       clear hKo Ko
       clear cl0 cl1
       try simp only [Act.put, nm1, nm2, nm3, i64_w]
       refine step_call (wanted_none rfl) (by first | (go_simp; done) | (go_simp; rfl)) (impl_triangle.calls K a0 a1 a2_0 a2_1 a3_0 a3_1 a4_0 a4_1 t13 w9  A14.out) ?_
       rintro e w15 ⟨rfl, hu⟩
       have hu16 := Aside0.mk hu
       clear hu
       refine ⟨_, rfl, ?_⟩
       simp only [Act.put, nm1, nm2, nm3, i64_w]
       refine wpList_plain rfl (fun Ko hKo => ?_)
       go_simp
       refine hKo _ _ ?_
       clear hKo Ko
       try simp only [Act.put, nm1, nm2, nm3, i64_w]
       refine wpList_nil ?_
       (try simp only [Exit.then, Exit.inBlock, ↓reduceIte, Nat.reduceEqDiff])
       refine hK12 _ _ ?_
       refine wp_seq_k (fun K17 hK17 => ?_)
       refine wp_region_lit ?_
       refine wpList_plain rfl (fun Ko hKo => ?_)
       go_simp
       refine hKo _ _ ?_
       clear hKo Ko
       try simp only [Act.put, nm1, nm2, nm3, i64_w]
       refine wpList_plain rfl (fun Ko hKo => ?_)
       go_simp
       refine hKo _ _ ?_
       clear hKo Ko
       try simp only [Act.put, nm1, nm2, nm3, i64_w]
       refine wpList_nil ?_
       (try simp only [Exit.then, Exit.inBlock, ↓reduceIte, Nat.reduceEqDiff])
       refine hK17 _ _ ?_
       refine wp_cond_false rfl ?_
       refine wp_skip ?_
       (try simp only [Exit.then, Exit.inBlock, ↓reduceIte, Nat.reduceEqDiff])
       refine hK11 _ _ ?_
       refine wp_seq_k (fun K19 hK19 => ?_)
       refine' wp_region_up 13 [Slot.det _, Slot.det _, Slot.det _, Slot.det (.agg #[.int .i64 t20, .int .i64 t21, .int .i64 t22]), Slot.det _, Slot.det _, Slot.det _, Slot.det (.agg #[.int .i64 t24, .int .i64 t25, .int .i64 t26]), Slot.det _, Slot.det _, Slot.det _, Slot.det (.agg #[.int .i64 t28, .int .i64 t29, .int .i64 t30]), Slot.any (SlTo 3 [.int .i64 t20, .int .i64 t21, .int .i64 t22, .int .i64 t24, .int .i64 t25, .int .i64 t26, .int .i64 t28, .int .i64 t29, .int .i64 t30] 39 w15.heap.size) false] (by kernel_rfl) (by kernel_rfl) ?main
       case main =>
        simp only [List.take_succ_cons, List.take_zero]
        refine wpK_ops rfl (fun w1 hu => ?_) ?_
        · clear hu
          go_simp
          first | done | rfl
        simp only [Act.put, nm1, nm2, nm3, i64_w]
        refine wpK_ops rfl (fun w1 hu => ?_) ?_
        · have cl0 := ((hb5.up (hu10.out.trans hu16.out)).up ((Up.refl _).drew.trans hu)).cell (o := 0) rfl
          have cl1 := ((hb5.up (hu10.out.trans hu16.out)).up ((Up.refl _).drew.trans hu)).cell (o := 1) rfl
          go_simp
          first | done | rfl
        simp only [Act.put, nm1, nm2, nm3, i64_w]
        refine wpK_ops rfl (fun w1 hu => ?_) ?_
        · have cl0 := ((hb8.up hu16.out).up ((Up.refl _).drew.trans hu)).cell (o := 0) rfl
          have cl1 := ((hb8.up hu16.out).up ((Up.refl _).drew.trans hu)).cell (o := 1) rfl
          go_simp
          first | done | rfl
        simp only [Act.put, nm1, nm2, nm3, i64_w]
        refine wpK_ops rfl (fun w1 hu => ?_) ?_
        · have hcl := (impl_lineThrough.calls K a0 a3_0 a3_1 a4_0 a4_1 t20 t21 t22 w1  A23.out)
          clear hu
          replace hcl := Aside0.mk hcl
          go_simp
          exact hcl.out
        simp only [Act.put, nm1, nm2, nm3, i64_w]
        refine wpK_ops rfl (fun w1 hu => ?_) ?_
        · clear hu
          go_simp
          first | done | rfl
        simp only [Act.put, nm1, nm2, nm3, i64_w]
        refine wpK_ops rfl (fun w1 hu => ?_) ?_
        · have cl0 := ((hb2.up ((hu7.out.trans hu10.out).trans hu16.out)).up ((Up.refl _).drew.trans hu)).cell (o := 0) rfl
          have cl1 := ((hb2.up ((hu7.out.trans hu10.out).trans hu16.out)).up ((Up.refl _).drew.trans hu)).cell (o := 1) rfl
          go_simp
          first | done | rfl
        simp only [Act.put, nm1, nm2, nm3, i64_w]
        refine wpK_ops rfl (fun w1 hu => ?_) ?_
        · have cl0 := ((hb8.up hu16.out).up ((Up.refl _).drew.trans hu)).cell (o := 0) rfl
          have cl1 := ((hb8.up hu16.out).up ((Up.refl _).drew.trans hu)).cell (o := 1) rfl
          go_simp
          first | done | rfl
        simp only [Act.put, nm1, nm2, nm3, i64_w]
        refine wpK_ops rfl (fun w1 hu => ?_) ?_
        · have hcl := (impl_lineThrough.calls K a0 a2_0 a2_1 a4_0 a4_1 t24 t25 t26 w1  A27.out)
          clear hu
          replace hcl := Aside0.mk hcl
          go_simp
          exact hcl.out
        simp only [Act.put, nm1, nm2, nm3, i64_w]
        refine wpK_ops rfl (fun w1 hu => ?_) ?_
        · clear hu
          go_simp
          first | done | rfl
        simp only [Act.put, nm1, nm2, nm3, i64_w]
        refine wpK_ops rfl (fun w1 hu => ?_) ?_
        · have cl0 := ((hb2.up ((hu7.out.trans hu10.out).trans hu16.out)).up ((Up.refl _).drew.trans hu)).cell (o := 0) rfl
          have cl1 := ((hb2.up ((hu7.out.trans hu10.out).trans hu16.out)).up ((Up.refl _).drew.trans hu)).cell (o := 1) rfl
          go_simp
          first | done | rfl
        simp only [Act.put, nm1, nm2, nm3, i64_w]
        refine wpK_ops rfl (fun w1 hu => ?_) ?_
        · have cl0 := ((hb5.up (hu10.out.trans hu16.out)).up ((Up.refl _).drew.trans hu)).cell (o := 0) rfl
          have cl1 := ((hb5.up (hu10.out.trans hu16.out)).up ((Up.refl _).drew.trans hu)).cell (o := 1) rfl
          go_simp
          first | done | rfl
        simp only [Act.put, nm1, nm2, nm3, i64_w]
        refine wpK_ops rfl (fun w1 hu => ?_) ?_
        · have hcl := (impl_lineThrough.calls K a0 a2_0 a2_1 a3_0 a3_1 t28 t29 t30 w1  A31.out)
          clear hu
          replace hcl := Aside0.mk hcl
          go_simp
          exact hcl.out
        simp only [Act.put, nm1, nm2, nm3, i64_w]
        refine wpK_any rfl (stab_sl _ _ _ _) (fun w1 hu _ => fresh_sl (by first | (go_simp; done) | (go_simp; rfl)) ((Up.refl _).drew.trans hu).size) (fun v32 => ?_)
        simp only [Act.put, nm1, nm2, nm3, i64_w]
        refine wpK_nil ?_
        intro w34 hu hap
        simp only [List.drop_succ_cons, List.drop_zero]
        replace hu := (Up.refl _).drew.trans hu
        obtain ⟨-, -, ⟨b33, e0, hb33, lbb33⟩, -⟩ := hap
        replace lbb33 := Aside0.mk lbb33
        have ltb33 := Aside0.mk hb33.lt
        dsimp only at e0
        subst e0
        have hu35 := Aside0.mk hu
        clear hu
        refine wpList_plain rfl (fun Ko hKo => ?_)
        go_simp
        refine hKo _ _ ?_
        clear hKo Ko
        try simp only [Act.put, nm1, nm2, nm3, i64_w]
        refine wpList_nil ?_
        (try simp only [Exit.then, Exit.inBlock, ↓reduceIte, Nat.reduceEqDiff])
        refine hK19 _ _ ?_
        refine wp_seq_k (fun K36 hK36 => ?_)
        refine wp_region_lit ?_
        refine step_new (cs := []) (T := 25) (f := fun b => .slice (some ⟨b, 0, none⟩) 0 0) rfl (by first | (go_simp; done) | (go_simp; rfl)) ?_
        intro b37 w38 hu lb hb37
        simp only [Act.put, nm1, nm2, nm3, i64_w]
        have lbb37 := Aside0.mk lb
        have ltb37 := Aside0.mk hb37.lt
        clear lb
        have hu39 := Aside0.mk hu
        clear hu
        refine wpList_plain rfl (fun Ko hKo => ?_)
        go_simp
        refine hKo _ _ ?_
        clear hKo Ko
        try simp only [Act.put, nm1, nm2, nm3, i64_w]
        refine wpList_nil ?_
        (try simp only [Exit.then, Exit.inBlock, ↓reduceIte, Nat.reduceEqDiff])
        refine hK36 _ _ ?_
        refine wp_seq_k (fun K40 hK40 => ?_)
        refine wp_seq_k (fun K41 hK41 => ?_)
        refine wp_region_lit ?_
        have cl0 := (hb2.up ((((hu7.out.trans hu10.out).trans hu16.out).trans hu35.out).trans hu39.out)).cell (o := 0) rfl
        have cl1 := (hb2.up ((((hu7.out.trans hu10.out).trans hu16.out).trans hu35.out).trans hu39.out)).cell (o := 1) rfl
        refine wpList_plain rfl (fun Ko hKo => ?_)
        go_simp
        refine hKo _ _ ?_
        clear hKo Ko
        clear cl0 cl1
        try simp only [Act.put, nm1, nm2, nm3, i64_w]
        have cl0 := (hb5.up (((hu10.out.trans hu16.out).trans hu35.out).trans hu39.out)).cell (o := 0) rfl
        have cl1 := (hb5.up (((hu10.out.trans hu16.out).trans hu35.out).trans hu39.out)).cell (o := 1) rfl
        refine wpList_plain rfl (fun Ko hKo => ?_)
        go_simp
        refine hKo _ _ ?_
        clear hKo Ko
        clear cl0 cl1
        try simp only [Act.put, nm1, nm2, nm3, i64_w]
        have cl0 := (hb8.up ((hu16.out.trans hu35.out).trans hu39.out)).cell (o := 0) rfl
        have cl1 := (hb8.up ((hu16.out.trans hu35.out).trans hu39.out)).cell (o := 1) rfl
        refine wpList_plain rfl (fun Ko hKo => ?_)
        go_simp
        refine hKo _ _ ?_
        clear hKo Ko
        clear cl0 cl1
        try simp only [Act.put, nm1, nm2, nm3, i64_w]
        refine step_new (cs := [.int .i64 a2_0, .int .i64 a2_1, .int .i64 a3_0, .int .i64 a3_1, .int .i64 a4_0, .int .i64 a4_1]) (T := 25) (f := fun b => .slice (some ⟨b, 0, none⟩) 3 3) rfl (by first | (go_simp; done) | (go_simp; rfl)) ?_
        intro b42 w43 hu lb hb42
        simp only [Act.put, nm1, nm2, nm3, i64_w]
        have lbb42 := Aside0.mk lb
        have ltb42 := Aside0.mk hb42.lt
        clear lb
        have hu44 := Aside0.mk hu
        clear hu
        refine wpList_plain rfl (fun Ko hKo => ?_)
        go_simp
        refine hKo _ _ ?_
        clear hKo Ko
        try simp only [Act.put, nm1, nm2, nm3, i64_w]
        refine wpList_plain rfl (fun Ko hKo => ?_)
        go_simp
        refine hKo _ _ ?_
        clear hKo Ko
        try simp only [Act.put, nm1, nm2, nm3, i64_w]
        refine wpList_nil ?_
        (try simp only [Exit.then, Exit.inBlock, ↓reduceIte, Nat.reduceEqDiff])
        refine hK41 _ _ ?_
        refine wp_block ?_
        refine wp_loop_rounds 40 ?_
        refine rounds_k (fun K45 hK45 => ?_)
        refine wp_seq_k (fun K46 hK46 => ?_)
        refine wp_region_lit ?_
        refine wpList_plain rfl (fun Ko hKo => ?_)
        go_simp
        refine hKo _ _ ?_
        clear hKo Ko
        try simp only [Act.put, nm1, nm2, nm3, i64_w]
        refine wpList_nil ?_
        (try simp only [Exit.then, Exit.inBlock, ↓reduceIte, Nat.reduceEqDiff])
        refine hK46 _ _ ?_
        refine wp_seq_k (fun K47 hK47 => ?_)
        refine wp_cond_true rfl ?_
        refine wp_skip ?_
        (try simp only [Exit.then, Exit.inBlock, ↓reduceIte, Nat.reduceEqDiff])
        refine hK47 _ _ ?_
        refine wp_seq_k (fun K48 hK48 => ?_)
        refine wp_block ?_
        refine wp_seq_k (fun K49 hK49 => ?_)
        refine wp_region_lit ?_
        refine wpList_plain rfl (fun Ko hKo => ?_)
        go_simp
        refine hKo _ _ ?_
        clear hKo Ko
        try simp only [Act.put, nm1, nm2, nm3, i64_w]
        refine wpList_plain rfl (fun Ko hKo => ?_)
        go_simp
        refine hKo _ _ ?_
        clear hKo Ko
        try simp only [Act.put, nm1, nm2, nm3, i64_w]
        have cl0 := hb42.cell (o := 0) rfl
        have cl1 := hb42.cell (o := 1) rfl
        refine wpList_plain rfl (fun Ko hKo => ?_)
        go_simp
        refine hKo _ _ ?_
        clear hKo Ko
        clear cl0 cl1
        try simp only [Act.put, nm1, nm2, nm3, i64_w]
        refine step_new (cs := [.int .i64 0, .int .i64 0]) (T := 25) (f := fun b => .pointer (some ⟨b, 0, none⟩)) rfl (by first | (go_simp; done) | (go_simp; rfl)) ?_
        intro b50 w51 hu lb hb50
        simp only [Act.put, nm1, nm2, nm3, i64_w]
        have lbb50 := Aside0.mk lb
        have ltb50 := Aside0.mk hb50.lt
        clear lb
        have hu52 := Aside0.mk hu
        clear hu
        refine wpList_plain rfl (fun Ko hKo => ?_)
        go_simp
        refine hKo _ _ ?_
        clear hKo Ko
        try simp only [Act.put, nm1, nm2, nm3, i64_w]
        have hB0 := hb50
        have cl0 := hB0.cell (o := 0) rfl
        have fr0 := hB0.free 0
        have cl1 := hB0.cell (o := 1) rfl
        have fr1 := hB0.free 1
        refine step_store (b := b50) (cs' := [.int .i64 a2_0, .int .i64 a2_1]) (T := 25) (W' := ((w51.setCell ⟨b50, 0, none⟩ (.int .i64 a2_0)).setCell ⟨b50, 1, none⟩ (.int .i64 a2_1))) rfl rfl (by first | (go_simp; done) | (go_simp; rfl)) (((Sto.refl _ _).setCell 0 _).setCell 1 _) (((hB0).setCell 0 _).setCell 1 _) ?_
        clear hB0 cl0 fr0 cl1 fr1
        intro w53 hs hb55
        have hs54 := Aside0.mk hs
        clear hs
        refine wpList_nil ?_
        (try simp only [Exit.then, Exit.inBlock, ↓reduceIte, Nat.reduceEqDiff])
        refine hK49 _ _ ?_
        refine wp_seq_k (fun K56 hK56 => ?_)
        refine wp_seq_k (fun K57 hK57 => ?_)
        refine wp_region_lit ?_
        refine wpList_plain rfl (fun Ko hKo => ?_)
        go_simp
        refine hKo _ _ ?_
        clear hKo Ko
        try simp only [Act.put, nm1, nm2, nm3, i64_w]
        refine wpList_plain rfl (fun Ko hKo => ?_)
        go_simp
        refine hKo _ _ ?_
        clear hKo Ko
        try simp only [Act.put, nm1, nm2, nm3, i64_w]
        refine wpList_plain rfl (fun Ko hKo => ?_)
        go_simp
        refine hKo _ _ ?_
        clear hKo Ko
        try simp only [Act.put, nm1, nm2, nm3, i64_w]
        refine wpList_plain rfl (fun Ko hKo => ?_)
        go_simp
        refine hKo _ _ ?_
        clear hKo Ko
        try simp only [Act.put, nm1, nm2, nm3, i64_w]
        refine wpList_plain rfl (fun Ko hKo => ?_)
        go_simp
        refine hKo _ _ ?_
        clear hKo Ko
        try simp only [Act.put, nm1, nm2, nm3, i64_w]
        have cl0 := (hb33.up (((hu39.out.trans hu44.out).trans hu52.out).sto (Nat.le_trans ((Nat.le_trans (hu39.out.size) hu44.out.size)) lbb50.out) hs54.out)).cell (o := 0) rfl
        have cl1 := (hb33.up (((hu39.out.trans hu44.out).trans hu52.out).sto (Nat.le_trans ((Nat.le_trans (hu39.out.size) hu44.out.size)) lbb50.out) hs54.out)).cell (o := 1) rfl
        have cl2 := (hb33.up (((hu39.out.trans hu44.out).trans hu52.out).sto (Nat.le_trans ((Nat.le_trans (hu39.out.size) hu44.out.size)) lbb50.out) hs54.out)).cell (o := 2) rfl
        refine wpList_plain rfl (fun Ko hKo => ?_)
        go_simp
        refine hKo _ _ ?_
        clear hKo Ko
        clear cl0 cl1 cl2
        try simp only [Act.put, nm1, nm2, nm3, i64_w]
        refine step_call (wanted_none rfl) (by first | (go_simp; done) | (go_simp; rfl)) (impl_isNull.calls K a0 a1 t20 t21 t22 false w53  A59.out) ?_
        rintro e w60 ⟨rfl, hu⟩
        have hu61 := Aside0.mk hu
        clear hu
        refine ⟨_, rfl, ?_⟩
        simp only [Act.put, nm1, nm2, nm3, i64_w]
        refine wpList_nil ?_
        (try simp only [Exit.then, Exit.inBlock, ↓reduceIte, Nat.reduceEqDiff])
        refine hK57 _ _ ?_
        refine wp_cond_false rfl ?_
        refine wp_skip ?_
        (try simp only [Exit.then, Exit.inBlock, ↓reduceIte, Nat.reduceEqDiff])
        refine hK56 _ _ ?_
        refine' wp_region_up 10 [Slot.det _, Slot.det _, Slot.det _, Slot.det _, Slot.det _, Slot.det _, Slot.det _, Slot.det _, Slot.det (.agg #[.int .i64 t66, .int .i64 t67]), Slot.any (SlTo 1 [.int .i64 t66, .int .i64 t67] 25 w60.heap.size) false] (by kernel_rfl) (by kernel_rfl) ?main
        case main =>
         simp only [List.take_succ_cons, List.take_zero]
         refine wpK_ops rfl (fun w1 hu => ?_) ?_
         · clear hu
           go_simp
           first | done | rfl
         simp only [Act.put, nm1, nm2, nm3, i64_w]
         refine wpK_ops rfl (fun w1 hu => ?_) ?_
         · clear hu
           go_simp
           first | done | rfl
         simp only [Act.put, nm1, nm2, nm3, i64_w]
         refine wpK_ops rfl (fun w1 hu => ?_) ?_
         · clear hu
           go_simp
           first | done | rfl
         simp only [Act.put, nm1, nm2, nm3, i64_w]
         refine wpK_ops rfl (fun w1 hu => ?_) ?_
         · have cl0 := ((hb55.up hu61.out).up ((Up.refl _).drew.trans hu)).cell (o := 0) rfl
           have cl1 := ((hb55.up hu61.out).up ((Up.refl _).drew.trans hu)).cell (o := 1) rfl
           go_simp
           first | done | rfl
         simp only [Act.put, nm1, nm2, nm3, i64_w]
         refine wpK_ops rfl (fun w1 hu => ?_) ?_
         · clear hu
           go_simp
           first | done | rfl
         simp only [Act.put, nm1, nm2, nm3, i64_w]
         refine wpK_ops rfl (fun w1 hu => ?_) ?_
         · clear hu
           go_simp
           first | done | rfl
         simp only [Act.put, nm1, nm2, nm3, i64_w]
         refine wpK_ops rfl (fun w1 hu => ?_) ?_
         · clear hu
           go_simp
           first | done | rfl
         simp only [Act.put, nm1, nm2, nm3, i64_w]
         refine wpK_ops rfl (fun w1 hu => ?_) ?_
         · have cl0 := ((hb33.up ((((hu39.out.trans hu44.out).trans hu52.out).sto (Nat.le_trans ((Nat.le_trans (hu39.out.size) hu44.out.size)) lbb50.out) hs54.out).trans hu61.out)).up ((Up.refl _).drew.trans hu)).cell (o := 0) rfl
           have cl1 := ((hb33.up ((((hu39.out.trans hu44.out).trans hu52.out).sto (Nat.le_trans ((Nat.le_trans (hu39.out.size) hu44.out.size)) lbb50.out) hs54.out).trans hu61.out)).up ((Up.refl _).drew.trans hu)).cell (o := 1) rfl
           have cl2 := ((hb33.up ((((hu39.out.trans hu44.out).trans hu52.out).sto (Nat.le_trans ((Nat.le_trans (hu39.out.size) hu44.out.size)) lbb50.out) hs54.out).trans hu61.out)).up ((Up.refl _).drew.trans hu)).cell (o := 2) rfl
           go_simp
           first | done | rfl
         simp only [Act.put, nm1, nm2, nm3, i64_w]
         refine wpK_ops rfl (fun w1 hu => ?_) ?_
         · have hcl := (impl_foot.calls K a0 a1 a2_0 a2_1 t20 t21 t22 t66 t67 w1  A68.out)
           clear hu
           replace hcl := Aside0.mk hcl
           go_simp
           exact hcl.out
         simp only [Act.put, nm1, nm2, nm3, i64_w]
         refine wpK_any rfl (stab_sl _ _ _ _) (fun w1 hu _ => fresh_sl (by first | (go_simp; done) | (go_simp; rfl)) ((Up.refl _).drew.trans hu).size) (fun v69 => ?_)
         simp only [Act.put, nm1, nm2, nm3, i64_w]
         refine wpK_nil ?_
         intro w71 hu hap
         simp only [List.drop_succ_cons, List.drop_zero]
         replace hu := (Up.refl _).drew.trans hu
         obtain ⟨-, -, ⟨b70, e0, hb70, lbb70⟩, -⟩ := hap
         replace lbb70 := Aside0.mk lbb70
         have ltb70 := Aside0.mk hb70.lt
         dsimp only at e0
         subst e0
         have hu72 := Aside0.mk hu
         clear hu
         have h74 : Own e2 25 w71 w34.heap.size (.slice (some ⟨b37, 0, none⟩) ([].length) 0) [] := Own.of_blk (hb37.up ((((hu44.out.trans hu52.out).sto (Nat.le_trans (hu44.out.size) lbb50.out) hs54.out).trans hu61.out).trans hu72.out)) lbb37.out rfl (by simp) (by simp [Enc.flat, e2])
         have h75 : Own e2 25 w38 w34.heap.size (.slice (some ⟨b37, 0, none⟩) ([].length) 0) [] := Own.of_blk hb37 lbb37.out rfl (by simp) (by simp [Enc.flat, e2])
         have hO0 := Aside0.mk h74
         refine step_append e2 (z := .agg #[.int .i64 0, .int .i64 0]) (bytes := 16) (base := w34.heap.size) (xs := ([] : List (Int × Int))) (ys := [(t66, t67)]) (wanted_none rfl) _ _ rfl rfl (by kernel_rfl) rfl (by decide) rfl rfl rfl hO0.out (Rd.of_blk (E := e2) (xs := [(t66, t67)]) (o := 0) hb70 (by simp) (fun j u hu => by rcases j with _ | _ | j <;> simp_all [Enc.flat, e2])) ((Nat.le_trans ((Nat.le_trans ((Nat.le_trans ((Nat.le_trans ((Nat.le_trans (hu39.out.size) hu44.out.size)) hu52.out.size)) (Nat.le_of_eq hs54.out.size.symm))) hu61.out.size)) hu72.out.size)) (by simp only [List.length_cons, List.length_nil]; omega) ?_
         intro P76 q77 w78 h80 hg hat
         have hg81 := Aside0.mk hg
         have hat82 := Aside0.mk hat
         simp only [Act.put, nm1, nm2, nm3, i64_w]
         have lb83 := Aside0.mk hO0.out.lt
         clear hO0 hg hat
         have h84 := (hb42.up (((hu52.out.sto (Nat.le_trans (Nat.le_refl _) lbb50.out) hs54.out).trans hu61.out).trans hu72.out)).grow hg81.out (fun k hk => Nat.ne_of_lt (Nat.lt_of_lt_of_le ((fun k hk => Nat.lt_of_lt_of_le (h75.lt k hk).2 (Nat.le_refl _)) k hk) lbb42.out))
         have h85 := (hb55.up (hu61.out.trans hu72.out)).grow hg81.out (fun k hk => Nat.ne_of_lt (Nat.lt_of_lt_of_le ((fun k hk => Nat.lt_of_lt_of_le (h75.lt k hk).2 (hu44.out.size)) k hk) lbb50.out))
         have h86 := hb70.grow hg81.out (fun k hk => Nat.ne_of_lt (Nat.lt_of_lt_of_le ((fun k hk => Nat.lt_of_lt_of_le (h75.lt k hk).2 ((Nat.le_trans ((Nat.le_trans ((Nat.le_trans (hu44.out.size) hu52.out.size)) (Nat.le_of_eq hs54.out.size.symm))) hu61.out.size))) k hk) lbb70.out))
         refine wpList_plain rfl (fun Ko hKo => ?_)
         go_simp
         refine hKo _ _ ?_
         clear hKo Ko
         try simp only [Act.put, nm1, nm2, nm3, i64_w]
         refine wpList_nil ?_
         (try simp only [Exit.then, Exit.inBlock, ↓reduceIte, Nat.reduceEqDiff])
         refine hK48 _ _ ?_
         refine wp_region_lit ?_
         refine wpList_plain rfl (fun Ko hKo => ?_)
         go_simp
         refine hKo _ _ ?_
         clear hKo Ko
         try simp only [Act.put, nm1, nm2, nm3, i64_w]
         try simp only [show wrap64 1 = 1 from wlit rfl]
         refine wpList_plain rfl (fun Ko hKo => ?_)
         go_simp
         refine hKo _ _ ?_
         clear hKo Ko
         try simp only [Act.put, nm1, nm2, nm3, i64_w]
         refine wpList_nil ?_
         (try simp only [Exit.then, Exit.inBlock, ↓reduceIte, Nat.reduceEqDiff])
         refine hK45 _ _ ?_
         refine rounds_k (fun K87 hK87 => ?_)
         refine wp_seq_k (fun K88 hK88 => ?_)
         refine wp_region_lit ?_
         refine wpList_plain rfl (fun Ko hKo => ?_)
         go_simp
         refine hKo _ _ ?_
         clear hKo Ko
         try simp only [Act.put, nm1, nm2, nm3, i64_w]
         refine wpList_nil ?_
         (try simp only [Exit.then, Exit.inBlock, ↓reduceIte, Nat.reduceEqDiff])
         refine hK88 _ _ ?_
         refine wp_seq_k (fun K89 hK89 => ?_)
         refine wp_cond_true rfl ?_
         refine wp_skip ?_
         (try simp only [Exit.then, Exit.inBlock, ↓reduceIte, Nat.reduceEqDiff])
         refine hK89 _ _ ?_
         refine wp_seq_k (fun K90 hK90 => ?_)
         refine wp_block ?_
         refine wp_seq_k (fun K91 hK91 => ?_)
         refine wp_region_lit ?_
         refine wpList_plain rfl (fun Ko hKo => ?_)
         go_simp
         refine hKo _ _ ?_
         clear hKo Ko
         try simp only [Act.put, nm1, nm2, nm3, i64_w]
         refine wpList_plain rfl (fun Ko hKo => ?_)
         go_simp
         refine hKo _ _ ?_
         clear hKo Ko
         try simp only [Act.put, nm1, nm2, nm3, i64_w]
         have cl0 := h84.cell (o := 2) rfl
         have cl1 := h84.cell (o := 3) rfl
         refine wpList_plain rfl (fun Ko hKo => ?_)
         go_simp
         refine hKo _ _ ?_
         clear hKo Ko
         clear cl0 cl1
         try simp only [Act.put, nm1, nm2, nm3, i64_w]
         refine step_new (cs := [.int .i64 0, .int .i64 0]) (T := 25) (f := fun b => .pointer (some ⟨b, 0, none⟩)) rfl (by first | (go_simp; done) | (go_simp; rfl)) ?_
         intro b92 w93 hu lb hb92
         simp only [Act.put, nm1, nm2, nm3, i64_w]
         have lbb92 := Aside0.mk lb
         have ltb92 := Aside0.mk hb92.lt
         clear lb
         have hu94 := Aside0.mk hu
         clear hu
         refine wpList_plain rfl (fun Ko hKo => ?_)
         go_simp
         refine hKo _ _ ?_
         clear hKo Ko
         try simp only [Act.put, nm1, nm2, nm3, i64_w]
         have hB0 := hb92
         have cl0 := hB0.cell (o := 0) rfl
         have fr0 := hB0.free 0
         have cl1 := hB0.cell (o := 1) rfl
         have fr1 := hB0.free 1
         refine step_store (b := b92) (cs' := [.int .i64 a3_0, .int .i64 a3_1]) (T := 25) (W' := ((w93.setCell ⟨b92, 0, none⟩ (.int .i64 a3_0)).setCell ⟨b92, 1, none⟩ (.int .i64 a3_1))) rfl rfl (by first | (go_simp; done) | (go_simp; rfl)) (((Sto.refl _ _).setCell 0 _).setCell 1 _) (((hB0).setCell 0 _).setCell 1 _) ?_
         clear hB0 cl0 fr0 cl1 fr1
         intro w95 hs hb97
         have hs96 := Aside0.mk hs
         clear hs
         refine wpList_nil ?_
         (try simp only [Exit.then, Exit.inBlock, ↓reduceIte, Nat.reduceEqDiff])
         refine hK91 _ _ ?_
         refine wp_seq_k (fun K98 hK98 => ?_)
         refine wp_seq_k (fun K99 hK99 => ?_)
         refine wp_region_lit ?_
         refine wpList_plain rfl (fun Ko hKo => ?_)
         go_simp
         refine hKo _ _ ?_
         clear hKo Ko
         try simp only [Act.put, nm1, nm2, nm3, i64_w]
         refine wpList_plain rfl (fun Ko hKo => ?_)
         go_simp
         refine hKo _ _ ?_
         clear hKo Ko
         try simp only [Act.put, nm1, nm2, nm3, i64_w]
         refine wpList_plain rfl (fun Ko hKo => ?_)
         go_simp
         refine hKo _ _ ?_
         clear hKo Ko
         try simp only [Act.put, nm1, nm2, nm3, i64_w]
         refine wpList_plain rfl (fun Ko hKo => ?_)
         go_simp
         refine hKo _ _ ?_
         clear hKo Ko
         try simp only [Act.put, nm1, nm2, nm3, i64_w]
         refine wpList_plain rfl (fun Ko hKo => ?_)
         go_simp
         refine hKo _ _ ?_
         clear hKo Ko
         try simp only [Act.put, nm1, nm2, nm3, i64_w]
         have cl0 := (hb33.up ((((((((hu39.out.trans hu44.out).trans hu52.out).sto (Nat.le_trans ((Nat.le_trans (hu39.out.size) hu44.out.size)) lbb50.out) hs54.out).trans hu61.out).trans hu72.out).grow hg81.out (fun k hk => Nat.le_trans (Nat.le_refl _) ((fun k hk => (lb83.out k hk).1) k hk))).trans hu94.out).sto (Nat.le_trans ((Nat.le_trans ((Nat.le_trans ((Nat.le_trans ((Nat.le_trans ((Nat.le_trans ((Nat.le_trans (hu39.out.size) hu44.out.size)) hu52.out.size)) (Nat.le_of_eq hs54.out.size.symm))) hu61.out.size)) hu72.out.size)) hg81.out.size)) lbb92.out) hs96.out)).cell (o := 3) rfl
         have cl1 := (hb33.up ((((((((hu39.out.trans hu44.out).trans hu52.out).sto (Nat.le_trans ((Nat.le_trans (hu39.out.size) hu44.out.size)) lbb50.out) hs54.out).trans hu61.out).trans hu72.out).grow hg81.out (fun k hk => Nat.le_trans (Nat.le_refl _) ((fun k hk => (lb83.out k hk).1) k hk))).trans hu94.out).sto (Nat.le_trans ((Nat.le_trans ((Nat.le_trans ((Nat.le_trans ((Nat.le_trans ((Nat.le_trans ((Nat.le_trans (hu39.out.size) hu44.out.size)) hu52.out.size)) (Nat.le_of_eq hs54.out.size.symm))) hu61.out.size)) hu72.out.size)) hg81.out.size)) lbb92.out) hs96.out)).cell (o := 4) rfl
         have cl2 := (hb33.up ((((((((hu39.out.trans hu44.out).trans hu52.out).sto (Nat.le_trans ((Nat.le_trans (hu39.out.size) hu44.out.size)) lbb50.out) hs54.out).trans hu61.out).trans hu72.out).grow hg81.out (fun k hk => Nat.le_trans (Nat.le_refl _) ((fun k hk => (lb83.out k hk).1) k hk))).trans hu94.out).sto (Nat.le_trans ((Nat.le_trans ((Nat.le_trans ((Nat.le_trans ((Nat.le_trans ((Nat.le_trans ((Nat.le_trans (hu39.out.size) hu44.out.size)) hu52.out.size)) (Nat.le_of_eq hs54.out.size.symm))) hu61.out.size)) hu72.out.size)) hg81.out.size)) lbb92.out) hs96.out)).cell (o := 5) rfl
         refine wpList_plain rfl (fun Ko hKo => ?_)
         go_simp
         refine hKo _ _ ?_
         clear hKo Ko
         clear cl0 cl1 cl2
         try simp only [Act.put, nm1, nm2, nm3, i64_w]
         refine step_call (wanted_none rfl) (by first | (go_simp; done) | (go_simp; rfl)) (impl_isNull.calls K a0 a1 t24 t25 t26 false w95  A101.out) ?_
         rintro e w102 ⟨rfl, hu⟩
         have hu103 := Aside0.mk hu
         clear hu
         refine ⟨_, rfl, ?_⟩
         simp only [Act.put, nm1, nm2, nm3, i64_w]
         refine wpList_nil ?_
         (try simp only [Exit.then, Exit.inBlock, ↓reduceIte, Nat.reduceEqDiff])
         refine hK99 _ _ ?_
         refine wp_cond_false rfl ?_
         refine wp_skip ?_
         (try simp only [Exit.then, Exit.inBlock, ↓reduceIte, Nat.reduceEqDiff])
         refine hK98 _ _ ?_
         refine' wp_region_up 10 [Slot.det _, Slot.det _, Slot.det _, Slot.det _, Slot.det _, Slot.det _, Slot.det _, Slot.det _, Slot.det (.agg #[.int .i64 t108, .int .i64 t109]), Slot.any (SlTo 1 [.int .i64 t108, .int .i64 t109] 25 w102.heap.size) false] (by kernel_rfl) (by kernel_rfl) ?main
         case main =>
          simp only [List.take_succ_cons, List.take_zero]
          refine wpK_ops rfl (fun w1 hu => ?_) ?_
          · clear hu
            go_simp
            first | done | rfl
          simp only [Act.put, nm1, nm2, nm3, i64_w]
          refine wpK_ops rfl (fun w1 hu => ?_) ?_
          · clear hu
            go_simp
            first | done | rfl
          simp only [Act.put, nm1, nm2, nm3, i64_w]
          refine wpK_ops rfl (fun w1 hu => ?_) ?_
          · clear hu
            go_simp
            first | done | rfl
          simp only [Act.put, nm1, nm2, nm3, i64_w]
          refine wpK_ops rfl (fun w1 hu => ?_) ?_
          · have cl0 := ((hb97.up hu103.out).up ((Up.refl _).drew.trans hu)).cell (o := 0) rfl
            have cl1 := ((hb97.up hu103.out).up ((Up.refl _).drew.trans hu)).cell (o := 1) rfl
            go_simp
            first | done | rfl
          simp only [Act.put, nm1, nm2, nm3, i64_w]
          refine wpK_ops rfl (fun w1 hu => ?_) ?_
          · clear hu
            go_simp
            first | done | rfl
          simp only [Act.put, nm1, nm2, nm3, i64_w]
          refine wpK_ops rfl (fun w1 hu => ?_) ?_
          · clear hu
            go_simp
            first | done | rfl
          simp only [Act.put, nm1, nm2, nm3, i64_w]
          refine wpK_ops rfl (fun w1 hu => ?_) ?_
          · clear hu
            go_simp
            first | done | rfl
          simp only [Act.put, nm1, nm2, nm3, i64_w]
          refine wpK_ops rfl (fun w1 hu => ?_) ?_
          · have cl0 := ((hb33.up (((((((((hu39.out.trans hu44.out).trans hu52.out).sto (Nat.le_trans ((Nat.le_trans (hu39.out.size) hu44.out.size)) lbb50.out) hs54.out).trans hu61.out).trans hu72.out).grow hg81.out (fun k hk => Nat.le_trans (Nat.le_refl _) ((fun k hk => (lb83.out k hk).1) k hk))).trans hu94.out).sto (Nat.le_trans ((Nat.le_trans ((Nat.le_trans ((Nat.le_trans ((Nat.le_trans ((Nat.le_trans ((Nat.le_trans (hu39.out.size) hu44.out.size)) hu52.out.size)) (Nat.le_of_eq hs54.out.size.symm))) hu61.out.size)) hu72.out.size)) hg81.out.size)) lbb92.out) hs96.out).trans hu103.out)).up ((Up.refl _).drew.trans hu)).cell (o := 3) rfl
            have cl1 := ((hb33.up (((((((((hu39.out.trans hu44.out).trans hu52.out).sto (Nat.le_trans ((Nat.le_trans (hu39.out.size) hu44.out.size)) lbb50.out) hs54.out).trans hu61.out).trans hu72.out).grow hg81.out (fun k hk => Nat.le_trans (Nat.le_refl _) ((fun k hk => (lb83.out k hk).1) k hk))).trans hu94.out).sto (Nat.le_trans ((Nat.le_trans ((Nat.le_trans ((Nat.le_trans ((Nat.le_trans ((Nat.le_trans ((Nat.le_trans (hu39.out.size) hu44.out.size)) hu52.out.size)) (Nat.le_of_eq hs54.out.size.symm))) hu61.out.size)) hu72.out.size)) hg81.out.size)) lbb92.out) hs96.out).trans hu103.out)).up ((Up.refl _).drew.trans hu)).cell (o := 4) rfl
            have cl2 := ((hb33.up (((((((((hu39.out.trans hu44.out).trans hu52.out).sto (Nat.le_trans ((Nat.le_trans (hu39.out.size) hu44.out.size)) lbb50.out) hs54.out).trans hu61.out).trans hu72.out).grow hg81.out (fun k hk => Nat.le_trans (Nat.le_refl _) ((fun k hk => (lb83.out k hk).1) k hk))).trans hu94.out).sto (Nat.le_trans ((Nat.le_trans ((Nat.le_trans ((Nat.le_trans ((Nat.le_trans ((Nat.le_trans ((Nat.le_trans (hu39.out.size) hu44.out.size)) hu52.out.size)) (Nat.le_of_eq hs54.out.size.symm))) hu61.out.size)) hu72.out.size)) hg81.out.size)) lbb92.out) hs96.out).trans hu103.out)).up ((Up.refl _).drew.trans hu)).cell (o := 5) rfl
            go_simp
            first | done | rfl
          simp only [Act.put, nm1, nm2, nm3, i64_w]
          refine wpK_ops rfl (fun w1 hu => ?_) ?_
          · have hcl := (impl_foot.calls K a0 a1 a3_0 a3_1 t24 t25 t26 t108 t109 w1  A110.out)
            clear hu
            replace hcl := Aside0.mk hcl
            go_simp
            exact hcl.out
          simp only [Act.put, nm1, nm2, nm3, i64_w]
          refine wpK_any rfl (stab_sl _ _ _ _) (fun w1 hu _ => fresh_sl (by first | (go_simp; done) | (go_simp; rfl)) ((Up.refl _).drew.trans hu).size) (fun v111 => ?_)
          simp only [Act.put, nm1, nm2, nm3, i64_w]
          refine wpK_nil ?_
          intro w113 hu hap
          simp only [List.drop_succ_cons, List.drop_zero]
          replace hu := (Up.refl _).drew.trans hu
          obtain ⟨-, -, ⟨b112, e0, hb112, lbb112⟩, -⟩ := hap
          replace lbb112 := Aside0.mk lbb112
          have ltb112 := Aside0.mk hb112.lt
          dsimp only at e0
          subst e0
          have hu114 := Aside0.mk hu
          clear hu
          have hO0 := Aside0.mk (h80.up (((hu94.out.sto (Nat.le_trans (Nat.le_refl _) lbb92.out) hs96.out).trans hu103.out).trans hu114.out))
          refine step_append e2 (z := .agg #[.int .i64 0, .int .i64 0]) (bytes := 16) (base := w34.heap.size) (xs := (([] : List (Int × Int)) ++ [(t66, t67)])) (ys := [(t108, t109)]) (wanted_none rfl) _ _ rfl rfl (by kernel_rfl) rfl (by decide) rfl rfl rfl hO0.out (Rd.of_blk (E := e2) (xs := [(t108, t109)]) (o := 0) hb112 (by simp) (fun j u hu => by rcases j with _ | _ | j <;> simp_all [Enc.flat, e2])) ((Nat.le_trans ((Nat.le_trans ((Nat.le_trans ((Nat.le_trans ((Nat.le_trans ((Nat.le_trans ((Nat.le_trans ((Nat.le_trans ((Nat.le_trans ((Nat.le_trans (hu39.out.size) hu44.out.size)) hu52.out.size)) (Nat.le_of_eq hs54.out.size.symm))) hu61.out.size)) hu72.out.size)) hg81.out.size)) hu94.out.size)) (Nat.le_of_eq hs96.out.size.symm))) hu103.out.size)) hu114.out.size)) (by have h0_ := (of_decide_eq_true (by assumption) : (([] : List (Int × Int)) ++ [(t66, t67)]).length ≤ 1000000); simp only [List.length_cons, List.length_nil]; omega) ?_
          intro P116 q117 w118 h120 hg hat
          have hg121 := Aside0.mk hg
          have hat122 := Aside0.mk hat
          simp only [Act.put, nm1, nm2, nm3, i64_w]
          have lb123 := Aside0.mk hO0.out.lt
          clear hO0 hg hat
          have h124 := (h84.up (((hu94.out.sto (Nat.le_trans (Nat.le_refl _) lbb92.out) hs96.out).trans hu103.out).trans hu114.out)).grow hg121.out (fun k hk => hat82.out.elim (fun e => (fun k hk => Nat.ne_of_lt (Nat.lt_of_lt_of_le ((fun k hk => Nat.lt_of_lt_of_le (h75.lt k hk).2 (Nat.le_refl _)) k hk) lbb42.out)) k (e.symm.trans hk)) (fun g => Nat.ne_of_gt (Nat.lt_of_lt_of_le (Nat.lt_of_lt_of_le ltb42.out ((Nat.le_trans ((Nat.le_trans ((Nat.le_trans (hu52.out.size) (Nat.le_of_eq hs54.out.size.symm))) hu61.out.size)) hu72.out.size))) (g k hk))))
          have h125 := (h85.up (((hu94.out.sto (Nat.le_trans (Nat.le_refl _) lbb92.out) hs96.out).trans hu103.out).trans hu114.out)).grow hg121.out (fun k hk => hat82.out.elim (fun e => (fun k hk => Nat.ne_of_lt (Nat.lt_of_lt_of_le ((fun k hk => Nat.lt_of_lt_of_le (h75.lt k hk).2 (hu44.out.size)) k hk) lbb50.out)) k (e.symm.trans hk)) (fun g => Nat.ne_of_gt (Nat.lt_of_lt_of_le (Nat.lt_of_lt_of_le ltb50.out ((Nat.le_trans ((Nat.le_trans ((Nat.le_of_eq hs54.out.size.symm)) hu61.out.size)) hu72.out.size))) (g k hk))))
          have h126 := (h86.up (((hu94.out.sto (Nat.le_trans (Nat.le_refl _) lbb92.out) hs96.out).trans hu103.out).trans hu114.out)).grow hg121.out (fun k hk => hat82.out.elim (fun e => (fun k hk => Nat.ne_of_lt (Nat.lt_of_lt_of_le ((fun k hk => Nat.lt_of_lt_of_le (h75.lt k hk).2 ((Nat.le_trans ((Nat.le_trans ((Nat.le_trans (hu44.out.size) hu52.out.size)) (Nat.le_of_eq hs54.out.size.symm))) hu61.out.size))) k hk) lbb70.out)) k (e.symm.trans hk)) (fun g => Nat.ne_of_gt (Nat.lt_of_lt_of_le ltb70.out (g k hk))))
          have h127 := (hb97.up (hu103.out.trans hu114.out)).grow hg121.out (fun k hk => Nat.ne_of_lt (Nat.lt_of_lt_of_le ((fun k hk => Nat.lt_of_lt_of_le (h80.lt k hk).2 (Nat.le_refl _)) k hk) lbb92.out))
          have h128 := hb112.grow hg121.out (fun k hk => Nat.ne_of_lt (Nat.lt_of_lt_of_le ((fun k hk => Nat.lt_of_lt_of_le (h80.lt k hk).2 ((Nat.le_trans ((Nat.le_trans (hu94.out.size) (Nat.le_of_eq hs96.out.size.symm))) hu103.out.size))) k hk) lbb112.out))
          refine wpList_plain rfl (fun Ko hKo => ?_)
          go_simp
          refine hKo _ _ ?_
          clear hKo Ko
          try simp only [Act.put, nm1, nm2, nm3, i64_w]
          refine wpList_nil ?_
          (try simp only [Exit.then, Exit.inBlock, ↓reduceIte, Nat.reduceEqDiff])
          refine hK90 _ _ ?_
          refine wp_region_lit ?_
          refine wpList_plain rfl (fun Ko hKo => ?_)
          go_simp
          refine hKo _ _ ?_
          clear hKo Ko
          try simp only [Act.put, nm1, nm2, nm3, i64_w]
          try simp only [show wrap64 2 = 2 from wlit rfl]
          refine wpList_plain rfl (fun Ko hKo => ?_)
          go_simp
          refine hKo _ _ ?_
          clear hKo Ko
          try simp only [Act.put, nm1, nm2, nm3, i64_w]
          refine wpList_nil ?_
          (try simp only [Exit.then, Exit.inBlock, ↓reduceIte, Nat.reduceEqDiff])
          refine hK87 _ _ ?_
          refine rounds_k (fun K129 hK129 => ?_)
          refine wp_seq_k (fun K130 hK130 => ?_)
          refine wp_region_lit ?_
          refine wpList_plain rfl (fun Ko hKo => ?_)
          go_simp
          refine hKo _ _ ?_
          clear hKo Ko
          try simp only [Act.put, nm1, nm2, nm3, i64_w]
          refine wpList_nil ?_
          (try simp only [Exit.then, Exit.inBlock, ↓reduceIte, Nat.reduceEqDiff])
          refine hK130 _ _ ?_
          refine wp_seq_k (fun K131 hK131 => ?_)
          refine wp_cond_true rfl ?_
          refine wp_skip ?_
          (try simp only [Exit.then, Exit.inBlock, ↓reduceIte, Nat.reduceEqDiff])
          refine hK131 _ _ ?_
          refine wp_seq_k (fun K132 hK132 => ?_)
          refine wp_block ?_
          refine wp_seq_k (fun K133 hK133 => ?_)
          refine wp_region_lit ?_
          refine wpList_plain rfl (fun Ko hKo => ?_)
          go_simp
          refine hKo _ _ ?_
          clear hKo Ko
          try simp only [Act.put, nm1, nm2, nm3, i64_w]
          refine wpList_plain rfl (fun Ko hKo => ?_)
          go_simp
          refine hKo _ _ ?_
          clear hKo Ko
          try simp only [Act.put, nm1, nm2, nm3, i64_w]
          have cl0 := h124.cell (o := 4) rfl
          have cl1 := h124.cell (o := 5) rfl
          refine wpList_plain rfl (fun Ko hKo => ?_)
          go_simp
          refine hKo _ _ ?_
          clear hKo Ko
          clear cl0 cl1
          try simp only [Act.put, nm1, nm2, nm3, i64_w]
          refine step_new (cs := [.int .i64 0, .int .i64 0]) (T := 25) (f := fun b => .pointer (some ⟨b, 0, none⟩)) rfl (by first | (go_simp; done) | (go_simp; rfl)) ?_
          intro b134 w135 hu lb hb134
          simp only [Act.put, nm1, nm2, nm3, i64_w]
          have lbb134 := Aside0.mk lb
          have ltb134 := Aside0.mk hb134.lt
          clear lb
          have hu136 := Aside0.mk hu
          clear hu
          refine wpList_plain rfl (fun Ko hKo => ?_)
          go_simp
          refine hKo _ _ ?_
          clear hKo Ko
          try simp only [Act.put, nm1, nm2, nm3, i64_w]
          have hB0 := hb134
          have cl0 := hB0.cell (o := 0) rfl
          have fr0 := hB0.free 0
          have cl1 := hB0.cell (o := 1) rfl
          have fr1 := hB0.free 1
          refine step_store (b := b134) (cs' := [.int .i64 a4_0, .int .i64 a4_1]) (T := 25) (W' := ((w135.setCell ⟨b134, 0, none⟩ (.int .i64 a4_0)).setCell ⟨b134, 1, none⟩ (.int .i64 a4_1))) rfl rfl (by first | (go_simp; done) | (go_simp; rfl)) (((Sto.refl _ _).setCell 0 _).setCell 1 _) (((hB0).setCell 0 _).setCell 1 _) ?_
          clear hB0 cl0 fr0 cl1 fr1
          intro w137 hs hb139
          have hs138 := Aside0.mk hs
          clear hs
          refine wpList_nil ?_
          (try simp only [Exit.then, Exit.inBlock, ↓reduceIte, Nat.reduceEqDiff])
          refine hK133 _ _ ?_
          refine wp_seq_k (fun K140 hK140 => ?_)
          refine wp_seq_k (fun K141 hK141 => ?_)
          refine wp_region_lit ?_
          refine wpList_plain rfl (fun Ko hKo => ?_)
          go_simp
          refine hKo _ _ ?_
          clear hKo Ko
          try simp only [Act.put, nm1, nm2, nm3, i64_w]
          refine wpList_plain rfl (fun Ko hKo => ?_)
          go_simp
          refine hKo _ _ ?_
          clear hKo Ko
          try simp only [Act.put, nm1, nm2, nm3, i64_w]
          refine wpList_plain rfl (fun Ko hKo => ?_)
          go_simp
          refine hKo _ _ ?_
          clear hKo Ko
          try simp only [Act.put, nm1, nm2, nm3, i64_w]
          refine wpList_plain rfl (fun Ko hKo => ?_)
          go_simp
          refine hKo _ _ ?_
          clear hKo Ko
          try simp only [Act.put, nm1, nm2, nm3, i64_w]
          refine wpList_plain rfl (fun Ko hKo => ?_)
          go_simp
          refine hKo _ _ ?_
          clear hKo Ko
          try simp only [Act.put, nm1, nm2, nm3, i64_w]
          have cl0 := (hb33.up (((((((((((((hu39.out.trans hu44.out).trans hu52.out).sto (Nat.le_trans ((Nat.le_trans (hu39.out.size) hu44.out.size)) lbb50.out) hs54.out).trans hu61.out).trans hu72.out).grow hg81.out (fun k hk => Nat.le_trans (Nat.le_refl _) ((fun k hk => (lb83.out k hk).1) k hk))).trans hu94.out).sto (Nat.le_trans ((Nat.le_trans ((Nat.le_trans ((Nat.le_trans ((Nat.le_trans ((Nat.le_trans ((Nat.le_trans (hu39.out.size) hu44.out.size)) hu52.out.size)) (Nat.le_of_eq hs54.out.size.symm))) hu61.out.size)) hu72.out.size)) hg81.out.size)) lbb92.out) hs96.out).trans hu103.out).trans hu114.out).grow hg121.out (fun k hk => Nat.le_trans (Nat.le_refl _) ((fun k hk => (lb123.out k hk).1) k hk))).trans hu136.out).sto (Nat.le_trans ((Nat.le_trans ((Nat.le_trans ((Nat.le_trans ((Nat.le_trans ((Nat.le_trans ((Nat.le_trans ((Nat.le_trans ((Nat.le_trans ((Nat.le_trans ((Nat.le_trans ((Nat.le_trans (hu39.out.size) hu44.out.size)) hu52.out.size)) (Nat.le_of_eq hs54.out.size.symm))) hu61.out.size)) hu72.out.size)) hg81.out.size)) hu94.out.size)) (Nat.le_of_eq hs96.out.size.symm))) hu103.out.size)) hu114.out.size)) hg121.out.size)) lbb134.out) hs138.out)).cell (o := 6) rfl
          have cl1 := (hb33.up (((((((((((((hu39.out.trans hu44.out).trans hu52.out).sto (Nat.le_trans ((Nat.le_trans (hu39.out.size) hu44.out.size)) lbb50.out) hs54.out).trans hu61.out).trans hu72.out).grow hg81.out (fun k hk => Nat.le_trans (Nat.le_refl _) ((fun k hk => (lb83.out k hk).1) k hk))).trans hu94.out).sto (Nat.le_trans ((Nat.le_trans ((Nat.le_trans ((Nat.le_trans ((Nat.le_trans ((Nat.le_trans ((Nat.le_trans (hu39.out.size) hu44.out.size)) hu52.out.size)) (Nat.le_of_eq hs54.out.size.symm))) hu61.out.size)) hu72.out.size)) hg81.out.size)) lbb92.out) hs96.out).trans hu103.out).trans hu114.out).grow hg121.out (fun k hk => Nat.le_trans (Nat.le_refl _) ((fun k hk => (lb123.out k hk).1) k hk))).trans hu136.out).sto (Nat.le_trans ((Nat.le_trans ((Nat.le_trans ((Nat.le_trans ((Nat.le_trans ((Nat.le_trans ((Nat.le_trans ((Nat.le_trans ((Nat.le_trans ((Nat.le_trans ((Nat.le_trans ((Nat.le_trans (hu39.out.size) hu44.out.size)) hu52.out.size)) (Nat.le_of_eq hs54.out.size.symm))) hu61.out.size)) hu72.out.size)) hg81.out.size)) hu94.out.size)) (Nat.le_of_eq hs96.out.size.symm))) hu103.out.size)) hu114.out.size)) hg121.out.size)) lbb134.out) hs138.out)).cell (o := 7) rfl
          have cl2 := (hb33.up (((((((((((((hu39.out.trans hu44.out).trans hu52.out).sto (Nat.le_trans ((Nat.le_trans (hu39.out.size) hu44.out.size)) lbb50.out) hs54.out).trans hu61.out).trans hu72.out).grow hg81.out (fun k hk => Nat.le_trans (Nat.le_refl _) ((fun k hk => (lb83.out k hk).1) k hk))).trans hu94.out).sto (Nat.le_trans ((Nat.le_trans ((Nat.le_trans ((Nat.le_trans ((Nat.le_trans ((Nat.le_trans ((Nat.le_trans (hu39.out.size) hu44.out.size)) hu52.out.size)) (Nat.le_of_eq hs54.out.size.symm))) hu61.out.size)) hu72.out.size)) hg81.out.size)) lbb92.out) hs96.out).trans hu103.out).trans hu114.out).grow hg121.out (fun k hk => Nat.le_trans (Nat.le_refl _) ((fun k hk => (lb123.out k hk).1) k hk))).trans hu136.out).sto (Nat.le_trans ((Nat.le_trans ((Nat.le_trans ((Nat.le_trans ((Nat.le_trans ((Nat.le_trans ((Nat.le_trans ((Nat.le_trans ((Nat.le_trans ((Nat.le_trans ((Nat.le_trans ((Nat.le_trans (hu39.out.size) hu44.out.size)) hu52.out.size)) (Nat.le_of_eq hs54.out.size.symm))) hu61.out.size)) hu72.out.size)) hg81.out.size)) hu94.out.size)) (Nat.le_of_eq hs96.out.size.symm))) hu103.out.size)) hu114.out.size)) hg121.out.size)) lbb134.out) hs138.out)).cell (o := 8) rfl
          refine wpList_plain rfl (fun Ko hKo => ?_)
          go_simp
          refine hKo _ _ ?_
          clear hKo Ko
          clear cl0 cl1 cl2
          try simp only [Act.put, nm1, nm2, nm3, i64_w]
          refine step_call (wanted_none rfl) (by first | (go_simp; done) | (go_simp; rfl)) (impl_isNull.calls K a0 a1 t28 t29 t30 false w137  A143.out) ?_
          rintro e w144 ⟨rfl, hu⟩
          have hu145 := Aside0.mk hu
          clear hu
          refine ⟨_, rfl, ?_⟩
          simp only [Act.put, nm1, nm2, nm3, i64_w]
          refine wpList_nil ?_
          (try simp only [Exit.then, Exit.inBlock, ↓reduceIte, Nat.reduceEqDiff])
          refine hK141 _ _ ?_
          refine wp_cond_false rfl ?_
          refine wp_skip ?_
          (try simp only [Exit.then, Exit.inBlock, ↓reduceIte, Nat.reduceEqDiff])
          refine hK140 _ _ ?_
          refine' wp_region_up 10 [Slot.det _, Slot.det _, Slot.det _, Slot.det _, Slot.det _, Slot.det _, Slot.det _, Slot.det _, Slot.det (.agg #[.int .i64 t150, .int .i64 t151]), Slot.any (SlTo 1 [.int .i64 t150, .int .i64 t151] 25 w144.heap.size) false] (by kernel_rfl) (by kernel_rfl) ?main
          case main =>
           simp only [List.take_succ_cons, List.take_zero]
           refine wpK_ops rfl (fun w1 hu => ?_) ?_
           · clear hu
             go_simp
             first | done | rfl
           simp only [Act.put, nm1, nm2, nm3, i64_w]
           refine wpK_ops rfl (fun w1 hu => ?_) ?_
           · clear hu
             go_simp
             first | done | rfl
           simp only [Act.put, nm1, nm2, nm3, i64_w]
           refine wpK_ops rfl (fun w1 hu => ?_) ?_
           · clear hu
             go_simp
             first | done | rfl
           simp only [Act.put, nm1, nm2, nm3, i64_w]
           refine wpK_ops rfl (fun w1 hu => ?_) ?_
           · have cl0 := ((hb139.up hu145.out).up ((Up.refl _).drew.trans hu)).cell (o := 0) rfl
             have cl1 := ((hb139.up hu145.out).up ((Up.refl _).drew.trans hu)).cell (o := 1) rfl
             go_simp
             first | done | rfl
           simp only [Act.put, nm1, nm2, nm3, i64_w]
           refine wpK_ops rfl (fun w1 hu => ?_) ?_
           · clear hu
             go_simp
             first | done | rfl
           simp only [Act.put, nm1, nm2, nm3, i64_w]
           refine wpK_ops rfl (fun w1 hu => ?_) ?_
           · clear hu
             go_simp
             first | done | rfl
           simp only [Act.put, nm1, nm2, nm3, i64_w]
           refine wpK_ops rfl (fun w1 hu => ?_) ?_
           · clear hu
             go_simp
             first | done | rfl
           simp only [Act.put, nm1, nm2, nm3, i64_w]
           refine wpK_ops rfl (fun w1 hu => ?_) ?_
           · have cl0 := ((hb33.up ((((((((((((((hu39.out.trans hu44.out).trans hu52.out).sto (Nat.le_trans ((Nat.le_trans (hu39.out.size) hu44.out.size)) lbb50.out) hs54.out).trans hu61.out).trans hu72.out).grow hg81.out (fun k hk => Nat.le_trans (Nat.le_refl _) ((fun k hk => (lb83.out k hk).1) k hk))).trans hu94.out).sto (Nat.le_trans ((Nat.le_trans ((Nat.le_trans ((Nat.le_trans ((Nat.le_trans ((Nat.le_trans ((Nat.le_trans (hu39.out.size) hu44.out.size)) hu52.out.size)) (Nat.le_of_eq hs54.out.size.symm))) hu61.out.size)) hu72.out.size)) hg81.out.size)) lbb92.out) hs96.out).trans hu103.out).trans hu114.out).grow hg121.out (fun k hk => Nat.le_trans (Nat.le_refl _) ((fun k hk => (lb123.out k hk).1) k hk))).trans hu136.out).sto (Nat.le_trans ((Nat.le_trans ((Nat.le_trans ((Nat.le_trans ((Nat.le_trans ((Nat.le_trans ((Nat.le_trans ((Nat.le_trans ((Nat.le_trans ((Nat.le_trans ((Nat.le_trans ((Nat.le_trans (hu39.out.size) hu44.out.size)) hu52.out.size)) (Nat.le_of_eq hs54.out.size.symm))) hu61.out.size)) hu72.out.size)) hg81.out.size)) hu94.out.size)) (Nat.le_of_eq hs96.out.size.symm))) hu103.out.size)) hu114.out.size)) hg121.out.size)) lbb134.out) hs138.out).trans hu145.out)).up ((Up.refl _).drew.trans hu)).cell (o := 6) rfl
             have cl1 := ((hb33.up ((((((((((((((hu39.out.trans hu44.out).trans hu52.out).sto (Nat.le_trans ((Nat.le_trans (hu39.out.size) hu44.out.size)) lbb50.out) hs54.out).trans hu61.out).trans hu72.out).grow hg81.out (fun k hk => Nat.le_trans (Nat.le_refl _) ((fun k hk => (lb83.out k hk).1) k hk))).trans hu94.out).sto (Nat.le_trans ((Nat.le_trans ((Nat.le_trans ((Nat.le_trans ((Nat.le_trans ((Nat.le_trans ((Nat.le_trans (hu39.out.size) hu44.out.size)) hu52.out.size)) (Nat.le_of_eq hs54.out.size.symm))) hu61.out.size)) hu72.out.size)) hg81.out.size)) lbb92.out) hs96.out).trans hu103.out).trans hu114.out).grow hg121.out (fun k hk => Nat.le_trans (Nat.le_refl _) ((fun k hk => (lb123.out k hk).1) k hk))).trans hu136.out).sto (Nat.le_trans ((Nat.le_trans ((Nat.le_trans ((Nat.le_trans ((Nat.le_trans ((Nat.le_trans ((Nat.le_trans ((Nat.le_trans ((Nat.le_trans ((Nat.le_trans ((Nat.le_trans ((Nat.le_trans (hu39.out.size) hu44.out.size)) hu52.out.size)) (Nat.le_of_eq hs54.out.size.symm))) hu61.out.size)) hu72.out.size)) hg81.out.size)) hu94.out.size)) (Nat.le_of_eq hs96.out.size.symm))) hu103.out.size)) hu114.out.size)) hg121.out.size)) lbb134.out) hs138.out).trans hu145.out)).up ((Up.refl _).drew.trans hu)).cell (o := 7) rfl
             have cl2 := ((hb33.up ((((((((((((((hu39.out.trans hu44.out).trans hu52.out).sto (Nat.le_trans ((Nat.le_trans (hu39.out.size) hu44.out.size)) lbb50.out) hs54.out).trans hu61.out).trans hu72.out).grow hg81.out (fun k hk => Nat.le_trans (Nat.le_refl _) ((fun k hk => (lb83.out k hk).1) k hk))).trans hu94.out).sto (Nat.le_trans ((Nat.le_trans ((Nat.le_trans ((Nat.le_trans ((Nat.le_trans ((Nat.le_trans ((Nat.le_trans (hu39.out.size) hu44.out.size)) hu52.out.size)) (Nat.le_of_eq hs54.out.size.symm))) hu61.out.size)) hu72.out.size)) hg81.out.size)) lbb92.out) hs96.out).trans hu103.out).trans hu114.out).grow hg121.out (fun k hk => Nat.le_trans (Nat.le_refl _) ((fun k hk => (lb123.out k hk).1) k hk))).trans hu136.out).sto (Nat.le_trans ((Nat.le_trans ((Nat.le_trans ((Nat.le_trans ((Nat.le_trans ((Nat.le_trans ((Nat.le_trans ((Nat.le_trans ((Nat.le_trans ((Nat.le_trans ((Nat.le_trans ((Nat.le_trans (hu39.out.size) hu44.out.size)) hu52.out.size)) (Nat.le_of_eq hs54.out.size.symm))) hu61.out.size)) hu72.out.size)) hg81.out.size)) hu94.out.size)) (Nat.le_of_eq hs96.out.size.symm))) hu103.out.size)) hu114.out.size)) hg121.out.size)) lbb134.out) hs138.out).trans hu145.out)).up ((Up.refl _).drew.trans hu)).cell (o := 8) rfl
             go_simp
             first | done | rfl
           simp only [Act.put, nm1, nm2, nm3, i64_w]
           refine wpK_ops rfl (fun w1 hu => ?_) ?_
           · have hcl := (impl_foot.calls K a0 a1 a4_0 a4_1 t28 t29 t30 t150 t151 w1  A152.out)
             clear hu
             replace hcl := Aside0.mk hcl
             go_simp
             exact hcl.out
           simp only [Act.put, nm1, nm2, nm3, i64_w]
           refine wpK_any rfl (stab_sl _ _ _ _) (fun w1 hu _ => fresh_sl (by first | (go_simp; done) | (go_simp; rfl)) ((Up.refl _).drew.trans hu).size) (fun v153 => ?_)
           simp only [Act.put, nm1, nm2, nm3, i64_w]
           refine wpK_nil ?_
           intro w155 hu hap
           simp only [List.drop_succ_cons, List.drop_zero]
           replace hu := (Up.refl _).drew.trans hu
           obtain ⟨-, -, ⟨b154, e0, hb154, lbb154⟩, -⟩ := hap
           replace lbb154 := Aside0.mk lbb154
           have ltb154 := Aside0.mk hb154.lt
           dsimp only at e0
           subst e0
           have hu156 := Aside0.mk hu
           clear hu
           have hO0 := Aside0.mk (h120.up (((hu136.out.sto (Nat.le_trans (Nat.le_refl _) lbb134.out) hs138.out).trans hu145.out).trans hu156.out))
           refine step_append e2 (z := .agg #[.int .i64 0, .int .i64 0]) (bytes := 16) (base := w34.heap.size) (xs := ((([] : List (Int × Int)) ++ [(t66, t67)]) ++ [(t108, t109)])) (ys := [(t150, t151)]) (wanted_none rfl) _ _ rfl rfl (by kernel_rfl) rfl (by decide) rfl rfl rfl hO0.out (Rd.of_blk (E := e2) (xs := [(t150, t151)]) (o := 0) hb154 (by simp) (fun j u hu => by rcases j with _ | _ | j <;> simp_all [Enc.flat, e2])) ((Nat.le_trans ((Nat.le_trans ((Nat.le_trans ((Nat.le_trans ((Nat.le_trans ((Nat.le_trans ((Nat.le_trans ((Nat.le_trans ((Nat.le_trans ((Nat.le_trans ((Nat.le_trans ((Nat.le_trans ((Nat.le_trans ((Nat.le_trans ((Nat.le_trans (hu39.out.size) hu44.out.size)) hu52.out.size)) (Nat.le_of_eq hs54.out.size.symm))) hu61.out.size)) hu72.out.size)) hg81.out.size)) hu94.out.size)) (Nat.le_of_eq hs96.out.size.symm))) hu103.out.size)) hu114.out.size)) hg121.out.size)) hu136.out.size)) (Nat.le_of_eq hs138.out.size.symm))) hu145.out.size)) hu156.out.size)) (by have h0_ := (of_decide_eq_true (by assumption) : ((([] : List (Int × Int)) ++ [(t66, t67)]) ++ [(t108, t109)]).length ≤ 1000000); simp only [List.length_cons, List.length_nil]; omega) ?_
           intro P158 q159 w160 h162 hg hat
           have hg163 := Aside0.mk hg
           have hat164 := Aside0.mk hat
           simp only [Act.put, nm1, nm2, nm3, i64_w]
           have lb165 := Aside0.mk hO0.out.lt
           clear hO0 hg hat
           have h166 := (h124.up (((hu136.out.sto (Nat.le_trans (Nat.le_refl _) lbb134.out) hs138.out).trans hu145.out).trans hu156.out)).grow hg163.out (fun k hk => hat122.out.elim (fun e => (fun k hk => hat82.out.elim (fun e => (fun k hk => Nat.ne_of_lt (Nat.lt_of_lt_of_le ((fun k hk => Nat.lt_of_lt_of_le (h75.lt k hk).2 (Nat.le_refl _)) k hk) lbb42.out)) k (e.symm.trans hk)) (fun g => Nat.ne_of_gt (Nat.lt_of_lt_of_le (Nat.lt_of_lt_of_le ltb42.out ((Nat.le_trans ((Nat.le_trans ((Nat.le_trans (hu52.out.size) (Nat.le_of_eq hs54.out.size.symm))) hu61.out.size)) hu72.out.size))) (g k hk)))) k (e.symm.trans hk)) (fun g => Nat.ne_of_gt (Nat.lt_of_lt_of_le (Nat.lt_of_lt_of_le ltb42.out ((Nat.le_trans ((Nat.le_trans ((Nat.le_trans ((Nat.le_trans ((Nat.le_trans ((Nat.le_trans ((Nat.le_trans ((Nat.le_trans (hu52.out.size) (Nat.le_of_eq hs54.out.size.symm))) hu61.out.size)) hu72.out.size)) hg81.out.size)) hu94.out.size)) (Nat.le_of_eq hs96.out.size.symm))) hu103.out.size)) hu114.out.size))) (g k hk))))
           have h167 := (h125.up (((hu136.out.sto (Nat.le_trans (Nat.le_refl _) lbb134.out) hs138.out).trans hu145.out).trans hu156.out)).grow hg163.out (fun k hk => hat122.out.elim (fun e => (fun k hk => hat82.out.elim (fun e => (fun k hk => Nat.ne_of_lt (Nat.lt_of_lt_of_le ((fun k hk => Nat.lt_of_lt_of_le (h75.lt k hk).2 (hu44.out.size)) k hk) lbb50.out)) k (e.symm.trans hk)) (fun g => Nat.ne_of_gt (Nat.lt_of_lt_of_le (Nat.lt_of_lt_of_le ltb50.out ((Nat.le_trans ((Nat.le_trans ((Nat.le_of_eq hs54.out.size.symm)) hu61.out.size)) hu72.out.size))) (g k hk)))) k (e.symm.trans hk)) (fun g => Nat.ne_of_gt (Nat.lt_of_lt_of_le (Nat.lt_of_lt_of_le ltb50.out ((Nat.le_trans ((Nat.le_trans ((Nat.le_trans ((Nat.le_trans ((Nat.le_trans ((Nat.le_trans ((Nat.le_trans ((Nat.le_of_eq hs54.out.size.symm)) hu61.out.size)) hu72.out.size)) hg81.out.size)) hu94.out.size)) (Nat.le_of_eq hs96.out.size.symm))) hu103.out.size)) hu114.out.size))) (g k hk))))
           have h168 := (h126.up (((hu136.out.sto (Nat.le_trans (Nat.le_refl _) lbb134.out) hs138.out).trans hu145.out).trans hu156.out)).grow hg163.out (fun k hk => hat122.out.elim (fun e => (fun k hk => hat82.out.elim (fun e => (fun k hk => Nat.ne_of_lt (Nat.lt_of_lt_of_le ((fun k hk => Nat.lt_of_lt_of_le (h75.lt k hk).2 ((Nat.le_trans ((Nat.le_trans ((Nat.le_trans (hu44.out.size) hu52.out.size)) (Nat.le_of_eq hs54.out.size.symm))) hu61.out.size))) k hk) lbb70.out)) k (e.symm.trans hk)) (fun g => Nat.ne_of_gt (Nat.lt_of_lt_of_le ltb70.out (g k hk)))) k (e.symm.trans hk)) (fun g => Nat.ne_of_gt (Nat.lt_of_lt_of_le (Nat.lt_of_lt_of_le ltb70.out ((Nat.le_trans ((Nat.le_trans ((Nat.le_trans ((Nat.le_trans (hg81.out.size) hu94.out.size)) (Nat.le_of_eq hs96.out.size.symm))) hu103.out.size)) hu114.out.size))) (g k hk))))
           have h169 := (h127.up (((hu136.out.sto (Nat.le_trans (Nat.le_refl _) lbb134.out) hs138.out).trans hu145.out).trans hu156.out)).grow hg163.out (fun k hk => hat122.out.elim (fun e => (fun k hk => Nat.ne_of_lt (Nat.lt_of_lt_of_le ((fun k hk => Nat.lt_of_lt_of_le (h80.lt k hk).2 (Nat.le_refl _)) k hk) lbb92.out)) k (e.symm.trans hk)) (fun g => Nat.ne_of_gt (Nat.lt_of_lt_of_le (Nat.lt_of_lt_of_le ltb92.out ((Nat.le_trans ((Nat.le_trans ((Nat.le_of_eq hs96.out.size.symm)) hu103.out.size)) hu114.out.size))) (g k hk))))
           have h170 := (h128.up (((hu136.out.sto (Nat.le_trans (Nat.le_refl _) lbb134.out) hs138.out).trans hu145.out).trans hu156.out)).grow hg163.out (fun k hk => hat122.out.elim (fun e => (fun k hk => Nat.ne_of_lt (Nat.lt_of_lt_of_le ((fun k hk => Nat.lt_of_lt_of_le (h80.lt k hk).2 ((Nat.le_trans ((Nat.le_trans (hu94.out.size) (Nat.le_of_eq hs96.out.size.symm))) hu103.out.size))) k hk) lbb112.out)) k (e.symm.trans hk)) (fun g => Nat.ne_of_gt (Nat.lt_of_lt_of_le ltb112.out (g k hk))))
           have h171 := (hb139.up (hu145.out.trans hu156.out)).grow hg163.out (fun k hk => Nat.ne_of_lt (Nat.lt_of_lt_of_le ((fun k hk => Nat.lt_of_lt_of_le (h120.lt k hk).2 (Nat.le_refl _)) k hk) lbb134.out))
           have h172 := hb154.grow hg163.out (fun k hk => Nat.ne_of_lt (Nat.lt_of_lt_of_le ((fun k hk => Nat.lt_of_lt_of_le (h120.lt k hk).2 ((Nat.le_trans ((Nat.le_trans (hu136.out.size) (Nat.le_of_eq hs138.out.size.symm))) hu145.out.size))) k hk) lbb154.out))
           refine wpList_plain rfl (fun Ko hKo => ?_)
           go_simp
           refine hKo _ _ ?_
           clear hKo Ko
           try simp only [Act.put, nm1, nm2, nm3, i64_w]
           refine wpList_nil ?_
           (try simp only [Exit.then, Exit.inBlock, ↓reduceIte, Nat.reduceEqDiff])
           refine hK132 _ _ ?_
           refine wp_region_lit ?_
           refine wpList_plain rfl (fun Ko hKo => ?_)
           go_simp
           refine hKo _ _ ?_
           clear hKo Ko
           try simp only [Act.put, nm1, nm2, nm3, i64_w]
           try simp only [show wrap64 3 = 3 from wlit rfl]
           refine wpList_plain rfl (fun Ko hKo => ?_)
           go_simp
           refine hKo _ _ ?_
           clear hKo Ko
           try simp only [Act.put, nm1, nm2, nm3, i64_w]
           refine wpList_nil ?_
           (try simp only [Exit.then, Exit.inBlock, ↓reduceIte, Nat.reduceEqDiff])
           refine hK129 _ _ ?_
           refine rounds_k (fun K173 hK173 => ?_)
           refine wp_seq_k (fun K174 hK174 => ?_)
           refine wp_region_lit ?_
           refine wpList_plain rfl (fun Ko hKo => ?_)
           go_simp
           refine hKo _ _ ?_
           clear hKo Ko
           try simp only [Act.put, nm1, nm2, nm3, i64_w]
           refine wpList_nil ?_
           (try simp only [Exit.then, Exit.inBlock, ↓reduceIte, Nat.reduceEqDiff])
           refine hK174 _ _ ?_
           refine wp_seq_k (fun K175 hK175 => ?_)
           refine wp_cond_false rfl ?_
           refine wp_exit ?_
           (try simp only [Exit.then, Exit.inBlock, ↓reduceIte, Nat.reduceEqDiff])
           refine hK40 _ _ ?_
           refine wp_seq_k (fun K176 hK176 => ?_)
           refine wp_region_lit ?_
           refine wpList_plain rfl (fun Ko hKo => ?_)
           go_simp
           refine hKo _ _ ?_
           clear hKo Ko
           try simp only [Act.put, nm1, nm2, nm3, i64_w]
           refine wpList_plain rfl (fun Ko hKo => ?_)
           go_simp
           refine hKo _ _ ?_
           clear hKo Ko
           try simp only [Act.put, nm1, nm2, nm3, i64_w]
           refine wpList_plain rfl (fun Ko hKo => ?_)
           go_simp
           refine hKo _ _ ?_
           clear hKo Ko
           try simp only [Act.put, nm1, nm2, nm3, i64_w]
           refine wpList_nil ?_
           (try simp only [Exit.then, Exit.inBlock, ↓reduceIte, Nat.reduceEqDiff])
           refine hK176 _ _ ?_
           refine wp_ret ?_
           (try simp only [Exit.then, Exit.inBlock, ↓reduceIte, Nat.reduceEqDiff])
           refine hQf _ _ _ ?_
           exact bodyPost_ret (v := .tuple #[.slice P158 ((((([] : List (Int × Int)) ++ [(t66, t67)]) ++ [(t108, t109)]) ++ [(t150, t151)]).length) q159, .int .i64 0]) (by first | rfl | (simp [results, Try.results38, go_sem]; done) | (simp [results, Try.results38, go_sem]; rfl)) rfl ⟨P158, q159, rfl, (h162.lower ((Nat.le_trans ((Nat.le_trans ((Nat.le_trans ((Nat.le_trans (hu4.out.size) hu7.out.size)) hu10.out.size)) hu16.out.size)) hu35.out.size))), (((((((((((((((((((((hu4.out.trans hu7.out).trans hu10.out).trans hu16.out).trans hu35.out).trans hu39.out).trans hu44.out).trans hu52.out).sto (Nat.le_trans ((Nat.le_trans ((Nat.le_trans ((Nat.le_trans ((Nat.le_trans ((Nat.le_trans ((Nat.le_trans (hu4.out.size) hu7.out.size)) hu10.out.size)) hu16.out.size)) hu35.out.size)) hu39.out.size)) hu44.out.size)) lbb50.out) hs54.out).trans hu61.out).trans hu72.out).grow hg81.out (fun k hk => Nat.le_trans ((Nat.le_trans ((Nat.le_trans ((Nat.le_trans ((Nat.le_trans (hu4.out.size) hu7.out.size)) hu10.out.size)) hu16.out.size)) hu35.out.size)) ((fun k hk => (lb83.out k hk).1) k hk))).trans hu94.out).sto (Nat.le_trans ((Nat.le_trans ((Nat.le_trans ((Nat.le_trans ((Nat.le_trans ((Nat.le_trans ((Nat.le_trans ((Nat.le_trans ((Nat.le_trans ((Nat.le_trans ((Nat.le_trans ((Nat.le_trans (hu4.out.size) hu7.out.size)) hu10.out.size)) hu16.out.size)) hu35.out.size)) hu39.out.size)) hu44.out.size)) hu52.out.size)) (Nat.le_of_eq hs54.out.size.symm))) hu61.out.size)) hu72.out.size)) hg81.out.size)) lbb92.out) hs96.out).trans hu103.out).trans hu114.out).grow hg121.out (fun k hk => Nat.le_trans ((Nat.le_trans ((Nat.le_trans ((Nat.le_trans ((Nat.le_trans (hu4.out.size) hu7.out.size)) hu10.out.size)) hu16.out.size)) hu35.out.size)) ((fun k hk => (lb123.out k hk).1) k hk))).trans hu136.out).sto (Nat.le_trans ((Nat.le_trans ((Nat.le_trans ((Nat.le_trans ((Nat.le_trans ((Nat.le_trans ((Nat.le_trans ((Nat.le_trans ((Nat.le_trans ((Nat.le_trans ((Nat.le_trans ((Nat.le_trans ((Nat.le_trans ((Nat.le_trans ((Nat.le_trans ((Nat.le_trans ((Nat.le_trans (hu4.out.size) hu7.out.size)) hu10.out.size)) hu16.out.size)) hu35.out.size)) hu39.out.size)) hu44.out.size)) hu52.out.size)) (Nat.le_of_eq hs54.out.size.symm))) hu61.out.size)) hu72.out.size)) hg81.out.size)) hu94.out.size)) (Nat.le_of_eq hs96.out.size.symm))) hu103.out.size)) hu114.out.size)) hg121.out.size)) lbb134.out) hs138.out).trans hu145.out).trans hu156.out).grow hg163.out (fun k hk => Nat.le_trans ((Nat.le_trans ((Nat.le_trans ((Nat.le_trans ((Nat.le_trans (hu4.out.size) hu7.out.size)) hu10.out.size)) hu16.out.size)) hu35.out.size)) ((fun k hk => (lb165.out k hk).1) k hk)))⟩
      ·
       rw [if_neg c157] at H
       replace c157 := Bool.eq_false_iff.mpr c157
       exact absurd H (by simp)
    ·
     rw [if_neg c115] at H
     replace c115 := Bool.eq_false_iff.mpr c115
     exact absurd H (by simp)
 ·
  rw [if_neg c18] at H
  replace c18 := Bool.eq_false_iff.mpr c18
  have c18n : (t13 != 0) = true := by rw [bne, c18]; rfl
  have c18p : ¬ t13 = 0 := fun e => by simp [e] at c18
  simp only [Option.some.injEq, Prod.mk.injEq] at H
  obtain ⟨rfl, rfl⟩ := H
  go_enter Try.func38, Try.ntmps38
  refine wp_hide (fun Qf hQf => ?_)
  refine wp_seq_k (fun K1 hK1 => ?_)
  refine wp_region_lit ?_
  refine step_new (cs := [.int .i64 a2_0, .int .i64 a2_1]) (T := 25) (f := fun b => .pointer (some ⟨b, 0, none⟩)) rfl (by first | (go_simp; done) | (go_simp; rfl)) ?_
  intro b2 w3 hu lb hb2
  simp only [Act.put, nm1, nm2, nm3, i64_w]
  have lbb2 := Aside0.mk lb
  have ltb2 := Aside0.mk hb2.lt
  clear lb
  have hu4 := Aside0.mk hu
  clear hu
  refine step_new (cs := [.int .i64 a3_0, .int .i64 a3_1]) (T := 25) (f := fun b => .pointer (some ⟨b, 0, none⟩)) rfl (by first | (go_simp; done) | (go_simp; rfl)) ?_
  intro b5 w6 hu lb hb5
  simp only [Act.put, nm1, nm2, nm3, i64_w]
  have lbb5 := Aside0.mk lb
  have ltb5 := Aside0.mk hb5.lt
  clear lb
  have hu7 := Aside0.mk hu
  clear hu
  refine step_new (cs := [.int .i64 a4_0, .int .i64 a4_1]) (T := 25) (f := fun b => .pointer (some ⟨b, 0, none⟩)) rfl (by first | (go_simp; done) | (go_simp; rfl)) ?_
  intro b8 w9 hu lb hb8
  simp only [Act.put, nm1, nm2, nm3, i64_w]
  have lbb8 := Aside0.mk lb
  have ltb8 := Aside0.mk hb8.lt
  clear lb
  have hu10 := Aside0.mk hu
  clear hu
  refine wpList_plain rfl (fun Ko hKo => ?_)
  go_simp
  refine hKo _ _ ?_
  clear hKo Ko
  try simp only [Act.put, nm1, nm2, nm3, i64_w]
  refine wpList_plain rfl (fun Ko hKo => ?_)
  go_simp
  refine hKo _ _ ?_
  clear hKo Ko
  try simp only [Act.put, nm1, nm2, nm3, i64_w]
  refine wpList_nil ?_
  (try simp only [Exit.then, Exit.inBlock, ↓reduceIte, Nat.reduceEqDiff])
  refine hK1 _ _ ?_
  refine wp_seq_k (fun K11 hK11 => ?_)
  refine wp_seq_k (fun K12 hK12 => ?_)
  refine wp_region_lit ?_
  refine wpList_plain rfl (fun Ko hKo => ?_)
  go_simp
  refine hKo _ _ ?_
  clear hKo Ko
  try simp only [Act.put, nm1, nm2, nm3, i64_w]
  refine wpList_plain rfl (fun Ko hKo => ?_)
  go_simp
  refine hKo _ _ ?_
  clear hKo Ko
  try simp only [Act.put, nm1, nm2, nm3, i64_w]
  have cl0 := (hb2.up (hu7.out.trans hu10.out)).cell (o := 0) rfl
  have cl1 := (hb2.up (hu7.out.trans hu10.out)).cell (o := 1) rfl
  refine wpList_plain rfl (fun Ko hKo => ?_)
  go_simp
  refine hKo _ _ ?_
  clear hKo Ko
  clear cl0 cl1
  try simp only [Act.put, nm1, nm2, nm3, i64_w]
  have cl0 := (hb5.up hu10.out).cell (o := 0) rfl
  have cl1 := (hb5.up hu10.out).cell (o := 1) rfl
  refine wpList_plain rfl (fun Ko hKo => ?_)
  go_simp
  refine hKo _ _ ?_
  clear hKo Ko
  clear cl0 cl1
  try simp only [Act.put, nm1, nm2, nm3, i64_w]
  have cl0 := hb8.cell (o := 0) rfl
  have cl1 := hb8.cell (o := 1) rfl
  refine wpList_plain rfl (fun Ko hKo => ?_)
  go_simp
  refine hKo _ _ ?_
  clear hKo Ko
  clear cl0 cl1
  try simp only [Act.put, nm1, nm2, nm3, i64_w]
  refine step_call (wanted_none rfl) (by first | (go_simp; done) | (go_simp; rfl)) (impl_triangle.calls K a0 a1 a2_0 a2_1 a3_0 a3_1 a4_0 a4_1 t13 w9  A14.out) ?_
  rintro e w15 ⟨rfl, hu⟩
  have hu16 := Aside0.mk hu
  clear hu
  refine ⟨_, rfl, ?_⟩
  simp only [Act.put, nm1, nm2, nm3, i64_w]
  refine wpList_plain rfl (fun Ko hKo => ?_)
  go_simp
  refine hKo _ _ ?_
  clear hKo Ko
  try simp only [Act.put, nm1, nm2, nm3, i64_w]
  refine wpList_nil ?_
  (try simp only [Exit.then, Exit.inBlock, ↓reduceIte, Nat.reduceEqDiff])
  refine hK12 _ _ ?_
  refine wp_seq_k (fun K17 hK17 => ?_)
  refine wp_region_lit ?_
  refine wpList_plain rfl (fun Ko hKo => ?_)
  go_simp
  refine hKo _ _ ?_
  clear hKo Ko
  try simp only [Act.put, nm1, nm2, nm3, i64_w]
  refine wpList_plain rfl (fun Ko hKo => ?_)
  go_simp
  refine hKo _ _ ?_
  clear hKo Ko
  try simp only [Act.put, nm1, nm2, nm3, i64_w]
  refine wpList_nil ?_
  (try simp only [Exit.then, Exit.inBlock, ↓reduceIte, Nat.reduceEqDiff])
  refine hK17 _ _ ?_
  refine wp_cond_true rfl ?_
  refine wp_seq_k (fun K177 hK177 => ?_)
  refine wp_region_lit ?_
  refine wpList_plain rfl (fun Ko hKo => ?_)
  go_simp
  refine hKo _ _ ?_
  clear hKo Ko
  try simp only [Act.put, nm1, nm2, nm3, i64_w]
  refine wpList_plain rfl (fun Ko hKo => ?_)
  go_simp
  refine hKo _ _ ?_
  clear hKo Ko
  try simp only [Act.put, nm1, nm2, nm3, i64_w]
  refine wpList_plain rfl (fun Ko hKo => ?_)
  go_simp
  refine hKo _ _ ?_
  clear hKo Ko
  try simp only [Act.put, nm1, nm2, nm3, i64_w]
  refine wpList_nil ?_
  (try simp only [Exit.then, Exit.inBlock, ↓reduceIte, Nat.reduceEqDiff])
  refine hK177 _ _ ?_
  refine wp_ret ?_
  have h179 : Own e2 25 w15 w15.heap.size (.slice none ([] : List (Int × Int)).length 0) [] := Own.nil
  (try simp only [Exit.then, Exit.inBlock, ↓reduceIte, Nat.reduceEqDiff])
  refine hQf _ _ _ ?_
  exact bodyPost_ret (v := .tuple #[.slice none 0 0, .int .i64 t13]) (by first | rfl | (simp [results, Try.results38, go_sem]; done) | (simp [results, Try.results38, go_sem]; rfl)) rfl ⟨none, 0, rfl, (h179.lower ((Nat.le_trans ((Nat.le_trans ((Nat.le_trans (hu4.out.size) hu7.out.size)) hu10.out.size)) hu16.out.size))), (((hu4.out.trans hu7.out).trans hu10.out).trans hu16.out)⟩

set_option maxHeartbeats 4000000 in
set_option maxRecDepth 100000 in
theorem laws_eqPoint.calls (K : Nat) (a0_0 : Int) (a0_1 : Int) (a1_0 : Int) (a1_1 : Int) (r0 : Bool) (w : World)  (h : laws_eqPoint.f K a0_0 a0_1 a1_0 a1_1 = some (r0)) :
    Calls Try.prog 18 #[.agg #[.int .i64 a0_0, .int .i64 a0_1], .agg #[.int .i64 a1_0, .int .i64 a1_1]] w fun e w' => e = .returned (.bool r0) ∧ Up w w' := by
 have H : ((if (a0_0 == a1_0) = true then (if (a0_1 == a1_1) = true then some true else some false) else some false) : Option (Bool)) = some (r0) := h
 clear h
 by_cases c17 : (a0_0 == a1_0) = true
 ·
  rw [if_pos c17] at H
  have c17n : (a0_0 != a1_0) = false := by rw [bne, c17]; rfl
  by_cases c25 : (a0_1 == a1_1) = true
  ·
   rw [if_pos c25] at H
   have c25n : (a0_1 != a1_1) = false := by rw [bne, c25]; rfl
   obtain rfl := Option.some.inj H
   go_enter Try.func18, Try.ntmps18
   refine wp_hide (fun Qf hQf => ?_)
   refine wp_seq_k (fun K1 hK1 => ?_)
   refine wp_region_lit ?_
   refine step_new (cs := [.int .i64 a0_0, .int .i64 a0_1]) (T := 25) (f := fun b => .pointer (some ⟨b, 0, none⟩)) rfl (by first | (go_simp; done) | (go_simp; rfl)) ?_
   intro b2 w3 hu lb hb2
   simp only [Act.put, nm1, nm2, nm3, i64_w]
   have lbb2 := Aside0.mk lb
   have ltb2 := Aside0.mk hb2.lt
   clear lb
   have hu4 := Aside0.mk hu
   clear hu
   refine step_new (cs := [.int .i64 a1_0, .int .i64 a1_1]) (T := 25) (f := fun b => .pointer (some ⟨b, 0, none⟩)) rfl (by first | (go_simp; done) | (go_simp; rfl)) ?_
   intro b5 w6 hu lb hb5
   simp only [Act.put, nm1, nm2, nm3, i64_w]
   have lbb5 := Aside0.mk lb
   have ltb5 := Aside0.mk hb5.lt
   clear lb
   have hu7 := Aside0.mk hu
   clear hu
   refine wpList_plain rfl (fun Ko hKo => ?_)
   go_simp
   refine hKo _ _ ?_
   clear hKo Ko
   try simp only [Act.put, nm1, nm2, nm3, i64_w]
   refine wpList_nil ?_
   (try simp only [Exit.then, Exit.inBlock, ↓reduceIte, Nat.reduceEqDiff])
   refine hK1 _ _ ?_
   refine wp_seq_k (fun K8 hK8 => ?_)
   refine wp_seq_k (fun K9 hK9 => ?_)
   refine wp_region_lit ?_
   refine wpList_plain rfl (fun Ko hKo => ?_)
   go_simp
   refine hKo _ _ ?_
   clear hKo Ko
   try simp only [Act.put, nm1, nm2, nm3, i64_w]
   refine wpList_nil ?_
   (try simp only [Exit.then, Exit.inBlock, ↓reduceIte, Nat.reduceEqDiff])
   refine hK9 _ _ ?_
   refine wp_block ?_
   refine wp_loop_rounds 40 ?_
   refine rounds_k (fun K10 hK10 => ?_)
   refine wp_seq_k (fun K11 hK11 => ?_)
   refine wp_seq_k (fun K12 hK12 => ?_)
   refine wp_region_lit ?_
   refine wpList_plain rfl (fun Ko hKo => ?_)
   go_simp
   refine hKo _ _ ?_
   clear hKo Ko
   try simp only [Act.put, nm1, nm2, nm3, i64_w]
   refine wpList_plain rfl (fun Ko hKo => ?_)
   go_simp
   refine hKo _ _ ?_
   clear hKo Ko
   try simp only [Act.put, nm1, nm2, nm3, i64_w]
   refine wpList_nil ?_
   (try simp only [Exit.then, Exit.inBlock, ↓reduceIte, Nat.reduceEqDiff])
   refine hK12 _ _ ?_
   refine wp_cond_true rfl ?_
   refine wp_skip ?_
   (try simp only [Exit.then, Exit.inBlock, ↓reduceIte, Nat.reduceEqDiff])
   refine hK11 _ _ ?_
   refine wp_seq_k (fun K13 hK13 => ?_)
   refine wp_block ?_
   refine wp_seq_k (fun K14 hK14 => ?_)
   refine' wp_region_up 7 [Slot.det _, Slot.det _, Slot.det _, Slot.det _, Slot.det _, Slot.det _, Slot.det _] (by kernel_rfl) (by kernel_rfl) ?main
   case main =>
    simp only [List.take_succ_cons, List.take_zero]
    refine wpK_ops rfl (fun w1 hu => ?_) ?_
    · clear hu
      go_simp
      first | done | rfl
    simp only [Act.put, nm1, nm2, nm3, i64_w]
    refine wpK_ops rfl (fun w1 hu => ?_) ?_
    · clear hu
      go_simp
      first | done | rfl
    simp only [Act.put, nm1, nm2, nm3, i64_w]
    refine wpK_ops rfl (fun w1 hu => ?_) ?_
    · have cl0 := ((hb2.up hu7.out).up ((Up.refl _).drew.trans hu)).cell (o := 0) rfl
      go_simp
      first | done | rfl
    simp only [Act.put, nm1, nm2, nm3, i64_w]
    refine wpK_ops rfl (fun w1 hu => ?_) ?_
    · clear hu
      go_simp
      first | done | rfl
    simp only [Act.put, nm1, nm2, nm3, i64_w]
    refine wpK_ops rfl (fun w1 hu => ?_) ?_
    · clear hu
      go_simp
      first | done | rfl
    simp only [Act.put, nm1, nm2, nm3, i64_w]
    refine wpK_ops rfl (fun w1 hu => ?_) ?_
    · have cl0 := (hb5.up ((Up.refl _).drew.trans hu)).cell (o := 0) rfl
      go_simp
      first | done | rfl
    simp only [Act.put, nm1, nm2, nm3, i64_w]
    refine wpK_ops rfl (fun w1 hu => ?_) ?_
    · clear hu
      go_simp
      first | done | rfl
    simp only [Act.put, nm1, nm2, nm3, i64_w]
    refine wpK_nil ?_
    intro w15 hu hap
    simp only [List.drop_succ_cons, List.drop_zero]
    replace hu := (Up.refl _).drew.trans hu
    clear hap
    have hu16 := Aside0.mk hu
    clear hu
    refine wpList_nil ?_
    (try simp only [Exit.then, Exit.inBlock, ↓reduceIte, Nat.reduceEqDiff])
    refine hK14 _ _ ?_
    refine wp_cond_false rfl ?_
    refine wp_skip ?_
    (try simp only [Exit.then, Exit.inBlock, ↓reduceIte, Nat.reduceEqDiff])
    refine hK13 _ _ ?_
    refine wp_region_lit ?_
    refine wpList_plain rfl (fun Ko hKo => ?_)
    go_simp
    refine hKo _ _ ?_
    clear hKo Ko
    try simp only [Act.put, nm1, nm2, nm3, i64_w]
    refine wpList_plain rfl (fun Ko hKo => ?_)
    go_simp
    refine hKo _ _ ?_
    clear hKo Ko
    try simp only [Act.put, nm1, nm2, nm3, i64_w]
    try simp only [show wrap64 1 = 1 from wlit rfl]
    refine wpList_plain rfl (fun Ko hKo => ?_)
    go_simp
    refine hKo _ _ ?_
    clear hKo Ko
    try simp only [Act.put, nm1, nm2, nm3, i64_w]
    refine wpList_nil ?_
    (try simp only [Exit.then, Exit.inBlock, ↓reduceIte, Nat.reduceEqDiff])
    refine hK10 _ _ ?_
    refine rounds_k (fun K18 hK18 => ?_)
    refine wp_seq_k (fun K19 hK19 => ?_)
    refine wp_seq_k (fun K20 hK20 => ?_)
    refine wp_region_lit ?_
    refine wpList_plain rfl (fun Ko hKo => ?_)
    go_simp
    refine hKo _ _ ?_
    clear hKo Ko
    try simp only [Act.put, nm1, nm2, nm3, i64_w]
    refine wpList_plain rfl (fun Ko hKo => ?_)
    go_simp
    refine hKo _ _ ?_
    clear hKo Ko
    try simp only [Act.put, nm1, nm2, nm3, i64_w]
    refine wpList_nil ?_
    (try simp only [Exit.then, Exit.inBlock, ↓reduceIte, Nat.reduceEqDiff])
    refine hK20 _ _ ?_
    refine wp_cond_true rfl ?_
    refine wp_skip ?_
    (try simp only [Exit.then, Exit.inBlock, ↓reduceIte, Nat.reduceEqDiff])
    refine hK19 _ _ ?_
    refine wp_seq_k (fun K21 hK21 => ?_)
    refine wp_block ?_
    refine wp_seq_k (fun K22 hK22 => ?_)
    refine' wp_region_up 7 [Slot.det _, Slot.det _, Slot.det _, Slot.det _, Slot.det _, Slot.det _, Slot.det _] (by kernel_rfl) (by kernel_rfl) ?main
    case main =>
     simp only [List.take_succ_cons, List.take_zero]
     refine wpK_ops rfl (fun w1 hu => ?_) ?_
     · clear hu
       go_simp
       first | done | rfl
     simp only [Act.put, nm1, nm2, nm3, i64_w]
     refine wpK_ops rfl (fun w1 hu => ?_) ?_
     · clear hu
       go_simp
       first | done | rfl
     simp only [Act.put, nm1, nm2, nm3, i64_w]
     refine wpK_ops rfl (fun w1 hu => ?_) ?_
     · have cl0 := ((hb2.up (hu7.out.trans hu16.out)).up ((Up.refl _).drew.trans hu)).cell (o := 1) rfl
       go_simp
       first | done | rfl
     simp only [Act.put, nm1, nm2, nm3, i64_w]
     refine wpK_ops rfl (fun w1 hu => ?_) ?_
     · clear hu
       go_simp
       first | done | rfl
     simp only [Act.put, nm1, nm2, nm3, i64_w]
     refine wpK_ops rfl (fun w1 hu => ?_) ?_
     · clear hu
       go_simp
       first | done | rfl
     simp only [Act.put, nm1, nm2, nm3, i64_w]
     refine wpK_ops rfl (fun w1 hu => ?_) ?_
     · have cl0 := ((hb5.up hu16.out).up ((Up.refl _).drew.trans hu)).cell (o := 1) rfl
       go_simp
       first | done | rfl
     simp only [Act.put, nm1, nm2, nm3, i64_w]
     refine wpK_ops rfl (fun w1 hu => ?_) ?_
     · clear hu
       go_simp
       first | done | rfl
     simp only [Act.put, nm1, nm2, nm3, i64_w]
     refine wpK_nil ?_
     intro w23 hu hap
     simp only [List.drop_succ_cons, List.drop_zero]
     replace hu := (Up.refl _).drew.trans hu
     clear hap
     have hu24 := Aside0.mk hu
     clear hu
     refine wpList_nil ?_
     (try simp only [Exit.then, Exit.inBlock, ↓reduceIte, Nat.reduceEqDiff])
     refine hK22 _ _ ?_
     refine wp_cond_false rfl ?_
     refine wp_skip ?_
     (try simp only [Exit.then, Exit.inBlock, ↓reduceIte, Nat.reduceEqDiff])
     refine hK21 _ _ ?_
     refine wp_region_lit ?_
     refine wpList_plain rfl (fun Ko hKo => ?_)
     go_simp
     refine hKo _ _ ?_
     clear hKo Ko
     try simp only [Act.put, nm1, nm2, nm3, i64_w]
     refine wpList_plain rfl (fun Ko hKo => ?_)
     go_simp
     refine hKo _ _ ?_
     clear hKo Ko
     try simp only [Act.put, nm1, nm2, nm3, i64_w]
     try simp only [show wrap64 2 = 2 from wlit rfl]
     refine wpList_plain rfl (fun Ko hKo => ?_)
     go_simp
     refine hKo _ _ ?_
     clear hKo Ko
     try simp only [Act.put, nm1, nm2, nm3, i64_w]
     refine wpList_nil ?_
     (try simp only [Exit.then, Exit.inBlock, ↓reduceIte, Nat.reduceEqDiff])
     refine hK18 _ _ ?_
     refine rounds_k (fun K26 hK26 => ?_)
     refine wp_seq_k (fun K27 hK27 => ?_)
     refine wp_seq_k (fun K28 hK28 => ?_)
     refine wp_region_lit ?_
     refine wpList_plain rfl (fun Ko hKo => ?_)
     go_simp
     refine hKo _ _ ?_
     clear hKo Ko
     try simp only [Act.put, nm1, nm2, nm3, i64_w]
     refine wpList_plain rfl (fun Ko hKo => ?_)
     go_simp
     refine hKo _ _ ?_
     clear hKo Ko
     try simp only [Act.put, nm1, nm2, nm3, i64_w]
     refine wpList_nil ?_
     (try simp only [Exit.then, Exit.inBlock, ↓reduceIte, Nat.reduceEqDiff])
     refine hK28 _ _ ?_
     refine wp_cond_false rfl ?_
     refine wp_exit ?_
     (try simp only [Exit.then, Exit.inBlock, ↓reduceIte, Nat.reduceEqDiff])
     refine hK8 _ _ ?_
     refine wp_seq_k (fun K29 hK29 => ?_)
     refine wp_region_lit ?_
     refine wpList_plain rfl (fun Ko hKo => ?_)
     go_simp
     refine hKo _ _ ?_
     clear hKo Ko
     try simp only [Act.put, nm1, nm2, nm3, i64_w]
     refine wpList_nil ?_
     (try simp only [Exit.then, Exit.inBlock, ↓reduceIte, Nat.reduceEqDiff])
     refine hK29 _ _ ?_
     refine wp_ret ?_
     (try simp only [Exit.then, Exit.inBlock, ↓reduceIte, Nat.reduceEqDiff])
     refine hQf _ _ _ ?_
     exact bodyPost_ret (v := .bool true) (by first | rfl | (simp [results, Try.results18, go_sem]; done) | (simp [results, Try.results18, go_sem]; rfl)) rfl ⟨rfl, (((hu4.out.trans hu7.out).trans hu16.out).trans hu24.out)⟩
  ·
   rw [if_neg c25] at H
   replace c25 := Bool.eq_false_iff.mpr c25
   have c25n : (a0_1 != a1_1) = true := by rw [bne, c25]; rfl
   have c25p : ¬ a0_1 = a1_1 := fun e => by simp [e] at c25
   obtain rfl := Option.some.inj H
   go_enter Try.func18, Try.ntmps18
   refine wp_hide (fun Qf hQf => ?_)
   refine wp_seq_k (fun K1 hK1 => ?_)
   refine wp_region_lit ?_
   refine step_new (cs := [.int .i64 a0_0, .int .i64 a0_1]) (T := 25) (f := fun b => .pointer (some ⟨b, 0, none⟩)) rfl (by first | (go_simp; done) | (go_simp; rfl)) ?_
   intro b2 w3 hu lb hb2
   simp only [Act.put, nm1, nm2, nm3, i64_w]
   have lbb2 := Aside0.mk lb
   have ltb2 := Aside0.mk hb2.lt
   clear lb
   have hu4 := Aside0.mk hu
   clear hu
   refine step_new (cs := [.int .i64 a1_0, .int .i64 a1_1]) (T := 25) (f := fun b => .pointer (some ⟨b, 0, none⟩)) rfl (by first | (go_simp; done) | (go_simp; rfl)) ?_
   intro b5 w6 hu lb hb5
   simp only [Act.put, nm1, nm2, nm3, i64_w]
   have lbb5 := Aside0.mk lb
   have ltb5 := Aside0.mk hb5.lt
   clear lb
   have hu7 := Aside0.mk hu
   clear hu
   refine wpList_plain rfl (fun Ko hKo => ?_)
   go_simp
   refine hKo _ _ ?_
   clear hKo Ko
   try simp only [Act.put, nm1, nm2, nm3, i64_w]
   refine wpList_nil ?_
   (try simp only [Exit.then, Exit.inBlock, ↓reduceIte, Nat.reduceEqDiff])
   refine hK1 _ _ ?_
   refine wp_seq_k (fun K8 hK8 => ?_)
   refine wp_seq_k (fun K9 hK9 => ?_)
   refine wp_region_lit ?_
   refine wpList_plain rfl (fun Ko hKo => ?_)
   go_simp
   refine hKo _ _ ?_
   clear hKo Ko
   try simp only [Act.put, nm1, nm2, nm3, i64_w]
   refine wpList_nil ?_
   (try simp only [Exit.then, Exit.inBlock, ↓reduceIte, Nat.reduceEqDiff])
   refine hK9 _ _ ?_
   refine wp_block ?_
   refine wp_loop_rounds 40 ?_
   refine rounds_k (fun K10 hK10 => ?_)
   refine wp_seq_k (fun K11 hK11 => ?_)
   refine wp_seq_k (fun K12 hK12 => ?_)
   refine wp_region_lit ?_
   refine wpList_plain rfl (fun Ko hKo => ?_)
   go_simp
   refine hKo _ _ ?_
   clear hKo Ko
   try simp only [Act.put, nm1, nm2, nm3, i64_w]
   refine wpList_plain rfl (fun Ko hKo => ?_)
   go_simp
   refine hKo _ _ ?_
   clear hKo Ko
   try simp only [Act.put, nm1, nm2, nm3, i64_w]
   refine wpList_nil ?_
   (try simp only [Exit.then, Exit.inBlock, ↓reduceIte, Nat.reduceEqDiff])
   refine hK12 _ _ ?_
   refine wp_cond_true rfl ?_
   refine wp_skip ?_
   (try simp only [Exit.then, Exit.inBlock, ↓reduceIte, Nat.reduceEqDiff])
   refine hK11 _ _ ?_
   refine wp_seq_k (fun K13 hK13 => ?_)
   refine wp_block ?_
   refine wp_seq_k (fun K14 hK14 => ?_)
   refine' wp_region_up 7 [Slot.det _, Slot.det _, Slot.det _, Slot.det _, Slot.det _, Slot.det _, Slot.det _] (by kernel_rfl) (by kernel_rfl) ?main
   case main =>
    simp only [List.take_succ_cons, List.take_zero]
    refine wpK_ops rfl (fun w1 hu => ?_) ?_
    · clear hu
      go_simp
      first | done | rfl
    simp only [Act.put, nm1, nm2, nm3, i64_w]
    refine wpK_ops rfl (fun w1 hu => ?_) ?_
    · clear hu
      go_simp
      first | done | rfl
    simp only [Act.put, nm1, nm2, nm3, i64_w]
    refine wpK_ops rfl (fun w1 hu => ?_) ?_
    · have cl0 := ((hb2.up hu7.out).up ((Up.refl _).drew.trans hu)).cell (o := 0) rfl
      go_simp
      first | done | rfl
    simp only [Act.put, nm1, nm2, nm3, i64_w]
    refine wpK_ops rfl (fun w1 hu => ?_) ?_
    · clear hu
      go_simp
      first | done | rfl
    simp only [Act.put, nm1, nm2, nm3, i64_w]
    refine wpK_ops rfl (fun w1 hu => ?_) ?_
    · clear hu
      go_simp
      first | done | rfl
    simp only [Act.put, nm1, nm2, nm3, i64_w]
    refine wpK_ops rfl (fun w1 hu => ?_) ?_
    · have cl0 := (hb5.up ((Up.refl _).drew.trans hu)).cell (o := 0) rfl
      go_simp
      first | done | rfl
    simp only [Act.put, nm1, nm2, nm3, i64_w]
    refine wpK_ops rfl (fun w1 hu => ?_) ?_
    · clear hu
      go_simp
      first | done | rfl
    simp only [Act.put, nm1, nm2, nm3, i64_w]
    refine wpK_nil ?_
    intro w15 hu hap
    simp only [List.drop_succ_cons, List.drop_zero]
    replace hu := (Up.refl _).drew.trans hu
    clear hap
    have hu16 := Aside0.mk hu
    clear hu
    refine wpList_nil ?_
    (try simp only [Exit.then, Exit.inBlock, ↓reduceIte, Nat.reduceEqDiff])
    refine hK14 _ _ ?_
    refine wp_cond_false rfl ?_
    refine wp_skip ?_
    (try simp only [Exit.then, Exit.inBlock, ↓reduceIte, Nat.reduceEqDiff])
    refine hK13 _ _ ?_
    refine wp_region_lit ?_
    refine wpList_plain rfl (fun Ko hKo => ?_)
    go_simp
    refine hKo _ _ ?_
    clear hKo Ko
    try simp only [Act.put, nm1, nm2, nm3, i64_w]
    refine wpList_plain rfl (fun Ko hKo => ?_)
    go_simp
    refine hKo _ _ ?_
    clear hKo Ko
    try simp only [Act.put, nm1, nm2, nm3, i64_w]
    try simp only [show wrap64 1 = 1 from wlit rfl]
    refine wpList_plain rfl (fun Ko hKo => ?_)
    go_simp
    refine hKo _ _ ?_
    clear hKo Ko
    try simp only [Act.put, nm1, nm2, nm3, i64_w]
    refine wpList_nil ?_
    (try simp only [Exit.then, Exit.inBlock, ↓reduceIte, Nat.reduceEqDiff])
    refine hK10 _ _ ?_
    refine rounds_k (fun K18 hK18 => ?_)
    refine wp_seq_k (fun K19 hK19 => ?_)
    refine wp_seq_k (fun K20 hK20 => ?_)
    refine wp_region_lit ?_
    refine wpList_plain rfl (fun Ko hKo => ?_)
    go_simp
    refine hKo _ _ ?_
    clear hKo Ko
    try simp only [Act.put, nm1, nm2, nm3, i64_w]
    refine wpList_plain rfl (fun Ko hKo => ?_)
    go_simp
    refine hKo _ _ ?_
    clear hKo Ko
    try simp only [Act.put, nm1, nm2, nm3, i64_w]
    refine wpList_nil ?_
    (try simp only [Exit.then, Exit.inBlock, ↓reduceIte, Nat.reduceEqDiff])
    refine hK20 _ _ ?_
    refine wp_cond_true rfl ?_
    refine wp_skip ?_
    (try simp only [Exit.then, Exit.inBlock, ↓reduceIte, Nat.reduceEqDiff])
    refine hK19 _ _ ?_
    refine wp_seq_k (fun K21 hK21 => ?_)
    refine wp_block ?_
    refine wp_seq_k (fun K22 hK22 => ?_)
    refine' wp_region_up 7 [Slot.det _, Slot.det _, Slot.det _, Slot.det _, Slot.det _, Slot.det _, Slot.det _] (by kernel_rfl) (by kernel_rfl) ?main
    case main =>
     simp only [List.take_succ_cons, List.take_zero]
     refine wpK_ops rfl (fun w1 hu => ?_) ?_
     · clear hu
       go_simp
       first | done | rfl
     simp only [Act.put, nm1, nm2, nm3, i64_w]
     refine wpK_ops rfl (fun w1 hu => ?_) ?_
     · clear hu
       go_simp
       first | done | rfl
     simp only [Act.put, nm1, nm2, nm3, i64_w]
     refine wpK_ops rfl (fun w1 hu => ?_) ?_
     · have cl0 := ((hb2.up (hu7.out.trans hu16.out)).up ((Up.refl _).drew.trans hu)).cell (o := 1) rfl
       go_simp
       first | done | rfl
     simp only [Act.put, nm1, nm2, nm3, i64_w]
     refine wpK_ops rfl (fun w1 hu => ?_) ?_
     · clear hu
       go_simp
       first | done | rfl
     simp only [Act.put, nm1, nm2, nm3, i64_w]
     refine wpK_ops rfl (fun w1 hu => ?_) ?_
     · clear hu
       go_simp
       first | done | rfl
     simp only [Act.put, nm1, nm2, nm3, i64_w]
     refine wpK_ops rfl (fun w1 hu => ?_) ?_
     · have cl0 := ((hb5.up hu16.out).up ((Up.refl _).drew.trans hu)).cell (o := 1) rfl
       go_simp
       first | done | rfl
     simp only [Act.put, nm1, nm2, nm3, i64_w]
     refine wpK_ops rfl (fun w1 hu => ?_) ?_
     · clear hu
       go_simp
       first | done | rfl
     simp only [Act.put, nm1, nm2, nm3, i64_w]
     refine wpK_nil ?_
     intro w23 hu hap
     simp only [List.drop_succ_cons, List.drop_zero]
     replace hu := (Up.refl _).drew.trans hu
     clear hap
     have hu24 := Aside0.mk hu
     clear hu
     refine wpList_nil ?_
     (try simp only [Exit.then, Exit.inBlock, ↓reduceIte, Nat.reduceEqDiff])
     refine hK22 _ _ ?_
     refine wp_cond_true rfl ?_
     refine wp_seq_k (fun K30 hK30 => ?_)
     refine wp_region_lit ?_
     refine wpList_plain rfl (fun Ko hKo => ?_)
     go_simp
     refine hKo _ _ ?_
     clear hKo Ko
     try simp only [Act.put, nm1, nm2, nm3, i64_w]
     refine wpList_nil ?_
     (try simp only [Exit.then, Exit.inBlock, ↓reduceIte, Nat.reduceEqDiff])
     refine hK30 _ _ ?_
     refine wp_ret ?_
     (try simp only [Exit.then, Exit.inBlock, ↓reduceIte, Nat.reduceEqDiff])
     refine hQf _ _ _ ?_
     exact bodyPost_ret (v := .bool false) (by first | rfl | (simp [results, Try.results18, go_sem]; done) | (simp [results, Try.results18, go_sem]; rfl)) rfl ⟨rfl, (((hu4.out.trans hu7.out).trans hu16.out).trans hu24.out)⟩
 ·
  rw [if_neg c17] at H
  replace c17 := Bool.eq_false_iff.mpr c17
  have c17n : (a0_0 != a1_0) = true := by rw [bne, c17]; rfl
  have c17p : ¬ a0_0 = a1_0 := fun e => by simp [e] at c17
  obtain rfl := Option.some.inj H
  go_enter Try.func18, Try.ntmps18
  refine wp_hide (fun Qf hQf => ?_)
  refine wp_seq_k (fun K1 hK1 => ?_)
  refine wp_region_lit ?_
  refine step_new (cs := [.int .i64 a0_0, .int .i64 a0_1]) (T := 25) (f := fun b => .pointer (some ⟨b, 0, none⟩)) rfl (by first | (go_simp; done) | (go_simp; rfl)) ?_
  intro b2 w3 hu lb hb2
  simp only [Act.put, nm1, nm2, nm3, i64_w]
  have lbb2 := Aside0.mk lb
  have ltb2 := Aside0.mk hb2.lt
  clear lb
  have hu4 := Aside0.mk hu
  clear hu
  refine step_new (cs := [.int .i64 a1_0, .int .i64 a1_1]) (T := 25) (f := fun b => .pointer (some ⟨b, 0, none⟩)) rfl (by first | (go_simp; done) | (go_simp; rfl)) ?_
  intro b5 w6 hu lb hb5
  simp only [Act.put, nm1, nm2, nm3, i64_w]
  have lbb5 := Aside0.mk lb
  have ltb5 := Aside0.mk hb5.lt
  clear lb
  have hu7 := Aside0.mk hu
  clear hu
  refine wpList_plain rfl (fun Ko hKo => ?_)
  go_simp
  refine hKo _ _ ?_
  clear hKo Ko
  try simp only [Act.put, nm1, nm2, nm3, i64_w]
  refine wpList_nil ?_
  (try simp only [Exit.then, Exit.inBlock, ↓reduceIte, Nat.reduceEqDiff])
  refine hK1 _ _ ?_
  refine wp_seq_k (fun K8 hK8 => ?_)
  refine wp_seq_k (fun K9 hK9 => ?_)
  refine wp_region_lit ?_
  refine wpList_plain rfl (fun Ko hKo => ?_)
  go_simp
  refine hKo _ _ ?_
  clear hKo Ko
  try simp only [Act.put, nm1, nm2, nm3, i64_w]
  refine wpList_nil ?_
  (try simp only [Exit.then, Exit.inBlock, ↓reduceIte, Nat.reduceEqDiff])
  refine hK9 _ _ ?_
  refine wp_block ?_
  refine wp_loop_rounds 40 ?_
  refine rounds_k (fun K10 hK10 => ?_)
  refine wp_seq_k (fun K11 hK11 => ?_)
  refine wp_seq_k (fun K12 hK12 => ?_)
  refine wp_region_lit ?_
  refine wpList_plain rfl (fun Ko hKo => ?_)
  go_simp
  refine hKo _ _ ?_
  clear hKo Ko
  try simp only [Act.put, nm1, nm2, nm3, i64_w]
  refine wpList_plain rfl (fun Ko hKo => ?_)
  go_simp
  refine hKo _ _ ?_
  clear hKo Ko
  try simp only [Act.put, nm1, nm2, nm3, i64_w]
  refine wpList_nil ?_
  (try simp only [Exit.then, Exit.inBlock, ↓reduceIte, Nat.reduceEqDiff])
  refine hK12 _ _ ?_
  refine wp_cond_true rfl ?_
  refine wp_skip ?_
  (try simp only [Exit.then, Exit.inBlock, ↓reduceIte, Nat.reduceEqDiff])
  refine hK11 _ _ ?_
  refine wp_seq_k (fun K13 hK13 => ?_)
  refine wp_block ?_
  refine wp_seq_k (fun K14 hK14 => ?_)
  refine' wp_region_up 7 [Slot.det _, Slot.det _, Slot.det _, Slot.det _, Slot.det _, Slot.det _, Slot.det _] (by kernel_rfl) (by kernel_rfl) ?main
  case main =>
   simp only [List.take_succ_cons, List.take_zero]
   refine wpK_ops rfl (fun w1 hu => ?_) ?_
   · clear hu
     go_simp
     first | done | rfl
   simp only [Act.put, nm1, nm2, nm3, i64_w]
   refine wpK_ops rfl (fun w1 hu => ?_) ?_
   · clear hu
     go_simp
     first | done | rfl
   simp only [Act.put, nm1, nm2, nm3, i64_w]
   refine wpK_ops rfl (fun w1 hu => ?_) ?_
   · have cl0 := ((hb2.up hu7.out).up ((Up.refl _).drew.trans hu)).cell (o := 0) rfl
     go_simp
     first | done | rfl
   simp only [Act.put, nm1, nm2, nm3, i64_w]
   refine wpK_ops rfl (fun w1 hu => ?_) ?_
   · clear hu
     go_simp
     first | done | rfl
   simp only [Act.put, nm1, nm2, nm3, i64_w]
   refine wpK_ops rfl (fun w1 hu => ?_) ?_
   · clear hu
     go_simp
     first | done | rfl
   simp only [Act.put, nm1, nm2, nm3, i64_w]
   refine wpK_ops rfl (fun w1 hu => ?_) ?_
   · have cl0 := (hb5.up ((Up.refl _).drew.trans hu)).cell (o := 0) rfl
     go_simp
     first | done | rfl
   simp only [Act.put, nm1, nm2, nm3, i64_w]
   refine wpK_ops rfl (fun w1 hu => ?_) ?_
   · clear hu
     go_simp
     first | done | rfl
   simp only [Act.put, nm1, nm2, nm3, i64_w]
   refine wpK_nil ?_
   intro w15 hu hap
   simp only [List.drop_succ_cons, List.drop_zero]
   replace hu := (Up.refl _).drew.trans hu
   clear hap
   have hu16 := Aside0.mk hu
   clear hu
   refine wpList_nil ?_
   (try simp only [Exit.then, Exit.inBlock, ↓reduceIte, Nat.reduceEqDiff])
   refine hK14 _ _ ?_
   refine wp_cond_true rfl ?_
   refine wp_seq_k (fun K31 hK31 => ?_)
   refine wp_region_lit ?_
   refine wpList_plain rfl (fun Ko hKo => ?_)
   go_simp
   refine hKo _ _ ?_
   clear hKo Ko
   try simp only [Act.put, nm1, nm2, nm3, i64_w]
   refine wpList_nil ?_
   (try simp only [Exit.then, Exit.inBlock, ↓reduceIte, Nat.reduceEqDiff])
   refine hK31 _ _ ?_
   refine wp_ret ?_
   (try simp only [Exit.then, Exit.inBlock, ↓reduceIte, Nat.reduceEqDiff])
   refine hQf _ _ _ ?_
   exact bodyPost_ret (v := .bool false) (by first | rfl | (simp [results, Try.results18, go_sem]; done) | (simp [results, Try.results18, go_sem]; rfl)) rfl ⟨rfl, ((hu4.out.trans hu7.out).trans hu16.out)⟩

set_option maxHeartbeats 4000000 in
set_option maxRecDepth 100000 in
theorem laws_eqPointS.calls (K : Nat) (a0_A : Option Addr) (a0_c : Nat) (a0 : List (Int × Int)) (a1_A : Option Addr) (a1_c : Nat) (a1 : List (Int × Int)) (r0 : Bool) (w : World) (ha0 : Rd e2 w a0_A a0) (ha1 : Rd e2 w a1_A a1) (h : laws_eqPointS.f K a0 a1 = some (r0)) :
    Calls Try.prog 39 #[.slice a0_A a0.length a0_c, .slice a1_A a1.length a1_c] w fun e w' => e = .returned (.bool r0) ∧ Up w w' := by
 have H : ((if ((a0.length : Int) == (a1.length : Int)) = true then (laws_eqPointS.l0 K a0 a1 K 0) else some false) : Option (Bool)) = some (r0) := h
 clear h
 by_cases c4 : ((a0.length : Int) == (a1.length : Int)) = true
 ·
  rw [if_pos c4] at H
  have c4n : ((a0.length : Int) != (a1.length : Int)) = false := by rw [bne, c4]; rfl
  go_enter Try.func39, Try.ntmps39
  refine wp_hide (fun Qf hQf => ?_)
  refine wp_seq_k (fun K1 hK1 => ?_)
  refine wp_region_lit ?_
  refine wpList_plain rfl (fun Ko hKo => ?_)
  go_simp
  refine hKo _ _ ?_
  clear hKo Ko
  try simp only [Act.put, nm1, nm2, nm3, i64_w]
  refine wpList_nil ?_
  (try simp only [Exit.then, Exit.inBlock, ↓reduceIte, Nat.reduceEqDiff])
  refine hK1 _ _ ?_
  refine wp_seq_k (fun K2 hK2 => ?_)
  refine wp_seq_k (fun K3 hK3 => ?_)
  refine wp_region_lit ?_
  refine wpList_plain rfl (fun Ko hKo => ?_)
  go_simp
  refine hKo _ _ ?_
  clear hKo Ko
  try simp only [Act.put, nm1, nm2, nm3, i64_w]
  refine wpList_plain rfl (fun Ko hKo => ?_)
  go_simp
  refine hKo _ _ ?_
  clear hKo Ko
  try simp only [Act.put, nm1, nm2, nm3, i64_w]
  refine wpList_plain rfl (fun Ko hKo => ?_)
  go_simp
  refine hKo _ _ ?_
  clear hKo Ko
  try simp only [Act.put, nm1, nm2, nm3, i64_w]
  refine wpList_plain rfl (fun Ko hKo => ?_)
  go_simp
  refine hKo _ _ ?_
  clear hKo Ko
  try simp only [Act.put, nm1, nm2, nm3, i64_w]
  refine wpList_plain rfl (fun Ko hKo => ?_)
  go_simp
  refine hKo _ _ ?_
  clear hKo Ko
  try simp only [Act.put, nm1, nm2, nm3, i64_w]
  refine wpList_nil ?_
  (try simp only [Exit.then, Exit.inBlock, ↓reduceIte, Nat.reduceEqDiff])
  refine hK3 _ _ ?_
  refine wp_cond_false rfl ?_
  refine wp_skip ?_
  (try simp only [Exit.then, Exit.inBlock, ↓reduceIte, Nat.reduceEqDiff])
  refine hK2 _ _ ?_
  refine wp_seq_k (fun K5 hK5 => ?_)
  refine wp_seq_k (fun K6 hK6 => ?_)
  refine wp_region_lit ?_
  refine wpList_plain rfl (fun Ko hKo => ?_)
  go_simp
  refine hKo _ _ ?_
  clear hKo Ko
  try simp only [Act.put, nm1, nm2, nm3, i64_w]
  refine wpList_nil ?_
  (try simp only [Exit.then, Exit.inBlock, ↓reduceIte, Nat.reduceEqDiff])
  refine hK6 _ _ ?_
  refine wp_block ?_
  have HL11 := Aside0.mk H
  clear H
  go_loopg [5] K (fun kq v5 w' => ∃ (x7 : Int), v5 = .int .i64 x7 ∧ Aside0 (laws_eqPointS.l0 K a0 a1 kq x7 = some (r0)) ∧ Aside0 (kq ≤ K) ∧ Aside0 (Up w w') ∧ Aside0 (w.heap.size ≤ w'.heap.size))
  case atStart => exact ⟨0, (by first | rfl | simp), HL11, ⟨Nat.le_refl _⟩, ⟨(Up.refl _)⟩, ⟨Nat.le_refl _⟩⟩
  case round =>
   rename_i J15 K16 hJ15 hK16
   obtain ⟨x7, rfl, HL14, hk13, hu9, hz10⟩ := hrel
   obtain ⟨w8, rfl⟩ : ∃ wo : World, wo = wr := ⟨_, rfl⟩
   obtain ⟨k12, rfl⟩ | rfl : (∃ k, gk = k + 1) ∨ gk = 0 := by rcases gk with _ | k; exact .inr rfl; exact .inl ⟨k, rfl⟩
   case inr => exact absurd HL14.out (by simp [laws_eqPointS.l0])
   have H := HL14.out
   clear HL14
   rw [laws_eqPointS.l0] at H
   by_cases c19 : (decide (x7 < (a0.length : Int))) = true
   ·
    rw [if_pos c19] at H
    replace H := Option.bind_eq_some_iff.mp H
    obtain ⟨⟨t22, t23⟩, A24, H⟩ := H
    replace A24 := Aside0.mk A24
    try dsimp only at H
    replace H := Option.bind_eq_some_iff.mp H
    obtain ⟨⟨t29, t30⟩, A31, H⟩ := H
    replace A31 := Aside0.mk A31
    try dsimp only at H
    replace H := Option.bind_eq_some_iff.mp H
    obtain ⟨t36, A37, H⟩ := H
    replace A37 := Aside0.mk A37
    try dsimp only at H
    by_cases c40 : (t36) = true
    ·
     rw [if_pos c40] at H
     subst c40
     have HL41 := Aside0.mk H
     clear H
     refine wp_seq_k (fun K17 hK17 => ?_)
     refine wp_seq_k (fun K18 hK18 => ?_)
     refine wp_region_lit ?_
     refine wpList_plain rfl (fun Ko hKo => ?_)
     go_simp
     refine hKo _ _ ?_
     clear hKo Ko
     try simp only [Act.put, nm1, nm2, nm3, i64_w]
     refine wpList_plain rfl (fun Ko hKo => ?_)
     go_simp
     refine hKo _ _ ?_
     clear hKo Ko
     try simp only [Act.put, nm1, nm2, nm3, i64_w]
     refine wpList_plain rfl (fun Ko hKo => ?_)
     go_simp
     refine hKo _ _ ?_
     clear hKo Ko
     try simp only [Act.put, nm1, nm2, nm3, i64_w]
     refine wpList_plain rfl (fun Ko hKo => ?_)
     go_simp
     refine hKo _ _ ?_
     clear hKo Ko
     try simp only [Act.put, nm1, nm2, nm3, i64_w]
     refine wpList_nil ?_
     (try simp only [Exit.then, Exit.inBlock, ↓reduceIte, Nat.reduceEqDiff])
     refine hK18 _ _ ?_
     refine wp_cond_true rfl ?_
     refine wp_skip ?_
     (try simp only [Exit.then, Exit.inBlock, ↓reduceIte, Nat.reduceEqDiff])
     refine hK17 _ _ ?_
     refine wp_seq_k (fun K20 hK20 => ?_)
     refine wp_block ?_
     refine wp_seq_k (fun K21 hK21 => ?_)
     obtain ⟨ad25, hat, he⟩ := rd_at (ha0.up hu9.out) A24.out
     have he26 := Aside0.mk he
     have hat28 := Aside0.mk hat
     clear he hat
     obtain ⟨ad32, hat, he⟩ := rd_at (ha1.up hu9.out) A31.out
     have he33 := Aside0.mk he
     have hat35 := Aside0.mk hat
     clear he hat
     refine' wp_region_up 10 [Slot.det _, Slot.det _, Slot.det (.pointer (some ad25)), Slot.det _, Slot.det _, Slot.det _, Slot.det (.pointer (some ad32)), Slot.det _, Slot.det (.bool true), Slot.det _] (by kernel_rfl) (by kernel_rfl) ?main
     case main =>
      simp only [List.take_succ_cons, List.take_zero]
      refine wpK_ops rfl (fun w1 hu => ?_) ?_
      · clear hu
        go_simp
        first | done | rfl
      simp only [Act.put, nm1, nm2, nm3, i64_w]
      refine wpK_ops rfl (fun w1 hu => ?_) ?_
      · clear hu
        go_simp
        first | done | rfl
      simp only [Act.put, nm1, nm2, nm3, i64_w]
      refine wpK_ops rfl (fun w1 hu => ?_) ?_
      · exact quiet_index e2 (T := 25) rfl (by kernel_rfl) (by kernel_rfl) rfl rfl rfl hat28.out A24.out
      simp only [Act.put, nm1, nm2, nm3, i64_w]
      refine wpK_ops rfl (fun w1 hu => ?_) ?_
      · have cl0 := he26.out 0 _ rfl
        rw [addr_add0] at cl0
        replace cl0 := (((Up.refl _).drew.trans hu)).kept cl0
        have cl1 : World.cell? _ ⟨ad25.block, ad25.off + 1, none⟩ = some _ := he26.out 1 _ rfl
        replace cl1 := (((Up.refl _).drew.trans hu)).kept cl1
        go_simp
        first | done | rfl
      simp only [Act.put, nm1, nm2, nm3, i64_w]
      refine wpK_ops rfl (fun w1 hu => ?_) ?_
      · clear hu
        go_simp
        first | done | rfl
      simp only [Act.put, nm1, nm2, nm3, i64_w]
      refine wpK_ops rfl (fun w1 hu => ?_) ?_
      · clear hu
        go_simp
        first | done | rfl
      simp only [Act.put, nm1, nm2, nm3, i64_w]
      refine wpK_ops rfl (fun w1 hu => ?_) ?_
      · exact quiet_index e2 (T := 25) rfl (by kernel_rfl) (by kernel_rfl) rfl rfl rfl hat35.out A31.out
      simp only [Act.put, nm1, nm2, nm3, i64_w]
      refine wpK_ops rfl (fun w1 hu => ?_) ?_
      · have cl0 := he33.out 0 _ rfl
        rw [addr_add0] at cl0
        replace cl0 := (((Up.refl _).drew.trans hu)).kept cl0
        have cl1 : World.cell? _ ⟨ad32.block, ad32.off + 1, none⟩ = some _ := he33.out 1 _ rfl
        replace cl1 := (((Up.refl _).drew.trans hu)).kept cl1
        go_simp
        first | done | rfl
      simp only [Act.put, nm1, nm2, nm3, i64_w]
      refine wpK_ops rfl (fun w1 hu => ?_) ?_
      · have hcl := (laws_eqPoint.calls K t22 t23 t29 t30 true w1  A37.out)
        clear hu
        replace hcl := Aside0.mk hcl
        go_simp
        exact hcl.out
      simp only [Act.put, nm1, nm2, nm3, i64_w]
      refine wpK_ops rfl (fun w1 hu => ?_) ?_
      · clear hu
        go_simp
        first | done | rfl
      simp only [Act.put, nm1, nm2, nm3, i64_w]
      refine wpK_nil ?_
      intro w38 hu hap
      simp only [List.drop_succ_cons, List.drop_zero]
      replace hu := (Up.refl _).drew.trans hu
      clear hap
      have hu39 := Aside0.mk hu
      clear hu
      refine wpList_nil ?_
      (try simp only [Exit.then, Exit.inBlock, ↓reduceIte, Nat.reduceEqDiff])
      refine hK21 _ _ ?_
      refine wp_cond_false rfl ?_
      refine wp_skip ?_
      (try simp only [Exit.then, Exit.inBlock, ↓reduceIte, Nat.reduceEqDiff])
      refine hK20 _ _ ?_
      refine wp_region_lit ?_
      refine wpList_plain rfl (fun Ko hKo => ?_)
      go_simp
      refine hKo _ _ ?_
      clear hKo Ko
      try simp only [Act.put, nm1, nm2, nm3, i64_w]
      refine wpList_plain rfl (fun Ko hKo => ?_)
      go_simp
      refine hKo _ _ ?_
      clear hKo Ko
      try simp only [Act.put, nm1, nm2, nm3, i64_w]
      refine wpList_plain rfl (fun Ko hKo => ?_)
      go_simp
      refine hKo _ _ ?_
      clear hKo Ko
      try simp only [Act.put, nm1, nm2, nm3, i64_w]
      refine wpList_nil ?_
      (try simp only [Exit.then, Exit.inBlock, ↓reduceIte, Nat.reduceEqDiff])
      refine hK16 _ _ ?_
      go_roundg k12
      case measure => exact Nat.lt_succ_self _
      case rel => exact ⟨wrap64 (x7 + 1), (by first | rfl | simp), HL41, ⟨by have := hk13.out; omega⟩, ⟨(hu9.out.trans hu39.out)⟩, ⟨(Nat.le_trans ((Nat.le_trans (Nat.le_refl _) hz10.out)) hu39.out.size)⟩⟩
    ·
     rw [if_neg c40] at H
     replace c40 := Bool.eq_false_iff.mpr c40
     subst c40
     obtain rfl := Option.some.inj H
     refine wp_seq_k (fun K17 hK17 => ?_)
     refine wp_seq_k (fun K18 hK18 => ?_)
     refine wp_region_lit ?_
     refine wpList_plain rfl (fun Ko hKo => ?_)
     go_simp
     refine hKo _ _ ?_
     clear hKo Ko
     try simp only [Act.put, nm1, nm2, nm3, i64_w]
     refine wpList_plain rfl (fun Ko hKo => ?_)
     go_simp
     refine hKo _ _ ?_
     clear hKo Ko
     try simp only [Act.put, nm1, nm2, nm3, i64_w]
     refine wpList_plain rfl (fun Ko hKo => ?_)
     go_simp
     refine hKo _ _ ?_
     clear hKo Ko
     try simp only [Act.put, nm1, nm2, nm3, i64_w]
     refine wpList_plain rfl (fun Ko hKo => ?_)
     go_simp
     refine hKo _ _ ?_
     clear hKo Ko
     try simp only [Act.put, nm1, nm2, nm3, i64_w]
     refine wpList_nil ?_
     (try simp only [Exit.then, Exit.inBlock, ↓reduceIte, Nat.reduceEqDiff])
     refine hK18 _ _ ?_
     refine wp_cond_true rfl ?_
     refine wp_skip ?_
     (try simp only [Exit.then, Exit.inBlock, ↓reduceIte, Nat.reduceEqDiff])
     refine hK17 _ _ ?_
     refine wp_seq_k (fun K20 hK20 => ?_)
     refine wp_block ?_
     refine wp_seq_k (fun K21 hK21 => ?_)
     obtain ⟨ad25, hat, he⟩ := rd_at (ha0.up hu9.out) A24.out
     have he26 := Aside0.mk he
     have hat28 := Aside0.mk hat
     clear he hat
     obtain ⟨ad32, hat, he⟩ := rd_at (ha1.up hu9.out) A31.out
     have he33 := Aside0.mk he
     have hat35 := Aside0.mk hat
     clear he hat
     refine' wp_region_up 10 [Slot.det _, Slot.det _, Slot.det (.pointer (some ad25)), Slot.det _, Slot.det _, Slot.det _, Slot.det (.pointer (some ad32)), Slot.det _, Slot.det (.bool false), Slot.det _] (by kernel_rfl) (by kernel_rfl) ?main
     case main =>
      simp only [List.take_succ_cons, List.take_zero]
      refine wpK_ops rfl (fun w1 hu => ?_) ?_
      · clear hu
        go_simp
        first | done | rfl
      simp only [Act.put, nm1, nm2, nm3, i64_w]
      refine wpK_ops rfl (fun w1 hu => ?_) ?_
      · clear hu
        go_simp
        first | done | rfl
      simp only [Act.put, nm1, nm2, nm3, i64_w]
      refine wpK_ops rfl (fun w1 hu => ?_) ?_
      · exact quiet_index e2 (T := 25) rfl (by kernel_rfl) (by kernel_rfl) rfl rfl rfl hat28.out A24.out
      simp only [Act.put, nm1, nm2, nm3, i64_w]
      refine wpK_ops rfl (fun w1 hu => ?_) ?_
      · have cl0 := he26.out 0 _ rfl
        rw [addr_add0] at cl0
        replace cl0 := (((Up.refl _).drew.trans hu)).kept cl0
        have cl1 : World.cell? _ ⟨ad25.block, ad25.off + 1, none⟩ = some _ := he26.out 1 _ rfl
        replace cl1 := (((Up.refl _).drew.trans hu)).kept cl1
        go_simp
        first | done | rfl
      simp only [Act.put, nm1, nm2, nm3, i64_w]
      refine wpK_ops rfl (fun w1 hu => ?_) ?_
      · clear hu
        go_simp
        first | done | rfl
      simp only [Act.put, nm1, nm2, nm3, i64_w]
      refine wpK_ops rfl (fun w1 hu => ?_) ?_
      · clear hu
        go_simp
        first | done | rfl
      simp only [Act.put, nm1, nm2, nm3, i64_w]
      refine wpK_ops rfl (fun w1 hu => ?_) ?_
      · exact quiet_index e2 (T := 25) rfl (by kernel_rfl) (by kernel_rfl) rfl rfl rfl hat35.out A31.out
      simp only [Act.put, nm1, nm2, nm3, i64_w]
      refine wpK_ops rfl (fun w1 hu => ?_) ?_
      · have cl0 := he33.out 0 _ rfl
        rw [addr_add0] at cl0
        replace cl0 := (((Up.refl _).drew.trans hu)).kept cl0
        have cl1 : World.cell? _ ⟨ad32.block, ad32.off + 1, none⟩ = some _ := he33.out 1 _ rfl
        replace cl1 := (((Up.refl _).drew.trans hu)).kept cl1
        go_simp
        first | done | rfl
      simp only [Act.put, nm1, nm2, nm3, i64_w]
      refine wpK_ops rfl (fun w1 hu => ?_) ?_
      · have hcl := (laws_eqPoint.calls K t22 t23 t29 t30 false w1  A37.out)
        clear hu
        replace hcl := Aside0.mk hcl
        go_simp
        exact hcl.out
      simp only [Act.put, nm1, nm2, nm3, i64_w]
      refine wpK_ops rfl (fun w1 hu => ?_) ?_
      · clear hu
        go_simp
        first | done | rfl
      simp only [Act.put, nm1, nm2, nm3, i64_w]
      refine wpK_nil ?_
      intro w38 hu hap
      simp only [List.drop_succ_cons, List.drop_zero]
      replace hu := (Up.refl _).drew.trans hu
      clear hap
      have hu39 := Aside0.mk hu
      clear hu
      refine wpList_nil ?_
      (try simp only [Exit.then, Exit.inBlock, ↓reduceIte, Nat.reduceEqDiff])
      refine hK21 _ _ ?_
      refine wp_cond_true rfl ?_
      refine wp_seq_k (fun K42 hK42 => ?_)
      refine wp_region_lit ?_
      refine wpList_plain rfl (fun Ko hKo => ?_)
      go_simp
      refine hKo _ _ ?_
      clear hKo Ko
      try simp only [Act.put, nm1, nm2, nm3, i64_w]
      refine wpList_nil ?_
      (try simp only [Exit.then, Exit.inBlock, ↓reduceIte, Nat.reduceEqDiff])
      refine hK42 _ _ ?_
      refine wp_ret ?_
      (try simp only [Exit.then, Exit.inBlock, ↓reduceIte, Nat.reduceEqDiff])
      refine hQf _ _ _ ?_
      exact bodyPost_ret (v := .bool false) (by first | rfl | (simp [results, Try.results39, go_sem]; done) | (simp [results, Try.results39, go_sem]; rfl)) rfl ⟨rfl, (hu9.out.trans hu39.out)⟩
   ·
    rw [if_neg c19] at H
    replace c19 := Bool.eq_false_iff.mpr c19
    obtain rfl := Option.some.inj H
    refine wp_seq_k (fun K17 hK17 => ?_)
    refine wp_seq_k (fun K18 hK18 => ?_)
    refine wp_region_lit ?_
    refine wpList_plain rfl (fun Ko hKo => ?_)
    go_simp
    refine hKo _ _ ?_
    clear hKo Ko
    try simp only [Act.put, nm1, nm2, nm3, i64_w]
    refine wpList_plain rfl (fun Ko hKo => ?_)
    go_simp
    refine hKo _ _ ?_
    clear hKo Ko
    try simp only [Act.put, nm1, nm2, nm3, i64_w]
    refine wpList_plain rfl (fun Ko hKo => ?_)
    go_simp
    refine hKo _ _ ?_
    clear hKo Ko
    try simp only [Act.put, nm1, nm2, nm3, i64_w]
    refine wpList_plain rfl (fun Ko hKo => ?_)
    go_simp
    refine hKo _ _ ?_
    clear hKo Ko
    try simp only [Act.put, nm1, nm2, nm3, i64_w]
    refine wpList_nil ?_
    (try simp only [Exit.then, Exit.inBlock, ↓reduceIte, Nat.reduceEqDiff])
    refine hK18 _ _ ?_
    refine wp_cond_false rfl ?_
    refine wp_exit ?_
    (try simp only [Exit.then, Exit.inBlock, ↓reduceIte, Nat.reduceEqDiff])
    refine hK5 _ _ ?_
    refine wp_seq_k (fun K43 hK43 => ?_)
    refine wp_region_lit ?_
    refine wpList_plain rfl (fun Ko hKo => ?_)
    go_simp
    refine hKo _ _ ?_
    clear hKo Ko
    try simp only [Act.put, nm1, nm2, nm3, i64_w]
    refine wpList_nil ?_
    (try simp only [Exit.then, Exit.inBlock, ↓reduceIte, Nat.reduceEqDiff])
    refine hK43 _ _ ?_
    refine wp_ret ?_
    (try simp only [Exit.then, Exit.inBlock, ↓reduceIte, Nat.reduceEqDiff])
    refine hQf _ _ _ ?_
    exact bodyPost_ret (v := .bool true) (by first | rfl | (simp [results, Try.results39, go_sem]; done) | (simp [results, Try.results39, go_sem]; rfl)) rfl ⟨rfl, hu9.out⟩
 ·
  rw [if_neg c4] at H
  replace c4 := Bool.eq_false_iff.mpr c4
  have c4n : ((a0.length : Int) != (a1.length : Int)) = true := by rw [bne, c4]; rfl
  have c4p : ¬ (a0.length : Int) = (a1.length : Int) := fun e => by simp [e] at c4
  obtain rfl := Option.some.inj H
  go_enter Try.func39, Try.ntmps39
  refine wp_hide (fun Qf hQf => ?_)
  refine wp_seq_k (fun K1 hK1 => ?_)
  refine wp_region_lit ?_
  refine wpList_plain rfl (fun Ko hKo => ?_)
  go_simp
  refine hKo _ _ ?_
  clear hKo Ko
  try simp only [Act.put, nm1, nm2, nm3, i64_w]
  refine wpList_nil ?_
  (try simp only [Exit.then, Exit.inBlock, ↓reduceIte, Nat.reduceEqDiff])
  refine hK1 _ _ ?_
  refine wp_seq_k (fun K2 hK2 => ?_)
  refine wp_seq_k (fun K3 hK3 => ?_)
  refine wp_region_lit ?_
  refine wpList_plain rfl (fun Ko hKo => ?_)
  go_simp
  refine hKo _ _ ?_
  clear hKo Ko
  try simp only [Act.put, nm1, nm2, nm3, i64_w]
  refine wpList_plain rfl (fun Ko hKo => ?_)
  go_simp
  refine hKo _ _ ?_
  clear hKo Ko
  try simp only [Act.put, nm1, nm2, nm3, i64_w]
  refine wpList_plain rfl (fun Ko hKo => ?_)
  go_simp
  refine hKo _ _ ?_
  clear hKo Ko
  try simp only [Act.put, nm1, nm2, nm3, i64_w]
  refine wpList_plain rfl (fun Ko hKo => ?_)
  go_simp
  refine hKo _ _ ?_
  clear hKo Ko
  try simp only [Act.put, nm1, nm2, nm3, i64_w]
  refine wpList_plain rfl (fun Ko hKo => ?_)
  go_simp
  refine hKo _ _ ?_
  clear hKo Ko
  try simp only [Act.put, nm1, nm2, nm3, i64_w]
  refine wpList_nil ?_
  (try simp only [Exit.then, Exit.inBlock, ↓reduceIte, Nat.reduceEqDiff])
  refine hK3 _ _ ?_
  refine wp_cond_true rfl ?_
  refine wp_seq_k (fun K44 hK44 => ?_)
  refine wp_region_lit ?_
  refine wpList_plain rfl (fun Ko hKo => ?_)
  go_simp
  refine hKo _ _ ?_
  clear hKo Ko
  try simp only [Act.put, nm1, nm2, nm3, i64_w]
  refine wpList_nil ?_
  (try simp only [Exit.then, Exit.inBlock, ↓reduceIte, Nat.reduceEqDiff])
  refine hK44 _ _ ?_
  refine wp_ret ?_
  (try simp only [Exit.then, Exit.inBlock, ↓reduceIte, Nat.reduceEqDiff])
  refine hQf _ _ _ ?_
  exact bodyPost_ret (v := .bool false) (by first | rfl | (simp [results, Try.results39, go_sem]; done) | (simp [results, Try.results39, go_sem]; rfl)) rfl ⟨rfl, (Up.refl _)⟩

set_option maxHeartbeats 4000000 in
set_option maxRecDepth 100000 in
theorem laws_markPointS.calls (K : Nat) (a0_A : Option Addr) (a0_c : Nat) (a0_B : Nat) (a0 : List (Int × Int)) (a1 : Int) (r0 : Int) (r1 : List (Int × Int)) (w : World) (ha0 : Own e2 25 w a0_B (.slice a0_A a0.length a0_c) a0) (h : laws_markPointS.f K a0 a1 = some (r0, r1)) :
    Calls Try.prog 40 #[.slice a0_A a0.length a0_c, .int .i64 a1] w fun e w' => e = .returned (.int .i64 r0) ∧ Own e2 25 w' a0_B (.slice a0_A r1.length a0_c) r1 ∧ Aside0 (a0.length = r1.length) ∧ Grow (.slice a0_A a0.length a0_c) w w' := by
 have H : ((laws_markPointS.l0 K a0 K a1 0 a0) : Option (Int × List (Int × Int))) = some (r0, r1) := h
 clear h
 go_enter Try.func40, Try.ntmps40
 refine wp_hide (fun Qf hQf => ?_)
 refine wp_seq_k (fun K1 hK1 => ?_)
 refine wp_region_lit ?_
 refine wpList_plain rfl (fun Ko hKo => ?_)
 go_simp
 refine hKo _ _ ?_
 clear hKo Ko
 try simp only [Act.put, nm1, nm2, nm3, i64_w]
 refine wpList_nil ?_
 (try simp only [Exit.then, Exit.inBlock, ↓reduceIte, Nat.reduceEqDiff])
 refine hK1 _ _ ?_
 refine wp_seq_k (fun K2 hK2 => ?_)
 refine wp_seq_k (fun K3 hK3 => ?_)
 refine wp_region_lit ?_
 refine wpList_plain rfl (fun Ko hKo => ?_)
 go_simp
 refine hKo _ _ ?_
 clear hKo Ko
 try simp only [Act.put, nm1, nm2, nm3, i64_w]
 refine wpList_nil ?_
 (try simp only [Exit.then, Exit.inBlock, ↓reduceIte, Nat.reduceEqDiff])
 refine hK3 _ _ ?_
 refine wp_block ?_
 have HL10 := Aside0.mk H
 clear H
 go_loopg [1, 5] K (fun kq v1 v5 w' => ∃ (x4 : Int) (x5 : Int) (x6 : List (Int × Int)), v1 = .int .i64 x4 ∧ v5 = .int .i64 x5 ∧ Aside0 (laws_markPointS.l0 K a0 kq x4 x5 x6 = some (r0, r1)) ∧ Aside0 (kq ≤ K) ∧ Aside0 (Grow (.slice a0_A a0.length a0_c) w w') ∧ Aside0 (w.heap.size ≤ w'.heap.size) ∧ Own e2 25 w' a0_B (.slice a0_A x6.length a0_c) x6 ∧ Aside0 (a0.length = x6.length))
 case atStart => exact ⟨a1, 0, a0, (by first | rfl | simp), (by first | rfl | simp), HL10, ⟨Nat.le_refl _⟩, ⟨(Grow.refl (.slice a0_A a0.length a0_c) _)⟩, ⟨Nat.le_refl _⟩, ha0, ⟨rfl⟩⟩
 case round =>
  rename_i J16 K17 hJ16 hK17
  obtain ⟨x4, x5, x6, rfl, rfl, HL15, hk14, hu8, hz9, h11, hl12⟩ := hrel
  obtain ⟨w7, rfl⟩ : ∃ wo : World, wo = wr := ⟨_, rfl⟩
  obtain ⟨k13, rfl⟩ | rfl : (∃ k, gk = k + 1) ∨ gk = 0 := by rcases gk with _ | k; exact .inr rfl; exact .inl ⟨k, rfl⟩
  case inr => exact absurd HL15.out (by simp [laws_markPointS.l0])
  have H := HL15.out
  clear HL15
  rw [laws_markPointS.l0] at H
  by_cases c20 : (decide (x5 < (a0.length : Int))) = true
  ·
   rw [if_pos c20] at H
   replace H := Option.bind_eq_some_iff.mp H
   obtain ⟨⟨t28, t29⟩, A30, H⟩ := H
   replace A30 := Aside0.mk A30
   try dsimp only at H
   replace H := Option.bind_eq_some_iff.mp H
   obtain ⟨⟨t45, t46⟩, A47, H⟩ := H
   replace A47 := Aside0.mk A47
   try dsimp only at H
   have HL60 := Aside0.mk H
   clear H
   refine wp_seq_k (fun K18 hK18 => ?_)
   refine wp_seq_k (fun K19 hK19 => ?_)
   refine wp_region_lit ?_
   refine wpList_plain rfl (fun Ko hKo => ?_)
   go_simp
   refine hKo _ _ ?_
   clear hKo Ko
   try simp only [Act.put, nm1, nm2, nm3, i64_w]
   refine wpList_plain rfl (fun Ko hKo => ?_)
   go_simp
   refine hKo _ _ ?_
   clear hKo Ko
   try simp only [Act.put, nm1, nm2, nm3, i64_w]
   refine wpList_plain rfl (fun Ko hKo => ?_)
   go_simp
   refine hKo _ _ ?_
   clear hKo Ko
   try simp only [Act.put, nm1, nm2, nm3, i64_w]
   refine wpList_plain rfl (fun Ko hKo => ?_)
   go_simp
   refine hKo _ _ ?_
   clear hKo Ko
   try simp only [Act.put, nm1, nm2, nm3, i64_w]
   refine wpList_nil ?_
   (try simp only [Exit.then, Exit.inBlock, ↓reduceIte, Nat.reduceEqDiff])
   refine hK19 _ _ ?_
   refine wp_cond_true rfl ?_
   refine wp_skip ?_
   (try simp only [Exit.then, Exit.inBlock, ↓reduceIte, Nat.reduceEqDiff])
   refine hK18 _ _ ?_
   refine wp_seq_k (fun K21 hK21 => ?_)
   refine wp_block ?_
   refine wp_seq_k (fun K22 hK22 => ?_)
   refine wp_region_lit ?_
   refine wpList_plain rfl (fun Ko hKo => ?_)
   go_simp
   refine hKo _ _ ?_
   clear hKo Ko
   try simp only [Act.put, nm1, nm2, nm3, i64_w]
   refine wpList_nil ?_
   (try simp only [Exit.then, Exit.inBlock, ↓reduceIte, Nat.reduceEqDiff])
   refine hK22 _ _ ?_
   refine wp_block ?_
   refine wp_loop_rounds 40 ?_
   refine rounds_k (fun K23 hK23 => ?_)
   refine wp_seq_k (fun K24 hK24 => ?_)
   refine wp_seq_k (fun K25 hK25 => ?_)
   refine wp_region_lit ?_
   refine wpList_plain rfl (fun Ko hKo => ?_)
   go_simp
   refine hKo _ _ ?_
   clear hKo Ko
   try simp only [Act.put, nm1, nm2, nm3, i64_w]
   refine wpList_plain rfl (fun Ko hKo => ?_)
   go_simp
   refine hKo _ _ ?_
   clear hKo Ko
   try simp only [Act.put, nm1, nm2, nm3, i64_w]
   refine wpList_nil ?_
   (try simp only [Exit.then, Exit.inBlock, ↓reduceIte, Nat.reduceEqDiff])
   refine hK25 _ _ ?_
   refine wp_cond_true rfl ?_
   refine wp_skip ?_
   (try simp only [Exit.then, Exit.inBlock, ↓reduceIte, Nat.reduceEqDiff])
   refine hK24 _ _ ?_
   refine wp_seq_k (fun K26 hK26 => ?_)
   refine wp_block ?_
   refine wp_seq_k (fun K27 hK27 => ?_)
   refine wp_region_lit ?_
   refine wpList_plain rfl (fun Ko hKo => ?_)
   go_simp
   refine hKo _ _ ?_
   clear hKo Ko
   try simp only [Act.put, nm1, nm2, nm3, i64_w]
   refine wpList_plain rfl (fun Ko hKo => ?_)
   go_simp
   refine hKo _ _ ?_
   clear hKo Ko
   try simp only [Act.put, nm1, nm2, nm3, i64_w]
   refine wpList_plain rfl (fun Ko hKo => ?_)
   go_simp
   refine hKo _ _ ?_
   clear hKo Ko
   try simp only [Act.put, nm1, nm2, nm3, i64_w]
   refine wpList_plain rfl (fun Ko hKo => ?_)
   go_simp
   refine hKo _ _ ?_
   clear hKo Ko
   try simp only [Act.put, nm1, nm2, nm3, i64_w]
   refine step_index e2 (T := 25) (wanted_none rfl) rfl (by kernel_rfl) (by kernel_rfl) rfl hl12.out rfl h11.rd A30.out ?_
   intro ad31 hat he
   have he32 := Aside0.mk he
   have hat33 := Aside0.mk hat
   clear he hat
   simp only [Act.put, nm1, nm2, nm3, i64_w]
   refine wpList_plain rfl (fun Ko hKo => ?_)
   go_simp
   refine hKo _ _ ?_
   clear hKo Ko
   try simp only [Act.put, nm1, nm2, nm3, i64_w]
   have hO0 := Aside0.mk h11
   have lb38 := Aside0.mk hO0.out.lt
   refine step_put e2 (T := 25) (u := .int .i64 x4) (old := (t28, t29)) (new := (x4, t29)) 0 rfl rfl rfl hat33.out (addr_add0 _).symm rfl rfl (by kernel_rfl) (by simp [Value.cells, Value.oneCell']) (Nat.le_of_ble_eq_true rfl) rfl hO0.out A30.out ?_
   intro w34 h36 hg
   have hg37 := Aside0.mk hg
   clear hO0 hg
   try simp only [Act.put, nm1, nm2, nm3, i64_w]
   have hl39 : Aside0 (a0.length = (x6.set (x5).toNat (x4, t29)).length) := Aside0.mk (hl12.out.trans (List.length_set ..).symm)
   refine wpList_nil ?_
   (try simp only [Exit.then, Exit.inBlock, ↓reduceIte, Nat.reduceEqDiff])
   refine hK27 _ _ ?_
   refine wp_region_lit ?_
   refine wpList_plain rfl (fun Ko hKo => ?_)
   go_simp
   refine hKo _ _ ?_
   clear hKo Ko
   try simp only [Act.put, nm1, nm2, nm3, i64_w]
   refine wpList_plain rfl (fun Ko hKo => ?_)
   go_simp
   refine hKo _ _ ?_
   clear hKo Ko
   try simp only [Act.put, nm1, nm2, nm3, i64_w]
   refine wpList_plain rfl (fun Ko hKo => ?_)
   go_simp
   refine hKo _ _ ?_
   clear hKo Ko
   try simp only [Act.put, nm1, nm2, nm3, i64_w]
   refine wpList_nil ?_
   (try simp only [Exit.then, Exit.inBlock, ↓reduceIte, Nat.reduceEqDiff])
   refine hK26 _ _ ?_
   refine wp_region_lit ?_
   refine wpList_plain rfl (fun Ko hKo => ?_)
   go_simp
   refine hKo _ _ ?_
   clear hKo Ko
   try simp only [Act.put, nm1, nm2, nm3, i64_w]
   refine wpList_plain rfl (fun Ko hKo => ?_)
   go_simp
   refine hKo _ _ ?_
   clear hKo Ko
   try simp only [Act.put, nm1, nm2, nm3, i64_w]
   try simp only [show wrap64 1 = 1 from wlit rfl]
   refine wpList_plain rfl (fun Ko hKo => ?_)
   go_simp
   refine hKo _ _ ?_
   clear hKo Ko
   try simp only [Act.put, nm1, nm2, nm3, i64_w]
   refine wpList_nil ?_
   (try simp only [Exit.then, Exit.inBlock, ↓reduceIte, Nat.reduceEqDiff])
   refine hK23 _ _ ?_
   refine rounds_k (fun K40 hK40 => ?_)
   refine wp_seq_k (fun K41 hK41 => ?_)
   refine wp_seq_k (fun K42 hK42 => ?_)
   refine wp_region_lit ?_
   refine wpList_plain rfl (fun Ko hKo => ?_)
   go_simp
   refine hKo _ _ ?_
   clear hKo Ko
   try simp only [Act.put, nm1, nm2, nm3, i64_w]
   refine wpList_plain rfl (fun Ko hKo => ?_)
   go_simp
   refine hKo _ _ ?_
   clear hKo Ko
   try simp only [Act.put, nm1, nm2, nm3, i64_w]
   refine wpList_nil ?_
   (try simp only [Exit.then, Exit.inBlock, ↓reduceIte, Nat.reduceEqDiff])
   refine hK42 _ _ ?_
   refine wp_cond_true rfl ?_
   refine wp_skip ?_
   (try simp only [Exit.then, Exit.inBlock, ↓reduceIte, Nat.reduceEqDiff])
   refine hK41 _ _ ?_
   refine wp_seq_k (fun K43 hK43 => ?_)
   refine wp_block ?_
   refine wp_seq_k (fun K44 hK44 => ?_)
   refine wp_region_lit ?_
   refine wpList_plain rfl (fun Ko hKo => ?_)
   go_simp
   refine hKo _ _ ?_
   clear hKo Ko
   try simp only [Act.put, nm1, nm2, nm3, i64_w]
   refine wpList_plain rfl (fun Ko hKo => ?_)
   go_simp
   refine hKo _ _ ?_
   clear hKo Ko
   try simp only [Act.put, nm1, nm2, nm3, i64_w]
   refine wpList_plain rfl (fun Ko hKo => ?_)
   go_simp
   refine hKo _ _ ?_
   clear hKo Ko
   try simp only [Act.put, nm1, nm2, nm3, i64_w]
   refine wpList_plain rfl (fun Ko hKo => ?_)
   go_simp
   refine hKo _ _ ?_
   clear hKo Ko
   try simp only [Act.put, nm1, nm2, nm3, i64_w]
   refine step_index e2 (T := 25) (wanted_none rfl) rfl (by kernel_rfl) (by kernel_rfl) rfl hl39.out rfl h36.rd A47.out ?_
   intro ad48 hat he
   have he49 := Aside0.mk he
   have hat50 := Aside0.mk hat
   clear he hat
   simp only [Act.put, nm1, nm2, nm3, i64_w]
   refine wpList_plain rfl (fun Ko hKo => ?_)
   go_simp
   refine hKo _ _ ?_
   clear hKo Ko
   try simp only [Act.put, nm1, nm2, nm3, i64_w]
   have hO0 := Aside0.mk h36
   have lb55 := Aside0.mk hO0.out.lt
   refine step_put e2 (T := 25) (u := .int .i64 (wrap64 (x4 + 1))) (old := (t45, t46)) (new := (t45, wrap64 (x4 + 1))) 1 rfl rfl rfl hat50.out rfl rfl rfl (by kernel_rfl) (by simp [Value.cells, Value.oneCell']) (Nat.le_of_ble_eq_true rfl) rfl hO0.out A47.out ?_
   intro w51 h53 hg
   have hg54 := Aside0.mk hg
   clear hO0 hg
   try simp only [Act.put, nm1, nm2, nm3, i64_w]
   have hl56 : Aside0 (a0.length = ((x6.set (x5).toNat (x4, t29)).set (x5).toNat (t45, wrap64 (x4 + 1))).length) := Aside0.mk (hl39.out.trans (List.length_set ..).symm)
   refine wpList_nil ?_
   (try simp only [Exit.then, Exit.inBlock, ↓reduceIte, Nat.reduceEqDiff])
   refine hK44 _ _ ?_
   refine wp_region_lit ?_
   refine wpList_plain rfl (fun Ko hKo => ?_)
   go_simp
   refine hKo _ _ ?_
   clear hKo Ko
   try simp only [Act.put, nm1, nm2, nm3, i64_w]
   refine wpList_plain rfl (fun Ko hKo => ?_)
   go_simp
   refine hKo _ _ ?_
   clear hKo Ko
   try simp only [Act.put, nm1, nm2, nm3, i64_w]
   refine wpList_plain rfl (fun Ko hKo => ?_)
   go_simp
   refine hKo _ _ ?_
   clear hKo Ko
   try simp only [Act.put, nm1, nm2, nm3, i64_w]
   refine wpList_nil ?_
   (try simp only [Exit.then, Exit.inBlock, ↓reduceIte, Nat.reduceEqDiff])
   refine hK43 _ _ ?_
   refine wp_region_lit ?_
   refine wpList_plain rfl (fun Ko hKo => ?_)
   go_simp
   refine hKo _ _ ?_
   clear hKo Ko
   try simp only [Act.put, nm1, nm2, nm3, i64_w]
   refine wpList_plain rfl (fun Ko hKo => ?_)
   go_simp
   refine hKo _ _ ?_
   clear hKo Ko
   try simp only [Act.put, nm1, nm2, nm3, i64_w]
   try simp only [show wrap64 2 = 2 from wlit rfl]
   refine wpList_plain rfl (fun Ko hKo => ?_)
   go_simp
   refine hKo _ _ ?_
   clear hKo Ko
   try simp only [Act.put, nm1, nm2, nm3, i64_w]
   refine wpList_nil ?_
   (try simp only [Exit.then, Exit.inBlock, ↓reduceIte, Nat.reduceEqDiff])
   refine hK40 _ _ ?_
   refine rounds_k (fun K57 hK57 => ?_)
   refine wp_seq_k (fun K58 hK58 => ?_)
   refine wp_seq_k (fun K59 hK59 => ?_)
   refine wp_region_lit ?_
   refine wpList_plain rfl (fun Ko hKo => ?_)
   go_simp
   refine hKo _ _ ?_
   clear hKo Ko
   try simp only [Act.put, nm1, nm2, nm3, i64_w]
   refine wpList_plain rfl (fun Ko hKo => ?_)
   go_simp
   refine hKo _ _ ?_
   clear hKo Ko
   try simp only [Act.put, nm1, nm2, nm3, i64_w]
   refine wpList_nil ?_
   (try simp only [Exit.then, Exit.inBlock, ↓reduceIte, Nat.reduceEqDiff])
   refine hK59 _ _ ?_
   refine wp_cond_false rfl ?_
   refine wp_exit ?_
   (try simp only [Exit.then, Exit.inBlock, ↓reduceIte, Nat.reduceEqDiff])
   refine hK21 _ _ ?_
   refine wp_region_lit ?_
   refine wpList_plain rfl (fun Ko hKo => ?_)
   go_simp
   refine hKo _ _ ?_
   clear hKo Ko
   try simp only [Act.put, nm1, nm2, nm3, i64_w]
   refine wpList_plain rfl (fun Ko hKo => ?_)
   go_simp
   refine hKo _ _ ?_
   clear hKo Ko
   try simp only [Act.put, nm1, nm2, nm3, i64_w]
   refine wpList_plain rfl (fun Ko hKo => ?_)
   go_simp
   refine hKo _ _ ?_
   clear hKo Ko
   try simp only [Act.put, nm1, nm2, nm3, i64_w]
   refine wpList_nil ?_
   (try simp only [Exit.then, Exit.inBlock, ↓reduceIte, Nat.reduceEqDiff])
   refine hK17 _ _ ?_
   go_roundg k13
   case measure => exact Nat.lt_succ_self _
   case rel => exact ⟨wrap64 ((wrap64 (x4 + 1)) + 1), wrap64 (x5 + 1), ((x6.set (x5).toNat (x4, t29)).set (x5).toNat (t45, wrap64 (x4 + 1))), (by first | rfl | simp), (by first | rfl | simp), HL60, ⟨by have := hk14.out; omega⟩, ⟨((hu8.out.trans (Grow.same hg37.out)).trans (Grow.same hg54.out))⟩, ⟨(Nat.le_trans ((Nat.le_trans ((Nat.le_trans (Nat.le_refl _) hz9.out)) hg37.out.size)) hg54.out.size)⟩, h53, ⟨hl56.out⟩⟩
  ·
   rw [if_neg c20] at H
   replace c20 := Bool.eq_false_iff.mpr c20
   simp only [Option.some.injEq, Prod.mk.injEq] at H
   obtain ⟨rfl, rfl⟩ := H
   refine wp_seq_k (fun K18 hK18 => ?_)
   refine wp_seq_k (fun K19 hK19 => ?_)
   refine wp_region_lit ?_
   refine wpList_plain rfl (fun Ko hKo => ?_)
   go_simp
   refine hKo _ _ ?_
   clear hKo Ko
   try simp only [Act.put, nm1, nm2, nm3, i64_w]
   refine wpList_plain rfl (fun Ko hKo => ?_)
   go_simp
   refine hKo _ _ ?_
   clear hKo Ko
   try simp only [Act.put, nm1, nm2, nm3, i64_w]
   refine wpList_plain rfl (fun Ko hKo => ?_)
   go_simp
   refine hKo _ _ ?_
   clear hKo Ko
   try simp only [Act.put, nm1, nm2, nm3, i64_w]
   refine wpList_plain rfl (fun Ko hKo => ?_)
   go_simp
   refine hKo _ _ ?_
   clear hKo Ko
   try simp only [Act.put, nm1, nm2, nm3, i64_w]
   refine wpList_nil ?_
   (try simp only [Exit.then, Exit.inBlock, ↓reduceIte, Nat.reduceEqDiff])
   refine hK19 _ _ ?_
   refine wp_cond_false rfl ?_
   refine wp_exit ?_
   (try simp only [Exit.then, Exit.inBlock, ↓reduceIte, Nat.reduceEqDiff])
   refine hK2 _ _ ?_
   refine wp_seq_k (fun K61 hK61 => ?_)
   refine wp_region_lit ?_
   refine wpList_plain rfl (fun Ko hKo => ?_)
   go_simp
   refine hKo _ _ ?_
   clear hKo Ko
   try simp only [Act.put, nm1, nm2, nm3, i64_w]
   refine wpList_plain rfl (fun Ko hKo => ?_)
   go_simp
   refine hKo _ _ ?_
   clear hKo Ko
   try simp only [Act.put, nm1, nm2, nm3, i64_w]
   refine wpList_nil ?_
   (try simp only [Exit.then, Exit.inBlock, ↓reduceIte, Nat.reduceEqDiff])
   refine hK61 _ _ ?_
   refine wp_ret ?_
   (try simp only [Exit.then, Exit.inBlock, ↓reduceIte, Nat.reduceEqDiff])
   refine hQf _ _ _ ?_
   exact bodyPost_ret (v := .int .i64 x4) (by first | rfl | (simp [results, Try.results40, go_sem]; done) | (simp [results, Try.results40, go_sem]; rfl)) rfl ⟨rfl, h11, ⟨hl12.out⟩, hu8.out⟩

end Go.Proofs.Ytohpnbfgemngmaa
