/- The walks: each of these functions of the program computes what its plain function says: impl_turned, impl_product, impl_keeps, impl_moveAsked__impl_always, impl_allPoints, impl_sum, impl_moved, impl_fixedPoints_1, impl_pointsWith__impl_fixedPoints_1, impl_fixedPoints, impl_sign. -/
import Derived.Test.YtbibgeoohpgaeaaDoorProg
import Derived.Test.YtbibgeoohpgaeaaDoorD1
import Derived.WalkKit
import Derived.KernelRfl
import Derived.BigQuiet
import Derived.Deep.LoopGhost
import Derived.Laws.StructEq
import Derived.Test.YtbibgeoohpgaeaaDoorWKind2
namespace Go.Proofs.YtbibgeoohpgaeaaDoor
open Go Go.RowKit
attribute [local go_sem] Oper.quiet Oper.quietAt Oper.quietUpon
attribute [local irreducible] wpList
set_option linter.unusedVariables false
set_option linter.unusedSimpArgs false
attribute [local go_sem] eqT22
attribute [local go_sem] eqT28
attribute [local go_sem] eqT30
attribute [local go_sem] eqR30

set_option maxHeartbeats 4000000 in
set_option maxRecDepth 100000 in
theorem impl_turned.calls (K : Nat) (a0 : Int) (a1_0 : Int) (a1_1 : Int) (a1_2 : Int) (a1_3 : Int) (a2_0 : Int) (a2_1 : Int) (r0 : Int) (r1 : Int) (w : World)  (h : impl_turned.f K a0 a1_0 a1_1 a1_2 a1_3 a2_0 a2_1 = some (r0, r1)) :
    Calls Tryd.prog 43 #[.int .i64 a0, .agg #[.int .i64 a1_0, .int .i64 a1_1, .int .i64 a1_2, .int .i64 a1_3], .agg #[.int .i64 a2_0, .int .i64 a2_1]] w fun e w' => e = .returned (.agg #[.int .i64 r0, .int .i64 r1]) ∧ Up w w' := by
 have H : (((impl_rest.f K a0 (wrap64 ((wrap64 (a1_0 * a2_0)) + (wrap64 (a1_1 * a2_1))))).bind fun t12 => ((impl_rest.f K a0 (wrap64 ((wrap64 (a1_2 * a2_0)) + (wrap64 (a1_3 * a2_1))))).bind fun t14 => some (t12, t14))) : Option (Int × Int)) = some (r0, r1) := h
 clear h
 replace H := Option.bind_eq_some_iff.mp H
 obtain ⟨t12, A13, H⟩ := H
 replace A13 := Aside0.mk A13
 try dsimp only at H
 replace H := Option.bind_eq_some_iff.mp H
 obtain ⟨t14, A15, H⟩ := H
 replace A15 := Aside0.mk A15
 try dsimp only at H
 simp only [Option.some.injEq, Prod.mk.injEq] at H
 obtain ⟨rfl, rfl⟩ := H
 go_enter Tryd.func43, Tryd.ntmps43
 refine wp_hide (fun Qf hQf => ?_)
 refine wp_seq_k (fun K1 hK1 => ?_)
 refine wp_region_lit ?_
 refine step_new (cs := [.int .i64 a1_0, .int .i64 a1_1, .int .i64 a1_2, .int .i64 a1_3]) (T := 22) (f := fun b => .pointer (some ⟨b, 0, none⟩)) rfl (by first | (go_simp; done) | (go_simp; rfl)) ?_
 intro b2 w3 hu lb hb2
 simp only [Act.put, nm1, nm2, nm3, i64_w]
 have lbb2 := Aside0.mk lb
 have ltb2 := Aside0.mk hb2.lt
 clear lb
 have hu4 := Aside0.mk hu
 clear hu
 refine step_new (cs := [.int .i64 a2_0, .int .i64 a2_1]) (T := 28) (f := fun b => .pointer (some ⟨b, 0, none⟩)) rfl (by first | (go_simp; done) | (go_simp; rfl)) ?_
 intro b5 w6 hu lb hb5
 simp only [Act.put, nm1, nm2, nm3, i64_w]
 have lbb5 := Aside0.mk lb
 have ltb5 := Aside0.mk hb5.lt
 clear lb
 have hu7 := Aside0.mk hu
 clear hu
 refine step_new (cs := [.int .i64 0, .int .i64 0]) (T := 28) (f := fun b => .pointer (some ⟨b, 0, none⟩)) rfl (by first | (go_simp; done) | (go_simp; rfl)) ?_
 intro b8 w9 hu lb hb8
 simp only [Act.put, nm1, nm2, nm3, i64_w]
 have lbb8 := Aside0.mk lb
 have ltb8 := Aside0.mk hb8.lt
 clear lb
 have hu10 := Aside0.mk hu
 clear hu
 refine wpList_nil ?_
 (try simp only [Exit.then, Exit.inBlock, ↓reduceIte, Nat.reduceEqDiff])
 refine hK1 _ _ ?_
 refine wp_seq_k (fun K11 hK11 => ?_)
 refine' wp_region_up 27 [Slot.det _, Slot.det _, Slot.det _, Slot.det _, Slot.det _, Slot.det _, Slot.det _, Slot.det _, Slot.det _, Slot.det _, Slot.det _, Slot.det _, Slot.det (.int .i64 t12), Slot.det _, Slot.det _, Slot.det _, Slot.det _, Slot.det _, Slot.det _, Slot.det _, Slot.det _, Slot.det _, Slot.det _, Slot.det _, Slot.det _, Slot.det (.int .i64 t14), Slot.det _] (by kernel_rfl) (by kernel_rfl) ?main
 case main =>
  simp only [List.take_succ_cons, List.take_zero]
  refine wpK_ops rfl (fun w1 hu => ?_) ?_
  · clear hu
    go_simp
    first | done | rfl
  simp only [Act.put, nm1, nm2, nm3, i64_w]
  refine wpK_ops rfl (fun w1 hu => ?_) ?_
  · clear hu
    go_simp
    first | done | rfl
  simp only [Act.put, nm1, nm2, nm3, i64_w]
  refine wpK_ops rfl (fun w1 hu => ?_) ?_
  · have cl0 := ((hb2.up (hu7.out.trans hu10.out)).up ((Up.refl _).drew.trans hu)).cell (o := 0) rfl
    go_simp
    first | done | rfl
  simp only [Act.put, nm1, nm2, nm3, i64_w]
  refine wpK_ops rfl (fun w1 hu => ?_) ?_
  · clear hu
    go_simp
    first | done | rfl
  simp only [Act.put, nm1, nm2, nm3, i64_w]
  refine wpK_ops rfl (fun w1 hu => ?_) ?_
  · have cl0 := ((hb5.up hu10.out).up ((Up.refl _).drew.trans hu)).cell (o := 0) rfl
    go_simp
    first | done | rfl
  simp only [Act.put, nm1, nm2, nm3, i64_w]
  refine wpK_ops rfl (fun w1 hu => ?_) ?_
  · clear hu
    go_simp
    first | done | rfl
  simp only [Act.put, nm1, nm2, nm3, i64_w]
  refine wpK_ops rfl (fun w1 hu => ?_) ?_
  · clear hu
    go_simp
    first | done | rfl
  simp only [Act.put, nm1, nm2, nm3, i64_w]
  refine wpK_ops rfl (fun w1 hu => ?_) ?_
  · have cl0 := ((hb2.up (hu7.out.trans hu10.out)).up ((Up.refl _).drew.trans hu)).cell (o := 1) rfl
    go_simp
    first | done | rfl
  simp only [Act.put, nm1, nm2, nm3, i64_w]
  refine wpK_ops rfl (fun w1 hu => ?_) ?_
  · clear hu
    go_simp
    first | done | rfl
  simp only [Act.put, nm1, nm2, nm3, i64_w]
  refine wpK_ops rfl (fun w1 hu => ?_) ?_
  · have cl0 := ((hb5.up hu10.out).up ((Up.refl _).drew.trans hu)).cell (o := 1) rfl
    go_simp
    first | done | rfl
  simp only [Act.put, nm1, nm2, nm3, i64_w]
  refine wpK_ops rfl (fun w1 hu => ?_) ?_
  · clear hu
    go_simp
    first | done | rfl
  simp only [Act.put, nm1, nm2, nm3, i64_w]
  refine wpK_ops rfl (fun w1 hu => ?_) ?_
  · clear hu
    go_simp
    first | done | rfl
  simp only [Act.put, nm1, nm2, nm3, i64_w]
  refine wpK_ops rfl (fun w1 hu => ?_) ?_
  · have hcl := (impl_rest.calls K a0 (wrap64 ((wrap64 (a1_0 * a2_0)) + (wrap64 (a1_1 * a2_1)))) t12 w1  A13.out)
    clear hu
    replace hcl := Aside0.mk hcl
    go_simp
    exact hcl.out
  simp only [Act.put, nm1, nm2, nm3, i64_w]
  refine wpK_ops rfl (fun w1 hu => ?_) ?_
  · clear hu
    go_simp
    first | done | rfl
  simp only [Act.put, nm1, nm2, nm3, i64_w]
  refine wpK_ops rfl (fun w1 hu => ?_) ?_
  · clear hu
    go_simp
    first | done | rfl
  simp only [Act.put, nm1, nm2, nm3, i64_w]
  refine wpK_ops rfl (fun w1 hu => ?_) ?_
  · have cl0 := ((hb2.up (hu7.out.trans hu10.out)).up ((Up.refl _).drew.trans hu)).cell (o := 2) rfl
    go_simp
    first | done | rfl
  simp only [Act.put, nm1, nm2, nm3, i64_w]
  refine wpK_ops rfl (fun w1 hu => ?_) ?_
  · clear hu
    go_simp
    first | done | rfl
  simp only [Act.put, nm1, nm2, nm3, i64_w]
  refine wpK_ops rfl (fun w1 hu => ?_) ?_
  · have cl0 := ((hb5.up hu10.out).up ((Up.refl _).drew.trans hu)).cell (o := 0) rfl
    go_simp
    first | done | rfl
  simp only [Act.put, nm1, nm2, nm3, i64_w]
  refine wpK_ops rfl (fun w1 hu => ?_) ?_
  · clear hu
    go_simp
    first | done | rfl
  simp only [Act.put, nm1, nm2, nm3, i64_w]
  refine wpK_ops rfl (fun w1 hu => ?_) ?_
  · clear hu
    go_simp
    first | done | rfl
  simp only [Act.put, nm1, nm2, nm3, i64_w]
  refine wpK_ops rfl (fun w1 hu => ?_) ?_
  · have cl0 := ((hb2.up (hu7.out.trans hu10.out)).up ((Up.refl _).drew.trans hu)).cell (o := 3) rfl
    go_simp
    first | done | rfl
  simp only [Act.put, nm1, nm2, nm3, i64_w]
  refine wpK_ops rfl (fun w1 hu => ?_) ?_
  · clear hu
    go_simp
    first | done | rfl
  simp only [Act.put, nm1, nm2, nm3, i64_w]
  refine wpK_ops rfl (fun w1 hu => ?_) ?_
  · have cl0 := ((hb5.up hu10.out).up ((Up.refl _).drew.trans hu)).cell (o := 1) rfl
    go_simp
    first | done | rfl
  simp only [Act.put, nm1, nm2, nm3, i64_w]
  refine wpK_ops rfl (fun w1 hu => ?_) ?_
  · clear hu
    go_simp
    first | done | rfl
  simp only [Act.put, nm1, nm2, nm3, i64_w]
  refine wpK_ops rfl (fun w1 hu => ?_) ?_
  · clear hu
    go_simp
    first | done | rfl
  simp only [Act.put, nm1, nm2, nm3, i64_w]
  refine wpK_ops rfl (fun w1 hu => ?_) ?_
  · have hcl := (impl_rest.calls K a0 (wrap64 ((wrap64 (a1_2 * a2_0)) + (wrap64 (a1_3 * a2_1)))) t14 w1  A15.out)
    clear hu
    replace hcl := Aside0.mk hcl
    go_simp
    exact hcl.out
  simp only [Act.put, nm1, nm2, nm3, i64_w]
  refine wpK_ops rfl (fun w1 hu => ?_) ?_
  · clear hu
    go_simp
    first | done | rfl
  simp only [Act.put, nm1, nm2, nm3, i64_w]
  refine wpK_nil ?_
  intro w16 hu hap
  simp only [List.drop_succ_cons, List.drop_zero]
  replace hu := (Up.refl _).drew.trans hu
  clear hap
  have hu17 := Aside0.mk hu
  clear hu
  have hB0 := (hb8.up hu17.out)
  have cl0 := hB0.cell (o := 0) rfl
  have fr0 := hB0.free 0
  have cl1 := hB0.cell (o := 1) rfl
  have fr1 := hB0.free 1
  refine step_store (b := b8) (cs' := [.int .i64 t12, .int .i64 t14]) (T := 28) (W' := ((w16.setCell ⟨b8, 0, none⟩ (.int .i64 t12)).setCell ⟨b8, 1, none⟩ (.int .i64 t14))) rfl rfl (by first | (go_simp; done) | (go_simp; rfl)) (((Sto.refl _ _).setCell 0 _).setCell 1 _) (((hB0).setCell 0 _).setCell 1 _) ?_
  clear hB0 cl0 fr0 cl1 fr1
  intro w18 hs hb20
  have hs19 := Aside0.mk hs
  clear hs
  refine wpList_nil ?_
  (try simp only [Exit.then, Exit.inBlock, ↓reduceIte, Nat.reduceEqDiff])
  refine hK11 _ _ ?_
  refine wp_ret ?_
  (try simp only [Exit.then, Exit.inBlock, ↓reduceIte, Nat.reduceEqDiff])
  refine hQf _ _ _ ?_
  have cr0 := hb20.cell (o := 0) rfl
  have cr1 := hb20.cell (o := 1) rfl
  exact bodyPost_ret (v := .agg #[.int .i64 t12, .int .i64 t14]) (by first | rfl | (simp [results, Tryd.results43, go_sem, cr0, cr1]; done) | (simp [results, Tryd.results43, go_sem, cr0, cr1]; rfl)) rfl ⟨rfl, ((((hu4.out.trans hu7.out).trans hu10.out).trans hu17.out).sto (Nat.le_trans ((Nat.le_trans (hu4.out.size) hu7.out.size)) lbb8.out) hs19.out)⟩

set_option maxHeartbeats 4000000 in
set_option maxRecDepth 100000 in
theorem impl_product.calls (K : Nat) (a0 : Int) (a1 : Int) (a2_0 : Int) (a2_1 : Int) (a3_0 : Int) (a3_1 : Int) (r0 : Int) (w : World)  (h : impl_product.f K a0 a1 a2_0 a2_1 a3_0 a3_1 = some (r0)) :
    Calls Tryd.prog 44 #[.int .i64 a0, .int .i64 a1, .agg #[.int .i64 a2_0, .int .i64 a2_1], .agg #[.int .i64 a3_0, .int .i64 a3_1]] w fun e w' => e = .returned (.int .i64 r0) ∧ Up w w' := by
 have H : ((if (a1 == 0) = true then ((impl_rest.f K a0 (wrap64 ((wrap64 (a2_0 * a3_0)) + (wrap64 (a2_1 * a3_1))))).bind fun t13 => some t13) else (if (a1 == 1) = true then ((impl_rest.f K a0 (wrap64 ((wrap64 (a2_0 * a3_0)) - (wrap64 (a2_1 * a3_1))))).bind fun t20 => some t20) else ((impl_rest.f K a0 (wrap64 ((wrap64 (a2_0 * a3_1)) + (wrap64 (a2_1 * a3_0))))).bind fun t25 => some t25))) : Option (Int)) = some (r0) := h
 clear h
 by_cases c11 : (a1 == 0) = true
 ·
  rw [if_pos c11] at H
  have c11n : (a1 != 0) = false := by rw [bne, c11]; rfl
  replace H := Option.bind_eq_some_iff.mp H
  obtain ⟨t13, A14, H⟩ := H
  replace A14 := Aside0.mk A14
  try dsimp only at H
  obtain rfl := Option.some.inj H
  go_enter Tryd.func44, Tryd.ntmps44
  refine wp_hide (fun Qf hQf => ?_)
  refine wp_seq_k (fun K1 hK1 => ?_)
  refine wp_region_lit ?_
  refine step_new (cs := [.int .i64 a2_0, .int .i64 a2_1]) (T := 28) (f := fun b => .pointer (some ⟨b, 0, none⟩)) rfl (by first | (go_simp; done) | (go_simp; rfl)) ?_
  intro b2 w3 hu lb hb2
  simp only [Act.put, nm1, nm2, nm3, i64_w]
  have lbb2 := Aside0.mk lb
  have ltb2 := Aside0.mk hb2.lt
  clear lb
  have hu4 := Aside0.mk hu
  clear hu
  refine step_new (cs := [.int .i64 a3_0, .int .i64 a3_1]) (T := 28) (f := fun b => .pointer (some ⟨b, 0, none⟩)) rfl (by first | (go_simp; done) | (go_simp; rfl)) ?_
  intro b5 w6 hu lb hb5
  simp only [Act.put, nm1, nm2, nm3, i64_w]
  have lbb5 := Aside0.mk lb
  have ltb5 := Aside0.mk hb5.lt
  clear lb
  have hu7 := Aside0.mk hu
  clear hu
  refine wpList_plain rfl (fun Ko hKo => ?_)
  go_simp
  refine hKo _ _ ?_
  clear hKo Ko
  try simp only [Act.put, nm1, nm2, nm3, i64_w]
  refine wpList_nil ?_
  (try simp only [Exit.then, Exit.inBlock, ↓reduceIte, Nat.reduceEqDiff])
  refine hK1 _ _ ?_
  refine wp_seq_k (fun K8 hK8 => ?_)
  refine wp_seq_k (fun K9 hK9 => ?_)
  refine wp_region_lit ?_
  refine wpList_plain rfl (fun Ko hKo => ?_)
  go_simp
  refine hKo _ _ ?_
  clear hKo Ko
  try simp only [Act.put, nm1, nm2, nm3, i64_w]
  refine wpList_nil ?_
  (try simp only [Exit.then, Exit.inBlock, ↓reduceIte, Nat.reduceEqDiff])
  refine hK9 _ _ ?_
  refine wp_block ?_
  refine wp_seq_k (fun K10 hK10 => ?_)
  refine wp_region_lit ?_
  refine wpList_plain rfl (fun Ko hKo => ?_)
  go_simp
  refine hKo _ _ ?_
  clear hKo Ko
  try simp only [Act.put, nm1, nm2, nm3, i64_w]
  refine wpList_plain rfl (fun Ko hKo => ?_)
  go_simp
  refine hKo _ _ ?_
  clear hKo Ko
  try simp only [Act.put, nm1, nm2, nm3, i64_w]
  refine wpList_nil ?_
  (try simp only [Exit.then, Exit.inBlock, ↓reduceIte, Nat.reduceEqDiff])
  refine hK10 _ _ ?_
  refine wp_cond_true rfl ?_
  refine wp_seq_k (fun K12 hK12 => ?_)
  refine wp_region_lit ?_
  refine wpList_plain rfl (fun Ko hKo => ?_)
  go_simp
  refine hKo _ _ ?_
  clear hKo Ko
  try simp only [Act.put, nm1, nm2, nm3, i64_w]
  refine wpList_plain rfl (fun Ko hKo => ?_)
  go_simp
  refine hKo _ _ ?_
  clear hKo Ko
  try simp only [Act.put, nm1, nm2, nm3, i64_w]
  have cl0 := (hb2.up hu7.out).cell (o := 0) rfl
  refine wpList_plain rfl (fun Ko hKo => ?_)
  go_simp
  refine hKo _ _ ?_
  clear hKo Ko
  clear cl0
  try simp only [Act.put, nm1, nm2, nm3, i64_w]
  refine wpList_plain rfl (fun Ko hKo => ?_)
  go_simp
  refine hKo _ _ ?_
  clear hKo Ko
  try simp only [Act.put, nm1, nm2, nm3, i64_w]
  have cl0 := hb5.cell (o := 0) rfl
  refine wpList_plain rfl (fun Ko hKo => ?_)
  go_simp
  refine hKo _ _ ?_
  clear hKo Ko
  clear cl0
  try simp only [Act.put, nm1, nm2, nm3, i64_w]
  refine wpList_plain rfl (fun Ko hKo => ?_)
  go_simp
  refine hKo _ _ ?_
  clear hKo Ko
  try simp only [Act.put, nm1, nm2, nm3, i64_w]
  refine wpList_plain rfl (fun Ko hKo => ?_)
  go_simp
  refine hKo _ _ ?_
  clear hKo Ko
  try simp only [Act.put, nm1, nm2, nm3, i64_w]
  have cl0 := (hb2.up hu7.out).cell (o := 1) rfl
  refine wpList_plain rfl (fun Ko hKo => ?_)
  go_simp
  refine hKo _ _ ?_
  clear hKo Ko
  clear cl0
  try simp only [Act.put, nm1, nm2, nm3, i64_w]
  refine wpList_plain rfl (fun Ko hKo => ?_)
  go_simp
  refine hKo _ _ ?_
  clear hKo Ko
  try simp only [Act.put, nm1, nm2, nm3, i64_w]
  have cl0 := hb5.cell (o := 1) rfl
  refine wpList_plain rfl (fun Ko hKo => ?_)
  go_simp
  refine hKo _ _ ?_
  clear hKo Ko
  clear cl0
  try simp only [Act.put, nm1, nm2, nm3, i64_w]
  refine wpList_plain rfl (fun Ko hKo => ?_)
  go_simp
  refine hKo _ _ ?_
  clear hKo Ko
  try simp only [Act.put, nm1, nm2, nm3, i64_w]
  refine wpList_plain rfl (fun Ko hKo => ?_)
  go_simp
  refine hKo _ _ ?_
  clear hKo Ko
  try simp only [Act.put, nm1, nm2, nm3, i64_w]
  refine step_call (wanted_none rfl) (by first | (go_simp; done) | (go_simp; rfl)) (impl_rest.calls K a0 (wrap64 ((wrap64 (a2_0 * a3_0)) + (wrap64 (a2_1 * a3_1)))) t13 w6  A14.out) ?_
  rintro e w15 ⟨rfl, hu⟩
  have hu16 := Aside0.mk hu
  clear hu
  refine ⟨_, rfl, ?_⟩
  simp only [Act.put, nm1, nm2, nm3, i64_w]
  refine wpList_plain rfl (fun Ko hKo => ?_)
  go_simp
  refine hKo _ _ ?_
  clear hKo Ko
  try simp only [Act.put, nm1, nm2, nm3, i64_w]
  refine wpList_nil ?_
  (try simp only [Exit.then, Exit.inBlock, ↓reduceIte, Nat.reduceEqDiff])
  refine hK12 _ _ ?_
  refine wp_ret ?_
  (try simp only [Exit.then, Exit.inBlock, ↓reduceIte, Nat.reduceEqDiff])
  refine hQf _ _ _ ?_
  exact bodyPost_ret (v := .int .i64 t13) (by first | rfl | (simp [results, Tryd.results44, go_sem]; done) | (simp [results, Tryd.results44, go_sem]; rfl)) rfl ⟨rfl, ((hu4.out.trans hu7.out).trans hu16.out)⟩
 ·
  rw [if_neg c11] at H
  replace c11 := Bool.eq_false_iff.mpr c11
  have c11n : (a1 != 0) = true := by rw [bne, c11]; rfl
  have c11p : ¬ a1 = 0 := fun e => by simp [e] at c11
  by_cases c18 : (a1 == 1) = true
  ·
   rw [if_pos c18] at H
   have c18n : (a1 != 1) = false := by rw [bne, c18]; rfl
   replace H := Option.bind_eq_some_iff.mp H
   obtain ⟨t20, A21, H⟩ := H
   replace A21 := Aside0.mk A21
   try dsimp only at H
   obtain rfl := Option.some.inj H
   go_enter Tryd.func44, Tryd.ntmps44
   refine wp_hide (fun Qf hQf => ?_)
   refine wp_seq_k (fun K1 hK1 => ?_)
   refine wp_region_lit ?_
   refine step_new (cs := [.int .i64 a2_0, .int .i64 a2_1]) (T := 28) (f := fun b => .pointer (some ⟨b, 0, none⟩)) rfl (by first | (go_simp; done) | (go_simp; rfl)) ?_
   intro b2 w3 hu lb hb2
   simp only [Act.put, nm1, nm2, nm3, i64_w]
   have lbb2 := Aside0.mk lb
   have ltb2 := Aside0.mk hb2.lt
   clear lb
   have hu4 := Aside0.mk hu
   clear hu
   refine step_new (cs := [.int .i64 a3_0, .int .i64 a3_1]) (T := 28) (f := fun b => .pointer (some ⟨b, 0, none⟩)) rfl (by first | (go_simp; done) | (go_simp; rfl)) ?_
   intro b5 w6 hu lb hb5
   simp only [Act.put, nm1, nm2, nm3, i64_w]
   have lbb5 := Aside0.mk lb
   have ltb5 := Aside0.mk hb5.lt
   clear lb
   have hu7 := Aside0.mk hu
   clear hu
   refine wpList_plain rfl (fun Ko hKo => ?_)
   go_simp
   refine hKo _ _ ?_
   clear hKo Ko
   try simp only [Act.put, nm1, nm2, nm3, i64_w]
   refine wpList_nil ?_
   (try simp only [Exit.then, Exit.inBlock, ↓reduceIte, Nat.reduceEqDiff])
   refine hK1 _ _ ?_
   refine wp_seq_k (fun K8 hK8 => ?_)
   refine wp_seq_k (fun K9 hK9 => ?_)
   refine wp_region_lit ?_
   refine wpList_plain rfl (fun Ko hKo => ?_)
   go_simp
   refine hKo _ _ ?_
   clear hKo Ko
   try simp only [Act.put, nm1, nm2, nm3, i64_w]
   refine wpList_nil ?_
   (try simp only [Exit.then, Exit.inBlock, ↓reduceIte, Nat.reduceEqDiff])
   refine hK9 _ _ ?_
   refine wp_block ?_
   refine wp_seq_k (fun K10 hK10 => ?_)
   refine wp_region_lit ?_
   refine wpList_plain rfl (fun Ko hKo => ?_)
   go_simp
   refine hKo _ _ ?_
   clear hKo Ko
   try simp only [Act.put, nm1, nm2, nm3, i64_w]
   refine wpList_plain rfl (fun Ko hKo => ?_)
   go_simp
   refine hKo _ _ ?_
   clear hKo Ko
   try simp only [Act.put, nm1, nm2, nm3, i64_w]
   refine wpList_nil ?_
   (try simp only [Exit.then, Exit.inBlock, ↓reduceIte, Nat.reduceEqDiff])
   refine hK10 _ _ ?_
   refine wp_cond_false rfl ?_
   refine wp_seq_k (fun K17 hK17 => ?_)
   refine wp_region_lit ?_
   refine wpList_plain rfl (fun Ko hKo => ?_)
   go_simp
   refine hKo _ _ ?_
   clear hKo Ko
   try simp only [Act.put, nm1, nm2, nm3, i64_w]
   refine wpList_plain rfl (fun Ko hKo => ?_)
   go_simp
   refine hKo _ _ ?_
   clear hKo Ko
   try simp only [Act.put, nm1, nm2, nm3, i64_w]
   refine wpList_nil ?_
   (try simp only [Exit.then, Exit.inBlock, ↓reduceIte, Nat.reduceEqDiff])
   refine hK17 _ _ ?_
   refine wp_cond_true rfl ?_
   refine wp_seq_k (fun K19 hK19 => ?_)
   refine wp_region_lit ?_
   refine wpList_plain rfl (fun Ko hKo => ?_)
   go_simp
   refine hKo _ _ ?_
   clear hKo Ko
   try simp only [Act.put, nm1, nm2, nm3, i64_w]
   refine wpList_plain rfl (fun Ko hKo => ?_)
   go_simp
   refine hKo _ _ ?_
   clear hKo Ko
   try simp only [Act.put, nm1, nm2, nm3, i64_w]
   have cl0 := (hb2.up hu7.out).cell (o := 0) rfl
   refine wpList_plain rfl (fun Ko hKo => ?_)
   go_simp
   refine hKo _ _ ?_
   clear hKo Ko
   clear cl0
   try simp only [Act.put, nm1, nm2, nm3, i64_w]
   refine wpList_plain rfl (fun Ko hKo => ?_)
   go_simp
   refine hKo _ _ ?_
   clear hKo Ko
   try simp only [Act.put, nm1, nm2, nm3, i64_w]
   have cl0 := hb5.cell (o := 0) rfl
   refine wpList_plain rfl (fun Ko hKo => ?_)
   go_simp
   refine hKo _ _ ?_
   clear hKo Ko
   clear cl0
   try simp only [Act.put, nm1, nm2, nm3, i64_w]
   refine wpList_plain rfl (fun Ko hKo => ?_)
   go_simp
   refine hKo _ _ ?_
   clear hKo Ko
   try simp only [Act.put, nm1, nm2, nm3, i64_w]
   refine wpList_plain rfl (fun Ko hKo => ?_)
   go_simp
   refine hKo _ _ ?_
   clear hKo Ko
   try simp only [Act.put, nm1, nm2, nm3, i64_w]
   have cl0 := (hb2.up hu7.out).cell (o := 1) rfl
   refine wpList_plain rfl (fun Ko hKo => ?_)
   go_simp
   refine hKo _ _ ?_
   clear hKo Ko
   clear cl0
   try simp only [Act.put, nm1, nm2, nm3, i64_w]
   refine wpList_plain rfl (fun Ko hKo => ?_)
   go_simp
   refine hKo _ _ ?_
   clear hKo Ko
   try simp only [Act.put, nm1, nm2, nm3, i64_w]
   have cl0 := hb5.cell (o := 1) rfl
   refine wpList_plain rfl (fun Ko hKo => ?_)
   go_simp
   refine hKo _ _ ?_
   clear hKo Ko
   clear cl0
   try simp only [Act.put, nm1, nm2, nm3, i64_w]
   refine wpList_plain rfl (fun Ko hKo => ?_)
   go_simp
   refine hKo _ _ ?_
   clear hKo Ko
   try simp only [Act.put, nm1, nm2, nm3, i64_w]
   refine wpList_plain rfl (fun Ko hKo => ?_)
   go_simp
   refine hKo _ _ ?_
   clear hKo Ko
   try simp only [Act.put, nm1, nm2, nm3, i64_w]
   refine step_call (wanted_none rfl) (by first | (go_simp; done) | (go_simp; rfl)) (impl_rest.calls K a0 (wrap64 ((wrap64 (a2_0 * a3_0)) - (wrap64 (a2_1 * a3_1)))) t20 w6  A21.out) ?_
   rintro e w22 ⟨rfl, hu⟩
   have hu23 := Aside0.mk hu
   clear hu
   refine ⟨_, rfl, ?_⟩
   simp only [Act.put, nm1, nm2, nm3, i64_w]
   refine wpList_plain rfl (fun Ko hKo => ?_)
   go_simp
   refine hKo _ _ ?_
   clear hKo Ko
   try simp only [Act.put, nm1, nm2, nm3, i64_w]
   refine wpList_nil ?_
   (try simp only [Exit.then, Exit.inBlock, ↓reduceIte, Nat.reduceEqDiff])
   refine hK19 _ _ ?_
   refine wp_ret ?_
   (try simp only [Exit.then, Exit.inBlock, ↓reduceIte, Nat.reduceEqDiff])
   refine hQf _ _ _ ?_
   exact bodyPost_ret (v := .int .i64 t20) (by first | rfl | (simp [results, Tryd.results44, go_sem]; done) | (simp [results, Tryd.results44, go_sem]; rfl)) rfl ⟨rfl, ((hu4.out.trans hu7.out).trans hu23.out)⟩
  ·
   rw [if_neg c18] at H
   replace c18 := Bool.eq_false_iff.mpr c18
   have c18n : (a1 != 1) = true := by rw [bne, c18]; rfl
   have c18p : ¬ a1 = 1 := fun e => by simp [e] at c18
   replace H := Option.bind_eq_some_iff.mp H
   obtain ⟨t25, A26, H⟩ := H
   replace A26 := Aside0.mk A26
   try dsimp only at H
   obtain rfl := Option.some.inj H
   go_enter Tryd.func44, Tryd.ntmps44
   refine wp_hide (fun Qf hQf => ?_)
   refine wp_seq_k (fun K1 hK1 => ?_)
   refine wp_region_lit ?_
   refine step_new (cs := [.int .i64 a2_0, .int .i64 a2_1]) (T := 28) (f := fun b => .pointer (some ⟨b, 0, none⟩)) rfl (by first | (go_simp; done) | (go_simp; rfl)) ?_
   intro b2 w3 hu lb hb2
   simp only [Act.put, nm1, nm2, nm3, i64_w]
   have lbb2 := Aside0.mk lb
   have ltb2 := Aside0.mk hb2.lt
   clear lb
   have hu4 := Aside0.mk hu
   clear hu
   refine step_new (cs := [.int .i64 a3_0, .int .i64 a3_1]) (T := 28) (f := fun b => .pointer (some ⟨b, 0, none⟩)) rfl (by first | (go_simp; done) | (go_simp; rfl)) ?_
   intro b5 w6 hu lb hb5
   simp only [Act.put, nm1, nm2, nm3, i64_w]
   have lbb5 := Aside0.mk lb
   have ltb5 := Aside0.mk hb5.lt
   clear lb
   have hu7 := Aside0.mk hu
   clear hu
   refine wpList_plain rfl (fun Ko hKo => ?_)
   go_simp
   refine hKo _ _ ?_
   clear hKo Ko
   try simp only [Act.put, nm1, nm2, nm3, i64_w]
   refine wpList_nil ?_
   (try simp only [Exit.then, Exit.inBlock, ↓reduceIte, Nat.reduceEqDiff])
   refine hK1 _ _ ?_
   refine wp_seq_k (fun K8 hK8 => ?_)
   refine wp_seq_k (fun K9 hK9 => ?_)
   refine wp_region_lit ?_
   refine wpList_plain rfl (fun Ko hKo => ?_)
   go_simp
   refine hKo _ _ ?_
   clear hKo Ko
   try simp only [Act.put, nm1, nm2, nm3, i64_w]
   refine wpList_nil ?_
   (try simp only [Exit.then, Exit.inBlock, ↓reduceIte, Nat.reduceEqDiff])
   refine hK9 _ _ ?_
   refine wp_block ?_
   refine wp_seq_k (fun K10 hK10 => ?_)
   refine wp_region_lit ?_
   refine wpList_plain rfl (fun Ko hKo => ?_)
   go_simp
   refine hKo _ _ ?_
   clear hKo Ko
   try simp only [Act.put, nm1, nm2, nm3, i64_w]
   refine wpList_plain rfl (fun Ko hKo => ?_)
   go_simp
   refine hKo _ _ ?_
   clear hKo Ko
   try simp only [Act.put, nm1, nm2, nm3, i64_w]
   refine wpList_nil ?_
   (try simp only [Exit.then, Exit.inBlock, ↓reduceIte, Nat.reduceEqDiff])
   refine hK10 _ _ ?_
   refine wp_cond_false rfl ?_
   refine wp_seq_k (fun K17 hK17 => ?_)
   refine wp_region_lit ?_
   refine wpList_plain rfl (fun Ko hKo => ?_)
   go_simp
   refine hKo _ _ ?_
   clear hKo Ko
   try simp only [Act.put, nm1, nm2, nm3, i64_w]
   refine wpList_plain rfl (fun Ko hKo => ?_)
   go_simp
   refine hKo _ _ ?_
   clear hKo Ko
   try simp only [Act.put, nm1, nm2, nm3, i64_w]
   refine wpList_nil ?_
   (try simp only [Exit.then, Exit.inBlock, ↓reduceIte, Nat.reduceEqDiff])
   refine hK17 _ _ ?_
   refine wp_cond_false rfl ?_
   refine wp_skip ?_
   (try simp only [Exit.then, Exit.inBlock, ↓reduceIte, Nat.reduceEqDiff])
   refine hK8 _ _ ?_
   refine wp_seq_k (fun K24 hK24 => ?_)
   refine wp_region_lit ?_
   refine wpList_plain rfl (fun Ko hKo => ?_)
   go_simp
   refine hKo _ _ ?_
   clear hKo Ko
   try simp only [Act.put, nm1, nm2, nm3, i64_w]
   refine wpList_plain rfl (fun Ko hKo => ?_)
   go_simp
   refine hKo _ _ ?_
   clear hKo Ko
   try simp only [Act.put, nm1, nm2, nm3, i64_w]
   have cl0 := (hb2.up hu7.out).cell (o := 0) rfl
   refine wpList_plain rfl (fun Ko hKo => ?_)
   go_simp
   refine hKo _ _ ?_
   clear hKo Ko
   clear cl0
   try simp only [Act.put, nm1, nm2, nm3, i64_w]
   refine wpList_plain rfl (fun Ko hKo => ?_)
   go_simp
   refine hKo _ _ ?_
   clear hKo Ko
   try simp only [Act.put, nm1, nm2, nm3, i64_w]
   have cl0 := hb5.cell (o := 1) rfl
   refine wpList_plain rfl (fun Ko hKo => ?_)
   go_simp
   refine hKo _ _ ?_
   clear hKo Ko
   clear cl0
   try simp only [Act.put, nm1, nm2, nm3, i64_w]
   refine wpList_plain rfl (fun Ko hKo => ?_)
   go_simp
   refine hKo _ _ ?_
   clear hKo Ko
   try simp only [Act.put, nm1, nm2, nm3, i64_w]
   refine wpList_plain rfl (fun Ko hKo => ?_)
   go_simp
   refine hKo _ _ ?_
   clear hKo Ko
   try simp only [Act.put, nm1, nm2, nm3, i64_w]
   have cl0 := (hb2.up hu7.out).cell (o := 1) rfl
   refine wpList_plain rfl (fun Ko hKo => ?_)
   go_simp
   refine hKo _ _ ?_
   clear hKo Ko
   clear cl0
   try simp only [Act.put, nm1, nm2, nm3, i64_w]
   refine wpList_plain rfl (fun Ko hKo => ?_)
   go_simp
   refine hKo _ _ ?_
   clear hKo Ko
   try simp only [Act.put, nm1, nm2, nm3, i64_w]
   have cl0 := hb5.cell (o := 0) rfl
   refine wpList_plain rfl (fun Ko hKo => ?_)
   go_simp
   refine hKo _ _ ?_
   clear hKo Ko
   clear cl0
   try simp only [Act.put, nm1, nm2, nm3, i64_w]
   refine wpList_plain rfl (fun Ko hKo => ?_)
   go_simp
   refine hKo _ _ ?_
   clear hKo Ko
   try simp only [Act.put, nm1, nm2, nm3, i64_w]
   refine wpList_plain rfl (fun Ko hKo => ?_)
   go_simp
   refine hKo _ _ ?_
   clear hKo Ko
   try simp only [Act.put, nm1, nm2, nm3, i64_w]
   refine step_call (wanted_none rfl) (by first | (go_simp; done) | (go_simp; rfl)) (impl_rest.calls K a0 (wrap64 ((wrap64 (a2_0 * a3_1)) + (wrap64 (a2_1 * a3_0)))) t25 w6  A26.out) ?_
   rintro e w27 ⟨rfl, hu⟩
   have hu28 := Aside0.mk hu
   clear hu
   refine ⟨_, rfl, ?_⟩
   simp only [Act.put, nm1, nm2, nm3, i64_w]
   refine wpList_plain rfl (fun Ko hKo => ?_)
   go_simp
   refine hKo _ _ ?_
   clear hKo Ko
   try simp only [Act.put, nm1, nm2, nm3, i64_w]
   refine wpList_nil ?_
   (try simp only [Exit.then, Exit.inBlock, ↓reduceIte, Nat.reduceEqDiff])
   refine hK24 _ _ ?_
   refine wp_ret ?_
   (try simp only [Exit.then, Exit.inBlock, ↓reduceIte, Nat.reduceEqDiff])
   refine hQf _ _ _ ?_
   exact bodyPost_ret (v := .int .i64 t25) (by first | rfl | (simp [results, Tryd.results44, go_sem]; done) | (simp [results, Tryd.results44, go_sem]; rfl)) rfl ⟨rfl, ((hu4.out.trans hu7.out).trans hu28.out)⟩

set_option maxHeartbeats 4000000 in
set_option maxRecDepth 100000 in
theorem impl_keeps.calls (K : Nat) (a0 : Int) (a1 : Int) (a2_0 : Int) (a2_1 : Int) (a2_2 : Int) (a2_3 : Int) (r0 : Bool) (w : World)  (h : impl_keeps.f K a0 a1 a2_0 a2_1 a2_2 a2_3 = some (r0)) :
    Calls Tryd.prog 30 #[.int .i64 a0, .int .i64 a1, .agg #[.int .i64 a2_0, .int .i64 a2_1, .int .i64 a2_2, .int .i64 a2_3]] w fun e w' => e = .returned (.bool r0) ∧ Up w w' := by
 have H : (((impl_turned.f K a0 a2_0 a2_1 a2_2 a2_3 1 0).bind fun (t22, t23) => ((impl_product.f K a0 a1 1 0 1 0).bind fun t34 => ((impl_product.f K a0 a1 t22 t23 t22 t23).bind fun t36 => (if (t34 == t36) = true then ((impl_turned.f K a0 a2_0 a2_1 a2_2 a2_3 0 1).bind fun (t53, t54) => ((impl_product.f K a0 a1 0 1 0 1).bind fun t65 => ((impl_product.f K a0 a1 t53 t54 t53 t54).bind fun t67 => (if (t65 == t67) = true then ((impl_turned.f K a0 a2_0 a2_1 a2_2 a2_3 1 1).bind fun (t84, t85) => ((impl_product.f K a0 a1 1 1 1 1).bind fun t96 => ((impl_product.f K a0 a1 t84 t85 t84 t85).bind fun t98 => (if (t96 == t98) = true then some true else some false)))) else some false)))) else some false)))) : Option (Bool)) = some (r0) := h
 clear h
 replace H := Option.bind_eq_some_iff.mp H
 obtain ⟨⟨t22, t23⟩, A24, H⟩ := H
 replace A24 := Aside0.mk A24
 try dsimp only at H
 replace H := Option.bind_eq_some_iff.mp H
 obtain ⟨t34, A35, H⟩ := H
 replace A35 := Aside0.mk A35
 try dsimp only at H
 replace H := Option.bind_eq_some_iff.mp H
 obtain ⟨t36, A37, H⟩ := H
 replace A37 := Aside0.mk A37
 try dsimp only at H
 by_cases c40 : (t34 == t36) = true
 ·
  rw [if_pos c40] at H
  have c40n : (t34 != t36) = false := by rw [bne, c40]; rfl
  replace H := Option.bind_eq_some_iff.mp H
  obtain ⟨⟨t53, t54⟩, A55, H⟩ := H
  replace A55 := Aside0.mk A55
  try dsimp only at H
  replace H := Option.bind_eq_some_iff.mp H
  obtain ⟨t65, A66, H⟩ := H
  replace A66 := Aside0.mk A66
  try dsimp only at H
  replace H := Option.bind_eq_some_iff.mp H
  obtain ⟨t67, A68, H⟩ := H
  replace A68 := Aside0.mk A68
  try dsimp only at H
  by_cases c71 : (t65 == t67) = true
  ·
   rw [if_pos c71] at H
   have c71n : (t65 != t67) = false := by rw [bne, c71]; rfl
   replace H := Option.bind_eq_some_iff.mp H
   obtain ⟨⟨t84, t85⟩, A86, H⟩ := H
   replace A86 := Aside0.mk A86
   try dsimp only at H
   replace H := Option.bind_eq_some_iff.mp H
   obtain ⟨t96, A97, H⟩ := H
   replace A97 := Aside0.mk A97
   try dsimp only at H
   replace H := Option.bind_eq_some_iff.mp H
   obtain ⟨t98, A99, H⟩ := H
   replace A99 := Aside0.mk A99
   try dsimp only at H
   by_cases c102 : (t96 == t98) = true
   ·
    rw [if_pos c102] at H
    have c102n : (t96 != t98) = false := by rw [bne, c102]; rfl
    obtain rfl := Option.some.inj H
    go_enter Tryd.func30, Tryd.ntmps30
    refine wp_hide (fun Qf hQf => ?_)
    refine wp_seq_k (fun K1 hK1 => ?_)
    refine wp_region_lit ?_
    refine step_new (cs := [.int .i64 a2_0, .int .i64 a2_1, .int .i64 a2_2, .int .i64 a2_3]) (T := 22) (f := fun b => .pointer (some ⟨b, 0, none⟩)) rfl (by first | (go_simp; done) | (go_simp; rfl)) ?_
    intro b2 w3 hu lb hb2
    simp only [Act.put, nm1, nm2, nm3, i64_w]
    have lbb2 := Aside0.mk lb
    have ltb2 := Aside0.mk hb2.lt
    clear lb
    have hu4 := Aside0.mk hu
    clear hu
    refine wpList_plain rfl (fun Ko hKo => ?_)
    go_simp
    refine hKo _ _ ?_
    clear hKo Ko
    try simp only [Act.put, nm1, nm2, nm3, i64_w]
    refine wpList_nil ?_
    (try simp only [Exit.then, Exit.inBlock, ↓reduceIte, Nat.reduceEqDiff])
    refine hK1 _ _ ?_
    refine wp_seq_k (fun K5 hK5 => ?_)
    refine wp_seq_k (fun K6 hK6 => ?_)
    refine wp_region_lit ?_
    refine wpList_plain rfl (fun Ko hKo => ?_)
    go_simp
    refine hKo _ _ ?_
    clear hKo Ko
    try simp only [Act.put, nm1, nm2, nm3, i64_w]
    refine wpList_plain rfl (fun Ko hKo => ?_)
    go_simp
    refine hKo _ _ ?_
    clear hKo Ko
    try simp only [Act.put, nm1, nm2, nm3, i64_w]
    refine wpList_plain rfl (fun Ko hKo => ?_)
    go_simp
    refine hKo _ _ ?_
    clear hKo Ko
    try simp only [Act.put, nm1, nm2, nm3, i64_w]
    refine step_new (cs := [.int .i64 1, .int .i64 0, .int .i64 0, .int .i64 1, .int .i64 1, .int .i64 1]) (T := 28) (f := fun b => .slice (some ⟨b, 0, none⟩) 3 3) rfl (by first | (go_simp; done) | (go_simp; rfl)) ?_
    intro b7 w8 hu lb hb7
    simp only [Act.put, nm1, nm2, nm3, i64_w]
    have lbb7 := Aside0.mk lb
    have ltb7 := Aside0.mk hb7.lt
    clear lb
    have hu9 := Aside0.mk hu
    clear hu
    refine wpList_plain rfl (fun Ko hKo => ?_)
    go_simp
    refine hKo _ _ ?_
    clear hKo Ko
    try simp only [Act.put, nm1, nm2, nm3, i64_w]
    refine wpList_plain rfl (fun Ko hKo => ?_)
    go_simp
    refine hKo _ _ ?_
    clear hKo Ko
    try simp only [Act.put, nm1, nm2, nm3, i64_w]
    refine wpList_nil ?_
    (try simp only [Exit.then, Exit.inBlock, ↓reduceIte, Nat.reduceEqDiff])
    refine hK6 _ _ ?_
    refine wp_block ?_
    refine wp_loop_rounds 40 ?_
    refine rounds_k (fun K10 hK10 => ?_)
    refine wp_seq_k (fun K11 hK11 => ?_)
    refine wp_region_lit ?_
    refine wpList_plain rfl (fun Ko hKo => ?_)
    go_simp
    refine hKo _ _ ?_
    clear hKo Ko
    try simp only [Act.put, nm1, nm2, nm3, i64_w]
    refine wpList_nil ?_
    (try simp only [Exit.then, Exit.inBlock, ↓reduceIte, Nat.reduceEqDiff])
    refine hK11 _ _ ?_
    refine wp_seq_k (fun K12 hK12 => ?_)
    refine wp_cond_true rfl ?_
    refine wp_skip ?_
    (try simp only [Exit.then, Exit.inBlock, ↓reduceIte, Nat.reduceEqDiff])
    refine hK12 _ _ ?_
    refine wp_seq_k (fun K13 hK13 => ?_)
    refine wp_block ?_
    refine wp_seq_k (fun K14 hK14 => ?_)
    refine wp_region_lit ?_
    refine wpList_plain rfl (fun Ko hKo => ?_)
    go_simp
    refine hKo _ _ ?_
    clear hKo Ko
    try simp only [Act.put, nm1, nm2, nm3, i64_w]
    have cl0 := hb7.cell (o := 0) rfl
    have cl1 := hb7.cell (o := 1) rfl
    refine wpList_plain rfl (fun Ko hKo => ?_)
    go_simp
    refine hKo _ _ ?_
    clear hKo Ko
    clear cl0 cl1
    try simp only [Act.put, nm1, nm2, nm3, i64_w]
    refine step_new (cs := [.int .i64 0, .int .i64 0]) (T := 28) (f := fun b => .pointer (some ⟨b, 0, none⟩)) rfl (by first | (go_simp; done) | (go_simp; rfl)) ?_
    intro b15 w16 hu lb hb15
    simp only [Act.put, nm1, nm2, nm3, i64_w]
    have lbb15 := Aside0.mk lb
    have ltb15 := Aside0.mk hb15.lt
    clear lb
    have hu17 := Aside0.mk hu
    clear hu
    have hB0 := hb15
    have cl0 := hB0.cell (o := 0) rfl
    have fr0 := hB0.free 0
    have cl1 := hB0.cell (o := 1) rfl
    have fr1 := hB0.free 1
    refine step_store (b := b15) (cs' := [.int .i64 1, .int .i64 0]) (T := 28) (W' := ((w16.setCell ⟨b15, 0, none⟩ (.int .i64 1)).setCell ⟨b15, 1, none⟩ (.int .i64 0))) rfl rfl (by first | (go_simp; done) | (go_simp; rfl)) (((Sto.refl _ _).setCell 0 _).setCell 1 _) (((hB0).setCell 0 _).setCell 1 _) ?_
    clear hB0 cl0 fr0 cl1 fr1
    intro w18 hs hb20
    have hs19 := Aside0.mk hs
    clear hs
    refine wpList_nil ?_
    (try simp only [Exit.then, Exit.inBlock, ↓reduceIte, Nat.reduceEqDiff])
    refine hK14 _ _ ?_
    refine wp_seq_k (fun K21 hK21 => ?_)
    refine wp_region_lit ?_
    refine wpList_plain rfl (fun Ko hKo => ?_)
    go_simp
    refine hKo _ _ ?_
    clear hKo Ko
    try simp only [Act.put, nm1, nm2, nm3, i64_w]
    have cl0 := (hb2.up ((hu9.out.trans hu17.out).sto (Nat.le_trans (hu9.out.size) lbb15.out) hs19.out)).cell (o := 0) rfl
    have cl1 := (hb2.up ((hu9.out.trans hu17.out).sto (Nat.le_trans (hu9.out.size) lbb15.out) hs19.out)).cell (o := 1) rfl
    have cl2 := (hb2.up ((hu9.out.trans hu17.out).sto (Nat.le_trans (hu9.out.size) lbb15.out) hs19.out)).cell (o := 2) rfl
    have cl3 := (hb2.up ((hu9.out.trans hu17.out).sto (Nat.le_trans (hu9.out.size) lbb15.out) hs19.out)).cell (o := 3) rfl
    refine wpList_plain rfl (fun Ko hKo => ?_)
    go_simp
    refine hKo _ _ ?_
    clear hKo Ko
    clear cl0 cl1 cl2 cl3
    try simp only [Act.put, nm1, nm2, nm3, i64_w]
    have cl0 := hb20.cell (o := 0) rfl
    have cl1 := hb20.cell (o := 1) rfl
    refine wpList_plain rfl (fun Ko hKo => ?_)
    go_simp
    refine hKo _ _ ?_
    clear hKo Ko
    clear cl0 cl1
    try simp only [Act.put, nm1, nm2, nm3, i64_w]
    refine step_call (wanted_none rfl) (by first | (go_simp; done) | (go_simp; rfl)) (impl_turned.calls K a0 a2_0 a2_1 a2_2 a2_3 1 0 t22 t23 w18  A24.out) ?_
    rintro e w25 ⟨rfl, hu⟩
    have hu26 := Aside0.mk hu
    clear hu
    refine ⟨_, rfl, ?_⟩
    simp only [Act.put, nm1, nm2, nm3, i64_w]
    refine step_new (cs := [.int .i64 0, .int .i64 0]) (T := 28) (f := fun b => .pointer (some ⟨b, 0, none⟩)) rfl (by first | (go_simp; done) | (go_simp; rfl)) ?_
    intro b27 w28 hu lb hb27
    simp only [Act.put, nm1, nm2, nm3, i64_w]
    have lbb27 := Aside0.mk lb
    have ltb27 := Aside0.mk hb27.lt
    clear lb
    have hu29 := Aside0.mk hu
    clear hu
    have hB0 := hb27
    have cl0 := hB0.cell (o := 0) rfl
    have fr0 := hB0.free 0
    have cl1 := hB0.cell (o := 1) rfl
    have fr1 := hB0.free 1
    refine step_store (b := b27) (cs' := [.int .i64 t22, .int .i64 t23]) (T := 28) (W' := ((w28.setCell ⟨b27, 0, none⟩ (.int .i64 t22)).setCell ⟨b27, 1, none⟩ (.int .i64 t23))) rfl rfl (by first | (go_simp; done) | (go_simp; rfl)) (((Sto.refl _ _).setCell 0 _).setCell 1 _) (((hB0).setCell 0 _).setCell 1 _) ?_
    clear hB0 cl0 fr0 cl1 fr1
    intro w30 hs hb32
    have hs31 := Aside0.mk hs
    clear hs
    refine wpList_nil ?_
    (try simp only [Exit.then, Exit.inBlock, ↓reduceIte, Nat.reduceEqDiff])
    refine hK21 _ _ ?_
    refine wp_seq_k (fun K33 hK33 => ?_)
    refine' wp_region_up 11 [Slot.det _, Slot.det _, Slot.det _, Slot.det _, Slot.det (.int .i64 t34), Slot.det _, Slot.det _, Slot.det _, Slot.det _, Slot.det (.int .i64 t36), Slot.det _] (by kernel_rfl) (by kernel_rfl) ?main
    case main =>
     simp only [List.take_succ_cons, List.take_zero]
     refine wpK_ops rfl (fun w1 hu => ?_) ?_
     · clear hu
       go_simp
       first | done | rfl
     simp only [Act.put, nm1, nm2, nm3, i64_w]
     refine wpK_ops rfl (fun w1 hu => ?_) ?_
     · clear hu
       go_simp
       first | done | rfl
     simp only [Act.put, nm1, nm2, nm3, i64_w]
     refine wpK_ops rfl (fun w1 hu => ?_) ?_
     · have cl0 := ((hb20.up ((hu26.out.trans hu29.out).sto (Nat.le_trans (hu26.out.size) lbb27.out) hs31.out)).up ((Up.refl _).drew.trans hu)).cell (o := 0) rfl
       have cl1 := ((hb20.up ((hu26.out.trans hu29.out).sto (Nat.le_trans (hu26.out.size) lbb27.out) hs31.out)).up ((Up.refl _).drew.trans hu)).cell (o := 1) rfl
       go_simp
       first | done | rfl
     simp only [Act.put, nm1, nm2, nm3, i64_w]
     refine wpK_ops rfl (fun w1 hu => ?_) ?_
     · have cl0 := ((hb20.up ((hu26.out.trans hu29.out).sto (Nat.le_trans (hu26.out.size) lbb27.out) hs31.out)).up ((Up.refl _).drew.trans hu)).cell (o := 0) rfl
       have cl1 := ((hb20.up ((hu26.out.trans hu29.out).sto (Nat.le_trans (hu26.out.size) lbb27.out) hs31.out)).up ((Up.refl _).drew.trans hu)).cell (o := 1) rfl
       go_simp
       first | done | rfl
     simp only [Act.put, nm1, nm2, nm3, i64_w]
     refine wpK_ops rfl (fun w1 hu => ?_) ?_
     · have hcl := (impl_product.calls K a0 a1 1 0 1 0 t34 w1  A35.out)
       clear hu
       replace hcl := Aside0.mk hcl
       go_simp
       exact hcl.out
     simp only [Act.put, nm1, nm2, nm3, i64_w]
     refine wpK_ops rfl (fun w1 hu => ?_) ?_
     · clear hu
       go_simp
       first | done | rfl
     simp only [Act.put, nm1, nm2, nm3, i64_w]
     refine wpK_ops rfl (fun w1 hu => ?_) ?_
     · clear hu
       go_simp
       first | done | rfl
     simp only [Act.put, nm1, nm2, nm3, i64_w]
     refine wpK_ops rfl (fun w1 hu => ?_) ?_
     · have cl0 := (hb32.up ((Up.refl _).drew.trans hu)).cell (o := 0) rfl
       have cl1 := (hb32.up ((Up.refl _).drew.trans hu)).cell (o := 1) rfl
       go_simp
       first | done | rfl
     simp only [Act.put, nm1, nm2, nm3, i64_w]
     refine wpK_ops rfl (fun w1 hu => ?_) ?_
     · have cl0 := (hb32.up ((Up.refl _).drew.trans hu)).cell (o := 0) rfl
       have cl1 := (hb32.up ((Up.refl _).drew.trans hu)).cell (o := 1) rfl
       go_simp
       first | done | rfl
     simp only [Act.put, nm1, nm2, nm3, i64_w]
     refine wpK_ops rfl (fun w1 hu => ?_) ?_
     · have hcl := (impl_product.calls K a0 a1 t22 t23 t22 t23 t36 w1  A37.out)
       clear hu
       replace hcl := Aside0.mk hcl
       go_simp
       exact hcl.out
     simp only [Act.put, nm1, nm2, nm3, i64_w]
     refine wpK_ops rfl (fun w1 hu => ?_) ?_
     · clear hu
       go_simp
       first | done | rfl
     simp only [Act.put, nm1, nm2, nm3, i64_w]
     refine wpK_nil ?_
     intro w38 hu hap
     simp only [List.drop_succ_cons, List.drop_zero]
     replace hu := (Up.refl _).drew.trans hu
     clear hap
     have hu39 := Aside0.mk hu
     clear hu
     refine wpList_nil ?_
     (try simp only [Exit.then, Exit.inBlock, ↓reduceIte, Nat.reduceEqDiff])
     refine hK33 _ _ ?_
     refine wp_cond_false rfl ?_
     refine wp_skip ?_
     (try simp only [Exit.then, Exit.inBlock, ↓reduceIte, Nat.reduceEqDiff])
     refine hK13 _ _ ?_
     refine wp_region_lit ?_
     refine wpList_plain rfl (fun Ko hKo => ?_)
     go_simp
     refine hKo _ _ ?_
     clear hKo Ko
     try simp only [Act.put, nm1, nm2, nm3, i64_w]
     try simp only [show wrap64 1 = 1 from wlit rfl]
     refine wpList_plain rfl (fun Ko hKo => ?_)
     go_simp
     refine hKo _ _ ?_
     clear hKo Ko
     try simp only [Act.put, nm1, nm2, nm3, i64_w]
     refine wpList_nil ?_
     (try simp only [Exit.then, Exit.inBlock, ↓reduceIte, Nat.reduceEqDiff])
     refine hK10 _ _ ?_
     refine rounds_k (fun K41 hK41 => ?_)
     refine wp_seq_k (fun K42 hK42 => ?_)
     refine wp_region_lit ?_
     refine wpList_plain rfl (fun Ko hKo => ?_)
     go_simp
     refine hKo _ _ ?_
     clear hKo Ko
     try simp only [Act.put, nm1, nm2, nm3, i64_w]
     refine wpList_nil ?_
     (try simp only [Exit.then, Exit.inBlock, ↓reduceIte, Nat.reduceEqDiff])
     refine hK42 _ _ ?_
     refine wp_seq_k (fun K43 hK43 => ?_)
     refine wp_cond_true rfl ?_
     refine wp_skip ?_
     (try simp only [Exit.then, Exit.inBlock, ↓reduceIte, Nat.reduceEqDiff])
     refine hK43 _ _ ?_
     refine wp_seq_k (fun K44 hK44 => ?_)
     refine wp_block ?_
     refine wp_seq_k (fun K45 hK45 => ?_)
     refine wp_region_lit ?_
     refine wpList_plain rfl (fun Ko hKo => ?_)
     go_simp
     refine hKo _ _ ?_
     clear hKo Ko
     try simp only [Act.put, nm1, nm2, nm3, i64_w]
     have cl0 := (hb7.up (((((hu17.out.sto (Nat.le_trans (Nat.le_refl _) lbb15.out) hs19.out).trans hu26.out).trans hu29.out).sto (Nat.le_trans ((Nat.le_trans ((Nat.le_trans (hu17.out.size) (Nat.le_of_eq hs19.out.size.symm))) hu26.out.size)) lbb27.out) hs31.out).trans hu39.out)).cell (o := 2) rfl
     have cl1 := (hb7.up (((((hu17.out.sto (Nat.le_trans (Nat.le_refl _) lbb15.out) hs19.out).trans hu26.out).trans hu29.out).sto (Nat.le_trans ((Nat.le_trans ((Nat.le_trans (hu17.out.size) (Nat.le_of_eq hs19.out.size.symm))) hu26.out.size)) lbb27.out) hs31.out).trans hu39.out)).cell (o := 3) rfl
     refine wpList_plain rfl (fun Ko hKo => ?_)
     go_simp
     refine hKo _ _ ?_
     clear hKo Ko
     clear cl0 cl1
     try simp only [Act.put, nm1, nm2, nm3, i64_w]
     refine step_new (cs := [.int .i64 0, .int .i64 0]) (T := 28) (f := fun b => .pointer (some ⟨b, 0, none⟩)) rfl (by first | (go_simp; done) | (go_simp; rfl)) ?_
     intro b46 w47 hu lb hb46
     simp only [Act.put, nm1, nm2, nm3, i64_w]
     have lbb46 := Aside0.mk lb
     have ltb46 := Aside0.mk hb46.lt
     clear lb
     have hu48 := Aside0.mk hu
     clear hu
     have hB0 := hb46
     have cl0 := hB0.cell (o := 0) rfl
     have fr0 := hB0.free 0
     have cl1 := hB0.cell (o := 1) rfl
     have fr1 := hB0.free 1
     refine step_store (b := b46) (cs' := [.int .i64 0, .int .i64 1]) (T := 28) (W' := ((w47.setCell ⟨b46, 0, none⟩ (.int .i64 0)).setCell ⟨b46, 1, none⟩ (.int .i64 1))) rfl rfl (by first | (go_simp; done) | (go_simp; rfl)) (((Sto.refl _ _).setCell 0 _).setCell 1 _) (((hB0).setCell 0 _).setCell 1 _) ?_
     clear hB0 cl0 fr0 cl1 fr1
     intro w49 hs hb51
     have hs50 := Aside0.mk hs
     clear hs
     refine wpList_nil ?_
     (try simp only [Exit.then, Exit.inBlock, ↓reduceIte, Nat.reduceEqDiff])
     refine hK45 _ _ ?_
     refine wp_seq_k (fun K52 hK52 => ?_)
     refine wp_region_lit ?_
     refine wpList_plain rfl (fun Ko hKo => ?_)
     go_simp
     refine hKo _ _ ?_
     clear hKo Ko
     try simp only [Act.put, nm1, nm2, nm3, i64_w]
     have cl0 := (hb2.up ((((((((hu9.out.trans hu17.out).sto (Nat.le_trans (hu9.out.size) lbb15.out) hs19.out).trans hu26.out).trans hu29.out).sto (Nat.le_trans ((Nat.le_trans ((Nat.le_trans ((Nat.le_trans (hu9.out.size) hu17.out.size)) (Nat.le_of_eq hs19.out.size.symm))) hu26.out.size)) lbb27.out) hs31.out).trans hu39.out).trans hu48.out).sto (Nat.le_trans ((Nat.le_trans ((Nat.le_trans ((Nat.le_trans ((Nat.le_trans ((Nat.le_trans ((Nat.le_trans (hu9.out.size) hu17.out.size)) (Nat.le_of_eq hs19.out.size.symm))) hu26.out.size)) hu29.out.size)) (Nat.le_of_eq hs31.out.size.symm))) hu39.out.size)) lbb46.out) hs50.out)).cell (o := 0) rfl
     have cl1 := (hb2.up ((((((((hu9.out.trans hu17.out).sto (Nat.le_trans (hu9.out.size) lbb15.out) hs19.out).trans hu26.out).trans hu29.out).sto (Nat.le_trans ((Nat.le_trans ((Nat.le_trans ((Nat.le_trans (hu9.out.size) hu17.out.size)) (Nat.le_of_eq hs19.out.size.symm))) hu26.out.size)) lbb27.out) hs31.out).trans hu39.out).trans hu48.out).sto (Nat.le_trans ((Nat.le_trans ((Nat.le_trans ((Nat.le_trans ((Nat.le_trans ((Nat.le_trans ((Nat.le_trans (hu9.out.size) hu17.out.size)) (Nat.le_of_eq hs19.out.size.symm))) hu26.out.size)) hu29.out.size)) (Nat.le_of_eq hs31.out.size.symm))) hu39.out.size)) lbb46.out) hs50.out)).cell (o := 1) rfl
     have cl2 := (hb2.up ((((((((hu9.out.trans hu17.out).sto (Nat.le_trans (hu9.out.size) lbb15.out) hs19.out).trans hu26.out).trans hu29.out).sto (Nat.le_trans ((Nat.le_trans ((Nat.le_trans ((Nat.le_trans (hu9.out.size) hu17.out.size)) (Nat.le_of_eq hs19.out.size.symm))) hu26.out.size)) lbb27.out) hs31.out).trans hu39.out).trans hu48.out).sto (Nat.le_trans ((Nat.le_trans ((Nat.le_trans ((Nat.le_trans ((Nat.le_trans ((Nat.le_trans ((Nat.le_trans (hu9.out.size) hu17.out.size)) (Nat.le_of_eq hs19.out.size.symm))) hu26.out.size)) hu29.out.size)) (Nat.le_of_eq hs31.out.size.symm))) hu39.out.size)) lbb46.out) hs50.out)).cell (o := 2) rfl
     have cl3 := (hb2.up ((((((((hu9.out.trans hu17.out).sto (Nat.le_trans (hu9.out.size) lbb15.out) hs19.out).trans hu26.out).trans hu29.out).sto (Nat.le_trans ((Nat.le_trans ((Nat.le_trans ((Nat.le_trans (hu9.out.size) hu17.out.size)) (Nat.le_of_eq hs19.out.size.symm))) hu26.out.size)) lbb27.out) hs31.out).trans hu39.out).trans hu48.out).sto (Nat.le_trans ((Nat.le_trans ((Nat.le_trans ((Nat.le_trans ((Nat.le_trans ((Nat.le_trans ((Nat.le_trans (hu9.out.size) hu17.out.size)) (Nat.le_of_eq hs19.out.size.symm))) hu26.out.size)) hu29.out.size)) (Nat.le_of_eq hs31.out.size.symm))) hu39.out.size)) lbb46.out) hs50.out)).cell (o := 3) rfl
     refine wpList_plain rfl (fun Ko hKo => ?_)
     go_simp
     refine hKo _ _ ?_
     clear hKo Ko
     clear cl0 cl1 cl2 cl3
     try simp only [Act.put, nm1, nm2, nm3, i64_w]
     have cl0 := hb51.cell (o := 0) rfl
     have cl1 := hb51.cell (o := 1) rfl
     refine wpList_plain rfl (fun Ko hKo => ?_)
     go_simp
     refine hKo _ _ ?_
     clear hKo Ko
     clear cl0 cl1
     try simp only [Act.put, nm1, nm2, nm3, i64_w]
     refine step_call (wanted_none rfl) (by first | (go_simp; done) | (go_simp; rfl)) (impl_turned.calls K a0 a2_0 a2_1 a2_2 a2_3 0 1 t53 t54 w49  A55.out) ?_
     rintro e w56 ⟨rfl, hu⟩
     have hu57 := Aside0.mk hu
     clear hu
     refine ⟨_, rfl, ?_⟩
     simp only [Act.put, nm1, nm2, nm3, i64_w]
     refine step_new (cs := [.int .i64 0, .int .i64 0]) (T := 28) (f := fun b => .pointer (some ⟨b, 0, none⟩)) rfl (by first | (go_simp; done) | (go_simp; rfl)) ?_
     intro b58 w59 hu lb hb58
     simp only [Act.put, nm1, nm2, nm3, i64_w]
     have lbb58 := Aside0.mk lb
     have ltb58 := Aside0.mk hb58.lt
     clear lb
     have hu60 := Aside0.mk hu
     clear hu
     have hB0 := hb58
     have cl0 := hB0.cell (o := 0) rfl
     have fr0 := hB0.free 0
     have cl1 := hB0.cell (o := 1) rfl
     have fr1 := hB0.free 1
     refine step_store (b := b58) (cs' := [.int .i64 t53, .int .i64 t54]) (T := 28) (W' := ((w59.setCell ⟨b58, 0, none⟩ (.int .i64 t53)).setCell ⟨b58, 1, none⟩ (.int .i64 t54))) rfl rfl (by first | (go_simp; done) | (go_simp; rfl)) (((Sto.refl _ _).setCell 0 _).setCell 1 _) (((hB0).setCell 0 _).setCell 1 _) ?_
     clear hB0 cl0 fr0 cl1 fr1
     intro w61 hs hb63
     have hs62 := Aside0.mk hs
     clear hs
     refine wpList_nil ?_
     (try simp only [Exit.then, Exit.inBlock, ↓reduceIte, Nat.reduceEqDiff])
     refine hK52 _ _ ?_
     refine wp_seq_k (fun K64 hK64 => ?_)
     refine' wp_region_up 11 [Slot.det _, Slot.det _, Slot.det _, Slot.det _, Slot.det (.int .i64 t65), Slot.det _, Slot.det _, Slot.det _, Slot.det _, Slot.det (.int .i64 t67), Slot.det _] (by kernel_rfl) (by kernel_rfl) ?main
     case main =>
      simp only [List.take_succ_cons, List.take_zero]
      refine wpK_ops rfl (fun w1 hu => ?_) ?_
      · clear hu
        go_simp
        first | done | rfl
      simp only [Act.put, nm1, nm2, nm3, i64_w]
      refine wpK_ops rfl (fun w1 hu => ?_) ?_
      · clear hu
        go_simp
        first | done | rfl
      simp only [Act.put, nm1, nm2, nm3, i64_w]
      refine wpK_ops rfl (fun w1 hu => ?_) ?_
      · have cl0 := ((hb51.up ((hu57.out.trans hu60.out).sto (Nat.le_trans (hu57.out.size) lbb58.out) hs62.out)).up ((Up.refl _).drew.trans hu)).cell (o := 0) rfl
        have cl1 := ((hb51.up ((hu57.out.trans hu60.out).sto (Nat.le_trans (hu57.out.size) lbb58.out) hs62.out)).up ((Up.refl _).drew.trans hu)).cell (o := 1) rfl
        go_simp
        first | done | rfl
      simp only [Act.put, nm1, nm2, nm3, i64_w]
      refine wpK_ops rfl (fun w1 hu => ?_) ?_
      · have cl0 := ((hb51.up ((hu57.out.trans hu60.out).sto (Nat.le_trans (hu57.out.size) lbb58.out) hs62.out)).up ((Up.refl _).drew.trans hu)).cell (o := 0) rfl
        have cl1 := ((hb51.up ((hu57.out.trans hu60.out).sto (Nat.le_trans (hu57.out.size) lbb58.out) hs62.out)).up ((Up.refl _).drew.trans hu)).cell (o := 1) rfl
        go_simp
        first | done | rfl
      simp only [Act.put, nm1, nm2, nm3, i64_w]
      refine wpK_ops rfl (fun w1 hu => ?_) ?_
      · have hcl := (impl_product.calls K a0 a1 0 1 0 1 t65 w1  A66.out)
        clear hu
        replace hcl := Aside0.mk hcl
        go_simp
        exact hcl.out
      simp only [Act.put, nm1, nm2, nm3, i64_w]
      refine wpK_ops rfl (fun w1 hu => ?_) ?_
      · clear hu
        go_simp
        first | done | rfl
      simp only [Act.put, nm1, nm2, nm3, i64_w]
      refine wpK_ops rfl (fun w1 hu => ?_) ?_
      · clear hu
        go_simp
        first | done | rfl
      simp only [Act.put, nm1, nm2, nm3, i64_w]
      refine wpK_ops rfl (fun w1 hu => ?_) ?_
      · have cl0 := (hb63.up ((Up.refl _).drew.trans hu)).cell (o := 0) rfl
        have cl1 := (hb63.up ((Up.refl _).drew.trans hu)).cell (o := 1) rfl
        go_simp
        first | done | rfl
      simp only [Act.put, nm1, nm2, nm3, i64_w]
      refine wpK_ops rfl (fun w1 hu => ?_) ?_
      · have cl0 := (hb63.up ((Up.refl _).drew.trans hu)).cell (o := 0) rfl
        have cl1 := (hb63.up ((Up.refl _).drew.trans hu)).cell (o := 1) rfl
        go_simp
        first | done | rfl
      simp only [Act.put, nm1, nm2, nm3, i64_w]
      refine wpK_ops rfl (fun w1 hu => ?_) ?_
      · have hcl := (impl_product.calls K a0 a1 t53 t54 t53 t54 t67 w1  A68.out)
        clear hu
        replace hcl := Aside0.mk hcl
        go_simp
        exact hcl.out
      simp only [Act.put, nm1, nm2, nm3, i64_w]
      refine wpK_ops rfl (fun w1 hu => ?_) ?_
      · clear hu
        go_simp
        first | done | rfl
      simp only [Act.put, nm1, nm2, nm3, i64_w]
      refine wpK_nil ?_
      intro w69 hu hap
      simp only [List.drop_succ_cons, List.drop_zero]
      replace hu := (Up.refl _).drew.trans hu
      clear hap
      have hu70 := Aside0.mk hu
      clear hu
      refine wpList_nil ?_
      (try simp only [Exit.then, Exit.inBlock, ↓reduceIte, Nat.reduceEqDiff])
      refine hK64 _ _ ?_
      refine wp_cond_false rfl ?_
      refine wp_skip ?_
      (try simp only [Exit.then, Exit.inBlock, ↓reduceIte, Nat.reduceEqDiff])
      refine hK44 _ _ ?_
      refine wp_region_lit ?_
      refine wpList_plain rfl (fun Ko hKo => ?_)
      go_simp
      refine hKo _ _ ?_
      clear hKo Ko
      try simp only [Act.put, nm1, nm2, nm3, i64_w]
      try simp only [show wrap64 2 = 2 from wlit rfl]
      refine wpList_plain rfl (fun Ko hKo => ?_)
      go_simp
      refine hKo _ _ ?_
      clear hKo Ko
      try simp only [Act.put, nm1, nm2, nm3, i64_w]
      refine wpList_nil ?_
      (try simp only [Exit.then, Exit.inBlock, ↓reduceIte, Nat.reduceEqDiff])
      refine hK41 _ _ ?_
      refine rounds_k (fun K72 hK72 => ?_)
      refine wp_seq_k (fun K73 hK73 => ?_)
      refine wp_region_lit ?_
      refine wpList_plain rfl (fun Ko hKo => ?_)
      go_simp
      refine hKo _ _ ?_
      clear hKo Ko
      try simp only [Act.put, nm1, nm2, nm3, i64_w]
      refine wpList_nil ?_
      (try simp only [Exit.then, Exit.inBlock, ↓reduceIte, Nat.reduceEqDiff])
      refine hK73 _ _ ?_
      refine wp_seq_k (fun K74 hK74 => ?_)
      refine wp_cond_true rfl ?_
      refine wp_skip ?_
      (try simp only [Exit.then, Exit.inBlock, ↓reduceIte, Nat.reduceEqDiff])
      refine hK74 _ _ ?_
      refine wp_seq_k (fun K75 hK75 => ?_)
      refine wp_block ?_
      refine wp_seq_k (fun K76 hK76 => ?_)
      refine wp_region_lit ?_
      refine wpList_plain rfl (fun Ko hKo => ?_)
      go_simp
      refine hKo _ _ ?_
      clear hKo Ko
      try simp only [Act.put, nm1, nm2, nm3, i64_w]
      have cl0 := (hb7.up (((((((((((hu17.out.sto (Nat.le_trans (Nat.le_refl _) lbb15.out) hs19.out).trans hu26.out).trans hu29.out).sto (Nat.le_trans ((Nat.le_trans ((Nat.le_trans (hu17.out.size) (Nat.le_of_eq hs19.out.size.symm))) hu26.out.size)) lbb27.out) hs31.out).trans hu39.out).trans hu48.out).sto (Nat.le_trans ((Nat.le_trans ((Nat.le_trans ((Nat.le_trans ((Nat.le_trans ((Nat.le_trans (hu17.out.size) (Nat.le_of_eq hs19.out.size.symm))) hu26.out.size)) hu29.out.size)) (Nat.le_of_eq hs31.out.size.symm))) hu39.out.size)) lbb46.out) hs50.out).trans hu57.out).trans hu60.out).sto (Nat.le_trans ((Nat.le_trans ((Nat.le_trans ((Nat.le_trans ((Nat.le_trans ((Nat.le_trans ((Nat.le_trans ((Nat.le_trans ((Nat.le_trans (hu17.out.size) (Nat.le_of_eq hs19.out.size.symm))) hu26.out.size)) hu29.out.size)) (Nat.le_of_eq hs31.out.size.symm))) hu39.out.size)) hu48.out.size)) (Nat.le_of_eq hs50.out.size.symm))) hu57.out.size)) lbb58.out) hs62.out).trans hu70.out)).cell (o := 4) rfl
      have cl1 := (hb7.up (((((((((((hu17.out.sto (Nat.le_trans (Nat.le_refl _) lbb15.out) hs19.out).trans hu26.out).trans hu29.out).sto (Nat.le_trans ((Nat.le_trans ((Nat.le_trans (hu17.out.size) (Nat.le_of_eq hs19.out.size.symm))) hu26.out.size)) lbb27.out) hs31.out).trans hu39.out).trans hu48.out).sto (Nat.le_trans ((Nat.le_trans ((Nat.le_trans ((Nat.le_trans ((Nat.le_trans ((Nat.le_trans (hu17.out.size) (Nat.le_of_eq hs19.out.size.symm))) hu26.out.size)) hu29.out.size)) (Nat.le_of_eq hs31.out.size.symm))) hu39.out.size)) lbb46.out) hs50.out).trans hu57.out).trans hu60.out).sto (Nat.le_trans ((Nat.le_trans ((Nat.le_trans ((Nat.le_trans ((Nat.le_trans ((Nat.le_trans ((Nat.le_trans ((Nat.le_trans ((Nat.le_trans (hu17.out.size) (Nat.le_of_eq hs19.out.size.symm))) hu26.out.size)) hu29.out.size)) (Nat.le_of_eq hs31.out.size.symm))) hu39.out.size)) hu48.out.size)) (Nat.le_of_eq hs50.out.size.symm))) hu57.out.size)) lbb58.out) hs62.out).trans hu70.out)).cell (o := 5) rfl
      refine wpList_plain rfl (fun Ko hKo => ?_)
      go_simp
      refine hKo _ _ ?_
      clear hKo Ko
      clear cl0 cl1
      try simp only [Act.put, nm1, nm2, nm3, i64_w]
      refine step_new (cs := [.int .i64 0, .int .i64 0]) (T := 28) (f := fun b => .pointer (some ⟨b, 0, none⟩)) rfl (by first | (go_simp; done) | (go_simp; rfl)) ?_
      intro b77 w78 hu lb hb77
      simp only [Act.put, nm1, nm2, nm3, i64_w]
      have lbb77 := Aside0.mk lb
      have ltb77 := Aside0.mk hb77.lt
      clear lb
      have hu79 := Aside0.mk hu
      clear hu
      have hB0 := hb77
      have cl0 := hB0.cell (o := 0) rfl
      have fr0 := hB0.free 0
      have cl1 := hB0.cell (o := 1) rfl
      have fr1 := hB0.free 1
      refine step_store (b := b77) (cs' := [.int .i64 1, .int .i64 1]) (T := 28) (W' := ((w78.setCell ⟨b77, 0, none⟩ (.int .i64 1)).setCell ⟨b77, 1, none⟩ (.int .i64 1))) rfl rfl (by first | (go_simp; done) | (go_simp; rfl)) (((Sto.refl _ _).setCell 0 _).setCell 1 _) (((hB0).setCell 0 _).setCell 1 _) ?_
      clear hB0 cl0 fr0 cl1 fr1
      intro w80 hs hb82
      have hs81 := Aside0.mk hs
      clear hs
      refine wpList_nil ?_
      (try simp only [Exit.then, Exit.inBlock, ↓reduceIte, Nat.reduceEqDiff])
      refine hK76 _ _ ?_
      refine wp_seq_k (fun K83 hK83 => ?_)
      refine wp_region_lit ?_
      refine wpList_plain rfl (fun Ko hKo => ?_)
      go_simp
      refine hKo _ _ ?_
      clear hKo Ko
      try simp only [Act.put, nm1, nm2, nm3, i64_w]
      have cl0 := (hb2.up ((((((((((((((hu9.out.trans hu17.out).sto (Nat.le_trans (hu9.out.size) lbb15.out) hs19.out).trans hu26.out).trans hu29.out).sto (Nat.le_trans ((Nat.le_trans ((Nat.le_trans ((Nat.le_trans (hu9.out.size) hu17.out.size)) (Nat.le_of_eq hs19.out.size.symm))) hu26.out.size)) lbb27.out) hs31.out).trans hu39.out).trans hu48.out).sto (Nat.le_trans ((Nat.le_trans ((Nat.le_trans ((Nat.le_trans ((Nat.le_trans ((Nat.le_trans ((Nat.le_trans (hu9.out.size) hu17.out.size)) (Nat.le_of_eq hs19.out.size.symm))) hu26.out.size)) hu29.out.size)) (Nat.le_of_eq hs31.out.size.symm))) hu39.out.size)) lbb46.out) hs50.out).trans hu57.out).trans hu60.out).sto (Nat.le_trans ((Nat.le_trans ((Nat.le_trans ((Nat.le_trans ((Nat.le_trans ((Nat.le_trans ((Nat.le_trans ((Nat.le_trans ((Nat.le_trans ((Nat.le_trans (hu9.out.size) hu17.out.size)) (Nat.le_of_eq hs19.out.size.symm))) hu26.out.size)) hu29.out.size)) (Nat.le_of_eq hs31.out.size.symm))) hu39.out.size)) hu48.out.size)) (Nat.le_of_eq hs50.out.size.symm))) hu57.out.size)) lbb58.out) hs62.out).trans hu70.out).trans hu79.out).sto (Nat.le_trans ((Nat.le_trans ((Nat.le_trans ((Nat.le_trans ((Nat.le_trans ((Nat.le_trans ((Nat.le_trans ((Nat.le_trans ((Nat.le_trans ((Nat.le_trans ((Nat.le_trans ((Nat.le_trans ((Nat.le_trans (hu9.out.size) hu17.out.size)) (Nat.le_of_eq hs19.out.size.symm))) hu26.out.size)) hu29.out.size)) (Nat.le_of_eq hs31.out.size.symm))) hu39.out.size)) hu48.out.size)) (Nat.le_of_eq hs50.out.size.symm))) hu57.out.size)) hu60.out.size)) (Nat.le_of_eq hs62.out.size.symm))) hu70.out.size)) lbb77.out) hs81.out)).cell (o := 0) rfl
      have cl1 := (hb2.up ((((((((((((((hu9.out.trans hu17.out).sto (Nat.le_trans (hu9.out.size) lbb15.out) hs19.out).trans hu26.out).trans hu29.out).sto (Nat.le_trans ((Nat.le_trans ((Nat.le_trans ((Nat.le_trans (hu9.out.size) hu17.out.size)) (Nat.le_of_eq hs19.out.size.symm))) hu26.out.size)) lbb27.out) hs31.out).trans hu39.out).trans hu48.out).sto (Nat.le_trans ((Nat.le_trans ((Nat.le_trans ((Nat.le_trans ((Nat.le_trans ((Nat.le_trans ((Nat.le_trans (hu9.out.size) hu17.out.size)) (Nat.le_of_eq hs19.out.size.symm))) hu26.out.size)) hu29.out.size)) (Nat.le_of_eq hs31.out.size.symm))) hu39.out.size)) lbb46.out) hs50.out).trans hu57.out).trans hu60.out).sto (Nat.le_trans ((Nat.le_trans ((Nat.le_trans ((Nat.le_trans ((Nat.le_trans ((Nat.le_trans ((Nat.le_trans ((Nat.le_trans ((Nat.le_trans ((Nat.le_trans (hu9.out.size) hu17.out.size)) (Nat.le_of_eq hs19.out.size.symm))) hu26.out.size)) hu29.out.size)) (Nat.le_of_eq hs31.out.size.symm))) hu39.out.size)) hu48.out.size)) (Nat.le_of_eq hs50.out.size.symm))) hu57.out.size)) lbb58.out) hs62.out).trans hu70.out).trans hu79.out).sto (Nat.le_trans ((Nat.le_trans ((Nat.le_trans ((Nat.le_trans ((Nat.le_trans ((Nat.le_trans ((Nat.le_trans ((Nat.le_trans ((Nat.le_trans ((Nat.le_trans ((Nat.le_trans ((Nat.le_trans ((Nat.le_trans (hu9.out.size) hu17.out.size)) (Nat.le_of_eq hs19.out.size.symm))) hu26.out.size)) hu29.out.size)) (Nat.le_of_eq hs31.out.size.symm))) hu39.out.size)) hu48.out.size)) (Nat.le_of_eq hs50.out.size.symm))) hu57.out.size)) hu60.out.size)) (Nat.le_of_eq hs62.out.size.symm))) hu70.out.size)) lbb77.out) hs81.out)).cell (o := 1) rfl
      have cl2 := (hb2.up ((((((((((((((hu9.out.trans hu17.out).sto (Nat.le_trans (hu9.out.size) lbb15.out) hs19.out).trans hu26.out).trans hu29.out).sto (Nat.le_trans ((Nat.le_trans ((Nat.le_trans ((Nat.le_trans (hu9.out.size) hu17.out.size)) (Nat.le_of_eq hs19.out.size.symm))) hu26.out.size)) lbb27.out) hs31.out).trans hu39.out).trans hu48.out).sto (Nat.le_trans ((Nat.le_trans ((Nat.le_trans ((Nat.le_trans ((Nat.le_trans ((Nat.le_trans ((Nat.le_trans (hu9.out.size) hu17.out.size)) (Nat.le_of_eq hs19.out.size.symm))) hu26.out.size)) hu29.out.size)) (Nat.le_of_eq hs31.out.size.symm))) hu39.out.size)) lbb46.out) hs50.out).trans hu57.out).trans hu60.out).sto (Nat.le_trans ((Nat.le_trans ((Nat.le_trans ((Nat.le_trans ((Nat.le_trans ((Nat.le_trans ((Nat.le_trans ((Nat.le_trans ((Nat.le_trans ((Nat.le_trans (hu9.out.size) hu17.out.size)) (Nat.le_of_eq hs19.out.size.symm))) hu26.out.size)) hu29.out.size)) (Nat.le_of_eq hs31.out.size.symm))) hu39.out.size)) hu48.out.size)) (Nat.le_of_eq hs50.out.size.symm))) hu57.out.size)) lbb58.out) hs62.out).trans hu70.out).trans hu79.out).sto (Nat.le_trans ((Nat.le_trans ((Nat.le_trans ((Nat.le_trans ((Nat.le_trans ((Nat.le_trans ((Nat.le_trans ((Nat.le_trans ((Nat.le_trans ((Nat.le_trans ((Nat.le_trans ((Nat.le_trans ((Nat.le_trans (hu9.out.size) hu17.out.size)) (Nat.le_of_eq hs19.out.size.symm))) hu26.out.size)) hu29.out.size)) (Nat.le_of_eq hs31.out.size.symm))) hu39.out.size)) hu48.out.size)) (Nat.le_of_eq hs50.out.size.symm))) hu57.out.size)) hu60.out.size)) (Nat.le_of_eq hs62.out.size.symm))) hu70.out.size)) lbb77.out) hs81.out)).cell (o := 2) rfl
      have cl3 := (hb2.up ((((((((((((((hu9.out.trans hu17.out).sto (Nat.le_trans (hu9.out.size) lbb15.out) hs19.out).trans hu26.out).trans hu29.out).sto (Nat.le_trans ((Nat.le_trans ((Nat.le_trans ((Nat.le_trans (hu9.out.size) hu17.out.size)) (Nat.le_of_eq hs19.out.size.symm))) hu26.out.size)) lbb27.out) hs31.out).trans hu39.out).trans hu48.out).sto (Nat.le_trans ((Nat.le_trans ((Nat.le_trans ((Nat.le_trans ((Nat.le_trans ((Nat.le_trans ((Nat.le_trans (hu9.out.size) hu17.out.size)) (Nat.le_of_eq hs19.out.size.symm))) hu26.out.size)) hu29.out.size)) (Nat.le_of_eq hs31.out.size.symm))) hu39.out.size)) lbb46.out) hs50.out).trans hu57.out).trans hu60.out).sto (Nat.le_trans ((Nat.le_trans ((Nat.le_trans ((Nat.le_trans ((Nat.le_trans ((Nat.le_trans ((Nat.le_trans ((Nat.le_trans ((Nat.le_trans ((Nat.le_trans (hu9.out.size) hu17.out.size)) (Nat.le_of_eq hs19.out.size.symm))) hu26.out.size)) hu29.out.size)) (Nat.le_of_eq hs31.out.size.symm))) hu39.out.size)) hu48.out.size)) (Nat.le_of_eq hs50.out.size.symm))) hu57.out.size)) lbb58.out) hs62.out).trans hu70.out).trans hu79.out).sto (Nat.le_trans ((Nat.le_trans ((Nat.le_trans ((Nat.le_trans ((Nat.le_trans ((Nat.le_trans ((Nat.le_trans ((Nat.le_trans ((Nat.le_trans ((Nat.le_trans ((Nat.le_trans ((Nat.le_trans ((Nat.le_trans (hu9.out.size) hu17.out.size)) (Nat.le_of_eq hs19.out.size.symm))) hu26.out.size)) hu29.out.size)) (Nat.le_of_eq hs31.out.size.symm))) hu39.out.size)) hu48.out.size)) (Nat.le_of_eq hs50.out.size.symm))) hu57.out.size)) hu60.out.size)) (Nat.le_of_eq hs62.out.size.symm))) hu70.out.size)) lbb77.out) hs81.out)).cell (o := 3) rfl
      refine wpList_plain rfl (fun Ko hKo => ?_)
      go_simp
      refine hKo _ _ ?_
      clear hKo Ko
      clear cl0 cl1 cl2 cl3
      try simp only [Act.put, nm1, nm2, nm3, i64_w]
      have cl0 := hb82.cell (o := 0) rfl
      have cl1 := hb82.cell (o := 1) rfl
      refine wpList_plain rfl (fun Ko hKo => ?_)
      go_simp
      refine hKo _ _ ?_
      clear hKo Ko
      clear cl0 cl1
      try simp only [Act.put, nm1, nm2, nm3, i64_w]
      refine step_call (wanted_none rfl) (by first | (go_simp; done) | (go_simp; rfl)) (impl_turned.calls K a0 a2_0 a2_1 a2_2 a2_3 1 1 t84 t85 w80  A86.out) ?_
      rintro e w87 ⟨rfl, hu⟩
      have hu88 := Aside0.mk hu
      clear hu
      refine ⟨_, rfl, ?_⟩
      simp only [Act.put, nm1, nm2, nm3, i64_w]
      refine step_new (cs := [.int .i64 0, .int .i64 0]) (T := 28) (f := fun b => .pointer (some ⟨b, 0, none⟩)) rfl (by first | (go_simp; done) | (go_simp; rfl)) ?_
      intro b89 w90 hu lb hb89
      simp only [Act.put, nm1, nm2, nm3, i64_w]
      have lbb89 := Aside0.mk lb
      have ltb89 := Aside0.mk hb89.lt
      clear lb
      have hu91 := Aside0.mk hu
      clear hu
      have hB0 := hb89
      have cl0 := hB0.cell (o := 0) rfl
      have fr0 := hB0.free 0
      have cl1 := hB0.cell (o := 1) rfl
      have fr1 := hB0.free 1
      refine step_store (b := b89) (cs' := [.int .i64 t84, .int .i64 t85]) (T := 28) (W' := ((w90.setCell ⟨b89, 0, none⟩ (.int .i64 t84)).setCell ⟨b89, 1, none⟩ (.int .i64 t85))) rfl rfl (by first | (go_simp; done) | (go_simp; rfl)) (((Sto.refl _ _).setCell 0 _).setCell 1 _) (((hB0).setCell 0 _).setCell 1 _) ?_
      clear hB0 cl0 fr0 cl1 fr1
      intro w92 hs hb94
      have hs93 := Aside0.mk hs
      clear hs
      refine wpList_nil ?_
      (try simp only [Exit.then, Exit.inBlock, ↓reduceIte, Nat.reduceEqDiff])
      refine hK83 _ _ ?_
      refine wp_seq_k (fun K95 hK95 => ?_)
      refine' wp_region_up 11 [Slot.det _, Slot.det _, Slot.det _, Slot.det _, Slot.det (.int .i64 t96), Slot.det _, Slot.det _, Slot.det _, Slot.det _, Slot.det (.int .i64 t98), Slot.det _] (by kernel_rfl) (by kernel_rfl) ?main
      case main =>
       simp only [List.take_succ_cons, List.take_zero]
       refine wpK_ops rfl (fun w1 hu => ?_) ?_
       · clear hu
         go_simp
         first | done | rfl
       simp only [Act.put, nm1, nm2, nm3, i64_w]
       refine wpK_ops rfl (fun w1 hu => ?_) ?_
       · clear hu
         go_simp
         first | done | rfl
       simp only [Act.put, nm1, nm2, nm3, i64_w]
       refine wpK_ops rfl (fun w1 hu => ?_) ?_
       · have cl0 := ((hb82.up ((hu88.out.trans hu91.out).sto (Nat.le_trans (hu88.out.size) lbb89.out) hs93.out)).up ((Up.refl _).drew.trans hu)).cell (o := 0) rfl
         have cl1 := ((hb82.up ((hu88.out.trans hu91.out).sto (Nat.le_trans (hu88.out.size) lbb89.out) hs93.out)).up ((Up.refl _).drew.trans hu)).cell (o := 1) rfl
         go_simp
         first | done | rfl
       simp only [Act.put, nm1, nm2, nm3, i64_w]
       refine wpK_ops rfl (fun w1 hu => ?_) ?_
       · have cl0 := ((hb82.up ((hu88.out.trans hu91.out).sto (Nat.le_trans (hu88.out.size) lbb89.out) hs93.out)).up ((Up.refl _).drew.trans hu)).cell (o := 0) rfl
         have cl1 := ((hb82.up ((hu88.out.trans hu91.out).sto (Nat.le_trans (hu88.out.size) lbb89.out) hs93.out)).up ((Up.refl _).drew.trans hu)).cell (o := 1) rfl
         go_simp
         first | done | rfl
       simp only [Act.put, nm1, nm2, nm3, i64_w]
       refine wpK_ops rfl (fun w1 hu => ?_) ?_
       · have hcl := (impl_product.calls K a0 a1 1 1 1 1 t96 w1  A97.out)
         clear hu
         replace hcl := Aside0.mk hcl
         go_simp
         exact hcl.out
       simp only [Act.put, nm1, nm2, nm3, i64_w]
       refine wpK_ops rfl (fun w1 hu => ?_) ?_
       · clear hu
         go_simp
         first | done | rfl
       simp only [Act.put, nm1, nm2, nm3, i64_w]
       refine wpK_ops rfl (fun w1 hu => ?_) ?_
       · clear hu
         go_simp
         first | done | rfl
       simp only [Act.put, nm1, nm2, nm3, i64_w]
       refine wpK_ops rfl (fun w1 hu => ?_) ?_
       · have cl0 := (hb94.up ((Up.refl _).drew.trans hu)).cell (o := 0) rfl
         have cl1 := (hb94.up ((Up.refl _).drew.trans hu)).cell (o := 1) rfl
         go_simp
         first | done | rfl
       simp only [Act.put, nm1, nm2, nm3, i64_w]
       refine wpK_ops rfl (fun w1 hu => ?_) ?_
       · have cl0 := (hb94.up ((Up.refl _).drew.trans hu)).cell (o := 0) rfl
         have cl1 := (hb94.up ((Up.refl _).drew.trans hu)).cell (o := 1) rfl
         go_simp
         first | done | rfl
       simp only [Act.put, nm1, nm2, nm3, i64_w]
       refine wpK_ops rfl (fun w1 hu => ?_) ?_
       · have hcl := (impl_product.calls K a0 a1 t84 t85 t84 t85 t98 w1  A99.out)
         clear hu
         replace hcl := Aside0.mk hcl
         go_simp
         exact hcl.out
       simp only [Act.put, nm1, nm2, nm3, i64_w]
       refine wpK_ops rfl (fun w1 hu => ?_) ?_
       · clear hu
         go_simp
         first | done | rfl
       simp only [Act.put, nm1, nm2, nm3, i64_w]
       refine wpK_nil ?_
       intro w100 hu hap
       simp only [List.drop_succ_cons, List.drop_zero]
       replace hu := (Up.refl _).drew.trans hu
       clear hap
       have hu101 := Aside0.mk hu
       clear hu
       refine wpList_nil ?_
       (try simp only [Exit.then, Exit.inBlock, ↓reduceIte, Nat.reduceEqDiff])
       refine hK95 _ _ ?_
       refine wp_cond_false rfl ?_
       refine wp_skip ?_
       (try simp only [Exit.then, Exit.inBlock, ↓reduceIte, Nat.reduceEqDiff])
       refine hK75 _ _ ?_
       refine wp_region_lit ?_
       refine wpList_plain rfl (fun Ko hKo => ?_)
       go_simp
       refine hKo _ _ ?_
       clear hKo Ko
       try simp only [Act.put, nm1, nm2, nm3, i64_w]
       try simp only [show wrap64 3 = 3 from wlit rfl]
       refine wpList_plain rfl (fun Ko hKo => ?_)
       go_simp
       refine hKo _ _ ?_
       clear hKo Ko
       try simp only [Act.put, nm1, nm2, nm3, i64_w]
       refine wpList_nil ?_
       (try simp only [Exit.then, Exit.inBlock, ↓reduceIte, Nat.reduceEqDiff])
       refine hK72 _ _ ?_
       refine rounds_k (fun K103 hK103 => ?_)
       refine wp_seq_k (fun K104 hK104 => ?_)
       refine wp_region_lit ?_
       refine wpList_plain rfl (fun Ko hKo => ?_)
       go_simp
       refine hKo _ _ ?_
       clear hKo Ko
       try simp only [Act.put, nm1, nm2, nm3, i64_w]
       refine wpList_nil ?_
       (try simp only [Exit.then, Exit.inBlock, ↓reduceIte, Nat.reduceEqDiff])
       refine hK104 _ _ ?_
       refine wp_seq_k (fun K105 hK105 => ?_)
       refine wp_cond_false rfl ?_
       refine wp_exit ?_
       (try simp only [Exit.then, Exit.inBlock, ↓reduceIte, Nat.reduceEqDiff])
       refine hK5 _ _ ?_
       refine wp_seq_k (fun K106 hK106 => ?_)
       refine wp_region_lit ?_
       refine wpList_plain rfl (fun Ko hKo => ?_)
       go_simp
       refine hKo _ _ ?_
       clear hKo Ko
       try simp only [Act.put, nm1, nm2, nm3, i64_w]
       refine wpList_nil ?_
       (try simp only [Exit.then, Exit.inBlock, ↓reduceIte, Nat.reduceEqDiff])
       refine hK106 _ _ ?_
       refine wp_ret ?_
       (try simp only [Exit.then, Exit.inBlock, ↓reduceIte, Nat.reduceEqDiff])
       refine hQf _ _ _ ?_
       exact bodyPost_ret (v := .bool true) (by first | rfl | (simp [results, Tryd.results30, go_sem]; done) | (simp [results, Tryd.results30, go_sem]; rfl)) rfl ⟨rfl, (((((((((((((((((((hu4.out.trans hu9.out).trans hu17.out).sto (Nat.le_trans ((Nat.le_trans (hu4.out.size) hu9.out.size)) lbb15.out) hs19.out).trans hu26.out).trans hu29.out).sto (Nat.le_trans ((Nat.le_trans ((Nat.le_trans ((Nat.le_trans ((Nat.le_trans (hu4.out.size) hu9.out.size)) hu17.out.size)) (Nat.le_of_eq hs19.out.size.symm))) hu26.out.size)) lbb27.out) hs31.out).trans hu39.out).trans hu48.out).sto (Nat.le_trans ((Nat.le_trans ((Nat.le_trans ((Nat.le_trans ((Nat.le_trans ((Nat.le_trans ((Nat.le_trans ((Nat.le_trans (hu4.out.size) hu9.out.size)) hu17.out.size)) (Nat.le_of_eq hs19.out.size.symm))) hu26.out.size)) hu29.out.size)) (Nat.le_of_eq hs31.out.size.symm))) hu39.out.size)) lbb46.out) hs50.out).trans hu57.out).trans hu60.out).sto (Nat.le_trans ((Nat.le_trans ((Nat.le_trans ((Nat.le_trans ((Nat.le_trans ((Nat.le_trans ((Nat.le_trans ((Nat.le_trans ((Nat.le_trans ((Nat.le_trans ((Nat.le_trans (hu4.out.size) hu9.out.size)) hu17.out.size)) (Nat.le_of_eq hs19.out.size.symm))) hu26.out.size)) hu29.out.size)) (Nat.le_of_eq hs31.out.size.symm))) hu39.out.size)) hu48.out.size)) (Nat.le_of_eq hs50.out.size.symm))) hu57.out.size)) lbb58.out) hs62.out).trans hu70.out).trans hu79.out).sto (Nat.le_trans ((Nat.le_trans ((Nat.le_trans ((Nat.le_trans ((Nat.le_trans ((Nat.le_trans ((Nat.le_trans ((Nat.le_trans ((Nat.le_trans ((Nat.le_trans ((Nat.le_trans ((Nat.le_trans ((Nat.le_trans ((Nat.le_trans (hu4.out.size) hu9.out.size)) hu17.out.size)) (Nat.le_of_eq hs19.out.size.symm))) hu26.out.size)) hu29.out.size)) (Nat.le_of_eq hs31.out.size.symm))) hu39.out.size)) hu48.out.size)) (Nat.le_of_eq hs50.out.size.symm))) hu57.out.size)) hu60.out.size)) (Nat.le_of_eq hs62.out.size.symm))) hu70.out.size)) lbb77.out) hs81.out).trans hu88.out).trans hu91.out).sto (Nat.le_trans ((Nat.le_trans ((Nat.le_trans ((Nat.le_trans ((Nat.le_trans ((Nat.le_trans ((Nat.le_trans ((Nat.le_trans ((Nat.le_trans ((Nat.le_trans ((Nat.le_trans ((Nat.le_trans ((Nat.le_trans ((Nat.le_trans ((Nat.le_trans ((Nat.le_trans ((Nat.le_trans (hu4.out.size) hu9.out.size)) hu17.out.size)) (Nat.le_of_eq hs19.out.size.symm))) hu26.out.size)) hu29.out.size)) (Nat.le_of_eq hs31.out.size.symm))) hu39.out.size)) hu48.out.size)) (Nat.le_of_eq hs50.out.size.symm))) hu57.out.size)) hu60.out.size)) (Nat.le_of_eq hs62.out.size.symm))) hu70.out.size)) hu79.out.size)) (Nat.le_of_eq hs81.out.size.symm))) hu88.out.size)) lbb89.out) hs93.out).trans hu101.out)⟩
   ·
    rw [if_neg c102] at H
    replace c102 := Bool.eq_false_iff.mpr c102
    have c102n : (t96 != t98) = true := by rw [bne, c102]; rfl
    have c102p : ¬ t96 = t98 := fun e => by simp [e] at c102
    obtain rfl := Option.some.inj H
    go_enter Tryd.func30, Tryd.ntmps30
    refine wp_hide (fun Qf hQf => ?_)
    refine wp_seq_k (fun K1 hK1 => ?_)
    refine wp_region_lit ?_
    refine step_new (cs := [.int .i64 a2_0, .int .i64 a2_1, .int .i64 a2_2, .int .i64 a2_3]) (T := 22) (f := fun b => .pointer (some ⟨b, 0, none⟩)) rfl (by first | (go_simp; done) | (go_simp; rfl)) ?_
    intro b2 w3 hu lb hb2
    simp only [Act.put, nm1, nm2, nm3, i64_w]
    have lbb2 := Aside0.mk lb
    have ltb2 := Aside0.mk hb2.lt
    clear lb
    have hu4 := Aside0.mk hu
    clear hu
    refine wpList_plain rfl (fun Ko hKo => ?_)
    go_simp
    refine hKo _ _ ?_
    clear hKo Ko
    try simp only [Act.put, nm1, nm2, nm3, i64_w]
    refine wpList_nil ?_
    (try simp only [Exit.then, Exit.inBlock, ↓reduceIte, Nat.reduceEqDiff])
    refine hK1 _ _ ?_
    refine wp_seq_k (fun K5 hK5 => ?_)
    refine wp_seq_k (fun K6 hK6 => ?_)
    refine wp_region_lit ?_
    refine wpList_plain rfl (fun Ko hKo => ?_)
    go_simp
    refine hKo _ _ ?_
    clear hKo Ko
    try simp only [Act.put, nm1, nm2, nm3, i64_w]
    refine wpList_plain rfl (fun Ko hKo => ?_)
    go_simp
    refine hKo _ _ ?_
    clear hKo Ko
    try simp only [Act.put, nm1, nm2, nm3, i64_w]
    refine wpList_plain rfl (fun Ko hKo => ?_)
    go_simp
    refine hKo _ _ ?_
    clear hKo Ko
    try simp only [Act.put, nm1, nm2, nm3, i64_w]
    refine step_new (cs := [.int .i64 1, .int .i64 0, .int .i64 0, .int .i64 1, .int .i64 1, .int .i64 1]) (T := 28) (f := fun b => .slice (some ⟨b, 0, none⟩) 3 3) rfl (by first | (go_simp; done) | (go_simp; rfl)) ?_
    intro b7 w8 hu lb hb7
    simp only [Act.put, nm1, nm2, nm3, i64_w]
    have lbb7 := Aside0.mk lb
    have ltb7 := Aside0.mk hb7.lt
    clear lb
    have hu9 := Aside0.mk hu
    clear hu
    refine wpList_plain rfl (fun Ko hKo => ?_)
    go_simp
    refine hKo _ _ ?_
    clear hKo Ko
    try simp only [Act.put, nm1, nm2, nm3, i64_w]
    refine wpList_plain rfl (fun Ko hKo => ?_)
    go_simp
    refine hKo _ _ ?_
    clear hKo Ko
    try simp only [Act.put, nm1, nm2, nm3, i64_w]
    refine wpList_nil ?_
    (try simp only [Exit.then, Exit.inBlock, ↓reduceIte, Nat.reduceEqDiff])
    refine hK6 _ _ ?_
    refine wp_block ?_
    refine wp_loop_rounds 40 ?_
    refine rounds_k (fun K10 hK10 => ?_)
    refine wp_seq_k (fun K11 hK11 => ?_)
    refine wp_region_lit ?_
    refine wpList_plain rfl (fun Ko hKo => ?_)
    go_simp
    refine hKo _ _ ?_
    clear hKo Ko
    try simp only [Act.put, nm1, nm2, nm3, i64_w]
    refine wpList_nil ?_
    (try simp only [Exit.then, Exit.inBlock, ↓reduceIte, Nat.reduceEqDiff])
    refine hK11 _ _ ?_
    refine wp_seq_k (fun K12 hK12 => ?_)
    refine wp_cond_true rfl ?_
    refine wp_skip ?_
    (try simp only [Exit.then, Exit.inBlock, ↓reduceIte, Nat.reduceEqDiff])
    refine hK12 _ _ ?_
    refine wp_seq_k (fun K13 hK13 => ?_)
    refine wp_block ?_
    refine wp_seq_k (fun K14 hK14 => ?_)
    refine wp_region_lit ?_
    refine wpList_plain rfl (fun Ko hKo => ?_)
    go_simp
    refine hKo _ _ ?_
    clear hKo Ko
    try simp only [Act.put, nm1, nm2, nm3, i64_w]
    have cl0 := hb7.cell (o := 0) rfl
    have cl1 := hb7.cell (o := 1) rfl
    refine wpList_plain rfl (fun Ko hKo => ?_)
    go_simp
    refine hKo _ _ ?_
    clear hKo Ko
    clear cl0 cl1
    try simp only [Act.put, nm1, nm2, nm3, i64_w]
    refine step_new (cs := [.int .i64 0, .int .i64 0]) (T := 28) (f := fun b => .pointer (some ⟨b, 0, none⟩)) rfl (by first | (go_simp; done) | (go_simp; rfl)) ?_
    intro b15 w16 hu lb hb15
    simp only [Act.put, nm1, nm2, nm3, i64_w]
    have lbb15 := Aside0.mk lb
    have ltb15 := Aside0.mk hb15.lt
    clear lb
    have hu17 := Aside0.mk hu
    clear hu
    have hB0 := hb15
    have cl0 := hB0.cell (o := 0) rfl
    have fr0 := hB0.free 0
    have cl1 := hB0.cell (o := 1) rfl
    have fr1 := hB0.free 1
    refine step_store (b := b15) (cs' := [.int .i64 1, .int .i64 0]) (T := 28) (W' := ((w16.setCell ⟨b15, 0, none⟩ (.int .i64 1)).setCell ⟨b15, 1, none⟩ (.int .i64 0))) rfl rfl (by first | (go_simp; done) | (go_simp; rfl)) (((Sto.refl _ _).setCell 0 _).setCell 1 _) (((hB0).setCell 0 _).setCell 1 _) ?_
    clear hB0 cl0 fr0 cl1 fr1
    intro w18 hs hb20
    have hs19 := Aside0.mk hs
    clear hs
    refine wpList_nil ?_
    (try simp only [Exit.then, Exit.inBlock, ↓reduceIte, Nat.reduceEqDiff])
    refine hK14 _ _ ?_
    refine wp_seq_k (fun K21 hK21 => ?_)
    refine wp_region_lit ?_
    refine wpList_plain rfl (fun Ko hKo => ?_)
    go_simp
    refine hKo _ _ ?_
    clear hKo Ko
    try simp only [Act.put, nm1, nm2, nm3, i64_w]
    have cl0 := (hb2.up ((hu9.out.trans hu17.out).sto (Nat.le_trans (hu9.out.size) lbb15.out) hs19.out)).cell (o := 0) rfl
    have cl1 := (hb2.up ((hu9.out.trans hu17.out).sto (Nat.le_trans (hu9.out.size) lbb15.out) hs19.out)).cell (o := 1) rfl
    have cl2 := (hb2.up ((hu9.out.trans hu17.out).sto (Nat.le_trans (hu9.out.size) lbb15.out) hs19.out)).cell (o := 2) rfl
    have cl3 := (hb2.up ((hu9.out.trans hu17.out).sto (Nat.le_trans (hu9.out.size) lbb15.out) hs19.out)).cell (o := 3) rfl
    refine wpList_plain rfl (fun Ko hKo => ?_)
    go_simp
    refine hKo _ _ ?_
    clear hKo Ko
    clear cl0 cl1 cl2 cl3
    try simp only [Act.put, nm1, nm2, nm3, i64_w]
    have cl0 := hb20.cell (o := 0) rfl
    have cl1 := hb20.cell (o := 1) rfl
    refine wpList_plain rfl (fun Ko hKo => ?_)
    go_simp
    refine hKo _ _ ?_
    clear hKo Ko
    clear cl0 cl1
    try simp only [Act.put, nm1, nm2, nm3, i64_w]
    refine step_call (wanted_none rfl) (by first | (go_simp; done) | (go_simp; rfl)) (impl_turned.calls K a0 a2_0 a2_1 a2_2 a2_3 1 0 t22 t23 w18  A24.out) ?_
    rintro e w25 ⟨rfl, hu⟩
    have hu26 := Aside0.mk hu
    clear hu
    refine ⟨_, rfl, ?_⟩
    simp only [Act.put, nm1, nm2, nm3, i64_w]
    refine step_new (cs := [.int .i64 0, .int .i64 0]) (T := 28) (f := fun b => .pointer (some ⟨b, 0, none⟩)) rfl (by first | (go_simp; done) | (go_simp; rfl)) ?_
    intro b27 w28 hu lb hb27
    simp only [Act.put, nm1, nm2, nm3, i64_w]
    have lbb27 := Aside0.mk lb
    have ltb27 := Aside0.mk hb27.lt
    clear lb
    have hu29 := Aside0.mk hu
    clear hu
    have hB0 := hb27
    have cl0 := hB0.cell (o := 0) rfl
    have fr0 := hB0.free 0
    have cl1 := hB0.cell (o := 1) rfl
    have fr1 := hB0.free 1
    refine step_store (b := b27) (cs' := [.int .i64 t22, .int .i64 t23]) (T := 28) (W' := ((w28.setCell ⟨b27, 0, none⟩ (.int .i64 t22)).setCell ⟨b27, 1, none⟩ (.int .i64 t23))) rfl rfl (by first | (go_simp; done) | (go_simp; rfl)) (((Sto.refl _ _).setCell 0 _).setCell 1 _) (((hB0).setCell 0 _).setCell 1 _) ?_
    clear hB0 cl0 fr0 cl1 fr1
    intro w30 hs hb32
    have hs31 := Aside0.mk hs
    clear hs
    refine wpList_nil ?_
    (try simp only [Exit.then, Exit.inBlock, ↓reduceIte, Nat.reduceEqDiff])
    refine hK21 _ _ ?_
    refine wp_seq_k (fun K33 hK33 => ?_)
    refine' wp_region_up 11 [Slot.det _, Slot.det _, Slot.det _, Slot.det _, Slot.det (.int .i64 t34), Slot.det _, Slot.det _, Slot.det _, Slot.det _, Slot.det (.int .i64 t36), Slot.det _] (by kernel_rfl) (by kernel_rfl) ?main
    case main =>
     simp only [List.take_succ_cons, List.take_zero]
     refine wpK_ops rfl (fun w1 hu => ?_) ?_
     · clear hu
       go_simp
       first | done | rfl
     simp only [Act.put, nm1, nm2, nm3, i64_w]
     refine wpK_ops rfl (fun w1 hu => ?_) ?_
     · clear hu
       go_simp
       first | done | rfl
     simp only [Act.put, nm1, nm2, nm3, i64_w]
     refine wpK_ops rfl (fun w1 hu => ?_) ?_
     · have cl0 := ((hb20.up ((hu26.out.trans hu29.out).sto (Nat.le_trans (hu26.out.size) lbb27.out) hs31.out)).up ((Up.refl _).drew.trans hu)).cell (o := 0) rfl
       have cl1 := ((hb20.up ((hu26.out.trans hu29.out).sto (Nat.le_trans (hu26.out.size) lbb27.out) hs31.out)).up ((Up.refl _).drew.trans hu)).cell (o := 1) rfl
       go_simp
       first | done | rfl
     simp only [Act.put, nm1, nm2, nm3, i64_w]
     refine wpK_ops rfl (fun w1 hu => ?_) ?_
     · have cl0 := ((hb20.up ((hu26.out.trans hu29.out).sto (Nat.le_trans (hu26.out.size) lbb27.out) hs31.out)).up ((Up.refl _).drew.trans hu)).cell (o := 0) rfl
       have cl1 := ((hb20.up ((hu26.out.trans hu29.out).sto (Nat.le_trans (hu26.out.size) lbb27.out) hs31.out)).up ((Up.refl _).drew.trans hu)).cell (o := 1) rfl
       go_simp
       first | done | rfl
     simp only [Act.put, nm1, nm2, nm3, i64_w]
     refine wpK_ops rfl (fun w1 hu => ?_) ?_
     · have hcl := (impl_product.calls K a0 a1 1 0 1 0 t34 w1  A35.out)
       clear hu
       replace hcl := Aside0.mk hcl
       go_simp
       exact hcl.out
     simp only [Act.put, nm1, nm2, nm3, i64_w]
     refine wpK_ops rfl (fun w1 hu => ?_) ?_
     · clear hu
       go_simp
       first | done | rfl
     simp only [Act.put, nm1, nm2, nm3, i64_w]
     refine wpK_ops rfl (fun w1 hu => ?_) ?_
     · clear hu
       go_simp
       first | done | rfl
     simp only [Act.put, nm1, nm2, nm3, i64_w]
     refine wpK_ops rfl (fun w1 hu => ?_) ?_
     · have cl0 := (hb32.up ((Up.refl _).drew.trans hu)).cell (o := 0) rfl
       have cl1 := (hb32.up ((Up.refl _).drew.trans hu)).cell (o := 1) rfl
       go_simp
       first | done | rfl
     simp only [Act.put, nm1, nm2, nm3, i64_w]
     refine wpK_ops rfl (fun w1 hu => ?_) ?_
     · have cl0 := (hb32.up ((Up.refl _).drew.trans hu)).cell (o := 0) rfl
       have cl1 := (hb32.up ((Up.refl _).drew.trans hu)).cell (o := 1) rfl
       go_simp
       first | done | rfl
     simp only [Act.put, nm1, nm2, nm3, i64_w]
     refine wpK_ops rfl (fun w1 hu => ?_) ?_
     · have hcl := (impl_product.calls K a0 a1 t22 t23 t22 t23 t36 w1  A37.out)
       clear hu
       replace hcl := Aside0.mk hcl
       go_simp
       exact hcl.out
     simp only [Act.put, nm1, nm2, nm3, i64_w]
     refine wpK_ops rfl (fun w1 hu => ?_) ?_
     · clear hu
       go_simp
       first | done | rfl
     simp only [Act.put, nm1, nm2, nm3, i64_w]
     refine wpK_nil ?_
     intro w38 hu hap
     simp only [List.drop_succ_cons, List.drop_zero]
     replace hu := (Up.refl _).drew.trans hu
     clear hap
     have hu39 := Aside0.mk hu
     clear hu
     refine wpList_nil ?_
     (try simp only [Exit.then, Exit.inBlock, ↓reduceIte, Nat.reduceEqDiff])
     refine hK33 _ _ ?_
     refine wp_cond_false rfl ?_
     refine wp_skip ?_
     (try simp only [Exit.then, Exit.inBlock, ↓reduceIte, Nat.reduceEqDiff])
     refine hK13 _ _ ?_
     refine wp_region_lit ?_
     refine wpList_plain rfl (fun Ko hKo => ?_)
     go_simp
     refine hKo _ _ ?_
     clear hKo Ko
     try simp only [Act.put, nm1, nm2, nm3, i64_w]
     try simp only [show wrap64 1 = 1 from wlit rfl]
     refine wpList_plain rfl (fun Ko hKo => ?_)
     go_simp
     refine hKo _ _ ?_
     clear hKo Ko
     try simp only [Act.put, nm1, nm2, nm3, i64_w]
     refine wpList_nil ?_
     (try simp only [Exit.then, Exit.inBlock, ↓reduceIte, Nat.reduceEqDiff])
     refine hK10 _ _ ?_
     refine rounds_k (fun K41 hK41 => ?_)
     refine wp_seq_k (fun K42 hK42 => ?_)
     refine wp_region_lit ?_
     refine wpList_plain rfl (fun Ko hKo => ?_)
     go_simp
     refine hKo _ _ ?_
     clear hKo Ko
     try simp only [Act.put, nm1, nm2, nm3, i64_w]
     refine wpList_nil ?_
     (try simp only [Exit.then, Exit.inBlock, ↓reduceIte, Nat.reduceEqDiff])
     refine hK42 _ _ ?_
     refine wp_seq_k (fun K43 hK43 => ?_)
     refine wp_cond_true rfl ?_
     refine wp_skip ?_
     (try simp only [Exit.then, Exit.inBlock, ↓reduceIte, Nat.reduceEqDiff])
     refine hK43 _ _ ?_
     refine wp_seq_k (fun K44 hK44 => ?_)
     refine wp_block ?_
     refine wp_seq_k (fun K45 hK45 => ?_)
     refine wp_region_lit ?_
     refine wpList_plain rfl (fun Ko hKo => ?_)
     go_simp
     refine hKo _ _ ?_
     clear hKo Ko
     try simp only [Act.put, nm1, nm2, nm3, i64_w]
     have cl0 := (hb7.up (((((hu17.out.sto (Nat.le_trans (Nat.le_refl _) lbb15.out) hs19.out).trans hu26.out).trans hu29.out).sto (Nat.le_trans ((Nat.le_trans ((Nat.le_trans (hu17.out.size) (Nat.le_of_eq hs19.out.size.symm))) hu26.out.size)) lbb27.out) hs31.out).trans hu39.out)).cell (o := 2) rfl
     have cl1 := (hb7.up (((((hu17.out.sto (Nat.le_trans (Nat.le_refl _) lbb15.out) hs19.out).trans hu26.out).trans hu29.out).sto (Nat.le_trans ((Nat.le_trans ((Nat.le_trans (hu17.out.size) (Nat.le_of_eq hs19.out.size.symm))) hu26.out.size)) lbb27.out) hs31.out).trans hu39.out)).cell (o := 3) rfl
     refine wpList_plain rfl (fun Ko hKo => ?_)
     go_simp
     refine hKo _ _ ?_
     clear hKo Ko
     clear cl0 cl1
     try simp only [Act.put, nm1, nm2, nm3, i64_w]
     refine step_new (cs := [.int .i64 0, .int .i64 0]) (T := 28) (f := fun b => .pointer (some ⟨b, 0, none⟩)) rfl (by first | (go_simp; done) | (go_simp; rfl)) ?_
     intro b46 w47 hu lb hb46
     simp only [Act.put, nm1, nm2, nm3, i64_w]
     have lbb46 := Aside0.mk lb
     have ltb46 := Aside0.mk hb46.lt
     clear lb
     have hu48 := Aside0.mk hu
     clear hu
     have hB0 := hb46
     have cl0 := hB0.cell (o := 0) rfl
     have fr0 := hB0.free 0
     have cl1 := hB0.cell (o := 1) rfl
     have fr1 := hB0.free 1
     refine step_store (b := b46) (cs' := [.int .i64 0, .int .i64 1]) (T := 28) (W' := ((w47.setCell ⟨b46, 0, none⟩ (.int .i64 0)).setCell ⟨b46, 1, none⟩ (.int .i64 1))) rfl rfl (by first | (go_simp; done) | (go_simp; rfl)) (((Sto.refl _ _).setCell 0 _).setCell 1 _) (((hB0).setCell 0 _).setCell 1 _) ?_
     clear hB0 cl0 fr0 cl1 fr1
     intro w49 hs hb51
     have hs50 := Aside0.mk hs
     clear hs
     refine wpList_nil ?_
     (try simp only [Exit.then, Exit.inBlock, ↓reduceIte, Nat.reduceEqDiff])
     refine hK45 _ _ ?_
     refine wp_seq_k (fun K52 hK52 => ?_)
     refine wp_region_lit ?_
     refine wpList_plain rfl (fun Ko hKo => ?_)
     go_simp
     refine hKo _ _ ?_
     clear hKo Ko
     try simp only [Act.put, nm1, nm2, nm3, i64_w]
     have cl0 := (hb2.up ((((((((hu9.out.trans hu17.out).sto (Nat.le_trans (hu9.out.size) lbb15.out) hs19.out).trans hu26.out).trans hu29.out).sto (Nat.le_trans ((Nat.le_trans ((Nat.le_trans ((Nat.le_trans (hu9.out.size) hu17.out.size)) (Nat.le_of_eq hs19.out.size.symm))) hu26.out.size)) lbb27.out) hs31.out).trans hu39.out).trans hu48.out).sto (Nat.le_trans ((Nat.le_trans ((Nat.le_trans ((Nat.le_trans ((Nat.le_trans ((Nat.le_trans ((Nat.le_trans (hu9.out.size) hu17.out.size)) (Nat.le_of_eq hs19.out.size.symm))) hu26.out.size)) hu29.out.size)) (Nat.le_of_eq hs31.out.size.symm))) hu39.out.size)) lbb46.out) hs50.out)).cell (o := 0) rfl
     have cl1 := (hb2.up ((((((((hu9.out.trans hu17.out).sto (Nat.le_trans (hu9.out.size) lbb15.out) hs19.out).trans hu26.out).trans hu29.out).sto (Nat.le_trans ((Nat.le_trans ((Nat.le_trans ((Nat.le_trans (hu9.out.size) hu17.out.size)) (Nat.le_of_eq hs19.out.size.symm))) hu26.out.size)) lbb27.out) hs31.out).trans hu39.out).trans hu48.out).sto (Nat.le_trans ((Nat.le_trans ((Nat.le_trans ((Nat.le_trans ((Nat.le_trans ((Nat.le_trans ((Nat.le_trans (hu9.out.size) hu17.out.size)) (Nat.le_of_eq hs19.out.size.symm))) hu26.out.size)) hu29.out.size)) (Nat.le_of_eq hs31.out.size.symm))) hu39.out.size)) lbb46.out) hs50.out)).cell (o := 1) rfl
     have cl2 := (hb2.up ((((((((hu9.out.trans hu17.out).sto (Nat.le_trans (hu9.out.size) lbb15.out) hs19.out).trans hu26.out).trans hu29.out).sto (Nat.le_trans ((Nat.le_trans ((Nat.le_trans ((Nat.le_trans (hu9.out.size) hu17.out.size)) (Nat.le_of_eq hs19.out.size.symm))) hu26.out.size)) lbb27.out) hs31.out).trans hu39.out).trans hu48.out).sto (Nat.le_trans ((Nat.le_trans ((Nat.le_trans ((Nat.le_trans ((Nat.le_trans ((Nat.le_trans ((Nat.le_trans (hu9.out.size) hu17.out.size)) (Nat.le_of_eq hs19.out.size.symm))) hu26.out.size)) hu29.out.size)) (Nat.le_of_eq hs31.out.size.symm))) hu39.out.size)) lbb46.out) hs50.out)).cell (o := 2) rfl
     have cl3 := (hb2.up ((((((((hu9.out.trans hu17.out).sto (Nat.le_trans (hu9.out.size) lbb15.out) hs19.out).trans hu26.out).trans hu29.out).sto (Nat.le_trans ((Nat.le_trans ((Nat.le_trans ((Nat.le_trans (hu9.out.size) hu17.out.size)) (Nat.le_of_eq hs19.out.size.symm))) hu26.out.size)) lbb27.out) hs31.out).trans hu39.out).trans hu48.out).sto (Nat.le_trans ((Nat.le_trans ((Nat.le_trans ((Nat.le_trans ((Nat.le_trans ((Nat.le_trans ((Nat.le_trans (hu9.out.size) hu17.out.size)) (Nat.le_of_eq hs19.out.size.symm))) hu26.out.size)) hu29.out.size)) (Nat.le_of_eq hs31.out.size.symm))) hu39.out.size)) lbb46.out) hs50.out)).cell (o := 3) rfl
     refine wpList_plain rfl (fun Ko hKo => ?_)
     go_simp
     refine hKo _ _ ?_
     clear hKo Ko
     clear cl0 cl1 cl2 cl3
     try simp only [Act.put, nm1, nm2, nm3, i64_w]
     have cl0 := hb51.cell (o := 0) rfl
     have cl1 := hb51.cell (o := 1) rfl
     refine wpList_plain rfl (fun Ko hKo => ?_)
     go_simp
     refine hKo _ _ ?_
     clear hKo Ko
     clear cl0 cl1
     try simp only [Act.put, nm1, nm2, nm3, i64_w]
     refine step_call (wanted_none rfl) (by first | (go_simp; done) | (go_simp; rfl)) (impl_turned.calls K a0 a2_0 a2_1 a2_2 a2_3 0 1 t53 t54 w49  A55.out) ?_
     rintro e w56 ⟨rfl, hu⟩
     have hu57 := Aside0.mk hu
     clear hu
     refine ⟨_, rfl, ?_⟩
     simp only [Act.put, nm1, nm2, nm3, i64_w]
     refine step_new (cs := [.int .i64 0, .int .i64 0]) (T := 28) (f := fun b => .pointer (some ⟨b, 0, none⟩)) rfl (by first | (go_simp; done) | (go_simp; rfl)) ?_
     intro b58 w59 hu lb hb58
     simp only [Act.put, nm1, nm2, nm3, i64_w]
     have lbb58 := Aside0.mk lb
     have ltb58 := Aside0.mk hb58.lt
     clear lb
     have hu60 := Aside0.mk hu
     clear hu
     have hB0 := hb58
     have cl0 := hB0.cell (o := 0) rfl
     have fr0 := hB0.free 0
     have cl1 := hB0.cell (o := 1) rfl
     have fr1 := hB0.free 1
     refine step_store (b := b58) (cs' := [.int .i64 t53, .int .i64 t54]) (T := 28) (W' := ((w59.setCell ⟨b58, 0, none⟩ (.int .i64 t53)).setCell ⟨b58, 1, none⟩ (.int .i64 t54))) rfl rfl (by first | (go_simp; done) | (go_simp; rfl)) (((Sto.refl _ _).setCell 0 _).setCell 1 _) (((hB0).setCell 0 _).setCell 1 _) ?_
     clear hB0 cl0 fr0 cl1 fr1
     intro w61 hs hb63
     have hs62 := Aside0.mk hs
     clear hs
     refine wpList_nil ?_
     (try simp only [Exit.then, Exit.inBlock, ↓reduceIte, Nat.reduceEqDiff])
     refine hK52 _ _ ?_
     refine wp_seq_k (fun K64 hK64 => ?_)
     refine' wp_region_up 11 [Slot.det _, Slot.det _, Slot.det _, Slot.det _, Slot.det (.int .i64 t65), Slot.det _, Slot.det _, Slot.det _, Slot.det _, Slot.det (.int .i64 t67), Slot.det _] (by kernel_rfl) (by kernel_rfl) ?main
     case main =>
      simp only [List.take_succ_cons, List.take_zero]
      refine wpK_ops rfl (fun w1 hu => ?_) ?_
      · clear hu
        go_simp
        first | done | rfl
      simp only [Act.put, nm1, nm2, nm3, i64_w]
      refine wpK_ops rfl (fun w1 hu => ?_) ?_
      · clear hu
        go_simp
        first | done | rfl
      simp only [Act.put, nm1, nm2, nm3, i64_w]
      refine wpK_ops rfl (fun w1 hu => ?_) ?_
      · have cl0 := ((hb51.up ((hu57.out.trans hu60.out).sto (Nat.le_trans (hu57.out.size) lbb58.out) hs62.out)).up ((Up.refl _).drew.trans hu)).cell (o := 0) rfl
        have cl1 := ((hb51.up ((hu57.out.trans hu60.out).sto (Nat.le_trans (hu57.out.size) lbb58.out) hs62.out)).up ((Up.refl _).drew.trans hu)).cell (o := 1) rfl
        go_simp
        first | done | rfl
      simp only [Act.put, nm1, nm2, nm3, i64_w]
      refine wpK_ops rfl (fun w1 hu => ?_) ?_
      · have cl0 := ((hb51.up ((hu57.out.trans hu60.out).sto (Nat.le_trans (hu57.out.size) lbb58.out) hs62.out)).up ((Up.refl _).drew.trans hu)).cell (o := 0) rfl
        have cl1 := ((hb51.up ((hu57.out.trans hu60.out).sto (Nat.le_trans (hu57.out.size) lbb58.out) hs62.out)).up ((Up.refl _).drew.trans hu)).cell (o := 1) rfl
        go_simp
        first | done | rfl
      simp only [Act.put, nm1, nm2, nm3, i64_w]
      refine wpK_ops rfl (fun w1 hu => ?_) ?_
      · have hcl := (impl_product.calls K a0 a1 0 1 0 1 t65 w1  A66.out)
        clear hu
        replace hcl := Aside0.mk hcl
        go_simp
        exact hcl.out
      simp only [Act.put, nm1, nm2, nm3, i64_w]
      refine wpK_ops rfl (fun w1 hu => ?_) ?_
      · clear hu
        go_simp
        first | done | rfl
      simp only [Act.put, nm1, nm2, nm3, i64_w]
      refine wpK_ops rfl (fun w1 hu => ?_) ?_
      · clear hu
        go_simp
        first | done | rfl
      simp only [Act.put, nm1, nm2, nm3, i64_w]
      refine wpK_ops rfl (fun w1 hu => ?_) ?_
      · have cl0 := (hb63.up ((Up.refl _).drew.trans hu)).cell (o := 0) rfl
        have cl1 := (hb63.up ((Up.refl _).drew.trans hu)).cell (o := 1) rfl
        go_simp
        first | done | rfl
      simp only [Act.put, nm1, nm2, nm3, i64_w]
      refine wpK_ops rfl (fun w1 hu => ?_) ?_
      · have cl0 := (hb63.up ((Up.refl _).drew.trans hu)).cell (o := 0) rfl
        have cl1 := (hb63.up ((Up.refl _).drew.trans hu)).cell (o := 1) rfl
        go_simp
        first | done | rfl
      simp only [Act.put, nm1, nm2, nm3, i64_w]
      refine wpK_ops rfl (fun w1 hu => ?_) ?_
      · have hcl := (impl_product.calls K a0 a1 t53 t54 t53 t54 t67 w1  A68.out)
        clear hu
        replace hcl := Aside0.mk hcl
        go_simp
        exact hcl.out
      simp only [Act.put, nm1, nm2, nm3, i64_w]
      refine wpK_ops rfl (fun w1 hu => ?_) ?_
      · clear hu
        go_simp
        first | done | rfl
      simp only [Act.put, nm1, nm2, nm3, i64_w]
      refine wpK_nil ?_
      intro w69 hu hap
      simp only [List.drop_succ_cons, List.drop_zero]
      replace hu := (Up.refl _).drew.trans hu
      clear hap
      have hu70 := Aside0.mk hu
      clear hu
      refine wpList_nil ?_
      (try simp only [Exit.then, Exit.inBlock, ↓reduceIte, Nat.reduceEqDiff])
      refine hK64 _ _ ?_
      refine wp_cond_false rfl ?_
      refine wp_skip ?_
      (try simp only [Exit.then, Exit.inBlock, ↓reduceIte, Nat.reduceEqDiff])
      refine hK44 _ _ ?_
      refine wp_region_lit ?_
      refine wpList_plain rfl (fun Ko hKo => ?_)
      go_simp
      refine hKo _ _ ?_
      clear hKo Ko
      try simp only [Act.put, nm1, nm2, nm3, i64_w]
      try simp only [show wrap64 2 = 2 from wlit rfl]
      refine wpList_plain rfl (fun Ko hKo => ?_)
      go_simp
      refine hKo _ _ ?_
      clear hKo Ko
      try simp only [Act.put, nm1, nm2, nm3, i64_w]
      refine wpList_nil ?_
      (try simp only [Exit.then, Exit.inBlock, ↓reduceIte, Nat.reduceEqDiff])
      refine hK41 _ _ ?_
      refine rounds_k (fun K72 hK72 => ?_)
      refine wp_seq_k (fun K73 hK73 => ?_)
      refine wp_region_lit ?_
      refine wpList_plain rfl (fun Ko hKo => ?_)
      go_simp
      refine hKo _ _ ?_
      clear hKo Ko
      try simp only [Act.put, nm1, nm2, nm3, i64_w]
      refine wpList_nil ?_
      (try simp only [Exit.then, Exit.inBlock, ↓reduceIte, Nat.reduceEqDiff])
      refine hK73 _ _ ?_
      refine wp_seq_k (fun K74 hK74 => ?_)
      refine wp_cond_true rfl ?_
      refine wp_skip ?_
      (try simp only [Exit.then, Exit.inBlock, ↓reduceIte, Nat.reduceEqDiff])
      refine hK74 _ _ ?_
      refine wp_seq_k (fun K75 hK75 => ?_)
      refine wp_block ?_
      refine wp_seq_k (fun K76 hK76 => ?_)
      refine wp_region_lit ?_
      refine wpList_plain rfl (fun Ko hKo => ?_)
      go_simp
      refine hKo _ _ ?_
      clear hKo Ko
      try simp only [Act.put, nm1, nm2, nm3, i64_w]
      have cl0 := (hb7.up (((((((((((hu17.out.sto (Nat.le_trans (Nat.le_refl _) lbb15.out) hs19.out).trans hu26.out).trans hu29.out).sto (Nat.le_trans ((Nat.le_trans ((Nat.le_trans (hu17.out.size) (Nat.le_of_eq hs19.out.size.symm))) hu26.out.size)) lbb27.out) hs31.out).trans hu39.out).trans hu48.out).sto (Nat.le_trans ((Nat.le_trans ((Nat.le_trans ((Nat.le_trans ((Nat.le_trans ((Nat.le_trans (hu17.out.size) (Nat.le_of_eq hs19.out.size.symm))) hu26.out.size)) hu29.out.size)) (Nat.le_of_eq hs31.out.size.symm))) hu39.out.size)) lbb46.out) hs50.out).trans hu57.out).trans hu60.out).sto (Nat.le_trans ((Nat.le_trans ((Nat.le_trans ((Nat.le_trans ((Nat.le_trans ((Nat.le_trans ((Nat.le_trans ((Nat.le_trans ((Nat.le_trans (hu17.out.size) (Nat.le_of_eq hs19.out.size.symm))) hu26.out.size)) hu29.out.size)) (Nat.le_of_eq hs31.out.size.symm))) hu39.out.size)) hu48.out.size)) (Nat.le_of_eq hs50.out.size.symm))) hu57.out.size)) lbb58.out) hs62.out).trans hu70.out)).cell (o := 4) rfl
      have cl1 := (hb7.up (((((((((((hu17.out.sto (Nat.le_trans (Nat.le_refl _) lbb15.out) hs19.out).trans hu26.out).trans hu29.out).sto (Nat.le_trans ((Nat.le_trans ((Nat.le_trans (hu17.out.size) (Nat.le_of_eq hs19.out.size.symm))) hu26.out.size)) lbb27.out) hs31.out).trans hu39.out).trans hu48.out).sto (Nat.le_trans ((Nat.le_trans ((Nat.le_trans ((Nat.le_trans ((Nat.le_trans ((Nat.le_trans (hu17.out.size) (Nat.le_of_eq hs19.out.size.symm))) hu26.out.size)) hu29.out.size)) (Nat.le_of_eq hs31.out.size.symm))) hu39.out.size)) lbb46.out) hs50.out).trans hu57.out).trans hu60.out).sto (Nat.le_trans ((Nat.le_trans ((Nat.le_trans ((Nat.le_trans ((Nat.le_trans ((Nat.le_trans ((Nat.le_trans ((Nat.le_trans ((Nat.le_trans (hu17.out.size) (Nat.le_of_eq hs19.out.size.symm))) hu26.out.size)) hu29.out.size)) (Nat.le_of_eq hs31.out.size.symm))) hu39.out.size)) hu48.out.size)) (Nat.le_of_eq hs50.out.size.symm))) hu57.out.size)) lbb58.out) hs62.out).trans hu70.out)).cell (o := 5) rfl
      refine wpList_plain rfl (fun Ko hKo => ?_)
      go_simp
      refine hKo _ _ ?_
      clear hKo Ko
      clear cl0 cl1
      try simp only [Act.put, nm1, nm2, nm3, i64_w]
      refine step_new (cs := [.int .i64 0, .int .i64 0]) (T := 28) (f := fun b => .pointer (some ⟨b, 0, none⟩)) rfl (by first | (go_simp; done) | (go_simp; rfl)) ?_
      intro b77 w78 hu lb hb77
      simp only [Act.put, nm1, nm2, nm3, i64_w]
      have lbb77 := Aside0.mk lb
      have ltb77 := Aside0.mk hb77.lt
      clear lb
      have hu79 := Aside0.mk hu
      clear hu
      have hB0 := hb77
      have cl0 := hB0.cell (o := 0) rfl
      have fr0 := hB0.free 0
      have cl1 := hB0.cell (o := 1) rfl
      have fr1 := hB0.free 1
      refine step_store (b := b77) (cs' := [.int .i64 1, .int .i64 1]) (T := 28) (W' := ((w78.setCell ⟨b77, 0, none⟩ (.int .i64 1)).setCell ⟨b77, 1, none⟩ (.int .i64 1))) rfl rfl (by first | (go_simp; done) | (go_simp; rfl)) (((Sto.refl _ _).setCell 0 _).setCell 1 _) (((hB0).setCell 0 _).setCell 1 _) ?_
      clear hB0 cl0 fr0 cl1 fr1
      intro w80 hs hb82
      have hs81 := Aside0.mk hs
      clear hs
      refine wpList_nil ?_
      (try simp only [Exit.then, Exit.inBlock, ↓reduceIte, Nat.reduceEqDiff])
      refine hK76 _ _ ?_
      refine wp_seq_k (fun K83 hK83 => ?_)
      refine wp_region_lit ?_
      refine wpList_plain rfl (fun Ko hKo => ?_)
      go_simp
      refine hKo _ _ ?_
      clear hKo Ko
      try simp only [Act.put, nm1, nm2, nm3, i64_w]
      have cl0 := (hb2.up ((((((((((((((hu9.out.trans hu17.out).sto (Nat.le_trans (hu9.out.size) lbb15.out) hs19.out).trans hu26.out).trans hu29.out).sto (Nat.le_trans ((Nat.le_trans ((Nat.le_trans ((Nat.le_trans (hu9.out.size) hu17.out.size)) (Nat.le_of_eq hs19.out.size.symm))) hu26.out.size)) lbb27.out) hs31.out).trans hu39.out).trans hu48.out).sto (Nat.le_trans ((Nat.le_trans ((Nat.le_trans ((Nat.le_trans ((Nat.le_trans ((Nat.le_trans ((Nat.le_trans (hu9.out.size) hu17.out.size)) (Nat.le_of_eq hs19.out.size.symm))) hu26.out.size)) hu29.out.size)) (Nat.le_of_eq hs31.out.size.symm))) hu39.out.size)) lbb46.out) hs50.out).trans hu57.out).trans hu60.out).sto (Nat.le_trans ((Nat.le_trans ((Nat.le_trans ((Nat.le_trans ((Nat.le_trans ((Nat.le_trans ((Nat.le_trans ((Nat.le_trans ((Nat.le_trans ((Nat.le_trans (hu9.out.size) hu17.out.size)) (Nat.le_of_eq hs19.out.size.symm))) hu26.out.size)) hu29.out.size)) (Nat.le_of_eq hs31.out.size.symm))) hu39.out.size)) hu48.out.size)) (Nat.le_of_eq hs50.out.size.symm))) hu57.out.size)) lbb58.out) hs62.out).trans hu70.out).trans hu79.out).sto (Nat.le_trans ((Nat.le_trans ((Nat.le_trans ((Nat.le_trans ((Nat.le_trans ((Nat.le_trans ((Nat.le_trans ((Nat.le_trans ((Nat.le_trans ((Nat.le_trans ((Nat.le_trans ((Nat.le_trans ((Nat.le_trans (hu9.out.size) hu17.out.size)) (Nat.le_of_eq hs19.out.size.symm))) hu26.out.size)) hu29.out.size)) (Nat.le_of_eq hs31.out.size.symm))) hu39.out.size)) hu48.out.size)) (Nat.le_of_eq hs50.out.size.symm))) hu57.out.size)) hu60.out.size)) (Nat.le_of_eq hs62.out.size.symm))) hu70.out.size)) lbb77.out) hs81.out)).cell (o := 0) rfl
      have cl1 := (hb2.up ((((((((((((((hu9.out.trans hu17.out).sto (Nat.le_trans (hu9.out.size) lbb15.out) hs19.out).trans hu26.out).trans hu29.out).sto (Nat.le_trans ((Nat.le_trans ((Nat.le_trans ((Nat.le_trans (hu9.out.size) hu17.out.size)) (Nat.le_of_eq hs19.out.size.symm))) hu26.out.size)) lbb27.out) hs31.out).trans hu39.out).trans hu48.out).sto (Nat.le_trans ((Nat.le_trans ((Nat.le_trans ((Nat.le_trans ((Nat.le_trans ((Nat.le_trans ((Nat.le_trans (hu9.out.size) hu17.out.size)) (Nat.le_of_eq hs19.out.size.symm))) hu26.out.size)) hu29.out.size)) (Nat.le_of_eq hs31.out.size.symm))) hu39.out.size)) lbb46.out) hs50.out).trans hu57.out).trans hu60.out).sto (Nat.le_trans ((Nat.le_trans ((Nat.le_trans ((Nat.le_trans ((Nat.le_trans ((Nat.le_trans ((Nat.le_trans ((Nat.le_trans ((Nat.le_trans ((Nat.le_trans (hu9.out.size) hu17.out.size)) (Nat.le_of_eq hs19.out.size.symm))) hu26.out.size)) hu29.out.size)) (Nat.le_of_eq hs31.out.size.symm))) hu39.out.size)) hu48.out.size)) (Nat.le_of_eq hs50.out.size.symm))) hu57.out.size)) lbb58.out) hs62.out).trans hu70.out).trans hu79.out).sto (Nat.le_trans ((Nat.le_trans ((Nat.le_trans ((Nat.le_trans ((Nat.le_trans ((Nat.le_trans ((Nat.le_trans ((Nat.le_trans ((Nat.le_trans ((Nat.le_trans ((Nat.le_trans ((Nat.le_trans ((Nat.le_trans (hu9.out.size) hu17.out.size)) (Nat.le_of_eq hs19.out.size.symm))) hu26.out.size)) hu29.out.size)) (Nat.le_of_eq hs31.out.size.symm))) hu39.out.size)) hu48.out.size)) (Nat.le_of_eq hs50.out.size.symm))) hu57.out.size)) hu60.out.size)) (Nat.le_of_eq hs62.out.size.symm))) hu70.out.size)) lbb77.out) hs81.out)).cell (o := 1) rfl
      have cl2 := (hb2.up ((((((((((((((hu9.out.trans hu17.out).sto (Nat.le_trans (hu9.out.size) lbb15.out) hs19.out).trans hu26.out).trans hu29.out).sto (Nat.le_trans ((Nat.le_trans ((Nat.le_trans ((Nat.le_trans (hu9.out.size) hu17.out.size)) (Nat.le_of_eq hs19.out.size.symm))) hu26.out.size)) lbb27.out) hs31.out).trans hu39.out).trans hu48.out).sto (Nat.le_trans ((Nat.le_trans ((Nat.le_trans ((Nat.le_trans ((Nat.le_trans ((Nat.le_trans ((Nat.le_trans (hu9.out.size) hu17.out.size)) (Nat.le_of_eq hs19.out.size.symm))) hu26.out.size)) hu29.out.size)) (Nat.le_of_eq hs31.out.size.symm))) hu39.out.size)) lbb46.out) hs50.out).trans hu57.out).trans hu60.out).sto (Nat.le_trans ((Nat.le_trans ((Nat.le_trans ((Nat.le_trans ((Nat.le_trans ((Nat.le_trans ((Nat.le_trans ((Nat.le_trans ((Nat.le_trans ((Nat.le_trans (hu9.out.size) hu17.out.size)) (Nat.le_of_eq hs19.out.size.symm))) hu26.out.size)) hu29.out.size)) (Nat.le_of_eq hs31.out.size.symm))) hu39.out.size)) hu48.out.size)) (Nat.le_of_eq hs50.out.size.symm))) hu57.out.size)) lbb58.out) hs62.out).trans hu70.out).trans hu79.out).sto (Nat.le_trans ((Nat.le_trans ((Nat.le_trans ((Nat.le_trans ((Nat.le_trans ((Nat.le_trans ((Nat.le_trans ((Nat.le_trans ((Nat.le_trans ((Nat.le_trans ((Nat.le_trans ((Nat.le_trans ((Nat.le_trans (hu9.out.size) hu17.out.size)) (Nat.le_of_eq hs19.out.size.symm))) hu26.out.size)) hu29.out.size)) (Nat.le_of_eq hs31.out.size.symm))) hu39.out.size)) hu48.out.size)) (Nat.le_of_eq hs50.out.size.symm))) hu57.out.size)) hu60.out.size)) (Nat.le_of_eq hs62.out.size.symm))) hu70.out.size)) lbb77.out) hs81.out)).cell (o := 2) rfl
      have cl3 := (hb2.up ((((((((((((((hu9.out.trans hu17.out).sto (Nat.le_trans (hu9.out.size) lbb15.out) hs19.out).trans hu26.out).trans hu29.out).sto (Nat.le_trans ((Nat.le_trans ((Nat.le_trans ((Nat.le_trans (hu9.out.size) hu17.out.size)) (Nat.le_of_eq hs19.out.size.symm))) hu26.out.size)) lbb27.out) hs31.out).trans hu39.out).trans hu48.out).sto (Nat.le_trans ((Nat.le_trans ((Nat.le_trans ((Nat.le_trans ((Nat.le_trans ((Nat.le_trans ((Nat.le_trans (hu9.out.size) hu17.out.size)) (Nat.le_of_eq hs19.out.size.symm))) hu26.out.size)) hu29.out.size)) (Nat.le_of_eq hs31.out.size.symm))) hu39.out.size)) lbb46.out) hs50.out).trans hu57.out).trans hu60.out).sto (Nat.le_trans ((Nat.le_trans ((Nat.le_trans ((Nat.le_trans ((Nat.le_trans ((Nat.le_trans ((Nat.le_trans ((Nat.le_trans ((Nat.le_trans ((Nat.le_trans (hu9.out.size) hu17.out.size)) (Nat.le_of_eq hs19.out.size.symm))) hu26.out.size)) hu29.out.size)) (Nat.le_of_eq hs31.out.size.symm))) hu39.out.size)) hu48.out.size)) (Nat.le_of_eq hs50.out.size.symm))) hu57.out.size)) lbb58.out) hs62.out).trans hu70.out).trans hu79.out).sto (Nat.le_trans ((Nat.le_trans ((Nat.le_trans ((Nat.le_trans ((Nat.le_trans ((Nat.le_trans ((Nat.le_trans ((Nat.le_trans ((Nat.le_trans ((Nat.le_trans ((Nat.le_trans ((Nat.le_trans ((Nat.le_trans (hu9.out.size) hu17.out.size)) (Nat.le_of_eq hs19.out.size.symm))) hu26.out.size)) hu29.out.size)) (Nat.le_of_eq hs31.out.size.symm))) hu39.out.size)) hu48.out.size)) (Nat.le_of_eq hs50.out.size.symm))) hu57.out.size)) hu60.out.size)) (Nat.le_of_eq hs62.out.size.symm))) hu70.out.size)) lbb77.out) hs81.out)).cell (o := 3) rfl
      refine wpList_plain rfl (fun Ko hKo => ?_)
      go_simp
      refine hKo _ _ ?_
      clear hKo Ko
      clear cl0 cl1 cl2 cl3
      try simp only [Act.put, nm1, nm2, nm3, i64_w]
      have cl0 := hb82.cell (o := 0) rfl
      have cl1 := hb82.cell (o := 1) rfl
      refine wpList_plain rfl (fun Ko hKo => ?_)
      go_simp
      refine hKo _ _ ?_
      clear hKo Ko
      clear cl0 cl1
      try simp only [Act.put, nm1, nm2, nm3, i64_w]
      refine step_call (wanted_none rfl) (by first | (go_simp; done) | (go_simp; rfl)) (impl_turned.calls K a0 a2_0 a2_1 a2_2 a2_3 1 1 t84 t85 w80  A86.out) ?_
      rintro e w87 ⟨rfl, hu⟩
      have hu88 := Aside0.mk hu
      clear hu
      refine ⟨_, rfl, ?_⟩
      simp only [Act.put, nm1, nm2, nm3, i64_w]
      refine step_new (cs := [.int .i64 0, .int .i64 0]) (T := 28) (f := fun b => .pointer (some ⟨b, 0, none⟩)) rfl (by first | (go_simp; done) | (go_simp; rfl)) ?_
      intro b89 w90 hu lb hb89
      simp only [Act.put, nm1, nm2, nm3, i64_w]
      have lbb89 := Aside0.mk lb
      have ltb89 := Aside0.mk hb89.lt
      clear lb
      have hu91 := Aside0.mk hu
      clear hu
      have hB0 := hb89
      have cl0 := hB0.cell (o := 0) rfl
      have fr0 := hB0.free 0
      have cl1 := hB0.cell (o := 1) rfl
      have fr1 := hB0.free 1
      refine step_store (b := b89) (cs' := [.int .i64 t84, .int .i64 t85]) (T := 28) (W' := ((w90.setCell ⟨b89, 0, none⟩ (.int .i64 t84)).setCell ⟨b89, 1, none⟩ (.int .i64 t85))) rfl rfl (by first | (go_simp; done) | (go_simp; rfl)) (((Sto.refl _ _).setCell 0 _).setCell 1 _) (((hB0).setCell 0 _).setCell 1 _) ?_
      clear hB0 cl0 fr0 cl1 fr1
      intro w92 hs hb94
      have hs93 := Aside0.mk hs
      clear hs
      refine wpList_nil ?_
      (try simp only [Exit.then, Exit.inBlock, ↓reduceIte, Nat.reduceEqDiff])
      refine hK83 _ _ ?_
      refine wp_seq_k (fun K95 hK95 => ?_)
      refine' wp_region_up 11 [Slot.det _, Slot.det _, Slot.det _, Slot.det _, Slot.det (.int .i64 t96), Slot.det _, Slot.det _, Slot.det _, Slot.det _, Slot.det (.int .i64 t98), Slot.det _] (by kernel_rfl) (by kernel_rfl) ?main
      case main =>
       simp only [List.take_succ_cons, List.take_zero]
       refine wpK_ops rfl (fun w1 hu => ?_) ?_
       · clear hu
         go_simp
         first | done | rfl
       simp only [Act.put, nm1, nm2, nm3, i64_w]
       refine wpK_ops rfl (fun w1 hu => ?_) ?_
       · clear hu
         go_simp
         first | done | rfl
       simp only [Act.put, nm1, nm2, nm3, i64_w]
       refine wpK_ops rfl (fun w1 hu => ?_) ?_
       · have cl0 := ((hb82.up ((hu88.out.trans hu91.out).sto (Nat.le_trans (hu88.out.size) lbb89.out) hs93.out)).up ((Up.refl _).drew.trans hu)).cell (o := 0) rfl
         have cl1 := ((hb82.up ((hu88.out.trans hu91.out).sto (Nat.le_trans (hu88.out.size) lbb89.out) hs93.out)).up ((Up.refl _).drew.trans hu)).cell (o := 1) rfl
         go_simp
         first | done | rfl
       simp only [Act.put, nm1, nm2, nm3, i64_w]
       refine wpK_ops rfl (fun w1 hu => ?_) ?_
       · have cl0 := ((hb82.up ((hu88.out.trans hu91.out).sto (Nat.le_trans (hu88.out.size) lbb89.out) hs93.out)).up ((Up.refl _).drew.trans hu)).cell (o := 0) rfl
         have cl1 := ((hb82.up ((hu88.out.trans hu91.out).sto (Nat.le_trans (hu88.out.size) lbb89.out) hs93.out)).up ((Up.refl _).drew.trans hu)).cell (o := 1) rfl
         go_simp
         first | done | rfl
       simp only [Act.put, nm1, nm2, nm3, i64_w]
       refine wpK_ops rfl (fun w1 hu => ?_) ?_
       · have hcl := (impl_product.calls K a0 a1 1 1 1 1 t96 w1  A97.out)
         clear hu
         replace hcl := Aside0.mk hcl
         go_simp
         exact hcl.out
       simp only [Act.put, nm1, nm2, nm3, i64_w]
       refine wpK_ops rfl (fun w1 hu => ?_) ?_
       · clear hu
         go_simp
         first | done | rfl
       simp only [Act.put, nm1, nm2, nm3, i64_w]
       refine wpK_ops rfl (fun w1 hu => ?_) ?_
       · clear hu
         go_simp
         first | done | rfl
       simp only [Act.put, nm1, nm2, nm3, i64_w]
       refine wpK_ops rfl (fun w1 hu => ?_) ?_
       · have cl0 := (hb94.up ((Up.refl _).drew.trans hu)).cell (o := 0) rfl
         have cl1 := (hb94.up ((Up.refl _).drew.trans hu)).cell (o := 1) rfl
         go_simp
         first | done | rfl
       simp only [Act.put, nm1, nm2, nm3, i64_w]
       refine wpK_ops rfl (fun w1 hu => ?_) ?_
       · have cl0 := (hb94.up ((Up.refl _).drew.trans hu)).cell (o := 0) rfl
         have cl1 := (hb94.up ((Up.refl _).drew.trans hu)).cell (o := 1) rfl
         go_simp
         first | done | rfl
       simp only [Act.put, nm1, nm2, nm3, i64_w]
       refine wpK_ops rfl (fun w1 hu => ?_) ?_
       · have hcl := (impl_product.calls K a0 a1 t84 t85 t84 t85 t98 w1  A99.out)
         clear hu
         replace hcl := Aside0.mk hcl
         go_simp
         exact hcl.out
       simp only [Act.put, nm1, nm2, nm3, i64_w]
       refine wpK_ops rfl (fun w1 hu => ?_) ?_
       · clear hu
         go_simp
         first | done | rfl
       simp only [Act.put, nm1, nm2, nm3, i64_w]
       refine wpK_nil ?_
       intro w100 hu hap
       simp only [List.drop_succ_cons, List.drop_zero]
       replace hu := (Up.refl _).drew.trans hu
       clear hap
       have hu101 := Aside0.mk hu
       clear hu
       refine wpList_nil ?_
       (try simp only [Exit.then, Exit.inBlock, ↓reduceIte, Nat.reduceEqDiff])
       refine hK95 _ _ ?_
       refine wp_cond_true rfl ?_
       refine wp_seq_k (fun K107 hK107 => ?_)
       refine wp_region_lit ?_
       refine wpList_plain rfl (fun Ko hKo => ?_)
       go_simp
       refine hKo _ _ ?_
       clear hKo Ko
       try simp only [Act.put, nm1, nm2, nm3, i64_w]
       refine wpList_nil ?_
       (try simp only [Exit.then, Exit.inBlock, ↓reduceIte, Nat.reduceEqDiff])
       refine hK107 _ _ ?_
       refine wp_ret ?_
       (try simp only [Exit.then, Exit.inBlock, ↓reduceIte, Nat.reduceEqDiff])
       refine hQf _ _ _ ?_
       exact bodyPost_ret (v := .bool false) (by first | rfl | (simp [results, Tryd.results30, go_sem]; done) | (simp [results, Tryd.results30, go_sem]; rfl)) rfl ⟨rfl, (((((((((((((((((((hu4.out.trans hu9.out).trans hu17.out).sto (Nat.le_trans ((Nat.le_trans (hu4.out.size) hu9.out.size)) lbb15.out) hs19.out).trans hu26.out).trans hu29.out).sto (Nat.le_trans ((Nat.le_trans ((Nat.le_trans ((Nat.le_trans ((Nat.le_trans (hu4.out.size) hu9.out.size)) hu17.out.size)) (Nat.le_of_eq hs19.out.size.symm))) hu26.out.size)) lbb27.out) hs31.out).trans hu39.out).trans hu48.out).sto (Nat.le_trans ((Nat.le_trans ((Nat.le_trans ((Nat.le_trans ((Nat.le_trans ((Nat.le_trans ((Nat.le_trans ((Nat.le_trans (hu4.out.size) hu9.out.size)) hu17.out.size)) (Nat.le_of_eq hs19.out.size.symm))) hu26.out.size)) hu29.out.size)) (Nat.le_of_eq hs31.out.size.symm))) hu39.out.size)) lbb46.out) hs50.out).trans hu57.out).trans hu60.out).sto (Nat.le_trans ((Nat.le_trans ((Nat.le_trans ((Nat.le_trans ((Nat.le_trans ((Nat.le_trans ((Nat.le_trans ((Nat.le_trans ((Nat.le_trans ((Nat.le_trans ((Nat.le_trans (hu4.out.size) hu9.out.size)) hu17.out.size)) (Nat.le_of_eq hs19.out.size.symm))) hu26.out.size)) hu29.out.size)) (Nat.le_of_eq hs31.out.size.symm))) hu39.out.size)) hu48.out.size)) (Nat.le_of_eq hs50.out.size.symm))) hu57.out.size)) lbb58.out) hs62.out).trans hu70.out).trans hu79.out).sto (Nat.le_trans ((Nat.le_trans ((Nat.le_trans ((Nat.le_trans ((Nat.le_trans ((Nat.le_trans ((Nat.le_trans ((Nat.le_trans ((Nat.le_trans ((Nat.le_trans ((Nat.le_trans ((Nat.le_trans ((Nat.le_trans ((Nat.le_trans (hu4.out.size) hu9.out.size)) hu17.out.size)) (Nat.le_of_eq hs19.out.size.symm))) hu26.out.size)) hu29.out.size)) (Nat.le_of_eq hs31.out.size.symm))) hu39.out.size)) hu48.out.size)) (Nat.le_of_eq hs50.out.size.symm))) hu57.out.size)) hu60.out.size)) (Nat.le_of_eq hs62.out.size.symm))) hu70.out.size)) lbb77.out) hs81.out).trans hu88.out).trans hu91.out).sto (Nat.le_trans ((Nat.le_trans ((Nat.le_trans ((Nat.le_trans ((Nat.le_trans ((Nat.le_trans ((Nat.le_trans ((Nat.le_trans ((Nat.le_trans ((Nat.le_trans ((Nat.le_trans ((Nat.le_trans ((Nat.le_trans ((Nat.le_trans ((Nat.le_trans ((Nat.le_trans ((Nat.le_trans (hu4.out.size) hu9.out.size)) hu17.out.size)) (Nat.le_of_eq hs19.out.size.symm))) hu26.out.size)) hu29.out.size)) (Nat.le_of_eq hs31.out.size.symm))) hu39.out.size)) hu48.out.size)) (Nat.le_of_eq hs50.out.size.symm))) hu57.out.size)) hu60.out.size)) (Nat.le_of_eq hs62.out.size.symm))) hu70.out.size)) hu79.out.size)) (Nat.le_of_eq hs81.out.size.symm))) hu88.out.size)) lbb89.out) hs93.out).trans hu101.out)⟩
  ·
   rw [if_neg c71] at H
   replace c71 := Bool.eq_false_iff.mpr c71
   have c71n : (t65 != t67) = true := by rw [bne, c71]; rfl
   have c71p : ¬ t65 = t67 := fun e => by simp [e] at c71
   obtain rfl := Option.some.inj H
   go_enter Tryd.func30, Tryd.ntmps30
   refine wp_hide (fun Qf hQf => ?_)
   refine wp_seq_k (fun K1 hK1 => ?_)
   refine wp_region_lit ?_
   refine step_new (cs := [.int .i64 a2_0, .int .i64 a2_1, .int .i64 a2_2, .int .i64 a2_3]) (T := 22) (f := fun b => .pointer (some ⟨b, 0, none⟩)) rfl (by first | (go_simp; done) | (go_simp; rfl)) ?_
   intro b2 w3 hu lb hb2
   simp only [Act.put, nm1, nm2, nm3, i64_w]
   have lbb2 := Aside0.mk lb
   have ltb2 := Aside0.mk hb2.lt
   clear lb
   have hu4 := Aside0.mk hu
   clear hu
   refine wpList_plain rfl (fun Ko hKo => ?_)
   go_simp
   refine hKo _ _ ?_
   clear hKo Ko
   try simp only [Act.put, nm1, nm2, nm3, i64_w]
   refine wpList_nil ?_
   (try simp only [Exit.then, Exit.inBlock, ↓reduceIte, Nat.reduceEqDiff])
   refine hK1 _ _ ?_
   refine wp_seq_k (fun K5 hK5 => ?_)
   refine wp_seq_k (fun K6 hK6 => ?_)
   refine wp_region_lit ?_
   refine wpList_plain rfl (fun Ko hKo => ?_)
   go_simp
   refine hKo _ _ ?_
   clear hKo Ko
   try simp only [Act.put, nm1, nm2, nm3, i64_w]
   refine wpList_plain rfl (fun Ko hKo => ?_)
   go_simp
   refine hKo _ _ ?_
   clear hKo Ko
   try simp only [Act.put, nm1, nm2, nm3, i64_w]
   refine wpList_plain rfl (fun Ko hKo => ?_)
   go_simp
   refine hKo _ _ ?_
   clear hKo Ko
   try simp only [Act.put, nm1, nm2, nm3, i64_w]
   refine step_new (cs := [.int .i64 1, .int .i64 0, .int .i64 0, .int .i64 1, .int .i64 1, .int .i64 1]) (T := 28) (f := fun b => .slice (some ⟨b, 0, none⟩) 3 3) rfl (by first | (go_simp; done) | (go_simp; rfl)) ?_
   intro b7 w8 hu lb hb7
   simp only [Act.put, nm1, nm2, nm3, i64_w]
   have lbb7 := Aside0.mk lb
   have ltb7 := Aside0.mk hb7.lt
   clear lb
   have hu9 := Aside0.mk hu
   clear hu
   refine wpList_plain rfl (fun Ko hKo => ?_)
   go_simp
   refine hKo _ _ ?_
   clear hKo Ko
   try simp only [Act.put, nm1, nm2, nm3, i64_w]
   refine wpList_plain rfl (fun Ko hKo => ?_)
   go_simp
   refine hKo _ _ ?_
   clear hKo Ko
   try simp only [Act.put, nm1, nm2, nm3, i64_w]
   refine wpList_nil ?_
   (try simp only [Exit.then, Exit.inBlock, ↓reduceIte, Nat.reduceEqDiff])
   refine hK6 _ _ ?_
   refine wp_block ?_
   refine wp_loop_rounds 40 ?_
   refine rounds_k (fun K10 hK10 => ?_)
   refine wp_seq_k (fun K11 hK11 => ?_)
   refine wp_region_lit ?_
   refine wpList_plain rfl (fun Ko hKo => ?_)
   go_simp
   refine hKo _ _ ?_
   clear hKo Ko
   try simp only [Act.put, nm1, nm2, nm3, i64_w]
   refine wpList_nil ?_
   (try simp only [Exit.then, Exit.inBlock, ↓reduceIte, Nat.reduceEqDiff])
   refine hK11 _ _ ?_
   refine wp_seq_k (fun K12 hK12 => ?_)
   refine wp_cond_true rfl ?_
   refine wp_skip ?_
   (try simp only [Exit.then, Exit.inBlock, ↓reduceIte, Nat.reduceEqDiff])
   refine hK12 _ _ ?_
   refine wp_seq_k (fun K13 hK13 => ?_)
   refine wp_block ?_
   refine wp_seq_k (fun K14 hK14 => ?_)
   refine wp_region_lit ?_
   refine wpList_plain rfl (fun Ko hKo => ?_)
   go_simp
   refine hKo _ _ ?_
   clear hKo Ko
   try simp only [Act.put, nm1, nm2, nm3, i64_w]
   have cl0 := hb7.cell (o := 0) rfl
   have cl1 := hb7.cell (o := 1) rfl
   refine wpList_plain rfl (fun Ko hKo => ?_)
   go_simp
   refine hKo _ _ ?_
   clear hKo Ko
   clear cl0 cl1
   try simp only [Act.put, nm1, nm2, nm3, i64_w]
   refine step_new (cs := [.int .i64 0, .int .i64 0]) (T := 28) (f := fun b => .pointer (some ⟨b, 0, none⟩)) rfl (by first | (go_simp; done) | (go_simp; rfl)) ?_
   intro b15 w16 hu lb hb15
   simp only [Act.put, nm1, nm2, nm3, i64_w]
   have lbb15 := Aside0.mk lb
   have ltb15 := Aside0.mk hb15.lt
   clear lb
   have hu17 := Aside0.mk hu
   clear hu
   have hB0 := hb15
   have cl0 := hB0.cell (o := 0) rfl
   have fr0 := hB0.free 0
   have cl1 := hB0.cell (o := 1) rfl
   have fr1 := hB0.free 1
   refine step_store (b := b15) (cs' := [.int .i64 1, .int .i64 0]) (T := 28) (W' := ((w16.setCell ⟨b15, 0, none⟩ (.int .i64 1)).setCell ⟨b15, 1, none⟩ (.int .i64 0))) rfl rfl (by first | (go_simp; done) | (go_simp; rfl)) (((Sto.refl _ _).setCell 0 _).setCell 1 _) (((hB0).setCell 0 _).setCell 1 _) ?_
   clear hB0 cl0 fr0 cl1 fr1
   intro w18 hs hb20
   have hs19 := Aside0.mk hs
   clear hs
   refine wpList_nil ?_
   (try simp only [Exit.then, Exit.inBlock, ↓reduceIte, Nat.reduceEqDiff])
   refine hK14 _ _ ?_
   refine wp_seq_k (fun K21 hK21 => ?_)
   refine wp_region_lit ?_
   refine wpList_plain rfl (fun Ko hKo => ?_)
   go_simp
   refine hKo _ _ ?_
   clear hKo Ko
   try simp only [Act.put, nm1, nm2, nm3, i64_w]
   have cl0 := (hb2.up ((hu9.out.trans hu17.out).sto (Nat.le_trans (hu9.out.size) lbb15.out) hs19.out)).cell (o := 0) rfl
   have cl1 := (hb2.up ((hu9.out.trans hu17.out).sto (Nat.le_trans (hu9.out.size) lbb15.out) hs19.out)).cell (o := 1) rfl
   have cl2 := (hb2.up ((hu9.out.trans hu17.out).sto (Nat.le_trans (hu9.out.size) lbb15.out) hs19.out)).cell (o := 2) rfl
   have cl3 := (hb2.up ((hu9.out.trans hu17.out).sto (Nat.le_trans (hu9.out.size) lbb15.out) hs19.out)).cell (o := 3) rfl
   refine wpList_plain rfl (fun Ko hKo => ?_)
   go_simp
   refine hKo _ _ ?_
   clear hKo Ko
   clear cl0 cl1 cl2 cl3
   try simp only [Act.put, nm1, nm2, nm3, i64_w]
   have cl0 := hb20.cell (o := 0) rfl
   have cl1 := hb20.cell (o := 1) rfl
   refine wpList_plain rfl (fun Ko hKo => ?_)
   go_simp
   refine hKo _ _ ?_
   clear hKo Ko
   clear cl0 cl1
   try simp only [Act.put, nm1, nm2, nm3, i64_w]
   refine step_call (wanted_none rfl) (by first | (go_simp; done) | (go_simp; rfl)) (impl_turned.calls K a0 a2_0 a2_1 a2_2 a2_3 1 0 t22 t23 w18  A24.out) ?_
   rintro e w25 ⟨rfl, hu⟩
   have hu26 := Aside0.mk hu
   clear hu
   refine ⟨_, rfl, ?_⟩
   simp only [Act.put, nm1, nm2, nm3, i64_w]
   refine step_new (cs := [.int .i64 0, .int .i64 0]) (T := 28) (f := fun b => .pointer (some ⟨b, 0, none⟩)) rfl (by first | (go_simp; done) | (go_simp; rfl)) ?_
   intro b27 w28 hu lb hb27
   simp only [Act.put, nm1, nm2, nm3, i64_w]
   have lbb27 := Aside0.mk lb
   have ltb27 := Aside0.mk hb27.lt
   clear lb
   have hu29 := Aside0.mk hu
   clear hu
   have hB0 := hb27
   have cl0 := hB0.cell (o := 0) rfl
   have fr0 := hB0.free 0
   have cl1 := hB0.cell (o := 1) rfl
   have fr1 := hB0.free 1
   refine step_store (b := b27) (cs' := [.int .i64 t22, .int .i64 t23]) (T := 28) (W' := ((w28.setCell ⟨b27, 0, none⟩ (.int .i64 t22)).setCell ⟨b27, 1, none⟩ (.int .i64 t23))) rfl rfl (by first | (go_simp; done) | (go_simp; rfl)) (((Sto.refl _ _).setCell 0 _).setCell 1 _) (((hB0).setCell 0 _).setCell 1 _) ?_
   clear hB0 cl0 fr0 cl1 fr1
   intro w30 hs hb32
   have hs31 := Aside0.mk hs
   clear hs
   refine wpList_nil ?_
   (try simp only [Exit.then, Exit.inBlock, ↓reduceIte, Nat.reduceEqDiff])
   refine hK21 _ _ ?_
   refine wp_seq_k (fun K33 hK33 => ?_)
   refine' wp_region_up 11 [Slot.det _, Slot.det _, Slot.det _, Slot.det _, Slot.det (.int .i64 t34), Slot.det _, Slot.det _, Slot.det _, Slot.det _, Slot.det (.int .i64 t36), Slot.det _] (by kernel_rfl) (by kernel_rfl) ?main
   case main =>
    simp only [List.take_succ_cons, List.take_zero]
    refine wpK_ops rfl (fun w1 hu => ?_) ?_
    · clear hu
      go_simp
      first | done | rfl
    simp only [Act.put, nm1, nm2, nm3, i64_w]
    refine wpK_ops rfl (fun w1 hu => ?_) ?_
    · clear hu
      go_simp
      first | done | rfl
    simp only [Act.put, nm1, nm2, nm3, i64_w]
    refine wpK_ops rfl (fun w1 hu => ?_) ?_
    · have cl0 := ((hb20.up ((hu26.out.trans hu29.out).sto (Nat.le_trans (hu26.out.size) lbb27.out) hs31.out)).up ((Up.refl _).drew.trans hu)).cell (o := 0) rfl
      have cl1 := ((hb20.up ((hu26.out.trans hu29.out).sto (Nat.le_trans (hu26.out.size) lbb27.out) hs31.out)).up ((Up.refl _).drew.trans hu)).cell (o := 1) rfl
      go_simp
      first | done | rfl
    simp only [Act.put, nm1, nm2, nm3, i64_w]
    refine wpK_ops rfl (fun w1 hu => ?_) ?_
    · have cl0 := ((hb20.up ((hu26.out.trans hu29.out).sto (Nat.le_trans (hu26.out.size) lbb27.out) hs31.out)).up ((Up.refl _).drew.trans hu)).cell (o := 0) rfl
      have cl1 := ((hb20.up ((hu26.out.trans hu29.out).sto (Nat.le_trans (hu26.out.size) lbb27.out) hs31.out)).up ((Up.refl _).drew.trans hu)).cell (o := 1) rfl
      go_simp
      first | done | rfl
    simp only [Act.put, nm1, nm2, nm3, i64_w]
    refine wpK_ops rfl (fun w1 hu => ?_) ?_
    · have hcl := (impl_product.calls K a0 a1 1 0 1 0 t34 w1  A35.out)
      clear hu
      replace hcl := Aside0.mk hcl
      go_simp
      exact hcl.out
    simp only [Act.put, nm1, nm2, nm3, i64_w]
    refine wpK_ops rfl (fun w1 hu => ?_) ?_
    · clear hu
      go_simp
      first | done | rfl
    simp only [Act.put, nm1, nm2, nm3, i64_w]
    refine wpK_ops rfl (fun w1 hu => ?_) ?_
    · clear hu
      go_simp
      first | done | rfl
    simp only [Act.put, nm1, nm2, nm3, i64_w]
    refine wpK_ops rfl (fun w1 hu => ?_) ?_
    · have cl0 := (hb32.up ((Up.refl _).drew.trans hu)).cell (o := 0) rfl
      have cl1 := (hb32.up ((Up.refl _).drew.trans hu)).cell (o := 1) rfl
      go_simp
      first | done | rfl
    simp only [Act.put, nm1, nm2, nm3, i64_w]
    refine wpK_ops rfl (fun w1 hu => ?_) ?_
    · have cl0 := (hb32.up ((Up.refl _).drew.trans hu)).cell (o := 0) rfl
      have cl1 := (hb32.up ((Up.refl _).drew.trans hu)).cell (o := 1) rfl
      go_simp
      first | done | rfl
    simp only [Act.put, nm1, nm2, nm3, i64_w]
    refine wpK_ops rfl (fun w1 hu => ?_) ?_
    · have hcl := (impl_product.calls K a0 a1 t22 t23 t22 t23 t36 w1  A37.out)
      clear hu
      replace hcl := Aside0.mk hcl
      go_simp
      exact hcl.out
    simp only [Act.put, nm1, nm2, nm3, i64_w]
    refine wpK_ops rfl (fun w1 hu => ?_) ?_
    · clear hu
      go_simp
      first | done | rfl
    simp only [Act.put, nm1, nm2, nm3, i64_w]
    refine wpK_nil ?_
    intro w38 hu hap
    simp only [List.drop_succ_cons, List.drop_zero]
    replace hu := (Up.refl _).drew.trans hu
    clear hap
    have hu39 := Aside0.mk hu
    clear hu
    refine wpList_nil ?_
    (try simp only [Exit.then, Exit.inBlock, ↓reduceIte, Nat.reduceEqDiff])
    refine hK33 _ _ ?_
    refine wp_cond_false rfl ?_
    refine wp_skip ?_
    (try simp only [Exit.then, Exit.inBlock, ↓reduceIte, Nat.reduceEqDiff])
    refine hK13 _ _ ?_
    refine wp_region_lit ?_
    refine wpList_plain rfl (fun Ko hKo => ?_)
    go_simp
    refine hKo _ _ ?_
    clear hKo Ko
    try simp only [Act.put, nm1, nm2, nm3, i64_w]
    try simp only [show wrap64 1 = 1 from wlit rfl]
    refine wpList_plain rfl (fun Ko hKo => ?_)
    go_simp
    refine hKo _ _ ?_
    clear hKo Ko
    try simp only [Act.put, nm1, nm2, nm3, i64_w]
    refine wpList_nil ?_
    (try simp only [Exit.then, Exit.inBlock, ↓reduceIte, Nat.reduceEqDiff])
    refine hK10 _ _ ?_
    refine rounds_k (fun K41 hK41 => ?_)
    refine wp_seq_k (fun K42 hK42 => ?_)
    refine wp_region_lit ?_
    refine wpList_plain rfl (fun Ko hKo => ?_)
    go_simp
    refine hKo _ _ ?_
    clear hKo Ko
    try simp only [Act.put, nm1, nm2, nm3, i64_w]
    refine wpList_nil ?_
    (try simp only [Exit.then, Exit.inBlock, ↓reduceIte, Nat.reduceEqDiff])
    refine hK42 _ _ ?_
    refine wp_seq_k (fun K43 hK43 => ?_)
    refine wp_cond_true rfl ?_
    refine wp_skip ?_
    (try simp only [Exit.then, Exit.inBlock, ↓reduceIte, Nat.reduceEqDiff])
    refine hK43 _ _ ?_
    refine wp_seq_k (fun K44 hK44 => ?_)
    refine wp_block ?_
    refine wp_seq_k (fun K45 hK45 => ?_)
    refine wp_region_lit ?_
    refine wpList_plain rfl (fun Ko hKo => ?_)
    go_simp
    refine hKo _ _ ?_
    clear hKo Ko
    try simp only [Act.put, nm1, nm2, nm3, i64_w]
    have cl0 := (hb7.up (((((hu17.out.sto (Nat.le_trans (Nat.le_refl _) lbb15.out) hs19.out).trans hu26.out).trans hu29.out).sto (Nat.le_trans ((Nat.le_trans ((Nat.le_trans (hu17.out.size) (Nat.le_of_eq hs19.out.size.symm))) hu26.out.size)) lbb27.out) hs31.out).trans hu39.out)).cell (o := 2) rfl
    have cl1 := (hb7.up (((((hu17.out.sto (Nat.le_trans (Nat.le_refl _) lbb15.out) hs19.out).trans hu26.out).trans hu29.out).sto (Nat.le_trans ((Nat.le_trans ((Nat.le_trans (hu17.out.size) (Nat.le_of_eq hs19.out.size.symm))) hu26.out.size)) lbb27.out) hs31.out).trans hu39.out)).cell (o := 3) rfl
    refine wpList_plain rfl (fun Ko hKo => ?_)
    go_simp
    refine hKo _ _ ?_
    clear hKo Ko
    clear cl0 cl1
    try simp only [Act.put, nm1, nm2, nm3, i64_w]
    refine step_new (cs := [.int .i64 0, .int .i64 0]) (T := 28) (f := fun b => .pointer (some ⟨b, 0, none⟩)) rfl (by first | (go_simp; done) | (go_simp; rfl)) ?_
    intro b46 w47 hu lb hb46
    simp only [Act.put, nm1, nm2, nm3, i64_w]
    have lbb46 := Aside0.mk lb
    have ltb46 := Aside0.mk hb46.lt
    clear lb
    have hu48 := Aside0.mk hu
    clear hu
    have hB0 := hb46
    have cl0 := hB0.cell (o := 0) rfl
    have fr0 := hB0.free 0
    have cl1 := hB0.cell (o := 1) rfl
    have fr1 := hB0.free 1
    refine step_store (b := b46) (cs' := [.int .i64 0, .int .i64 1]) (T := 28) (W' := ((w47.setCell ⟨b46, 0, none⟩ (.int .i64 0)).setCell ⟨b46, 1, none⟩ (.int .i64 1))) rfl rfl (by first | (go_simp; done) | (go_simp; rfl)) (((Sto.refl _ _).setCell 0 _).setCell 1 _) (((hB0).setCell 0 _).setCell 1 _) ?_
    clear hB0 cl0 fr0 cl1 fr1
    intro w49 hs hb51
    have hs50 := Aside0.mk hs
    clear hs
    refine wpList_nil ?_
    (try simp only [Exit.then, Exit.inBlock, ↓reduceIte, Nat.reduceEqDiff])
    refine hK45 _ _ ?_
    refine wp_seq_k (fun K52 hK52 => ?_)
    refine wp_region_lit ?_
    refine wpList_plain rfl (fun Ko hKo => ?_)
    go_simp
    refine hKo _ _ ?_
    clear hKo Ko
    try simp only [Act.put, nm1, nm2, nm3, i64_w]
    have cl0 := (hb2.up ((((((((hu9.out.trans hu17.out).sto (Nat.le_trans (hu9.out.size) lbb15.out) hs19.out).trans hu26.out).trans hu29.out).sto (Nat.le_trans ((Nat.le_trans ((Nat.le_trans ((Nat.le_trans (hu9.out.size) hu17.out.size)) (Nat.le_of_eq hs19.out.size.symm))) hu26.out.size)) lbb27.out) hs31.out).trans hu39.out).trans hu48.out).sto (Nat.le_trans ((Nat.le_trans ((Nat.le_trans ((Nat.le_trans ((Nat.le_trans ((Nat.le_trans ((Nat.le_trans (hu9.out.size) hu17.out.size)) (Nat.le_of_eq hs19.out.size.symm))) hu26.out.size)) hu29.out.size)) (Nat.le_of_eq hs31.out.size.symm))) hu39.out.size)) lbb46.out) hs50.out)).cell (o := 0) rfl
    have cl1 := (hb2.up ((((((((hu9.out.trans hu17.out).sto (Nat.le_trans (hu9.out.size) lbb15.out) hs19.out).trans hu26.out).trans hu29.out).sto (Nat.le_trans ((Nat.le_trans ((Nat.le_trans ((Nat.le_trans (hu9.out.size) hu17.out.size)) (Nat.le_of_eq hs19.out.size.symm))) hu26.out.size)) lbb27.out) hs31.out).trans hu39.out).trans hu48.out).sto (Nat.le_trans ((Nat.le_trans ((Nat.le_trans ((Nat.le_trans ((Nat.le_trans ((Nat.le_trans ((Nat.le_trans (hu9.out.size) hu17.out.size)) (Nat.le_of_eq hs19.out.size.symm))) hu26.out.size)) hu29.out.size)) (Nat.le_of_eq hs31.out.size.symm))) hu39.out.size)) lbb46.out) hs50.out)).cell (o := 1) rfl
    have cl2 := (hb2.up ((((((((hu9.out.trans hu17.out).sto (Nat.le_trans (hu9.out.size) lbb15.out) hs19.out).trans hu26.out).trans hu29.out).sto (Nat.le_trans ((Nat.le_trans ((Nat.le_trans ((Nat.le_trans (hu9.out.size) hu17.out.size)) (Nat.le_of_eq hs19.out.size.symm))) hu26.out.size)) lbb27.out) hs31.out).trans hu39.out).trans hu48.out).sto (Nat.le_trans ((Nat.le_trans ((Nat.le_trans ((Nat.le_trans ((Nat.le_trans ((Nat.le_trans ((Nat.le_trans (hu9.out.size) hu17.out.size)) (Nat.le_of_eq hs19.out.size.symm))) hu26.out.size)) hu29.out.size)) (Nat.le_of_eq hs31.out.size.symm))) hu39.out.size)) lbb46.out) hs50.out)).cell (o := 2) rfl
    have cl3 := (hb2.up ((((((((hu9.out.trans hu17.out).sto (Nat.le_trans (hu9.out.size) lbb15.out) hs19.out).trans hu26.out).trans hu29.out).sto (Nat.le_trans ((Nat.le_trans ((Nat.le_trans ((Nat.le_trans (hu9.out.size) hu17.out.size)) (Nat.le_of_eq hs19.out.size.symm))) hu26.out.size)) lbb27.out) hs31.out).trans hu39.out).trans hu48.out).sto (Nat.le_trans ((Nat.le_trans ((Nat.le_trans ((Nat.le_trans ((Nat.le_trans ((Nat.le_trans ((Nat.le_trans (hu9.out.size) hu17.out.size)) (Nat.le_of_eq hs19.out.size.symm))) hu26.out.size)) hu29.out.size)) (Nat.le_of_eq hs31.out.size.symm))) hu39.out.size)) lbb46.out) hs50.out)).cell (o := 3) rfl
    refine wpList_plain rfl (fun Ko hKo => ?_)
    go_simp
    refine hKo _ _ ?_
    clear hKo Ko
    clear cl0 cl1 cl2 cl3
    try simp only [Act.put, nm1, nm2, nm3, i64_w]
    have cl0 := hb51.cell (o := 0) rfl
    have cl1 := hb51.cell (o := 1) rfl
    refine wpList_plain rfl (fun Ko hKo => ?_)
    go_simp
    refine hKo _ _ ?_
    clear hKo Ko
    clear cl0 cl1
    try simp only [Act.put, nm1, nm2, nm3, i64_w]
    refine step_call (wanted_none rfl) (by first | (go_simp; done) | (go_simp; rfl)) (impl_turned.calls K a0 a2_0 a2_1 a2_2 a2_3 0 1 t53 t54 w49  A55.out) ?_
    rintro e w56 ⟨rfl, hu⟩
    have hu57 := Aside0.mk hu
    clear hu
    refine ⟨_, rfl, ?_⟩
    simp only [Act.put, nm1, nm2, nm3, i64_w]
    refine step_new (cs := [.int .i64 0, .int .i64 0]) (T := 28) (f := fun b => .pointer (some ⟨b, 0, none⟩)) rfl (by first | (go_simp; done) | (go_simp; rfl)) ?_
    intro b58 w59 hu lb hb58
    simp only [Act.put, nm1, nm2, nm3, i64_w]
    have lbb58 := Aside0.mk lb
    have ltb58 := Aside0.mk hb58.lt
    clear lb
    have hu60 := Aside0.mk hu
    clear hu
    have hB0 := hb58
    have cl0 := hB0.cell (o := 0) rfl
    have fr0 := hB0.free 0
    have cl1 := hB0.cell (o := 1) rfl
    have fr1 := hB0.free 1
    refine step_store (b := b58) (cs' := [.int .i64 t53, .int .i64 t54]) (T := 28) (W' := ((w59.setCell ⟨b58, 0, none⟩ (.int .i64 t53)).setCell ⟨b58, 1, none⟩ (.int .i64 t54))) rfl rfl (by first | (go_simp; done) | (go_simp; rfl)) (((Sto.refl _ _).setCell 0 _).setCell 1 _) (((hB0).setCell 0 _).setCell 1 _) ?_
    clear hB0 cl0 fr0 cl1 fr1
    intro w61 hs hb63
    have hs62 := Aside0.mk hs
    clear hs
    refine wpList_nil ?_
    (try simp only [Exit.then, Exit.inBlock, ↓reduceIte, Nat.reduceEqDiff])
    refine hK52 _ _ ?_
    refine wp_seq_k (fun K64 hK64 => ?_)
    refine' wp_region_up 11 [Slot.det _, Slot.det _, Slot.det _, Slot.det _, Slot.det (.int .i64 t65), Slot.det _, Slot.det _, Slot.det _, Slot.det _, Slot.det (.int .i64 t67), Slot.det _] (by kernel_rfl) (by kernel_rfl) ?main
    case main =>
     simp only [List.take_succ_cons, List.take_zero]
     refine wpK_ops rfl (fun w1 hu => ?_) ?_
     · clear hu
       go_simp
       first | done | rfl
     simp only [Act.put, nm1, nm2, nm3, i64_w]
     refine wpK_ops rfl (fun w1 hu => ?_) ?_
     · clear hu
       go_simp
       first | done | rfl
     simp only [Act.put, nm1, nm2, nm3, i64_w]
     refine wpK_ops rfl (fun w1 hu => ?_) ?_
     · have cl0 := ((hb51.up ((hu57.out.trans hu60.out).sto (Nat.le_trans (hu57.out.size) lbb58.out) hs62.out)).up ((Up.refl _).drew.trans hu)).cell (o := 0) rfl
       have cl1 := ((hb51.up ((hu57.out.trans hu60.out).sto (Nat.le_trans (hu57.out.size) lbb58.out) hs62.out)).up ((Up.refl _).drew.trans hu)).cell (o := 1) rfl
       go_simp
       first | done | rfl
     simp only [Act.put, nm1, nm2, nm3, i64_w]
     refine wpK_ops rfl (fun w1 hu => ?_) ?_
     · have cl0 := ((hb51.up ((hu57.out.trans hu60.out).sto (Nat.le_trans (hu57.out.size) lbb58.out) hs62.out)).up ((Up.refl _).drew.trans hu)).cell (o := 0) rfl
       have cl1 := ((hb51.up ((hu57.out.trans hu60.out).sto (Nat.le_trans (hu57.out.size) lbb58.out) hs62.out)).up ((Up.refl _).drew.trans hu)).cell (o := 1) rfl
       go_simp
       first | done | rfl
     simp only [Act.put, nm1, nm2, nm3, i64_w]
     refine wpK_ops rfl (fun w1 hu => ?_) ?_
     · have hcl := (impl_product.calls K a0 a1 0 1 0 1 t65 w1  A66.out)
       clear hu
       replace hcl := Aside0.mk hcl
       go_simp
       exact hcl.out
     simp only [Act.put, nm1, nm2, nm3, i64_w]
     refine wpK_ops rfl (fun w1 hu => ?_) ?_
     · clear hu
       go_simp
       first | done | rfl
     simp only [Act.put, nm1, nm2, nm3, i64_w]
     refine wpK_ops rfl (fun w1 hu => ?_) ?_
     · clear hu
       go_simp
       first | done | rfl
     simp only [Act.put, nm1, nm2, nm3, i64_w]
     refine wpK_ops rfl (fun w1 hu => ?_) ?_
     · have cl0 := (hb63.up ((Up.refl _).drew.trans hu)).cell (o := 0) rfl
       have cl1 := (hb63.up ((Up.refl _).drew.trans hu)).cell (o := 1) rfl
       go_simp
       first | done | rfl
     simp only [Act.put, nm1, nm2, nm3, i64_w]
     refine wpK_ops rfl (fun w1 hu => ?_) ?_
     · have cl0 := (hb63.up ((Up.refl _).drew.trans hu)).cell (o := 0) rfl
       have cl1 := (hb63.up ((Up.refl _).drew.trans hu)).cell (o := 1) rfl
       go_simp
       first | done | rfl
     simp only [Act.put, nm1, nm2, nm3, i64_w]
     refine wpK_ops rfl (fun w1 hu => ?_) ?_
     · have hcl := (impl_product.calls K a0 a1 t53 t54 t53 t54 t67 w1  A68.out)
       clear hu
       replace hcl := Aside0.mk hcl
       go_simp
       exact hcl.out
     simp only [Act.put, nm1, nm2, nm3, i64_w]
     refine wpK_ops rfl (fun w1 hu => ?_) ?_
     · clear hu
       go_simp
       first | done | rfl
     simp only [Act.put, nm1, nm2, nm3, i64_w]
     refine wpK_nil ?_
     intro w69 hu hap
     simp only [List.drop_succ_cons, List.drop_zero]
     replace hu := (Up.refl _).drew.trans hu
     clear hap
     have hu70 := Aside0.mk hu
     clear hu
     refine wpList_nil ?_
     (try simp only [Exit.then, Exit.inBlock, ↓reduceIte, Nat.reduceEqDiff])
     refine hK64 _ _ ?_
     refine wp_cond_true rfl ?_
     refine wp_seq_k (fun K108 hK108 => ?_)
     refine wp_region_lit ?_
     refine wpList_plain rfl (fun Ko hKo => ?_)
     go_simp
     refine hKo _ _ ?_
     clear hKo Ko
     try simp only [Act.put, nm1, nm2, nm3, i64_w]
     refine wpList_nil ?_
     (try simp only [Exit.then, Exit.inBlock, ↓reduceIte, Nat.reduceEqDiff])
     refine hK108 _ _ ?_
     refine wp_ret ?_
     (try simp only [Exit.then, Exit.inBlock, ↓reduceIte, Nat.reduceEqDiff])
     refine hQf _ _ _ ?_
     exact bodyPost_ret (v := .bool false) (by first | rfl | (simp [results, Tryd.results30, go_sem]; done) | (simp [results, Tryd.results30, go_sem]; rfl)) rfl ⟨rfl, (((((((((((((hu4.out.trans hu9.out).trans hu17.out).sto (Nat.le_trans ((Nat.le_trans (hu4.out.size) hu9.out.size)) lbb15.out) hs19.out).trans hu26.out).trans hu29.out).sto (Nat.le_trans ((Nat.le_trans ((Nat.le_trans ((Nat.le_trans ((Nat.le_trans (hu4.out.size) hu9.out.size)) hu17.out.size)) (Nat.le_of_eq hs19.out.size.symm))) hu26.out.size)) lbb27.out) hs31.out).trans hu39.out).trans hu48.out).sto (Nat.le_trans ((Nat.le_trans ((Nat.le_trans ((Nat.le_trans ((Nat.le_trans ((Nat.le_trans ((Nat.le_trans ((Nat.le_trans (hu4.out.size) hu9.out.size)) hu17.out.size)) (Nat.le_of_eq hs19.out.size.symm))) hu26.out.size)) hu29.out.size)) (Nat.le_of_eq hs31.out.size.symm))) hu39.out.size)) lbb46.out) hs50.out).trans hu57.out).trans hu60.out).sto (Nat.le_trans ((Nat.le_trans ((Nat.le_trans ((Nat.le_trans ((Nat.le_trans ((Nat.le_trans ((Nat.le_trans ((Nat.le_trans ((Nat.le_trans ((Nat.le_trans ((Nat.le_trans (hu4.out.size) hu9.out.size)) hu17.out.size)) (Nat.le_of_eq hs19.out.size.symm))) hu26.out.size)) hu29.out.size)) (Nat.le_of_eq hs31.out.size.symm))) hu39.out.size)) hu48.out.size)) (Nat.le_of_eq hs50.out.size.symm))) hu57.out.size)) lbb58.out) hs62.out).trans hu70.out)⟩
 ·
  rw [if_neg c40] at H
  replace c40 := Bool.eq_false_iff.mpr c40
  have c40n : (t34 != t36) = true := by rw [bne, c40]; rfl
  have c40p : ¬ t34 = t36 := fun e => by simp [e] at c40
  obtain rfl := Option.some.inj H
  go_enter Tryd.func30, Tryd.ntmps30
  refine wp_hide (fun Qf hQf => ?_)
  refine wp_seq_k (fun K1 hK1 => ?_)
  refine wp_region_lit ?_
  refine step_new (cs := [.int .i64 a2_0, .int .i64 a2_1, .int .i64 a2_2, .int .i64 a2_3]) (T := 22) (f := fun b => .pointer (some ⟨b, 0, none⟩)) rfl (by first | (go_simp; done) | (go_simp; rfl)) ?_
  intro b2 w3 hu lb hb2
  simp only [Act.put, nm1, nm2, nm3, i64_w]
  have lbb2 := Aside0.mk lb
  have ltb2 := Aside0.mk hb2.lt
  clear lb
  have hu4 := Aside0.mk hu
  clear hu
  refine wpList_plain rfl (fun Ko hKo => ?_)
  go_simp
  refine hKo _ _ ?_
  clear hKo Ko
  try simp only [Act.put, nm1, nm2, nm3, i64_w]
  refine wpList_nil ?_
  (try simp only [Exit.then, Exit.inBlock, ↓reduceIte, Nat.reduceEqDiff])
  refine hK1 _ _ ?_
  refine wp_seq_k (fun K5 hK5 => ?_)
  refine wp_seq_k (fun K6 hK6 => ?_)
  refine wp_region_lit ?_
  refine wpList_plain rfl (fun Ko hKo => ?_)
  go_simp
  refine hKo _ _ ?_
  clear hKo Ko
  try simp only [Act.put, nm1, nm2, nm3, i64_w]
  refine wpList_plain rfl (fun Ko hKo => ?_)
  go_simp
  refine hKo _ _ ?_
  clear hKo Ko
  try simp only [Act.put, nm1, nm2, nm3, i64_w]
  refine wpList_plain rfl (fun Ko hKo => ?_)
  go_simp
  refine hKo _ _ ?_
  clear hKo Ko
  try simp only [Act.put, nm1, nm2, nm3, i64_w]
  refine step_new (cs := [.int .i64 1, .int .i64 0, .int .i64 0, .int .i64 1, .int .i64 1, .int .i64 1]) (T := 28) (f := fun b => .slice (some ⟨b, 0, none⟩) 3 3) rfl (by first | (go_simp; done) | (go_simp; rfl)) ?_
  intro b7 w8 hu lb hb7
  simp only [Act.put, nm1, nm2, nm3, i64_w]
  have lbb7 := Aside0.mk lb
  have ltb7 := Aside0.mk hb7.lt
  clear lb
  have hu9 := Aside0.mk hu
  clear hu
  refine wpList_plain rfl (fun Ko hKo => ?_)
  go_simp
  refine hKo _ _ ?_
  clear hKo Ko
  try simp only [Act.put, nm1, nm2, nm3, i64_w]
  refine wpList_plain rfl (fun Ko hKo => ?_)
  go_simp
  refine hKo _ _ ?_
  clear hKo Ko
  try simp only [Act.put, nm1, nm2, nm3, i64_w]
  refine wpList_nil ?_
  (try simp only [Exit.then, Exit.inBlock, ↓reduceIte, Nat.reduceEqDiff])
  refine hK6 _ _ ?_
  refine wp_block ?_
  refine wp_loop_rounds 40 ?_
  refine rounds_k (fun K10 hK10 => ?_)
  refine wp_seq_k (fun K11 hK11 => ?_)
  refine wp_region_lit ?_
  refine wpList_plain rfl (fun Ko hKo => ?_)
  go_simp
  refine hKo _ _ ?_
  clear hKo Ko
  try simp only [Act.put, nm1, nm2, nm3, i64_w]
  refine wpList_nil ?_
  (try simp only [Exit.then, Exit.inBlock, ↓reduceIte, Nat.reduceEqDiff])
  refine hK11 _ _ ?_
  refine wp_seq_k (fun K12 hK12 => ?_)
  refine wp_cond_true rfl ?_
  refine wp_skip ?_
  (try simp only [Exit.then, Exit.inBlock, ↓reduceIte, Nat.reduceEqDiff])
  refine hK12 _ _ ?_
  refine wp_seq_k (fun K13 hK13 => ?_)
  refine wp_block ?_
  refine wp_seq_k (fun K14 hK14 => ?_)
  refine wp_region_lit ?_
  refine wpList_plain rfl (fun Ko hKo => ?_)
  go_simp
  refine hKo _ _ ?_
  clear hKo Ko
  try simp only [Act.put, nm1, nm2, nm3, i64_w]
  have cl0 := hb7.cell (o := 0) rfl
  have cl1 := hb7.cell (o := 1) rfl
  refine wpList_plain rfl (fun Ko hKo => ?_)
  go_simp
  refine hKo _ _ ?_
  clear hKo Ko
  clear cl0 cl1
  try simp only [Act.put, nm1, nm2, nm3, i64_w]
  refine step_new (cs := [.int .i64 0, .int .i64 0]) (T := 28) (f := fun b => .pointer (some ⟨b, 0, none⟩)) rfl (by first | (go_simp; done) | (go_simp; rfl)) ?_
  intro b15 w16 hu lb hb15
  simp only [Act.put, nm1, nm2, nm3, i64_w]
  have lbb15 := Aside0.mk lb
  have ltb15 := Aside0.mk hb15.lt
  clear lb
  have hu17 := Aside0.mk hu
  clear hu
  have hB0 := hb15
  have cl0 := hB0.cell (o := 0) rfl
  have fr0 := hB0.free 0
  have cl1 := hB0.cell (o := 1) rfl
  have fr1 := hB0.free 1
  refine step_store (b := b15) (cs' := [.int .i64 1, .int .i64 0]) (T := 28) (W' := ((w16.setCell ⟨b15, 0, none⟩ (.int .i64 1)).setCell ⟨b15, 1, none⟩ (.int .i64 0))) rfl rfl (by first | (go_simp; done) | (go_simp; rfl)) (((Sto.refl _ _).setCell 0 _).setCell 1 _) (((hB0).setCell 0 _).setCell 1 _) ?_
  clear hB0 cl0 fr0 cl1 fr1
  intro w18 hs hb20
  have hs19 := Aside0.mk hs
  clear hs
  refine wpList_nil ?_
  (try simp only [Exit.then, Exit.inBlock, ↓reduceIte, Nat.reduceEqDiff])
  refine hK14 _ _ ?_
  refine wp_seq_k (fun K21 hK21 => ?_)
  refine wp_region_lit ?_
  refine wpList_plain rfl (fun Ko hKo => ?_)
  go_simp
  refine hKo _ _ ?_
  clear hKo Ko
  try simp only [Act.put, nm1, nm2, nm3, i64_w]
  have cl0 := (hb2.up ((hu9.out.trans hu17.out).sto (Nat.le_trans (hu9.out.size) lbb15.out) hs19.out)).cell (o := 0) rfl
  have cl1 := (hb2.up ((hu9.out.trans hu17.out).sto (Nat.le_trans (hu9.out.size) lbb15.out) hs19.out)).cell (o := 1) rfl
  have cl2 := (hb2.up ((hu9.out.trans hu17.out).sto (Nat.le_trans (hu9.out.size) lbb15.out) hs19.out)).cell (o := 2) rfl
  have cl3 := (hb2.up ((hu9.out.trans hu17.out).sto (Nat.le_trans (hu9.out.size) lbb15.out) hs19.out)).cell (o := 3) rfl
  refine wpList_plain rfl (fun Ko hKo => ?_)
  go_simp
  refine hKo _ _ ?_
  clear hKo Ko
  clear cl0 cl1 cl2 cl3
  try simp only [Act.put, nm1, nm2, nm3, i64_w]
  have cl0 := hb20.cell (o := 0) rfl
  have cl1 := hb20.cell (o := 1) rfl
  refine wpList_plain rfl (fun Ko hKo => ?_)
  go_simp
  refine hKo _ _ ?_
  clear hKo Ko
  clear cl0 cl1
  try simp only [Act.put, nm1, nm2, nm3, i64_w]
  refine step_call (wanted_none rfl) (by first | (go_simp; done) | (go_simp; rfl)) (impl_turned.calls K a0 a2_0 a2_1 a2_2 a2_3 1 0 t22 t23 w18  A24.out) ?_
  rintro e w25 ⟨rfl, hu⟩
  have hu26 := Aside0.mk hu
  clear hu
  refine ⟨_, rfl, ?_⟩
  simp only [Act.put, nm1, nm2, nm3, i64_w]
  refine step_new (cs := [.int .i64 0, .int .i64 0]) (T := 28) (f := fun b => .pointer (some ⟨b, 0, none⟩)) rfl (by first | (go_simp; done) | (go_simp; rfl)) ?_
  intro b27 w28 hu lb hb27
  simp only [Act.put, nm1, nm2, nm3, i64_w]
  have lbb27 := Aside0.mk lb
  have ltb27 := Aside0.mk hb27.lt
  clear lb
  have hu29 := Aside0.mk hu
  clear hu
  have hB0 := hb27
  have cl0 := hB0.cell (o := 0) rfl
  have fr0 := hB0.free 0
  have cl1 := hB0.cell (o := 1) rfl
  have fr1 := hB0.free 1
  refine step_store (b := b27) (cs' := [.int .i64 t22, .int .i64 t23]) (T := 28) (W' := ((w28.setCell ⟨b27, 0, none⟩ (.int .i64 t22)).setCell ⟨b27, 1, none⟩ (.int .i64 t23))) rfl rfl (by first | (go_simp; done) | (go_simp; rfl)) (((Sto.refl _ _).setCell 0 _).setCell 1 _) (((hB0).setCell 0 _).setCell 1 _) ?_
  clear hB0 cl0 fr0 cl1 fr1
  intro w30 hs hb32
  have hs31 := Aside0.mk hs
  clear hs
  refine wpList_nil ?_
  (try simp only [Exit.then, Exit.inBlock, ↓reduceIte, Nat.reduceEqDiff])
  refine hK21 _ _ ?_
  refine wp_seq_k (fun K33 hK33 => ?_)
  refine' wp_region_up 11 [Slot.det _, Slot.det _, Slot.det _, Slot.det _, Slot.det (.int .i64 t34), Slot.det _, Slot.det _, Slot.det _, Slot.det _, Slot.det (.int .i64 t36), Slot.det _] (by kernel_rfl) (by kernel_rfl) ?main
  case main =>
   simp only [List.take_succ_cons, List.take_zero]
   refine wpK_ops rfl (fun w1 hu => ?_) ?_
   · clear hu
     go_simp
     first | done | rfl
   simp only [Act.put, nm1, nm2, nm3, i64_w]
   refine wpK_ops rfl (fun w1 hu => ?_) ?_
   · clear hu
     go_simp
     first | done | rfl
   simp only [Act.put, nm1, nm2, nm3, i64_w]
   refine wpK_ops rfl (fun w1 hu => ?_) ?_
   · have cl0 := ((hb20.up ((hu26.out.trans hu29.out).sto (Nat.le_trans (hu26.out.size) lbb27.out) hs31.out)).up ((Up.refl _).drew.trans hu)).cell (o := 0) rfl
     have cl1 := ((hb20.up ((hu26.out.trans hu29.out).sto (Nat.le_trans (hu26.out.size) lbb27.out) hs31.out)).up ((Up.refl _).drew.trans hu)).cell (o := 1) rfl
     go_simp
     first | done | rfl
   simp only [Act.put, nm1, nm2, nm3, i64_w]
   refine wpK_ops rfl (fun w1 hu => ?_) ?_
   · have cl0 := ((hb20.up ((hu26.out.trans hu29.out).sto (Nat.le_trans (hu26.out.size) lbb27.out) hs31.out)).up ((Up.refl _).drew.trans hu)).cell (o := 0) rfl
     have cl1 := ((hb20.up ((hu26.out.trans hu29.out).sto (Nat.le_trans (hu26.out.size) lbb27.out) hs31.out)).up ((Up.refl _).drew.trans hu)).cell (o := 1) rfl
     go_simp
     first | done | rfl
   simp only [Act.put, nm1, nm2, nm3, i64_w]
   refine wpK_ops rfl (fun w1 hu => ?_) ?_
   · have hcl := (impl_product.calls K a0 a1 1 0 1 0 t34 w1  A35.out)
     clear hu
     replace hcl := Aside0.mk hcl
     go_simp
     exact hcl.out
   simp only [Act.put, nm1, nm2, nm3, i64_w]
   refine wpK_ops rfl (fun w1 hu => ?_) ?_
   · clear hu
     go_simp
     first | done | rfl
   simp only [Act.put, nm1, nm2, nm3, i64_w]
   refine wpK_ops rfl (fun w1 hu => ?_) ?_
   · clear hu
     go_simp
     first | done | rfl
   simp only [Act.put, nm1, nm2, nm3, i64_w]
   refine wpK_ops rfl (fun w1 hu => ?_) ?_
   · have cl0 := (hb32.up ((Up.refl _).drew.trans hu)).cell (o := 0) rfl
     have cl1 := (hb32.up ((Up.refl _).drew.trans hu)).cell (o := 1) rfl
     go_simp
     first | done | rfl
   simp only [Act.put, nm1, nm2, nm3, i64_w]
   refine wpK_ops rfl (fun w1 hu => ?_) ?_
   · have cl0 := (hb32.up ((Up.refl _).drew.trans hu)).cell (o := 0) rfl
     have cl1 := (hb32.up ((Up.refl _).drew.trans hu)).cell (o := 1) rfl
     go_simp
     first | done | rfl
   simp only [Act.put, nm1, nm2, nm3, i64_w]
   refine wpK_ops rfl (fun w1 hu => ?_) ?_
   · have hcl := (impl_product.calls K a0 a1 t22 t23 t22 t23 t36 w1  A37.out)
     clear hu
     replace hcl := Aside0.mk hcl
     go_simp
     exact hcl.out
   simp only [Act.put, nm1, nm2, nm3, i64_w]
   refine wpK_ops rfl (fun w1 hu => ?_) ?_
   · clear hu
     go_simp
     first | done | rfl
   simp only [Act.put, nm1, nm2, nm3, i64_w]
   refine wpK_nil ?_
   intro w38 hu hap
   simp only [List.drop_succ_cons, List.drop_zero]
   replace hu := (Up.refl _).drew.trans hu
   clear hap
   have hu39 := Aside0.mk hu
   clear hu
   refine wpList_nil ?_
   (try simp only [Exit.then, Exit.inBlock, ↓reduceIte, Nat.reduceEqDiff])
   refine hK33 _ _ ?_
   refine wp_cond_true rfl ?_
   refine wp_seq_k (fun K109 hK109 => ?_)
   refine wp_region_lit ?_
   refine wpList_plain rfl (fun Ko hKo => ?_)
   go_simp
   refine hKo _ _ ?_
   clear hKo Ko
   try simp only [Act.put, nm1, nm2, nm3, i64_w]
   refine wpList_nil ?_
   (try simp only [Exit.then, Exit.inBlock, ↓reduceIte, Nat.reduceEqDiff])
   refine hK109 _ _ ?_
   refine wp_ret ?_
   (try simp only [Exit.then, Exit.inBlock, ↓reduceIte, Nat.reduceEqDiff])
   refine hQf _ _ _ ?_
   exact bodyPost_ret (v := .bool false) (by first | rfl | (simp [results, Tryd.results30, go_sem]; done) | (simp [results, Tryd.results30, go_sem]; rfl)) rfl ⟨rfl, (((((((hu4.out.trans hu9.out).trans hu17.out).sto (Nat.le_trans ((Nat.le_trans (hu4.out.size) hu9.out.size)) lbb15.out) hs19.out).trans hu26.out).trans hu29.out).sto (Nat.le_trans ((Nat.le_trans ((Nat.le_trans ((Nat.le_trans ((Nat.le_trans (hu4.out.size) hu9.out.size)) hu17.out.size)) (Nat.le_of_eq hs19.out.size.symm))) hu26.out.size)) lbb27.out) hs31.out).trans hu39.out)⟩

set_option maxHeartbeats 4000000 in
set_option maxRecDepth 100000 in
theorem impl_moveAsked__impl_always.calls (K : Nat) (a0 : Int) (a1 : Int) (a2_0 : Int) (a2_1 : Int) (a2_2 : Int) (a2_3 : Int) (a2_4 : Int) (a2_5 : Int) (r0 : Int) (w : World)  (h : impl_moveAsked__impl_always.f K a0 a1 a2_0 a2_1 a2_2 a2_3 a2_4 a2_5 = some (r0)) :
    Calls Tryd.prog 14 #[.int .i64 a0, .int .i64 a1, .agg #[.int .i64 a2_0, .int .i64 a2_1, .int .i64 a2_2, .int .i64 a2_3, .int .i64 a2_4, .int .i64 a2_5], .func (.func 15) #[] #[]] w fun e w' => e = .returned (.int .i64 r0) ∧ Up w w' := by
 have H : (((impl_asked__impl_moveAsked_1_impl_always.f K a0 a1 a0 a2_0 a2_1 a2_2 a2_3 a2_4 a2_5).bind fun t15 => (if (t15 == 0) = true then ((impl_keeps.f K a0 a1 a2_0 a2_1 a2_2 a2_3).bind fun t22 => (if t22 = true then some t15 else some 5)) else some t15)) : Option (Int)) = some (r0) := h
 clear h
 replace H := Option.bind_eq_some_iff.mp H
 obtain ⟨t15, A16, H⟩ := H
 replace A16 := Aside0.mk A16
 try dsimp only at H
 by_cases c21 : (t15 == 0) = true
 ·
  rw [if_pos c21] at H
  have c21n : (t15 != 0) = false := by rw [bne, c21]; rfl
  replace H := Option.bind_eq_some_iff.mp H
  obtain ⟨t22, A23, H⟩ := H
  replace A23 := Aside0.mk A23
  try dsimp only at H
  by_cases c26 : (t22) = true
  ·
   rw [if_pos c26] at H
   subst c26
   obtain rfl := Option.some.inj H
   go_enter Tryd.func14, Tryd.ntmps14
   refine wp_hide (fun Qf hQf => ?_)
   refine wp_seq_k (fun K1 hK1 => ?_)
   refine wp_region_lit ?_
   refine step_new (cs := [.int .i64 a0]) (T := 2) (f := fun b => .pointer (some ⟨b, 0, none⟩)) rfl (by first | (go_simp; done) | (go_simp; rfl)) ?_
   intro b2 w3 hu lb hb2
   simp only [Act.put, nm1, nm2, nm3, i64_w]
   have lbb2 := Aside0.mk lb
   have ltb2 := Aside0.mk hb2.lt
   clear lb
   have hu4 := Aside0.mk hu
   clear hu
   refine step_new (cs := [.int .i64 a1]) (T := 2) (f := fun b => .pointer (some ⟨b, 0, none⟩)) rfl (by first | (go_simp; done) | (go_simp; rfl)) ?_
   intro b5 w6 hu lb hb5
   simp only [Act.put, nm1, nm2, nm3, i64_w]
   have lbb5 := Aside0.mk lb
   have ltb5 := Aside0.mk hb5.lt
   clear lb
   have hu7 := Aside0.mk hu
   clear hu
   refine step_new (cs := [.int .i64 a2_0, .int .i64 a2_1, .int .i64 a2_2, .int .i64 a2_3, .int .i64 a2_4, .int .i64 a2_5]) (T := 30) (f := fun b => .pointer (some ⟨b, 0, none⟩)) rfl (by first | (go_simp; done) | (go_simp; rfl)) ?_
   intro b8 w9 hu lb hb8
   simp only [Act.put, nm1, nm2, nm3, i64_w]
   have lbb8 := Aside0.mk lb
   have ltb8 := Aside0.mk hb8.lt
   clear lb
   have hu10 := Aside0.mk hu
   clear hu
   refine step_new (cs := [.func (.func 15) #[] #[]]) (T := 38) (f := fun b => .pointer (some ⟨b, 0, none⟩)) rfl (by first | (go_simp; done) | (go_simp; rfl)) ?_
   intro b11 w12 hu lb hb11
   simp only [Act.put, nm1, nm2, nm3, i64_w]
   have lbb11 := Aside0.mk lb
   have ltb11 := Aside0.mk hb11.lt
   clear lb
   have hu13 := Aside0.mk hu
   clear hu
   refine wpList_plain rfl (fun Ko hKo => ?_)
   go_simp
   refine hKo _ _ ?_
   clear hKo Ko
   try simp only [Act.put, nm1, nm2, nm3, i64_w]
   refine wpList_nil ?_
   (try simp only [Exit.then, Exit.inBlock, ↓reduceIte, Nat.reduceEqDiff])
   refine hK1 _ _ ?_
   refine wp_seq_k (fun K14 hK14 => ?_)
   refine wp_region_lit ?_
   have cl0 := (hb2.up ((hu7.out.trans hu10.out).trans hu13.out)).cell (o := 0) rfl
   refine wpList_plain rfl (fun Ko hKo => ?_)
   go_simp
   refine hKo _ _ ?_
   clear hKo Ko
   clear cl0
   try simp only [Act.put, nm1, nm2, nm3, i64_w]
   refine wpList_plain rfl (fun Ko hKo => ?_)
   go_simp
   refine hKo _ _ ?_
   clear hKo Ko
   try simp only [Act.put, nm1, nm2, nm3, i64_w]
   refine step_call (wanted_none rfl) (by first | (go_simp; done) | (go_simp; rfl)) (impl_asked__impl_moveAsked_1_impl_always.calls K a0 b5 a1 b2 a0 b8 a2_0 a2_1 a2_2 a2_3 a2_4 a2_5 b11 t15 w12 (hb5.up (hu10.out.trans hu13.out)) (hb2.up ((hu7.out.trans hu10.out).trans hu13.out)) (hb8.up hu13.out) hb11 A16.out) ?_
   rintro e w17 ⟨rfl, hu⟩
   have hu18 := Aside0.mk hu
   clear hu
   refine ⟨_, rfl, ?_⟩
   simp only [Act.put, nm1, nm2, nm3, i64_w]
   refine wpList_plain rfl (fun Ko hKo => ?_)
   go_simp
   refine hKo _ _ ?_
   clear hKo Ko
   try simp only [Act.put, nm1, nm2, nm3, i64_w]
   refine wpList_nil ?_
   (try simp only [Exit.then, Exit.inBlock, ↓reduceIte, Nat.reduceEqDiff])
   refine hK14 _ _ ?_
   refine wp_seq_k (fun K19 hK19 => ?_)
   refine wp_seq_k (fun K20 hK20 => ?_)
   refine wp_region_lit ?_
   refine wpList_plain rfl (fun Ko hKo => ?_)
   go_simp
   refine hKo _ _ ?_
   clear hKo Ko
   try simp only [Act.put, nm1, nm2, nm3, i64_w]
   refine wpList_plain rfl (fun Ko hKo => ?_)
   go_simp
   refine hKo _ _ ?_
   clear hKo Ko
   try simp only [Act.put, nm1, nm2, nm3, i64_w]
   refine wpList_plain rfl (fun Ko hKo => ?_)
   go_simp
   refine hKo _ _ ?_
   clear hKo Ko
   try simp only [Act.put, nm1, nm2, nm3, i64_w]
   have cl0 := (hb2.up (((hu7.out.trans hu10.out).trans hu13.out).trans hu18.out)).cell (o := 0) rfl
   refine wpList_step (fun Ko hKo => ?_)
   go_simp
   refine hKo _ _ ?_
   clear hKo Ko
   clear cl0
   try simp only [Act.put, nm1, nm2, nm3, i64_w]
   have cl0 := (hb5.up ((hu10.out.trans hu13.out).trans hu18.out)).cell (o := 0) rfl
   refine wpList_step (fun Ko hKo => ?_)
   go_simp
   refine hKo _ _ ?_
   clear hKo Ko
   clear cl0
   try simp only [Act.put, nm1, nm2, nm3, i64_w]
   refine wpList_step (fun Ko hKo => ?_)
   go_simp
   refine hKo _ _ ?_
   clear hKo Ko
   try simp only [Act.put, nm1, nm2, nm3, i64_w]
   have cl0 := (hb8.up (hu13.out.trans hu18.out)).cell (o := 0) rfl
   have cl1 := (hb8.up (hu13.out.trans hu18.out)).cell (o := 1) rfl
   have cl2 := (hb8.up (hu13.out.trans hu18.out)).cell (o := 2) rfl
   have cl3 := (hb8.up (hu13.out.trans hu18.out)).cell (o := 3) rfl
   refine wpList_step (fun Ko hKo => ?_)
   go_simp
   refine hKo _ _ ?_
   clear hKo Ko
   clear cl0 cl1 cl2 cl3
   try simp only [Act.put, nm1, nm2, nm3, i64_w]
   refine step_call rfl (by first | (go_simp; done) | (go_simp; rfl)) (impl_keeps.calls K a0 a1 a2_0 a2_1 a2_2 a2_3 true w17  A23.out) ?_
   rintro e w24 ⟨rfl, hu⟩
   have hu25 := Aside0.mk hu
   clear hu
   refine ⟨_, rfl, ?_⟩
   simp only [Act.put, nm1, nm2, nm3, i64_w]
   refine wpList_step (fun Ko hKo => ?_)
   go_simp
   refine hKo _ _ ?_
   clear hKo Ko
   try simp only [Act.put, nm1, nm2, nm3, i64_w]
   refine wpList_plain rfl (fun Ko hKo => ?_)
   go_simp
   refine hKo _ _ ?_
   clear hKo Ko
   try simp only [Act.put, nm1, nm2, nm3, i64_w]
   refine wpList_nil ?_
   (try simp only [Exit.then, Exit.inBlock, ↓reduceIte, Nat.reduceEqDiff])
   refine hK20 _ _ ?_
   refine wp_cond_false rfl ?_
   refine wp_skip ?_
   (try simp only [Exit.then, Exit.inBlock, ↓reduceIte, Nat.reduceEqDiff])
   refine hK19 _ _ ?_
   refine wp_seq_k (fun K27 hK27 => ?_)
   refine wp_region_lit ?_
   refine wpList_plain rfl (fun Ko hKo => ?_)
   go_simp
   refine hKo _ _ ?_
   clear hKo Ko
   try simp only [Act.put, nm1, nm2, nm3, i64_w]
   refine wpList_plain rfl (fun Ko hKo => ?_)
   go_simp
   refine hKo _ _ ?_
   clear hKo Ko
   try simp only [Act.put, nm1, nm2, nm3, i64_w]
   refine wpList_nil ?_
   (try simp only [Exit.then, Exit.inBlock, ↓reduceIte, Nat.reduceEqDiff])
   refine hK27 _ _ ?_
   refine wp_ret ?_
   (try simp only [Exit.then, Exit.inBlock, ↓reduceIte, Nat.reduceEqDiff])
   refine hQf _ _ _ ?_
   exact bodyPost_ret (v := .int .i64 t15) (by first | rfl | (simp [results, Tryd.results14, go_sem]; done) | (simp [results, Tryd.results14, go_sem]; rfl)) rfl ⟨rfl, (((((hu4.out.trans hu7.out).trans hu10.out).trans hu13.out).trans hu18.out).trans hu25.out)⟩
  ·
   rw [if_neg c26] at H
   replace c26 := Bool.eq_false_iff.mpr c26
   subst c26
   obtain rfl := Option.some.inj H
   go_enter Tryd.func14, Tryd.ntmps14
   refine wp_hide (fun Qf hQf => ?_)
   refine wp_seq_k (fun K1 hK1 => ?_)
   refine wp_region_lit ?_
   refine step_new (cs := [.int .i64 a0]) (T := 2) (f := fun b => .pointer (some ⟨b, 0, none⟩)) rfl (by first | (go_simp; done) | (go_simp; rfl)) ?_
   intro b2 w3 hu lb hb2
   simp only [Act.put, nm1, nm2, nm3, i64_w]
   have lbb2 := Aside0.mk lb
   have ltb2 := Aside0.mk hb2.lt
   clear lb
   have hu4 := Aside0.mk hu
   clear hu
   refine step_new (cs := [.int .i64 a1]) (T := 2) (f := fun b => .pointer (some ⟨b, 0, none⟩)) rfl (by first | (go_simp; done) | (go_simp; rfl)) ?_
   intro b5 w6 hu lb hb5
   simp only [Act.put, nm1, nm2, nm3, i64_w]
   have lbb5 := Aside0.mk lb
   have ltb5 := Aside0.mk hb5.lt
   clear lb
   have hu7 := Aside0.mk hu
   clear hu
   refine step_new (cs := [.int .i64 a2_0, .int .i64 a2_1, .int .i64 a2_2, .int .i64 a2_3, .int .i64 a2_4, .int .i64 a2_5]) (T := 30) (f := fun b => .pointer (some ⟨b, 0, none⟩)) rfl (by first | (go_simp; done) | (go_simp; rfl)) ?_
   intro b8 w9 hu lb hb8
   simp only [Act.put, nm1, nm2, nm3, i64_w]
   have lbb8 := Aside0.mk lb
   have ltb8 := Aside0.mk hb8.lt
   clear lb
   have hu10 := Aside0.mk hu
   clear hu
   refine step_new (cs := [.func (.func 15) #[] #[]]) (T := 38) (f := fun b => .pointer (some ⟨b, 0, none⟩)) rfl (by first | (go_simp; done) | (go_simp; rfl)) ?_
   intro b11 w12 hu lb hb11
   simp only [Act.put, nm1, nm2, nm3, i64_w]
   have lbb11 := Aside0.mk lb
   have ltb11 := Aside0.mk hb11.lt
   clear lb
   have hu13 := Aside0.mk hu
   clear hu
   refine wpList_plain rfl (fun Ko hKo => ?_)
   go_simp
   refine hKo _ _ ?_
   clear hKo Ko
   try simp only [Act.put, nm1, nm2, nm3, i64_w]
   refine wpList_nil ?_
   (try simp only [Exit.then, Exit.inBlock, ↓reduceIte, Nat.reduceEqDiff])
   refine hK1 _ _ ?_
   refine wp_seq_k (fun K14 hK14 => ?_)
   refine wp_region_lit ?_
   have cl0 := (hb2.up ((hu7.out.trans hu10.out).trans hu13.out)).cell (o := 0) rfl
   refine wpList_plain rfl (fun Ko hKo => ?_)
   go_simp
   refine hKo _ _ ?_
   clear hKo Ko
   clear cl0
   try simp only [Act.put, nm1, nm2, nm3, i64_w]
   refine wpList_plain rfl (fun Ko hKo => ?_)
   go_simp
   refine hKo _ _ ?_
   clear hKo Ko
   try simp only [Act.put, nm1, nm2, nm3, i64_w]
   refine step_call (wanted_none rfl) (by first | (go_simp; done) | (go_simp; rfl)) (impl_asked__impl_moveAsked_1_impl_always.calls K a0 b5 a1 b2 a0 b8 a2_0 a2_1 a2_2 a2_3 a2_4 a2_5 b11 t15 w12 (hb5.up (hu10.out.trans hu13.out)) (hb2.up ((hu7.out.trans hu10.out).trans hu13.out)) (hb8.up hu13.out) hb11 A16.out) ?_
   rintro e w17 ⟨rfl, hu⟩
   have hu18 := Aside0.mk hu
   clear hu
   refine ⟨_, rfl, ?_⟩
   simp only [Act.put, nm1, nm2, nm3, i64_w]
   refine wpList_plain rfl (fun Ko hKo => ?_)
   go_simp
   refine hKo _ _ ?_
   clear hKo Ko
   try simp only [Act.put, nm1, nm2, nm3, i64_w]
   refine wpList_nil ?_
   (try simp only [Exit.then, Exit.inBlock, ↓reduceIte, Nat.reduceEqDiff])
   refine hK14 _ _ ?_
   refine wp_seq_k (fun K19 hK19 => ?_)
   refine wp_seq_k (fun K20 hK20 => ?_)
   refine wp_region_lit ?_
   refine wpList_plain rfl (fun Ko hKo => ?_)
   go_simp
   refine hKo _ _ ?_
   clear hKo Ko
   try simp only [Act.put, nm1, nm2, nm3, i64_w]
   refine wpList_plain rfl (fun Ko hKo => ?_)
   go_simp
   refine hKo _ _ ?_
   clear hKo Ko
   try simp only [Act.put, nm1, nm2, nm3, i64_w]
   refine wpList_plain rfl (fun Ko hKo => ?_)
   go_simp
   refine hKo _ _ ?_
   clear hKo Ko
   try simp only [Act.put, nm1, nm2, nm3, i64_w]
   have cl0 := (hb2.up (((hu7.out.trans hu10.out).trans hu13.out).trans hu18.out)).cell (o := 0) rfl
   refine wpList_step (fun Ko hKo => ?_)
   go_simp
   refine hKo _ _ ?_
   clear hKo Ko
   clear cl0
   try simp only [Act.put, nm1, nm2, nm3, i64_w]
   have cl0 := (hb5.up ((hu10.out.trans hu13.out).trans hu18.out)).cell (o := 0) rfl
   refine wpList_step (fun Ko hKo => ?_)
   go_simp
   refine hKo _ _ ?_
   clear hKo Ko
   clear cl0
   try simp only [Act.put, nm1, nm2, nm3, i64_w]
   refine wpList_step (fun Ko hKo => ?_)
   go_simp
   refine hKo _ _ ?_
   clear hKo Ko
   try simp only [Act.put, nm1, nm2, nm3, i64_w]
   have cl0 := (hb8.up (hu13.out.trans hu18.out)).cell (o := 0) rfl
   have cl1 := (hb8.up (hu13.out.trans hu18.out)).cell (o := 1) rfl
   have cl2 := (hb8.up (hu13.out.trans hu18.out)).cell (o := 2) rfl
   have cl3 := (hb8.up (hu13.out.trans hu18.out)).cell (o := 3) rfl
   refine wpList_step (fun Ko hKo => ?_)
   go_simp
   refine hKo _ _ ?_
   clear hKo Ko
   clear cl0 cl1 cl2 cl3
   try simp only [Act.put, nm1, nm2, nm3, i64_w]
   refine step_call rfl (by first | (go_simp; done) | (go_simp; rfl)) (impl_keeps.calls K a0 a1 a2_0 a2_1 a2_2 a2_3 false w17  A23.out) ?_
   rintro e w24 ⟨rfl, hu⟩
   have hu25 := Aside0.mk hu
   clear hu
   refine ⟨_, rfl, ?_⟩
   simp only [Act.put, nm1, nm2, nm3, i64_w]
   refine wpList_step (fun Ko hKo => ?_)
   go_simp
   refine hKo _ _ ?_
   clear hKo Ko
   try simp only [Act.put, nm1, nm2, nm3, i64_w]
   refine wpList_plain rfl (fun Ko hKo => ?_)
   go_simp
   refine hKo _ _ ?_
   clear hKo Ko
   try simp only [Act.put, nm1, nm2, nm3, i64_w]
   refine wpList_nil ?_
   (try simp only [Exit.then, Exit.inBlock, ↓reduceIte, Nat.reduceEqDiff])
   refine hK20 _ _ ?_
   refine wp_cond_true rfl ?_
   refine wp_seq_k (fun K28 hK28 => ?_)
   refine wp_region_lit ?_
   refine wpList_plain rfl (fun Ko hKo => ?_)
   go_simp
   refine hKo _ _ ?_
   clear hKo Ko
   try simp only [Act.put, nm1, nm2, nm3, i64_w]
   refine wpList_nil ?_
   (try simp only [Exit.then, Exit.inBlock, ↓reduceIte, Nat.reduceEqDiff])
   refine hK28 _ _ ?_
   refine wp_ret ?_
   (try simp only [Exit.then, Exit.inBlock, ↓reduceIte, Nat.reduceEqDiff])
   refine hQf _ _ _ ?_
   exact bodyPost_ret (v := .int .i64 5) (by first | rfl | (simp [results, Tryd.results14, go_sem]; done) | (simp [results, Tryd.results14, go_sem]; rfl)) rfl ⟨rfl, (((((hu4.out.trans hu7.out).trans hu10.out).trans hu13.out).trans hu18.out).trans hu25.out)⟩
 ·
  rw [if_neg c21] at H
  replace c21 := Bool.eq_false_iff.mpr c21
  have c21n : (t15 != 0) = true := by rw [bne, c21]; rfl
  have c21p : ¬ t15 = 0 := fun e => by simp [e] at c21
  obtain rfl := Option.some.inj H
  go_enter Tryd.func14, Tryd.ntmps14
  refine wp_hide (fun Qf hQf => ?_)
  refine wp_seq_k (fun K1 hK1 => ?_)
  refine wp_region_lit ?_
  refine step_new (cs := [.int .i64 a0]) (T := 2) (f := fun b => .pointer (some ⟨b, 0, none⟩)) rfl (by first | (go_simp; done) | (go_simp; rfl)) ?_
  intro b2 w3 hu lb hb2
  simp only [Act.put, nm1, nm2, nm3, i64_w]
  have lbb2 := Aside0.mk lb
  have ltb2 := Aside0.mk hb2.lt
  clear lb
  have hu4 := Aside0.mk hu
  clear hu
  refine step_new (cs := [.int .i64 a1]) (T := 2) (f := fun b => .pointer (some ⟨b, 0, none⟩)) rfl (by first | (go_simp; done) | (go_simp; rfl)) ?_
  intro b5 w6 hu lb hb5
  simp only [Act.put, nm1, nm2, nm3, i64_w]
  have lbb5 := Aside0.mk lb
  have ltb5 := Aside0.mk hb5.lt
  clear lb
  have hu7 := Aside0.mk hu
  clear hu
  refine step_new (cs := [.int .i64 a2_0, .int .i64 a2_1, .int .i64 a2_2, .int .i64 a2_3, .int .i64 a2_4, .int .i64 a2_5]) (T := 30) (f := fun b => .pointer (some ⟨b, 0, none⟩)) rfl (by first | (go_simp; done) | (go_simp; rfl)) ?_
  intro b8 w9 hu lb hb8
  simp only [Act.put, nm1, nm2, nm3, i64_w]
  have lbb8 := Aside0.mk lb
  have ltb8 := Aside0.mk hb8.lt
  clear lb
  have hu10 := Aside0.mk hu
  clear hu
  refine step_new (cs := [.func (.func 15) #[] #[]]) (T := 38) (f := fun b => .pointer (some ⟨b, 0, none⟩)) rfl (by first | (go_simp; done) | (go_simp; rfl)) ?_
  intro b11 w12 hu lb hb11
  simp only [Act.put, nm1, nm2, nm3, i64_w]
  have lbb11 := Aside0.mk lb
  have ltb11 := Aside0.mk hb11.lt
  clear lb
  have hu13 := Aside0.mk hu
  clear hu
  refine wpList_plain rfl (fun Ko hKo => ?_)
  go_simp
  refine hKo _ _ ?_
  clear hKo Ko
  try simp only [Act.put, nm1, nm2, nm3, i64_w]
  refine wpList_nil ?_
  (try simp only [Exit.then, Exit.inBlock, ↓reduceIte, Nat.reduceEqDiff])
  refine hK1 _ _ ?_
  refine wp_seq_k (fun K14 hK14 => ?_)
  refine wp_region_lit ?_
  have cl0 := (hb2.up ((hu7.out.trans hu10.out).trans hu13.out)).cell (o := 0) rfl
  refine wpList_plain rfl (fun Ko hKo => ?_)
  go_simp
  refine hKo _ _ ?_
  clear hKo Ko
  clear cl0
  try simp only [Act.put, nm1, nm2, nm3, i64_w]
  refine wpList_plain rfl (fun Ko hKo => ?_)
  go_simp
  refine hKo _ _ ?_
  clear hKo Ko
  try simp only [Act.put, nm1, nm2, nm3, i64_w]
  refine step_call (wanted_none rfl) (by first | (go_simp; done) | (go_simp; rfl)) (impl_asked__impl_moveAsked_1_impl_always.calls K a0 b5 a1 b2 a0 b8 a2_0 a2_1 a2_2 a2_3 a2_4 a2_5 b11 t15 w12 (hb5.up (hu10.out.trans hu13.out)) (hb2.up ((hu7.out.trans hu10.out).trans hu13.out)) (hb8.up hu13.out) hb11 A16.out) ?_
  rintro e w17 ⟨rfl, hu⟩
  have hu18 := Aside0.mk hu
  clear hu
  refine ⟨_, rfl, ?_⟩
  simp only [Act.put, nm1, nm2, nm3, i64_w]
  refine wpList_plain rfl (fun Ko hKo => ?_)
  go_simp
  refine hKo _ _ ?_
  clear hKo Ko
  try simp only [Act.put, nm1, nm2, nm3, i64_w]
  refine wpList_nil ?_
  (try simp only [Exit.then, Exit.inBlock, ↓reduceIte, Nat.reduceEqDiff])
  refine hK14 _ _ ?_
  refine wp_seq_k (fun K19 hK19 => ?_)
  refine wp_seq_k (fun K20 hK20 => ?_)
  refine wp_region_lit ?_
  refine wpList_plain rfl (fun Ko hKo => ?_)
  go_simp
  refine hKo _ _ ?_
  clear hKo Ko
  try simp only [Act.put, nm1, nm2, nm3, i64_w]
  refine wpList_plain rfl (fun Ko hKo => ?_)
  go_simp
  refine hKo _ _ ?_
  clear hKo Ko
  try simp only [Act.put, nm1, nm2, nm3, i64_w]
  refine wpList_plain rfl (fun Ko hKo => ?_)
  go_simp
  refine hKo _ _ ?_
  clear hKo Ko
  try simp only [Act.put, nm1, nm2, nm3, i64_w]
  refine step_no rfl ?_
  simp only [Act.put, nm1, nm2, nm3, i64_w]
  refine step_no rfl ?_
  simp only [Act.put, nm1, nm2, nm3, i64_w]
  refine step_no rfl ?_
  simp only [Act.put, nm1, nm2, nm3, i64_w]
  refine step_no rfl ?_
  simp only [Act.put, nm1, nm2, nm3, i64_w]
  refine step_no rfl ?_
  simp only [Act.put, nm1, nm2, nm3, i64_w]
  refine step_no rfl ?_
  simp only [Act.put, nm1, nm2, nm3, i64_w]
  refine wpList_plain rfl (fun Ko hKo => ?_)
  go_simp
  refine hKo _ _ ?_
  clear hKo Ko
  try simp only [Act.put, nm1, nm2, nm3, i64_w]
  refine wpList_nil ?_
  (try simp only [Exit.then, Exit.inBlock, ↓reduceIte, Nat.reduceEqDiff])
  refine hK20 _ _ ?_
  refine wp_cond_false rfl ?_
  refine wp_skip ?_
  (try simp only [Exit.then, Exit.inBlock, ↓reduceIte, Nat.reduceEqDiff])
  refine hK19 _ _ ?_
  refine wp_seq_k (fun K29 hK29 => ?_)
  refine wp_region_lit ?_
  refine wpList_plain rfl (fun Ko hKo => ?_)
  go_simp
  refine hKo _ _ ?_
  clear hKo Ko
  try simp only [Act.put, nm1, nm2, nm3, i64_w]
  refine wpList_plain rfl (fun Ko hKo => ?_)
  go_simp
  refine hKo _ _ ?_
  clear hKo Ko
  try simp only [Act.put, nm1, nm2, nm3, i64_w]
  refine wpList_nil ?_
  (try simp only [Exit.then, Exit.inBlock, ↓reduceIte, Nat.reduceEqDiff])
  refine hK29 _ _ ?_
  refine wp_ret ?_
  (try simp only [Exit.then, Exit.inBlock, ↓reduceIte, Nat.reduceEqDiff])
  refine hQf _ _ _ ?_
  exact bodyPost_ret (v := .int .i64 t15) (by first | rfl | (simp [results, Tryd.results14, go_sem]; done) | (simp [results, Tryd.results14, go_sem]; rfl)) rfl ⟨rfl, ((((hu4.out.trans hu7.out).trans hu10.out).trans hu13.out).trans hu18.out)⟩

set_option maxHeartbeats 4000000 in
set_option maxRecDepth 100000 in
theorem impl_allPoints.calls (K : Nat) (a0 : Int) (r0 : List (Int × Int)) (w : World)  (h : impl_allPoints.f K a0 = some (r0)) :
    Calls Tryd.prog 46 #[.int .i64 a0] w fun e w' => ∃ (Ar0 : Option Addr) (cr0 : Nat), e = .returned (.slice Ar0 r0.length cr0) ∧ Own e2 28 w' w.heap.size (.slice Ar0 r0.length cr0) r0 ∧ Up w w' := by
 have H : ((impl_allPoints.l0 K a0 K 0 ([] : List (Int × Int))) : Option (List (Int × Int))) = some (r0) := h
 clear h
 go_enter Tryd.func46, Tryd.ntmps46
 refine wp_hide (fun Qf hQf => ?_)
 refine wp_seq_k (fun K1 hK1 => ?_)
 refine wp_region_lit ?_
 refine wpList_plain rfl (fun Ko hKo => ?_)
 go_simp
 refine hKo _ _ ?_
 clear hKo Ko
 try simp only [Act.put, nm1, nm2, nm3, i64_w]
 refine wpList_nil ?_
 (try simp only [Exit.then, Exit.inBlock, ↓reduceIte, Nat.reduceEqDiff])
 refine hK1 _ _ ?_
 refine wp_seq_k (fun K2 hK2 => ?_)
 refine wp_region_lit ?_
 refine step_new (cs := []) (T := 28) (f := fun b => .slice (some ⟨b, 0, none⟩) 0 0) rfl (by first | (go_simp; done) | (go_simp; rfl)) ?_
 intro b3 w4 hu lb hb3
 simp only [Act.put, nm1, nm2, nm3, i64_w]
 have lbb3 := Aside0.mk lb
 have ltb3 := Aside0.mk hb3.lt
 clear lb
 have hu5 := Aside0.mk hu
 clear hu
 refine wpList_plain rfl (fun Ko hKo => ?_)
 go_simp
 refine hKo _ _ ?_
 clear hKo Ko
 try simp only [Act.put, nm1, nm2, nm3, i64_w]
 refine wpList_nil ?_
 (try simp only [Exit.then, Exit.inBlock, ↓reduceIte, Nat.reduceEqDiff])
 refine hK2 _ _ ?_
 refine wp_seq_k (fun K6 hK6 => ?_)
 refine wp_seq_k (fun K7 hK7 => ?_)
 refine wp_region_lit ?_
 refine wpList_plain rfl (fun Ko hKo => ?_)
 go_simp
 refine hKo _ _ ?_
 clear hKo Ko
 try simp only [Act.put, nm1, nm2, nm3, i64_w]
 refine wpList_nil ?_
 (try simp only [Exit.then, Exit.inBlock, ↓reduceIte, Nat.reduceEqDiff])
 refine hK7 _ _ ?_
 refine wp_block ?_
 have h9 : Own e2 28 w4 w.heap.size (.slice (some ⟨b3, 0, none⟩) ([].length) 0) [] := Own.of_blk hb3 lbb3.out rfl (by simp) (by simp [Enc.flat, e2])
 have HL17 := Aside0.mk H
 clear H
 go_loopg [4, 3] K (fun kq v4 v3 w' => ∃ (x10 : Int) (x11 : List (Int × Int)) (P12 : Option Addr) (q13 : Nat), v4 = .int .i64 x10 ∧ v3 = .slice P12 x11.length q13 ∧ Aside0 (impl_allPoints.l0 K a0 kq x10 x11 = some (r0)) ∧ Aside0 (kq ≤ K) ∧ Aside0 (Up w w') ∧ Aside0 (w4.heap.size ≤ w'.heap.size) ∧ Own e2 28 w' w.heap.size (.slice P12 x11.length q13) x11)
 case atStart => exact ⟨0, ([] : List (Int × Int)), some ⟨b3, 0, none⟩, 0, (by first | rfl | simp), (by first | rfl | simp), HL17, ⟨Nat.le_refl _⟩, ⟨hu5.out⟩, ⟨Nat.le_refl _⟩, h9⟩
 case round =>
  rename_i J22 K23 hJ22 hK23
  obtain ⟨x10, x11, P12, q13, rfl, rfl, HL21, hk20, hu15, hz16, h18⟩ := hrel
  obtain ⟨w14, rfl⟩ : ∃ wo : World, wo = wr := ⟨_, rfl⟩
  obtain ⟨k19, rfl⟩ | rfl : (∃ k, gk = k + 1) ∨ gk = 0 := by rcases gk with _ | k; exact .inr rfl; exact .inl ⟨k, rfl⟩
  case inr => exact absurd HL21.out (by simp [impl_allPoints.l0])
  have H := HL21.out
  clear HL21
  rw [impl_allPoints.l0] at H
  by_cases c26 : (decide (x10 < a0)) = true
  ·
   rw [if_pos c26] at H
   refine wp_seq_k (fun K24 hK24 => ?_)
   refine wp_seq_k (fun K25 hK25 => ?_)
   refine wp_region_lit ?_
   refine wpList_plain rfl (fun Ko hKo => ?_)
   go_simp
   refine hKo _ _ ?_
   clear hKo Ko
   try simp only [Act.put, nm1, nm2, nm3, i64_w]
   refine wpList_plain rfl (fun Ko hKo => ?_)
   go_simp
   refine hKo _ _ ?_
   clear hKo Ko
   try simp only [Act.put, nm1, nm2, nm3, i64_w]
   refine wpList_plain rfl (fun Ko hKo => ?_)
   go_simp
   refine hKo _ _ ?_
   clear hKo Ko
   try simp only [Act.put, nm1, nm2, nm3, i64_w]
   refine wpList_nil ?_
   (try simp only [Exit.then, Exit.inBlock, ↓reduceIte, Nat.reduceEqDiff])
   refine hK25 _ _ ?_
   refine wp_cond_true rfl ?_
   refine wp_skip ?_
   (try simp only [Exit.then, Exit.inBlock, ↓reduceIte, Nat.reduceEqDiff])
   refine hK24 _ _ ?_
   refine wp_seq_k (fun K27 hK27 => ?_)
   refine wp_block ?_
   refine wp_seq_k (fun K28 hK28 => ?_)
   refine wp_region_lit ?_
   refine wpList_plain rfl (fun Ko hKo => ?_)
   go_simp
   refine hKo _ _ ?_
   clear hKo Ko
   try simp only [Act.put, nm1, nm2, nm3, i64_w]
   refine wpList_nil ?_
   (try simp only [Exit.then, Exit.inBlock, ↓reduceIte, Nat.reduceEqDiff])
   refine hK28 _ _ ?_
   refine wp_block ?_
   have HL36 := Aside0.mk H
   clear H
   go_loopg [5, 3] k19 (fun kq v5 v3 w' => ∃ (x29 : Int) (x30 : List (Int × Int)) (P31 : Option Addr) (q32 : Nat), v5 = .int .i64 x29 ∧ v3 = .slice P31 x30.length q32 ∧ Aside0 (impl_allPoints.l1 K a0 x10 kq x29 x30 = some (r0)) ∧ Aside0 (kq ≤ k19) ∧ Aside0 (Up w w') ∧ Aside0 (w14.heap.size ≤ w'.heap.size) ∧ Own e2 28 w' w.heap.size (.slice P31 x30.length q32) x30)
   case atStart => exact ⟨0, x11, P12, q13, (by first | rfl | simp), (by first | rfl | simp), HL36, ⟨Nat.le_refl _⟩, ⟨hu15.out⟩, ⟨Nat.le_refl _⟩, h18⟩
   case round =>
    rename_i J41 K42 hJ41 hK42
    obtain ⟨x29, x30, P31, q32, rfl, rfl, HL40, hk39, hu34, hz35, h37⟩ := hrel
    obtain ⟨w33, rfl⟩ : ∃ wo : World, wo = wr := ⟨_, rfl⟩
    obtain ⟨k38, rfl⟩ | rfl : (∃ k, gk = k + 1) ∨ gk = 0 := by rcases gk with _ | k; exact .inr rfl; exact .inl ⟨k, rfl⟩
    case inr => exact absurd HL40.out (by simp [impl_allPoints.l1])
    have H := HL40.out
    clear HL40
    rw [impl_allPoints.l1] at H
    by_cases c45 : (decide (x29 < a0)) = true
    ·
     rw [if_pos c45] at H
     by_cases c50 : (decide (x30.length ≤ 1000000)) = true
     ·
      rw [if_pos c50] at H
      have HL60 := Aside0.mk H
      clear H
      refine wp_seq_k (fun K43 hK43 => ?_)
      refine wp_seq_k (fun K44 hK44 => ?_)
      refine wp_region_lit ?_
      refine wpList_plain rfl (fun Ko hKo => ?_)
      go_simp
      refine hKo _ _ ?_
      clear hKo Ko
      try simp only [Act.put, nm1, nm2, nm3, i64_w]
      refine wpList_plain rfl (fun Ko hKo => ?_)
      go_simp
      refine hKo _ _ ?_
      clear hKo Ko
      try simp only [Act.put, nm1, nm2, nm3, i64_w]
      refine wpList_plain rfl (fun Ko hKo => ?_)
      go_simp
      refine hKo _ _ ?_
      clear hKo Ko
      try simp only [Act.put, nm1, nm2, nm3, i64_w]
      refine wpList_nil ?_
      (try simp only [Exit.then, Exit.inBlock, ↓reduceIte, Nat.reduceEqDiff])
      refine hK44 _ _ ?_
      refine wp_cond_true rfl ?_
      refine wp_skip ?_
      (try simp only [Exit.then, Exit.inBlock, ↓reduceIte, Nat.reduceEqDiff])
      refine hK43 _ _ ?_
      refine wp_seq_k (fun K46 hK46 => ?_)
      refine wp_block ?_
      refine wp_region_lit ?_
      refine wpList_plain rfl (fun Ko hKo => ?_)
      go_simp
      refine hKo _ _ ?_
      clear hKo Ko
      try simp only [Act.put, nm1, nm2, nm3, i64_w]
      refine wpList_plain rfl (fun Ko hKo => ?_)
      go_simp
      refine hKo _ _ ?_
      clear hKo Ko
      try simp only [Act.put, nm1, nm2, nm3, i64_w]
      refine wpList_plain rfl (fun Ko hKo => ?_)
      go_simp
      refine hKo _ _ ?_
      clear hKo Ko
      try simp only [Act.put, nm1, nm2, nm3, i64_w]
      refine wpList_plain rfl (fun Ko hKo => ?_)
      go_simp
      refine hKo _ _ ?_
      clear hKo Ko
      try simp only [Act.put, nm1, nm2, nm3, i64_w]
      refine step_new (cs := [.int .i64 x10, .int .i64 x29]) (T := 28) (f := fun b => .slice (some ⟨b, 0, none⟩) 1 1) rfl (by first | (go_simp; done) | (go_simp; rfl)) ?_
      intro b47 w48 hu lb hb47
      simp only [Act.put, nm1, nm2, nm3, i64_w]
      have lbb47 := Aside0.mk lb
      have ltb47 := Aside0.mk hb47.lt
      clear lb
      have hu49 := Aside0.mk hu
      clear hu
      have hO0 := Aside0.mk (h37.up hu49.out)
      refine step_append e2 (z := .agg #[.int .i64 0, .int .i64 0]) (bytes := 16) (base := w.heap.size) (xs := x30) (ys := [(x10, x29)]) (wanted_none rfl) _ _ rfl rfl (by kernel_rfl) rfl (by decide) rfl rfl rfl hO0.out (Rd.of_blk (E := e2) (xs := [(x10, x29)]) (o := 0) hb47 (by simp) (fun j u hu => by rcases j with _ | _ | j <;> simp_all [Enc.flat, e2])) ((Nat.le_trans ((Nat.le_trans ((Nat.le_trans (hu5.out.size) hz16.out)) hz35.out)) hu49.out.size)) (by have h0_ := (of_decide_eq_true (by assumption) : x30.length ≤ 1000000); simp only [List.length_cons, List.length_nil]; omega) ?_
      intro P51 q52 w53 h55 hg hat
      have hg56 := Aside0.mk hg
      have hat57 := Aside0.mk hat
      simp only [Act.put, nm1, nm2, nm3, i64_w]
      have lb58 := Aside0.mk hO0.out.lt
      clear hO0 hg hat
      have h59 := hb47.grow hg56.out (fun k hk => Nat.ne_of_lt (Nat.lt_of_lt_of_le ((fun k hk => Nat.lt_of_lt_of_le (h37.lt k hk).2 (Nat.le_refl _)) k hk) lbb47.out))
      refine wpList_plain rfl (fun Ko hKo => ?_)
      go_simp
      refine hKo _ _ ?_
      clear hKo Ko
      try simp only [Act.put, nm1, nm2, nm3, i64_w]
      refine wpList_nil ?_
      (try simp only [Exit.then, Exit.inBlock, ↓reduceIte, Nat.reduceEqDiff])
      refine hK46 _ _ ?_
      refine wp_region_lit ?_
      refine wpList_plain rfl (fun Ko hKo => ?_)
      go_simp
      refine hKo _ _ ?_
      clear hKo Ko
      try simp only [Act.put, nm1, nm2, nm3, i64_w]
      refine wpList_plain rfl (fun Ko hKo => ?_)
      go_simp
      refine hKo _ _ ?_
      clear hKo Ko
      try simp only [Act.put, nm1, nm2, nm3, i64_w]
      refine wpList_plain rfl (fun Ko hKo => ?_)
      go_simp
      refine hKo _ _ ?_
      clear hKo Ko
      try simp only [Act.put, nm1, nm2, nm3, i64_w]
      refine wpList_nil ?_
      (try simp only [Exit.then, Exit.inBlock, ↓reduceIte, Nat.reduceEqDiff])
      refine hK42 _ _ ?_
      go_roundg k38
      case measure => exact Nat.lt_succ_self _
      case rel => exact ⟨wrap64 (x29 + 1), (x30 ++ [(x10, x29)]), P51, q52, (by first | rfl | simp), (by first | rfl | simp), HL60, ⟨by have := hk20.out; have := hk39.out; omega⟩, ⟨((hu34.out.trans hu49.out).grow hg56.out (fun k hk => Nat.le_trans (Nat.le_refl _) ((fun k hk => (lb58.out k hk).1) k hk)))⟩, ⟨(Nat.le_trans ((Nat.le_trans ((Nat.le_trans (Nat.le_refl _) hz35.out)) hu49.out.size)) hg56.out.size)⟩, h55⟩
     ·
      rw [if_neg c50] at H
      replace c50 := Bool.eq_false_iff.mpr c50
      exact absurd H (by simp)
    ·
     rw [if_neg c45] at H
     replace c45 := Bool.eq_false_iff.mpr c45
     have HL61 := Aside0.mk H
     clear H
     refine wp_seq_k (fun K43 hK43 => ?_)
     refine wp_seq_k (fun K44 hK44 => ?_)
     refine wp_region_lit ?_
     refine wpList_plain rfl (fun Ko hKo => ?_)
     go_simp
     refine hKo _ _ ?_
     clear hKo Ko
     try simp only [Act.put, nm1, nm2, nm3, i64_w]
     refine wpList_plain rfl (fun Ko hKo => ?_)
     go_simp
     refine hKo _ _ ?_
     clear hKo Ko
     try simp only [Act.put, nm1, nm2, nm3, i64_w]
     refine wpList_plain rfl (fun Ko hKo => ?_)
     go_simp
     refine hKo _ _ ?_
     clear hKo Ko
     try simp only [Act.put, nm1, nm2, nm3, i64_w]
     refine wpList_nil ?_
     (try simp only [Exit.then, Exit.inBlock, ↓reduceIte, Nat.reduceEqDiff])
     refine hK44 _ _ ?_
     refine wp_cond_false rfl ?_
     refine wp_exit ?_
     (try simp only [Exit.then, Exit.inBlock, ↓reduceIte, Nat.reduceEqDiff])
     refine hK27 _ _ ?_
     refine wp_region_lit ?_
     refine wpList_plain rfl (fun Ko hKo => ?_)
     go_simp
     refine hKo _ _ ?_
     clear hKo Ko
     try simp only [Act.put, nm1, nm2, nm3, i64_w]
     refine wpList_plain rfl (fun Ko hKo => ?_)
     go_simp
     refine hKo _ _ ?_
     clear hKo Ko
     try simp only [Act.put, nm1, nm2, nm3, i64_w]
     refine wpList_plain rfl (fun Ko hKo => ?_)
     go_simp
     refine hKo _ _ ?_
     clear hKo Ko
     try simp only [Act.put, nm1, nm2, nm3, i64_w]
     refine wpList_nil ?_
     (try simp only [Exit.then, Exit.inBlock, ↓reduceIte, Nat.reduceEqDiff])
     refine hK23 _ _ ?_
     go_roundg k38
     case measure => have := hk20.out; have := hk39.out; omega
     case rel => exact ⟨wrap64 (x10 + 1), x30, P31, q32, (by first | rfl | simp), (by first | rfl | simp), HL61, ⟨by have := hk20.out; have := hk39.out; omega⟩, ⟨hu34.out⟩, ⟨(Nat.le_trans ((Nat.le_trans (Nat.le_refl _) hz16.out)) hz35.out)⟩, h37⟩
  ·
   rw [if_neg c26] at H
   replace c26 := Bool.eq_false_iff.mpr c26
   obtain rfl := Option.some.inj H
   refine wp_seq_k (fun K24 hK24 => ?_)
   refine wp_seq_k (fun K25 hK25 => ?_)
   refine wp_region_lit ?_
   refine wpList_plain rfl (fun Ko hKo => ?_)
   go_simp
   refine hKo _ _ ?_
   clear hKo Ko
   try simp only [Act.put, nm1, nm2, nm3, i64_w]
   refine wpList_plain rfl (fun Ko hKo => ?_)
   go_simp
   refine hKo _ _ ?_
   clear hKo Ko
   try simp only [Act.put, nm1, nm2, nm3, i64_w]
   refine wpList_plain rfl (fun Ko hKo => ?_)
   go_simp
   refine hKo _ _ ?_
   clear hKo Ko
   try simp only [Act.put, nm1, nm2, nm3, i64_w]
   refine wpList_nil ?_
   (try simp only [Exit.then, Exit.inBlock, ↓reduceIte, Nat.reduceEqDiff])
   refine hK25 _ _ ?_
   refine wp_cond_false rfl ?_
   refine wp_exit ?_
   (try simp only [Exit.then, Exit.inBlock, ↓reduceIte, Nat.reduceEqDiff])
   refine hK6 _ _ ?_
   refine wp_seq_k (fun K62 hK62 => ?_)
   refine wp_region_lit ?_
   refine wpList_plain rfl (fun Ko hKo => ?_)
   go_simp
   refine hKo _ _ ?_
   clear hKo Ko
   try simp only [Act.put, nm1, nm2, nm3, i64_w]
   refine wpList_plain rfl (fun Ko hKo => ?_)
   go_simp
   refine hKo _ _ ?_
   clear hKo Ko
   try simp only [Act.put, nm1, nm2, nm3, i64_w]
   refine wpList_nil ?_
   (try simp only [Exit.then, Exit.inBlock, ↓reduceIte, Nat.reduceEqDiff])
   refine hK62 _ _ ?_
   refine wp_ret ?_
   (try simp only [Exit.then, Exit.inBlock, ↓reduceIte, Nat.reduceEqDiff])
   refine hQf _ _ _ ?_
   exact bodyPost_ret (v := .slice P12 x11.length q13) (by first | rfl | (simp [results, Tryd.results46, go_sem]; done) | (simp [results, Tryd.results46, go_sem]; rfl)) rfl ⟨P12, q13, rfl, (h18.lower (Nat.le_refl _)), hu15.out⟩

set_option maxHeartbeats 4000000 in
set_option maxRecDepth 100000 in
theorem impl_sum.calls (K : Nat) (a0 : Int) (a1_0 : Int) (a1_1 : Int) (a2_0 : Int) (a2_1 : Int) (r0 : Int) (r1 : Int) (w : World)  (h : impl_sum.f K a0 a1_0 a1_1 a2_0 a2_1 = some (r0, r1)) :
    Calls Tryd.prog 45 #[.int .i64 a0, .agg #[.int .i64 a1_0, .int .i64 a1_1], .agg #[.int .i64 a2_0, .int .i64 a2_1]] w fun e w' => e = .returned (.agg #[.int .i64 r0, .int .i64 r1]) ∧ Up w w' := by
 have H : (((impl_rest.f K a0 (wrap64 (a1_0 + a2_0))).bind fun t12 => ((impl_rest.f K a0 (wrap64 (a1_1 + a2_1))).bind fun t14 => some (t12, t14))) : Option (Int × Int)) = some (r0, r1) := h
 clear h
 replace H := Option.bind_eq_some_iff.mp H
 obtain ⟨t12, A13, H⟩ := H
 replace A13 := Aside0.mk A13
 try dsimp only at H
 replace H := Option.bind_eq_some_iff.mp H
 obtain ⟨t14, A15, H⟩ := H
 replace A15 := Aside0.mk A15
 try dsimp only at H
 simp only [Option.some.injEq, Prod.mk.injEq] at H
 obtain ⟨rfl, rfl⟩ := H
 go_enter Tryd.func45, Tryd.ntmps45
 refine wp_hide (fun Qf hQf => ?_)
 refine wp_seq_k (fun K1 hK1 => ?_)
 refine wp_region_lit ?_
 refine step_new (cs := [.int .i64 a1_0, .int .i64 a1_1]) (T := 28) (f := fun b => .pointer (some ⟨b, 0, none⟩)) rfl (by first | (go_simp; done) | (go_simp; rfl)) ?_
 intro b2 w3 hu lb hb2
 simp only [Act.put, nm1, nm2, nm3, i64_w]
 have lbb2 := Aside0.mk lb
 have ltb2 := Aside0.mk hb2.lt
 clear lb
 have hu4 := Aside0.mk hu
 clear hu
 refine step_new (cs := [.int .i64 a2_0, .int .i64 a2_1]) (T := 28) (f := fun b => .pointer (some ⟨b, 0, none⟩)) rfl (by first | (go_simp; done) | (go_simp; rfl)) ?_
 intro b5 w6 hu lb hb5
 simp only [Act.put, nm1, nm2, nm3, i64_w]
 have lbb5 := Aside0.mk lb
 have ltb5 := Aside0.mk hb5.lt
 clear lb
 have hu7 := Aside0.mk hu
 clear hu
 refine step_new (cs := [.int .i64 0, .int .i64 0]) (T := 28) (f := fun b => .pointer (some ⟨b, 0, none⟩)) rfl (by first | (go_simp; done) | (go_simp; rfl)) ?_
 intro b8 w9 hu lb hb8
 simp only [Act.put, nm1, nm2, nm3, i64_w]
 have lbb8 := Aside0.mk lb
 have ltb8 := Aside0.mk hb8.lt
 clear lb
 have hu10 := Aside0.mk hu
 clear hu
 refine wpList_nil ?_
 (try simp only [Exit.then, Exit.inBlock, ↓reduceIte, Nat.reduceEqDiff])
 refine hK1 _ _ ?_
 refine wp_seq_k (fun K11 hK11 => ?_)
 refine' wp_region_up 15 [Slot.det _, Slot.det _, Slot.det _, Slot.det _, Slot.det _, Slot.det _, Slot.det (.int .i64 t12), Slot.det _, Slot.det _, Slot.det _, Slot.det _, Slot.det _, Slot.det _, Slot.det (.int .i64 t14), Slot.det _] (by kernel_rfl) (by kernel_rfl) ?main
 case main =>
  simp only [List.take_succ_cons, List.take_zero]
  refine wpK_ops rfl (fun w1 hu => ?_) ?_
  · clear hu
    go_simp
    first | done | rfl
  simp only [Act.put, nm1, nm2, nm3, i64_w]
  refine wpK_ops rfl (fun w1 hu => ?_) ?_
  · clear hu
    go_simp
    first | done | rfl
  simp only [Act.put, nm1, nm2, nm3, i64_w]
  refine wpK_ops rfl (fun w1 hu => ?_) ?_
  · have cl0 := ((hb2.up (hu7.out.trans hu10.out)).up ((Up.refl _).drew.trans hu)).cell (o := 0) rfl
    go_simp
    first | done | rfl
  simp only [Act.put, nm1, nm2, nm3, i64_w]
  refine wpK_ops rfl (fun w1 hu => ?_) ?_
  · clear hu
    go_simp
    first | done | rfl
  simp only [Act.put, nm1, nm2, nm3, i64_w]
  refine wpK_ops rfl (fun w1 hu => ?_) ?_
  · have cl0 := ((hb5.up hu10.out).up ((Up.refl _).drew.trans hu)).cell (o := 0) rfl
    go_simp
    first | done | rfl
  simp only [Act.put, nm1, nm2, nm3, i64_w]
  refine wpK_ops rfl (fun w1 hu => ?_) ?_
  · clear hu
    go_simp
    first | done | rfl
  simp only [Act.put, nm1, nm2, nm3, i64_w]
  refine wpK_ops rfl (fun w1 hu => ?_) ?_
  · have hcl := (impl_rest.calls K a0 (wrap64 (a1_0 + a2_0)) t12 w1  A13.out)
    clear hu
    replace hcl := Aside0.mk hcl
    go_simp
    exact hcl.out
  simp only [Act.put, nm1, nm2, nm3, i64_w]
  refine wpK_ops rfl (fun w1 hu => ?_) ?_
  · clear hu
    go_simp
    first | done | rfl
  simp only [Act.put, nm1, nm2, nm3, i64_w]
  refine wpK_ops rfl (fun w1 hu => ?_) ?_
  · clear hu
    go_simp
    first | done | rfl
  simp only [Act.put, nm1, nm2, nm3, i64_w]
  refine wpK_ops rfl (fun w1 hu => ?_) ?_
  · have cl0 := ((hb2.up (hu7.out.trans hu10.out)).up ((Up.refl _).drew.trans hu)).cell (o := 1) rfl
    go_simp
    first | done | rfl
  simp only [Act.put, nm1, nm2, nm3, i64_w]
  refine wpK_ops rfl (fun w1 hu => ?_) ?_
  · clear hu
    go_simp
    first | done | rfl
  simp only [Act.put, nm1, nm2, nm3, i64_w]
  refine wpK_ops rfl (fun w1 hu => ?_) ?_
  · have cl0 := ((hb5.up hu10.out).up ((Up.refl _).drew.trans hu)).cell (o := 1) rfl
    go_simp
    first | done | rfl
  simp only [Act.put, nm1, nm2, nm3, i64_w]
  refine wpK_ops rfl (fun w1 hu => ?_) ?_
  · clear hu
    go_simp
    first | done | rfl
  simp only [Act.put, nm1, nm2, nm3, i64_w]
  refine wpK_ops rfl (fun w1 hu => ?_) ?_
  · have hcl := (impl_rest.calls K a0 (wrap64 (a1_1 + a2_1)) t14 w1  A15.out)
    clear hu
    replace hcl := Aside0.mk hcl
    go_simp
    exact hcl.out
  simp only [Act.put, nm1, nm2, nm3, i64_w]
  refine wpK_ops rfl (fun w1 hu => ?_) ?_
  · clear hu
    go_simp
    first | done | rfl
  simp only [Act.put, nm1, nm2, nm3, i64_w]
  refine wpK_nil ?_
  intro w16 hu hap
  simp only [List.drop_succ_cons, List.drop_zero]
  replace hu := (Up.refl _).drew.trans hu
  clear hap
  have hu17 := Aside0.mk hu
  clear hu
  have hB0 := (hb8.up hu17.out)
  have cl0 := hB0.cell (o := 0) rfl
  have fr0 := hB0.free 0
  have cl1 := hB0.cell (o := 1) rfl
  have fr1 := hB0.free 1
  refine step_store (b := b8) (cs' := [.int .i64 t12, .int .i64 t14]) (T := 28) (W' := ((w16.setCell ⟨b8, 0, none⟩ (.int .i64 t12)).setCell ⟨b8, 1, none⟩ (.int .i64 t14))) rfl rfl (by first | (go_simp; done) | (go_simp; rfl)) (((Sto.refl _ _).setCell 0 _).setCell 1 _) (((hB0).setCell 0 _).setCell 1 _) ?_
  clear hB0 cl0 fr0 cl1 fr1
  intro w18 hs hb20
  have hs19 := Aside0.mk hs
  clear hs
  refine wpList_nil ?_
  (try simp only [Exit.then, Exit.inBlock, ↓reduceIte, Nat.reduceEqDiff])
  refine hK11 _ _ ?_
  refine wp_ret ?_
  (try simp only [Exit.then, Exit.inBlock, ↓reduceIte, Nat.reduceEqDiff])
  refine hQf _ _ _ ?_
  have cr0 := hb20.cell (o := 0) rfl
  have cr1 := hb20.cell (o := 1) rfl
  exact bodyPost_ret (v := .agg #[.int .i64 t12, .int .i64 t14]) (by first | rfl | (simp [results, Tryd.results45, go_sem, cr0, cr1]; done) | (simp [results, Tryd.results45, go_sem, cr0, cr1]; rfl)) rfl ⟨rfl, ((((hu4.out.trans hu7.out).trans hu10.out).trans hu17.out).sto (Nat.le_trans ((Nat.le_trans (hu4.out.size) hu7.out.size)) lbb8.out) hs19.out)⟩

set_option maxHeartbeats 4000000 in
set_option maxRecDepth 100000 in
theorem impl_moved.calls (K : Nat) (a0 : Int) (a1_0 : Int) (a1_1 : Int) (a1_2 : Int) (a1_3 : Int) (a1_4 : Int) (a1_5 : Int) (a2_0 : Int) (a2_1 : Int) (r0 : Int) (r1 : Int) (w : World)  (h : impl_moved.f K a0 a1_0 a1_1 a1_2 a1_3 a1_4 a1_5 a2_0 a2_1 = some (r0, r1)) :
    Calls Tryd.prog 32 #[.int .i64 a0, .agg #[.int .i64 a1_0, .int .i64 a1_1, .int .i64 a1_2, .int .i64 a1_3, .int .i64 a1_4, .int .i64 a1_5], .agg #[.int .i64 a2_0, .int .i64 a2_1]] w fun e w' => e = .returned (.agg #[.int .i64 r0, .int .i64 r1]) ∧ Up w w' := by
 have H : (((impl_turned.f K a0 a1_0 a1_1 a1_2 a1_3 a2_0 a2_1).bind fun (t12, t13) => ((impl_sum.f K a0 t12 t13 a1_4 a1_5).bind fun (t15, t16) => some (t15, t16))) : Option (Int × Int)) = some (r0, r1) := h
 clear h
 replace H := Option.bind_eq_some_iff.mp H
 obtain ⟨⟨t12, t13⟩, A14, H⟩ := H
 replace A14 := Aside0.mk A14
 try dsimp only at H
 replace H := Option.bind_eq_some_iff.mp H
 obtain ⟨⟨t15, t16⟩, A17, H⟩ := H
 replace A17 := Aside0.mk A17
 try dsimp only at H
 simp only [Option.some.injEq, Prod.mk.injEq] at H
 obtain ⟨rfl, rfl⟩ := H
 go_enter Tryd.func32, Tryd.ntmps32
 refine wp_hide (fun Qf hQf => ?_)
 refine wp_seq_k (fun K1 hK1 => ?_)
 refine wp_region_lit ?_
 refine step_new (cs := [.int .i64 a1_0, .int .i64 a1_1, .int .i64 a1_2, .int .i64 a1_3, .int .i64 a1_4, .int .i64 a1_5]) (T := 30) (f := fun b => .pointer (some ⟨b, 0, none⟩)) rfl (by first | (go_simp; done) | (go_simp; rfl)) ?_
 intro b2 w3 hu lb hb2
 simp only [Act.put, nm1, nm2, nm3, i64_w]
 have lbb2 := Aside0.mk lb
 have ltb2 := Aside0.mk hb2.lt
 clear lb
 have hu4 := Aside0.mk hu
 clear hu
 refine step_new (cs := [.int .i64 a2_0, .int .i64 a2_1]) (T := 28) (f := fun b => .pointer (some ⟨b, 0, none⟩)) rfl (by first | (go_simp; done) | (go_simp; rfl)) ?_
 intro b5 w6 hu lb hb5
 simp only [Act.put, nm1, nm2, nm3, i64_w]
 have lbb5 := Aside0.mk lb
 have ltb5 := Aside0.mk hb5.lt
 clear lb
 have hu7 := Aside0.mk hu
 clear hu
 refine step_new (cs := [.int .i64 0, .int .i64 0]) (T := 28) (f := fun b => .pointer (some ⟨b, 0, none⟩)) rfl (by first | (go_simp; done) | (go_simp; rfl)) ?_
 intro b8 w9 hu lb hb8
 simp only [Act.put, nm1, nm2, nm3, i64_w]
 have lbb8 := Aside0.mk lb
 have ltb8 := Aside0.mk hb8.lt
 clear lb
 have hu10 := Aside0.mk hu
 clear hu
 refine wpList_nil ?_
 (try simp only [Exit.then, Exit.inBlock, ↓reduceIte, Nat.reduceEqDiff])
 refine hK1 _ _ ?_
 refine wp_seq_k (fun K11 hK11 => ?_)
 refine' wp_region_up 9 [Slot.det _, Slot.det _, Slot.det _, Slot.det _, Slot.det _, Slot.det (.agg #[.int .i64 t12, .int .i64 t13]), Slot.det _, Slot.det _, Slot.det (.agg #[.int .i64 t15, .int .i64 t16])] (by kernel_rfl) (by kernel_rfl) ?main
 case main =>
  simp only [List.take_succ_cons, List.take_zero]
  refine wpK_ops rfl (fun w1 hu => ?_) ?_
  · clear hu
    go_simp
    first | done | rfl
  simp only [Act.put, nm1, nm2, nm3, i64_w]
  refine wpK_ops rfl (fun w1 hu => ?_) ?_
  · clear hu
    go_simp
    first | done | rfl
  simp only [Act.put, nm1, nm2, nm3, i64_w]
  refine wpK_ops rfl (fun w1 hu => ?_) ?_
  · clear hu
    go_simp
    first | done | rfl
  simp only [Act.put, nm1, nm2, nm3, i64_w]
  refine wpK_ops rfl (fun w1 hu => ?_) ?_
  · have cl0 := ((hb2.up (hu7.out.trans hu10.out)).up ((Up.refl _).drew.trans hu)).cell (o := 0) rfl
    have cl1 := ((hb2.up (hu7.out.trans hu10.out)).up ((Up.refl _).drew.trans hu)).cell (o := 1) rfl
    have cl2 := ((hb2.up (hu7.out.trans hu10.out)).up ((Up.refl _).drew.trans hu)).cell (o := 2) rfl
    have cl3 := ((hb2.up (hu7.out.trans hu10.out)).up ((Up.refl _).drew.trans hu)).cell (o := 3) rfl
    go_simp
    first | done | rfl
  simp only [Act.put, nm1, nm2, nm3, i64_w]
  refine wpK_ops rfl (fun w1 hu => ?_) ?_
  · have cl0 := ((hb5.up hu10.out).up ((Up.refl _).drew.trans hu)).cell (o := 0) rfl
    have cl1 := ((hb5.up hu10.out).up ((Up.refl _).drew.trans hu)).cell (o := 1) rfl
    go_simp
    first | done | rfl
  simp only [Act.put, nm1, nm2, nm3, i64_w]
  refine wpK_ops rfl (fun w1 hu => ?_) ?_
  · have hcl := (impl_turned.calls K a0 a1_0 a1_1 a1_2 a1_3 a2_0 a2_1 t12 t13 w1  A14.out)
    clear hu
    replace hcl := Aside0.mk hcl
    go_simp
    exact hcl.out
  simp only [Act.put, nm1, nm2, nm3, i64_w]
  refine wpK_ops rfl (fun w1 hu => ?_) ?_
  · clear hu
    go_simp
    first | done | rfl
  simp only [Act.put, nm1, nm2, nm3, i64_w]
  refine wpK_ops rfl (fun w1 hu => ?_) ?_
  · have cl0 := ((hb2.up (hu7.out.trans hu10.out)).up ((Up.refl _).drew.trans hu)).cell (o := 4) rfl
    have cl1 := ((hb2.up (hu7.out.trans hu10.out)).up ((Up.refl _).drew.trans hu)).cell (o := 5) rfl
    go_simp
    first | done | rfl
  simp only [Act.put, nm1, nm2, nm3, i64_w]
  refine wpK_ops rfl (fun w1 hu => ?_) ?_
  · have hcl := (impl_sum.calls K a0 t12 t13 a1_4 a1_5 t15 t16 w1  A17.out)
    clear hu
    replace hcl := Aside0.mk hcl
    go_simp
    exact hcl.out
  simp only [Act.put, nm1, nm2, nm3, i64_w]
  refine wpK_nil ?_
  intro w18 hu hap
  simp only [List.drop_succ_cons, List.drop_zero]
  replace hu := (Up.refl _).drew.trans hu
  clear hap
  have hu19 := Aside0.mk hu
  clear hu
  have hB0 := (hb8.up hu19.out)
  have cl0 := hB0.cell (o := 0) rfl
  have fr0 := hB0.free 0
  have cl1 := hB0.cell (o := 1) rfl
  have fr1 := hB0.free 1
  refine step_store (b := b8) (cs' := [.int .i64 t15, .int .i64 t16]) (T := 28) (W' := ((w18.setCell ⟨b8, 0, none⟩ (.int .i64 t15)).setCell ⟨b8, 1, none⟩ (.int .i64 t16))) rfl rfl (by first | (go_simp; done) | (go_simp; rfl)) (((Sto.refl _ _).setCell 0 _).setCell 1 _) (((hB0).setCell 0 _).setCell 1 _) ?_
  clear hB0 cl0 fr0 cl1 fr1
  intro w20 hs hb22
  have hs21 := Aside0.mk hs
  clear hs
  refine wpList_nil ?_
  (try simp only [Exit.then, Exit.inBlock, ↓reduceIte, Nat.reduceEqDiff])
  refine hK11 _ _ ?_
  refine wp_ret ?_
  (try simp only [Exit.then, Exit.inBlock, ↓reduceIte, Nat.reduceEqDiff])
  refine hQf _ _ _ ?_
  have cr0 := hb22.cell (o := 0) rfl
  have cr1 := hb22.cell (o := 1) rfl
  exact bodyPost_ret (v := .agg #[.int .i64 t15, .int .i64 t16]) (by first | rfl | (simp [results, Tryd.results32, go_sem, cr0, cr1]; done) | (simp [results, Tryd.results32, go_sem, cr0, cr1]; rfl)) rfl ⟨rfl, ((((hu4.out.trans hu7.out).trans hu10.out).trans hu19.out).sto (Nat.le_trans ((Nat.le_trans (hu4.out.size) hu7.out.size)) lbb8.out) hs21.out)⟩

set_option maxHeartbeats 4000000 in
set_option maxRecDepth 100000 in
theorem impl_fixedPoints_1.calls (K : Nat) (a0_0 : Int) (a0_1 : Int) (bf0 : Nat) (f0_0 : Int) (bf1 : Nat) (f1_0 : Int) (f1_1 : Int) (f1_2 : Int) (f1_3 : Int) (f1_4 : Int) (f1_5 : Int) (r0 : Bool) (w : World) (hf0 : Blk w bf0 [.int .i64 f0_0] 2) (hf1 : Blk w bf1 [.int .i64 f1_0, .int .i64 f1_1, .int .i64 f1_2, .int .i64 f1_3, .int .i64 f1_4, .int .i64 f1_5] 30) (h : impl_fixedPoints_1.f K a0_0 a0_1 f0_0 f1_0 f1_1 f1_2 f1_3 f1_4 f1_5 = some (r0)) :
    Calls Tryd.prog 35 #[.agg #[.int .i64 a0_0, .int .i64 a0_1], .pointer (some ⟨bf0, 0, none⟩), .pointer (some ⟨bf1, 0, none⟩)] w fun e w' => e = .returned (.bool r0) ∧ Up w w' := by
 have H : (((impl_moved.f K f0_0 f1_0 f1_1 f1_2 f1_3 f1_4 f1_5 a0_0 a0_1).bind fun (t6, t7) => some (t6 == a0_0 && t7 == a0_1)) : Option (Bool)) = some (r0) := h
 clear h
 replace H := Option.bind_eq_some_iff.mp H
 obtain ⟨⟨t6, t7⟩, A8, H⟩ := H
 replace A8 := Aside0.mk A8
 try dsimp only at H
 obtain rfl := Option.some.inj H
 have ltbf0 := Aside0.mk hf0.lt
 have ltbf1 := Aside0.mk hf1.lt
 go_enter Tryd.func35, Tryd.ntmps35
 refine wp_hide (fun Qf hQf => ?_)
 refine wp_seq_k (fun K1 hK1 => ?_)
 refine wp_region_lit ?_
 refine step_new (cs := [.int .i64 a0_0, .int .i64 a0_1]) (T := 28) (f := fun b => .pointer (some ⟨b, 0, none⟩)) rfl (by first | (go_simp; done) | (go_simp; rfl)) ?_
 intro b2 w3 hu lb hb2
 simp only [Act.put, nm1, nm2, nm3, i64_w]
 have lbb2 := Aside0.mk lb
 have ltb2 := Aside0.mk hb2.lt
 clear lb
 have hu4 := Aside0.mk hu
 clear hu
 refine wpList_plain rfl (fun Ko hKo => ?_)
 go_simp
 refine hKo _ _ ?_
 clear hKo Ko
 try simp only [Act.put, nm1, nm2, nm3, i64_w]
 refine wpList_nil ?_
 (try simp only [Exit.then, Exit.inBlock, ↓reduceIte, Nat.reduceEqDiff])
 refine hK1 _ _ ?_
 refine wp_seq_k (fun K5 hK5 => ?_)
 refine' wp_region_up 6 [Slot.det _, Slot.det _, Slot.det _, Slot.det (.agg #[.int .i64 t6, .int .i64 t7]), Slot.det _, Slot.det _] (by kernel_rfl) (by kernel_rfl) ?main
 case main =>
  simp only [List.take_succ_cons, List.take_zero]
  refine wpK_ops rfl (fun w1 hu => ?_) ?_
  · have cl0 := ((hf0.up hu4.out).up ((Up.refl _).drew.trans hu)).cell (o := 0) rfl
    go_simp
    first | done | rfl
  simp only [Act.put, nm1, nm2, nm3, i64_w]
  refine wpK_ops rfl (fun w1 hu => ?_) ?_
  · have cl0 := ((hf1.up hu4.out).up ((Up.refl _).drew.trans hu)).cell (o := 0) rfl
    have cl1 := ((hf1.up hu4.out).up ((Up.refl _).drew.trans hu)).cell (o := 1) rfl
    have cl2 := ((hf1.up hu4.out).up ((Up.refl _).drew.trans hu)).cell (o := 2) rfl
    have cl3 := ((hf1.up hu4.out).up ((Up.refl _).drew.trans hu)).cell (o := 3) rfl
    have cl4 := ((hf1.up hu4.out).up ((Up.refl _).drew.trans hu)).cell (o := 4) rfl
    have cl5 := ((hf1.up hu4.out).up ((Up.refl _).drew.trans hu)).cell (o := 5) rfl
    go_simp
    first | done | rfl
  simp only [Act.put, nm1, nm2, nm3, i64_w]
  refine wpK_ops rfl (fun w1 hu => ?_) ?_
  · have cl0 := (hb2.up ((Up.refl _).drew.trans hu)).cell (o := 0) rfl
    have cl1 := (hb2.up ((Up.refl _).drew.trans hu)).cell (o := 1) rfl
    go_simp
    first | done | rfl
  simp only [Act.put, nm1, nm2, nm3, i64_w]
  refine wpK_ops rfl (fun w1 hu => ?_) ?_
  · have hcl := (impl_moved.calls K f0_0 f1_0 f1_1 f1_2 f1_3 f1_4 f1_5 a0_0 a0_1 t6 t7 w1  A8.out)
    clear hu
    replace hcl := Aside0.mk hcl
    go_simp
    exact hcl.out
  simp only [Act.put, nm1, nm2, nm3, i64_w]
  refine wpK_ops rfl (fun w1 hu => ?_) ?_
  · have cl0 := (hb2.up ((Up.refl _).drew.trans hu)).cell (o := 0) rfl
    have cl1 := (hb2.up ((Up.refl _).drew.trans hu)).cell (o := 1) rfl
    go_simp
    first | done | rfl
  simp only [Act.put, nm1, nm2, nm3, i64_w]
  refine wpK_ops rfl (fun w1 hu => ?_) ?_
  · clear hu
    go_simp
    first | done | rfl
  simp only [Act.put, nm1, nm2, nm3, i64_w]
  refine wpK_nil ?_
  intro w9 hu hap
  simp only [List.drop_succ_cons, List.drop_zero]
  replace hu := (Up.refl _).drew.trans hu
  clear hap
  have hu10 := Aside0.mk hu
  clear hu
  refine wpList_plain rfl (fun Ko hKo => ?_)
  go_simp
  refine hKo _ _ ?_
  clear hKo Ko
  try simp only [Act.put, nm1, nm2, nm3, i64_w]
  refine wpList_nil ?_
  (try simp only [Exit.then, Exit.inBlock, ↓reduceIte, Nat.reduceEqDiff])
  refine hK5 _ _ ?_
  refine wp_ret ?_
  (try simp only [Exit.then, Exit.inBlock, ↓reduceIte, Nat.reduceEqDiff])
  refine hQf _ _ _ ?_
  exact bodyPost_ret (v := .bool (t6 == a0_0 && t7 == a0_1)) (by first | rfl | (simp [results, Tryd.results35, go_sem]; done) | (simp [results, Tryd.results35, go_sem]; rfl)) rfl ⟨rfl, (hu4.out.trans hu10.out)⟩

set_option maxHeartbeats 4000000 in
set_option maxRecDepth 100000 in
theorem impl_pointsWith__impl_fixedPoints_1.calls (K : Nat) (a0 : Int) (bc1_0 : Nat) (c1_0_0 : Int) (bc1_1 : Nat) (c1_1_0 : Int) (c1_1_1 : Int) (c1_1_2 : Int) (c1_1_3 : Int) (c1_1_4 : Int) (c1_1_5 : Int) (r0 : List (Int × Int)) (w : World) (hc1_0 : Blk w bc1_0 [.int .i64 c1_0_0] 2) (hc1_1 : Blk w bc1_1 [.int .i64 c1_1_0, .int .i64 c1_1_1, .int .i64 c1_1_2, .int .i64 c1_1_3, .int .i64 c1_1_4, .int .i64 c1_1_5] 30) (h : impl_pointsWith__impl_fixedPoints_1.f K a0 c1_0_0 c1_1_0 c1_1_1 c1_1_2 c1_1_3 c1_1_4 c1_1_5 = some (r0)) :
    Calls Tryd.prog 34 #[.int .i64 a0, .func (.func 35) #[] #[.pointer (some ⟨bc1_0, 0, none⟩), .pointer (some ⟨bc1_1, 0, none⟩)]] w fun e w' => ∃ (Ar0 : Option Addr) (cr0 : Nat), e = .returned (.slice Ar0 r0.length cr0) ∧ Own e2 28 w' w.heap.size (.slice Ar0 r0.length cr0) r0 ∧ Up w w' := by
 have H : (((impl_allPoints.f K a0).bind fun t8 => (impl_pointsWith__impl_fixedPoints_1.l0 K c1_0_0 c1_1_0 c1_1_1 c1_1_2 c1_1_3 c1_1_4 c1_1_5 t8 K 0 ([] : List (Int × Int)))) : Option (List (Int × Int))) = some (r0) := h
 clear h
 replace H := Option.bind_eq_some_iff.mp H
 obtain ⟨t8, A11, H⟩ := H
 replace A11 := Aside0.mk A11
 try dsimp only at H
 have ltbc1_0 := Aside0.mk hc1_0.lt
 have ltbc1_1 := Aside0.mk hc1_1.lt
 go_enter Tryd.func34, Tryd.ntmps34
 refine wp_hide (fun Qf hQf => ?_)
 refine wp_seq_k (fun K1 hK1 => ?_)
 refine wp_region_lit ?_
 refine wpList_plain rfl (fun Ko hKo => ?_)
 go_simp
 refine hKo _ _ ?_
 clear hKo Ko
 try simp only [Act.put, nm1, nm2, nm3, i64_w]
 refine wpList_nil ?_
 (try simp only [Exit.then, Exit.inBlock, ↓reduceIte, Nat.reduceEqDiff])
 refine hK1 _ _ ?_
 refine wp_seq_k (fun K2 hK2 => ?_)
 refine wp_region_lit ?_
 refine step_new (cs := []) (T := 28) (f := fun b => .slice (some ⟨b, 0, none⟩) 0 0) rfl (by first | (go_simp; done) | (go_simp; rfl)) ?_
 intro b3 w4 hu lb hb3
 simp only [Act.put, nm1, nm2, nm3, i64_w]
 have lbb3 := Aside0.mk lb
 have ltb3 := Aside0.mk hb3.lt
 clear lb
 have hu5 := Aside0.mk hu
 clear hu
 refine wpList_plain rfl (fun Ko hKo => ?_)
 go_simp
 refine hKo _ _ ?_
 clear hKo Ko
 try simp only [Act.put, nm1, nm2, nm3, i64_w]
 refine wpList_nil ?_
 (try simp only [Exit.then, Exit.inBlock, ↓reduceIte, Nat.reduceEqDiff])
 refine hK2 _ _ ?_
 refine wp_seq_k (fun K6 hK6 => ?_)
 refine wp_seq_k (fun K7 hK7 => ?_)
 refine wp_region_lit ?_
 refine wpList_plain rfl (fun Ko hKo => ?_)
 go_simp
 refine hKo _ _ ?_
 clear hKo Ko
 try simp only [Act.put, nm1, nm2, nm3, i64_w]
 refine step_call (wanted_none rfl) (by first | (go_simp; done) | (go_simp; rfl)) (impl_allPoints.calls K a0 t8 w4  A11.out) ?_
 rintro e w12 ⟨P9, q10, rfl, ht8, hu⟩
 have hu13 := Aside0.mk hu
 clear hu
 refine ⟨_, rfl, ?_⟩
 simp only [Act.put, nm1, nm2, nm3, i64_w]
 refine wpList_plain rfl (fun Ko hKo => ?_)
 go_simp
 refine hKo _ _ ?_
 clear hKo Ko
 try simp only [Act.put, nm1, nm2, nm3, i64_w]
 refine wpList_plain rfl (fun Ko hKo => ?_)
 go_simp
 refine hKo _ _ ?_
 clear hKo Ko
 try simp only [Act.put, nm1, nm2, nm3, i64_w]
 refine wpList_nil ?_
 (try simp only [Exit.then, Exit.inBlock, ↓reduceIte, Nat.reduceEqDiff])
 refine hK7 _ _ ?_
 refine wp_block ?_
 have h15 : Own e2 28 w12 w.heap.size (.slice (some ⟨b3, 0, none⟩) ([].length) 0) [] := Own.of_blk (hb3.up hu13.out) lbb3.out rfl (by simp) (by simp [Enc.flat, e2])
 have h16 : Own e2 28 w4 w.heap.size (.slice (some ⟨b3, 0, none⟩) ([].length) 0) [] := Own.of_blk hb3 lbb3.out rfl (by simp) (by simp [Enc.flat, e2])
 have HL24 := Aside0.mk H
 clear H
 go_loopg [12, 5] K (fun kq v12 v5 w' => ∃ (x17 : Int) (x18 : List (Int × Int)) (P19 : Option Addr) (q20 : Nat), v12 = .int .i64 x17 ∧ v5 = .slice P19 x18.length q20 ∧ Aside0 (impl_pointsWith__impl_fixedPoints_1.l0 K c1_0_0 c1_1_0 c1_1_1 c1_1_2 c1_1_3 c1_1_4 c1_1_5 t8 kq x17 x18 = some (r0)) ∧ Aside0 (kq ≤ K) ∧ Aside0 (Up w w') ∧ Aside0 (w12.heap.size ≤ w'.heap.size) ∧ Own e2 28 w' w4.heap.size (.slice P9 t8.length q10) t8 ∧ Own e2 28 w' w.heap.size (.slice P19 x18.length q20) x18 ∧ Aside0 (∀ k l, blk (.slice P19 x18.length q20) = some k → blk (.slice P9 t8.length q10) = some l → k ≠ l))
 case atStart => exact ⟨0, ([] : List (Int × Int)), some ⟨b3, 0, none⟩, 0, (by first | rfl | simp), (by first | rfl | simp), HL24, ⟨Nat.le_refl _⟩, ⟨(hu5.out.trans hu13.out)⟩, ⟨Nat.le_refl _⟩, ht8, h15, ⟨(fun k l hk hl => Nat.ne_of_lt (Nat.lt_of_lt_of_le ((fun k hk => Nat.lt_of_lt_of_le (h16.lt k hk).2 (Nat.le_refl _)) k hk) ((fun k hk => Nat.le_trans (Nat.le_refl _) (ht8.lt k hk).1) l hl)))⟩⟩
 case round =>
  rename_i J31 K32 hJ31 hK32
  obtain ⟨x17, x18, P19, q20, rfl, rfl, HL30, hk29, hu22, hz23, h25, h26, hn27⟩ := hrel
  obtain ⟨w21, rfl⟩ : ∃ wo : World, wo = wr := ⟨_, rfl⟩
  obtain ⟨k28, rfl⟩ | rfl : (∃ k, gk = k + 1) ∨ gk = 0 := by rcases gk with _ | k; exact .inr rfl; exact .inl ⟨k, rfl⟩
  case inr => exact absurd HL30.out (by simp [impl_pointsWith__impl_fixedPoints_1.l0])
  have H := HL30.out
  clear HL30
  rw [impl_pointsWith__impl_fixedPoints_1.l0] at H
  by_cases c35 : (decide (x17 < (t8.length : Int))) = true
  ·
   rw [if_pos c35] at H
   replace H := Option.bind_eq_some_iff.mp H
   obtain ⟨⟨t38, t39⟩, A40, H⟩ := H
   replace A40 := Aside0.mk A40
   try dsimp only at H
   replace H := Option.bind_eq_some_iff.mp H
   obtain ⟨t51, A52, H⟩ := H
   replace A52 := Aside0.mk A52
   try dsimp only at H
   by_cases c55 : (t51) = true
   ·
    rw [if_pos c55] at H
    subst c55
    by_cases c59 : (decide (x18.length ≤ 1000000)) = true
    ·
     rw [if_pos c59] at H
     have HL71 := Aside0.mk H
     clear H
     refine wp_seq_k (fun K33 hK33 => ?_)
     refine wp_region_lit ?_
     refine wpList_plain rfl (fun Ko hKo => ?_)
     go_simp
     refine hKo _ _ ?_
     clear hKo Ko
     try simp only [Act.put, nm1, nm2, nm3, i64_w]
     refine wpList_nil ?_
     (try simp only [Exit.then, Exit.inBlock, ↓reduceIte, Nat.reduceEqDiff])
     refine hK33 _ _ ?_
     refine wp_seq_k (fun K34 hK34 => ?_)
     refine wp_cond_true rfl ?_
     refine wp_skip ?_
     (try simp only [Exit.then, Exit.inBlock, ↓reduceIte, Nat.reduceEqDiff])
     refine hK34 _ _ ?_
     refine wp_seq_k (fun K36 hK36 => ?_)
     refine wp_block ?_
     refine wp_seq_k (fun K37 hK37 => ?_)
     refine wp_region_lit ?_
     refine step_index e2 (T := 28) (wanted_none rfl) rfl (by kernel_rfl) (by kernel_rfl) rfl rfl rfl h25.rd A40.out ?_
     intro ad41 hat he
     have he42 := Aside0.mk he
     have hat43 := Aside0.mk hat
     clear he hat
     simp only [Act.put, nm1, nm2, nm3, i64_w]
     have cl0 := he42.out 0 _ rfl
     rw [addr_add0] at cl0
     have cl1 : World.cell? _ ⟨ad41.block, ad41.off + 1, none⟩ = some _ := he42.out 1 _ rfl
     refine wpList_plain rfl (fun Ko hKo => ?_)
     go_simp
     refine hKo _ _ ?_
     clear hKo Ko
     clear cl0 cl1
     try simp only [Act.put, nm1, nm2, nm3, i64_w]
     refine step_new (cs := [.int .i64 0, .int .i64 0]) (T := 28) (f := fun b => .pointer (some ⟨b, 0, none⟩)) rfl (by first | (go_simp; done) | (go_simp; rfl)) ?_
     intro b44 w45 hu lb hb44
     simp only [Act.put, nm1, nm2, nm3, i64_w]
     have lbb44 := Aside0.mk lb
     have ltb44 := Aside0.mk hb44.lt
     clear lb
     have hu46 := Aside0.mk hu
     clear hu
     have hB0 := hb44
     have cl0 := hB0.cell (o := 0) rfl
     have fr0 := hB0.free 0
     have cl1 := hB0.cell (o := 1) rfl
     have fr1 := hB0.free 1
     refine step_store (b := b44) (cs' := [.int .i64 t38, .int .i64 t39]) (T := 28) (W' := ((w45.setCell ⟨b44, 0, none⟩ (.int .i64 t38)).setCell ⟨b44, 1, none⟩ (.int .i64 t39))) rfl rfl (by first | (go_simp; done) | (go_simp; rfl)) (((Sto.refl _ _).setCell 0 _).setCell 1 _) (((hB0).setCell 0 _).setCell 1 _) ?_
     clear hB0 cl0 fr0 cl1 fr1
     intro w47 hs hb49
     have hs48 := Aside0.mk hs
     clear hs
     refine wpList_nil ?_
     (try simp only [Exit.then, Exit.inBlock, ↓reduceIte, Nat.reduceEqDiff])
     refine hK37 _ _ ?_
     refine wp_seq_k (fun K50 hK50 => ?_)
     refine wp_region_lit ?_
     refine wpList_plain rfl (fun Ko hKo => ?_)
     go_simp
     refine hKo _ _ ?_
     clear hKo Ko
     try simp only [Act.put, nm1, nm2, nm3, i64_w]
     have cl0 := hb49.cell (o := 0) rfl
     have cl1 := hb49.cell (o := 1) rfl
     refine wpList_plain rfl (fun Ko hKo => ?_)
     go_simp
     refine hKo _ _ ?_
     clear hKo Ko
     clear cl0 cl1
     try simp only [Act.put, nm1, nm2, nm3, i64_w]
     refine step_call (wanted_none rfl) (by first | (go_simp; done) | (go_simp; rfl)) (impl_fixedPoints_1.calls K t38 t39 bc1_0 c1_0_0 bc1_1 c1_1_0 c1_1_1 c1_1_2 c1_1_3 c1_1_4 c1_1_5 true w47 (hc1_0.up ((hu22.out.trans hu46.out).sto (Nat.le_trans ((Nat.le_trans ((Nat.le_trans (hu5.out.size) hu13.out.size)) hz23.out)) lbb44.out) hs48.out)) (hc1_1.up ((hu22.out.trans hu46.out).sto (Nat.le_trans ((Nat.le_trans ((Nat.le_trans (hu5.out.size) hu13.out.size)) hz23.out)) lbb44.out) hs48.out)) A52.out) ?_
     rintro e w53 ⟨rfl, hu⟩
     have hu54 := Aside0.mk hu
     clear hu
     refine ⟨_, rfl, ?_⟩
     simp only [Act.put, nm1, nm2, nm3, i64_w]
     refine wpList_nil ?_
     (try simp only [Exit.then, Exit.inBlock, ↓reduceIte, Nat.reduceEqDiff])
     refine hK50 _ _ ?_
     refine wp_cond_true rfl ?_
     refine wp_region_lit ?_
     refine wpList_plain rfl (fun Ko hKo => ?_)
     go_simp
     refine hKo _ _ ?_
     clear hKo Ko
     try simp only [Act.put, nm1, nm2, nm3, i64_w]
     have cl0 := (hb49.up hu54.out).cell (o := 0) rfl
     have cl1 := (hb49.up hu54.out).cell (o := 1) rfl
     refine wpList_plain rfl (fun Ko hKo => ?_)
     go_simp
     refine hKo _ _ ?_
     clear hKo Ko
     clear cl0 cl1
     try simp only [Act.put, nm1, nm2, nm3, i64_w]
     refine step_new (cs := [.int .i64 t38, .int .i64 t39]) (T := 28) (f := fun b => .slice (some ⟨b, 0, none⟩) 1 1) rfl (by first | (go_simp; done) | (go_simp; rfl)) ?_
     intro b56 w57 hu lb hb56
     simp only [Act.put, nm1, nm2, nm3, i64_w]
     have lbb56 := Aside0.mk lb
     have ltb56 := Aside0.mk hb56.lt
     clear lb
     have hu58 := Aside0.mk hu
     clear hu
     have hO0 := Aside0.mk (h26.up (((hu46.out.sto (Nat.le_trans (Nat.le_refl _) lbb44.out) hs48.out).trans hu54.out).trans hu58.out))
     refine step_append e2 (z := .agg #[.int .i64 0, .int .i64 0]) (bytes := 16) (base := w.heap.size) (xs := x18) (ys := [(t38, t39)]) (wanted_none rfl) _ _ rfl rfl (by kernel_rfl) rfl (by decide) rfl rfl rfl hO0.out (Rd.of_blk (E := e2) (xs := [(t38, t39)]) (o := 0) hb56 (by simp) (fun j u hu => by rcases j with _ | _ | j <;> simp_all [Enc.flat, e2])) ((Nat.le_trans ((Nat.le_trans ((Nat.le_trans ((Nat.le_trans ((Nat.le_trans ((Nat.le_trans (hu5.out.size) hu13.out.size)) hz23.out)) hu46.out.size)) (Nat.le_of_eq hs48.out.size.symm))) hu54.out.size)) hu58.out.size)) (by have h0_ := (of_decide_eq_true (by assumption) : x18.length ≤ 1000000); simp only [List.length_cons, List.length_nil]; omega) ?_
     intro P60 q61 w62 h64 hg hat
     have hg65 := Aside0.mk hg
     have hat66 := Aside0.mk hat
     simp only [Act.put, nm1, nm2, nm3, i64_w]
     have lb67 := Aside0.mk hO0.out.lt
     clear hO0 hg hat
     have h68 := (h25.up (((hu46.out.sto (Nat.le_trans (Nat.le_refl _) lbb44.out) hs48.out).trans hu54.out).trans hu58.out)).grow hg65.out hn27.out
     have h69 := (hb49.up (hu54.out.trans hu58.out)).grow hg65.out (fun k hk => Nat.ne_of_lt (Nat.lt_of_lt_of_le ((fun k hk => Nat.lt_of_lt_of_le (h26.lt k hk).2 (Nat.le_refl _)) k hk) lbb44.out))
     have h70 := hb56.grow hg65.out (fun k hk => Nat.ne_of_lt (Nat.lt_of_lt_of_le ((fun k hk => Nat.lt_of_lt_of_le (h26.lt k hk).2 ((Nat.le_trans ((Nat.le_trans (hu46.out.size) (Nat.le_of_eq hs48.out.size.symm))) hu54.out.size))) k hk) lbb56.out))
     refine wpList_plain rfl (fun Ko hKo => ?_)
     go_simp
     refine hKo _ _ ?_
     clear hKo Ko
     try simp only [Act.put, nm1, nm2, nm3, i64_w]
     refine wpList_nil ?_
     (try simp only [Exit.then, Exit.inBlock, ↓reduceIte, Nat.reduceEqDiff])
     refine hK36 _ _ ?_
     refine wp_region_lit ?_
     refine wpList_plain rfl (fun Ko hKo => ?_)
     go_simp
     refine hKo _ _ ?_
     clear hKo Ko
     try simp only [Act.put, nm1, nm2, nm3, i64_w]
     refine wpList_plain rfl (fun Ko hKo => ?_)
     go_simp
     refine hKo _ _ ?_
     clear hKo Ko
     try simp only [Act.put, nm1, nm2, nm3, i64_w]
     refine wpList_nil ?_
     (try simp only [Exit.then, Exit.inBlock, ↓reduceIte, Nat.reduceEqDiff])
     refine hK32 _ _ ?_
     go_roundg k28
     case measure => exact Nat.lt_succ_self _
     case rel => exact ⟨wrap64 (x17 + 1), (x18 ++ [(t38, t39)]), P60, q61, (by first | rfl | simp), (by first | rfl | simp), HL71, ⟨by have := hk29.out; omega⟩, ⟨(((((hu22.out.trans hu46.out).sto (Nat.le_trans ((Nat.le_trans ((Nat.le_trans (hu5.out.size) hu13.out.size)) hz23.out)) lbb44.out) hs48.out).trans hu54.out).trans hu58.out).grow hg65.out (fun k hk => Nat.le_trans (Nat.le_refl _) ((fun k hk => (lb67.out k hk).1) k hk)))⟩, ⟨(Nat.le_trans ((Nat.le_trans ((Nat.le_trans ((Nat.le_trans ((Nat.le_trans ((Nat.le_trans (Nat.le_refl _) hz23.out)) hu46.out.size)) (Nat.le_of_eq hs48.out.size.symm))) hu54.out.size)) hu58.out.size)) hg65.out.size)⟩, h68, h64, ⟨(fun k l hk hl => hat66.out.elim (fun e => hn27.out k l (e.symm.trans hk) hl) (fun g => Nat.ne_of_gt (Nat.lt_of_lt_of_le ((fun k hk => Nat.lt_of_lt_of_le (ht8.lt k hk).2 ((Nat.le_trans ((Nat.le_trans ((Nat.le_trans ((Nat.le_trans ((Nat.le_trans (Nat.le_refl _) hz23.out)) hu46.out.size)) (Nat.le_of_eq hs48.out.size.symm))) hu54.out.size)) hu58.out.size))) l hl) (g k hk))))⟩⟩
    ·
     rw [if_neg c59] at H
     replace c59 := Bool.eq_false_iff.mpr c59
     exact absurd H (by simp)
   ·
    rw [if_neg c55] at H
    replace c55 := Bool.eq_false_iff.mpr c55
    subst c55
    have HL72 := Aside0.mk H
    clear H
    refine wp_seq_k (fun K33 hK33 => ?_)
    refine wp_region_lit ?_
    refine wpList_plain rfl (fun Ko hKo => ?_)
    go_simp
    refine hKo _ _ ?_
    clear hKo Ko
    try simp only [Act.put, nm1, nm2, nm3, i64_w]
    refine wpList_nil ?_
    (try simp only [Exit.then, Exit.inBlock, ↓reduceIte, Nat.reduceEqDiff])
    refine hK33 _ _ ?_
    refine wp_seq_k (fun K34 hK34 => ?_)
    refine wp_cond_true rfl ?_
    refine wp_skip ?_
    (try simp only [Exit.then, Exit.inBlock, ↓reduceIte, Nat.reduceEqDiff])
    refine hK34 _ _ ?_
    refine wp_seq_k (fun K36 hK36 => ?_)
    refine wp_block ?_
    refine wp_seq_k (fun K37 hK37 => ?_)
    refine wp_region_lit ?_
    refine step_index e2 (T := 28) (wanted_none rfl) rfl (by kernel_rfl) (by kernel_rfl) rfl rfl rfl h25.rd A40.out ?_
    intro ad41 hat he
    have he42 := Aside0.mk he
    have hat43 := Aside0.mk hat
    clear he hat
    simp only [Act.put, nm1, nm2, nm3, i64_w]
    have cl0 := he42.out 0 _ rfl
    rw [addr_add0] at cl0
    have cl1 : World.cell? _ ⟨ad41.block, ad41.off + 1, none⟩ = some _ := he42.out 1 _ rfl
    refine wpList_plain rfl (fun Ko hKo => ?_)
    go_simp
    refine hKo _ _ ?_
    clear hKo Ko
    clear cl0 cl1
    try simp only [Act.put, nm1, nm2, nm3, i64_w]
    refine step_new (cs := [.int .i64 0, .int .i64 0]) (T := 28) (f := fun b => .pointer (some ⟨b, 0, none⟩)) rfl (by first | (go_simp; done) | (go_simp; rfl)) ?_
    intro b44 w45 hu lb hb44
    simp only [Act.put, nm1, nm2, nm3, i64_w]
    have lbb44 := Aside0.mk lb
    have ltb44 := Aside0.mk hb44.lt
    clear lb
    have hu46 := Aside0.mk hu
    clear hu
    have hB0 := hb44
    have cl0 := hB0.cell (o := 0) rfl
    have fr0 := hB0.free 0
    have cl1 := hB0.cell (o := 1) rfl
    have fr1 := hB0.free 1
    refine step_store (b := b44) (cs' := [.int .i64 t38, .int .i64 t39]) (T := 28) (W' := ((w45.setCell ⟨b44, 0, none⟩ (.int .i64 t38)).setCell ⟨b44, 1, none⟩ (.int .i64 t39))) rfl rfl (by first | (go_simp; done) | (go_simp; rfl)) (((Sto.refl _ _).setCell 0 _).setCell 1 _) (((hB0).setCell 0 _).setCell 1 _) ?_
    clear hB0 cl0 fr0 cl1 fr1
    intro w47 hs hb49
    have hs48 := Aside0.mk hs
    clear hs
    refine wpList_nil ?_
    (try simp only [Exit.then, Exit.inBlock, ↓reduceIte, Nat.reduceEqDiff])
    refine hK37 _ _ ?_
    refine wp_seq_k (fun K50 hK50 => ?_)
    refine wp_region_lit ?_
    refine wpList_plain rfl (fun Ko hKo => ?_)
    go_simp
    refine hKo _ _ ?_
    clear hKo Ko
    try simp only [Act.put, nm1, nm2, nm3, i64_w]
    have cl0 := hb49.cell (o := 0) rfl
    have cl1 := hb49.cell (o := 1) rfl
    refine wpList_plain rfl (fun Ko hKo => ?_)
    go_simp
    refine hKo _ _ ?_
    clear hKo Ko
    clear cl0 cl1
    try simp only [Act.put, nm1, nm2, nm3, i64_w]
    refine step_call (wanted_none rfl) (by first | (go_simp; done) | (go_simp; rfl)) (impl_fixedPoints_1.calls K t38 t39 bc1_0 c1_0_0 bc1_1 c1_1_0 c1_1_1 c1_1_2 c1_1_3 c1_1_4 c1_1_5 false w47 (hc1_0.up ((hu22.out.trans hu46.out).sto (Nat.le_trans ((Nat.le_trans ((Nat.le_trans (hu5.out.size) hu13.out.size)) hz23.out)) lbb44.out) hs48.out)) (hc1_1.up ((hu22.out.trans hu46.out).sto (Nat.le_trans ((Nat.le_trans ((Nat.le_trans (hu5.out.size) hu13.out.size)) hz23.out)) lbb44.out) hs48.out)) A52.out) ?_
    rintro e w53 ⟨rfl, hu⟩
    have hu54 := Aside0.mk hu
    clear hu
    refine ⟨_, rfl, ?_⟩
    simp only [Act.put, nm1, nm2, nm3, i64_w]
    refine wpList_nil ?_
    (try simp only [Exit.then, Exit.inBlock, ↓reduceIte, Nat.reduceEqDiff])
    refine hK50 _ _ ?_
    refine wp_cond_false rfl ?_
    refine wp_skip ?_
    (try simp only [Exit.then, Exit.inBlock, ↓reduceIte, Nat.reduceEqDiff])
    refine hK36 _ _ ?_
    refine wp_region_lit ?_
    refine wpList_plain rfl (fun Ko hKo => ?_)
    go_simp
    refine hKo _ _ ?_
    clear hKo Ko
    try simp only [Act.put, nm1, nm2, nm3, i64_w]
    refine wpList_plain rfl (fun Ko hKo => ?_)
    go_simp
    refine hKo _ _ ?_
    clear hKo Ko
    try simp only [Act.put, nm1, nm2, nm3, i64_w]
    refine wpList_nil ?_
    (try simp only [Exit.then, Exit.inBlock, ↓reduceIte, Nat.reduceEqDiff])
    refine hK32 _ _ ?_
    go_roundg k28
    case measure => exact Nat.lt_succ_self _
    case rel => exact ⟨wrap64 (x17 + 1), x18, P19, q20, (by first | rfl | simp), (by first | rfl | simp), HL72, ⟨by have := hk29.out; omega⟩, ⟨(((hu22.out.trans hu46.out).sto (Nat.le_trans ((Nat.le_trans ((Nat.le_trans (hu5.out.size) hu13.out.size)) hz23.out)) lbb44.out) hs48.out).trans hu54.out)⟩, ⟨(Nat.le_trans ((Nat.le_trans ((Nat.le_trans ((Nat.le_trans (Nat.le_refl _) hz23.out)) hu46.out.size)) (Nat.le_of_eq hs48.out.size.symm))) hu54.out.size)⟩, (h25.up ((hu46.out.sto (Nat.le_trans (Nat.le_refl _) lbb44.out) hs48.out).trans hu54.out)), (h26.up ((hu46.out.sto (Nat.le_trans (Nat.le_refl _) lbb44.out) hs48.out).trans hu54.out)), ⟨hn27.out⟩⟩
  ·
   rw [if_neg c35] at H
   replace c35 := Bool.eq_false_iff.mpr c35
   obtain rfl := Option.some.inj H
   refine wp_seq_k (fun K33 hK33 => ?_)
   refine wp_region_lit ?_
   refine wpList_plain rfl (fun Ko hKo => ?_)
   go_simp
   refine hKo _ _ ?_
   clear hKo Ko
   try simp only [Act.put, nm1, nm2, nm3, i64_w]
   refine wpList_nil ?_
   (try simp only [Exit.then, Exit.inBlock, ↓reduceIte, Nat.reduceEqDiff])
   refine hK33 _ _ ?_
   refine wp_seq_k (fun K34 hK34 => ?_)
   refine wp_cond_false rfl ?_
   refine wp_exit ?_
   (try simp only [Exit.then, Exit.inBlock, ↓reduceIte, Nat.reduceEqDiff])
   refine hK6 _ _ ?_
   refine wp_seq_k (fun K73 hK73 => ?_)
   refine wp_region_lit ?_
   refine wpList_plain rfl (fun Ko hKo => ?_)
   go_simp
   refine hKo _ _ ?_
   clear hKo Ko
   try simp only [Act.put, nm1, nm2, nm3, i64_w]
   refine wpList_plain rfl (fun Ko hKo => ?_)
   go_simp
   refine hKo _ _ ?_
   clear hKo Ko
   try simp only [Act.put, nm1, nm2, nm3, i64_w]
   refine wpList_nil ?_
   (try simp only [Exit.then, Exit.inBlock, ↓reduceIte, Nat.reduceEqDiff])
   refine hK73 _ _ ?_
   refine wp_ret ?_
   (try simp only [Exit.then, Exit.inBlock, ↓reduceIte, Nat.reduceEqDiff])
   refine hQf _ _ _ ?_
   exact bodyPost_ret (v := .slice P19 x18.length q20) (by first | rfl | (simp [results, Tryd.results34, go_sem]; done) | (simp [results, Tryd.results34, go_sem]; rfl)) rfl ⟨P19, q20, rfl, (h26.lower (Nat.le_refl _)), hu22.out⟩

set_option maxHeartbeats 4000000 in
set_option maxRecDepth 100000 in
theorem impl_fixedPoints.calls (K : Nat) (a0 : Int) (a1_0 : Int) (a1_1 : Int) (a1_2 : Int) (a1_3 : Int) (a1_4 : Int) (a1_5 : Int) (r0 : List (Int × Int)) (w : World)  (h : impl_fixedPoints.f K a0 a1_0 a1_1 a1_2 a1_3 a1_4 a1_5 = some (r0)) :
    Calls Tryd.prog 19 #[.int .i64 a0, .agg #[.int .i64 a1_0, .int .i64 a1_1, .int .i64 a1_2, .int .i64 a1_3, .int .i64 a1_4, .int .i64 a1_5]] w fun e w' => ∃ (Ar0 : Option Addr) (cr0 : Nat), e = .returned (.slice Ar0 r0.length cr0) ∧ Own e2 28 w' w.heap.size (.slice Ar0 r0.length cr0) r0 ∧ Up w w' := by
 have H : (((impl_pointsWith__impl_fixedPoints_1.f K a0 a0 a1_0 a1_1 a1_2 a1_3 a1_4 a1_5).bind fun t9 => some t9) : Option (List (Int × Int))) = some (r0) := h
 clear h
 replace H := Option.bind_eq_some_iff.mp H
 obtain ⟨t9, A12, H⟩ := H
 replace A12 := Aside0.mk A12
 try dsimp only at H
 obtain rfl := Option.some.inj H
 go_enter Tryd.func19, Tryd.ntmps19
 refine wp_hide (fun Qf hQf => ?_)
 refine wp_seq_k (fun K1 hK1 => ?_)
 refine wp_region_lit ?_
 refine step_new (cs := [.int .i64 a0]) (T := 2) (f := fun b => .pointer (some ⟨b, 0, none⟩)) rfl (by first | (go_simp; done) | (go_simp; rfl)) ?_
 intro b2 w3 hu lb hb2
 simp only [Act.put, nm1, nm2, nm3, i64_w]
 have lbb2 := Aside0.mk lb
 have ltb2 := Aside0.mk hb2.lt
 clear lb
 have hu4 := Aside0.mk hu
 clear hu
 refine step_new (cs := [.int .i64 a1_0, .int .i64 a1_1, .int .i64 a1_2, .int .i64 a1_3, .int .i64 a1_4, .int .i64 a1_5]) (T := 30) (f := fun b => .pointer (some ⟨b, 0, none⟩)) rfl (by first | (go_simp; done) | (go_simp; rfl)) ?_
 intro b5 w6 hu lb hb5
 simp only [Act.put, nm1, nm2, nm3, i64_w]
 have lbb5 := Aside0.mk lb
 have ltb5 := Aside0.mk hb5.lt
 clear lb
 have hu7 := Aside0.mk hu
 clear hu
 refine wpList_plain rfl (fun Ko hKo => ?_)
 go_simp
 refine hKo _ _ ?_
 clear hKo Ko
 try simp only [Act.put, nm1, nm2, nm3, i64_w]
 refine wpList_nil ?_
 (try simp only [Exit.then, Exit.inBlock, ↓reduceIte, Nat.reduceEqDiff])
 refine hK1 _ _ ?_
 refine wp_seq_k (fun K8 hK8 => ?_)
 refine wp_region_lit ?_
 have cl0 := (hb2.up hu7.out).cell (o := 0) rfl
 refine wpList_plain rfl (fun Ko hKo => ?_)
 go_simp
 refine hKo _ _ ?_
 clear hKo Ko
 clear cl0
 try simp only [Act.put, nm1, nm2, nm3, i64_w]
 refine wpList_plain rfl (fun Ko hKo => ?_)
 go_simp
 refine hKo _ _ ?_
 clear hKo Ko
 try simp only [Act.put, nm1, nm2, nm3, i64_w]
 refine step_call (wanted_none rfl) (by first | (go_simp; done) | (go_simp; rfl)) (impl_pointsWith__impl_fixedPoints_1.calls K a0 b2 a0 b5 a1_0 a1_1 a1_2 a1_3 a1_4 a1_5 t9 w6 (hb2.up hu7.out) hb5 A12.out) ?_
 rintro e w13 ⟨P10, q11, rfl, ht9, hu⟩
 have hu14 := Aside0.mk hu
 clear hu
 refine ⟨_, rfl, ?_⟩
 simp only [Act.put, nm1, nm2, nm3, i64_w]
 refine wpList_plain rfl (fun Ko hKo => ?_)
 go_simp
 refine hKo _ _ ?_
 clear hKo Ko
 try simp only [Act.put, nm1, nm2, nm3, i64_w]
 refine wpList_nil ?_
 (try simp only [Exit.then, Exit.inBlock, ↓reduceIte, Nat.reduceEqDiff])
 refine hK8 _ _ ?_
 refine wp_ret ?_
 (try simp only [Exit.then, Exit.inBlock, ↓reduceIte, Nat.reduceEqDiff])
 refine hQf _ _ _ ?_
 exact bodyPost_ret (v := .slice P10 t9.length q11) (by first | rfl | (simp [results, Tryd.results19, go_sem]; done) | (simp [results, Tryd.results19, go_sem]; rfl)) rfl ⟨P10, q11, rfl, (ht9.lower ((Nat.le_trans (hu4.out.size) hu7.out.size))), ((hu4.out.trans hu7.out).trans hu14.out)⟩

set_option maxHeartbeats 4000000 in
set_option maxRecDepth 100000 in
theorem impl_sign.calls (K : Nat) (a0 : Int) (a1_0 : Int) (a1_1 : Int) (a1_2 : Int) (a1_3 : Int) (r0 : Int) (w : World)  (h : impl_sign.f K a0 a1_0 a1_1 a1_2 a1_3 = some (r0)) :
    Calls Tryd.prog 20 #[.int .i64 a0, .agg #[.int .i64 a1_0, .int .i64 a1_1, .int .i64 a1_2, .int .i64 a1_3]] w fun e w' => e = .returned (.int .i64 r0) ∧ Up w w' := by
 have H : (((impl_rest.f K a0 (wrap64 ((wrap64 (a1_0 * a1_3)) - (wrap64 (a1_1 * a1_2))))).bind fun t6 => some t6) : Option (Int)) = some (r0) := h
 clear h
 replace H := Option.bind_eq_some_iff.mp H
 obtain ⟨t6, A7, H⟩ := H
 replace A7 := Aside0.mk A7
 try dsimp only at H
 obtain rfl := Option.some.inj H
 go_enter Tryd.func20, Tryd.ntmps20
 refine wp_hide (fun Qf hQf => ?_)
 refine wp_seq_k (fun K1 hK1 => ?_)
 refine wp_region_lit ?_
 refine step_new (cs := [.int .i64 a1_0, .int .i64 a1_1, .int .i64 a1_2, .int .i64 a1_3]) (T := 22) (f := fun b => .pointer (some ⟨b, 0, none⟩)) rfl (by first | (go_simp; done) | (go_simp; rfl)) ?_
 intro b2 w3 hu lb hb2
 simp only [Act.put, nm1, nm2, nm3, i64_w]
 have lbb2 := Aside0.mk lb
 have ltb2 := Aside0.mk hb2.lt
 clear lb
 have hu4 := Aside0.mk hu
 clear hu
 refine wpList_plain rfl (fun Ko hKo => ?_)
 go_simp
 refine hKo _ _ ?_
 clear hKo Ko
 try simp only [Act.put, nm1, nm2, nm3, i64_w]
 refine wpList_nil ?_
 (try simp only [Exit.then, Exit.inBlock, ↓reduceIte, Nat.reduceEqDiff])
 refine hK1 _ _ ?_
 refine wp_seq_k (fun K5 hK5 => ?_)
 refine wp_region_lit ?_
 refine wpList_plain rfl (fun Ko hKo => ?_)
 go_simp
 refine hKo _ _ ?_
 clear hKo Ko
 try simp only [Act.put, nm1, nm2, nm3, i64_w]
 refine wpList_plain rfl (fun Ko hKo => ?_)
 go_simp
 refine hKo _ _ ?_
 clear hKo Ko
 try simp only [Act.put, nm1, nm2, nm3, i64_w]
 have cl0 := hb2.cell (o := 0) rfl
 refine wpList_plain rfl (fun Ko hKo => ?_)
 go_simp
 refine hKo _ _ ?_
 clear hKo Ko
 clear cl0
 try simp only [Act.put, nm1, nm2, nm3, i64_w]
 refine wpList_plain rfl (fun Ko hKo => ?_)
 go_simp
 refine hKo _ _ ?_
 clear hKo Ko
 try simp only [Act.put, nm1, nm2, nm3, i64_w]
 have cl0 := hb2.cell (o := 3) rfl
 refine wpList_plain rfl (fun Ko hKo => ?_)
 go_simp
 refine hKo _ _ ?_
 clear hKo Ko
 clear cl0
 try simp only [Act.put, nm1, nm2, nm3, i64_w]
 refine wpList_plain rfl (fun Ko hKo => ?_)
 go_simp
 refine hKo _ _ ?_
 clear hKo Ko
 try simp only [Act.put, nm1, nm2, nm3, i64_w]
 refine wpList_plain rfl (fun Ko hKo => ?_)
 go_simp
 refine hKo _ _ ?_
 clear hKo Ko
 try simp only [Act.put, nm1, nm2, nm3, i64_w]
 have cl0 := hb2.cell (o := 1) rfl
 refine wpList_plain rfl (fun Ko hKo => ?_)
 go_simp
 refine hKo _ _ ?_
 clear hKo Ko
 clear cl0
 try simp only [Act.put, nm1, nm2, nm3, i64_w]
 refine wpList_plain rfl (fun Ko hKo => ?_)
 go_simp
 refine hKo _ _ ?_
 clear hKo Ko
 try simp only [Act.put, nm1, nm2, nm3, i64_w]
 have cl0 := hb2.cell (o := 2) rfl
 refine wpList_plain rfl (fun Ko hKo => ?_)
 go_simp
 refine hKo _ _ ?_
 clear hKo Ko
 clear cl0
 try simp only [Act.put, nm1, nm2, nm3, i64_w]
 refine wpList_plain rfl (fun Ko hKo => ?_)
 go_simp
 refine hKo _ _ ?_
 clear hKo Ko
 try simp only [Act.put, nm1, nm2, nm3, i64_w]
 refine wpList_plain rfl (fun Ko hKo => ?_)
 go_simp
 refine hKo _ _ ?_
 clear hKo Ko
 try simp only [Act.put, nm1, nm2, nm3, i64_w]
 refine step_call (wanted_none rfl) (by first | (go_simp; done) | (go_simp; rfl)) (impl_rest.calls K a0 (wrap64 ((wrap64 (a1_0 * a1_3)) - (wrap64 (a1_1 * a1_2)))) t6 w3  A7.out) ?_
 rintro e w8 ⟨rfl, hu⟩
 have hu9 := Aside0.mk hu
 clear hu
 refine ⟨_, rfl, ?_⟩
 simp only [Act.put, nm1, nm2, nm3, i64_w]
 refine wpList_plain rfl (fun Ko hKo => ?_)
 go_simp
 refine hKo _ _ ?_
 clear hKo Ko
 try simp only [Act.put, nm1, nm2, nm3, i64_w]
 refine wpList_nil ?_
 (try simp only [Exit.then, Exit.inBlock, ↓reduceIte, Nat.reduceEqDiff])
 refine hK5 _ _ ?_
 refine wp_ret ?_
 (try simp only [Exit.then, Exit.inBlock, ↓reduceIte, Nat.reduceEqDiff])
 refine hQf _ _ _ ?_
 exact bodyPost_ret (v := .int .i64 t6) (by first | rfl | (simp [results, Tryd.results20, go_sem]; done) | (simp [results, Tryd.results20, go_sem]; rfl)) rfl ⟨rfl, (hu4.out.trans hu9.out)⟩

end Go.Proofs.YtbibgeoohpgaeaaDoor
