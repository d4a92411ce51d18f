/- The walks: each of these functions of the program computes what its plain function says: impl_perpendicular, impl_tangent, impl_TangentAt, spec_l01Field, spec_l01Point, spec_l01Code, spec_l02Code, spec_l06Is, spec_l06Code, spec_l06Given, spec_l06Power, spec_l01Inverse, spec_l01Normal, spec_l02Through, spec_l06Tangent, spec_TangentAt, spec_l01Area, spec_l04DrawOf, spec_l01Plus, spec_l01Times, spec_l01Middle, spec_l04Draw, spec_DrawQuadreaOf, spec_DrawCircleThrough, impl_arePoints, impl_triangle_1, impl_asked__impl_triangle_1, impl_area, impl_triangle, impl_allPoints. -/
import Derived.Test.YtccbmdpikalpfaaGreatProg
import Derived.Test.YtccbmdpikalpfaaGreatD1
import Derived.WalkKit
import Derived.KernelRfl
import Derived.BigQuiet
import Derived.Deep.LoopGhost
import Derived.Laws.StructEq
import Derived.Test.YtccbmdpikalpfaaGreatWC1
namespace Go.Proofs.YtccbmdpikalpfaaGreat
open Go Go.RowKit
attribute [local go_sem] Oper.quiet Oper.quietAt Oper.quietUpon Act.put nm1 nm2 nm3 i64_w run_max2 run_min2 mkT_getD mkT_get mkT_set lookT_cons lookT_nil
attribute [local irreducible] wpList
set_option linter.unusedVariables false
set_option linter.unusedSimpArgs false
attribute [local go_sem] eqT25
attribute [local go_sem] eqT31
attribute [local go_sem] eqT27
attribute [local go_sem] eqR27

set_option maxHeartbeats 40000000 in
set_option maxRecDepth 100000 in
theorem impl_perpendicular.calls (K : Nat) (a0 : Int) (a1 : Int) (a2_0 : Int) (a2_1 : Int) (a2_2 : Int) (a3_0 : Int) (a3_1 : Int) (r0 : Int) (r1 : Int) (r2 : Int) (w : World)  (h : impl_perpendicular.f K a0 a1 a2_0 a2_1 a2_2 a3_0 a3_1 = some (r0, r1, r2)) :
    Calls Tryz.prog 85 #[.int .i64 a0, .int .i64 a1, .agg #[.int .i64 a2_0, .int .i64 a2_1, .int .i64 a2_2], .agg #[.int .i64 a3_0, .int .i64 a3_1]] w fun e w' => e = .returned (.agg #[.int .i64 r0, .int .i64 r1, .int .i64 r2]) ∧ Up w w' := by
 have H : (((impl_linesThrough.f K a0 a3_0 a3_1).bind fun t13 => (impl_perpendicular.l0 K a0 a1 a2_0 a2_1 a2_2 t13 K 0 0 0 0)) : Option (Int × Int × Int)) = some (r0, r1, r2) := h
 clear h
 obtain ⟨t13,A16,H⟩:=bnd H;try dsimp only at H
 go_enter Tryz.func85, Tryz.ntmps85
 refine wp_hide (fun Qf hQf => ?_)
 refine wsr fun _ hK1=>?_
 refine stp (cs := [.int .i64 a2_0, .int .i64 a2_1, .int .i64 a2_2]) (T := 31) ?_
 intro b2 w3 hu4 lbb2 ltb2 hb2
 simp only[nm]
 refine stp (cs := [.int .i64 a3_0, .int .i64 a3_1]) (T := 25) ?_
 intro b5 w6 hu7 lbb5 ltb5 hb5
 simp only[nm]
 refine stp (cs := [.int .i64 0, .int .i64 0, .int .i64 0]) (T := 31) ?_
 intro b8 w9 hu10 lbb8 ltb8 hb8
 simp only[nm]
 refine wln (hK1 _ _ ?_)
 refine wp_seq_k fun K11 hK11=>?_
 refine wsr fun _ hK12=>?_
 refine wpp fun k h=>?_;go_simp;apply h;clear h k
 have cl0 := (hb5.up hu10.out).cell (o := 0) rfl
 have cl1 := (hb5.up hu10.out).cell (o := 1) rfl
 refine wpp fun k h=>?_;go_simp;apply h;clear h k
 clear cl0 cl1
 refine step_call wn (by go_simp <;> rfl) (impl_linesThrough.calls K a0 a3_0 a3_1 t13 w9  A16.out) ?_
 rintro e w17 ⟨P14, q15, rfl, ht13, hu⟩
 have hu18 := Aside0.mk hu
 clear hu
 refine ⟨_, rfl, ?_⟩
 simp only[nm]
 iterate 2 (refine wpp fun k h=>?_;go_simp;apply h;clear h k)
 refine wln (hK12 _ _ ?_)
 refine wp_block ?_
 have HL26 := Aside0.mk H
 clear H
 go_loopg [15] K (fun kq v15 w' => ∃ (x19 : Int) (x20 : Int) (x21 : Int) (x22 : Int), v15 = .int .i64 x19 ∧ Aside0 (impl_perpendicular.l0 K a0 a1 a2_0 a2_1 a2_2 t13 kq x19 x20 x21 x22 = some (r0, r1, r2)) ∧ Aside0 (kq ≤ K) ∧ Aside0 (Up w6 w') ∧ Aside0 (w17.heap.size ≤ w'.heap.size) ∧ Blk w' b8 [.int .i64 x20, .int .i64 x21, .int .i64 x22] 31 ∧ Own e3 31 w' w9.heap.size (.slice P14 t13.length q15) t13)
 case atStart => exact ⟨0, 0, 0, 0, (by first | rfl | simp), HL26, ⟨Nat.le_refl _⟩, ⟨(hu10.out.trans hu18.out)⟩, ⟨Nat.le_refl _⟩, (hb8.up hu18.out), ht13⟩
 case round =>
  rename_i J31 K32 hJ31 hK32
  obtain ⟨x19, x20, x21, x22, rfl, HL33, hk30, hu24, hz25, h27, h28⟩ := hrel
  obtain ⟨w23, rfl⟩ : ∃ wo : World, wo = wr := ⟨_, rfl⟩
  obtain ⟨k29, rfl⟩ | rfl : (∃ k, gk = k + 1) ∨ gk = 0 := by rcases gk with _ | k; exact .inr rfl; exact .inl ⟨k, rfl⟩
  case inr => exact absurd HL33.out (by simp [impl_perpendicular.l0])
  have H := HL33.out
  clear HL33
  rw [impl_perpendicular.l0] at H
  refine wsr fun _ hK34=>?_
  refine wpp fun k h=>?_;go_simp;apply h;clear h k
  refine wln (hK34 _ _ ?_)
  refine wp_seq_k fun K35 hK35=>?_
  have hm37 := Aside0.mk ((hu4.out.trans hu7.out).trans hu24.out)
  by_cases c36 : (decide (x19 < (t13.length : Int))) = true
  rotate_left
  ·
   rw [if_neg c36] at H; replace c36 := Bool.eq_false_iff.mpr c36
   simp only [Option.some.injEq, Prod.mk.injEq] at H
   obtain ⟨rfl, rfl, rfl⟩ := H
   try simp only [c36, Bool.not_true, Bool.not_false]
   refine wp_cond_false rfl ?_
   refine wp_exit ?_
   refine hK11 _ _ ?_
   refine wsr fun _ hK68=>?_
   refine wpp fun k h=>?_;go_simp;apply h;clear h k
   refine stw [.int .i64 0, .int .i64 0, .int .i64 0] h27 rfl rfl rfl rfl rfl (by kernel_rfl) rfl rfl ?_
   intro w69 hs70 hb71
   refine wln (hK68 _ _ ?_)
   refine wp_ret ?_
   refine hQf _ _ _ ?_
   have cr0 := hb71.cell (o := 0) rfl
   have cr1 := hb71.cell (o := 1) rfl
   have cr2 := hb71.cell (o := 2) rfl
   exact bodyPost_ret (v := .agg #[.int .i64 0, .int .i64 0, .int .i64 0]) (by first|rfl|simp [results, Tryz.results85, go_sem, cr0, cr1, cr2]<;>rfl) rfl ⟨rfl, (hm37.out.sto (Nat.le_trans ((Nat.le_trans (hu4.out.size) hu7.out.size)) lbb8.out) hs70.out)⟩
  rw [if_pos c36] at H
  obtain ⟨⟨t40, t41, t42⟩,A43,H⟩:=bnd H;try dsimp only at H
  obtain ⟨t54,A55,H⟩:=bnd H;try dsimp only at H
  try simp only [c36, Bool.not_true, Bool.not_false]
  refine wp_cond_true rfl ?_
  refine wp_skip ?_
  refine hK35 _ _ ?_
  refine wp_seq_k fun K38 hK38=>?_
  refine wp_block ?_
  refine wsr fun _ hK39=>?_
  refine step_index e3 (T := 31) wn rfl (by kernel_rfl) (by kernel_rfl) rfl rfl rfl h28.rd A43.out ?_
  intro ad44 hat he
  have he45 := Aside0.mk he
  have hat46 := Aside0.mk hat
  clear he hat
  simp only[nm]
  have cl0 := he45.out 0 _ rfl
  rw [addr_add0] at cl0
  have cl1 : World.cell? _ ⟨ad44.block, ad44.off + 1, none⟩ = some _ := he45.out 1 _ rfl
  have cl2 : World.cell? _ ⟨ad44.block, ad44.off + 2, none⟩ = some _ := he45.out 2 _ rfl
  refine wpp fun k h=>?_;go_simp;apply h;clear h k
  clear cl0 cl1 cl2
  refine stp (cs := [.int .i64 0, .int .i64 0, .int .i64 0]) (T := 31) ?_
  intro b47 w48 hu49 lbb47 ltb47 hb47
  simp only[nm]
  refine stw [.int .i64 t40, .int .i64 t41, .int .i64 t42] hb47 rfl rfl rfl rfl rfl (by kernel_rfl) rfl rfl ?_
  intro w50 hs51 hb52
  refine wln (hK39 _ _ ?_)
  refine wsr fun _ hK53=>?_
  iterate 2 (refine wpp fun k h=>?_;go_simp;apply h;clear h k)
  have cl0 := (hb2.up (((hu7.out.trans hu24.out).trans hu49.out).sto (Nat.le_trans ((Nat.le_trans ((Nat.le_trans ((Nat.le_trans (hu7.out.size) hu10.out.size)) hu18.out.size)) hz25.out)) lbb47.out) hs51.out)).cell (o := 0) rfl
  have cl1 := (hb2.up (((hu7.out.trans hu24.out).trans hu49.out).sto (Nat.le_trans ((Nat.le_trans ((Nat.le_trans ((Nat.le_trans (hu7.out.size) hu10.out.size)) hu18.out.size)) hz25.out)) lbb47.out) hs51.out)).cell (o := 1) rfl
  have cl2 := (hb2.up (((hu7.out.trans hu24.out).trans hu49.out).sto (Nat.le_trans ((Nat.le_trans ((Nat.le_trans ((Nat.le_trans (hu7.out.size) hu10.out.size)) hu18.out.size)) hz25.out)) lbb47.out) hs51.out)).cell (o := 2) rfl
  refine wpp fun k h=>?_;go_simp;apply h;clear h k
  clear cl0 cl1 cl2
  have cl0 := hb52.cell (o := 0) rfl
  have cl1 := hb52.cell (o := 1) rfl
  have cl2 := hb52.cell (o := 2) rfl
  refine wpp fun k h=>?_;go_simp;apply h;clear h k
  clear cl0 cl1 cl2
  refine stc (impl_arePerpendicular.calls K a0 a1 a2_0 a2_1 a2_2 t40 t41 t42 t54 w50  A55.out) ?_
  intro w56 hu57
  simp only[nm]
  refine wln (hK53 _ _ ?_)
  have hm59 := Aside0.mk ((hu49.out.sto (Nat.le_trans (Nat.le_refl _) lbb47.out) hs51.out).trans hu57.out)
  by_cases c58 : (t54) = true
  rotate_left
  ·
   rw [if_neg c58] at H; replace c58 := Bool.eq_false_iff.mpr c58
   subst c58
   have HL67 := Aside0.mk H
   clear H
   refine wp_cond_false rfl ?_
   refine wp_skip ?_
   refine hK38 _ _ ?_
   refine wp_region_lit ?_
   iterate 2 (refine wpp fun k h=>?_;go_simp;apply h;clear h k)
   refine wln (hK32 _ _ ?_)
   go_roundg k29
   case measure => exact Nat.lt_succ_self _
   case rel => exact ⟨wrap64 (x19 + 1), x20, x21, x22, (by first | rfl | simp), HL67, ⟨by have := hk30.out; omega⟩, ⟨(hu24.out.trans hm59.out)⟩, ⟨(Nat.le_trans ((Nat.le_trans (Nat.le_refl _) hz25.out)) hm59.out.size)⟩, (h27.up hm59.out), (h28.up hm59.out)⟩
  rw [if_pos c58] at H
  subst c58
  simp only [Option.some.injEq, Prod.mk.injEq] at H
  obtain ⟨rfl, rfl, rfl⟩ := H
  refine wp_cond_true rfl ?_
  refine wsr fun _ hK61=>?_
  have cl0 := (hb52.up hu57.out).cell (o := 0) rfl
  have cl1 := (hb52.up hu57.out).cell (o := 1) rfl
  have cl2 := (hb52.up hu57.out).cell (o := 2) rfl
  refine wpp fun k h=>?_;go_simp;apply h;clear h k
  clear cl0 cl1 cl2
  refine stw [.int .i64 t40, .int .i64 t41, .int .i64 t42] (h27.up hm59.out) rfl rfl rfl rfl rfl (by kernel_rfl) rfl rfl ?_
  intro w62 hs63 hb64
  refine wln (hK61 _ _ ?_)
  refine wp_ret ?_
  refine hQf _ _ _ ?_
  have cr0 := hb64.cell (o := 0) rfl
  have cr1 := hb64.cell (o := 1) rfl
  have cr2 := hb64.cell (o := 2) rfl
  exact bodyPost_ret (v := .agg #[.int .i64 t40, .int .i64 t41, .int .i64 t42]) (by first|rfl|simp [results, Tryz.results85, go_sem, cr0, cr1, cr2]<;>rfl) rfl ⟨rfl, ((hm37.out.trans hm59.out).sto (Nat.le_trans ((Nat.le_trans (hu4.out.size) hu7.out.size)) lbb8.out) hs63.out)⟩

set_option maxHeartbeats 40000000 in
set_option maxRecDepth 100000 in
theorem impl_tangent.calls (K : Nat) (a0 : Int) (a1 : Int) (a2_0 : Int) (a2_1 : Int) (a2_2 : Int) (a3_0 : Int) (a3_1 : Int) (r0 : Int) (r1 : Int) (r2 : Int) (w : World)  (h : impl_tangent.f K a0 a1 a2_0 a2_1 a2_2 a3_0 a3_1 = some (r0, r1, r2)) :
    Calls Tryz.prog 32 #[.int .i64 a0, .int .i64 a1, .agg #[.int .i64 a2_0, .int .i64 a2_1, .int .i64 a2_2], .agg #[.int .i64 a3_0, .int .i64 a3_1]] w fun e w' => e = .returned (.agg #[.int .i64 r0, .int .i64 r1, .int .i64 r2]) ∧ Up w w' := by
 have H : (((impl_lineThrough.f K a0 a2_0 a2_1 a3_0 a3_1).bind fun (t12, t13, t14) => ((impl_perpendicular.f K a0 a1 t12 t13 t14 a3_0 a3_1).bind fun (t16, t17, t18) => some (t16, t17, t18))) : Option (Int × Int × Int)) = some (r0, r1, r2) := h
 clear h
 obtain ⟨⟨t12, t13, t14⟩,A15,H⟩:=bnd H;try dsimp only at H
 obtain ⟨⟨t16, t17, t18⟩,A19,H⟩:=bnd H;try dsimp only at H
 simp only [Option.some.injEq, Prod.mk.injEq] at H
 obtain ⟨rfl, rfl, rfl⟩ := H
 go_enter Tryz.func32, Tryz.ntmps32
 refine wp_hide (fun Qf hQf => ?_)
 refine wsr fun _ hK1=>?_
 refine stp (cs := [.int .i64 a2_0, .int .i64 a2_1, .int .i64 a2_2]) (T := 27) ?_
 intro b2 w3 hu4 lbb2 ltb2 hb2
 simp only[nm]
 refine stp (cs := [.int .i64 a3_0, .int .i64 a3_1]) (T := 25) ?_
 intro b5 w6 hu7 lbb5 ltb5 hb5
 simp only[nm]
 refine stp (cs := [.int .i64 0, .int .i64 0, .int .i64 0]) (T := 31) ?_
 intro b8 w9 hu10 lbb8 ltb8 hb8
 simp only[nm]
 refine wln (hK1 _ _ ?_)
 refine wp_seq_k fun K11 hK11=>?_
 refine' wp_region_up 9 [Slot.det _, Slot.det _, Slot.det _, Slot.det _, Slot.det _, Slot.det _, Slot.det (.agg #[.int .i64 t12, .int .i64 t13, .int .i64 t14]), Slot.det _, Slot.det (.agg #[.int .i64 t16, .int .i64 t17, .int .i64 t18])] (by kernel_rfl) (by kernel_rfl) ?main
 case main =>
  simp only [List.take_succ_cons, List.take_zero]
  refine wpK_ops rfl (fun w1 hu => ?_) ?_
  · clear hu
    go_simp
    first | done | rfl
  simp only[nm]
  refine wpK_ops rfl (fun w1 hu => ?_) ?_
  · clear hu
    go_simp
    first | done | rfl
  simp only[nm]
  refine wpK_ops rfl (fun w1 hu => ?_) ?_
  · clear hu
    go_simp
    first | done | rfl
  simp only[nm]
  refine wpK_ops rfl (fun w1 hu => ?_) ?_
  · clear hu
    go_simp
    first | done | rfl
  simp only[nm]
  refine wpK_ops rfl (fun w1 hu => ?_) ?_
  · have cl0 := ((hb2.up (hu7.out.trans hu10.out)).up ((Up.refl _).drew.trans hu)).cell (o := 0) rfl
    have cl1 := ((hb2.up (hu7.out.trans hu10.out)).up ((Up.refl _).drew.trans hu)).cell (o := 1) rfl
    go_simp
    first | done | rfl
  simp only[nm]
  refine wpK_ops rfl (fun w1 hu => ?_) ?_
  · have cl0 := ((hb5.up hu10.out).up ((Up.refl _).drew.trans hu)).cell (o := 0) rfl
    have cl1 := ((hb5.up hu10.out).up ((Up.refl _).drew.trans hu)).cell (o := 1) rfl
    go_simp
    first | done | rfl
  simp only[nm]
  refine wpK_ops rfl (fun w1 hu => ?_) ?_
  · have hcl := (impl_lineThrough.calls K a0 a2_0 a2_1 a3_0 a3_1 t12 t13 t14 w1  A15.out)
    clear hu
    replace hcl := Aside0.mk hcl
    go_simp
    exact hcl.out
  simp only[nm]
  refine wpK_ops rfl (fun w1 hu => ?_) ?_
  · have cl0 := ((hb5.up hu10.out).up ((Up.refl _).drew.trans hu)).cell (o := 0) rfl
    have cl1 := ((hb5.up hu10.out).up ((Up.refl _).drew.trans hu)).cell (o := 1) rfl
    go_simp
    first | done | rfl
  simp only[nm]
  refine wpK_ops rfl (fun w1 hu => ?_) ?_
  · have hcl := (impl_perpendicular.calls K a0 a1 t12 t13 t14 a3_0 a3_1 t16 t17 t18 w1  A19.out)
    clear hu
    replace hcl := Aside0.mk hcl
    go_simp
    exact hcl.out
  simp only[nm]
  refine wpK_nil ?_
  intro w20 hu hap
  simp only [List.drop_succ_cons, List.drop_zero]
  replace hu := (Up.refl _).drew.trans hu
  clear hap
  have hu21 := Aside0.mk hu
  clear hu
  refine stw [.int .i64 t16, .int .i64 t17, .int .i64 t18] (hb8.up hu21.out) rfl rfl rfl rfl rfl (by kernel_rfl) rfl rfl ?_
  intro w22 hs23 hb24
  refine wln (hK11 _ _ ?_)
  refine wp_ret ?_
  refine hQf _ _ _ ?_
  have cr0 := hb24.cell (o := 0) rfl
  have cr1 := hb24.cell (o := 1) rfl
  have cr2 := hb24.cell (o := 2) rfl
  exact bodyPost_ret (v := .agg #[.int .i64 t16, .int .i64 t17, .int .i64 t18]) (by first|rfl|simp [results, Tryz.results32, go_sem, cr0, cr1, cr2]<;>rfl) rfl ⟨rfl, ((((hu4.out.trans hu7.out).trans hu10.out).trans hu21.out).sto (Nat.le_trans ((Nat.le_trans (hu4.out.size) hu7.out.size)) lbb8.out) hs23.out)⟩

set_option maxHeartbeats 40000000 in
set_option maxRecDepth 100000 in
theorem impl_TangentAt.calls (K : Nat) (a0 : Int) (a1 : Int) (a2_0 : Int) (a2_1 : Int) (a2_2 : Int) (a3_0 : Int) (a3_1 : Int) (r0 : Int) (r1 : Int) (r2 : Int) (r3 : Int) (w : World)  (h : impl_TangentAt.f K a0 a1 a2_0 a2_1 a2_2 a3_0 a3_1 = some (r0, r1, r2, r3)) :
    Calls Tryz.prog 6 #[.int .i64 a0, .int .i64 a1, .agg #[.int .i64 a2_0, .int .i64 a2_1, .int .i64 a2_2], .agg #[.int .i64 a3_0, .int .i64 a3_1]] w fun e w' => e = .returned (.tuple #[.agg #[.int .i64 r0, .int .i64 r1, .int .i64 r2], .int .i64 r3]) ∧ Up w w' := by
 have H : (((impl_asked__impl_TangentAt_1.f K a0 a1 a0 a2_0 a2_1 a2_2 a3_0 a3_1).bind fun t19 => (if (t19 == 0) = true then ((impl_power.f K a0 a1 a2_0 a2_1 a2_2 a3_0 a3_1).bind fun t30 => (if (t30 == 0) = true then (if (a3_0 == a2_0 && a3_1 == a2_1) = true then some (0, 0, 0, 5) else ((impl_tangent.f K a0 a1 a2_0 a2_1 a2_2 a3_0 a3_1).bind fun (t45, t46, t47) => some (t45, t46, t47, 0))) else some (0, 0, 0, 5))) else some (0, 0, 0, t19))) : Option (Int × Int × Int × Int)) = some (r0, r1, r2, r3) := h
 clear h
 obtain ⟨t19,A20,H⟩:=bnd H;try dsimp only at H
 go_enter Tryz.func6, Tryz.ntmps6
 refine wp_hide (fun Qf hQf => ?_)
 refine wsr fun _ hK1=>?_
 refine stp (cs := [.int .i64 a0]) (T := 2) ?_
 intro b2 w3 hu4 lbb2 ltb2 hb2
 simp only[nm]
 refine stp (cs := [.int .i64 a1]) (T := 2) ?_
 intro b5 w6 hu7 lbb5 ltb5 hb5
 simp only[nm]
 refine stp (cs := [.int .i64 a2_0, .int .i64 a2_1, .int .i64 a2_2]) (T := 27) ?_
 intro b8 w9 hu10 lbb8 ltb8 hb8
 simp only[nm]
 refine stp (cs := [.int .i64 a3_0, .int .i64 a3_1]) (T := 25) ?_
 intro b11 w12 hu13 lbb11 ltb11 hb11
 simp only[nm]
 refine stp (cs := [.int .i64 0, .int .i64 0, .int .i64 0]) (T := 31) ?_
 intro b14 w15 hu16 lbb14 ltb14 hb14
 simp only[nm]
 refine wpp fun k h=>?_;go_simp;apply h;clear h k
 refine wln (hK1 _ _ ?_)
 refine wp_seq_k fun K17 hK17=>?_
 refine wsr fun _ hK18=>?_
 have cl0 := (hb2.up (((hu7.out.trans hu10.out).trans hu13.out).trans hu16.out)).cell (o := 0) rfl
 refine wpp fun k h=>?_;go_simp;apply h;clear h k
 clear cl0
 refine wpp fun k h=>?_;go_simp;apply h;clear h k
 refine stc (impl_asked__impl_TangentAt_1.calls K a0 b5 a1 b2 a0 b8 a2_0 a2_1 a2_2 b11 a3_0 a3_1 t19 w15 (hb5.up ((hu10.out.trans hu13.out).trans hu16.out)) (hb2.up (((hu7.out.trans hu10.out).trans hu13.out).trans hu16.out)) (hb8.up (hu13.out.trans hu16.out)) (hb11.up hu16.out) A20.out) ?_
 intro w21 hu22
 simp only[nm]
 refine wpp fun k h=>?_;go_simp;apply h;clear h k
 refine wln (hK18 _ _ ?_)
 refine wsr fun _ hK23=>?_
 iterate 2 (refine wpp fun k h=>?_;go_simp;apply h;clear h k)
 refine wln (hK23 _ _ ?_)
 have hm25 := Aside0.mk (((((hu4.out.trans hu7.out).trans hu10.out).trans hu13.out).trans hu16.out).trans hu22.out)
 have h26 := (hb2.up ((((hu7.out.trans hu10.out).trans hu13.out).trans hu16.out).trans hu22.out))
 have h27 := (hb5.up (((hu10.out.trans hu13.out).trans hu16.out).trans hu22.out))
 by_cases c24 : (t19 == 0) = true
 rotate_left
 ·
  rw [if_neg c24] at H; replace c24 := Bool.eq_false_iff.mpr c24
  have c24n : (t19 != 0) = true := by rw [bne, c24]; rfl
  have c24p : ¬ t19 = 0 := fun e => by simp [e] at c24
  simp only [Option.some.injEq, Prod.mk.injEq] at H
  obtain ⟨rfl, rfl, rfl, rfl⟩ := H
  try simp only [c24, c24n, Bool.not_true, Bool.not_false]
  refine wp_cond_true rfl ?_
  refine wsr fun _ hK64=>?_
  iterate 2 (refine wpp fun k h=>?_;go_simp;apply h;clear h k)
  refine stw [.int .i64 0, .int .i64 0, .int .i64 0] (hb14.up hu22.out) rfl rfl rfl rfl rfl (by kernel_rfl) rfl rfl ?_
  intro w65 hs66 hb67
  refine wpp fun k h=>?_;go_simp;apply h;clear h k
  refine wln (hK64 _ _ ?_)
  refine wp_ret ?_
  refine hQf _ _ _ ?_
  have cr0 := hb67.cell (o := 0) rfl
  have cr1 := hb67.cell (o := 1) rfl
  have cr2 := hb67.cell (o := 2) rfl
  exact bodyPost_ret (v := .tuple #[.agg #[.int .i64 0, .int .i64 0, .int .i64 0], .int .i64 t19]) (by first|rfl|simp [results, Tryz.results6, go_sem, cr0, cr1, cr2]<;>rfl) rfl ⟨rfl, (hm25.out.sto (Nat.le_trans ((Nat.le_trans ((Nat.le_trans ((Nat.le_trans (hu4.out.size) hu7.out.size)) hu10.out.size)) hu13.out.size)) lbb14.out) hs66.out)⟩
 rw [if_pos c24] at H
 have c24n : (t19 != 0) = false := by rw [bne, c24]; rfl
 obtain ⟨t30,A31,H⟩:=bnd H;try dsimp only at H
 try simp only [c24, c24n, Bool.not_true, Bool.not_false]
 refine wp_cond_false rfl ?_
 refine wp_skip ?_
 refine hK17 _ _ ?_
 refine wp_seq_k fun K28 hK28=>?_
 refine wsr fun _ hK29=>?_
 have cl0 := h26.cell (o := 0) rfl
 refine wpp fun k h=>?_;go_simp;apply h;clear h k
 clear cl0
 have cl0 := h27.cell (o := 0) rfl
 refine wpp fun k h=>?_;go_simp;apply h;clear h k
 clear cl0
 have cl0 := (hb8.up ((hu13.out.trans hu16.out).trans hu22.out)).cell (o := 0) rfl
 have cl1 := (hb8.up ((hu13.out.trans hu16.out).trans hu22.out)).cell (o := 1) rfl
 have cl2 := (hb8.up ((hu13.out.trans hu16.out).trans hu22.out)).cell (o := 2) rfl
 refine wpp fun k h=>?_;go_simp;apply h;clear h k
 clear cl0 cl1 cl2
 have cl0 := (hb11.up (hu16.out.trans hu22.out)).cell (o := 0) rfl
 have cl1 := (hb11.up (hu16.out.trans hu22.out)).cell (o := 1) rfl
 refine wpp fun k h=>?_;go_simp;apply h;clear h k
 clear cl0 cl1
 refine stc (impl_power.calls K a0 a1 a2_0 a2_1 a2_2 a3_0 a3_1 t30 w21  A31.out) ?_
 intro w32 hu33
 simp only[nm]
 iterate 2 (refine wpp fun k h=>?_;go_simp;apply h;clear h k)
 have h35 := (hb8.up (((hu13.out.trans hu16.out).trans hu22.out).trans hu33.out))
 by_cases c34 : (t30 == 0) = true
 rotate_left
 ·
  rw [if_neg c34] at H; replace c34 := Bool.eq_false_iff.mpr c34
  have c34n : (t30 != 0) = true := by rw [bne, c34]; rfl
  have c34p : ¬ t30 = 0 := fun e => by simp [e] at c34
  simp only [Option.some.injEq, Prod.mk.injEq] at H
  obtain ⟨rfl, rfl, rfl, rfl⟩ := H
  try simp only [c34, c34n, Bool.not_true, Bool.not_false]
  refine step_no rfl ?_
  simp only[nm]
  refine step_no rfl ?_
  simp only[nm]
  refine step_no rfl ?_
  simp only[nm]
  refine step_no rfl ?_
  simp only[nm]
  refine wpp fun k h=>?_;go_simp;apply h;clear h k
  refine wln (hK29 _ _ ?_)
  refine wp_cond_true rfl ?_
  refine wsr fun _ hK57=>?_
  refine wpp fun k h=>?_;go_simp;apply h;clear h k
  refine stw [.int .i64 0, .int .i64 0, .int .i64 0] (hb14.up (hu22.out.trans hu33.out)) rfl rfl rfl rfl rfl (by kernel_rfl) rfl rfl ?_
  intro w58 hs59 hb60
  refine wpp fun k h=>?_;go_simp;apply h;clear h k
  refine wln (hK57 _ _ ?_)
  refine wp_ret ?_
  refine hQf _ _ _ ?_
  have cr0 := hb60.cell (o := 0) rfl
  have cr1 := hb60.cell (o := 1) rfl
  have cr2 := hb60.cell (o := 2) rfl
  exact bodyPost_ret (v := .tuple #[.agg #[.int .i64 0, .int .i64 0, .int .i64 0], .int .i64 5]) (by first|rfl|simp [results, Tryz.results6, go_sem, cr0, cr1, cr2]<;>rfl) rfl ⟨rfl, ((hm25.out.trans hu33.out).sto (Nat.le_trans ((Nat.le_trans ((Nat.le_trans ((Nat.le_trans (hu4.out.size) hu7.out.size)) hu10.out.size)) hu13.out.size)) lbb14.out) hs59.out)⟩
 rw [if_pos c34] at H
 have c34n : (t30 != 0) = false := by rw [bne, c34]; rfl
 try simp only [c34, c34n, Bool.not_true, Bool.not_false]
 have cl0 := (hb11.up ((hu16.out.trans hu22.out).trans hu33.out)).cell (o := 0) rfl
 have cl1 := (hb11.up ((hu16.out.trans hu22.out).trans hu33.out)).cell (o := 1) rfl
 refine wpList_step fun k h=>?_;go_simp;apply h;clear h k
 clear cl0 cl1
 refine wpList_step fun k h=>?_;go_simp;apply h;clear h k
 have cl0 := h35.cell (o := 0) rfl
 have cl1 := h35.cell (o := 1) rfl
 refine wpList_step fun k h=>?_;go_simp;apply h;clear h k
 clear cl0 cl1
 refine wpList_step fun k h=>?_;go_simp;apply h;clear h k
 refine wpp fun k h=>?_;go_simp;apply h;clear h k
 refine wln (hK29 _ _ ?_)
 by_cases c36 : (a3_0 == a2_0 && a3_1 == a2_1) = true
 ·
  rw [if_pos c36] at H
  have c36n : (!a3_0 == a2_0 || !a3_1 == a2_1) = false := by simp only [← Bool.not_and, c36, Bool.not_true, Bool.not_false]
  simp only [Option.some.injEq, Prod.mk.injEq] at H
  obtain ⟨rfl, rfl, rfl, rfl⟩ := H
  try simp only [c36, c36n, Bool.not_true, Bool.not_false]
  refine wp_cond_true rfl ?_
  refine wsr fun _ hK37=>?_
  refine wpp fun k h=>?_;go_simp;apply h;clear h k
  refine stw [.int .i64 0, .int .i64 0, .int .i64 0] (hb14.up (hu22.out.trans hu33.out)) rfl rfl rfl rfl rfl (by kernel_rfl) rfl rfl ?_
  intro w38 hs39 hb40
  refine wpp fun k h=>?_;go_simp;apply h;clear h k
  refine wln (hK37 _ _ ?_)
  refine wp_ret ?_
  refine hQf _ _ _ ?_
  have cr0 := hb40.cell (o := 0) rfl
  have cr1 := hb40.cell (o := 1) rfl
  have cr2 := hb40.cell (o := 2) rfl
  exact bodyPost_ret (v := .tuple #[.agg #[.int .i64 0, .int .i64 0, .int .i64 0], .int .i64 5]) (by first|rfl|simp [results, Tryz.results6, go_sem, cr0, cr1, cr2]<;>rfl) rfl ⟨rfl, ((hm25.out.trans hu33.out).sto (Nat.le_trans ((Nat.le_trans ((Nat.le_trans ((Nat.le_trans (hu4.out.size) hu7.out.size)) hu10.out.size)) hu13.out.size)) lbb14.out) hs39.out)⟩
 rw [if_neg c36] at H; replace c36 := Bool.eq_false_iff.mpr c36
 have c36n : (!a3_0 == a2_0 || !a3_1 == a2_1) = true := by simp only [← Bool.not_and, c36, Bool.not_true, Bool.not_false]
 obtain ⟨⟨t45, t46, t47⟩,A48,H⟩:=bnd H;try dsimp only at H
 simp only [Option.some.injEq, Prod.mk.injEq] at H
 obtain ⟨rfl, rfl, rfl, rfl⟩ := H
 try simp only [c36, c36n, Bool.not_true, Bool.not_false]
 refine wp_cond_false rfl ?_
 refine wp_skip ?_
 refine hK28 _ _ ?_
 refine wsr fun _ hK44=>?_
 have cl0 := (h26.up hu33.out).cell (o := 0) rfl
 refine wpp fun k h=>?_;go_simp;apply h;clear h k
 clear cl0
 have cl0 := (h27.up hu33.out).cell (o := 0) rfl
 refine wpp fun k h=>?_;go_simp;apply h;clear h k
 clear cl0
 have cl0 := h35.cell (o := 0) rfl
 have cl1 := h35.cell (o := 1) rfl
 have cl2 := h35.cell (o := 2) rfl
 refine wpp fun k h=>?_;go_simp;apply h;clear h k
 clear cl0 cl1 cl2
 have cl0 := (hb11.up ((hu16.out.trans hu22.out).trans hu33.out)).cell (o := 0) rfl
 have cl1 := (hb11.up ((hu16.out.trans hu22.out).trans hu33.out)).cell (o := 1) rfl
 refine wpp fun k h=>?_;go_simp;apply h;clear h k
 clear cl0 cl1
 refine stc (impl_tangent.calls K a0 a1 a2_0 a2_1 a2_2 a3_0 a3_1 t45 t46 t47 w32  A48.out) ?_
 intro w49 hu50
 simp only[nm]
 refine stw [.int .i64 t45, .int .i64 t46, .int .i64 t47] (hb14.up ((hu22.out.trans hu33.out).trans hu50.out)) rfl rfl rfl rfl rfl (by kernel_rfl) rfl rfl ?_
 intro w51 hs52 hb53
 refine wpp fun k h=>?_;go_simp;apply h;clear h k
 refine wln (hK44 _ _ ?_)
 refine wp_ret ?_
 refine hQf _ _ _ ?_
 have cr0 := hb53.cell (o := 0) rfl
 have cr1 := hb53.cell (o := 1) rfl
 have cr2 := hb53.cell (o := 2) rfl
 exact bodyPost_ret (v := .tuple #[.agg #[.int .i64 t45, .int .i64 t46, .int .i64 t47], .int .i64 0]) (by first|rfl|simp [results, Tryz.results6, go_sem, cr0, cr1, cr2]<;>rfl) rfl ⟨rfl, (((hm25.out.trans hu33.out).trans hu50.out).sto (Nat.le_trans ((Nat.le_trans ((Nat.le_trans ((Nat.le_trans (hu4.out.size) hu7.out.size)) hu10.out.size)) hu13.out.size)) lbb14.out) hs52.out)⟩

set_option maxHeartbeats 40000000 in
set_option maxRecDepth 100000 in
theorem spec_l01Field.calls (K : Nat) (a0 : Int) (r0 : Bool) (w : World)  (h : spec_l01Field.f K a0 = some (r0)) :
    Calls Tryz.prog 66 #[.int .i64 a0] w fun e w' => e = .returned (.bool r0) ∧ Up w w' := by
 have H : (((spec_l01In.f K a0 3 31).bind fun t4 => (if t4 = true then (spec_l01Field.l0 K a0 K 2) else some false)) : Option (Bool)) = some (r0) := h
 clear h
 obtain ⟨t4,A5,H⟩:=bnd H;try dsimp only at H
 go_enter Tryz.func66, Tryz.ntmps66
 refine wp_hide (fun Qf hQf => ?_)
 refine wsr fun _ hK1=>?_
 refine wpp fun k h=>?_;go_simp;apply h;clear h k
 refine wln (hK1 _ _ ?_)
 refine wp_seq_k fun K2 hK2=>?_
 refine wsr fun _ hK3=>?_
 refine wpp fun k h=>?_;go_simp;apply h;clear h k
 refine stc (spec_l01In.calls K a0 3 31 t4 w  A5.out) ?_
 intro w6 hu7
 simp only[nm]
 refine wpp fun k h=>?_;go_simp;apply h;clear h k
 refine wln (hK3 _ _ ?_)
 by_cases c8 : (t4) = true
 rotate_left
 ·
  rw [if_neg c8] at H; replace c8 := Bool.eq_false_iff.mpr c8
  subst c8
  obtain rfl := Option.some.inj H
  refine wp_cond_true rfl ?_
  refine wsr fun _ hK31=>?_
  refine wpp fun k h=>?_;go_simp;apply h;clear h k
  refine wln (hK31 _ _ ?_)
  refine wp_ret ?_
  refine hQf _ _ _ ?_
  exact bpr (v := .bool false) ⟨rfl, hu7.out⟩
 rw [if_pos c8] at H
 subst c8
 refine wp_cond_false rfl ?_
 refine wp_skip ?_
 refine hK2 _ _ ?_
 refine wp_seq_k fun K9 hK9=>?_
 refine wsr fun _ hK10=>?_
 refine wpp fun k h=>?_;go_simp;apply h;clear h k
 refine wln (hK10 _ _ ?_)
 refine wp_block ?_
 have HL15 := Aside0.mk H
 clear H
 go_loopg [3] K (fun kq v3 w' => ∃ (x11 : Int), v3 = .int .i64 x11 ∧ Aside0 (spec_l01Field.l0 K a0 kq x11 = some (r0)) ∧ Aside0 (kq ≤ K) ∧ Aside0 (Up w6 w') ∧ Aside0 (w6.heap.size ≤ w'.heap.size))
 case atStart => exact ⟨2, (by first | rfl | simp), HL15, ⟨Nat.le_refl _⟩, ⟨(Up.refl _)⟩, ⟨Nat.le_refl _⟩⟩
 case round =>
  rename_i J18 K19 hJ18 hK19
  obtain ⟨x11, rfl, HL20, hk17, hu13, hz14⟩ := hrel
  obtain ⟨w12, rfl⟩ : ∃ wo : World, wo = wr := ⟨_, rfl⟩
  obtain ⟨k16, rfl⟩ | rfl : (∃ k, gk = k + 1) ∨ gk = 0 := by rcases gk with _ | k; exact .inr rfl; exact .inl ⟨k, rfl⟩
  case inr => exact absurd HL20.out (by simp [spec_l01Field.l0])
  have H := HL20.out
  clear HL20
  rw [spec_l01Field.l0] at H
  refine wp_seq_k fun K21 hK21=>?_
  refine wsr fun _ hK22=>?_
  iterate 5 (refine wpp fun k h=>?_;go_simp;apply h;clear h k)
  refine wln (hK22 _ _ ?_)
  by_cases c23 : (decide ((wrap64 (x11 * x11)) ≤ a0)) = true
  rotate_left
  ·
   rw [if_neg c23] at H; replace c23 := Bool.eq_false_iff.mpr c23
   obtain rfl := Option.some.inj H
   try simp only [c23, Bool.not_true, Bool.not_false]
   refine wp_cond_false rfl ?_
   refine wp_exit ?_
   refine hK9 _ _ ?_
   refine wsr fun _ hK30=>?_
   refine wpp fun k h=>?_;go_simp;apply h;clear h k
   refine wln (hK30 _ _ ?_)
   refine wp_ret ?_
   refine hQf _ _ _ ?_
   exact bpr (v := .bool true) ⟨rfl, (hu7.out.trans hu13.out)⟩
  rw [if_pos c23] at H
  try simp only [c23, Bool.not_true, Bool.not_false]
  refine wp_cond_true rfl ?_
  refine wp_skip ?_
  refine hK21 _ _ ?_
  refine wp_seq_k fun K24 hK24=>?_
  refine wp_block ?_
  refine wsr fun _ hK25=>?_
  iterate 2 (refine wpp fun k h=>?_;go_simp;apply h;clear h k)
  by_cases c26 : (x11 == 0) = true
  ·
   rw [if_pos c26] at H
   have c26n : (x11 != 0) = false := by rw [bne, c26]; rfl
   exact absurd H (by simp)
  rw [if_neg c26] at H; replace c26 := Bool.eq_false_iff.mpr c26
  have c26n : (x11 != 0) = true := by rw [bne, c26]; rfl
  have c26p : ¬ x11 = 0 := fun e => by simp [e] at c26
  try simp only [c26, c26n, Bool.not_true, Bool.not_false]
  iterate 2 (refine wpp fun k h=>?_;go_simp;apply h;clear h k)
  refine wln (hK25 _ _ ?_)
  by_cases c27 : ((Int.tmod a0 x11) == 0) = true
  ·
   rw [if_pos c27] at H
   have c27n : ((Int.tmod a0 x11) != 0) = false := by rw [bne, c27]; rfl
   obtain rfl := Option.some.inj H
   try simp only [c27, c27n, Bool.not_true, Bool.not_false]
   refine wp_cond_true rfl ?_
   refine wsr fun _ hK28=>?_
   refine wpp fun k h=>?_;go_simp;apply h;clear h k
   refine wln (hK28 _ _ ?_)
   refine wp_ret ?_
   refine hQf _ _ _ ?_
   exact bpr (v := .bool false) ⟨rfl, (hu7.out.trans hu13.out)⟩
  rw [if_neg c27] at H; replace c27 := Bool.eq_false_iff.mpr c27
  have c27n : ((Int.tmod a0 x11) != 0) = true := by rw [bne, c27]; rfl
  have c27p : ¬ (Int.tmod a0 x11) = 0 := fun e => by simp [e] at c27
  have HL29 := Aside0.mk H
  clear H
  try simp only [c27, c27n, Bool.not_true, Bool.not_false]
  refine wp_cond_false rfl ?_
  refine wp_skip ?_
  refine hK24 _ _ ?_
  refine wp_region_lit ?_
  iterate 3 (refine wpp fun k h=>?_;go_simp;apply h;clear h k)
  refine wln (hK19 _ _ ?_)
  go_roundg k16
  case measure => exact Nat.lt_succ_self _
  case rel => exact ⟨wrap64 (x11 + 1), (by first | rfl | simp), HL29, ⟨by have := hk17.out; omega⟩, ⟨hu13.out⟩, ⟨(Nat.le_trans (Nat.le_refl _) hz14.out)⟩⟩

set_option maxHeartbeats 40000000 in
set_option maxRecDepth 100000 in
theorem spec_l01Point.calls (K : Nat) (a0 : Int) (a1_0 : Int) (a1_1 : Int) (r0 : Bool) (w : World)  (h : spec_l01Point.f K a0 a1_0 a1_1 = some (r0)) :
    Calls Tryz.prog 104 #[.int .i64 a0, .agg #[.int .i64 a1_0, .int .i64 a1_1]] w fun e w' => e = .returned (.bool r0) ∧ Up w w' := by
 have H : (((spec_l01In.f K a1_0 0 (wrap64 (a0 - 1))).bind fun t6 => (if t6 = true then ((spec_l01In.f K a1_1 0 (wrap64 (a0 - 1))).bind fun t11 => some t11) else some false)) : Option (Bool)) = some (r0) := h
 clear h
 obtain ⟨t6,A7,H⟩:=bnd H;try dsimp only at H
 go_enter Tryz.func104, Tryz.ntmps104
 refine wp_hide (fun Qf hQf => ?_)
 refine wsr fun _ hK1=>?_
 refine stp (cs := [.int .i64 a1_0, .int .i64 a1_1]) (T := 25) ?_
 intro b2 w3 hu4 lbb2 ltb2 hb2
 simp only[nm]
 refine wpp fun k h=>?_;go_simp;apply h;clear h k
 refine wln (hK1 _ _ ?_)
 refine wsr fun _ hK5=>?_
 refine wpp fun k h=>?_;go_simp;apply h;clear h k
 have cl0 := hb2.cell (o := 0) rfl
 refine wpp fun k h=>?_;go_simp;apply h;clear h k
 clear cl0
 iterate 2 (refine wpp fun k h=>?_;go_simp;apply h;clear h k)
 refine stc (spec_l01In.calls K a1_0 0 (wrap64 (a0 - 1)) t6 w3  A7.out) ?_
 intro w8 hu9
 simp only[nm]
 refine wpp fun k h=>?_;go_simp;apply h;clear h k
 by_cases c10 : (t6) = true
 rotate_left
 ·
  rw [if_neg c10] at H; replace c10 := Bool.eq_false_iff.mpr c10
  subst c10
  obtain rfl := Option.some.inj H
  refine step_no rfl ?_
  simp only[nm]
  refine step_no rfl ?_
  simp only[nm]
  refine step_no rfl ?_
  simp only[nm]
  refine step_no rfl ?_
  simp only[nm]
  refine step_no rfl ?_
  simp only[nm]
  iterate 2 (refine wpp fun k h=>?_;go_simp;apply h;clear h k)
  refine wln (hK5 _ _ ?_)
  refine wp_ret ?_
  refine hQf _ _ _ ?_
  exact bpr (v := .bool false) ⟨rfl, (hu4.out.trans hu9.out)⟩
 rw [if_pos c10] at H
 subst c10
 obtain ⟨t11,A12,H⟩:=bnd H;try dsimp only at H
 obtain rfl := Option.some.inj H
 refine wpList_step fun k h=>?_;go_simp;apply h;clear h k
 have cl0 := (hb2.up hu9.out).cell (o := 1) rfl
 refine wpList_step fun k h=>?_;go_simp;apply h;clear h k
 clear cl0
 refine wpList_step fun k h=>?_;go_simp;apply h;clear h k
 refine wpList_step fun k h=>?_;go_simp;apply h;clear h k
 refine step_call rfl (by go_simp <;> rfl) (spec_l01In.calls K a1_1 0 (wrap64 (a0 - 1)) t11 w8  A12.out) ?_
 rintro e w13 ⟨rfl, hu⟩
 have hu14 := Aside0.mk hu
 clear hu
 refine ⟨_, rfl, ?_⟩
 simp only[nm]
 iterate 2 (refine wpp fun k h=>?_;go_simp;apply h;clear h k)
 refine wln (hK5 _ _ ?_)
 refine wp_ret ?_
 refine hQf _ _ _ ?_
 exact bpr (v := .bool t11) ⟨rfl, ((hu4.out.trans hu9.out).trans hu14.out)⟩

set_option maxHeartbeats 40000000 in
set_option maxRecDepth 100000 in
theorem spec_l01Code.calls (K : Nat) (a0 : Int) (a1_A : Option Addr) (a1_c : Nat) (a1 : List (Int × Int)) (r0 : Int) (w : World) (ha1 : Rd e2 w a1_A a1) (h : spec_l01Code.f K a0 a1 = some (r0)) :
    Calls Tryz.prog 87 #[.int .i64 a0, .slice a1_A a1.length a1_c] w fun e w' => e = .returned (.int .i64 r0) ∧ Up w w' := by
 have H : (((spec_l01Field.f K a0).bind fun t4 => (if t4 = true then (spec_l01Code.l0 K a0 a1 K 0) else some 1)) : Option (Int)) = some (r0) := h
 clear h
 obtain ⟨t4,A5,H⟩:=bnd H;try dsimp only at H
 go_enter Tryz.func87, Tryz.ntmps87
 refine wp_hide (fun Qf hQf => ?_)
 refine wsr fun _ hK1=>?_
 refine wpp fun k h=>?_;go_simp;apply h;clear h k
 refine wln (hK1 _ _ ?_)
 refine wp_seq_k fun K2 hK2=>?_
 refine wsr fun _ hK3=>?_
 refine wpp fun k h=>?_;go_simp;apply h;clear h k
 refine stc (spec_l01Field.calls K a0 t4 w  A5.out) ?_
 intro w6 hu7
 simp only[nm]
 refine wpp fun k h=>?_;go_simp;apply h;clear h k
 refine wln (hK3 _ _ ?_)
 by_cases c8 : (t4) = true
 rotate_left
 ·
  rw [if_neg c8] at H; replace c8 := Bool.eq_false_iff.mpr c8
  subst c8
  obtain rfl := Option.some.inj H
  refine wp_cond_true rfl ?_
  refine wsr fun _ hK40=>?_
  refine wpp fun k h=>?_;go_simp;apply h;clear h k
  refine wln (hK40 _ _ ?_)
  refine wp_ret ?_
  refine hQf _ _ _ ?_
  exact bpr (v := .int .i64 1) ⟨rfl, hu7.out⟩
 rw [if_pos c8] at H
 subst c8
 refine wp_cond_false rfl ?_
 refine wp_skip ?_
 refine hK2 _ _ ?_
 refine wp_seq_k fun K9 hK9=>?_
 refine wsr fun _ hK10=>?_
 refine wpp fun k h=>?_;go_simp;apply h;clear h k
 refine wln (hK10 _ _ ?_)
 refine wp_block ?_
 have HL15 := Aside0.mk H
 clear H
 go_loopg [5] K (fun kq v5 w' => ∃ (x11 : Int), v5 = .int .i64 x11 ∧ Aside0 (spec_l01Code.l0 K a0 a1 kq x11 = some (r0)) ∧ Aside0 (kq ≤ K) ∧ Aside0 (Up w6 w') ∧ Aside0 (w6.heap.size ≤ w'.heap.size))
 case atStart => exact ⟨0, (by first | rfl | simp), HL15, ⟨Nat.le_refl _⟩, ⟨(Up.refl _)⟩, ⟨Nat.le_refl _⟩⟩
 case round =>
  rename_i J18 K19 hJ18 hK19
  obtain ⟨x11, rfl, HL20, hk17, hu13, hz14⟩ := hrel
  obtain ⟨w12, rfl⟩ : ∃ wo : World, wo = wr := ⟨_, rfl⟩
  obtain ⟨k16, rfl⟩ | rfl : (∃ k, gk = k + 1) ∨ gk = 0 := by rcases gk with _ | k; exact .inr rfl; exact .inl ⟨k, rfl⟩
  case inr => exact absurd HL20.out (by simp [spec_l01Code.l0])
  have H := HL20.out
  clear HL20
  rw [spec_l01Code.l0] at H
  refine wp_seq_k fun K21 hK21=>?_
  refine wsr fun _ hK22=>?_
  iterate 4 (refine wpp fun k h=>?_;go_simp;apply h;clear h k)
  refine wln (hK22 _ _ ?_)
  by_cases c23 : (decide (x11 < (a1.length : Int))) = true
  rotate_left
  ·
   rw [if_neg c23] at H; replace c23 := Bool.eq_false_iff.mpr c23
   obtain rfl := Option.some.inj H
   try simp only [c23, Bool.not_true, Bool.not_false]
   refine wp_cond_false rfl ?_
   refine wp_exit ?_
   refine hK9 _ _ ?_
   refine wsr fun _ hK39=>?_
   refine wpp fun k h=>?_;go_simp;apply h;clear h k
   refine wln (hK39 _ _ ?_)
   refine wp_ret ?_
   refine hQf _ _ _ ?_
   exact bpr (v := .int .i64 0) ⟨rfl, (hu7.out.trans hu13.out)⟩
  rw [if_pos c23] at H
  obtain ⟨⟨t26, t27⟩,A28,H⟩:=bnd H;try dsimp only at H
  obtain ⟨t32,A33,H⟩:=bnd H;try dsimp only at H
  try simp only [c23, Bool.not_true, Bool.not_false]
  refine wp_cond_true rfl ?_
  refine wp_skip ?_
  refine hK21 _ _ ?_
  refine wp_seq_k fun K24 hK24=>?_
  refine wp_block ?_
  refine wsr fun _ hK25=>?_
  iterate 3 (refine wpp fun k h=>?_;go_simp;apply h;clear h k)
  refine step_index e2 (T := 25) wn rfl (by kernel_rfl) (by kernel_rfl) rfl rfl rfl (ha1.up (hu7.out.trans hu13.out)) A28.out ?_
  intro ad29 hat he
  have he30 := Aside0.mk he
  have hat31 := Aside0.mk hat
  clear he hat
  simp only[nm]
  have cl0 := he30.out 0 _ rfl
  rw [addr_add0] at cl0
  have cl1 : World.cell? _ ⟨ad29.block, ad29.off + 1, none⟩ = some _ := he30.out 1 _ rfl
  refine wpp fun k h=>?_;go_simp;apply h;clear h k
  clear cl0 cl1
  refine stc (spec_l01Point.calls K a0 t26 t27 t32 w12  A33.out) ?_
  intro w34 hu35
  simp only[nm]
  refine wpp fun k h=>?_;go_simp;apply h;clear h k
  refine wln (hK25 _ _ ?_)
  by_cases c36 : (t32) = true
  rotate_left
  ·
   rw [if_neg c36] at H; replace c36 := Bool.eq_false_iff.mpr c36
   subst c36
   obtain rfl := Option.some.inj H
   refine wp_cond_true rfl ?_
   refine wsr fun _ hK38=>?_
   refine wpp fun k h=>?_;go_simp;apply h;clear h k
   refine wln (hK38 _ _ ?_)
   refine wp_ret ?_
   refine hQf _ _ _ ?_
   exact bpr (v := .int .i64 2) ⟨rfl, ((hu7.out.trans hu13.out).trans hu35.out)⟩
  rw [if_pos c36] at H
  subst c36
  have HL37 := Aside0.mk H
  clear H
  refine wp_cond_false rfl ?_
  refine wp_skip ?_
  refine hK24 _ _ ?_
  refine wp_region_lit ?_
  iterate 3 (refine wpp fun k h=>?_;go_simp;apply h;clear h k)
  refine wln (hK19 _ _ ?_)
  go_roundg k16
  case measure => exact Nat.lt_succ_self _
  case rel => exact ⟨wrap64 (x11 + 1), (by first | rfl | simp), HL37, ⟨by have := hk17.out; omega⟩, ⟨(hu13.out.trans hu35.out)⟩, ⟨(Nat.le_trans ((Nat.le_trans (Nat.le_refl _) hz14.out)) hu35.out.size)⟩⟩

set_option maxHeartbeats 40000000 in
set_option maxRecDepth 100000 in
theorem spec_l02Code.calls (K : Nat) (a0 : Int) (a1 : Int) (a2_A : Option Addr) (a2_c : Nat) (a2 : List (Int × Int)) (r0 : Int) (w : World) (ha2 : Rd e2 w a2_A a2) (h : spec_l02Code.f K a0 a1 a2 = some (r0)) :
    Calls Tryz.prog 94 #[.int .i64 a0, .int .i64 a1, .slice a2_A a2.length a2_c] w fun e w' => e = .returned (.int .i64 r0) ∧ Up w w' := by
 have H : (((spec_l01Code.f K a0 a2).bind fun t3 => (if (t3 == 0) = true then ((spec_l02Colour.f K a1).bind fun t10 => (if t10 = true then some t3 else some 2)) else some t3)) : Option (Int)) = some (r0) := h
 clear h
 obtain ⟨t3,A4,H⟩:=bnd H;try dsimp only at H
 go_enter Tryz.func94, Tryz.ntmps94
 refine wp_hide (fun Qf hQf => ?_)
 refine wsr fun _ hK1=>?_
 refine wpp fun k h=>?_;go_simp;apply h;clear h k
 refine wln (hK1 _ _ ?_)
 refine wsr fun _ hK2=>?_
 iterate 2 (refine wpp fun k h=>?_;go_simp;apply h;clear h k)
 refine stc (spec_l01Code.calls K a0 a2_A a2_c a2 t3 w ha2 A4.out) ?_
 intro w5 hu6
 simp only[nm]
 refine wpp fun k h=>?_;go_simp;apply h;clear h k
 refine wln (hK2 _ _ ?_)
 refine wp_seq_k fun K7 hK7=>?_
 refine wsr fun _ hK8=>?_
 iterate 3 (refine wpp fun k h=>?_;go_simp;apply h;clear h k)
 by_cases c9 : (t3 == 0) = true
 rotate_left
 ·
  rw [if_neg c9] at H; replace c9 := Bool.eq_false_iff.mpr c9
  have c9n : (t3 != 0) = true := by rw [bne, c9]; rfl
  have c9p : ¬ t3 = 0 := fun e => by simp [e] at c9
  obtain rfl := Option.some.inj H
  try simp only [c9, c9n, Bool.not_true, Bool.not_false]
  refine step_no rfl ?_
  simp only[nm]
  refine step_no rfl ?_
  simp only[nm]
  refine step_no rfl ?_
  simp only[nm]
  refine wpp fun k h=>?_;go_simp;apply h;clear h k
  refine wln (hK8 _ _ ?_)
  refine wp_cond_false rfl ?_
  refine wp_skip ?_
  refine hK7 _ _ ?_
  refine wsr fun _ hK17=>?_
  iterate 2 (refine wpp fun k h=>?_;go_simp;apply h;clear h k)
  refine wln (hK17 _ _ ?_)
  refine wp_ret ?_
  refine hQf _ _ _ ?_
  exact bpr (v := .int .i64 t3) ⟨rfl, hu6.out⟩
 rw [if_pos c9] at H
 have c9n : (t3 != 0) = false := by rw [bne, c9]; rfl
 obtain ⟨t10,A11,H⟩:=bnd H;try dsimp only at H
 try simp only [c9, c9n, Bool.not_true, Bool.not_false]
 refine wpList_step fun k h=>?_;go_simp;apply h;clear h k
 refine step_call rfl (by go_simp <;> rfl) (spec_l02Colour.calls K a1 t10 w5  A11.out) ?_
 rintro e w12 ⟨rfl, hu⟩
 have hu13 := Aside0.mk hu
 clear hu
 refine ⟨_, rfl, ?_⟩
 simp only[nm]
 refine wpList_step fun k h=>?_;go_simp;apply h;clear h k
 refine wpp fun k h=>?_;go_simp;apply h;clear h k
 refine wln (hK8 _ _ ?_)
 by_cases c14 : (t10) = true
 ·
  rw [if_pos c14] at H
  subst c14
  obtain rfl := Option.some.inj H
  refine wp_cond_false rfl ?_
  refine wp_skip ?_
  refine hK7 _ _ ?_
  refine wsr fun _ hK15=>?_
  iterate 2 (refine wpp fun k h=>?_;go_simp;apply h;clear h k)
  refine wln (hK15 _ _ ?_)
  refine wp_ret ?_
  refine hQf _ _ _ ?_
  exact bpr (v := .int .i64 t3) ⟨rfl, (hu6.out.trans hu13.out)⟩
 rw [if_neg c14] at H; replace c14 := Bool.eq_false_iff.mpr c14
 subst c14
 obtain rfl := Option.some.inj H
 refine wp_cond_true rfl ?_
 refine wp_region_lit ?_
 refine wpp fun k h=>?_;go_simp;apply h;clear h k
 refine wln (hK7 _ _ ?_)
 refine wsr fun _ hK16=>?_
 iterate 2 (refine wpp fun k h=>?_;go_simp;apply h;clear h k)
 refine wln (hK16 _ _ ?_)
 refine wp_ret ?_
 refine hQf _ _ _ ?_
 exact bpr (v := .int .i64 2) ⟨rfl, (hu6.out.trans hu13.out)⟩

set_option maxHeartbeats 40000000 in
set_option maxRecDepth 100000 in
theorem spec_l06Is.calls (K : Nat) (a0 : Int) (a1_0 : Int) (a1_1 : Int) (a1_2 : Int) (r0 : Bool) (w : World)  (h : spec_l06Is.f K a0 a1_0 a1_1 a1_2 = some (r0)) :
    Calls Tryz.prog 67 #[.int .i64 a0, .agg #[.int .i64 a1_0, .int .i64 a1_1, .int .i64 a1_2]] w fun e w' => e = .returned (.bool r0) ∧ Up w w' := by
 have H : (((spec_l01Point.f K a0 a1_0 a1_1).bind fun t6 => (if t6 = true then ((spec_l01In.f K a1_2 0 (wrap64 (a0 - 1))).bind fun t11 => some t11) else some false)) : Option (Bool)) = some (r0) := h
 clear h
 obtain ⟨t6,A7,H⟩:=bnd H;try dsimp only at H
 go_enter Tryz.func67, Tryz.ntmps67
 refine wp_hide (fun Qf hQf => ?_)
 refine wsr fun _ hK1=>?_
 refine stp (cs := [.int .i64 a1_0, .int .i64 a1_1, .int .i64 a1_2]) (T := 27) ?_
 intro b2 w3 hu4 lbb2 ltb2 hb2
 simp only[nm]
 refine wpp fun k h=>?_;go_simp;apply h;clear h k
 refine wln (hK1 _ _ ?_)
 refine wsr fun _ hK5=>?_
 iterate 2 (refine wpp fun k h=>?_;go_simp;apply h;clear h k)
 have cl0 := hb2.cell (o := 0) rfl
 have cl1 := hb2.cell (o := 1) rfl
 refine wpp fun k h=>?_;go_simp;apply h;clear h k
 clear cl0 cl1
 refine stc (spec_l01Point.calls K a0 a1_0 a1_1 t6 w3  A7.out) ?_
 intro w8 hu9
 simp only[nm]
 refine wpp fun k h=>?_;go_simp;apply h;clear h k
 by_cases c10 : (t6) = true
 rotate_left
 ·
  rw [if_neg c10] at H; replace c10 := Bool.eq_false_iff.mpr c10
  subst c10
  obtain rfl := Option.some.inj H
  refine step_no rfl ?_
  simp only[nm]
  refine step_no rfl ?_
  simp only[nm]
  refine step_no rfl ?_
  simp only[nm]
  refine step_no rfl ?_
  simp only[nm]
  refine step_no rfl ?_
  simp only[nm]
  iterate 2 (refine wpp fun k h=>?_;go_simp;apply h;clear h k)
  refine wln (hK5 _ _ ?_)
  refine wp_ret ?_
  refine hQf _ _ _ ?_
  exact bpr (v := .bool false) ⟨rfl, (hu4.out.trans hu9.out)⟩
 rw [if_pos c10] at H
 subst c10
 obtain ⟨t11,A12,H⟩:=bnd H;try dsimp only at H
 obtain rfl := Option.some.inj H
 refine wpList_step fun k h=>?_;go_simp;apply h;clear h k
 have cl0 := (hb2.up hu9.out).cell (o := 2) rfl
 refine wpList_step fun k h=>?_;go_simp;apply h;clear h k
 clear cl0
 refine wpList_step fun k h=>?_;go_simp;apply h;clear h k
 refine wpList_step fun k h=>?_;go_simp;apply h;clear h k
 refine step_call rfl (by go_simp <;> rfl) (spec_l01In.calls K a1_2 0 (wrap64 (a0 - 1)) t11 w8  A12.out) ?_
 rintro e w13 ⟨rfl, hu⟩
 have hu14 := Aside0.mk hu
 clear hu
 refine ⟨_, rfl, ?_⟩
 simp only[nm]
 iterate 2 (refine wpp fun k h=>?_;go_simp;apply h;clear h k)
 refine wln (hK5 _ _ ?_)
 refine wp_ret ?_
 refine hQf _ _ _ ?_
 exact bpr (v := .bool t11) ⟨rfl, ((hu4.out.trans hu9.out).trans hu14.out)⟩

set_option maxHeartbeats 40000000 in
set_option maxRecDepth 100000 in
theorem spec_l06Code.calls (K : Nat) (a0 : Int) (a1 : Int) (a2_A : Option Addr) (a2_c : Nat) (a2 : List (Int × Int × Int)) (r0 : Int) (w : World) (ha2 : Rd e3 w a2_A a2) (h : spec_l06Code.f K a0 a1 a2 = some (r0)) :
    Calls Tryz.prog 50 #[.int .i64 a0, .int .i64 a1, .slice a2_A a2.length a2_c] w fun e w' => e = .returned (.int .i64 r0) ∧ Up w w' := by
 have H : (((spec_l02Code.f K a0 a1 ([])).bind fun t3 => (spec_l06Code.l0 K a0 a2 K t3 0)) : Option (Int)) = some (r0) := h
 clear h
 obtain ⟨t3,A4,H⟩:=bnd H;try dsimp only at H
 go_enter Tryz.func50, Tryz.ntmps50
 refine wp_hide (fun Qf hQf => ?_)
 refine wsr fun _ hK1=>?_
 refine wpp fun k h=>?_;go_simp;apply h;clear h k
 refine wln (hK1 _ _ ?_)
 refine wsr fun _ hK2=>?_
 iterate 2 (refine wpp fun k h=>?_;go_simp;apply h;clear h k)
 refine stc (spec_l02Code.calls K a0 a1 none 0 ([]) t3 w (Rd.nil) A4.out) ?_
 intro w5 hu6
 simp only[nm]
 refine wpp fun k h=>?_;go_simp;apply h;clear h k
 refine wln (hK2 _ _ ?_)
 refine wp_seq_k fun K7 hK7=>?_
 refine wsr fun _ hK8=>?_
 refine wpp fun k h=>?_;go_simp;apply h;clear h k
 refine wln (hK8 _ _ ?_)
 refine wp_block ?_
 have HL14 := Aside0.mk H
 clear H
 go_loopg [7, 8] K (fun kq v7 v8 w' => ∃ (x9 : Int) (x10 : Int), v7 = .int .i64 x9 ∧ v8 = .int .i64 x10 ∧ Aside0 (spec_l06Code.l0 K a0 a2 kq x9 x10 = some (r0)) ∧ Aside0 (kq ≤ K) ∧ Aside0 (Up w5 w') ∧ Aside0 (w5.heap.size ≤ w'.heap.size))
 case atStart => exact ⟨t3, 0, (by first | rfl | simp), (by first | rfl | simp), HL14, ⟨Nat.le_refl _⟩, ⟨(Up.refl _)⟩, ⟨Nat.le_refl _⟩⟩
 case round =>
  rename_i J17 K18 hJ17 hK18
  obtain ⟨x9, x10, rfl, rfl, HL19, hk16, hu12, hz13⟩ := hrel
  obtain ⟨w11, rfl⟩ : ∃ wo : World, wo = wr := ⟨_, rfl⟩
  obtain ⟨k15, rfl⟩ | rfl : (∃ k, gk = k + 1) ∨ gk = 0 := by rcases gk with _ | k; exact .inr rfl; exact .inl ⟨k, rfl⟩
  case inr => exact absurd HL19.out (by simp [spec_l06Code.l0])
  have H := HL19.out
  clear HL19
  rw [spec_l06Code.l0] at H
  refine wp_seq_k fun K20 hK20=>?_
  refine wsr fun _ hK21=>?_
  iterate 5 (refine wpp fun k h=>?_;go_simp;apply h;clear h k)
  by_cases c22 : (decide (x10 < (a2.length : Int))) = true
  rotate_left
  ·
   rw [if_neg c22] at H; replace c22 := Bool.eq_false_iff.mpr c22
   obtain rfl := Option.some.inj H
   try simp only [c22, Bool.not_true, Bool.not_false]
   refine step_no rfl ?_
   simp only[nm]
   refine step_no rfl ?_
   simp only[nm]
   refine wpp fun k h=>?_;go_simp;apply h;clear h k
   refine wln (hK21 _ _ ?_)
   refine wp_cond_false rfl ?_
   refine wp_exit ?_
   refine hK7 _ _ ?_
   refine wsr fun _ hK41=>?_
   iterate 2 (refine wpp fun k h=>?_;go_simp;apply h;clear h k)
   refine wln (hK41 _ _ ?_)
   refine wp_ret ?_
   refine hQf _ _ _ ?_
   exact bpr (v := .int .i64 x9) ⟨rfl, (hu6.out.trans hu12.out)⟩
  rw [if_pos c22] at H
  try simp only [c22, Bool.not_true, Bool.not_false]
  refine wpList_step fun k h=>?_;go_simp;apply h;clear h k
  refine wpList_step fun k h=>?_;go_simp;apply h;clear h k
  refine wpp fun k h=>?_;go_simp;apply h;clear h k
  refine wln (hK21 _ _ ?_)
  by_cases c23 : (x9 == 0) = true
  rotate_left
  ·
   rw [if_neg c23] at H; replace c23 := Bool.eq_false_iff.mpr c23
   have c23n : (x9 != 0) = true := by rw [bne, c23]; rfl
   have c23p : ¬ x9 = 0 := fun e => by simp [e] at c23
   obtain rfl := Option.some.inj H
   try simp only [c23, c23n, Bool.not_true, Bool.not_false]
   refine wp_cond_false rfl ?_
   refine wp_exit ?_
   refine hK7 _ _ ?_
   refine wsr fun _ hK40=>?_
   iterate 2 (refine wpp fun k h=>?_;go_simp;apply h;clear h k)
   refine wln (hK40 _ _ ?_)
   refine wp_ret ?_
   refine hQf _ _ _ ?_
   exact bpr (v := .int .i64 x9) ⟨rfl, (hu6.out.trans hu12.out)⟩
  rw [if_pos c23] at H
  have c23n : (x9 != 0) = false := by rw [bne, c23]; rfl
  obtain ⟨⟨t26, t27, t28⟩,A29,H⟩:=bnd H;try dsimp only at H
  obtain ⟨t33,A34,H⟩:=bnd H;try dsimp only at H
  try simp only [c23, c23n, Bool.not_true, Bool.not_false]
  refine wp_cond_true rfl ?_
  refine wp_skip ?_
  refine hK20 _ _ ?_
  refine wp_seq_k fun K24 hK24=>?_
  refine wp_block ?_
  refine wsr fun _ hK25=>?_
  iterate 3 (refine wpp fun k h=>?_;go_simp;apply h;clear h k)
  refine step_index e3 (T := 27) wn rfl (by kernel_rfl) (by kernel_rfl) rfl rfl rfl (ha2.up (hu6.out.trans hu12.out)) A29.out ?_
  intro ad30 hat he
  have he31 := Aside0.mk he
  have hat32 := Aside0.mk hat
  clear he hat
  simp only[nm]
  have cl0 := he31.out 0 _ rfl
  rw [addr_add0] at cl0
  have cl1 : World.cell? _ ⟨ad30.block, ad30.off + 1, none⟩ = some _ := he31.out 1 _ rfl
  have cl2 : World.cell? _ ⟨ad30.block, ad30.off + 2, none⟩ = some _ := he31.out 2 _ rfl
  refine wpp fun k h=>?_;go_simp;apply h;clear h k
  clear cl0 cl1 cl2
  refine stc (spec_l06Is.calls K a0 t26 t27 t28 t33 w11  A34.out) ?_
  intro w35 hu36
  simp only[nm]
  refine wpp fun k h=>?_;go_simp;apply h;clear h k
  refine wln (hK25 _ _ ?_)
  by_cases c37 : (t33) = true
  ·
   rw [if_pos c37] at H
   subst c37
   have HL38 := Aside0.mk H
   clear H
   refine wp_cond_false rfl ?_
   refine wp_skip ?_
   refine hK24 _ _ ?_
   refine wp_region_lit ?_
   iterate 3 (refine wpp fun k h=>?_;go_simp;apply h;clear h k)
   refine wln (hK18 _ _ ?_)
   go_roundg k15
   case measure => exact Nat.lt_succ_self _
   case rel => exact ⟨x9, wrap64 (x10 + 1), (by first | rfl | simp), (by first | rfl | simp), HL38, ⟨by have := hk16.out; omega⟩, ⟨(hu12.out.trans hu36.out)⟩, ⟨(Nat.le_trans ((Nat.le_trans (Nat.le_refl _) hz13.out)) hu36.out.size)⟩⟩
  rw [if_neg c37] at H; replace c37 := Bool.eq_false_iff.mpr c37
  subst c37
  have HL39 := Aside0.mk H
  clear H
  refine wp_cond_true rfl ?_
  refine wp_region_lit ?_
  refine wpp fun k h=>?_;go_simp;apply h;clear h k
  refine wln (hK24 _ _ ?_)
  refine wp_region_lit ?_
  iterate 3 (refine wpp fun k h=>?_;go_simp;apply h;clear h k)
  refine wln (hK18 _ _ ?_)
  go_roundg k15
  case measure => exact Nat.lt_succ_self _
  case rel => exact ⟨2, wrap64 (x10 + 1), (by first | rfl | simp), (by first | rfl | simp), HL39, ⟨by have := hk16.out; omega⟩, ⟨(hu12.out.trans hu36.out)⟩, ⟨(Nat.le_trans ((Nat.le_trans (Nat.le_refl _) hz13.out)) hu36.out.size)⟩⟩

set_option maxHeartbeats 40000000 in
set_option maxRecDepth 100000 in
theorem spec_l06Given.calls (K : Nat) (a0 : Int) (a1 : Int) (a2_0 : Int) (a2_1 : Int) (a2_2 : Int) (a3_0 : Int) (a3_1 : Int) (r0 : Int) (w : World)  (h : spec_l06Given.f K a0 a1 a2_0 a2_1 a2_2 a3_0 a3_1 = some (r0)) :
    Calls Tryz.prog 33 #[.int .i64 a0, .int .i64 a1, .agg #[.int .i64 a2_0, .int .i64 a2_1, .int .i64 a2_2], .agg #[.int .i64 a3_0, .int .i64 a3_1]] w fun e w' => e = .returned (.int .i64 r0) ∧ Up w w' := by
 have H : (((spec_l06Code.f K a0 a1 ([(a2_0, a2_1, a2_2)])).bind fun t12 => (if (t12 == 0) = true then ((spec_l01Code.f K a0 ([(a3_0, a3_1)])).bind fun t23 => some t23) else some t12)) : Option (Int)) = some (r0) := h
 clear h
 obtain ⟨t12,A13,H⟩:=bnd H;try dsimp only at H
 go_enter Tryz.func33, Tryz.ntmps33
 refine wp_hide (fun Qf hQf => ?_)
 refine wsr fun _ hK1=>?_
 refine stp (cs := [.int .i64 a2_0, .int .i64 a2_1, .int .i64 a2_2]) (T := 27) ?_
 intro b2 w3 hu4 lbb2 ltb2 hb2
 simp only[nm]
 refine stp (cs := [.int .i64 a3_0, .int .i64 a3_1]) (T := 25) ?_
 intro b5 w6 hu7 lbb5 ltb5 hb5
 simp only[nm]
 refine wpp fun k h=>?_;go_simp;apply h;clear h k
 refine wln (hK1 _ _ ?_)
 refine wsr fun _ hK8=>?_
 iterate 2 (refine wpp fun k h=>?_;go_simp;apply h;clear h k)
 have cl0 := (hb2.up hu7.out).cell (o := 0) rfl
 have cl1 := (hb2.up hu7.out).cell (o := 1) rfl
 have cl2 := (hb2.up hu7.out).cell (o := 2) rfl
 refine wpp fun k h=>?_;go_simp;apply h;clear h k
 clear cl0 cl1 cl2
 refine step_new (cs := [.int .i64 a2_0, .int .i64 a2_1, .int .i64 a2_2]) (T := 27) (f := fun b => .slice (some ⟨b, 0, none⟩) 1 1) rfl (by go_simp <;> rfl) ?_
 intro b9 w10 hu lb hb9
 simp only[nm]
 clear lb
 have hu11 := Aside0.mk hu
 clear hu
 refine stc (spec_l06Code.calls K a0 a1 (some ⟨b9, 0, none⟩) 1 ([(a2_0, a2_1, a2_2)]) t12 w10 (Rd.of_blk (E := e3) (xs := [(a2_0, a2_1, a2_2)]) (o := 0) hb9 (by simp) (fun j u hu => by rcases j with _ | _ | _ | j <;> simp_all [Enc.flat, e3])) A13.out) ?_
 intro w14 hu15
 simp only[nm]
 refine wpp fun k h=>?_;go_simp;apply h;clear h k
 refine wln (hK8 _ _ ?_)
 refine wp_seq_k fun K16 hK16=>?_
 refine wsr fun _ hK17=>?_
 iterate 2 (refine wpp fun k h=>?_;go_simp;apply h;clear h k)
 refine wln (hK17 _ _ ?_)
 have hm19 := Aside0.mk (((hu4.out.trans hu7.out).trans hu11.out).trans hu15.out)
 by_cases c18 : (t12 == 0) = true
 rotate_left
 ·
  rw [if_neg c18] at H; replace c18 := Bool.eq_false_iff.mpr c18
  have c18n : (t12 != 0) = true := by rw [bne, c18]; rfl
  have c18p : ¬ t12 = 0 := fun e => by simp [e] at c18
  obtain rfl := Option.some.inj H
  try simp only [c18, c18n, Bool.not_true, Bool.not_false]
  refine wp_cond_false rfl ?_
  refine wp_skip ?_
  refine hK16 _ _ ?_
  refine wsr fun _ hK28=>?_
  iterate 2 (refine wpp fun k h=>?_;go_simp;apply h;clear h k)
  refine wln (hK28 _ _ ?_)
  refine wp_ret ?_
  refine hQf _ _ _ ?_
  exact bpr (v := .int .i64 t12) ⟨rfl, hm19.out⟩
 rw [if_pos c18] at H
 have c18n : (t12 != 0) = false := by rw [bne, c18]; rfl
 obtain ⟨t23,A24,H⟩:=bnd H;try dsimp only at H
 obtain rfl := Option.some.inj H
 try simp only [c18, c18n, Bool.not_true, Bool.not_false]
 refine wp_cond_true rfl ?_
 refine wp_region_lit ?_
 refine wpp fun k h=>?_;go_simp;apply h;clear h k
 have cl0 := (hb5.up (hu11.out.trans hu15.out)).cell (o := 0) rfl
 have cl1 := (hb5.up (hu11.out.trans hu15.out)).cell (o := 1) rfl
 refine wpp fun k h=>?_;go_simp;apply h;clear h k
 clear cl0 cl1
 refine step_new (cs := [.int .i64 a3_0, .int .i64 a3_1]) (T := 25) (f := fun b => .slice (some ⟨b, 0, none⟩) 1 1) rfl (by go_simp <;> rfl) ?_
 intro b20 w21 hu lb hb20
 simp only[nm]
 clear lb
 have hu22 := Aside0.mk hu
 clear hu
 refine stc (spec_l01Code.calls K a0 (some ⟨b20, 0, none⟩) 1 ([(a3_0, a3_1)]) t23 w21 (Rd.of_blk (E := e2) (xs := [(a3_0, a3_1)]) (o := 0) hb20 (by simp) (fun j u hu => by rcases j with _ | _ | j <;> simp_all [Enc.flat, e2])) A24.out) ?_
 intro w25 hu26
 simp only[nm]
 refine wpp fun k h=>?_;go_simp;apply h;clear h k
 refine wln (hK16 _ _ ?_)
 refine wsr fun _ hK27=>?_
 iterate 2 (refine wpp fun k h=>?_;go_simp;apply h;clear h k)
 refine wln (hK27 _ _ ?_)
 refine wp_ret ?_
 refine hQf _ _ _ ?_
 exact bpr (v := .int .i64 t23) ⟨rfl, ((hm19.out.trans hu22.out).trans hu26.out)⟩

set_option maxHeartbeats 40000000 in
set_option maxRecDepth 100000 in
theorem spec_l06Power.calls (K : Nat) (a0 : Int) (a1 : Int) (a2_0 : Int) (a2_1 : Int) (a2_2 : Int) (a3_0 : Int) (a3_1 : Int) (r0 : Int) (w : World)  (h : spec_l06Power.f K a0 a1 a2_0 a2_1 a2_2 a3_0 a3_1 = some (r0)) :
    Calls Tryz.prog 34 #[.int .i64 a0, .int .i64 a1, .agg #[.int .i64 a2_0, .int .i64 a2_1, .int .i64 a2_2], .agg #[.int .i64 a3_0, .int .i64 a3_1]] w fun e w' => e = .returned (.int .i64 r0) ∧ Up w w' := by
 have H : (((spec_l02Quadrance.f K a0 a1 a2_0 a2_1 a3_0 a3_1).bind fun t9 => ((spec_l01Mod.f K (wrap64 (t9 - a2_2)) a0).bind fun t11 => some t11)) : Option (Int)) = some (r0) := h
 clear h
 obtain ⟨t9,A10,H⟩:=bnd H;try dsimp only at H
 obtain ⟨t11,A12,H⟩:=bnd H;try dsimp only at H
 obtain rfl := Option.some.inj H
 go_enter Tryz.func34, Tryz.ntmps34
 refine wp_hide (fun Qf hQf => ?_)
 refine wsr fun _ hK1=>?_
 refine stp (cs := [.int .i64 a2_0, .int .i64 a2_1, .int .i64 a2_2]) (T := 27) ?_
 intro b2 w3 hu4 lbb2 ltb2 hb2
 simp only[nm]
 refine stp (cs := [.int .i64 a3_0, .int .i64 a3_1]) (T := 25) ?_
 intro b5 w6 hu7 lbb5 ltb5 hb5
 simp only[nm]
 refine wpp fun k h=>?_;go_simp;apply h;clear h k
 refine wln (hK1 _ _ ?_)
 refine wp_seq_k fun K8 hK8=>?_
 refine' wp_region_up 11 [Slot.det _, Slot.det _, Slot.det _, Slot.det _, Slot.det _, Slot.det (.int .i64 t9), Slot.det _, Slot.det _, Slot.det _, Slot.det _, Slot.det (.int .i64 t11)] (by kernel_rfl) (by kernel_rfl) ?main
 case main =>
  simp only [List.take_succ_cons, List.take_zero]
  refine wpK_ops rfl (fun w1 hu => ?_) ?_
  · clear hu
    go_simp
    first | done | rfl
  simp only[nm]
  refine wpK_ops rfl (fun w1 hu => ?_) ?_
  · clear hu
    go_simp
    first | done | rfl
  simp only[nm]
  refine wpK_ops rfl (fun w1 hu => ?_) ?_
  · clear hu
    go_simp
    first | done | rfl
  simp only[nm]
  refine wpK_ops rfl (fun w1 hu => ?_) ?_
  · have cl0 := ((hb2.up hu7.out).up ((Up.refl _).drew.trans hu)).cell (o := 0) rfl
    have cl1 := ((hb2.up hu7.out).up ((Up.refl _).drew.trans hu)).cell (o := 1) rfl
    go_simp
    first | done | rfl
  simp only[nm]
  refine wpK_ops rfl (fun w1 hu => ?_) ?_
  · have cl0 := (hb5.up ((Up.refl _).drew.trans hu)).cell (o := 0) rfl
    have cl1 := (hb5.up ((Up.refl _).drew.trans hu)).cell (o := 1) rfl
    go_simp
    first | done | rfl
  simp only[nm]
  refine wpK_ops rfl (fun w1 hu => ?_) ?_
  · have hcl := (spec_l02Quadrance.calls K a0 a1 a2_0 a2_1 a3_0 a3_1 t9 w1  A10.out)
    clear hu
    replace hcl := Aside0.mk hcl
    go_simp
    exact hcl.out
  simp only[nm]
  refine wpK_ops rfl (fun w1 hu => ?_) ?_
  · clear hu
    go_simp
    first | done | rfl
  simp only[nm]
  refine wpK_ops rfl (fun w1 hu => ?_) ?_
  · have cl0 := ((hb2.up hu7.out).up ((Up.refl _).drew.trans hu)).cell (o := 2) rfl
    go_simp
    first | done | rfl
  simp only[nm]
  refine wpK_ops rfl (fun w1 hu => ?_) ?_
  · clear hu
    go_simp
    first | done | rfl
  simp only[nm]
  refine wpK_ops rfl (fun w1 hu => ?_) ?_
  · clear hu
    go_simp
    first | done | rfl
  simp only[nm]
  refine wpK_ops rfl (fun w1 hu => ?_) ?_
  · have hcl := (spec_l01Mod.calls K (wrap64 (t9 - a2_2)) a0 t11 w1  A12.out)
    clear hu
    replace hcl := Aside0.mk hcl
    go_simp
    exact hcl.out
  simp only[nm]
  refine wpK_nil ?_
  intro w13 hu hap
  simp only [List.drop_succ_cons, List.drop_zero]
  replace hu := (Up.refl _).drew.trans hu
  clear hap
  have hu14 := Aside0.mk hu
  clear hu
  refine wpp fun k h=>?_;go_simp;apply h;clear h k
  refine wln (hK8 _ _ ?_)
  refine wp_ret ?_
  refine hQf _ _ _ ?_
  exact bpr (v := .int .i64 t11) ⟨rfl, ((hu4.out.trans hu7.out).trans hu14.out)⟩

set_option maxHeartbeats 40000000 in
set_option maxRecDepth 100000 in
theorem spec_l01Inverse.calls (K : Nat) (a0 : Int) (a1 : Int) (r0 : Int) (w : World)  (h : spec_l01Inverse.f K a0 a1 = some (r0)) :
    Calls Tryz.prog 61 #[.int .i64 a0, .int .i64 a1] w fun e w' => e = .returned (.int .i64 r0) ∧ Up w w' := by
 have H : (((spec_l01Mod.f K a0 a1).bind fun t3 => (spec_l01Inverse.l0 K a1 K 1 t3 (wrap64 (a1 - 2)))) : Option (Int)) = some (r0) := h
 clear h
 obtain ⟨t3,A4,H⟩:=bnd H;try dsimp only at H
 go_enter Tryz.func61, Tryz.ntmps61
 refine wp_hide (fun Qf hQf => ?_)
 refine wsr fun _ hK1=>?_
 refine wpp fun k h=>?_;go_simp;apply h;clear h k
 refine wln (hK1 _ _ ?_)
 refine wsr fun _ hK2=>?_
 iterate 2 (refine wpp fun k h=>?_;go_simp;apply h;clear h k)
 refine stc (spec_l01Mod.calls K a0 a1 t3 w  A4.out) ?_
 intro w5 hu6
 simp only[nm]
 iterate 2 (refine wpp fun k h=>?_;go_simp;apply h;clear h k)
 refine wln (hK2 _ _ ?_)
 refine wp_seq_k fun K7 hK7=>?_
 refine wsr fun _ hK8=>?_
 iterate 3 (refine wpp fun k h=>?_;go_simp;apply h;clear h k)
 refine wln (hK8 _ _ ?_)
 refine wp_block ?_
 have HL15 := Aside0.mk H
 clear H
 go_loopg [5, 6, 7] K (fun kq v5 v6 v7 w' => ∃ (x9 : Int) (x10 : Int) (x11 : Int), v5 = .int .i64 x9 ∧ v6 = .int .i64 x10 ∧ v7 = .int .i64 x11 ∧ Aside0 (spec_l01Inverse.l0 K a1 kq x9 x10 x11 = some (r0)) ∧ Aside0 (kq ≤ K) ∧ Aside0 (Up w5 w') ∧ Aside0 (w5.heap.size ≤ w'.heap.size))
 case atStart => exact ⟨1, t3, wrap64 (a1 - 2), (by first | rfl | simp), (by first | rfl | simp), (by first | rfl | simp), HL15, ⟨Nat.le_refl _⟩, ⟨(Up.refl _)⟩, ⟨Nat.le_refl _⟩⟩
 case round =>
  rename_i J18 K19 hJ18 hK19
  obtain ⟨x9, x10, x11, rfl, rfl, rfl, HL20, hk17, hu13, hz14⟩ := hrel
  obtain ⟨w12, rfl⟩ : ∃ wo : World, wo = wr := ⟨_, rfl⟩
  obtain ⟨k16, rfl⟩ | rfl : (∃ k, gk = k + 1) ∨ gk = 0 := by rcases gk with _ | k; exact .inr rfl; exact .inl ⟨k, rfl⟩
  case inr => exact absurd HL20.out (by simp [spec_l01Inverse.l0])
  have H := HL20.out
  clear HL20
  rw [spec_l01Inverse.l0] at H
  refine wp_seq_k fun K21 hK21=>?_
  refine wsr fun _ hK22=>?_
  iterate 2 (refine wpp fun k h=>?_;go_simp;apply h;clear h k)
  refine wln (hK22 _ _ ?_)
  by_cases c23 : (decide (0 < x11)) = true
  rotate_left
  ·
   rw [if_neg c23] at H; replace c23 := Bool.eq_false_iff.mpr c23
   obtain rfl := Option.some.inj H
   try simp only [c23, Bool.not_true, Bool.not_false]
   refine wp_cond_false rfl ?_
   refine wp_exit ?_
   refine hK7 _ _ ?_
   refine wsr fun _ hK32=>?_
   iterate 2 (refine wpp fun k h=>?_;go_simp;apply h;clear h k)
   refine wln (hK32 _ _ ?_)
   refine wp_ret ?_
   refine hQf _ _ _ ?_
   exact bpr (v := .int .i64 x9) ⟨rfl, (hu6.out.trans hu13.out)⟩
  rw [if_pos c23] at H
  try simp only [c23, Bool.not_true, Bool.not_false]
  refine wp_cond_true rfl ?_
  refine wp_skip ?_
  refine hK21 _ _ ?_
  refine wp_seq_k fun K24 hK24=>?_
  refine wp_block ?_
  refine wp_seq_k fun K25 hK25=>?_
  refine wsr fun _ hK26=>?_
  iterate 3 (refine wpp fun k h=>?_;go_simp;apply h;clear h k)
  refine wln (hK26 _ _ ?_)
  by_cases c27 : ((Int.tmod x11 2) == 1) = true
  rotate_left
  ·
   rw [if_neg c27] at H; replace c27 := Bool.eq_false_iff.mpr c27
   have c27n : ((Int.tmod x11 2) != 1) = true := by rw [bne, c27]; rfl
   have c27p : ¬ (Int.tmod x11 2) = 1 := fun e => by simp [e] at c27
   try simp only [c27, c27n, Bool.not_true, Bool.not_false]
   refine wp_cond_false rfl ?_
   refine wp_skip ?_
   refine hK25 _ _ ?_
   refine wp_region_lit ?_
   iterate 4 (refine wpp fun k h=>?_;go_simp;apply h;clear h k)
   by_cases c30 : (a1 == 0) = true
   ·
    rw [if_pos c30] at H
    have c30n : (a1 != 0) = false := by rw [bne, c30]; rfl
    exact absurd H (by simp)
   rw [if_neg c30] at H; replace c30 := Bool.eq_false_iff.mpr c30
   have c30n : (a1 != 0) = true := by rw [bne, c30]; rfl
   have c30p : ¬ a1 = 0 := fun e => by simp [e] at c30
   have HL31 := Aside0.mk H
   clear H
   try simp only [c30, c30n, Bool.not_true, Bool.not_false]
   iterate 2 (refine wpp fun k h=>?_;go_simp;apply h;clear h k)
   refine wln (hK24 _ _ ?_)
   refine wp_region_lit ?_
   iterate 3 (refine wpp fun k h=>?_;go_simp;apply h;clear h k)
   refine wln (hK19 _ _ ?_)
   go_roundg k16
   case measure => exact Nat.lt_succ_self _
   case rel => exact ⟨x9, Int.tmod (wrap64 (x10 * x10)) a1, wrap64 (Int.tdiv x11 2), (by first | rfl | simp), (by first | rfl | simp), (by first | rfl | simp), HL31, ⟨by have := hk17.out; omega⟩, ⟨hu13.out⟩, ⟨(Nat.le_trans (Nat.le_refl _) hz14.out)⟩⟩
  rw [if_pos c27] at H
  have c27n : ((Int.tmod x11 2) != 1) = false := by rw [bne, c27]; rfl
  try simp only [c27, c27n, Bool.not_true, Bool.not_false]
  refine wp_cond_true rfl ?_
  refine wp_region_lit ?_
  iterate 4 (refine wpp fun k h=>?_;go_simp;apply h;clear h k)
  by_cases c28 : (a1 == 0) = true
  ·
   rw [if_pos c28] at H
   have c28n : (a1 != 0) = false := by rw [bne, c28]; rfl
   exact absurd H (by simp)
  rw [if_neg c28] at H; replace c28 := Bool.eq_false_iff.mpr c28
  have c28n : (a1 != 0) = true := by rw [bne, c28]; rfl
  have c28p : ¬ a1 = 0 := fun e => by simp [e] at c28
  have HL29 := Aside0.mk H
  clear H
  try simp only [c28, c28n, Bool.not_true, Bool.not_false]
  iterate 2 (refine wpp fun k h=>?_;go_simp;apply h;clear h k)
  refine wln (hK25 _ _ ?_)
  refine wp_region_lit ?_
  iterate 6 (refine wpp fun k h=>?_;go_simp;apply h;clear h k)
  refine wln (hK24 _ _ ?_)
  refine wp_region_lit ?_
  iterate 3 (refine wpp fun k h=>?_;go_simp;apply h;clear h k)
  refine wln (hK19 _ _ ?_)
  go_roundg k16
  case measure => exact Nat.lt_succ_self _
  case rel => exact ⟨Int.tmod (wrap64 (x9 * x10)) a1, Int.tmod (wrap64 (x10 * x10)) a1, wrap64 (Int.tdiv x11 2), (by first | rfl | simp), (by first | rfl | simp), (by first | rfl | simp), HL29, ⟨by have := hk17.out; omega⟩, ⟨hu13.out⟩, ⟨(Nat.le_trans (Nat.le_refl _) hz14.out)⟩⟩

set_option maxHeartbeats 40000000 in
set_option maxRecDepth 100000 in
theorem spec_l01Normal.calls (K : Nat) (a0 : Int) (a1 : Int) (a2 : Int) (a3 : Int) (r0 : Int) (r1 : Int) (r2 : Int) (w : World)  (h : spec_l01Normal.f K a0 a1 a2 a3 = some (r0, r1, r2)) :
    Calls Tryz.prog 115 #[.int .i64 a0, .int .i64 a1, .int .i64 a2, .int .i64 a3] w fun e w' => e = .returned (.agg #[.int .i64 r0, .int .i64 r1, .int .i64 r2]) ∧ Up w w' := by
 have H : (((spec_l01Mod.f K a1 a0).bind fun t6 => (if (t6 == 0) = true then ((spec_l01Mod.f K a2 a0).bind fun t13 => ((spec_l01Inverse.f K t13 a0).bind fun t18 => ((spec_l01Mod.f K (wrap64 (a1 * t18)) a0).bind fun t23 => ((spec_l01Mod.f K (wrap64 (a2 * t18)) a0).bind fun t27 => ((spec_l01Mod.f K (wrap64 (a3 * t18)) a0).bind fun t31 => some (t23, t27, t31)))))) else ((spec_l01Inverse.f K t6 a0).bind fun t39 => ((spec_l01Mod.f K (wrap64 (a1 * t39)) a0).bind fun t44 => ((spec_l01Mod.f K (wrap64 (a2 * t39)) a0).bind fun t48 => ((spec_l01Mod.f K (wrap64 (a3 * t39)) a0).bind fun t52 => some (t44, t48, t52))))))) : Option (Int × Int × Int)) = some (r0, r1, r2) := h
 clear h
 obtain ⟨t6,A7,H⟩:=bnd H;try dsimp only at H
 go_enter Tryz.func115, Tryz.ntmps115
 refine wp_hide (fun Qf hQf => ?_)
 refine wsr fun _ hK1=>?_
 refine stp (cs := [.int .i64 0, .int .i64 0, .int .i64 0]) (T := 31) ?_
 intro b2 w3 hu4 lbb2 ltb2 hb2
 simp only[nm]
 refine wln (hK1 _ _ ?_)
 refine wsr fun _ hK5=>?_
 iterate 2 (refine wpp fun k h=>?_;go_simp;apply h;clear h k)
 refine stc (spec_l01Mod.calls K a1 a0 t6 w3  A7.out) ?_
 intro w8 hu9
 simp only[nm]
 refine wpp fun k h=>?_;go_simp;apply h;clear h k
 refine wln (hK5 _ _ ?_)
 refine wp_seq_k fun K10 hK10=>?_
 refine wsr fun _ hK11=>?_
 iterate 2 (refine wpp fun k h=>?_;go_simp;apply h;clear h k)
 refine wln (hK11 _ _ ?_)
 by_cases c12 : (t6 == 0) = true
 rotate_left
 ·
  rw [if_neg c12] at H; replace c12 := Bool.eq_false_iff.mpr c12
  have c12n : (t6 != 0) = true := by rw [bne, c12]; rfl
  have c12p : ¬ t6 = 0 := fun e => by simp [e] at c12
  obtain ⟨t39,A40,H⟩:=bnd H;try dsimp only at H
  obtain ⟨t44,A45,H⟩:=bnd H;try dsimp only at H
  obtain ⟨t48,A49,H⟩:=bnd H;try dsimp only at H
  obtain ⟨t52,A53,H⟩:=bnd H;try dsimp only at H
  simp only [Option.some.injEq, Prod.mk.injEq] at H
  obtain ⟨rfl, rfl, rfl⟩ := H
  try simp only [c12, c12n, Bool.not_true, Bool.not_false]
  refine wp_cond_false rfl ?_
  refine wp_skip ?_
  refine hK10 _ _ ?_
  refine wsr fun _ hK38=>?_
  iterate 2 (refine wpp fun k h=>?_;go_simp;apply h;clear h k)
  refine stc (spec_l01Inverse.calls K t6 a0 t39 w8  A40.out) ?_
  intro w41 hu42
  simp only[nm]
  refine wpp fun k h=>?_;go_simp;apply h;clear h k
  refine wln (hK38 _ _ ?_)
  refine wsr fun _ hK43=>?_
  iterate 4 (refine wpp fun k h=>?_;go_simp;apply h;clear h k)
  refine stc (spec_l01Mod.calls K (wrap64 (a1 * t39)) a0 t44 w41  A45.out) ?_
  intro w46 hu47
  simp only[nm]
  iterate 4 (refine wpp fun k h=>?_;go_simp;apply h;clear h k)
  refine stc (spec_l01Mod.calls K (wrap64 (a2 * t39)) a0 t48 w46  A49.out) ?_
  intro w50 hu51
  simp only[nm]
  iterate 4 (refine wpp fun k h=>?_;go_simp;apply h;clear h k)
  refine stc (spec_l01Mod.calls K (wrap64 (a3 * t39)) a0 t52 w50  A53.out) ?_
  intro w54 hu55
  simp only[nm]
  refine wpp fun k h=>?_;go_simp;apply h;clear h k
  refine stw [.int .i64 t44, .int .i64 t48, .int .i64 t52] (hb2.up ((((hu9.out.trans hu42.out).trans hu47.out).trans hu51.out).trans hu55.out)) rfl rfl rfl rfl rfl (by kernel_rfl) rfl rfl ?_
  intro w56 hs57 hb58
  refine wln (hK43 _ _ ?_)
  refine wp_ret ?_
  refine hQf _ _ _ ?_
  have cr0 := hb58.cell (o := 0) rfl
  have cr1 := hb58.cell (o := 1) rfl
  have cr2 := hb58.cell (o := 2) rfl
  exact bodyPost_ret (v := .agg #[.int .i64 t44, .int .i64 t48, .int .i64 t52]) (by first|rfl|simp [results, Tryz.results115, go_sem, cr0, cr1, cr2]<;>rfl) rfl ⟨rfl, ((((((hu4.out.trans hu9.out).trans hu42.out).trans hu47.out).trans hu51.out).trans hu55.out).sto (Nat.le_trans (Nat.le_refl _) lbb2.out) hs57.out)⟩
 rw [if_pos c12] at H
 have c12n : (t6 != 0) = false := by rw [bne, c12]; rfl
 obtain ⟨t13,A14,H⟩:=bnd H;try dsimp only at H
 obtain ⟨t18,A19,H⟩:=bnd H;try dsimp only at H
 obtain ⟨t23,A24,H⟩:=bnd H;try dsimp only at H
 obtain ⟨t27,A28,H⟩:=bnd H;try dsimp only at H
 obtain ⟨t31,A32,H⟩:=bnd H;try dsimp only at H
 simp only [Option.some.injEq, Prod.mk.injEq] at H
 obtain ⟨rfl, rfl, rfl⟩ := H
 try simp only [c12, c12n, Bool.not_true, Bool.not_false]
 refine wp_cond_true rfl ?_
 refine wp_region_lit ?_
 iterate 2 (refine wpp fun k h=>?_;go_simp;apply h;clear h k)
 refine stc (spec_l01Mod.calls K a2 a0 t13 w8  A14.out) ?_
 intro w15 hu16
 simp only[nm]
 refine wpp fun k h=>?_;go_simp;apply h;clear h k
 refine wln (hK10 _ _ ?_)
 refine wsr fun _ hK17=>?_
 iterate 2 (refine wpp fun k h=>?_;go_simp;apply h;clear h k)
 refine stc (spec_l01Inverse.calls K t13 a0 t18 w15  A19.out) ?_
 intro w20 hu21
 simp only[nm]
 refine wpp fun k h=>?_;go_simp;apply h;clear h k
 refine wln (hK17 _ _ ?_)
 refine wsr fun _ hK22=>?_
 iterate 4 (refine wpp fun k h=>?_;go_simp;apply h;clear h k)
 refine stc (spec_l01Mod.calls K (wrap64 (a1 * t18)) a0 t23 w20  A24.out) ?_
 intro w25 hu26
 simp only[nm]
 iterate 4 (refine wpp fun k h=>?_;go_simp;apply h;clear h k)
 refine stc (spec_l01Mod.calls K (wrap64 (a2 * t18)) a0 t27 w25  A28.out) ?_
 intro w29 hu30
 simp only[nm]
 iterate 4 (refine wpp fun k h=>?_;go_simp;apply h;clear h k)
 refine stc (spec_l01Mod.calls K (wrap64 (a3 * t18)) a0 t31 w29  A32.out) ?_
 intro w33 hu34
 simp only[nm]
 refine wpp fun k h=>?_;go_simp;apply h;clear h k
 refine stw [.int .i64 t23, .int .i64 t27, .int .i64 t31] (hb2.up (((((hu9.out.trans hu16.out).trans hu21.out).trans hu26.out).trans hu30.out).trans hu34.out)) rfl rfl rfl rfl rfl (by kernel_rfl) rfl rfl ?_
 intro w35 hs36 hb37
 refine wln (hK22 _ _ ?_)
 refine wp_ret ?_
 refine hQf _ _ _ ?_
 have cr0 := hb37.cell (o := 0) rfl
 have cr1 := hb37.cell (o := 1) rfl
 have cr2 := hb37.cell (o := 2) rfl
 exact bodyPost_ret (v := .agg #[.int .i64 t23, .int .i64 t27, .int .i64 t31]) (by first|rfl|simp [results, Tryz.results115, go_sem, cr0, cr1, cr2]<;>rfl) rfl ⟨rfl, (((((((hu4.out.trans hu9.out).trans hu16.out).trans hu21.out).trans hu26.out).trans hu30.out).trans hu34.out).sto (Nat.le_trans (Nat.le_refl _) lbb2.out) hs36.out)⟩

set_option maxHeartbeats 40000000 in
set_option maxRecDepth 100000 in
theorem spec_l02Through.calls (K : Nat) (a0 : Int) (a1 : Int) (a2_0 : Int) (a2_1 : Int) (a3_0 : Int) (a3_1 : Int) (r0 : Int) (r1 : Int) (r2 : Int) (w : World)  (h : spec_l02Through.f K a0 a1 a2_0 a2_1 a3_0 a3_1 = some (r0, r1, r2)) :
    Calls Tryz.prog 88 #[.int .i64 a0, .int .i64 a1, .agg #[.int .i64 a2_0, .int .i64 a2_1], .agg #[.int .i64 a3_0, .int .i64 a3_1]] w fun e w' => e = .returned (.agg #[.int .i64 r0, .int .i64 r1, .int .i64 r2]) ∧ Up w w' := by
 have H : ((if (a1 == 1) = true then ((spec_l01Mod.f K (wrap64 (-a2_1)) a0).bind fun t19 => ((spec_l01Mod.f K (wrap64 (-(wrap64 ((wrap64 (a2_0 * a3_0)) + (wrap64 (t19 * a3_1)))))) a0).bind fun t24 => ((spec_l01Normal.f K a0 a2_0 t19 t24).bind fun (t28, t29, t30) => some (t28, t29, t30)))) else (if (a1 == 2) = true then ((spec_l01Mod.f K (wrap64 (-(wrap64 ((wrap64 (a2_1 * a3_0)) + (wrap64 (a2_0 * a3_1)))))) a0).bind fun t41 => ((spec_l01Normal.f K a0 a2_1 a2_0 t41).bind fun (t45, t46, t47) => some (t45, t46, t47))) else ((spec_l01Mod.f K (wrap64 (-(wrap64 ((wrap64 (a2_0 * a3_0)) + (wrap64 (a2_1 * a3_1)))))) a0).bind fun t55 => ((spec_l01Normal.f K a0 a2_0 a2_1 t55).bind fun (t59, t60, t61) => some (t59, t60, t61))))) : Option (Int × Int × Int)) = some (r0, r1, r2) := h
 clear h
 go_enter Tryz.func88, Tryz.ntmps88
 refine wp_hide (fun Qf hQf => ?_)
 refine wsr fun _ hK1=>?_
 refine stp (cs := [.int .i64 a2_0, .int .i64 a2_1]) (T := 25) ?_
 intro b2 w3 hu4 lbb2 ltb2 hb2
 simp only[nm]
 refine stp (cs := [.int .i64 a3_0, .int .i64 a3_1]) (T := 25) ?_
 intro b5 w6 hu7 lbb5 ltb5 hb5
 simp only[nm]
 refine stp (cs := [.int .i64 0, .int .i64 0, .int .i64 0]) (T := 31) ?_
 intro b8 w9 hu10 lbb8 ltb8 hb8
 simp only[nm]
 refine wln (hK1 _ _ ?_)
 refine wp_seq_k fun K11 hK11=>?_
 refine' wp_region_up 6 [Slot.det _, Slot.det _, Slot.det _, Slot.det _, Slot.det _, Slot.det _] (by kernel_rfl) (by kernel_rfl) ?main
 case main =>
  simp only [List.take_succ_cons, List.take_zero]
  refine wpK_ops rfl (fun w1 hu => ?_) ?_
  · clear hu
    go_simp
    first | done | rfl
  simp only[nm]
  refine wpK_ops rfl (fun w1 hu => ?_) ?_
  · have cl0 := ((hb2.up (hu7.out.trans hu10.out)).up ((Up.refl _).drew.trans hu)).cell (o := 0) rfl
    go_simp
    first | done | rfl
  simp only[nm]
  refine wpK_ops rfl (fun w1 hu => ?_) ?_
  · clear hu
    go_simp
    first | done | rfl
  simp only[nm]
  refine wpK_ops rfl (fun w1 hu => ?_) ?_
  · have cl0 := ((hb2.up (hu7.out.trans hu10.out)).up ((Up.refl _).drew.trans hu)).cell (o := 1) rfl
    go_simp
    first | done | rfl
  simp only[nm]
  refine wpK_ops rfl (fun w1 hu => ?_) ?_
  · clear hu
    go_simp
    first | done | rfl
  simp only[nm]
  refine wpK_ops rfl (fun w1 hu => ?_) ?_
  · clear hu
    go_simp
    first | done | rfl
  simp only[nm]
  refine wpK_nil ?_
  intro w12 hu hap
  simp only [List.drop_succ_cons, List.drop_zero]
  replace hu := (Up.refl _).drew.trans hu
  clear hap
  have hu13 := Aside0.mk hu
  clear hu
  refine wln (hK11 _ _ ?_)
  refine wp_seq_k fun K14 hK14=>?_
  refine wsr fun _ hK15=>?_
  refine wpp fun k h=>?_;go_simp;apply h;clear h k
  refine wln (hK15 _ _ ?_)
  refine wp_block ?_
  refine wsr fun _ hK16=>?_
  iterate 2 (refine wpp fun k h=>?_;go_simp;apply h;clear h k)
  refine wln (hK16 _ _ ?_)
  have hm18 := Aside0.mk (((hu4.out.trans hu7.out).trans hu10.out).trans hu13.out)
  by_cases c17 : (a1 == 1) = true
  ·
   rw [if_pos c17] at H
   have c17n : (a1 != 1) = false := by rw [bne, c17]; rfl
   obtain ⟨t19,A20,H⟩:=bnd H;try dsimp only at H
   obtain ⟨t24,A25,H⟩:=bnd H;try dsimp only at H
   obtain ⟨⟨t28, t29, t30⟩,A31,H⟩:=bnd H;try dsimp only at H
   simp only [Option.some.injEq, Prod.mk.injEq] at H
   obtain ⟨rfl, rfl, rfl⟩ := H
   try simp only [c17, c17n, Bool.not_true, Bool.not_false]
   refine wp_cond_true rfl ?_
   refine wp_region_lit ?_
   iterate 3 (refine wpp fun k h=>?_;go_simp;apply h;clear h k)
   refine stc (spec_l01Mod.calls K (wrap64 (-a2_1)) a0 t19 w12  A20.out) ?_
   intro w21 hu22
   simp only[nm]
   refine wpp fun k h=>?_;go_simp;apply h;clear h k
   refine wln (hK14 _ _ ?_)
   refine wsr fun _ hK23=>?_
   iterate 5 (refine wpp fun k h=>?_;go_simp;apply h;clear h k)
   have cl0 := (hb5.up ((hu10.out.trans hu13.out).trans hu22.out)).cell (o := 0) rfl
   refine wpp fun k h=>?_;go_simp;apply h;clear h k
   clear cl0
   iterate 3 (refine wpp fun k h=>?_;go_simp;apply h;clear h k)
   have cl0 := (hb5.up ((hu10.out.trans hu13.out).trans hu22.out)).cell (o := 1) rfl
   refine wpp fun k h=>?_;go_simp;apply h;clear h k
   clear cl0
   iterate 4 (refine wpp fun k h=>?_;go_simp;apply h;clear h k)
   refine stc (spec_l01Mod.calls K (wrap64 (-(wrap64 ((wrap64 (a2_0 * a3_0)) + (wrap64 (t19 * a3_1)))))) a0 t24 w21  A25.out) ?_
   intro w26 hu27
   simp only[nm]
   refine stc (spec_l01Normal.calls K a0 a2_0 t19 t24 t28 t29 t30 w26  A31.out) ?_
   intro w32 hu33
   simp only[nm]
   refine stw [.int .i64 t28, .int .i64 t29, .int .i64 t30] (hb8.up (((hu13.out.trans hu22.out).trans hu27.out).trans hu33.out)) rfl rfl rfl rfl rfl (by kernel_rfl) rfl rfl ?_
   intro w34 hs35 hb36
   refine wln (hK23 _ _ ?_)
   refine wp_ret ?_
   refine hQf _ _ _ ?_
   have cr0 := hb36.cell (o := 0) rfl
   have cr1 := hb36.cell (o := 1) rfl
   have cr2 := hb36.cell (o := 2) rfl
   exact bodyPost_ret (v := .agg #[.int .i64 t28, .int .i64 t29, .int .i64 t30]) (by first|rfl|simp [results, Tryz.results88, go_sem, cr0, cr1, cr2]<;>rfl) rfl ⟨rfl, ((((hm18.out.trans hu22.out).trans hu27.out).trans hu33.out).sto (Nat.le_trans ((Nat.le_trans (hu4.out.size) hu7.out.size)) lbb8.out) hs35.out)⟩
  rw [if_neg c17] at H; replace c17 := Bool.eq_false_iff.mpr c17
  have c17n : (a1 != 1) = true := by rw [bne, c17]; rfl
  have c17p : ¬ a1 = 1 := fun e => by simp [e] at c17
  try simp only [c17, c17n, Bool.not_true, Bool.not_false]
  refine wp_cond_false rfl ?_
  refine wsr fun _ hK37=>?_
  iterate 2 (refine wpp fun k h=>?_;go_simp;apply h;clear h k)
  refine wln (hK37 _ _ ?_)
  by_cases c38 : (a1 == 2) = true
  rotate_left
  ·
   rw [if_neg c38] at H; replace c38 := Bool.eq_false_iff.mpr c38
   have c38n : (a1 != 2) = true := by rw [bne, c38]; rfl
   have c38p : ¬ a1 = 2 := fun e => by simp [e] at c38
   obtain ⟨t55,A56,H⟩:=bnd H;try dsimp only at H
   obtain ⟨⟨t59, t60, t61⟩,A62,H⟩:=bnd H;try dsimp only at H
   simp only [Option.some.injEq, Prod.mk.injEq] at H
   obtain ⟨rfl, rfl, rfl⟩ := H
   try simp only [c38, c38n, Bool.not_true, Bool.not_false]
   refine wp_cond_false rfl ?_
   refine wp_skip ?_
   refine hK14 _ _ ?_
   refine wsr fun _ hK54=>?_
   iterate 5 (refine wpp fun k h=>?_;go_simp;apply h;clear h k)
   have cl0 := (hb5.up (hu10.out.trans hu13.out)).cell (o := 0) rfl
   refine wpp fun k h=>?_;go_simp;apply h;clear h k
   clear cl0
   iterate 3 (refine wpp fun k h=>?_;go_simp;apply h;clear h k)
   have cl0 := (hb5.up (hu10.out.trans hu13.out)).cell (o := 1) rfl
   refine wpp fun k h=>?_;go_simp;apply h;clear h k
   clear cl0
   iterate 4 (refine wpp fun k h=>?_;go_simp;apply h;clear h k)
   refine stc (spec_l01Mod.calls K (wrap64 (-(wrap64 ((wrap64 (a2_0 * a3_0)) + (wrap64 (a2_1 * a3_1)))))) a0 t55 w12  A56.out) ?_
   intro w57 hu58
   simp only[nm]
   refine stc (spec_l01Normal.calls K a0 a2_0 a2_1 t55 t59 t60 t61 w57  A62.out) ?_
   intro w63 hu64
   simp only[nm]
   refine stw [.int .i64 t59, .int .i64 t60, .int .i64 t61] (hb8.up ((hu13.out.trans hu58.out).trans hu64.out)) rfl rfl rfl rfl rfl (by kernel_rfl) rfl rfl ?_
   intro w65 hs66 hb67
   refine wln (hK54 _ _ ?_)
   refine wp_ret ?_
   refine hQf _ _ _ ?_
   have cr0 := hb67.cell (o := 0) rfl
   have cr1 := hb67.cell (o := 1) rfl
   have cr2 := hb67.cell (o := 2) rfl
   exact bodyPost_ret (v := .agg #[.int .i64 t59, .int .i64 t60, .int .i64 t61]) (by first|rfl|simp [results, Tryz.results88, go_sem, cr0, cr1, cr2]<;>rfl) rfl ⟨rfl, (((hm18.out.trans hu58.out).trans hu64.out).sto (Nat.le_trans ((Nat.le_trans (hu4.out.size) hu7.out.size)) lbb8.out) hs66.out)⟩
  rw [if_pos c38] at H
  have c38n : (a1 != 2) = false := by rw [bne, c38]; rfl
  obtain ⟨t41,A42,H⟩:=bnd H;try dsimp only at H
  obtain ⟨⟨t45, t46, t47⟩,A48,H⟩:=bnd H;try dsimp only at H
  simp only [Option.some.injEq, Prod.mk.injEq] at H
  obtain ⟨rfl, rfl, rfl⟩ := H
  try simp only [c38, c38n, Bool.not_true, Bool.not_false]
  refine wp_cond_true rfl ?_
  refine wsr fun _ hK39=>?_
  refine wpp fun k h=>?_;go_simp;apply h;clear h k
  have cl0 := (hb2.up ((hu7.out.trans hu10.out).trans hu13.out)).cell (o := 1) rfl
  refine wpp fun k h=>?_;go_simp;apply h;clear h k
  clear cl0
  refine wpp fun k h=>?_;go_simp;apply h;clear h k
  refine wln (hK39 _ _ ?_)
  refine wp_region_lit ?_
  refine wpp fun k h=>?_;go_simp;apply h;clear h k
  have cl0 := (hb2.up ((hu7.out.trans hu10.out).trans hu13.out)).cell (o := 0) rfl
  refine wpp fun k h=>?_;go_simp;apply h;clear h k
  clear cl0
  refine wpp fun k h=>?_;go_simp;apply h;clear h k
  refine wln (hK14 _ _ ?_)
  refine wsr fun _ hK40=>?_
  iterate 5 (refine wpp fun k h=>?_;go_simp;apply h;clear h k)
  have cl0 := (hb5.up (hu10.out.trans hu13.out)).cell (o := 0) rfl
  refine wpp fun k h=>?_;go_simp;apply h;clear h k
  clear cl0
  iterate 3 (refine wpp fun k h=>?_;go_simp;apply h;clear h k)
  have cl0 := (hb5.up (hu10.out.trans hu13.out)).cell (o := 1) rfl
  refine wpp fun k h=>?_;go_simp;apply h;clear h k
  clear cl0
  iterate 4 (refine wpp fun k h=>?_;go_simp;apply h;clear h k)
  refine stc (spec_l01Mod.calls K (wrap64 (-(wrap64 ((wrap64 (a2_1 * a3_0)) + (wrap64 (a2_0 * a3_1)))))) a0 t41 w12  A42.out) ?_
  intro w43 hu44
  simp only[nm]
  refine stc (spec_l01Normal.calls K a0 a2_1 a2_0 t41 t45 t46 t47 w43  A48.out) ?_
  intro w49 hu50
  simp only[nm]
  refine stw [.int .i64 t45, .int .i64 t46, .int .i64 t47] (hb8.up ((hu13.out.trans hu44.out).trans hu50.out)) rfl rfl rfl rfl rfl (by kernel_rfl) rfl rfl ?_
  intro w51 hs52 hb53
  refine wln (hK40 _ _ ?_)
  refine wp_ret ?_
  refine hQf _ _ _ ?_
  have cr0 := hb53.cell (o := 0) rfl
  have cr1 := hb53.cell (o := 1) rfl
  have cr2 := hb53.cell (o := 2) rfl
  exact bodyPost_ret (v := .agg #[.int .i64 t45, .int .i64 t46, .int .i64 t47]) (by first|rfl|simp [results, Tryz.results88, go_sem, cr0, cr1, cr2]<;>rfl) rfl ⟨rfl, (((hm18.out.trans hu44.out).trans hu50.out).sto (Nat.le_trans ((Nat.le_trans (hu4.out.size) hu7.out.size)) lbb8.out) hs52.out)⟩

set_option maxHeartbeats 40000000 in
set_option maxRecDepth 100000 in
theorem spec_l06Tangent.calls (K : Nat) (a0 : Int) (a1 : Int) (a2_0 : Int) (a2_1 : Int) (a2_2 : Int) (a3_0 : Int) (a3_1 : Int) (r0 : Int) (r1 : Int) (r2 : Int) (w : World)  (h : spec_l06Tangent.f K a0 a1 a2_0 a2_1 a2_2 a3_0 a3_1 = some (r0, r1, r2)) :
    Calls Tryz.prog 35 #[.int .i64 a0, .int .i64 a1, .agg #[.int .i64 a2_0, .int .i64 a2_1, .int .i64 a2_2], .agg #[.int .i64 a3_0, .int .i64 a3_1]] w fun e w' => e = .returned (.agg #[.int .i64 r0, .int .i64 r1, .int .i64 r2]) ∧ Up w w' := by
 have H : (((spec_l01Minus.f K a0 a3_0 a3_1 a2_0 a2_1).bind fun (t12, t13) => ((spec_l02Through.f K a0 a1 t12 t13 a3_0 a3_1).bind fun (t15, t16, t17) => some (t15, t16, t17))) : Option (Int × Int × Int)) = some (r0, r1, r2) := h
 clear h
 obtain ⟨⟨t12, t13⟩,A14,H⟩:=bnd H;try dsimp only at H
 obtain ⟨⟨t15, t16, t17⟩,A18,H⟩:=bnd H;try dsimp only at H
 simp only [Option.some.injEq, Prod.mk.injEq] at H
 obtain ⟨rfl, rfl, rfl⟩ := H
 go_enter Tryz.func35, Tryz.ntmps35
 refine wp_hide (fun Qf hQf => ?_)
 refine wsr fun _ hK1=>?_
 refine stp (cs := [.int .i64 a2_0, .int .i64 a2_1, .int .i64 a2_2]) (T := 27) ?_
 intro b2 w3 hu4 lbb2 ltb2 hb2
 simp only[nm]
 refine stp (cs := [.int .i64 a3_0, .int .i64 a3_1]) (T := 25) ?_
 intro b5 w6 hu7 lbb5 ltb5 hb5
 simp only[nm]
 refine stp (cs := [.int .i64 0, .int .i64 0, .int .i64 0]) (T := 31) ?_
 intro b8 w9 hu10 lbb8 ltb8 hb8
 simp only[nm]
 refine wln (hK1 _ _ ?_)
 refine wp_seq_k fun K11 hK11=>?_
 refine' wp_region_up 9 [Slot.det _, Slot.det _, Slot.det _, Slot.det _, Slot.det _, Slot.det _, Slot.det (.agg #[.int .i64 t12, .int .i64 t13]), Slot.det _, Slot.det (.agg #[.int .i64 t15, .int .i64 t16, .int .i64 t17])] (by kernel_rfl) (by kernel_rfl) ?main
 case main =>
  simp only [List.take_succ_cons, List.take_zero]
  refine wpK_ops rfl (fun w1 hu => ?_) ?_
  · clear hu
    go_simp
    first | done | rfl
  simp only[nm]
  refine wpK_ops rfl (fun w1 hu => ?_) ?_
  · clear hu
    go_simp
    first | done | rfl
  simp only[nm]
  refine wpK_ops rfl (fun w1 hu => ?_) ?_
  · clear hu
    go_simp
    first | done | rfl
  simp only[nm]
  refine wpK_ops rfl (fun w1 hu => ?_) ?_
  · have cl0 := ((hb5.up hu10.out).up ((Up.refl _).drew.trans hu)).cell (o := 0) rfl
    have cl1 := ((hb5.up hu10.out).up ((Up.refl _).drew.trans hu)).cell (o := 1) rfl
    go_simp
    first | done | rfl
  simp only[nm]
  refine wpK_ops rfl (fun w1 hu => ?_) ?_
  · clear hu
    go_simp
    first | done | rfl
  simp only[nm]
  refine wpK_ops rfl (fun w1 hu => ?_) ?_
  · have cl0 := ((hb2.up (hu7.out.trans hu10.out)).up ((Up.refl _).drew.trans hu)).cell (o := 0) rfl
    have cl1 := ((hb2.up (hu7.out.trans hu10.out)).up ((Up.refl _).drew.trans hu)).cell (o := 1) rfl
    go_simp
    first | done | rfl
  simp only[nm]
  refine wpK_ops rfl (fun w1 hu => ?_) ?_
  · have hcl := (spec_l01Minus.calls K a0 a3_0 a3_1 a2_0 a2_1 t12 t13 w1  A14.out)
    clear hu
    replace hcl := Aside0.mk hcl
    go_simp
    exact hcl.out
  simp only[nm]
  refine wpK_ops rfl (fun w1 hu => ?_) ?_
  · have cl0 := ((hb5.up hu10.out).up ((Up.refl _).drew.trans hu)).cell (o := 0) rfl
    have cl1 := ((hb5.up hu10.out).up ((Up.refl _).drew.trans hu)).cell (o := 1) rfl
    go_simp
    first | done | rfl
  simp only[nm]
  refine wpK_ops rfl (fun w1 hu => ?_) ?_
  · have hcl := (spec_l02Through.calls K a0 a1 t12 t13 a3_0 a3_1 t15 t16 t17 w1  A18.out)
    clear hu
    replace hcl := Aside0.mk hcl
    go_simp
    exact hcl.out
  simp only[nm]
  refine wpK_nil ?_
  intro w19 hu hap
  simp only [List.drop_succ_cons, List.drop_zero]
  replace hu := (Up.refl _).drew.trans hu
  clear hap
  have hu20 := Aside0.mk hu
  clear hu
  refine stw [.int .i64 t15, .int .i64 t16, .int .i64 t17] (hb8.up hu20.out) rfl rfl rfl rfl rfl (by kernel_rfl) rfl rfl ?_
  intro w21 hs22 hb23
  refine wln (hK11 _ _ ?_)
  refine wp_ret ?_
  refine hQf _ _ _ ?_
  have cr0 := hb23.cell (o := 0) rfl
  have cr1 := hb23.cell (o := 1) rfl
  have cr2 := hb23.cell (o := 2) rfl
  exact bodyPost_ret (v := .agg #[.int .i64 t15, .int .i64 t16, .int .i64 t17]) (by first|rfl|simp [results, Tryz.results35, go_sem, cr0, cr1, cr2]<;>rfl) rfl ⟨rfl, ((((hu4.out.trans hu7.out).trans hu10.out).trans hu20.out).sto (Nat.le_trans ((Nat.le_trans (hu4.out.size) hu7.out.size)) lbb8.out) hs22.out)⟩

set_option maxHeartbeats 40000000 in
set_option maxRecDepth 100000 in
theorem spec_TangentAt.calls (K : Nat) (a0 : Int) (a1 : Int) (a2_0 : Int) (a2_1 : Int) (a2_2 : Int) (a3_0 : Int) (a3_1 : Int) (r0 : Int) (r1 : Int) (r2 : Int) (r3 : Int) (w : World)  (h : spec_TangentAt.f K a0 a1 a2_0 a2_1 a2_2 a3_0 a3_1 = some (r0, r1, r2, r3)) :
    Calls Tryz.prog 7 #[.int .i64 a0, .int .i64 a1, .agg #[.int .i64 a2_0, .int .i64 a2_1, .int .i64 a2_2], .agg #[.int .i64 a3_0, .int .i64 a3_1]] w fun e w' => e = .returned (.tuple #[.agg #[.int .i64 r0, .int .i64 r1, .int .i64 r2], .int .i64 r3]) ∧ Up w w' := by
 have H : (((spec_l06Given.f K a0 a1 a2_0 a2_1 a2_2 a3_0 a3_1).bind fun t12 => (if (t12 == 0) = true then ((spec_l06Power.f K a0 a1 a2_0 a2_1 a2_2 a3_0 a3_1).bind fun t20 => (if (t20 == 0) = true then (if (a3_0 == a2_0 && a3_1 == a2_1) = true then some (0, 0, 0, 5) else ((spec_l06Tangent.f K a0 a1 a2_0 a2_1 a2_2 a3_0 a3_1).bind fun (t37, t38, t39) => some (t37, t38, t39, 0))) else some (0, 0, 0, 5))) else some (0, 0, 0, t12))) : Option (Int × Int × Int × Int)) = some (r0, r1, r2, r3) := h
 clear h
 obtain ⟨t12,A13,H⟩:=bnd H;try dsimp only at H
 go_enter Tryz.func7, Tryz.ntmps7
 refine wp_hide (fun Qf hQf => ?_)
 refine wsr fun _ hK1=>?_
 refine stp (cs := [.int .i64 a2_0, .int .i64 a2_1, .int .i64 a2_2]) (T := 27) ?_
 intro b2 w3 hu4 lbb2 ltb2 hb2
 simp only[nm]
 refine stp (cs := [.int .i64 a3_0, .int .i64 a3_1]) (T := 25) ?_
 intro b5 w6 hu7 lbb5 ltb5 hb5
 simp only[nm]
 refine stp (cs := [.int .i64 0, .int .i64 0, .int .i64 0]) (T := 31) ?_
 intro b8 w9 hu10 lbb8 ltb8 hb8
 simp only[nm]
 refine wpp fun k h=>?_;go_simp;apply h;clear h k
 refine wln (hK1 _ _ ?_)
 refine wsr fun _ hK11=>?_
 iterate 2 (refine wpp fun k h=>?_;go_simp;apply h;clear h k)
 have cl0 := (hb2.up (hu7.out.trans hu10.out)).cell (o := 0) rfl
 have cl1 := (hb2.up (hu7.out.trans hu10.out)).cell (o := 1) rfl
 have cl2 := (hb2.up (hu7.out.trans hu10.out)).cell (o := 2) rfl
 refine wpp fun k h=>?_;go_simp;apply h;clear h k
 clear cl0 cl1 cl2
 have cl0 := (hb5.up hu10.out).cell (o := 0) rfl
 have cl1 := (hb5.up hu10.out).cell (o := 1) rfl
 refine wpp fun k h=>?_;go_simp;apply h;clear h k
 clear cl0 cl1
 refine stc (spec_l06Given.calls K a0 a1 a2_0 a2_1 a2_2 a3_0 a3_1 t12 w9  A13.out) ?_
 intro w14 hu15
 simp only[nm]
 refine wpp fun k h=>?_;go_simp;apply h;clear h k
 refine wln (hK11 _ _ ?_)
 refine wp_seq_k fun K16 hK16=>?_
 refine wsr fun _ hK17=>?_
 iterate 3 (refine wpp fun k h=>?_;go_simp;apply h;clear h k)
 have hm19 := Aside0.mk (((hu4.out.trans hu7.out).trans hu10.out).trans hu15.out)
 by_cases c18 : (t12 == 0) = true
 rotate_left
 ·
  rw [if_neg c18] at H; replace c18 := Bool.eq_false_iff.mpr c18
  have c18n : (t12 != 0) = true := by rw [bne, c18]; rfl
  have c18p : ¬ t12 = 0 := fun e => by simp [e] at c18
  simp only [Option.some.injEq, Prod.mk.injEq] at H
  obtain ⟨rfl, rfl, rfl, rfl⟩ := H
  try simp only [c18, c18n, Bool.not_true, Bool.not_false]
  refine step_no rfl ?_
  simp only[nm]
  refine step_no rfl ?_
  simp only[nm]
  refine step_no rfl ?_
  simp only[nm]
  refine step_no rfl ?_
  simp only[nm]
  refine step_no rfl ?_
  simp only[nm]
  refine step_no rfl ?_
  simp only[nm]
  refine step_no rfl ?_
  simp only[nm]
  refine step_no rfl ?_
  simp only[nm]
  refine step_no rfl ?_
  simp only[nm]
  refine step_no rfl ?_
  simp only[nm]
  refine step_no rfl ?_
  simp only[nm]
  refine step_no rfl ?_
  simp only[nm]
  refine wpp fun k h=>?_;go_simp;apply h;clear h k
  refine wln (hK17 _ _ ?_)
  refine wp_cond_false rfl ?_
  refine wp_skip ?_
  refine hK16 _ _ ?_
  refine wp_seq_k fun K54 hK54=>?_
  refine wsr fun _ hK55=>?_
  iterate 2 (refine wpp fun k h=>?_;go_simp;apply h;clear h k)
  refine wln (hK55 _ _ ?_)
  refine wp_cond_true rfl ?_
  refine wsr fun _ hK56=>?_
  iterate 2 (refine wpp fun k h=>?_;go_simp;apply h;clear h k)
  refine stw [.int .i64 0, .int .i64 0, .int .i64 0] (hb8.up hu15.out) rfl rfl rfl rfl rfl (by kernel_rfl) rfl rfl ?_
  intro w57 hs58 hb59
  refine wpp fun k h=>?_;go_simp;apply h;clear h k
  refine wln (hK56 _ _ ?_)
  refine wp_ret ?_
  refine hQf _ _ _ ?_
  have cr0 := hb59.cell (o := 0) rfl
  have cr1 := hb59.cell (o := 1) rfl
  have cr2 := hb59.cell (o := 2) rfl
  exact bodyPost_ret (v := .tuple #[.agg #[.int .i64 0, .int .i64 0, .int .i64 0], .int .i64 t12]) (by first|rfl|simp [results, Tryz.results7, go_sem, cr0, cr1, cr2]<;>rfl) rfl ⟨rfl, (hm19.out.sto (Nat.le_trans ((Nat.le_trans (hu4.out.size) hu7.out.size)) lbb8.out) hs58.out)⟩
 rw [if_pos c18] at H
 have c18n : (t12 != 0) = false := by rw [bne, c18]; rfl
 obtain ⟨t20,A21,H⟩:=bnd H;try dsimp only at H
 try simp only [c18, c18n, Bool.not_true, Bool.not_false]
 refine wpList_step fun k h=>?_;go_simp;apply h;clear h k
 refine wpList_step fun k h=>?_;go_simp;apply h;clear h k
 have cl0 := (hb2.up ((hu7.out.trans hu10.out).trans hu15.out)).cell (o := 0) rfl
 have cl1 := (hb2.up ((hu7.out.trans hu10.out).trans hu15.out)).cell (o := 1) rfl
 have cl2 := (hb2.up ((hu7.out.trans hu10.out).trans hu15.out)).cell (o := 2) rfl
 refine wpList_step fun k h=>?_;go_simp;apply h;clear h k
 clear cl0 cl1 cl2
 have cl0 := (hb5.up (hu10.out.trans hu15.out)).cell (o := 0) rfl
 have cl1 := (hb5.up (hu10.out.trans hu15.out)).cell (o := 1) rfl
 refine wpList_step fun k h=>?_;go_simp;apply h;clear h k
 clear cl0 cl1
 refine step_call rfl (by go_simp <;> rfl) (spec_l06Power.calls K a0 a1 a2_0 a2_1 a2_2 a3_0 a3_1 t20 w14  A21.out) ?_
 rintro e w22 ⟨rfl, hu⟩
 have hu23 := Aside0.mk hu
 clear hu
 refine ⟨_, rfl, ?_⟩
 simp only[nm]
 refine wpList_step fun k h=>?_;go_simp;apply h;clear h k
 refine wpList_step fun k h=>?_;go_simp;apply h;clear h k
 have h25 := (hb2.up (((hu7.out.trans hu10.out).trans hu15.out).trans hu23.out))
 by_cases c24 : (t20 == 0) = true
 rotate_left
 ·
  rw [if_neg c24] at H; replace c24 := Bool.eq_false_iff.mpr c24
  have c24n : (t20 != 0) = true := by rw [bne, c24]; rfl
  have c24p : ¬ t20 = 0 := fun e => by simp [e] at c24
  simp only [Option.some.injEq, Prod.mk.injEq] at H
  obtain ⟨rfl, rfl, rfl, rfl⟩ := H
  try simp only [c24, c24n, Bool.not_true, Bool.not_false]
  refine step_no rfl ?_
  simp only[nm]
  refine step_no rfl ?_
  simp only[nm]
  refine step_no rfl ?_
  simp only[nm]
  refine step_no rfl ?_
  simp only[nm]
  refine wpList_step fun k h=>?_;go_simp;apply h;clear h k
  refine wpp fun k h=>?_;go_simp;apply h;clear h k
  refine wln (hK17 _ _ ?_)
  refine wp_cond_true rfl ?_
  refine wp_region_lit ?_
  refine wpp fun k h=>?_;go_simp;apply h;clear h k
  refine wln (hK16 _ _ ?_)
  refine wp_seq_k fun K47 hK47=>?_
  refine wsr fun _ hK48=>?_
  iterate 2 (refine wpp fun k h=>?_;go_simp;apply h;clear h k)
  refine wln (hK48 _ _ ?_)
  refine wp_cond_true rfl ?_
  refine wsr fun _ hK49=>?_
  iterate 2 (refine wpp fun k h=>?_;go_simp;apply h;clear h k)
  refine stw [.int .i64 0, .int .i64 0, .int .i64 0] (hb8.up (hu15.out.trans hu23.out)) rfl rfl rfl rfl rfl (by kernel_rfl) rfl rfl ?_
  intro w50 hs51 hb52
  refine wpp fun k h=>?_;go_simp;apply h;clear h k
  refine wln (hK49 _ _ ?_)
  refine wp_ret ?_
  refine hQf _ _ _ ?_
  have cr0 := hb52.cell (o := 0) rfl
  have cr1 := hb52.cell (o := 1) rfl
  have cr2 := hb52.cell (o := 2) rfl
  exact bodyPost_ret (v := .tuple #[.agg #[.int .i64 0, .int .i64 0, .int .i64 0], .int .i64 5]) (by first|rfl|simp [results, Tryz.results7, go_sem, cr0, cr1, cr2]<;>rfl) rfl ⟨rfl, ((hm19.out.trans hu23.out).sto (Nat.le_trans ((Nat.le_trans (hu4.out.size) hu7.out.size)) lbb8.out) hs51.out)⟩
 rw [if_pos c24] at H
 have c24n : (t20 != 0) = false := by rw [bne, c24]; rfl
 try simp only [c24, c24n, Bool.not_true, Bool.not_false]
 have cl0 := (hb5.up ((hu10.out.trans hu15.out).trans hu23.out)).cell (o := 0) rfl
 have cl1 := (hb5.up ((hu10.out.trans hu15.out).trans hu23.out)).cell (o := 1) rfl
 refine wpList_step fun k h=>?_;go_simp;apply h;clear h k
 clear cl0 cl1
 refine wpList_step fun k h=>?_;go_simp;apply h;clear h k
 have cl0 := h25.cell (o := 0) rfl
 have cl1 := h25.cell (o := 1) rfl
 refine wpList_step fun k h=>?_;go_simp;apply h;clear h k
 clear cl0 cl1
 refine wpList_step fun k h=>?_;go_simp;apply h;clear h k
 refine wpList_step fun k h=>?_;go_simp;apply h;clear h k
 refine wpp fun k h=>?_;go_simp;apply h;clear h k
 refine wln (hK17 _ _ ?_)
 by_cases c26 : (a3_0 == a2_0 && a3_1 == a2_1) = true
 ·
  rw [if_pos c26] at H
  have c26n : (!a3_0 == a2_0 || !a3_1 == a2_1) = false := by simp only [← Bool.not_and, c26, Bool.not_true, Bool.not_false]
  simp only [Option.some.injEq, Prod.mk.injEq] at H
  obtain ⟨rfl, rfl, rfl, rfl⟩ := H
  try simp only [c26, c26n, Bool.not_true, Bool.not_false]
  refine wp_cond_true rfl ?_
  refine wp_region_lit ?_
  refine wpp fun k h=>?_;go_simp;apply h;clear h k
  refine wln (hK16 _ _ ?_)
  refine wp_seq_k fun K27 hK27=>?_
  refine wsr fun _ hK28=>?_
  iterate 2 (refine wpp fun k h=>?_;go_simp;apply h;clear h k)
  refine wln (hK28 _ _ ?_)
  refine wp_cond_true rfl ?_
  refine wsr fun _ hK29=>?_
  iterate 2 (refine wpp fun k h=>?_;go_simp;apply h;clear h k)
  refine stw [.int .i64 0, .int .i64 0, .int .i64 0] (hb8.up (hu15.out.trans hu23.out)) rfl rfl rfl rfl rfl (by kernel_rfl) rfl rfl ?_
  intro w30 hs31 hb32
  refine wpp fun k h=>?_;go_simp;apply h;clear h k
  refine wln (hK29 _ _ ?_)
  refine wp_ret ?_
  refine hQf _ _ _ ?_
  have cr0 := hb32.cell (o := 0) rfl
  have cr1 := hb32.cell (o := 1) rfl
  have cr2 := hb32.cell (o := 2) rfl
  exact bodyPost_ret (v := .tuple #[.agg #[.int .i64 0, .int .i64 0, .int .i64 0], .int .i64 5]) (by first|rfl|simp [results, Tryz.results7, go_sem, cr0, cr1, cr2]<;>rfl) rfl ⟨rfl, ((hm19.out.trans hu23.out).sto (Nat.le_trans ((Nat.le_trans (hu4.out.size) hu7.out.size)) lbb8.out) hs31.out)⟩
 rw [if_neg c26] at H; replace c26 := Bool.eq_false_iff.mpr c26
 have c26n : (!a3_0 == a2_0 || !a3_1 == a2_1) = true := by simp only [← Bool.not_and, c26, Bool.not_true, Bool.not_false]
 obtain ⟨⟨t37, t38, t39⟩,A40,H⟩:=bnd H;try dsimp only at H
 simp only [Option.some.injEq, Prod.mk.injEq] at H
 obtain ⟨rfl, rfl, rfl, rfl⟩ := H
 try simp only [c26, c26n, Bool.not_true, Bool.not_false]
 refine wp_cond_false rfl ?_
 refine wp_skip ?_
 refine hK16 _ _ ?_
 refine wp_seq_k fun K34 hK34=>?_
 refine wsr fun _ hK35=>?_
 iterate 2 (refine wpp fun k h=>?_;go_simp;apply h;clear h k)
 refine wln (hK35 _ _ ?_)
 refine wp_cond_false rfl ?_
 refine wp_skip ?_
 refine hK34 _ _ ?_
 refine wsr fun _ hK36=>?_
 iterate 2 (refine wpp fun k h=>?_;go_simp;apply h;clear h k)
 have cl0 := h25.cell (o := 0) rfl
 have cl1 := h25.cell (o := 1) rfl
 have cl2 := h25.cell (o := 2) rfl
 refine wpp fun k h=>?_;go_simp;apply h;clear h k
 clear cl0 cl1 cl2
 have cl0 := (hb5.up ((hu10.out.trans hu15.out).trans hu23.out)).cell (o := 0) rfl
 have cl1 := (hb5.up ((hu10.out.trans hu15.out).trans hu23.out)).cell (o := 1) rfl
 refine wpp fun k h=>?_;go_simp;apply h;clear h k
 clear cl0 cl1
 refine stc (spec_l06Tangent.calls K a0 a1 a2_0 a2_1 a2_2 a3_0 a3_1 t37 t38 t39 w22  A40.out) ?_
 intro w41 hu42
 simp only[nm]
 refine stw [.int .i64 t37, .int .i64 t38, .int .i64 t39] (hb8.up ((hu15.out.trans hu23.out).trans hu42.out)) rfl rfl rfl rfl rfl (by kernel_rfl) rfl rfl ?_
 intro w43 hs44 hb45
 refine wpp fun k h=>?_;go_simp;apply h;clear h k
 refine wln (hK36 _ _ ?_)
 refine wp_ret ?_
 refine hQf _ _ _ ?_
 have cr0 := hb45.cell (o := 0) rfl
 have cr1 := hb45.cell (o := 1) rfl
 have cr2 := hb45.cell (o := 2) rfl
 exact bodyPost_ret (v := .tuple #[.agg #[.int .i64 t37, .int .i64 t38, .int .i64 t39], .int .i64 0]) (by first|rfl|simp [results, Tryz.results7, go_sem, cr0, cr1, cr2]<;>rfl) rfl ⟨rfl, (((hm19.out.trans hu23.out).trans hu42.out).sto (Nat.le_trans ((Nat.le_trans (hu4.out.size) hu7.out.size)) lbb8.out) hs44.out)⟩

set_option maxHeartbeats 40000000 in
set_option maxRecDepth 100000 in
theorem spec_l01Area.calls (K : Nat) (a0 : Int) (a1_0 : Int) (a1_1 : Int) (a2_0 : Int) (a2_1 : Int) (a3_0 : Int) (a3_1 : Int) (r0 : Int) (w : World)  (h : spec_l01Area.f K a0 a1_0 a1_1 a2_0 a2_1 a3_0 a3_1 = some (r0)) :
    Calls Tryz.prog 95 #[.int .i64 a0, .agg #[.int .i64 a1_0, .int .i64 a1_1], .agg #[.int .i64 a2_0, .int .i64 a2_1], .agg #[.int .i64 a3_0, .int .i64 a3_1]] w fun e w' => e = .returned (.int .i64 r0) ∧ Up w w' := by
 have H : (((spec_l01Mod.f K (wrap64 ((wrap64 ((wrap64 (a2_0 - a1_0)) * (wrap64 (a3_1 - a1_1)))) - (wrap64 ((wrap64 (a2_1 - a1_1)) * (wrap64 (a3_0 - a1_0)))))) a0).bind fun t12 => some t12) : Option (Int)) = some (r0) := h
 clear h
 obtain ⟨t12,A13,H⟩:=bnd H;try dsimp only at H
 obtain rfl := Option.some.inj H
 go_enter Tryz.func95, Tryz.ntmps95
 refine wp_hide (fun Qf hQf => ?_)
 refine wsr fun _ hK1=>?_
 refine stp (cs := [.int .i64 a1_0, .int .i64 a1_1]) (T := 25) ?_
 intro b2 w3 hu4 lbb2 ltb2 hb2
 simp only[nm]
 refine stp (cs := [.int .i64 a2_0, .int .i64 a2_1]) (T := 25) ?_
 intro b5 w6 hu7 lbb5 ltb5 hb5
 simp only[nm]
 refine stp (cs := [.int .i64 a3_0, .int .i64 a3_1]) (T := 25) ?_
 intro b8 w9 hu10 lbb8 ltb8 hb8
 simp only[nm]
 refine wpp fun k h=>?_;go_simp;apply h;clear h k
 refine wln (hK1 _ _ ?_)
 refine wsr fun _ hK11=>?_
 refine wpp fun k h=>?_;go_simp;apply h;clear h k
 have cl0 := (hb5.up hu10.out).cell (o := 0) rfl
 refine wpp fun k h=>?_;go_simp;apply h;clear h k
 clear cl0
 refine wpp fun k h=>?_;go_simp;apply h;clear h k
 have cl0 := (hb2.up (hu7.out.trans hu10.out)).cell (o := 0) rfl
 refine wpp fun k h=>?_;go_simp;apply h;clear h k
 clear cl0
 iterate 2 (refine wpp fun k h=>?_;go_simp;apply h;clear h k)
 have cl0 := hb8.cell (o := 1) rfl
 refine wpp fun k h=>?_;go_simp;apply h;clear h k
 clear cl0
 refine wpp fun k h=>?_;go_simp;apply h;clear h k
 have cl0 := (hb2.up (hu7.out.trans hu10.out)).cell (o := 1) rfl
 refine wpp fun k h=>?_;go_simp;apply h;clear h k
 clear cl0
 iterate 3 (refine wpp fun k h=>?_;go_simp;apply h;clear h k)
 have cl0 := (hb5.up hu10.out).cell (o := 1) rfl
 refine wpp fun k h=>?_;go_simp;apply h;clear h k
 clear cl0
 refine wpp fun k h=>?_;go_simp;apply h;clear h k
 have cl0 := (hb2.up (hu7.out.trans hu10.out)).cell (o := 1) rfl
 refine wpp fun k h=>?_;go_simp;apply h;clear h k
 clear cl0
 iterate 2 (refine wpp fun k h=>?_;go_simp;apply h;clear h k)
 have cl0 := hb8.cell (o := 0) rfl
 refine wpp fun k h=>?_;go_simp;apply h;clear h k
 clear cl0
 refine wpp fun k h=>?_;go_simp;apply h;clear h k
 have cl0 := (hb2.up (hu7.out.trans hu10.out)).cell (o := 0) rfl
 refine wpp fun k h=>?_;go_simp;apply h;clear h k
 clear cl0
 iterate 4 (refine wpp fun k h=>?_;go_simp;apply h;clear h k)
 refine stc (spec_l01Mod.calls K (wrap64 ((wrap64 ((wrap64 (a2_0 - a1_0)) * (wrap64 (a3_1 - a1_1)))) - (wrap64 ((wrap64 (a2_1 - a1_1)) * (wrap64 (a3_0 - a1_0)))))) a0 t12 w9  A13.out) ?_
 intro w14 hu15
 simp only[nm]
 refine wpp fun k h=>?_;go_simp;apply h;clear h k
 refine wln (hK11 _ _ ?_)
 refine wp_ret ?_
 refine hQf _ _ _ ?_
 exact bpr (v := .int .i64 t12) ⟨rfl, (((hu4.out.trans hu7.out).trans hu10.out).trans hu15.out)⟩

set_option maxHeartbeats 40000000 in
set_option maxRecDepth 100000 in
theorem spec_l04DrawOf.calls (K : Nat) (ba0 : Nat) (a0_0_A : Option Addr) (a0_0_c : Nat) (a0_0 : List (Int)) (a0_1 : Int) (a0_2 : Int) (a1 : Int) (r0 : Int) (r1 : Int) (r2 : Int) (r3 : Int) (r4 : Int) (r5 : Int) (r6 : Int) (r7 : Int) (w : World) (ha0 : Blk w ba0 [.slice a0_0_A a0_0.length a0_0_c, .int .i64 a0_1, .int .u64 a0_2] 105) (ha0_0 : Rd eU8 w a0_0_A a0_0) (haa0_0 : ∀ k, blk (.slice a0_0_A a0_0.length a0_0_c) = some k → 0 < a0_0.length → k ≠ ba0) (h : spec_l04DrawOf.f K a0_0 a0_1 a0_2 a1 = some (r0, r1, r2, r3, r4, r5, r6, r7)) :
    Calls Tryz.prog 116 #[.pointer (some ⟨ba0, 0, none⟩), .int .i64 a1] w fun e w' => e = .returned (.tuple #[.agg #[.int .i64 r0, .int .i64 r1], .agg #[.int .i64 r2, .int .i64 r3], .agg #[.int .i64 r4, .int .i64 r5]]) ∧ Blk w' ba0 [.slice a0_0_A a0_0.length a0_0_c, .int .i64 r6, .int .u64 r7] 105 ∧ Grow (.pointer (some ⟨ba0, 0, none⟩)) w w' := by
 have H : (((spec_l01DrawPoint.f K a0_0 a0_1 a0_2 a1).bind fun (t12, t13, t14, t15) => ((spec_l01DrawPoint.f K a0_0 t14 t15 a1).bind fun (t24, t25, t26, t27) => ((spec_l01DrawPoint.f K a0_0 t26 t27 a1).bind fun (t36, t37, t38, t39) => (spec_l04DrawOf.l0 K a0_0 a1 t12 t13 K 0 t38 t39 0 0 0 0 0 0 t24 t25 t36 t37)))) : Option (Int × Int × Int × Int × Int × Int × Int × Int)) = some (r0, r1, r2, r3, r4, r5, r6, r7) := h
 clear h
 obtain ⟨⟨t12, t13, t14, t15⟩,A16,H⟩:=bnd H;try dsimp only at H
 obtain ⟨⟨t24, t25, t26, t27⟩,A28,H⟩:=bnd H;try dsimp only at H
 obtain ⟨⟨t36, t37, t38, t39⟩,A40,H⟩:=bnd H;try dsimp only at H
 have ltba0 := Aside0.mk ha0.lt
 go_enter Tryz.func116, Tryz.ntmps116
 refine wp_hide (fun Qf hQf => ?_)
 refine wsr fun _ hK1=>?_
 refine stp (cs := [.int .i64 0, .int .i64 0]) (T := 25) ?_
 intro b2 w3 hu4 lbb2 ltb2 hb2
 simp only[nm]
 refine stp (cs := [.int .i64 0, .int .i64 0]) (T := 25) ?_
 intro b5 w6 hu7 lbb5 ltb5 hb5
 simp only[nm]
 refine stp (cs := [.int .i64 0, .int .i64 0]) (T := 25) ?_
 intro b8 w9 hu10 lbb8 ltb8 hb8
 simp only[nm]
 refine wln (hK1 _ _ ?_)
 refine wsr fun _ hK11=>?_
 iterate 2 (refine wpp fun k h=>?_;go_simp;apply h;clear h k)
 refine step_call wn (by go_simp <;> rfl) (spec_l01DrawPoint.calls K ba0 a0_0_A a0_0_c a0_0 a0_1 a0_2 a1 t12 t13 t14 t15 w9 (ha0.up ((hu4.out.trans hu7.out).trans hu10.out)) (ha0_0.up ((hu4.out.trans hu7.out).trans hu10.out)) haa0_0 A16.out) ?_
 rintro e w17 ⟨rfl, h18, hs⟩
 have hs19 := Aside0.mk hs
 clear hs
 have h20 := (ha0_0.up ((hu4.out.trans hu7.out).trans hu10.out)).growp hs19.out haa0_0
 have h21 := (hb2.up (hu7.out.trans hu10.out)).grow hs19.out (fun k hk e => (Nat.ne_of_lt (Nat.lt_of_lt_of_le ltba0.out lbb2.out)) ((Option.some.inj hk).trans e))
 have h22 := (hb5.up hu10.out).grow hs19.out (fun k hk e => (Nat.ne_of_lt (Nat.lt_of_lt_of_le (Nat.lt_of_lt_of_le ltba0.out (hu4.out.size)) lbb5.out)) ((Option.some.inj hk).trans e))
 have h23 := hb8.grow hs19.out (fun k hk e => (Nat.ne_of_lt (Nat.lt_of_lt_of_le (Nat.lt_of_lt_of_le ltba0.out ((Nat.le_trans (hu4.out.size) hu7.out.size))) lbb8.out)) ((Option.some.inj hk).trans e))
 refine ⟨_, rfl, ?_⟩
 simp only[nm]
 iterate 2 (refine wpp fun k h=>?_;go_simp;apply h;clear h k)
 refine step_call wn (by go_simp <;> rfl) (spec_l01DrawPoint.calls K ba0 a0_0_A a0_0_c a0_0 t14 t15 a1 t24 t25 t26 t27 w17 h18 h20 haa0_0 A28.out) ?_
 rintro e w29 ⟨rfl, h30, hs⟩
 have hs31 := Aside0.mk hs
 clear hs
 have h32 := h20.growp hs31.out haa0_0
 have h33 := h21.grow hs31.out (fun k hk e => (Nat.ne_of_lt (Nat.lt_of_lt_of_le ltba0.out lbb2.out)) ((Option.some.inj hk).trans e))
 have h34 := h22.grow hs31.out (fun k hk e => (Nat.ne_of_lt (Nat.lt_of_lt_of_le (Nat.lt_of_lt_of_le ltba0.out (hu4.out.size)) lbb5.out)) ((Option.some.inj hk).trans e))
 have h35 := h23.grow hs31.out (fun k hk e => (Nat.ne_of_lt (Nat.lt_of_lt_of_le (Nat.lt_of_lt_of_le ltba0.out ((Nat.le_trans (hu4.out.size) hu7.out.size))) lbb8.out)) ((Option.some.inj hk).trans e))
 refine ⟨_, rfl, ?_⟩
 simp only[nm]
 iterate 2 (refine wpp fun k h=>?_;go_simp;apply h;clear h k)
 refine step_call wn (by go_simp <;> rfl) (spec_l01DrawPoint.calls K ba0 a0_0_A a0_0_c a0_0 t26 t27 a1 t36 t37 t38 t39 w29 h30 h32 haa0_0 A40.out) ?_
 rintro e w41 ⟨rfl, h42, hs⟩
 have hs43 := Aside0.mk hs
 clear hs
 have h44 := h32.growp hs43.out haa0_0
 have h45 := h33.grow hs43.out (fun k hk e => (Nat.ne_of_lt (Nat.lt_of_lt_of_le ltba0.out lbb2.out)) ((Option.some.inj hk).trans e))
 have h46 := h34.grow hs43.out (fun k hk e => (Nat.ne_of_lt (Nat.lt_of_lt_of_le (Nat.lt_of_lt_of_le ltba0.out (hu4.out.size)) lbb5.out)) ((Option.some.inj hk).trans e))
 have h47 := h35.grow hs43.out (fun k hk e => (Nat.ne_of_lt (Nat.lt_of_lt_of_le (Nat.lt_of_lt_of_le ltba0.out ((Nat.le_trans (hu4.out.size) hu7.out.size))) lbb8.out)) ((Option.some.inj hk).trans e))
 refine ⟨_, rfl, ?_⟩
 simp only[nm]
 refine stp (cs := [.int .i64 0, .int .i64 0]) (T := 25) ?_
 intro b48 w49 hu50 lbb48 ltb48 hb48
 simp only[nm]
 refine stp (cs := [.int .i64 0, .int .i64 0]) (T := 25) ?_
 intro b51 w52 hu53 lbb51 ltb51 hb51
 simp only[nm]
 refine stp (cs := [.int .i64 0, .int .i64 0]) (T := 25) ?_
 intro b54 w55 hu56 lbb54 ltb54 hb54
 simp only[nm]
 refine stw [.int .i64 t12, .int .i64 t13] (hb48.up (hu53.out.trans hu56.out)) rfl rfl rfl rfl rfl (by kernel_rfl) rfl rfl ?_
 intro w57 hs58 hb59
 have h60 := (hb51.up hu56.out).sto hs58.out (Ne.symm (Nat.ne_of_lt (Nat.lt_of_lt_of_le ltb48.out lbb51.out)))
 have h61 := hb54.sto hs58.out (Ne.symm (Nat.ne_of_lt (Nat.lt_of_lt_of_le (Nat.lt_of_lt_of_le ltb48.out (hu53.out.size)) lbb54.out)))
 refine stw [.int .i64 t24, .int .i64 t25] h60 rfl rfl rfl rfl rfl (by kernel_rfl) rfl rfl ?_
 intro w62 hs63 hb64
 have h65 := hb59.sto hs63.out (Nat.ne_of_lt (Nat.lt_of_lt_of_le ltb48.out lbb51.out))
 have h66 := h61.sto hs63.out (Ne.symm (Nat.ne_of_lt (Nat.lt_of_lt_of_le ltb51.out lbb54.out)))
 refine stw [.int .i64 t36, .int .i64 t37] h66 rfl rfl rfl rfl rfl (by kernel_rfl) rfl rfl ?_
 intro w67 hs68 hb69
 have h70 := h65.sto hs68.out (Nat.ne_of_lt (Nat.lt_of_lt_of_le (Nat.lt_of_lt_of_le ltb48.out (hu53.out.size)) lbb54.out))
 have h71 := hb64.sto hs68.out (Nat.ne_of_lt (Nat.lt_of_lt_of_le ltb51.out lbb54.out))
 refine wln (hK11 _ _ ?_)
 refine wp_seq_k fun K72 hK72=>?_
 refine wsr fun _ hK73=>?_
 refine wpp fun k h=>?_;go_simp;apply h;clear h k
 refine wln (hK73 _ _ ?_)
 refine wp_block ?_
 have HL90 := Aside0.mk H
 clear H
 go_loopg [10] K (fun kq v10 w' => ∃ (x74 : Int) (x75 : Int) (x76 : Int) (x77 : Int) (x78 : Int) (x79 : Int) (x80 : Int) (x81 : Int) (x82 : Int) (x83 : Int) (x84 : Int) (x85 : Int) (x86 : Int), v10 = .int .i64 x74 ∧ Aside0 (spec_l04DrawOf.l0 K a0_0 a1 t12 t13 kq x74 x75 x76 x77 x78 x79 x80 x81 x82 x83 x84 x85 x86 = some (r0, r1, r2, r3, r4, r5, r6, r7)) ∧ Aside0 (kq ≤ K) ∧ Aside0 (Grow (.pointer (some ⟨ba0, 0, none⟩)) w w') ∧ Aside0 (w67.heap.size ≤ w'.heap.size) ∧ Rd eU8 w' a0_0_A a0_0 ∧ Blk w' ba0 [.slice a0_0_A a0_0.length a0_0_c, .int .i64 x75, .int .u64 x76] 105 ∧ Blk w' b2 [.int .i64 x77, .int .i64 x78] 25 ∧ Blk w' b5 [.int .i64 x79, .int .i64 x80] 25 ∧ Blk w' b8 [.int .i64 x81, .int .i64 x82] 25 ∧ Blk w' b48 [.int .i64 t12, .int .i64 t13] 25 ∧ Blk w' b51 [.int .i64 x83, .int .i64 x84] 25 ∧ Blk w' b54 [.int .i64 x85, .int .i64 x86] 25)
 case atStart => exact ⟨0, t38, t39, 0, 0, 0, 0, 0, 0, t24, t25, t36, t37, (by first | rfl | simp), HL90, ⟨Nat.le_refl _⟩, ⟨(Grow.sto_young (Grow.sto_young (Grow.sto_young ((((((((((Grow.refl (.pointer (some ⟨ba0, 0, none⟩)) _).trans (Grow.up hu4.out)).trans (Grow.up hu7.out)).trans (Grow.up hu10.out)).trans hs19.out).trans hs31.out).trans hs43.out).trans (Grow.up hu50.out)).trans (Grow.up hu53.out)).trans (Grow.up hu56.out)) hs58.out (Nat.le_trans ((Nat.le_trans ((Nat.le_trans ((Nat.le_trans ((Nat.le_trans ((Nat.le_trans (hu4.out.size) hu7.out.size)) hu10.out.size)) hs19.out.size)) hs31.out.size)) hs43.out.size)) lbb48.out)) hs63.out (Nat.le_trans ((Nat.le_trans ((Nat.le_trans ((Nat.le_trans ((Nat.le_trans ((Nat.le_trans ((Nat.le_trans (hu4.out.size) hu7.out.size)) hu10.out.size)) hs19.out.size)) hs31.out.size)) hs43.out.size)) hu50.out.size)) lbb51.out)) hs68.out (Nat.le_trans ((Nat.le_trans ((Nat.le_trans ((Nat.le_trans ((Nat.le_trans ((Nat.le_trans ((Nat.le_trans ((Nat.le_trans (hu4.out.size) hu7.out.size)) hu10.out.size)) hs19.out.size)) hs31.out.size)) hs43.out.size)) hu50.out.size)) hu53.out.size)) lbb54.out))⟩, ⟨Nat.le_refl _⟩, (h44.up (((((hu50.out.trans hu53.out).trans hu56.out).sto (Nat.le_trans (Nat.le_refl _) lbb48.out) hs58.out).sto (Nat.le_trans (hu50.out.size) lbb51.out) hs63.out).sto (Nat.le_trans ((Nat.le_trans (hu50.out.size) hu53.out.size)) lbb54.out) hs68.out)), (h42.up (((((hu50.out.trans hu53.out).trans hu56.out).sto (Nat.le_trans (Nat.le_refl _) lbb48.out) hs58.out).sto (Nat.le_trans (hu50.out.size) lbb51.out) hs63.out).sto (Nat.le_trans ((Nat.le_trans (hu50.out.size) hu53.out.size)) lbb54.out) hs68.out)), (h45.up (((((hu50.out.trans hu53.out).trans hu56.out).sto (Nat.le_trans (Nat.le_refl _) lbb48.out) hs58.out).sto (Nat.le_trans (hu50.out.size) lbb51.out) hs63.out).sto (Nat.le_trans ((Nat.le_trans (hu50.out.size) hu53.out.size)) lbb54.out) hs68.out)), (h46.up (((((hu50.out.trans hu53.out).trans hu56.out).sto (Nat.le_trans (Nat.le_refl _) lbb48.out) hs58.out).sto (Nat.le_trans (hu50.out.size) lbb51.out) hs63.out).sto (Nat.le_trans ((Nat.le_trans (hu50.out.size) hu53.out.size)) lbb54.out) hs68.out)), (h47.up (((((hu50.out.trans hu53.out).trans hu56.out).sto (Nat.le_trans (Nat.le_refl _) lbb48.out) hs58.out).sto (Nat.le_trans (hu50.out.size) lbb51.out) hs63.out).sto (Nat.le_trans ((Nat.le_trans (hu50.out.size) hu53.out.size)) lbb54.out) hs68.out)), h70, h71, hb69⟩
 case round =>
  rename_i J101 K102 hJ101 hK102
  obtain ⟨x74, x75, x76, x77, x78, x79, x80, x81, x82, x83, x84, x85, x86, rfl, HL103, hk100, hu88, hz89, h91, h92, h93, h94, h95, h96, h97, h98⟩ := hrel
  obtain ⟨w87, rfl⟩ : ∃ wo : World, wo = wr := ⟨_, rfl⟩
  obtain ⟨k99, rfl⟩ | rfl : (∃ k, gk = k + 1) ∨ gk = 0 := by rcases gk with _ | k; exact .inr rfl; exact .inl ⟨k, rfl⟩
  case inr => exact absurd HL103.out (by simp [spec_l04DrawOf.l0])
  have H := HL103.out
  clear HL103
  rw [spec_l04DrawOf.l0] at H
  refine wp_seq_k fun K104 hK104=>?_
  refine wsr fun _ hK105=>?_
  iterate 3 (refine wpp fun k h=>?_;go_simp;apply h;clear h k)
  by_cases c106 : (decide (x74 < 6)) = true
  rotate_left
  ·
   rw [if_neg c106] at H; replace c106 := Bool.eq_false_iff.mpr c106
   simp only [Option.some.injEq, Prod.mk.injEq] at H
   obtain ⟨rfl, rfl, rfl, rfl, rfl, rfl, rfl, rfl⟩ := H
   try simp only [c106, Bool.not_true, Bool.not_false]
   refine step_no rfl ?_
   simp only[nm]
   refine step_no rfl ?_
   simp only[nm]
   refine step_no rfl ?_
   simp only[nm]
   refine step_no rfl ?_
   simp only[nm]
   refine step_no rfl ?_
   simp only[nm]
   refine step_no rfl ?_
   simp only[nm]
   refine wpp fun k h=>?_;go_simp;apply h;clear h k
   refine wln (hK105 _ _ ?_)
   refine wp_cond_false rfl ?_
   refine wp_exit ?_
   refine hK72 _ _ ?_
   refine wp_seq_k fun K199 hK199=>?_
   have hTT_ : ∀ w_, Up (World.drew w87) w_ → (fun w_ => Blk w_ b51 [.int .i64 x83, .int .i64 x84] 25 ∧ Blk w_ b54 [.int .i64 x85, .int .i64 x86] 25 ∧ True) w_ := fun w_ hu_ => ⟨h97.up ((Up.refl _).drew.trans hu_), h98.up ((Up.refl _).drew.trans hu_), True.intro⟩
   refine' wp_region_pure (fun w_ => Blk w_ b51 [.int .i64 x83, .int .i64 x84] 25 ∧ Blk w_ b54 [.int .i64 x85, .int .i64 x86] 25 ∧ True) 3 [1, 2] [Slot.det _, Slot.pur _, Slot.pur _] (by kernel_rfl) [false, true, true] (by kernel_rfl) rfl (by kernel_rfl) (by decide) hTT_ ?main
   case main =>
    simp only [List.take_succ_cons, List.take_zero]
    refine wpK_ops rfl (fun w1 hu => ?_) ?_
    · have cl0 := (h96.up ((Up.refl _).drew.trans hu)).cell (o := 0) rfl
      have cl1 := (h96.up ((Up.refl _).drew.trans hu)).cell (o := 1) rfl
      go_simp
      first | done | rfl
    simp only[nm]
    refine wpK_pur rfl hTT_ (fun w1 hT => ?_) ?_
    · have hB_ := hT.1
      have cl0 := hB_.cell (o := 0) rfl
      have cl1 := hB_.cell (o := 1) rfl
      clear hT
      go_simp
      first | done | rfl
    simp only[nm]
    refine wpK_pur rfl hTT_ (fun w1 hT => ?_) ?_
    · have hB_ := hT.2.1
      have cl0 := hB_.cell (o := 0) rfl
      have cl1 := hB_.cell (o := 1) rfl
      clear hT
      go_simp
      first | done | rfl
    simp only[nm]
    refine wpK_nil ?_
    intro w200 hu hap
    simp only [List.drop_succ_cons, List.drop_zero]
    replace hu := (Up.refl _).drew.trans hu
    clear hap
    have hu201 := Aside0.mk hu
    clear hu
    refine late_consT ⟨(h97.up hu201.out), (h98.up hu201.out), True.intro⟩ ?_
    refine stw [.int .i64 t12, .int .i64 t13] (h93.up hu201.out) rfl rfl rfl rfl rfl (by kernel_rfl) rfl rfl ?_
    intro w202 hs203 hb204
    have h205 := (h92.up hu201.out).sto hs203.out (Nat.ne_of_lt (Nat.lt_of_lt_of_le ltba0.out lbb2.out))
    have h207 := (h94.up hu201.out).sto hs203.out (Ne.symm (Nat.ne_of_lt (Nat.lt_of_lt_of_le ltb2.out lbb5.out)))
    have h208 := (h95.up hu201.out).sto hs203.out (Ne.symm (Nat.ne_of_lt (Nat.lt_of_lt_of_le (Nat.lt_of_lt_of_le ltb2.out (hu7.out.size)) lbb8.out)))
    have h210 := (h97.up hu201.out).sto hs203.out (Ne.symm (Nat.ne_of_lt (Nat.lt_of_lt_of_le (Nat.lt_of_lt_of_le ltb2.out ((Nat.le_trans ((Nat.le_trans ((Nat.le_trans ((Nat.le_trans ((Nat.le_trans (hu7.out.size) hu10.out.size)) hs19.out.size)) hs31.out.size)) hs43.out.size)) hu50.out.size))) lbb51.out)))
    have h211 := (h98.up hu201.out).sto hs203.out (Ne.symm (Nat.ne_of_lt (Nat.lt_of_lt_of_le (Nat.lt_of_lt_of_le ltb2.out ((Nat.le_trans ((Nat.le_trans ((Nat.le_trans ((Nat.le_trans ((Nat.le_trans ((Nat.le_trans (hu7.out.size) hu10.out.size)) hs19.out.size)) hs31.out.size)) hs43.out.size)) hu50.out.size)) hu53.out.size))) lbb54.out)))
    refine wpList_nil ?_
    refine wrapQ_k ?_
    refine late_consT ⟨h210, h211, True.intro⟩ ?_
    refine stw [.int .i64 x83, .int .i64 x84] h207 rfl rfl rfl rfl rfl (by kernel_rfl) rfl rfl ?_
    intro w212 hs213 hb214
    have h215 := h205.sto hs213.out (Nat.ne_of_lt (Nat.lt_of_lt_of_le (Nat.lt_of_lt_of_le ltba0.out (hu4.out.size)) lbb5.out))
    have h217 := hb204.sto hs213.out (Nat.ne_of_lt (Nat.lt_of_lt_of_le ltb2.out lbb5.out))
    have h218 := h208.sto hs213.out (Ne.symm (Nat.ne_of_lt (Nat.lt_of_lt_of_le ltb5.out lbb8.out)))
    have h220 := h210.sto hs213.out (Ne.symm (Nat.ne_of_lt (Nat.lt_of_lt_of_le (Nat.lt_of_lt_of_le ltb5.out ((Nat.le_trans ((Nat.le_trans ((Nat.le_trans ((Nat.le_trans (hu10.out.size) hs19.out.size)) hs31.out.size)) hs43.out.size)) hu50.out.size))) lbb51.out)))
    have h221 := h211.sto hs213.out (Ne.symm (Nat.ne_of_lt (Nat.lt_of_lt_of_le (Nat.lt_of_lt_of_le ltb5.out ((Nat.le_trans ((Nat.le_trans ((Nat.le_trans ((Nat.le_trans ((Nat.le_trans (hu10.out.size) hs19.out.size)) hs31.out.size)) hs43.out.size)) hu50.out.size)) hu53.out.size))) lbb54.out)))
    refine wpList_nil ?_
    refine wrapQ_k ?_
    refine late_consT ⟨h220, h221, True.intro⟩ ?_
    refine stw [.int .i64 x85, .int .i64 x86] h218 rfl rfl rfl rfl rfl (by kernel_rfl) rfl rfl ?_
    intro w222 hs223 hb224
    have h225 := h215.sto hs223.out (Nat.ne_of_lt (Nat.lt_of_lt_of_le (Nat.lt_of_lt_of_le ltba0.out ((Nat.le_trans (hu4.out.size) hu7.out.size))) lbb8.out))
    have h227 := h217.sto hs223.out (Nat.ne_of_lt (Nat.lt_of_lt_of_le (Nat.lt_of_lt_of_le ltb2.out (hu7.out.size)) lbb8.out))
    have h228 := hb214.sto hs223.out (Nat.ne_of_lt (Nat.lt_of_lt_of_le ltb5.out lbb8.out))
    have h230 := h220.sto hs223.out (Ne.symm (Nat.ne_of_lt (Nat.lt_of_lt_of_le (Nat.lt_of_lt_of_le ltb8.out ((Nat.le_trans ((Nat.le_trans ((Nat.le_trans (hs19.out.size) hs31.out.size)) hs43.out.size)) hu50.out.size))) lbb51.out)))
    have h231 := h221.sto hs223.out (Ne.symm (Nat.ne_of_lt (Nat.lt_of_lt_of_le (Nat.lt_of_lt_of_le ltb8.out ((Nat.le_trans ((Nat.le_trans ((Nat.le_trans ((Nat.le_trans (hs19.out.size) hs31.out.size)) hs43.out.size)) hu50.out.size)) hu53.out.size))) lbb54.out)))
    refine wpList_nil ?_
    refine wrapQ_k ?_
    refine late_nilT ⟨h230, h231, True.intro⟩ ?_
    refine hK199 _ _ ?_
    refine wp_ret ?_
    refine hQf _ _ _ ?_
    have cr0 := h227.cell (o := 0) rfl
    have cr1 := h227.cell (o := 1) rfl
    have cr2 := h228.cell (o := 0) rfl
    have cr3 := h228.cell (o := 1) rfl
    have cr4 := hb224.cell (o := 0) rfl
    have cr5 := hb224.cell (o := 1) rfl
    exact bodyPost_ret (v := .tuple #[.agg #[.int .i64 t12, .int .i64 t13], .agg #[.int .i64 x83, .int .i64 x84], .agg #[.int .i64 x85, .int .i64 x86]]) (by first|rfl|simp [results, Tryz.results116, go_sem, cr0, cr1, cr2, cr3, cr4, cr5]<;>rfl) rfl ⟨rfl, h225, (Grow.sto_young (Grow.sto_young (Grow.sto_young (hu88.out.trans (Grow.up hu201.out)) hs203.out (Nat.le_trans (Nat.le_refl _) lbb2.out)) hs213.out (Nat.le_trans (hu4.out.size) lbb5.out)) hs223.out (Nat.le_trans ((Nat.le_trans (hu4.out.size) hu7.out.size)) lbb8.out))⟩
  rw [if_pos c106] at H
  obtain ⟨t108,A109,H⟩:=bnd H;try dsimp only at H
  try simp only [c106, Bool.not_true, Bool.not_false]
  refine wpList_step fun k h=>?_;go_simp;apply h;clear h k
  have cl0 := h96.cell (o := 0) rfl
  have cl1 := h96.cell (o := 1) rfl
  refine wpList_step fun k h=>?_;go_simp;apply h;clear h k
  clear cl0 cl1
  have cl0 := h97.cell (o := 0) rfl
  have cl1 := h97.cell (o := 1) rfl
  refine wpList_step fun k h=>?_;go_simp;apply h;clear h k
  clear cl0 cl1
  have cl0 := h98.cell (o := 0) rfl
  have cl1 := h98.cell (o := 1) rfl
  refine wpList_step fun k h=>?_;go_simp;apply h;clear h k
  clear cl0 cl1
  refine step_call rfl (by go_simp <;> rfl) (spec_l01Area.calls K a1 t12 t13 x83 x84 x85 x86 t108 w87  A109.out) ?_
  rintro e w110 ⟨rfl, hu⟩
  have hu111 := Aside0.mk hu
  clear hu
  refine ⟨_, rfl, ?_⟩
  simp only[nm]
  refine wpList_step fun k h=>?_;go_simp;apply h;clear h k
  refine wpp fun k h=>?_;go_simp;apply h;clear h k
  refine wln (hK105 _ _ ?_)
  by_cases c112 : (t108 == 0) = true
  rotate_left
  ·
   rw [if_neg c112] at H; replace c112 := Bool.eq_false_iff.mpr c112
   have c112n : (t108 != 0) = true := by rw [bne, c112]; rfl
   have c112p : ¬ t108 = 0 := fun e => by simp [e] at c112
   simp only [Option.some.injEq, Prod.mk.injEq] at H
   obtain ⟨rfl, rfl, rfl, rfl, rfl, rfl, rfl, rfl⟩ := H
   try simp only [c112, c112n, Bool.not_true, Bool.not_false]
   refine wp_cond_false rfl ?_
   refine wp_exit ?_
   refine hK72 _ _ ?_
   refine wp_seq_k fun K166 hK166=>?_
   have hTT_ : ∀ w_, Up (World.drew w110) w_ → (fun w_ => Blk w_ b51 [.int .i64 x83, .int .i64 x84] 25 ∧ Blk w_ b54 [.int .i64 x85, .int .i64 x86] 25 ∧ True) w_ := fun w_ hu_ => ⟨(h97.up hu111.out).up ((Up.refl _).drew.trans hu_), (h98.up hu111.out).up ((Up.refl _).drew.trans hu_), True.intro⟩
   refine' wp_region_pure (fun w_ => Blk w_ b51 [.int .i64 x83, .int .i64 x84] 25 ∧ Blk w_ b54 [.int .i64 x85, .int .i64 x86] 25 ∧ True) 3 [1, 2] [Slot.det _, Slot.pur _, Slot.pur _] (by kernel_rfl) [false, true, true] (by kernel_rfl) rfl (by kernel_rfl) (by decide) hTT_ ?main
   case main =>
    simp only [List.take_succ_cons, List.take_zero]
    refine wpK_ops rfl (fun w1 hu => ?_) ?_
    · have cl0 := ((h96.up hu111.out).up ((Up.refl _).drew.trans hu)).cell (o := 0) rfl
      have cl1 := ((h96.up hu111.out).up ((Up.refl _).drew.trans hu)).cell (o := 1) rfl
      go_simp
      first | done | rfl
    simp only[nm]
    refine wpK_pur rfl hTT_ (fun w1 hT => ?_) ?_
    · have hB_ := hT.1
      have cl0 := hB_.cell (o := 0) rfl
      have cl1 := hB_.cell (o := 1) rfl
      clear hT
      go_simp
      first | done | rfl
    simp only[nm]
    refine wpK_pur rfl hTT_ (fun w1 hT => ?_) ?_
    · have hB_ := hT.2.1
      have cl0 := hB_.cell (o := 0) rfl
      have cl1 := hB_.cell (o := 1) rfl
      clear hT
      go_simp
      first | done | rfl
    simp only[nm]
    refine wpK_nil ?_
    intro w167 hu hap
    simp only [List.drop_succ_cons, List.drop_zero]
    replace hu := (Up.refl _).drew.trans hu
    clear hap
    have hu168 := Aside0.mk hu
    clear hu
    refine late_consT ⟨(h97.up (hu111.out.trans hu168.out)), (h98.up (hu111.out.trans hu168.out)), True.intro⟩ ?_
    refine stw [.int .i64 t12, .int .i64 t13] (h93.up (hu111.out.trans hu168.out)) rfl rfl rfl rfl rfl (by kernel_rfl) rfl rfl ?_
    intro w169 hs170 hb171
    have h172 := (h92.up (hu111.out.trans hu168.out)).sto hs170.out (Nat.ne_of_lt (Nat.lt_of_lt_of_le ltba0.out lbb2.out))
    have h174 := (h94.up (hu111.out.trans hu168.out)).sto hs170.out (Ne.symm (Nat.ne_of_lt (Nat.lt_of_lt_of_le ltb2.out lbb5.out)))
    have h175 := (h95.up (hu111.out.trans hu168.out)).sto hs170.out (Ne.symm (Nat.ne_of_lt (Nat.lt_of_lt_of_le (Nat.lt_of_lt_of_le ltb2.out (hu7.out.size)) lbb8.out)))
    have h177 := (h97.up (hu111.out.trans hu168.out)).sto hs170.out (Ne.symm (Nat.ne_of_lt (Nat.lt_of_lt_of_le (Nat.lt_of_lt_of_le ltb2.out ((Nat.le_trans ((Nat.le_trans ((Nat.le_trans ((Nat.le_trans ((Nat.le_trans (hu7.out.size) hu10.out.size)) hs19.out.size)) hs31.out.size)) hs43.out.size)) hu50.out.size))) lbb51.out)))
    have h178 := (h98.up (hu111.out.trans hu168.out)).sto hs170.out (Ne.symm (Nat.ne_of_lt (Nat.lt_of_lt_of_le (Nat.lt_of_lt_of_le ltb2.out ((Nat.le_trans ((Nat.le_trans ((Nat.le_trans ((Nat.le_trans ((Nat.le_trans ((Nat.le_trans (hu7.out.size) hu10.out.size)) hs19.out.size)) hs31.out.size)) hs43.out.size)) hu50.out.size)) hu53.out.size))) lbb54.out)))
    refine wpList_nil ?_
    refine wrapQ_k ?_
    refine late_consT ⟨h177, h178, True.intro⟩ ?_
    refine stw [.int .i64 x83, .int .i64 x84] h174 rfl rfl rfl rfl rfl (by kernel_rfl) rfl rfl ?_
    intro w179 hs180 hb181
    have h182 := h172.sto hs180.out (Nat.ne_of_lt (Nat.lt_of_lt_of_le (Nat.lt_of_lt_of_le ltba0.out (hu4.out.size)) lbb5.out))
    have h184 := hb171.sto hs180.out (Nat.ne_of_lt (Nat.lt_of_lt_of_le ltb2.out lbb5.out))
    have h185 := h175.sto hs180.out (Ne.symm (Nat.ne_of_lt (Nat.lt_of_lt_of_le ltb5.out lbb8.out)))
    have h187 := h177.sto hs180.out (Ne.symm (Nat.ne_of_lt (Nat.lt_of_lt_of_le (Nat.lt_of_lt_of_le ltb5.out ((Nat.le_trans ((Nat.le_trans ((Nat.le_trans ((Nat.le_trans (hu10.out.size) hs19.out.size)) hs31.out.size)) hs43.out.size)) hu50.out.size))) lbb51.out)))
    have h188 := h178.sto hs180.out (Ne.symm (Nat.ne_of_lt (Nat.lt_of_lt_of_le (Nat.lt_of_lt_of_le ltb5.out ((Nat.le_trans ((Nat.le_trans ((Nat.le_trans ((Nat.le_trans ((Nat.le_trans (hu10.out.size) hs19.out.size)) hs31.out.size)) hs43.out.size)) hu50.out.size)) hu53.out.size))) lbb54.out)))
    refine wpList_nil ?_
    refine wrapQ_k ?_
    refine late_consT ⟨h187, h188, True.intro⟩ ?_
    refine stw [.int .i64 x85, .int .i64 x86] h185 rfl rfl rfl rfl rfl (by kernel_rfl) rfl rfl ?_
    intro w189 hs190 hb191
    have h192 := h182.sto hs190.out (Nat.ne_of_lt (Nat.lt_of_lt_of_le (Nat.lt_of_lt_of_le ltba0.out ((Nat.le_trans (hu4.out.size) hu7.out.size))) lbb8.out))
    have h194 := h184.sto hs190.out (Nat.ne_of_lt (Nat.lt_of_lt_of_le (Nat.lt_of_lt_of_le ltb2.out (hu7.out.size)) lbb8.out))
    have h195 := hb181.sto hs190.out (Nat.ne_of_lt (Nat.lt_of_lt_of_le ltb5.out lbb8.out))
    have h197 := h187.sto hs190.out (Ne.symm (Nat.ne_of_lt (Nat.lt_of_lt_of_le (Nat.lt_of_lt_of_le ltb8.out ((Nat.le_trans ((Nat.le_trans ((Nat.le_trans (hs19.out.size) hs31.out.size)) hs43.out.size)) hu50.out.size))) lbb51.out)))
    have h198 := h188.sto hs190.out (Ne.symm (Nat.ne_of_lt (Nat.lt_of_lt_of_le (Nat.lt_of_lt_of_le ltb8.out ((Nat.le_trans ((Nat.le_trans ((Nat.le_trans ((Nat.le_trans (hs19.out.size) hs31.out.size)) hs43.out.size)) hu50.out.size)) hu53.out.size))) lbb54.out)))
    refine wpList_nil ?_
    refine wrapQ_k ?_
    refine late_nilT ⟨h197, h198, True.intro⟩ ?_
    refine hK166 _ _ ?_
    refine wp_ret ?_
    refine hQf _ _ _ ?_
    have cr0 := h194.cell (o := 0) rfl
    have cr1 := h194.cell (o := 1) rfl
    have cr2 := h195.cell (o := 0) rfl
    have cr3 := h195.cell (o := 1) rfl
    have cr4 := hb191.cell (o := 0) rfl
    have cr5 := hb191.cell (o := 1) rfl
    exact bodyPost_ret (v := .tuple #[.agg #[.int .i64 t12, .int .i64 t13], .agg #[.int .i64 x83, .int .i64 x84], .agg #[.int .i64 x85, .int .i64 x86]]) (by first|rfl|simp [results, Tryz.results116, go_sem, cr0, cr1, cr2, cr3, cr4, cr5]<;>rfl) rfl ⟨rfl, h192, (Grow.sto_young (Grow.sto_young (Grow.sto_young ((hu88.out.trans (Grow.up hu111.out)).trans (Grow.up hu168.out)) hs170.out (Nat.le_trans (Nat.le_refl _) lbb2.out)) hs180.out (Nat.le_trans (hu4.out.size) lbb5.out)) hs190.out (Nat.le_trans ((Nat.le_trans (hu4.out.size) hu7.out.size)) lbb8.out))⟩
  rw [if_pos c112] at H
  have c112n : (t108 != 0) = false := by rw [bne, c112]; rfl
  obtain ⟨⟨t115, t116, t117, t118⟩,A119,H⟩:=bnd H;try dsimp only at H
  obtain ⟨⟨t140, t141, t142, t143⟩,A144,H⟩:=bnd H;try dsimp only at H
  have HL165 := Aside0.mk H
  clear H
  try simp only [c112, c112n, Bool.not_true, Bool.not_false]
  refine wp_cond_true rfl ?_
  refine wp_skip ?_
  refine hK104 _ _ ?_
  refine wp_seq_k fun K113 hK113=>?_
  refine wp_block ?_
  refine wsr fun _ hK114=>?_
  iterate 2 (refine wpp fun k h=>?_;go_simp;apply h;clear h k)
  refine step_call wn (by go_simp <;> rfl) (spec_l01DrawPoint.calls K ba0 a0_0_A a0_0_c a0_0 x75 x76 a1 t115 t116 t117 t118 w110 (h92.up hu111.out) (h91.up hu111.out) haa0_0 A119.out) ?_
  rintro e w120 ⟨rfl, h121, hs⟩
  have hs122 := Aside0.mk hs
  clear hs
  have h123 := (h91.up hu111.out).growp hs122.out haa0_0
  have h124 := (h93.up hu111.out).grow hs122.out (fun k hk e => (Nat.ne_of_lt (Nat.lt_of_lt_of_le ltba0.out lbb2.out)) ((Option.some.inj hk).trans e))
  have h125 := (h94.up hu111.out).grow hs122.out (fun k hk e => (Nat.ne_of_lt (Nat.lt_of_lt_of_le (Nat.lt_of_lt_of_le ltba0.out (hu4.out.size)) lbb5.out)) ((Option.some.inj hk).trans e))
  have h126 := (h95.up hu111.out).grow hs122.out (fun k hk e => (Nat.ne_of_lt (Nat.lt_of_lt_of_le (Nat.lt_of_lt_of_le ltba0.out ((Nat.le_trans (hu4.out.size) hu7.out.size))) lbb8.out)) ((Option.some.inj hk).trans e))
  have h127 := (h96.up hu111.out).grow hs122.out (fun k hk e => (Nat.ne_of_lt (Nat.lt_of_lt_of_le (Nat.lt_of_lt_of_le ltba0.out ((Nat.le_trans ((Nat.le_trans ((Nat.le_trans ((Nat.le_trans ((Nat.le_trans (hu4.out.size) hu7.out.size)) hu10.out.size)) hs19.out.size)) hs31.out.size)) hs43.out.size))) lbb48.out)) ((Option.some.inj hk).trans e))
  have h128 := (h97.up hu111.out).grow hs122.out (fun k hk e => (Nat.ne_of_lt (Nat.lt_of_lt_of_le (Nat.lt_of_lt_of_le ltba0.out ((Nat.le_trans ((Nat.le_trans ((Nat.le_trans ((Nat.le_trans ((Nat.le_trans ((Nat.le_trans (hu4.out.size) hu7.out.size)) hu10.out.size)) hs19.out.size)) hs31.out.size)) hs43.out.size)) hu50.out.size))) lbb51.out)) ((Option.some.inj hk).trans e))
  have h129 := (h98.up hu111.out).grow hs122.out (fun k hk e => (Nat.ne_of_lt (Nat.lt_of_lt_of_le (Nat.lt_of_lt_of_le ltba0.out ((Nat.le_trans ((Nat.le_trans ((Nat.le_trans ((Nat.le_trans ((Nat.le_trans ((Nat.le_trans ((Nat.le_trans (hu4.out.size) hu7.out.size)) hu10.out.size)) hs19.out.size)) hs31.out.size)) hs43.out.size)) hu50.out.size)) hu53.out.size))) lbb54.out)) ((Option.some.inj hk).trans e))
  refine ⟨_, rfl, ?_⟩
  simp only[nm]
  refine stw [.int .i64 t115, .int .i64 t116] h128 rfl rfl rfl rfl rfl (by kernel_rfl) rfl rfl ?_
  intro w130 hs131 hb132
  have h133 := h121.sto hs131.out (Nat.ne_of_lt (Nat.lt_of_lt_of_le (Nat.lt_of_lt_of_le ltba0.out ((Nat.le_trans ((Nat.le_trans ((Nat.le_trans ((Nat.le_trans ((Nat.le_trans ((Nat.le_trans (hu4.out.size) hu7.out.size)) hu10.out.size)) hs19.out.size)) hs31.out.size)) hs43.out.size)) hu50.out.size))) lbb51.out))
  have h134 := Rd.sto (c := 0) h123 hs131.out (fun k hk hp => Nat.ne_of_lt (Nat.lt_of_lt_of_le (ha0_0.blk_lt hp k hk) ((Nat.le_trans ((Nat.le_trans ((Nat.le_trans ((Nat.le_trans ((Nat.le_trans ((Nat.le_trans ((Nat.le_trans (hu4.out.size) hu7.out.size)) hu10.out.size)) hs19.out.size)) hs31.out.size)) hs43.out.size)) hu50.out.size)) lbb51.out))))
  have h135 := h124.sto hs131.out (Nat.ne_of_lt (Nat.lt_of_lt_of_le (Nat.lt_of_lt_of_le ltb2.out ((Nat.le_trans ((Nat.le_trans ((Nat.le_trans ((Nat.le_trans ((Nat.le_trans (hu7.out.size) hu10.out.size)) hs19.out.size)) hs31.out.size)) hs43.out.size)) hu50.out.size))) lbb51.out))
  have h136 := h125.sto hs131.out (Nat.ne_of_lt (Nat.lt_of_lt_of_le (Nat.lt_of_lt_of_le ltb5.out ((Nat.le_trans ((Nat.le_trans ((Nat.le_trans ((Nat.le_trans (hu10.out.size) hs19.out.size)) hs31.out.size)) hs43.out.size)) hu50.out.size))) lbb51.out))
  have h137 := h126.sto hs131.out (Nat.ne_of_lt (Nat.lt_of_lt_of_le (Nat.lt_of_lt_of_le ltb8.out ((Nat.le_trans ((Nat.le_trans ((Nat.le_trans (hs19.out.size) hs31.out.size)) hs43.out.size)) hu50.out.size))) lbb51.out))
  have h138 := h127.sto hs131.out (Nat.ne_of_lt (Nat.lt_of_lt_of_le ltb48.out lbb51.out))
  have h139 := h129.sto hs131.out (Ne.symm (Nat.ne_of_lt (Nat.lt_of_lt_of_le ltb51.out lbb54.out)))
  refine wln (hK114 _ _ ?_)
  refine wp_region_lit ?_
  iterate 2 (refine wpp fun k h=>?_;go_simp;apply h;clear h k)
  refine step_call wn (by go_simp <;> rfl) (spec_l01DrawPoint.calls K ba0 a0_0_A a0_0_c a0_0 t117 t118 a1 t140 t141 t142 t143 w130 h133 h134 haa0_0 A144.out) ?_
  rintro e w145 ⟨rfl, h146, hs⟩
  have hs147 := Aside0.mk hs
  clear hs
  have h148 := h134.growp hs147.out haa0_0
  have h149 := h135.grow hs147.out (fun k hk e => (Nat.ne_of_lt (Nat.lt_of_lt_of_le ltba0.out lbb2.out)) ((Option.some.inj hk).trans e))
  have h150 := h136.grow hs147.out (fun k hk e => (Nat.ne_of_lt (Nat.lt_of_lt_of_le (Nat.lt_of_lt_of_le ltba0.out (hu4.out.size)) lbb5.out)) ((Option.some.inj hk).trans e))
  have h151 := h137.grow hs147.out (fun k hk e => (Nat.ne_of_lt (Nat.lt_of_lt_of_le (Nat.lt_of_lt_of_le ltba0.out ((Nat.le_trans (hu4.out.size) hu7.out.size))) lbb8.out)) ((Option.some.inj hk).trans e))
  have h152 := h138.grow hs147.out (fun k hk e => (Nat.ne_of_lt (Nat.lt_of_lt_of_le (Nat.lt_of_lt_of_le ltba0.out ((Nat.le_trans ((Nat.le_trans ((Nat.le_trans ((Nat.le_trans ((Nat.le_trans (hu4.out.size) hu7.out.size)) hu10.out.size)) hs19.out.size)) hs31.out.size)) hs43.out.size))) lbb48.out)) ((Option.some.inj hk).trans e))
  have h153 := hb132.grow hs147.out (fun k hk e => (Nat.ne_of_lt (Nat.lt_of_lt_of_le (Nat.lt_of_lt_of_le ltba0.out ((Nat.le_trans ((Nat.le_trans ((Nat.le_trans ((Nat.le_trans ((Nat.le_trans ((Nat.le_trans (hu4.out.size) hu7.out.size)) hu10.out.size)) hs19.out.size)) hs31.out.size)) hs43.out.size)) hu50.out.size))) lbb51.out)) ((Option.some.inj hk).trans e))
  have h154 := h139.grow hs147.out (fun k hk e => (Nat.ne_of_lt (Nat.lt_of_lt_of_le (Nat.lt_of_lt_of_le ltba0.out ((Nat.le_trans ((Nat.le_trans ((Nat.le_trans ((Nat.le_trans ((Nat.le_trans ((Nat.le_trans ((Nat.le_trans (hu4.out.size) hu7.out.size)) hu10.out.size)) hs19.out.size)) hs31.out.size)) hs43.out.size)) hu50.out.size)) hu53.out.size))) lbb54.out)) ((Option.some.inj hk).trans e))
  refine ⟨_, rfl, ?_⟩
  simp only[nm]
  refine stw [.int .i64 t140, .int .i64 t141] h154 rfl rfl rfl rfl rfl (by kernel_rfl) rfl rfl ?_
  intro w155 hs156 hb157
  have h158 := h146.sto hs156.out (Nat.ne_of_lt (Nat.lt_of_lt_of_le (Nat.lt_of_lt_of_le ltba0.out ((Nat.le_trans ((Nat.le_trans ((Nat.le_trans ((Nat.le_trans ((Nat.le_trans ((Nat.le_trans ((Nat.le_trans (hu4.out.size) hu7.out.size)) hu10.out.size)) hs19.out.size)) hs31.out.size)) hs43.out.size)) hu50.out.size)) hu53.out.size))) lbb54.out))
  have h159 := Rd.sto (c := 0) h148 hs156.out (fun k hk hp => Nat.ne_of_lt (Nat.lt_of_lt_of_le (ha0_0.blk_lt hp k hk) ((Nat.le_trans ((Nat.le_trans ((Nat.le_trans ((Nat.le_trans ((Nat.le_trans ((Nat.le_trans ((Nat.le_trans ((Nat.le_trans (hu4.out.size) hu7.out.size)) hu10.out.size)) hs19.out.size)) hs31.out.size)) hs43.out.size)) hu50.out.size)) hu53.out.size)) lbb54.out))))
  have h160 := h149.sto hs156.out (Nat.ne_of_lt (Nat.lt_of_lt_of_le (Nat.lt_of_lt_of_le ltb2.out ((Nat.le_trans ((Nat.le_trans ((Nat.le_trans ((Nat.le_trans ((Nat.le_trans ((Nat.le_trans (hu7.out.size) hu10.out.size)) hs19.out.size)) hs31.out.size)) hs43.out.size)) hu50.out.size)) hu53.out.size))) lbb54.out))
  have h161 := h150.sto hs156.out (Nat.ne_of_lt (Nat.lt_of_lt_of_le (Nat.lt_of_lt_of_le ltb5.out ((Nat.le_trans ((Nat.le_trans ((Nat.le_trans ((Nat.le_trans ((Nat.le_trans (hu10.out.size) hs19.out.size)) hs31.out.size)) hs43.out.size)) hu50.out.size)) hu53.out.size))) lbb54.out))
  have h162 := h151.sto hs156.out (Nat.ne_of_lt (Nat.lt_of_lt_of_le (Nat.lt_of_lt_of_le ltb8.out ((Nat.le_trans ((Nat.le_trans ((Nat.le_trans ((Nat.le_trans (hs19.out.size) hs31.out.size)) hs43.out.size)) hu50.out.size)) hu53.out.size))) lbb54.out))
  have h163 := h152.sto hs156.out (Nat.ne_of_lt (Nat.lt_of_lt_of_le (Nat.lt_of_lt_of_le ltb48.out (hu53.out.size)) lbb54.out))
  have h164 := h153.sto hs156.out (Nat.ne_of_lt (Nat.lt_of_lt_of_le ltb51.out lbb54.out))
  refine wln (hK113 _ _ ?_)
  refine wp_region_lit ?_
  iterate 3 (refine wpp fun k h=>?_;go_simp;apply h;clear h k)
  refine wln (hK102 _ _ ?_)
  go_roundg k99
  case measure => exact Nat.lt_succ_self _
  case rel => exact ⟨wrap64 (x74 + 1), t142, t143, x77, x78, x79, x80, x81, x82, t115, t116, t140, t141, (by first | rfl | simp), HL165, ⟨by have := hk100.out; omega⟩, ⟨(Grow.sto_young ((Grow.sto_young ((hu88.out.trans (Grow.up hu111.out)).trans hs122.out) hs131.out (Nat.le_trans ((Nat.le_trans ((Nat.le_trans ((Nat.le_trans ((Nat.le_trans ((Nat.le_trans ((Nat.le_trans (hu4.out.size) hu7.out.size)) hu10.out.size)) hs19.out.size)) hs31.out.size)) hs43.out.size)) hu50.out.size)) lbb51.out)).trans hs147.out) hs156.out (Nat.le_trans ((Nat.le_trans ((Nat.le_trans ((Nat.le_trans ((Nat.le_trans ((Nat.le_trans ((Nat.le_trans ((Nat.le_trans (hu4.out.size) hu7.out.size)) hu10.out.size)) hs19.out.size)) hs31.out.size)) hs43.out.size)) hu50.out.size)) hu53.out.size)) lbb54.out))⟩, ⟨(Nat.le_trans ((Nat.le_trans ((Nat.le_trans ((Nat.le_trans ((Nat.le_trans ((Nat.le_trans (Nat.le_refl _) hz89.out)) hu111.out.size)) hs122.out.size)) (Nat.le_of_eq hs131.out.size.symm))) hs147.out.size)) (Nat.le_of_eq hs156.out.size.symm))⟩, h159, h158, h160, h161, h162, h163, h164, hb157⟩

set_option maxHeartbeats 40000000 in
set_option maxRecDepth 100000 in
theorem spec_l01Plus.calls (K : Nat) (a0 : Int) (a1_0 : Int) (a1_1 : Int) (a2_0 : Int) (a2_1 : Int) (r0 : Int) (r1 : Int) (w : World)  (h : spec_l01Plus.f K a0 a1_0 a1_1 a2_0 a2_1 = some (r0, r1)) :
    Calls Tryz.prog 62 #[.int .i64 a0, .agg #[.int .i64 a1_0, .int .i64 a1_1], .agg #[.int .i64 a2_0, .int .i64 a2_1]] w fun e w' => e = .returned (.agg #[.int .i64 r0, .int .i64 r1]) ∧ Up w w' := by
 have H : (((spec_l01Mod.f K (wrap64 (a1_0 + a2_0)) a0).bind fun t12 => ((spec_l01Mod.f K (wrap64 (a1_1 + a2_1)) a0).bind fun t14 => some (t12, t14))) : Option (Int × Int)) = some (r0, r1) := h
 clear h
 obtain ⟨t12,A13,H⟩:=bnd H;try dsimp only at H
 obtain ⟨t14,A15,H⟩:=bnd H;try dsimp only at H
 simp only [Option.some.injEq, Prod.mk.injEq] at H
 obtain ⟨rfl, rfl⟩ := H
 go_enter Tryz.func62, Tryz.ntmps62
 refine wp_hide (fun Qf hQf => ?_)
 refine wsr fun _ hK1=>?_
 refine stp (cs := [.int .i64 a1_0, .int .i64 a1_1]) (T := 25) ?_
 intro b2 w3 hu4 lbb2 ltb2 hb2
 simp only[nm]
 refine stp (cs := [.int .i64 a2_0, .int .i64 a2_1]) (T := 25) ?_
 intro b5 w6 hu7 lbb5 ltb5 hb5
 simp only[nm]
 refine stp (cs := [.int .i64 0, .int .i64 0]) (T := 25) ?_
 intro b8 w9 hu10 lbb8 ltb8 hb8
 simp only[nm]
 refine wln (hK1 _ _ ?_)
 refine wp_seq_k fun K11 hK11=>?_
 refine' wp_region_up 15 [Slot.det _, Slot.det _, Slot.det _, Slot.det _, Slot.det _, Slot.det _, Slot.det (.int .i64 t12), Slot.det _, Slot.det _, Slot.det _, Slot.det _, Slot.det _, Slot.det _, Slot.det (.int .i64 t14), Slot.det _] (by kernel_rfl) (by kernel_rfl) ?main
 case main =>
  simp only [List.take_succ_cons, List.take_zero]
  refine wpK_ops rfl (fun w1 hu => ?_) ?_
  · clear hu
    go_simp
    first | done | rfl
  simp only[nm]
  refine wpK_ops rfl (fun w1 hu => ?_) ?_
  · have cl0 := ((hb2.up (hu7.out.trans hu10.out)).up ((Up.refl _).drew.trans hu)).cell (o := 0) rfl
    go_simp
    first | done | rfl
  simp only[nm]
  refine wpK_ops rfl (fun w1 hu => ?_) ?_
  · clear hu
    go_simp
    first | done | rfl
  simp only[nm]
  refine wpK_ops rfl (fun w1 hu => ?_) ?_
  · have cl0 := ((hb5.up hu10.out).up ((Up.refl _).drew.trans hu)).cell (o := 0) rfl
    go_simp
    first | done | rfl
  simp only[nm]
  refine wpK_ops rfl (fun w1 hu => ?_) ?_
  · clear hu
    go_simp
    first | done | rfl
  simp only[nm]
  refine wpK_ops rfl (fun w1 hu => ?_) ?_
  · clear hu
    go_simp
    first | done | rfl
  simp only[nm]
  refine wpK_ops rfl (fun w1 hu => ?_) ?_
  · have hcl := (spec_l01Mod.calls K (wrap64 (a1_0 + a2_0)) a0 t12 w1  A13.out)
    clear hu
    replace hcl := Aside0.mk hcl
    go_simp
    exact hcl.out
  simp only[nm]
  refine wpK_ops rfl (fun w1 hu => ?_) ?_
  · clear hu
    go_simp
    first | done | rfl
  simp only[nm]
  refine wpK_ops rfl (fun w1 hu => ?_) ?_
  · have cl0 := ((hb2.up (hu7.out.trans hu10.out)).up ((Up.refl _).drew.trans hu)).cell (o := 1) rfl
    go_simp
    first | done | rfl
  simp only[nm]
  refine wpK_ops rfl (fun w1 hu => ?_) ?_
  · clear hu
    go_simp
    first | done | rfl
  simp only[nm]
  refine wpK_ops rfl (fun w1 hu => ?_) ?_
  · have cl0 := ((hb5.up hu10.out).up ((Up.refl _).drew.trans hu)).cell (o := 1) rfl
    go_simp
    first | done | rfl
  simp only[nm]
  refine wpK_ops rfl (fun w1 hu => ?_) ?_
  · clear hu
    go_simp
    first | done | rfl
  simp only[nm]
  refine wpK_ops rfl (fun w1 hu => ?_) ?_
  · clear hu
    go_simp
    first | done | rfl
  simp only[nm]
  refine wpK_ops rfl (fun w1 hu => ?_) ?_
  · have hcl := (spec_l01Mod.calls K (wrap64 (a1_1 + a2_1)) a0 t14 w1  A15.out)
    clear hu
    replace hcl := Aside0.mk hcl
    go_simp
    exact hcl.out
  simp only[nm]
  refine wpK_ops rfl (fun w1 hu => ?_) ?_
  · clear hu
    go_simp
    first | done | rfl
  simp only[nm]
  refine wpK_nil ?_
  intro w16 hu hap
  simp only [List.drop_succ_cons, List.drop_zero]
  replace hu := (Up.refl _).drew.trans hu
  clear hap
  have hu17 := Aside0.mk hu
  clear hu
  refine stw [.int .i64 t12, .int .i64 t14] (hb8.up hu17.out) rfl rfl rfl rfl rfl (by kernel_rfl) rfl rfl ?_
  intro w18 hs19 hb20
  refine wln (hK11 _ _ ?_)
  refine wp_ret ?_
  refine hQf _ _ _ ?_
  have cr0 := hb20.cell (o := 0) rfl
  have cr1 := hb20.cell (o := 1) rfl
  exact bodyPost_ret (v := .agg #[.int .i64 t12, .int .i64 t14]) (by first|rfl|simp [results, Tryz.results62, go_sem, cr0, cr1]<;>rfl) rfl ⟨rfl, ((((hu4.out.trans hu7.out).trans hu10.out).trans hu17.out).sto (Nat.le_trans ((Nat.le_trans (hu4.out.size) hu7.out.size)) lbb8.out) hs19.out)⟩

set_option maxHeartbeats 40000000 in
set_option maxRecDepth 100000 in
theorem spec_l01Times.calls (K : Nat) (a0 : Int) (a1 : Int) (a2_0 : Int) (a2_1 : Int) (r0 : Int) (r1 : Int) (w : World)  (h : spec_l01Times.f K a0 a1 a2_0 a2_1 = some (r0, r1)) :
    Calls Tryz.prog 63 #[.int .i64 a0, .int .i64 a1, .agg #[.int .i64 a2_0, .int .i64 a2_1]] w fun e w' => e = .returned (.agg #[.int .i64 r0, .int .i64 r1]) ∧ Up w w' := by
 have H : (((spec_l01Mod.f K (wrap64 (a1 * a2_0)) a0).bind fun t9 => ((spec_l01Mod.f K (wrap64 (a1 * a2_1)) a0).bind fun t11 => some (t9, t11))) : Option (Int × Int)) = some (r0, r1) := h
 clear h
 obtain ⟨t9,A10,H⟩:=bnd H;try dsimp only at H
 obtain ⟨t11,A12,H⟩:=bnd H;try dsimp only at H
 simp only [Option.some.injEq, Prod.mk.injEq] at H
 obtain ⟨rfl, rfl⟩ := H
 go_enter Tryz.func63, Tryz.ntmps63
 refine wp_hide (fun Qf hQf => ?_)
 refine wsr fun _ hK1=>?_
 refine stp (cs := [.int .i64 a2_0, .int .i64 a2_1]) (T := 25) ?_
 intro b2 w3 hu4 lbb2 ltb2 hb2
 simp only[nm]
 refine stp (cs := [.int .i64 0, .int .i64 0]) (T := 25) ?_
 intro b5 w6 hu7 lbb5 ltb5 hb5
 simp only[nm]
 refine wln (hK1 _ _ ?_)
 refine wp_seq_k fun K8 hK8=>?_
 refine' wp_region_up 13 [Slot.det _, Slot.det _, Slot.det _, Slot.det _, Slot.det _, Slot.det (.int .i64 t9), Slot.det _, Slot.det _, Slot.det _, Slot.det _, Slot.det _, Slot.det (.int .i64 t11), Slot.det _] (by kernel_rfl) (by kernel_rfl) ?main
 case main =>
  simp only [List.take_succ_cons, List.take_zero]
  refine wpK_ops rfl (fun w1 hu => ?_) ?_
  · clear hu
    go_simp
    first | done | rfl
  simp only[nm]
  refine wpK_ops rfl (fun w1 hu => ?_) ?_
  · clear hu
    go_simp
    first | done | rfl
  simp only[nm]
  refine wpK_ops rfl (fun w1 hu => ?_) ?_
  · have cl0 := ((hb2.up hu7.out).up ((Up.refl _).drew.trans hu)).cell (o := 0) rfl
    go_simp
    first | done | rfl
  simp only[nm]
  refine wpK_ops rfl (fun w1 hu => ?_) ?_
  · clear hu
    go_simp
    first | done | rfl
  simp only[nm]
  refine wpK_ops rfl (fun w1 hu => ?_) ?_
  · clear hu
    go_simp
    first | done | rfl
  simp only[nm]
  refine wpK_ops rfl (fun w1 hu => ?_) ?_
  · have hcl := (spec_l01Mod.calls K (wrap64 (a1 * a2_0)) a0 t9 w1  A10.out)
    clear hu
    replace hcl := Aside0.mk hcl
    go_simp
    exact hcl.out
  simp only[nm]
  refine wpK_ops rfl (fun w1 hu => ?_) ?_
  · clear hu
    go_simp
    first | done | rfl
  simp only[nm]
  refine wpK_ops rfl (fun w1 hu => ?_) ?_
  · clear hu
    go_simp
    first | done | rfl
  simp only[nm]
  refine wpK_ops rfl (fun w1 hu => ?_) ?_
  · have cl0 := ((hb2.up hu7.out).up ((Up.refl _).drew.trans hu)).cell (o := 1) rfl
    go_simp
    first | done | rfl
  simp only[nm]
  refine wpK_ops rfl (fun w1 hu => ?_) ?_
  · clear hu
    go_simp
    first | done | rfl
  simp only[nm]
  refine wpK_ops rfl (fun w1 hu => ?_) ?_
  · clear hu
    go_simp
    first | done | rfl
  simp only[nm]
  refine wpK_ops rfl (fun w1 hu => ?_) ?_
  · have hcl := (spec_l01Mod.calls K (wrap64 (a1 * a2_1)) a0 t11 w1  A12.out)
    clear hu
    replace hcl := Aside0.mk hcl
    go_simp
    exact hcl.out
  simp only[nm]
  refine wpK_ops rfl (fun w1 hu => ?_) ?_
  · clear hu
    go_simp
    first | done | rfl
  simp only[nm]
  refine wpK_nil ?_
  intro w13 hu hap
  simp only [List.drop_succ_cons, List.drop_zero]
  replace hu := (Up.refl _).drew.trans hu
  clear hap
  have hu14 := Aside0.mk hu
  clear hu
  refine stw [.int .i64 t9, .int .i64 t11] (hb5.up hu14.out) rfl rfl rfl rfl rfl (by kernel_rfl) rfl rfl ?_
  intro w15 hs16 hb17
  refine wln (hK8 _ _ ?_)
  refine wp_ret ?_
  refine hQf _ _ _ ?_
  have cr0 := hb17.cell (o := 0) rfl
  have cr1 := hb17.cell (o := 1) rfl
  exact bodyPost_ret (v := .agg #[.int .i64 t9, .int .i64 t11]) (by first|rfl|simp [results, Tryz.results63, go_sem, cr0, cr1]<;>rfl) rfl ⟨rfl, (((hu4.out.trans hu7.out).trans hu14.out).sto (Nat.le_trans (hu4.out.size) lbb5.out) hs16.out)⟩

set_option maxHeartbeats 40000000 in
set_option maxRecDepth 100000 in
theorem spec_l01Middle.calls (K : Nat) (a0 : Int) (a1_0 : Int) (a1_1 : Int) (a2_0 : Int) (a2_1 : Int) (r0 : Int) (r1 : Int) (w : World)  (h : spec_l01Middle.f K a0 a1_0 a1_1 a2_0 a2_1 = some (r0, r1)) :
    Calls Tryz.prog 117 #[.int .i64 a0, .agg #[.int .i64 a1_0, .int .i64 a1_1], .agg #[.int .i64 a2_0, .int .i64 a2_1]] w fun e w' => e = .returned (.agg #[.int .i64 r0, .int .i64 r1]) ∧ Up w w' := by
 have H : (((spec_l01Plus.f K a0 a1_0 a1_1 a2_0 a2_1).bind fun (t12, t13) => ((spec_l01Times.f K a0 (wrap64 (Int.tdiv (wrap64 (a0 + 1)) 2)) t12 t13).bind fun (t17, t18) => some (t17, t18))) : Option (Int × Int)) = some (r0, r1) := h
 clear h
 obtain ⟨⟨t12, t13⟩,A14,H⟩:=bnd H;try dsimp only at H
 obtain ⟨⟨t17, t18⟩,A19,H⟩:=bnd H;try dsimp only at H
 simp only [Option.some.injEq, Prod.mk.injEq] at H
 obtain ⟨rfl, rfl⟩ := H
 go_enter Tryz.func117, Tryz.ntmps117
 refine wp_hide (fun Qf hQf => ?_)
 refine wsr fun _ hK1=>?_
 refine stp (cs := [.int .i64 a1_0, .int .i64 a1_1]) (T := 25) ?_
 intro b2 w3 hu4 lbb2 ltb2 hb2
 simp only[nm]
 refine stp (cs := [.int .i64 a2_0, .int .i64 a2_1]) (T := 25) ?_
 intro b5 w6 hu7 lbb5 ltb5 hb5
 simp only[nm]
 refine stp (cs := [.int .i64 0, .int .i64 0]) (T := 25) ?_
 intro b8 w9 hu10 lbb8 ltb8 hb8
 simp only[nm]
 refine wln (hK1 _ _ ?_)
 refine wsr fun _ hK11=>?_
 iterate 5 (refine wpp fun k h=>?_;go_simp;apply h;clear h k)
 have cl0 := (hb2.up (hu7.out.trans hu10.out)).cell (o := 0) rfl
 have cl1 := (hb2.up (hu7.out.trans hu10.out)).cell (o := 1) rfl
 refine wpp fun k h=>?_;go_simp;apply h;clear h k
 clear cl0 cl1
 have cl0 := (hb5.up hu10.out).cell (o := 0) rfl
 have cl1 := (hb5.up hu10.out).cell (o := 1) rfl
 refine wpp fun k h=>?_;go_simp;apply h;clear h k
 clear cl0 cl1
 refine stc (spec_l01Plus.calls K a0 a1_0 a1_1 a2_0 a2_1 t12 t13 w9  A14.out) ?_
 intro w15 hu16
 simp only[nm]
 refine stc (spec_l01Times.calls K a0 (wrap64 (Int.tdiv (wrap64 (a0 + 1)) 2)) t12 t13 t17 t18 w15  A19.out) ?_
 intro w20 hu21
 simp only[nm]
 refine stw [.int .i64 t17, .int .i64 t18] (hb8.up (hu16.out.trans hu21.out)) rfl rfl rfl rfl rfl (by kernel_rfl) rfl rfl ?_
 intro w22 hs23 hb24
 refine wln (hK11 _ _ ?_)
 refine wp_ret ?_
 refine hQf _ _ _ ?_
 have cr0 := hb24.cell (o := 0) rfl
 have cr1 := hb24.cell (o := 1) rfl
 exact bodyPost_ret (v := .agg #[.int .i64 t17, .int .i64 t18]) (by first|rfl|simp [results, Tryz.results117, go_sem, cr0, cr1]<;>rfl) rfl ⟨rfl, (((((hu4.out.trans hu7.out).trans hu10.out).trans hu16.out).trans hu21.out).sto (Nat.le_trans ((Nat.le_trans (hu4.out.size) hu7.out.size)) lbb8.out) hs23.out)⟩

set_option maxHeartbeats 40000000 in
set_option maxRecDepth 100000 in
theorem spec_l04Draw.calls (K : Nat) (a0_A : Option Addr) (a0_c : Nat) (a0 : List (Int)) (r0 : Int) (r1 : Int) (r2 : Int) (r3 : Int) (r4 : Int) (r5 : Int) (r6 : Int) (r7 : Int) (w : World) (ha0 : Rd eU8 w a0_A a0) (h : spec_l04Draw.f K a0 = some (r0, r1, r2, r3, r4, r5, r6, r7)) :
    Calls Tryz.prog 89 #[.slice a0_A a0.length a0_c] w fun e w' => e = .returned (.tuple #[.int .i64 r0, .int .i64 r1, .agg #[.int .i64 r2, .int .i64 r3], .agg #[.int .i64 r4, .int .i64 r5], .agg #[.int .i64 r6, .int .i64 r7]]) ∧ Up w w' := by
 have H : (((spec_l01From.f K a0).bind fun (t13, t14) => ((spec_l01DrawField.f K a0 t13 t14).bind fun (t19, t20, t21) => ((spec_l04DrawOf.f K a0 t20 t21 t19).bind fun (t27, t28, t29, t30, t31, t32, t33, t34) => ((spec_l02DrawColour.f K a0 t33 t34).bind fun (t64, t65, t66) => ((spec_l01Next.f K a0 t65 t66 24).bind fun (t76, t77, t78) => (if (t76 == 0) = true then ((spec_l01Middle.f K t19 t27 t28 t29 t30).bind fun (t91, t92) => ((spec_l01BadField.f K a0 t77 t78 t19).bind fun (t110, t111, t112) => ((spec_l01BadPoint.f K a0 t111 t112 t19 t27 t28).bind fun (t123, t124, t125, t126) => ((spec_l01BadPoint.f K a0 t125 t126 t19 t29 t30).bind fun (t137, t138, t139, t140) => ((spec_l01BadPoint.f K a0 t139 t140 t19 t91 t92).bind fun (t151, t152, t153, t154) => some (t110, t64, t123, t124, t137, t138, t151, t152)))))) else ((spec_l01BadField.f K a0 t77 t78 t19).bind fun (t197, t198, t199) => ((spec_l01BadPoint.f K a0 t198 t199 t19 t27 t28).bind fun (t210, t211, t212, t213) => ((spec_l01BadPoint.f K a0 t212 t213 t19 t29 t30).bind fun (t224, t225, t226, t227) => ((spec_l01BadPoint.f K a0 t226 t227 t19 t31 t32).bind fun (t238, t239, t240, t241) => some (t197, t64, t210, t211, t224, t225, t238, t239))))))))))) : Option (Int × Int × Int × Int × Int × Int × Int × Int)) = some (r0, r1, r2, r3, r4, r5, r6, r7) := h
 clear h
 obtain ⟨⟨t13, t14⟩,A15,H⟩:=bnd H;try dsimp only at H
 obtain ⟨⟨t19, t20, t21⟩,A22,H⟩:=bnd H;try dsimp only at H
 obtain ⟨⟨t27, t28, t29, t30, t31, t32, t33, t34⟩,A35,H⟩:=bnd H;try dsimp only at H
 obtain ⟨⟨t64, t65, t66⟩,A67,H⟩:=bnd H;try dsimp only at H
 obtain ⟨⟨t76, t77, t78⟩,A79,H⟩:=bnd H;try dsimp only at H
 go_enter Tryz.func89, Tryz.ntmps89
 refine wp_hide (fun Qf hQf => ?_)
 refine wsr fun _ hK1=>?_
 iterate 2 (refine wpp fun k h=>?_;go_simp;apply h;clear h k)
 refine stp (cs := [.int .i64 0, .int .i64 0]) (T := 25) ?_
 intro b2 w3 hu4 lbb2 ltb2 hb2
 simp only[nm]
 refine stp (cs := [.int .i64 0, .int .i64 0]) (T := 25) ?_
 intro b5 w6 hu7 lbb5 ltb5 hb5
 simp only[nm]
 refine stp (cs := [.int .i64 0, .int .i64 0]) (T := 25) ?_
 intro b8 w9 hu10 lbb8 ltb8 hb8
 simp only[nm]
 refine wln (hK1 _ _ ?_)
 refine wsr fun _ hK11=>?_
 refine wpp fun k h=>?_;go_simp;apply h;clear h k
 refine step_call wn (by go_simp <;> rfl) (spec_l01From.calls K a0_A a0_c a0 t13 t14 w9 (ha0.up ((hu4.out.trans hu7.out).trans hu10.out)) A15.out) ?_
 rintro e w16 ⟨b12, rfl, hb12, lb, hu⟩
 have lbb12 := lb
 have ltb12 := Aside0.mk hb12.lt
 clear lb
 have hu17 := Aside0.mk hu
 clear hu
 refine ⟨_, rfl, ?_⟩
 simp only[nm]
 refine wpp fun k h=>?_;go_simp;apply h;clear h k
 refine wln (hK11 _ _ ?_)
 refine wsr fun _ hK18=>?_
 refine wpp fun k h=>?_;go_simp;apply h;clear h k
 refine step_call wn (by go_simp <;> rfl) (spec_l01DrawField.calls K b12 a0_A a0_c a0 t13 t14 t19 t20 t21 w16 hb12 (ha0.up (((hu4.out.trans hu7.out).trans hu10.out).trans hu17.out)) (fun k hk hp => Nat.ne_of_lt (Nat.lt_of_lt_of_le ((ha0.up ((hu4.out.trans hu7.out).trans hu10.out)).blk_lt hp k hk) lbb12.out)) A22.out) ?_
 rintro e w23 ⟨rfl, h24, hs⟩
 have hs25 := Aside0.mk hs
 clear hs
 refine ⟨_, rfl, ?_⟩
 simp only[nm]
 refine wpp fun k h=>?_;go_simp;apply h;clear h k
 refine wln (hK18 _ _ ?_)
 refine wsr fun _ hK26=>?_
 iterate 2 (refine wpp fun k h=>?_;go_simp;apply h;clear h k)
 refine step_call wn (by go_simp <;> rfl) (spec_l04DrawOf.calls K b12 a0_A a0_c a0 t20 t21 t19 t27 t28 t29 t30 t31 t32 t33 t34 w23 h24 (ha0.up ((((hu4.out.trans hu7.out).trans hu10.out).trans hu17.out).grow hs25.out (fun k hk => Nat.le_trans ((Nat.le_trans ((Nat.le_trans (hu4.out.size) hu7.out.size)) hu10.out.size)) ((fun k hk => Nat.le_trans lbb12.out (Nat.le_of_eq (Option.some.inj hk))) k hk)))) (fun k hk hp => Nat.ne_of_lt (Nat.lt_of_lt_of_le ((ha0.up ((hu4.out.trans hu7.out).trans hu10.out)).blk_lt hp k hk) lbb12.out)) A35.out) ?_
 rintro e w36 ⟨rfl, h37, hs⟩
 have hs38 := Aside0.mk hs
 clear hs
 refine ⟨_, rfl, ?_⟩
 simp only[nm]
 iterate 4 (refine wpp fun k h=>?_;go_simp;apply h;clear h k)
 refine stp (cs := [.int .i64 0, .int .i64 0]) (T := 25) ?_
 intro b39 w40 hu41 lbb39 ltb39 hb39
 simp only[nm]
 refine stp (cs := [.int .i64 0, .int .i64 0]) (T := 25) ?_
 intro b42 w43 hu44 lbb42 ltb42 hb42
 simp only[nm]
 refine stp (cs := [.int .i64 0, .int .i64 0]) (T := 25) ?_
 intro b45 w46 hu47 lbb45 ltb45 hb45
 simp only[nm]
 refine stw [.int .i64 t27, .int .i64 t28] (hb39.up (hu44.out.trans hu47.out)) rfl rfl rfl rfl rfl (by kernel_rfl) rfl rfl ?_
 intro w48 hs49 hb50
 have h51 := (hb42.up hu47.out).sto hs49.out (Ne.symm (Nat.ne_of_lt (Nat.lt_of_lt_of_le ltb39.out lbb42.out)))
 have h52 := hb45.sto hs49.out (Ne.symm (Nat.ne_of_lt (Nat.lt_of_lt_of_le (Nat.lt_of_lt_of_le ltb39.out (hu44.out.size)) lbb45.out)))
 refine stw [.int .i64 t29, .int .i64 t30] h51 rfl rfl rfl rfl rfl (by kernel_rfl) rfl rfl ?_
 intro w53 hs54 hb55
 have h56 := hb50.sto hs54.out (Nat.ne_of_lt (Nat.lt_of_lt_of_le ltb39.out lbb42.out))
 have h57 := h52.sto hs54.out (Ne.symm (Nat.ne_of_lt (Nat.lt_of_lt_of_le ltb42.out lbb45.out)))
 refine stw [.int .i64 t31, .int .i64 t32] h57 rfl rfl rfl rfl rfl (by kernel_rfl) rfl rfl ?_
 intro w58 hs59 hb60
 have h61 := h56.sto hs59.out (Nat.ne_of_lt (Nat.lt_of_lt_of_le (Nat.lt_of_lt_of_le ltb39.out (hu44.out.size)) lbb45.out))
 have h62 := hb55.sto hs59.out (Nat.ne_of_lt (Nat.lt_of_lt_of_le ltb42.out lbb45.out))
 refine wln (hK26 _ _ ?_)
 refine wsr fun _ hK63=>?_
 refine wpp fun k h=>?_;go_simp;apply h;clear h k
 refine step_call wn (by go_simp <;> rfl) (spec_l02DrawColour.calls K b12 a0_A a0_c a0 t33 t34 t64 t65 t66 w58 (h37.up (((((hu41.out.trans hu44.out).trans hu47.out).sto (Nat.le_trans (Nat.le_refl _) lbb39.out) hs49.out).sto (Nat.le_trans (hu41.out.size) lbb42.out) hs54.out).sto (Nat.le_trans ((Nat.le_trans (hu41.out.size) hu44.out.size)) lbb45.out) hs59.out)) (ha0.up (((((((((((hu4.out.trans hu7.out).trans hu10.out).trans hu17.out).grow hs25.out (fun k hk => Nat.le_trans ((Nat.le_trans ((Nat.le_trans (hu4.out.size) hu7.out.size)) hu10.out.size)) ((fun k hk => Nat.le_trans lbb12.out (Nat.le_of_eq (Option.some.inj hk))) k hk))).grow hs38.out (fun k hk => Nat.le_trans ((Nat.le_trans ((Nat.le_trans (hu4.out.size) hu7.out.size)) hu10.out.size)) ((fun k hk => Nat.le_trans lbb12.out (Nat.le_of_eq (Option.some.inj hk))) k hk))).trans hu41.out).trans hu44.out).trans hu47.out).sto (Nat.le_trans ((Nat.le_trans ((Nat.le_trans ((Nat.le_trans ((Nat.le_trans ((Nat.le_trans (hu4.out.size) hu7.out.size)) hu10.out.size)) hu17.out.size)) hs25.out.size)) hs38.out.size)) lbb39.out) hs49.out).sto (Nat.le_trans ((Nat.le_trans ((Nat.le_trans ((Nat.le_trans ((Nat.le_trans ((Nat.le_trans ((Nat.le_trans (hu4.out.size) hu7.out.size)) hu10.out.size)) hu17.out.size)) hs25.out.size)) hs38.out.size)) hu41.out.size)) lbb42.out) hs54.out).sto (Nat.le_trans ((Nat.le_trans ((Nat.le_trans ((Nat.le_trans ((Nat.le_trans ((Nat.le_trans ((Nat.le_trans ((Nat.le_trans (hu4.out.size) hu7.out.size)) hu10.out.size)) hu17.out.size)) hs25.out.size)) hs38.out.size)) hu41.out.size)) hu44.out.size)) lbb45.out) hs59.out)) (fun k hk hp => Nat.ne_of_lt (Nat.lt_of_lt_of_le ((ha0.up ((hu4.out.trans hu7.out).trans hu10.out)).blk_lt hp k hk) lbb12.out)) A67.out) ?_
 rintro e w68 ⟨rfl, h69, hs⟩
 have hs70 := Aside0.mk hs
 clear hs
 have h71 := h61.grow hs70.out (fun k hk e => (Nat.ne_of_lt (Nat.lt_of_lt_of_le (Nat.lt_of_lt_of_le ltb12.out ((Nat.le_trans (hs25.out.size) hs38.out.size))) lbb39.out)) ((Option.some.inj hk).trans e))
 have h72 := h62.grow hs70.out (fun k hk e => (Nat.ne_of_lt (Nat.lt_of_lt_of_le (Nat.lt_of_lt_of_le ltb12.out ((Nat.le_trans ((Nat.le_trans (hs25.out.size) hs38.out.size)) hu41.out.size))) lbb42.out)) ((Option.some.inj hk).trans e))
 have h73 := hb60.grow hs70.out (fun k hk e => (Nat.ne_of_lt (Nat.lt_of_lt_of_le (Nat.lt_of_lt_of_le ltb12.out ((Nat.le_trans ((Nat.le_trans ((Nat.le_trans (hs25.out.size) hs38.out.size)) hu41.out.size)) hu44.out.size))) lbb45.out)) ((Option.some.inj hk).trans e))
 refine ⟨_, rfl, ?_⟩
 simp only[nm]
 refine wpp fun k h=>?_;go_simp;apply h;clear h k
 refine wln (hK63 _ _ ?_)
 refine wp_seq_k fun K74 hK74=>?_
 refine wsr fun _ hK75=>?_
 refine wpp fun k h=>?_;go_simp;apply h;clear h k
 refine step_call wn (by go_simp <;> rfl) (spec_l01Next.calls K b12 a0_A a0_c a0 t65 t66 24 t76 t77 t78 w68 h69 (ha0.up ((((((((((((hu4.out.trans hu7.out).trans hu10.out).trans hu17.out).grow hs25.out (fun k hk => Nat.le_trans ((Nat.le_trans ((Nat.le_trans (hu4.out.size) hu7.out.size)) hu10.out.size)) ((fun k hk => Nat.le_trans lbb12.out (Nat.le_of_eq (Option.some.inj hk))) k hk))).grow hs38.out (fun k hk => Nat.le_trans ((Nat.le_trans ((Nat.le_trans (hu4.out.size) hu7.out.size)) hu10.out.size)) ((fun k hk => Nat.le_trans lbb12.out (Nat.le_of_eq (Option.some.inj hk))) k hk))).trans hu41.out).trans hu44.out).trans hu47.out).sto (Nat.le_trans ((Nat.le_trans ((Nat.le_trans ((Nat.le_trans ((Nat.le_trans ((Nat.le_trans (hu4.out.size) hu7.out.size)) hu10.out.size)) hu17.out.size)) hs25.out.size)) hs38.out.size)) lbb39.out) hs49.out).sto (Nat.le_trans ((Nat.le_trans ((Nat.le_trans ((Nat.le_trans ((Nat.le_trans ((Nat.le_trans ((Nat.le_trans (hu4.out.size) hu7.out.size)) hu10.out.size)) hu17.out.size)) hs25.out.size)) hs38.out.size)) hu41.out.size)) lbb42.out) hs54.out).sto (Nat.le_trans ((Nat.le_trans ((Nat.le_trans ((Nat.le_trans ((Nat.le_trans ((Nat.le_trans ((Nat.le_trans ((Nat.le_trans (hu4.out.size) hu7.out.size)) hu10.out.size)) hu17.out.size)) hs25.out.size)) hs38.out.size)) hu41.out.size)) hu44.out.size)) lbb45.out) hs59.out).grow hs70.out (fun k hk => Nat.le_trans ((Nat.le_trans ((Nat.le_trans (hu4.out.size) hu7.out.size)) hu10.out.size)) ((fun k hk => Nat.le_trans lbb12.out (Nat.le_of_eq (Option.some.inj hk))) k hk)))) (fun k hk hp => Nat.ne_of_lt (Nat.lt_of_lt_of_le ((ha0.up ((hu4.out.trans hu7.out).trans hu10.out)).blk_lt hp k hk) lbb12.out)) A79.out) ?_
 rintro e w80 ⟨rfl, h81, hs⟩
 have hs82 := Aside0.mk hs
 clear hs
 have h83 := h71.grow hs82.out (fun k hk e => (Nat.ne_of_lt (Nat.lt_of_lt_of_le (Nat.lt_of_lt_of_le ltb12.out ((Nat.le_trans (hs25.out.size) hs38.out.size))) lbb39.out)) ((Option.some.inj hk).trans e))
 have h84 := h72.grow hs82.out (fun k hk e => (Nat.ne_of_lt (Nat.lt_of_lt_of_le (Nat.lt_of_lt_of_le ltb12.out ((Nat.le_trans ((Nat.le_trans (hs25.out.size) hs38.out.size)) hu41.out.size))) lbb42.out)) ((Option.some.inj hk).trans e))
 have h85 := h73.grow hs82.out (fun k hk e => (Nat.ne_of_lt (Nat.lt_of_lt_of_le (Nat.lt_of_lt_of_le ltb12.out ((Nat.le_trans ((Nat.le_trans ((Nat.le_trans (hs25.out.size) hs38.out.size)) hu41.out.size)) hu44.out.size))) lbb45.out)) ((Option.some.inj hk).trans e))
 refine ⟨_, rfl, ?_⟩
 simp only[nm]
 refine wpp fun k h=>?_;go_simp;apply h;clear h k
 refine wln (hK75 _ _ ?_)
 have hm87 := Aside0.mk (((((((((((((hu4.out.trans hu7.out).trans hu10.out).trans hu17.out).grow hs25.out (fun k hk => Nat.le_trans ((Nat.le_trans ((Nat.le_trans (hu4.out.size) hu7.out.size)) hu10.out.size)) ((fun k hk => Nat.le_trans lbb12.out (Nat.le_of_eq (Option.some.inj hk))) k hk))).grow hs38.out (fun k hk => Nat.le_trans ((Nat.le_trans ((Nat.le_trans (hu4.out.size) hu7.out.size)) hu10.out.size)) ((fun k hk => Nat.le_trans lbb12.out (Nat.le_of_eq (Option.some.inj hk))) k hk))).trans hu41.out).trans hu44.out).trans hu47.out).sto (Nat.le_trans ((Nat.le_trans ((Nat.le_trans ((Nat.le_trans ((Nat.le_trans ((Nat.le_trans (hu4.out.size) hu7.out.size)) hu10.out.size)) hu17.out.size)) hs25.out.size)) hs38.out.size)) lbb39.out) hs49.out).sto (Nat.le_trans ((Nat.le_trans ((Nat.le_trans ((Nat.le_trans ((Nat.le_trans ((Nat.le_trans ((Nat.le_trans (hu4.out.size) hu7.out.size)) hu10.out.size)) hu17.out.size)) hs25.out.size)) hs38.out.size)) hu41.out.size)) lbb42.out) hs54.out).sto (Nat.le_trans ((Nat.le_trans ((Nat.le_trans ((Nat.le_trans ((Nat.le_trans ((Nat.le_trans ((Nat.le_trans ((Nat.le_trans (hu4.out.size) hu7.out.size)) hu10.out.size)) hu17.out.size)) hs25.out.size)) hs38.out.size)) hu41.out.size)) hu44.out.size)) lbb45.out) hs59.out).grow hs70.out (fun k hk => Nat.le_trans ((Nat.le_trans ((Nat.le_trans (hu4.out.size) hu7.out.size)) hu10.out.size)) ((fun k hk => Nat.le_trans lbb12.out (Nat.le_of_eq (Option.some.inj hk))) k hk))).grow hs82.out (fun k hk => Nat.le_trans ((Nat.le_trans ((Nat.le_trans (hu4.out.size) hu7.out.size)) hu10.out.size)) ((fun k hk => Nat.le_trans lbb12.out (Nat.le_of_eq (Option.some.inj hk))) k hk)))
 have h88 := (hb2.up ((((((((((((hu7.out.trans hu10.out).trans hu17.out).grow hs25.out (fun k hk => Nat.le_trans ((Nat.le_trans (hu7.out.size) hu10.out.size)) ((fun k hk => Nat.le_trans lbb12.out (Nat.le_of_eq (Option.some.inj hk))) k hk))).grow hs38.out (fun k hk => Nat.le_trans ((Nat.le_trans (hu7.out.size) hu10.out.size)) ((fun k hk => Nat.le_trans lbb12.out (Nat.le_of_eq (Option.some.inj hk))) k hk))).trans hu41.out).trans hu44.out).trans hu47.out).sto (Nat.le_trans ((Nat.le_trans ((Nat.le_trans ((Nat.le_trans ((Nat.le_trans (hu7.out.size) hu10.out.size)) hu17.out.size)) hs25.out.size)) hs38.out.size)) lbb39.out) hs49.out).sto (Nat.le_trans ((Nat.le_trans ((Nat.le_trans ((Nat.le_trans ((Nat.le_trans ((Nat.le_trans (hu7.out.size) hu10.out.size)) hu17.out.size)) hs25.out.size)) hs38.out.size)) hu41.out.size)) lbb42.out) hs54.out).sto (Nat.le_trans ((Nat.le_trans ((Nat.le_trans ((Nat.le_trans ((Nat.le_trans ((Nat.le_trans ((Nat.le_trans (hu7.out.size) hu10.out.size)) hu17.out.size)) hs25.out.size)) hs38.out.size)) hu41.out.size)) hu44.out.size)) lbb45.out) hs59.out).grow hs70.out (fun k hk => Nat.le_trans ((Nat.le_trans (hu7.out.size) hu10.out.size)) ((fun k hk => Nat.le_trans lbb12.out (Nat.le_of_eq (Option.some.inj hk))) k hk))).grow hs82.out (fun k hk => Nat.le_trans ((Nat.le_trans (hu7.out.size) hu10.out.size)) ((fun k hk => Nat.le_trans lbb12.out (Nat.le_of_eq (Option.some.inj hk))) k hk))))
 have h89 := (hb5.up (((((((((((hu10.out.trans hu17.out).grow hs25.out (fun k hk => Nat.le_trans (hu10.out.size) ((fun k hk => Nat.le_trans lbb12.out (Nat.le_of_eq (Option.some.inj hk))) k hk))).grow hs38.out (fun k hk => Nat.le_trans (hu10.out.size) ((fun k hk => Nat.le_trans lbb12.out (Nat.le_of_eq (Option.some.inj hk))) k hk))).trans hu41.out).trans hu44.out).trans hu47.out).sto (Nat.le_trans ((Nat.le_trans ((Nat.le_trans ((Nat.le_trans (hu10.out.size) hu17.out.size)) hs25.out.size)) hs38.out.size)) lbb39.out) hs49.out).sto (Nat.le_trans ((Nat.le_trans ((Nat.le_trans ((Nat.le_trans ((Nat.le_trans (hu10.out.size) hu17.out.size)) hs25.out.size)) hs38.out.size)) hu41.out.size)) lbb42.out) hs54.out).sto (Nat.le_trans ((Nat.le_trans ((Nat.le_trans ((Nat.le_trans ((Nat.le_trans ((Nat.le_trans (hu10.out.size) hu17.out.size)) hs25.out.size)) hs38.out.size)) hu41.out.size)) hu44.out.size)) lbb45.out) hs59.out).grow hs70.out (fun k hk => Nat.le_trans (hu10.out.size) ((fun k hk => Nat.le_trans lbb12.out (Nat.le_of_eq (Option.some.inj hk))) k hk))).grow hs82.out (fun k hk => Nat.le_trans (hu10.out.size) ((fun k hk => Nat.le_trans lbb12.out (Nat.le_of_eq (Option.some.inj hk))) k hk))))
 have h90 := (hb8.up ((((((((((hu17.out.grow hs25.out (fun k hk => Nat.le_trans (Nat.le_refl _) ((fun k hk => Nat.le_trans lbb12.out (Nat.le_of_eq (Option.some.inj hk))) k hk))).grow hs38.out (fun k hk => Nat.le_trans (Nat.le_refl _) ((fun k hk => Nat.le_trans lbb12.out (Nat.le_of_eq (Option.some.inj hk))) k hk))).trans hu41.out).trans hu44.out).trans hu47.out).sto (Nat.le_trans ((Nat.le_trans ((Nat.le_trans (hu17.out.size) hs25.out.size)) hs38.out.size)) lbb39.out) hs49.out).sto (Nat.le_trans ((Nat.le_trans ((Nat.le_trans ((Nat.le_trans (hu17.out.size) hs25.out.size)) hs38.out.size)) hu41.out.size)) lbb42.out) hs54.out).sto (Nat.le_trans ((Nat.le_trans ((Nat.le_trans ((Nat.le_trans ((Nat.le_trans (hu17.out.size) hs25.out.size)) hs38.out.size)) hu41.out.size)) hu44.out.size)) lbb45.out) hs59.out).grow hs70.out (fun k hk => Nat.le_trans (Nat.le_refl _) ((fun k hk => Nat.le_trans lbb12.out (Nat.le_of_eq (Option.some.inj hk))) k hk))).grow hs82.out (fun k hk => Nat.le_trans (Nat.le_refl _) ((fun k hk => Nat.le_trans lbb12.out (Nat.le_of_eq (Option.some.inj hk))) k hk))))
 by_cases c86 : (t76 == 0) = true
 rotate_left
 ·
  rw [if_neg c86] at H; replace c86 := Bool.eq_false_iff.mpr c86
  have c86n : (t76 != 0) = true := by rw [bne, c86]; rfl
  have c86p : ¬ t76 = 0 := fun e => by simp [e] at c86
  obtain ⟨⟨t197, t198, t199⟩,A200,H⟩:=bnd H;try dsimp only at H
  obtain ⟨⟨t210, t211, t212, t213⟩,A214,H⟩:=bnd H;try dsimp only at H
  obtain ⟨⟨t224, t225, t226, t227⟩,A228,H⟩:=bnd H;try dsimp only at H
  obtain ⟨⟨t238, t239, t240, t241⟩,A242,H⟩:=bnd H;try dsimp only at H
  simp only [Option.some.injEq, Prod.mk.injEq] at H
  obtain ⟨rfl, rfl, rfl, rfl, rfl, rfl, rfl, rfl⟩ := H
  try simp only [c86, c86n, Bool.not_true, Bool.not_false]
  refine wp_cond_false rfl ?_
  refine wp_skip ?_
  refine hK74 _ _ ?_
  refine wp_seq_k fun K192 hK192=>?_
  have hTT_ : ∀ w_, Up (World.drew w80) w_ → (fun w_ => Blk w_ b39 [.int .i64 t27, .int .i64 t28] 25 ∧ Blk w_ b42 [.int .i64 t29, .int .i64 t30] 25 ∧ Blk w_ b45 [.int .i64 t31, .int .i64 t32] 25 ∧ True) w_ := fun w_ hu_ => ⟨h83.up ((Up.refl _).drew.trans hu_), h84.up ((Up.refl _).drew.trans hu_), h85.up ((Up.refl _).drew.trans hu_), True.intro⟩
  refine' wp_region_mix (fun w_ => Blk w_ b39 [.int .i64 t27, .int .i64 t28] 25 ∧ Blk w_ b42 [.int .i64 t29, .int .i64 t30] 25 ∧ Blk w_ b45 [.int .i64 t31, .int .i64 t32] 25 ∧ True) [0, 1, 3, 4, 5, 6, 8, 9, 10, 12, 13, 14] [2, 7, 11, 15, 16, 17, 18, 19, 20] [Slot.pur _, Slot.pur _, Slot.pur _, Slot.pur _, Slot.pur _, Slot.pur _, Slot.pur _, Slot.pur _, Slot.pur _, Slot.pur _, Slot.pur _, Slot.pur _] (by kernel_rfl) (by kernel_rfl) rfl rfl hTT_ ?main
  case main =>
   simp only [pick, List.drop_succ_cons, List.drop_zero]
   refine wpK_pur rfl hTT_ (fun w1 hT => ?_) ?_
   · clear hT
     go_simp
     first | done | rfl
   simp only[nm]
   refine wpK_pur rfl hTT_ (fun w1 hT => ?_) ?_
   · clear hT
     go_simp
     first | done | rfl
   simp only[nm]
   refine wpK_pur rfl hTT_ (fun w1 hT => ?_) ?_
   · clear hT
     go_simp
     first | done | rfl
   simp only[nm]
   refine wpK_pur rfl hTT_ (fun w1 hT => ?_) ?_
   · clear hT
     go_simp
     first | done | rfl
   simp only[nm]
   refine wpK_pur rfl hTT_ (fun w1 hT => ?_) ?_
   · clear hT
     go_simp
     first | done | rfl
   simp only[nm]
   refine wpK_pur rfl hTT_ (fun w1 hT => ?_) ?_
   · have hB_ := hT.1
     have cl0 := hB_.cell (o := 0) rfl
     have cl1 := hB_.cell (o := 1) rfl
     clear hT
     go_simp
     first | done | rfl
   simp only[nm]
   refine wpK_pur rfl hTT_ (fun w1 hT => ?_) ?_
   · clear hT
     go_simp
     first | done | rfl
   simp only[nm]
   refine wpK_pur rfl hTT_ (fun w1 hT => ?_) ?_
   · clear hT
     go_simp
     first | done | rfl
   simp only[nm]
   refine wpK_pur rfl hTT_ (fun w1 hT => ?_) ?_
   · have hB_ := hT.2.1
     have cl0 := hB_.cell (o := 0) rfl
     have cl1 := hB_.cell (o := 1) rfl
     clear hT
     go_simp
     first | done | rfl
   simp only[nm]
   refine wpK_pur rfl hTT_ (fun w1 hT => ?_) ?_
   · clear hT
     go_simp
     first | done | rfl
   simp only[nm]
   refine wpK_pur rfl hTT_ (fun w1 hT => ?_) ?_
   · clear hT
     go_simp
     first | done | rfl
   simp only[nm]
   refine wpK_pur rfl hTT_ (fun w1 hT => ?_) ?_
   · have hB_ := hT.2.2.1
     have cl0 := hB_.cell (o := 0) rfl
     have cl1 := hB_.cell (o := 1) rfl
     clear hT
     go_simp
     first | done | rfl
   simp only[nm]
   refine wpK_nil ?_
   intro w195 hu
   replace hu := (Up.refl _).drew.trans hu
   have hu196 := Aside0.mk hu
   clear hu
   refine late_consT ⟨(h83.up hu196.out), (h84.up hu196.out), (h85.up hu196.out), True.intro⟩ ?_
   refine step_call wn (by go_simp <;> rfl) (spec_l01BadField.calls K b12 a0_A a0_c a0 t77 t78 t19 t197 t198 t199 w195 (h81.up hu196.out) (ha0.up (hm87.out.trans hu196.out)) (fun k hk hp => Nat.ne_of_lt (Nat.lt_of_lt_of_le ((ha0.up ((hu4.out.trans hu7.out).trans hu10.out)).blk_lt hp k hk) lbb12.out)) A200.out) ?_
   rintro e w201 ⟨rfl, h202, hs⟩
   have hs203 := Aside0.mk hs
   clear hs
   have h204 := (h88.up hu196.out).grow hs203.out (fun k hk e => (Ne.symm (Nat.ne_of_lt (Nat.lt_of_lt_of_le (Nat.lt_of_lt_of_le ltb2.out ((Nat.le_trans (hu7.out.size) hu10.out.size))) lbb12.out))) ((Option.some.inj hk).trans e))
   have h205 := (h89.up hu196.out).grow hs203.out (fun k hk e => (Ne.symm (Nat.ne_of_lt (Nat.lt_of_lt_of_le (Nat.lt_of_lt_of_le ltb5.out (hu10.out.size)) lbb12.out))) ((Option.some.inj hk).trans e))
   have h206 := (h90.up hu196.out).grow hs203.out (fun k hk e => (Ne.symm (Nat.ne_of_lt (Nat.lt_of_lt_of_le ltb8.out lbb12.out))) ((Option.some.inj hk).trans e))
   have h207 := (h83.up hu196.out).grow hs203.out (fun k hk e => (Nat.ne_of_lt (Nat.lt_of_lt_of_le (Nat.lt_of_lt_of_le ltb12.out ((Nat.le_trans (hs25.out.size) hs38.out.size))) lbb39.out)) ((Option.some.inj hk).trans e))
   have h208 := (h84.up hu196.out).grow hs203.out (fun k hk e => (Nat.ne_of_lt (Nat.lt_of_lt_of_le (Nat.lt_of_lt_of_le ltb12.out ((Nat.le_trans ((Nat.le_trans (hs25.out.size) hs38.out.size)) hu41.out.size))) lbb42.out)) ((Option.some.inj hk).trans e))
   have h209 := (h85.up hu196.out).grow hs203.out (fun k hk e => (Nat.ne_of_lt (Nat.lt_of_lt_of_le (Nat.lt_of_lt_of_le ltb12.out ((Nat.le_trans ((Nat.le_trans ((Nat.le_trans (hs25.out.size) hs38.out.size)) hu41.out.size)) hu44.out.size))) lbb45.out)) ((Option.some.inj hk).trans e))
   refine ⟨_, rfl, ?_⟩
   simp only[nm]
   refine wpList_nil ?_
   refine wrapQ_k ?_
   refine late_consT ⟨h207, h208, h209, True.intro⟩ ?_
   refine step_call wn (by go_simp <;> rfl) (spec_l01BadPoint.calls K b12 a0_A a0_c a0 t198 t199 t19 t27 t28 t210 t211 t212 t213 w201 h202 (ha0.up ((hm87.out.trans hu196.out).grow hs203.out (fun k hk => Nat.le_trans ((Nat.le_trans ((Nat.le_trans (hu4.out.size) hu7.out.size)) hu10.out.size)) ((fun k hk => Nat.le_trans lbb12.out (Nat.le_of_eq (Option.some.inj hk))) k hk)))) (fun k hk hp => Nat.ne_of_lt (Nat.lt_of_lt_of_le ((ha0.up ((hu4.out.trans hu7.out).trans hu10.out)).blk_lt hp k hk) lbb12.out)) A214.out) ?_
   rintro e w215 ⟨rfl, h216, hs⟩
   have hs217 := Aside0.mk hs
   clear hs
   have h218 := h204.grow hs217.out (fun k hk e => (Ne.symm (Nat.ne_of_lt (Nat.lt_of_lt_of_le (Nat.lt_of_lt_of_le ltb2.out ((Nat.le_trans (hu7.out.size) hu10.out.size))) lbb12.out))) ((Option.some.inj hk).trans e))
   have h219 := h205.grow hs217.out (fun k hk e => (Ne.symm (Nat.ne_of_lt (Nat.lt_of_lt_of_le (Nat.lt_of_lt_of_le ltb5.out (hu10.out.size)) lbb12.out))) ((Option.some.inj hk).trans e))
   have h220 := h206.grow hs217.out (fun k hk e => (Ne.symm (Nat.ne_of_lt (Nat.lt_of_lt_of_le ltb8.out lbb12.out))) ((Option.some.inj hk).trans e))
   have h221 := h207.grow hs217.out (fun k hk e => (Nat.ne_of_lt (Nat.lt_of_lt_of_le (Nat.lt_of_lt_of_le ltb12.out ((Nat.le_trans (hs25.out.size) hs38.out.size))) lbb39.out)) ((Option.some.inj hk).trans e))
   have h222 := h208.grow hs217.out (fun k hk e => (Nat.ne_of_lt (Nat.lt_of_lt_of_le (Nat.lt_of_lt_of_le ltb12.out ((Nat.le_trans ((Nat.le_trans (hs25.out.size) hs38.out.size)) hu41.out.size))) lbb42.out)) ((Option.some.inj hk).trans e))
   have h223 := h209.grow hs217.out (fun k hk e => (Nat.ne_of_lt (Nat.lt_of_lt_of_le (Nat.lt_of_lt_of_le ltb12.out ((Nat.le_trans ((Nat.le_trans ((Nat.le_trans (hs25.out.size) hs38.out.size)) hu41.out.size)) hu44.out.size))) lbb45.out)) ((Option.some.inj hk).trans e))
   refine ⟨_, rfl, ?_⟩
   simp only[nm]
   refine wpList_nil ?_
   refine wrapQ_k ?_
   refine late_consT ⟨h221, h222, h223, True.intro⟩ ?_
   refine step_call wn (by go_simp <;> rfl) (spec_l01BadPoint.calls K b12 a0_A a0_c a0 t212 t213 t19 t29 t30 t224 t225 t226 t227 w215 h216 (ha0.up (((hm87.out.trans hu196.out).grow hs203.out (fun k hk => Nat.le_trans ((Nat.le_trans ((Nat.le_trans (hu4.out.size) hu7.out.size)) hu10.out.size)) ((fun k hk => Nat.le_trans lbb12.out (Nat.le_of_eq (Option.some.inj hk))) k hk))).grow hs217.out (fun k hk => Nat.le_trans ((Nat.le_trans ((Nat.le_trans (hu4.out.size) hu7.out.size)) hu10.out.size)) ((fun k hk => Nat.le_trans lbb12.out (Nat.le_of_eq (Option.some.inj hk))) k hk)))) (fun k hk hp => Nat.ne_of_lt (Nat.lt_of_lt_of_le ((ha0.up ((hu4.out.trans hu7.out).trans hu10.out)).blk_lt hp k hk) lbb12.out)) A228.out) ?_
   rintro e w229 ⟨rfl, h230, hs⟩
   have hs231 := Aside0.mk hs
   clear hs
   have h232 := h218.grow hs231.out (fun k hk e => (Ne.symm (Nat.ne_of_lt (Nat.lt_of_lt_of_le (Nat.lt_of_lt_of_le ltb2.out ((Nat.le_trans (hu7.out.size) hu10.out.size))) lbb12.out))) ((Option.some.inj hk).trans e))
   have h233 := h219.grow hs231.out (fun k hk e => (Ne.symm (Nat.ne_of_lt (Nat.lt_of_lt_of_le (Nat.lt_of_lt_of_le ltb5.out (hu10.out.size)) lbb12.out))) ((Option.some.inj hk).trans e))
   have h234 := h220.grow hs231.out (fun k hk e => (Ne.symm (Nat.ne_of_lt (Nat.lt_of_lt_of_le ltb8.out lbb12.out))) ((Option.some.inj hk).trans e))
   have h235 := h221.grow hs231.out (fun k hk e => (Nat.ne_of_lt (Nat.lt_of_lt_of_le (Nat.lt_of_lt_of_le ltb12.out ((Nat.le_trans (hs25.out.size) hs38.out.size))) lbb39.out)) ((Option.some.inj hk).trans e))
   have h236 := h222.grow hs231.out (fun k hk e => (Nat.ne_of_lt (Nat.lt_of_lt_of_le (Nat.lt_of_lt_of_le ltb12.out ((Nat.le_trans ((Nat.le_trans (hs25.out.size) hs38.out.size)) hu41.out.size))) lbb42.out)) ((Option.some.inj hk).trans e))
   have h237 := h223.grow hs231.out (fun k hk e => (Nat.ne_of_lt (Nat.lt_of_lt_of_le (Nat.lt_of_lt_of_le ltb12.out ((Nat.le_trans ((Nat.le_trans ((Nat.le_trans (hs25.out.size) hs38.out.size)) hu41.out.size)) hu44.out.size))) lbb45.out)) ((Option.some.inj hk).trans e))
   refine ⟨_, rfl, ?_⟩
   simp only[nm]
   refine wpList_nil ?_
   refine wrapQ_k ?_
   refine late_consT ⟨h235, h236, h237, True.intro⟩ ?_
   refine step_call wn (by go_simp <;> rfl) (spec_l01BadPoint.calls K b12 a0_A a0_c a0 t226 t227 t19 t31 t32 t238 t239 t240 t241 w229 h230 (ha0.up ((((hm87.out.trans hu196.out).grow hs203.out (fun k hk => Nat.le_trans ((Nat.le_trans ((Nat.le_trans (hu4.out.size) hu7.out.size)) hu10.out.size)) ((fun k hk => Nat.le_trans lbb12.out (Nat.le_of_eq (Option.some.inj hk))) k hk))).grow hs217.out (fun k hk => Nat.le_trans ((Nat.le_trans ((Nat.le_trans (hu4.out.size) hu7.out.size)) hu10.out.size)) ((fun k hk => Nat.le_trans lbb12.out (Nat.le_of_eq (Option.some.inj hk))) k hk))).grow hs231.out (fun k hk => Nat.le_trans ((Nat.le_trans ((Nat.le_trans (hu4.out.size) hu7.out.size)) hu10.out.size)) ((fun k hk => Nat.le_trans lbb12.out (Nat.le_of_eq (Option.some.inj hk))) k hk)))) (fun k hk hp => Nat.ne_of_lt (Nat.lt_of_lt_of_le ((ha0.up ((hu4.out.trans hu7.out).trans hu10.out)).blk_lt hp k hk) lbb12.out)) A242.out) ?_
   rintro e w243 ⟨rfl, h244, hs⟩
   have hs245 := Aside0.mk hs
   clear hs
   have h246 := h232.grow hs245.out (fun k hk e => (Ne.symm (Nat.ne_of_lt (Nat.lt_of_lt_of_le (Nat.lt_of_lt_of_le ltb2.out ((Nat.le_trans (hu7.out.size) hu10.out.size))) lbb12.out))) ((Option.some.inj hk).trans e))
   have h247 := h233.grow hs245.out (fun k hk e => (Ne.symm (Nat.ne_of_lt (Nat.lt_of_lt_of_le (Nat.lt_of_lt_of_le ltb5.out (hu10.out.size)) lbb12.out))) ((Option.some.inj hk).trans e))
   have h248 := h234.grow hs245.out (fun k hk e => (Ne.symm (Nat.ne_of_lt (Nat.lt_of_lt_of_le ltb8.out lbb12.out))) ((Option.some.inj hk).trans e))
   have h249 := h235.grow hs245.out (fun k hk e => (Nat.ne_of_lt (Nat.lt_of_lt_of_le (Nat.lt_of_lt_of_le ltb12.out ((Nat.le_trans (hs25.out.size) hs38.out.size))) lbb39.out)) ((Option.some.inj hk).trans e))
   have h250 := h236.grow hs245.out (fun k hk e => (Nat.ne_of_lt (Nat.lt_of_lt_of_le (Nat.lt_of_lt_of_le ltb12.out ((Nat.le_trans ((Nat.le_trans (hs25.out.size) hs38.out.size)) hu41.out.size))) lbb42.out)) ((Option.some.inj hk).trans e))
   have h251 := h237.grow hs245.out (fun k hk e => (Nat.ne_of_lt (Nat.lt_of_lt_of_le (Nat.lt_of_lt_of_le ltb12.out ((Nat.le_trans ((Nat.le_trans ((Nat.le_trans (hs25.out.size) hs38.out.size)) hu41.out.size)) hu44.out.size))) lbb45.out)) ((Option.some.inj hk).trans e))
   refine ⟨_, rfl, ?_⟩
   simp only[nm]
   refine wpList_nil ?_
   refine wrapQ_k ?_
   refine late_consT ⟨h249, h250, h251, True.intro⟩ ?_
   refine wpp fun k h=>?_;go_simp;apply h;clear h k
   refine wpList_nil ?_
   refine wrapQ_k ?_
   refine late_consT ⟨h249, h250, h251, True.intro⟩ ?_
   refine wpp fun k h=>?_;go_simp;apply h;clear h k
   refine wpList_nil ?_
   refine wrapQ_k ?_
   refine late_consT ⟨h249, h250, h251, True.intro⟩ ?_
   refine stw [.int .i64 t210, .int .i64 t211] h246 rfl rfl rfl rfl rfl (by kernel_rfl) rfl rfl ?_
   intro w252 hs253 hb254
   have h255 := h247.sto hs253.out (Ne.symm (Nat.ne_of_lt (Nat.lt_of_lt_of_le ltb2.out lbb5.out)))
   have h256 := h248.sto hs253.out (Ne.symm (Nat.ne_of_lt (Nat.lt_of_lt_of_le (Nat.lt_of_lt_of_le ltb2.out (hu7.out.size)) lbb8.out)))
   have h258 := h249.sto hs253.out (Ne.symm (Nat.ne_of_lt (Nat.lt_of_lt_of_le (Nat.lt_of_lt_of_le ltb2.out ((Nat.le_trans ((Nat.le_trans ((Nat.le_trans ((Nat.le_trans (hu7.out.size) hu10.out.size)) hu17.out.size)) hs25.out.size)) hs38.out.size))) lbb39.out)))
   have h259 := h250.sto hs253.out (Ne.symm (Nat.ne_of_lt (Nat.lt_of_lt_of_le (Nat.lt_of_lt_of_le ltb2.out ((Nat.le_trans ((Nat.le_trans ((Nat.le_trans ((Nat.le_trans ((Nat.le_trans (hu7.out.size) hu10.out.size)) hu17.out.size)) hs25.out.size)) hs38.out.size)) hu41.out.size))) lbb42.out)))
   have h260 := h251.sto hs253.out (Ne.symm (Nat.ne_of_lt (Nat.lt_of_lt_of_le (Nat.lt_of_lt_of_le ltb2.out ((Nat.le_trans ((Nat.le_trans ((Nat.le_trans ((Nat.le_trans ((Nat.le_trans ((Nat.le_trans (hu7.out.size) hu10.out.size)) hu17.out.size)) hs25.out.size)) hs38.out.size)) hu41.out.size)) hu44.out.size))) lbb45.out)))
   refine wpList_nil ?_
   refine wrapQ_k ?_
   refine late_consT ⟨h258, h259, h260, True.intro⟩ ?_
   refine stw [.int .i64 t224, .int .i64 t225] h255 rfl rfl rfl rfl rfl (by kernel_rfl) rfl rfl ?_
   intro w261 hs262 hb263
   have h264 := hb254.sto hs262.out (Nat.ne_of_lt (Nat.lt_of_lt_of_le ltb2.out lbb5.out))
   have h265 := h256.sto hs262.out (Ne.symm (Nat.ne_of_lt (Nat.lt_of_lt_of_le ltb5.out lbb8.out)))
   have h267 := h258.sto hs262.out (Ne.symm (Nat.ne_of_lt (Nat.lt_of_lt_of_le (Nat.lt_of_lt_of_le ltb5.out ((Nat.le_trans ((Nat.le_trans ((Nat.le_trans (hu10.out.size) hu17.out.size)) hs25.out.size)) hs38.out.size))) lbb39.out)))
   have h268 := h259.sto hs262.out (Ne.symm (Nat.ne_of_lt (Nat.lt_of_lt_of_le (Nat.lt_of_lt_of_le ltb5.out ((Nat.le_trans ((Nat.le_trans ((Nat.le_trans ((Nat.le_trans (hu10.out.size) hu17.out.size)) hs25.out.size)) hs38.out.size)) hu41.out.size))) lbb42.out)))
   have h269 := h260.sto hs262.out (Ne.symm (Nat.ne_of_lt (Nat.lt_of_lt_of_le (Nat.lt_of_lt_of_le ltb5.out ((Nat.le_trans ((Nat.le_trans ((Nat.le_trans ((Nat.le_trans ((Nat.le_trans (hu10.out.size) hu17.out.size)) hs25.out.size)) hs38.out.size)) hu41.out.size)) hu44.out.size))) lbb45.out)))
   refine wpList_nil ?_
   refine wrapQ_k ?_
   refine late_consT ⟨h267, h268, h269, True.intro⟩ ?_
   refine stw [.int .i64 t238, .int .i64 t239] h265 rfl rfl rfl rfl rfl (by kernel_rfl) rfl rfl ?_
   intro w270 hs271 hb272
   have h273 := h264.sto hs271.out (Nat.ne_of_lt (Nat.lt_of_lt_of_le (Nat.lt_of_lt_of_le ltb2.out (hu7.out.size)) lbb8.out))
   have h274 := hb263.sto hs271.out (Nat.ne_of_lt (Nat.lt_of_lt_of_le ltb5.out lbb8.out))
   have h276 := h267.sto hs271.out (Ne.symm (Nat.ne_of_lt (Nat.lt_of_lt_of_le (Nat.lt_of_lt_of_le ltb8.out ((Nat.le_trans ((Nat.le_trans (hu17.out.size) hs25.out.size)) hs38.out.size))) lbb39.out)))
   have h277 := h268.sto hs271.out (Ne.symm (Nat.ne_of_lt (Nat.lt_of_lt_of_le (Nat.lt_of_lt_of_le ltb8.out ((Nat.le_trans ((Nat.le_trans ((Nat.le_trans (hu17.out.size) hs25.out.size)) hs38.out.size)) hu41.out.size))) lbb42.out)))
   have h278 := h269.sto hs271.out (Ne.symm (Nat.ne_of_lt (Nat.lt_of_lt_of_le (Nat.lt_of_lt_of_le ltb8.out ((Nat.le_trans ((Nat.le_trans ((Nat.le_trans ((Nat.le_trans (hu17.out.size) hs25.out.size)) hs38.out.size)) hu41.out.size)) hu44.out.size))) lbb45.out)))
   refine wpList_nil ?_
   refine wrapQ_k ?_
   refine late_nilT ⟨h276, h277, h278, True.intro⟩ ?_
   refine hK192 _ _ ?_
   refine wp_ret ?_
   refine hQf _ _ _ ?_
   have cr0 := h273.cell (o := 0) rfl
   have cr1 := h273.cell (o := 1) rfl
   have cr2 := h274.cell (o := 0) rfl
   have cr3 := h274.cell (o := 1) rfl
   have cr4 := hb272.cell (o := 0) rfl
   have cr5 := hb272.cell (o := 1) rfl
   exact bodyPost_ret (v := .tuple #[.int .i64 t197, .int .i64 t64, .agg #[.int .i64 t210, .int .i64 t211], .agg #[.int .i64 t224, .int .i64 t225], .agg #[.int .i64 t238, .int .i64 t239]]) (by first|rfl|simp [results, Tryz.results89, go_sem, cr0, cr1, cr2, cr3, cr4, cr5]<;>rfl) rfl ⟨rfl, ((((((((hm87.out.trans hu196.out).grow hs203.out (fun k hk => Nat.le_trans ((Nat.le_trans ((Nat.le_trans (hu4.out.size) hu7.out.size)) hu10.out.size)) ((fun k hk => Nat.le_trans lbb12.out (Nat.le_of_eq (Option.some.inj hk))) k hk))).grow hs217.out (fun k hk => Nat.le_trans ((Nat.le_trans ((Nat.le_trans (hu4.out.size) hu7.out.size)) hu10.out.size)) ((fun k hk => Nat.le_trans lbb12.out (Nat.le_of_eq (Option.some.inj hk))) k hk))).grow hs231.out (fun k hk => Nat.le_trans ((Nat.le_trans ((Nat.le_trans (hu4.out.size) hu7.out.size)) hu10.out.size)) ((fun k hk => Nat.le_trans lbb12.out (Nat.le_of_eq (Option.some.inj hk))) k hk))).grow hs245.out (fun k hk => Nat.le_trans ((Nat.le_trans ((Nat.le_trans (hu4.out.size) hu7.out.size)) hu10.out.size)) ((fun k hk => Nat.le_trans lbb12.out (Nat.le_of_eq (Option.some.inj hk))) k hk))).sto (Nat.le_trans (Nat.le_refl _) lbb2.out) hs253.out).sto (Nat.le_trans (hu4.out.size) lbb5.out) hs262.out).sto (Nat.le_trans ((Nat.le_trans (hu4.out.size) hu7.out.size)) lbb8.out) hs271.out)⟩
 rw [if_pos c86] at H
 have c86n : (t76 != 0) = false := by rw [bne, c86]; rfl
 obtain ⟨⟨t91, t92⟩,A93,H⟩:=bnd H;try dsimp only at H
 obtain ⟨⟨t110, t111, t112⟩,A113,H⟩:=bnd H;try dsimp only at H
 obtain ⟨⟨t123, t124, t125, t126⟩,A127,H⟩:=bnd H;try dsimp only at H
 obtain ⟨⟨t137, t138, t139, t140⟩,A141,H⟩:=bnd H;try dsimp only at H
 obtain ⟨⟨t151, t152, t153, t154⟩,A155,H⟩:=bnd H;try dsimp only at H
 simp only [Option.some.injEq, Prod.mk.injEq] at H
 obtain ⟨rfl, rfl, rfl, rfl, rfl, rfl, rfl, rfl⟩ := H
 try simp only [c86, c86n, Bool.not_true, Bool.not_false]
 refine wp_cond_true rfl ?_
 refine wp_region_lit ?_
 refine wpp fun k h=>?_;go_simp;apply h;clear h k
 have cl0 := h83.cell (o := 0) rfl
 have cl1 := h83.cell (o := 1) rfl
 refine wpp fun k h=>?_;go_simp;apply h;clear h k
 clear cl0 cl1
 have cl0 := h84.cell (o := 0) rfl
 have cl1 := h84.cell (o := 1) rfl
 refine wpp fun k h=>?_;go_simp;apply h;clear h k
 clear cl0 cl1
 refine stc (spec_l01Middle.calls K t19 t27 t28 t29 t30 t91 t92 w80  A93.out) ?_
 intro w94 hu95
 simp only[nm]
 refine stw [.int .i64 t91, .int .i64 t92] (h85.up hu95.out) rfl rfl rfl rfl rfl (by kernel_rfl) rfl rfl ?_
 intro w96 hs97 hb98
 have h99 := (h88.up hu95.out).sto hs97.out (Nat.ne_of_lt (Nat.lt_of_lt_of_le (Nat.lt_of_lt_of_le ltb2.out ((Nat.le_trans ((Nat.le_trans ((Nat.le_trans ((Nat.le_trans ((Nat.le_trans ((Nat.le_trans (hu7.out.size) hu10.out.size)) hu17.out.size)) hs25.out.size)) hs38.out.size)) hu41.out.size)) hu44.out.size))) lbb45.out))
 have h100 := (h89.up hu95.out).sto hs97.out (Nat.ne_of_lt (Nat.lt_of_lt_of_le (Nat.lt_of_lt_of_le ltb5.out ((Nat.le_trans ((Nat.le_trans ((Nat.le_trans ((Nat.le_trans ((Nat.le_trans (hu10.out.size) hu17.out.size)) hs25.out.size)) hs38.out.size)) hu41.out.size)) hu44.out.size))) lbb45.out))
 have h101 := (h90.up hu95.out).sto hs97.out (Nat.ne_of_lt (Nat.lt_of_lt_of_le (Nat.lt_of_lt_of_le ltb8.out ((Nat.le_trans ((Nat.le_trans ((Nat.le_trans ((Nat.le_trans (hu17.out.size) hs25.out.size)) hs38.out.size)) hu41.out.size)) hu44.out.size))) lbb45.out))
 have h102 := (h81.up hu95.out).sto hs97.out (Nat.ne_of_lt (Nat.lt_of_lt_of_le (Nat.lt_of_lt_of_le ltb12.out ((Nat.le_trans ((Nat.le_trans ((Nat.le_trans (hs25.out.size) hs38.out.size)) hu41.out.size)) hu44.out.size))) lbb45.out))
 have h103 := (h83.up hu95.out).sto hs97.out (Nat.ne_of_lt (Nat.lt_of_lt_of_le (Nat.lt_of_lt_of_le ltb39.out (hu44.out.size)) lbb45.out))
 have h104 := (h84.up hu95.out).sto hs97.out (Nat.ne_of_lt (Nat.lt_of_lt_of_le ltb42.out lbb45.out))
 refine wln (hK74 _ _ ?_)
 refine wp_seq_k fun K105 hK105=>?_
 have hTT_ : ∀ w_, Up (World.drew w96) w_ → (fun w_ => Blk w_ b39 [.int .i64 t27, .int .i64 t28] 25 ∧ Blk w_ b42 [.int .i64 t29, .int .i64 t30] 25 ∧ Blk w_ b45 [.int .i64 t91, .int .i64 t92] 25 ∧ True) w_ := fun w_ hu_ => ⟨h103.up ((Up.refl _).drew.trans hu_), h104.up ((Up.refl _).drew.trans hu_), hb98.up ((Up.refl _).drew.trans hu_), True.intro⟩
 refine' wp_region_mix (fun w_ => Blk w_ b39 [.int .i64 t27, .int .i64 t28] 25 ∧ Blk w_ b42 [.int .i64 t29, .int .i64 t30] 25 ∧ Blk w_ b45 [.int .i64 t91, .int .i64 t92] 25 ∧ True) [0, 1, 3, 4, 5, 6, 8, 9, 10, 12, 13, 14] [2, 7, 11, 15, 16, 17, 18, 19, 20] [Slot.pur _, Slot.pur _, Slot.pur _, Slot.pur _, Slot.pur _, Slot.pur _, Slot.pur _, Slot.pur _, Slot.pur _, Slot.pur _, Slot.pur _, Slot.pur _] (by kernel_rfl) (by kernel_rfl) rfl rfl hTT_ ?main
 case main =>
  simp only [pick, List.drop_succ_cons, List.drop_zero]
  refine wpK_pur rfl hTT_ (fun w1 hT => ?_) ?_
  · clear hT
    go_simp
    first | done | rfl
  simp only[nm]
  refine wpK_pur rfl hTT_ (fun w1 hT => ?_) ?_
  · clear hT
    go_simp
    first | done | rfl
  simp only[nm]
  refine wpK_pur rfl hTT_ (fun w1 hT => ?_) ?_
  · clear hT
    go_simp
    first | done | rfl
  simp only[nm]
  refine wpK_pur rfl hTT_ (fun w1 hT => ?_) ?_
  · clear hT
    go_simp
    first | done | rfl
  simp only[nm]
  refine wpK_pur rfl hTT_ (fun w1 hT => ?_) ?_
  · clear hT
    go_simp
    first | done | rfl
  simp only[nm]
  refine wpK_pur rfl hTT_ (fun w1 hT => ?_) ?_
  · have hB_ := hT.1
    have cl0 := hB_.cell (o := 0) rfl
    have cl1 := hB_.cell (o := 1) rfl
    clear hT
    go_simp
    first | done | rfl
  simp only[nm]
  refine wpK_pur rfl hTT_ (fun w1 hT => ?_) ?_
  · clear hT
    go_simp
    first | done | rfl
  simp only[nm]
  refine wpK_pur rfl hTT_ (fun w1 hT => ?_) ?_
  · clear hT
    go_simp
    first | done | rfl
  simp only[nm]
  refine wpK_pur rfl hTT_ (fun w1 hT => ?_) ?_
  · have hB_ := hT.2.1
    have cl0 := hB_.cell (o := 0) rfl
    have cl1 := hB_.cell (o := 1) rfl
    clear hT
    go_simp
    first | done | rfl
  simp only[nm]
  refine wpK_pur rfl hTT_ (fun w1 hT => ?_) ?_
  · clear hT
    go_simp
    first | done | rfl
  simp only[nm]
  refine wpK_pur rfl hTT_ (fun w1 hT => ?_) ?_
  · clear hT
    go_simp
    first | done | rfl
  simp only[nm]
  refine wpK_pur rfl hTT_ (fun w1 hT => ?_) ?_
  · have hB_ := hT.2.2.1
    have cl0 := hB_.cell (o := 0) rfl
    have cl1 := hB_.cell (o := 1) rfl
    clear hT
    go_simp
    first | done | rfl
  simp only[nm]
  refine wpK_nil ?_
  intro w108 hu
  replace hu := (Up.refl _).drew.trans hu
  have hu109 := Aside0.mk hu
  clear hu
  refine late_consT ⟨(h103.up hu109.out), (h104.up hu109.out), (hb98.up hu109.out), True.intro⟩ ?_
  refine step_call wn (by go_simp <;> rfl) (spec_l01BadField.calls K b12 a0_A a0_c a0 t77 t78 t19 t110 t111 t112 w108 (h102.up hu109.out) (ha0.up (((hm87.out.trans hu95.out).sto (Nat.le_trans ((Nat.le_trans ((Nat.le_trans ((Nat.le_trans ((Nat.le_trans ((Nat.le_trans ((Nat.le_trans ((Nat.le_trans (hu4.out.size) hu7.out.size)) hu10.out.size)) hu17.out.size)) hs25.out.size)) hs38.out.size)) hu41.out.size)) hu44.out.size)) lbb45.out) hs97.out).trans hu109.out)) (fun k hk hp => Nat.ne_of_lt (Nat.lt_of_lt_of_le ((ha0.up ((hu4.out.trans hu7.out).trans hu10.out)).blk_lt hp k hk) lbb12.out)) A113.out) ?_
  rintro e w114 ⟨rfl, h115, hs⟩
  have hs116 := Aside0.mk hs
  clear hs
  have h117 := (h99.up hu109.out).grow hs116.out (fun k hk e => (Ne.symm (Nat.ne_of_lt (Nat.lt_of_lt_of_le (Nat.lt_of_lt_of_le ltb2.out ((Nat.le_trans (hu7.out.size) hu10.out.size))) lbb12.out))) ((Option.some.inj hk).trans e))
  have h118 := (h100.up hu109.out).grow hs116.out (fun k hk e => (Ne.symm (Nat.ne_of_lt (Nat.lt_of_lt_of_le (Nat.lt_of_lt_of_le ltb5.out (hu10.out.size)) lbb12.out))) ((Option.some.inj hk).trans e))
  have h119 := (h101.up hu109.out).grow hs116.out (fun k hk e => (Ne.symm (Nat.ne_of_lt (Nat.lt_of_lt_of_le ltb8.out lbb12.out))) ((Option.some.inj hk).trans e))
  have h120 := (h103.up hu109.out).grow hs116.out (fun k hk e => (Nat.ne_of_lt (Nat.lt_of_lt_of_le (Nat.lt_of_lt_of_le ltb12.out ((Nat.le_trans (hs25.out.size) hs38.out.size))) lbb39.out)) ((Option.some.inj hk).trans e))
  have h121 := (h104.up hu109.out).grow hs116.out (fun k hk e => (Nat.ne_of_lt (Nat.lt_of_lt_of_le (Nat.lt_of_lt_of_le ltb12.out ((Nat.le_trans ((Nat.le_trans (hs25.out.size) hs38.out.size)) hu41.out.size))) lbb42.out)) ((Option.some.inj hk).trans e))
  have h122 := (hb98.up hu109.out).grow hs116.out (fun k hk e => (Nat.ne_of_lt (Nat.lt_of_lt_of_le (Nat.lt_of_lt_of_le ltb12.out ((Nat.le_trans ((Nat.le_trans ((Nat.le_trans (hs25.out.size) hs38.out.size)) hu41.out.size)) hu44.out.size))) lbb45.out)) ((Option.some.inj hk).trans e))
  refine ⟨_, rfl, ?_⟩
  simp only[nm]
  refine wpList_nil ?_
  refine wrapQ_k ?_
  refine late_consT ⟨h120, h121, h122, True.intro⟩ ?_
  refine step_call wn (by go_simp <;> rfl) (spec_l01BadPoint.calls K b12 a0_A a0_c a0 t111 t112 t19 t27 t28 t123 t124 t125 t126 w114 h115 (ha0.up ((((hm87.out.trans hu95.out).sto (Nat.le_trans ((Nat.le_trans ((Nat.le_trans ((Nat.le_trans ((Nat.le_trans ((Nat.le_trans ((Nat.le_trans ((Nat.le_trans (hu4.out.size) hu7.out.size)) hu10.out.size)) hu17.out.size)) hs25.out.size)) hs38.out.size)) hu41.out.size)) hu44.out.size)) lbb45.out) hs97.out).trans hu109.out).grow hs116.out (fun k hk => Nat.le_trans ((Nat.le_trans ((Nat.le_trans (hu4.out.size) hu7.out.size)) hu10.out.size)) ((fun k hk => Nat.le_trans lbb12.out (Nat.le_of_eq (Option.some.inj hk))) k hk)))) (fun k hk hp => Nat.ne_of_lt (Nat.lt_of_lt_of_le ((ha0.up ((hu4.out.trans hu7.out).trans hu10.out)).blk_lt hp k hk) lbb12.out)) A127.out) ?_
  rintro e w128 ⟨rfl, h129, hs⟩
  have hs130 := Aside0.mk hs
  clear hs
  have h131 := h117.grow hs130.out (fun k hk e => (Ne.symm (Nat.ne_of_lt (Nat.lt_of_lt_of_le (Nat.lt_of_lt_of_le ltb2.out ((Nat.le_trans (hu7.out.size) hu10.out.size))) lbb12.out))) ((Option.some.inj hk).trans e))
  have h132 := h118.grow hs130.out (fun k hk e => (Ne.symm (Nat.ne_of_lt (Nat.lt_of_lt_of_le (Nat.lt_of_lt_of_le ltb5.out (hu10.out.size)) lbb12.out))) ((Option.some.inj hk).trans e))
  have h133 := h119.grow hs130.out (fun k hk e => (Ne.symm (Nat.ne_of_lt (Nat.lt_of_lt_of_le ltb8.out lbb12.out))) ((Option.some.inj hk).trans e))
  have h134 := h120.grow hs130.out (fun k hk e => (Nat.ne_of_lt (Nat.lt_of_lt_of_le (Nat.lt_of_lt_of_le ltb12.out ((Nat.le_trans (hs25.out.size) hs38.out.size))) lbb39.out)) ((Option.some.inj hk).trans e))
  have h135 := h121.grow hs130.out (fun k hk e => (Nat.ne_of_lt (Nat.lt_of_lt_of_le (Nat.lt_of_lt_of_le ltb12.out ((Nat.le_trans ((Nat.le_trans (hs25.out.size) hs38.out.size)) hu41.out.size))) lbb42.out)) ((Option.some.inj hk).trans e))
  have h136 := h122.grow hs130.out (fun k hk e => (Nat.ne_of_lt (Nat.lt_of_lt_of_le (Nat.lt_of_lt_of_le ltb12.out ((Nat.le_trans ((Nat.le_trans ((Nat.le_trans (hs25.out.size) hs38.out.size)) hu41.out.size)) hu44.out.size))) lbb45.out)) ((Option.some.inj hk).trans e))
  refine ⟨_, rfl, ?_⟩
  simp only[nm]
  refine wpList_nil ?_
  refine wrapQ_k ?_
  refine late_consT ⟨h134, h135, h136, True.intro⟩ ?_
  refine step_call wn (by go_simp <;> rfl) (spec_l01BadPoint.calls K b12 a0_A a0_c a0 t125 t126 t19 t29 t30 t137 t138 t139 t140 w128 h129 (ha0.up (((((hm87.out.trans hu95.out).sto (Nat.le_trans ((Nat.le_trans ((Nat.le_trans ((Nat.le_trans ((Nat.le_trans ((Nat.le_trans ((Nat.le_trans ((Nat.le_trans (hu4.out.size) hu7.out.size)) hu10.out.size)) hu17.out.size)) hs25.out.size)) hs38.out.size)) hu41.out.size)) hu44.out.size)) lbb45.out) hs97.out).trans hu109.out).grow hs116.out (fun k hk => Nat.le_trans ((Nat.le_trans ((Nat.le_trans (hu4.out.size) hu7.out.size)) hu10.out.size)) ((fun k hk => Nat.le_trans lbb12.out (Nat.le_of_eq (Option.some.inj hk))) k hk))).grow hs130.out (fun k hk => Nat.le_trans ((Nat.le_trans ((Nat.le_trans (hu4.out.size) hu7.out.size)) hu10.out.size)) ((fun k hk => Nat.le_trans lbb12.out (Nat.le_of_eq (Option.some.inj hk))) k hk)))) (fun k hk hp => Nat.ne_of_lt (Nat.lt_of_lt_of_le ((ha0.up ((hu4.out.trans hu7.out).trans hu10.out)).blk_lt hp k hk) lbb12.out)) A141.out) ?_
  rintro e w142 ⟨rfl, h143, hs⟩
  have hs144 := Aside0.mk hs
  clear hs
  have h145 := h131.grow hs144.out (fun k hk e => (Ne.symm (Nat.ne_of_lt (Nat.lt_of_lt_of_le (Nat.lt_of_lt_of_le ltb2.out ((Nat.le_trans (hu7.out.size) hu10.out.size))) lbb12.out))) ((Option.some.inj hk).trans e))
  have h146 := h132.grow hs144.out (fun k hk e => (Ne.symm (Nat.ne_of_lt (Nat.lt_of_lt_of_le (Nat.lt_of_lt_of_le ltb5.out (hu10.out.size)) lbb12.out))) ((Option.some.inj hk).trans e))
  have h147 := h133.grow hs144.out (fun k hk e => (Ne.symm (Nat.ne_of_lt (Nat.lt_of_lt_of_le ltb8.out lbb12.out))) ((Option.some.inj hk).trans e))
  have h148 := h134.grow hs144.out (fun k hk e => (Nat.ne_of_lt (Nat.lt_of_lt_of_le (Nat.lt_of_lt_of_le ltb12.out ((Nat.le_trans (hs25.out.size) hs38.out.size))) lbb39.out)) ((Option.some.inj hk).trans e))
  have h149 := h135.grow hs144.out (fun k hk e => (Nat.ne_of_lt (Nat.lt_of_lt_of_le (Nat.lt_of_lt_of_le ltb12.out ((Nat.le_trans ((Nat.le_trans (hs25.out.size) hs38.out.size)) hu41.out.size))) lbb42.out)) ((Option.some.inj hk).trans e))
  have h150 := h136.grow hs144.out (fun k hk e => (Nat.ne_of_lt (Nat.lt_of_lt_of_le (Nat.lt_of_lt_of_le ltb12.out ((Nat.le_trans ((Nat.le_trans ((Nat.le_trans (hs25.out.size) hs38.out.size)) hu41.out.size)) hu44.out.size))) lbb45.out)) ((Option.some.inj hk).trans e))
  refine ⟨_, rfl, ?_⟩
  simp only[nm]
  refine wpList_nil ?_
  refine wrapQ_k ?_
  refine late_consT ⟨h148, h149, h150, True.intro⟩ ?_
  refine step_call wn (by go_simp <;> rfl) (spec_l01BadPoint.calls K b12 a0_A a0_c a0 t139 t140 t19 t91 t92 t151 t152 t153 t154 w142 h143 (ha0.up ((((((hm87.out.trans hu95.out).sto (Nat.le_trans ((Nat.le_trans ((Nat.le_trans ((Nat.le_trans ((Nat.le_trans ((Nat.le_trans ((Nat.le_trans ((Nat.le_trans (hu4.out.size) hu7.out.size)) hu10.out.size)) hu17.out.size)) hs25.out.size)) hs38.out.size)) hu41.out.size)) hu44.out.size)) lbb45.out) hs97.out).trans hu109.out).grow hs116.out (fun k hk => Nat.le_trans ((Nat.le_trans ((Nat.le_trans (hu4.out.size) hu7.out.size)) hu10.out.size)) ((fun k hk => Nat.le_trans lbb12.out (Nat.le_of_eq (Option.some.inj hk))) k hk))).grow hs130.out (fun k hk => Nat.le_trans ((Nat.le_trans ((Nat.le_trans (hu4.out.size) hu7.out.size)) hu10.out.size)) ((fun k hk => Nat.le_trans lbb12.out (Nat.le_of_eq (Option.some.inj hk))) k hk))).grow hs144.out (fun k hk => Nat.le_trans ((Nat.le_trans ((Nat.le_trans (hu4.out.size) hu7.out.size)) hu10.out.size)) ((fun k hk => Nat.le_trans lbb12.out (Nat.le_of_eq (Option.some.inj hk))) k hk)))) (fun k hk hp => Nat.ne_of_lt (Nat.lt_of_lt_of_le ((ha0.up ((hu4.out.trans hu7.out).trans hu10.out)).blk_lt hp k hk) lbb12.out)) A155.out) ?_
  rintro e w156 ⟨rfl, h157, hs⟩
  have hs158 := Aside0.mk hs
  clear hs
  have h159 := h145.grow hs158.out (fun k hk e => (Ne.symm (Nat.ne_of_lt (Nat.lt_of_lt_of_le (Nat.lt_of_lt_of_le ltb2.out ((Nat.le_trans (hu7.out.size) hu10.out.size))) lbb12.out))) ((Option.some.inj hk).trans e))
  have h160 := h146.grow hs158.out (fun k hk e => (Ne.symm (Nat.ne_of_lt (Nat.lt_of_lt_of_le (Nat.lt_of_lt_of_le ltb5.out (hu10.out.size)) lbb12.out))) ((Option.some.inj hk).trans e))
  have h161 := h147.grow hs158.out (fun k hk e => (Ne.symm (Nat.ne_of_lt (Nat.lt_of_lt_of_le ltb8.out lbb12.out))) ((Option.some.inj hk).trans e))
  have h162 := h148.grow hs158.out (fun k hk e => (Nat.ne_of_lt (Nat.lt_of_lt_of_le (Nat.lt_of_lt_of_le ltb12.out ((Nat.le_trans (hs25.out.size) hs38.out.size))) lbb39.out)) ((Option.some.inj hk).trans e))
  have h163 := h149.grow hs158.out (fun k hk e => (Nat.ne_of_lt (Nat.lt_of_lt_of_le (Nat.lt_of_lt_of_le ltb12.out ((Nat.le_trans ((Nat.le_trans (hs25.out.size) hs38.out.size)) hu41.out.size))) lbb42.out)) ((Option.some.inj hk).trans e))
  have h164 := h150.grow hs158.out (fun k hk e => (Nat.ne_of_lt (Nat.lt_of_lt_of_le (Nat.lt_of_lt_of_le ltb12.out ((Nat.le_trans ((Nat.le_trans ((Nat.le_trans (hs25.out.size) hs38.out.size)) hu41.out.size)) hu44.out.size))) lbb45.out)) ((Option.some.inj hk).trans e))
  refine ⟨_, rfl, ?_⟩
  simp only[nm]
  refine wpList_nil ?_
  refine wrapQ_k ?_
  refine late_consT ⟨h162, h163, h164, True.intro⟩ ?_
  refine wpp fun k h=>?_;go_simp;apply h;clear h k
  refine wpList_nil ?_
  refine wrapQ_k ?_
  refine late_consT ⟨h162, h163, h164, True.intro⟩ ?_
  refine wpp fun k h=>?_;go_simp;apply h;clear h k
  refine wpList_nil ?_
  refine wrapQ_k ?_
  refine late_consT ⟨h162, h163, h164, True.intro⟩ ?_
  refine stw [.int .i64 t123, .int .i64 t124] h159 rfl rfl rfl rfl rfl (by kernel_rfl) rfl rfl ?_
  intro w165 hs166 hb167
  have h168 := h160.sto hs166.out (Ne.symm (Nat.ne_of_lt (Nat.lt_of_lt_of_le ltb2.out lbb5.out)))
  have h169 := h161.sto hs166.out (Ne.symm (Nat.ne_of_lt (Nat.lt_of_lt_of_le (Nat.lt_of_lt_of_le ltb2.out (hu7.out.size)) lbb8.out)))
  have h171 := h162.sto hs166.out (Ne.symm (Nat.ne_of_lt (Nat.lt_of_lt_of_le (Nat.lt_of_lt_of_le ltb2.out ((Nat.le_trans ((Nat.le_trans ((Nat.le_trans ((Nat.le_trans (hu7.out.size) hu10.out.size)) hu17.out.size)) hs25.out.size)) hs38.out.size))) lbb39.out)))
  have h172 := h163.sto hs166.out (Ne.symm (Nat.ne_of_lt (Nat.lt_of_lt_of_le (Nat.lt_of_lt_of_le ltb2.out ((Nat.le_trans ((Nat.le_trans ((Nat.le_trans ((Nat.le_trans ((Nat.le_trans (hu7.out.size) hu10.out.size)) hu17.out.size)) hs25.out.size)) hs38.out.size)) hu41.out.size))) lbb42.out)))
  have h173 := h164.sto hs166.out (Ne.symm (Nat.ne_of_lt (Nat.lt_of_lt_of_le (Nat.lt_of_lt_of_le ltb2.out ((Nat.le_trans ((Nat.le_trans ((Nat.le_trans ((Nat.le_trans ((Nat.le_trans ((Nat.le_trans (hu7.out.size) hu10.out.size)) hu17.out.size)) hs25.out.size)) hs38.out.size)) hu41.out.size)) hu44.out.size))) lbb45.out)))
  refine wpList_nil ?_
  refine wrapQ_k ?_
  refine late_consT ⟨h171, h172, h173, True.intro⟩ ?_
  refine stw [.int .i64 t137, .int .i64 t138] h168 rfl rfl rfl rfl rfl (by kernel_rfl) rfl rfl ?_
  intro w174 hs175 hb176
  have h177 := hb167.sto hs175.out (Nat.ne_of_lt (Nat.lt_of_lt_of_le ltb2.out lbb5.out))
  have h178 := h169.sto hs175.out (Ne.symm (Nat.ne_of_lt (Nat.lt_of_lt_of_le ltb5.out lbb8.out)))
  have h180 := h171.sto hs175.out (Ne.symm (Nat.ne_of_lt (Nat.lt_of_lt_of_le (Nat.lt_of_lt_of_le ltb5.out ((Nat.le_trans ((Nat.le_trans ((Nat.le_trans (hu10.out.size) hu17.out.size)) hs25.out.size)) hs38.out.size))) lbb39.out)))
  have h181 := h172.sto hs175.out (Ne.symm (Nat.ne_of_lt (Nat.lt_of_lt_of_le (Nat.lt_of_lt_of_le ltb5.out ((Nat.le_trans ((Nat.le_trans ((Nat.le_trans ((Nat.le_trans (hu10.out.size) hu17.out.size)) hs25.out.size)) hs38.out.size)) hu41.out.size))) lbb42.out)))
  have h182 := h173.sto hs175.out (Ne.symm (Nat.ne_of_lt (Nat.lt_of_lt_of_le (Nat.lt_of_lt_of_le ltb5.out ((Nat.le_trans ((Nat.le_trans ((Nat.le_trans ((Nat.le_trans ((Nat.le_trans (hu10.out.size) hu17.out.size)) hs25.out.size)) hs38.out.size)) hu41.out.size)) hu44.out.size))) lbb45.out)))
  refine wpList_nil ?_
  refine wrapQ_k ?_
  refine late_consT ⟨h180, h181, h182, True.intro⟩ ?_
  refine stw [.int .i64 t151, .int .i64 t152] h178 rfl rfl rfl rfl rfl (by kernel_rfl) rfl rfl ?_
  intro w183 hs184 hb185
  have h186 := h177.sto hs184.out (Nat.ne_of_lt (Nat.lt_of_lt_of_le (Nat.lt_of_lt_of_le ltb2.out (hu7.out.size)) lbb8.out))
  have h187 := hb176.sto hs184.out (Nat.ne_of_lt (Nat.lt_of_lt_of_le ltb5.out lbb8.out))
  have h189 := h180.sto hs184.out (Ne.symm (Nat.ne_of_lt (Nat.lt_of_lt_of_le (Nat.lt_of_lt_of_le ltb8.out ((Nat.le_trans ((Nat.le_trans (hu17.out.size) hs25.out.size)) hs38.out.size))) lbb39.out)))
  have h190 := h181.sto hs184.out (Ne.symm (Nat.ne_of_lt (Nat.lt_of_lt_of_le (Nat.lt_of_lt_of_le ltb8.out ((Nat.le_trans ((Nat.le_trans ((Nat.le_trans (hu17.out.size) hs25.out.size)) hs38.out.size)) hu41.out.size))) lbb42.out)))
  have h191 := h182.sto hs184.out (Ne.symm (Nat.ne_of_lt (Nat.lt_of_lt_of_le (Nat.lt_of_lt_of_le ltb8.out ((Nat.le_trans ((Nat.le_trans ((Nat.le_trans ((Nat.le_trans (hu17.out.size) hs25.out.size)) hs38.out.size)) hu41.out.size)) hu44.out.size))) lbb45.out)))
  refine wpList_nil ?_
  refine wrapQ_k ?_
  refine late_nilT ⟨h189, h190, h191, True.intro⟩ ?_
  refine hK105 _ _ ?_
  refine wp_ret ?_
  refine hQf _ _ _ ?_
  have cr0 := h186.cell (o := 0) rfl
  have cr1 := h186.cell (o := 1) rfl
  have cr2 := h187.cell (o := 0) rfl
  have cr3 := h187.cell (o := 1) rfl
  have cr4 := hb185.cell (o := 0) rfl
  have cr5 := hb185.cell (o := 1) rfl
  exact bodyPost_ret (v := .tuple #[.int .i64 t110, .int .i64 t64, .agg #[.int .i64 t123, .int .i64 t124], .agg #[.int .i64 t137, .int .i64 t138], .agg #[.int .i64 t151, .int .i64 t152]]) (by first|rfl|simp [results, Tryz.results89, go_sem, cr0, cr1, cr2, cr3, cr4, cr5]<;>rfl) rfl ⟨rfl, ((((((((((hm87.out.trans hu95.out).sto (Nat.le_trans ((Nat.le_trans ((Nat.le_trans ((Nat.le_trans ((Nat.le_trans ((Nat.le_trans ((Nat.le_trans ((Nat.le_trans (hu4.out.size) hu7.out.size)) hu10.out.size)) hu17.out.size)) hs25.out.size)) hs38.out.size)) hu41.out.size)) hu44.out.size)) lbb45.out) hs97.out).trans hu109.out).grow hs116.out (fun k hk => Nat.le_trans ((Nat.le_trans ((Nat.le_trans (hu4.out.size) hu7.out.size)) hu10.out.size)) ((fun k hk => Nat.le_trans lbb12.out (Nat.le_of_eq (Option.some.inj hk))) k hk))).grow hs130.out (fun k hk => Nat.le_trans ((Nat.le_trans ((Nat.le_trans (hu4.out.size) hu7.out.size)) hu10.out.size)) ((fun k hk => Nat.le_trans lbb12.out (Nat.le_of_eq (Option.some.inj hk))) k hk))).grow hs144.out (fun k hk => Nat.le_trans ((Nat.le_trans ((Nat.le_trans (hu4.out.size) hu7.out.size)) hu10.out.size)) ((fun k hk => Nat.le_trans lbb12.out (Nat.le_of_eq (Option.some.inj hk))) k hk))).grow hs158.out (fun k hk => Nat.le_trans ((Nat.le_trans ((Nat.le_trans (hu4.out.size) hu7.out.size)) hu10.out.size)) ((fun k hk => Nat.le_trans lbb12.out (Nat.le_of_eq (Option.some.inj hk))) k hk))).sto (Nat.le_trans (Nat.le_refl _) lbb2.out) hs166.out).sto (Nat.le_trans (hu4.out.size) lbb5.out) hs175.out).sto (Nat.le_trans ((Nat.le_trans (hu4.out.size) hu7.out.size)) lbb8.out) hs184.out)⟩

set_option maxHeartbeats 40000000 in
set_option maxRecDepth 100000 in
theorem spec_DrawQuadreaOf.calls (K : Nat) (a0_A : Option Addr) (a0_c : Nat) (a0 : List (Int)) (r0 : Int) (r1 : Int) (r2 : Int) (r3 : Int) (r4 : Int) (r5 : Int) (r6 : Int) (r7 : Int) (w : World) (ha0 : Rd eU8 w a0_A a0) (h : spec_DrawQuadreaOf.f K a0 = some (r0, r1, r2, r3, r4, r5, r6, r7)) :
    Calls Tryz.prog 36 #[.slice a0_A a0.length a0_c] w fun e w' => e = .returned (.tuple #[.int .i64 r0, .int .i64 r1, .agg #[.int .i64 r2, .int .i64 r3], .agg #[.int .i64 r4, .int .i64 r5], .agg #[.int .i64 r6, .int .i64 r7]]) ∧ Up w w' := by
 have H : (((spec_l04Draw.f K a0).bind fun (t12, t13, t14, t15, t16, t17, t18, t19) => some (t12, t13, t14, t15, t16, t17, t18, t19)) : Option (Int × Int × Int × Int × Int × Int × Int × Int)) = some (r0, r1, r2, r3, r4, r5, r6, r7) := h
 clear h
 obtain ⟨⟨t12, t13, t14, t15, t16, t17, t18, t19⟩,A20,H⟩:=bnd H;try dsimp only at H
 simp only [Option.some.injEq, Prod.mk.injEq] at H
 obtain ⟨rfl, rfl, rfl, rfl, rfl, rfl, rfl, rfl⟩ := H
 go_enter Tryz.func36, Tryz.ntmps36
 refine wp_hide (fun Qf hQf => ?_)
 refine wsr fun _ hK1=>?_
 iterate 2 (refine wpp fun k h=>?_;go_simp;apply h;clear h k)
 refine stp (cs := [.int .i64 0, .int .i64 0]) (T := 25) ?_
 intro b2 w3 hu4 lbb2 ltb2 hb2
 simp only[nm]
 refine stp (cs := [.int .i64 0, .int .i64 0]) (T := 25) ?_
 intro b5 w6 hu7 lbb5 ltb5 hb5
 simp only[nm]
 refine stp (cs := [.int .i64 0, .int .i64 0]) (T := 25) ?_
 intro b8 w9 hu10 lbb8 ltb8 hb8
 simp only[nm]
 refine wln (hK1 _ _ ?_)
 refine wsr fun _ hK11=>?_
 refine wpp fun k h=>?_;go_simp;apply h;clear h k
 refine stc (spec_l04Draw.calls K a0_A a0_c a0 t12 t13 t14 t15 t16 t17 t18 t19 w9 (ha0.up ((hu4.out.trans hu7.out).trans hu10.out)) A20.out) ?_
 intro w21 hu22
 simp only[nm]
 iterate 6 (refine wpp fun k h=>?_;go_simp;apply h;clear h k)
 refine stp (cs := [.int .i64 0, .int .i64 0]) (T := 25) ?_
 intro b23 w24 hu25 lbb23 ltb23 hb23
 simp only[nm]
 refine stp (cs := [.int .i64 0, .int .i64 0]) (T := 25) ?_
 intro b26 w27 hu28 lbb26 ltb26 hb26
 simp only[nm]
 refine stp (cs := [.int .i64 0, .int .i64 0]) (T := 25) ?_
 intro b29 w30 hu31 lbb29 ltb29 hb29
 simp only[nm]
 iterate 2 (refine wpp fun k h=>?_;go_simp;apply h;clear h k)
 refine stw [.int .i64 t14, .int .i64 t15] (hb23.up (hu28.out.trans hu31.out)) rfl rfl rfl rfl rfl (by kernel_rfl) rfl rfl ?_
 intro w32 hs33 hb34
 have h35 := (hb26.up hu31.out).sto hs33.out (Ne.symm (Nat.ne_of_lt (Nat.lt_of_lt_of_le ltb23.out lbb26.out)))
 have h36 := hb29.sto hs33.out (Ne.symm (Nat.ne_of_lt (Nat.lt_of_lt_of_le (Nat.lt_of_lt_of_le ltb23.out (hu28.out.size)) lbb29.out)))
 refine stw [.int .i64 t16, .int .i64 t17] h35 rfl rfl rfl rfl rfl (by kernel_rfl) rfl rfl ?_
 intro w37 hs38 hb39
 have h40 := hb34.sto hs38.out (Nat.ne_of_lt (Nat.lt_of_lt_of_le ltb23.out lbb26.out))
 have h41 := h36.sto hs38.out (Ne.symm (Nat.ne_of_lt (Nat.lt_of_lt_of_le ltb26.out lbb29.out)))
 refine stw [.int .i64 t18, .int .i64 t19] h41 rfl rfl rfl rfl rfl (by kernel_rfl) rfl rfl ?_
 intro w42 hs43 hb44
 have h45 := h40.sto hs43.out (Nat.ne_of_lt (Nat.lt_of_lt_of_le (Nat.lt_of_lt_of_le ltb23.out (hu28.out.size)) lbb29.out))
 have h46 := hb39.sto hs43.out (Nat.ne_of_lt (Nat.lt_of_lt_of_le ltb26.out lbb29.out))
 refine wln (hK11 _ _ ?_)
 refine wp_seq_k fun K47 hK47=>?_
 have hTT_ : ∀ w_, Up (World.drew w42) w_ → (fun w_ => Blk w_ b23 [.int .i64 t14, .int .i64 t15] 25 ∧ Blk w_ b26 [.int .i64 t16, .int .i64 t17] 25 ∧ Blk w_ b29 [.int .i64 t18, .int .i64 t19] 25 ∧ True) w_ := fun w_ hu_ => ⟨h45.up ((Up.refl _).drew.trans hu_), h46.up ((Up.refl _).drew.trans hu_), hb44.up ((Up.refl _).drew.trans hu_), True.intro⟩
 refine' wp_region_mix (fun w_ => Blk w_ b23 [.int .i64 t14, .int .i64 t15] 25 ∧ Blk w_ b26 [.int .i64 t16, .int .i64 t17] 25 ∧ Blk w_ b29 [.int .i64 t18, .int .i64 t19] 25 ∧ True) [0, 1, 2, 3, 4] [5, 6, 7, 8, 9] [Slot.pur _, Slot.pur _, Slot.pur _, Slot.pur _, Slot.pur _] (by kernel_rfl) (by kernel_rfl) rfl rfl hTT_ ?main
 case main =>
  simp only [pick, List.drop_succ_cons, List.drop_zero]
  refine wpK_pur rfl hTT_ (fun w1 hT => ?_) ?_
  · clear hT
    go_simp
    first | done | rfl
  simp only[nm]
  refine wpK_pur rfl hTT_ (fun w1 hT => ?_) ?_
  · clear hT
    go_simp
    first | done | rfl
  simp only[nm]
  refine wpK_pur rfl hTT_ (fun w1 hT => ?_) ?_
  · have hB_ := hT.1
    have cl0 := hB_.cell (o := 0) rfl
    have cl1 := hB_.cell (o := 1) rfl
    clear hT
    go_simp
    first | done | rfl
  simp only[nm]
  refine wpK_pur rfl hTT_ (fun w1 hT => ?_) ?_
  · have hB_ := hT.2.1
    have cl0 := hB_.cell (o := 0) rfl
    have cl1 := hB_.cell (o := 1) rfl
    clear hT
    go_simp
    first | done | rfl
  simp only[nm]
  refine wpK_pur rfl hTT_ (fun w1 hT => ?_) ?_
  · have hB_ := hT.2.2.1
    have cl0 := hB_.cell (o := 0) rfl
    have cl1 := hB_.cell (o := 1) rfl
    clear hT
    go_simp
    first | done | rfl
  simp only[nm]
  refine wpK_nil ?_
  intro w48 hu
  replace hu := (Up.refl _).drew.trans hu
  have hu49 := Aside0.mk hu
  clear hu
  refine late_consT ⟨(h45.up hu49.out), (h46.up hu49.out), (hb44.up hu49.out), True.intro⟩ ?_
  refine wpp fun k h=>?_;go_simp;apply h;clear h k
  refine wpList_nil ?_
  refine wrapQ_k ?_
  refine late_consT ⟨(h45.up hu49.out), (h46.up hu49.out), (hb44.up hu49.out), True.intro⟩ ?_
  refine wpp fun k h=>?_;go_simp;apply h;clear h k
  refine wpList_nil ?_
  refine wrapQ_k ?_
  refine late_consT ⟨(h45.up hu49.out), (h46.up hu49.out), (hb44.up hu49.out), True.intro⟩ ?_
  refine stw [.int .i64 t14, .int .i64 t15] (hb2.up (((((((((hu7.out.trans hu10.out).trans hu22.out).trans hu25.out).trans hu28.out).trans hu31.out).sto (Nat.le_trans ((Nat.le_trans ((Nat.le_trans (hu7.out.size) hu10.out.size)) hu22.out.size)) lbb23.out) hs33.out).sto (Nat.le_trans ((Nat.le_trans ((Nat.le_trans ((Nat.le_trans (hu7.out.size) hu10.out.size)) hu22.out.size)) hu25.out.size)) lbb26.out) hs38.out).sto (Nat.le_trans ((Nat.le_trans ((Nat.le_trans ((Nat.le_trans ((Nat.le_trans (hu7.out.size) hu10.out.size)) hu22.out.size)) hu25.out.size)) hu28.out.size)) lbb29.out) hs43.out).trans hu49.out)) rfl rfl rfl rfl rfl (by kernel_rfl) rfl rfl ?_
  intro w50 hs51 hb52
  have h53 := (hb5.up ((((((((hu10.out.trans hu22.out).trans hu25.out).trans hu28.out).trans hu31.out).sto (Nat.le_trans ((Nat.le_trans (hu10.out.size) hu22.out.size)) lbb23.out) hs33.out).sto (Nat.le_trans ((Nat.le_trans ((Nat.le_trans (hu10.out.size) hu22.out.size)) hu25.out.size)) lbb26.out) hs38.out).sto (Nat.le_trans ((Nat.le_trans ((Nat.le_trans ((Nat.le_trans (hu10.out.size) hu22.out.size)) hu25.out.size)) hu28.out.size)) lbb29.out) hs43.out).trans hu49.out)).sto hs51.out (Ne.symm (Nat.ne_of_lt (Nat.lt_of_lt_of_le ltb2.out lbb5.out)))
  have h54 := (hb8.up (((((((hu22.out.trans hu25.out).trans hu28.out).trans hu31.out).sto (Nat.le_trans (hu22.out.size) lbb23.out) hs33.out).sto (Nat.le_trans ((Nat.le_trans (hu22.out.size) hu25.out.size)) lbb26.out) hs38.out).sto (Nat.le_trans ((Nat.le_trans ((Nat.le_trans (hu22.out.size) hu25.out.size)) hu28.out.size)) lbb29.out) hs43.out).trans hu49.out)).sto hs51.out (Ne.symm (Nat.ne_of_lt (Nat.lt_of_lt_of_le (Nat.lt_of_lt_of_le ltb2.out (hu7.out.size)) lbb8.out)))
  have h55 := (h45.up hu49.out).sto hs51.out (Ne.symm (Nat.ne_of_lt (Nat.lt_of_lt_of_le (Nat.lt_of_lt_of_le ltb2.out ((Nat.le_trans ((Nat.le_trans (hu7.out.size) hu10.out.size)) hu22.out.size))) lbb23.out)))
  have h56 := (h46.up hu49.out).sto hs51.out (Ne.symm (Nat.ne_of_lt (Nat.lt_of_lt_of_le (Nat.lt_of_lt_of_le ltb2.out ((Nat.le_trans ((Nat.le_trans ((Nat.le_trans (hu7.out.size) hu10.out.size)) hu22.out.size)) hu25.out.size))) lbb26.out)))
  have h57 := (hb44.up hu49.out).sto hs51.out (Ne.symm (Nat.ne_of_lt (Nat.lt_of_lt_of_le (Nat.lt_of_lt_of_le ltb2.out ((Nat.le_trans ((Nat.le_trans ((Nat.le_trans ((Nat.le_trans (hu7.out.size) hu10.out.size)) hu22.out.size)) hu25.out.size)) hu28.out.size))) lbb29.out)))
  refine wpList_nil ?_
  refine wrapQ_k ?_
  refine late_consT ⟨h55, h56, h57, True.intro⟩ ?_
  refine stw [.int .i64 t16, .int .i64 t17] h53 rfl rfl rfl rfl rfl (by kernel_rfl) rfl rfl ?_
  intro w58 hs59 hb60
  have h61 := hb52.sto hs59.out (Nat.ne_of_lt (Nat.lt_of_lt_of_le ltb2.out lbb5.out))
  have h62 := h54.sto hs59.out (Ne.symm (Nat.ne_of_lt (Nat.lt_of_lt_of_le ltb5.out lbb8.out)))
  have h63 := h55.sto hs59.out (Ne.symm (Nat.ne_of_lt (Nat.lt_of_lt_of_le (Nat.lt_of_lt_of_le ltb5.out ((Nat.le_trans (hu10.out.size) hu22.out.size))) lbb23.out)))
  have h64 := h56.sto hs59.out (Ne.symm (Nat.ne_of_lt (Nat.lt_of_lt_of_le (Nat.lt_of_lt_of_le ltb5.out ((Nat.le_trans ((Nat.le_trans (hu10.out.size) hu22.out.size)) hu25.out.size))) lbb26.out)))
  have h65 := h57.sto hs59.out (Ne.symm (Nat.ne_of_lt (Nat.lt_of_lt_of_le (Nat.lt_of_lt_of_le ltb5.out ((Nat.le_trans ((Nat.le_trans ((Nat.le_trans (hu10.out.size) hu22.out.size)) hu25.out.size)) hu28.out.size))) lbb29.out)))
  refine wpList_nil ?_
  refine wrapQ_k ?_
  refine late_consT ⟨h63, h64, h65, True.intro⟩ ?_
  refine stw [.int .i64 t18, .int .i64 t19] h62 rfl rfl rfl rfl rfl (by kernel_rfl) rfl rfl ?_
  intro w66 hs67 hb68
  have h69 := h61.sto hs67.out (Nat.ne_of_lt (Nat.lt_of_lt_of_le (Nat.lt_of_lt_of_le ltb2.out (hu7.out.size)) lbb8.out))
  have h70 := hb60.sto hs67.out (Nat.ne_of_lt (Nat.lt_of_lt_of_le ltb5.out lbb8.out))
  have h71 := h63.sto hs67.out (Ne.symm (Nat.ne_of_lt (Nat.lt_of_lt_of_le (Nat.lt_of_lt_of_le ltb8.out (hu22.out.size)) lbb23.out)))
  have h72 := h64.sto hs67.out (Ne.symm (Nat.ne_of_lt (Nat.lt_of_lt_of_le (Nat.lt_of_lt_of_le ltb8.out ((Nat.le_trans (hu22.out.size) hu25.out.size))) lbb26.out)))
  have h73 := h65.sto hs67.out (Ne.symm (Nat.ne_of_lt (Nat.lt_of_lt_of_le (Nat.lt_of_lt_of_le ltb8.out ((Nat.le_trans ((Nat.le_trans (hu22.out.size) hu25.out.size)) hu28.out.size))) lbb29.out)))
  refine wpList_nil ?_
  refine wrapQ_k ?_
  refine late_nilT ⟨h71, h72, h73, True.intro⟩ ?_
  refine hK47 _ _ ?_
  refine wp_ret ?_
  refine hQf _ _ _ ?_
  have cr0 := h69.cell (o := 0) rfl
  have cr1 := h69.cell (o := 1) rfl
  have cr2 := h70.cell (o := 0) rfl
  have cr3 := h70.cell (o := 1) rfl
  have cr4 := hb68.cell (o := 0) rfl
  have cr5 := hb68.cell (o := 1) rfl
  exact bodyPost_ret (v := .tuple #[.int .i64 t12, .int .i64 t13, .agg #[.int .i64 t14, .int .i64 t15], .agg #[.int .i64 t16, .int .i64 t17], .agg #[.int .i64 t18, .int .i64 t19]]) (by first|rfl|simp [results, Tryz.results36, go_sem, cr0, cr1, cr2, cr3, cr4, cr5]<;>rfl) rfl ⟨rfl, (((((((((((((hu4.out.trans hu7.out).trans hu10.out).trans hu22.out).trans hu25.out).trans hu28.out).trans hu31.out).sto (Nat.le_trans ((Nat.le_trans ((Nat.le_trans ((Nat.le_trans (hu4.out.size) hu7.out.size)) hu10.out.size)) hu22.out.size)) lbb23.out) hs33.out).sto (Nat.le_trans ((Nat.le_trans ((Nat.le_trans ((Nat.le_trans ((Nat.le_trans (hu4.out.size) hu7.out.size)) hu10.out.size)) hu22.out.size)) hu25.out.size)) lbb26.out) hs38.out).sto (Nat.le_trans ((Nat.le_trans ((Nat.le_trans ((Nat.le_trans ((Nat.le_trans ((Nat.le_trans (hu4.out.size) hu7.out.size)) hu10.out.size)) hu22.out.size)) hu25.out.size)) hu28.out.size)) lbb29.out) hs43.out).trans hu49.out).sto (Nat.le_trans (Nat.le_refl _) lbb2.out) hs51.out).sto (Nat.le_trans (hu4.out.size) lbb5.out) hs59.out).sto (Nat.le_trans ((Nat.le_trans (hu4.out.size) hu7.out.size)) lbb8.out) hs67.out)⟩

set_option maxHeartbeats 40000000 in
set_option maxRecDepth 100000 in
theorem spec_DrawCircleThrough.calls (K : Nat) (a0_A : Option Addr) (a0_c : Nat) (a0 : List (Int)) (r0 : Int) (r1 : Int) (r2 : Int) (r3 : Int) (r4 : Int) (r5 : Int) (r6 : Int) (r7 : Int) (w : World) (ha0 : Rd eU8 w a0_A a0) (h : spec_DrawCircleThrough.f K a0 = some (r0, r1, r2, r3, r4, r5, r6, r7)) :
    Calls Tryz.prog 8 #[.slice a0_A a0.length a0_c] w fun e w' => e = .returned (.tuple #[.int .i64 r0, .int .i64 r1, .agg #[.int .i64 r2, .int .i64 r3], .agg #[.int .i64 r4, .int .i64 r5], .agg #[.int .i64 r6, .int .i64 r7]]) ∧ Up w w' := by
 have H : (((spec_DrawQuadreaOf.f K a0).bind fun (t12, t13, t14, t15, t16, t17, t18, t19) => some (t12, t13, t14, t15, t16, t17, t18, t19)) : Option (Int × Int × Int × Int × Int × Int × Int × Int)) = some (r0, r1, r2, r3, r4, r5, r6, r7) := h
 clear h
 obtain ⟨⟨t12, t13, t14, t15, t16, t17, t18, t19⟩,A20,H⟩:=bnd H;try dsimp only at H
 simp only [Option.some.injEq, Prod.mk.injEq] at H
 obtain ⟨rfl, rfl, rfl, rfl, rfl, rfl, rfl, rfl⟩ := H
 go_enter Tryz.func8, Tryz.ntmps8
 refine wp_hide (fun Qf hQf => ?_)
 refine wsr fun _ hK1=>?_
 iterate 2 (refine wpp fun k h=>?_;go_simp;apply h;clear h k)
 refine stp (cs := [.int .i64 0, .int .i64 0]) (T := 25) ?_
 intro b2 w3 hu4 lbb2 ltb2 hb2
 simp only[nm]
 refine stp (cs := [.int .i64 0, .int .i64 0]) (T := 25) ?_
 intro b5 w6 hu7 lbb5 ltb5 hb5
 simp only[nm]
 refine stp (cs := [.int .i64 0, .int .i64 0]) (T := 25) ?_
 intro b8 w9 hu10 lbb8 ltb8 hb8
 simp only[nm]
 refine wln (hK1 _ _ ?_)
 refine wsr fun _ hK11=>?_
 refine wpp fun k h=>?_;go_simp;apply h;clear h k
 refine stc (spec_DrawQuadreaOf.calls K a0_A a0_c a0 t12 t13 t14 t15 t16 t17 t18 t19 w9 (ha0.up ((hu4.out.trans hu7.out).trans hu10.out)) A20.out) ?_
 intro w21 hu22
 simp only[nm]
 iterate 7 (refine wpp fun k h=>?_;go_simp;apply h;clear h k)
 refine stw [.int .i64 t14, .int .i64 t15] (hb2.up ((hu7.out.trans hu10.out).trans hu22.out)) rfl rfl rfl rfl rfl (by kernel_rfl) rfl rfl ?_
 intro w23 hs24 hb25
 have h26 := (hb5.up (hu10.out.trans hu22.out)).sto hs24.out (Ne.symm (Nat.ne_of_lt (Nat.lt_of_lt_of_le ltb2.out lbb5.out)))
 have h27 := (hb8.up hu22.out).sto hs24.out (Ne.symm (Nat.ne_of_lt (Nat.lt_of_lt_of_le (Nat.lt_of_lt_of_le ltb2.out (hu7.out.size)) lbb8.out)))
 refine stw [.int .i64 t16, .int .i64 t17] h26 rfl rfl rfl rfl rfl (by kernel_rfl) rfl rfl ?_
 intro w28 hs29 hb30
 have h31 := hb25.sto hs29.out (Nat.ne_of_lt (Nat.lt_of_lt_of_le ltb2.out lbb5.out))
 have h32 := h27.sto hs29.out (Ne.symm (Nat.ne_of_lt (Nat.lt_of_lt_of_le ltb5.out lbb8.out)))
 refine stw [.int .i64 t18, .int .i64 t19] h32 rfl rfl rfl rfl rfl (by kernel_rfl) rfl rfl ?_
 intro w33 hs34 hb35
 have h36 := h31.sto hs34.out (Nat.ne_of_lt (Nat.lt_of_lt_of_le (Nat.lt_of_lt_of_le ltb2.out (hu7.out.size)) lbb8.out))
 have h37 := hb30.sto hs34.out (Nat.ne_of_lt (Nat.lt_of_lt_of_le ltb5.out lbb8.out))
 refine wln (hK11 _ _ ?_)
 refine wp_ret ?_
 refine hQf _ _ _ ?_
 have cr0 := h36.cell (o := 0) rfl
 have cr1 := h36.cell (o := 1) rfl
 have cr2 := h37.cell (o := 0) rfl
 have cr3 := h37.cell (o := 1) rfl
 have cr4 := hb35.cell (o := 0) rfl
 have cr5 := hb35.cell (o := 1) rfl
 exact bodyPost_ret (v := .tuple #[.int .i64 t12, .int .i64 t13, .agg #[.int .i64 t14, .int .i64 t15], .agg #[.int .i64 t16, .int .i64 t17], .agg #[.int .i64 t18, .int .i64 t19]]) (by first|rfl|simp [results, Tryz.results8, go_sem, cr0, cr1, cr2, cr3, cr4, cr5]<;>rfl) rfl ⟨rfl, ((((((hu4.out.trans hu7.out).trans hu10.out).trans hu22.out).sto (Nat.le_trans (Nat.le_refl _) lbb2.out) hs24.out).sto (Nat.le_trans (hu4.out.size) lbb5.out) hs29.out).sto (Nat.le_trans ((Nat.le_trans (hu4.out.size) hu7.out.size)) lbb8.out) hs34.out)⟩

set_option maxHeartbeats 40000000 in
set_option maxRecDepth 100000 in
theorem impl_arePoints.calls (K : Nat) (a0 : Int) (a1_A : Option Addr) (a1_c : Nat) (a1 : List (Int × Int)) (r0 : Bool) (w : World) (ha1 : Rd e2 w a1_A a1) (h : impl_arePoints.f K a0 a1 = some (r0)) :
    Calls Tryz.prog 91 #[.int .i64 a0, .slice a1_A a1.length a1_c] w fun e w' => e = .returned (.bool r0) ∧ Up w w' := by
 have H : ((impl_arePoints.l0 K a0 a1 K 0) : Option (Bool)) = some (r0) := h
 clear h
 go_enter Tryz.func91, Tryz.ntmps91
 refine wp_hide (fun Qf hQf => ?_)
 refine wsr fun _ hK1=>?_
 refine wpp fun k h=>?_;go_simp;apply h;clear h k
 refine wln (hK1 _ _ ?_)
 refine wp_seq_k fun K2 hK2=>?_
 refine wsr fun _ hK3=>?_
 iterate 3 (refine wpp fun k h=>?_;go_simp;apply h;clear h k)
 refine wln (hK3 _ _ ?_)
 refine wp_block ?_
 have HL8 := Aside0.mk H
 clear H
 go_loopg [9] K (fun kq v9 w' => ∃ (x4 : Int), v9 = .int .i64 x4 ∧ Aside0 (impl_arePoints.l0 K a0 a1 kq x4 = some (r0)) ∧ Aside0 (kq ≤ K) ∧ Aside0 (Up w w') ∧ Aside0 (w.heap.size ≤ w'.heap.size))
 case atStart => exact ⟨0, (by first | rfl | simp), HL8, ⟨Nat.le_refl _⟩, ⟨(Up.refl _)⟩, ⟨Nat.le_refl _⟩⟩
 case round =>
  rename_i J11 K12 hJ11 hK12
  obtain ⟨x4, rfl, HL13, hk10, hu6, hz7⟩ := hrel
  obtain ⟨w5, rfl⟩ : ∃ wo : World, wo = wr := ⟨_, rfl⟩
  obtain ⟨k9, rfl⟩ | rfl : (∃ k, gk = k + 1) ∨ gk = 0 := by rcases gk with _ | k; exact .inr rfl; exact .inl ⟨k, rfl⟩
  case inr => exact absurd HL13.out (by simp [impl_arePoints.l0])
  have H := HL13.out
  clear HL13
  rw [impl_arePoints.l0] at H
  refine wsr fun _ hK14=>?_
  refine wpp fun k h=>?_;go_simp;apply h;clear h k
  refine wln (hK14 _ _ ?_)
  refine wp_seq_k fun K15 hK15=>?_
  by_cases c16 : (decide (x4 < (a1.length : Int))) = true
  rotate_left
  ·
   rw [if_neg c16] at H; replace c16 := Bool.eq_false_iff.mpr c16
   obtain rfl := Option.some.inj H
   try simp only [c16, Bool.not_true, Bool.not_false]
   refine wp_cond_false rfl ?_
   refine wp_exit ?_
   refine hK2 _ _ ?_
   refine wsr fun _ hK40=>?_
   refine wpp fun k h=>?_;go_simp;apply h;clear h k
   refine wln (hK40 _ _ ?_)
   refine wp_ret ?_
   refine hQf _ _ _ ?_
   exact bpr (v := .bool true) ⟨rfl, hu6.out⟩
  rw [if_pos c16] at H
  obtain ⟨⟨t19, t20⟩,A21,H⟩:=bnd H;try dsimp only at H
  obtain ⟨t32,A33,H⟩:=bnd H;try dsimp only at H
  try simp only [c16, Bool.not_true, Bool.not_false]
  refine wp_cond_true rfl ?_
  refine wp_skip ?_
  refine hK15 _ _ ?_
  refine wp_seq_k fun K17 hK17=>?_
  refine wp_block ?_
  refine wsr fun _ hK18=>?_
  refine step_index e2 (T := 25) wn rfl (by kernel_rfl) (by kernel_rfl) rfl rfl rfl (ha1.up hu6.out) A21.out ?_
  intro ad22 hat he
  have he23 := Aside0.mk he
  have hat24 := Aside0.mk hat
  clear he hat
  simp only[nm]
  have cl0 := he23.out 0 _ rfl
  rw [addr_add0] at cl0
  have cl1 : World.cell? _ ⟨ad22.block, ad22.off + 1, none⟩ = some _ := he23.out 1 _ rfl
  refine wpp fun k h=>?_;go_simp;apply h;clear h k
  clear cl0 cl1
  refine stp (cs := [.int .i64 0, .int .i64 0]) (T := 25) ?_
  intro b25 w26 hu27 lbb25 ltb25 hb25
  simp only[nm]
  refine stw [.int .i64 t19, .int .i64 t20] hb25 rfl rfl rfl rfl rfl (by kernel_rfl) rfl rfl ?_
  intro w28 hs29 hb30
  refine wln (hK18 _ _ ?_)
  refine wsr fun _ hK31=>?_
  refine wpp fun k h=>?_;go_simp;apply h;clear h k
  have cl0 := hb30.cell (o := 0) rfl
  have cl1 := hb30.cell (o := 1) rfl
  refine wpp fun k h=>?_;go_simp;apply h;clear h k
  clear cl0 cl1
  refine stc (impl_isPoint.calls K a0 t19 t20 t32 w28  A33.out) ?_
  intro w34 hu35
  simp only[nm]
  refine wpp fun k h=>?_;go_simp;apply h;clear h k
  refine wln (hK31 _ _ ?_)
  have hm37 := Aside0.mk ((hu27.out.sto (Nat.le_trans (Nat.le_refl _) lbb25.out) hs29.out).trans hu35.out)
  by_cases c36 : (t32) = true
  rotate_left
  ·
   rw [if_neg c36] at H; replace c36 := Bool.eq_false_iff.mpr c36
   subst c36
   obtain rfl := Option.some.inj H
   refine wp_cond_true rfl ?_
   refine wsr fun _ hK39=>?_
   refine wpp fun k h=>?_;go_simp;apply h;clear h k
   refine wln (hK39 _ _ ?_)
   refine wp_ret ?_
   refine hQf _ _ _ ?_
   exact bpr (v := .bool false) ⟨rfl, (hu6.out.trans hm37.out)⟩
  rw [if_pos c36] at H
  subst c36
  have HL38 := Aside0.mk H
  clear H
  refine wp_cond_false rfl ?_
  refine wp_skip ?_
  refine hK17 _ _ ?_
  refine wp_region_lit ?_
  iterate 2 (refine wpp fun k h=>?_;go_simp;apply h;clear h k)
  refine wln (hK12 _ _ ?_)
  go_roundg k9
  case measure => exact Nat.lt_succ_self _
  case rel => exact ⟨wrap64 (x4 + 1), (by first | rfl | simp), HL38, ⟨by have := hk10.out; omega⟩, ⟨(hu6.out.trans hm37.out)⟩, ⟨(Nat.le_trans ((Nat.le_trans (Nat.le_refl _) hz7.out)) hm37.out.size)⟩⟩

set_option maxHeartbeats 40000000 in
set_option maxRecDepth 100000 in
theorem impl_triangle_1.calls (K : Nat) (bf0 : Nat) (f0_0 : Int) (bf1 : Nat) (f1_0 : Int) (bf2 : Nat) (f2_0 : Int) (f2_1 : Int) (bf3 : Nat) (f3_0 : Int) (f3_1 : Int) (bf4 : Nat) (f4_0 : Int) (f4_1 : Int) (r0 : Bool) (w : World) (hf0 : Blk w bf0 [.int .i64 f0_0] 2) (hf1 : Blk w bf1 [.int .i64 f1_0] 2) (hf2 : Blk w bf2 [.int .i64 f2_0, .int .i64 f2_1] 25) (hf3 : Blk w bf3 [.int .i64 f3_0, .int .i64 f3_1] 25) (hf4 : Blk w bf4 [.int .i64 f4_0, .int .i64 f4_1] 25) (h : impl_triangle_1.f K f0_0 f1_0 f2_0 f2_1 f3_0 f3_1 f4_0 f4_1 = some (r0)) :
    Calls Tryz.prog 90 #[.pointer (some ⟨bf0, 0, none⟩), .pointer (some ⟨bf1, 0, none⟩), .pointer (some ⟨bf2, 0, none⟩), .pointer (some ⟨bf3, 0, none⟩), .pointer (some ⟨bf4, 0, none⟩)] w fun e w' => e = .returned (.bool r0) ∧ Up w w' := by
 have H : (((impl_isColour.f K f0_0).bind fun t3 => (if t3 = true then ((impl_arePoints.f K f1_0 ([(f2_0, f2_1), (f3_0, f3_1), (f4_0, f4_1)])).bind fun t11 => some t11) else some false)) : Option (Bool)) = some (r0) := h
 clear h
 obtain ⟨t3,A4,H⟩:=bnd H;try dsimp only at H
 have ltbf0 := Aside0.mk hf0.lt
 have ltbf1 := Aside0.mk hf1.lt
 have ltbf2 := Aside0.mk hf2.lt
 have ltbf3 := Aside0.mk hf3.lt
 have ltbf4 := Aside0.mk hf4.lt
 go_enter Tryz.func90, Tryz.ntmps90
 refine wp_hide (fun Qf hQf => ?_)
 refine wsr fun _ hK1=>?_
 refine wpp fun k h=>?_;go_simp;apply h;clear h k
 refine wln (hK1 _ _ ?_)
 refine wsr fun _ hK2=>?_
 have cl0 := hf0.cell (o := 0) rfl
 refine wpp fun k h=>?_;go_simp;apply h;clear h k
 clear cl0
 refine stc (impl_isColour.calls K f0_0 t3 w  A4.out) ?_
 intro w5 hu6
 simp only[nm]
 refine wpp fun k h=>?_;go_simp;apply h;clear h k
 by_cases c7 : (t3) = true
 rotate_left
 ·
  rw [if_neg c7] at H; replace c7 := Bool.eq_false_iff.mpr c7
  subst c7
  obtain rfl := Option.some.inj H
  refine step_no rfl ?_
  simp only[nm]
  refine step_no rfl ?_
  simp only[nm]
  refine step_no rfl ?_
  simp only[nm]
  refine step_no rfl ?_
  simp only[nm]
  refine step_no rfl ?_
  simp only[nm]
  refine step_no rfl ?_
  simp only[nm]
  iterate 2 (refine wpp fun k h=>?_;go_simp;apply h;clear h k)
  refine wln (hK2 _ _ ?_)
  refine wp_ret ?_
  refine hQf _ _ _ ?_
  exact bpr (v := .bool false) ⟨rfl, hu6.out⟩
 rw [if_pos c7] at H
 subst c7
 obtain ⟨t11,A12,H⟩:=bnd H;try dsimp only at H
 obtain rfl := Option.some.inj H
 have cl0 := (hf1.up hu6.out).cell (o := 0) rfl
 refine wpList_step fun k h=>?_;go_simp;apply h;clear h k
 clear cl0
 have cl0 := (hf2.up hu6.out).cell (o := 0) rfl
 have cl1 := (hf2.up hu6.out).cell (o := 1) rfl
 refine wpList_step fun k h=>?_;go_simp;apply h;clear h k
 clear cl0 cl1
 have cl0 := (hf3.up hu6.out).cell (o := 0) rfl
 have cl1 := (hf3.up hu6.out).cell (o := 1) rfl
 refine wpList_step fun k h=>?_;go_simp;apply h;clear h k
 clear cl0 cl1
 have cl0 := (hf4.up hu6.out).cell (o := 0) rfl
 have cl1 := (hf4.up hu6.out).cell (o := 1) rfl
 refine wpList_step fun k h=>?_;go_simp;apply h;clear h k
 clear cl0 cl1
 refine step_new_yes (cs := [.int .i64 f2_0, .int .i64 f2_1, .int .i64 f3_0, .int .i64 f3_1, .int .i64 f4_0, .int .i64 f4_1]) (T := 25) (f := fun b => .slice (some ⟨b, 0, none⟩) 3 3) rfl (by go_simp <;> rfl) ?_
 intro b8 w9 hu lb hb8
 simp only[nm]
 clear lb
 have hu10 := Aside0.mk hu
 clear hu
 refine step_call rfl (by go_simp <;> rfl) (impl_arePoints.calls K f1_0 (some ⟨b8, 0, none⟩) 3 ([(f2_0, f2_1), (f3_0, f3_1), (f4_0, f4_1)]) t11 w9 (Rd.of_blk (E := e2) (xs := [(f2_0, f2_1), (f3_0, f3_1), (f4_0, f4_1)]) (o := 0) hb8 (by simp) (fun j u hu => by rcases j with _ | _ | _ | _ | _ | _ | j <;> simp_all [Enc.flat, e2])) A12.out) ?_
 rintro e w13 ⟨rfl, hu⟩
 have hu14 := Aside0.mk hu
 clear hu
 refine ⟨_, rfl, ?_⟩
 simp only[nm]
 iterate 2 (refine wpp fun k h=>?_;go_simp;apply h;clear h k)
 refine wln (hK2 _ _ ?_)
 refine wp_ret ?_
 refine hQf _ _ _ ?_
 exact bpr (v := .bool t11) ⟨rfl, ((hu6.out.trans hu10.out).trans hu14.out)⟩

set_option maxHeartbeats 40000000 in
set_option maxRecDepth 100000 in
theorem impl_asked__impl_triangle_1.calls (K : Nat) (a0 : Int) (bc1_0 : Nat) (c1_0_0 : Int) (bc1_1 : Nat) (c1_1_0 : Int) (bc1_2 : Nat) (c1_2_0 : Int) (c1_2_1 : Int) (bc1_3 : Nat) (c1_3_0 : Int) (c1_3_1 : Int) (bc1_4 : Nat) (c1_4_0 : Int) (c1_4_1 : Int) (r0 : Int) (w : World) (hc1_0 : Blk w bc1_0 [.int .i64 c1_0_0] 2) (hc1_1 : Blk w bc1_1 [.int .i64 c1_1_0] 2) (hc1_2 : Blk w bc1_2 [.int .i64 c1_2_0, .int .i64 c1_2_1] 25) (hc1_3 : Blk w bc1_3 [.int .i64 c1_3_0, .int .i64 c1_3_1] 25) (hc1_4 : Blk w bc1_4 [.int .i64 c1_4_0, .int .i64 c1_4_1] 25) (h : impl_asked__impl_triangle_1.f K a0 c1_0_0 c1_1_0 c1_2_0 c1_2_1 c1_3_0 c1_3_1 c1_4_0 c1_4_1 = some (r0)) :
    Calls Tryz.prog 26 #[.int .i64 a0, .func (.func 90) #[] #[.pointer (some ⟨bc1_0, 0, none⟩), .pointer (some ⟨bc1_1, 0, none⟩), .pointer (some ⟨bc1_2, 0, none⟩), .pointer (some ⟨bc1_3, 0, none⟩), .pointer (some ⟨bc1_4, 0, none⟩)]] w fun e w' => e = .returned (.int .i64 r0) ∧ Up w w' := by
 have H : (((impl_IsField.f K a0).bind fun t4 => (if t4 = true then ((impl_triangle_1.f K c1_0_0 c1_1_0 c1_2_0 c1_2_1 c1_3_0 c1_3_1 c1_4_0 c1_4_1).bind fun t11 => (if t11 = true then some 0 else some 2)) else some 1)) : Option (Int)) = some (r0) := h
 clear h
 obtain ⟨t4,A5,H⟩:=bnd H;try dsimp only at H
 have ltbc1_0 := Aside0.mk hc1_0.lt
 have ltbc1_1 := Aside0.mk hc1_1.lt
 have ltbc1_2 := Aside0.mk hc1_2.lt
 have ltbc1_3 := Aside0.mk hc1_3.lt
 have ltbc1_4 := Aside0.mk hc1_4.lt
 go_enter Tryz.func26, Tryz.ntmps26
 refine wp_hide (fun Qf hQf => ?_)
 refine wsr fun _ hK1=>?_
 refine wpp fun k h=>?_;go_simp;apply h;clear h k
 refine wln (hK1 _ _ ?_)
 refine wp_seq_k fun K2 hK2=>?_
 refine wsr fun _ hK3=>?_
 refine wpp fun k h=>?_;go_simp;apply h;clear h k
 refine stc (impl_IsField.calls K a0 t4 w  A5.out) ?_
 intro w6 hu7
 simp only[nm]
 refine wpp fun k h=>?_;go_simp;apply h;clear h k
 refine wln (hK3 _ _ ?_)
 by_cases c8 : (t4) = true
 rotate_left
 ·
  rw [if_neg c8] at H; replace c8 := Bool.eq_false_iff.mpr c8
  subst c8
  obtain rfl := Option.some.inj H
  refine wp_cond_true rfl ?_
  refine wsr fun _ hK18=>?_
  refine wpp fun k h=>?_;go_simp;apply h;clear h k
  refine wln (hK18 _ _ ?_)
  refine wp_ret ?_
  refine hQf _ _ _ ?_
  exact bpr (v := .int .i64 1) ⟨rfl, hu7.out⟩
 rw [if_pos c8] at H
 subst c8
 obtain ⟨t11,A12,H⟩:=bnd H;try dsimp only at H
 refine wp_cond_false rfl ?_
 refine wp_skip ?_
 refine hK2 _ _ ?_
 refine wp_seq_k fun K9 hK9=>?_
 refine wsr fun _ hK10=>?_
 refine wpp fun k h=>?_;go_simp;apply h;clear h k
 refine stc (impl_triangle_1.calls K bc1_0 c1_0_0 bc1_1 c1_1_0 bc1_2 c1_2_0 c1_2_1 bc1_3 c1_3_0 c1_3_1 bc1_4 c1_4_0 c1_4_1 t11 w6 (hc1_0.up hu7.out) (hc1_1.up hu7.out) (hc1_2.up hu7.out) (hc1_3.up hu7.out) (hc1_4.up hu7.out) A12.out) ?_
 intro w13 hu14
 simp only[nm]
 refine wpp fun k h=>?_;go_simp;apply h;clear h k
 refine wln (hK10 _ _ ?_)
 by_cases c15 : (t11) = true
 rotate_left
 ·
  rw [if_neg c15] at H; replace c15 := Bool.eq_false_iff.mpr c15
  subst c15
  obtain rfl := Option.some.inj H
  refine wp_cond_true rfl ?_
  refine wsr fun _ hK17=>?_
  refine wpp fun k h=>?_;go_simp;apply h;clear h k
  refine wln (hK17 _ _ ?_)
  refine wp_ret ?_
  refine hQf _ _ _ ?_
  exact bpr (v := .int .i64 2) ⟨rfl, (hu7.out.trans hu14.out)⟩
 rw [if_pos c15] at H
 subst c15
 obtain rfl := Option.some.inj H
 refine wp_cond_false rfl ?_
 refine wp_skip ?_
 refine hK9 _ _ ?_
 refine wsr fun _ hK16=>?_
 refine wpp fun k h=>?_;go_simp;apply h;clear h k
 refine wln (hK16 _ _ ?_)
 refine wp_ret ?_
 refine hQf _ _ _ ?_
 exact bpr (v := .int .i64 0) ⟨rfl, (hu7.out.trans hu14.out)⟩

set_option maxHeartbeats 40000000 in
set_option maxRecDepth 100000 in
theorem impl_area.calls (K : Nat) (a0 : Int) (a1_0 : Int) (a1_1 : Int) (a2_0 : Int) (a2_1 : Int) (a3_0 : Int) (a3_1 : Int) (r0 : Int) (w : World)  (h : impl_area.f K a0 a1_0 a1_1 a2_0 a2_1 a3_0 a3_1 = some (r0)) :
    Calls Tryz.prog 92 #[.int .i64 a0, .agg #[.int .i64 a1_0, .int .i64 a1_1], .agg #[.int .i64 a2_0, .int .i64 a2_1], .agg #[.int .i64 a3_0, .int .i64 a3_1]] w fun e w' => e = .returned (.int .i64 r0) ∧ Up w w' := by
 have H : (((impl_less.f K a0 a2_0 a2_1 a1_0 a1_1).bind fun (t12, t13) => ((impl_less.f K a0 a3_0 a3_1 a1_0 a1_1).bind fun (t15, t16) => ((impl_rest.f K a0 (wrap64 ((wrap64 (t12 * t16)) - (wrap64 (t13 * t15))))).bind fun t34 => some t34))) : Option (Int)) = some (r0) := h
 clear h
 obtain ⟨⟨t12, t13⟩,A14,H⟩:=bnd H;try dsimp only at H
 obtain ⟨⟨t15, t16⟩,A17,H⟩:=bnd H;try dsimp only at H
 obtain ⟨t34,A35,H⟩:=bnd H;try dsimp only at H
 obtain rfl := Option.some.inj H
 go_enter Tryz.func92, Tryz.ntmps92
 refine wp_hide (fun Qf hQf => ?_)
 refine wsr fun _ hK1=>?_
 refine stp (cs := [.int .i64 a1_0, .int .i64 a1_1]) (T := 25) ?_
 intro b2 w3 hu4 lbb2 ltb2 hb2
 simp only[nm]
 refine stp (cs := [.int .i64 a2_0, .int .i64 a2_1]) (T := 25) ?_
 intro b5 w6 hu7 lbb5 ltb5 hb5
 simp only[nm]
 refine stp (cs := [.int .i64 a3_0, .int .i64 a3_1]) (T := 25) ?_
 intro b8 w9 hu10 lbb8 ltb8 hb8
 simp only[nm]
 refine wpp fun k h=>?_;go_simp;apply h;clear h k
 refine wln (hK1 _ _ ?_)
 refine wp_seq_k fun K11 hK11=>?_
 refine' wp_region_up 10 [Slot.det _, Slot.det _, Slot.det _, Slot.det (.agg #[.int .i64 t12, .int .i64 t13]), Slot.det _, Slot.det _, Slot.det _, Slot.det (.agg #[.int .i64 t15, .int .i64 t16]), Slot.any (PtrTo [.int .i64 0, .int .i64 0] 25) true, Slot.any (PtrTo [.int .i64 0, .int .i64 0] 25) true] (by kernel_rfl) (by kernel_rfl) ?main
 case main =>
  simp only [List.take_succ_cons, List.take_zero]
  refine wpK_ops rfl (fun w1 hu => ?_) ?_
  · clear hu
    go_simp
    first | done | rfl
  simp only[nm]
  refine wpK_ops rfl (fun w1 hu => ?_) ?_
  · have cl0 := ((hb5.up hu10.out).up ((Up.refl _).drew.trans hu)).cell (o := 0) rfl
    have cl1 := ((hb5.up hu10.out).up ((Up.refl _).drew.trans hu)).cell (o := 1) rfl
    go_simp
    first | done | rfl
  simp only[nm]
  refine wpK_ops rfl (fun w1 hu => ?_) ?_
  · have cl0 := ((hb2.up (hu7.out.trans hu10.out)).up ((Up.refl _).drew.trans hu)).cell (o := 0) rfl
    have cl1 := ((hb2.up (hu7.out.trans hu10.out)).up ((Up.refl _).drew.trans hu)).cell (o := 1) rfl
    go_simp
    first | done | rfl
  simp only[nm]
  refine wpK_ops rfl (fun w1 hu => ?_) ?_
  · have hcl := (impl_less.calls K a0 a2_0 a2_1 a1_0 a1_1 t12 t13 w1  A14.out)
    clear hu
    replace hcl := Aside0.mk hcl
    go_simp
    exact hcl.out
  simp only[nm]
  refine wpK_ops rfl (fun w1 hu => ?_) ?_
  · clear hu
    go_simp
    first | done | rfl
  simp only[nm]
  refine wpK_ops rfl (fun w1 hu => ?_) ?_
  · have cl0 := (hb8.up ((Up.refl _).drew.trans hu)).cell (o := 0) rfl
    have cl1 := (hb8.up ((Up.refl _).drew.trans hu)).cell (o := 1) rfl
    go_simp
    first | done | rfl
  simp only[nm]
  refine wpK_ops rfl (fun w1 hu => ?_) ?_
  · have cl0 := ((hb2.up (hu7.out.trans hu10.out)).up ((Up.refl _).drew.trans hu)).cell (o := 0) rfl
    have cl1 := ((hb2.up (hu7.out.trans hu10.out)).up ((Up.refl _).drew.trans hu)).cell (o := 1) rfl
    go_simp
    first | done | rfl
  simp only[nm]
  refine wpK_ops rfl (fun w1 hu => ?_) ?_
  · have hcl := (impl_less.calls K a0 a3_0 a3_1 a1_0 a1_1 t15 t16 w1  A17.out)
    clear hu
    replace hcl := Aside0.mk hcl
    go_simp
    exact hcl.out
  simp only[nm]
  refine wpK_any rfl (stab_ptr _ _) (fun w1 _ _ => fresh_ptr (by go_simp <;> rfl)) (fun v18 => ?_)
  simp only[nm]
  refine wpK_any rfl (stab_ptr _ _) (fun w1 _ _ => fresh_ptr (by go_simp <;> rfl)) (fun v20 => ?_)
  simp only[nm]
  refine wpK_nil ?_
  intro w22 hu hap
  simp only [List.drop_succ_cons, List.drop_zero]
  replace hu := (Up.refl _).drew.trans hu
  obtain ⟨hf0, hn0, ⟨b21, e0, hb21⟩, hf1, hn1, ⟨b19, e1, hb19⟩, -⟩ := hap
  have lbb21 := Aside0.mk (hf0 rfl b21 (by rw [e0]; rfl)).1
  have lbb19 := Aside0.mk (hf1 rfl b19 (by rw [e1]; rfl)).1
  have ne23 := Aside0.mk (hn0 _ (.head _) rfl rfl b21 b19 (by rw [e0]; rfl) (by rw [e1]; rfl)).symm
  dsimp only at e0 e1
  subst e0 e1
  clear hf0 hn0 hf1 hn1
  have hu24 := Aside0.mk hu
  clear hu
  refine stw [.int .i64 t12, .int .i64 t13] hb19 rfl rfl rfl rfl rfl (by kernel_rfl) rfl rfl ?_
  intro w25 hs26 hb27
  have h28 := hb21.sto hs26.out (Ne.symm (ne23.out))
  refine stw [.int .i64 t15, .int .i64 t16] h28 rfl rfl rfl rfl rfl (by kernel_rfl) rfl rfl ?_
  intro w29 hs30 hb31
  have h32 := hb27.sto hs30.out ne23.out
  refine wln (hK11 _ _ ?_)
  refine wsr fun _ hK33=>?_
  iterate 2 (refine wpp fun k h=>?_;go_simp;apply h;clear h k)
  have cl0 := h32.cell (o := 0) rfl
  refine wpp fun k h=>?_;go_simp;apply h;clear h k
  clear cl0
  refine wpp fun k h=>?_;go_simp;apply h;clear h k
  have cl0 := hb31.cell (o := 1) rfl
  refine wpp fun k h=>?_;go_simp;apply h;clear h k
  clear cl0
  iterate 2 (refine wpp fun k h=>?_;go_simp;apply h;clear h k)
  have cl0 := h32.cell (o := 1) rfl
  refine wpp fun k h=>?_;go_simp;apply h;clear h k
  clear cl0
  refine wpp fun k h=>?_;go_simp;apply h;clear h k
  have cl0 := hb31.cell (o := 0) rfl
  refine wpp fun k h=>?_;go_simp;apply h;clear h k
  clear cl0
  iterate 2 (refine wpp fun k h=>?_;go_simp;apply h;clear h k)
  refine stc (impl_rest.calls K a0 (wrap64 ((wrap64 (t12 * t16)) - (wrap64 (t13 * t15)))) t34 w29  A35.out) ?_
  intro w36 hu37
  simp only[nm]
  refine wpp fun k h=>?_;go_simp;apply h;clear h k
  refine wln (hK33 _ _ ?_)
  refine wp_ret ?_
  refine hQf _ _ _ ?_
  exact bpr (v := .int .i64 t34) ⟨rfl, ((((((hu4.out.trans hu7.out).trans hu10.out).trans hu24.out).sto (Nat.le_trans ((Nat.le_trans ((Nat.le_trans (hu4.out.size) hu7.out.size)) hu10.out.size)) lbb19.out) hs26.out).sto (Nat.le_trans ((Nat.le_trans ((Nat.le_trans (hu4.out.size) hu7.out.size)) hu10.out.size)) lbb21.out) hs30.out).trans hu37.out)⟩

set_option maxHeartbeats 40000000 in
set_option maxRecDepth 100000 in
theorem impl_triangle.calls (K : Nat) (a0 : Int) (a1 : Int) (a2_0 : Int) (a2_1 : Int) (a3_0 : Int) (a3_1 : Int) (a4_0 : Int) (a4_1 : Int) (r0 : Int) (w : World)  (h : impl_triangle.f K a0 a1 a2_0 a2_1 a3_0 a3_1 a4_0 a4_1 = some (r0)) :
    Calls Tryz.prog 37 #[.int .i64 a0, .int .i64 a1, .agg #[.int .i64 a2_0, .int .i64 a2_1], .agg #[.int .i64 a3_0, .int .i64 a3_1], .agg #[.int .i64 a4_0, .int .i64 a4_1]] w fun e w' => e = .returned (.int .i64 r0) ∧ Up w w' := by
 have H : (((impl_asked__impl_triangle_1.f K a0 a1 a0 a2_0 a2_1 a3_0 a3_1 a4_0 a4_1).bind fun t18 => (if (t18 == 0) = true then ((impl_area.f K a0 a2_0 a2_1 a3_0 a3_1 a4_0 a4_1).bind fun t27 => (if (t27 == 0) = true then some 5 else some t18)) else some t18)) : Option (Int)) = some (r0) := h
 clear h
 obtain ⟨t18,A19,H⟩:=bnd H;try dsimp only at H
 go_enter Tryz.func37, Tryz.ntmps37
 refine wp_hide (fun Qf hQf => ?_)
 refine wsr fun _ hK1=>?_
 refine stp (cs := [.int .i64 a0]) (T := 2) ?_
 intro b2 w3 hu4 lbb2 ltb2 hb2
 simp only[nm]
 refine stp (cs := [.int .i64 a1]) (T := 2) ?_
 intro b5 w6 hu7 lbb5 ltb5 hb5
 simp only[nm]
 refine stp (cs := [.int .i64 a2_0, .int .i64 a2_1]) (T := 25) ?_
 intro b8 w9 hu10 lbb8 ltb8 hb8
 simp only[nm]
 refine stp (cs := [.int .i64 a3_0, .int .i64 a3_1]) (T := 25) ?_
 intro b11 w12 hu13 lbb11 ltb11 hb11
 simp only[nm]
 refine stp (cs := [.int .i64 a4_0, .int .i64 a4_1]) (T := 25) ?_
 intro b14 w15 hu16 lbb14 ltb14 hb14
 simp only[nm]
 refine wpp fun k h=>?_;go_simp;apply h;clear h k
 refine wln (hK1 _ _ ?_)
 refine wsr fun _ hK17=>?_
 have cl0 := (hb2.up (((hu7.out.trans hu10.out).trans hu13.out).trans hu16.out)).cell (o := 0) rfl
 refine wpp fun k h=>?_;go_simp;apply h;clear h k
 clear cl0
 refine wpp fun k h=>?_;go_simp;apply h;clear h k
 refine stc (impl_asked__impl_triangle_1.calls K a0 b5 a1 b2 a0 b8 a2_0 a2_1 b11 a3_0 a3_1 b14 a4_0 a4_1 t18 w15 (hb5.up ((hu10.out.trans hu13.out).trans hu16.out)) (hb2.up (((hu7.out.trans hu10.out).trans hu13.out).trans hu16.out)) (hb8.up (hu13.out.trans hu16.out)) (hb11.up hu16.out) hb14 A19.out) ?_
 intro w20 hu21
 simp only[nm]
 refine wpp fun k h=>?_;go_simp;apply h;clear h k
 refine wln (hK17 _ _ ?_)
 refine wp_seq_k fun K22 hK22=>?_
 refine wsr fun _ hK23=>?_
 iterate 3 (refine wpp fun k h=>?_;go_simp;apply h;clear h k)
 have hm25 := Aside0.mk (((((hu4.out.trans hu7.out).trans hu10.out).trans hu13.out).trans hu16.out).trans hu21.out)
 have h26 := (hb2.up ((((hu7.out.trans hu10.out).trans hu13.out).trans hu16.out).trans hu21.out))
 by_cases c24 : (t18 == 0) = true
 rotate_left
 ·
  rw [if_neg c24] at H; replace c24 := Bool.eq_false_iff.mpr c24
  have c24n : (t18 != 0) = true := by rw [bne, c24]; rfl
  have c24p : ¬ t18 = 0 := fun e => by simp [e] at c24
  obtain rfl := Option.some.inj H
  try simp only [c24, c24n, Bool.not_true, Bool.not_false]
  refine step_no rfl ?_
  simp only[nm]
  refine step_no rfl ?_
  simp only[nm]
  refine step_no rfl ?_
  simp only[nm]
  refine step_no rfl ?_
  simp only[nm]
  refine step_no rfl ?_
  simp only[nm]
  refine step_no rfl ?_
  simp only[nm]
  refine wpp fun k h=>?_;go_simp;apply h;clear h k
  refine wln (hK23 _ _ ?_)
  refine wp_cond_false rfl ?_
  refine wp_skip ?_
  refine hK22 _ _ ?_
  refine wsr fun _ hK34=>?_
  iterate 2 (refine wpp fun k h=>?_;go_simp;apply h;clear h k)
  refine wln (hK34 _ _ ?_)
  refine wp_ret ?_
  refine hQf _ _ _ ?_
  exact bpr (v := .int .i64 t18) ⟨rfl, hm25.out⟩
 rw [if_pos c24] at H
 have c24n : (t18 != 0) = false := by rw [bne, c24]; rfl
 obtain ⟨t27,A28,H⟩:=bnd H;try dsimp only at H
 try simp only [c24, c24n, Bool.not_true, Bool.not_false]
 have cl0 := h26.cell (o := 0) rfl
 refine wpList_step fun k h=>?_;go_simp;apply h;clear h k
 clear cl0
 have cl0 := (hb8.up ((hu13.out.trans hu16.out).trans hu21.out)).cell (o := 0) rfl
 have cl1 := (hb8.up ((hu13.out.trans hu16.out).trans hu21.out)).cell (o := 1) rfl
 refine wpList_step fun k h=>?_;go_simp;apply h;clear h k
 clear cl0 cl1
 have cl0 := (hb11.up (hu16.out.trans hu21.out)).cell (o := 0) rfl
 have cl1 := (hb11.up (hu16.out.trans hu21.out)).cell (o := 1) rfl
 refine wpList_step fun k h=>?_;go_simp;apply h;clear h k
 clear cl0 cl1
 have cl0 := (hb14.up hu21.out).cell (o := 0) rfl
 have cl1 := (hb14.up hu21.out).cell (o := 1) rfl
 refine wpList_step fun k h=>?_;go_simp;apply h;clear h k
 clear cl0 cl1
 refine step_call rfl (by go_simp <;> rfl) (impl_area.calls K a0 a2_0 a2_1 a3_0 a3_1 a4_0 a4_1 t27 w20  A28.out) ?_
 rintro e w29 ⟨rfl, hu⟩
 have hu30 := Aside0.mk hu
 clear hu
 refine ⟨_, rfl, ?_⟩
 simp only[nm]
 refine wpList_step fun k h=>?_;go_simp;apply h;clear h k
 refine wpp fun k h=>?_;go_simp;apply h;clear h k
 refine wln (hK23 _ _ ?_)
 by_cases c31 : (t27 == 0) = true
 ·
  rw [if_pos c31] at H
  have c31n : (t27 != 0) = false := by rw [bne, c31]; rfl
  obtain rfl := Option.some.inj H
  try simp only [c31, c31n, Bool.not_true, Bool.not_false]
  refine wp_cond_true rfl ?_
  refine wsr fun _ hK32=>?_
  refine wpp fun k h=>?_;go_simp;apply h;clear h k
  refine wln (hK32 _ _ ?_)
  refine wp_ret ?_
  refine hQf _ _ _ ?_
  exact bpr (v := .int .i64 5) ⟨rfl, (hm25.out.trans hu30.out)⟩
 rw [if_neg c31] at H; replace c31 := Bool.eq_false_iff.mpr c31
 have c31n : (t27 != 0) = true := by rw [bne, c31]; rfl
 have c31p : ¬ t27 = 0 := fun e => by simp [e] at c31
 obtain rfl := Option.some.inj H
 try simp only [c31, c31n, Bool.not_true, Bool.not_false]
 refine wp_cond_false rfl ?_
 refine wp_skip ?_
 refine hK22 _ _ ?_
 refine wsr fun _ hK33=>?_
 iterate 2 (refine wpp fun k h=>?_;go_simp;apply h;clear h k)
 refine wln (hK33 _ _ ?_)
 refine wp_ret ?_
 refine hQf _ _ _ ?_
 exact bpr (v := .int .i64 t18) ⟨rfl, (hm25.out.trans hu30.out)⟩

set_option maxHeartbeats 40000000 in
set_option maxRecDepth 100000 in
theorem impl_allPoints.calls (K : Nat) (a0 : Int) (r0 : List (Int × Int)) (w : World)  (h : impl_allPoints.f K a0 = some (r0)) :
    Calls Tryz.prog 97 #[.int .i64 a0] w fun e w' => ∃ (Ar0 : Option Addr) (cr0 : Nat), e = .returned (.slice Ar0 r0.length cr0) ∧ Own e2 25 w' w.heap.size (.slice Ar0 r0.length cr0) r0 ∧ Up w w' := by
 have H : ((impl_allPoints.l0 K a0 K 0 ([] : List (Int × Int))) : Option (List (Int × Int))) = some (r0) := h
 clear h
 go_enter Tryz.func97, Tryz.ntmps97
 refine wp_hide (fun Qf hQf => ?_)
 refine wsr fun _ hK1=>?_
 refine wpp fun k h=>?_;go_simp;apply h;clear h k
 refine wln (hK1 _ _ ?_)
 refine wsr fun _ hK2=>?_
 refine step_new (cs := []) (T := 25) (f := fun b => .slice (some ⟨b, 0, none⟩) 0 0) rfl (by go_simp <;> rfl) ?_
 intro b3 w4 hu lb hb3
 simp only[nm]
 have lbb3 := Aside0.mk lb
 clear lb
 have hu5 := Aside0.mk hu
 clear hu
 refine wpp fun k h=>?_;go_simp;apply h;clear h k
 refine wln (hK2 _ _ ?_)
 refine wp_seq_k fun K6 hK6=>?_
 refine wsr fun _ hK7=>?_
 refine wpp fun k h=>?_;go_simp;apply h;clear h k
 refine wln (hK7 _ _ ?_)
 refine wp_block ?_
 have h9 : Own e2 25 w4 w.heap.size (.slice (some ⟨b3, 0, none⟩) ([].length) 0) [] := Own.of_blk hb3 lbb3.out rfl (by simp) (by simp [Enc.flat, e2])
 have HL17 := Aside0.mk H
 clear H
 go_loopg [4, 3] K (fun kq v4 v3 w' => ∃ (x10 : Int) (x11 : List (Int × Int)) (P12 : Option Addr) (q13 : Nat), v4 = .int .i64 x10 ∧ v3 = .slice P12 x11.length q13 ∧ Aside0 (impl_allPoints.l0 K a0 kq x10 x11 = some (r0)) ∧ Aside0 (kq ≤ K) ∧ Aside0 (Up w w') ∧ Aside0 (w4.heap.size ≤ w'.heap.size) ∧ Own e2 25 w' w.heap.size (.slice P12 x11.length q13) x11)
 case atStart => exact ⟨0, ([] : List (Int × Int)), some ⟨b3, 0, none⟩, 0, (by first | rfl | simp), (by first | rfl | simp), HL17, ⟨Nat.le_refl _⟩, ⟨hu5.out⟩, ⟨Nat.le_refl _⟩, h9⟩
 case round =>
  rename_i J21 K22 hJ21 hK22
  obtain ⟨x10, x11, P12, q13, rfl, rfl, HL23, hk20, hu15, hz16, h18⟩ := hrel
  obtain ⟨w14, rfl⟩ : ∃ wo : World, wo = wr := ⟨_, rfl⟩
  obtain ⟨k19, rfl⟩ | rfl : (∃ k, gk = k + 1) ∨ gk = 0 := by rcases gk with _ | k; exact .inr rfl; exact .inl ⟨k, rfl⟩
  case inr => exact absurd HL23.out (by simp [impl_allPoints.l0])
  have H := HL23.out
  clear HL23
  rw [impl_allPoints.l0] at H
  refine wp_seq_k fun K24 hK24=>?_
  refine wsr fun _ hK25=>?_
  iterate 3 (refine wpp fun k h=>?_;go_simp;apply h;clear h k)
  refine wln (hK25 _ _ ?_)
  by_cases c26 : (decide (x10 < a0)) = true
  rotate_left
  ·
   rw [if_neg c26] at H; replace c26 := Bool.eq_false_iff.mpr c26
   obtain rfl := Option.some.inj H
   try simp only [c26, Bool.not_true, Bool.not_false]
   refine wp_cond_false rfl ?_
   refine wp_exit ?_
   refine hK6 _ _ ?_
   refine wsr fun _ hK63=>?_
   iterate 2 (refine wpp fun k h=>?_;go_simp;apply h;clear h k)
   refine wln (hK63 _ _ ?_)
   refine wp_ret ?_
   refine hQf _ _ _ ?_
   exact bpr (v := .slice P12 x11.length q13) ⟨P12, q13, rfl, (h18.lower (Nat.le_refl _)), hu15.out⟩
  rw [if_pos c26] at H
  try simp only [c26, Bool.not_true, Bool.not_false]
  refine wp_cond_true rfl ?_
  refine wp_skip ?_
  refine hK24 _ _ ?_
  refine wp_seq_k fun K27 hK27=>?_
  refine wp_block ?_
  refine wsr fun _ hK28=>?_
  refine wpp fun k h=>?_;go_simp;apply h;clear h k
  refine wln (hK28 _ _ ?_)
  refine wp_block ?_
  have HL36 := Aside0.mk H
  clear H
  go_loopg [5, 3] k19 (fun kq v5 v3 w' => ∃ (x29 : Int) (x30 : List (Int × Int)) (P31 : Option Addr) (q32 : Nat), v5 = .int .i64 x29 ∧ v3 = .slice P31 x30.length q32 ∧ Aside0 (impl_allPoints.l1 K a0 x10 kq x29 x30 = some (r0)) ∧ Aside0 (kq ≤ k19) ∧ Aside0 (Up w w') ∧ Aside0 (w14.heap.size ≤ w'.heap.size) ∧ Own e2 25 w' w.heap.size (.slice P31 x30.length q32) x30)
  case atStart => exact ⟨0, x11, P12, q13, (by first | rfl | simp), (by first | rfl | simp), HL36, ⟨Nat.le_refl _⟩, ⟨hu15.out⟩, ⟨Nat.le_refl _⟩, h18⟩
  case round =>
   rename_i J40 K41 hJ40 hK41
   obtain ⟨x29, x30, P31, q32, rfl, rfl, HL42, hk39, hu34, hz35, h37⟩ := hrel
   obtain ⟨w33, rfl⟩ : ∃ wo : World, wo = wr := ⟨_, rfl⟩
   obtain ⟨k38, rfl⟩ | rfl : (∃ k, gk = k + 1) ∨ gk = 0 := by rcases gk with _ | k; exact .inr rfl; exact .inl ⟨k, rfl⟩
   case inr => exact absurd HL42.out (by simp [impl_allPoints.l1])
   have H := HL42.out
   clear HL42
   rw [impl_allPoints.l1] at H
   refine wp_seq_k fun K43 hK43=>?_
   refine wsr fun _ hK44=>?_
   iterate 3 (refine wpp fun k h=>?_;go_simp;apply h;clear h k)
   refine wln (hK44 _ _ ?_)
   by_cases c45 : (decide (x29 < a0)) = true
   rotate_left
   ·
    rw [if_neg c45] at H; replace c45 := Bool.eq_false_iff.mpr c45
    have HL62 := Aside0.mk H
    clear H
    try simp only [c45, Bool.not_true, Bool.not_false]
    refine wp_cond_false rfl ?_
    refine wp_exit ?_
    refine hK27 _ _ ?_
    refine wp_region_lit ?_
    iterate 3 (refine wpp fun k h=>?_;go_simp;apply h;clear h k)
    refine wln (hK22 _ _ ?_)
    go_roundg k38
    case measure => have := hk20.out; have := hk39.out; omega
    case rel => exact ⟨wrap64 (x10 + 1), x30, P31, q32, (by first | rfl | simp), (by first | rfl | simp), HL62, ⟨by have := hk20.out; have := hk39.out; omega⟩, ⟨hu34.out⟩, ⟨(Nat.le_trans ((Nat.le_trans (Nat.le_refl _) hz16.out)) hz35.out)⟩, h37⟩
   rw [if_pos c45] at H
   try simp only [c45, Bool.not_true, Bool.not_false]
   refine wp_cond_true rfl ?_
   refine wp_skip ?_
   refine hK43 _ _ ?_
   refine wp_seq_k fun K46 hK46=>?_
   refine wp_block ?_
   refine wp_region_lit ?_
   iterate 4 (refine wpp fun k h=>?_;go_simp;apply h;clear h k)
   refine step_new (cs := [.int .i64 x10, .int .i64 x29]) (T := 25) (f := fun b => .slice (some ⟨b, 0, none⟩) 1 1) rfl (by go_simp <;> rfl) ?_
   intro b47 w48 hu lb hb47
   simp only[nm]
   clear lb
   have hu49 := Aside0.mk hu
   clear hu
   have hm51 := Aside0.mk (Nat.le_trans ((Nat.le_trans ((Nat.le_trans (hu5.out.size) hz16.out)) hz35.out)) hu49.out.size)
   by_cases c50 : (decide (x30.length ≤ 1000000)) = true
   rotate_left
   ·
    rw [if_neg c50] at H; replace c50 := Bool.eq_false_iff.mpr c50
    exact absurd H (by simp)
   rw [if_pos c50] at H
   have HL61 := Aside0.mk H
   clear H
   try simp only [c50, Bool.not_true, Bool.not_false]
   have hO0 := Aside0.mk (h37.up hu49.out)
   refine step_append e2 (z := .agg #[.int .i64 0, .int .i64 0]) (bytes := 16) (base := w.heap.size) (xs := x30) (ys := [(x10, x29)]) wn _ _ rfl rfl (by kernel_rfl) rfl (by decide) rfl rfl rfl hO0.out (Rd.of_blk (E := e2) (xs := [(x10, x29)]) (o := 0) hb47 (by simp) (fun j u hu => by rcases j with _ | _ | j <;> simp_all [Enc.flat, e2])) (hm51.out) (by have h0_ := (of_decide_eq_true (by assumption) : x30.length ≤ 1000000); (try simp only [List.length_cons, List.length_nil]); omega) ?_
   intro P52 q53 w54 h56 hg hat
   have hg57 := Aside0.mk hg
   have hat58 := Aside0.mk hat
   simp only[nm]
   have lb59 := Aside0.mk hO0.out.lt
   clear hO0 hg hat
   refine wpp fun k h=>?_;go_simp;apply h;clear h k
   refine wln (hK46 _ _ ?_)
   refine wp_region_lit ?_
   iterate 3 (refine wpp fun k h=>?_;go_simp;apply h;clear h k)
   refine wln (hK41 _ _ ?_)
   go_roundg k38
   case measure => exact Nat.lt_succ_self _
   case rel => exact ⟨wrap64 (x29 + 1), (x30 ++ [(x10, x29)]), P52, q53, (by first | rfl | simp), (by first | rfl | simp), HL61, ⟨by have := hk20.out; have := hk39.out; omega⟩, ⟨((hu34.out.trans hu49.out).grow hg57.out (fun k hk => Nat.le_trans (Nat.le_refl _) ((fun k hk => (lb59.out k hk).1) k hk)))⟩, ⟨(Nat.le_trans ((Nat.le_trans ((Nat.le_trans (Nat.le_refl _) hz35.out)) hu49.out.size)) hg57.out.size)⟩, h56⟩

end Go.Proofs.YtccbmdpikalpfaaGreat
