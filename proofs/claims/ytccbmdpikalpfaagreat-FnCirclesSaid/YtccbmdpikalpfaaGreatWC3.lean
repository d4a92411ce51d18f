/- The walks: each of these functions of the program computes what its plain function says: impl_circumcentre, impl_circleThrough, impl_CircleThrough, spec_l04Code, spec_l01Meet, spec_l04Circumcentre, spec_l06Through, spec_CircleThrough, spec_l01DrawLine, spec_DrawMeetLine, impl_isLine, impl_MeetLine_1, impl_asked__impl_MeetLine_1, impl_isOn, impl_MeetLine_2, impl_pointsWith__impl_MeetLine_2, impl_MeetLine, spec_l01Line, spec_l01Lines, spec_l01On, spec_MeetLine, laws_points9, impl_PowerOf_1, impl_asked__impl_PowerOf_1, impl_PowerOf, spec_PowerOf, impl_InversePoint_1, impl_asked__impl_InversePoint_1, impl_combination, impl_InversePoint, spec_InversePoint, impl_IsCircle, impl_TangentsFrom_1, impl_asked__impl_TangentsFrom_1, impl_pointsAt_1. -/
import Derived.Test.YtccbmdpikalpfaaGreatProg
import Derived.Test.YtccbmdpikalpfaaGreatD1
import Derived.WalkKit
import Derived.KernelRfl
import Derived.BigQuiet
import Derived.Deep.LoopGhost
import Derived.Laws.StructEq
import Derived.Test.YtccbmdpikalpfaaGreatWC2
namespace Go.Proofs.YtccbmdpikalpfaaGreat
open Go Go.RowKit
attribute [local go_sem] Oper.quiet Oper.quietAt Oper.quietUpon Act.put nm1 nm2 nm3 i64_w run_max2 run_min2 mkT_getD mkT_get mkT_set lookT_cons lookT_nil
attribute [local irreducible] wpList
set_option linter.unusedVariables false
set_option linter.unusedSimpArgs false
attribute [local go_sem] eqT25
attribute [local go_sem] eqT31
attribute [local go_sem] eqT27
attribute [local go_sem] eqR27

set_option maxHeartbeats 40000000 in
set_option maxRecDepth 100000 in
theorem impl_circumcentre.calls (K : Nat) (a0 : Int) (a1 : Int) (a2_0 : Int) (a2_1 : Int) (a3_0 : Int) (a3_1 : Int) (a4_0 : Int) (a4_1 : Int) (r0 : Int) (r1 : Int) (w : World)  (h : impl_circumcentre.f K a0 a1 a2_0 a2_1 a3_0 a3_1 a4_0 a4_1 = some (r0, r1)) :
    Calls Tryz.prog 93 #[.int .i64 a0, .int .i64 a1, .agg #[.int .i64 a2_0, .int .i64 a2_1], .agg #[.int .i64 a3_0, .int .i64 a3_1], .agg #[.int .i64 a4_0, .int .i64 a4_1]] w fun e w' => e = .returned (.agg #[.int .i64 r0, .int .i64 r1]) ∧ Up w w' := by
 have H : (((impl_allPoints.f K a0).bind fun t16 => (impl_circumcentre.l0 K a0 a1 a2_0 a2_1 a3_0 a3_1 a4_0 a4_1 t16 K 0 0 0)) : Option (Int × Int)) = some (r0, r1) := h
 clear h
 obtain ⟨t16,A19,H⟩:=bnd H;try dsimp only at H
 go_enter Tryz.func93, Tryz.ntmps93
 refine wp_hide (fun Qf hQf => ?_)
 refine wsr fun _ hK1=>?_
 refine stp (cs := [.int .i64 a2_0, .int .i64 a2_1]) (T := 25) ?_
 intro b2 w3 hu4 lbb2 ltb2 hb2
 simp only[nm]
 refine stp (cs := [.int .i64 a3_0, .int .i64 a3_1]) (T := 25) ?_
 intro b5 w6 hu7 lbb5 ltb5 hb5
 simp only[nm]
 refine stp (cs := [.int .i64 a4_0, .int .i64 a4_1]) (T := 25) ?_
 intro b8 w9 hu10 lbb8 ltb8 hb8
 simp only[nm]
 refine stp (cs := [.int .i64 0, .int .i64 0]) (T := 25) ?_
 intro b11 w12 hu13 lbb11 ltb11 hb11
 simp only[nm]
 refine wln (hK1 _ _ ?_)
 refine wp_seq_k fun K14 hK14=>?_
 refine wsr fun _ hK15=>?_
 refine wpp fun k h=>?_;go_simp;apply h;clear h k
 refine step_call wn (by go_simp <;> rfl) (impl_allPoints.calls K a0 t16 w12  A19.out) ?_
 rintro e w20 ⟨P17, q18, rfl, ht16, hu⟩
 have hu21 := Aside0.mk hu
 clear hu
 refine ⟨_, rfl, ?_⟩
 simp only[nm]
 iterate 2 (refine wpp fun k h=>?_;go_simp;apply h;clear h k)
 refine wln (hK15 _ _ ?_)
 refine wp_block ?_
 have HL28 := Aside0.mk H
 clear H
 go_loopg [17] K (fun kq v17 w' => ∃ (x22 : Int) (x23 : Int) (x24 : Int), v17 = .int .i64 x22 ∧ Aside0 (impl_circumcentre.l0 K a0 a1 a2_0 a2_1 a3_0 a3_1 a4_0 a4_1 t16 kq x22 x23 x24 = some (r0, r1)) ∧ Aside0 (kq ≤ K) ∧ Aside0 (Up w9 w') ∧ Aside0 (w20.heap.size ≤ w'.heap.size) ∧ Blk w' b11 [.int .i64 x23, .int .i64 x24] 25 ∧ Own e2 25 w' w12.heap.size (.slice P17 t16.length q18) t16)
 case atStart => exact ⟨0, 0, 0, (by first | rfl | simp), HL28, ⟨Nat.le_refl _⟩, ⟨(hu13.out.trans hu21.out)⟩, ⟨Nat.le_refl _⟩, (hb11.up hu21.out), ht16⟩
 case round =>
  rename_i J33 K34 hJ33 hK34
  obtain ⟨x22, x23, x24, rfl, HL35, hk32, hu26, hz27, h29, h30⟩ := hrel
  obtain ⟨w25, rfl⟩ : ∃ wo : World, wo = wr := ⟨_, rfl⟩
  obtain ⟨k31, rfl⟩ | rfl : (∃ k, gk = k + 1) ∨ gk = 0 := by rcases gk with _ | k; exact .inr rfl; exact .inl ⟨k, rfl⟩
  case inr => exact absurd HL35.out (by simp [impl_circumcentre.l0])
  have H := HL35.out
  clear HL35
  rw [impl_circumcentre.l0] at H
  refine wsr fun _ hK36=>?_
  refine wpp fun k h=>?_;go_simp;apply h;clear h k
  refine wln (hK36 _ _ ?_)
  refine wp_seq_k fun K37 hK37=>?_
  have hm39 := Aside0.mk (((hu4.out.trans hu7.out).trans hu10.out).trans hu26.out)
  by_cases c38 : (decide (x22 < (t16.length : Int))) = true
  rotate_left
  ·
   rw [if_neg c38] at H; replace c38 := Bool.eq_false_iff.mpr c38
   simp only [Option.some.injEq, Prod.mk.injEq] at H
   obtain ⟨rfl, rfl⟩ := H
   try simp only [c38, Bool.not_true, Bool.not_false]
   refine wp_cond_false rfl ?_
   refine wp_exit ?_
   refine hK14 _ _ ?_
   refine wsr fun _ hK85=>?_
   refine wpp fun k h=>?_;go_simp;apply h;clear h k
   refine stw [.int .i64 0, .int .i64 0] h29 rfl rfl rfl rfl rfl (by kernel_rfl) rfl rfl ?_
   intro w86 hs87 hb88
   refine wln (hK85 _ _ ?_)
   refine wp_ret ?_
   refine hQf _ _ _ ?_
   have cr0 := hb88.cell (o := 0) rfl
   have cr1 := hb88.cell (o := 1) rfl
   exact bodyPost_ret (v := .agg #[.int .i64 0, .int .i64 0]) (by first|rfl|simp [results, Tryz.results93, go_sem, cr0, cr1]<;>rfl) rfl ⟨rfl, (hm39.out.sto (Nat.le_trans ((Nat.le_trans ((Nat.le_trans (hu4.out.size) hu7.out.size)) hu10.out.size)) lbb11.out) hs87.out)⟩
  rw [if_pos c38] at H
  obtain ⟨⟨t42, t43⟩,A44,H⟩:=bnd H;try dsimp only at H
  obtain ⟨t55,A56,H⟩:=bnd H;try dsimp only at H
  obtain ⟨t60,A61,H⟩:=bnd H;try dsimp only at H
  try simp only [c38, Bool.not_true, Bool.not_false]
  refine wp_cond_true rfl ?_
  refine wp_skip ?_
  refine hK37 _ _ ?_
  refine wp_seq_k fun K40 hK40=>?_
  refine wp_block ?_
  refine wsr fun _ hK41=>?_
  refine step_index e2 (T := 25) wn rfl (by kernel_rfl) (by kernel_rfl) rfl rfl rfl h30.rd A44.out ?_
  intro ad45 hat he
  have he46 := Aside0.mk he
  have hat47 := Aside0.mk hat
  clear he hat
  simp only[nm]
  have cl0 := he46.out 0 _ rfl
  rw [addr_add0] at cl0
  have cl1 : World.cell? _ ⟨ad45.block, ad45.off + 1, none⟩ = some _ := he46.out 1 _ rfl
  refine wpp fun k h=>?_;go_simp;apply h;clear h k
  clear cl0 cl1
  refine stp (cs := [.int .i64 0, .int .i64 0]) (T := 25) ?_
  intro b48 w49 hu50 lbb48 ltb48 hb48
  simp only[nm]
  refine stw [.int .i64 t42, .int .i64 t43] hb48 rfl rfl rfl rfl rfl (by kernel_rfl) rfl rfl ?_
  intro w51 hs52 hb53
  refine wln (hK41 _ _ ?_)
  refine wsr fun _ hK54=>?_
  iterate 2 (refine wpp fun k h=>?_;go_simp;apply h;clear h k)
  have cl0 := hb53.cell (o := 0) rfl
  have cl1 := hb53.cell (o := 1) rfl
  refine wpp fun k h=>?_;go_simp;apply h;clear h k
  clear cl0 cl1
  have cl0 := (hb2.up ((((hu7.out.trans hu10.out).trans hu26.out).trans hu50.out).sto (Nat.le_trans ((Nat.le_trans ((Nat.le_trans ((Nat.le_trans ((Nat.le_trans (hu7.out.size) hu10.out.size)) hu13.out.size)) hu21.out.size)) hz27.out)) lbb48.out) hs52.out)).cell (o := 0) rfl
  have cl1 := (hb2.up ((((hu7.out.trans hu10.out).trans hu26.out).trans hu50.out).sto (Nat.le_trans ((Nat.le_trans ((Nat.le_trans ((Nat.le_trans ((Nat.le_trans (hu7.out.size) hu10.out.size)) hu13.out.size)) hu21.out.size)) hz27.out)) lbb48.out) hs52.out)).cell (o := 1) rfl
  refine wpp fun k h=>?_;go_simp;apply h;clear h k
  clear cl0 cl1
  refine stc (impl_quadrance.calls K a0 a1 t42 t43 a2_0 a2_1 t55 w51  A56.out) ?_
  intro w57 hu58
  simp only[nm]
  refine wpp fun k h=>?_;go_simp;apply h;clear h k
  refine wln (hK54 _ _ ?_)
  refine wsr fun _ hK59=>?_
  iterate 3 (refine wpp fun k h=>?_;go_simp;apply h;clear h k)
  have cl0 := (hb53.up hu58.out).cell (o := 0) rfl
  have cl1 := (hb53.up hu58.out).cell (o := 1) rfl
  refine wpp fun k h=>?_;go_simp;apply h;clear h k
  clear cl0 cl1
  have cl0 := (hb5.up ((((hu10.out.trans hu26.out).trans hu50.out).sto (Nat.le_trans ((Nat.le_trans ((Nat.le_trans ((Nat.le_trans (hu10.out.size) hu13.out.size)) hu21.out.size)) hz27.out)) lbb48.out) hs52.out).trans hu58.out)).cell (o := 0) rfl
  have cl1 := (hb5.up ((((hu10.out.trans hu26.out).trans hu50.out).sto (Nat.le_trans ((Nat.le_trans ((Nat.le_trans ((Nat.le_trans (hu10.out.size) hu13.out.size)) hu21.out.size)) hz27.out)) lbb48.out) hs52.out).trans hu58.out)).cell (o := 1) rfl
  refine wpp fun k h=>?_;go_simp;apply h;clear h k
  clear cl0 cl1
  refine stc (impl_quadrance.calls K a0 a1 t42 t43 a3_0 a3_1 t60 w57  A61.out) ?_
  intro w62 hu63
  simp only[nm]
  iterate 2 (refine wpp fun k h=>?_;go_simp;apply h;clear h k)
  have hm65 := Aside0.mk (((hu50.out.sto (Nat.le_trans (Nat.le_refl _) lbb48.out) hs52.out).trans hu58.out).trans hu63.out)
  by_cases c64 : (t55 == t60) = true
  rotate_left
  ·
   rw [if_neg c64] at H; replace c64 := Bool.eq_false_iff.mpr c64
   have c64n : (t55 != t60) = true := by rw [bne, c64]; rfl
   have c64p : ¬ t55 = t60 := fun e => by simp [e] at c64
   have HL84 := Aside0.mk H
   clear H
   try simp only [c64, c64n, Bool.not_true, Bool.not_false]
   refine step_no rfl ?_
   simp only[nm]
   refine step_no rfl ?_
   simp only[nm]
   refine step_no rfl ?_
   simp only[nm]
   refine step_no rfl ?_
   simp only[nm]
   refine step_no rfl ?_
   simp only[nm]
   refine step_no rfl ?_
   simp only[nm]
   refine step_no rfl ?_
   simp only[nm]
   refine wpp fun k h=>?_;go_simp;apply h;clear h k
   refine wln (hK59 _ _ ?_)
   refine wp_cond_false rfl ?_
   refine wp_skip ?_
   refine hK40 _ _ ?_
   refine wp_region_lit ?_
   iterate 2 (refine wpp fun k h=>?_;go_simp;apply h;clear h k)
   refine wln (hK34 _ _ ?_)
   go_roundg k31
   case measure => exact Nat.lt_succ_self _
   case rel => exact ⟨wrap64 (x22 + 1), x23, x24, (by first | rfl | simp), HL84, ⟨by have := hk32.out; omega⟩, ⟨(hu26.out.trans hm65.out)⟩, ⟨(Nat.le_trans ((Nat.le_trans (Nat.le_refl _) hz27.out)) hm65.out.size)⟩, (h29.up hm65.out), (h30.up hm65.out)⟩
  rw [if_pos c64] at H
  have c64n : (t55 != t60) = false := by rw [bne, c64]; rfl
  obtain ⟨t68,A69,H⟩:=bnd H;try dsimp only at H
  try simp only [c64, c64n, Bool.not_true, Bool.not_false]
  refine wpList_step fun k h=>?_;go_simp;apply h;clear h k
  refine wpList_step fun k h=>?_;go_simp;apply h;clear h k
  refine wpList_step fun k h=>?_;go_simp;apply h;clear h k
  have cl0 := (hb53.up (hu58.out.trans hu63.out)).cell (o := 0) rfl
  have cl1 := (hb53.up (hu58.out.trans hu63.out)).cell (o := 1) rfl
  refine wpList_step fun k h=>?_;go_simp;apply h;clear h k
  clear cl0 cl1
  have cl0 := (hb8.up (hu26.out.trans hm65.out)).cell (o := 0) rfl
  have cl1 := (hb8.up (hu26.out.trans hm65.out)).cell (o := 1) rfl
  refine wpList_step fun k h=>?_;go_simp;apply h;clear h k
  clear cl0 cl1
  refine step_call rfl (by go_simp <;> rfl) (impl_quadrance.calls K a0 a1 t42 t43 a4_0 a4_1 t68 w62  A69.out) ?_
  rintro e w70 ⟨rfl, hu⟩
  have hu71 := Aside0.mk hu
  clear hu
  refine ⟨_, rfl, ?_⟩
  simp only[nm]
  refine wpList_step fun k h=>?_;go_simp;apply h;clear h k
  refine wpp fun k h=>?_;go_simp;apply h;clear h k
  refine wln (hK59 _ _ ?_)
  have hm73 := Aside0.mk (Nat.le_trans ((Nat.le_trans ((Nat.le_trans (Nat.le_refl _) hz27.out)) hm65.out.size)) hu71.out.size)
  by_cases c72 : (t55 == t68) = true
  rotate_left
  ·
   rw [if_neg c72] at H; replace c72 := Bool.eq_false_iff.mpr c72
   have c72n : (t55 != t68) = true := by rw [bne, c72]; rfl
   have c72p : ¬ t55 = t68 := fun e => by simp [e] at c72
   have HL83 := Aside0.mk H
   clear H
   try simp only [c72, c72n, Bool.not_true, Bool.not_false]
   refine wp_cond_false rfl ?_
   refine wp_skip ?_
   refine hK40 _ _ ?_
   refine wp_region_lit ?_
   iterate 2 (refine wpp fun k h=>?_;go_simp;apply h;clear h k)
   refine wln (hK34 _ _ ?_)
   go_roundg k31
   case measure => exact Nat.lt_succ_self _
   case rel => exact ⟨wrap64 (x22 + 1), x23, x24, (by first | rfl | simp), HL83, ⟨by have := hk32.out; omega⟩, ⟨((hu26.out.trans hm65.out).trans hu71.out)⟩, ⟨hm73.out⟩, (h29.up (hm65.out.trans hu71.out)), (h30.up (hm65.out.trans hu71.out))⟩
  rw [if_pos c72] at H
  have c72n : (t55 != t68) = false := by rw [bne, c72]; rfl
  simp only [Option.some.injEq, Prod.mk.injEq] at H
  obtain ⟨rfl, rfl⟩ := H
  try simp only [c72, c72n, Bool.not_true, Bool.not_false]
  refine wp_cond_true rfl ?_
  refine wsr fun _ hK75=>?_
  have cl0 := (hb53.up ((hu58.out.trans hu63.out).trans hu71.out)).cell (o := 0) rfl
  have cl1 := (hb53.up ((hu58.out.trans hu63.out).trans hu71.out)).cell (o := 1) rfl
  refine wpp fun k h=>?_;go_simp;apply h;clear h k
  clear cl0 cl1
  refine stw [.int .i64 t42, .int .i64 t43] (h29.up (hm65.out.trans hu71.out)) rfl rfl rfl rfl rfl (by kernel_rfl) rfl rfl ?_
  intro w76 hs77 hb78
  refine wln (hK75 _ _ ?_)
  refine wp_ret ?_
  refine hQf _ _ _ ?_
  have cr0 := hb78.cell (o := 0) rfl
  have cr1 := hb78.cell (o := 1) rfl
  exact bodyPost_ret (v := .agg #[.int .i64 t42, .int .i64 t43]) (by first|rfl|simp [results, Tryz.results93, go_sem, cr0, cr1]<;>rfl) rfl ⟨rfl, (((hm39.out.trans hm65.out).trans hu71.out).sto (Nat.le_trans ((Nat.le_trans ((Nat.le_trans (hu4.out.size) hu7.out.size)) hu10.out.size)) lbb11.out) hs77.out)⟩

set_option maxHeartbeats 40000000 in
set_option maxRecDepth 100000 in
theorem impl_circleThrough.calls (K : Nat) (a0 : Int) (a1 : Int) (a2_0 : Int) (a2_1 : Int) (a3_0 : Int) (a3_1 : Int) (a4_0 : Int) (a4_1 : Int) (r0 : Int) (r1 : Int) (r2 : Int) (w : World)  (h : impl_circleThrough.f K a0 a1 a2_0 a2_1 a3_0 a3_1 a4_0 a4_1 = some (r0, r1, r2)) :
    Calls Tryz.prog 38 #[.int .i64 a0, .int .i64 a1, .agg #[.int .i64 a2_0, .int .i64 a2_1], .agg #[.int .i64 a3_0, .int .i64 a3_1], .agg #[.int .i64 a4_0, .int .i64 a4_1]] w fun e w' => e = .returned (.agg #[.int .i64 r0, .int .i64 r1, .int .i64 r2]) ∧ Up w w' := by
 have H : (((impl_circumcentre.f K a0 a1 a2_0 a2_1 a3_0 a3_1 a4_0 a4_1).bind fun (t15, t16) => ((impl_quadrance.f K a0 a1 t15 t16 a2_0 a2_1).bind fun t27 => some (t15, t16, t27))) : Option (Int × Int × Int)) = some (r0, r1, r2) := h
 clear h
 obtain ⟨⟨t15, t16⟩,A17,H⟩:=bnd H;try dsimp only at H
 obtain ⟨t27,A28,H⟩:=bnd H;try dsimp only at H
 simp only [Option.some.injEq, Prod.mk.injEq] at H
 obtain ⟨rfl, rfl, rfl⟩ := H
 go_enter Tryz.func38, Tryz.ntmps38
 refine wp_hide (fun Qf hQf => ?_)
 refine wsr fun _ hK1=>?_
 refine stp (cs := [.int .i64 a2_0, .int .i64 a2_1]) (T := 25) ?_
 intro b2 w3 hu4 lbb2 ltb2 hb2
 simp only[nm]
 refine stp (cs := [.int .i64 a3_0, .int .i64 a3_1]) (T := 25) ?_
 intro b5 w6 hu7 lbb5 ltb5 hb5
 simp only[nm]
 refine stp (cs := [.int .i64 a4_0, .int .i64 a4_1]) (T := 25) ?_
 intro b8 w9 hu10 lbb8 ltb8 hb8
 simp only[nm]
 refine stp (cs := [.int .i64 0, .int .i64 0, .int .i64 0]) (T := 27) ?_
 intro b11 w12 hu13 lbb11 ltb11 hb11
 simp only[nm]
 refine wln (hK1 _ _ ?_)
 refine wsr fun _ hK14=>?_
 iterate 2 (refine wpp fun k h=>?_;go_simp;apply h;clear h k)
 have cl0 := (hb2.up ((hu7.out.trans hu10.out).trans hu13.out)).cell (o := 0) rfl
 have cl1 := (hb2.up ((hu7.out.trans hu10.out).trans hu13.out)).cell (o := 1) rfl
 refine wpp fun k h=>?_;go_simp;apply h;clear h k
 clear cl0 cl1
 have cl0 := (hb5.up (hu10.out.trans hu13.out)).cell (o := 0) rfl
 have cl1 := (hb5.up (hu10.out.trans hu13.out)).cell (o := 1) rfl
 refine wpp fun k h=>?_;go_simp;apply h;clear h k
 clear cl0 cl1
 have cl0 := (hb8.up hu13.out).cell (o := 0) rfl
 have cl1 := (hb8.up hu13.out).cell (o := 1) rfl
 refine wpp fun k h=>?_;go_simp;apply h;clear h k
 clear cl0 cl1
 refine stc (impl_circumcentre.calls K a0 a1 a2_0 a2_1 a3_0 a3_1 a4_0 a4_1 t15 t16 w12  A17.out) ?_
 intro w18 hu19
 simp only[nm]
 refine stp (cs := [.int .i64 0, .int .i64 0]) (T := 25) ?_
 intro b20 w21 hu22 lbb20 ltb20 hb20
 simp only[nm]
 refine stw [.int .i64 t15, .int .i64 t16] hb20 rfl rfl rfl rfl rfl (by kernel_rfl) rfl rfl ?_
 intro w23 hs24 hb25
 refine wln (hK14 _ _ ?_)
 refine wp_seq_k fun K26 hK26=>?_
 refine' wp_region_up 7 [Slot.det _, Slot.det _, Slot.det _, Slot.det _, Slot.det _, Slot.det (.int .i64 t27), Slot.det _] (by kernel_rfl) (by kernel_rfl) ?main
 case main =>
  simp only [List.take_succ_cons, List.take_zero]
  refine wpK_ops rfl (fun w1 hu => ?_) ?_
  · have cl0 := (hb25.up ((Up.refl _).drew.trans hu)).cell (o := 0) rfl
    have cl1 := (hb25.up ((Up.refl _).drew.trans hu)).cell (o := 1) rfl
    go_simp
    first | done | rfl
  simp only[nm]
  refine wpK_ops rfl (fun w1 hu => ?_) ?_
  · clear hu
    go_simp
    first | done | rfl
  simp only[nm]
  refine wpK_ops rfl (fun w1 hu => ?_) ?_
  · clear hu
    go_simp
    first | done | rfl
  simp only[nm]
  refine wpK_ops rfl (fun w1 hu => ?_) ?_
  · have cl0 := (hb25.up ((Up.refl _).drew.trans hu)).cell (o := 0) rfl
    have cl1 := (hb25.up ((Up.refl _).drew.trans hu)).cell (o := 1) rfl
    go_simp
    first | done | rfl
  simp only[nm]
  refine wpK_ops rfl (fun w1 hu => ?_) ?_
  · have cl0 := ((hb2.up (((((hu7.out.trans hu10.out).trans hu13.out).trans hu19.out).trans hu22.out).sto (Nat.le_trans ((Nat.le_trans ((Nat.le_trans ((Nat.le_trans (hu7.out.size) hu10.out.size)) hu13.out.size)) hu19.out.size)) lbb20.out) hs24.out)).up ((Up.refl _).drew.trans hu)).cell (o := 0) rfl
    have cl1 := ((hb2.up (((((hu7.out.trans hu10.out).trans hu13.out).trans hu19.out).trans hu22.out).sto (Nat.le_trans ((Nat.le_trans ((Nat.le_trans ((Nat.le_trans (hu7.out.size) hu10.out.size)) hu13.out.size)) hu19.out.size)) lbb20.out) hs24.out)).up ((Up.refl _).drew.trans hu)).cell (o := 1) rfl
    go_simp
    first | done | rfl
  simp only[nm]
  refine wpK_ops rfl (fun w1 hu => ?_) ?_
  · have hcl := (impl_quadrance.calls K a0 a1 t15 t16 a2_0 a2_1 t27 w1  A28.out)
    clear hu
    replace hcl := Aside0.mk hcl
    go_simp
    exact hcl.out
  simp only[nm]
  refine wpK_ops rfl (fun w1 hu => ?_) ?_
  · clear hu
    go_simp
    first | done | rfl
  simp only[nm]
  refine wpK_nil ?_
  intro w29 hu hap
  simp only [List.drop_succ_cons, List.drop_zero]
  replace hu := (Up.refl _).drew.trans hu
  clear hap
  have hu30 := Aside0.mk hu
  clear hu
  refine stw [.int .i64 t15, .int .i64 t16, .int .i64 t27] (hb11.up (((hu19.out.trans hu22.out).sto (Nat.le_trans (hu19.out.size) lbb20.out) hs24.out).trans hu30.out)) rfl rfl rfl rfl rfl (by kernel_rfl) rfl rfl ?_
  intro w31 hs32 hb33
  refine wln (hK26 _ _ ?_)
  refine wp_ret ?_
  refine hQf _ _ _ ?_
  have cr0 := hb33.cell (o := 0) rfl
  have cr1 := hb33.cell (o := 1) rfl
  have cr2 := hb33.cell (o := 2) rfl
  exact bodyPost_ret (v := .agg #[.int .i64 t15, .int .i64 t16, .int .i64 t27]) (by first|rfl|simp [results, Tryz.results38, go_sem, cr0, cr1, cr2]<;>rfl) rfl ⟨rfl, ((((((((hu4.out.trans hu7.out).trans hu10.out).trans hu13.out).trans hu19.out).trans hu22.out).sto (Nat.le_trans ((Nat.le_trans ((Nat.le_trans ((Nat.le_trans ((Nat.le_trans (hu4.out.size) hu7.out.size)) hu10.out.size)) hu13.out.size)) hu19.out.size)) lbb20.out) hs24.out).trans hu30.out).sto (Nat.le_trans ((Nat.le_trans ((Nat.le_trans (hu4.out.size) hu7.out.size)) hu10.out.size)) lbb11.out) hs32.out)⟩

set_option maxHeartbeats 40000000 in
set_option maxRecDepth 100000 in
theorem impl_CircleThrough.calls (K : Nat) (a0 : Int) (a1 : Int) (a2_0 : Int) (a2_1 : Int) (a3_0 : Int) (a3_1 : Int) (a4_0 : Int) (a4_1 : Int) (r0 : Int) (r1 : Int) (r2 : Int) (r3 : Int) (w : World)  (h : impl_CircleThrough.f K a0 a1 a2_0 a2_1 a3_0 a3_1 a4_0 a4_1 = some (r0, r1, r2, r3)) :
    Calls Tryz.prog 9 #[.int .i64 a0, .int .i64 a1, .agg #[.int .i64 a2_0, .int .i64 a2_1], .agg #[.int .i64 a3_0, .int .i64 a3_1], .agg #[.int .i64 a4_0, .int .i64 a4_1]] w fun e w' => e = .returned (.tuple #[.agg #[.int .i64 r0, .int .i64 r1, .int .i64 r2], .int .i64 r3]) ∧ Up w w' := by
 have H : (((impl_triangle.f K a0 a1 a2_0 a2_1 a3_0 a3_1 a4_0 a4_1).bind fun t16 => (if (t16 == 0) = true then ((impl_circleThrough.f K a0 a1 a2_0 a2_1 a3_0 a3_1 a4_0 a4_1).bind fun (t25, t26, t27) => some (t25, t26, t27, 0)) else some (0, 0, 0, t16))) : Option (Int × Int × Int × Int)) = some (r0, r1, r2, r3) := h
 clear h
 obtain ⟨t16,A17,H⟩:=bnd H;try dsimp only at H
 go_enter Tryz.func9, Tryz.ntmps9
 refine wp_hide (fun Qf hQf => ?_)
 refine wsr fun _ hK1=>?_
 refine stp (cs := [.int .i64 a2_0, .int .i64 a2_1]) (T := 25) ?_
 intro b2 w3 hu4 lbb2 ltb2 hb2
 simp only[nm]
 refine stp (cs := [.int .i64 a3_0, .int .i64 a3_1]) (T := 25) ?_
 intro b5 w6 hu7 lbb5 ltb5 hb5
 simp only[nm]
 refine stp (cs := [.int .i64 a4_0, .int .i64 a4_1]) (T := 25) ?_
 intro b8 w9 hu10 lbb8 ltb8 hb8
 simp only[nm]
 refine stp (cs := [.int .i64 0, .int .i64 0, .int .i64 0]) (T := 27) ?_
 intro b11 w12 hu13 lbb11 ltb11 hb11
 simp only[nm]
 refine wpp fun k h=>?_;go_simp;apply h;clear h k
 refine wln (hK1 _ _ ?_)
 refine wp_seq_k fun K14 hK14=>?_
 refine wsr fun _ hK15=>?_
 iterate 2 (refine wpp fun k h=>?_;go_simp;apply h;clear h k)
 have cl0 := (hb2.up ((hu7.out.trans hu10.out).trans hu13.out)).cell (o := 0) rfl
 have cl1 := (hb2.up ((hu7.out.trans hu10.out).trans hu13.out)).cell (o := 1) rfl
 refine wpp fun k h=>?_;go_simp;apply h;clear h k
 clear cl0 cl1
 have cl0 := (hb5.up (hu10.out.trans hu13.out)).cell (o := 0) rfl
 have cl1 := (hb5.up (hu10.out.trans hu13.out)).cell (o := 1) rfl
 refine wpp fun k h=>?_;go_simp;apply h;clear h k
 clear cl0 cl1
 have cl0 := (hb8.up hu13.out).cell (o := 0) rfl
 have cl1 := (hb8.up hu13.out).cell (o := 1) rfl
 refine wpp fun k h=>?_;go_simp;apply h;clear h k
 clear cl0 cl1
 refine stc (impl_triangle.calls K a0 a1 a2_0 a2_1 a3_0 a3_1 a4_0 a4_1 t16 w12  A17.out) ?_
 intro w18 hu19
 simp only[nm]
 refine wpp fun k h=>?_;go_simp;apply h;clear h k
 refine wln (hK15 _ _ ?_)
 refine wsr fun _ hK20=>?_
 iterate 2 (refine wpp fun k h=>?_;go_simp;apply h;clear h k)
 refine wln (hK20 _ _ ?_)
 have hm22 := Aside0.mk ((((hu4.out.trans hu7.out).trans hu10.out).trans hu13.out).trans hu19.out)
 have h23 := (hb2.up (((hu7.out.trans hu10.out).trans hu13.out).trans hu19.out))
 by_cases c21 : (t16 == 0) = true
 rotate_left
 ·
  rw [if_neg c21] at H; replace c21 := Bool.eq_false_iff.mpr c21
  have c21n : (t16 != 0) = true := by rw [bne, c21]; rfl
  have c21p : ¬ t16 = 0 := fun e => by simp [e] at c21
  simp only [Option.some.injEq, Prod.mk.injEq] at H
  obtain ⟨rfl, rfl, rfl, rfl⟩ := H
  try simp only [c21, c21n, Bool.not_true, Bool.not_false]
  refine wp_cond_true rfl ?_
  refine wsr fun _ hK35=>?_
  iterate 2 (refine wpp fun k h=>?_;go_simp;apply h;clear h k)
  refine stw [.int .i64 0, .int .i64 0, .int .i64 0] (hb11.up hu19.out) rfl rfl rfl rfl rfl (by kernel_rfl) rfl rfl ?_
  intro w36 hs37 hb38
  refine wpp fun k h=>?_;go_simp;apply h;clear h k
  refine wln (hK35 _ _ ?_)
  refine wp_ret ?_
  refine hQf _ _ _ ?_
  have cr0 := hb38.cell (o := 0) rfl
  have cr1 := hb38.cell (o := 1) rfl
  have cr2 := hb38.cell (o := 2) rfl
  exact bodyPost_ret (v := .tuple #[.agg #[.int .i64 0, .int .i64 0, .int .i64 0], .int .i64 t16]) (by first|rfl|simp [results, Tryz.results9, go_sem, cr0, cr1, cr2]<;>rfl) rfl ⟨rfl, (hm22.out.sto (Nat.le_trans ((Nat.le_trans ((Nat.le_trans (hu4.out.size) hu7.out.size)) hu10.out.size)) lbb11.out) hs37.out)⟩
 rw [if_pos c21] at H
 have c21n : (t16 != 0) = false := by rw [bne, c21]; rfl
 obtain ⟨⟨t25, t26, t27⟩,A28,H⟩:=bnd H;try dsimp only at H
 simp only [Option.some.injEq, Prod.mk.injEq] at H
 obtain ⟨rfl, rfl, rfl, rfl⟩ := H
 try simp only [c21, c21n, Bool.not_true, Bool.not_false]
 refine wp_cond_false rfl ?_
 refine wp_skip ?_
 refine hK14 _ _ ?_
 refine wsr fun _ hK24=>?_
 iterate 2 (refine wpp fun k h=>?_;go_simp;apply h;clear h k)
 have cl0 := h23.cell (o := 0) rfl
 have cl1 := h23.cell (o := 1) rfl
 refine wpp fun k h=>?_;go_simp;apply h;clear h k
 clear cl0 cl1
 have cl0 := (hb5.up ((hu10.out.trans hu13.out).trans hu19.out)).cell (o := 0) rfl
 have cl1 := (hb5.up ((hu10.out.trans hu13.out).trans hu19.out)).cell (o := 1) rfl
 refine wpp fun k h=>?_;go_simp;apply h;clear h k
 clear cl0 cl1
 have cl0 := (hb8.up (hu13.out.trans hu19.out)).cell (o := 0) rfl
 have cl1 := (hb8.up (hu13.out.trans hu19.out)).cell (o := 1) rfl
 refine wpp fun k h=>?_;go_simp;apply h;clear h k
 clear cl0 cl1
 refine stc (impl_circleThrough.calls K a0 a1 a2_0 a2_1 a3_0 a3_1 a4_0 a4_1 t25 t26 t27 w18  A28.out) ?_
 intro w29 hu30
 simp only[nm]
 refine stw [.int .i64 t25, .int .i64 t26, .int .i64 t27] (hb11.up (hu19.out.trans hu30.out)) rfl rfl rfl rfl rfl (by kernel_rfl) rfl rfl ?_
 intro w31 hs32 hb33
 refine wpp fun k h=>?_;go_simp;apply h;clear h k
 refine wln (hK24 _ _ ?_)
 refine wp_ret ?_
 refine hQf _ _ _ ?_
 have cr0 := hb33.cell (o := 0) rfl
 have cr1 := hb33.cell (o := 1) rfl
 have cr2 := hb33.cell (o := 2) rfl
 exact bodyPost_ret (v := .tuple #[.agg #[.int .i64 t25, .int .i64 t26, .int .i64 t27], .int .i64 0]) (by first|rfl|simp [results, Tryz.results9, go_sem, cr0, cr1, cr2]<;>rfl) rfl ⟨rfl, ((hm22.out.trans hu30.out).sto (Nat.le_trans ((Nat.le_trans ((Nat.le_trans (hu4.out.size) hu7.out.size)) hu10.out.size)) lbb11.out) hs32.out)⟩

set_option maxHeartbeats 40000000 in
set_option maxRecDepth 100000 in
theorem spec_l04Code.calls (K : Nat) (a0 : Int) (a1 : Int) (a2_0 : Int) (a2_1 : Int) (a3_0 : Int) (a3_1 : Int) (a4_0 : Int) (a4_1 : Int) (r0 : Int) (w : World)  (h : spec_l04Code.f K a0 a1 a2_0 a2_1 a3_0 a3_1 a4_0 a4_1 = some (r0)) :
    Calls Tryz.prog 39 #[.int .i64 a0, .int .i64 a1, .agg #[.int .i64 a2_0, .int .i64 a2_1], .agg #[.int .i64 a3_0, .int .i64 a3_1], .agg #[.int .i64 a4_0, .int .i64 a4_1]] w fun e w' => e = .returned (.int .i64 r0) ∧ Up w w' := by
 have H : (((spec_l02Code.f K a0 a1 ([(a2_0, a2_1), (a3_0, a3_1), (a4_0, a4_1)])).bind fun t15 => (if (t15 == 0) = true then ((spec_l01Area.f K a0 a2_0 a2_1 a3_0 a3_1 a4_0 a4_1).bind fun t24 => (if (t24 == 0) = true then some 5 else some t15)) else some t15)) : Option (Int)) = some (r0) := h
 clear h
 obtain ⟨t15,A16,H⟩:=bnd H;try dsimp only at H
 go_enter Tryz.func39, Tryz.ntmps39
 refine wp_hide (fun Qf hQf => ?_)
 refine wsr fun _ hK1=>?_
 refine stp (cs := [.int .i64 a2_0, .int .i64 a2_1]) (T := 25) ?_
 intro b2 w3 hu4 lbb2 ltb2 hb2
 simp only[nm]
 refine stp (cs := [.int .i64 a3_0, .int .i64 a3_1]) (T := 25) ?_
 intro b5 w6 hu7 lbb5 ltb5 hb5
 simp only[nm]
 refine stp (cs := [.int .i64 a4_0, .int .i64 a4_1]) (T := 25) ?_
 intro b8 w9 hu10 lbb8 ltb8 hb8
 simp only[nm]
 refine wpp fun k h=>?_;go_simp;apply h;clear h k
 refine wln (hK1 _ _ ?_)
 refine wsr fun _ hK11=>?_
 iterate 2 (refine wpp fun k h=>?_;go_simp;apply h;clear h k)
 have cl0 := (hb2.up (hu7.out.trans hu10.out)).cell (o := 0) rfl
 have cl1 := (hb2.up (hu7.out.trans hu10.out)).cell (o := 1) rfl
 refine wpp fun k h=>?_;go_simp;apply h;clear h k
 clear cl0 cl1
 have cl0 := (hb5.up hu10.out).cell (o := 0) rfl
 have cl1 := (hb5.up hu10.out).cell (o := 1) rfl
 refine wpp fun k h=>?_;go_simp;apply h;clear h k
 clear cl0 cl1
 have cl0 := hb8.cell (o := 0) rfl
 have cl1 := hb8.cell (o := 1) rfl
 refine wpp fun k h=>?_;go_simp;apply h;clear h k
 clear cl0 cl1
 refine step_new (cs := [.int .i64 a2_0, .int .i64 a2_1, .int .i64 a3_0, .int .i64 a3_1, .int .i64 a4_0, .int .i64 a4_1]) (T := 25) (f := fun b => .slice (some ⟨b, 0, none⟩) 3 3) rfl (by go_simp <;> rfl) ?_
 intro b12 w13 hu lb hb12
 simp only[nm]
 clear lb
 have hu14 := Aside0.mk hu
 clear hu
 refine stc (spec_l02Code.calls K a0 a1 (some ⟨b12, 0, none⟩) 3 ([(a2_0, a2_1), (a3_0, a3_1), (a4_0, a4_1)]) t15 w13 (Rd.of_blk (E := e2) (xs := [(a2_0, a2_1), (a3_0, a3_1), (a4_0, a4_1)]) (o := 0) hb12 (by simp) (fun j u hu => by rcases j with _ | _ | _ | _ | _ | _ | j <;> simp_all [Enc.flat, e2])) A16.out) ?_
 intro w17 hu18
 simp only[nm]
 refine wpp fun k h=>?_;go_simp;apply h;clear h k
 refine wln (hK11 _ _ ?_)
 refine wp_seq_k fun K19 hK19=>?_
 refine wsr fun _ hK20=>?_
 iterate 3 (refine wpp fun k h=>?_;go_simp;apply h;clear h k)
 have hm22 := Aside0.mk ((((hu4.out.trans hu7.out).trans hu10.out).trans hu14.out).trans hu18.out)
 have h23 := (hb2.up (((hu7.out.trans hu10.out).trans hu14.out).trans hu18.out))
 by_cases c21 : (t15 == 0) = true
 rotate_left
 ·
  rw [if_neg c21] at H; replace c21 := Bool.eq_false_iff.mpr c21
  have c21n : (t15 != 0) = true := by rw [bne, c21]; rfl
  have c21p : ¬ t15 = 0 := fun e => by simp [e] at c21
  obtain rfl := Option.some.inj H
  try simp only [c21, c21n, Bool.not_true, Bool.not_false]
  refine step_no rfl ?_
  simp only[nm]
  refine step_no rfl ?_
  simp only[nm]
  refine step_no rfl ?_
  simp only[nm]
  refine step_no rfl ?_
  simp only[nm]
  refine step_no rfl ?_
  simp only[nm]
  refine step_no rfl ?_
  simp only[nm]
  refine wpp fun k h=>?_;go_simp;apply h;clear h k
  refine wln (hK20 _ _ ?_)
  refine wp_cond_false rfl ?_
  refine wp_skip ?_
  refine hK19 _ _ ?_
  refine wsr fun _ hK31=>?_
  iterate 2 (refine wpp fun k h=>?_;go_simp;apply h;clear h k)
  refine wln (hK31 _ _ ?_)
  refine wp_ret ?_
  refine hQf _ _ _ ?_
  exact bpr (v := .int .i64 t15) ⟨rfl, hm22.out⟩
 rw [if_pos c21] at H
 have c21n : (t15 != 0) = false := by rw [bne, c21]; rfl
 obtain ⟨t24,A25,H⟩:=bnd H;try dsimp only at H
 try simp only [c21, c21n, Bool.not_true, Bool.not_false]
 refine wpList_step fun k h=>?_;go_simp;apply h;clear h k
 have cl0 := h23.cell (o := 0) rfl
 have cl1 := h23.cell (o := 1) rfl
 refine wpList_step fun k h=>?_;go_simp;apply h;clear h k
 clear cl0 cl1
 have cl0 := (hb5.up ((hu10.out.trans hu14.out).trans hu18.out)).cell (o := 0) rfl
 have cl1 := (hb5.up ((hu10.out.trans hu14.out).trans hu18.out)).cell (o := 1) rfl
 refine wpList_step fun k h=>?_;go_simp;apply h;clear h k
 clear cl0 cl1
 have cl0 := (hb8.up (hu14.out.trans hu18.out)).cell (o := 0) rfl
 have cl1 := (hb8.up (hu14.out.trans hu18.out)).cell (o := 1) rfl
 refine wpList_step fun k h=>?_;go_simp;apply h;clear h k
 clear cl0 cl1
 refine step_call rfl (by go_simp <;> rfl) (spec_l01Area.calls K a0 a2_0 a2_1 a3_0 a3_1 a4_0 a4_1 t24 w17  A25.out) ?_
 rintro e w26 ⟨rfl, hu⟩
 have hu27 := Aside0.mk hu
 clear hu
 refine ⟨_, rfl, ?_⟩
 simp only[nm]
 refine wpList_step fun k h=>?_;go_simp;apply h;clear h k
 refine wpp fun k h=>?_;go_simp;apply h;clear h k
 refine wln (hK20 _ _ ?_)
 by_cases c28 : (t24 == 0) = true
 rotate_left
 ·
  rw [if_neg c28] at H; replace c28 := Bool.eq_false_iff.mpr c28
  have c28n : (t24 != 0) = true := by rw [bne, c28]; rfl
  have c28p : ¬ t24 = 0 := fun e => by simp [e] at c28
  obtain rfl := Option.some.inj H
  try simp only [c28, c28n, Bool.not_true, Bool.not_false]
  refine wp_cond_false rfl ?_
  refine wp_skip ?_
  refine hK19 _ _ ?_
  refine wsr fun _ hK30=>?_
  iterate 2 (refine wpp fun k h=>?_;go_simp;apply h;clear h k)
  refine wln (hK30 _ _ ?_)
  refine wp_ret ?_
  refine hQf _ _ _ ?_
  exact bpr (v := .int .i64 t15) ⟨rfl, (hm22.out.trans hu27.out)⟩
 rw [if_pos c28] at H
 have c28n : (t24 != 0) = false := by rw [bne, c28]; rfl
 obtain rfl := Option.some.inj H
 try simp only [c28, c28n, Bool.not_true, Bool.not_false]
 refine wp_cond_true rfl ?_
 refine wp_region_lit ?_
 refine wpp fun k h=>?_;go_simp;apply h;clear h k
 refine wln (hK19 _ _ ?_)
 refine wsr fun _ hK29=>?_
 iterate 2 (refine wpp fun k h=>?_;go_simp;apply h;clear h k)
 refine wln (hK29 _ _ ?_)
 refine wp_ret ?_
 refine hQf _ _ _ ?_
 exact bpr (v := .int .i64 5) ⟨rfl, (hm22.out.trans hu27.out)⟩

set_option maxHeartbeats 40000000 in
set_option maxRecDepth 100000 in
theorem spec_l01Meet.calls (K : Nat) (a0 : Int) (a1_0 : Int) (a1_1 : Int) (a1_2 : Int) (a2_0 : Int) (a2_1 : Int) (a2_2 : Int) (r0 : Int) (r1 : Int) (r2 : Bool) (w : World)  (h : spec_l01Meet.f K a0 a1_0 a1_1 a1_2 a2_0 a2_1 a2_2 = some (r0, r1, r2)) :
    Calls Tryz.prog 118 #[.int .i64 a0, .agg #[.int .i64 a1_0, .int .i64 a1_1, .int .i64 a1_2], .agg #[.int .i64 a2_0, .int .i64 a2_1, .int .i64 a2_2]] w fun e w' => e = .returned (.tuple #[.agg #[.int .i64 r0, .int .i64 r1], .bool r2]) ∧ Up w w' := by
 have H : (((spec_l01Mod.f K (wrap64 ((wrap64 (a1_0 * a2_1)) - (wrap64 (a1_1 * a2_0)))) a0).bind fun t12 => (if (t12 == 0) = true then some (0, 0, false) else ((spec_l01Inverse.f K t12 a0).bind fun t25 => (if (a0 == 0) = true then none else ((spec_l01Mod.f K (wrap64 ((Int.tmod (wrap64 ((wrap64 (a1_1 * a2_2)) - (wrap64 (a2_1 * a1_2)))) a0) * t25)) a0).bind fun t32 => ((spec_l01Mod.f K (wrap64 ((Int.tmod (wrap64 ((wrap64 (a2_0 * a1_2)) - (wrap64 (a1_0 * a2_2)))) a0) * t25)) a0).bind fun t34 => some (t32, t34, true))))))) : Option (Int × Int × Bool)) = some (r0, r1, r2) := h
 clear h
 obtain ⟨t12,A13,H⟩:=bnd H;try dsimp only at H
 go_enter Tryz.func118, Tryz.ntmps118
 refine wp_hide (fun Qf hQf => ?_)
 refine wsr fun _ hK1=>?_
 refine stp (cs := [.int .i64 a1_0, .int .i64 a1_1, .int .i64 a1_2]) (T := 31) ?_
 intro b2 w3 hu4 lbb2 ltb2 hb2
 simp only[nm]
 refine stp (cs := [.int .i64 a2_0, .int .i64 a2_1, .int .i64 a2_2]) (T := 31) ?_
 intro b5 w6 hu7 lbb5 ltb5 hb5
 simp only[nm]
 refine stp (cs := [.int .i64 0, .int .i64 0]) (T := 25) ?_
 intro b8 w9 hu10 lbb8 ltb8 hb8
 simp only[nm]
 refine wpp fun k h=>?_;go_simp;apply h;clear h k
 refine wln (hK1 _ _ ?_)
 refine wsr fun _ hK11=>?_
 refine wpp fun k h=>?_;go_simp;apply h;clear h k
 have cl0 := (hb2.up (hu7.out.trans hu10.out)).cell (o := 0) rfl
 refine wpp fun k h=>?_;go_simp;apply h;clear h k
 clear cl0
 refine wpp fun k h=>?_;go_simp;apply h;clear h k
 have cl0 := (hb5.up hu10.out).cell (o := 1) rfl
 refine wpp fun k h=>?_;go_simp;apply h;clear h k
 clear cl0
 iterate 2 (refine wpp fun k h=>?_;go_simp;apply h;clear h k)
 have cl0 := (hb2.up (hu7.out.trans hu10.out)).cell (o := 1) rfl
 refine wpp fun k h=>?_;go_simp;apply h;clear h k
 clear cl0
 refine wpp fun k h=>?_;go_simp;apply h;clear h k
 have cl0 := (hb5.up hu10.out).cell (o := 0) rfl
 refine wpp fun k h=>?_;go_simp;apply h;clear h k
 clear cl0
 iterate 3 (refine wpp fun k h=>?_;go_simp;apply h;clear h k)
 refine stc (spec_l01Mod.calls K (wrap64 ((wrap64 (a1_0 * a2_1)) - (wrap64 (a1_1 * a2_0)))) a0 t12 w9  A13.out) ?_
 intro w14 hu15
 simp only[nm]
 refine wpp fun k h=>?_;go_simp;apply h;clear h k
 refine wln (hK11 _ _ ?_)
 refine wp_seq_k fun K16 hK16=>?_
 refine wsr fun _ hK17=>?_
 iterate 2 (refine wpp fun k h=>?_;go_simp;apply h;clear h k)
 refine wln (hK17 _ _ ?_)
 have hm19 := Aside0.mk (((hu4.out.trans hu7.out).trans hu10.out).trans hu15.out)
 by_cases c18 : (t12 == 0) = true
 ·
  rw [if_pos c18] at H
  have c18n : (t12 != 0) = false := by rw [bne, c18]; rfl
  simp only [Option.some.injEq, Prod.mk.injEq] at H
  obtain ⟨rfl, rfl, rfl⟩ := H
  try simp only [c18, c18n, Bool.not_true, Bool.not_false]
  refine wp_cond_true rfl ?_
  refine wsr fun _ hK20=>?_
  refine wpp fun k h=>?_;go_simp;apply h;clear h k
  refine stw [.int .i64 0, .int .i64 0] (hb8.up hu15.out) rfl rfl rfl rfl rfl (by kernel_rfl) rfl rfl ?_
  intro w21 hs22 hb23
  refine wpp fun k h=>?_;go_simp;apply h;clear h k
  refine wln (hK20 _ _ ?_)
  refine wp_ret ?_
  refine hQf _ _ _ ?_
  have cr0 := hb23.cell (o := 0) rfl
  have cr1 := hb23.cell (o := 1) rfl
  exact bodyPost_ret (v := .tuple #[.agg #[.int .i64 0, .int .i64 0], .bool false]) (by first|rfl|simp [results, Tryz.results118, go_sem, cr0, cr1]<;>rfl) rfl ⟨rfl, (hm19.out.sto (Nat.le_trans ((Nat.le_trans (hu4.out.size) hu7.out.size)) lbb8.out) hs22.out)⟩
 rw [if_neg c18] at H; replace c18 := Bool.eq_false_iff.mpr c18
 have c18n : (t12 != 0) = true := by rw [bne, c18]; rfl
 have c18p : ¬ t12 = 0 := fun e => by simp [e] at c18
 obtain ⟨t25,A26,H⟩:=bnd H;try dsimp only at H
 try simp only [c18, c18n, Bool.not_true, Bool.not_false]
 refine wp_cond_false rfl ?_
 refine wp_skip ?_
 refine hK16 _ _ ?_
 refine wsr fun _ hK24=>?_
 iterate 2 (refine wpp fun k h=>?_;go_simp;apply h;clear h k)
 refine stc (spec_l01Inverse.calls K t12 a0 t25 w14  A26.out) ?_
 intro w27 hu28
 simp only[nm]
 refine wpp fun k h=>?_;go_simp;apply h;clear h k
 refine wln (hK24 _ _ ?_)
 refine wp_seq_k fun K29 hK29=>?_
 have h31 := (hb2.up (((hu7.out.trans hu10.out).trans hu15.out).trans hu28.out))
 by_cases c30 : (a0 == 0) = true
 ·
  rw [if_pos c30] at H
  have c30n : (a0 != 0) = false := by rw [bne, c30]; rfl
  exact absurd H (by simp)
 rw [if_neg c30] at H; replace c30 := Bool.eq_false_iff.mpr c30
 have c30n : (a0 != 0) = true := by rw [bne, c30]; rfl
 have c30p : ¬ a0 = 0 := fun e => by simp [e] at c30
 obtain ⟨t32,A33,H⟩:=bnd H;try dsimp only at H
 obtain ⟨t34,A35,H⟩:=bnd H;try dsimp only at H
 simp only [Option.some.injEq, Prod.mk.injEq] at H
 obtain ⟨rfl, rfl, rfl⟩ := H
 try simp only [c30, c30n, Bool.not_true, Bool.not_false]
 refine' wp_region_up 35 [Slot.det _, Slot.det _, Slot.det _, Slot.det _, Slot.det _, Slot.det _, Slot.det _, Slot.det _, Slot.det _, Slot.det _, Slot.det _, Slot.det _, Slot.det _, Slot.det _, Slot.det _, Slot.det _, Slot.det (.int .i64 t32), Slot.det _, Slot.det _, Slot.det _, Slot.det _, Slot.det _, Slot.det _, Slot.det _, Slot.det _, Slot.det _, Slot.det _, Slot.det _, Slot.det _, Slot.det _, Slot.det _, Slot.det _, Slot.det _, Slot.det (.int .i64 t34), Slot.det _] (by kernel_rfl) (by kernel_rfl) ?main
 case main =>
  simp only [List.take_succ_cons, List.take_zero]
  refine wpK_ops rfl (fun w1 hu => ?_) ?_
  · clear hu
    go_simp
    first | done | rfl
  simp only[nm]
  refine wpK_ops rfl (fun w1 hu => ?_) ?_
  · have cl0 := ((hb2.up (((hu7.out.trans hu10.out).trans hu15.out).trans hu28.out)).up ((Up.refl _).drew.trans hu)).cell (o := 1) rfl
    go_simp
    first | done | rfl
  simp only[nm]
  refine wpK_ops rfl (fun w1 hu => ?_) ?_
  · clear hu
    go_simp
    first | done | rfl
  simp only[nm]
  refine wpK_ops rfl (fun w1 hu => ?_) ?_
  · have cl0 := ((hb5.up ((hu10.out.trans hu15.out).trans hu28.out)).up ((Up.refl _).drew.trans hu)).cell (o := 2) rfl
    go_simp
    first | done | rfl
  simp only[nm]
  refine wpK_ops rfl (fun w1 hu => ?_) ?_
  · clear hu
    go_simp
    first | done | rfl
  simp only[nm]
  refine wpK_ops rfl (fun w1 hu => ?_) ?_
  · clear hu
    go_simp
    first | done | rfl
  simp only[nm]
  refine wpK_ops rfl (fun w1 hu => ?_) ?_
  · have cl0 := ((hb5.up ((hu10.out.trans hu15.out).trans hu28.out)).up ((Up.refl _).drew.trans hu)).cell (o := 1) rfl
    go_simp
    first | done | rfl
  simp only[nm]
  refine wpK_ops rfl (fun w1 hu => ?_) ?_
  · clear hu
    go_simp
    first | done | rfl
  simp only[nm]
  refine wpK_ops rfl (fun w1 hu => ?_) ?_
  · have cl0 := ((hb2.up (((hu7.out.trans hu10.out).trans hu15.out).trans hu28.out)).up ((Up.refl _).drew.trans hu)).cell (o := 2) rfl
    go_simp
    first | done | rfl
  simp only[nm]
  refine wpK_ops rfl (fun w1 hu => ?_) ?_
  · clear hu
    go_simp
    first | done | rfl
  simp only[nm]
  refine wpK_ops rfl (fun w1 hu => ?_) ?_
  · clear hu
    go_simp
    first | done | rfl
  simp only[nm]
  refine wpK_ops rfl (fun w1 hu => ?_) ?_
  · clear hu
    go_simp
    first | done | rfl
  simp only[nm]
  refine wpK_ops rfl (fun w1 hu => ?_) ?_
  · clear hu
    go_simp
    first | done | rfl
  simp only[nm]
  refine wpK_ops rfl (fun w1 hu => ?_) ?_
  · clear hu
    go_simp
    first | done | rfl
  simp only[nm]
  refine wpK_ops rfl (fun w1 hu => ?_) ?_
  · clear hu
    go_simp
    first | done | rfl
  simp only[nm]
  refine wpK_ops rfl (fun w1 hu => ?_) ?_
  · clear hu
    go_simp
    first | done | rfl
  simp only[nm]
  refine wpK_ops rfl (fun w1 hu => ?_) ?_
  · have hcl := (spec_l01Mod.calls K (wrap64 ((Int.tmod (wrap64 ((wrap64 (a1_1 * a2_2)) - (wrap64 (a2_1 * a1_2)))) a0) * t25)) a0 t32 w1  A33.out)
    clear hu
    replace hcl := Aside0.mk hcl
    go_simp
    exact hcl.out
  simp only[nm]
  refine wpK_ops rfl (fun w1 hu => ?_) ?_
  · clear hu
    go_simp
    first | done | rfl
  simp only[nm]
  refine wpK_ops rfl (fun w1 hu => ?_) ?_
  · have cl0 := ((hb5.up ((hu10.out.trans hu15.out).trans hu28.out)).up ((Up.refl _).drew.trans hu)).cell (o := 0) rfl
    go_simp
    first | done | rfl
  simp only[nm]
  refine wpK_ops rfl (fun w1 hu => ?_) ?_
  · clear hu
    go_simp
    first | done | rfl
  simp only[nm]
  refine wpK_ops rfl (fun w1 hu => ?_) ?_
  · have cl0 := (h31.up ((Up.refl _).drew.trans hu)).cell (o := 2) rfl
    go_simp
    first | done | rfl
  simp only[nm]
  refine wpK_ops rfl (fun w1 hu => ?_) ?_
  · clear hu
    go_simp
    first | done | rfl
  simp only[nm]
  refine wpK_ops rfl (fun w1 hu => ?_) ?_
  · clear hu
    go_simp
    first | done | rfl
  simp only[nm]
  refine wpK_ops rfl (fun w1 hu => ?_) ?_
  · have cl0 := (h31.up ((Up.refl _).drew.trans hu)).cell (o := 0) rfl
    go_simp
    first | done | rfl
  simp only[nm]
  refine wpK_ops rfl (fun w1 hu => ?_) ?_
  · clear hu
    go_simp
    first | done | rfl
  simp only[nm]
  refine wpK_ops rfl (fun w1 hu => ?_) ?_
  · have cl0 := ((hb5.up ((hu10.out.trans hu15.out).trans hu28.out)).up ((Up.refl _).drew.trans hu)).cell (o := 2) rfl
    go_simp
    first | done | rfl
  simp only[nm]
  refine wpK_ops rfl (fun w1 hu => ?_) ?_
  · clear hu
    go_simp
    first | done | rfl
  simp only[nm]
  refine wpK_ops rfl (fun w1 hu => ?_) ?_
  · clear hu
    go_simp
    first | done | rfl
  simp only[nm]
  refine wpK_ops rfl (fun w1 hu => ?_) ?_
  · clear hu
    go_simp
    first | done | rfl
  simp only[nm]
  refine wpK_ops rfl (fun w1 hu => ?_) ?_
  · clear hu
    go_simp
    first | done | rfl
  simp only[nm]
  refine wpK_ops rfl (fun w1 hu => ?_) ?_
  · clear hu
    go_simp
    first | done | rfl
  simp only[nm]
  refine wpK_ops rfl (fun w1 hu => ?_) ?_
  · clear hu
    go_simp
    first | done | rfl
  simp only[nm]
  refine wpK_ops rfl (fun w1 hu => ?_) ?_
  · clear hu
    go_simp
    first | done | rfl
  simp only[nm]
  refine wpK_ops rfl (fun w1 hu => ?_) ?_
  · have hcl := (spec_l01Mod.calls K (wrap64 ((Int.tmod (wrap64 ((wrap64 (a2_0 * a1_2)) - (wrap64 (a1_0 * a2_2)))) a0) * t25)) a0 t34 w1  A35.out)
    clear hu
    replace hcl := Aside0.mk hcl
    go_simp
    exact hcl.out
  simp only[nm]
  refine wpK_ops rfl (fun w1 hu => ?_) ?_
  · clear hu
    go_simp
    first | done | rfl
  simp only[nm]
  refine wpK_nil ?_
  intro w36 hu hap
  simp only [List.drop_succ_cons, List.drop_zero]
  replace hu := (Up.refl _).drew.trans hu
  clear hap
  have hu37 := Aside0.mk hu
  clear hu
  refine stw [.int .i64 t32, .int .i64 t34] (hb8.up ((hu15.out.trans hu28.out).trans hu37.out)) rfl rfl rfl rfl rfl (by kernel_rfl) rfl rfl ?_
  intro w38 hs39 hb40
  refine wpp fun k h=>?_;go_simp;apply h;clear h k
  refine wln (hK29 _ _ ?_)
  refine wp_ret ?_
  refine hQf _ _ _ ?_
  have cr0 := hb40.cell (o := 0) rfl
  have cr1 := hb40.cell (o := 1) rfl
  exact bodyPost_ret (v := .tuple #[.agg #[.int .i64 t32, .int .i64 t34], .bool true]) (by first|rfl|simp [results, Tryz.results118, go_sem, cr0, cr1]<;>rfl) rfl ⟨rfl, (((hm19.out.trans hu28.out).trans hu37.out).sto (Nat.le_trans ((Nat.le_trans (hu4.out.size) hu7.out.size)) lbb8.out) hs39.out)⟩

set_option maxHeartbeats 40000000 in
set_option maxRecDepth 100000 in
theorem spec_l04Circumcentre.calls (K : Nat) (a0 : Int) (a1 : Int) (a2_0 : Int) (a2_1 : Int) (a3_0 : Int) (a3_1 : Int) (a4_0 : Int) (a4_1 : Int) (r0 : Int) (r1 : Int) (w : World)  (h : spec_l04Circumcentre.f K a0 a1 a2_0 a2_1 a3_0 a3_1 a4_0 a4_1 = some (r0, r1)) :
    Calls Tryz.prog 96 #[.int .i64 a0, .int .i64 a1, .agg #[.int .i64 a2_0, .int .i64 a2_1], .agg #[.int .i64 a3_0, .int .i64 a3_1], .agg #[.int .i64 a4_0, .int .i64 a4_1]] w fun e w' => e = .returned (.agg #[.int .i64 r0, .int .i64 r1]) ∧ Up w w' := by
 have H : (((spec_l01Minus.f K a0 a2_0 a2_1 a3_0 a3_1).bind fun (t15, t16) => ((spec_l01Middle.f K a0 a2_0 a2_1 a3_0 a3_1).bind fun (t18, t19) => ((spec_l02Through.f K a0 a1 t15 t16 t18 t19).bind fun (t21, t22, t23) => ((spec_l01Minus.f K a0 a2_0 a2_1 a4_0 a4_1).bind fun (t33, t34) => ((spec_l01Middle.f K a0 a2_0 a2_1 a4_0 a4_1).bind fun (t36, t37) => ((spec_l02Through.f K a0 a1 t33 t34 t36 t37).bind fun (t39, t40, t41) => ((spec_l01Meet.f K a0 t21 t22 t23 t39 t40 t41).bind fun (t51, t52, t53) => some (t51, t52)))))))) : Option (Int × Int)) = some (r0, r1) := h
 clear h
 obtain ⟨⟨t15, t16⟩,A17,H⟩:=bnd H;try dsimp only at H
 obtain ⟨⟨t18, t19⟩,A20,H⟩:=bnd H;try dsimp only at H
 obtain ⟨⟨t21, t22, t23⟩,A24,H⟩:=bnd H;try dsimp only at H
 obtain ⟨⟨t33, t34⟩,A35,H⟩:=bnd H;try dsimp only at H
 obtain ⟨⟨t36, t37⟩,A38,H⟩:=bnd H;try dsimp only at H
 obtain ⟨⟨t39, t40, t41⟩,A42,H⟩:=bnd H;try dsimp only at H
 obtain ⟨⟨t51, t52, t53⟩,A54,H⟩:=bnd H;try dsimp only at H
 simp only [Option.some.injEq, Prod.mk.injEq] at H
 obtain ⟨rfl, rfl⟩ := H
 go_enter Tryz.func96, Tryz.ntmps96
 refine wp_hide (fun Qf hQf => ?_)
 refine wsr fun _ hK1=>?_
 refine stp (cs := [.int .i64 a2_0, .int .i64 a2_1]) (T := 25) ?_
 intro b2 w3 hu4 lbb2 ltb2 hb2
 simp only[nm]
 refine stp (cs := [.int .i64 a3_0, .int .i64 a3_1]) (T := 25) ?_
 intro b5 w6 hu7 lbb5 ltb5 hb5
 simp only[nm]
 refine stp (cs := [.int .i64 a4_0, .int .i64 a4_1]) (T := 25) ?_
 intro b8 w9 hu10 lbb8 ltb8 hb8
 simp only[nm]
 refine stp (cs := [.int .i64 0, .int .i64 0]) (T := 25) ?_
 intro b11 w12 hu13 lbb11 ltb11 hb11
 simp only[nm]
 refine wln (hK1 _ _ ?_)
 refine wp_seq_k fun K14 hK14=>?_
 refine' wp_region_up 12 [Slot.det _, Slot.det _, Slot.det _, Slot.det _, Slot.det _, Slot.det (.agg #[.int .i64 t15, .int .i64 t16]), Slot.det _, Slot.det _, Slot.det _, Slot.det (.agg #[.int .i64 t18, .int .i64 t19]), Slot.det (.agg #[.int .i64 t21, .int .i64 t22, .int .i64 t23]), Slot.any (PtrTo [.int .i64 0, .int .i64 0, .int .i64 0] 31) true] (by kernel_rfl) (by kernel_rfl) ?main
 case main =>
  simp only [List.take_succ_cons, List.take_zero]
  refine wpK_ops rfl (fun w1 hu => ?_) ?_
  · clear hu
    go_simp
    first | done | rfl
  simp only[nm]
  refine wpK_ops rfl (fun w1 hu => ?_) ?_
  · clear hu
    go_simp
    first | done | rfl
  simp only[nm]
  refine wpK_ops rfl (fun w1 hu => ?_) ?_
  · clear hu
    go_simp
    first | done | rfl
  simp only[nm]
  refine wpK_ops rfl (fun w1 hu => ?_) ?_
  · have cl0 := ((hb2.up ((hu7.out.trans hu10.out).trans hu13.out)).up ((Up.refl _).drew.trans hu)).cell (o := 0) rfl
    have cl1 := ((hb2.up ((hu7.out.trans hu10.out).trans hu13.out)).up ((Up.refl _).drew.trans hu)).cell (o := 1) rfl
    go_simp
    first | done | rfl
  simp only[nm]
  refine wpK_ops rfl (fun w1 hu => ?_) ?_
  · have cl0 := ((hb5.up (hu10.out.trans hu13.out)).up ((Up.refl _).drew.trans hu)).cell (o := 0) rfl
    have cl1 := ((hb5.up (hu10.out.trans hu13.out)).up ((Up.refl _).drew.trans hu)).cell (o := 1) rfl
    go_simp
    first | done | rfl
  simp only[nm]
  refine wpK_ops rfl (fun w1 hu => ?_) ?_
  · have hcl := (spec_l01Minus.calls K a0 a2_0 a2_1 a3_0 a3_1 t15 t16 w1  A17.out)
    clear hu
    replace hcl := Aside0.mk hcl
    go_simp
    exact hcl.out
  simp only[nm]
  refine wpK_ops rfl (fun w1 hu => ?_) ?_
  · clear hu
    go_simp
    first | done | rfl
  simp only[nm]
  refine wpK_ops rfl (fun w1 hu => ?_) ?_
  · have cl0 := ((hb2.up ((hu7.out.trans hu10.out).trans hu13.out)).up ((Up.refl _).drew.trans hu)).cell (o := 0) rfl
    have cl1 := ((hb2.up ((hu7.out.trans hu10.out).trans hu13.out)).up ((Up.refl _).drew.trans hu)).cell (o := 1) rfl
    go_simp
    first | done | rfl
  simp only[nm]
  refine wpK_ops rfl (fun w1 hu => ?_) ?_
  · have cl0 := ((hb5.up (hu10.out.trans hu13.out)).up ((Up.refl _).drew.trans hu)).cell (o := 0) rfl
    have cl1 := ((hb5.up (hu10.out.trans hu13.out)).up ((Up.refl _).drew.trans hu)).cell (o := 1) rfl
    go_simp
    first | done | rfl
  simp only[nm]
  refine wpK_ops rfl (fun w1 hu => ?_) ?_
  · have hcl := (spec_l01Middle.calls K a0 a2_0 a2_1 a3_0 a3_1 t18 t19 w1  A20.out)
    clear hu
    replace hcl := Aside0.mk hcl
    go_simp
    exact hcl.out
  simp only[nm]
  refine wpK_ops rfl (fun w1 hu => ?_) ?_
  · have hcl := (spec_l02Through.calls K a0 a1 t15 t16 t18 t19 t21 t22 t23 w1  A24.out)
    clear hu
    replace hcl := Aside0.mk hcl
    go_simp
    exact hcl.out
  simp only[nm]
  refine wpK_any rfl (stab_ptr _ _) (fun w1 _ _ => fresh_ptr (by go_simp <;> rfl)) (fun v25 => ?_)
  simp only[nm]
  refine wpK_nil ?_
  intro w27 hu hap
  simp only [List.drop_succ_cons, List.drop_zero]
  replace hu := (Up.refl _).drew.trans hu
  obtain ⟨hf0, hn0, ⟨b26, e0, hb26⟩, -⟩ := hap
  have lbb26 := Aside0.mk (hf0 rfl b26 (by rw [e0]; rfl)).1
  dsimp only at e0
  subst e0
  clear hf0 hn0
  have hu28 := Aside0.mk hu
  clear hu
  refine stw [.int .i64 t21, .int .i64 t22, .int .i64 t23] hb26 rfl rfl rfl rfl rfl (by kernel_rfl) rfl rfl ?_
  intro w29 hs30 hb31
  refine wln (hK14 _ _ ?_)
  refine wp_seq_k fun K32 hK32=>?_
  refine' wp_region_up 12 [Slot.det _, Slot.det _, Slot.det _, Slot.det _, Slot.det _, Slot.det (.agg #[.int .i64 t33, .int .i64 t34]), Slot.det _, Slot.det _, Slot.det _, Slot.det (.agg #[.int .i64 t36, .int .i64 t37]), Slot.det (.agg #[.int .i64 t39, .int .i64 t40, .int .i64 t41]), Slot.any (PtrTo [.int .i64 0, .int .i64 0, .int .i64 0] 31) true] (by kernel_rfl) (by kernel_rfl) ?main
  case main =>
   simp only [List.take_succ_cons, List.take_zero]
   refine wpK_ops rfl (fun w1 hu => ?_) ?_
   · clear hu
     go_simp
     first | done | rfl
   simp only[nm]
   refine wpK_ops rfl (fun w1 hu => ?_) ?_
   · clear hu
     go_simp
     first | done | rfl
   simp only[nm]
   refine wpK_ops rfl (fun w1 hu => ?_) ?_
   · clear hu
     go_simp
     first | done | rfl
   simp only[nm]
   refine wpK_ops rfl (fun w1 hu => ?_) ?_
   · have cl0 := ((hb2.up ((((hu7.out.trans hu10.out).trans hu13.out).trans hu28.out).sto (Nat.le_trans ((Nat.le_trans ((Nat.le_trans (hu7.out.size) hu10.out.size)) hu13.out.size)) lbb26.out) hs30.out)).up ((Up.refl _).drew.trans hu)).cell (o := 0) rfl
     have cl1 := ((hb2.up ((((hu7.out.trans hu10.out).trans hu13.out).trans hu28.out).sto (Nat.le_trans ((Nat.le_trans ((Nat.le_trans (hu7.out.size) hu10.out.size)) hu13.out.size)) lbb26.out) hs30.out)).up ((Up.refl _).drew.trans hu)).cell (o := 1) rfl
     go_simp
     first | done | rfl
   simp only[nm]
   refine wpK_ops rfl (fun w1 hu => ?_) ?_
   · have cl0 := ((hb8.up ((hu13.out.trans hu28.out).sto (Nat.le_trans (hu13.out.size) lbb26.out) hs30.out)).up ((Up.refl _).drew.trans hu)).cell (o := 0) rfl
     have cl1 := ((hb8.up ((hu13.out.trans hu28.out).sto (Nat.le_trans (hu13.out.size) lbb26.out) hs30.out)).up ((Up.refl _).drew.trans hu)).cell (o := 1) rfl
     go_simp
     first | done | rfl
   simp only[nm]
   refine wpK_ops rfl (fun w1 hu => ?_) ?_
   · have hcl := (spec_l01Minus.calls K a0 a2_0 a2_1 a4_0 a4_1 t33 t34 w1  A35.out)
     clear hu
     replace hcl := Aside0.mk hcl
     go_simp
     exact hcl.out
   simp only[nm]
   refine wpK_ops rfl (fun w1 hu => ?_) ?_
   · clear hu
     go_simp
     first | done | rfl
   simp only[nm]
   refine wpK_ops rfl (fun w1 hu => ?_) ?_
   · have cl0 := ((hb2.up ((((hu7.out.trans hu10.out).trans hu13.out).trans hu28.out).sto (Nat.le_trans ((Nat.le_trans ((Nat.le_trans (hu7.out.size) hu10.out.size)) hu13.out.size)) lbb26.out) hs30.out)).up ((Up.refl _).drew.trans hu)).cell (o := 0) rfl
     have cl1 := ((hb2.up ((((hu7.out.trans hu10.out).trans hu13.out).trans hu28.out).sto (Nat.le_trans ((Nat.le_trans ((Nat.le_trans (hu7.out.size) hu10.out.size)) hu13.out.size)) lbb26.out) hs30.out)).up ((Up.refl _).drew.trans hu)).cell (o := 1) rfl
     go_simp
     first | done | rfl
   simp only[nm]
   refine wpK_ops rfl (fun w1 hu => ?_) ?_
   · have cl0 := ((hb8.up ((hu13.out.trans hu28.out).sto (Nat.le_trans (hu13.out.size) lbb26.out) hs30.out)).up ((Up.refl _).drew.trans hu)).cell (o := 0) rfl
     have cl1 := ((hb8.up ((hu13.out.trans hu28.out).sto (Nat.le_trans (hu13.out.size) lbb26.out) hs30.out)).up ((Up.refl _).drew.trans hu)).cell (o := 1) rfl
     go_simp
     first | done | rfl
   simp only[nm]
   refine wpK_ops rfl (fun w1 hu => ?_) ?_
   · have hcl := (spec_l01Middle.calls K a0 a2_0 a2_1 a4_0 a4_1 t36 t37 w1  A38.out)
     clear hu
     replace hcl := Aside0.mk hcl
     go_simp
     exact hcl.out
   simp only[nm]
   refine wpK_ops rfl (fun w1 hu => ?_) ?_
   · have hcl := (spec_l02Through.calls K a0 a1 t33 t34 t36 t37 t39 t40 t41 w1  A42.out)
     clear hu
     replace hcl := Aside0.mk hcl
     go_simp
     exact hcl.out
   simp only[nm]
   refine wpK_any rfl (stab_ptr _ _) (fun w1 _ _ => fresh_ptr (by go_simp <;> rfl)) (fun v43 => ?_)
   simp only[nm]
   refine wpK_nil ?_
   intro w45 hu hap
   simp only [List.drop_succ_cons, List.drop_zero]
   replace hu := (Up.refl _).drew.trans hu
   obtain ⟨hf0, hn0, ⟨b44, e0, hb44⟩, -⟩ := hap
   have lbb44 := Aside0.mk (hf0 rfl b44 (by rw [e0]; rfl)).1
   dsimp only at e0
   subst e0
   clear hf0 hn0
   have hu46 := Aside0.mk hu
   clear hu
   refine stw [.int .i64 t39, .int .i64 t40, .int .i64 t41] hb44 rfl rfl rfl rfl rfl (by kernel_rfl) rfl rfl ?_
   intro w47 hs48 hb49
   refine wln (hK32 _ _ ?_)
   refine wsr fun _ hK50=>?_
   refine wpp fun k h=>?_;go_simp;apply h;clear h k
   have cl0 := (hb31.up (hu46.out.sto (Nat.le_trans (Nat.le_refl _) lbb44.out) hs48.out)).cell (o := 0) rfl
   have cl1 := (hb31.up (hu46.out.sto (Nat.le_trans (Nat.le_refl _) lbb44.out) hs48.out)).cell (o := 1) rfl
   have cl2 := (hb31.up (hu46.out.sto (Nat.le_trans (Nat.le_refl _) lbb44.out) hs48.out)).cell (o := 2) rfl
   refine wpp fun k h=>?_;go_simp;apply h;clear h k
   clear cl0 cl1 cl2
   have cl0 := hb49.cell (o := 0) rfl
   have cl1 := hb49.cell (o := 1) rfl
   have cl2 := hb49.cell (o := 2) rfl
   refine wpp fun k h=>?_;go_simp;apply h;clear h k
   clear cl0 cl1 cl2
   refine stc (spec_l01Meet.calls K a0 t21 t22 t23 t39 t40 t41 t51 t52 t53 w47  A54.out) ?_
   intro w55 hu56
   simp only[nm]
   iterate 3 (refine wpp fun k h=>?_;go_simp;apply h;clear h k)
   refine stp (cs := [.int .i64 0, .int .i64 0]) (T := 25) ?_
   intro b57 w58 hu59 lbb57 ltb57 hb57
   simp only[nm]
   refine stw [.int .i64 t51, .int .i64 t52] hb57 rfl rfl rfl rfl rfl (by kernel_rfl) rfl rfl ?_
   intro w60 hs61 hb62
   refine wpp fun k h=>?_;go_simp;apply h;clear h k
   refine wln (hK50 _ _ ?_)
   refine wsr fun _ hK63=>?_
   have cl0 := hb62.cell (o := 0) rfl
   have cl1 := hb62.cell (o := 1) rfl
   refine wpp fun k h=>?_;go_simp;apply h;clear h k
   clear cl0 cl1
   refine stw [.int .i64 t51, .int .i64 t52] (hb11.up ((((((hu28.out.sto (Nat.le_trans (Nat.le_refl _) lbb26.out) hs30.out).trans hu46.out).sto (Nat.le_trans ((Nat.le_trans (hu28.out.size) (Nat.le_of_eq hs30.out.size.symm))) lbb44.out) hs48.out).trans hu56.out).trans hu59.out).sto (Nat.le_trans ((Nat.le_trans ((Nat.le_trans ((Nat.le_trans ((Nat.le_trans (hu28.out.size) (Nat.le_of_eq hs30.out.size.symm))) hu46.out.size)) (Nat.le_of_eq hs48.out.size.symm))) hu56.out.size)) lbb57.out) hs61.out)) rfl rfl rfl rfl rfl (by kernel_rfl) rfl rfl ?_
   intro w64 hs65 hb66
   refine wln (hK63 _ _ ?_)
   refine wp_ret ?_
   refine hQf _ _ _ ?_
   have cr0 := hb66.cell (o := 0) rfl
   have cr1 := hb66.cell (o := 1) rfl
   exact bodyPost_ret (v := .agg #[.int .i64 t51, .int .i64 t52]) (by first|rfl|simp [results, Tryz.results96, go_sem, cr0, cr1]<;>rfl) rfl ⟨rfl, (((((((((((hu4.out.trans hu7.out).trans hu10.out).trans hu13.out).trans hu28.out).sto (Nat.le_trans ((Nat.le_trans ((Nat.le_trans ((Nat.le_trans (hu4.out.size) hu7.out.size)) hu10.out.size)) hu13.out.size)) lbb26.out) hs30.out).trans hu46.out).sto (Nat.le_trans ((Nat.le_trans ((Nat.le_trans ((Nat.le_trans ((Nat.le_trans ((Nat.le_trans (hu4.out.size) hu7.out.size)) hu10.out.size)) hu13.out.size)) hu28.out.size)) (Nat.le_of_eq hs30.out.size.symm))) lbb44.out) hs48.out).trans hu56.out).trans hu59.out).sto (Nat.le_trans ((Nat.le_trans ((Nat.le_trans ((Nat.le_trans ((Nat.le_trans ((Nat.le_trans ((Nat.le_trans ((Nat.le_trans ((Nat.le_trans (hu4.out.size) hu7.out.size)) hu10.out.size)) hu13.out.size)) hu28.out.size)) (Nat.le_of_eq hs30.out.size.symm))) hu46.out.size)) (Nat.le_of_eq hs48.out.size.symm))) hu56.out.size)) lbb57.out) hs61.out).sto (Nat.le_trans ((Nat.le_trans ((Nat.le_trans (hu4.out.size) hu7.out.size)) hu10.out.size)) lbb11.out) hs65.out)⟩

set_option maxHeartbeats 40000000 in
set_option maxRecDepth 100000 in
theorem spec_l06Through.calls (K : Nat) (a0 : Int) (a1 : Int) (a2_0 : Int) (a2_1 : Int) (a3_0 : Int) (a3_1 : Int) (a4_0 : Int) (a4_1 : Int) (r0 : Int) (r1 : Int) (r2 : Int) (w : World)  (h : spec_l06Through.f K a0 a1 a2_0 a2_1 a3_0 a3_1 a4_0 a4_1 = some (r0, r1, r2)) :
    Calls Tryz.prog 40 #[.int .i64 a0, .int .i64 a1, .agg #[.int .i64 a2_0, .int .i64 a2_1], .agg #[.int .i64 a3_0, .int .i64 a3_1], .agg #[.int .i64 a4_0, .int .i64 a4_1]] w fun e w' => e = .returned (.agg #[.int .i64 r0, .int .i64 r1, .int .i64 r2]) ∧ Up w w' := by
 have H : (((spec_l04Circumcentre.f K a0 a1 a2_0 a2_1 a3_0 a3_1 a4_0 a4_1).bind fun (t15, t16) => ((spec_l02Quadrance.f K a0 a1 t15 t16 a2_0 a2_1).bind fun t27 => some (t15, t16, t27))) : Option (Int × Int × Int)) = some (r0, r1, r2) := h
 clear h
 obtain ⟨⟨t15, t16⟩,A17,H⟩:=bnd H;try dsimp only at H
 obtain ⟨t27,A28,H⟩:=bnd H;try dsimp only at H
 simp only [Option.some.injEq, Prod.mk.injEq] at H
 obtain ⟨rfl, rfl, rfl⟩ := H
 go_enter Tryz.func40, Tryz.ntmps40
 refine wp_hide (fun Qf hQf => ?_)
 refine wsr fun _ hK1=>?_
 refine stp (cs := [.int .i64 a2_0, .int .i64 a2_1]) (T := 25) ?_
 intro b2 w3 hu4 lbb2 ltb2 hb2
 simp only[nm]
 refine stp (cs := [.int .i64 a3_0, .int .i64 a3_1]) (T := 25) ?_
 intro b5 w6 hu7 lbb5 ltb5 hb5
 simp only[nm]
 refine stp (cs := [.int .i64 a4_0, .int .i64 a4_1]) (T := 25) ?_
 intro b8 w9 hu10 lbb8 ltb8 hb8
 simp only[nm]
 refine stp (cs := [.int .i64 0, .int .i64 0, .int .i64 0]) (T := 27) ?_
 intro b11 w12 hu13 lbb11 ltb11 hb11
 simp only[nm]
 refine wln (hK1 _ _ ?_)
 refine wsr fun _ hK14=>?_
 iterate 2 (refine wpp fun k h=>?_;go_simp;apply h;clear h k)
 have cl0 := (hb2.up ((hu7.out.trans hu10.out).trans hu13.out)).cell (o := 0) rfl
 have cl1 := (hb2.up ((hu7.out.trans hu10.out).trans hu13.out)).cell (o := 1) rfl
 refine wpp fun k h=>?_;go_simp;apply h;clear h k
 clear cl0 cl1
 have cl0 := (hb5.up (hu10.out.trans hu13.out)).cell (o := 0) rfl
 have cl1 := (hb5.up (hu10.out.trans hu13.out)).cell (o := 1) rfl
 refine wpp fun k h=>?_;go_simp;apply h;clear h k
 clear cl0 cl1
 have cl0 := (hb8.up hu13.out).cell (o := 0) rfl
 have cl1 := (hb8.up hu13.out).cell (o := 1) rfl
 refine wpp fun k h=>?_;go_simp;apply h;clear h k
 clear cl0 cl1
 refine stc (spec_l04Circumcentre.calls K a0 a1 a2_0 a2_1 a3_0 a3_1 a4_0 a4_1 t15 t16 w12  A17.out) ?_
 intro w18 hu19
 simp only[nm]
 refine stp (cs := [.int .i64 0, .int .i64 0]) (T := 25) ?_
 intro b20 w21 hu22 lbb20 ltb20 hb20
 simp only[nm]
 refine stw [.int .i64 t15, .int .i64 t16] hb20 rfl rfl rfl rfl rfl (by kernel_rfl) rfl rfl ?_
 intro w23 hs24 hb25
 refine wln (hK14 _ _ ?_)
 refine wp_seq_k fun K26 hK26=>?_
 refine' wp_region_up 7 [Slot.det _, Slot.det _, Slot.det _, Slot.det _, Slot.det _, Slot.det (.int .i64 t27), Slot.det _] (by kernel_rfl) (by kernel_rfl) ?main
 case main =>
  simp only [List.take_succ_cons, List.take_zero]
  refine wpK_ops rfl (fun w1 hu => ?_) ?_
  · have cl0 := (hb25.up ((Up.refl _).drew.trans hu)).cell (o := 0) rfl
    have cl1 := (hb25.up ((Up.refl _).drew.trans hu)).cell (o := 1) rfl
    go_simp
    first | done | rfl
  simp only[nm]
  refine wpK_ops rfl (fun w1 hu => ?_) ?_
  · clear hu
    go_simp
    first | done | rfl
  simp only[nm]
  refine wpK_ops rfl (fun w1 hu => ?_) ?_
  · clear hu
    go_simp
    first | done | rfl
  simp only[nm]
  refine wpK_ops rfl (fun w1 hu => ?_) ?_
  · have cl0 := (hb25.up ((Up.refl _).drew.trans hu)).cell (o := 0) rfl
    have cl1 := (hb25.up ((Up.refl _).drew.trans hu)).cell (o := 1) rfl
    go_simp
    first | done | rfl
  simp only[nm]
  refine wpK_ops rfl (fun w1 hu => ?_) ?_
  · have cl0 := ((hb2.up (((((hu7.out.trans hu10.out).trans hu13.out).trans hu19.out).trans hu22.out).sto (Nat.le_trans ((Nat.le_trans ((Nat.le_trans ((Nat.le_trans (hu7.out.size) hu10.out.size)) hu13.out.size)) hu19.out.size)) lbb20.out) hs24.out)).up ((Up.refl _).drew.trans hu)).cell (o := 0) rfl
    have cl1 := ((hb2.up (((((hu7.out.trans hu10.out).trans hu13.out).trans hu19.out).trans hu22.out).sto (Nat.le_trans ((Nat.le_trans ((Nat.le_trans ((Nat.le_trans (hu7.out.size) hu10.out.size)) hu13.out.size)) hu19.out.size)) lbb20.out) hs24.out)).up ((Up.refl _).drew.trans hu)).cell (o := 1) rfl
    go_simp
    first | done | rfl
  simp only[nm]
  refine wpK_ops rfl (fun w1 hu => ?_) ?_
  · have hcl := (spec_l02Quadrance.calls K a0 a1 t15 t16 a2_0 a2_1 t27 w1  A28.out)
    clear hu
    replace hcl := Aside0.mk hcl
    go_simp
    exact hcl.out
  simp only[nm]
  refine wpK_ops rfl (fun w1 hu => ?_) ?_
  · clear hu
    go_simp
    first | done | rfl
  simp only[nm]
  refine wpK_nil ?_
  intro w29 hu hap
  simp only [List.drop_succ_cons, List.drop_zero]
  replace hu := (Up.refl _).drew.trans hu
  clear hap
  have hu30 := Aside0.mk hu
  clear hu
  refine stw [.int .i64 t15, .int .i64 t16, .int .i64 t27] (hb11.up (((hu19.out.trans hu22.out).sto (Nat.le_trans (hu19.out.size) lbb20.out) hs24.out).trans hu30.out)) rfl rfl rfl rfl rfl (by kernel_rfl) rfl rfl ?_
  intro w31 hs32 hb33
  refine wln (hK26 _ _ ?_)
  refine wp_ret ?_
  refine hQf _ _ _ ?_
  have cr0 := hb33.cell (o := 0) rfl
  have cr1 := hb33.cell (o := 1) rfl
  have cr2 := hb33.cell (o := 2) rfl
  exact bodyPost_ret (v := .agg #[.int .i64 t15, .int .i64 t16, .int .i64 t27]) (by first|rfl|simp [results, Tryz.results40, go_sem, cr0, cr1, cr2]<;>rfl) rfl ⟨rfl, ((((((((hu4.out.trans hu7.out).trans hu10.out).trans hu13.out).trans hu19.out).trans hu22.out).sto (Nat.le_trans ((Nat.le_trans ((Nat.le_trans ((Nat.le_trans ((Nat.le_trans (hu4.out.size) hu7.out.size)) hu10.out.size)) hu13.out.size)) hu19.out.size)) lbb20.out) hs24.out).trans hu30.out).sto (Nat.le_trans ((Nat.le_trans ((Nat.le_trans (hu4.out.size) hu7.out.size)) hu10.out.size)) lbb11.out) hs32.out)⟩

set_option maxHeartbeats 40000000 in
set_option maxRecDepth 100000 in
theorem spec_CircleThrough.calls (K : Nat) (a0 : Int) (a1 : Int) (a2_0 : Int) (a2_1 : Int) (a3_0 : Int) (a3_1 : Int) (a4_0 : Int) (a4_1 : Int) (r0 : Int) (r1 : Int) (r2 : Int) (r3 : Int) (w : World)  (h : spec_CircleThrough.f K a0 a1 a2_0 a2_1 a3_0 a3_1 a4_0 a4_1 = some (r0, r1, r2, r3)) :
    Calls Tryz.prog 10 #[.int .i64 a0, .int .i64 a1, .agg #[.int .i64 a2_0, .int .i64 a2_1], .agg #[.int .i64 a3_0, .int .i64 a3_1], .agg #[.int .i64 a4_0, .int .i64 a4_1]] w fun e w' => e = .returned (.tuple #[.agg #[.int .i64 r0, .int .i64 r1, .int .i64 r2], .int .i64 r3]) ∧ Up w w' := by
 have H : (((spec_l04Code.f K a0 a1 a2_0 a2_1 a3_0 a3_1 a4_0 a4_1).bind fun t16 => (if (t16 == 0) = true then ((spec_l06Through.f K a0 a1 a2_0 a2_1 a3_0 a3_1 a4_0 a4_1).bind fun (t25, t26, t27) => some (t25, t26, t27, 0)) else some (0, 0, 0, t16))) : Option (Int × Int × Int × Int)) = some (r0, r1, r2, r3) := h
 clear h
 obtain ⟨t16,A17,H⟩:=bnd H;try dsimp only at H
 go_enter Tryz.func10, Tryz.ntmps10
 refine wp_hide (fun Qf hQf => ?_)
 refine wsr fun _ hK1=>?_
 refine stp (cs := [.int .i64 a2_0, .int .i64 a2_1]) (T := 25) ?_
 intro b2 w3 hu4 lbb2 ltb2 hb2
 simp only[nm]
 refine stp (cs := [.int .i64 a3_0, .int .i64 a3_1]) (T := 25) ?_
 intro b5 w6 hu7 lbb5 ltb5 hb5
 simp only[nm]
 refine stp (cs := [.int .i64 a4_0, .int .i64 a4_1]) (T := 25) ?_
 intro b8 w9 hu10 lbb8 ltb8 hb8
 simp only[nm]
 refine stp (cs := [.int .i64 0, .int .i64 0, .int .i64 0]) (T := 27) ?_
 intro b11 w12 hu13 lbb11 ltb11 hb11
 simp only[nm]
 refine wpp fun k h=>?_;go_simp;apply h;clear h k
 refine wln (hK1 _ _ ?_)
 refine wp_seq_k fun K14 hK14=>?_
 refine wsr fun _ hK15=>?_
 iterate 2 (refine wpp fun k h=>?_;go_simp;apply h;clear h k)
 have cl0 := (hb2.up ((hu7.out.trans hu10.out).trans hu13.out)).cell (o := 0) rfl
 have cl1 := (hb2.up ((hu7.out.trans hu10.out).trans hu13.out)).cell (o := 1) rfl
 refine wpp fun k h=>?_;go_simp;apply h;clear h k
 clear cl0 cl1
 have cl0 := (hb5.up (hu10.out.trans hu13.out)).cell (o := 0) rfl
 have cl1 := (hb5.up (hu10.out.trans hu13.out)).cell (o := 1) rfl
 refine wpp fun k h=>?_;go_simp;apply h;clear h k
 clear cl0 cl1
 have cl0 := (hb8.up hu13.out).cell (o := 0) rfl
 have cl1 := (hb8.up hu13.out).cell (o := 1) rfl
 refine wpp fun k h=>?_;go_simp;apply h;clear h k
 clear cl0 cl1
 refine stc (spec_l04Code.calls K a0 a1 a2_0 a2_1 a3_0 a3_1 a4_0 a4_1 t16 w12  A17.out) ?_
 intro w18 hu19
 simp only[nm]
 refine wpp fun k h=>?_;go_simp;apply h;clear h k
 refine wln (hK15 _ _ ?_)
 refine wsr fun _ hK20=>?_
 iterate 2 (refine wpp fun k h=>?_;go_simp;apply h;clear h k)
 refine wln (hK20 _ _ ?_)
 have hm22 := Aside0.mk ((((hu4.out.trans hu7.out).trans hu10.out).trans hu13.out).trans hu19.out)
 have h23 := (hb2.up (((hu7.out.trans hu10.out).trans hu13.out).trans hu19.out))
 by_cases c21 : (t16 == 0) = true
 rotate_left
 ·
  rw [if_neg c21] at H; replace c21 := Bool.eq_false_iff.mpr c21
  have c21n : (t16 != 0) = true := by rw [bne, c21]; rfl
  have c21p : ¬ t16 = 0 := fun e => by simp [e] at c21
  simp only [Option.some.injEq, Prod.mk.injEq] at H
  obtain ⟨rfl, rfl, rfl, rfl⟩ := H
  try simp only [c21, c21n, Bool.not_true, Bool.not_false]
  refine wp_cond_true rfl ?_
  refine wsr fun _ hK35=>?_
  iterate 2 (refine wpp fun k h=>?_;go_simp;apply h;clear h k)
  refine stw [.int .i64 0, .int .i64 0, .int .i64 0] (hb11.up hu19.out) rfl rfl rfl rfl rfl (by kernel_rfl) rfl rfl ?_
  intro w36 hs37 hb38
  refine wpp fun k h=>?_;go_simp;apply h;clear h k
  refine wln (hK35 _ _ ?_)
  refine wp_ret ?_
  refine hQf _ _ _ ?_
  have cr0 := hb38.cell (o := 0) rfl
  have cr1 := hb38.cell (o := 1) rfl
  have cr2 := hb38.cell (o := 2) rfl
  exact bodyPost_ret (v := .tuple #[.agg #[.int .i64 0, .int .i64 0, .int .i64 0], .int .i64 t16]) (by first|rfl|simp [results, Tryz.results10, go_sem, cr0, cr1, cr2]<;>rfl) rfl ⟨rfl, (hm22.out.sto (Nat.le_trans ((Nat.le_trans ((Nat.le_trans (hu4.out.size) hu7.out.size)) hu10.out.size)) lbb11.out) hs37.out)⟩
 rw [if_pos c21] at H
 have c21n : (t16 != 0) = false := by rw [bne, c21]; rfl
 obtain ⟨⟨t25, t26, t27⟩,A28,H⟩:=bnd H;try dsimp only at H
 simp only [Option.some.injEq, Prod.mk.injEq] at H
 obtain ⟨rfl, rfl, rfl, rfl⟩ := H
 try simp only [c21, c21n, Bool.not_true, Bool.not_false]
 refine wp_cond_false rfl ?_
 refine wp_skip ?_
 refine hK14 _ _ ?_
 refine wsr fun _ hK24=>?_
 iterate 2 (refine wpp fun k h=>?_;go_simp;apply h;clear h k)
 have cl0 := h23.cell (o := 0) rfl
 have cl1 := h23.cell (o := 1) rfl
 refine wpp fun k h=>?_;go_simp;apply h;clear h k
 clear cl0 cl1
 have cl0 := (hb5.up ((hu10.out.trans hu13.out).trans hu19.out)).cell (o := 0) rfl
 have cl1 := (hb5.up ((hu10.out.trans hu13.out).trans hu19.out)).cell (o := 1) rfl
 refine wpp fun k h=>?_;go_simp;apply h;clear h k
 clear cl0 cl1
 have cl0 := (hb8.up (hu13.out.trans hu19.out)).cell (o := 0) rfl
 have cl1 := (hb8.up (hu13.out.trans hu19.out)).cell (o := 1) rfl
 refine wpp fun k h=>?_;go_simp;apply h;clear h k
 clear cl0 cl1
 refine stc (spec_l06Through.calls K a0 a1 a2_0 a2_1 a3_0 a3_1 a4_0 a4_1 t25 t26 t27 w18  A28.out) ?_
 intro w29 hu30
 simp only[nm]
 refine stw [.int .i64 t25, .int .i64 t26, .int .i64 t27] (hb11.up (hu19.out.trans hu30.out)) rfl rfl rfl rfl rfl (by kernel_rfl) rfl rfl ?_
 intro w31 hs32 hb33
 refine wpp fun k h=>?_;go_simp;apply h;clear h k
 refine wln (hK24 _ _ ?_)
 refine wp_ret ?_
 refine hQf _ _ _ ?_
 have cr0 := hb33.cell (o := 0) rfl
 have cr1 := hb33.cell (o := 1) rfl
 have cr2 := hb33.cell (o := 2) rfl
 exact bodyPost_ret (v := .tuple #[.agg #[.int .i64 t25, .int .i64 t26, .int .i64 t27], .int .i64 0]) (by first|rfl|simp [results, Tryz.results10, go_sem, cr0, cr1, cr2]<;>rfl) rfl ⟨rfl, ((hm22.out.trans hu30.out).sto (Nat.le_trans ((Nat.le_trans ((Nat.le_trans (hu4.out.size) hu7.out.size)) hu10.out.size)) lbb11.out) hs32.out)⟩

set_option maxHeartbeats 40000000 in
set_option maxRecDepth 100000 in
theorem spec_l01DrawLine.calls (K : Nat) (ba0 : Nat) (a0_0_A : Option Addr) (a0_0_c : Nat) (a0_0 : List (Int)) (a0_1 : Int) (a0_2 : Int) (a1 : Int) (r0 : Int) (r1 : Int) (r2 : Int) (r3 : Int) (r4 : Int) (w : World) (ha0 : Blk w ba0 [.slice a0_0_A a0_0.length a0_0_c, .int .i64 a0_1, .int .u64 a0_2] 105) (ha0_0 : Rd eU8 w a0_0_A a0_0) (haa0_0 : ∀ k, blk (.slice a0_0_A a0_0.length a0_0_c) = some k → 0 < a0_0.length → k ≠ ba0) (h : spec_l01DrawLine.f K a0_0 a0_1 a0_2 a1 = some (r0, r1, r2, r3, r4)) :
    Calls Tryz.prog 43 #[.pointer (some ⟨ba0, 0, none⟩), .int .i64 a1] w fun e w' => e = .returned (.agg #[.int .i64 r0, .int .i64 r1, .int .i64 r2]) ∧ Blk w' ba0 [.slice a0_0_A a0_0.length a0_0_c, .int .i64 r3, .int .u64 r4] 105 ∧ Grow (.pointer (some ⟨ba0, 0, none⟩)) w w' := by
 have H : (((spec_l01Next.f K a0_0 a0_1 a0_2 (wrap64 (a1 + 1))).bind fun (t7, t8, t9) => (if (t7 == 0) = true then ((spec_l01Next.f K a0_0 t8 t9 a1).bind fun (t18, t19, t20) => some (0, 1, t18, t19, t20)) else ((spec_l01Next.f K a0_0 t8 t9 a1).bind fun (t33, t34, t35) => ((spec_l01Next.f K a0_0 t34 t35 a1).bind fun (t42, t43, t44) => some (1, t33, t42, t43, t44))))) : Option (Int × Int × Int × Int × Int)) = some (r0, r1, r2, r3, r4) := h
 clear h
 obtain ⟨⟨t7, t8, t9⟩,A10,H⟩:=bnd H;try dsimp only at H
 have ltba0 := Aside0.mk ha0.lt
 go_enter Tryz.func43, Tryz.ntmps43
 refine wp_hide (fun Qf hQf => ?_)
 refine wsr fun _ hK1=>?_
 refine stp (cs := [.int .i64 0, .int .i64 0, .int .i64 0]) (T := 31) ?_
 intro b2 w3 hu4 lbb2 ltb2 hb2
 simp only[nm]
 refine wln (hK1 _ _ ?_)
 refine wp_seq_k fun K5 hK5=>?_
 refine wsr fun _ hK6=>?_
 iterate 3 (refine wpp fun k h=>?_;go_simp;apply h;clear h k)
 refine step_call wn (by go_simp <;> rfl) (spec_l01Next.calls K ba0 a0_0_A a0_0_c a0_0 a0_1 a0_2 (wrap64 (a1 + 1)) t7 t8 t9 w3 (ha0.up hu4.out) (ha0_0.up hu4.out) haa0_0 A10.out) ?_
 rintro e w11 ⟨rfl, h12, hs⟩
 have hs13 := Aside0.mk hs
 clear hs
 have h14 := (ha0_0.up hu4.out).growp hs13.out haa0_0
 have h15 := hb2.grow hs13.out (fun k hk e => (Nat.ne_of_lt (Nat.lt_of_lt_of_le ltba0.out lbb2.out)) ((Option.some.inj hk).trans e))
 refine ⟨_, rfl, ?_⟩
 simp only[nm]
 refine wpp fun k h=>?_;go_simp;apply h;clear h k
 refine wln (hK6 _ _ ?_)
 by_cases c16 : (t7 == 0) = true
 ·
  rw [if_pos c16] at H
  have c16n : (t7 != 0) = false := by rw [bne, c16]; rfl
  obtain ⟨⟨t18, t19, t20⟩,A21,H⟩:=bnd H;try dsimp only at H
  simp only [Option.some.injEq, Prod.mk.injEq] at H
  obtain ⟨rfl, rfl, rfl, rfl, rfl⟩ := H
  try simp only [c16, c16n, Bool.not_true, Bool.not_false]
  refine wp_cond_true rfl ?_
  refine wsr fun _ hK17=>?_
  iterate 2 (refine wpp fun k h=>?_;go_simp;apply h;clear h k)
  refine step_call wn (by go_simp <;> rfl) (spec_l01Next.calls K ba0 a0_0_A a0_0_c a0_0 t8 t9 a1 t18 t19 t20 w11 h12 h14 haa0_0 A21.out) ?_
  rintro e w22 ⟨rfl, h23, hs⟩
  have hs24 := Aside0.mk hs
  clear hs
  have h26 := h15.grow hs24.out (fun k hk e => (Nat.ne_of_lt (Nat.lt_of_lt_of_le ltba0.out lbb2.out)) ((Option.some.inj hk).trans e))
  refine ⟨_, rfl, ?_⟩
  simp only[nm]
  refine wpp fun k h=>?_;go_simp;apply h;clear h k
  refine stw [.int .i64 0, .int .i64 1, .int .i64 t18] h26 rfl rfl rfl rfl rfl (by kernel_rfl) rfl rfl ?_
  intro w27 hs28 hb29
  have h30 := h23.sto hs28.out (Nat.ne_of_lt (Nat.lt_of_lt_of_le ltba0.out lbb2.out))
  refine wln (hK17 _ _ ?_)
  refine wp_ret ?_
  refine hQf _ _ _ ?_
  have cr0 := hb29.cell (o := 0) rfl
  have cr1 := hb29.cell (o := 1) rfl
  have cr2 := hb29.cell (o := 2) rfl
  exact bodyPost_ret (v := .agg #[.int .i64 0, .int .i64 1, .int .i64 t18]) (by first|rfl|simp [results, Tryz.results43, go_sem, cr0, cr1, cr2]<;>rfl) rfl ⟨rfl, h30, (Grow.sto_young ((((Grow.refl (.pointer (some ⟨ba0, 0, none⟩)) _).trans (Grow.up hu4.out)).trans hs13.out).trans hs24.out) hs28.out (Nat.le_trans (Nat.le_refl _) lbb2.out))⟩
 rw [if_neg c16] at H; replace c16 := Bool.eq_false_iff.mpr c16
 have c16n : (t7 != 0) = true := by rw [bne, c16]; rfl
 have c16p : ¬ t7 = 0 := fun e => by simp [e] at c16
 obtain ⟨⟨t33, t34, t35⟩,A36,H⟩:=bnd H;try dsimp only at H
 obtain ⟨⟨t42, t43, t44⟩,A45,H⟩:=bnd H;try dsimp only at H
 simp only [Option.some.injEq, Prod.mk.injEq] at H
 obtain ⟨rfl, rfl, rfl, rfl, rfl⟩ := H
 try simp only [c16, c16n, Bool.not_true, Bool.not_false]
 refine wp_cond_false rfl ?_
 refine wp_skip ?_
 refine hK5 _ _ ?_
 refine wsr fun _ hK32=>?_
 iterate 2 (refine wpp fun k h=>?_;go_simp;apply h;clear h k)
 refine step_call wn (by go_simp <;> rfl) (spec_l01Next.calls K ba0 a0_0_A a0_0_c a0_0 t8 t9 a1 t33 t34 t35 w11 h12 h14 haa0_0 A36.out) ?_
 rintro e w37 ⟨rfl, h38, hs⟩
 have hs39 := Aside0.mk hs
 clear hs
 have h40 := h14.growp hs39.out haa0_0
 have h41 := h15.grow hs39.out (fun k hk e => (Nat.ne_of_lt (Nat.lt_of_lt_of_le ltba0.out lbb2.out)) ((Option.some.inj hk).trans e))
 refine ⟨_, rfl, ?_⟩
 simp only[nm]
 iterate 2 (refine wpp fun k h=>?_;go_simp;apply h;clear h k)
 refine step_call wn (by go_simp <;> rfl) (spec_l01Next.calls K ba0 a0_0_A a0_0_c a0_0 t34 t35 a1 t42 t43 t44 w37 h38 h40 haa0_0 A45.out) ?_
 rintro e w46 ⟨rfl, h47, hs⟩
 have hs48 := Aside0.mk hs
 clear hs
 have h50 := h41.grow hs48.out (fun k hk e => (Nat.ne_of_lt (Nat.lt_of_lt_of_le ltba0.out lbb2.out)) ((Option.some.inj hk).trans e))
 refine ⟨_, rfl, ?_⟩
 simp only[nm]
 refine wpp fun k h=>?_;go_simp;apply h;clear h k
 refine stw [.int .i64 1, .int .i64 t33, .int .i64 t42] h50 rfl rfl rfl rfl rfl (by kernel_rfl) rfl rfl ?_
 intro w51 hs52 hb53
 have h54 := h47.sto hs52.out (Nat.ne_of_lt (Nat.lt_of_lt_of_le ltba0.out lbb2.out))
 refine wln (hK32 _ _ ?_)
 refine wp_ret ?_
 refine hQf _ _ _ ?_
 have cr0 := hb53.cell (o := 0) rfl
 have cr1 := hb53.cell (o := 1) rfl
 have cr2 := hb53.cell (o := 2) rfl
 exact bodyPost_ret (v := .agg #[.int .i64 1, .int .i64 t33, .int .i64 t42]) (by first|rfl|simp [results, Tryz.results43, go_sem, cr0, cr1, cr2]<;>rfl) rfl ⟨rfl, h54, (Grow.sto_young (((((Grow.refl (.pointer (some ⟨ba0, 0, none⟩)) _).trans (Grow.up hu4.out)).trans hs13.out).trans hs39.out).trans hs48.out) hs52.out (Nat.le_trans (Nat.le_refl _) lbb2.out))⟩

set_option maxHeartbeats 40000000 in
set_option maxRecDepth 100000 in
theorem spec_DrawMeetLine.calls (K : Nat) (a0_A : Option Addr) (a0_c : Nat) (a0 : List (Int)) (r0 : Int) (r1 : Int) (r2 : Int) (r3 : Int) (r4 : Int) (r5 : Int) (r6 : Int) (r7 : Int) (w : World) (ha0 : Rd eU8 w a0_A a0) (h : spec_DrawMeetLine.f K a0 = some (r0, r1, r2, r3, r4, r5, r6, r7)) :
    Calls Tryz.prog 11 #[.slice a0_A a0.length a0_c] w fun e w' => e = .returned (.tuple #[.int .i64 r0, .int .i64 r1, .agg #[.int .i64 r2, .int .i64 r3, .int .i64 r4], .agg #[.int .i64 r5, .int .i64 r6, .int .i64 r7]]) ∧ Up w w' := by
 have H : (((spec_l01From.f K a0).bind fun (t10, t11) => ((spec_l06With.f K a0).bind fun (t16, t17, t18, t19, t20, t21, t22) => ((spec_TangentAt.f K t16 t17 t18 t19 t20 t21 t22).bind fun (t42, t43, t44, t45) => (if (t45 == 0) = true then ((spec_l01Next.f K a0 t10 t11 2).bind fun (t62, t63, t64) => (if (t62 == 0) = true then some (t16, t17, t18, t19, t20, t42, t43, t44) else ((spec_l01Pick.f K a0 t63 t64 ([3, 5, 7, 3])).bind fun (t102, t103, t104) => ((spec_l01DrawLine.f K a0 t103 t104 t102).bind fun (t113, t114, t115, t116, t117) => some (t16, t17, t18, t19, t20, t113, t114, t115))))) else ((spec_l01Pick.f K a0 t10 t11 ([3, 5, 7, 3])).bind fun (t150, t151, t152) => ((spec_l01DrawLine.f K a0 t151 t152 t150).bind fun (t161, t162, t163, t164, t165) => some (t16, t17, t18, t19, t20, t161, t162, t163))))))) : Option (Int × Int × Int × Int × Int × Int × Int × Int)) = some (r0, r1, r2, r3, r4, r5, r6, r7) := h
 clear h
 obtain ⟨⟨t10, t11⟩,A12,H⟩:=bnd H;try dsimp only at H
 obtain ⟨⟨t16, t17, t18, t19, t20, t21, t22⟩,A23,H⟩:=bnd H;try dsimp only at H
 obtain ⟨⟨t42, t43, t44, t45⟩,A46,H⟩:=bnd H;try dsimp only at H
 go_enter Tryz.func11, Tryz.ntmps11
 refine wp_hide (fun Qf hQf => ?_)
 refine wsr fun _ hK1=>?_
 iterate 2 (refine wpp fun k h=>?_;go_simp;apply h;clear h k)
 refine stp (cs := [.int .i64 0, .int .i64 0, .int .i64 0]) (T := 27) ?_
 intro b2 w3 hu4 lbb2 ltb2 hb2
 simp only[nm]
 refine stp (cs := [.int .i64 0, .int .i64 0, .int .i64 0]) (T := 31) ?_
 intro b5 w6 hu7 lbb5 ltb5 hb5
 simp only[nm]
 refine wln (hK1 _ _ ?_)
 refine wsr fun _ hK8=>?_
 refine wpp fun k h=>?_;go_simp;apply h;clear h k
 refine step_call wn (by go_simp <;> rfl) (spec_l01From.calls K a0_A a0_c a0 t10 t11 w6 (ha0.up (hu4.out.trans hu7.out)) A12.out) ?_
 rintro e w13 ⟨b9, rfl, hb9, lb, hu⟩
 have lbb9 := lb
 have ltb9 := Aside0.mk hb9.lt
 clear lb
 have hu14 := Aside0.mk hu
 clear hu
 refine ⟨_, rfl, ?_⟩
 simp only[nm]
 refine wpp fun k h=>?_;go_simp;apply h;clear h k
 refine wln (hK8 _ _ ?_)
 refine wsr fun _ hK15=>?_
 refine wpp fun k h=>?_;go_simp;apply h;clear h k
 refine stc (spec_l06With.calls K a0_A a0_c a0 t16 t17 t18 t19 t20 t21 t22 w13 (ha0.up ((hu4.out.trans hu7.out).trans hu14.out)) A23.out) ?_
 intro w24 hu25
 simp only[nm]
 iterate 5 (refine wpp fun k h=>?_;go_simp;apply h;clear h k)
 refine stp (cs := [.int .i64 0, .int .i64 0, .int .i64 0]) (T := 27) ?_
 intro b26 w27 hu28 lbb26 ltb26 hb26
 simp only[nm]
 refine stp (cs := [.int .i64 0, .int .i64 0]) (T := 25) ?_
 intro b29 w30 hu31 lbb29 ltb29 hb29
 simp only[nm]
 iterate 2 (refine wpp fun k h=>?_;go_simp;apply h;clear h k)
 refine stw [.int .i64 t18, .int .i64 t19, .int .i64 t20] (hb26.up hu31.out) rfl rfl rfl rfl rfl (by kernel_rfl) rfl rfl ?_
 intro w32 hs33 hb34
 have h35 := hb29.sto hs33.out (Ne.symm (Nat.ne_of_lt (Nat.lt_of_lt_of_le ltb26.out lbb29.out)))
 refine stw [.int .i64 t21, .int .i64 t22] h35 rfl rfl rfl rfl rfl (by kernel_rfl) rfl rfl ?_
 intro w36 hs37 hb38
 have h39 := hb34.sto hs37.out (Nat.ne_of_lt (Nat.lt_of_lt_of_le ltb26.out lbb29.out))
 refine wln (hK15 _ _ ?_)
 refine wp_seq_k fun K40 hK40=>?_
 refine wsr fun _ hK41=>?_
 iterate 2 (refine wpp fun k h=>?_;go_simp;apply h;clear h k)
 have cl0 := h39.cell (o := 0) rfl
 have cl1 := h39.cell (o := 1) rfl
 have cl2 := h39.cell (o := 2) rfl
 refine wpp fun k h=>?_;go_simp;apply h;clear h k
 clear cl0 cl1 cl2
 have cl0 := hb38.cell (o := 0) rfl
 have cl1 := hb38.cell (o := 1) rfl
 refine wpp fun k h=>?_;go_simp;apply h;clear h k
 clear cl0 cl1
 refine stc (spec_TangentAt.calls K t16 t17 t18 t19 t20 t21 t22 t42 t43 t44 t45 w36  A46.out) ?_
 intro w47 hu48
 simp only[nm]
 iterate 3 (refine wpp fun k h=>?_;go_simp;apply h;clear h k)
 refine stp (cs := [.int .i64 0, .int .i64 0, .int .i64 0]) (T := 31) ?_
 intro b49 w50 hu51 lbb49 ltb49 hb49
 simp only[nm]
 refine stw [.int .i64 t42, .int .i64 t43, .int .i64 t44] hb49 rfl rfl rfl rfl rfl (by kernel_rfl) rfl rfl ?_
 intro w52 hs53 hb54
 refine wpp fun k h=>?_;go_simp;apply h;clear h k
 refine wln (hK41 _ _ ?_)
 refine wsr fun _ hK55=>?_
 iterate 3 (refine wpp fun k h=>?_;go_simp;apply h;clear h k)
 have hm57 := Aside0.mk ((((((((((hu4.out.trans hu7.out).trans hu14.out).trans hu25.out).trans hu28.out).trans hu31.out).sto (Nat.le_trans ((Nat.le_trans ((Nat.le_trans ((Nat.le_trans (hu4.out.size) hu7.out.size)) hu14.out.size)) hu25.out.size)) lbb26.out) hs33.out).sto (Nat.le_trans ((Nat.le_trans ((Nat.le_trans ((Nat.le_trans ((Nat.le_trans (hu4.out.size) hu7.out.size)) hu14.out.size)) hu25.out.size)) hu28.out.size)) lbb29.out) hs37.out).trans hu48.out).trans hu51.out).sto (Nat.le_trans ((Nat.le_trans ((Nat.le_trans ((Nat.le_trans ((Nat.le_trans ((Nat.le_trans ((Nat.le_trans ((Nat.le_trans ((Nat.le_trans (hu4.out.size) hu7.out.size)) hu14.out.size)) hu25.out.size)) hu28.out.size)) hu31.out.size)) (Nat.le_of_eq hs33.out.size.symm))) (Nat.le_of_eq hs37.out.size.symm))) hu48.out.size)) lbb49.out) hs53.out)
 have h58 := (hb2.up (((((((((hu7.out.trans hu14.out).trans hu25.out).trans hu28.out).trans hu31.out).sto (Nat.le_trans ((Nat.le_trans ((Nat.le_trans (hu7.out.size) hu14.out.size)) hu25.out.size)) lbb26.out) hs33.out).sto (Nat.le_trans ((Nat.le_trans ((Nat.le_trans ((Nat.le_trans (hu7.out.size) hu14.out.size)) hu25.out.size)) hu28.out.size)) lbb29.out) hs37.out).trans hu48.out).trans hu51.out).sto (Nat.le_trans ((Nat.le_trans ((Nat.le_trans ((Nat.le_trans ((Nat.le_trans ((Nat.le_trans ((Nat.le_trans ((Nat.le_trans (hu7.out.size) hu14.out.size)) hu25.out.size)) hu28.out.size)) hu31.out.size)) (Nat.le_of_eq hs33.out.size.symm))) (Nat.le_of_eq hs37.out.size.symm))) hu48.out.size)) lbb49.out) hs53.out))
 have h59 := (hb5.up ((((((((hu14.out.trans hu25.out).trans hu28.out).trans hu31.out).sto (Nat.le_trans ((Nat.le_trans (hu14.out.size) hu25.out.size)) lbb26.out) hs33.out).sto (Nat.le_trans ((Nat.le_trans ((Nat.le_trans (hu14.out.size) hu25.out.size)) hu28.out.size)) lbb29.out) hs37.out).trans hu48.out).trans hu51.out).sto (Nat.le_trans ((Nat.le_trans ((Nat.le_trans ((Nat.le_trans ((Nat.le_trans ((Nat.le_trans ((Nat.le_trans (hu14.out.size) hu25.out.size)) hu28.out.size)) hu31.out.size)) (Nat.le_of_eq hs33.out.size.symm))) (Nat.le_of_eq hs37.out.size.symm))) hu48.out.size)) lbb49.out) hs53.out))
 have h60 := (hb9.up (((((((hu25.out.trans hu28.out).trans hu31.out).sto (Nat.le_trans (hu25.out.size) lbb26.out) hs33.out).sto (Nat.le_trans ((Nat.le_trans (hu25.out.size) hu28.out.size)) lbb29.out) hs37.out).trans hu48.out).trans hu51.out).sto (Nat.le_trans ((Nat.le_trans ((Nat.le_trans ((Nat.le_trans ((Nat.le_trans ((Nat.le_trans (hu25.out.size) hu28.out.size)) hu31.out.size)) (Nat.le_of_eq hs33.out.size.symm))) (Nat.le_of_eq hs37.out.size.symm))) hu48.out.size)) lbb49.out) hs53.out))
 have h61 := (h39.up ((hu48.out.trans hu51.out).sto (Nat.le_trans (hu48.out.size) lbb49.out) hs53.out))
 by_cases c56 : (t45 == 0) = true
 rotate_left
 ·
  rw [if_neg c56] at H; replace c56 := Bool.eq_false_iff.mpr c56
  have c56n : (t45 != 0) = true := by rw [bne, c56]; rfl
  have c56p : ¬ t45 = 0 := fun e => by simp [e] at c56
  obtain ⟨⟨t150, t151, t152⟩,A153,H⟩:=bnd H;try dsimp only at H
  obtain ⟨⟨t161, t162, t163, t164, t165⟩,A166,H⟩:=bnd H;try dsimp only at H
  simp only [Option.some.injEq, Prod.mk.injEq] at H
  obtain ⟨rfl, rfl, rfl, rfl, rfl, rfl, rfl, rfl⟩ := H
  try simp only [c56, c56n, Bool.not_true, Bool.not_false]
  refine step_no rfl ?_
  simp only[nm]
  refine step_no rfl ?_
  simp only[nm]
  refine step_no rfl ?_
  simp only[nm]
  refine wpp fun k h=>?_;go_simp;apply h;clear h k
  refine wln (hK55 _ _ ?_)
  refine wp_cond_false rfl ?_
  refine wp_skip ?_
  refine hK40 _ _ ?_
  refine wp_seq_k fun K140 hK140=>?_
  have hTT_ : ∀ w_, Up (World.drew w52) w_ → (fun w_ => Blk w_ b26 [.int .i64 t18, .int .i64 t19, .int .i64 t20] 27 ∧ True) w_ := fun w_ hu_ => ⟨h61.up ((Up.refl _).drew.trans hu_), True.intro⟩
  refine' wp_region_mix (fun w_ => Blk w_ b26 [.int .i64 t18, .int .i64 t19, .int .i64 t20] 27 ∧ True) [0, 1, 2, 3, 4] [5, 6, 7, 8, 9, 10, 11] [Slot.pur _, Slot.pur _, Slot.pur _, Slot.pur _, Slot.pur _] (by kernel_rfl) (by kernel_rfl) rfl rfl hTT_ ?main
  case main =>
   simp only [pick, List.drop_succ_cons, List.drop_zero]
   refine wpK_pur rfl hTT_ (fun w1 hT => ?_) ?_
   · clear hT
     go_simp
     first | done | rfl
   simp only[nm]
   refine wpK_pur rfl hTT_ (fun w1 hT => ?_) ?_
   · clear hT
     go_simp
     first | done | rfl
   simp only[nm]
   refine wpK_pur rfl hTT_ (fun w1 hT => ?_) ?_
   · have hB_ := hT.1
     have cl0 := hB_.cell (o := 0) rfl
     have cl1 := hB_.cell (o := 1) rfl
     have cl2 := hB_.cell (o := 2) rfl
     clear hT
     go_simp
     first | done | rfl
   simp only[nm]
   refine wpK_pur rfl hTT_ (fun w1 hT => ?_) ?_
   · clear hT
     go_simp
     first | done | rfl
   simp only[nm]
   refine wpK_pur rfl hTT_ (fun w1 hT => ?_) ?_
   · clear hT
     go_simp
     first | done | rfl
   simp only[nm]
   refine wpK_nil ?_
   intro w145 hu
   replace hu := (Up.refl _).drew.trans hu
   have hu146 := Aside0.mk hu
   clear hu
   refine late_consT ⟨(h61.up hu146.out), True.intro⟩ ?_
   refine step_new (cs := [.int .i64 3, .int .i64 5, .int .i64 7, .int .i64 3]) (T := 2) (f := fun b => .slice (some ⟨b, 0, none⟩) 4 4) rfl (by go_simp <;> rfl) ?_
   intro b147 w148 hu lb hb147
   simp only[nm]
   have lbb147 := Aside0.mk lb
   clear lb
   have hu149 := Aside0.mk hu
   clear hu
   refine wpList_nil ?_
   refine wrapQ_k ?_
   refine late_consT ⟨(h61.up (hu146.out.trans hu149.out)), True.intro⟩ ?_
   refine step_call wn (by go_simp <;> rfl) (spec_l01Pick.calls K b9 a0_A a0_c a0 t10 t11 (some ⟨b147, 0, none⟩) 4 ([3, 5, 7, 3]) t150 t151 t152 w148 (h60.up (hu146.out.trans hu149.out)) (ha0.up ((hm57.out.trans hu146.out).trans hu149.out)) (fun k hk hp => Nat.ne_of_lt (Nat.lt_of_lt_of_le ((ha0.up (hu4.out.trans hu7.out)).blk_lt hp k hk) lbb9.out)) (Rd.of_blk (E := eI) (xs := [3, 5, 7, 3]) (o := 0) hb147 (by simp) (fun j u hu => by rcases j with _ | _ | _ | _ | j <;> simp_all [Enc.flat, eI])) (fun k hk hp e => (Ne.symm (Nat.ne_of_lt (Nat.lt_of_lt_of_le (Nat.lt_of_lt_of_le ltb9.out ((Nat.le_trans ((Nat.le_trans ((Nat.le_trans ((Nat.le_trans ((Nat.le_trans ((Nat.le_trans ((Nat.le_trans ((Nat.le_trans (hu25.out.size) hu28.out.size)) hu31.out.size)) (Nat.le_of_eq hs33.out.size.symm))) (Nat.le_of_eq hs37.out.size.symm))) hu48.out.size)) hu51.out.size)) (Nat.le_of_eq hs53.out.size.symm))) hu146.out.size))) lbb147.out))) ((Option.some.inj hk).trans e)) A153.out) ?_
   rintro e w154 ⟨rfl, h155, hs⟩
   have hs156 := Aside0.mk hs
   clear hs
   have h157 := (h58.up (hu146.out.trans hu149.out)).grow hs156.out (fun k hk e => (Ne.symm (Nat.ne_of_lt (Nat.lt_of_lt_of_le (Nat.lt_of_lt_of_le ltb2.out (hu7.out.size)) lbb9.out))) ((Option.some.inj hk).trans e))
   have h158 := (h59.up (hu146.out.trans hu149.out)).grow hs156.out (fun k hk e => (Ne.symm (Nat.ne_of_lt (Nat.lt_of_lt_of_le ltb5.out lbb9.out))) ((Option.some.inj hk).trans e))
   have h159 := (h61.up (hu146.out.trans hu149.out)).grow hs156.out (fun k hk e => (Nat.ne_of_lt (Nat.lt_of_lt_of_le (Nat.lt_of_lt_of_le ltb9.out (hu25.out.size)) lbb26.out)) ((Option.some.inj hk).trans e))
   refine ⟨_, rfl, ?_⟩
   simp only[nm]
   refine wpList_nil ?_
   refine wrapQ_k ?_
   refine late_consT ⟨h159, True.intro⟩ ?_
   refine step_call wn (by go_simp <;> rfl) (spec_l01DrawLine.calls K b9 a0_A a0_c a0 t151 t152 t150 t161 t162 t163 t164 t165 w154 h155 (ha0.up (((hm57.out.trans hu146.out).trans hu149.out).grow hs156.out (fun k hk => Nat.le_trans ((Nat.le_trans (hu4.out.size) hu7.out.size)) ((fun k hk => Nat.le_trans lbb9.out (Nat.le_of_eq (Option.some.inj hk))) k hk)))) (fun k hk hp => Nat.ne_of_lt (Nat.lt_of_lt_of_le ((ha0.up (hu4.out.trans hu7.out)).blk_lt hp k hk) lbb9.out)) A166.out) ?_
   rintro e w167 ⟨rfl, h168, hs⟩
   have hs169 := Aside0.mk hs
   clear hs
   have h170 := h157.grow hs169.out (fun k hk e => (Ne.symm (Nat.ne_of_lt (Nat.lt_of_lt_of_le (Nat.lt_of_lt_of_le ltb2.out (hu7.out.size)) lbb9.out))) ((Option.some.inj hk).trans e))
   have h171 := h158.grow hs169.out (fun k hk e => (Ne.symm (Nat.ne_of_lt (Nat.lt_of_lt_of_le ltb5.out lbb9.out))) ((Option.some.inj hk).trans e))
   have h172 := h159.grow hs169.out (fun k hk e => (Nat.ne_of_lt (Nat.lt_of_lt_of_le (Nat.lt_of_lt_of_le ltb9.out (hu25.out.size)) lbb26.out)) ((Option.some.inj hk).trans e))
   refine ⟨_, rfl, ?_⟩
   simp only[nm]
   refine wpList_nil ?_
   refine wrapQ_k ?_
   refine late_consT ⟨h172, True.intro⟩ ?_
   refine wpp fun k h=>?_;go_simp;apply h;clear h k
   refine wpList_nil ?_
   refine wrapQ_k ?_
   refine late_consT ⟨h172, True.intro⟩ ?_
   refine wpp fun k h=>?_;go_simp;apply h;clear h k
   refine wpList_nil ?_
   refine wrapQ_k ?_
   refine late_consT ⟨h172, True.intro⟩ ?_
   refine stw [.int .i64 t18, .int .i64 t19, .int .i64 t20] h170 rfl rfl rfl rfl rfl (by kernel_rfl) rfl rfl ?_
   intro w174 hs175 hb176
   have h177 := h171.sto hs175.out (Ne.symm (Nat.ne_of_lt (Nat.lt_of_lt_of_le ltb2.out lbb5.out)))
   have h179 := h172.sto hs175.out (Ne.symm (Nat.ne_of_lt (Nat.lt_of_lt_of_le (Nat.lt_of_lt_of_le ltb2.out ((Nat.le_trans ((Nat.le_trans (hu7.out.size) hu14.out.size)) hu25.out.size))) lbb26.out)))
   refine wpList_nil ?_
   refine wrapQ_k ?_
   refine late_consT ⟨h179, True.intro⟩ ?_
   refine stw [.int .i64 t161, .int .i64 t162, .int .i64 t163] h177 rfl rfl rfl rfl rfl (by kernel_rfl) rfl rfl ?_
   intro w181 hs182 hb183
   have h184 := hb176.sto hs182.out (Nat.ne_of_lt (Nat.lt_of_lt_of_le ltb2.out lbb5.out))
   have h186 := h179.sto hs182.out (Ne.symm (Nat.ne_of_lt (Nat.lt_of_lt_of_le (Nat.lt_of_lt_of_le ltb5.out ((Nat.le_trans (hu14.out.size) hu25.out.size))) lbb26.out)))
   refine wpList_nil ?_
   refine wrapQ_k ?_
   refine late_nilT ⟨h186, True.intro⟩ ?_
   refine hK140 _ _ ?_
   refine wp_ret ?_
   refine hQf _ _ _ ?_
   have cr0 := h184.cell (o := 0) rfl
   have cr1 := h184.cell (o := 1) rfl
   have cr2 := h184.cell (o := 2) rfl
   have cr3 := hb183.cell (o := 0) rfl
   have cr4 := hb183.cell (o := 1) rfl
   have cr5 := hb183.cell (o := 2) rfl
   exact bodyPost_ret (v := .tuple #[.int .i64 t16, .int .i64 t17, .agg #[.int .i64 t18, .int .i64 t19, .int .i64 t20], .agg #[.int .i64 t161, .int .i64 t162, .int .i64 t163]]) (by first|rfl|simp [results, Tryz.results11, go_sem, cr0, cr1, cr2, cr3, cr4, cr5]<;>rfl) rfl ⟨rfl, ((((((hm57.out.trans hu146.out).trans hu149.out).grow hs156.out (fun k hk => Nat.le_trans ((Nat.le_trans (hu4.out.size) hu7.out.size)) ((fun k hk => Nat.le_trans lbb9.out (Nat.le_of_eq (Option.some.inj hk))) k hk))).grow hs169.out (fun k hk => Nat.le_trans ((Nat.le_trans (hu4.out.size) hu7.out.size)) ((fun k hk => Nat.le_trans lbb9.out (Nat.le_of_eq (Option.some.inj hk))) k hk))).sto (Nat.le_trans (Nat.le_refl _) lbb2.out) hs175.out).sto (Nat.le_trans (hu4.out.size) lbb5.out) hs182.out)⟩
 rw [if_pos c56] at H
 have c56n : (t45 != 0) = false := by rw [bne, c56]; rfl
 obtain ⟨⟨t62, t63, t64⟩,A65,H⟩:=bnd H;try dsimp only at H
 try simp only [c56, c56n, Bool.not_true, Bool.not_false]
 refine wpList_step fun k h=>?_;go_simp;apply h;clear h k
 refine step_call rfl (by go_simp <;> rfl) (spec_l01Next.calls K b9 a0_A a0_c a0 t10 t11 2 t62 t63 t64 w52 h60 (ha0.up hm57.out) (fun k hk hp => Nat.ne_of_lt (Nat.lt_of_lt_of_le ((ha0.up (hu4.out.trans hu7.out)).blk_lt hp k hk) lbb9.out)) A65.out) ?_
 rintro e w66 ⟨rfl, h67, hs⟩
 have hs68 := Aside0.mk hs
 clear hs
 have h69 := h58.grow hs68.out (fun k hk e => (Ne.symm (Nat.ne_of_lt (Nat.lt_of_lt_of_le (Nat.lt_of_lt_of_le ltb2.out (hu7.out.size)) lbb9.out))) ((Option.some.inj hk).trans e))
 have h70 := h59.grow hs68.out (fun k hk e => (Ne.symm (Nat.ne_of_lt (Nat.lt_of_lt_of_le ltb5.out lbb9.out))) ((Option.some.inj hk).trans e))
 have h71 := h61.grow hs68.out (fun k hk e => (Nat.ne_of_lt (Nat.lt_of_lt_of_le (Nat.lt_of_lt_of_le ltb9.out (hu25.out.size)) lbb26.out)) ((Option.some.inj hk).trans e))
 have h72 := hb54.grow hs68.out (fun k hk e => (Nat.ne_of_lt (Nat.lt_of_lt_of_le (Nat.lt_of_lt_of_le ltb9.out ((Nat.le_trans ((Nat.le_trans ((Nat.le_trans ((Nat.le_trans ((Nat.le_trans (hu25.out.size) hu28.out.size)) hu31.out.size)) (Nat.le_of_eq hs33.out.size.symm))) (Nat.le_of_eq hs37.out.size.symm))) hu48.out.size))) lbb49.out)) ((Option.some.inj hk).trans e))
 refine ⟨_, rfl, ?_⟩
 simp only[nm]
 refine wpList_step fun k h=>?_;go_simp;apply h;clear h k
 refine wpp fun k h=>?_;go_simp;apply h;clear h k
 refine wln (hK55 _ _ ?_)
 have hm74 := Aside0.mk (hm57.out.grow hs68.out (fun k hk => Nat.le_trans ((Nat.le_trans (hu4.out.size) hu7.out.size)) ((fun k hk => Nat.le_trans lbb9.out (Nat.le_of_eq (Option.some.inj hk))) k hk)))
 by_cases c73 : (t62 == 0) = true
 ·
  rw [if_pos c73] at H
  have c73n : (t62 != 0) = false := by rw [bne, c73]; rfl
  simp only [Option.some.injEq, Prod.mk.injEq] at H
  obtain ⟨rfl, rfl, rfl, rfl, rfl, rfl, rfl, rfl⟩ := H
  try simp only [c73, c73n, Bool.not_true, Bool.not_false]
  refine wp_cond_true rfl ?_
  refine wp_seq_k fun K75 hK75=>?_
  have hTT_ : ∀ w_, Up (World.drew w66) w_ → (fun w_ => Blk w_ b26 [.int .i64 t18, .int .i64 t19, .int .i64 t20] 27 ∧ Blk w_ b49 [.int .i64 t42, .int .i64 t43, .int .i64 t44] 31 ∧ True) w_ := fun w_ hu_ => ⟨h71.up ((Up.refl _).drew.trans hu_), h72.up ((Up.refl _).drew.trans hu_), True.intro⟩
  refine' wp_region_pure (fun w_ => Blk w_ b26 [.int .i64 t18, .int .i64 t19, .int .i64 t20] 27 ∧ Blk w_ b49 [.int .i64 t42, .int .i64 t43, .int .i64 t44] 31 ∧ True) 4 [1, 2, 3] [Slot.det _, Slot.pur _, Slot.pur _, Slot.pur _] (by kernel_rfl) [false, true, true, true] (by kernel_rfl) rfl (by kernel_rfl) (by decide) hTT_ ?main
  case main =>
   simp only [List.take_succ_cons, List.take_zero]
   refine wpK_ops rfl (fun w1 hu => ?_) ?_
   · clear hu
     go_simp
     first | done | rfl
   simp only[nm]
   refine wpK_pur rfl hTT_ (fun w1 hT => ?_) ?_
   · clear hT
     go_simp
     first | done | rfl
   simp only[nm]
   refine wpK_pur rfl hTT_ (fun w1 hT => ?_) ?_
   · have hB_ := hT.1
     have cl0 := hB_.cell (o := 0) rfl
     have cl1 := hB_.cell (o := 1) rfl
     have cl2 := hB_.cell (o := 2) rfl
     clear hT
     go_simp
     first | done | rfl
   simp only[nm]
   refine wpK_pur rfl hTT_ (fun w1 hT => ?_) ?_
   · have hB_ := hT.2.1
     have cl0 := hB_.cell (o := 0) rfl
     have cl1 := hB_.cell (o := 1) rfl
     have cl2 := hB_.cell (o := 2) rfl
     clear hT
     go_simp
     first | done | rfl
   simp only[nm]
   refine wpK_nil ?_
   intro w76 hu hap
   simp only [List.drop_succ_cons, List.drop_zero]
   replace hu := (Up.refl _).drew.trans hu
   clear hap
   have hu77 := Aside0.mk hu
   clear hu
   refine late_consT ⟨(h71.up hu77.out), (h72.up hu77.out), True.intro⟩ ?_
   refine wpp fun k h=>?_;go_simp;apply h;clear h k
   refine wpList_nil ?_
   refine wrapQ_k ?_
   refine late_consT ⟨(h71.up hu77.out), (h72.up hu77.out), True.intro⟩ ?_
   refine wpp fun k h=>?_;go_simp;apply h;clear h k
   refine wpList_nil ?_
   refine wrapQ_k ?_
   refine late_consT ⟨(h71.up hu77.out), (h72.up hu77.out), True.intro⟩ ?_
   refine stw [.int .i64 t18, .int .i64 t19, .int .i64 t20] (h69.up hu77.out) rfl rfl rfl rfl rfl (by kernel_rfl) rfl rfl ?_
   intro w78 hs79 hb80
   have h81 := (h70.up hu77.out).sto hs79.out (Ne.symm (Nat.ne_of_lt (Nat.lt_of_lt_of_le ltb2.out lbb5.out)))
   have h83 := (h71.up hu77.out).sto hs79.out (Ne.symm (Nat.ne_of_lt (Nat.lt_of_lt_of_le (Nat.lt_of_lt_of_le ltb2.out ((Nat.le_trans ((Nat.le_trans (hu7.out.size) hu14.out.size)) hu25.out.size))) lbb26.out)))
   have h84 := (h72.up hu77.out).sto hs79.out (Ne.symm (Nat.ne_of_lt (Nat.lt_of_lt_of_le (Nat.lt_of_lt_of_le ltb2.out ((Nat.le_trans ((Nat.le_trans ((Nat.le_trans ((Nat.le_trans ((Nat.le_trans ((Nat.le_trans ((Nat.le_trans (hu7.out.size) hu14.out.size)) hu25.out.size)) hu28.out.size)) hu31.out.size)) (Nat.le_of_eq hs33.out.size.symm))) (Nat.le_of_eq hs37.out.size.symm))) hu48.out.size))) lbb49.out)))
   refine wpList_nil ?_
   refine wrapQ_k ?_
   refine late_consT ⟨h83, h84, True.intro⟩ ?_
   refine stw [.int .i64 t42, .int .i64 t43, .int .i64 t44] h81 rfl rfl rfl rfl rfl (by kernel_rfl) rfl rfl ?_
   intro w85 hs86 hb87
   have h88 := hb80.sto hs86.out (Nat.ne_of_lt (Nat.lt_of_lt_of_le ltb2.out lbb5.out))
   have h90 := h83.sto hs86.out (Ne.symm (Nat.ne_of_lt (Nat.lt_of_lt_of_le (Nat.lt_of_lt_of_le ltb5.out ((Nat.le_trans (hu14.out.size) hu25.out.size))) lbb26.out)))
   have h91 := h84.sto hs86.out (Ne.symm (Nat.ne_of_lt (Nat.lt_of_lt_of_le (Nat.lt_of_lt_of_le ltb5.out ((Nat.le_trans ((Nat.le_trans ((Nat.le_trans ((Nat.le_trans ((Nat.le_trans ((Nat.le_trans (hu14.out.size) hu25.out.size)) hu28.out.size)) hu31.out.size)) (Nat.le_of_eq hs33.out.size.symm))) (Nat.le_of_eq hs37.out.size.symm))) hu48.out.size))) lbb49.out)))
   refine wpList_nil ?_
   refine wrapQ_k ?_
   refine late_nilT ⟨h90, h91, True.intro⟩ ?_
   refine hK75 _ _ ?_
   refine wp_ret ?_
   refine hQf _ _ _ ?_
   have cr0 := h88.cell (o := 0) rfl
   have cr1 := h88.cell (o := 1) rfl
   have cr2 := h88.cell (o := 2) rfl
   have cr3 := hb87.cell (o := 0) rfl
   have cr4 := hb87.cell (o := 1) rfl
   have cr5 := hb87.cell (o := 2) rfl
   exact bodyPost_ret (v := .tuple #[.int .i64 t16, .int .i64 t17, .agg #[.int .i64 t18, .int .i64 t19, .int .i64 t20], .agg #[.int .i64 t42, .int .i64 t43, .int .i64 t44]]) (by first|rfl|simp [results, Tryz.results11, go_sem, cr0, cr1, cr2, cr3, cr4, cr5]<;>rfl) rfl ⟨rfl, (((hm74.out.trans hu77.out).sto (Nat.le_trans (Nat.le_refl _) lbb2.out) hs79.out).sto (Nat.le_trans (hu4.out.size) lbb5.out) hs86.out)⟩
 rw [if_neg c73] at H; replace c73 := Bool.eq_false_iff.mpr c73
 have c73n : (t62 != 0) = true := by rw [bne, c73]; rfl
 have c73p : ¬ t62 = 0 := fun e => by simp [e] at c73
 obtain ⟨⟨t102, t103, t104⟩,A105,H⟩:=bnd H;try dsimp only at H
 obtain ⟨⟨t113, t114, t115, t116, t117⟩,A118,H⟩:=bnd H;try dsimp only at H
 simp only [Option.some.injEq, Prod.mk.injEq] at H
 obtain ⟨rfl, rfl, rfl, rfl, rfl, rfl, rfl, rfl⟩ := H
 try simp only [c73, c73n, Bool.not_true, Bool.not_false]
 refine wp_cond_false rfl ?_
 refine wp_skip ?_
 refine hK40 _ _ ?_
 refine wp_seq_k fun K92 hK92=>?_
 have hTT_ : ∀ w_, Up (World.drew w66) w_ → (fun w_ => Blk w_ b26 [.int .i64 t18, .int .i64 t19, .int .i64 t20] 27 ∧ True) w_ := fun w_ hu_ => ⟨h71.up ((Up.refl _).drew.trans hu_), True.intro⟩
 refine' wp_region_mix (fun w_ => Blk w_ b26 [.int .i64 t18, .int .i64 t19, .int .i64 t20] 27 ∧ True) [0, 1, 2, 3, 4] [5, 6, 7, 8, 9, 10, 11] [Slot.pur _, Slot.pur _, Slot.pur _, Slot.pur _, Slot.pur _] (by kernel_rfl) (by kernel_rfl) rfl rfl hTT_ ?main
 case main =>
  simp only [pick, List.drop_succ_cons, List.drop_zero]
  refine wpK_pur rfl hTT_ (fun w1 hT => ?_) ?_
  · clear hT
    go_simp
    first | done | rfl
  simp only[nm]
  refine wpK_pur rfl hTT_ (fun w1 hT => ?_) ?_
  · clear hT
    go_simp
    first | done | rfl
  simp only[nm]
  refine wpK_pur rfl hTT_ (fun w1 hT => ?_) ?_
  · have hB_ := hT.1
    have cl0 := hB_.cell (o := 0) rfl
    have cl1 := hB_.cell (o := 1) rfl
    have cl2 := hB_.cell (o := 2) rfl
    clear hT
    go_simp
    first | done | rfl
  simp only[nm]
  refine wpK_pur rfl hTT_ (fun w1 hT => ?_) ?_
  · clear hT
    go_simp
    first | done | rfl
  simp only[nm]
  refine wpK_pur rfl hTT_ (fun w1 hT => ?_) ?_
  · clear hT
    go_simp
    first | done | rfl
  simp only[nm]
  refine wpK_nil ?_
  intro w97 hu
  replace hu := (Up.refl _).drew.trans hu
  have hu98 := Aside0.mk hu
  clear hu
  refine late_consT ⟨(h71.up hu98.out), True.intro⟩ ?_
  refine step_new (cs := [.int .i64 3, .int .i64 5, .int .i64 7, .int .i64 3]) (T := 2) (f := fun b => .slice (some ⟨b, 0, none⟩) 4 4) rfl (by go_simp <;> rfl) ?_
  intro b99 w100 hu lb hb99
  simp only[nm]
  have lbb99 := Aside0.mk lb
  clear lb
  have hu101 := Aside0.mk hu
  clear hu
  refine wpList_nil ?_
  refine wrapQ_k ?_
  refine late_consT ⟨(h71.up (hu98.out.trans hu101.out)), True.intro⟩ ?_
  refine step_call wn (by go_simp <;> rfl) (spec_l01Pick.calls K b9 a0_A a0_c a0 t63 t64 (some ⟨b99, 0, none⟩) 4 ([3, 5, 7, 3]) t102 t103 t104 w100 (h67.up (hu98.out.trans hu101.out)) (ha0.up ((hm74.out.trans hu98.out).trans hu101.out)) (fun k hk hp => Nat.ne_of_lt (Nat.lt_of_lt_of_le ((ha0.up (hu4.out.trans hu7.out)).blk_lt hp k hk) lbb9.out)) (Rd.of_blk (E := eI) (xs := [3, 5, 7, 3]) (o := 0) hb99 (by simp) (fun j u hu => by rcases j with _ | _ | _ | _ | j <;> simp_all [Enc.flat, eI])) (fun k hk hp e => (Ne.symm (Nat.ne_of_lt (Nat.lt_of_lt_of_le (Nat.lt_of_lt_of_le ltb9.out ((Nat.le_trans ((Nat.le_trans ((Nat.le_trans ((Nat.le_trans ((Nat.le_trans ((Nat.le_trans ((Nat.le_trans ((Nat.le_trans ((Nat.le_trans (hu25.out.size) hu28.out.size)) hu31.out.size)) (Nat.le_of_eq hs33.out.size.symm))) (Nat.le_of_eq hs37.out.size.symm))) hu48.out.size)) hu51.out.size)) (Nat.le_of_eq hs53.out.size.symm))) hs68.out.size)) hu98.out.size))) lbb99.out))) ((Option.some.inj hk).trans e)) A105.out) ?_
  rintro e w106 ⟨rfl, h107, hs⟩
  have hs108 := Aside0.mk hs
  clear hs
  have h109 := (h69.up (hu98.out.trans hu101.out)).grow hs108.out (fun k hk e => (Ne.symm (Nat.ne_of_lt (Nat.lt_of_lt_of_le (Nat.lt_of_lt_of_le ltb2.out (hu7.out.size)) lbb9.out))) ((Option.some.inj hk).trans e))
  have h110 := (h70.up (hu98.out.trans hu101.out)).grow hs108.out (fun k hk e => (Ne.symm (Nat.ne_of_lt (Nat.lt_of_lt_of_le ltb5.out lbb9.out))) ((Option.some.inj hk).trans e))
  have h111 := (h71.up (hu98.out.trans hu101.out)).grow hs108.out (fun k hk e => (Nat.ne_of_lt (Nat.lt_of_lt_of_le (Nat.lt_of_lt_of_le ltb9.out (hu25.out.size)) lbb26.out)) ((Option.some.inj hk).trans e))
  refine ⟨_, rfl, ?_⟩
  simp only[nm]
  refine wpList_nil ?_
  refine wrapQ_k ?_
  refine late_consT ⟨h111, True.intro⟩ ?_
  refine step_call wn (by go_simp <;> rfl) (spec_l01DrawLine.calls K b9 a0_A a0_c a0 t103 t104 t102 t113 t114 t115 t116 t117 w106 h107 (ha0.up (((hm74.out.trans hu98.out).trans hu101.out).grow hs108.out (fun k hk => Nat.le_trans ((Nat.le_trans (hu4.out.size) hu7.out.size)) ((fun k hk => Nat.le_trans lbb9.out (Nat.le_of_eq (Option.some.inj hk))) k hk)))) (fun k hk hp => Nat.ne_of_lt (Nat.lt_of_lt_of_le ((ha0.up (hu4.out.trans hu7.out)).blk_lt hp k hk) lbb9.out)) A118.out) ?_
  rintro e w119 ⟨rfl, h120, hs⟩
  have hs121 := Aside0.mk hs
  clear hs
  have h122 := h109.grow hs121.out (fun k hk e => (Ne.symm (Nat.ne_of_lt (Nat.lt_of_lt_of_le (Nat.lt_of_lt_of_le ltb2.out (hu7.out.size)) lbb9.out))) ((Option.some.inj hk).trans e))
  have h123 := h110.grow hs121.out (fun k hk e => (Ne.symm (Nat.ne_of_lt (Nat.lt_of_lt_of_le ltb5.out lbb9.out))) ((Option.some.inj hk).trans e))
  have h124 := h111.grow hs121.out (fun k hk e => (Nat.ne_of_lt (Nat.lt_of_lt_of_le (Nat.lt_of_lt_of_le ltb9.out (hu25.out.size)) lbb26.out)) ((Option.some.inj hk).trans e))
  refine ⟨_, rfl, ?_⟩
  simp only[nm]
  refine wpList_nil ?_
  refine wrapQ_k ?_
  refine late_consT ⟨h124, True.intro⟩ ?_
  refine wpp fun k h=>?_;go_simp;apply h;clear h k
  refine wpList_nil ?_
  refine wrapQ_k ?_
  refine late_consT ⟨h124, True.intro⟩ ?_
  refine wpp fun k h=>?_;go_simp;apply h;clear h k
  refine wpList_nil ?_
  refine wrapQ_k ?_
  refine late_consT ⟨h124, True.intro⟩ ?_
  refine stw [.int .i64 t18, .int .i64 t19, .int .i64 t20] h122 rfl rfl rfl rfl rfl (by kernel_rfl) rfl rfl ?_
  intro w126 hs127 hb128
  have h129 := h123.sto hs127.out (Ne.symm (Nat.ne_of_lt (Nat.lt_of_lt_of_le ltb2.out lbb5.out)))
  have h131 := h124.sto hs127.out (Ne.symm (Nat.ne_of_lt (Nat.lt_of_lt_of_le (Nat.lt_of_lt_of_le ltb2.out ((Nat.le_trans ((Nat.le_trans (hu7.out.size) hu14.out.size)) hu25.out.size))) lbb26.out)))
  refine wpList_nil ?_
  refine wrapQ_k ?_
  refine late_consT ⟨h131, True.intro⟩ ?_
  refine stw [.int .i64 t113, .int .i64 t114, .int .i64 t115] h129 rfl rfl rfl rfl rfl (by kernel_rfl) rfl rfl ?_
  intro w133 hs134 hb135
  have h136 := hb128.sto hs134.out (Nat.ne_of_lt (Nat.lt_of_lt_of_le ltb2.out lbb5.out))
  have h138 := h131.sto hs134.out (Ne.symm (Nat.ne_of_lt (Nat.lt_of_lt_of_le (Nat.lt_of_lt_of_le ltb5.out ((Nat.le_trans (hu14.out.size) hu25.out.size))) lbb26.out)))
  refine wpList_nil ?_
  refine wrapQ_k ?_
  refine late_nilT ⟨h138, True.intro⟩ ?_
  refine hK92 _ _ ?_
  refine wp_ret ?_
  refine hQf _ _ _ ?_
  have cr0 := h136.cell (o := 0) rfl
  have cr1 := h136.cell (o := 1) rfl
  have cr2 := h136.cell (o := 2) rfl
  have cr3 := hb135.cell (o := 0) rfl
  have cr4 := hb135.cell (o := 1) rfl
  have cr5 := hb135.cell (o := 2) rfl
  exact bodyPost_ret (v := .tuple #[.int .i64 t16, .int .i64 t17, .agg #[.int .i64 t18, .int .i64 t19, .int .i64 t20], .agg #[.int .i64 t113, .int .i64 t114, .int .i64 t115]]) (by first|rfl|simp [results, Tryz.results11, go_sem, cr0, cr1, cr2, cr3, cr4, cr5]<;>rfl) rfl ⟨rfl, ((((((hm74.out.trans hu98.out).trans hu101.out).grow hs108.out (fun k hk => Nat.le_trans ((Nat.le_trans (hu4.out.size) hu7.out.size)) ((fun k hk => Nat.le_trans lbb9.out (Nat.le_of_eq (Option.some.inj hk))) k hk))).grow hs121.out (fun k hk => Nat.le_trans ((Nat.le_trans (hu4.out.size) hu7.out.size)) ((fun k hk => Nat.le_trans lbb9.out (Nat.le_of_eq (Option.some.inj hk))) k hk))).sto (Nat.le_trans (Nat.le_refl _) lbb2.out) hs127.out).sto (Nat.le_trans (hu4.out.size) lbb5.out) hs134.out)⟩

set_option maxHeartbeats 40000000 in
set_option maxRecDepth 100000 in
theorem impl_isLine.calls (K : Nat) (a0 : Int) (a1_0 : Int) (a1_1 : Int) (a1_2 : Int) (r0 : Bool) (w : World)  (h : impl_isLine.f K a0 a1_0 a1_1 a1_2 = some (r0)) :
    Calls Tryz.prog 46 #[.int .i64 a0, .agg #[.int .i64 a1_0, .int .i64 a1_1, .int .i64 a1_2]] w fun e w' => e = .returned (.bool r0) ∧ Up w w' := by
 have H : (((impl_areNumbers.f K a0 ([a1_0, a1_1, a1_2])).bind fun t7 => (if t7 = true then (if (a1_0 == 1) = true then some true else (if (a1_0 == 0) = true then some (a1_1 == 1) else some false)) else some false)) : Option (Bool)) = some (r0) := h
 clear h
 obtain ⟨t7,A8,H⟩:=bnd H;try dsimp only at H
 go_enter Tryz.func46, Tryz.ntmps46
 refine wp_hide (fun Qf hQf => ?_)
 refine wsr fun _ hK1=>?_
 refine stp (cs := [.int .i64 a1_0, .int .i64 a1_1, .int .i64 a1_2]) (T := 31) ?_
 intro b2 w3 hu4 lbb2 ltb2 hb2
 simp only[nm]
 refine wpp fun k h=>?_;go_simp;apply h;clear h k
 refine wln (hK1 _ _ ?_)
 refine wp_seq_k fun K5 hK5=>?_
 refine wsr fun _ hK6=>?_
 iterate 2 (refine wpp fun k h=>?_;go_simp;apply h;clear h k)
 refine stc (impl_areNumbers.calls K a0 (some ⟨b2, 0, none⟩) 3 ([a1_0, a1_1, a1_2]) t7 w3 (Rd.of_blk (E := eI) (xs := [a1_0, a1_1, a1_2]) (o := 0) hb2 (by simp) (fun j u hu => by rcases j with _ | _ | _ | j <;> simp_all [Enc.flat, eI])) A8.out) ?_
 intro w9 hu10
 simp only[nm]
 refine wpp fun k h=>?_;go_simp;apply h;clear h k
 refine wln (hK6 _ _ ?_)
 by_cases c11 : (t7) = true
 rotate_left
 ·
  rw [if_neg c11] at H; replace c11 := Bool.eq_false_iff.mpr c11
  subst c11
  obtain rfl := Option.some.inj H
  refine wp_cond_true rfl ?_
  refine wsr fun _ hK15=>?_
  refine wpp fun k h=>?_;go_simp;apply h;clear h k
  refine wln (hK15 _ _ ?_)
  refine wp_ret ?_
  refine hQf _ _ _ ?_
  exact bpr (v := .bool false) ⟨rfl, (hu4.out.trans hu10.out)⟩
 rw [if_pos c11] at H
 subst c11
 refine wp_cond_false rfl ?_
 refine wp_skip ?_
 refine hK5 _ _ ?_
 refine wsr fun _ hK12=>?_
 refine wpp fun k h=>?_;go_simp;apply h;clear h k
 have cl0 := (hb2.up hu10.out).cell (o := 0) rfl
 refine wpp fun k h=>?_;go_simp;apply h;clear h k
 clear cl0
 iterate 2 (refine wpp fun k h=>?_;go_simp;apply h;clear h k)
 by_cases c13 : (a1_0 == 1) = true
 ·
  rw [if_pos c13] at H
  have c13n : (a1_0 != 1) = false := by rw [bne, c13]; rfl
  obtain rfl := Option.some.inj H
  try simp only [c13, c13n, Bool.not_true, Bool.not_false]
  refine step_no rfl ?_
  simp only[nm]
  refine step_no rfl ?_
  simp only[nm]
  refine step_no rfl ?_
  simp only[nm]
  refine step_no rfl ?_
  simp only[nm]
  refine step_no rfl ?_
  simp only[nm]
  refine step_no rfl ?_
  simp only[nm]
  refine step_no rfl ?_
  simp only[nm]
  refine step_no rfl ?_
  simp only[nm]
  iterate 2 (refine wpp fun k h=>?_;go_simp;apply h;clear h k)
  refine wln (hK12 _ _ ?_)
  refine wp_ret ?_
  refine hQf _ _ _ ?_
  exact bpr (v := .bool true) ⟨rfl, (hu4.out.trans hu10.out)⟩
 rw [if_neg c13] at H; replace c13 := Bool.eq_false_iff.mpr c13
 have c13n : (a1_0 != 1) = true := by rw [bne, c13]; rfl
 have c13p : ¬ a1_0 = 1 := fun e => by simp [e] at c13
 try simp only [c13, c13n, Bool.not_true, Bool.not_false]
 refine wpList_step fun k h=>?_;go_simp;apply h;clear h k
 have cl0 := (hb2.up hu10.out).cell (o := 0) rfl
 refine wpList_step fun k h=>?_;go_simp;apply h;clear h k
 clear cl0
 refine wpList_step fun k h=>?_;go_simp;apply h;clear h k
 refine wpList_step fun k h=>?_;go_simp;apply h;clear h k
 by_cases c14 : (a1_0 == 0) = true
 ·
  rw [if_pos c14] at H
  have c14n : (a1_0 != 0) = false := by rw [bne, c14]; rfl
  obtain rfl := Option.some.inj H
  try simp only [c14, c14n, Bool.not_true, Bool.not_false]
  refine wpList_step fun k h=>?_;go_simp;apply h;clear h k
  have cl0 := (hb2.up hu10.out).cell (o := 1) rfl
  refine wpList_step fun k h=>?_;go_simp;apply h;clear h k
  clear cl0
  refine wpList_step fun k h=>?_;go_simp;apply h;clear h k
  refine wpList_step fun k h=>?_;go_simp;apply h;clear h k
  iterate 2 (refine wpp fun k h=>?_;go_simp;apply h;clear h k)
  refine wln (hK12 _ _ ?_)
  refine wp_ret ?_
  refine hQf _ _ _ ?_
  exact bpr (v := .bool (a1_1 == 1)) ⟨rfl, (hu4.out.trans hu10.out)⟩
 rw [if_neg c14] at H; replace c14 := Bool.eq_false_iff.mpr c14
 have c14n : (a1_0 != 0) = true := by rw [bne, c14]; rfl
 have c14p : ¬ a1_0 = 0 := fun e => by simp [e] at c14
 obtain rfl := Option.some.inj H
 try simp only [c14, c14n, Bool.not_true, Bool.not_false]
 refine step_no rfl ?_
 simp only[nm]
 refine step_no rfl ?_
 simp only[nm]
 refine step_no rfl ?_
 simp only[nm]
 refine wpList_step fun k h=>?_;go_simp;apply h;clear h k
 iterate 2 (refine wpp fun k h=>?_;go_simp;apply h;clear h k)
 refine wln (hK12 _ _ ?_)
 refine wp_ret ?_
 refine hQf _ _ _ ?_
 exact bpr (v := .bool false) ⟨rfl, (hu4.out.trans hu10.out)⟩

set_option maxHeartbeats 40000000 in
set_option maxRecDepth 100000 in
theorem impl_MeetLine_1.calls (K : Nat) (bf0 : Nat) (f0_0 : Int) (bf1 : Nat) (f1_0 : Int) (bf2 : Nat) (f2_0 : Int) (f2_1 : Int) (f2_2 : Int) (bf3 : Nat) (f3_0 : Int) (f3_1 : Int) (f3_2 : Int) (r0 : Bool) (w : World) (hf0 : Blk w bf0 [.int .i64 f0_0] 2) (hf1 : Blk w bf1 [.int .i64 f1_0] 2) (hf2 : Blk w bf2 [.int .i64 f2_0, .int .i64 f2_1, .int .i64 f2_2] 27) (hf3 : Blk w bf3 [.int .i64 f3_0, .int .i64 f3_1, .int .i64 f3_2] 31) (h : impl_MeetLine_1.f K f0_0 f1_0 f2_0 f2_1 f2_2 f3_0 f3_1 f3_2 = some (r0)) :
    Calls Tryz.prog 45 #[.pointer (some ⟨bf0, 0, none⟩), .pointer (some ⟨bf1, 0, none⟩), .pointer (some ⟨bf2, 0, none⟩), .pointer (some ⟨bf3, 0, none⟩)] w fun e w' => e = .returned (.bool r0) ∧ Up w w' := by
 have H : (((impl_isColour.f K f0_0).bind fun t3 => (if t3 = true then ((impl_isCircle.f K f1_0 f2_0 f2_1 f2_2).bind fun t8 => (if t8 = true then ((impl_isLine.f K f1_0 f3_0 f3_1 f3_2).bind fun t13 => some t13) else some false)) else some false)) : Option (Bool)) = some (r0) := h
 clear h
 obtain ⟨t3,A4,H⟩:=bnd H;try dsimp only at H
 have ltbf0 := Aside0.mk hf0.lt
 have ltbf1 := Aside0.mk hf1.lt
 have ltbf2 := Aside0.mk hf2.lt
 have ltbf3 := Aside0.mk hf3.lt
 go_enter Tryz.func45, Tryz.ntmps45
 refine wp_hide (fun Qf hQf => ?_)
 refine wsr fun _ hK1=>?_
 refine wpp fun k h=>?_;go_simp;apply h;clear h k
 refine wln (hK1 _ _ ?_)
 refine wsr fun _ hK2=>?_
 have cl0 := hf0.cell (o := 0) rfl
 refine wpp fun k h=>?_;go_simp;apply h;clear h k
 clear cl0
 refine stc (impl_isColour.calls K f0_0 t3 w  A4.out) ?_
 intro w5 hu6
 simp only[nm]
 refine wpp fun k h=>?_;go_simp;apply h;clear h k
 by_cases c7 : (t3) = true
 rotate_left
 ·
  rw [if_neg c7] at H; replace c7 := Bool.eq_false_iff.mpr c7
  subst c7
  obtain rfl := Option.some.inj H
  refine step_no rfl ?_
  simp only[nm]
  refine step_no rfl ?_
  simp only[nm]
  refine step_no rfl ?_
  simp only[nm]
  iterate 2 (refine wpp fun k h=>?_;go_simp;apply h;clear h k)
  refine step_no rfl ?_
  simp only[nm]
  refine step_no rfl ?_
  simp only[nm]
  refine step_no rfl ?_
  simp only[nm]
  iterate 2 (refine wpp fun k h=>?_;go_simp;apply h;clear h k)
  refine wln (hK2 _ _ ?_)
  refine wp_ret ?_
  refine hQf _ _ _ ?_
  exact bpr (v := .bool false) ⟨rfl, hu6.out⟩
 rw [if_pos c7] at H
 subst c7
 obtain ⟨t8,A9,H⟩:=bnd H;try dsimp only at H
 have cl0 := (hf1.up hu6.out).cell (o := 0) rfl
 refine wpList_step fun k h=>?_;go_simp;apply h;clear h k
 clear cl0
 have cl0 := (hf2.up hu6.out).cell (o := 0) rfl
 have cl1 := (hf2.up hu6.out).cell (o := 1) rfl
 have cl2 := (hf2.up hu6.out).cell (o := 2) rfl
 refine wpList_step fun k h=>?_;go_simp;apply h;clear h k
 clear cl0 cl1 cl2
 refine step_call rfl (by go_simp <;> rfl) (impl_isCircle.calls K f1_0 f2_0 f2_1 f2_2 t8 w5  A9.out) ?_
 rintro e w10 ⟨rfl, hu⟩
 have hu11 := Aside0.mk hu
 clear hu
 refine ⟨_, rfl, ?_⟩
 simp only[nm]
 iterate 2 (refine wpp fun k h=>?_;go_simp;apply h;clear h k)
 by_cases c12 : (t8) = true
 rotate_left
 ·
  rw [if_neg c12] at H; replace c12 := Bool.eq_false_iff.mpr c12
  subst c12
  obtain rfl := Option.some.inj H
  refine step_no rfl ?_
  simp only[nm]
  refine step_no rfl ?_
  simp only[nm]
  refine step_no rfl ?_
  simp only[nm]
  iterate 2 (refine wpp fun k h=>?_;go_simp;apply h;clear h k)
  refine wln (hK2 _ _ ?_)
  refine wp_ret ?_
  refine hQf _ _ _ ?_
  exact bpr (v := .bool false) ⟨rfl, (hu6.out.trans hu11.out)⟩
 rw [if_pos c12] at H
 subst c12
 obtain ⟨t13,A14,H⟩:=bnd H;try dsimp only at H
 obtain rfl := Option.some.inj H
 have cl0 := (hf1.up (hu6.out.trans hu11.out)).cell (o := 0) rfl
 refine wpList_step fun k h=>?_;go_simp;apply h;clear h k
 clear cl0
 have cl0 := (hf3.up (hu6.out.trans hu11.out)).cell (o := 0) rfl
 have cl1 := (hf3.up (hu6.out.trans hu11.out)).cell (o := 1) rfl
 have cl2 := (hf3.up (hu6.out.trans hu11.out)).cell (o := 2) rfl
 refine wpList_step fun k h=>?_;go_simp;apply h;clear h k
 clear cl0 cl1 cl2
 refine step_call rfl (by go_simp <;> rfl) (impl_isLine.calls K f1_0 f3_0 f3_1 f3_2 t13 w10  A14.out) ?_
 rintro e w15 ⟨rfl, hu⟩
 have hu16 := Aside0.mk hu
 clear hu
 refine ⟨_, rfl, ?_⟩
 simp only[nm]
 iterate 2 (refine wpp fun k h=>?_;go_simp;apply h;clear h k)
 refine wln (hK2 _ _ ?_)
 refine wp_ret ?_
 refine hQf _ _ _ ?_
 exact bpr (v := .bool t13) ⟨rfl, ((hu6.out.trans hu11.out).trans hu16.out)⟩

set_option maxHeartbeats 40000000 in
set_option maxRecDepth 100000 in
theorem impl_asked__impl_MeetLine_1.calls (K : Nat) (a0 : Int) (bc1_0 : Nat) (c1_0_0 : Int) (bc1_1 : Nat) (c1_1_0 : Int) (bc1_2 : Nat) (c1_2_0 : Int) (c1_2_1 : Int) (c1_2_2 : Int) (bc1_3 : Nat) (c1_3_0 : Int) (c1_3_1 : Int) (c1_3_2 : Int) (r0 : Int) (w : World) (hc1_0 : Blk w bc1_0 [.int .i64 c1_0_0] 2) (hc1_1 : Blk w bc1_1 [.int .i64 c1_1_0] 2) (hc1_2 : Blk w bc1_2 [.int .i64 c1_2_0, .int .i64 c1_2_1, .int .i64 c1_2_2] 27) (hc1_3 : Blk w bc1_3 [.int .i64 c1_3_0, .int .i64 c1_3_1, .int .i64 c1_3_2] 31) (h : impl_asked__impl_MeetLine_1.f K a0 c1_0_0 c1_1_0 c1_2_0 c1_2_1 c1_2_2 c1_3_0 c1_3_1 c1_3_2 = some (r0)) :
    Calls Tryz.prog 26 #[.int .i64 a0, .func (.func 45) #[] #[.pointer (some ⟨bc1_0, 0, none⟩), .pointer (some ⟨bc1_1, 0, none⟩), .pointer (some ⟨bc1_2, 0, none⟩), .pointer (some ⟨bc1_3, 0, none⟩)]] w fun e w' => e = .returned (.int .i64 r0) ∧ Up w w' := by
 have H : (((impl_IsField.f K a0).bind fun t4 => (if t4 = true then ((impl_MeetLine_1.f K c1_0_0 c1_1_0 c1_2_0 c1_2_1 c1_2_2 c1_3_0 c1_3_1 c1_3_2).bind fun t11 => (if t11 = true then some 0 else some 2)) else some 1)) : Option (Int)) = some (r0) := h
 clear h
 obtain ⟨t4,A5,H⟩:=bnd H;try dsimp only at H
 have ltbc1_0 := Aside0.mk hc1_0.lt
 have ltbc1_1 := Aside0.mk hc1_1.lt
 have ltbc1_2 := Aside0.mk hc1_2.lt
 have ltbc1_3 := Aside0.mk hc1_3.lt
 go_enter Tryz.func26, Tryz.ntmps26
 refine wp_hide (fun Qf hQf => ?_)
 refine wsr fun _ hK1=>?_
 refine wpp fun k h=>?_;go_simp;apply h;clear h k
 refine wln (hK1 _ _ ?_)
 refine wp_seq_k fun K2 hK2=>?_
 refine wsr fun _ hK3=>?_
 refine wpp fun k h=>?_;go_simp;apply h;clear h k
 refine stc (impl_IsField.calls K a0 t4 w  A5.out) ?_
 intro w6 hu7
 simp only[nm]
 refine wpp fun k h=>?_;go_simp;apply h;clear h k
 refine wln (hK3 _ _ ?_)
 by_cases c8 : (t4) = true
 rotate_left
 ·
  rw [if_neg c8] at H; replace c8 := Bool.eq_false_iff.mpr c8
  subst c8
  obtain rfl := Option.some.inj H
  refine wp_cond_true rfl ?_
  refine wsr fun _ hK18=>?_
  refine wpp fun k h=>?_;go_simp;apply h;clear h k
  refine wln (hK18 _ _ ?_)
  refine wp_ret ?_
  refine hQf _ _ _ ?_
  exact bpr (v := .int .i64 1) ⟨rfl, hu7.out⟩
 rw [if_pos c8] at H
 subst c8
 obtain ⟨t11,A12,H⟩:=bnd H;try dsimp only at H
 refine wp_cond_false rfl ?_
 refine wp_skip ?_
 refine hK2 _ _ ?_
 refine wp_seq_k fun K9 hK9=>?_
 refine wsr fun _ hK10=>?_
 refine wpp fun k h=>?_;go_simp;apply h;clear h k
 refine stc (impl_MeetLine_1.calls K bc1_0 c1_0_0 bc1_1 c1_1_0 bc1_2 c1_2_0 c1_2_1 c1_2_2 bc1_3 c1_3_0 c1_3_1 c1_3_2 t11 w6 (hc1_0.up hu7.out) (hc1_1.up hu7.out) (hc1_2.up hu7.out) (hc1_3.up hu7.out) A12.out) ?_
 intro w13 hu14
 simp only[nm]
 refine wpp fun k h=>?_;go_simp;apply h;clear h k
 refine wln (hK10 _ _ ?_)
 by_cases c15 : (t11) = true
 rotate_left
 ·
  rw [if_neg c15] at H; replace c15 := Bool.eq_false_iff.mpr c15
  subst c15
  obtain rfl := Option.some.inj H
  refine wp_cond_true rfl ?_
  refine wsr fun _ hK17=>?_
  refine wpp fun k h=>?_;go_simp;apply h;clear h k
  refine wln (hK17 _ _ ?_)
  refine wp_ret ?_
  refine hQf _ _ _ ?_
  exact bpr (v := .int .i64 2) ⟨rfl, (hu7.out.trans hu14.out)⟩
 rw [if_pos c15] at H
 subst c15
 obtain rfl := Option.some.inj H
 refine wp_cond_false rfl ?_
 refine wp_skip ?_
 refine hK9 _ _ ?_
 refine wsr fun _ hK16=>?_
 refine wpp fun k h=>?_;go_simp;apply h;clear h k
 refine wln (hK16 _ _ ?_)
 refine wp_ret ?_
 refine hQf _ _ _ ?_
 exact bpr (v := .int .i64 0) ⟨rfl, (hu7.out.trans hu14.out)⟩

set_option maxHeartbeats 40000000 in
set_option maxRecDepth 100000 in
theorem impl_isOn.calls (K : Nat) (a0 : Int) (a1_0 : Int) (a1_1 : Int) (a2_0 : Int) (a2_1 : Int) (a2_2 : Int) (r0 : Bool) (w : World)  (h : impl_isOn.f K a0 a1_0 a1_1 a2_0 a2_1 a2_2 = some (r0)) :
    Calls Tryz.prog 49 #[.int .i64 a0, .agg #[.int .i64 a1_0, .int .i64 a1_1], .agg #[.int .i64 a2_0, .int .i64 a2_1, .int .i64 a2_2]] w fun e w' => e = .returned (.bool r0) ∧ Up w w' := by
 have H : ((if (a0 == 0) = true then none else some ((Int.tmod (wrap64 ((wrap64 ((wrap64 (a2_0 * a1_0)) + (wrap64 (a2_1 * a1_1)))) + a2_2)) a0) == 0)) : Option (Bool)) = some (r0) := h
 clear h
 go_enter Tryz.func49, Tryz.ntmps49
 refine wp_hide (fun Qf hQf => ?_)
 refine wsr fun _ hK1=>?_
 refine stp (cs := [.int .i64 a1_0, .int .i64 a1_1]) (T := 25) ?_
 intro b2 w3 hu4 lbb2 ltb2 hb2
 simp only[nm]
 refine stp (cs := [.int .i64 a2_0, .int .i64 a2_1, .int .i64 a2_2]) (T := 31) ?_
 intro b5 w6 hu7 lbb5 ltb5 hb5
 simp only[nm]
 refine wpp fun k h=>?_;go_simp;apply h;clear h k
 refine wln (hK1 _ _ ?_)
 refine wsr fun _ hK8=>?_
 refine wpp fun k h=>?_;go_simp;apply h;clear h k
 have cl0 := hb5.cell (o := 0) rfl
 refine wpp fun k h=>?_;go_simp;apply h;clear h k
 clear cl0
 refine wpp fun k h=>?_;go_simp;apply h;clear h k
 have cl0 := (hb2.up hu7.out).cell (o := 0) rfl
 refine wpp fun k h=>?_;go_simp;apply h;clear h k
 clear cl0
 iterate 2 (refine wpp fun k h=>?_;go_simp;apply h;clear h k)
 have cl0 := hb5.cell (o := 1) rfl
 refine wpp fun k h=>?_;go_simp;apply h;clear h k
 clear cl0
 refine wpp fun k h=>?_;go_simp;apply h;clear h k
 have cl0 := (hb2.up hu7.out).cell (o := 1) rfl
 refine wpp fun k h=>?_;go_simp;apply h;clear h k
 clear cl0
 iterate 3 (refine wpp fun k h=>?_;go_simp;apply h;clear h k)
 have cl0 := hb5.cell (o := 2) rfl
 refine wpp fun k h=>?_;go_simp;apply h;clear h k
 clear cl0
 iterate 2 (refine wpp fun k h=>?_;go_simp;apply h;clear h k)
 by_cases c9 : (a0 == 0) = true
 ·
  rw [if_pos c9] at H
  have c9n : (a0 != 0) = false := by rw [bne, c9]; rfl
  exact absurd H (by simp)
 rw [if_neg c9] at H; replace c9 := Bool.eq_false_iff.mpr c9
 have c9n : (a0 != 0) = true := by rw [bne, c9]; rfl
 have c9p : ¬ a0 = 0 := fun e => by simp [e] at c9
 obtain rfl := Option.some.inj H
 try simp only [c9, c9n, Bool.not_true, Bool.not_false]
 iterate 3 (refine wpp fun k h=>?_;go_simp;apply h;clear h k)
 refine wln (hK8 _ _ ?_)
 refine wp_ret ?_
 refine hQf _ _ _ ?_
 exact bpr (v := .bool ((Int.tmod (wrap64 ((wrap64 ((wrap64 (a2_0 * a1_0)) + (wrap64 (a2_1 * a1_1)))) + a2_2)) a0) == 0)) ⟨rfl, (hu4.out.trans hu7.out)⟩

set_option maxHeartbeats 40000000 in
set_option maxRecDepth 100000 in
theorem impl_MeetLine_2.calls (K : Nat) (a0_0 : Int) (a0_1 : Int) (bf0 : Nat) (f0_0 : Int) (bf1 : Nat) (f1_0 : Int) (f1_1 : Int) (f1_2 : Int) (bf2 : Nat) (f2_0 : Int) (bf3 : Nat) (f3_0 : Int) (f3_1 : Int) (f3_2 : Int) (r0 : Bool) (w : World) (hf0 : Blk w bf0 [.int .i64 f0_0] 2) (hf1 : Blk w bf1 [.int .i64 f1_0, .int .i64 f1_1, .int .i64 f1_2] 31) (hf2 : Blk w bf2 [.int .i64 f2_0] 2) (hf3 : Blk w bf3 [.int .i64 f3_0, .int .i64 f3_1, .int .i64 f3_2] 27) (h : impl_MeetLine_2.f K a0_0 a0_1 f0_0 f1_0 f1_1 f1_2 f2_0 f3_0 f3_1 f3_2 = some (r0)) :
    Calls Tryz.prog 48 #[.agg #[.int .i64 a0_0, .int .i64 a0_1], .pointer (some ⟨bf0, 0, none⟩), .pointer (some ⟨bf1, 0, none⟩), .pointer (some ⟨bf2, 0, none⟩), .pointer (some ⟨bf3, 0, none⟩)] w fun e w' => e = .returned (.bool r0) ∧ Up w w' := by
 have H : (((impl_isOn.f K f0_0 a0_0 a0_1 f1_0 f1_1 f1_2).bind fun t6 => (if t6 = true then ((impl_power.f K f0_0 f2_0 f3_0 f3_1 f3_2 a0_0 a0_1).bind fun t11 => some (t11 == 0)) else some false)) : Option (Bool)) = some (r0) := h
 clear h
 obtain ⟨t6,A7,H⟩:=bnd H;try dsimp only at H
 have ltbf0 := Aside0.mk hf0.lt
 have ltbf1 := Aside0.mk hf1.lt
 have ltbf2 := Aside0.mk hf2.lt
 have ltbf3 := Aside0.mk hf3.lt
 go_enter Tryz.func48, Tryz.ntmps48
 refine wp_hide (fun Qf hQf => ?_)
 refine wsr fun _ hK1=>?_
 refine stp (cs := [.int .i64 a0_0, .int .i64 a0_1]) (T := 25) ?_
 intro b2 w3 hu4 lbb2 ltb2 hb2
 simp only[nm]
 refine wpp fun k h=>?_;go_simp;apply h;clear h k
 refine wln (hK1 _ _ ?_)
 refine wsr fun _ hK5=>?_
 have cl0 := (hf0.up hu4.out).cell (o := 0) rfl
 refine wpp fun k h=>?_;go_simp;apply h;clear h k
 clear cl0
 have cl0 := hb2.cell (o := 0) rfl
 have cl1 := hb2.cell (o := 1) rfl
 refine wpp fun k h=>?_;go_simp;apply h;clear h k
 clear cl0 cl1
 have cl0 := (hf1.up hu4.out).cell (o := 0) rfl
 have cl1 := (hf1.up hu4.out).cell (o := 1) rfl
 have cl2 := (hf1.up hu4.out).cell (o := 2) rfl
 refine wpp fun k h=>?_;go_simp;apply h;clear h k
 clear cl0 cl1 cl2
 refine stc (impl_isOn.calls K f0_0 a0_0 a0_1 f1_0 f1_1 f1_2 t6 w3  A7.out) ?_
 intro w8 hu9
 simp only[nm]
 refine wpp fun k h=>?_;go_simp;apply h;clear h k
 by_cases c10 : (t6) = true
 rotate_left
 ·
  rw [if_neg c10] at H; replace c10 := Bool.eq_false_iff.mpr c10
  subst c10
  obtain rfl := Option.some.inj H
  refine step_no rfl ?_
  simp only[nm]
  refine step_no rfl ?_
  simp only[nm]
  refine step_no rfl ?_
  simp only[nm]
  refine step_no rfl ?_
  simp only[nm]
  refine step_no rfl ?_
  simp only[nm]
  refine step_no rfl ?_
  simp only[nm]
  iterate 2 (refine wpp fun k h=>?_;go_simp;apply h;clear h k)
  refine wln (hK5 _ _ ?_)
  refine wp_ret ?_
  refine hQf _ _ _ ?_
  exact bpr (v := .bool false) ⟨rfl, (hu4.out.trans hu9.out)⟩
 rw [if_pos c10] at H
 subst c10
 obtain ⟨t11,A12,H⟩:=bnd H;try dsimp only at H
 obtain rfl := Option.some.inj H
 have cl0 := (hf0.up (hu4.out.trans hu9.out)).cell (o := 0) rfl
 refine wpList_step fun k h=>?_;go_simp;apply h;clear h k
 clear cl0
 have cl0 := (hf2.up (hu4.out.trans hu9.out)).cell (o := 0) rfl
 refine wpList_step fun k h=>?_;go_simp;apply h;clear h k
 clear cl0
 have cl0 := (hf3.up (hu4.out.trans hu9.out)).cell (o := 0) rfl
 have cl1 := (hf3.up (hu4.out.trans hu9.out)).cell (o := 1) rfl
 have cl2 := (hf3.up (hu4.out.trans hu9.out)).cell (o := 2) rfl
 refine wpList_step fun k h=>?_;go_simp;apply h;clear h k
 clear cl0 cl1 cl2
 have cl0 := (hb2.up hu9.out).cell (o := 0) rfl
 have cl1 := (hb2.up hu9.out).cell (o := 1) rfl
 refine wpList_step fun k h=>?_;go_simp;apply h;clear h k
 clear cl0 cl1
 refine step_call rfl (by go_simp <;> rfl) (impl_power.calls K f0_0 f2_0 f3_0 f3_1 f3_2 a0_0 a0_1 t11 w8  A12.out) ?_
 rintro e w13 ⟨rfl, hu⟩
 have hu14 := Aside0.mk hu
 clear hu
 refine ⟨_, rfl, ?_⟩
 simp only[nm]
 refine wpList_step fun k h=>?_;go_simp;apply h;clear h k
 iterate 2 (refine wpp fun k h=>?_;go_simp;apply h;clear h k)
 refine wln (hK5 _ _ ?_)
 refine wp_ret ?_
 refine hQf _ _ _ ?_
 exact bpr (v := .bool (t11 == 0)) ⟨rfl, ((hu4.out.trans hu9.out).trans hu14.out)⟩

set_option maxHeartbeats 40000000 in
set_option maxRecDepth 100000 in
theorem impl_pointsWith__impl_MeetLine_2.calls (K : Nat) (a0 : Int) (bc1_0 : Nat) (c1_0_0 : Int) (bc1_1 : Nat) (c1_1_0 : Int) (c1_1_1 : Int) (c1_1_2 : Int) (bc1_2 : Nat) (c1_2_0 : Int) (bc1_3 : Nat) (c1_3_0 : Int) (c1_3_1 : Int) (c1_3_2 : Int) (r0 : List (Int × Int)) (w : World) (hc1_0 : Blk w bc1_0 [.int .i64 c1_0_0] 2) (hc1_1 : Blk w bc1_1 [.int .i64 c1_1_0, .int .i64 c1_1_1, .int .i64 c1_1_2] 31) (hc1_2 : Blk w bc1_2 [.int .i64 c1_2_0] 2) (hc1_3 : Blk w bc1_3 [.int .i64 c1_3_0, .int .i64 c1_3_1, .int .i64 c1_3_2] 27) (h : impl_pointsWith__impl_MeetLine_2.f K a0 c1_0_0 c1_1_0 c1_1_1 c1_1_2 c1_2_0 c1_3_0 c1_3_1 c1_3_2 = some (r0)) :
    Calls Tryz.prog 47 #[.int .i64 a0, .func (.func 48) #[] #[.pointer (some ⟨bc1_0, 0, none⟩), .pointer (some ⟨bc1_1, 0, none⟩), .pointer (some ⟨bc1_2, 0, none⟩), .pointer (some ⟨bc1_3, 0, none⟩)]] w fun e w' => ∃ (Ar0 : Option Addr) (cr0 : Nat), e = .returned (.slice Ar0 r0.length cr0) ∧ Own e2 25 w' w.heap.size (.slice Ar0 r0.length cr0) r0 ∧ Up w w' := by
 have H : (((impl_allPoints.f K a0).bind fun t8 => (impl_pointsWith__impl_MeetLine_2.l0 K c1_0_0 c1_1_0 c1_1_1 c1_1_2 c1_2_0 c1_3_0 c1_3_1 c1_3_2 t8 K 0 ([] : List (Int × Int)))) : Option (List (Int × Int))) = some (r0) := h
 clear h
 obtain ⟨t8,A11,H⟩:=bnd H;try dsimp only at H
 have ltbc1_0 := Aside0.mk hc1_0.lt
 have ltbc1_1 := Aside0.mk hc1_1.lt
 have ltbc1_2 := Aside0.mk hc1_2.lt
 have ltbc1_3 := Aside0.mk hc1_3.lt
 go_enter Tryz.func47, Tryz.ntmps47
 refine wp_hide (fun Qf hQf => ?_)
 refine wsr fun _ hK1=>?_
 refine wpp fun k h=>?_;go_simp;apply h;clear h k
 refine wln (hK1 _ _ ?_)
 refine wsr fun _ hK2=>?_
 refine step_new (cs := []) (T := 25) (f := fun b => .slice (some ⟨b, 0, none⟩) 0 0) rfl (by go_simp <;> rfl) ?_
 intro b3 w4 hu lb hb3
 simp only[nm]
 have lbb3 := Aside0.mk lb
 clear lb
 have hu5 := Aside0.mk hu
 clear hu
 refine wpp fun k h=>?_;go_simp;apply h;clear h k
 refine wln (hK2 _ _ ?_)
 refine wp_seq_k fun K6 hK6=>?_
 refine wsr fun _ hK7=>?_
 refine wpp fun k h=>?_;go_simp;apply h;clear h k
 refine step_call wn (by go_simp <;> rfl) (impl_allPoints.calls K a0 t8 w4  A11.out) ?_
 rintro e w12 ⟨P9, q10, rfl, ht8, hu⟩
 have hu13 := Aside0.mk hu
 clear hu
 refine ⟨_, rfl, ?_⟩
 simp only[nm]
 iterate 2 (refine wpp fun k h=>?_;go_simp;apply h;clear h k)
 refine wln (hK7 _ _ ?_)
 refine wp_block ?_
 have h15 : Own e2 25 w12 w.heap.size (.slice (some ⟨b3, 0, none⟩) ([].length) 0) [] := Own.of_blk (hb3.up hu13.out) lbb3.out rfl (by simp) (by simp [Enc.flat, e2])
 have h16 : Own e2 25 w4 w.heap.size (.slice (some ⟨b3, 0, none⟩) ([].length) 0) [] := Own.of_blk hb3 lbb3.out rfl (by simp) (by simp [Enc.flat, e2])
 have HL24 := Aside0.mk H
 clear H
 go_loopg [12, 5] K (fun kq v12 v5 w' => ∃ (x17 : Int) (x18 : List (Int × Int)) (P19 : Option Addr) (q20 : Nat), v12 = .int .i64 x17 ∧ v5 = .slice P19 x18.length q20 ∧ Aside0 (impl_pointsWith__impl_MeetLine_2.l0 K c1_0_0 c1_1_0 c1_1_1 c1_1_2 c1_2_0 c1_3_0 c1_3_1 c1_3_2 t8 kq x17 x18 = some (r0)) ∧ Aside0 (kq ≤ K) ∧ Aside0 (Up w w') ∧ Aside0 (w12.heap.size ≤ w'.heap.size) ∧ Own e2 25 w' w4.heap.size (.slice P9 t8.length q10) t8 ∧ Own e2 25 w' w.heap.size (.slice P19 x18.length q20) x18 ∧ Aside0 (∀ k l, blk (.slice P19 x18.length q20) = some k → blk (.slice P9 t8.length q10) = some l → k ≠ l))
 case atStart => exact ⟨0, ([] : List (Int × Int)), some ⟨b3, 0, none⟩, 0, (by first | rfl | simp), (by first | rfl | simp), HL24, ⟨Nat.le_refl _⟩, ⟨(hu5.out.trans hu13.out)⟩, ⟨Nat.le_refl _⟩, ht8, h15, ⟨(fun k l hk hl => Nat.ne_of_lt (Nat.lt_of_lt_of_le ((fun k hk => Nat.lt_of_lt_of_le (h16.lt k hk).2 (Nat.le_refl _)) k hk) ((fun k hk => Nat.le_trans (Nat.le_refl _) (ht8.lt k hk).1) l hl)))⟩⟩
 case round =>
  rename_i J30 K31 hJ30 hK31
  obtain ⟨x17, x18, P19, q20, rfl, rfl, HL32, hk29, hu22, hz23, h25, h26, hn27⟩ := hrel
  obtain ⟨w21, rfl⟩ : ∃ wo : World, wo = wr := ⟨_, rfl⟩
  obtain ⟨k28, rfl⟩ | rfl : (∃ k, gk = k + 1) ∨ gk = 0 := by rcases gk with _ | k; exact .inr rfl; exact .inl ⟨k, rfl⟩
  case inr => exact absurd HL32.out (by simp [impl_pointsWith__impl_MeetLine_2.l0])
  have H := HL32.out
  clear HL32
  rw [impl_pointsWith__impl_MeetLine_2.l0] at H
  refine wsr fun _ hK33=>?_
  refine wpp fun k h=>?_;go_simp;apply h;clear h k
  refine wln (hK33 _ _ ?_)
  refine wp_seq_k fun K34 hK34=>?_
  have hm36 := Aside0.mk hu22.out
  by_cases c35 : (decide (x17 < (t8.length : Int))) = true
  rotate_left
  ·
   rw [if_neg c35] at H; replace c35 := Bool.eq_false_iff.mpr c35
   obtain rfl := Option.some.inj H
   try simp only [c35, Bool.not_true, Bool.not_false]
   refine wp_cond_false rfl ?_
   refine wp_exit ?_
   refine hK6 _ _ ?_
   refine wsr fun _ hK76=>?_
   iterate 2 (refine wpp fun k h=>?_;go_simp;apply h;clear h k)
   refine wln (hK76 _ _ ?_)
   refine wp_ret ?_
   refine hQf _ _ _ ?_
   exact bpr (v := .slice P19 x18.length q20) ⟨P19, q20, rfl, (h26.lower (Nat.le_refl _)), hm36.out⟩
  rw [if_pos c35] at H
  obtain ⟨⟨t39, t40⟩,A41,H⟩:=bnd H;try dsimp only at H
  obtain ⟨t52,A53,H⟩:=bnd H;try dsimp only at H
  try simp only [c35, Bool.not_true, Bool.not_false]
  refine wp_cond_true rfl ?_
  refine wp_skip ?_
  refine hK34 _ _ ?_
  refine wp_seq_k fun K37 hK37=>?_
  refine wp_block ?_
  refine wsr fun _ hK38=>?_
  refine step_index e2 (T := 25) wn rfl (by kernel_rfl) (by kernel_rfl) rfl rfl rfl h25.rd A41.out ?_
  intro ad42 hat he
  have he43 := Aside0.mk he
  have hat44 := Aside0.mk hat
  clear he hat
  simp only[nm]
  have cl0 := he43.out 0 _ rfl
  rw [addr_add0] at cl0
  have cl1 : World.cell? _ ⟨ad42.block, ad42.off + 1, none⟩ = some _ := he43.out 1 _ rfl
  refine wpp fun k h=>?_;go_simp;apply h;clear h k
  clear cl0 cl1
  refine stp (cs := [.int .i64 0, .int .i64 0]) (T := 25) ?_
  intro b45 w46 hu47 lbb45 ltb45 hb45
  simp only[nm]
  refine stw [.int .i64 t39, .int .i64 t40] hb45 rfl rfl rfl rfl rfl (by kernel_rfl) rfl rfl ?_
  intro w48 hs49 hb50
  refine wln (hK38 _ _ ?_)
  refine wsr fun _ hK51=>?_
  refine wpp fun k h=>?_;go_simp;apply h;clear h k
  have cl0 := hb50.cell (o := 0) rfl
  have cl1 := hb50.cell (o := 1) rfl
  refine wpp fun k h=>?_;go_simp;apply h;clear h k
  clear cl0 cl1
  refine stc (impl_MeetLine_2.calls K t39 t40 bc1_0 c1_0_0 bc1_1 c1_1_0 c1_1_1 c1_1_2 bc1_2 c1_2_0 bc1_3 c1_3_0 c1_3_1 c1_3_2 t52 w48 (hc1_0.up ((hm36.out.trans hu47.out).sto (Nat.le_trans (hm36.out.size) lbb45.out) hs49.out)) (hc1_1.up ((hm36.out.trans hu47.out).sto (Nat.le_trans (hm36.out.size) lbb45.out) hs49.out)) (hc1_2.up ((hm36.out.trans hu47.out).sto (Nat.le_trans (hm36.out.size) lbb45.out) hs49.out)) (hc1_3.up ((hm36.out.trans hu47.out).sto (Nat.le_trans (hm36.out.size) lbb45.out) hs49.out)) A53.out) ?_
  intro w54 hu55
  simp only[nm]
  refine wln (hK51 _ _ ?_)
  have hm57 := Aside0.mk ((hu47.out.sto (Nat.le_trans (Nat.le_refl _) lbb45.out) hs49.out).trans hu55.out)
  by_cases c56 : (t52) = true
  rotate_left
  ·
   rw [if_neg c56] at H; replace c56 := Bool.eq_false_iff.mpr c56
   subst c56
   have HL75 := Aside0.mk H
   clear H
   refine wp_cond_false rfl ?_
   refine wp_skip ?_
   refine hK37 _ _ ?_
   refine wp_region_lit ?_
   iterate 2 (refine wpp fun k h=>?_;go_simp;apply h;clear h k)
   refine wln (hK31 _ _ ?_)
   go_roundg k28
   case measure => exact Nat.lt_succ_self _
   case rel => exact ⟨wrap64 (x17 + 1), x18, P19, q20, (by first | rfl | simp), (by first | rfl | simp), HL75, ⟨by have := hk29.out; omega⟩, ⟨(hm36.out.trans hm57.out)⟩, ⟨(Nat.le_trans ((Nat.le_trans (Nat.le_refl _) hz23.out)) hm57.out.size)⟩, (h25.up hm57.out), (h26.up hm57.out), ⟨hn27.out⟩⟩
  rw [if_pos c56] at H
  subst c56
  refine wp_cond_true rfl ?_
  refine wp_region_lit ?_
  refine wpp fun k h=>?_;go_simp;apply h;clear h k
  have cl0 := (hb50.up hu55.out).cell (o := 0) rfl
  have cl1 := (hb50.up hu55.out).cell (o := 1) rfl
  refine wpp fun k h=>?_;go_simp;apply h;clear h k
  clear cl0 cl1
  refine step_new (cs := [.int .i64 t39, .int .i64 t40]) (T := 25) (f := fun b => .slice (some ⟨b, 0, none⟩) 1 1) rfl (by go_simp <;> rfl) ?_
  intro b58 w59 hu lb hb58
  simp only[nm]
  clear lb
  have hu60 := Aside0.mk hu
  clear hu
  have hm62 := Aside0.mk (Nat.le_trans ((Nat.le_trans ((Nat.le_trans (Nat.le_refl _) hz23.out)) hm57.out.size)) hu60.out.size)
  by_cases c61 : (decide (x18.length ≤ 1000000)) = true
  rotate_left
  ·
   rw [if_neg c61] at H; replace c61 := Bool.eq_false_iff.mpr c61
   exact absurd H (by simp)
  rw [if_pos c61] at H
  have HL74 := Aside0.mk H
  clear H
  try simp only [c61, Bool.not_true, Bool.not_false]
  have hO0 := Aside0.mk (h26.up (hm57.out.trans hu60.out))
  refine step_append e2 (z := .agg #[.int .i64 0, .int .i64 0]) (bytes := 16) (base := w.heap.size) (xs := x18) (ys := [(t39, t40)]) wn _ _ rfl rfl (by kernel_rfl) rfl (by decide) rfl rfl rfl hO0.out (Rd.of_blk (E := e2) (xs := [(t39, t40)]) (o := 0) hb58 (by simp) (fun j u hu => by rcases j with _ | _ | j <;> simp_all [Enc.flat, e2])) ((Nat.le_trans ((Nat.le_trans (hm36.out.size) hm57.out.size)) hu60.out.size)) (by have h0_ := (of_decide_eq_true (by assumption) : x18.length ≤ 1000000); (try simp only [List.length_cons, List.length_nil]); omega) ?_
  intro P63 q64 w65 h67 hg hat
  have hg68 := Aside0.mk hg
  have hat69 := Aside0.mk hat
  simp only[nm]
  have lb70 := Aside0.mk hO0.out.lt
  clear hO0 hg hat
  have h71 := (h25.up (hm57.out.trans hu60.out)).grow hg68.out hn27.out
  refine wpp fun k h=>?_;go_simp;apply h;clear h k
  refine wln (hK37 _ _ ?_)
  refine wp_region_lit ?_
  iterate 2 (refine wpp fun k h=>?_;go_simp;apply h;clear h k)
  refine wln (hK31 _ _ ?_)
  go_roundg k28
  case measure => exact Nat.lt_succ_self _
  case rel => exact ⟨wrap64 (x17 + 1), (x18 ++ [(t39, t40)]), P63, q64, (by first | rfl | simp), (by first | rfl | simp), HL74, ⟨by have := hk29.out; omega⟩, ⟨(((hm36.out.trans hm57.out).trans hu60.out).grow hg68.out (fun k hk => Nat.le_trans (Nat.le_refl _) ((fun k hk => (lb70.out k hk).1) k hk)))⟩, ⟨(Nat.le_trans (hm62.out) hg68.out.size)⟩, h71, h67, ⟨(fun k l hk hl => hat69.out.elim (fun e => hn27.out k l (e.symm.trans hk) hl) (fun g => Nat.ne_of_gt (Nat.lt_of_lt_of_le ((fun k hk => Nat.lt_of_lt_of_le (ht8.lt k hk).2 (hm62.out)) l hl) (g k hk))))⟩⟩

set_option maxHeartbeats 40000000 in
set_option maxRecDepth 100000 in
theorem impl_MeetLine.calls (K : Nat) (a0 : Int) (a1 : Int) (a2_0 : Int) (a2_1 : Int) (a2_2 : Int) (a3_0 : Int) (a3_1 : Int) (a3_2 : Int) (r0 : List (Int × Int)) (r1 : Int) (w : World)  (h : impl_MeetLine.f K a0 a1 a2_0 a2_1 a2_2 a3_0 a3_1 a3_2 = some (r0, r1)) :
    Calls Tryz.prog 12 #[.int .i64 a0, .int .i64 a1, .agg #[.int .i64 a2_0, .int .i64 a2_1, .int .i64 a2_2], .agg #[.int .i64 a3_0, .int .i64 a3_1, .int .i64 a3_2]] w fun e w' => ∃ (Ar0 : Option Addr) (cr0 : Nat), e = .returned (.tuple #[.slice Ar0 r0.length cr0, .int .i64 r1]) ∧ Own e2 25 w' w.heap.size (.slice Ar0 r0.length cr0) r0 ∧ Up w w' := by
 have H : (((impl_asked__impl_MeetLine_1.f K a0 a1 a0 a2_0 a2_1 a2_2 a3_0 a3_1 a3_2).bind fun t16 => (if (t16 == 0) = true then ((impl_pointsWith__impl_MeetLine_2.f K a0 a0 a3_0 a3_1 a3_2 a1 a2_0 a2_1 a2_2).bind fun t25 => some (t25, 0)) else some ([], t16))) : Option (List (Int × Int) × Int)) = some (r0, r1) := h
 clear h
 obtain ⟨t16,A17,H⟩:=bnd H;try dsimp only at H
 go_enter Tryz.func12, Tryz.ntmps12
 refine wp_hide (fun Qf hQf => ?_)
 refine wsr fun _ hK1=>?_
 refine stp (cs := [.int .i64 a0]) (T := 2) ?_
 intro b2 w3 hu4 lbb2 ltb2 hb2
 simp only[nm]
 refine stp (cs := [.int .i64 a1]) (T := 2) ?_
 intro b5 w6 hu7 lbb5 ltb5 hb5
 simp only[nm]
 refine stp (cs := [.int .i64 a2_0, .int .i64 a2_1, .int .i64 a2_2]) (T := 27) ?_
 intro b8 w9 hu10 lbb8 ltb8 hb8
 simp only[nm]
 refine stp (cs := [.int .i64 a3_0, .int .i64 a3_1, .int .i64 a3_2]) (T := 31) ?_
 intro b11 w12 hu13 lbb11 ltb11 hb11
 simp only[nm]
 iterate 2 (refine wpp fun k h=>?_;go_simp;apply h;clear h k)
 refine wln (hK1 _ _ ?_)
 refine wp_seq_k fun K14 hK14=>?_
 refine wsr fun _ hK15=>?_
 have cl0 := (hb2.up ((hu7.out.trans hu10.out).trans hu13.out)).cell (o := 0) rfl
 refine wpp fun k h=>?_;go_simp;apply h;clear h k
 clear cl0
 refine wpp fun k h=>?_;go_simp;apply h;clear h k
 refine stc (impl_asked__impl_MeetLine_1.calls K a0 b5 a1 b2 a0 b8 a2_0 a2_1 a2_2 b11 a3_0 a3_1 a3_2 t16 w12 (hb5.up (hu10.out.trans hu13.out)) (hb2.up ((hu7.out.trans hu10.out).trans hu13.out)) (hb8.up hu13.out) hb11 A17.out) ?_
 intro w18 hu19
 simp only[nm]
 refine wpp fun k h=>?_;go_simp;apply h;clear h k
 refine wln (hK15 _ _ ?_)
 refine wsr fun _ hK20=>?_
 iterate 2 (refine wpp fun k h=>?_;go_simp;apply h;clear h k)
 refine wln (hK20 _ _ ?_)
 have hm22 := Aside0.mk ((((hu4.out.trans hu7.out).trans hu10.out).trans hu13.out).trans hu19.out)
 have h23 := (hb2.up (((hu7.out.trans hu10.out).trans hu13.out).trans hu19.out))
 by_cases c21 : (t16 == 0) = true
 rotate_left
 ·
  rw [if_neg c21] at H; replace c21 := Bool.eq_false_iff.mpr c21
  have c21n : (t16 != 0) = true := by rw [bne, c21]; rfl
  have c21p : ¬ t16 = 0 := fun e => by simp [e] at c21
  simp only [Option.some.injEq, Prod.mk.injEq] at H
  obtain ⟨rfl, rfl⟩ := H
  try simp only [c21, c21n, Bool.not_true, Bool.not_false]
  refine wp_cond_true rfl ?_
  refine wsr fun _ hK31=>?_
  iterate 3 (refine wpp fun k h=>?_;go_simp;apply h;clear h k)
  refine wln (hK31 _ _ ?_)
  refine wp_ret ?_
  have h33 : Own e2 25 w18 w18.heap.size (.slice none ([] : List (Int × Int)).length 0) [] := Own.nil
  refine hQf _ _ _ ?_
  exact bpr (v := .tuple #[.slice none 0 0, .int .i64 t16]) ⟨none, 0, rfl, (h33.lower (hm22.out.size)), hm22.out⟩
 rw [if_pos c21] at H
 have c21n : (t16 != 0) = false := by rw [bne, c21]; rfl
 obtain ⟨t25,A28,H⟩:=bnd H;try dsimp only at H
 simp only [Option.some.injEq, Prod.mk.injEq] at H
 obtain ⟨rfl, rfl⟩ := H
 try simp only [c21, c21n, Bool.not_true, Bool.not_false]
 refine wp_cond_false rfl ?_
 refine wp_skip ?_
 refine hK14 _ _ ?_
 refine wsr fun _ hK24=>?_
 have cl0 := h23.cell (o := 0) rfl
 refine wpp fun k h=>?_;go_simp;apply h;clear h k
 clear cl0
 refine wpp fun k h=>?_;go_simp;apply h;clear h k
 refine step_call wn (by go_simp <;> rfl) (impl_pointsWith__impl_MeetLine_2.calls K a0 b2 a0 b11 a3_0 a3_1 a3_2 b5 a1 b8 a2_0 a2_1 a2_2 t25 w18 h23 (hb11.up hu19.out) (hb5.up ((hu10.out.trans hu13.out).trans hu19.out)) (hb8.up (hu13.out.trans hu19.out)) A28.out) ?_
 rintro e w29 ⟨P26, q27, rfl, ht25, hu⟩
 have hu30 := Aside0.mk hu
 clear hu
 refine ⟨_, rfl, ?_⟩
 simp only[nm]
 iterate 2 (refine wpp fun k h=>?_;go_simp;apply h;clear h k)
 refine wln (hK24 _ _ ?_)
 refine wp_ret ?_
 refine hQf _ _ _ ?_
 exact bpr (v := .tuple #[.slice P26 t25.length q27, .int .i64 0]) ⟨P26, q27, rfl, (ht25.lower (hm22.out.size)), (hm22.out.trans hu30.out)⟩

set_option maxHeartbeats 40000000 in
set_option maxRecDepth 100000 in
theorem spec_l01Line.calls (K : Nat) (a0 : Int) (a1_0 : Int) (a1_1 : Int) (a1_2 : Int) (r0 : Bool) (w : World)  (h : spec_l01Line.f K a0 a1_0 a1_1 a1_2 = some (r0)) :
    Calls Tryz.prog 98 #[.int .i64 a0, .agg #[.int .i64 a1_0, .int .i64 a1_1, .int .i64 a1_2]] w fun e w' => e = .returned (.bool r0) ∧ Up w w' := by
 have H : (((spec_l01In.f K a1_0 0 (wrap64 (a0 - 1))).bind fun t6 => (if t6 = true then ((spec_l01In.f K a1_1 0 (wrap64 (a0 - 1))).bind fun t11 => (if t11 = true then ((spec_l01In.f K a1_2 0 (wrap64 (a0 - 1))).bind fun t16 => (if t16 = true then (if (a1_0 == 1) = true then some true else (if (a1_0 == 0) = true then some (a1_1 == 1) else some false)) else some false)) else some false)) else some false)) : Option (Bool)) = some (r0) := h
 clear h
 obtain ⟨t6,A7,H⟩:=bnd H;try dsimp only at H
 go_enter Tryz.func98, Tryz.ntmps98
 refine wp_hide (fun Qf hQf => ?_)
 refine wsr fun _ hK1=>?_
 refine stp (cs := [.int .i64 a1_0, .int .i64 a1_1, .int .i64 a1_2]) (T := 31) ?_
 intro b2 w3 hu4 lbb2 ltb2 hb2
 simp only[nm]
 refine wpp fun k h=>?_;go_simp;apply h;clear h k
 refine wln (hK1 _ _ ?_)
 refine wsr fun _ hK5=>?_
 refine wpp fun k h=>?_;go_simp;apply h;clear h k
 have cl0 := hb2.cell (o := 0) rfl
 refine wpp fun k h=>?_;go_simp;apply h;clear h k
 clear cl0
 iterate 2 (refine wpp fun k h=>?_;go_simp;apply h;clear h k)
 refine stc (spec_l01In.calls K a1_0 0 (wrap64 (a0 - 1)) t6 w3  A7.out) ?_
 intro w8 hu9
 simp only[nm]
 refine wpp fun k h=>?_;go_simp;apply h;clear h k
 by_cases c10 : (t6) = true
 rotate_left
 ·
  rw [if_neg c10] at H; replace c10 := Bool.eq_false_iff.mpr c10
  subst c10
  obtain rfl := Option.some.inj H
  refine step_no rfl ?_
  simp only[nm]
  refine step_no rfl ?_
  simp only[nm]
  refine step_no rfl ?_
  simp only[nm]
  refine step_no rfl ?_
  simp only[nm]
  refine step_no rfl ?_
  simp only[nm]
  iterate 2 (refine wpp fun k h=>?_;go_simp;apply h;clear h k)
  refine step_no rfl ?_
  simp only[nm]
  refine step_no rfl ?_
  simp only[nm]
  refine step_no rfl ?_
  simp only[nm]
  refine step_no rfl ?_
  simp only[nm]
  refine step_no rfl ?_
  simp only[nm]
  iterate 2 (refine wpp fun k h=>?_;go_simp;apply h;clear h k)
  refine step_no rfl ?_
  simp only[nm]
  refine step_no rfl ?_
  simp only[nm]
  refine step_no rfl ?_
  simp only[nm]
  refine step_no rfl ?_
  simp only[nm]
  refine step_no rfl ?_
  simp only[nm]
  refine step_no rfl ?_
  simp only[nm]
  refine step_no rfl ?_
  simp only[nm]
  refine step_no rfl ?_
  simp only[nm]
  refine step_no rfl ?_
  simp only[nm]
  refine step_no rfl ?_
  simp only[nm]
  refine step_no rfl ?_
  simp only[nm]
  refine step_no rfl ?_
  simp only[nm]
  refine step_no rfl ?_
  simp only[nm]
  iterate 2 (refine wpp fun k h=>?_;go_simp;apply h;clear h k)
  refine wln (hK5 _ _ ?_)
  refine wp_ret ?_
  refine hQf _ _ _ ?_
  exact bpr (v := .bool false) ⟨rfl, (hu4.out.trans hu9.out)⟩
 rw [if_pos c10] at H
 subst c10
 obtain ⟨t11,A12,H⟩:=bnd H;try dsimp only at H
 refine wpList_step fun k h=>?_;go_simp;apply h;clear h k
 have cl0 := (hb2.up hu9.out).cell (o := 1) rfl
 refine wpList_step fun k h=>?_;go_simp;apply h;clear h k
 clear cl0
 refine wpList_step fun k h=>?_;go_simp;apply h;clear h k
 refine wpList_step fun k h=>?_;go_simp;apply h;clear h k
 refine step_call rfl (by go_simp <;> rfl) (spec_l01In.calls K a1_1 0 (wrap64 (a0 - 1)) t11 w8  A12.out) ?_
 rintro e w13 ⟨rfl, hu⟩
 have hu14 := Aside0.mk hu
 clear hu
 refine ⟨_, rfl, ?_⟩
 simp only[nm]
 iterate 2 (refine wpp fun k h=>?_;go_simp;apply h;clear h k)
 by_cases c15 : (t11) = true
 rotate_left
 ·
  rw [if_neg c15] at H; replace c15 := Bool.eq_false_iff.mpr c15
  subst c15
  obtain rfl := Option.some.inj H
  refine step_no rfl ?_
  simp only[nm]
  refine step_no rfl ?_
  simp only[nm]
  refine step_no rfl ?_
  simp only[nm]
  refine step_no rfl ?_
  simp only[nm]
  refine step_no rfl ?_
  simp only[nm]
  iterate 2 (refine wpp fun k h=>?_;go_simp;apply h;clear h k)
  refine step_no rfl ?_
  simp only[nm]
  refine step_no rfl ?_
  simp only[nm]
  refine step_no rfl ?_
  simp only[nm]
  refine step_no rfl ?_
  simp only[nm]
  refine step_no rfl ?_
  simp only[nm]
  refine step_no rfl ?_
  simp only[nm]
  refine step_no rfl ?_
  simp only[nm]
  refine step_no rfl ?_
  simp only[nm]
  refine step_no rfl ?_
  simp only[nm]
  refine step_no rfl ?_
  simp only[nm]
  refine step_no rfl ?_
  simp only[nm]
  refine step_no rfl ?_
  simp only[nm]
  refine step_no rfl ?_
  simp only[nm]
  iterate 2 (refine wpp fun k h=>?_;go_simp;apply h;clear h k)
  refine wln (hK5 _ _ ?_)
  refine wp_ret ?_
  refine hQf _ _ _ ?_
  exact bpr (v := .bool false) ⟨rfl, ((hu4.out.trans hu9.out).trans hu14.out)⟩
 rw [if_pos c15] at H
 subst c15
 obtain ⟨t16,A17,H⟩:=bnd H;try dsimp only at H
 refine wpList_step fun k h=>?_;go_simp;apply h;clear h k
 have cl0 := (hb2.up (hu9.out.trans hu14.out)).cell (o := 2) rfl
 refine wpList_step fun k h=>?_;go_simp;apply h;clear h k
 clear cl0
 refine wpList_step fun k h=>?_;go_simp;apply h;clear h k
 refine wpList_step fun k h=>?_;go_simp;apply h;clear h k
 refine step_call rfl (by go_simp <;> rfl) (spec_l01In.calls K a1_2 0 (wrap64 (a0 - 1)) t16 w13  A17.out) ?_
 rintro e w18 ⟨rfl, hu⟩
 have hu19 := Aside0.mk hu
 clear hu
 refine ⟨_, rfl, ?_⟩
 simp only[nm]
 iterate 2 (refine wpp fun k h=>?_;go_simp;apply h;clear h k)
 by_cases c20 : (t16) = true
 rotate_left
 ·
  rw [if_neg c20] at H; replace c20 := Bool.eq_false_iff.mpr c20
  subst c20
  obtain rfl := Option.some.inj H
  refine step_no rfl ?_
  simp only[nm]
  refine step_no rfl ?_
  simp only[nm]
  refine step_no rfl ?_
  simp only[nm]
  refine step_no rfl ?_
  simp only[nm]
  refine step_no rfl ?_
  simp only[nm]
  refine step_no rfl ?_
  simp only[nm]
  refine step_no rfl ?_
  simp only[nm]
  refine step_no rfl ?_
  simp only[nm]
  refine step_no rfl ?_
  simp only[nm]
  refine step_no rfl ?_
  simp only[nm]
  refine step_no rfl ?_
  simp only[nm]
  refine step_no rfl ?_
  simp only[nm]
  refine step_no rfl ?_
  simp only[nm]
  iterate 2 (refine wpp fun k h=>?_;go_simp;apply h;clear h k)
  refine wln (hK5 _ _ ?_)
  refine wp_ret ?_
  refine hQf _ _ _ ?_
  exact bpr (v := .bool false) ⟨rfl, (((hu4.out.trans hu9.out).trans hu14.out).trans hu19.out)⟩
 rw [if_pos c20] at H
 subst c20
 refine wpList_step fun k h=>?_;go_simp;apply h;clear h k
 have cl0 := (hb2.up ((hu9.out.trans hu14.out).trans hu19.out)).cell (o := 0) rfl
 refine wpList_step fun k h=>?_;go_simp;apply h;clear h k
 clear cl0
 refine wpList_step fun k h=>?_;go_simp;apply h;clear h k
 refine wpList_step fun k h=>?_;go_simp;apply h;clear h k
 by_cases c22 : (a1_0 == 1) = true
 ·
  rw [if_pos c22] at H
  have c22n : (a1_0 != 1) = false := by rw [bne, c22]; rfl
  obtain rfl := Option.some.inj H
  try simp only [c22, c22n, Bool.not_true, Bool.not_false]
  refine step_no rfl ?_
  simp only[nm]
  refine step_no rfl ?_
  simp only[nm]
  refine step_no rfl ?_
  simp only[nm]
  refine step_no rfl ?_
  simp only[nm]
  refine step_no rfl ?_
  simp only[nm]
  refine step_no rfl ?_
  simp only[nm]
  refine step_no rfl ?_
  simp only[nm]
  refine step_no rfl ?_
  simp only[nm]
  refine wpList_step fun k h=>?_;go_simp;apply h;clear h k
  iterate 2 (refine wpp fun k h=>?_;go_simp;apply h;clear h k)
  refine wln (hK5 _ _ ?_)
  refine wp_ret ?_
  refine hQf _ _ _ ?_
  exact bpr (v := .bool true) ⟨rfl, (((hu4.out.trans hu9.out).trans hu14.out).trans hu19.out)⟩
 rw [if_neg c22] at H; replace c22 := Bool.eq_false_iff.mpr c22
 have c22n : (a1_0 != 1) = true := by rw [bne, c22]; rfl
 have c22p : ¬ a1_0 = 1 := fun e => by simp [e] at c22
 try simp only [c22, c22n, Bool.not_true, Bool.not_false]
 refine wpList_step fun k h=>?_;go_simp;apply h;clear h k
 have cl0 := (hb2.up ((hu9.out.trans hu14.out).trans hu19.out)).cell (o := 0) rfl
 refine wpList_step fun k h=>?_;go_simp;apply h;clear h k
 clear cl0
 refine wpList_step fun k h=>?_;go_simp;apply h;clear h k
 refine wpList_step fun k h=>?_;go_simp;apply h;clear h k
 by_cases c23 : (a1_0 == 0) = true
 ·
  rw [if_pos c23] at H
  have c23n : (a1_0 != 0) = false := by rw [bne, c23]; rfl
  obtain rfl := Option.some.inj H
  try simp only [c23, c23n, Bool.not_true, Bool.not_false]
  refine wpList_step fun k h=>?_;go_simp;apply h;clear h k
  have cl0 := (hb2.up ((hu9.out.trans hu14.out).trans hu19.out)).cell (o := 1) rfl
  refine wpList_step fun k h=>?_;go_simp;apply h;clear h k
  clear cl0
  refine wpList_step fun k h=>?_;go_simp;apply h;clear h k
  refine wpList_step fun k h=>?_;go_simp;apply h;clear h k
  refine wpList_step fun k h=>?_;go_simp;apply h;clear h k
  iterate 2 (refine wpp fun k h=>?_;go_simp;apply h;clear h k)
  refine wln (hK5 _ _ ?_)
  refine wp_ret ?_
  refine hQf _ _ _ ?_
  exact bpr (v := .bool (a1_1 == 1)) ⟨rfl, (((hu4.out.trans hu9.out).trans hu14.out).trans hu19.out)⟩
 rw [if_neg c23] at H; replace c23 := Bool.eq_false_iff.mpr c23
 have c23n : (a1_0 != 0) = true := by rw [bne, c23]; rfl
 have c23p : ¬ a1_0 = 0 := fun e => by simp [e] at c23
 obtain rfl := Option.some.inj H
 try simp only [c23, c23n, Bool.not_true, Bool.not_false]
 refine step_no rfl ?_
 simp only[nm]
 refine step_no rfl ?_
 simp only[nm]
 refine step_no rfl ?_
 simp only[nm]
 refine wpList_step fun k h=>?_;go_simp;apply h;clear h k
 refine wpList_step fun k h=>?_;go_simp;apply h;clear h k
 iterate 2 (refine wpp fun k h=>?_;go_simp;apply h;clear h k)
 refine wln (hK5 _ _ ?_)
 refine wp_ret ?_
 refine hQf _ _ _ ?_
 exact bpr (v := .bool false) ⟨rfl, (((hu4.out.trans hu9.out).trans hu14.out).trans hu19.out)⟩

set_option maxHeartbeats 40000000 in
set_option maxRecDepth 100000 in
theorem spec_l01Lines.calls (K : Nat) (a0 : Int) (a1_A : Option Addr) (a1_c : Nat) (a1 : List (Int × Int × Int)) (r0 : Int) (w : World) (ha1 : Rd e3 w a1_A a1) (h : spec_l01Lines.f K a0 a1 = some (r0)) :
    Calls Tryz.prog 51 #[.int .i64 a0, .slice a1_A a1.length a1_c] w fun e w' => e = .returned (.int .i64 r0) ∧ Up w w' := by
 have H : (((spec_l01Field.f K a0).bind fun t4 => (if t4 = true then (spec_l01Lines.l0 K a0 a1 K 0) else some 1)) : Option (Int)) = some (r0) := h
 clear h
 obtain ⟨t4,A5,H⟩:=bnd H;try dsimp only at H
 go_enter Tryz.func51, Tryz.ntmps51
 refine wp_hide (fun Qf hQf => ?_)
 refine wsr fun _ hK1=>?_
 refine wpp fun k h=>?_;go_simp;apply h;clear h k
 refine wln (hK1 _ _ ?_)
 refine wp_seq_k fun K2 hK2=>?_
 refine wsr fun _ hK3=>?_
 refine wpp fun k h=>?_;go_simp;apply h;clear h k
 refine stc (spec_l01Field.calls K a0 t4 w  A5.out) ?_
 intro w6 hu7
 simp only[nm]
 refine wpp fun k h=>?_;go_simp;apply h;clear h k
 refine wln (hK3 _ _ ?_)
 by_cases c8 : (t4) = true
 rotate_left
 ·
  rw [if_neg c8] at H; replace c8 := Bool.eq_false_iff.mpr c8
  subst c8
  obtain rfl := Option.some.inj H
  refine wp_cond_true rfl ?_
  refine wsr fun _ hK41=>?_
  refine wpp fun k h=>?_;go_simp;apply h;clear h k
  refine wln (hK41 _ _ ?_)
  refine wp_ret ?_
  refine hQf _ _ _ ?_
  exact bpr (v := .int .i64 1) ⟨rfl, hu7.out⟩
 rw [if_pos c8] at H
 subst c8
 refine wp_cond_false rfl ?_
 refine wp_skip ?_
 refine hK2 _ _ ?_
 refine wp_seq_k fun K9 hK9=>?_
 refine wsr fun _ hK10=>?_
 refine wpp fun k h=>?_;go_simp;apply h;clear h k
 refine wln (hK10 _ _ ?_)
 refine wp_block ?_
 have HL15 := Aside0.mk H
 clear H
 go_loopg [5] K (fun kq v5 w' => ∃ (x11 : Int), v5 = .int .i64 x11 ∧ Aside0 (spec_l01Lines.l0 K a0 a1 kq x11 = some (r0)) ∧ Aside0 (kq ≤ K) ∧ Aside0 (Up w6 w') ∧ Aside0 (w6.heap.size ≤ w'.heap.size))
 case atStart => exact ⟨0, (by first | rfl | simp), HL15, ⟨Nat.le_refl _⟩, ⟨(Up.refl _)⟩, ⟨Nat.le_refl _⟩⟩
 case round =>
  rename_i J18 K19 hJ18 hK19
  obtain ⟨x11, rfl, HL20, hk17, hu13, hz14⟩ := hrel
  obtain ⟨w12, rfl⟩ : ∃ wo : World, wo = wr := ⟨_, rfl⟩
  obtain ⟨k16, rfl⟩ | rfl : (∃ k, gk = k + 1) ∨ gk = 0 := by rcases gk with _ | k; exact .inr rfl; exact .inl ⟨k, rfl⟩
  case inr => exact absurd HL20.out (by simp [spec_l01Lines.l0])
  have H := HL20.out
  clear HL20
  rw [spec_l01Lines.l0] at H
  refine wp_seq_k fun K21 hK21=>?_
  refine wsr fun _ hK22=>?_
  iterate 4 (refine wpp fun k h=>?_;go_simp;apply h;clear h k)
  refine wln (hK22 _ _ ?_)
  by_cases c23 : (decide (x11 < (a1.length : Int))) = true
  rotate_left
  ·
   rw [if_neg c23] at H; replace c23 := Bool.eq_false_iff.mpr c23
   obtain rfl := Option.some.inj H
   try simp only [c23, Bool.not_true, Bool.not_false]
   refine wp_cond_false rfl ?_
   refine wp_exit ?_
   refine hK9 _ _ ?_
   refine wsr fun _ hK40=>?_
   refine wpp fun k h=>?_;go_simp;apply h;clear h k
   refine wln (hK40 _ _ ?_)
   refine wp_ret ?_
   refine hQf _ _ _ ?_
   exact bpr (v := .int .i64 0) ⟨rfl, (hu7.out.trans hu13.out)⟩
  rw [if_pos c23] at H
  obtain ⟨⟨t26, t27, t28⟩,A29,H⟩:=bnd H;try dsimp only at H
  obtain ⟨t33,A34,H⟩:=bnd H;try dsimp only at H
  try simp only [c23, Bool.not_true, Bool.not_false]
  refine wp_cond_true rfl ?_
  refine wp_skip ?_
  refine hK21 _ _ ?_
  refine wp_seq_k fun K24 hK24=>?_
  refine wp_block ?_
  refine wsr fun _ hK25=>?_
  iterate 3 (refine wpp fun k h=>?_;go_simp;apply h;clear h k)
  refine step_index e3 (T := 31) wn rfl (by kernel_rfl) (by kernel_rfl) rfl rfl rfl (ha1.up (hu7.out.trans hu13.out)) A29.out ?_
  intro ad30 hat he
  have he31 := Aside0.mk he
  have hat32 := Aside0.mk hat
  clear he hat
  simp only[nm]
  have cl0 := he31.out 0 _ rfl
  rw [addr_add0] at cl0
  have cl1 : World.cell? _ ⟨ad30.block, ad30.off + 1, none⟩ = some _ := he31.out 1 _ rfl
  have cl2 : World.cell? _ ⟨ad30.block, ad30.off + 2, none⟩ = some _ := he31.out 2 _ rfl
  refine wpp fun k h=>?_;go_simp;apply h;clear h k
  clear cl0 cl1 cl2
  refine stc (spec_l01Line.calls K a0 t26 t27 t28 t33 w12  A34.out) ?_
  intro w35 hu36
  simp only[nm]
  refine wpp fun k h=>?_;go_simp;apply h;clear h k
  refine wln (hK25 _ _ ?_)
  by_cases c37 : (t33) = true
  rotate_left
  ·
   rw [if_neg c37] at H; replace c37 := Bool.eq_false_iff.mpr c37
   subst c37
   obtain rfl := Option.some.inj H
   refine wp_cond_true rfl ?_
   refine wsr fun _ hK39=>?_
   refine wpp fun k h=>?_;go_simp;apply h;clear h k
   refine wln (hK39 _ _ ?_)
   refine wp_ret ?_
   refine hQf _ _ _ ?_
   exact bpr (v := .int .i64 2) ⟨rfl, ((hu7.out.trans hu13.out).trans hu36.out)⟩
  rw [if_pos c37] at H
  subst c37
  have HL38 := Aside0.mk H
  clear H
  refine wp_cond_false rfl ?_
  refine wp_skip ?_
  refine hK24 _ _ ?_
  refine wp_region_lit ?_
  iterate 3 (refine wpp fun k h=>?_;go_simp;apply h;clear h k)
  refine wln (hK19 _ _ ?_)
  go_roundg k16
  case measure => exact Nat.lt_succ_self _
  case rel => exact ⟨wrap64 (x11 + 1), (by first | rfl | simp), HL38, ⟨by have := hk17.out; omega⟩, ⟨(hu13.out.trans hu36.out)⟩, ⟨(Nat.le_trans ((Nat.le_trans (Nat.le_refl _) hz14.out)) hu36.out.size)⟩⟩

set_option maxHeartbeats 40000000 in
set_option maxRecDepth 100000 in
theorem spec_l01On.calls (K : Nat) (a0 : Int) (a1_0 : Int) (a1_1 : Int) (a2_0 : Int) (a2_1 : Int) (a2_2 : Int) (r0 : Bool) (w : World)  (h : spec_l01On.f K a0 a1_0 a1_1 a2_0 a2_1 a2_2 = some (r0)) :
    Calls Tryz.prog 53 #[.int .i64 a0, .agg #[.int .i64 a1_0, .int .i64 a1_1], .agg #[.int .i64 a2_0, .int .i64 a2_1, .int .i64 a2_2]] w fun e w' => e = .returned (.bool r0) ∧ Up w w' := by
 have H : ((if (a0 == 0) = true then none else some ((Int.tmod (wrap64 ((wrap64 ((wrap64 (a2_0 * a1_0)) + (wrap64 (a2_1 * a1_1)))) + a2_2)) a0) == 0)) : Option (Bool)) = some (r0) := h
 clear h
 go_enter Tryz.func53, Tryz.ntmps53
 refine wp_hide (fun Qf hQf => ?_)
 refine wsr fun _ hK1=>?_
 refine stp (cs := [.int .i64 a1_0, .int .i64 a1_1]) (T := 25) ?_
 intro b2 w3 hu4 lbb2 ltb2 hb2
 simp only[nm]
 refine stp (cs := [.int .i64 a2_0, .int .i64 a2_1, .int .i64 a2_2]) (T := 31) ?_
 intro b5 w6 hu7 lbb5 ltb5 hb5
 simp only[nm]
 refine wpp fun k h=>?_;go_simp;apply h;clear h k
 refine wln (hK1 _ _ ?_)
 refine wsr fun _ hK8=>?_
 refine wpp fun k h=>?_;go_simp;apply h;clear h k
 have cl0 := hb5.cell (o := 0) rfl
 refine wpp fun k h=>?_;go_simp;apply h;clear h k
 clear cl0
 refine wpp fun k h=>?_;go_simp;apply h;clear h k
 have cl0 := (hb2.up hu7.out).cell (o := 0) rfl
 refine wpp fun k h=>?_;go_simp;apply h;clear h k
 clear cl0
 iterate 2 (refine wpp fun k h=>?_;go_simp;apply h;clear h k)
 have cl0 := hb5.cell (o := 1) rfl
 refine wpp fun k h=>?_;go_simp;apply h;clear h k
 clear cl0
 refine wpp fun k h=>?_;go_simp;apply h;clear h k
 have cl0 := (hb2.up hu7.out).cell (o := 1) rfl
 refine wpp fun k h=>?_;go_simp;apply h;clear h k
 clear cl0
 iterate 3 (refine wpp fun k h=>?_;go_simp;apply h;clear h k)
 have cl0 := hb5.cell (o := 2) rfl
 refine wpp fun k h=>?_;go_simp;apply h;clear h k
 clear cl0
 iterate 2 (refine wpp fun k h=>?_;go_simp;apply h;clear h k)
 by_cases c9 : (a0 == 0) = true
 ·
  rw [if_pos c9] at H
  have c9n : (a0 != 0) = false := by rw [bne, c9]; rfl
  exact absurd H (by simp)
 rw [if_neg c9] at H; replace c9 := Bool.eq_false_iff.mpr c9
 have c9n : (a0 != 0) = true := by rw [bne, c9]; rfl
 have c9p : ¬ a0 = 0 := fun e => by simp [e] at c9
 obtain rfl := Option.some.inj H
 try simp only [c9, c9n, Bool.not_true, Bool.not_false]
 iterate 3 (refine wpp fun k h=>?_;go_simp;apply h;clear h k)
 refine wln (hK8 _ _ ?_)
 refine wp_ret ?_
 refine hQf _ _ _ ?_
 exact bpr (v := .bool ((Int.tmod (wrap64 ((wrap64 ((wrap64 (a2_0 * a1_0)) + (wrap64 (a2_1 * a1_1)))) + a2_2)) a0) == 0)) ⟨rfl, (hu4.out.trans hu7.out)⟩

set_option maxHeartbeats 40000000 in
set_option maxRecDepth 100000 in
theorem spec_MeetLine.calls (K : Nat) (a0 : Int) (a1 : Int) (a2_0 : Int) (a2_1 : Int) (a2_2 : Int) (a3_0 : Int) (a3_1 : Int) (a3_2 : Int) (r0 : List (Int × Int)) (r1 : Int) (w : World)  (h : spec_MeetLine.f K a0 a1 a2_0 a2_1 a2_2 a3_0 a3_1 a3_2 = some (r0, r1)) :
    Calls Tryz.prog 13 #[.int .i64 a0, .int .i64 a1, .agg #[.int .i64 a2_0, .int .i64 a2_1, .int .i64 a2_2], .agg #[.int .i64 a3_0, .int .i64 a3_1, .int .i64 a3_2]] w fun e w' => ∃ (Ar0 : Option Addr) (cr0 : Nat), e = .returned (.tuple #[.slice Ar0 r0.length cr0, .int .i64 r1]) ∧ Own e2 25 w' w.heap.size (.slice Ar0 r0.length cr0) r0 ∧ Up w w' := by
 have H : (((spec_l06Code.f K a0 a1 ([(a2_0, a2_1, a2_2)])).bind fun t12 => (if (t12 == 0) = true then ((spec_l01Lines.f K a0 ([(a3_0, a3_1, a3_2)])).bind fun t23 => (if (t23 == 0) = true then ((spec_l02At.f K a0 a1 a2_0 a2_1 a2_2).bind fun t33 => (spec_MeetLine.l0 K a0 a3_0 a3_1 a3_2 t33 K 0 ([] : List (Int × Int)))) else some ([], t23))) else some ([], t12))) : Option (List (Int × Int) × Int)) = some (r0, r1) := h
 clear h
 obtain ⟨t12,A13,H⟩:=bnd H;try dsimp only at H
 go_enter Tryz.func13, Tryz.ntmps13
 refine wp_hide (fun Qf hQf => ?_)
 refine wsr fun _ hK1=>?_
 refine stp (cs := [.int .i64 a2_0, .int .i64 a2_1, .int .i64 a2_2]) (T := 27) ?_
 intro b2 w3 hu4 lbb2 ltb2 hb2
 simp only[nm]
 refine stp (cs := [.int .i64 a3_0, .int .i64 a3_1, .int .i64 a3_2]) (T := 31) ?_
 intro b5 w6 hu7 lbb5 ltb5 hb5
 simp only[nm]
 iterate 2 (refine wpp fun k h=>?_;go_simp;apply h;clear h k)
 refine wln (hK1 _ _ ?_)
 refine wsr fun _ hK8=>?_
 iterate 2 (refine wpp fun k h=>?_;go_simp;apply h;clear h k)
 have cl0 := (hb2.up hu7.out).cell (o := 0) rfl
 have cl1 := (hb2.up hu7.out).cell (o := 1) rfl
 have cl2 := (hb2.up hu7.out).cell (o := 2) rfl
 refine wpp fun k h=>?_;go_simp;apply h;clear h k
 clear cl0 cl1 cl2
 refine step_new (cs := [.int .i64 a2_0, .int .i64 a2_1, .int .i64 a2_2]) (T := 27) (f := fun b => .slice (some ⟨b, 0, none⟩) 1 1) rfl (by go_simp <;> rfl) ?_
 intro b9 w10 hu lb hb9
 simp only[nm]
 clear lb
 have hu11 := Aside0.mk hu
 clear hu
 refine stc (spec_l06Code.calls K a0 a1 (some ⟨b9, 0, none⟩) 1 ([(a2_0, a2_1, a2_2)]) t12 w10 (Rd.of_blk (E := e3) (xs := [(a2_0, a2_1, a2_2)]) (o := 0) hb9 (by simp) (fun j u hu => by rcases j with _ | _ | _ | j <;> simp_all [Enc.flat, e3])) A13.out) ?_
 intro w14 hu15
 simp only[nm]
 refine wpp fun k h=>?_;go_simp;apply h;clear h k
 refine wln (hK8 _ _ ?_)
 refine wp_seq_k fun K16 hK16=>?_
 refine wsr fun _ hK17=>?_
 iterate 2 (refine wpp fun k h=>?_;go_simp;apply h;clear h k)
 refine wln (hK17 _ _ ?_)
 have hm19 := Aside0.mk (((hu4.out.trans hu7.out).trans hu11.out).trans hu15.out)
 by_cases c18 : (t12 == 0) = true
 rotate_left
 ·
  rw [if_neg c18] at H; replace c18 := Bool.eq_false_iff.mpr c18
  have c18n : (t12 != 0) = true := by rw [bne, c18]; rfl
  have c18p : ¬ t12 = 0 := fun e => by simp [e] at c18
  simp only [Option.some.injEq, Prod.mk.injEq] at H
  obtain ⟨rfl, rfl⟩ := H
  try simp only [c18, c18n, Bool.not_true, Bool.not_false]
  refine wp_cond_false rfl ?_
  refine wp_skip ?_
  refine hK16 _ _ ?_
  refine wp_seq_k fun K109 hK109=>?_
  refine wsr fun _ hK110=>?_
  iterate 2 (refine wpp fun k h=>?_;go_simp;apply h;clear h k)
  refine wln (hK110 _ _ ?_)
  refine wp_cond_true rfl ?_
  refine wsr fun _ hK111=>?_
  iterate 3 (refine wpp fun k h=>?_;go_simp;apply h;clear h k)
  refine wln (hK111 _ _ ?_)
  refine wp_ret ?_
  have h113 : Own e2 25 w14 w14.heap.size (.slice none ([] : List (Int × Int)).length 0) [] := Own.nil
  refine hQf _ _ _ ?_
  exact bpr (v := .tuple #[.slice none 0 0, .int .i64 t12]) ⟨none, 0, rfl, (h113.lower (hm19.out.size)), hm19.out⟩
 rw [if_pos c18] at H
 have c18n : (t12 != 0) = false := by rw [bne, c18]; rfl
 obtain ⟨t23,A24,H⟩:=bnd H;try dsimp only at H
 try simp only [c18, c18n, Bool.not_true, Bool.not_false]
 refine wp_cond_true rfl ?_
 refine wp_region_lit ?_
 refine wpp fun k h=>?_;go_simp;apply h;clear h k
 have cl0 := (hb5.up (hu11.out.trans hu15.out)).cell (o := 0) rfl
 have cl1 := (hb5.up (hu11.out.trans hu15.out)).cell (o := 1) rfl
 have cl2 := (hb5.up (hu11.out.trans hu15.out)).cell (o := 2) rfl
 refine wpp fun k h=>?_;go_simp;apply h;clear h k
 clear cl0 cl1 cl2
 refine step_new (cs := [.int .i64 a3_0, .int .i64 a3_1, .int .i64 a3_2]) (T := 31) (f := fun b => .slice (some ⟨b, 0, none⟩) 1 1) rfl (by go_simp <;> rfl) ?_
 intro b20 w21 hu lb hb20
 simp only[nm]
 clear lb
 have hu22 := Aside0.mk hu
 clear hu
 refine stc (spec_l01Lines.calls K a0 (some ⟨b20, 0, none⟩) 1 ([(a3_0, a3_1, a3_2)]) t23 w21 (Rd.of_blk (E := e3) (xs := [(a3_0, a3_1, a3_2)]) (o := 0) hb20 (by simp) (fun j u hu => by rcases j with _ | _ | _ | j <;> simp_all [Enc.flat, e3])) A24.out) ?_
 intro w25 hu26
 simp only[nm]
 refine wpp fun k h=>?_;go_simp;apply h;clear h k
 refine wln (hK16 _ _ ?_)
 refine wp_seq_k fun K27 hK27=>?_
 refine wsr fun _ hK28=>?_
 iterate 2 (refine wpp fun k h=>?_;go_simp;apply h;clear h k)
 refine wln (hK28 _ _ ?_)
 have h30 := (hb2.up ((((hu7.out.trans hu11.out).trans hu15.out).trans hu22.out).trans hu26.out))
 have h31 := (hb5.up (((hu11.out.trans hu15.out).trans hu22.out).trans hu26.out))
 by_cases c29 : (t23 == 0) = true
 rotate_left
 ·
  rw [if_neg c29] at H; replace c29 := Bool.eq_false_iff.mpr c29
  have c29n : (t23 != 0) = true := by rw [bne, c29]; rfl
  have c29p : ¬ t23 = 0 := fun e => by simp [e] at c29
  simp only [Option.some.injEq, Prod.mk.injEq] at H
  obtain ⟨rfl, rfl⟩ := H
  try simp only [c29, c29n, Bool.not_true, Bool.not_false]
  refine wp_cond_true rfl ?_
  refine wsr fun _ hK106=>?_
  iterate 3 (refine wpp fun k h=>?_;go_simp;apply h;clear h k)
  refine wln (hK106 _ _ ?_)
  refine wp_ret ?_
  have h108 : Own e2 25 w25 w25.heap.size (.slice none ([] : List (Int × Int)).length 0) [] := Own.nil
  refine hQf _ _ _ ?_
  exact bpr (v := .tuple #[.slice none 0 0, .int .i64 t23]) ⟨none, 0, rfl, (h108.lower ((Nat.le_trans ((Nat.le_trans (hm19.out.size) hu22.out.size)) hu26.out.size))), ((hm19.out.trans hu22.out).trans hu26.out)⟩
 rw [if_pos c29] at H
 have c29n : (t23 != 0) = false := by rw [bne, c29]; rfl
 obtain ⟨t33,A36,H⟩:=bnd H;try dsimp only at H
 try simp only [c29, c29n, Bool.not_true, Bool.not_false]
 refine wp_cond_false rfl ?_
 refine wp_skip ?_
 refine hK27 _ _ ?_
 refine wsr fun _ hK32=>?_
 iterate 3 (refine wpp fun k h=>?_;go_simp;apply h;clear h k)
 have cl0 := h30.cell (o := 0) rfl
 have cl1 := h30.cell (o := 1) rfl
 refine wpp fun k h=>?_;go_simp;apply h;clear h k
 clear cl0 cl1
 refine wpp fun k h=>?_;go_simp;apply h;clear h k
 have cl0 := h30.cell (o := 2) rfl
 refine wpp fun k h=>?_;go_simp;apply h;clear h k
 clear cl0
 refine step_call wn (by go_simp <;> rfl) (spec_l02At.calls K a0 a1 a2_0 a2_1 a2_2 t33 w25  A36.out) ?_
 rintro e w37 ⟨P34, q35, rfl, ht33, hu⟩
 have hu38 := Aside0.mk hu
 clear hu
 refine ⟨_, rfl, ?_⟩
 simp only[nm]
 refine step_new (cs := []) (T := 25) (f := fun b => .slice (some ⟨b, 0, none⟩) 0 0) rfl (by go_simp <;> rfl) ?_
 intro b39 w40 hu lb hb39
 simp only[nm]
 have lbb39 := Aside0.mk lb
 clear lb
 have hu41 := Aside0.mk hu
 clear hu
 iterate 2 (refine wpp fun k h=>?_;go_simp;apply h;clear h k)
 refine wln (hK32 _ _ ?_)
 refine wp_seq_k fun K42 hK42=>?_
 refine wsr fun _ hK43=>?_
 refine wpp fun k h=>?_;go_simp;apply h;clear h k
 refine wln (hK43 _ _ ?_)
 refine wp_block ?_
 have h45 : Own e2 25 w40 w37.heap.size (.slice (some ⟨b39, 0, none⟩) ([].length) 0) [] := Own.of_blk hb39 lbb39.out rfl (by simp) (by simp [Enc.flat, e2])
 have HL53 := Aside0.mk H
 clear H
 go_loopg [13, 12] K (fun kq v13 v12 w' => ∃ (x46 : Int) (x47 : List (Int × Int)) (P48 : Option Addr) (q49 : Nat), v13 = .int .i64 x46 ∧ v12 = .slice P48 x47.length q49 ∧ Aside0 (spec_MeetLine.l0 K a0 a3_0 a3_1 a3_2 t33 kq x46 x47 = some (r0, r1)) ∧ Aside0 (kq ≤ K) ∧ Aside0 (Up w37 w') ∧ Aside0 (w40.heap.size ≤ w'.heap.size) ∧ Own e2 25 w' w37.heap.size (.slice P48 x47.length q49) x47 ∧ Aside0 (∀ k, blk (.slice P48 x47.length q49) = some k → k ≠ b5) ∧ Aside0 (∀ k l, blk (.slice P48 x47.length q49) = some k → blk (.slice P34 t33.length q35) = some l → k ≠ l))
 case atStart => exact ⟨0, ([] : List (Int × Int)), some ⟨b39, 0, none⟩, 0, (by first | rfl | simp), (by first | rfl | simp), HL53, ⟨Nat.le_refl _⟩, ⟨hu41.out⟩, ⟨Nat.le_refl _⟩, h45, ⟨(fun k hk => Ne.symm ((fun k hk => Nat.ne_of_lt (Nat.lt_of_lt_of_le (Nat.lt_of_lt_of_le ltb5.out ((Nat.le_trans ((Nat.le_trans ((Nat.le_trans ((Nat.le_trans (hu11.out.size) hu15.out.size)) hu22.out.size)) hu26.out.size)) hu38.out.size))) ((fun k hk => Nat.le_trans (Nat.le_refl _) (h45.lt k hk).1) k hk))) k hk))⟩, ⟨(fun k l hk hl => Ne.symm ((fun k l hk hl => Nat.ne_of_lt (Nat.lt_of_lt_of_le ((fun k hk => Nat.lt_of_lt_of_le (ht33.lt k hk).2 (Nat.le_refl _)) k hk) ((fun k hk => Nat.le_trans (Nat.le_refl _) (h45.lt k hk).1) l hl))) l k hl hk))⟩⟩
 case round =>
  rename_i J59 K60 hJ59 hK60
  obtain ⟨x46, x47, P48, q49, rfl, rfl, HL61, hk58, hu51, hz52, h54, hn55, hn56⟩ := hrel
  obtain ⟨w50, rfl⟩ : ∃ wo : World, wo = wr := ⟨_, rfl⟩
  obtain ⟨k57, rfl⟩ | rfl : (∃ k, gk = k + 1) ∨ gk = 0 := by rcases gk with _ | k; exact .inr rfl; exact .inl ⟨k, rfl⟩
  case inr => exact absurd HL61.out (by simp [spec_MeetLine.l0])
  have H := HL61.out
  clear HL61
  rw [spec_MeetLine.l0] at H
  refine wp_seq_k fun K62 hK62=>?_
  refine wsr fun _ hK63=>?_
  iterate 4 (refine wpp fun k h=>?_;go_simp;apply h;clear h k)
  refine wln (hK63 _ _ ?_)
  have hm65 := Aside0.mk (hu38.out.trans hu51.out)
  by_cases c64 : (decide (x46 < (t33.length : Int))) = true
  rotate_left
  ·
   rw [if_neg c64] at H; replace c64 := Bool.eq_false_iff.mpr c64
   simp only [Option.some.injEq, Prod.mk.injEq] at H
   obtain ⟨rfl, rfl⟩ := H
   try simp only [c64, Bool.not_true, Bool.not_false]
   refine wp_cond_false rfl ?_
   refine wp_exit ?_
   refine hK42 _ _ ?_
   refine wsr fun _ hK105=>?_
   iterate 3 (refine wpp fun k h=>?_;go_simp;apply h;clear h k)
   refine wln (hK105 _ _ ?_)
   refine wp_ret ?_
   refine hQf _ _ _ ?_
   exact bpr (v := .tuple #[.slice P48 x47.length q49, .int .i64 0]) ⟨P48, q49, rfl, (h54.lower ((Nat.le_trans ((Nat.le_trans ((Nat.le_trans (hm19.out.size) hu22.out.size)) hu26.out.size)) hu38.out.size))), (((hm19.out.trans hu22.out).trans hu26.out).trans hm65.out)⟩
  rw [if_pos c64] at H
  obtain ⟨⟨t69, t70⟩,A71,H⟩:=bnd H;try dsimp only at H
  obtain ⟨t76,A77,H⟩:=bnd H;try dsimp only at H
  try simp only [c64, Bool.not_true, Bool.not_false]
  refine wp_cond_true rfl ?_
  refine wp_skip ?_
  refine hK62 _ _ ?_
  refine wp_seq_k fun K67 hK67=>?_
  refine wp_block ?_
  refine wp_seq_k fun K68 hK68=>?_
  obtain ⟨ad72, hat, he⟩ := rd_at ((ht33.up hu51.out).rd) A71.out
  have he73 := Aside0.mk he
  have hat75 := Aside0.mk hat
  clear he hat
  refine' wp_region_up 7 [Slot.det _, Slot.det _, Slot.det _, Slot.det (.pointer (some ad72)), Slot.det _, Slot.det _, Slot.det (.bool t76)] (by kernel_rfl) (by kernel_rfl) ?main
  case main =>
   simp only [List.take_succ_cons, List.take_zero]
   refine wpK_ops rfl (fun w1 hu => ?_) ?_
   · clear hu
     go_simp
     first | done | rfl
   simp only[nm]
   refine wpK_ops rfl (fun w1 hu => ?_) ?_
   · clear hu
     go_simp
     first | done | rfl
   simp only[nm]
   refine wpK_ops rfl (fun w1 hu => ?_) ?_
   · clear hu
     go_simp
     first | done | rfl
   simp only[nm]
   refine wpK_ops rfl (fun w1 hu => ?_) ?_
   · exact quiet_index e2 (T := 25) rfl (by kernel_rfl) (by kernel_rfl) rfl rfl rfl hat75.out A71.out
   simp only[nm]
   refine wpK_ops rfl (fun w1 hu => ?_) ?_
   · have cl0 := he73.out 0 _ rfl
     rw [addr_add0] at cl0
     replace cl0 := (((Up.refl _).drew.trans hu)).kept cl0
     have cl1 : World.cell? _ ⟨ad72.block, ad72.off + 1, none⟩ = some _ := he73.out 1 _ rfl
     replace cl1 := (((Up.refl _).drew.trans hu)).kept cl1
     go_simp
     first | done | rfl
   simp only[nm]
   refine wpK_ops rfl (fun w1 hu => ?_) ?_
   · have cl0 := ((h31.up hm65.out).up ((Up.refl _).drew.trans hu)).cell (o := 0) rfl
     have cl1 := ((h31.up hm65.out).up ((Up.refl _).drew.trans hu)).cell (o := 1) rfl
     have cl2 := ((h31.up hm65.out).up ((Up.refl _).drew.trans hu)).cell (o := 2) rfl
     go_simp
     first | done | rfl
   simp only[nm]
   refine wpK_ops rfl (fun w1 hu => ?_) ?_
   · have hcl := (spec_l01On.calls K a0 t69 t70 a3_0 a3_1 a3_2 t76 w1  A77.out)
     clear hu
     replace hcl := Aside0.mk hcl
     go_simp
     exact hcl.out
   simp only[nm]
   refine wpK_nil ?_
   intro w78 hu hap
   simp only [List.drop_succ_cons, List.drop_zero]
   replace hu := (Up.refl _).drew.trans hu
   clear hap
   have hu79 := Aside0.mk hu
   clear hu
   refine wln (hK68 _ _ ?_)
   by_cases c80 : (t76) = true
   rotate_left
   ·
    rw [if_neg c80] at H; replace c80 := Bool.eq_false_iff.mpr c80
    subst c80
    have HL104 := Aside0.mk H
    clear H
    refine wp_cond_false rfl ?_
    refine wp_skip ?_
    refine hK67 _ _ ?_
    refine wp_region_lit ?_
    iterate 3 (refine wpp fun k h=>?_;go_simp;apply h;clear h k)
    refine wln (hK60 _ _ ?_)
    go_roundg k57
    case measure => exact Nat.lt_succ_self _
    case rel => exact ⟨wrap64 (x46 + 1), x47, P48, q49, (by first | rfl | simp), (by first | rfl | simp), HL104, ⟨by have := hk58.out; omega⟩, ⟨(hu51.out.trans hu79.out)⟩, ⟨(Nat.le_trans ((Nat.le_trans (Nat.le_refl _) hz52.out)) hu79.out.size)⟩, (h54.up hu79.out), ⟨hn55.out⟩, ⟨hn56.out⟩⟩
   rw [if_pos c80] at H
   subst c80
   obtain ⟨⟨t81, t82⟩,A83,H⟩:=bnd H;try dsimp only at H
   refine wp_cond_true rfl ?_
   refine wp_region_lit ?_
   iterate 3 (refine wpp fun k h=>?_;go_simp;apply h;clear h k)
   refine step_index e2 (T := 25) wn rfl (by kernel_rfl) (by kernel_rfl) rfl rfl rfl (ht33.up (hu51.out.trans hu79.out)).rd A83.out ?_
   intro ad84 hat he
   have he85 := Aside0.mk he
   have hat86 := Aside0.mk hat
   clear he hat
   simp only[nm]
   have cl0 := he85.out 0 _ rfl
   rw [addr_add0] at cl0
   have cl1 : World.cell? _ ⟨ad84.block, ad84.off + 1, none⟩ = some _ := he85.out 1 _ rfl
   refine wpp fun k h=>?_;go_simp;apply h;clear h k
   clear cl0 cl1
   refine step_new (cs := [.int .i64 t81, .int .i64 t82]) (T := 25) (f := fun b => .slice (some ⟨b, 0, none⟩) 1 1) rfl (by go_simp <;> rfl) ?_
   intro b87 w88 hu lb hb87
   simp only[nm]
   clear lb
   have hu89 := Aside0.mk hu
   clear hu
   have hm92 := Aside0.mk (Nat.le_trans ((Nat.le_trans ((Nat.le_trans (hu41.out.size) hz52.out)) hu79.out.size)) hu89.out.size)
   have hm93 := Aside0.mk (Nat.le_trans ((Nat.le_trans ((Nat.le_trans (Nat.le_refl _) hz52.out)) hu79.out.size)) hu89.out.size)
   by_cases c90 : (decide (x47.length ≤ 1000000)) = true
   rotate_left
   ·
    rw [if_neg c90] at H; replace c90 := Bool.eq_false_iff.mpr c90
    exact absurd H (by simp)
   rw [if_pos c90] at H
   have HL103 := Aside0.mk H
   clear H
   try simp only [c90, Bool.not_true, Bool.not_false]
   have hO0 := Aside0.mk (h54.up (hu79.out.trans hu89.out))
   refine step_append e2 (z := .agg #[.int .i64 0, .int .i64 0]) (bytes := 16) (base := w37.heap.size) (xs := x47) (ys := [(t81, t82)]) wn _ _ rfl rfl (by kernel_rfl) rfl (by decide) rfl rfl rfl hO0.out (Rd.of_blk (E := e2) (xs := [(t81, t82)]) (o := 0) hb87 (by simp) (fun j u hu => by rcases j with _ | _ | j <;> simp_all [Enc.flat, e2])) (hm92.out) (by have h0_ := (of_decide_eq_true (by assumption) : x47.length ≤ 1000000); (try simp only [List.length_cons, List.length_nil]); omega) ?_
   intro P94 q95 w96 h98 hg hat
   have hg99 := Aside0.mk hg
   have hat100 := Aside0.mk hat
   simp only[nm]
   have lb101 := Aside0.mk hO0.out.lt
   clear hO0 hg hat
   refine wpp fun k h=>?_;go_simp;apply h;clear h k
   refine wln (hK67 _ _ ?_)
   refine wp_region_lit ?_
   iterate 3 (refine wpp fun k h=>?_;go_simp;apply h;clear h k)
   refine wln (hK60 _ _ ?_)
   go_roundg k57
   case measure => exact Nat.lt_succ_self _
   case rel => exact ⟨wrap64 (x46 + 1), (x47 ++ [(t81, t82)]), P94, q95, (by first | rfl | simp), (by first | rfl | simp), HL103, ⟨by have := hk58.out; omega⟩, ⟨(((hu51.out.trans hu79.out).trans hu89.out).grow hg99.out (fun k hk => Nat.le_trans (Nat.le_refl _) ((fun k hk => (lb101.out k hk).1) k hk)))⟩, ⟨(Nat.le_trans (hm93.out) hg99.out.size)⟩, h98, ⟨(fun k hk => hat100.out.elim (fun e => hn55.out k (e.symm.trans hk)) (fun g => Nat.ne_of_gt (Nat.lt_of_lt_of_le (Nat.lt_of_lt_of_le ltb5.out ((Nat.le_trans ((Nat.le_trans ((Nat.le_trans ((Nat.le_trans ((Nat.le_trans ((Nat.le_trans (hu11.out.size) hu15.out.size)) hu22.out.size)) hu26.out.size)) hm65.out.size)) hu79.out.size)) hu89.out.size))) (g k hk))))⟩, ⟨(fun k l hk hl => hat100.out.elim (fun e => hn56.out k l (e.symm.trans hk) hl) (fun g => Nat.ne_of_gt (Nat.lt_of_lt_of_le ((fun k hk => Nat.lt_of_lt_of_le (ht33.lt k hk).2 (hm92.out)) l hl) (g k hk))))⟩⟩

set_option maxHeartbeats 40000000 in
set_option maxRecDepth 100000 in
theorem laws_points9.calls (K : Nat) (a0_A : Option Addr) (a0_c : Nat) (a0 : List (Int × Int)) (a1_A : Option Addr) (a1_c : Nat) (a1 : List (Int × Int)) (r0 : Bool) (w : World) (ha0 : Rd e2 w a0_A a0) (ha1 : Rd e2 w a1_A a1) (h : laws_points9.f K a0 a1 = some (r0)) :
    Calls Tryz.prog 14 #[.slice a0_A a0.length a0_c, .slice a1_A a1.length a1_c] w fun e w' => e = .returned (.bool r0) ∧ Up w w' := by
 have H : ((if ((a0.length : Int) == (a1.length : Int)) = true then (laws_points9.l0 K a0 a1 K 0) else some false) : Option (Bool)) = some (r0) := h
 clear h
 go_enter Tryz.func14, Tryz.ntmps14
 refine wp_hide (fun Qf hQf => ?_)
 refine wsr fun _ hK1=>?_
 refine wpp fun k h=>?_;go_simp;apply h;clear h k
 refine wln (hK1 _ _ ?_)
 refine wp_seq_k fun K2 hK2=>?_
 refine wsr fun _ hK3=>?_
 iterate 5 (refine wpp fun k h=>?_;go_simp;apply h;clear h k)
 refine wln (hK3 _ _ ?_)
 by_cases c4 : ((a0.length : Int) == (a1.length : Int)) = true
 rotate_left
 ·
  rw [if_neg c4] at H; replace c4 := Bool.eq_false_iff.mpr c4
  have c4n : ((a0.length : Int) != (a1.length : Int)) = true := by rw [bne, c4]; rfl
  have c4p : ¬ (a0.length : Int) = (a1.length : Int) := fun e => by simp [e] at c4
  obtain rfl := Option.some.inj H
  try simp only [c4, c4n, Bool.not_true, Bool.not_false]
  refine wp_cond_true rfl ?_
  refine wsr fun _ hK42=>?_
  refine wpp fun k h=>?_;go_simp;apply h;clear h k
  refine wln (hK42 _ _ ?_)
  refine wp_ret ?_
  refine hQf _ _ _ ?_
  exact bpr (v := .bool false) ⟨rfl, (Up.refl _)⟩
 rw [if_pos c4] at H
 have c4n : ((a0.length : Int) != (a1.length : Int)) = false := by rw [bne, c4]; rfl
 try simp only [c4, c4n, Bool.not_true, Bool.not_false]
 refine wp_cond_false rfl ?_
 refine wp_skip ?_
 refine hK2 _ _ ?_
 refine wp_seq_k fun K5 hK5=>?_
 refine wsr fun _ hK6=>?_
 refine wpp fun k h=>?_;go_simp;apply h;clear h k
 refine wln (hK6 _ _ ?_)
 refine wp_block ?_
 have HL11 := Aside0.mk H
 clear H
 go_loopg [5] K (fun kq v5 w' => ∃ (x7 : Int), v5 = .int .i64 x7 ∧ Aside0 (laws_points9.l0 K a0 a1 kq x7 = some (r0)) ∧ Aside0 (kq ≤ K) ∧ Aside0 (Up w w') ∧ Aside0 (w.heap.size ≤ w'.heap.size))
 case atStart => exact ⟨0, (by first | rfl | simp), HL11, ⟨Nat.le_refl _⟩, ⟨(Up.refl _)⟩, ⟨Nat.le_refl _⟩⟩
 case round =>
  rename_i J14 K15 hJ14 hK15
  obtain ⟨x7, rfl, HL16, hk13, hu9, hz10⟩ := hrel
  obtain ⟨w8, rfl⟩ : ∃ wo : World, wo = wr := ⟨_, rfl⟩
  obtain ⟨k12, rfl⟩ | rfl : (∃ k, gk = k + 1) ∨ gk = 0 := by rcases gk with _ | k; exact .inr rfl; exact .inl ⟨k, rfl⟩
  case inr => exact absurd HL16.out (by simp [laws_points9.l0])
  have H := HL16.out
  clear HL16
  rw [laws_points9.l0] at H
  refine wp_seq_k fun K17 hK17=>?_
  refine wsr fun _ hK18=>?_
  iterate 4 (refine wpp fun k h=>?_;go_simp;apply h;clear h k)
  refine wln (hK18 _ _ ?_)
  by_cases c19 : (decide (x7 < (a0.length : Int))) = true
  rotate_left
  ·
   rw [if_neg c19] at H; replace c19 := Bool.eq_false_iff.mpr c19
   obtain rfl := Option.some.inj H
   try simp only [c19, Bool.not_true, Bool.not_false]
   refine wp_cond_false rfl ?_
   refine wp_exit ?_
   refine hK5 _ _ ?_
   refine wsr fun _ hK41=>?_
   refine wpp fun k h=>?_;go_simp;apply h;clear h k
   refine wln (hK41 _ _ ?_)
   refine wp_ret ?_
   refine hQf _ _ _ ?_
   exact bpr (v := .bool true) ⟨rfl, hu9.out⟩
  rw [if_pos c19] at H
  obtain ⟨⟨t22, t23⟩,A24,H⟩:=bnd H;try dsimp only at H
  obtain ⟨⟨t29, t30⟩,A31,H⟩:=bnd H;try dsimp only at H
  try simp only [c19, Bool.not_true, Bool.not_false]
  refine wp_cond_true rfl ?_
  refine wp_skip ?_
  refine hK17 _ _ ?_
  refine wp_seq_k fun K20 hK20=>?_
  refine wp_block ?_
  refine wp_seq_k fun K21 hK21=>?_
  obtain ⟨ad25, hat, he⟩ := rd_at (ha0.up hu9.out) A24.out
  have he26 := Aside0.mk he
  have hat28 := Aside0.mk hat
  clear he hat
  obtain ⟨ad32, hat, he⟩ := rd_at (ha1.up hu9.out) A31.out
  have he33 := Aside0.mk he
  have hat35 := Aside0.mk hat
  clear he hat
  refine' wp_region_up 9 [Slot.det _, Slot.det _, Slot.det (.pointer (some ad25)), Slot.det _, Slot.det _, Slot.det _, Slot.det (.pointer (some ad32)), Slot.det _, Slot.det _] (by kernel_rfl) (by kernel_rfl) ?main
  case main =>
   simp only [List.take_succ_cons, List.take_zero]
   refine wpK_ops rfl (fun w1 hu => ?_) ?_
   · clear hu
     go_simp
     first | done | rfl
   simp only[nm]
   refine wpK_ops rfl (fun w1 hu => ?_) ?_
   · clear hu
     go_simp
     first | done | rfl
   simp only[nm]
   refine wpK_ops rfl (fun w1 hu => ?_) ?_
   · exact quiet_index e2 (T := 25) rfl (by kernel_rfl) (by kernel_rfl) rfl rfl rfl hat28.out A24.out
   simp only[nm]
   refine wpK_ops rfl (fun w1 hu => ?_) ?_
   · have cl0 := he26.out 0 _ rfl
     rw [addr_add0] at cl0
     replace cl0 := (((Up.refl _).drew.trans hu)).kept cl0
     have cl1 : World.cell? _ ⟨ad25.block, ad25.off + 1, none⟩ = some _ := he26.out 1 _ rfl
     replace cl1 := (((Up.refl _).drew.trans hu)).kept cl1
     go_simp
     first | done | rfl
   simp only[nm]
   refine wpK_ops rfl (fun w1 hu => ?_) ?_
   · clear hu
     go_simp
     first | done | rfl
   simp only[nm]
   refine wpK_ops rfl (fun w1 hu => ?_) ?_
   · clear hu
     go_simp
     first | done | rfl
   simp only[nm]
   refine wpK_ops rfl (fun w1 hu => ?_) ?_
   · exact quiet_index e2 (T := 25) rfl (by kernel_rfl) (by kernel_rfl) rfl rfl rfl hat35.out A31.out
   simp only[nm]
   refine wpK_ops rfl (fun w1 hu => ?_) ?_
   · have cl0 := he33.out 0 _ rfl
     rw [addr_add0] at cl0
     replace cl0 := (((Up.refl _).drew.trans hu)).kept cl0
     have cl1 : World.cell? _ ⟨ad32.block, ad32.off + 1, none⟩ = some _ := he33.out 1 _ rfl
     replace cl1 := (((Up.refl _).drew.trans hu)).kept cl1
     go_simp
     first | done | rfl
   simp only[nm]
   refine wpK_ops rfl (fun w1 hu => ?_) ?_
   · clear hu
     go_simp
     first | done | rfl
   simp only[nm]
   refine wpK_nil ?_
   intro w36 hu hap
   simp only [List.drop_succ_cons, List.drop_zero]
   replace hu := (Up.refl _).drew.trans hu
   clear hap
   have hu37 := Aside0.mk hu
   clear hu
   refine wln (hK21 _ _ ?_)
   by_cases c38 : (t22 == t29 && t23 == t30) = true
   rotate_left
   ·
    rw [if_neg c38] at H; replace c38 := Bool.eq_false_iff.mpr c38
    have c38n : (!t22 == t29 || !t23 == t30) = true := by simp only [← Bool.not_and, c38, Bool.not_true, Bool.not_false]
    obtain rfl := Option.some.inj H
    try simp only [c38, c38n, Bool.not_true, Bool.not_false]
    refine wp_cond_true rfl ?_
    refine wsr fun _ hK40=>?_
    refine wpp fun k h=>?_;go_simp;apply h;clear h k
    refine wln (hK40 _ _ ?_)
    refine wp_ret ?_
    refine hQf _ _ _ ?_
    exact bpr (v := .bool false) ⟨rfl, (hu9.out.trans hu37.out)⟩
   rw [if_pos c38] at H
   have c38n : (!t22 == t29 || !t23 == t30) = false := by simp only [← Bool.not_and, c38, Bool.not_true, Bool.not_false]
   have HL39 := Aside0.mk H
   clear H
   try simp only [c38, c38n, Bool.not_true, Bool.not_false]
   refine wp_cond_false rfl ?_
   refine wp_skip ?_
   refine hK20 _ _ ?_
   refine wp_region_lit ?_
   iterate 3 (refine wpp fun k h=>?_;go_simp;apply h;clear h k)
   refine wln (hK15 _ _ ?_)
   go_roundg k12
   case measure => exact Nat.lt_succ_self _
   case rel => exact ⟨wrap64 (x7 + 1), (by first | rfl | simp), HL39, ⟨by have := hk13.out; omega⟩, ⟨(hu9.out.trans hu37.out)⟩, ⟨(Nat.le_trans ((Nat.le_trans (Nat.le_refl _) hz10.out)) hu37.out.size)⟩⟩

set_option maxHeartbeats 40000000 in
set_option maxRecDepth 100000 in
theorem impl_PowerOf_1.calls (K : Nat) (bf0 : Nat) (f0_0 : Int) (bf1 : Nat) (f1_0 : Int) (bf2 : Nat) (f2_0 : Int) (f2_1 : Int) (f2_2 : Int) (bf3 : Nat) (f3_0 : Int) (f3_1 : Int) (r0 : Bool) (w : World) (hf0 : Blk w bf0 [.int .i64 f0_0] 2) (hf1 : Blk w bf1 [.int .i64 f1_0] 2) (hf2 : Blk w bf2 [.int .i64 f2_0, .int .i64 f2_1, .int .i64 f2_2] 27) (hf3 : Blk w bf3 [.int .i64 f3_0, .int .i64 f3_1] 25) (h : impl_PowerOf_1.f K f0_0 f1_0 f2_0 f2_1 f2_2 f3_0 f3_1 = some (r0)) :
    Calls Tryz.prog 54 #[.pointer (some ⟨bf0, 0, none⟩), .pointer (some ⟨bf1, 0, none⟩), .pointer (some ⟨bf2, 0, none⟩), .pointer (some ⟨bf3, 0, none⟩)] w fun e w' => e = .returned (.bool r0) ∧ Up w w' := by
 have H : (((impl_isColour.f K f0_0).bind fun t3 => (if t3 = true then ((impl_isCircle.f K f1_0 f2_0 f2_1 f2_2).bind fun t8 => (if t8 = true then ((impl_isPoint.f K f1_0 f3_0 f3_1).bind fun t13 => some t13) else some false)) else some false)) : Option (Bool)) = some (r0) := h
 clear h
 obtain ⟨t3,A4,H⟩:=bnd H;try dsimp only at H
 have ltbf0 := Aside0.mk hf0.lt
 have ltbf1 := Aside0.mk hf1.lt
 have ltbf2 := Aside0.mk hf2.lt
 have ltbf3 := Aside0.mk hf3.lt
 go_enter Tryz.func54, Tryz.ntmps54
 refine wp_hide (fun Qf hQf => ?_)
 refine wsr fun _ hK1=>?_
 refine wpp fun k h=>?_;go_simp;apply h;clear h k
 refine wln (hK1 _ _ ?_)
 refine wsr fun _ hK2=>?_
 have cl0 := hf0.cell (o := 0) rfl
 refine wpp fun k h=>?_;go_simp;apply h;clear h k
 clear cl0
 refine stc (impl_isColour.calls K f0_0 t3 w  A4.out) ?_
 intro w5 hu6
 simp only[nm]
 refine wpp fun k h=>?_;go_simp;apply h;clear h k
 by_cases c7 : (t3) = true
 rotate_left
 ·
  rw [if_neg c7] at H; replace c7 := Bool.eq_false_iff.mpr c7
  subst c7
  obtain rfl := Option.some.inj H
  refine step_no rfl ?_
  simp only[nm]
  refine step_no rfl ?_
  simp only[nm]
  refine step_no rfl ?_
  simp only[nm]
  iterate 2 (refine wpp fun k h=>?_;go_simp;apply h;clear h k)
  refine step_no rfl ?_
  simp only[nm]
  refine step_no rfl ?_
  simp only[nm]
  refine step_no rfl ?_
  simp only[nm]
  iterate 2 (refine wpp fun k h=>?_;go_simp;apply h;clear h k)
  refine wln (hK2 _ _ ?_)
  refine wp_ret ?_
  refine hQf _ _ _ ?_
  exact bpr (v := .bool false) ⟨rfl, hu6.out⟩
 rw [if_pos c7] at H
 subst c7
 obtain ⟨t8,A9,H⟩:=bnd H;try dsimp only at H
 have cl0 := (hf1.up hu6.out).cell (o := 0) rfl
 refine wpList_step fun k h=>?_;go_simp;apply h;clear h k
 clear cl0
 have cl0 := (hf2.up hu6.out).cell (o := 0) rfl
 have cl1 := (hf2.up hu6.out).cell (o := 1) rfl
 have cl2 := (hf2.up hu6.out).cell (o := 2) rfl
 refine wpList_step fun k h=>?_;go_simp;apply h;clear h k
 clear cl0 cl1 cl2
 refine step_call rfl (by go_simp <;> rfl) (impl_isCircle.calls K f1_0 f2_0 f2_1 f2_2 t8 w5  A9.out) ?_
 rintro e w10 ⟨rfl, hu⟩
 have hu11 := Aside0.mk hu
 clear hu
 refine ⟨_, rfl, ?_⟩
 simp only[nm]
 iterate 2 (refine wpp fun k h=>?_;go_simp;apply h;clear h k)
 by_cases c12 : (t8) = true
 rotate_left
 ·
  rw [if_neg c12] at H; replace c12 := Bool.eq_false_iff.mpr c12
  subst c12
  obtain rfl := Option.some.inj H
  refine step_no rfl ?_
  simp only[nm]
  refine step_no rfl ?_
  simp only[nm]
  refine step_no rfl ?_
  simp only[nm]
  iterate 2 (refine wpp fun k h=>?_;go_simp;apply h;clear h k)
  refine wln (hK2 _ _ ?_)
  refine wp_ret ?_
  refine hQf _ _ _ ?_
  exact bpr (v := .bool false) ⟨rfl, (hu6.out.trans hu11.out)⟩
 rw [if_pos c12] at H
 subst c12
 obtain ⟨t13,A14,H⟩:=bnd H;try dsimp only at H
 obtain rfl := Option.some.inj H
 have cl0 := (hf1.up (hu6.out.trans hu11.out)).cell (o := 0) rfl
 refine wpList_step fun k h=>?_;go_simp;apply h;clear h k
 clear cl0
 have cl0 := (hf3.up (hu6.out.trans hu11.out)).cell (o := 0) rfl
 have cl1 := (hf3.up (hu6.out.trans hu11.out)).cell (o := 1) rfl
 refine wpList_step fun k h=>?_;go_simp;apply h;clear h k
 clear cl0 cl1
 refine step_call rfl (by go_simp <;> rfl) (impl_isPoint.calls K f1_0 f3_0 f3_1 t13 w10  A14.out) ?_
 rintro e w15 ⟨rfl, hu⟩
 have hu16 := Aside0.mk hu
 clear hu
 refine ⟨_, rfl, ?_⟩
 simp only[nm]
 iterate 2 (refine wpp fun k h=>?_;go_simp;apply h;clear h k)
 refine wln (hK2 _ _ ?_)
 refine wp_ret ?_
 refine hQf _ _ _ ?_
 exact bpr (v := .bool t13) ⟨rfl, ((hu6.out.trans hu11.out).trans hu16.out)⟩

set_option maxHeartbeats 40000000 in
set_option maxRecDepth 100000 in
theorem impl_asked__impl_PowerOf_1.calls (K : Nat) (a0 : Int) (bc1_0 : Nat) (c1_0_0 : Int) (bc1_1 : Nat) (c1_1_0 : Int) (bc1_2 : Nat) (c1_2_0 : Int) (c1_2_1 : Int) (c1_2_2 : Int) (bc1_3 : Nat) (c1_3_0 : Int) (c1_3_1 : Int) (r0 : Int) (w : World) (hc1_0 : Blk w bc1_0 [.int .i64 c1_0_0] 2) (hc1_1 : Blk w bc1_1 [.int .i64 c1_1_0] 2) (hc1_2 : Blk w bc1_2 [.int .i64 c1_2_0, .int .i64 c1_2_1, .int .i64 c1_2_2] 27) (hc1_3 : Blk w bc1_3 [.int .i64 c1_3_0, .int .i64 c1_3_1] 25) (h : impl_asked__impl_PowerOf_1.f K a0 c1_0_0 c1_1_0 c1_2_0 c1_2_1 c1_2_2 c1_3_0 c1_3_1 = some (r0)) :
    Calls Tryz.prog 26 #[.int .i64 a0, .func (.func 54) #[] #[.pointer (some ⟨bc1_0, 0, none⟩), .pointer (some ⟨bc1_1, 0, none⟩), .pointer (some ⟨bc1_2, 0, none⟩), .pointer (some ⟨bc1_3, 0, none⟩)]] w fun e w' => e = .returned (.int .i64 r0) ∧ Up w w' := by
 have H : (((impl_IsField.f K a0).bind fun t4 => (if t4 = true then ((impl_PowerOf_1.f K c1_0_0 c1_1_0 c1_2_0 c1_2_1 c1_2_2 c1_3_0 c1_3_1).bind fun t11 => (if t11 = true then some 0 else some 2)) else some 1)) : Option (Int)) = some (r0) := h
 clear h
 obtain ⟨t4,A5,H⟩:=bnd H;try dsimp only at H
 have ltbc1_0 := Aside0.mk hc1_0.lt
 have ltbc1_1 := Aside0.mk hc1_1.lt
 have ltbc1_2 := Aside0.mk hc1_2.lt
 have ltbc1_3 := Aside0.mk hc1_3.lt
 go_enter Tryz.func26, Tryz.ntmps26
 refine wp_hide (fun Qf hQf => ?_)
 refine wsr fun _ hK1=>?_
 refine wpp fun k h=>?_;go_simp;apply h;clear h k
 refine wln (hK1 _ _ ?_)
 refine wp_seq_k fun K2 hK2=>?_
 refine wsr fun _ hK3=>?_
 refine wpp fun k h=>?_;go_simp;apply h;clear h k
 refine stc (impl_IsField.calls K a0 t4 w  A5.out) ?_
 intro w6 hu7
 simp only[nm]
 refine wpp fun k h=>?_;go_simp;apply h;clear h k
 refine wln (hK3 _ _ ?_)
 by_cases c8 : (t4) = true
 rotate_left
 ·
  rw [if_neg c8] at H; replace c8 := Bool.eq_false_iff.mpr c8
  subst c8
  obtain rfl := Option.some.inj H
  refine wp_cond_true rfl ?_
  refine wsr fun _ hK18=>?_
  refine wpp fun k h=>?_;go_simp;apply h;clear h k
  refine wln (hK18 _ _ ?_)
  refine wp_ret ?_
  refine hQf _ _ _ ?_
  exact bpr (v := .int .i64 1) ⟨rfl, hu7.out⟩
 rw [if_pos c8] at H
 subst c8
 obtain ⟨t11,A12,H⟩:=bnd H;try dsimp only at H
 refine wp_cond_false rfl ?_
 refine wp_skip ?_
 refine hK2 _ _ ?_
 refine wp_seq_k fun K9 hK9=>?_
 refine wsr fun _ hK10=>?_
 refine wpp fun k h=>?_;go_simp;apply h;clear h k
 refine stc (impl_PowerOf_1.calls K bc1_0 c1_0_0 bc1_1 c1_1_0 bc1_2 c1_2_0 c1_2_1 c1_2_2 bc1_3 c1_3_0 c1_3_1 t11 w6 (hc1_0.up hu7.out) (hc1_1.up hu7.out) (hc1_2.up hu7.out) (hc1_3.up hu7.out) A12.out) ?_
 intro w13 hu14
 simp only[nm]
 refine wpp fun k h=>?_;go_simp;apply h;clear h k
 refine wln (hK10 _ _ ?_)
 by_cases c15 : (t11) = true
 rotate_left
 ·
  rw [if_neg c15] at H; replace c15 := Bool.eq_false_iff.mpr c15
  subst c15
  obtain rfl := Option.some.inj H
  refine wp_cond_true rfl ?_
  refine wsr fun _ hK17=>?_
  refine wpp fun k h=>?_;go_simp;apply h;clear h k
  refine wln (hK17 _ _ ?_)
  refine wp_ret ?_
  refine hQf _ _ _ ?_
  exact bpr (v := .int .i64 2) ⟨rfl, (hu7.out.trans hu14.out)⟩
 rw [if_pos c15] at H
 subst c15
 obtain rfl := Option.some.inj H
 refine wp_cond_false rfl ?_
 refine wp_skip ?_
 refine hK9 _ _ ?_
 refine wsr fun _ hK16=>?_
 refine wpp fun k h=>?_;go_simp;apply h;clear h k
 refine wln (hK16 _ _ ?_)
 refine wp_ret ?_
 refine hQf _ _ _ ?_
 exact bpr (v := .int .i64 0) ⟨rfl, (hu7.out.trans hu14.out)⟩

set_option maxHeartbeats 40000000 in
set_option maxRecDepth 100000 in
theorem impl_PowerOf.calls (K : Nat) (a0 : Int) (a1 : Int) (a2_0 : Int) (a2_1 : Int) (a2_2 : Int) (a3_0 : Int) (a3_1 : Int) (r0 : Int) (r1 : Int) (w : World)  (h : impl_PowerOf.f K a0 a1 a2_0 a2_1 a2_2 a3_0 a3_1 = some (r0, r1)) :
    Calls Tryz.prog 15 #[.int .i64 a0, .int .i64 a1, .agg #[.int .i64 a2_0, .int .i64 a2_1, .int .i64 a2_2], .agg #[.int .i64 a3_0, .int .i64 a3_1]] w fun e w' => e = .returned (.tuple #[.int .i64 r0, .int .i64 r1]) ∧ Up w w' := by
 have H : (((impl_asked__impl_PowerOf_1.f K a0 a1 a0 a2_0 a2_1 a2_2 a3_0 a3_1).bind fun t16 => (if (t16 == 0) = true then ((impl_power.f K a0 a1 a2_0 a2_1 a2_2 a3_0 a3_1).bind fun t25 => some (t25, 0)) else some (0, t16))) : Option (Int × Int)) = some (r0, r1) := h
 clear h
 obtain ⟨t16,A17,H⟩:=bnd H;try dsimp only at H
 go_enter Tryz.func15, Tryz.ntmps15
 refine wp_hide (fun Qf hQf => ?_)
 refine wsr fun _ hK1=>?_
 refine stp (cs := [.int .i64 a0]) (T := 2) ?_
 intro b2 w3 hu4 lbb2 ltb2 hb2
 simp only[nm]
 refine stp (cs := [.int .i64 a1]) (T := 2) ?_
 intro b5 w6 hu7 lbb5 ltb5 hb5
 simp only[nm]
 refine stp (cs := [.int .i64 a2_0, .int .i64 a2_1, .int .i64 a2_2]) (T := 27) ?_
 intro b8 w9 hu10 lbb8 ltb8 hb8
 simp only[nm]
 refine stp (cs := [.int .i64 a3_0, .int .i64 a3_1]) (T := 25) ?_
 intro b11 w12 hu13 lbb11 ltb11 hb11
 simp only[nm]
 iterate 2 (refine wpp fun k h=>?_;go_simp;apply h;clear h k)
 refine wln (hK1 _ _ ?_)
 refine wp_seq_k fun K14 hK14=>?_
 refine wsr fun _ hK15=>?_
 have cl0 := (hb2.up ((hu7.out.trans hu10.out).trans hu13.out)).cell (o := 0) rfl
 refine wpp fun k h=>?_;go_simp;apply h;clear h k
 clear cl0
 refine wpp fun k h=>?_;go_simp;apply h;clear h k
 refine stc (impl_asked__impl_PowerOf_1.calls K a0 b5 a1 b2 a0 b8 a2_0 a2_1 a2_2 b11 a3_0 a3_1 t16 w12 (hb5.up (hu10.out.trans hu13.out)) (hb2.up ((hu7.out.trans hu10.out).trans hu13.out)) (hb8.up hu13.out) hb11 A17.out) ?_
 intro w18 hu19
 simp only[nm]
 refine wpp fun k h=>?_;go_simp;apply h;clear h k
 refine wln (hK15 _ _ ?_)
 refine wsr fun _ hK20=>?_
 iterate 2 (refine wpp fun k h=>?_;go_simp;apply h;clear h k)
 refine wln (hK20 _ _ ?_)
 have hm22 := Aside0.mk ((((hu4.out.trans hu7.out).trans hu10.out).trans hu13.out).trans hu19.out)
 have h23 := (hb2.up (((hu7.out.trans hu10.out).trans hu13.out).trans hu19.out))
 by_cases c21 : (t16 == 0) = true
 rotate_left
 ·
  rw [if_neg c21] at H; replace c21 := Bool.eq_false_iff.mpr c21
  have c21n : (t16 != 0) = true := by rw [bne, c21]; rfl
  have c21p : ¬ t16 = 0 := fun e => by simp [e] at c21
  simp only [Option.some.injEq, Prod.mk.injEq] at H
  obtain ⟨rfl, rfl⟩ := H
  try simp only [c21, c21n, Bool.not_true, Bool.not_false]
  refine wp_cond_true rfl ?_
  refine wsr fun _ hK29=>?_
  iterate 3 (refine wpp fun k h=>?_;go_simp;apply h;clear h k)
  refine wln (hK29 _ _ ?_)
  refine wp_ret ?_
  refine hQf _ _ _ ?_
  exact bpr (v := .tuple #[.int .i64 0, .int .i64 t16]) ⟨rfl, hm22.out⟩
 rw [if_pos c21] at H
 have c21n : (t16 != 0) = false := by rw [bne, c21]; rfl
 obtain ⟨t25,A26,H⟩:=bnd H;try dsimp only at H
 simp only [Option.some.injEq, Prod.mk.injEq] at H
 obtain ⟨rfl, rfl⟩ := H
 try simp only [c21, c21n, Bool.not_true, Bool.not_false]
 refine wp_cond_false rfl ?_
 refine wp_skip ?_
 refine hK14 _ _ ?_
 refine wsr fun _ hK24=>?_
 have cl0 := h23.cell (o := 0) rfl
 refine wpp fun k h=>?_;go_simp;apply h;clear h k
 clear cl0
 have cl0 := (hb5.up ((hu10.out.trans hu13.out).trans hu19.out)).cell (o := 0) rfl
 refine wpp fun k h=>?_;go_simp;apply h;clear h k
 clear cl0
 have cl0 := (hb8.up (hu13.out.trans hu19.out)).cell (o := 0) rfl
 have cl1 := (hb8.up (hu13.out.trans hu19.out)).cell (o := 1) rfl
 have cl2 := (hb8.up (hu13.out.trans hu19.out)).cell (o := 2) rfl
 refine wpp fun k h=>?_;go_simp;apply h;clear h k
 clear cl0 cl1 cl2
 have cl0 := (hb11.up hu19.out).cell (o := 0) rfl
 have cl1 := (hb11.up hu19.out).cell (o := 1) rfl
 refine wpp fun k h=>?_;go_simp;apply h;clear h k
 clear cl0 cl1
 refine stc (impl_power.calls K a0 a1 a2_0 a2_1 a2_2 a3_0 a3_1 t25 w18  A26.out) ?_
 intro w27 hu28
 simp only[nm]
 iterate 2 (refine wpp fun k h=>?_;go_simp;apply h;clear h k)
 refine wln (hK24 _ _ ?_)
 refine wp_ret ?_
 refine hQf _ _ _ ?_
 exact bpr (v := .tuple #[.int .i64 t25, .int .i64 0]) ⟨rfl, (hm22.out.trans hu28.out)⟩

set_option maxHeartbeats 40000000 in
set_option maxRecDepth 100000 in
theorem spec_PowerOf.calls (K : Nat) (a0 : Int) (a1 : Int) (a2_0 : Int) (a2_1 : Int) (a2_2 : Int) (a3_0 : Int) (a3_1 : Int) (r0 : Int) (r1 : Int) (w : World)  (h : spec_PowerOf.f K a0 a1 a2_0 a2_1 a2_2 a3_0 a3_1 = some (r0, r1)) :
    Calls Tryz.prog 16 #[.int .i64 a0, .int .i64 a1, .agg #[.int .i64 a2_0, .int .i64 a2_1, .int .i64 a2_2], .agg #[.int .i64 a3_0, .int .i64 a3_1]] w fun e w' => e = .returned (.tuple #[.int .i64 r0, .int .i64 r1]) ∧ Up w w' := by
 have H : (((spec_l06Given.f K a0 a1 a2_0 a2_1 a2_2 a3_0 a3_1).bind fun t10 => (if (t10 == 0) = true then ((spec_l06Power.f K a0 a1 a2_0 a2_1 a2_2 a3_0 a3_1).bind fun t18 => some (t18, 0)) else some (0, t10))) : Option (Int × Int)) = some (r0, r1) := h
 clear h
 obtain ⟨t10,A11,H⟩:=bnd H;try dsimp only at H
 go_enter Tryz.func16, Tryz.ntmps16
 refine wp_hide (fun Qf hQf => ?_)
 refine wsr fun _ hK1=>?_
 refine stp (cs := [.int .i64 a2_0, .int .i64 a2_1, .int .i64 a2_2]) (T := 27) ?_
 intro b2 w3 hu4 lbb2 ltb2 hb2
 simp only[nm]
 refine stp (cs := [.int .i64 a3_0, .int .i64 a3_1]) (T := 25) ?_
 intro b5 w6 hu7 lbb5 ltb5 hb5
 simp only[nm]
 iterate 2 (refine wpp fun k h=>?_;go_simp;apply h;clear h k)
 refine wln (hK1 _ _ ?_)
 refine wp_seq_k fun K8 hK8=>?_
 refine wsr fun _ hK9=>?_
 iterate 2 (refine wpp fun k h=>?_;go_simp;apply h;clear h k)
 have cl0 := (hb2.up hu7.out).cell (o := 0) rfl
 have cl1 := (hb2.up hu7.out).cell (o := 1) rfl
 have cl2 := (hb2.up hu7.out).cell (o := 2) rfl
 refine wpp fun k h=>?_;go_simp;apply h;clear h k
 clear cl0 cl1 cl2
 have cl0 := hb5.cell (o := 0) rfl
 have cl1 := hb5.cell (o := 1) rfl
 refine wpp fun k h=>?_;go_simp;apply h;clear h k
 clear cl0 cl1
 refine stc (spec_l06Given.calls K a0 a1 a2_0 a2_1 a2_2 a3_0 a3_1 t10 w6  A11.out) ?_
 intro w12 hu13
 simp only[nm]
 refine wpp fun k h=>?_;go_simp;apply h;clear h k
 refine wln (hK9 _ _ ?_)
 refine wsr fun _ hK14=>?_
 iterate 2 (refine wpp fun k h=>?_;go_simp;apply h;clear h k)
 refine wln (hK14 _ _ ?_)
 have hm16 := Aside0.mk ((hu4.out.trans hu7.out).trans hu13.out)
 by_cases c15 : (t10 == 0) = true
 rotate_left
 ·
  rw [if_neg c15] at H; replace c15 := Bool.eq_false_iff.mpr c15
  have c15n : (t10 != 0) = true := by rw [bne, c15]; rfl
  have c15p : ¬ t10 = 0 := fun e => by simp [e] at c15
  simp only [Option.some.injEq, Prod.mk.injEq] at H
  obtain ⟨rfl, rfl⟩ := H
  try simp only [c15, c15n, Bool.not_true, Bool.not_false]
  refine wp_cond_true rfl ?_
  refine wsr fun _ hK22=>?_
  iterate 3 (refine wpp fun k h=>?_;go_simp;apply h;clear h k)
  refine wln (hK22 _ _ ?_)
  refine wp_ret ?_
  refine hQf _ _ _ ?_
  exact bpr (v := .tuple #[.int .i64 0, .int .i64 t10]) ⟨rfl, hm16.out⟩
 rw [if_pos c15] at H
 have c15n : (t10 != 0) = false := by rw [bne, c15]; rfl
 obtain ⟨t18,A19,H⟩:=bnd H;try dsimp only at H
 simp only [Option.some.injEq, Prod.mk.injEq] at H
 obtain ⟨rfl, rfl⟩ := H
 try simp only [c15, c15n, Bool.not_true, Bool.not_false]
 refine wp_cond_false rfl ?_
 refine wp_skip ?_
 refine hK8 _ _ ?_
 refine wsr fun _ hK17=>?_
 iterate 2 (refine wpp fun k h=>?_;go_simp;apply h;clear h k)
 have cl0 := (hb2.up (hu7.out.trans hu13.out)).cell (o := 0) rfl
 have cl1 := (hb2.up (hu7.out.trans hu13.out)).cell (o := 1) rfl
 have cl2 := (hb2.up (hu7.out.trans hu13.out)).cell (o := 2) rfl
 refine wpp fun k h=>?_;go_simp;apply h;clear h k
 clear cl0 cl1 cl2
 have cl0 := (hb5.up hu13.out).cell (o := 0) rfl
 have cl1 := (hb5.up hu13.out).cell (o := 1) rfl
 refine wpp fun k h=>?_;go_simp;apply h;clear h k
 clear cl0 cl1
 refine stc (spec_l06Power.calls K a0 a1 a2_0 a2_1 a2_2 a3_0 a3_1 t18 w12  A19.out) ?_
 intro w20 hu21
 simp only[nm]
 iterate 2 (refine wpp fun k h=>?_;go_simp;apply h;clear h k)
 refine wln (hK17 _ _ ?_)
 refine wp_ret ?_
 refine hQf _ _ _ ?_
 exact bpr (v := .tuple #[.int .i64 t18, .int .i64 0]) ⟨rfl, (hm16.out.trans hu21.out)⟩

set_option maxHeartbeats 40000000 in
set_option maxRecDepth 100000 in
theorem impl_InversePoint_1.calls (K : Nat) (bf0 : Nat) (f0_0 : Int) (bf1 : Nat) (f1_0 : Int) (bf2 : Nat) (f2_0 : Int) (f2_1 : Int) (f2_2 : Int) (bf3 : Nat) (f3_0 : Int) (f3_1 : Int) (r0 : Bool) (w : World) (hf0 : Blk w bf0 [.int .i64 f0_0] 2) (hf1 : Blk w bf1 [.int .i64 f1_0] 2) (hf2 : Blk w bf2 [.int .i64 f2_0, .int .i64 f2_1, .int .i64 f2_2] 27) (hf3 : Blk w bf3 [.int .i64 f3_0, .int .i64 f3_1] 25) (h : impl_InversePoint_1.f K f0_0 f1_0 f2_0 f2_1 f2_2 f3_0 f3_1 = some (r0)) :
    Calls Tryz.prog 55 #[.pointer (some ⟨bf0, 0, none⟩), .pointer (some ⟨bf1, 0, none⟩), .pointer (some ⟨bf2, 0, none⟩), .pointer (some ⟨bf3, 0, none⟩)] w fun e w' => e = .returned (.bool r0) ∧ Up w w' := by
 have H : (((impl_isColour.f K f0_0).bind fun t3 => (if t3 = true then ((impl_isCircle.f K f1_0 f2_0 f2_1 f2_2).bind fun t8 => (if t8 = true then ((impl_isPoint.f K f1_0 f3_0 f3_1).bind fun t13 => some t13) else some false)) else some false)) : Option (Bool)) = some (r0) := h
 clear h
 obtain ⟨t3,A4,H⟩:=bnd H;try dsimp only at H
 have ltbf0 := Aside0.mk hf0.lt
 have ltbf1 := Aside0.mk hf1.lt
 have ltbf2 := Aside0.mk hf2.lt
 have ltbf3 := Aside0.mk hf3.lt
 go_enter Tryz.func55, Tryz.ntmps55
 refine wp_hide (fun Qf hQf => ?_)
 refine wsr fun _ hK1=>?_
 refine wpp fun k h=>?_;go_simp;apply h;clear h k
 refine wln (hK1 _ _ ?_)
 refine wsr fun _ hK2=>?_
 have cl0 := hf0.cell (o := 0) rfl
 refine wpp fun k h=>?_;go_simp;apply h;clear h k
 clear cl0
 refine stc (impl_isColour.calls K f0_0 t3 w  A4.out) ?_
 intro w5 hu6
 simp only[nm]
 refine wpp fun k h=>?_;go_simp;apply h;clear h k
 by_cases c7 : (t3) = true
 rotate_left
 ·
  rw [if_neg c7] at H; replace c7 := Bool.eq_false_iff.mpr c7
  subst c7
  obtain rfl := Option.some.inj H
  refine step_no rfl ?_
  simp only[nm]
  refine step_no rfl ?_
  simp only[nm]
  refine step_no rfl ?_
  simp only[nm]
  iterate 2 (refine wpp fun k h=>?_;go_simp;apply h;clear h k)
  refine step_no rfl ?_
  simp only[nm]
  refine step_no rfl ?_
  simp only[nm]
  refine step_no rfl ?_
  simp only[nm]
  iterate 2 (refine wpp fun k h=>?_;go_simp;apply h;clear h k)
  refine wln (hK2 _ _ ?_)
  refine wp_ret ?_
  refine hQf _ _ _ ?_
  exact bpr (v := .bool false) ⟨rfl, hu6.out⟩
 rw [if_pos c7] at H
 subst c7
 obtain ⟨t8,A9,H⟩:=bnd H;try dsimp only at H
 have cl0 := (hf1.up hu6.out).cell (o := 0) rfl
 refine wpList_step fun k h=>?_;go_simp;apply h;clear h k
 clear cl0
 have cl0 := (hf2.up hu6.out).cell (o := 0) rfl
 have cl1 := (hf2.up hu6.out).cell (o := 1) rfl
 have cl2 := (hf2.up hu6.out).cell (o := 2) rfl
 refine wpList_step fun k h=>?_;go_simp;apply h;clear h k
 clear cl0 cl1 cl2
 refine step_call rfl (by go_simp <;> rfl) (impl_isCircle.calls K f1_0 f2_0 f2_1 f2_2 t8 w5  A9.out) ?_
 rintro e w10 ⟨rfl, hu⟩
 have hu11 := Aside0.mk hu
 clear hu
 refine ⟨_, rfl, ?_⟩
 simp only[nm]
 iterate 2 (refine wpp fun k h=>?_;go_simp;apply h;clear h k)
 by_cases c12 : (t8) = true
 rotate_left
 ·
  rw [if_neg c12] at H; replace c12 := Bool.eq_false_iff.mpr c12
  subst c12
  obtain rfl := Option.some.inj H
  refine step_no rfl ?_
  simp only[nm]
  refine step_no rfl ?_
  simp only[nm]
  refine step_no rfl ?_
  simp only[nm]
  iterate 2 (refine wpp fun k h=>?_;go_simp;apply h;clear h k)
  refine wln (hK2 _ _ ?_)
  refine wp_ret ?_
  refine hQf _ _ _ ?_
  exact bpr (v := .bool false) ⟨rfl, (hu6.out.trans hu11.out)⟩
 rw [if_pos c12] at H
 subst c12
 obtain ⟨t13,A14,H⟩:=bnd H;try dsimp only at H
 obtain rfl := Option.some.inj H
 have cl0 := (hf1.up (hu6.out.trans hu11.out)).cell (o := 0) rfl
 refine wpList_step fun k h=>?_;go_simp;apply h;clear h k
 clear cl0
 have cl0 := (hf3.up (hu6.out.trans hu11.out)).cell (o := 0) rfl
 have cl1 := (hf3.up (hu6.out.trans hu11.out)).cell (o := 1) rfl
 refine wpList_step fun k h=>?_;go_simp;apply h;clear h k
 clear cl0 cl1
 refine step_call rfl (by go_simp <;> rfl) (impl_isPoint.calls K f1_0 f3_0 f3_1 t13 w10  A14.out) ?_
 rintro e w15 ⟨rfl, hu⟩
 have hu16 := Aside0.mk hu
 clear hu
 refine ⟨_, rfl, ?_⟩
 simp only[nm]
 iterate 2 (refine wpp fun k h=>?_;go_simp;apply h;clear h k)
 refine wln (hK2 _ _ ?_)
 refine wp_ret ?_
 refine hQf _ _ _ ?_
 exact bpr (v := .bool t13) ⟨rfl, ((hu6.out.trans hu11.out).trans hu16.out)⟩

set_option maxHeartbeats 40000000 in
set_option maxRecDepth 100000 in
theorem impl_asked__impl_InversePoint_1.calls (K : Nat) (a0 : Int) (bc1_0 : Nat) (c1_0_0 : Int) (bc1_1 : Nat) (c1_1_0 : Int) (bc1_2 : Nat) (c1_2_0 : Int) (c1_2_1 : Int) (c1_2_2 : Int) (bc1_3 : Nat) (c1_3_0 : Int) (c1_3_1 : Int) (r0 : Int) (w : World) (hc1_0 : Blk w bc1_0 [.int .i64 c1_0_0] 2) (hc1_1 : Blk w bc1_1 [.int .i64 c1_1_0] 2) (hc1_2 : Blk w bc1_2 [.int .i64 c1_2_0, .int .i64 c1_2_1, .int .i64 c1_2_2] 27) (hc1_3 : Blk w bc1_3 [.int .i64 c1_3_0, .int .i64 c1_3_1] 25) (h : impl_asked__impl_InversePoint_1.f K a0 c1_0_0 c1_1_0 c1_2_0 c1_2_1 c1_2_2 c1_3_0 c1_3_1 = some (r0)) :
    Calls Tryz.prog 26 #[.int .i64 a0, .func (.func 55) #[] #[.pointer (some ⟨bc1_0, 0, none⟩), .pointer (some ⟨bc1_1, 0, none⟩), .pointer (some ⟨bc1_2, 0, none⟩), .pointer (some ⟨bc1_3, 0, none⟩)]] w fun e w' => e = .returned (.int .i64 r0) ∧ Up w w' := by
 have H : (((impl_IsField.f K a0).bind fun t4 => (if t4 = true then ((impl_InversePoint_1.f K c1_0_0 c1_1_0 c1_2_0 c1_2_1 c1_2_2 c1_3_0 c1_3_1).bind fun t11 => (if t11 = true then some 0 else some 2)) else some 1)) : Option (Int)) = some (r0) := h
 clear h
 obtain ⟨t4,A5,H⟩:=bnd H;try dsimp only at H
 have ltbc1_0 := Aside0.mk hc1_0.lt
 have ltbc1_1 := Aside0.mk hc1_1.lt
 have ltbc1_2 := Aside0.mk hc1_2.lt
 have ltbc1_3 := Aside0.mk hc1_3.lt
 go_enter Tryz.func26, Tryz.ntmps26
 refine wp_hide (fun Qf hQf => ?_)
 refine wsr fun _ hK1=>?_
 refine wpp fun k h=>?_;go_simp;apply h;clear h k
 refine wln (hK1 _ _ ?_)
 refine wp_seq_k fun K2 hK2=>?_
 refine wsr fun _ hK3=>?_
 refine wpp fun k h=>?_;go_simp;apply h;clear h k
 refine stc (impl_IsField.calls K a0 t4 w  A5.out) ?_
 intro w6 hu7
 simp only[nm]
 refine wpp fun k h=>?_;go_simp;apply h;clear h k
 refine wln (hK3 _ _ ?_)
 by_cases c8 : (t4) = true
 rotate_left
 ·
  rw [if_neg c8] at H; replace c8 := Bool.eq_false_iff.mpr c8
  subst c8
  obtain rfl := Option.some.inj H
  refine wp_cond_true rfl ?_
  refine wsr fun _ hK18=>?_
  refine wpp fun k h=>?_;go_simp;apply h;clear h k
  refine wln (hK18 _ _ ?_)
  refine wp_ret ?_
  refine hQf _ _ _ ?_
  exact bpr (v := .int .i64 1) ⟨rfl, hu7.out⟩
 rw [if_pos c8] at H
 subst c8
 obtain ⟨t11,A12,H⟩:=bnd H;try dsimp only at H
 refine wp_cond_false rfl ?_
 refine wp_skip ?_
 refine hK2 _ _ ?_
 refine wp_seq_k fun K9 hK9=>?_
 refine wsr fun _ hK10=>?_
 refine wpp fun k h=>?_;go_simp;apply h;clear h k
 refine stc (impl_InversePoint_1.calls K bc1_0 c1_0_0 bc1_1 c1_1_0 bc1_2 c1_2_0 c1_2_1 c1_2_2 bc1_3 c1_3_0 c1_3_1 t11 w6 (hc1_0.up hu7.out) (hc1_1.up hu7.out) (hc1_2.up hu7.out) (hc1_3.up hu7.out) A12.out) ?_
 intro w13 hu14
 simp only[nm]
 refine wpp fun k h=>?_;go_simp;apply h;clear h k
 refine wln (hK10 _ _ ?_)
 by_cases c15 : (t11) = true
 rotate_left
 ·
  rw [if_neg c15] at H; replace c15 := Bool.eq_false_iff.mpr c15
  subst c15
  obtain rfl := Option.some.inj H
  refine wp_cond_true rfl ?_
  refine wsr fun _ hK17=>?_
  refine wpp fun k h=>?_;go_simp;apply h;clear h k
  refine wln (hK17 _ _ ?_)
  refine wp_ret ?_
  refine hQf _ _ _ ?_
  exact bpr (v := .int .i64 2) ⟨rfl, (hu7.out.trans hu14.out)⟩
 rw [if_pos c15] at H
 subst c15
 obtain rfl := Option.some.inj H
 refine wp_cond_false rfl ?_
 refine wp_skip ?_
 refine hK9 _ _ ?_
 refine wsr fun _ hK16=>?_
 refine wpp fun k h=>?_;go_simp;apply h;clear h k
 refine wln (hK16 _ _ ?_)
 refine wp_ret ?_
 refine hQf _ _ _ ?_
 exact bpr (v := .int .i64 0) ⟨rfl, (hu7.out.trans hu14.out)⟩

set_option maxHeartbeats 40000000 in
set_option maxRecDepth 100000 in
theorem impl_combination.calls (K : Nat) (a0 : Int) (a1_0 : Int) (a1_1 : Int) (a2_0 : Int) (a2_1 : Int) (a3 : Int) (r0 : Int) (r1 : Int) (w : World)  (h : impl_combination.f K a0 a1_0 a1_1 a2_0 a2_1 a3 = some (r0, r1)) :
    Calls Tryz.prog 57 #[.int .i64 a0, .agg #[.int .i64 a1_0, .int .i64 a1_1], .agg #[.int .i64 a2_0, .int .i64 a2_1], .int .i64 a3] w fun e w' => e = .returned (.agg #[.int .i64 r0, .int .i64 r1]) ∧ Up w w' := by
 have H : (((impl_rest.f K a0 (wrap64 (a1_0 + (wrap64 (a3 * (wrap64 (a2_0 - a1_0))))))).bind fun t12 => ((impl_rest.f K a0 (wrap64 (a1_1 + (wrap64 (a3 * (wrap64 (a2_1 - a1_1))))))).bind fun t14 => some (t12, t14))) : Option (Int × Int)) = some (r0, r1) := h
 clear h
 obtain ⟨t12,A13,H⟩:=bnd H;try dsimp only at H
 obtain ⟨t14,A15,H⟩:=bnd H;try dsimp only at H
 simp only [Option.some.injEq, Prod.mk.injEq] at H
 obtain ⟨rfl, rfl⟩ := H
 go_enter Tryz.func57, Tryz.ntmps57
 refine wp_hide (fun Qf hQf => ?_)
 refine wsr fun _ hK1=>?_
 refine stp (cs := [.int .i64 a1_0, .int .i64 a1_1]) (T := 25) ?_
 intro b2 w3 hu4 lbb2 ltb2 hb2
 simp only[nm]
 refine stp (cs := [.int .i64 a2_0, .int .i64 a2_1]) (T := 25) ?_
 intro b5 w6 hu7 lbb5 ltb5 hb5
 simp only[nm]
 refine stp (cs := [.int .i64 0, .int .i64 0]) (T := 25) ?_
 intro b8 w9 hu10 lbb8 ltb8 hb8
 simp only[nm]
 refine wln (hK1 _ _ ?_)
 refine wp_seq_k fun K11 hK11=>?_
 refine' wp_region_up 25 [Slot.det _, Slot.det _, Slot.det _, Slot.det _, Slot.det _, Slot.det _, Slot.det _, Slot.det _, Slot.det _, Slot.det _, Slot.det _, Slot.det (.int .i64 t12), Slot.det _, Slot.det _, Slot.det _, Slot.det _, Slot.det _, Slot.det _, Slot.det _, Slot.det _, Slot.det _, Slot.det _, Slot.det _, Slot.det (.int .i64 t14), Slot.det _] (by kernel_rfl) (by kernel_rfl) ?main
 case main =>
  simp only [List.take_succ_cons, List.take_zero]
  refine wpK_ops rfl (fun w1 hu => ?_) ?_
  · clear hu
    go_simp
    first | done | rfl
  simp only[nm]
  refine wpK_ops rfl (fun w1 hu => ?_) ?_
  · clear hu
    go_simp
    first | done | rfl
  simp only[nm]
  refine wpK_ops rfl (fun w1 hu => ?_) ?_
  · have cl0 := ((hb2.up (hu7.out.trans hu10.out)).up ((Up.refl _).drew.trans hu)).cell (o := 0) rfl
    go_simp
    first | done | rfl
  simp only[nm]
  refine wpK_ops rfl (fun w1 hu => ?_) ?_
  · clear hu
    go_simp
    first | done | rfl
  simp only[nm]
  refine wpK_ops rfl (fun w1 hu => ?_) ?_
  · clear hu
    go_simp
    first | done | rfl
  simp only[nm]
  refine wpK_ops rfl (fun w1 hu => ?_) ?_
  · have cl0 := ((hb5.up hu10.out).up ((Up.refl _).drew.trans hu)).cell (o := 0) rfl
    go_simp
    first | done | rfl
  simp only[nm]
  refine wpK_ops rfl (fun w1 hu => ?_) ?_
  · clear hu
    go_simp
    first | done | rfl
  simp only[nm]
  refine wpK_ops rfl (fun w1 hu => ?_) ?_
  · have cl0 := ((hb2.up (hu7.out.trans hu10.out)).up ((Up.refl _).drew.trans hu)).cell (o := 0) rfl
    go_simp
    first | done | rfl
  simp only[nm]
  refine wpK_ops rfl (fun w1 hu => ?_) ?_
  · clear hu
    go_simp
    first | done | rfl
  simp only[nm]
  refine wpK_ops rfl (fun w1 hu => ?_) ?_
  · clear hu
    go_simp
    first | done | rfl
  simp only[nm]
  refine wpK_ops rfl (fun w1 hu => ?_) ?_
  · clear hu
    go_simp
    first | done | rfl
  simp only[nm]
  refine wpK_ops rfl (fun w1 hu => ?_) ?_
  · have hcl := (impl_rest.calls K a0 (wrap64 (a1_0 + (wrap64 (a3 * (wrap64 (a2_0 - a1_0)))))) t12 w1  A13.out)
    clear hu
    replace hcl := Aside0.mk hcl
    go_simp
    exact hcl.out
  simp only[nm]
  refine wpK_ops rfl (fun w1 hu => ?_) ?_
  · clear hu
    go_simp
    first | done | rfl
  simp only[nm]
  refine wpK_ops rfl (fun w1 hu => ?_) ?_
  · clear hu
    go_simp
    first | done | rfl
  simp only[nm]
  refine wpK_ops rfl (fun w1 hu => ?_) ?_
  · have cl0 := ((hb2.up (hu7.out.trans hu10.out)).up ((Up.refl _).drew.trans hu)).cell (o := 1) rfl
    go_simp
    first | done | rfl
  simp only[nm]
  refine wpK_ops rfl (fun w1 hu => ?_) ?_
  · clear hu
    go_simp
    first | done | rfl
  simp only[nm]
  refine wpK_ops rfl (fun w1 hu => ?_) ?_
  · clear hu
    go_simp
    first | done | rfl
  simp only[nm]
  refine wpK_ops rfl (fun w1 hu => ?_) ?_
  · have cl0 := ((hb5.up hu10.out).up ((Up.refl _).drew.trans hu)).cell (o := 1) rfl
    go_simp
    first | done | rfl
  simp only[nm]
  refine wpK_ops rfl (fun w1 hu => ?_) ?_
  · clear hu
    go_simp
    first | done | rfl
  simp only[nm]
  refine wpK_ops rfl (fun w1 hu => ?_) ?_
  · have cl0 := ((hb2.up (hu7.out.trans hu10.out)).up ((Up.refl _).drew.trans hu)).cell (o := 1) rfl
    go_simp
    first | done | rfl
  simp only[nm]
  refine wpK_ops rfl (fun w1 hu => ?_) ?_
  · clear hu
    go_simp
    first | done | rfl
  simp only[nm]
  refine wpK_ops rfl (fun w1 hu => ?_) ?_
  · clear hu
    go_simp
    first | done | rfl
  simp only[nm]
  refine wpK_ops rfl (fun w1 hu => ?_) ?_
  · clear hu
    go_simp
    first | done | rfl
  simp only[nm]
  refine wpK_ops rfl (fun w1 hu => ?_) ?_
  · have hcl := (impl_rest.calls K a0 (wrap64 (a1_1 + (wrap64 (a3 * (wrap64 (a2_1 - a1_1)))))) t14 w1  A15.out)
    clear hu
    replace hcl := Aside0.mk hcl
    go_simp
    exact hcl.out
  simp only[nm]
  refine wpK_ops rfl (fun w1 hu => ?_) ?_
  · clear hu
    go_simp
    first | done | rfl
  simp only[nm]
  refine wpK_nil ?_
  intro w16 hu hap
  simp only [List.drop_succ_cons, List.drop_zero]
  replace hu := (Up.refl _).drew.trans hu
  clear hap
  have hu17 := Aside0.mk hu
  clear hu
  refine stw [.int .i64 t12, .int .i64 t14] (hb8.up hu17.out) rfl rfl rfl rfl rfl (by kernel_rfl) rfl rfl ?_
  intro w18 hs19 hb20
  refine wln (hK11 _ _ ?_)
  refine wp_ret ?_
  refine hQf _ _ _ ?_
  have cr0 := hb20.cell (o := 0) rfl
  have cr1 := hb20.cell (o := 1) rfl
  exact bodyPost_ret (v := .agg #[.int .i64 t12, .int .i64 t14]) (by first|rfl|simp [results, Tryz.results57, go_sem, cr0, cr1]<;>rfl) rfl ⟨rfl, ((((hu4.out.trans hu7.out).trans hu10.out).trans hu17.out).sto (Nat.le_trans ((Nat.le_trans (hu4.out.size) hu7.out.size)) lbb8.out) hs19.out)⟩

set_option maxHeartbeats 40000000 in
set_option maxRecDepth 100000 in
theorem impl_InversePoint.calls (K : Nat) (a0 : Int) (a1 : Int) (a2_0 : Int) (a2_1 : Int) (a2_2 : Int) (a3_0 : Int) (a3_1 : Int) (r0 : Int) (r1 : Int) (r2 : Int) (w : World)  (h : impl_InversePoint.f K a0 a1 a2_0 a2_1 a2_2 a3_0 a3_1 = some (r0, r1, r2)) :
    Calls Tryz.prog 17 #[.int .i64 a0, .int .i64 a1, .agg #[.int .i64 a2_0, .int .i64 a2_1, .int .i64 a2_2], .agg #[.int .i64 a3_0, .int .i64 a3_1]] w fun e w' => e = .returned (.tuple #[.agg #[.int .i64 r0, .int .i64 r1], .int .i64 r2]) ∧ Up w w' := by
 have H : (((impl_asked__impl_InversePoint_1.f K a0 a1 a0 a2_0 a2_1 a2_2 a3_0 a3_1).bind fun t19 => (if (t19 == 0) = true then ((impl_quadrance.f K a0 a1 a2_0 a2_1 a3_0 a3_1).bind fun t29 => (if (t29 == 0) = true then some (0, 0, 5) else ((impl_divide.f K a0 a2_2 t29).bind fun t44 => ((impl_combination.f K a0 a2_0 a2_1 a3_0 a3_1 t44).bind fun (t46, t47) => some (t46, t47, 0))))) else some (0, 0, t19))) : Option (Int × Int × Int)) = some (r0, r1, r2) := h
 clear h
 obtain ⟨t19,A20,H⟩:=bnd H;try dsimp only at H
 go_enter Tryz.func17, Tryz.ntmps17
 refine wp_hide (fun Qf hQf => ?_)
 refine wsr fun _ hK1=>?_
 refine stp (cs := [.int .i64 a0]) (T := 2) ?_
 intro b2 w3 hu4 lbb2 ltb2 hb2
 simp only[nm]
 refine stp (cs := [.int .i64 a1]) (T := 2) ?_
 intro b5 w6 hu7 lbb5 ltb5 hb5
 simp only[nm]
 refine stp (cs := [.int .i64 a2_0, .int .i64 a2_1, .int .i64 a2_2]) (T := 27) ?_
 intro b8 w9 hu10 lbb8 ltb8 hb8
 simp only[nm]
 refine stp (cs := [.int .i64 a3_0, .int .i64 a3_1]) (T := 25) ?_
 intro b11 w12 hu13 lbb11 ltb11 hb11
 simp only[nm]
 refine stp (cs := [.int .i64 0, .int .i64 0]) (T := 25) ?_
 intro b14 w15 hu16 lbb14 ltb14 hb14
 simp only[nm]
 refine wpp fun k h=>?_;go_simp;apply h;clear h k
 refine wln (hK1 _ _ ?_)
 refine wp_seq_k fun K17 hK17=>?_
 refine wsr fun _ hK18=>?_
 have cl0 := (hb2.up (((hu7.out.trans hu10.out).trans hu13.out).trans hu16.out)).cell (o := 0) rfl
 refine wpp fun k h=>?_;go_simp;apply h;clear h k
 clear cl0
 refine wpp fun k h=>?_;go_simp;apply h;clear h k
 refine stc (impl_asked__impl_InversePoint_1.calls K a0 b5 a1 b2 a0 b8 a2_0 a2_1 a2_2 b11 a3_0 a3_1 t19 w15 (hb5.up ((hu10.out.trans hu13.out).trans hu16.out)) (hb2.up (((hu7.out.trans hu10.out).trans hu13.out).trans hu16.out)) (hb8.up (hu13.out.trans hu16.out)) (hb11.up hu16.out) A20.out) ?_
 intro w21 hu22
 simp only[nm]
 refine wpp fun k h=>?_;go_simp;apply h;clear h k
 refine wln (hK18 _ _ ?_)
 refine wsr fun _ hK23=>?_
 iterate 2 (refine wpp fun k h=>?_;go_simp;apply h;clear h k)
 refine wln (hK23 _ _ ?_)
 have hm25 := Aside0.mk (((((hu4.out.trans hu7.out).trans hu10.out).trans hu13.out).trans hu16.out).trans hu22.out)
 have h26 := (hb2.up ((((hu7.out.trans hu10.out).trans hu13.out).trans hu16.out).trans hu22.out))
 have h27 := (hb5.up (((hu10.out.trans hu13.out).trans hu16.out).trans hu22.out))
 by_cases c24 : (t19 == 0) = true
 rotate_left
 ·
  rw [if_neg c24] at H; replace c24 := Bool.eq_false_iff.mpr c24
  have c24n : (t19 != 0) = true := by rw [bne, c24]; rfl
  have c24p : ¬ t19 = 0 := fun e => by simp [e] at c24
  simp only [Option.some.injEq, Prod.mk.injEq] at H
  obtain ⟨rfl, rfl, rfl⟩ := H
  try simp only [c24, c24n, Bool.not_true, Bool.not_false]
  refine wp_cond_true rfl ?_
  refine wsr fun _ hK56=>?_
  iterate 2 (refine wpp fun k h=>?_;go_simp;apply h;clear h k)
  refine stw [.int .i64 0, .int .i64 0] (hb14.up hu22.out) rfl rfl rfl rfl rfl (by kernel_rfl) rfl rfl ?_
  intro w57 hs58 hb59
  refine wpp fun k h=>?_;go_simp;apply h;clear h k
  refine wln (hK56 _ _ ?_)
  refine wp_ret ?_
  refine hQf _ _ _ ?_
  have cr0 := hb59.cell (o := 0) rfl
  have cr1 := hb59.cell (o := 1) rfl
  exact bodyPost_ret (v := .tuple #[.agg #[.int .i64 0, .int .i64 0], .int .i64 t19]) (by first|rfl|simp [results, Tryz.results17, go_sem, cr0, cr1]<;>rfl) rfl ⟨rfl, (hm25.out.sto (Nat.le_trans ((Nat.le_trans ((Nat.le_trans ((Nat.le_trans (hu4.out.size) hu7.out.size)) hu10.out.size)) hu13.out.size)) lbb14.out) hs58.out)⟩
 rw [if_pos c24] at H
 have c24n : (t19 != 0) = false := by rw [bne, c24]; rfl
 obtain ⟨t29,A30,H⟩:=bnd H;try dsimp only at H
 try simp only [c24, c24n, Bool.not_true, Bool.not_false]
 refine wp_cond_false rfl ?_
 refine wp_skip ?_
 refine hK17 _ _ ?_
 refine wsr fun _ hK28=>?_
 have cl0 := h26.cell (o := 0) rfl
 refine wpp fun k h=>?_;go_simp;apply h;clear h k
 clear cl0
 have cl0 := h27.cell (o := 0) rfl
 refine wpp fun k h=>?_;go_simp;apply h;clear h k
 clear cl0
 refine wpp fun k h=>?_;go_simp;apply h;clear h k
 have cl0 := (hb8.up ((hu13.out.trans hu16.out).trans hu22.out)).cell (o := 0) rfl
 have cl1 := (hb8.up ((hu13.out.trans hu16.out).trans hu22.out)).cell (o := 1) rfl
 refine wpp fun k h=>?_;go_simp;apply h;clear h k
 clear cl0 cl1
 have cl0 := (hb11.up (hu16.out.trans hu22.out)).cell (o := 0) rfl
 have cl1 := (hb11.up (hu16.out.trans hu22.out)).cell (o := 1) rfl
 refine wpp fun k h=>?_;go_simp;apply h;clear h k
 clear cl0 cl1
 refine stc (impl_quadrance.calls K a0 a1 a2_0 a2_1 a3_0 a3_1 t29 w21  A30.out) ?_
 intro w31 hu32
 simp only[nm]
 refine wpp fun k h=>?_;go_simp;apply h;clear h k
 refine wln (hK28 _ _ ?_)
 refine wp_seq_k fun K33 hK33=>?_
 refine wsr fun _ hK34=>?_
 iterate 2 (refine wpp fun k h=>?_;go_simp;apply h;clear h k)
 refine wln (hK34 _ _ ?_)
 have h36 := (hb8.up (((hu13.out.trans hu16.out).trans hu22.out).trans hu32.out))
 by_cases c35 : (t29 == 0) = true
 ·
  rw [if_pos c35] at H
  have c35n : (t29 != 0) = false := by rw [bne, c35]; rfl
  simp only [Option.some.injEq, Prod.mk.injEq] at H
  obtain ⟨rfl, rfl, rfl⟩ := H
  try simp only [c35, c35n, Bool.not_true, Bool.not_false]
  refine wp_cond_true rfl ?_
  refine wsr fun _ hK37=>?_
  refine wpp fun k h=>?_;go_simp;apply h;clear h k
  refine stw [.int .i64 0, .int .i64 0] (hb14.up (hu22.out.trans hu32.out)) rfl rfl rfl rfl rfl (by kernel_rfl) rfl rfl ?_
  intro w38 hs39 hb40
  refine wpp fun k h=>?_;go_simp;apply h;clear h k
  refine wln (hK37 _ _ ?_)
  refine wp_ret ?_
  refine hQf _ _ _ ?_
  have cr0 := hb40.cell (o := 0) rfl
  have cr1 := hb40.cell (o := 1) rfl
  exact bodyPost_ret (v := .tuple #[.agg #[.int .i64 0, .int .i64 0], .int .i64 5]) (by first|rfl|simp [results, Tryz.results17, go_sem, cr0, cr1]<;>rfl) rfl ⟨rfl, ((hm25.out.trans hu32.out).sto (Nat.le_trans ((Nat.le_trans ((Nat.le_trans ((Nat.le_trans (hu4.out.size) hu7.out.size)) hu10.out.size)) hu13.out.size)) lbb14.out) hs39.out)⟩
 rw [if_neg c35] at H; replace c35 := Bool.eq_false_iff.mpr c35
 have c35n : (t29 != 0) = true := by rw [bne, c35]; rfl
 have c35p : ¬ t29 = 0 := fun e => by simp [e] at c35
 obtain ⟨t44,A45,H⟩:=bnd H;try dsimp only at H
 obtain ⟨⟨t46, t47⟩,A48,H⟩:=bnd H;try dsimp only at H
 simp only [Option.some.injEq, Prod.mk.injEq] at H
 obtain ⟨rfl, rfl, rfl⟩ := H
 try simp only [c35, c35n, Bool.not_true, Bool.not_false]
 refine wp_cond_false rfl ?_
 refine wp_skip ?_
 refine hK33 _ _ ?_
 refine wp_seq_k fun K43 hK43=>?_
 refine' wp_region_up 10 [Slot.det _, Slot.det _, Slot.det _, Slot.det _, Slot.det _, Slot.det _, Slot.det _, Slot.det _, Slot.det (.int .i64 t44), Slot.det (.agg #[.int .i64 t46, .int .i64 t47])] (by kernel_rfl) (by kernel_rfl) ?main
 case main =>
  simp only [List.take_succ_cons, List.take_zero]
  refine wpK_ops rfl (fun w1 hu => ?_) ?_
  · have cl0 := ((h26.up hu32.out).up ((Up.refl _).drew.trans hu)).cell (o := 0) rfl
    go_simp
    first | done | rfl
  simp only[nm]
  refine wpK_ops rfl (fun w1 hu => ?_) ?_
  · clear hu
    go_simp
    first | done | rfl
  simp only[nm]
  refine wpK_ops rfl (fun w1 hu => ?_) ?_
  · have cl0 := (h36.up ((Up.refl _).drew.trans hu)).cell (o := 0) rfl
    have cl1 := (h36.up ((Up.refl _).drew.trans hu)).cell (o := 1) rfl
    go_simp
    first | done | rfl
  simp only[nm]
  refine wpK_ops rfl (fun w1 hu => ?_) ?_
  · have cl0 := ((hb11.up ((hu16.out.trans hu22.out).trans hu32.out)).up ((Up.refl _).drew.trans hu)).cell (o := 0) rfl
    have cl1 := ((hb11.up ((hu16.out.trans hu22.out).trans hu32.out)).up ((Up.refl _).drew.trans hu)).cell (o := 1) rfl
    go_simp
    first | done | rfl
  simp only[nm]
  refine wpK_ops rfl (fun w1 hu => ?_) ?_
  · have cl0 := ((h26.up hu32.out).up ((Up.refl _).drew.trans hu)).cell (o := 0) rfl
    go_simp
    first | done | rfl
  simp only[nm]
  refine wpK_ops rfl (fun w1 hu => ?_) ?_
  · clear hu
    go_simp
    first | done | rfl
  simp only[nm]
  refine wpK_ops rfl (fun w1 hu => ?_) ?_
  · have cl0 := (h36.up ((Up.refl _).drew.trans hu)).cell (o := 2) rfl
    go_simp
    first | done | rfl
  simp only[nm]
  refine wpK_ops rfl (fun w1 hu => ?_) ?_
  · clear hu
    go_simp
    first | done | rfl
  simp only[nm]
  refine wpK_ops rfl (fun w1 hu => ?_) ?_
  · have hcl := (impl_divide.calls K a0 a2_2 t29 t44 w1  A45.out)
    clear hu
    replace hcl := Aside0.mk hcl
    go_simp
    exact hcl.out
  simp only[nm]
  refine wpK_ops rfl (fun w1 hu => ?_) ?_
  · have hcl := (impl_combination.calls K a0 a2_0 a2_1 a3_0 a3_1 t44 t46 t47 w1  A48.out)
    clear hu
    replace hcl := Aside0.mk hcl
    go_simp
    exact hcl.out
  simp only[nm]
  refine wpK_nil ?_
  intro w49 hu hap
  simp only [List.drop_succ_cons, List.drop_zero]
  replace hu := (Up.refl _).drew.trans hu
  clear hap
  have hu50 := Aside0.mk hu
  clear hu
  refine stw [.int .i64 t46, .int .i64 t47] (hb14.up ((hu22.out.trans hu32.out).trans hu50.out)) rfl rfl rfl rfl rfl (by kernel_rfl) rfl rfl ?_
  intro w51 hs52 hb53
  refine wpp fun k h=>?_;go_simp;apply h;clear h k
  refine wln (hK43 _ _ ?_)
  refine wp_ret ?_
  refine hQf _ _ _ ?_
  have cr0 := hb53.cell (o := 0) rfl
  have cr1 := hb53.cell (o := 1) rfl
  exact bodyPost_ret (v := .tuple #[.agg #[.int .i64 t46, .int .i64 t47], .int .i64 0]) (by first|rfl|simp [results, Tryz.results17, go_sem, cr0, cr1]<;>rfl) rfl ⟨rfl, (((hm25.out.trans hu32.out).trans hu50.out).sto (Nat.le_trans ((Nat.le_trans ((Nat.le_trans ((Nat.le_trans (hu4.out.size) hu7.out.size)) hu10.out.size)) hu13.out.size)) lbb14.out) hs52.out)⟩

set_option maxHeartbeats 40000000 in
set_option maxRecDepth 100000 in
theorem spec_InversePoint.calls (K : Nat) (a0 : Int) (a1 : Int) (a2_0 : Int) (a2_1 : Int) (a2_2 : Int) (a3_0 : Int) (a3_1 : Int) (r0 : Int) (r1 : Int) (r2 : Int) (w : World)  (h : spec_InversePoint.f K a0 a1 a2_0 a2_1 a2_2 a3_0 a3_1 = some (r0, r1, r2)) :
    Calls Tryz.prog 18 #[.int .i64 a0, .int .i64 a1, .agg #[.int .i64 a2_0, .int .i64 a2_1, .int .i64 a2_2], .agg #[.int .i64 a3_0, .int .i64 a3_1]] w fun e w' => e = .returned (.tuple #[.agg #[.int .i64 r0, .int .i64 r1], .int .i64 r2]) ∧ Up w w' := by
 have H : (((spec_l06Given.f K a0 a1 a2_0 a2_1 a2_2 a3_0 a3_1).bind fun t13 => (if (t13 == 0) = true then ((spec_l02Quadrance.f K a0 a1 a2_0 a2_1 a3_0 a3_1).bind fun t21 => (if (t21 == 0) = true then some (0, 0, 5) else ((spec_l01Inverse.f K t21 a0).bind fun t35 => ((spec_l01Mod.f K (wrap64 (a2_2 * t35)) a0).bind fun t37 => ((spec_l01Minus.f K a0 a3_0 a3_1 a2_0 a2_1).bind fun (t42, t43) => ((spec_l01Times.f K a0 t37 t42 t43).bind fun (t45, t46) => ((spec_l01Plus.f K a0 a2_0 a2_1 t45 t46).bind fun (t48, t49) => some (t48, t49, 0)))))))) else some (0, 0, t13))) : Option (Int × Int × Int)) = some (r0, r1, r2) := h
 clear h
 obtain ⟨t13,A14,H⟩:=bnd H;try dsimp only at H
 go_enter Tryz.func18, Tryz.ntmps18
 refine wp_hide (fun Qf hQf => ?_)
 refine wsr fun _ hK1=>?_
 refine stp (cs := [.int .i64 a2_0, .int .i64 a2_1, .int .i64 a2_2]) (T := 27) ?_
 intro b2 w3 hu4 lbb2 ltb2 hb2
 simp only[nm]
 refine stp (cs := [.int .i64 a3_0, .int .i64 a3_1]) (T := 25) ?_
 intro b5 w6 hu7 lbb5 ltb5 hb5
 simp only[nm]
 refine stp (cs := [.int .i64 0, .int .i64 0]) (T := 25) ?_
 intro b8 w9 hu10 lbb8 ltb8 hb8
 simp only[nm]
 refine wpp fun k h=>?_;go_simp;apply h;clear h k
 refine wln (hK1 _ _ ?_)
 refine wp_seq_k fun K11 hK11=>?_
 refine wsr fun _ hK12=>?_
 iterate 2 (refine wpp fun k h=>?_;go_simp;apply h;clear h k)
 have cl0 := (hb2.up (hu7.out.trans hu10.out)).cell (o := 0) rfl
 have cl1 := (hb2.up (hu7.out.trans hu10.out)).cell (o := 1) rfl
 have cl2 := (hb2.up (hu7.out.trans hu10.out)).cell (o := 2) rfl
 refine wpp fun k h=>?_;go_simp;apply h;clear h k
 clear cl0 cl1 cl2
 have cl0 := (hb5.up hu10.out).cell (o := 0) rfl
 have cl1 := (hb5.up hu10.out).cell (o := 1) rfl
 refine wpp fun k h=>?_;go_simp;apply h;clear h k
 clear cl0 cl1
 refine stc (spec_l06Given.calls K a0 a1 a2_0 a2_1 a2_2 a3_0 a3_1 t13 w9  A14.out) ?_
 intro w15 hu16
 simp only[nm]
 refine wpp fun k h=>?_;go_simp;apply h;clear h k
 refine wln (hK12 _ _ ?_)
 refine wsr fun _ hK17=>?_
 iterate 2 (refine wpp fun k h=>?_;go_simp;apply h;clear h k)
 refine wln (hK17 _ _ ?_)
 have hm19 := Aside0.mk (((hu4.out.trans hu7.out).trans hu10.out).trans hu16.out)
 by_cases c18 : (t13 == 0) = true
 rotate_left
 ·
  rw [if_neg c18] at H; replace c18 := Bool.eq_false_iff.mpr c18
  have c18n : (t13 != 0) = true := by rw [bne, c18]; rfl
  have c18p : ¬ t13 = 0 := fun e => by simp [e] at c18
  simp only [Option.some.injEq, Prod.mk.injEq] at H
  obtain ⟨rfl, rfl, rfl⟩ := H
  try simp only [c18, c18n, Bool.not_true, Bool.not_false]
  refine wp_cond_true rfl ?_
  refine wsr fun _ hK57=>?_
  iterate 2 (refine wpp fun k h=>?_;go_simp;apply h;clear h k)
  refine stw [.int .i64 0, .int .i64 0] (hb8.up hu16.out) rfl rfl rfl rfl rfl (by kernel_rfl) rfl rfl ?_
  intro w58 hs59 hb60
  refine wpp fun k h=>?_;go_simp;apply h;clear h k
  refine wln (hK57 _ _ ?_)
  refine wp_ret ?_
  refine hQf _ _ _ ?_
  have cr0 := hb60.cell (o := 0) rfl
  have cr1 := hb60.cell (o := 1) rfl
  exact bodyPost_ret (v := .tuple #[.agg #[.int .i64 0, .int .i64 0], .int .i64 t13]) (by first|rfl|simp [results, Tryz.results18, go_sem, cr0, cr1]<;>rfl) rfl ⟨rfl, (hm19.out.sto (Nat.le_trans ((Nat.le_trans (hu4.out.size) hu7.out.size)) lbb8.out) hs59.out)⟩
 rw [if_pos c18] at H
 have c18n : (t13 != 0) = false := by rw [bne, c18]; rfl
 obtain ⟨t21,A22,H⟩:=bnd H;try dsimp only at H
 try simp only [c18, c18n, Bool.not_true, Bool.not_false]
 refine wp_cond_false rfl ?_
 refine wp_skip ?_
 refine hK11 _ _ ?_
 refine wsr fun _ hK20=>?_
 iterate 3 (refine wpp fun k h=>?_;go_simp;apply h;clear h k)
 have cl0 := (hb2.up ((hu7.out.trans hu10.out).trans hu16.out)).cell (o := 0) rfl
 have cl1 := (hb2.up ((hu7.out.trans hu10.out).trans hu16.out)).cell (o := 1) rfl
 refine wpp fun k h=>?_;go_simp;apply h;clear h k
 clear cl0 cl1
 have cl0 := (hb5.up (hu10.out.trans hu16.out)).cell (o := 0) rfl
 have cl1 := (hb5.up (hu10.out.trans hu16.out)).cell (o := 1) rfl
 refine wpp fun k h=>?_;go_simp;apply h;clear h k
 clear cl0 cl1
 refine stc (spec_l02Quadrance.calls K a0 a1 a2_0 a2_1 a3_0 a3_1 t21 w15  A22.out) ?_
 intro w23 hu24
 simp only[nm]
 refine wpp fun k h=>?_;go_simp;apply h;clear h k
 refine wln (hK20 _ _ ?_)
 refine wp_seq_k fun K25 hK25=>?_
 refine wsr fun _ hK26=>?_
 iterate 2 (refine wpp fun k h=>?_;go_simp;apply h;clear h k)
 refine wln (hK26 _ _ ?_)
 have h28 := (hb2.up (((hu7.out.trans hu10.out).trans hu16.out).trans hu24.out))
 by_cases c27 : (t21 == 0) = true
 ·
  rw [if_pos c27] at H
  have c27n : (t21 != 0) = false := by rw [bne, c27]; rfl
  simp only [Option.some.injEq, Prod.mk.injEq] at H
  obtain ⟨rfl, rfl, rfl⟩ := H
  try simp only [c27, c27n, Bool.not_true, Bool.not_false]
  refine wp_cond_true rfl ?_
  refine wsr fun _ hK29=>?_
  refine wpp fun k h=>?_;go_simp;apply h;clear h k
  refine stw [.int .i64 0, .int .i64 0] (hb8.up (hu16.out.trans hu24.out)) rfl rfl rfl rfl rfl (by kernel_rfl) rfl rfl ?_
  intro w30 hs31 hb32
  refine wpp fun k h=>?_;go_simp;apply h;clear h k
  refine wln (hK29 _ _ ?_)
  refine wp_ret ?_
  refine hQf _ _ _ ?_
  have cr0 := hb32.cell (o := 0) rfl
  have cr1 := hb32.cell (o := 1) rfl
  exact bodyPost_ret (v := .tuple #[.agg #[.int .i64 0, .int .i64 0], .int .i64 5]) (by first|rfl|simp [results, Tryz.results18, go_sem, cr0, cr1]<;>rfl) rfl ⟨rfl, ((hm19.out.trans hu24.out).sto (Nat.le_trans ((Nat.le_trans (hu4.out.size) hu7.out.size)) lbb8.out) hs31.out)⟩
 rw [if_neg c27] at H; replace c27 := Bool.eq_false_iff.mpr c27
 have c27n : (t21 != 0) = true := by rw [bne, c27]; rfl
 have c27p : ¬ t21 = 0 := fun e => by simp [e] at c27
 obtain ⟨t35,A36,H⟩:=bnd H;try dsimp only at H
 obtain ⟨t37,A38,H⟩:=bnd H;try dsimp only at H
 obtain ⟨⟨t42, t43⟩,A44,H⟩:=bnd H;try dsimp only at H
 obtain ⟨⟨t45, t46⟩,A47,H⟩:=bnd H;try dsimp only at H
 obtain ⟨⟨t48, t49⟩,A50,H⟩:=bnd H;try dsimp only at H
 simp only [Option.some.injEq, Prod.mk.injEq] at H
 obtain ⟨rfl, rfl, rfl⟩ := H
 try simp only [c27, c27n, Bool.not_true, Bool.not_false]
 refine wp_cond_false rfl ?_
 refine wp_skip ?_
 refine hK25 _ _ ?_
 refine wp_seq_k fun K34 hK34=>?_
 refine' wp_region_up 8 [Slot.det _, Slot.det _, Slot.det _, Slot.det _, Slot.det (.int .i64 t35), Slot.det _, Slot.det _, Slot.det (.int .i64 t37)] (by kernel_rfl) (by kernel_rfl) ?main
 case main =>
  simp only [List.take_succ_cons, List.take_zero]
  refine wpK_ops rfl (fun w1 hu => ?_) ?_
  · clear hu
    go_simp
    first | done | rfl
  simp only[nm]
  refine wpK_ops rfl (fun w1 hu => ?_) ?_
  · have cl0 := (h28.up ((Up.refl _).drew.trans hu)).cell (o := 2) rfl
    go_simp
    first | done | rfl
  simp only[nm]
  refine wpK_ops rfl (fun w1 hu => ?_) ?_
  · clear hu
    go_simp
    first | done | rfl
  simp only[nm]
  refine wpK_ops rfl (fun w1 hu => ?_) ?_
  · clear hu
    go_simp
    first | done | rfl
  simp only[nm]
  refine wpK_ops rfl (fun w1 hu => ?_) ?_
  · have hcl := (spec_l01Inverse.calls K t21 a0 t35 w1  A36.out)
    clear hu
    replace hcl := Aside0.mk hcl
    go_simp
    exact hcl.out
  simp only[nm]
  refine wpK_ops rfl (fun w1 hu => ?_) ?_
  · clear hu
    go_simp
    first | done | rfl
  simp only[nm]
  refine wpK_ops rfl (fun w1 hu => ?_) ?_
  · clear hu
    go_simp
    first | done | rfl
  simp only[nm]
  refine wpK_ops rfl (fun w1 hu => ?_) ?_
  · have hcl := (spec_l01Mod.calls K (wrap64 (a2_2 * t35)) a0 t37 w1  A38.out)
    clear hu
    replace hcl := Aside0.mk hcl
    go_simp
    exact hcl.out
  simp only[nm]
  refine wpK_nil ?_
  intro w39 hu hap
  simp only [List.drop_succ_cons, List.drop_zero]
  replace hu := (Up.refl _).drew.trans hu
  clear hap
  have hu40 := Aside0.mk hu
  clear hu
  refine wpp fun k h=>?_;go_simp;apply h;clear h k
  refine wln (hK34 _ _ ?_)
  refine wp_seq_k fun K41 hK41=>?_
  refine' wp_region_up 12 [Slot.det _, Slot.det _, Slot.det _, Slot.det _, Slot.det _, Slot.det _, Slot.det _, Slot.det _, Slot.det _, Slot.det (.agg #[.int .i64 t42, .int .i64 t43]), Slot.det (.agg #[.int .i64 t45, .int .i64 t46]), Slot.det (.agg #[.int .i64 t48, .int .i64 t49])] (by kernel_rfl) (by kernel_rfl) ?main
  case main =>
   simp only [List.take_succ_cons, List.take_zero]
   refine wpK_ops rfl (fun w1 hu => ?_) ?_
   · clear hu
     go_simp
     first | done | rfl
   simp only[nm]
   refine wpK_ops rfl (fun w1 hu => ?_) ?_
   · clear hu
     go_simp
     first | done | rfl
   simp only[nm]
   refine wpK_ops rfl (fun w1 hu => ?_) ?_
   · have cl0 := ((h28.up hu40.out).up ((Up.refl _).drew.trans hu)).cell (o := 0) rfl
     have cl1 := ((h28.up hu40.out).up ((Up.refl _).drew.trans hu)).cell (o := 1) rfl
     go_simp
     first | done | rfl
   simp only[nm]
   refine wpK_ops rfl (fun w1 hu => ?_) ?_
   · clear hu
     go_simp
     first | done | rfl
   simp only[nm]
   refine wpK_ops rfl (fun w1 hu => ?_) ?_
   · clear hu
     go_simp
     first | done | rfl
   simp only[nm]
   refine wpK_ops rfl (fun w1 hu => ?_) ?_
   · clear hu
     go_simp
     first | done | rfl
   simp only[nm]
   refine wpK_ops rfl (fun w1 hu => ?_) ?_
   · have cl0 := ((hb5.up (((hu10.out.trans hu16.out).trans hu24.out).trans hu40.out)).up ((Up.refl _).drew.trans hu)).cell (o := 0) rfl
     have cl1 := ((hb5.up (((hu10.out.trans hu16.out).trans hu24.out).trans hu40.out)).up ((Up.refl _).drew.trans hu)).cell (o := 1) rfl
     go_simp
     first | done | rfl
   simp only[nm]
   refine wpK_ops rfl (fun w1 hu => ?_) ?_
   · clear hu
     go_simp
     first | done | rfl
   simp only[nm]
   refine wpK_ops rfl (fun w1 hu => ?_) ?_
   · have cl0 := ((h28.up hu40.out).up ((Up.refl _).drew.trans hu)).cell (o := 0) rfl
     have cl1 := ((h28.up hu40.out).up ((Up.refl _).drew.trans hu)).cell (o := 1) rfl
     go_simp
     first | done | rfl
   simp only[nm]
   refine wpK_ops rfl (fun w1 hu => ?_) ?_
   · have hcl := (spec_l01Minus.calls K a0 a3_0 a3_1 a2_0 a2_1 t42 t43 w1  A44.out)
     clear hu
     replace hcl := Aside0.mk hcl
     go_simp
     exact hcl.out
   simp only[nm]
   refine wpK_ops rfl (fun w1 hu => ?_) ?_
   · have hcl := (spec_l01Times.calls K a0 t37 t42 t43 t45 t46 w1  A47.out)
     clear hu
     replace hcl := Aside0.mk hcl
     go_simp
     exact hcl.out
   simp only[nm]
   refine wpK_ops rfl (fun w1 hu => ?_) ?_
   · have hcl := (spec_l01Plus.calls K a0 a2_0 a2_1 t45 t46 t48 t49 w1  A50.out)
     clear hu
     replace hcl := Aside0.mk hcl
     go_simp
     exact hcl.out
   simp only[nm]
   refine wpK_nil ?_
   intro w51 hu hap
   simp only [List.drop_succ_cons, List.drop_zero]
   replace hu := (Up.refl _).drew.trans hu
   clear hap
   have hu52 := Aside0.mk hu
   clear hu
   refine stw [.int .i64 t48, .int .i64 t49] (hb8.up (((hu16.out.trans hu24.out).trans hu40.out).trans hu52.out)) rfl rfl rfl rfl rfl (by kernel_rfl) rfl rfl ?_
   intro w53 hs54 hb55
   refine wpp fun k h=>?_;go_simp;apply h;clear h k
   refine wln (hK41 _ _ ?_)
   refine wp_ret ?_
   refine hQf _ _ _ ?_
   have cr0 := hb55.cell (o := 0) rfl
   have cr1 := hb55.cell (o := 1) rfl
   exact bodyPost_ret (v := .tuple #[.agg #[.int .i64 t48, .int .i64 t49], .int .i64 0]) (by first|rfl|simp [results, Tryz.results18, go_sem, cr0, cr1]<;>rfl) rfl ⟨rfl, ((((hm19.out.trans hu24.out).trans hu40.out).trans hu52.out).sto (Nat.le_trans ((Nat.le_trans (hu4.out.size) hu7.out.size)) lbb8.out) hs54.out)⟩

set_option maxHeartbeats 40000000 in
set_option maxRecDepth 100000 in
theorem impl_IsCircle.calls (K : Nat) (a0 : Int) (a1_0 : Int) (a1_1 : Int) (a1_2 : Int) (r0 : Bool) (r1 : Int) (w : World)  (h : impl_IsCircle.f K a0 a1_0 a1_1 a1_2 = some (r0, r1)) :
    Calls Tryz.prog 19 #[.int .i64 a0, .agg #[.int .i64 a1_0, .int .i64 a1_1, .int .i64 a1_2]] w fun e w' => e = .returned (.tuple #[.bool r0, .int .i64 r1]) ∧ Up w w' := by
 have H : (((impl_IsField.f K a0).bind fun t7 => (if t7 = true then ((impl_isCircle.f K a0 a1_0 a1_1 a1_2).bind fun t13 => some (t13, 0)) else some (false, 1))) : Option (Bool × Int)) = some (r0, r1) := h
 clear h
 obtain ⟨t7,A8,H⟩:=bnd H;try dsimp only at H
 go_enter Tryz.func19, Tryz.ntmps19
 refine wp_hide (fun Qf hQf => ?_)
 refine wsr fun _ hK1=>?_
 refine stp (cs := [.int .i64 a1_0, .int .i64 a1_1, .int .i64 a1_2]) (T := 27) ?_
 intro b2 w3 hu4 lbb2 ltb2 hb2
 simp only[nm]
 iterate 2 (refine wpp fun k h=>?_;go_simp;apply h;clear h k)
 refine wln (hK1 _ _ ?_)
 refine wp_seq_k fun K5 hK5=>?_
 refine wsr fun _ hK6=>?_
 refine wpp fun k h=>?_;go_simp;apply h;clear h k
 refine stc (impl_IsField.calls K a0 t7 w3  A8.out) ?_
 intro w9 hu10
 simp only[nm]
 refine wpp fun k h=>?_;go_simp;apply h;clear h k
 refine wln (hK6 _ _ ?_)
 by_cases c11 : (t7) = true
 rotate_left
 ·
  rw [if_neg c11] at H; replace c11 := Bool.eq_false_iff.mpr c11
  subst c11
  simp only [Option.some.injEq, Prod.mk.injEq] at H
  obtain ⟨rfl, rfl⟩ := H
  refine wp_cond_true rfl ?_
  refine wsr fun _ hK17=>?_
  iterate 2 (refine wpp fun k h=>?_;go_simp;apply h;clear h k)
  refine wln (hK17 _ _ ?_)
  refine wp_ret ?_
  refine hQf _ _ _ ?_
  exact bpr (v := .tuple #[.bool false, .int .i64 1]) ⟨rfl, (hu4.out.trans hu10.out)⟩
 rw [if_pos c11] at H
 subst c11
 obtain ⟨t13,A14,H⟩:=bnd H;try dsimp only at H
 simp only [Option.some.injEq, Prod.mk.injEq] at H
 obtain ⟨rfl, rfl⟩ := H
 refine wp_cond_false rfl ?_
 refine wp_skip ?_
 refine hK5 _ _ ?_
 refine wsr fun _ hK12=>?_
 refine wpp fun k h=>?_;go_simp;apply h;clear h k
 have cl0 := (hb2.up hu10.out).cell (o := 0) rfl
 have cl1 := (hb2.up hu10.out).cell (o := 1) rfl
 have cl2 := (hb2.up hu10.out).cell (o := 2) rfl
 refine wpp fun k h=>?_;go_simp;apply h;clear h k
 clear cl0 cl1 cl2
 refine stc (impl_isCircle.calls K a0 a1_0 a1_1 a1_2 t13 w9  A14.out) ?_
 intro w15 hu16
 simp only[nm]
 iterate 2 (refine wpp fun k h=>?_;go_simp;apply h;clear h k)
 refine wln (hK12 _ _ ?_)
 refine wp_ret ?_
 refine hQf _ _ _ ?_
 exact bpr (v := .tuple #[.bool t13, .int .i64 0]) ⟨rfl, ((hu4.out.trans hu10.out).trans hu16.out)⟩

set_option maxHeartbeats 40000000 in
set_option maxRecDepth 100000 in
theorem impl_TangentsFrom_1.calls (K : Nat) (bf0 : Nat) (f0_0 : Int) (bf1 : Nat) (f1_0 : Int) (bf2 : Nat) (f2_0 : Int) (f2_1 : Int) (f2_2 : Int) (bf3 : Nat) (f3_0 : Int) (f3_1 : Int) (r0 : Bool) (w : World) (hf0 : Blk w bf0 [.int .i64 f0_0] 2) (hf1 : Blk w bf1 [.int .i64 f1_0] 2) (hf2 : Blk w bf2 [.int .i64 f2_0, .int .i64 f2_1, .int .i64 f2_2] 27) (hf3 : Blk w bf3 [.int .i64 f3_0, .int .i64 f3_1] 25) (h : impl_TangentsFrom_1.f K f0_0 f1_0 f2_0 f2_1 f2_2 f3_0 f3_1 = some (r0)) :
    Calls Tryz.prog 68 #[.pointer (some ⟨bf0, 0, none⟩), .pointer (some ⟨bf1, 0, none⟩), .pointer (some ⟨bf2, 0, none⟩), .pointer (some ⟨bf3, 0, none⟩)] w fun e w' => e = .returned (.bool r0) ∧ Up w w' := by
 have H : (((impl_isColour.f K f0_0).bind fun t3 => (if t3 = true then ((impl_isCircle.f K f1_0 f2_0 f2_1 f2_2).bind fun t8 => (if t8 = true then ((impl_isPoint.f K f1_0 f3_0 f3_1).bind fun t13 => some t13) else some false)) else some false)) : Option (Bool)) = some (r0) := h
 clear h
 obtain ⟨t3,A4,H⟩:=bnd H;try dsimp only at H
 have ltbf0 := Aside0.mk hf0.lt
 have ltbf1 := Aside0.mk hf1.lt
 have ltbf2 := Aside0.mk hf2.lt
 have ltbf3 := Aside0.mk hf3.lt
 go_enter Tryz.func68, Tryz.ntmps68
 refine wp_hide (fun Qf hQf => ?_)
 refine wsr fun _ hK1=>?_
 refine wpp fun k h=>?_;go_simp;apply h;clear h k
 refine wln (hK1 _ _ ?_)
 refine wsr fun _ hK2=>?_
 have cl0 := hf0.cell (o := 0) rfl
 refine wpp fun k h=>?_;go_simp;apply h;clear h k
 clear cl0
 refine stc (impl_isColour.calls K f0_0 t3 w  A4.out) ?_
 intro w5 hu6
 simp only[nm]
 refine wpp fun k h=>?_;go_simp;apply h;clear h k
 by_cases c7 : (t3) = true
 rotate_left
 ·
  rw [if_neg c7] at H; replace c7 := Bool.eq_false_iff.mpr c7
  subst c7
  obtain rfl := Option.some.inj H
  refine step_no rfl ?_
  simp only[nm]
  refine step_no rfl ?_
  simp only[nm]
  refine step_no rfl ?_
  simp only[nm]
  iterate 2 (refine wpp fun k h=>?_;go_simp;apply h;clear h k)
  refine step_no rfl ?_
  simp only[nm]
  refine step_no rfl ?_
  simp only[nm]
  refine step_no rfl ?_
  simp only[nm]
  iterate 2 (refine wpp fun k h=>?_;go_simp;apply h;clear h k)
  refine wln (hK2 _ _ ?_)
  refine wp_ret ?_
  refine hQf _ _ _ ?_
  exact bpr (v := .bool false) ⟨rfl, hu6.out⟩
 rw [if_pos c7] at H
 subst c7
 obtain ⟨t8,A9,H⟩:=bnd H;try dsimp only at H
 have cl0 := (hf1.up hu6.out).cell (o := 0) rfl
 refine wpList_step fun k h=>?_;go_simp;apply h;clear h k
 clear cl0
 have cl0 := (hf2.up hu6.out).cell (o := 0) rfl
 have cl1 := (hf2.up hu6.out).cell (o := 1) rfl
 have cl2 := (hf2.up hu6.out).cell (o := 2) rfl
 refine wpList_step fun k h=>?_;go_simp;apply h;clear h k
 clear cl0 cl1 cl2
 refine step_call rfl (by go_simp <;> rfl) (impl_isCircle.calls K f1_0 f2_0 f2_1 f2_2 t8 w5  A9.out) ?_
 rintro e w10 ⟨rfl, hu⟩
 have hu11 := Aside0.mk hu
 clear hu
 refine ⟨_, rfl, ?_⟩
 simp only[nm]
 iterate 2 (refine wpp fun k h=>?_;go_simp;apply h;clear h k)
 by_cases c12 : (t8) = true
 rotate_left
 ·
  rw [if_neg c12] at H; replace c12 := Bool.eq_false_iff.mpr c12
  subst c12
  obtain rfl := Option.some.inj H
  refine step_no rfl ?_
  simp only[nm]
  refine step_no rfl ?_
  simp only[nm]
  refine step_no rfl ?_
  simp only[nm]
  iterate 2 (refine wpp fun k h=>?_;go_simp;apply h;clear h k)
  refine wln (hK2 _ _ ?_)
  refine wp_ret ?_
  refine hQf _ _ _ ?_
  exact bpr (v := .bool false) ⟨rfl, (hu6.out.trans hu11.out)⟩
 rw [if_pos c12] at H
 subst c12
 obtain ⟨t13,A14,H⟩:=bnd H;try dsimp only at H
 obtain rfl := Option.some.inj H
 have cl0 := (hf1.up (hu6.out.trans hu11.out)).cell (o := 0) rfl
 refine wpList_step fun k h=>?_;go_simp;apply h;clear h k
 clear cl0
 have cl0 := (hf3.up (hu6.out.trans hu11.out)).cell (o := 0) rfl
 have cl1 := (hf3.up (hu6.out.trans hu11.out)).cell (o := 1) rfl
 refine wpList_step fun k h=>?_;go_simp;apply h;clear h k
 clear cl0 cl1
 refine step_call rfl (by go_simp <;> rfl) (impl_isPoint.calls K f1_0 f3_0 f3_1 t13 w10  A14.out) ?_
 rintro e w15 ⟨rfl, hu⟩
 have hu16 := Aside0.mk hu
 clear hu
 refine ⟨_, rfl, ?_⟩
 simp only[nm]
 iterate 2 (refine wpp fun k h=>?_;go_simp;apply h;clear h k)
 refine wln (hK2 _ _ ?_)
 refine wp_ret ?_
 refine hQf _ _ _ ?_
 exact bpr (v := .bool t13) ⟨rfl, ((hu6.out.trans hu11.out).trans hu16.out)⟩

set_option maxHeartbeats 40000000 in
set_option maxRecDepth 100000 in
theorem impl_asked__impl_TangentsFrom_1.calls (K : Nat) (a0 : Int) (bc1_0 : Nat) (c1_0_0 : Int) (bc1_1 : Nat) (c1_1_0 : Int) (bc1_2 : Nat) (c1_2_0 : Int) (c1_2_1 : Int) (c1_2_2 : Int) (bc1_3 : Nat) (c1_3_0 : Int) (c1_3_1 : Int) (r0 : Int) (w : World) (hc1_0 : Blk w bc1_0 [.int .i64 c1_0_0] 2) (hc1_1 : Blk w bc1_1 [.int .i64 c1_1_0] 2) (hc1_2 : Blk w bc1_2 [.int .i64 c1_2_0, .int .i64 c1_2_1, .int .i64 c1_2_2] 27) (hc1_3 : Blk w bc1_3 [.int .i64 c1_3_0, .int .i64 c1_3_1] 25) (h : impl_asked__impl_TangentsFrom_1.f K a0 c1_0_0 c1_1_0 c1_2_0 c1_2_1 c1_2_2 c1_3_0 c1_3_1 = some (r0)) :
    Calls Tryz.prog 26 #[.int .i64 a0, .func (.func 68) #[] #[.pointer (some ⟨bc1_0, 0, none⟩), .pointer (some ⟨bc1_1, 0, none⟩), .pointer (some ⟨bc1_2, 0, none⟩), .pointer (some ⟨bc1_3, 0, none⟩)]] w fun e w' => e = .returned (.int .i64 r0) ∧ Up w w' := by
 have H : (((impl_IsField.f K a0).bind fun t4 => (if t4 = true then ((impl_TangentsFrom_1.f K c1_0_0 c1_1_0 c1_2_0 c1_2_1 c1_2_2 c1_3_0 c1_3_1).bind fun t11 => (if t11 = true then some 0 else some 2)) else some 1)) : Option (Int)) = some (r0) := h
 clear h
 obtain ⟨t4,A5,H⟩:=bnd H;try dsimp only at H
 have ltbc1_0 := Aside0.mk hc1_0.lt
 have ltbc1_1 := Aside0.mk hc1_1.lt
 have ltbc1_2 := Aside0.mk hc1_2.lt
 have ltbc1_3 := Aside0.mk hc1_3.lt
 go_enter Tryz.func26, Tryz.ntmps26
 refine wp_hide (fun Qf hQf => ?_)
 refine wsr fun _ hK1=>?_
 refine wpp fun k h=>?_;go_simp;apply h;clear h k
 refine wln (hK1 _ _ ?_)
 refine wp_seq_k fun K2 hK2=>?_
 refine wsr fun _ hK3=>?_
 refine wpp fun k h=>?_;go_simp;apply h;clear h k
 refine stc (impl_IsField.calls K a0 t4 w  A5.out) ?_
 intro w6 hu7
 simp only[nm]
 refine wpp fun k h=>?_;go_simp;apply h;clear h k
 refine wln (hK3 _ _ ?_)
 by_cases c8 : (t4) = true
 rotate_left
 ·
  rw [if_neg c8] at H; replace c8 := Bool.eq_false_iff.mpr c8
  subst c8
  obtain rfl := Option.some.inj H
  refine wp_cond_true rfl ?_
  refine wsr fun _ hK18=>?_
  refine wpp fun k h=>?_;go_simp;apply h;clear h k
  refine wln (hK18 _ _ ?_)
  refine wp_ret ?_
  refine hQf _ _ _ ?_
  exact bpr (v := .int .i64 1) ⟨rfl, hu7.out⟩
 rw [if_pos c8] at H
 subst c8
 obtain ⟨t11,A12,H⟩:=bnd H;try dsimp only at H
 refine wp_cond_false rfl ?_
 refine wp_skip ?_
 refine hK2 _ _ ?_
 refine wp_seq_k fun K9 hK9=>?_
 refine wsr fun _ hK10=>?_
 refine wpp fun k h=>?_;go_simp;apply h;clear h k
 refine stc (impl_TangentsFrom_1.calls K bc1_0 c1_0_0 bc1_1 c1_1_0 bc1_2 c1_2_0 c1_2_1 c1_2_2 bc1_3 c1_3_0 c1_3_1 t11 w6 (hc1_0.up hu7.out) (hc1_1.up hu7.out) (hc1_2.up hu7.out) (hc1_3.up hu7.out) A12.out) ?_
 intro w13 hu14
 simp only[nm]
 refine wpp fun k h=>?_;go_simp;apply h;clear h k
 refine wln (hK10 _ _ ?_)
 by_cases c15 : (t11) = true
 rotate_left
 ·
  rw [if_neg c15] at H; replace c15 := Bool.eq_false_iff.mpr c15
  subst c15
  obtain rfl := Option.some.inj H
  refine wp_cond_true rfl ?_
  refine wsr fun _ hK17=>?_
  refine wpp fun k h=>?_;go_simp;apply h;clear h k
  refine wln (hK17 _ _ ?_)
  refine wp_ret ?_
  refine hQf _ _ _ ?_
  exact bpr (v := .int .i64 2) ⟨rfl, (hu7.out.trans hu14.out)⟩
 rw [if_pos c15] at H
 subst c15
 obtain rfl := Option.some.inj H
 refine wp_cond_false rfl ?_
 refine wp_skip ?_
 refine hK9 _ _ ?_
 refine wsr fun _ hK16=>?_
 refine wpp fun k h=>?_;go_simp;apply h;clear h k
 refine wln (hK16 _ _ ?_)
 refine wp_ret ?_
 refine hQf _ _ _ ?_
 exact bpr (v := .int .i64 0) ⟨rfl, (hu7.out.trans hu14.out)⟩

set_option maxHeartbeats 40000000 in
set_option maxRecDepth 100000 in
theorem impl_pointsAt_1.calls (K : Nat) (a0_0 : Int) (a0_1 : Int) (bf0 : Nat) (f0_0 : Int) (bf1 : Nat) (f1_0 : Int) (bf2 : Nat) (f2_0 : Int) (f2_1 : Int) (bf3 : Nat) (f3_0 : Int) (r0 : Bool) (w : World) (hf0 : Blk w bf0 [.int .i64 f0_0] 2) (hf1 : Blk w bf1 [.int .i64 f1_0] 2) (hf2 : Blk w bf2 [.int .i64 f2_0, .int .i64 f2_1] 25) (hf3 : Blk w bf3 [.int .i64 f3_0] 2) (h : impl_pointsAt_1.f K a0_0 a0_1 f0_0 f1_0 f2_0 f2_1 f3_0 = some (r0)) :
    Calls Tryz.prog 105 #[.agg #[.int .i64 a0_0, .int .i64 a0_1], .pointer (some ⟨bf0, 0, none⟩), .pointer (some ⟨bf1, 0, none⟩), .pointer (some ⟨bf2, 0, none⟩), .pointer (some ⟨bf3, 0, none⟩)] w fun e w' => e = .returned (.bool r0) ∧ Up w w' := by
 have H : (((impl_quadrance.f K f0_0 f1_0 f2_0 f2_1 a0_0 a0_1).bind fun t6 => some (t6 == f3_0)) : Option (Bool)) = some (r0) := h
 clear h
 obtain ⟨t6,A7,H⟩:=bnd H;try dsimp only at H
 obtain rfl := Option.some.inj H
 have ltbf0 := Aside0.mk hf0.lt
 have ltbf1 := Aside0.mk hf1.lt
 have ltbf2 := Aside0.mk hf2.lt
 have ltbf3 := Aside0.mk hf3.lt
 go_enter Tryz.func105, Tryz.ntmps105
 refine wp_hide (fun Qf hQf => ?_)
 refine wsr fun _ hK1=>?_
 refine stp (cs := [.int .i64 a0_0, .int .i64 a0_1]) (T := 25) ?_
 intro b2 w3 hu4 lbb2 ltb2 hb2
 simp only[nm]
 refine wpp fun k h=>?_;go_simp;apply h;clear h k
 refine wln (hK1 _ _ ?_)
 refine wp_seq_k fun K5 hK5=>?_
 refine' wp_region_up 7 [Slot.det _, Slot.det _, Slot.det _, Slot.det _, Slot.det (.int .i64 t6), Slot.det _, Slot.det _] (by kernel_rfl) (by kernel_rfl) ?main
 case main =>
  simp only [List.take_succ_cons, List.take_zero]
  refine wpK_ops rfl (fun w1 hu => ?_) ?_
  · have cl0 := ((hf0.up hu4.out).up ((Up.refl _).drew.trans hu)).cell (o := 0) rfl
    go_simp
    first | done | rfl
  simp only[nm]
  refine wpK_ops rfl (fun w1 hu => ?_) ?_
  · have cl0 := ((hf1.up hu4.out).up ((Up.refl _).drew.trans hu)).cell (o := 0) rfl
    go_simp
    first | done | rfl
  simp only[nm]
  refine wpK_ops rfl (fun w1 hu => ?_) ?_
  · have cl0 := ((hf2.up hu4.out).up ((Up.refl _).drew.trans hu)).cell (o := 0) rfl
    have cl1 := ((hf2.up hu4.out).up ((Up.refl _).drew.trans hu)).cell (o := 1) rfl
    go_simp
    first | done | rfl
  simp only[nm]
  refine wpK_ops rfl (fun w1 hu => ?_) ?_
  · have cl0 := (hb2.up ((Up.refl _).drew.trans hu)).cell (o := 0) rfl
    have cl1 := (hb2.up ((Up.refl _).drew.trans hu)).cell (o := 1) rfl
    go_simp
    first | done | rfl
  simp only[nm]
  refine wpK_ops rfl (fun w1 hu => ?_) ?_
  · have hcl := (impl_quadrance.calls K f0_0 f1_0 f2_0 f2_1 a0_0 a0_1 t6 w1  A7.out)
    clear hu
    replace hcl := Aside0.mk hcl
    go_simp
    exact hcl.out
  simp only[nm]
  refine wpK_ops rfl (fun w1 hu => ?_) ?_
  · have cl0 := ((hf3.up hu4.out).up ((Up.refl _).drew.trans hu)).cell (o := 0) rfl
    go_simp
    first | done | rfl
  simp only[nm]
  refine wpK_ops rfl (fun w1 hu => ?_) ?_
  · clear hu
    go_simp
    first | done | rfl
  simp only[nm]
  refine wpK_nil ?_
  intro w8 hu hap
  simp only [List.drop_succ_cons, List.drop_zero]
  replace hu := (Up.refl _).drew.trans hu
  clear hap
  have hu9 := Aside0.mk hu
  clear hu
  refine wpp fun k h=>?_;go_simp;apply h;clear h k
  refine wln (hK5 _ _ ?_)
  refine wp_ret ?_
  refine hQf _ _ _ ?_
  exact bpr (v := .bool (t6 == f3_0)) ⟨rfl, (hu4.out.trans hu9.out)⟩

end Go.Proofs.YtccbmdpikalpfaaGreat
