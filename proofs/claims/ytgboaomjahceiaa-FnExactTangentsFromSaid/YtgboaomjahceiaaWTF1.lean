/- The walks: each of these functions of the program computes what its plain function says: laws_toPoint, laws_toCircle, spec_l01In, spec_l01Field, spec_l01Point, spec_l01Code, spec_l02Colour, spec_l02Code, spec_l06Is, spec_l06Code, spec_l06Given, spec_l01Mod, spec_l01Minus, spec_l02Product, spec_l02Quadrance, spec_l02At, spec_l01Inverse, spec_l01Normal, spec_l02Through, spec_l06Tangent, spec_l01On, spec_l06Before, spec_l06Put, spec_TangentsFrom, impl_IsField, impl_isColour, impl_isNumber, impl_areNumbers, impl_isPoint, impl_isCircle, impl_TangentsFrom_1, impl_asked__impl_TangentsFrom_1, impl_allPoints, impl_rest, impl_less, impl_product, impl_quadrance, impl_pointsAt_1, impl_pointsWith__impl_pointsAt_1, impl_pointsAt, impl_inverse, impl_divide, impl_makeLine, impl_through, impl_lineThrough. -/
import Derived.Test.YtgboaomjahceiaaProg
import Derived.Test.YtgboaomjahceiaaD1
import Derived.WalkKit
import Derived.KernelRfl
import Derived.BigQuiet
import Derived.Deep.LoopGhost
import Derived.Laws.StructEq
namespace Go.Proofs.Ytgboaomjahceiaa
open Go Go.RowKit
attribute [local go_sem] Oper.quiet Oper.quietAt Oper.quietUpon Act.put nm1 nm2 nm3 i64_w run_max2 run_min2 mkT_getD mkT_get mkT_set lookT_cons lookT_nil
attribute [local irreducible] wpList
set_option linter.unusedVariables false
set_option linter.unusedSimpArgs false

theorem eqD28 (a0 a1 b0 b1 : Int) (d : Nat) (w : World) : (Op.equalIn (d + 2) 28 (.agg #[.int .i64 a0, .int .i64 a1]) (.agg #[.int .i64 b0, .int .i64 b1])).run Try.prog w = .ok (a0 == b0 && a1 == b1) w := by
  rw [Op.equalIn]
  simp only [Sem.run_bind, run_underlying Try.underlying28, Result.andThen_ok]
  simp only [Std.Legacy.Range.forIn_eq_forIn_range', Std.Legacy.Range.size, Nat.sub_zero, Nat.add_sub_cancel, Nat.div_one, List.range'_succ, List.range'_zero, List.forIn_cons, List.forIn_nil]
  go_simp
  by_cases h0 : a0 = b0 <;> by_cases h1 : a1 = b1 <;> simp [h0, h1]
theorem eqT28 (a0 a1 b0 b1 : Int) (w : World) : (Op.equalIn 10000 28 (.agg #[.int .i64 a0, .int .i64 a1]) (.agg #[.int .i64 b0, .int .i64 b1])).run Try.prog w = .ok (a0 == b0 && a1 == b1) w := eqD28 a0 a1 b0 b1 9998 w

theorem eqD40 (a0 a1 a2 b0 b1 b2 : Int) (d : Nat) (w : World) : (Op.equalIn (d + 2) 40 (.agg #[.int .i64 a0, .int .i64 a1, .int .i64 a2]) (.agg #[.int .i64 b0, .int .i64 b1, .int .i64 b2])).run Try.prog w = .ok (a0 == b0 && (a1 == b1 && a2 == b2)) w := by
  rw [Op.equalIn]
  simp only [Sem.run_bind, run_underlying Try.underlying40, Result.andThen_ok]
  simp only [Std.Legacy.Range.forIn_eq_forIn_range', Std.Legacy.Range.size, Nat.sub_zero, Nat.add_sub_cancel, Nat.div_one, List.range'_succ, List.range'_zero, List.forIn_cons, List.forIn_nil]
  go_simp
  by_cases h0 : a0 = b0 <;> by_cases h1 : a1 = b1 <;> by_cases h2 : a2 = b2 <;> simp [h0, h1, h2]
theorem eqT40 (a0 a1 a2 b0 b1 b2 : Int) (w : World) : (Op.equalIn 10000 40 (.agg #[.int .i64 a0, .int .i64 a1, .int .i64 a2]) (.agg #[.int .i64 b0, .int .i64 b1, .int .i64 b2])).run Try.prog w = .ok (a0 == b0 && (a1 == b1 && a2 == b2)) w := eqD40 a0 a1 a2 b0 b1 b2 9998 w
attribute [local go_sem] eqT28
attribute [local go_sem] eqT40

set_option maxHeartbeats 40000000 in
set_option maxRecDepth 100000 in
theorem laws_toPoint.calls (K : Nat) (a0_0 : Int) (a0_1 : Int) (r0 : Int) (r1 : Int) (w : World)  (h : laws_toPoint.f K a0_0 a0_1 = some (r0, r1)) :
    Calls Try.prog 6 #[.agg #[.int .i64 a0_0, .int .i64 a0_1]] w fun e w' => e = .returned (.agg #[.int .i64 r0, .int .i64 r1]) ∧ Up w w' := by
 have H : (some (a0_0, a0_1) : Option (Int × Int)) = some (r0, r1) := h
 clear h
 simp only [Option.some.injEq, Prod.mk.injEq] at H
 obtain ⟨rfl, rfl⟩ := H
 go_enter Try.func6, Try.ntmps6
 refine wp_hide (fun Qf hQf => ?_)
 refine wsr fun _ hK1=>?_
 refine stp (cs := [.int .i64 a0_0, .int .i64 a0_1]) (T := 22) ?_
 intro b2 w3 hu4 lbb2 ltb2 hb2
 simp only[nm]
 refine stp (cs := [.int .i64 0, .int .i64 0]) (T := 28) ?_
 intro b5 w6 hu7 lbb5 ltb5 hb5
 simp only[nm]
 refine wln (hK1 _ _ ?_)
 refine wsr fun _ hK8=>?_
 refine stp (cs := [.int .i64 0, .int .i64 0]) (T := 28) ?_
 intro b9 w10 hu11 lbb9 ltb9 hb9
 simp only[nm]
 refine wln (hK8 _ _ ?_)
 refine wp_seq_k fun K12 hK12=>?_
 refine wsr fun _ hK13=>?_
 refine wpp fun k h=>?_;go_simp;apply h;clear h k
 refine wln (hK13 _ _ ?_)
 refine wp_block ?_
 refine wp_loop_rounds 40 ?_
 refine rounds_k (fun K14 hK14 => ?_)
 refine wp_seq_k fun K15 hK15=>?_
 refine wsr fun _ hK16=>?_
 iterate 2 (refine wpp fun k h=>?_;go_simp;apply h;clear h k)
 refine wln (hK16 _ _ ?_)
 refine wp_cond_true rfl ?_
 refine wp_skip ?_
 refine hK15 _ _ ?_
 refine wp_seq_k fun K17 hK17=>?_
 refine wp_block ?_
 refine wp_region_lit ?_
 iterate 3 (refine wpp fun k h=>?_;go_simp;apply h;clear h k)
 have cl0 := (hb2.up (hu7.out.trans hu11.out)).cell (o := 0) rfl
 refine wpp fun k h=>?_;go_simp;apply h;clear h k
 clear cl0
 refine wpp fun k h=>?_;go_simp;apply h;clear h k
 have hB0 := hb9
 have cl0 := hB0.cell (o := 0) rfl
 have fr0 := hB0.free 0
 refine step_store (b := b9) (cs' := [.int .i64 a0_0, .int .i64 0]) (T := 28) (W' := (w10.setCell ⟨b9, 0, none⟩ (.int .i64 a0_0))) rfl rfl (by go_simp <;> rfl) ((Sto.refl _ _).setCell 0 _) ((hB0).setCell 0 _) ?_
 clear hB0 cl0 fr0
 intro w18 hs hb20
 have hs19 := Aside0.mk hs
 clear hs
 refine wln (hK17 _ _ ?_)
 refine wp_region_lit ?_
 iterate 2 (refine wpp fun k h=>?_;go_simp;apply h;clear h k)
 try simp only [show wrap64 1 = 1 from wlit rfl]
 refine wpp fun k h=>?_;go_simp;apply h;clear h k
 refine wln (hK14 _ _ ?_)
 refine rounds_k (fun K21 hK21 => ?_)
 refine wp_seq_k fun K22 hK22=>?_
 refine wsr fun _ hK23=>?_
 iterate 2 (refine wpp fun k h=>?_;go_simp;apply h;clear h k)
 refine wln (hK23 _ _ ?_)
 refine wp_cond_true rfl ?_
 refine wp_skip ?_
 refine hK22 _ _ ?_
 refine wp_seq_k fun K24 hK24=>?_
 refine wp_block ?_
 refine wp_region_lit ?_
 iterate 3 (refine wpp fun k h=>?_;go_simp;apply h;clear h k)
 have cl0 := (hb2.up ((hu7.out.trans hu11.out).sto (Nat.le_trans (hu7.out.size) lbb9.out) hs19.out)).cell (o := 1) rfl
 refine wpp fun k h=>?_;go_simp;apply h;clear h k
 clear cl0
 refine wpp fun k h=>?_;go_simp;apply h;clear h k
 have hB0 := hb20
 have cl0 := hB0.cell (o := 1) rfl
 have fr0 := hB0.free 1
 refine step_store (b := b9) (cs' := [.int .i64 a0_0, .int .i64 a0_1]) (T := 28) (W' := (w18.setCell ⟨b9, 1, none⟩ (.int .i64 a0_1))) rfl rfl (by go_simp <;> rfl) ((Sto.refl _ _).setCell 1 _) ((hB0).setCell 1 _) ?_
 clear hB0 cl0 fr0
 intro w25 hs hb27
 have hs26 := Aside0.mk hs
 clear hs
 refine wln (hK24 _ _ ?_)
 refine wp_region_lit ?_
 iterate 2 (refine wpp fun k h=>?_;go_simp;apply h;clear h k)
 try simp only [show wrap64 2 = 2 from wlit rfl]
 refine wpp fun k h=>?_;go_simp;apply h;clear h k
 refine wln (hK21 _ _ ?_)
 refine rounds_k (fun K28 hK28 => ?_)
 refine wp_seq_k fun K29 hK29=>?_
 refine wsr fun _ hK30=>?_
 iterate 2 (refine wpp fun k h=>?_;go_simp;apply h;clear h k)
 refine wln (hK30 _ _ ?_)
 refine wp_cond_false rfl ?_
 refine wp_exit ?_
 refine hK12 _ _ ?_
 refine wsr fun _ hK31=>?_
 have cl0 := hb27.cell (o := 0) rfl
 have cl1 := hb27.cell (o := 1) rfl
 refine wpp fun k h=>?_;go_simp;apply h;clear h k
 clear cl0 cl1
 refine stw [.int .i64 a0_0, .int .i64 a0_1] (hb5.up ((hu11.out.sto (Nat.le_trans (Nat.le_refl _) lbb9.out) hs19.out).sto (Nat.le_trans (Nat.le_refl _) lbb9.out) hs26.out)) rfl rfl rfl rfl rfl (by kernel_rfl) rfl rfl ?_
 intro w32 hs33 hb34
 refine wln (hK31 _ _ ?_)
 refine wp_ret ?_
 refine hQf _ _ _ ?_
 have cr0 := hb34.cell (o := 0) rfl
 have cr1 := hb34.cell (o := 1) rfl
 exact bodyPost_ret (v := .agg #[.int .i64 a0_0, .int .i64 a0_1]) (by first|rfl|simp [results, Try.results6, go_sem, cr0, cr1]<;>rfl) rfl ⟨rfl, (((((hu4.out.trans hu7.out).trans hu11.out).sto (Nat.le_trans ((Nat.le_trans (hu4.out.size) hu7.out.size)) lbb9.out) hs19.out).sto (Nat.le_trans ((Nat.le_trans (hu4.out.size) hu7.out.size)) lbb9.out) hs26.out).sto (Nat.le_trans (hu4.out.size) lbb5.out) hs33.out)⟩

set_option maxHeartbeats 40000000 in
set_option maxRecDepth 100000 in
theorem laws_toCircle.calls (K : Nat) (a0_0 : Int) (a0_1 : Int) (a0_2 : Int) (r0 : Int) (r1 : Int) (r2 : Int) (w : World)  (h : laws_toCircle.f K a0_0 a0_1 a0_2 = some (r0, r1, r2)) :
    Calls Try.prog 5 #[.agg #[.int .i64 a0_0, .int .i64 a0_1, .int .i64 a0_2]] w fun e w' => e = .returned (.agg #[.int .i64 r0, .int .i64 r1, .int .i64 r2]) ∧ Up w w' := by
 have H : (((laws_toPoint.f K a0_0 a0_1).bind fun (t13, t14) => some (t13, t14, a0_2)) : Option (Int × Int × Int)) = some (r0, r1, r2) := h
 clear h
 obtain ⟨⟨t13, t14⟩,A15,H⟩:=bnd H;try dsimp only at H
 simp only [Option.some.injEq, Prod.mk.injEq] at H
 obtain ⟨rfl, rfl, rfl⟩ := H
 go_enter Try.func5, Try.ntmps5
 refine wp_hide (fun Qf hQf => ?_)
 refine wsr fun _ hK1=>?_
 refine stp (cs := [.int .i64 a0_0, .int .i64 a0_1, .int .i64 a0_2]) (T := 24) ?_
 intro b2 w3 hu4 lbb2 ltb2 hb2
 simp only[nm]
 refine stp (cs := [.int .i64 0, .int .i64 0, .int .i64 0]) (T := 30) ?_
 intro b5 w6 hu7 lbb5 ltb5 hb5
 simp only[nm]
 refine wln (hK1 _ _ ?_)
 refine wsr fun _ hK8=>?_
 refine stp (cs := [.int .i64 0, .int .i64 0, .int .i64 0]) (T := 30) ?_
 intro b9 w10 hu11 lbb9 ltb9 hb9
 simp only[nm]
 refine wln (hK8 _ _ ?_)
 refine wsr fun _ hK12=>?_
 refine wpp fun k h=>?_;go_simp;apply h;clear h k
 have cl0 := (hb2.up (hu7.out.trans hu11.out)).cell (o := 0) rfl
 have cl1 := (hb2.up (hu7.out.trans hu11.out)).cell (o := 1) rfl
 refine wpp fun k h=>?_;go_simp;apply h;clear h k
 clear cl0 cl1
 refine stc (laws_toPoint.calls K a0_0 a0_1 t13 t14 w10  A15.out) ?_
 intro w16 hu17
 simp only[nm]
 refine wpp fun k h=>?_;go_simp;apply h;clear h k
 have hB0 := (hb9.up hu17.out)
 have cl0 := hB0.cell (o := 0) rfl
 have fr0 := hB0.free 0
 have cl1 := hB0.cell (o := 1) rfl
 have fr1 := hB0.free 1
 refine step_store (b := b9) (cs' := [.int .i64 t13, .int .i64 t14, .int .i64 0]) (T := 30) (W' := ((w16.setCell ⟨b9, 0, none⟩ (.int .i64 t13)).setCell ⟨b9, 1, none⟩ (.int .i64 t14))) rfl rfl (by go_simp <;> rfl) (((Sto.refl _ _).setCell 0 _).setCell 1 _) (((hB0).setCell 0 _).setCell 1 _) ?_
 clear hB0 cl0 fr0 cl1 fr1
 intro w18 hs hb20
 have hs19 := Aside0.mk hs
 clear hs
 refine wln (hK12 _ _ ?_)
 refine wsr fun _ hK21=>?_
 refine wpp fun k h=>?_;go_simp;apply h;clear h k
 have cl0 := (hb2.up (((hu7.out.trans hu11.out).trans hu17.out).sto (Nat.le_trans (hu7.out.size) lbb9.out) hs19.out)).cell (o := 2) rfl
 refine wpp fun k h=>?_;go_simp;apply h;clear h k
 clear cl0
 refine wpp fun k h=>?_;go_simp;apply h;clear h k
 have hB0 := hb20
 have cl0 := hB0.cell (o := 2) rfl
 have fr0 := hB0.free 2
 refine step_store (b := b9) (cs' := [.int .i64 t13, .int .i64 t14, .int .i64 a0_2]) (T := 30) (W' := (w18.setCell ⟨b9, 2, none⟩ (.int .i64 a0_2))) rfl rfl (by go_simp <;> rfl) ((Sto.refl _ _).setCell 2 _) ((hB0).setCell 2 _) ?_
 clear hB0 cl0 fr0
 intro w22 hs hb24
 have hs23 := Aside0.mk hs
 clear hs
 refine wln (hK21 _ _ ?_)
 refine wsr fun _ hK25=>?_
 have cl0 := hb24.cell (o := 0) rfl
 have cl1 := hb24.cell (o := 1) rfl
 have cl2 := hb24.cell (o := 2) rfl
 refine wpp fun k h=>?_;go_simp;apply h;clear h k
 clear cl0 cl1 cl2
 refine stw [.int .i64 t13, .int .i64 t14, .int .i64 a0_2] (hb5.up (((hu11.out.trans hu17.out).sto (Nat.le_trans (Nat.le_refl _) lbb9.out) hs19.out).sto (Nat.le_trans (Nat.le_refl _) lbb9.out) hs23.out)) rfl rfl rfl rfl rfl (by kernel_rfl) rfl rfl ?_
 intro w26 hs27 hb28
 refine wln (hK25 _ _ ?_)
 refine wp_ret ?_
 refine hQf _ _ _ ?_
 have cr0 := hb28.cell (o := 0) rfl
 have cr1 := hb28.cell (o := 1) rfl
 have cr2 := hb28.cell (o := 2) rfl
 exact bodyPost_ret (v := .agg #[.int .i64 t13, .int .i64 t14, .int .i64 a0_2]) (by first|rfl|simp [results, Try.results5, go_sem, cr0, cr1, cr2]<;>rfl) rfl ⟨rfl, ((((((hu4.out.trans hu7.out).trans hu11.out).trans hu17.out).sto (Nat.le_trans ((Nat.le_trans (hu4.out.size) hu7.out.size)) lbb9.out) hs19.out).sto (Nat.le_trans ((Nat.le_trans (hu4.out.size) hu7.out.size)) lbb9.out) hs23.out).sto (Nat.le_trans (hu4.out.size) lbb5.out) hs27.out)⟩

set_option maxHeartbeats 40000000 in
set_option maxRecDepth 100000 in
theorem spec_l01In.calls (K : Nat) (a0 : Int) (a1 : Int) (a2 : Int) (r0 : Bool) (w : World)  (h : spec_l01In.f K a0 a1 a2 = some (r0)) :
    Calls Try.prog 80 #[.int .i64 a0, .int .i64 a1, .int .i64 a2] w fun e w' => e = .returned (.bool r0) ∧ Up w w' := by
 have H : ((if decide (a1 ≤ a0) = true then some (decide (a0 ≤ a2)) else some false) : Option (Bool)) = some (r0) := h
 clear h
 go_enter Try.func80, Try.ntmps80
 refine wp_hide (fun Qf hQf => ?_)
 refine wsr fun _ hK1=>?_
 refine wpp fun k h=>?_;go_simp;apply h;clear h k
 refine wln (hK1 _ _ ?_)
 refine wsr fun _ hK2=>?_
 iterate 4 (refine wpp fun k h=>?_;go_simp;apply h;clear h k)
 by_cases c3 : (decide (a1 ≤ a0)) = true
 ·
  rw [if_pos c3] at H
  obtain rfl := Option.some.inj H
  try simp only [c3, Bool.not_true, Bool.not_false]
  refine wpList_step fun k h=>?_;go_simp;apply h;clear h k
  refine wpList_step fun k h=>?_;go_simp;apply h;clear h k
  refine wpList_step fun k h=>?_;go_simp;apply h;clear h k
  iterate 2 (refine wpp fun k h=>?_;go_simp;apply h;clear h k)
  refine wln (hK2 _ _ ?_)
  refine wp_ret ?_
  refine hQf _ _ _ ?_
  exact bpr (v := .bool (decide (a0 ≤ a2))) ⟨rfl, (Up.refl _)⟩
 rw [if_neg c3] at H; replace c3 := Bool.eq_false_iff.mpr c3
 obtain rfl := Option.some.inj H
 try simp only [c3, Bool.not_true, Bool.not_false]
 refine step_no rfl ?_
 simp only[nm]
 refine step_no rfl ?_
 simp only[nm]
 refine step_no rfl ?_
 simp only[nm]
 iterate 2 (refine wpp fun k h=>?_;go_simp;apply h;clear h k)
 refine wln (hK2 _ _ ?_)
 refine wp_ret ?_
 refine hQf _ _ _ ?_
 exact bpr (v := .bool false) ⟨rfl, (Up.refl _)⟩

set_option maxHeartbeats 40000000 in
set_option maxRecDepth 100000 in
theorem spec_l01Field.calls (K : Nat) (a0 : Int) (r0 : Bool) (w : World)  (h : spec_l01Field.f K a0 = some (r0)) :
    Calls Try.prog 49 #[.int .i64 a0] w fun e w' => e = .returned (.bool r0) ∧ Up w w' := by
 have H : (((spec_l01In.f K a0 3 31).bind fun t4 => (if t4 = true then (spec_l01Field.l0 K a0 K 2) else some false)) : Option (Bool)) = some (r0) := h
 clear h
 obtain ⟨t4,A5,H⟩:=bnd H;try dsimp only at H
 go_enter Try.func49, Try.ntmps49
 refine wp_hide (fun Qf hQf => ?_)
 refine wsr fun _ hK1=>?_
 refine wpp fun k h=>?_;go_simp;apply h;clear h k
 refine wln (hK1 _ _ ?_)
 refine wp_seq_k fun K2 hK2=>?_
 refine wsr fun _ hK3=>?_
 refine wpp fun k h=>?_;go_simp;apply h;clear h k
 refine stc (spec_l01In.calls K a0 3 31 t4 w  A5.out) ?_
 intro w6 hu7
 simp only[nm]
 refine wpp fun k h=>?_;go_simp;apply h;clear h k
 refine wln (hK3 _ _ ?_)
 by_cases c8 : (t4) = true
 rotate_left
 ·
  rw [if_neg c8] at H; replace c8 := Bool.eq_false_iff.mpr c8
  subst c8
  obtain rfl := Option.some.inj H
  refine wp_cond_true rfl ?_
  refine wsr fun _ hK31=>?_
  refine wpp fun k h=>?_;go_simp;apply h;clear h k
  refine wln (hK31 _ _ ?_)
  refine wp_ret ?_
  refine hQf _ _ _ ?_
  exact bpr (v := .bool false) ⟨rfl, hu7.out⟩
 rw [if_pos c8] at H
 subst c8
 refine wp_cond_false rfl ?_
 refine wp_skip ?_
 refine hK2 _ _ ?_
 refine wp_seq_k fun K9 hK9=>?_
 refine wsr fun _ hK10=>?_
 refine wpp fun k h=>?_;go_simp;apply h;clear h k
 refine wln (hK10 _ _ ?_)
 refine wp_block ?_
 have HL15 := Aside0.mk H
 clear H
 go_loopg [3] K (fun kq v3 w' => ∃ (x11 : Int), v3 = .int .i64 x11 ∧ Aside0 (spec_l01Field.l0 K a0 kq x11 = some (r0)) ∧ Aside0 (kq ≤ K) ∧ Aside0 (Up w6 w') ∧ Aside0 (w6.heap.size ≤ w'.heap.size))
 case atStart => exact ⟨2, (by first | rfl | simp), HL15, ⟨Nat.le_refl _⟩, ⟨(Up.refl _)⟩, ⟨Nat.le_refl _⟩⟩
 case round =>
  rename_i J18 K19 hJ18 hK19
  obtain ⟨x11, rfl, HL20, hk17, hu13, hz14⟩ := hrel
  obtain ⟨w12, rfl⟩ : ∃ wo : World, wo = wr := ⟨_, rfl⟩
  obtain ⟨k16, rfl⟩ | rfl : (∃ k, gk = k + 1) ∨ gk = 0 := by rcases gk with _ | k; exact .inr rfl; exact .inl ⟨k, rfl⟩
  case inr => exact absurd HL20.out (by simp [spec_l01Field.l0])
  have H := HL20.out
  clear HL20
  rw [spec_l01Field.l0] at H
  refine wp_seq_k fun K21 hK21=>?_
  refine wsr fun _ hK22=>?_
  iterate 5 (refine wpp fun k h=>?_;go_simp;apply h;clear h k)
  refine wln (hK22 _ _ ?_)
  by_cases c23 : (decide ((wrap64 (x11 * x11)) ≤ a0)) = true
  rotate_left
  ·
   rw [if_neg c23] at H; replace c23 := Bool.eq_false_iff.mpr c23
   obtain rfl := Option.some.inj H
   try simp only [c23, Bool.not_true, Bool.not_false]
   refine wp_cond_false rfl ?_
   refine wp_exit ?_
   refine hK9 _ _ ?_
   refine wsr fun _ hK30=>?_
   refine wpp fun k h=>?_;go_simp;apply h;clear h k
   refine wln (hK30 _ _ ?_)
   refine wp_ret ?_
   refine hQf _ _ _ ?_
   exact bpr (v := .bool true) ⟨rfl, (hu7.out.trans hu13.out)⟩
  rw [if_pos c23] at H
  try simp only [c23, Bool.not_true, Bool.not_false]
  refine wp_cond_true rfl ?_
  refine wp_skip ?_
  refine hK21 _ _ ?_
  refine wp_seq_k fun K24 hK24=>?_
  refine wp_block ?_
  refine wsr fun _ hK25=>?_
  iterate 2 (refine wpp fun k h=>?_;go_simp;apply h;clear h k)
  by_cases c26 : (x11 == 0) = true
  ·
   rw [if_pos c26] at H
   have c26n : (x11 != 0) = false := by rw [bne, c26]; rfl
   exact absurd H (by simp)
  rw [if_neg c26] at H; replace c26 := Bool.eq_false_iff.mpr c26
  have c26n : (x11 != 0) = true := by rw [bne, c26]; rfl
  have c26p : ¬ x11 = 0 := fun e => by simp [e] at c26
  try simp only [c26, c26n, Bool.not_true, Bool.not_false]
  iterate 2 (refine wpp fun k h=>?_;go_simp;apply h;clear h k)
  refine wln (hK25 _ _ ?_)
  by_cases c27 : ((Int.tmod a0 x11) == 0) = true
  ·
   rw [if_pos c27] at H
   have c27n : ((Int.tmod a0 x11) != 0) = false := by rw [bne, c27]; rfl
   obtain rfl := Option.some.inj H
   try simp only [c27, c27n, Bool.not_true, Bool.not_false]
   refine wp_cond_true rfl ?_
   refine wsr fun _ hK28=>?_
   refine wpp fun k h=>?_;go_simp;apply h;clear h k
   refine wln (hK28 _ _ ?_)
   refine wp_ret ?_
   refine hQf _ _ _ ?_
   exact bpr (v := .bool false) ⟨rfl, (hu7.out.trans hu13.out)⟩
  rw [if_neg c27] at H; replace c27 := Bool.eq_false_iff.mpr c27
  have c27n : ((Int.tmod a0 x11) != 0) = true := by rw [bne, c27]; rfl
  have c27p : ¬ (Int.tmod a0 x11) = 0 := fun e => by simp [e] at c27
  have HL29 := Aside0.mk H
  clear H
  try simp only [c27, c27n, Bool.not_true, Bool.not_false]
  refine wp_cond_false rfl ?_
  refine wp_skip ?_
  refine hK24 _ _ ?_
  refine wp_region_lit ?_
  iterate 3 (refine wpp fun k h=>?_;go_simp;apply h;clear h k)
  refine wln (hK19 _ _ ?_)
  go_roundg k16
  case measure => exact Nat.lt_succ_self _
  case rel => exact ⟨wrap64 (x11 + 1), (by first | rfl | simp), HL29, ⟨by have := hk17.out; omega⟩, ⟨hu13.out⟩, ⟨(Nat.le_trans (Nat.le_refl _) hz14.out)⟩⟩

set_option maxHeartbeats 40000000 in
set_option maxRecDepth 100000 in
theorem spec_l01Point.calls (K : Nat) (a0 : Int) (a1_0 : Int) (a1_1 : Int) (r0 : Bool) (w : World)  (h : spec_l01Point.f K a0 a1_0 a1_1 = some (r0)) :
    Calls Try.prog 50 #[.int .i64 a0, .agg #[.int .i64 a1_0, .int .i64 a1_1]] w fun e w' => e = .returned (.bool r0) ∧ Up w w' := by
 have H : (((spec_l01In.f K a1_0 0 (wrap64 (a0 - 1))).bind fun t6 => (if t6 = true then ((spec_l01In.f K a1_1 0 (wrap64 (a0 - 1))).bind fun t11 => some t11) else some false)) : Option (Bool)) = some (r0) := h
 clear h
 obtain ⟨t6,A7,H⟩:=bnd H;try dsimp only at H
 go_enter Try.func50, Try.ntmps50
 refine wp_hide (fun Qf hQf => ?_)
 refine wsr fun _ hK1=>?_
 refine stp (cs := [.int .i64 a1_0, .int .i64 a1_1]) (T := 28) ?_
 intro b2 w3 hu4 lbb2 ltb2 hb2
 simp only[nm]
 refine wpp fun k h=>?_;go_simp;apply h;clear h k
 refine wln (hK1 _ _ ?_)
 refine wsr fun _ hK5=>?_
 refine wpp fun k h=>?_;go_simp;apply h;clear h k
 have cl0 := hb2.cell (o := 0) rfl
 refine wpp fun k h=>?_;go_simp;apply h;clear h k
 clear cl0
 iterate 2 (refine wpp fun k h=>?_;go_simp;apply h;clear h k)
 refine stc (spec_l01In.calls K a1_0 0 (wrap64 (a0 - 1)) t6 w3  A7.out) ?_
 intro w8 hu9
 simp only[nm]
 refine wpp fun k h=>?_;go_simp;apply h;clear h k
 by_cases c10 : (t6) = true
 rotate_left
 ·
  rw [if_neg c10] at H; replace c10 := Bool.eq_false_iff.mpr c10
  subst c10
  obtain rfl := Option.some.inj H
  refine step_no rfl ?_
  simp only[nm]
  refine step_no rfl ?_
  simp only[nm]
  refine step_no rfl ?_
  simp only[nm]
  refine step_no rfl ?_
  simp only[nm]
  refine step_no rfl ?_
  simp only[nm]
  iterate 2 (refine wpp fun k h=>?_;go_simp;apply h;clear h k)
  refine wln (hK5 _ _ ?_)
  refine wp_ret ?_
  refine hQf _ _ _ ?_
  exact bpr (v := .bool false) ⟨rfl, (hu4.out.trans hu9.out)⟩
 rw [if_pos c10] at H
 subst c10
 obtain ⟨t11,A12,H⟩:=bnd H;try dsimp only at H
 obtain rfl := Option.some.inj H
 refine wpList_step fun k h=>?_;go_simp;apply h;clear h k
 have cl0 := (hb2.up hu9.out).cell (o := 1) rfl
 refine wpList_step fun k h=>?_;go_simp;apply h;clear h k
 clear cl0
 refine wpList_step fun k h=>?_;go_simp;apply h;clear h k
 refine wpList_step fun k h=>?_;go_simp;apply h;clear h k
 refine step_call rfl (by go_simp <;> rfl) (spec_l01In.calls K a1_1 0 (wrap64 (a0 - 1)) t11 w8  A12.out) ?_
 rintro e w13 ⟨rfl, hu⟩
 have hu14 := Aside0.mk hu
 clear hu
 refine ⟨_, rfl, ?_⟩
 simp only[nm]
 iterate 2 (refine wpp fun k h=>?_;go_simp;apply h;clear h k)
 refine wln (hK5 _ _ ?_)
 refine wp_ret ?_
 refine hQf _ _ _ ?_
 exact bpr (v := .bool t11) ⟨rfl, ((hu4.out.trans hu9.out).trans hu14.out)⟩

set_option maxHeartbeats 40000000 in
set_option maxRecDepth 100000 in
theorem spec_l01Code.calls (K : Nat) (a0 : Int) (a1_A : Option Addr) (a1_c : Nat) (a1 : List (Int × Int)) (r0 : Int) (w : World) (ha1 : Rd e2 w a1_A a1) (h : spec_l01Code.f K a0 a1 = some (r0)) :
    Calls Try.prog 29 #[.int .i64 a0, .slice a1_A a1.length a1_c] w fun e w' => e = .returned (.int .i64 r0) ∧ Up w w' := by
 have H : (((spec_l01Field.f K a0).bind fun t4 => (if t4 = true then (spec_l01Code.l0 K a0 a1 K 0) else some 1)) : Option (Int)) = some (r0) := h
 clear h
 obtain ⟨t4,A5,H⟩:=bnd H;try dsimp only at H
 go_enter Try.func29, Try.ntmps29
 refine wp_hide (fun Qf hQf => ?_)
 refine wsr fun _ hK1=>?_
 refine wpp fun k h=>?_;go_simp;apply h;clear h k
 refine wln (hK1 _ _ ?_)
 refine wp_seq_k fun K2 hK2=>?_
 refine wsr fun _ hK3=>?_
 refine wpp fun k h=>?_;go_simp;apply h;clear h k
 refine stc (spec_l01Field.calls K a0 t4 w  A5.out) ?_
 intro w6 hu7
 simp only[nm]
 refine wpp fun k h=>?_;go_simp;apply h;clear h k
 refine wln (hK3 _ _ ?_)
 by_cases c8 : (t4) = true
 rotate_left
 ·
  rw [if_neg c8] at H; replace c8 := Bool.eq_false_iff.mpr c8
  subst c8
  obtain rfl := Option.some.inj H
  refine wp_cond_true rfl ?_
  refine wsr fun _ hK40=>?_
  refine wpp fun k h=>?_;go_simp;apply h;clear h k
  refine wln (hK40 _ _ ?_)
  refine wp_ret ?_
  refine hQf _ _ _ ?_
  exact bpr (v := .int .i64 1) ⟨rfl, hu7.out⟩
 rw [if_pos c8] at H
 subst c8
 refine wp_cond_false rfl ?_
 refine wp_skip ?_
 refine hK2 _ _ ?_
 refine wp_seq_k fun K9 hK9=>?_
 refine wsr fun _ hK10=>?_
 refine wpp fun k h=>?_;go_simp;apply h;clear h k
 refine wln (hK10 _ _ ?_)
 refine wp_block ?_
 have HL15 := Aside0.mk H
 clear H
 go_loopg [5] K (fun kq v5 w' => ∃ (x11 : Int), v5 = .int .i64 x11 ∧ Aside0 (spec_l01Code.l0 K a0 a1 kq x11 = some (r0)) ∧ Aside0 (kq ≤ K) ∧ Aside0 (Up w6 w') ∧ Aside0 (w6.heap.size ≤ w'.heap.size))
 case atStart => exact ⟨0, (by first | rfl | simp), HL15, ⟨Nat.le_refl _⟩, ⟨(Up.refl _)⟩, ⟨Nat.le_refl _⟩⟩
 case round =>
  rename_i J18 K19 hJ18 hK19
  obtain ⟨x11, rfl, HL20, hk17, hu13, hz14⟩ := hrel
  obtain ⟨w12, rfl⟩ : ∃ wo : World, wo = wr := ⟨_, rfl⟩
  obtain ⟨k16, rfl⟩ | rfl : (∃ k, gk = k + 1) ∨ gk = 0 := by rcases gk with _ | k; exact .inr rfl; exact .inl ⟨k, rfl⟩
  case inr => exact absurd HL20.out (by simp [spec_l01Code.l0])
  have H := HL20.out
  clear HL20
  rw [spec_l01Code.l0] at H
  refine wp_seq_k fun K21 hK21=>?_
  refine wsr fun _ hK22=>?_
  iterate 4 (refine wpp fun k h=>?_;go_simp;apply h;clear h k)
  refine wln (hK22 _ _ ?_)
  by_cases c23 : (decide (x11 < (a1.length : Int))) = true
  rotate_left
  ·
   rw [if_neg c23] at H; replace c23 := Bool.eq_false_iff.mpr c23
   obtain rfl := Option.some.inj H
   try simp only [c23, Bool.not_true, Bool.not_false]
   refine wp_cond_false rfl ?_
   refine wp_exit ?_
   refine hK9 _ _ ?_
   refine wsr fun _ hK39=>?_
   refine wpp fun k h=>?_;go_simp;apply h;clear h k
   refine wln (hK39 _ _ ?_)
   refine wp_ret ?_
   refine hQf _ _ _ ?_
   exact bpr (v := .int .i64 0) ⟨rfl, (hu7.out.trans hu13.out)⟩
  rw [if_pos c23] at H
  obtain ⟨⟨t26, t27⟩,A28,H⟩:=bnd H;try dsimp only at H
  obtain ⟨t32,A33,H⟩:=bnd H;try dsimp only at H
  try simp only [c23, Bool.not_true, Bool.not_false]
  refine wp_cond_true rfl ?_
  refine wp_skip ?_
  refine hK21 _ _ ?_
  refine wp_seq_k fun K24 hK24=>?_
  refine wp_block ?_
  refine wsr fun _ hK25=>?_
  iterate 3 (refine wpp fun k h=>?_;go_simp;apply h;clear h k)
  refine step_index e2 (T := 28) wn rfl (by kernel_rfl) (by kernel_rfl) rfl rfl rfl (ha1.up (hu7.out.trans hu13.out)) A28.out ?_
  intro ad29 hat he
  have he30 := Aside0.mk he
  have hat31 := Aside0.mk hat
  clear he hat
  simp only[nm]
  have cl0 := he30.out 0 _ rfl
  rw [addr_add0] at cl0
  have cl1 : World.cell? _ ⟨ad29.block, ad29.off + 1, none⟩ = some _ := he30.out 1 _ rfl
  refine wpp fun k h=>?_;go_simp;apply h;clear h k
  clear cl0 cl1
  refine stc (spec_l01Point.calls K a0 t26 t27 t32 w12  A33.out) ?_
  intro w34 hu35
  simp only[nm]
  refine wpp fun k h=>?_;go_simp;apply h;clear h k
  refine wln (hK25 _ _ ?_)
  by_cases c36 : (t32) = true
  rotate_left
  ·
   rw [if_neg c36] at H; replace c36 := Bool.eq_false_iff.mpr c36
   subst c36
   obtain rfl := Option.some.inj H
   refine wp_cond_true rfl ?_
   refine wsr fun _ hK38=>?_
   refine wpp fun k h=>?_;go_simp;apply h;clear h k
   refine wln (hK38 _ _ ?_)
   refine wp_ret ?_
   refine hQf _ _ _ ?_
   exact bpr (v := .int .i64 2) ⟨rfl, ((hu7.out.trans hu13.out).trans hu35.out)⟩
  rw [if_pos c36] at H
  subst c36
  have HL37 := Aside0.mk H
  clear H
  refine wp_cond_false rfl ?_
  refine wp_skip ?_
  refine hK24 _ _ ?_
  refine wp_region_lit ?_
  iterate 3 (refine wpp fun k h=>?_;go_simp;apply h;clear h k)
  refine wln (hK19 _ _ ?_)
  go_roundg k16
  case measure => exact Nat.lt_succ_self _
  case rel => exact ⟨wrap64 (x11 + 1), (by first | rfl | simp), HL37, ⟨by have := hk17.out; omega⟩, ⟨(hu13.out.trans hu35.out)⟩, ⟨(Nat.le_trans ((Nat.le_trans (Nat.le_refl _) hz14.out)) hu35.out.size)⟩⟩

set_option maxHeartbeats 40000000 in
set_option maxRecDepth 100000 in
theorem spec_l02Colour.calls (K : Nat) (a0 : Int) (r0 : Bool) (w : World)  (h : spec_l02Colour.f K a0 = some (r0)) :
    Calls Try.prog 79 #[.int .i64 a0] w fun e w' => e = .returned (.bool r0) ∧ Up w w' := by
 have H : (((spec_l01In.f K a0 0 2).bind fun t3 => some t3) : Option (Bool)) = some (r0) := h
 clear h
 obtain ⟨t3,A4,H⟩:=bnd H;try dsimp only at H
 obtain rfl := Option.some.inj H
 go_enter Try.func79, Try.ntmps79
 refine wp_hide (fun Qf hQf => ?_)
 refine wsr fun _ hK1=>?_
 refine wpp fun k h=>?_;go_simp;apply h;clear h k
 refine wln (hK1 _ _ ?_)
 refine wsr fun _ hK2=>?_
 refine wpp fun k h=>?_;go_simp;apply h;clear h k
 refine stc (spec_l01In.calls K a0 0 2 t3 w  A4.out) ?_
 intro w5 hu6
 simp only[nm]
 refine wpp fun k h=>?_;go_simp;apply h;clear h k
 refine wln (hK2 _ _ ?_)
 refine wp_ret ?_
 refine hQf _ _ _ ?_
 exact bpr (v := .bool t3) ⟨rfl, hu6.out⟩

set_option maxHeartbeats 40000000 in
set_option maxRecDepth 100000 in
theorem spec_l02Code.calls (K : Nat) (a0 : Int) (a1 : Int) (a2_A : Option Addr) (a2_c : Nat) (a2 : List (Int × Int)) (r0 : Int) (w : World) (ha2 : Rd e2 w a2_A a2) (h : spec_l02Code.f K a0 a1 a2 = some (r0)) :
    Calls Try.prog 47 #[.int .i64 a0, .int .i64 a1, .slice a2_A a2.length a2_c] w fun e w' => e = .returned (.int .i64 r0) ∧ Up w w' := by
 have H : (((spec_l01Code.f K a0 a2).bind fun t3 => (if (t3 == 0) = true then ((spec_l02Colour.f K a1).bind fun t10 => (if t10 = true then some t3 else some 2)) else some t3)) : Option (Int)) = some (r0) := h
 clear h
 obtain ⟨t3,A4,H⟩:=bnd H;try dsimp only at H
 go_enter Try.func47, Try.ntmps47
 refine wp_hide (fun Qf hQf => ?_)
 refine wsr fun _ hK1=>?_
 refine wpp fun k h=>?_;go_simp;apply h;clear h k
 refine wln (hK1 _ _ ?_)
 refine wsr fun _ hK2=>?_
 iterate 2 (refine wpp fun k h=>?_;go_simp;apply h;clear h k)
 refine stc (spec_l01Code.calls K a0 a2_A a2_c a2 t3 w ha2 A4.out) ?_
 intro w5 hu6
 simp only[nm]
 refine wpp fun k h=>?_;go_simp;apply h;clear h k
 refine wln (hK2 _ _ ?_)
 refine wp_seq_k fun K7 hK7=>?_
 refine wsr fun _ hK8=>?_
 iterate 3 (refine wpp fun k h=>?_;go_simp;apply h;clear h k)
 by_cases c9 : (t3 == 0) = true
 rotate_left
 ·
  rw [if_neg c9] at H; replace c9 := Bool.eq_false_iff.mpr c9
  have c9n : (t3 != 0) = true := by rw [bne, c9]; rfl
  have c9p : ¬ t3 = 0 := fun e => by simp [e] at c9
  obtain rfl := Option.some.inj H
  try simp only [c9, c9n, Bool.not_true, Bool.not_false]
  refine step_no rfl ?_
  simp only[nm]
  refine step_no rfl ?_
  simp only[nm]
  refine step_no rfl ?_
  simp only[nm]
  refine wpp fun k h=>?_;go_simp;apply h;clear h k
  refine wln (hK8 _ _ ?_)
  refine wp_cond_false rfl ?_
  refine wp_skip ?_
  refine hK7 _ _ ?_
  refine wsr fun _ hK17=>?_
  iterate 2 (refine wpp fun k h=>?_;go_simp;apply h;clear h k)
  refine wln (hK17 _ _ ?_)
  refine wp_ret ?_
  refine hQf _ _ _ ?_
  exact bpr (v := .int .i64 t3) ⟨rfl, hu6.out⟩
 rw [if_pos c9] at H
 have c9n : (t3 != 0) = false := by rw [bne, c9]; rfl
 obtain ⟨t10,A11,H⟩:=bnd H;try dsimp only at H
 try simp only [c9, c9n, Bool.not_true, Bool.not_false]
 refine wpList_step fun k h=>?_;go_simp;apply h;clear h k
 refine step_call rfl (by go_simp <;> rfl) (spec_l02Colour.calls K a1 t10 w5  A11.out) ?_
 rintro e w12 ⟨rfl, hu⟩
 have hu13 := Aside0.mk hu
 clear hu
 refine ⟨_, rfl, ?_⟩
 simp only[nm]
 refine wpList_step fun k h=>?_;go_simp;apply h;clear h k
 refine wpp fun k h=>?_;go_simp;apply h;clear h k
 refine wln (hK8 _ _ ?_)
 by_cases c14 : (t10) = true
 ·
  rw [if_pos c14] at H
  subst c14
  obtain rfl := Option.some.inj H
  refine wp_cond_false rfl ?_
  refine wp_skip ?_
  refine hK7 _ _ ?_
  refine wsr fun _ hK15=>?_
  iterate 2 (refine wpp fun k h=>?_;go_simp;apply h;clear h k)
  refine wln (hK15 _ _ ?_)
  refine wp_ret ?_
  refine hQf _ _ _ ?_
  exact bpr (v := .int .i64 t3) ⟨rfl, (hu6.out.trans hu13.out)⟩
 rw [if_neg c14] at H; replace c14 := Bool.eq_false_iff.mpr c14
 subst c14
 obtain rfl := Option.some.inj H
 refine wp_cond_true rfl ?_
 refine wp_region_lit ?_
 refine wpp fun k h=>?_;go_simp;apply h;clear h k
 refine wln (hK7 _ _ ?_)
 refine wsr fun _ hK16=>?_
 iterate 2 (refine wpp fun k h=>?_;go_simp;apply h;clear h k)
 refine wln (hK16 _ _ ?_)
 refine wp_ret ?_
 refine hQf _ _ _ ?_
 exact bpr (v := .int .i64 2) ⟨rfl, (hu6.out.trans hu13.out)⟩

set_option maxHeartbeats 40000000 in
set_option maxRecDepth 100000 in
theorem spec_l06Is.calls (K : Nat) (a0 : Int) (a1_0 : Int) (a1_1 : Int) (a1_2 : Int) (r0 : Bool) (w : World)  (h : spec_l06Is.f K a0 a1_0 a1_1 a1_2 = some (r0)) :
    Calls Try.prog 48 #[.int .i64 a0, .agg #[.int .i64 a1_0, .int .i64 a1_1, .int .i64 a1_2]] w fun e w' => e = .returned (.bool r0) ∧ Up w w' := by
 have H : (((spec_l01Point.f K a0 a1_0 a1_1).bind fun t6 => (if t6 = true then ((spec_l01In.f K a1_2 0 (wrap64 (a0 - 1))).bind fun t11 => some t11) else some false)) : Option (Bool)) = some (r0) := h
 clear h
 obtain ⟨t6,A7,H⟩:=bnd H;try dsimp only at H
 go_enter Try.func48, Try.ntmps48
 refine wp_hide (fun Qf hQf => ?_)
 refine wsr fun _ hK1=>?_
 refine stp (cs := [.int .i64 a1_0, .int .i64 a1_1, .int .i64 a1_2]) (T := 30) ?_
 intro b2 w3 hu4 lbb2 ltb2 hb2
 simp only[nm]
 refine wpp fun k h=>?_;go_simp;apply h;clear h k
 refine wln (hK1 _ _ ?_)
 refine wsr fun _ hK5=>?_
 iterate 2 (refine wpp fun k h=>?_;go_simp;apply h;clear h k)
 have cl0 := hb2.cell (o := 0) rfl
 have cl1 := hb2.cell (o := 1) rfl
 refine wpp fun k h=>?_;go_simp;apply h;clear h k
 clear cl0 cl1
 refine stc (spec_l01Point.calls K a0 a1_0 a1_1 t6 w3  A7.out) ?_
 intro w8 hu9
 simp only[nm]
 refine wpp fun k h=>?_;go_simp;apply h;clear h k
 by_cases c10 : (t6) = true
 rotate_left
 ·
  rw [if_neg c10] at H; replace c10 := Bool.eq_false_iff.mpr c10
  subst c10
  obtain rfl := Option.some.inj H
  refine step_no rfl ?_
  simp only[nm]
  refine step_no rfl ?_
  simp only[nm]
  refine step_no rfl ?_
  simp only[nm]
  refine step_no rfl ?_
  simp only[nm]
  refine step_no rfl ?_
  simp only[nm]
  iterate 2 (refine wpp fun k h=>?_;go_simp;apply h;clear h k)
  refine wln (hK5 _ _ ?_)
  refine wp_ret ?_
  refine hQf _ _ _ ?_
  exact bpr (v := .bool false) ⟨rfl, (hu4.out.trans hu9.out)⟩
 rw [if_pos c10] at H
 subst c10
 obtain ⟨t11,A12,H⟩:=bnd H;try dsimp only at H
 obtain rfl := Option.some.inj H
 refine wpList_step fun k h=>?_;go_simp;apply h;clear h k
 have cl0 := (hb2.up hu9.out).cell (o := 2) rfl
 refine wpList_step fun k h=>?_;go_simp;apply h;clear h k
 clear cl0
 refine wpList_step fun k h=>?_;go_simp;apply h;clear h k
 refine wpList_step fun k h=>?_;go_simp;apply h;clear h k
 refine step_call rfl (by go_simp <;> rfl) (spec_l01In.calls K a1_2 0 (wrap64 (a0 - 1)) t11 w8  A12.out) ?_
 rintro e w13 ⟨rfl, hu⟩
 have hu14 := Aside0.mk hu
 clear hu
 refine ⟨_, rfl, ?_⟩
 simp only[nm]
 iterate 2 (refine wpp fun k h=>?_;go_simp;apply h;clear h k)
 refine wln (hK5 _ _ ?_)
 refine wp_ret ?_
 refine hQf _ _ _ ?_
 exact bpr (v := .bool t11) ⟨rfl, ((hu4.out.trans hu9.out).trans hu14.out)⟩

set_option maxHeartbeats 40000000 in
set_option maxRecDepth 100000 in
theorem spec_l06Code.calls (K : Nat) (a0 : Int) (a1 : Int) (a2_A : Option Addr) (a2_c : Nat) (a2 : List (Int × Int × Int)) (r0 : Int) (w : World) (ha2 : Rd e3 w a2_A a2) (h : spec_l06Code.f K a0 a1 a2 = some (r0)) :
    Calls Try.prog 28 #[.int .i64 a0, .int .i64 a1, .slice a2_A a2.length a2_c] w fun e w' => e = .returned (.int .i64 r0) ∧ Up w w' := by
 have H : (((spec_l02Code.f K a0 a1 ([])).bind fun t3 => (spec_l06Code.l0 K a0 a2 K t3 0)) : Option (Int)) = some (r0) := h
 clear h
 obtain ⟨t3,A4,H⟩:=bnd H;try dsimp only at H
 go_enter Try.func28, Try.ntmps28
 refine wp_hide (fun Qf hQf => ?_)
 refine wsr fun _ hK1=>?_
 refine wpp fun k h=>?_;go_simp;apply h;clear h k
 refine wln (hK1 _ _ ?_)
 refine wsr fun _ hK2=>?_
 iterate 2 (refine wpp fun k h=>?_;go_simp;apply h;clear h k)
 refine stc (spec_l02Code.calls K a0 a1 none 0 ([]) t3 w (Rd.nil) A4.out) ?_
 intro w5 hu6
 simp only[nm]
 refine wpp fun k h=>?_;go_simp;apply h;clear h k
 refine wln (hK2 _ _ ?_)
 refine wp_seq_k fun K7 hK7=>?_
 refine wsr fun _ hK8=>?_
 refine wpp fun k h=>?_;go_simp;apply h;clear h k
 refine wln (hK8 _ _ ?_)
 refine wp_block ?_
 have HL14 := Aside0.mk H
 clear H
 go_loopg [7, 8] K (fun kq v7 v8 w' => ∃ (x9 : Int) (x10 : Int), v7 = .int .i64 x9 ∧ v8 = .int .i64 x10 ∧ Aside0 (spec_l06Code.l0 K a0 a2 kq x9 x10 = some (r0)) ∧ Aside0 (kq ≤ K) ∧ Aside0 (Up w5 w') ∧ Aside0 (w5.heap.size ≤ w'.heap.size))
 case atStart => exact ⟨t3, 0, (by first | rfl | simp), (by first | rfl | simp), HL14, ⟨Nat.le_refl _⟩, ⟨(Up.refl _)⟩, ⟨Nat.le_refl _⟩⟩
 case round =>
  rename_i J17 K18 hJ17 hK18
  obtain ⟨x9, x10, rfl, rfl, HL19, hk16, hu12, hz13⟩ := hrel
  obtain ⟨w11, rfl⟩ : ∃ wo : World, wo = wr := ⟨_, rfl⟩
  obtain ⟨k15, rfl⟩ | rfl : (∃ k, gk = k + 1) ∨ gk = 0 := by rcases gk with _ | k; exact .inr rfl; exact .inl ⟨k, rfl⟩
  case inr => exact absurd HL19.out (by simp [spec_l06Code.l0])
  have H := HL19.out
  clear HL19
  rw [spec_l06Code.l0] at H
  refine wp_seq_k fun K20 hK20=>?_
  refine wsr fun _ hK21=>?_
  iterate 5 (refine wpp fun k h=>?_;go_simp;apply h;clear h k)
  by_cases c22 : (decide (x10 < (a2.length : Int))) = true
  rotate_left
  ·
   rw [if_neg c22] at H; replace c22 := Bool.eq_false_iff.mpr c22
   obtain rfl := Option.some.inj H
   try simp only [c22, Bool.not_true, Bool.not_false]
   refine step_no rfl ?_
   simp only[nm]
   refine step_no rfl ?_
   simp only[nm]
   refine wpp fun k h=>?_;go_simp;apply h;clear h k
   refine wln (hK21 _ _ ?_)
   refine wp_cond_false rfl ?_
   refine wp_exit ?_
   refine hK7 _ _ ?_
   refine wsr fun _ hK41=>?_
   iterate 2 (refine wpp fun k h=>?_;go_simp;apply h;clear h k)
   refine wln (hK41 _ _ ?_)
   refine wp_ret ?_
   refine hQf _ _ _ ?_
   exact bpr (v := .int .i64 x9) ⟨rfl, (hu6.out.trans hu12.out)⟩
  rw [if_pos c22] at H
  try simp only [c22, Bool.not_true, Bool.not_false]
  refine wpList_step fun k h=>?_;go_simp;apply h;clear h k
  refine wpList_step fun k h=>?_;go_simp;apply h;clear h k
  refine wpp fun k h=>?_;go_simp;apply h;clear h k
  refine wln (hK21 _ _ ?_)
  by_cases c23 : (x9 == 0) = true
  rotate_left
  ·
   rw [if_neg c23] at H; replace c23 := Bool.eq_false_iff.mpr c23
   have c23n : (x9 != 0) = true := by rw [bne, c23]; rfl
   have c23p : ¬ x9 = 0 := fun e => by simp [e] at c23
   obtain rfl := Option.some.inj H
   try simp only [c23, c23n, Bool.not_true, Bool.not_false]
   refine wp_cond_false rfl ?_
   refine wp_exit ?_
   refine hK7 _ _ ?_
   refine wsr fun _ hK40=>?_
   iterate 2 (refine wpp fun k h=>?_;go_simp;apply h;clear h k)
   refine wln (hK40 _ _ ?_)
   refine wp_ret ?_
   refine hQf _ _ _ ?_
   exact bpr (v := .int .i64 x9) ⟨rfl, (hu6.out.trans hu12.out)⟩
  rw [if_pos c23] at H
  have c23n : (x9 != 0) = false := by rw [bne, c23]; rfl
  obtain ⟨⟨t26, t27, t28⟩,A29,H⟩:=bnd H;try dsimp only at H
  obtain ⟨t33,A34,H⟩:=bnd H;try dsimp only at H
  try simp only [c23, c23n, Bool.not_true, Bool.not_false]
  refine wp_cond_true rfl ?_
  refine wp_skip ?_
  refine hK20 _ _ ?_
  refine wp_seq_k fun K24 hK24=>?_
  refine wp_block ?_
  refine wsr fun _ hK25=>?_
  iterate 3 (refine wpp fun k h=>?_;go_simp;apply h;clear h k)
  refine step_index e3 (T := 30) wn rfl (by kernel_rfl) (by kernel_rfl) rfl rfl rfl (ha2.up (hu6.out.trans hu12.out)) A29.out ?_
  intro ad30 hat he
  have he31 := Aside0.mk he
  have hat32 := Aside0.mk hat
  clear he hat
  simp only[nm]
  have cl0 := he31.out 0 _ rfl
  rw [addr_add0] at cl0
  have cl1 : World.cell? _ ⟨ad30.block, ad30.off + 1, none⟩ = some _ := he31.out 1 _ rfl
  have cl2 : World.cell? _ ⟨ad30.block, ad30.off + 2, none⟩ = some _ := he31.out 2 _ rfl
  refine wpp fun k h=>?_;go_simp;apply h;clear h k
  clear cl0 cl1 cl2
  refine stc (spec_l06Is.calls K a0 t26 t27 t28 t33 w11  A34.out) ?_
  intro w35 hu36
  simp only[nm]
  refine wpp fun k h=>?_;go_simp;apply h;clear h k
  refine wln (hK25 _ _ ?_)
  by_cases c37 : (t33) = true
  ·
   rw [if_pos c37] at H
   subst c37
   have HL38 := Aside0.mk H
   clear H
   refine wp_cond_false rfl ?_
   refine wp_skip ?_
   refine hK24 _ _ ?_
   refine wp_region_lit ?_
   iterate 3 (refine wpp fun k h=>?_;go_simp;apply h;clear h k)
   refine wln (hK18 _ _ ?_)
   go_roundg k15
   case measure => exact Nat.lt_succ_self _
   case rel => exact ⟨x9, wrap64 (x10 + 1), (by first | rfl | simp), (by first | rfl | simp), HL38, ⟨by have := hk16.out; omega⟩, ⟨(hu12.out.trans hu36.out)⟩, ⟨(Nat.le_trans ((Nat.le_trans (Nat.le_refl _) hz13.out)) hu36.out.size)⟩⟩
  rw [if_neg c37] at H; replace c37 := Bool.eq_false_iff.mpr c37
  subst c37
  have HL39 := Aside0.mk H
  clear H
  refine wp_cond_true rfl ?_
  refine wp_region_lit ?_
  refine wpp fun k h=>?_;go_simp;apply h;clear h k
  refine wln (hK24 _ _ ?_)
  refine wp_region_lit ?_
  iterate 3 (refine wpp fun k h=>?_;go_simp;apply h;clear h k)
  refine wln (hK18 _ _ ?_)
  go_roundg k15
  case measure => exact Nat.lt_succ_self _
  case rel => exact ⟨2, wrap64 (x10 + 1), (by first | rfl | simp), (by first | rfl | simp), HL39, ⟨by have := hk16.out; omega⟩, ⟨(hu12.out.trans hu36.out)⟩, ⟨(Nat.le_trans ((Nat.le_trans (Nat.le_refl _) hz13.out)) hu36.out.size)⟩⟩

set_option maxHeartbeats 40000000 in
set_option maxRecDepth 100000 in
theorem spec_l06Given.calls (K : Nat) (a0 : Int) (a1 : Int) (a2_0 : Int) (a2_1 : Int) (a2_2 : Int) (a3_0 : Int) (a3_1 : Int) (r0 : Int) (w : World)  (h : spec_l06Given.f K a0 a1 a2_0 a2_1 a2_2 a3_0 a3_1 = some (r0)) :
    Calls Try.prog 11 #[.int .i64 a0, .int .i64 a1, .agg #[.int .i64 a2_0, .int .i64 a2_1, .int .i64 a2_2], .agg #[.int .i64 a3_0, .int .i64 a3_1]] w fun e w' => e = .returned (.int .i64 r0) ∧ Up w w' := by
 have H : (((spec_l06Code.f K a0 a1 ([(a2_0, a2_1, a2_2)])).bind fun t12 => (if (t12 == 0) = true then ((spec_l01Code.f K a0 ([(a3_0, a3_1)])).bind fun t23 => some t23) else some t12)) : Option (Int)) = some (r0) := h
 clear h
 obtain ⟨t12,A13,H⟩:=bnd H;try dsimp only at H
 go_enter Try.func11, Try.ntmps11
 refine wp_hide (fun Qf hQf => ?_)
 refine wsr fun _ hK1=>?_
 refine stp (cs := [.int .i64 a2_0, .int .i64 a2_1, .int .i64 a2_2]) (T := 30) ?_
 intro b2 w3 hu4 lbb2 ltb2 hb2
 simp only[nm]
 refine stp (cs := [.int .i64 a3_0, .int .i64 a3_1]) (T := 28) ?_
 intro b5 w6 hu7 lbb5 ltb5 hb5
 simp only[nm]
 refine wpp fun k h=>?_;go_simp;apply h;clear h k
 refine wln (hK1 _ _ ?_)
 refine wsr fun _ hK8=>?_
 iterate 2 (refine wpp fun k h=>?_;go_simp;apply h;clear h k)
 have cl0 := (hb2.up hu7.out).cell (o := 0) rfl
 have cl1 := (hb2.up hu7.out).cell (o := 1) rfl
 have cl2 := (hb2.up hu7.out).cell (o := 2) rfl
 refine wpp fun k h=>?_;go_simp;apply h;clear h k
 clear cl0 cl1 cl2
 refine step_new (cs := [.int .i64 a2_0, .int .i64 a2_1, .int .i64 a2_2]) (T := 30) (f := fun b => .slice (some ⟨b, 0, none⟩) 1 1) rfl (by go_simp <;> rfl) ?_
 intro b9 w10 hu lb hb9
 simp only[nm]
 clear lb
 have hu11 := Aside0.mk hu
 clear hu
 refine stc (spec_l06Code.calls K a0 a1 (some ⟨b9, 0, none⟩) 1 ([(a2_0, a2_1, a2_2)]) t12 w10 (Rd.of_blk (E := e3) (xs := [(a2_0, a2_1, a2_2)]) (o := 0) hb9 (by simp) (fun j u hu => by rcases j with _ | _ | _ | j <;> simp_all [Enc.flat, e3])) A13.out) ?_
 intro w14 hu15
 simp only[nm]
 refine wpp fun k h=>?_;go_simp;apply h;clear h k
 refine wln (hK8 _ _ ?_)
 refine wp_seq_k fun K16 hK16=>?_
 refine wsr fun _ hK17=>?_
 iterate 2 (refine wpp fun k h=>?_;go_simp;apply h;clear h k)
 refine wln (hK17 _ _ ?_)
 have hm19 := Aside0.mk (((hu4.out.trans hu7.out).trans hu11.out).trans hu15.out)
 by_cases c18 : (t12 == 0) = true
 rotate_left
 ·
  rw [if_neg c18] at H; replace c18 := Bool.eq_false_iff.mpr c18
  have c18n : (t12 != 0) = true := by rw [bne, c18]; rfl
  have c18p : ¬ t12 = 0 := fun e => by simp [e] at c18
  obtain rfl := Option.some.inj H
  try simp only [c18, c18n, Bool.not_true, Bool.not_false]
  refine wp_cond_false rfl ?_
  refine wp_skip ?_
  refine hK16 _ _ ?_
  refine wsr fun _ hK28=>?_
  iterate 2 (refine wpp fun k h=>?_;go_simp;apply h;clear h k)
  refine wln (hK28 _ _ ?_)
  refine wp_ret ?_
  refine hQf _ _ _ ?_
  exact bpr (v := .int .i64 t12) ⟨rfl, hm19.out⟩
 rw [if_pos c18] at H
 have c18n : (t12 != 0) = false := by rw [bne, c18]; rfl
 obtain ⟨t23,A24,H⟩:=bnd H;try dsimp only at H
 obtain rfl := Option.some.inj H
 try simp only [c18, c18n, Bool.not_true, Bool.not_false]
 refine wp_cond_true rfl ?_
 refine wp_region_lit ?_
 refine wpp fun k h=>?_;go_simp;apply h;clear h k
 have cl0 := (hb5.up (hu11.out.trans hu15.out)).cell (o := 0) rfl
 have cl1 := (hb5.up (hu11.out.trans hu15.out)).cell (o := 1) rfl
 refine wpp fun k h=>?_;go_simp;apply h;clear h k
 clear cl0 cl1
 refine step_new (cs := [.int .i64 a3_0, .int .i64 a3_1]) (T := 28) (f := fun b => .slice (some ⟨b, 0, none⟩) 1 1) rfl (by go_simp <;> rfl) ?_
 intro b20 w21 hu lb hb20
 simp only[nm]
 clear lb
 have hu22 := Aside0.mk hu
 clear hu
 refine stc (spec_l01Code.calls K a0 (some ⟨b20, 0, none⟩) 1 ([(a3_0, a3_1)]) t23 w21 (Rd.of_blk (E := e2) (xs := [(a3_0, a3_1)]) (o := 0) hb20 (by simp) (fun j u hu => by rcases j with _ | _ | j <;> simp_all [Enc.flat, e2])) A24.out) ?_
 intro w25 hu26
 simp only[nm]
 refine wpp fun k h=>?_;go_simp;apply h;clear h k
 refine wln (hK16 _ _ ?_)
 refine wsr fun _ hK27=>?_
 iterate 2 (refine wpp fun k h=>?_;go_simp;apply h;clear h k)
 refine wln (hK27 _ _ ?_)
 refine wp_ret ?_
 refine hQf _ _ _ ?_
 exact bpr (v := .int .i64 t23) ⟨rfl, ((hm19.out.trans hu22.out).trans hu26.out)⟩

set_option maxHeartbeats 40000000 in
set_option maxRecDepth 100000 in
theorem spec_l01Mod.calls (K : Nat) (a0 : Int) (a1 : Int) (r0 : Int) (w : World)  (h : spec_l01Mod.f K a0 a1 = some (r0)) :
    Calls Try.prog 52 #[.int .i64 a0, .int .i64 a1] w fun e w' => e = .returned (.int .i64 r0) ∧ Up w w' := by
 have H : ((if (a1 == 0) = true then none else some (Int.tmod (wrap64 ((Int.tmod a0 a1) + a1)) a1)) : Option (Int)) = some (r0) := h
 clear h
 go_enter Try.func52, Try.ntmps52
 refine wp_hide (fun Qf hQf => ?_)
 refine wsr fun _ hK1=>?_
 refine wpp fun k h=>?_;go_simp;apply h;clear h k
 refine wln (hK1 _ _ ?_)
 refine wsr fun _ hK2=>?_
 iterate 2 (refine wpp fun k h=>?_;go_simp;apply h;clear h k)
 by_cases c3 : (a1 == 0) = true
 ·
  rw [if_pos c3] at H
  have c3n : (a1 != 0) = false := by rw [bne, c3]; rfl
  exact absurd H (by simp)
 rw [if_neg c3] at H; replace c3 := Bool.eq_false_iff.mpr c3
 have c3n : (a1 != 0) = true := by rw [bne, c3]; rfl
 have c3p : ¬ a1 = 0 := fun e => by simp [e] at c3
 obtain rfl := Option.some.inj H
 try simp only [c3, c3n, Bool.not_true, Bool.not_false]
 iterate 6 (refine wpp fun k h=>?_;go_simp;apply h;clear h k)
 refine wln (hK2 _ _ ?_)
 refine wp_ret ?_
 refine hQf _ _ _ ?_
 exact bpr (v := .int .i64 (Int.tmod (wrap64 ((Int.tmod a0 a1) + a1)) a1)) ⟨rfl, (Up.refl _)⟩

set_option maxHeartbeats 40000000 in
set_option maxRecDepth 100000 in
theorem spec_l01Minus.calls (K : Nat) (a0 : Int) (a1_0 : Int) (a1_1 : Int) (a2_0 : Int) (a2_1 : Int) (r0 : Int) (r1 : Int) (w : World)  (h : spec_l01Minus.f K a0 a1_0 a1_1 a2_0 a2_1 = some (r0, r1)) :
    Calls Try.prog 32 #[.int .i64 a0, .agg #[.int .i64 a1_0, .int .i64 a1_1], .agg #[.int .i64 a2_0, .int .i64 a2_1]] w fun e w' => e = .returned (.agg #[.int .i64 r0, .int .i64 r1]) ∧ Up w w' := by
 have H : (((spec_l01Mod.f K (wrap64 (a1_0 - a2_0)) a0).bind fun t12 => ((spec_l01Mod.f K (wrap64 (a1_1 - a2_1)) a0).bind fun t14 => some (t12, t14))) : Option (Int × Int)) = some (r0, r1) := h
 clear h
 obtain ⟨t12,A13,H⟩:=bnd H;try dsimp only at H
 obtain ⟨t14,A15,H⟩:=bnd H;try dsimp only at H
 simp only [Option.some.injEq, Prod.mk.injEq] at H
 obtain ⟨rfl, rfl⟩ := H
 go_enter Try.func32, Try.ntmps32
 refine wp_hide (fun Qf hQf => ?_)
 refine wsr fun _ hK1=>?_
 refine stp (cs := [.int .i64 a1_0, .int .i64 a1_1]) (T := 28) ?_
 intro b2 w3 hu4 lbb2 ltb2 hb2
 simp only[nm]
 refine stp (cs := [.int .i64 a2_0, .int .i64 a2_1]) (T := 28) ?_
 intro b5 w6 hu7 lbb5 ltb5 hb5
 simp only[nm]
 refine stp (cs := [.int .i64 0, .int .i64 0]) (T := 28) ?_
 intro b8 w9 hu10 lbb8 ltb8 hb8
 simp only[nm]
 refine wln (hK1 _ _ ?_)
 refine wp_seq_k fun K11 hK11=>?_
 refine' wp_region_up 15 [Slot.det _, Slot.det _, Slot.det _, Slot.det _, Slot.det _, Slot.det _, Slot.det (.int .i64 t12), Slot.det _, Slot.det _, Slot.det _, Slot.det _, Slot.det _, Slot.det _, Slot.det (.int .i64 t14), Slot.det _] (by kernel_rfl) (by kernel_rfl) ?main
 case main =>
  simp only [List.take_succ_cons, List.take_zero]
  refine wpK_ops rfl (fun w1 hu => ?_) ?_
  · clear hu
    go_simp
    first | done | rfl
  simp only[nm]
  refine wpK_ops rfl (fun w1 hu => ?_) ?_
  · have cl0 := ((hb2.up (hu7.out.trans hu10.out)).up ((Up.refl _).drew.trans hu)).cell (o := 0) rfl
    go_simp
    first | done | rfl
  simp only[nm]
  refine wpK_ops rfl (fun w1 hu => ?_) ?_
  · clear hu
    go_simp
    first | done | rfl
  simp only[nm]
  refine wpK_ops rfl (fun w1 hu => ?_) ?_
  · have cl0 := ((hb5.up hu10.out).up ((Up.refl _).drew.trans hu)).cell (o := 0) rfl
    go_simp
    first | done | rfl
  simp only[nm]
  refine wpK_ops rfl (fun w1 hu => ?_) ?_
  · clear hu
    go_simp
    first | done | rfl
  simp only[nm]
  refine wpK_ops rfl (fun w1 hu => ?_) ?_
  · clear hu
    go_simp
    first | done | rfl
  simp only[nm]
  refine wpK_ops rfl (fun w1 hu => ?_) ?_
  · have hcl := (spec_l01Mod.calls K (wrap64 (a1_0 - a2_0)) a0 t12 w1  A13.out)
    clear hu
    replace hcl := Aside0.mk hcl
    go_simp
    exact hcl.out
  simp only[nm]
  refine wpK_ops rfl (fun w1 hu => ?_) ?_
  · clear hu
    go_simp
    first | done | rfl
  simp only[nm]
  refine wpK_ops rfl (fun w1 hu => ?_) ?_
  · have cl0 := ((hb2.up (hu7.out.trans hu10.out)).up ((Up.refl _).drew.trans hu)).cell (o := 1) rfl
    go_simp
    first | done | rfl
  simp only[nm]
  refine wpK_ops rfl (fun w1 hu => ?_) ?_
  · clear hu
    go_simp
    first | done | rfl
  simp only[nm]
  refine wpK_ops rfl (fun w1 hu => ?_) ?_
  · have cl0 := ((hb5.up hu10.out).up ((Up.refl _).drew.trans hu)).cell (o := 1) rfl
    go_simp
    first | done | rfl
  simp only[nm]
  refine wpK_ops rfl (fun w1 hu => ?_) ?_
  · clear hu
    go_simp
    first | done | rfl
  simp only[nm]
  refine wpK_ops rfl (fun w1 hu => ?_) ?_
  · clear hu
    go_simp
    first | done | rfl
  simp only[nm]
  refine wpK_ops rfl (fun w1 hu => ?_) ?_
  · have hcl := (spec_l01Mod.calls K (wrap64 (a1_1 - a2_1)) a0 t14 w1  A15.out)
    clear hu
    replace hcl := Aside0.mk hcl
    go_simp
    exact hcl.out
  simp only[nm]
  refine wpK_ops rfl (fun w1 hu => ?_) ?_
  · clear hu
    go_simp
    first | done | rfl
  simp only[nm]
  refine wpK_nil ?_
  intro w16 hu hap
  simp only [List.drop_succ_cons, List.drop_zero]
  replace hu := (Up.refl _).drew.trans hu
  clear hap
  have hu17 := Aside0.mk hu
  clear hu
  refine stw [.int .i64 t12, .int .i64 t14] (hb8.up hu17.out) rfl rfl rfl rfl rfl (by kernel_rfl) rfl rfl ?_
  intro w18 hs19 hb20
  refine wln (hK11 _ _ ?_)
  refine wp_ret ?_
  refine hQf _ _ _ ?_
  have cr0 := hb20.cell (o := 0) rfl
  have cr1 := hb20.cell (o := 1) rfl
  exact bodyPost_ret (v := .agg #[.int .i64 t12, .int .i64 t14]) (by first|rfl|simp [results, Try.results32, go_sem, cr0, cr1]<;>rfl) rfl ⟨rfl, ((((hu4.out.trans hu7.out).trans hu10.out).trans hu17.out).sto (Nat.le_trans ((Nat.le_trans (hu4.out.size) hu7.out.size)) lbb8.out) hs19.out)⟩

set_option maxHeartbeats 40000000 in
set_option maxRecDepth 100000 in
theorem spec_l02Product.calls (K : Nat) (a0 : Int) (a1 : Int) (a2_0 : Int) (a2_1 : Int) (a3_0 : Int) (a3_1 : Int) (r0 : Int) (w : World)  (h : spec_l02Product.f K a0 a1 a2_0 a2_1 a3_0 a3_1 = some (r0)) :
    Calls Try.prog 51 #[.int .i64 a0, .int .i64 a1, .agg #[.int .i64 a2_0, .int .i64 a2_1], .agg #[.int .i64 a3_0, .int .i64 a3_1]] w fun e w' => e = .returned (.int .i64 r0) ∧ Up w w' := by
 have H : ((if (a1 == 0) = true then ((spec_l01Mod.f K (wrap64 ((wrap64 (a2_0 * a3_0)) + (wrap64 (a2_1 * a3_1)))) a0).bind fun t13 => some t13) else (if (a1 == 1) = true then ((spec_l01Mod.f K (wrap64 ((wrap64 (a2_0 * a3_0)) - (wrap64 (a2_1 * a3_1)))) a0).bind fun t20 => some t20) else ((spec_l01Mod.f K (wrap64 ((wrap64 (a2_0 * a3_1)) + (wrap64 (a2_1 * a3_0)))) a0).bind fun t25 => some t25))) : Option (Int)) = some (r0) := h
 clear h
 go_enter Try.func51, Try.ntmps51
 refine wp_hide (fun Qf hQf => ?_)
 refine wsr fun _ hK1=>?_
 refine stp (cs := [.int .i64 a2_0, .int .i64 a2_1]) (T := 28) ?_
 intro b2 w3 hu4 lbb2 ltb2 hb2
 simp only[nm]
 refine stp (cs := [.int .i64 a3_0, .int .i64 a3_1]) (T := 28) ?_
 intro b5 w6 hu7 lbb5 ltb5 hb5
 simp only[nm]
 refine wpp fun k h=>?_;go_simp;apply h;clear h k
 refine wln (hK1 _ _ ?_)
 refine wp_seq_k fun K8 hK8=>?_
 refine wsr fun _ hK9=>?_
 refine wpp fun k h=>?_;go_simp;apply h;clear h k
 refine wln (hK9 _ _ ?_)
 refine wp_block ?_
 refine wsr fun _ hK10=>?_
 iterate 2 (refine wpp fun k h=>?_;go_simp;apply h;clear h k)
 refine wln (hK10 _ _ ?_)
 by_cases c11 : (a1 == 0) = true
 ·
  rw [if_pos c11] at H
  have c11n : (a1 != 0) = false := by rw [bne, c11]; rfl
  obtain ⟨t13,A14,H⟩:=bnd H;try dsimp only at H
  obtain rfl := Option.some.inj H
  try simp only [c11, c11n, Bool.not_true, Bool.not_false]
  refine wp_cond_true rfl ?_
  refine wsr fun _ hK12=>?_
  refine wpp fun k h=>?_;go_simp;apply h;clear h k
  have cl0 := (hb2.up hu7.out).cell (o := 0) rfl
  refine wpp fun k h=>?_;go_simp;apply h;clear h k
  clear cl0
  refine wpp fun k h=>?_;go_simp;apply h;clear h k
  have cl0 := hb5.cell (o := 0) rfl
  refine wpp fun k h=>?_;go_simp;apply h;clear h k
  clear cl0
  iterate 2 (refine wpp fun k h=>?_;go_simp;apply h;clear h k)
  have cl0 := (hb2.up hu7.out).cell (o := 1) rfl
  refine wpp fun k h=>?_;go_simp;apply h;clear h k
  clear cl0
  refine wpp fun k h=>?_;go_simp;apply h;clear h k
  have cl0 := hb5.cell (o := 1) rfl
  refine wpp fun k h=>?_;go_simp;apply h;clear h k
  clear cl0
  iterate 3 (refine wpp fun k h=>?_;go_simp;apply h;clear h k)
  refine stc (spec_l01Mod.calls K (wrap64 ((wrap64 (a2_0 * a3_0)) + (wrap64 (a2_1 * a3_1)))) a0 t13 w6  A14.out) ?_
  intro w15 hu16
  simp only[nm]
  refine wpp fun k h=>?_;go_simp;apply h;clear h k
  refine wln (hK12 _ _ ?_)
  refine wp_ret ?_
  refine hQf _ _ _ ?_
  exact bpr (v := .int .i64 t13) ⟨rfl, ((hu4.out.trans hu7.out).trans hu16.out)⟩
 rw [if_neg c11] at H; replace c11 := Bool.eq_false_iff.mpr c11
 have c11n : (a1 != 0) = true := by rw [bne, c11]; rfl
 have c11p : ¬ a1 = 0 := fun e => by simp [e] at c11
 try simp only [c11, c11n, Bool.not_true, Bool.not_false]
 refine wp_cond_false rfl ?_
 refine wsr fun _ hK17=>?_
 iterate 2 (refine wpp fun k h=>?_;go_simp;apply h;clear h k)
 refine wln (hK17 _ _ ?_)
 by_cases c18 : (a1 == 1) = true
 ·
  rw [if_pos c18] at H
  have c18n : (a1 != 1) = false := by rw [bne, c18]; rfl
  obtain ⟨t20,A21,H⟩:=bnd H;try dsimp only at H
  obtain rfl := Option.some.inj H
  try simp only [c18, c18n, Bool.not_true, Bool.not_false]
  refine wp_cond_true rfl ?_
  refine wsr fun _ hK19=>?_
  refine wpp fun k h=>?_;go_simp;apply h;clear h k
  have cl0 := (hb2.up hu7.out).cell (o := 0) rfl
  refine wpp fun k h=>?_;go_simp;apply h;clear h k
  clear cl0
  refine wpp fun k h=>?_;go_simp;apply h;clear h k
  have cl0 := hb5.cell (o := 0) rfl
  refine wpp fun k h=>?_;go_simp;apply h;clear h k
  clear cl0
  iterate 2 (refine wpp fun k h=>?_;go_simp;apply h;clear h k)
  have cl0 := (hb2.up hu7.out).cell (o := 1) rfl
  refine wpp fun k h=>?_;go_simp;apply h;clear h k
  clear cl0
  refine wpp fun k h=>?_;go_simp;apply h;clear h k
  have cl0 := hb5.cell (o := 1) rfl
  refine wpp fun k h=>?_;go_simp;apply h;clear h k
  clear cl0
  iterate 3 (refine wpp fun k h=>?_;go_simp;apply h;clear h k)
  refine stc (spec_l01Mod.calls K (wrap64 ((wrap64 (a2_0 * a3_0)) - (wrap64 (a2_1 * a3_1)))) a0 t20 w6  A21.out) ?_
  intro w22 hu23
  simp only[nm]
  refine wpp fun k h=>?_;go_simp;apply h;clear h k
  refine wln (hK19 _ _ ?_)
  refine wp_ret ?_
  refine hQf _ _ _ ?_
  exact bpr (v := .int .i64 t20) ⟨rfl, ((hu4.out.trans hu7.out).trans hu23.out)⟩
 rw [if_neg c18] at H; replace c18 := Bool.eq_false_iff.mpr c18
 have c18n : (a1 != 1) = true := by rw [bne, c18]; rfl
 have c18p : ¬ a1 = 1 := fun e => by simp [e] at c18
 obtain ⟨t25,A26,H⟩:=bnd H;try dsimp only at H
 obtain rfl := Option.some.inj H
 try simp only [c18, c18n, Bool.not_true, Bool.not_false]
 refine wp_cond_false rfl ?_
 refine wp_skip ?_
 refine hK8 _ _ ?_
 refine wsr fun _ hK24=>?_
 refine wpp fun k h=>?_;go_simp;apply h;clear h k
 have cl0 := (hb2.up hu7.out).cell (o := 0) rfl
 refine wpp fun k h=>?_;go_simp;apply h;clear h k
 clear cl0
 refine wpp fun k h=>?_;go_simp;apply h;clear h k
 have cl0 := hb5.cell (o := 1) rfl
 refine wpp fun k h=>?_;go_simp;apply h;clear h k
 clear cl0
 iterate 2 (refine wpp fun k h=>?_;go_simp;apply h;clear h k)
 have cl0 := (hb2.up hu7.out).cell (o := 1) rfl
 refine wpp fun k h=>?_;go_simp;apply h;clear h k
 clear cl0
 refine wpp fun k h=>?_;go_simp;apply h;clear h k
 have cl0 := hb5.cell (o := 0) rfl
 refine wpp fun k h=>?_;go_simp;apply h;clear h k
 clear cl0
 iterate 3 (refine wpp fun k h=>?_;go_simp;apply h;clear h k)
 refine stc (spec_l01Mod.calls K (wrap64 ((wrap64 (a2_0 * a3_1)) + (wrap64 (a2_1 * a3_0)))) a0 t25 w6  A26.out) ?_
 intro w27 hu28
 simp only[nm]
 refine wpp fun k h=>?_;go_simp;apply h;clear h k
 refine wln (hK24 _ _ ?_)
 refine wp_ret ?_
 refine hQf _ _ _ ?_
 exact bpr (v := .int .i64 t25) ⟨rfl, ((hu4.out.trans hu7.out).trans hu28.out)⟩

set_option maxHeartbeats 40000000 in
set_option maxRecDepth 100000 in
theorem spec_l02Quadrance.calls (K : Nat) (a0 : Int) (a1 : Int) (a2_0 : Int) (a2_1 : Int) (a3_0 : Int) (a3_1 : Int) (r0 : Int) (w : World)  (h : spec_l02Quadrance.f K a0 a1 a2_0 a2_1 a3_0 a3_1 = some (r0)) :
    Calls Try.prog 30 #[.int .i64 a0, .int .i64 a1, .agg #[.int .i64 a2_0, .int .i64 a2_1], .agg #[.int .i64 a3_0, .int .i64 a3_1]] w fun e w' => e = .returned (.int .i64 r0) ∧ Up w w' := by
 have H : (((spec_l01Minus.f K a0 a3_0 a3_1 a2_0 a2_1).bind fun (t9, t10) => ((spec_l02Product.f K a0 a1 t9 t10 t9 t10).bind fun t21 => some t21)) : Option (Int)) = some (r0) := h
 clear h
 obtain ⟨⟨t9, t10⟩,A11,H⟩:=bnd H;try dsimp only at H
 obtain ⟨t21,A22,H⟩:=bnd H;try dsimp only at H
 obtain rfl := Option.some.inj H
 go_enter Try.func30, Try.ntmps30
 refine wp_hide (fun Qf hQf => ?_)
 refine wsr fun _ hK1=>?_
 refine stp (cs := [.int .i64 a2_0, .int .i64 a2_1]) (T := 28) ?_
 intro b2 w3 hu4 lbb2 ltb2 hb2
 simp only[nm]
 refine stp (cs := [.int .i64 a3_0, .int .i64 a3_1]) (T := 28) ?_
 intro b5 w6 hu7 lbb5 ltb5 hb5
 simp only[nm]
 refine wpp fun k h=>?_;go_simp;apply h;clear h k
 refine wln (hK1 _ _ ?_)
 refine wsr fun _ hK8=>?_
 refine wpp fun k h=>?_;go_simp;apply h;clear h k
 have cl0 := hb5.cell (o := 0) rfl
 have cl1 := hb5.cell (o := 1) rfl
 refine wpp fun k h=>?_;go_simp;apply h;clear h k
 clear cl0 cl1
 have cl0 := (hb2.up hu7.out).cell (o := 0) rfl
 have cl1 := (hb2.up hu7.out).cell (o := 1) rfl
 refine wpp fun k h=>?_;go_simp;apply h;clear h k
 clear cl0 cl1
 refine stc (spec_l01Minus.calls K a0 a3_0 a3_1 a2_0 a2_1 t9 t10 w6  A11.out) ?_
 intro w12 hu13
 simp only[nm]
 refine stp (cs := [.int .i64 0, .int .i64 0]) (T := 28) ?_
 intro b14 w15 hu16 lbb14 ltb14 hb14
 simp only[nm]
 refine stw [.int .i64 t9, .int .i64 t10] hb14 rfl rfl rfl rfl rfl (by kernel_rfl) rfl rfl ?_
 intro w17 hs18 hb19
 refine wln (hK8 _ _ ?_)
 refine wsr fun _ hK20=>?_
 iterate 2 (refine wpp fun k h=>?_;go_simp;apply h;clear h k)
 have cl0 := hb19.cell (o := 0) rfl
 have cl1 := hb19.cell (o := 1) rfl
 refine wpp fun k h=>?_;go_simp;apply h;clear h k
 clear cl0 cl1
 have cl0 := hb19.cell (o := 0) rfl
 have cl1 := hb19.cell (o := 1) rfl
 refine wpp fun k h=>?_;go_simp;apply h;clear h k
 clear cl0 cl1
 refine stc (spec_l02Product.calls K a0 a1 t9 t10 t9 t10 t21 w17  A22.out) ?_
 intro w23 hu24
 simp only[nm]
 refine wpp fun k h=>?_;go_simp;apply h;clear h k
 refine wln (hK20 _ _ ?_)
 refine wp_ret ?_
 refine hQf _ _ _ ?_
 exact bpr (v := .int .i64 t21) ⟨rfl, (((((hu4.out.trans hu7.out).trans hu13.out).trans hu16.out).sto (Nat.le_trans ((Nat.le_trans ((Nat.le_trans (hu4.out.size) hu7.out.size)) hu13.out.size)) lbb14.out) hs18.out).trans hu24.out)⟩

set_option maxHeartbeats 40000000 in
set_option maxRecDepth 100000 in
theorem spec_l02At.calls (K : Nat) (a0 : Int) (a1 : Int) (a2_0 : Int) (a2_1 : Int) (a3 : Int) (r0 : List (Int × Int)) (w : World)  (h : spec_l02At.f K a0 a1 a2_0 a2_1 a3 = some (r0)) :
    Calls Try.prog 12 #[.int .i64 a0, .int .i64 a1, .agg #[.int .i64 a2_0, .int .i64 a2_1], .int .i64 a3] w fun e w' => ∃ (Ar0 : Option Addr) (cr0 : Nat), e = .returned (.slice Ar0 r0.length cr0) ∧ Own e2 28 w' w.heap.size (.slice Ar0 r0.length cr0) r0 ∧ Up w w' := by
 have H : ((spec_l02At.l0 K a0 a1 a2_0 a2_1 a3 K 0 ([] : List (Int × Int))) : Option (List (Int × Int))) = some (r0) := h
 clear h
 go_enter Try.func12, Try.ntmps12
 refine wp_hide (fun Qf hQf => ?_)
 refine wsr fun _ hK1=>?_
 refine stp (cs := [.int .i64 a2_0, .int .i64 a2_1]) (T := 28) ?_
 intro b2 w3 hu4 lbb2 ltb2 hb2
 simp only[nm]
 refine wpp fun k h=>?_;go_simp;apply h;clear h k
 refine wln (hK1 _ _ ?_)
 refine wsr fun _ hK5=>?_
 refine step_new (cs := []) (T := 28) (f := fun b => .slice (some ⟨b, 0, none⟩) 0 0) rfl (by go_simp <;> rfl) ?_
 intro b6 w7 hu lb hb6
 simp only[nm]
 have lbb6 := Aside0.mk lb
 clear lb
 have hu8 := Aside0.mk hu
 clear hu
 refine wpp fun k h=>?_;go_simp;apply h;clear h k
 refine wln (hK5 _ _ ?_)
 refine wp_seq_k fun K9 hK9=>?_
 refine wsr fun _ hK10=>?_
 refine wpp fun k h=>?_;go_simp;apply h;clear h k
 refine wln (hK10 _ _ ?_)
 refine wp_block ?_
 have h12 : Own e2 28 w7 w3.heap.size (.slice (some ⟨b6, 0, none⟩) ([].length) 0) [] := Own.of_blk hb6 lbb6.out rfl (by simp) (by simp [Enc.flat, e2])
 have HL20 := Aside0.mk H
 clear H
 go_loopg [10, 9] K (fun kq v10 v9 w' => ∃ (x13 : Int) (x14 : List (Int × Int)) (P15 : Option Addr) (q16 : Nat), v10 = .int .i64 x13 ∧ v9 = .slice P15 x14.length q16 ∧ Aside0 (spec_l02At.l0 K a0 a1 a2_0 a2_1 a3 kq x13 x14 = some (r0)) ∧ Aside0 (kq ≤ K) ∧ Aside0 (Up w3 w') ∧ Aside0 (w7.heap.size ≤ w'.heap.size) ∧ Own e2 28 w' w3.heap.size (.slice P15 x14.length q16) x14 ∧ Aside0 (∀ k, blk (.slice P15 x14.length q16) = some k → k ≠ b2))
 case atStart => exact ⟨0, ([] : List (Int × Int)), some ⟨b6, 0, none⟩, 0, (by first | rfl | simp), (by first | rfl | simp), HL20, ⟨Nat.le_refl _⟩, ⟨hu8.out⟩, ⟨Nat.le_refl _⟩, h12, ⟨(fun k hk => Ne.symm ((fun k hk => Nat.ne_of_lt (Nat.lt_of_lt_of_le ltb2.out ((fun k hk => Nat.le_trans (Nat.le_refl _) (h12.lt k hk).1) k hk))) k hk))⟩⟩
 case round =>
  rename_i J25 K26 hJ25 hK26
  obtain ⟨x13, x14, P15, q16, rfl, rfl, HL27, hk24, hu18, hz19, h21, hn22⟩ := hrel
  obtain ⟨w17, rfl⟩ : ∃ wo : World, wo = wr := ⟨_, rfl⟩
  obtain ⟨k23, rfl⟩ | rfl : (∃ k, gk = k + 1) ∨ gk = 0 := by rcases gk with _ | k; exact .inr rfl; exact .inl ⟨k, rfl⟩
  case inr => exact absurd HL27.out (by simp [spec_l02At.l0])
  have H := HL27.out
  clear HL27
  rw [spec_l02At.l0] at H
  refine wp_seq_k fun K28 hK28=>?_
  refine wsr fun _ hK29=>?_
  iterate 3 (refine wpp fun k h=>?_;go_simp;apply h;clear h k)
  refine wln (hK29 _ _ ?_)
  have hm31 := Aside0.mk (hu4.out.trans hu18.out)
  by_cases c30 : (decide (x13 < a0)) = true
  rotate_left
  ·
   rw [if_neg c30] at H; replace c30 := Bool.eq_false_iff.mpr c30
   obtain rfl := Option.some.inj H
   try simp only [c30, Bool.not_true, Bool.not_false]
   refine wp_cond_false rfl ?_
   refine wp_exit ?_
   refine hK9 _ _ ?_
   refine wsr fun _ hK87=>?_
   iterate 2 (refine wpp fun k h=>?_;go_simp;apply h;clear h k)
   refine wln (hK87 _ _ ?_)
   refine wp_ret ?_
   refine hQf _ _ _ ?_
   exact bpr (v := .slice P15 x14.length q16) ⟨P15, q16, rfl, (h21.lower (hu4.out.size)), hm31.out⟩
  rw [if_pos c30] at H
  try simp only [c30, Bool.not_true, Bool.not_false]
  refine wp_cond_true rfl ?_
  refine wp_skip ?_
  refine hK28 _ _ ?_
  refine wp_seq_k fun K32 hK32=>?_
  refine wp_block ?_
  refine wsr fun _ hK33=>?_
  refine wpp fun k h=>?_;go_simp;apply h;clear h k
  refine wln (hK33 _ _ ?_)
  refine wp_block ?_
  have HL41 := Aside0.mk H
  clear H
  go_loopg [11, 9] k23 (fun kq v11 v9 w' => ∃ (x34 : Int) (x35 : List (Int × Int)) (P36 : Option Addr) (q37 : Nat), v11 = .int .i64 x34 ∧ v9 = .slice P36 x35.length q37 ∧ Aside0 (spec_l02At.l1 K a0 a1 a2_0 a2_1 a3 x13 kq x34 x35 = some (r0)) ∧ Aside0 (kq ≤ k23) ∧ Aside0 (Up w3 w') ∧ Aside0 (w17.heap.size ≤ w'.heap.size) ∧ Own e2 28 w' w3.heap.size (.slice P36 x35.length q37) x35 ∧ Aside0 (∀ k, blk (.slice P36 x35.length q37) = some k → k ≠ b2))
  case atStart => exact ⟨0, x14, P15, q16, (by first | rfl | simp), (by first | rfl | simp), HL41, ⟨Nat.le_refl _⟩, ⟨hu18.out⟩, ⟨Nat.le_refl _⟩, h21, ⟨hn22.out⟩⟩
  case round =>
   rename_i J46 K47 hJ46 hK47
   obtain ⟨x34, x35, P36, q37, rfl, rfl, HL48, hk45, hu39, hz40, h42, hn43⟩ := hrel
   obtain ⟨w38, rfl⟩ : ∃ wo : World, wo = wr := ⟨_, rfl⟩
   obtain ⟨k44, rfl⟩ | rfl : (∃ k, gk = k + 1) ∨ gk = 0 := by rcases gk with _ | k; exact .inr rfl; exact .inl ⟨k, rfl⟩
   case inr => exact absurd HL48.out (by simp [spec_l02At.l1])
   have H := HL48.out
   clear HL48
   rw [spec_l02At.l1] at H
   refine wp_seq_k fun K49 hK49=>?_
   refine wsr fun _ hK50=>?_
   iterate 3 (refine wpp fun k h=>?_;go_simp;apply h;clear h k)
   refine wln (hK50 _ _ ?_)
   by_cases c51 : (decide (x34 < a0)) = true
   rotate_left
   ·
    rw [if_neg c51] at H; replace c51 := Bool.eq_false_iff.mpr c51
    have HL86 := Aside0.mk H
    clear H
    try simp only [c51, Bool.not_true, Bool.not_false]
    refine wp_cond_false rfl ?_
    refine wp_exit ?_
    refine hK32 _ _ ?_
    refine wp_region_lit ?_
    iterate 3 (refine wpp fun k h=>?_;go_simp;apply h;clear h k)
    refine wln (hK26 _ _ ?_)
    go_roundg k44
    case measure => have := hk24.out; have := hk45.out; omega
    case rel => exact ⟨wrap64 (x13 + 1), x35, P36, q37, (by first | rfl | simp), (by first | rfl | simp), HL86, ⟨by have := hk24.out; have := hk45.out; omega⟩, ⟨hu39.out⟩, ⟨(Nat.le_trans ((Nat.le_trans (Nat.le_refl _) hz19.out)) hz40.out)⟩, h42, ⟨hn43.out⟩⟩
   rw [if_pos c51] at H
   obtain ⟨t61,A62,H⟩:=bnd H;try dsimp only at H
   try simp only [c51, Bool.not_true, Bool.not_false]
   refine wp_cond_true rfl ?_
   refine wp_skip ?_
   refine hK49 _ _ ?_
   refine wp_seq_k fun K52 hK52=>?_
   refine wp_block ?_
   refine wsr fun _ hK53=>?_
   iterate 3 (refine wpp fun k h=>?_;go_simp;apply h;clear h k)
   refine stp (cs := [.int .i64 0, .int .i64 0]) (T := 28) ?_
   intro b54 w55 hu56 lbb54 ltb54 hb54
   simp only[nm]
   refine stw [.int .i64 x13, .int .i64 x34] hb54 rfl rfl rfl rfl rfl (by kernel_rfl) rfl rfl ?_
   intro w57 hs58 hb59
   refine wln (hK53 _ _ ?_)
   refine wsr fun _ hK60=>?_
   iterate 2 (refine wpp fun k h=>?_;go_simp;apply h;clear h k)
   have cl0 := (hb2.up ((hu39.out.trans hu56.out).sto (Nat.le_trans ((Nat.le_trans ((Nat.le_trans (hu8.out.size) hz19.out)) hz40.out)) lbb54.out) hs58.out)).cell (o := 0) rfl
   have cl1 := (hb2.up ((hu39.out.trans hu56.out).sto (Nat.le_trans ((Nat.le_trans ((Nat.le_trans (hu8.out.size) hz19.out)) hz40.out)) lbb54.out) hs58.out)).cell (o := 1) rfl
   refine wpp fun k h=>?_;go_simp;apply h;clear h k
   clear cl0 cl1
   have cl0 := hb59.cell (o := 0) rfl
   have cl1 := hb59.cell (o := 1) rfl
   refine wpp fun k h=>?_;go_simp;apply h;clear h k
   clear cl0 cl1
   refine stc (spec_l02Quadrance.calls K a0 a1 a2_0 a2_1 x13 x34 t61 w57  A62.out) ?_
   intro w63 hu64
   simp only[nm]
   iterate 2 (refine wpp fun k h=>?_;go_simp;apply h;clear h k)
   refine wln (hK60 _ _ ?_)
   have hm66 := Aside0.mk ((hu56.out.sto (Nat.le_trans (Nat.le_refl _) lbb54.out) hs58.out).trans hu64.out)
   have hm67 := Aside0.mk (Nat.le_trans ((Nat.le_trans ((Nat.le_trans (hu8.out.size) hz19.out)) hz40.out)) hm66.out.size)
   by_cases c65 : (t61 == a3) = true
   rotate_left
   ·
    rw [if_neg c65] at H; replace c65 := Bool.eq_false_iff.mpr c65
    have c65n : (t61 != a3) = true := by rw [bne, c65]; rfl
    have c65p : ¬ t61 = a3 := fun e => by simp [e] at c65
    have HL85 := Aside0.mk H
    clear H
    try simp only [c65, c65n, Bool.not_true, Bool.not_false]
    refine wp_cond_false rfl ?_
    refine wp_skip ?_
    refine hK52 _ _ ?_
    refine wp_region_lit ?_
    iterate 3 (refine wpp fun k h=>?_;go_simp;apply h;clear h k)
    refine wln (hK47 _ _ ?_)
    go_roundg k44
    case measure => exact Nat.lt_succ_self _
    case rel => exact ⟨wrap64 (x34 + 1), x35, P36, q37, (by first | rfl | simp), (by first | rfl | simp), HL85, ⟨by have := hk24.out; have := hk45.out; omega⟩, ⟨(hu39.out.trans hm66.out)⟩, ⟨(Nat.le_trans ((Nat.le_trans (Nat.le_refl _) hz40.out)) hm66.out.size)⟩, (h42.up hm66.out), ⟨hn43.out⟩⟩
   rw [if_pos c65] at H
   have c65n : (t61 != a3) = false := by rw [bne, c65]; rfl
   try simp only [c65, c65n, Bool.not_true, Bool.not_false]
   refine wp_cond_true rfl ?_
   refine wp_region_lit ?_
   refine wpp fun k h=>?_;go_simp;apply h;clear h k
   have cl0 := (hb59.up hu64.out).cell (o := 0) rfl
   have cl1 := (hb59.up hu64.out).cell (o := 1) rfl
   refine wpp fun k h=>?_;go_simp;apply h;clear h k
   clear cl0 cl1
   refine step_new (cs := [.int .i64 x13, .int .i64 x34]) (T := 28) (f := fun b => .slice (some ⟨b, 0, none⟩) 1 1) rfl (by go_simp <;> rfl) ?_
   intro b68 w69 hu lb hb68
   simp only[nm]
   clear lb
   have hu70 := Aside0.mk hu
   clear hu
   have hm73 := Aside0.mk (Nat.le_trans ((Nat.le_trans ((Nat.le_trans (Nat.le_refl _) hz40.out)) hm66.out.size)) hu70.out.size)
   by_cases c71 : (decide (x35.length ≤ 1000000)) = true
   rotate_left
   ·
    rw [if_neg c71] at H; replace c71 := Bool.eq_false_iff.mpr c71
    exact absurd H (by simp)
   rw [if_pos c71] at H
   have HL84 := Aside0.mk H
   clear H
   try simp only [c71, Bool.not_true, Bool.not_false]
   have hO0 := Aside0.mk (h42.up (hm66.out.trans hu70.out))
   refine step_append e2 (z := .agg #[.int .i64 0, .int .i64 0]) (bytes := 16) (base := w3.heap.size) (xs := x35) (ys := [(x13, x34)]) wn _ _ rfl rfl (by kernel_rfl) rfl (by decide) rfl rfl rfl hO0.out (Rd.of_blk (E := e2) (xs := [(x13, x34)]) (o := 0) hb68 (by simp) (fun j u hu => by rcases j with _ | _ | j <;> simp_all [Enc.flat, e2])) ((Nat.le_trans (hm67.out) hu70.out.size)) (by have h0_ := (of_decide_eq_true (by assumption) : x35.length ≤ 1000000); (try simp only [List.length_cons, List.length_nil]); omega) ?_
   intro P74 q75 w76 h78 hg hat
   have hg79 := Aside0.mk hg
   have hat80 := Aside0.mk hat
   simp only[nm]
   have lb81 := Aside0.mk hO0.out.lt
   clear hO0 hg hat
   refine wpp fun k h=>?_;go_simp;apply h;clear h k
   refine wln (hK52 _ _ ?_)
   refine wp_region_lit ?_
   iterate 3 (refine wpp fun k h=>?_;go_simp;apply h;clear h k)
   refine wln (hK47 _ _ ?_)
   go_roundg k44
   case measure => exact Nat.lt_succ_self _
   case rel => exact ⟨wrap64 (x34 + 1), (x35 ++ [(x13, x34)]), P74, q75, (by first | rfl | simp), (by first | rfl | simp), HL84, ⟨by have := hk24.out; have := hk45.out; omega⟩, ⟨(((hu39.out.trans hm66.out).trans hu70.out).grow hg79.out (fun k hk => Nat.le_trans (Nat.le_refl _) ((fun k hk => (lb81.out k hk).1) k hk)))⟩, ⟨(Nat.le_trans (hm73.out) hg79.out.size)⟩, h78, ⟨(fun k hk => hat80.out.elim (fun e => hn43.out k (e.symm.trans hk)) (fun g => Nat.ne_of_gt (Nat.lt_of_lt_of_le (Nat.lt_of_lt_of_le ltb2.out ((Nat.le_trans (hm67.out) hu70.out.size))) (g k hk))))⟩⟩

set_option maxHeartbeats 40000000 in
set_option maxRecDepth 100000 in
theorem spec_l01Inverse.calls (K : Nat) (a0 : Int) (a1 : Int) (r0 : Int) (w : World)  (h : spec_l01Inverse.f K a0 a1 = some (r0)) :
    Calls Try.prog 81 #[.int .i64 a0, .int .i64 a1] w fun e w' => e = .returned (.int .i64 r0) ∧ Up w w' := by
 have H : (((spec_l01Mod.f K a0 a1).bind fun t3 => (spec_l01Inverse.l0 K a1 K 1 t3 (wrap64 (a1 - 2)))) : Option (Int)) = some (r0) := h
 clear h
 obtain ⟨t3,A4,H⟩:=bnd H;try dsimp only at H
 go_enter Try.func81, Try.ntmps81
 refine wp_hide (fun Qf hQf => ?_)
 refine wsr fun _ hK1=>?_
 refine wpp fun k h=>?_;go_simp;apply h;clear h k
 refine wln (hK1 _ _ ?_)
 refine wsr fun _ hK2=>?_
 iterate 2 (refine wpp fun k h=>?_;go_simp;apply h;clear h k)
 refine stc (spec_l01Mod.calls K a0 a1 t3 w  A4.out) ?_
 intro w5 hu6
 simp only[nm]
 iterate 2 (refine wpp fun k h=>?_;go_simp;apply h;clear h k)
 refine wln (hK2 _ _ ?_)
 refine wp_seq_k fun K7 hK7=>?_
 refine wsr fun _ hK8=>?_
 iterate 3 (refine wpp fun k h=>?_;go_simp;apply h;clear h k)
 refine wln (hK8 _ _ ?_)
 refine wp_block ?_
 have HL15 := Aside0.mk H
 clear H
 go_loopg [5, 6, 7] K (fun kq v5 v6 v7 w' => ∃ (x9 : Int) (x10 : Int) (x11 : Int), v5 = .int .i64 x9 ∧ v6 = .int .i64 x10 ∧ v7 = .int .i64 x11 ∧ Aside0 (spec_l01Inverse.l0 K a1 kq x9 x10 x11 = some (r0)) ∧ Aside0 (kq ≤ K) ∧ Aside0 (Up w5 w') ∧ Aside0 (w5.heap.size ≤ w'.heap.size))
 case atStart => exact ⟨1, t3, wrap64 (a1 - 2), (by first | rfl | simp), (by first | rfl | simp), (by first | rfl | simp), HL15, ⟨Nat.le_refl _⟩, ⟨(Up.refl _)⟩, ⟨Nat.le_refl _⟩⟩
 case round =>
  rename_i J18 K19 hJ18 hK19
  obtain ⟨x9, x10, x11, rfl, rfl, rfl, HL20, hk17, hu13, hz14⟩ := hrel
  obtain ⟨w12, rfl⟩ : ∃ wo : World, wo = wr := ⟨_, rfl⟩
  obtain ⟨k16, rfl⟩ | rfl : (∃ k, gk = k + 1) ∨ gk = 0 := by rcases gk with _ | k; exact .inr rfl; exact .inl ⟨k, rfl⟩
  case inr => exact absurd HL20.out (by simp [spec_l01Inverse.l0])
  have H := HL20.out
  clear HL20
  rw [spec_l01Inverse.l0] at H
  refine wp_seq_k fun K21 hK21=>?_
  refine wsr fun _ hK22=>?_
  iterate 2 (refine wpp fun k h=>?_;go_simp;apply h;clear h k)
  refine wln (hK22 _ _ ?_)
  by_cases c23 : (decide (0 < x11)) = true
  rotate_left
  ·
   rw [if_neg c23] at H; replace c23 := Bool.eq_false_iff.mpr c23
   obtain rfl := Option.some.inj H
   try simp only [c23, Bool.not_true, Bool.not_false]
   refine wp_cond_false rfl ?_
   refine wp_exit ?_
   refine hK7 _ _ ?_
   refine wsr fun _ hK32=>?_
   iterate 2 (refine wpp fun k h=>?_;go_simp;apply h;clear h k)
   refine wln (hK32 _ _ ?_)
   refine wp_ret ?_
   refine hQf _ _ _ ?_
   exact bpr (v := .int .i64 x9) ⟨rfl, (hu6.out.trans hu13.out)⟩
  rw [if_pos c23] at H
  try simp only [c23, Bool.not_true, Bool.not_false]
  refine wp_cond_true rfl ?_
  refine wp_skip ?_
  refine hK21 _ _ ?_
  refine wp_seq_k fun K24 hK24=>?_
  refine wp_block ?_
  refine wp_seq_k fun K25 hK25=>?_
  refine wsr fun _ hK26=>?_
  iterate 3 (refine wpp fun k h=>?_;go_simp;apply h;clear h k)
  refine wln (hK26 _ _ ?_)
  by_cases c27 : ((Int.tmod x11 2) == 1) = true
  rotate_left
  ·
   rw [if_neg c27] at H; replace c27 := Bool.eq_false_iff.mpr c27
   have c27n : ((Int.tmod x11 2) != 1) = true := by rw [bne, c27]; rfl
   have c27p : ¬ (Int.tmod x11 2) = 1 := fun e => by simp [e] at c27
   try simp only [c27, c27n, Bool.not_true, Bool.not_false]
   refine wp_cond_false rfl ?_
   refine wp_skip ?_
   refine hK25 _ _ ?_
   refine wp_region_lit ?_
   iterate 4 (refine wpp fun k h=>?_;go_simp;apply h;clear h k)
   by_cases c30 : (a1 == 0) = true
   ·
    rw [if_pos c30] at H
    have c30n : (a1 != 0) = false := by rw [bne, c30]; rfl
    exact absurd H (by simp)
   rw [if_neg c30] at H; replace c30 := Bool.eq_false_iff.mpr c30
   have c30n : (a1 != 0) = true := by rw [bne, c30]; rfl
   have c30p : ¬ a1 = 0 := fun e => by simp [e] at c30
   have HL31 := Aside0.mk H
   clear H
   try simp only [c30, c30n, Bool.not_true, Bool.not_false]
   iterate 2 (refine wpp fun k h=>?_;go_simp;apply h;clear h k)
   refine wln (hK24 _ _ ?_)
   refine wp_region_lit ?_
   iterate 3 (refine wpp fun k h=>?_;go_simp;apply h;clear h k)
   refine wln (hK19 _ _ ?_)
   go_roundg k16
   case measure => exact Nat.lt_succ_self _
   case rel => exact ⟨x9, Int.tmod (wrap64 (x10 * x10)) a1, wrap64 (Int.tdiv x11 2), (by first | rfl | simp), (by first | rfl | simp), (by first | rfl | simp), HL31, ⟨by have := hk17.out; omega⟩, ⟨hu13.out⟩, ⟨(Nat.le_trans (Nat.le_refl _) hz14.out)⟩⟩
  rw [if_pos c27] at H
  have c27n : ((Int.tmod x11 2) != 1) = false := by rw [bne, c27]; rfl
  try simp only [c27, c27n, Bool.not_true, Bool.not_false]
  refine wp_cond_true rfl ?_
  refine wp_region_lit ?_
  iterate 4 (refine wpp fun k h=>?_;go_simp;apply h;clear h k)
  by_cases c28 : (a1 == 0) = true
  ·
   rw [if_pos c28] at H
   have c28n : (a1 != 0) = false := by rw [bne, c28]; rfl
   exact absurd H (by simp)
  rw [if_neg c28] at H; replace c28 := Bool.eq_false_iff.mpr c28
  have c28n : (a1 != 0) = true := by rw [bne, c28]; rfl
  have c28p : ¬ a1 = 0 := fun e => by simp [e] at c28
  have HL29 := Aside0.mk H
  clear H
  try simp only [c28, c28n, Bool.not_true, Bool.not_false]
  iterate 2 (refine wpp fun k h=>?_;go_simp;apply h;clear h k)
  refine wln (hK25 _ _ ?_)
  refine wp_region_lit ?_
  iterate 6 (refine wpp fun k h=>?_;go_simp;apply h;clear h k)
  refine wln (hK24 _ _ ?_)
  refine wp_region_lit ?_
  iterate 3 (refine wpp fun k h=>?_;go_simp;apply h;clear h k)
  refine wln (hK19 _ _ ?_)
  go_roundg k16
  case measure => exact Nat.lt_succ_self _
  case rel => exact ⟨Int.tmod (wrap64 (x9 * x10)) a1, Int.tmod (wrap64 (x10 * x10)) a1, wrap64 (Int.tdiv x11 2), (by first | rfl | simp), (by first | rfl | simp), (by first | rfl | simp), HL29, ⟨by have := hk17.out; omega⟩, ⟨hu13.out⟩, ⟨(Nat.le_trans (Nat.le_refl _) hz14.out)⟩⟩

set_option maxHeartbeats 40000000 in
set_option maxRecDepth 100000 in
theorem spec_l01Normal.calls (K : Nat) (a0 : Int) (a1 : Int) (a2 : Int) (a3 : Int) (r0 : Int) (r1 : Int) (r2 : Int) (w : World)  (h : spec_l01Normal.f K a0 a1 a2 a3 = some (r0, r1, r2)) :
    Calls Try.prog 53 #[.int .i64 a0, .int .i64 a1, .int .i64 a2, .int .i64 a3] w fun e w' => e = .returned (.agg #[.int .i64 r0, .int .i64 r1, .int .i64 r2]) ∧ Up w w' := by
 have H : (((spec_l01Mod.f K a1 a0).bind fun t6 => (if (t6 == 0) = true then ((spec_l01Mod.f K a2 a0).bind fun t13 => ((spec_l01Inverse.f K t13 a0).bind fun t18 => ((spec_l01Mod.f K (wrap64 (a1 * t18)) a0).bind fun t23 => ((spec_l01Mod.f K (wrap64 (a2 * t18)) a0).bind fun t27 => ((spec_l01Mod.f K (wrap64 (a3 * t18)) a0).bind fun t31 => some (t23, t27, t31)))))) else ((spec_l01Inverse.f K t6 a0).bind fun t39 => ((spec_l01Mod.f K (wrap64 (a1 * t39)) a0).bind fun t44 => ((spec_l01Mod.f K (wrap64 (a2 * t39)) a0).bind fun t48 => ((spec_l01Mod.f K (wrap64 (a3 * t39)) a0).bind fun t52 => some (t44, t48, t52))))))) : Option (Int × Int × Int)) = some (r0, r1, r2) := h
 clear h
 obtain ⟨t6,A7,H⟩:=bnd H;try dsimp only at H
 go_enter Try.func53, Try.ntmps53
 refine wp_hide (fun Qf hQf => ?_)
 refine wsr fun _ hK1=>?_
 refine stp (cs := [.int .i64 0, .int .i64 0, .int .i64 0]) (T := 40) ?_
 intro b2 w3 hu4 lbb2 ltb2 hb2
 simp only[nm]
 refine wln (hK1 _ _ ?_)
 refine wsr fun _ hK5=>?_
 iterate 2 (refine wpp fun k h=>?_;go_simp;apply h;clear h k)
 refine stc (spec_l01Mod.calls K a1 a0 t6 w3  A7.out) ?_
 intro w8 hu9
 simp only[nm]
 refine wpp fun k h=>?_;go_simp;apply h;clear h k
 refine wln (hK5 _ _ ?_)
 refine wp_seq_k fun K10 hK10=>?_
 refine wsr fun _ hK11=>?_
 iterate 2 (refine wpp fun k h=>?_;go_simp;apply h;clear h k)
 refine wln (hK11 _ _ ?_)
 by_cases c12 : (t6 == 0) = true
 rotate_left
 ·
  rw [if_neg c12] at H; replace c12 := Bool.eq_false_iff.mpr c12
  have c12n : (t6 != 0) = true := by rw [bne, c12]; rfl
  have c12p : ¬ t6 = 0 := fun e => by simp [e] at c12
  obtain ⟨t39,A40,H⟩:=bnd H;try dsimp only at H
  obtain ⟨t44,A45,H⟩:=bnd H;try dsimp only at H
  obtain ⟨t48,A49,H⟩:=bnd H;try dsimp only at H
  obtain ⟨t52,A53,H⟩:=bnd H;try dsimp only at H
  simp only [Option.some.injEq, Prod.mk.injEq] at H
  obtain ⟨rfl, rfl, rfl⟩ := H
  try simp only [c12, c12n, Bool.not_true, Bool.not_false]
  refine wp_cond_false rfl ?_
  refine wp_skip ?_
  refine hK10 _ _ ?_
  refine wsr fun _ hK38=>?_
  iterate 2 (refine wpp fun k h=>?_;go_simp;apply h;clear h k)
  refine stc (spec_l01Inverse.calls K t6 a0 t39 w8  A40.out) ?_
  intro w41 hu42
  simp only[nm]
  refine wpp fun k h=>?_;go_simp;apply h;clear h k
  refine wln (hK38 _ _ ?_)
  refine wsr fun _ hK43=>?_
  iterate 4 (refine wpp fun k h=>?_;go_simp;apply h;clear h k)
  refine stc (spec_l01Mod.calls K (wrap64 (a1 * t39)) a0 t44 w41  A45.out) ?_
  intro w46 hu47
  simp only[nm]
  iterate 4 (refine wpp fun k h=>?_;go_simp;apply h;clear h k)
  refine stc (spec_l01Mod.calls K (wrap64 (a2 * t39)) a0 t48 w46  A49.out) ?_
  intro w50 hu51
  simp only[nm]
  iterate 4 (refine wpp fun k h=>?_;go_simp;apply h;clear h k)
  refine stc (spec_l01Mod.calls K (wrap64 (a3 * t39)) a0 t52 w50  A53.out) ?_
  intro w54 hu55
  simp only[nm]
  refine wpp fun k h=>?_;go_simp;apply h;clear h k
  refine stw [.int .i64 t44, .int .i64 t48, .int .i64 t52] (hb2.up ((((hu9.out.trans hu42.out).trans hu47.out).trans hu51.out).trans hu55.out)) rfl rfl rfl rfl rfl (by kernel_rfl) rfl rfl ?_
  intro w56 hs57 hb58
  refine wln (hK43 _ _ ?_)
  refine wp_ret ?_
  refine hQf _ _ _ ?_
  have cr0 := hb58.cell (o := 0) rfl
  have cr1 := hb58.cell (o := 1) rfl
  have cr2 := hb58.cell (o := 2) rfl
  exact bodyPost_ret (v := .agg #[.int .i64 t44, .int .i64 t48, .int .i64 t52]) (by first|rfl|simp [results, Try.results53, go_sem, cr0, cr1, cr2]<;>rfl) rfl ⟨rfl, ((((((hu4.out.trans hu9.out).trans hu42.out).trans hu47.out).trans hu51.out).trans hu55.out).sto (Nat.le_trans (Nat.le_refl _) lbb2.out) hs57.out)⟩
 rw [if_pos c12] at H
 have c12n : (t6 != 0) = false := by rw [bne, c12]; rfl
 obtain ⟨t13,A14,H⟩:=bnd H;try dsimp only at H
 obtain ⟨t18,A19,H⟩:=bnd H;try dsimp only at H
 obtain ⟨t23,A24,H⟩:=bnd H;try dsimp only at H
 obtain ⟨t27,A28,H⟩:=bnd H;try dsimp only at H
 obtain ⟨t31,A32,H⟩:=bnd H;try dsimp only at H
 simp only [Option.some.injEq, Prod.mk.injEq] at H
 obtain ⟨rfl, rfl, rfl⟩ := H
 try simp only [c12, c12n, Bool.not_true, Bool.not_false]
 refine wp_cond_true rfl ?_
 refine wp_region_lit ?_
 iterate 2 (refine wpp fun k h=>?_;go_simp;apply h;clear h k)
 refine stc (spec_l01Mod.calls K a2 a0 t13 w8  A14.out) ?_
 intro w15 hu16
 simp only[nm]
 refine wpp fun k h=>?_;go_simp;apply h;clear h k
 refine wln (hK10 _ _ ?_)
 refine wsr fun _ hK17=>?_
 iterate 2 (refine wpp fun k h=>?_;go_simp;apply h;clear h k)
 refine stc (spec_l01Inverse.calls K t13 a0 t18 w15  A19.out) ?_
 intro w20 hu21
 simp only[nm]
 refine wpp fun k h=>?_;go_simp;apply h;clear h k
 refine wln (hK17 _ _ ?_)
 refine wsr fun _ hK22=>?_
 iterate 4 (refine wpp fun k h=>?_;go_simp;apply h;clear h k)
 refine stc (spec_l01Mod.calls K (wrap64 (a1 * t18)) a0 t23 w20  A24.out) ?_
 intro w25 hu26
 simp only[nm]
 iterate 4 (refine wpp fun k h=>?_;go_simp;apply h;clear h k)
 refine stc (spec_l01Mod.calls K (wrap64 (a2 * t18)) a0 t27 w25  A28.out) ?_
 intro w29 hu30
 simp only[nm]
 iterate 4 (refine wpp fun k h=>?_;go_simp;apply h;clear h k)
 refine stc (spec_l01Mod.calls K (wrap64 (a3 * t18)) a0 t31 w29  A32.out) ?_
 intro w33 hu34
 simp only[nm]
 refine wpp fun k h=>?_;go_simp;apply h;clear h k
 refine stw [.int .i64 t23, .int .i64 t27, .int .i64 t31] (hb2.up (((((hu9.out.trans hu16.out).trans hu21.out).trans hu26.out).trans hu30.out).trans hu34.out)) rfl rfl rfl rfl rfl (by kernel_rfl) rfl rfl ?_
 intro w35 hs36 hb37
 refine wln (hK22 _ _ ?_)
 refine wp_ret ?_
 refine hQf _ _ _ ?_
 have cr0 := hb37.cell (o := 0) rfl
 have cr1 := hb37.cell (o := 1) rfl
 have cr2 := hb37.cell (o := 2) rfl
 exact bodyPost_ret (v := .agg #[.int .i64 t23, .int .i64 t27, .int .i64 t31]) (by first|rfl|simp [results, Try.results53, go_sem, cr0, cr1, cr2]<;>rfl) rfl ⟨rfl, (((((((hu4.out.trans hu9.out).trans hu16.out).trans hu21.out).trans hu26.out).trans hu30.out).trans hu34.out).sto (Nat.le_trans (Nat.le_refl _) lbb2.out) hs36.out)⟩

set_option maxHeartbeats 40000000 in
set_option maxRecDepth 100000 in
theorem spec_l02Through.calls (K : Nat) (a0 : Int) (a1 : Int) (a2_0 : Int) (a2_1 : Int) (a3_0 : Int) (a3_1 : Int) (r0 : Int) (r1 : Int) (r2 : Int) (w : World)  (h : spec_l02Through.f K a0 a1 a2_0 a2_1 a3_0 a3_1 = some (r0, r1, r2)) :
    Calls Try.prog 31 #[.int .i64 a0, .int .i64 a1, .agg #[.int .i64 a2_0, .int .i64 a2_1], .agg #[.int .i64 a3_0, .int .i64 a3_1]] w fun e w' => e = .returned (.agg #[.int .i64 r0, .int .i64 r1, .int .i64 r2]) ∧ Up w w' := by
 have H : ((if (a1 == 1) = true then ((spec_l01Mod.f K (wrap64 (-a2_1)) a0).bind fun t19 => ((spec_l01Mod.f K (wrap64 (-(wrap64 ((wrap64 (a2_0 * a3_0)) + (wrap64 (t19 * a3_1)))))) a0).bind fun t24 => ((spec_l01Normal.f K a0 a2_0 t19 t24).bind fun (t28, t29, t30) => some (t28, t29, t30)))) else (if (a1 == 2) = true then ((spec_l01Mod.f K (wrap64 (-(wrap64 ((wrap64 (a2_1 * a3_0)) + (wrap64 (a2_0 * a3_1)))))) a0).bind fun t41 => ((spec_l01Normal.f K a0 a2_1 a2_0 t41).bind fun (t45, t46, t47) => some (t45, t46, t47))) else ((spec_l01Mod.f K (wrap64 (-(wrap64 ((wrap64 (a2_0 * a3_0)) + (wrap64 (a2_1 * a3_1)))))) a0).bind fun t55 => ((spec_l01Normal.f K a0 a2_0 a2_1 t55).bind fun (t59, t60, t61) => some (t59, t60, t61))))) : Option (Int × Int × Int)) = some (r0, r1, r2) := h
 clear h
 go_enter Try.func31, Try.ntmps31
 refine wp_hide (fun Qf hQf => ?_)
 refine wsr fun _ hK1=>?_
 refine stp (cs := [.int .i64 a2_0, .int .i64 a2_1]) (T := 28) ?_
 intro b2 w3 hu4 lbb2 ltb2 hb2
 simp only[nm]
 refine stp (cs := [.int .i64 a3_0, .int .i64 a3_1]) (T := 28) ?_
 intro b5 w6 hu7 lbb5 ltb5 hb5
 simp only[nm]
 refine stp (cs := [.int .i64 0, .int .i64 0, .int .i64 0]) (T := 40) ?_
 intro b8 w9 hu10 lbb8 ltb8 hb8
 simp only[nm]
 refine wln (hK1 _ _ ?_)
 refine wp_seq_k fun K11 hK11=>?_
 refine' wp_region_up 6 [Slot.det _, Slot.det _, Slot.det _, Slot.det _, Slot.det _, Slot.det _] (by kernel_rfl) (by kernel_rfl) ?main
 case main =>
  simp only [List.take_succ_cons, List.take_zero]
  refine wpK_ops rfl (fun w1 hu => ?_) ?_
  · clear hu
    go_simp
    first | done | rfl
  simp only[nm]
  refine wpK_ops rfl (fun w1 hu => ?_) ?_
  · have cl0 := ((hb2.up (hu7.out.trans hu10.out)).up ((Up.refl _).drew.trans hu)).cell (o := 0) rfl
    go_simp
    first | done | rfl
  simp only[nm]
  refine wpK_ops rfl (fun w1 hu => ?_) ?_
  · clear hu
    go_simp
    first | done | rfl
  simp only[nm]
  refine wpK_ops rfl (fun w1 hu => ?_) ?_
  · have cl0 := ((hb2.up (hu7.out.trans hu10.out)).up ((Up.refl _).drew.trans hu)).cell (o := 1) rfl
    go_simp
    first | done | rfl
  simp only[nm]
  refine wpK_ops rfl (fun w1 hu => ?_) ?_
  · clear hu
    go_simp
    first | done | rfl
  simp only[nm]
  refine wpK_ops rfl (fun w1 hu => ?_) ?_
  · clear hu
    go_simp
    first | done | rfl
  simp only[nm]
  refine wpK_nil ?_
  intro w12 hu hap
  simp only [List.drop_succ_cons, List.drop_zero]
  replace hu := (Up.refl _).drew.trans hu
  clear hap
  have hu13 := Aside0.mk hu
  clear hu
  refine wln (hK11 _ _ ?_)
  refine wp_seq_k fun K14 hK14=>?_
  refine wsr fun _ hK15=>?_
  refine wpp fun k h=>?_;go_simp;apply h;clear h k
  refine wln (hK15 _ _ ?_)
  refine wp_block ?_
  refine wsr fun _ hK16=>?_
  iterate 2 (refine wpp fun k h=>?_;go_simp;apply h;clear h k)
  refine wln (hK16 _ _ ?_)
  have hm18 := Aside0.mk (((hu4.out.trans hu7.out).trans hu10.out).trans hu13.out)
  by_cases c17 : (a1 == 1) = true
  ·
   rw [if_pos c17] at H
   have c17n : (a1 != 1) = false := by rw [bne, c17]; rfl
   obtain ⟨t19,A20,H⟩:=bnd H;try dsimp only at H
   obtain ⟨t24,A25,H⟩:=bnd H;try dsimp only at H
   obtain ⟨⟨t28, t29, t30⟩,A31,H⟩:=bnd H;try dsimp only at H
   simp only [Option.some.injEq, Prod.mk.injEq] at H
   obtain ⟨rfl, rfl, rfl⟩ := H
   try simp only [c17, c17n, Bool.not_true, Bool.not_false]
   refine wp_cond_true rfl ?_
   refine wp_region_lit ?_
   iterate 3 (refine wpp fun k h=>?_;go_simp;apply h;clear h k)
   refine stc (spec_l01Mod.calls K (wrap64 (-a2_1)) a0 t19 w12  A20.out) ?_
   intro w21 hu22
   simp only[nm]
   refine wpp fun k h=>?_;go_simp;apply h;clear h k
   refine wln (hK14 _ _ ?_)
   refine wsr fun _ hK23=>?_
   iterate 5 (refine wpp fun k h=>?_;go_simp;apply h;clear h k)
   have cl0 := (hb5.up ((hu10.out.trans hu13.out).trans hu22.out)).cell (o := 0) rfl
   refine wpp fun k h=>?_;go_simp;apply h;clear h k
   clear cl0
   iterate 3 (refine wpp fun k h=>?_;go_simp;apply h;clear h k)
   have cl0 := (hb5.up ((hu10.out.trans hu13.out).trans hu22.out)).cell (o := 1) rfl
   refine wpp fun k h=>?_;go_simp;apply h;clear h k
   clear cl0
   iterate 4 (refine wpp fun k h=>?_;go_simp;apply h;clear h k)
   refine stc (spec_l01Mod.calls K (wrap64 (-(wrap64 ((wrap64 (a2_0 * a3_0)) + (wrap64 (t19 * a3_1)))))) a0 t24 w21  A25.out) ?_
   intro w26 hu27
   simp only[nm]
   refine stc (spec_l01Normal.calls K a0 a2_0 t19 t24 t28 t29 t30 w26  A31.out) ?_
   intro w32 hu33
   simp only[nm]
   refine stw [.int .i64 t28, .int .i64 t29, .int .i64 t30] (hb8.up (((hu13.out.trans hu22.out).trans hu27.out).trans hu33.out)) rfl rfl rfl rfl rfl (by kernel_rfl) rfl rfl ?_
   intro w34 hs35 hb36
   refine wln (hK23 _ _ ?_)
   refine wp_ret ?_
   refine hQf _ _ _ ?_
   have cr0 := hb36.cell (o := 0) rfl
   have cr1 := hb36.cell (o := 1) rfl
   have cr2 := hb36.cell (o := 2) rfl
   exact bodyPost_ret (v := .agg #[.int .i64 t28, .int .i64 t29, .int .i64 t30]) (by first|rfl|simp [results, Try.results31, go_sem, cr0, cr1, cr2]<;>rfl) rfl ⟨rfl, ((((hm18.out.trans hu22.out).trans hu27.out).trans hu33.out).sto (Nat.le_trans ((Nat.le_trans (hu4.out.size) hu7.out.size)) lbb8.out) hs35.out)⟩
  rw [if_neg c17] at H; replace c17 := Bool.eq_false_iff.mpr c17
  have c17n : (a1 != 1) = true := by rw [bne, c17]; rfl
  have c17p : ¬ a1 = 1 := fun e => by simp [e] at c17
  try simp only [c17, c17n, Bool.not_true, Bool.not_false]
  refine wp_cond_false rfl ?_
  refine wsr fun _ hK37=>?_
  iterate 2 (refine wpp fun k h=>?_;go_simp;apply h;clear h k)
  refine wln (hK37 _ _ ?_)
  by_cases c38 : (a1 == 2) = true
  rotate_left
  ·
   rw [if_neg c38] at H; replace c38 := Bool.eq_false_iff.mpr c38
   have c38n : (a1 != 2) = true := by rw [bne, c38]; rfl
   have c38p : ¬ a1 = 2 := fun e => by simp [e] at c38
   obtain ⟨t55,A56,H⟩:=bnd H;try dsimp only at H
   obtain ⟨⟨t59, t60, t61⟩,A62,H⟩:=bnd H;try dsimp only at H
   simp only [Option.some.injEq, Prod.mk.injEq] at H
   obtain ⟨rfl, rfl, rfl⟩ := H
   try simp only [c38, c38n, Bool.not_true, Bool.not_false]
   refine wp_cond_false rfl ?_
   refine wp_skip ?_
   refine hK14 _ _ ?_
   refine wsr fun _ hK54=>?_
   iterate 5 (refine wpp fun k h=>?_;go_simp;apply h;clear h k)
   have cl0 := (hb5.up (hu10.out.trans hu13.out)).cell (o := 0) rfl
   refine wpp fun k h=>?_;go_simp;apply h;clear h k
   clear cl0
   iterate 3 (refine wpp fun k h=>?_;go_simp;apply h;clear h k)
   have cl0 := (hb5.up (hu10.out.trans hu13.out)).cell (o := 1) rfl
   refine wpp fun k h=>?_;go_simp;apply h;clear h k
   clear cl0
   iterate 4 (refine wpp fun k h=>?_;go_simp;apply h;clear h k)
   refine stc (spec_l01Mod.calls K (wrap64 (-(wrap64 ((wrap64 (a2_0 * a3_0)) + (wrap64 (a2_1 * a3_1)))))) a0 t55 w12  A56.out) ?_
   intro w57 hu58
   simp only[nm]
   refine stc (spec_l01Normal.calls K a0 a2_0 a2_1 t55 t59 t60 t61 w57  A62.out) ?_
   intro w63 hu64
   simp only[nm]
   refine stw [.int .i64 t59, .int .i64 t60, .int .i64 t61] (hb8.up ((hu13.out.trans hu58.out).trans hu64.out)) rfl rfl rfl rfl rfl (by kernel_rfl) rfl rfl ?_
   intro w65 hs66 hb67
   refine wln (hK54 _ _ ?_)
   refine wp_ret ?_
   refine hQf _ _ _ ?_
   have cr0 := hb67.cell (o := 0) rfl
   have cr1 := hb67.cell (o := 1) rfl
   have cr2 := hb67.cell (o := 2) rfl
   exact bodyPost_ret (v := .agg #[.int .i64 t59, .int .i64 t60, .int .i64 t61]) (by first|rfl|simp [results, Try.results31, go_sem, cr0, cr1, cr2]<;>rfl) rfl ⟨rfl, (((hm18.out.trans hu58.out).trans hu64.out).sto (Nat.le_trans ((Nat.le_trans (hu4.out.size) hu7.out.size)) lbb8.out) hs66.out)⟩
  rw [if_pos c38] at H
  have c38n : (a1 != 2) = false := by rw [bne, c38]; rfl
  obtain ⟨t41,A42,H⟩:=bnd H;try dsimp only at H
  obtain ⟨⟨t45, t46, t47⟩,A48,H⟩:=bnd H;try dsimp only at H
  simp only [Option.some.injEq, Prod.mk.injEq] at H
  obtain ⟨rfl, rfl, rfl⟩ := H
  try simp only [c38, c38n, Bool.not_true, Bool.not_false]
  refine wp_cond_true rfl ?_
  refine wsr fun _ hK39=>?_
  refine wpp fun k h=>?_;go_simp;apply h;clear h k
  have cl0 := (hb2.up ((hu7.out.trans hu10.out).trans hu13.out)).cell (o := 1) rfl
  refine wpp fun k h=>?_;go_simp;apply h;clear h k
  clear cl0
  refine wpp fun k h=>?_;go_simp;apply h;clear h k
  refine wln (hK39 _ _ ?_)
  refine wp_region_lit ?_
  refine wpp fun k h=>?_;go_simp;apply h;clear h k
  have cl0 := (hb2.up ((hu7.out.trans hu10.out).trans hu13.out)).cell (o := 0) rfl
  refine wpp fun k h=>?_;go_simp;apply h;clear h k
  clear cl0
  refine wpp fun k h=>?_;go_simp;apply h;clear h k
  refine wln (hK14 _ _ ?_)
  refine wsr fun _ hK40=>?_
  iterate 5 (refine wpp fun k h=>?_;go_simp;apply h;clear h k)
  have cl0 := (hb5.up (hu10.out.trans hu13.out)).cell (o := 0) rfl
  refine wpp fun k h=>?_;go_simp;apply h;clear h k
  clear cl0
  iterate 3 (refine wpp fun k h=>?_;go_simp;apply h;clear h k)
  have cl0 := (hb5.up (hu10.out.trans hu13.out)).cell (o := 1) rfl
  refine wpp fun k h=>?_;go_simp;apply h;clear h k
  clear cl0
  iterate 4 (refine wpp fun k h=>?_;go_simp;apply h;clear h k)
  refine stc (spec_l01Mod.calls K (wrap64 (-(wrap64 ((wrap64 (a2_1 * a3_0)) + (wrap64 (a2_0 * a3_1)))))) a0 t41 w12  A42.out) ?_
  intro w43 hu44
  simp only[nm]
  refine stc (spec_l01Normal.calls K a0 a2_1 a2_0 t41 t45 t46 t47 w43  A48.out) ?_
  intro w49 hu50
  simp only[nm]
  refine stw [.int .i64 t45, .int .i64 t46, .int .i64 t47] (hb8.up ((hu13.out.trans hu44.out).trans hu50.out)) rfl rfl rfl rfl rfl (by kernel_rfl) rfl rfl ?_
  intro w51 hs52 hb53
  refine wln (hK40 _ _ ?_)
  refine wp_ret ?_
  refine hQf _ _ _ ?_
  have cr0 := hb53.cell (o := 0) rfl
  have cr1 := hb53.cell (o := 1) rfl
  have cr2 := hb53.cell (o := 2) rfl
  exact bodyPost_ret (v := .agg #[.int .i64 t45, .int .i64 t46, .int .i64 t47]) (by first|rfl|simp [results, Try.results31, go_sem, cr0, cr1, cr2]<;>rfl) rfl ⟨rfl, (((hm18.out.trans hu44.out).trans hu50.out).sto (Nat.le_trans ((Nat.le_trans (hu4.out.size) hu7.out.size)) lbb8.out) hs52.out)⟩

set_option maxHeartbeats 40000000 in
set_option maxRecDepth 100000 in
theorem spec_l06Tangent.calls (K : Nat) (a0 : Int) (a1 : Int) (a2_0 : Int) (a2_1 : Int) (a2_2 : Int) (a3_0 : Int) (a3_1 : Int) (r0 : Int) (r1 : Int) (r2 : Int) (w : World)  (h : spec_l06Tangent.f K a0 a1 a2_0 a2_1 a2_2 a3_0 a3_1 = some (r0, r1, r2)) :
    Calls Try.prog 13 #[.int .i64 a0, .int .i64 a1, .agg #[.int .i64 a2_0, .int .i64 a2_1, .int .i64 a2_2], .agg #[.int .i64 a3_0, .int .i64 a3_1]] w fun e w' => e = .returned (.agg #[.int .i64 r0, .int .i64 r1, .int .i64 r2]) ∧ Up w w' := by
 have H : (((spec_l01Minus.f K a0 a3_0 a3_1 a2_0 a2_1).bind fun (t12, t13) => ((spec_l02Through.f K a0 a1 t12 t13 a3_0 a3_1).bind fun (t15, t16, t17) => some (t15, t16, t17))) : Option (Int × Int × Int)) = some (r0, r1, r2) := h
 clear h
 obtain ⟨⟨t12, t13⟩,A14,H⟩:=bnd H;try dsimp only at H
 obtain ⟨⟨t15, t16, t17⟩,A18,H⟩:=bnd H;try dsimp only at H
 simp only [Option.some.injEq, Prod.mk.injEq] at H
 obtain ⟨rfl, rfl, rfl⟩ := H
 go_enter Try.func13, Try.ntmps13
 refine wp_hide (fun Qf hQf => ?_)
 refine wsr fun _ hK1=>?_
 refine stp (cs := [.int .i64 a2_0, .int .i64 a2_1, .int .i64 a2_2]) (T := 30) ?_
 intro b2 w3 hu4 lbb2 ltb2 hb2
 simp only[nm]
 refine stp (cs := [.int .i64 a3_0, .int .i64 a3_1]) (T := 28) ?_
 intro b5 w6 hu7 lbb5 ltb5 hb5
 simp only[nm]
 refine stp (cs := [.int .i64 0, .int .i64 0, .int .i64 0]) (T := 40) ?_
 intro b8 w9 hu10 lbb8 ltb8 hb8
 simp only[nm]
 refine wln (hK1 _ _ ?_)
 refine wp_seq_k fun K11 hK11=>?_
 refine' wp_region_up 9 [Slot.det _, Slot.det _, Slot.det _, Slot.det _, Slot.det _, Slot.det _, Slot.det (.agg #[.int .i64 t12, .int .i64 t13]), Slot.det _, Slot.det (.agg #[.int .i64 t15, .int .i64 t16, .int .i64 t17])] (by kernel_rfl) (by kernel_rfl) ?main
 case main =>
  simp only [List.take_succ_cons, List.take_zero]
  refine wpK_ops rfl (fun w1 hu => ?_) ?_
  · clear hu
    go_simp
    first | done | rfl
  simp only[nm]
  refine wpK_ops rfl (fun w1 hu => ?_) ?_
  · clear hu
    go_simp
    first | done | rfl
  simp only[nm]
  refine wpK_ops rfl (fun w1 hu => ?_) ?_
  · clear hu
    go_simp
    first | done | rfl
  simp only[nm]
  refine wpK_ops rfl (fun w1 hu => ?_) ?_
  · have cl0 := ((hb5.up hu10.out).up ((Up.refl _).drew.trans hu)).cell (o := 0) rfl
    have cl1 := ((hb5.up hu10.out).up ((Up.refl _).drew.trans hu)).cell (o := 1) rfl
    go_simp
    first | done | rfl
  simp only[nm]
  refine wpK_ops rfl (fun w1 hu => ?_) ?_
  · clear hu
    go_simp
    first | done | rfl
  simp only[nm]
  refine wpK_ops rfl (fun w1 hu => ?_) ?_
  · have cl0 := ((hb2.up (hu7.out.trans hu10.out)).up ((Up.refl _).drew.trans hu)).cell (o := 0) rfl
    have cl1 := ((hb2.up (hu7.out.trans hu10.out)).up ((Up.refl _).drew.trans hu)).cell (o := 1) rfl
    go_simp
    first | done | rfl
  simp only[nm]
  refine wpK_ops rfl (fun w1 hu => ?_) ?_
  · have hcl := (spec_l01Minus.calls K a0 a3_0 a3_1 a2_0 a2_1 t12 t13 w1  A14.out)
    clear hu
    replace hcl := Aside0.mk hcl
    go_simp
    exact hcl.out
  simp only[nm]
  refine wpK_ops rfl (fun w1 hu => ?_) ?_
  · have cl0 := ((hb5.up hu10.out).up ((Up.refl _).drew.trans hu)).cell (o := 0) rfl
    have cl1 := ((hb5.up hu10.out).up ((Up.refl _).drew.trans hu)).cell (o := 1) rfl
    go_simp
    first | done | rfl
  simp only[nm]
  refine wpK_ops rfl (fun w1 hu => ?_) ?_
  · have hcl := (spec_l02Through.calls K a0 a1 t12 t13 a3_0 a3_1 t15 t16 t17 w1  A18.out)
    clear hu
    replace hcl := Aside0.mk hcl
    go_simp
    exact hcl.out
  simp only[nm]
  refine wpK_nil ?_
  intro w19 hu hap
  simp only [List.drop_succ_cons, List.drop_zero]
  replace hu := (Up.refl _).drew.trans hu
  clear hap
  have hu20 := Aside0.mk hu
  clear hu
  refine stw [.int .i64 t15, .int .i64 t16, .int .i64 t17] (hb8.up hu20.out) rfl rfl rfl rfl rfl (by kernel_rfl) rfl rfl ?_
  intro w21 hs22 hb23
  refine wln (hK11 _ _ ?_)
  refine wp_ret ?_
  refine hQf _ _ _ ?_
  have cr0 := hb23.cell (o := 0) rfl
  have cr1 := hb23.cell (o := 1) rfl
  have cr2 := hb23.cell (o := 2) rfl
  exact bodyPost_ret (v := .agg #[.int .i64 t15, .int .i64 t16, .int .i64 t17]) (by first|rfl|simp [results, Try.results13, go_sem, cr0, cr1, cr2]<;>rfl) rfl ⟨rfl, ((((hu4.out.trans hu7.out).trans hu10.out).trans hu20.out).sto (Nat.le_trans ((Nat.le_trans (hu4.out.size) hu7.out.size)) lbb8.out) hs22.out)⟩

set_option maxHeartbeats 40000000 in
set_option maxRecDepth 100000 in
theorem spec_l01On.calls (K : Nat) (a0 : Int) (a1_0 : Int) (a1_1 : Int) (a2_0 : Int) (a2_1 : Int) (a2_2 : Int) (r0 : Bool) (w : World)  (h : spec_l01On.f K a0 a1_0 a1_1 a2_0 a2_1 a2_2 = some (r0)) :
    Calls Try.prog 14 #[.int .i64 a0, .agg #[.int .i64 a1_0, .int .i64 a1_1], .agg #[.int .i64 a2_0, .int .i64 a2_1, .int .i64 a2_2]] w fun e w' => e = .returned (.bool r0) ∧ Up w w' := by
 have H : ((if (a0 == 0) = true then none else some ((Int.tmod (wrap64 ((wrap64 ((wrap64 (a2_0 * a1_0)) + (wrap64 (a2_1 * a1_1)))) + a2_2)) a0) == 0)) : Option (Bool)) = some (r0) := h
 clear h
 go_enter Try.func14, Try.ntmps14
 refine wp_hide (fun Qf hQf => ?_)
 refine wsr fun _ hK1=>?_
 refine stp (cs := [.int .i64 a1_0, .int .i64 a1_1]) (T := 28) ?_
 intro b2 w3 hu4 lbb2 ltb2 hb2
 simp only[nm]
 refine stp (cs := [.int .i64 a2_0, .int .i64 a2_1, .int .i64 a2_2]) (T := 40) ?_
 intro b5 w6 hu7 lbb5 ltb5 hb5
 simp only[nm]
 refine wpp fun k h=>?_;go_simp;apply h;clear h k
 refine wln (hK1 _ _ ?_)
 refine wsr fun _ hK8=>?_
 refine wpp fun k h=>?_;go_simp;apply h;clear h k
 have cl0 := hb5.cell (o := 0) rfl
 refine wpp fun k h=>?_;go_simp;apply h;clear h k
 clear cl0
 refine wpp fun k h=>?_;go_simp;apply h;clear h k
 have cl0 := (hb2.up hu7.out).cell (o := 0) rfl
 refine wpp fun k h=>?_;go_simp;apply h;clear h k
 clear cl0
 iterate 2 (refine wpp fun k h=>?_;go_simp;apply h;clear h k)
 have cl0 := hb5.cell (o := 1) rfl
 refine wpp fun k h=>?_;go_simp;apply h;clear h k
 clear cl0
 refine wpp fun k h=>?_;go_simp;apply h;clear h k
 have cl0 := (hb2.up hu7.out).cell (o := 1) rfl
 refine wpp fun k h=>?_;go_simp;apply h;clear h k
 clear cl0
 iterate 3 (refine wpp fun k h=>?_;go_simp;apply h;clear h k)
 have cl0 := hb5.cell (o := 2) rfl
 refine wpp fun k h=>?_;go_simp;apply h;clear h k
 clear cl0
 iterate 2 (refine wpp fun k h=>?_;go_simp;apply h;clear h k)
 by_cases c9 : (a0 == 0) = true
 ·
  rw [if_pos c9] at H
  have c9n : (a0 != 0) = false := by rw [bne, c9]; rfl
  exact absurd H (by simp)
 rw [if_neg c9] at H; replace c9 := Bool.eq_false_iff.mpr c9
 have c9n : (a0 != 0) = true := by rw [bne, c9]; rfl
 have c9p : ¬ a0 = 0 := fun e => by simp [e] at c9
 obtain rfl := Option.some.inj H
 try simp only [c9, c9n, Bool.not_true, Bool.not_false]
 iterate 3 (refine wpp fun k h=>?_;go_simp;apply h;clear h k)
 refine wln (hK8 _ _ ?_)
 refine wp_ret ?_
 refine hQf _ _ _ ?_
 exact bpr (v := .bool ((Int.tmod (wrap64 ((wrap64 ((wrap64 (a2_0 * a1_0)) + (wrap64 (a2_1 * a1_1)))) + a2_2)) a0) == 0)) ⟨rfl, (hu4.out.trans hu7.out)⟩

set_option maxHeartbeats 40000000 in
set_option maxRecDepth 100000 in
theorem spec_l06Before.calls (K : Nat) (a0_0 : Int) (a0_1 : Int) (a0_2 : Int) (a1_0 : Int) (a1_1 : Int) (a1_2 : Int) (r0 : Bool) (w : World)  (h : spec_l06Before.f K a0_0 a0_1 a0_2 a1_0 a1_1 a1_2 = some (r0)) :
    Calls Try.prog 33 #[.agg #[.int .i64 a0_0, .int .i64 a0_1, .int .i64 a0_2], .agg #[.int .i64 a1_0, .int .i64 a1_1, .int .i64 a1_2]] w fun e w' => e = .returned (.bool r0) ∧ Up w w' := by
 have H : ((if (a0_0 == a1_0) = true then (if (a0_1 == a1_1) = true then (if (a0_2 == a1_2) = true then some false else some (decide (a0_2 < a1_2))) else some (decide (a0_1 < a1_1))) else some (decide (a0_0 < a1_0))) : Option (Bool)) = some (r0) := h
 clear h
 go_enter Try.func33, Try.ntmps33
 refine wp_hide (fun Qf hQf => ?_)
 refine wsr fun _ hK1=>?_
 refine stp (cs := [.int .i64 a0_0, .int .i64 a0_1, .int .i64 a0_2]) (T := 40) ?_
 intro b2 w3 hu4 lbb2 ltb2 hb2
 simp only[nm]
 refine stp (cs := [.int .i64 a1_0, .int .i64 a1_1, .int .i64 a1_2]) (T := 40) ?_
 intro b5 w6 hu7 lbb5 ltb5 hb5
 simp only[nm]
 refine wpp fun k h=>?_;go_simp;apply h;clear h k
 refine wln (hK1 _ _ ?_)
 refine wp_seq_k fun K8 hK8=>?_
 refine wsr fun _ hK9=>?_
 refine wpp fun k h=>?_;go_simp;apply h;clear h k
 refine wln (hK9 _ _ ?_)
 refine wp_block ?_
 refine wp_loop_rounds 40 ?_
 refine rounds_k (fun K10 hK10 => ?_)
 refine wp_seq_k fun K11 hK11=>?_
 refine wsr fun _ hK12=>?_
 iterate 2 (refine wpp fun k h=>?_;go_simp;apply h;clear h k)
 refine wln (hK12 _ _ ?_)
 refine wp_cond_true rfl ?_
 refine wp_skip ?_
 refine hK11 _ _ ?_
 refine wp_seq_k fun K13 hK13=>?_
 refine wp_block ?_
 refine wp_seq_k fun K14 hK14=>?_
 refine' wp_region_up 7 [Slot.det _, Slot.det _, Slot.det _, Slot.det _, Slot.det _, Slot.det _, Slot.det _] (by kernel_rfl) (by kernel_rfl) ?main
 case main =>
  simp only [List.take_succ_cons, List.take_zero]
  refine wpK_ops rfl (fun w1 hu => ?_) ?_
  · clear hu
    go_simp
    first | done | rfl
  simp only[nm]
  refine wpK_ops rfl (fun w1 hu => ?_) ?_
  · clear hu
    go_simp
    first | done | rfl
  simp only[nm]
  refine wpK_ops rfl (fun w1 hu => ?_) ?_
  · have cl0 := ((hb2.up hu7.out).up ((Up.refl _).drew.trans hu)).cell (o := 0) rfl
    go_simp
    first | done | rfl
  simp only[nm]
  refine wpK_ops rfl (fun w1 hu => ?_) ?_
  · clear hu
    go_simp
    first | done | rfl
  simp only[nm]
  refine wpK_ops rfl (fun w1 hu => ?_) ?_
  · clear hu
    go_simp
    first | done | rfl
  simp only[nm]
  refine wpK_ops rfl (fun w1 hu => ?_) ?_
  · have cl0 := (hb5.up ((Up.refl _).drew.trans hu)).cell (o := 0) rfl
    go_simp
    first | done | rfl
  simp only[nm]
  refine wpK_ops rfl (fun w1 hu => ?_) ?_
  · clear hu
    go_simp
    first | done | rfl
  simp only[nm]
  refine wpK_nil ?_
  intro w15 hu hap
  simp only [List.drop_succ_cons, List.drop_zero]
  replace hu := (Up.refl _).drew.trans hu
  clear hap
  have hu16 := Aside0.mk hu
  clear hu
  refine wln (hK14 _ _ ?_)
  have hm18 := Aside0.mk ((hu4.out.trans hu7.out).trans hu16.out)
  by_cases c17 : (a0_0 == a1_0) = true
  rotate_left
  ·
   rw [if_neg c17] at H; replace c17 := Bool.eq_false_iff.mpr c17
   have c17n : (a0_0 != a1_0) = true := by rw [bne, c17]; rfl
   have c17p : ¬ a0_0 = a1_0 := fun e => by simp [e] at c17
   obtain rfl := Option.some.inj H
   try simp only [c17, c17n, Bool.not_true, Bool.not_false]
   refine wp_cond_true rfl ?_
   refine wp_seq_k fun K46 hK46=>?_
   refine' wp_region_up 7 [Slot.det _, Slot.det _, Slot.det _, Slot.det _, Slot.det _, Slot.det _, Slot.det _] (by kernel_rfl) (by kernel_rfl) ?main
   case main =>
    simp only [List.take_succ_cons, List.take_zero]
    refine wpK_ops rfl (fun w1 hu => ?_) ?_
    · clear hu
      go_simp
      first | done | rfl
    simp only[nm]
    refine wpK_ops rfl (fun w1 hu => ?_) ?_
    · clear hu
      go_simp
      first | done | rfl
    simp only[nm]
    refine wpK_ops rfl (fun w1 hu => ?_) ?_
    · have cl0 := ((hb2.up (hu7.out.trans hu16.out)).up ((Up.refl _).drew.trans hu)).cell (o := 0) rfl
      go_simp
      first | done | rfl
    simp only[nm]
    refine wpK_ops rfl (fun w1 hu => ?_) ?_
    · clear hu
      go_simp
      first | done | rfl
    simp only[nm]
    refine wpK_ops rfl (fun w1 hu => ?_) ?_
    · clear hu
      go_simp
      first | done | rfl
    simp only[nm]
    refine wpK_ops rfl (fun w1 hu => ?_) ?_
    · have cl0 := ((hb5.up hu16.out).up ((Up.refl _).drew.trans hu)).cell (o := 0) rfl
      go_simp
      first | done | rfl
    simp only[nm]
    refine wpK_ops rfl (fun w1 hu => ?_) ?_
    · clear hu
      go_simp
      first | done | rfl
    simp only[nm]
    refine wpK_nil ?_
    intro w47 hu hap
    simp only [List.drop_succ_cons, List.drop_zero]
    replace hu := (Up.refl _).drew.trans hu
    clear hap
    have hu48 := Aside0.mk hu
    clear hu
    refine wpp fun k h=>?_;go_simp;apply h;clear h k
    refine wln (hK46 _ _ ?_)
    refine wp_ret ?_
    refine hQf _ _ _ ?_
    exact bpr (v := .bool (decide (a0_0 < a1_0))) ⟨rfl, (hm18.out.trans hu48.out)⟩
  rw [if_pos c17] at H
  have c17n : (a0_0 != a1_0) = false := by rw [bne, c17]; rfl
  try simp only [c17, c17n, Bool.not_true, Bool.not_false]
  refine wp_cond_false rfl ?_
  refine wp_skip ?_
  refine hK13 _ _ ?_
  refine wp_region_lit ?_
  iterate 2 (refine wpp fun k h=>?_;go_simp;apply h;clear h k)
  try simp only [show wrap64 1 = 1 from wlit rfl]
  refine wpp fun k h=>?_;go_simp;apply h;clear h k
  refine wln (hK10 _ _ ?_)
  refine rounds_k (fun K19 hK19 => ?_)
  refine wp_seq_k fun K20 hK20=>?_
  refine wsr fun _ hK21=>?_
  iterate 2 (refine wpp fun k h=>?_;go_simp;apply h;clear h k)
  refine wln (hK21 _ _ ?_)
  refine wp_cond_true rfl ?_
  refine wp_skip ?_
  refine hK20 _ _ ?_
  refine wp_seq_k fun K22 hK22=>?_
  refine wp_block ?_
  refine wp_seq_k fun K23 hK23=>?_
  refine' wp_region_up 7 [Slot.det _, Slot.det _, Slot.det _, Slot.det _, Slot.det _, Slot.det _, Slot.det _] (by kernel_rfl) (by kernel_rfl) ?main
  case main =>
   simp only [List.take_succ_cons, List.take_zero]
   refine wpK_ops rfl (fun w1 hu => ?_) ?_
   · clear hu
     go_simp
     first | done | rfl
   simp only[nm]
   refine wpK_ops rfl (fun w1 hu => ?_) ?_
   · clear hu
     go_simp
     first | done | rfl
   simp only[nm]
   refine wpK_ops rfl (fun w1 hu => ?_) ?_
   · have cl0 := ((hb2.up (hu7.out.trans hu16.out)).up ((Up.refl _).drew.trans hu)).cell (o := 1) rfl
     go_simp
     first | done | rfl
   simp only[nm]
   refine wpK_ops rfl (fun w1 hu => ?_) ?_
   · clear hu
     go_simp
     first | done | rfl
   simp only[nm]
   refine wpK_ops rfl (fun w1 hu => ?_) ?_
   · clear hu
     go_simp
     first | done | rfl
   simp only[nm]
   refine wpK_ops rfl (fun w1 hu => ?_) ?_
   · have cl0 := ((hb5.up hu16.out).up ((Up.refl _).drew.trans hu)).cell (o := 1) rfl
     go_simp
     first | done | rfl
   simp only[nm]
   refine wpK_ops rfl (fun w1 hu => ?_) ?_
   · clear hu
     go_simp
     first | done | rfl
   simp only[nm]
   refine wpK_nil ?_
   intro w24 hu hap
   simp only [List.drop_succ_cons, List.drop_zero]
   replace hu := (Up.refl _).drew.trans hu
   clear hap
   have hu25 := Aside0.mk hu
   clear hu
   refine wln (hK23 _ _ ?_)
   by_cases c26 : (a0_1 == a1_1) = true
   rotate_left
   ·
    rw [if_neg c26] at H; replace c26 := Bool.eq_false_iff.mpr c26
    have c26n : (a0_1 != a1_1) = true := by rw [bne, c26]; rfl
    have c26p : ¬ a0_1 = a1_1 := fun e => by simp [e] at c26
    obtain rfl := Option.some.inj H
    try simp only [c26, c26n, Bool.not_true, Bool.not_false]
    refine wp_cond_true rfl ?_
    refine wp_seq_k fun K43 hK43=>?_
    refine' wp_region_up 7 [Slot.det _, Slot.det _, Slot.det _, Slot.det _, Slot.det _, Slot.det _, Slot.det _] (by kernel_rfl) (by kernel_rfl) ?main
    case main =>
     simp only [List.take_succ_cons, List.take_zero]
     refine wpK_ops rfl (fun w1 hu => ?_) ?_
     · clear hu
       go_simp
       first | done | rfl
     simp only[nm]
     refine wpK_ops rfl (fun w1 hu => ?_) ?_
     · clear hu
       go_simp
       first | done | rfl
     simp only[nm]
     refine wpK_ops rfl (fun w1 hu => ?_) ?_
     · have cl0 := ((hb2.up ((hu7.out.trans hu16.out).trans hu25.out)).up ((Up.refl _).drew.trans hu)).cell (o := 1) rfl
       go_simp
       first | done | rfl
     simp only[nm]
     refine wpK_ops rfl (fun w1 hu => ?_) ?_
     · clear hu
       go_simp
       first | done | rfl
     simp only[nm]
     refine wpK_ops rfl (fun w1 hu => ?_) ?_
     · clear hu
       go_simp
       first | done | rfl
     simp only[nm]
     refine wpK_ops rfl (fun w1 hu => ?_) ?_
     · have cl0 := ((hb5.up (hu16.out.trans hu25.out)).up ((Up.refl _).drew.trans hu)).cell (o := 1) rfl
       go_simp
       first | done | rfl
     simp only[nm]
     refine wpK_ops rfl (fun w1 hu => ?_) ?_
     · clear hu
       go_simp
       first | done | rfl
     simp only[nm]
     refine wpK_nil ?_
     intro w44 hu hap
     simp only [List.drop_succ_cons, List.drop_zero]
     replace hu := (Up.refl _).drew.trans hu
     clear hap
     have hu45 := Aside0.mk hu
     clear hu
     refine wpp fun k h=>?_;go_simp;apply h;clear h k
     refine wln (hK43 _ _ ?_)
     refine wp_ret ?_
     refine hQf _ _ _ ?_
     exact bpr (v := .bool (decide (a0_1 < a1_1))) ⟨rfl, ((hm18.out.trans hu25.out).trans hu45.out)⟩
   rw [if_pos c26] at H
   have c26n : (a0_1 != a1_1) = false := by rw [bne, c26]; rfl
   try simp only [c26, c26n, Bool.not_true, Bool.not_false]
   refine wp_cond_false rfl ?_
   refine wp_skip ?_
   refine hK22 _ _ ?_
   refine wp_region_lit ?_
   iterate 2 (refine wpp fun k h=>?_;go_simp;apply h;clear h k)
   try simp only [show wrap64 2 = 2 from wlit rfl]
   refine wpp fun k h=>?_;go_simp;apply h;clear h k
   refine wln (hK19 _ _ ?_)
   refine rounds_k (fun K27 hK27 => ?_)
   refine wp_seq_k fun K28 hK28=>?_
   refine wsr fun _ hK29=>?_
   iterate 2 (refine wpp fun k h=>?_;go_simp;apply h;clear h k)
   refine wln (hK29 _ _ ?_)
   refine wp_cond_true rfl ?_
   refine wp_skip ?_
   refine hK28 _ _ ?_
   refine wp_seq_k fun K30 hK30=>?_
   refine wp_block ?_
   refine wp_seq_k fun K31 hK31=>?_
   refine' wp_region_up 7 [Slot.det _, Slot.det _, Slot.det _, Slot.det _, Slot.det _, Slot.det _, Slot.det _] (by kernel_rfl) (by kernel_rfl) ?main
   case main =>
    simp only [List.take_succ_cons, List.take_zero]
    refine wpK_ops rfl (fun w1 hu => ?_) ?_
    · clear hu
      go_simp
      first | done | rfl
    simp only[nm]
    refine wpK_ops rfl (fun w1 hu => ?_) ?_
    · clear hu
      go_simp
      first | done | rfl
    simp only[nm]
    refine wpK_ops rfl (fun w1 hu => ?_) ?_
    · have cl0 := ((hb2.up ((hu7.out.trans hu16.out).trans hu25.out)).up ((Up.refl _).drew.trans hu)).cell (o := 2) rfl
      go_simp
      first | done | rfl
    simp only[nm]
    refine wpK_ops rfl (fun w1 hu => ?_) ?_
    · clear hu
      go_simp
      first | done | rfl
    simp only[nm]
    refine wpK_ops rfl (fun w1 hu => ?_) ?_
    · clear hu
      go_simp
      first | done | rfl
    simp only[nm]
    refine wpK_ops rfl (fun w1 hu => ?_) ?_
    · have cl0 := ((hb5.up (hu16.out.trans hu25.out)).up ((Up.refl _).drew.trans hu)).cell (o := 2) rfl
      go_simp
      first | done | rfl
    simp only[nm]
    refine wpK_ops rfl (fun w1 hu => ?_) ?_
    · clear hu
      go_simp
      first | done | rfl
    simp only[nm]
    refine wpK_nil ?_
    intro w32 hu hap
    simp only [List.drop_succ_cons, List.drop_zero]
    replace hu := (Up.refl _).drew.trans hu
    clear hap
    have hu33 := Aside0.mk hu
    clear hu
    refine wln (hK31 _ _ ?_)
    have h35 := (hb2.up (((hu7.out.trans hu16.out).trans hu25.out).trans hu33.out))
    by_cases c34 : (a0_2 == a1_2) = true
    ·
     rw [if_pos c34] at H
     have c34n : (a0_2 != a1_2) = false := by rw [bne, c34]; rfl
     obtain rfl := Option.some.inj H
     try simp only [c34, c34n, Bool.not_true, Bool.not_false]
     refine wp_cond_false rfl ?_
     refine wp_skip ?_
     refine hK30 _ _ ?_
     refine wp_region_lit ?_
     iterate 2 (refine wpp fun k h=>?_;go_simp;apply h;clear h k)
     try simp only [show wrap64 3 = 3 from wlit rfl]
     refine wpp fun k h=>?_;go_simp;apply h;clear h k
     refine wln (hK27 _ _ ?_)
     refine rounds_k (fun K36 hK36 => ?_)
     refine wp_seq_k fun K37 hK37=>?_
     refine wsr fun _ hK38=>?_
     iterate 2 (refine wpp fun k h=>?_;go_simp;apply h;clear h k)
     refine wln (hK38 _ _ ?_)
     refine wp_cond_false rfl ?_
     refine wp_exit ?_
     refine hK8 _ _ ?_
     refine wsr fun _ hK39=>?_
     refine wpp fun k h=>?_;go_simp;apply h;clear h k
     refine wln (hK39 _ _ ?_)
     refine wp_ret ?_
     refine hQf _ _ _ ?_
     exact bpr (v := .bool false) ⟨rfl, ((hm18.out.trans hu25.out).trans hu33.out)⟩
    rw [if_neg c34] at H; replace c34 := Bool.eq_false_iff.mpr c34
    have c34n : (a0_2 != a1_2) = true := by rw [bne, c34]; rfl
    have c34p : ¬ a0_2 = a1_2 := fun e => by simp [e] at c34
    obtain rfl := Option.some.inj H
    try simp only [c34, c34n, Bool.not_true, Bool.not_false]
    refine wp_cond_true rfl ?_
    refine wp_seq_k fun K40 hK40=>?_
    refine' wp_region_up 7 [Slot.det _, Slot.det _, Slot.det _, Slot.det _, Slot.det _, Slot.det _, Slot.det _] (by kernel_rfl) (by kernel_rfl) ?main
    case main =>
     simp only [List.take_succ_cons, List.take_zero]
     refine wpK_ops rfl (fun w1 hu => ?_) ?_
     · clear hu
       go_simp
       first | done | rfl
     simp only[nm]
     refine wpK_ops rfl (fun w1 hu => ?_) ?_
     · clear hu
       go_simp
       first | done | rfl
     simp only[nm]
     refine wpK_ops rfl (fun w1 hu => ?_) ?_
     · have cl0 := (h35.up ((Up.refl _).drew.trans hu)).cell (o := 2) rfl
       go_simp
       first | done | rfl
     simp only[nm]
     refine wpK_ops rfl (fun w1 hu => ?_) ?_
     · clear hu
       go_simp
       first | done | rfl
     simp only[nm]
     refine wpK_ops rfl (fun w1 hu => ?_) ?_
     · clear hu
       go_simp
       first | done | rfl
     simp only[nm]
     refine wpK_ops rfl (fun w1 hu => ?_) ?_
     · have cl0 := ((hb5.up ((hu16.out.trans hu25.out).trans hu33.out)).up ((Up.refl _).drew.trans hu)).cell (o := 2) rfl
       go_simp
       first | done | rfl
     simp only[nm]
     refine wpK_ops rfl (fun w1 hu => ?_) ?_
     · clear hu
       go_simp
       first | done | rfl
     simp only[nm]
     refine wpK_nil ?_
     intro w41 hu hap
     simp only [List.drop_succ_cons, List.drop_zero]
     replace hu := (Up.refl _).drew.trans hu
     clear hap
     have hu42 := Aside0.mk hu
     clear hu
     refine wpp fun k h=>?_;go_simp;apply h;clear h k
     refine wln (hK40 _ _ ?_)
     refine wp_ret ?_
     refine hQf _ _ _ ?_
     exact bpr (v := .bool (decide (a0_2 < a1_2))) ⟨rfl, (((hm18.out.trans hu25.out).trans hu33.out).trans hu42.out)⟩

set_option maxHeartbeats 40000000 in
set_option maxRecDepth 100000 in
theorem spec_l06Put.calls (K : Nat) (a0_A : Option Addr) (a0_c : Nat) (a0_B : Nat) (a0 : List (Int × Int × Int)) (a1_0 : Int) (a1_1 : Int) (a1_2 : Int) (r0 : List (Int × Int × Int)) (w : World) (ha0 : Own e3 40 w a0_B (.slice a0_A a0.length a0_c) a0) (hBa0 : a0_B ≤ w.heap.size) (h : spec_l06Put.f K a0 a1_0 a1_1 a1_2 = some (r0)) :
    Calls Try.prog 15 #[.slice a0_A a0.length a0_c, .agg #[.int .i64 a1_0, .int .i64 a1_1, .int .i64 a1_2]] w fun e w' => ∃ (Ar0 : Option Addr) (cr0 : Nat), e = .returned (.slice Ar0 r0.length cr0) ∧ Own e3 40 w' a0_B (.slice Ar0 r0.length cr0) r0 ∧ Up w w' := by
 have H : ((spec_l06Put.l0 K a0 a1_0 a1_1 a1_2 K (a0.length : Int)) : Option (List (Int × Int × Int))) = some (r0) := h
 clear h
 go_enter Try.func15, Try.ntmps15
 refine wp_hide (fun Qf hQf => ?_)
 refine wsr fun _ hK1=>?_
 refine stp (cs := [.int .i64 a1_0, .int .i64 a1_1, .int .i64 a1_2]) (T := 40) ?_
 intro b2 w3 hu4 lbb2 ltb2 hb2
 simp only[nm]
 refine wpp fun k h=>?_;go_simp;apply h;clear h k
 refine wln (hK1 _ _ ?_)
 refine wsr fun _ hK5=>?_
 iterate 3 (refine wpp fun k h=>?_;go_simp;apply h;clear h k)
 refine wln (hK5 _ _ ?_)
 refine wp_seq_k fun K6 hK6=>?_
 refine wp_block ?_
 have HL11 := Aside0.mk H
 clear H
 go_loopg [5] K (fun kq v5 w' => ∃ (x7 : Int), v5 = .int .i64 x7 ∧ Aside0 (spec_l06Put.l0 K a0 a1_0 a1_1 a1_2 kq x7 = some (r0)) ∧ Aside0 (kq ≤ K) ∧ Aside0 (Up w3 w') ∧ Aside0 (w3.heap.size ≤ w'.heap.size))
 case atStart => exact ⟨(a0.length : Int), (by first | rfl | simp), HL11, ⟨Nat.le_refl _⟩, ⟨(Up.refl _)⟩, ⟨Nat.le_refl _⟩⟩
 case round =>
  rename_i J14 K15 hJ14 hK15
  obtain ⟨x7, rfl, HL16, hk13, hu9, hz10⟩ := hrel
  obtain ⟨w8, rfl⟩ : ∃ wo : World, wo = wr := ⟨_, rfl⟩
  obtain ⟨k12, rfl⟩ | rfl : (∃ k, gk = k + 1) ∨ gk = 0 := by rcases gk with _ | k; exact .inr rfl; exact .inl ⟨k, rfl⟩
  case inr => exact absurd HL16.out (by simp [spec_l06Put.l0])
  have H := HL16.out
  clear HL16
  rw [spec_l06Put.l0] at H
  refine wp_seq_k fun K17 hK17=>?_
  refine wp_seq_k fun K18 hK18=>?_
  by_cases c19 : (decide (0 < x7)) = true
  rotate_left
  ·
   rw [if_neg c19] at H; replace c19 := Bool.eq_false_iff.mpr c19
   obtain ⟨t107,A108,H⟩:=bnd H;try dsimp only at H
   try simp only [c19, Bool.not_true, Bool.not_false]
   refine' wp_region_up 11 [Slot.det _, Slot.det _, Slot.det _, Slot.det undef, Slot.det undef, Slot.det undef, Slot.det undef, Slot.det undef, Slot.det undef, Slot.det undef, Slot.det _] (by kernel_rfl) (by kernel_rfl) ?main
   case main =>
    simp only [List.take_succ_cons, List.take_zero]
    refine wpK_ops rfl (fun w1 hu => ?_) ?_
    · clear hu
      go_simp
      first | done | rfl
    simp only[nm]
    refine wpK_ops rfl (fun w1 hu => ?_) ?_
    · clear hu
      go_simp
      first | done | rfl
    simp only[nm]
    refine wpK_ops rfl (fun w1 hu => ?_) ?_
    · clear hu
      go_simp
      first | done | rfl
    simp only[nm]
    refine wpK_no rfl ?_
    simp only[nm]
    refine wpK_no rfl ?_
    simp only[nm]
    refine wpK_no rfl ?_
    simp only[nm]
    refine wpK_no rfl ?_
    simp only[nm]
    refine wpK_no rfl ?_
    simp only[nm]
    refine wpK_no rfl ?_
    simp only[nm]
    refine wpK_no rfl ?_
    simp only[nm]
    refine wpK_ops rfl (fun w1 hu => ?_) ?_
    · clear hu
      go_simp
      first | done | rfl
    simp only[nm]
    refine wpK_nil ?_
    intro w98 hu hap
    simp only [List.drop_succ_cons, List.drop_zero]
    replace hu := (Up.refl _).drew.trans hu
    clear hap
    have hu99 := Aside0.mk hu
    clear hu
    refine wln (hK18 _ _ ?_)
    refine wp_cond_false rfl ?_
    refine wp_exit ?_
    refine hK6 _ _ ?_
    refine wp_seq_k fun K100 hK100=>?_
    refine wp_seq_k fun K101 hK101=>?_
    refine' wp_region_up 11 [Slot.det _, Slot.det _, Slot.det _, Slot.det undef, Slot.det undef, Slot.det undef, Slot.det undef, Slot.det undef, Slot.det undef, Slot.det undef, Slot.det _] (by kernel_rfl) (by kernel_rfl) ?main
    case main =>
     simp only [List.take_succ_cons, List.take_zero]
     refine wpK_ops rfl (fun w1 hu => ?_) ?_
     · clear hu
       go_simp
       first | done | rfl
     simp only[nm]
     refine wpK_ops rfl (fun w1 hu => ?_) ?_
     · clear hu
       go_simp
       first | done | rfl
     simp only[nm]
     refine wpK_ops rfl (fun w1 hu => ?_) ?_
     · clear hu
       go_simp
       first | done | rfl
     simp only[nm]
     refine wpK_no rfl ?_
     simp only[nm]
     refine wpK_no rfl ?_
     simp only[nm]
     refine wpK_no rfl ?_
     simp only[nm]
     refine wpK_no rfl ?_
     simp only[nm]
     refine wpK_no rfl ?_
     simp only[nm]
     refine wpK_no rfl ?_
     simp only[nm]
     refine wpK_no rfl ?_
     simp only[nm]
     refine wpK_ops rfl (fun w1 hu => ?_) ?_
     · clear hu
       go_simp
       first | done | rfl
     simp only[nm]
     refine wpK_nil ?_
     intro w102 hu hap
     simp only [List.drop_succ_cons, List.drop_zero]
     replace hu := (Up.refl _).drew.trans hu
     clear hap
     have hu103 := Aside0.mk hu
     clear hu
     refine wln (hK101 _ _ ?_)
     refine wp_cond_false rfl ?_
     refine wp_skip ?_
     refine hK100 _ _ ?_
     refine wp_seq_k fun K104 hK104=>?_
     have h109 := Rd.cutHi ((ha0.up (((hu4.out.trans hu9.out).trans hu99.out).trans hu103.out)).rd) A108.out
     have hm111 := Aside0.mk (Nat.le_trans ((Nat.le_trans ((Nat.le_trans (hu4.out.size) hz10.out)) hu99.out.size)) hu103.out.size)
     by_cases c110 : (decide (t107.length ≤ 1000000)) = true
     rotate_left
     ·
      rw [if_neg c110] at H; replace c110 := Bool.eq_false_iff.mpr c110
      exact absurd H (by simp)
     rw [if_pos c110] at H
     obtain ⟨t128,A129,H⟩:=bnd H;try dsimp only at H
     obtain ⟨t134,A135,H⟩:=bnd H;try dsimp only at H
     try simp only [c110, Bool.not_true, Bool.not_false]
     refine' wp_region_up 7 [Slot.any (SlTo 0 [] 40 w102.heap.size) false, Slot.det _, Slot.det _, Slot.det (.slice a0_A t107.length a0_c), Slot.any (RowTo e3 40 w102.heap.size t107 (fun v => v)) false, Slot.det _, Slot.any (SlTo 1 [.int .i64 a1_0, .int .i64 a1_1, .int .i64 a1_2] 40 w102.heap.size) false] (by kernel_rfl) (by kernel_rfl) ?main
     case main =>
      simp only [List.take_succ_cons, List.take_zero]
      refine wpK_any rfl (stab_sl _ _ _ _) (fun w1 hu _ => fresh_sl (by go_simp <;> rfl) ((Up.refl _).drew.trans hu).size) (fun v105 => ?_)
      simp only[nm]
      refine wpK_ops rfl (fun w1 hu => ?_) ?_
      · clear hu
        go_simp
        first | done | rfl
      simp only[nm]
      refine wpK_ops rfl (fun w1 hu => ?_) ?_
      · clear hu
        go_simp
        first | done | rfl
      simp only[nm]
      refine wpK_ops rfl (fun w1 hu => ?_) ?_
      · clear hu
        exact quiet_cut_h 3 (T := 40) (xs := a0) (ys := t107) rfl (by kernel_rfl) (by kernel_rfl) rfl rfl (Own.cap (ha0.up (((hu4.out.trans hu9.out).trans hu99.out).trans hu103.out))) A108.out
      simp only[nm]
      refine wpK_any rfl (stab_row _ _ _ _ _) (fun w1 hu hl => ?_) (fun v113 => ?_)
      · obtain ⟨bk_, e_, hBk_, hbb_⟩ := hl.1 (by kernel_rfl)
        dsimp only at e_
        subst e_
        have hz_ := ((Up.refl _).drew.trans hu).size
        have hr_ := Rd.up h109 ((Up.refl _).drew.trans hu)
        clear hl hu
        have hl_ : t107.length ≤ 1000000 := of_decide_eq_true (by assumption)
        exact fresh_append0 e3 (z := .agg #[.int .i64 0, .int .i64 0, .int .i64 0]) (bytes := 24) _ _ rfl rfl (by kernel_rfl) rfl (by decide) rfl hBk_ hbb_ rfl rfl hr_ hz_ (by first | omega | (simp only [List.length_cons, List.length_nil]; omega))
      simp only[nm]
      refine wpK_ops rfl (fun w1 hu => ?_) ?_
      · have cl0 := ((hb2.up ((hu9.out.trans hu99.out).trans hu103.out)).up ((Up.refl _).drew.trans hu)).cell (o := 0) rfl
        have cl1 := ((hb2.up ((hu9.out.trans hu99.out).trans hu103.out)).up ((Up.refl _).drew.trans hu)).cell (o := 1) rfl
        have cl2 := ((hb2.up ((hu9.out.trans hu99.out).trans hu103.out)).up ((Up.refl _).drew.trans hu)).cell (o := 2) rfl
        go_simp
        first | done | rfl
      simp only[nm]
      refine wpK_any rfl (stab_sl _ _ _ _) (fun w1 hu _ => fresh_sl (by go_simp <;> rfl) ((Up.refl _).drew.trans hu).size) (fun v117 => ?_)
      simp only[nm]
      refine wpK_nil ?_
      intro w119 hu hap
      simp only [List.drop_succ_cons, List.drop_zero]
      replace hu := (Up.refl _).drew.trans hu
      obtain ⟨-, -, ⟨b118, e0, hb118, lbb118⟩, -, -, ⟨P115, q116, e1, hr114⟩, -, -, ⟨b106, e2, hb106, lbb106⟩, -⟩ := hap
      replace lbb118 := Aside0.mk lbb118
      replace lbb106 := Aside0.mk lbb106
      dsimp only at e0 e1 e2
      subst e0 e1 e2
      have hu120 := Aside0.mk hu
      clear hu
      have hO0 := Aside0.mk hr114
      refine step_appendN e3 (z := .agg #[.int .i64 0, .int .i64 0, .int .i64 0]) (bytes := 24) (base := w102.heap.size) (xs := t107) (ys := [(a1_0, a1_1, a1_2)]) wn _ _ rfl rfl (by kernel_rfl) rfl (by decide) rfl rfl rfl hO0.out (Rd.of_blk (E := e3) (xs := [(a1_0, a1_1, a1_2)]) (o := 0) hb118 (by simp) (fun j u hu => by rcases j with _ | _ | _ | j <;> simp_all [Enc.flat, e3])) (hu120.out.size) (by have h0_ := (of_decide_eq_true (by assumption) : t107.length ≤ 1000000); (try simp only [List.length_cons, List.length_nil]); omega) A129.out ?_
      intro P121 q122 w123 h125 hg hat
      have hg126 := Aside0.mk hg
      have hat127 := Aside0.mk hat
      simp only[nm]
      have lb130 := Aside0.mk hO0.out.lt
      clear hO0 hg hat
      refine wpp fun k h=>?_;go_simp;apply h;clear h k
      refine wln (hK104 _ _ ?_)
      refine wsr fun _ hK133=>?_
      iterate 3 (refine wpp fun k h=>?_;go_simp;apply h;clear h k)
      refine step_cut_l e3 (T := 40) (i := x7) (xs := a0) (ys := t134) wn rfl (by kernel_rfl) (by kernel_rfl) rfl rfl rfl (Own.cap (ha0.up (((((hu4.out.trans hu9.out).trans hu99.out).trans hu103.out).trans hu120.out).grow hg126.out (fun k hk => Nat.le_trans (hm111.out) ((fun k hk => (lb130.out k hk).1) k hk))))) ((ha0.up (((((hu4.out.trans hu9.out).trans hu99.out).trans hu103.out).trans hu120.out).grow hg126.out (fun k hk => Nat.le_trans (hm111.out) ((fun k hk => (lb130.out k hk).1) k hk)))).rd) A135.out ?_
      intro P137 q138 h136 hc139
      simp only[nm]
      have hm141 := Aside0.mk (((((hu4.out.trans hu9.out).trans hu99.out).trans hu103.out).trans hu120.out).grow hg126.out (fun k hk => Nat.le_trans (hm111.out) ((fun k hk => (lb130.out k hk).1) k hk)))
      by_cases c140 : (decide (t128.length ≤ 1000000)) = true
      rotate_left
      ·
       rw [if_neg c140] at H; replace c140 := Bool.eq_false_iff.mpr c140
       exact absurd H (by simp)
      rw [if_pos c140] at H
      try simp only [c140, Bool.not_true, Bool.not_false]
      by_cases c143 : (decide (t134.length ≤ 1000000)) = true
      rotate_left
      ·
       rw [if_neg c143] at H; replace c143 := Bool.eq_false_iff.mpr c143
       exact absurd H (by simp)
      rw [if_pos c143] at H
      obtain ⟨t151,A152,H⟩:=bnd H;try dsimp only at H
      obtain rfl := Option.some.inj H
      try simp only [c143, Bool.not_true, Bool.not_false]
      have hO0 := Aside0.mk h125
      refine step_appendN e3 (z := .agg #[.int .i64 0, .int .i64 0, .int .i64 0]) (bytes := 24) (base := w102.heap.size) (xs := t128) (ys := t134) wn _ _ rfl rfl (by kernel_rfl) rfl (by decide) rfl rfl rfl hO0.out h136 ((Nat.le_trans (hu120.out.size) hg126.out.size)) (by have h0_ := (of_decide_eq_true (by assumption) : t128.length ≤ 1000000); have h1_ := (of_decide_eq_true (by assumption) : t134.length ≤ 1000000); (try simp only [List.length_cons, List.length_nil]); omega) A152.out ?_
      intro P144 q145 w146 h148 hg hat
      have hg149 := Aside0.mk hg
      have hat150 := Aside0.mk hat
      simp only[nm]
      have lb153 := Aside0.mk hO0.out.lt
      clear hO0 hg hat
      refine wpp fun k h=>?_;go_simp;apply h;clear h k
      refine wln (hK133 _ _ ?_)
      refine wp_ret ?_
      refine hQf _ _ _ ?_
      exact bpr (v := .slice P144 t151.length q145) ⟨P144, q145, rfl, (h148.lower (Nat.le_trans hBa0 (hm111.out))), (hm141.out.grow hg149.out (fun k hk => Nat.le_trans (hm111.out) ((fun k hk => (lb153.out k hk).1) k hk)))⟩
  rw [if_pos c19] at H
  obtain ⟨⟨t20, t21, t22⟩,A23,H⟩:=bnd H;try dsimp only at H
  obtain ⟨t28,A29,H⟩:=bnd H;try dsimp only at H
  try simp only [c19, Bool.not_true, Bool.not_false]
  obtain ⟨ad24, hat, he⟩ := rd_at ((ha0.up (hu4.out.trans hu9.out)).rd) A23.out
  have he25 := Aside0.mk he
  have hat27 := Aside0.mk hat
  clear he hat
  refine' wp_region_up 11 [Slot.det _, Slot.det _, Slot.det _, Slot.det _, Slot.det _, Slot.det _, Slot.det _, Slot.det (.pointer (some ad24)), Slot.det _, Slot.det (.bool t28), Slot.det _] (by kernel_rfl) (by kernel_rfl) ?main
  case main =>
   simp only [List.take_succ_cons, List.take_zero]
   refine wpK_ops rfl (fun w1 hu => ?_) ?_
   · clear hu
     go_simp
     first | done | rfl
   simp only[nm]
   refine wpK_ops rfl (fun w1 hu => ?_) ?_
   · clear hu
     go_simp
     first | done | rfl
   simp only[nm]
   refine wpK_ops rfl (fun w1 hu => ?_) ?_
   · clear hu
     go_simp
     first | done | rfl
   simp only[nm]
   refine wpK_yesU rfl (fun w1 hu => ?_) ?_
   · have cl0 := ((hb2.up hu9.out).up ((Up.refl _).drew.trans hu)).cell (o := 0) rfl
     have cl1 := ((hb2.up hu9.out).up ((Up.refl _).drew.trans hu)).cell (o := 1) rfl
     have cl2 := ((hb2.up hu9.out).up ((Up.refl _).drew.trans hu)).cell (o := 2) rfl
     go_simp
     first | done | rfl
   simp only[nm]
   refine wpK_yesU rfl (fun w1 hu => ?_) ?_
   · clear hu
     go_simp
     first | done | rfl
   simp only[nm]
   refine wpK_yesU rfl (fun w1 hu => ?_) ?_
   · clear hu
     go_simp
     first | done | rfl
   simp only[nm]
   refine wpK_yesU rfl (fun w1 hu => ?_) ?_
   · clear hu
     go_simp
     first | done | rfl
   simp only[nm]
   refine wpK_yesU rfl (fun w1 hu => ?_) ?_
   · exact quiet_index e3 (T := 40) rfl (by kernel_rfl) (by kernel_rfl) rfl rfl rfl hat27.out A23.out
   simp only[nm]
   refine wpK_yesU rfl (fun w1 hu => ?_) ?_
   · have cl0 := he25.out 0 _ rfl
     rw [addr_add0] at cl0
     replace cl0 := (((Up.refl _).drew.trans hu)).kept cl0
     have cl1 : World.cell? _ ⟨ad24.block, ad24.off + 1, none⟩ = some _ := he25.out 1 _ rfl
     replace cl1 := (((Up.refl _).drew.trans hu)).kept cl1
     have cl2 : World.cell? _ ⟨ad24.block, ad24.off + 2, none⟩ = some _ := he25.out 2 _ rfl
     replace cl2 := (((Up.refl _).drew.trans hu)).kept cl2
     go_simp
     first | done | rfl
   simp only[nm]
   refine wpK_yesU rfl (fun w1 hu => ?_) ?_
   · have hcl := (spec_l06Before.calls K a1_0 a1_1 a1_2 t20 t21 t22 t28 w1  A29.out)
     clear hu
     replace hcl := Aside0.mk hcl
     go_simp
     exact hcl.out
   simp only[nm]
   refine wpK_ops rfl (fun w1 hu => ?_) ?_
   · clear hu
     go_simp
     first | done | rfl
   simp only[nm]
   refine wpK_nil ?_
   intro w30 hu hap
   simp only [List.drop_succ_cons, List.drop_zero]
   replace hu := (Up.refl _).drew.trans hu
   clear hap
   have hu31 := Aside0.mk hu
   clear hu
   refine wln (hK18 _ _ ?_)
   by_cases c32 : (t28) = true
   ·
    rw [if_pos c32] at H
    subst c32
    have HL33 := Aside0.mk H
    clear H
    refine wp_cond_true rfl ?_
    refine wp_skip ?_
    refine hK17 _ _ ?_
    refine wp_block ?_
    refine wp_region_lit ?_
    iterate 3 (refine wpp fun k h=>?_;go_simp;apply h;clear h k)
    refine wln (hK15 _ _ ?_)
    go_roundg k12
    case measure => exact Nat.lt_succ_self _
    case rel => exact ⟨wrap64 (x7 - 1), (by first | rfl | simp), HL33, ⟨by have := hk13.out; omega⟩, ⟨(hu9.out.trans hu31.out)⟩, ⟨(Nat.le_trans ((Nat.le_trans (Nat.le_refl _) hz10.out)) hu31.out.size)⟩⟩
   rw [if_neg c32] at H; replace c32 := Bool.eq_false_iff.mpr c32
   subst c32
   obtain ⟨⟨t36, t37, t38⟩,A39,H⟩:=bnd H;try dsimp only at H
   refine wp_cond_false rfl ?_
   refine wp_exit ?_
   refine hK6 _ _ ?_
   refine wp_seq_k fun K34 hK34=>?_
   refine wp_seq_k fun K35 hK35=>?_
   obtain ⟨ad40, hat, he⟩ := rd_at ((ha0.up ((hu4.out.trans hu9.out).trans hu31.out)).rd) A39.out
   have he41 := Aside0.mk he
   have hat43 := Aside0.mk hat
   clear he hat
   refine' wp_region_up 11 [Slot.det _, Slot.det _, Slot.det _, Slot.det _, Slot.det _, Slot.det _, Slot.det (.pointer (some ad40)), Slot.det _, Slot.det _, Slot.det _, Slot.det _] (by kernel_rfl) (by kernel_rfl) ?main
   case main =>
    simp only [List.take_succ_cons, List.take_zero]
    refine wpK_ops rfl (fun w1 hu => ?_) ?_
    · clear hu
      go_simp
      first | done | rfl
    simp only[nm]
    refine wpK_ops rfl (fun w1 hu => ?_) ?_
    · clear hu
      go_simp
      first | done | rfl
    simp only[nm]
    refine wpK_ops rfl (fun w1 hu => ?_) ?_
    · clear hu
      go_simp
      first | done | rfl
    simp only[nm]
    refine wpK_yesU rfl (fun w1 hu => ?_) ?_
    · clear hu
      go_simp
      first | done | rfl
    simp only[nm]
    refine wpK_yesU rfl (fun w1 hu => ?_) ?_
    · clear hu
      go_simp
      first | done | rfl
    simp only[nm]
    refine wpK_yesU rfl (fun w1 hu => ?_) ?_
    · clear hu
      go_simp
      first | done | rfl
    simp only[nm]
    refine wpK_yesU rfl (fun w1 hu => ?_) ?_
    · exact quiet_index e3 (T := 40) rfl (by kernel_rfl) (by kernel_rfl) rfl rfl rfl hat43.out A39.out
    simp only[nm]
    refine wpK_yesU rfl (fun w1 hu => ?_) ?_
    · have cl0 := he41.out 0 _ rfl
      rw [addr_add0] at cl0
      replace cl0 := (((Up.refl _).drew.trans hu)).kept cl0
      have cl1 : World.cell? _ ⟨ad40.block, ad40.off + 1, none⟩ = some _ := he41.out 1 _ rfl
      replace cl1 := (((Up.refl _).drew.trans hu)).kept cl1
      have cl2 : World.cell? _ ⟨ad40.block, ad40.off + 2, none⟩ = some _ := he41.out 2 _ rfl
      replace cl2 := (((Up.refl _).drew.trans hu)).kept cl2
      go_simp
      first | done | rfl
    simp only[nm]
    refine wpK_yesU rfl (fun w1 hu => ?_) ?_
    · have cl0 := ((hb2.up (hu9.out.trans hu31.out)).up ((Up.refl _).drew.trans hu)).cell (o := 0) rfl
      have cl1 := ((hb2.up (hu9.out.trans hu31.out)).up ((Up.refl _).drew.trans hu)).cell (o := 1) rfl
      have cl2 := ((hb2.up (hu9.out.trans hu31.out)).up ((Up.refl _).drew.trans hu)).cell (o := 2) rfl
      go_simp
      first | done | rfl
    simp only[nm]
    refine wpK_yesU rfl (fun w1 hu => ?_) ?_
    · clear hu
      go_simp
      first | done | rfl
    simp only[nm]
    refine wpK_ops rfl (fun w1 hu => ?_) ?_
    · clear hu
      go_simp
      first | done | rfl
    simp only[nm]
    refine wpK_nil ?_
    intro w44 hu hap
    simp only [List.drop_succ_cons, List.drop_zero]
    replace hu := (Up.refl _).drew.trans hu
    clear hap
    have hu45 := Aside0.mk hu
    clear hu
    refine wln (hK35 _ _ ?_)
    have hm47 := Aside0.mk (Nat.le_trans ((Nat.le_trans ((Nat.le_trans (hu4.out.size) hz10.out)) hu31.out.size)) hu45.out.size)
    by_cases c46 : (t36 == a1_0 && (t37 == a1_1 && t38 == a1_2)) = true
    ·
     rw [if_pos c46] at H
     have c46n : (!t36 == a1_0 || (!t37 == a1_1 || !t38 == a1_2)) = false := by simp only [← Bool.not_and, c46, Bool.not_true, Bool.not_false]
     obtain rfl := Option.some.inj H
     try simp only [c46, c46n, Bool.not_true, Bool.not_false]
     refine wp_cond_true rfl ?_
     refine wsr fun _ hK49=>?_
     iterate 2 (refine wpp fun k h=>?_;go_simp;apply h;clear h k)
     refine wln (hK49 _ _ ?_)
     refine wp_ret ?_
     refine hQf _ _ _ ?_
     exact bpr (v := .slice a0_A a0.length a0_c) ⟨a0_A, a0_c, rfl, (ha0.up (((hu4.out.trans hu9.out).trans hu31.out).trans hu45.out)), (((hu4.out.trans hu9.out).trans hu31.out).trans hu45.out)⟩
    rw [if_neg c46] at H; replace c46 := Bool.eq_false_iff.mpr c46
    have c46n : (!t36 == a1_0 || (!t37 == a1_1 || !t38 == a1_2)) = true := by simp only [← Bool.not_and, c46, Bool.not_true, Bool.not_false]
    obtain ⟨t53,A54,H⟩:=bnd H;try dsimp only at H
    try simp only [c46, c46n, Bool.not_true, Bool.not_false]
    refine wp_cond_false rfl ?_
    refine wp_skip ?_
    refine hK34 _ _ ?_
    refine wp_seq_k fun K50 hK50=>?_
    have h55 := Rd.cutHi ((ha0.up (((hu4.out.trans hu9.out).trans hu31.out).trans hu45.out)).rd) A54.out
    by_cases c56 : (decide (t53.length ≤ 1000000)) = true
    rotate_left
    ·
     rw [if_neg c56] at H; replace c56 := Bool.eq_false_iff.mpr c56
     exact absurd H (by simp)
    rw [if_pos c56] at H
    obtain ⟨t72,A73,H⟩:=bnd H;try dsimp only at H
    obtain ⟨t78,A79,H⟩:=bnd H;try dsimp only at H
    try simp only [c56, Bool.not_true, Bool.not_false]
    refine' wp_region_up 7 [Slot.any (SlTo 0 [] 40 w44.heap.size) false, Slot.det _, Slot.det _, Slot.det (.slice a0_A t53.length a0_c), Slot.any (RowTo e3 40 w44.heap.size t53 (fun v => v)) false, Slot.det _, Slot.any (SlTo 1 [.int .i64 a1_0, .int .i64 a1_1, .int .i64 a1_2] 40 w44.heap.size) false] (by kernel_rfl) (by kernel_rfl) ?main
    case main =>
     simp only [List.take_succ_cons, List.take_zero]
     refine wpK_any rfl (stab_sl _ _ _ _) (fun w1 hu _ => fresh_sl (by go_simp <;> rfl) ((Up.refl _).drew.trans hu).size) (fun v51 => ?_)
     simp only[nm]
     refine wpK_ops rfl (fun w1 hu => ?_) ?_
     · clear hu
       go_simp
       first | done | rfl
     simp only[nm]
     refine wpK_ops rfl (fun w1 hu => ?_) ?_
     · clear hu
       go_simp
       first | done | rfl
     simp only[nm]
     refine wpK_ops rfl (fun w1 hu => ?_) ?_
     · clear hu
       exact quiet_cut_h 3 (T := 40) (xs := a0) (ys := t53) rfl (by kernel_rfl) (by kernel_rfl) rfl rfl (Own.cap (ha0.up (((hu4.out.trans hu9.out).trans hu31.out).trans hu45.out))) A54.out
     simp only[nm]
     refine wpK_any rfl (stab_row _ _ _ _ _) (fun w1 hu hl => ?_) (fun v57 => ?_)
     · obtain ⟨bk_, e_, hBk_, hbb_⟩ := hl.1 (by kernel_rfl)
       dsimp only at e_
       subst e_
       have hz_ := ((Up.refl _).drew.trans hu).size
       have hr_ := Rd.up h55 ((Up.refl _).drew.trans hu)
       clear hl hu
       have hl_ : t53.length ≤ 1000000 := of_decide_eq_true (by assumption)
       exact fresh_append0 e3 (z := .agg #[.int .i64 0, .int .i64 0, .int .i64 0]) (bytes := 24) _ _ rfl rfl (by kernel_rfl) rfl (by decide) rfl hBk_ hbb_ rfl rfl hr_ hz_ (by first | omega | (simp only [List.length_cons, List.length_nil]; omega))
     simp only[nm]
     refine wpK_ops rfl (fun w1 hu => ?_) ?_
     · have cl0 := ((hb2.up ((hu9.out.trans hu31.out).trans hu45.out)).up ((Up.refl _).drew.trans hu)).cell (o := 0) rfl
       have cl1 := ((hb2.up ((hu9.out.trans hu31.out).trans hu45.out)).up ((Up.refl _).drew.trans hu)).cell (o := 1) rfl
       have cl2 := ((hb2.up ((hu9.out.trans hu31.out).trans hu45.out)).up ((Up.refl _).drew.trans hu)).cell (o := 2) rfl
       go_simp
       first | done | rfl
     simp only[nm]
     refine wpK_any rfl (stab_sl _ _ _ _) (fun w1 hu _ => fresh_sl (by go_simp <;> rfl) ((Up.refl _).drew.trans hu).size) (fun v61 => ?_)
     simp only[nm]
     refine wpK_nil ?_
     intro w63 hu hap
     simp only [List.drop_succ_cons, List.drop_zero]
     replace hu := (Up.refl _).drew.trans hu
     obtain ⟨-, -, ⟨b62, e0, hb62, lbb62⟩, -, -, ⟨P59, q60, e1, hr58⟩, -, -, ⟨b52, e2, hb52, lbb52⟩, -⟩ := hap
     replace lbb62 := Aside0.mk lbb62
     replace lbb52 := Aside0.mk lbb52
     dsimp only at e0 e1 e2
     subst e0 e1 e2
     have hu64 := Aside0.mk hu
     clear hu
     have hO0 := Aside0.mk hr58
     refine step_appendN e3 (z := .agg #[.int .i64 0, .int .i64 0, .int .i64 0]) (bytes := 24) (base := w44.heap.size) (xs := t53) (ys := [(a1_0, a1_1, a1_2)]) wn _ _ rfl rfl (by kernel_rfl) rfl (by decide) rfl rfl rfl hO0.out (Rd.of_blk (E := e3) (xs := [(a1_0, a1_1, a1_2)]) (o := 0) hb62 (by simp) (fun j u hu => by rcases j with _ | _ | _ | j <;> simp_all [Enc.flat, e3])) (hu64.out.size) (by have h0_ := (of_decide_eq_true (by assumption) : t53.length ≤ 1000000); (try simp only [List.length_cons, List.length_nil]); omega) A73.out ?_
     intro P65 q66 w67 h69 hg hat
     have hg70 := Aside0.mk hg
     have hat71 := Aside0.mk hat
     simp only[nm]
     have lb74 := Aside0.mk hO0.out.lt
     clear hO0 hg hat
     refine wpp fun k h=>?_;go_simp;apply h;clear h k
     refine wln (hK50 _ _ ?_)
     refine wsr fun _ hK77=>?_
     iterate 3 (refine wpp fun k h=>?_;go_simp;apply h;clear h k)
     refine step_cut_l e3 (T := 40) (i := x7) (xs := a0) (ys := t78) wn rfl (by kernel_rfl) (by kernel_rfl) rfl rfl rfl (Own.cap (ha0.up (((((hu4.out.trans hu9.out).trans hu31.out).trans hu45.out).trans hu64.out).grow hg70.out (fun k hk => Nat.le_trans (hm47.out) ((fun k hk => (lb74.out k hk).1) k hk))))) ((ha0.up (((((hu4.out.trans hu9.out).trans hu31.out).trans hu45.out).trans hu64.out).grow hg70.out (fun k hk => Nat.le_trans (hm47.out) ((fun k hk => (lb74.out k hk).1) k hk)))).rd) A79.out ?_
     intro P81 q82 h80 hc83
     simp only[nm]
     have hm85 := Aside0.mk (((((hu4.out.trans hu9.out).trans hu31.out).trans hu45.out).trans hu64.out).grow hg70.out (fun k hk => Nat.le_trans (hm47.out) ((fun k hk => (lb74.out k hk).1) k hk)))
     by_cases c84 : (decide (t72.length ≤ 1000000)) = true
     rotate_left
     ·
      rw [if_neg c84] at H; replace c84 := Bool.eq_false_iff.mpr c84
      exact absurd H (by simp)
     rw [if_pos c84] at H
     try simp only [c84, Bool.not_true, Bool.not_false]
     by_cases c87 : (decide (t78.length ≤ 1000000)) = true
     rotate_left
     ·
      rw [if_neg c87] at H; replace c87 := Bool.eq_false_iff.mpr c87
      exact absurd H (by simp)
     rw [if_pos c87] at H
     obtain ⟨t95,A96,H⟩:=bnd H;try dsimp only at H
     obtain rfl := Option.some.inj H
     try simp only [c87, Bool.not_true, Bool.not_false]
     have hO0 := Aside0.mk h69
     refine step_appendN e3 (z := .agg #[.int .i64 0, .int .i64 0, .int .i64 0]) (bytes := 24) (base := w44.heap.size) (xs := t72) (ys := t78) wn _ _ rfl rfl (by kernel_rfl) rfl (by decide) rfl rfl rfl hO0.out h80 ((Nat.le_trans (hu64.out.size) hg70.out.size)) (by have h0_ := (of_decide_eq_true (by assumption) : t72.length ≤ 1000000); have h1_ := (of_decide_eq_true (by assumption) : t78.length ≤ 1000000); (try simp only [List.length_cons, List.length_nil]); omega) A96.out ?_
     intro P88 q89 w90 h92 hg hat
     have hg93 := Aside0.mk hg
     have hat94 := Aside0.mk hat
     simp only[nm]
     have lb97 := Aside0.mk hO0.out.lt
     clear hO0 hg hat
     refine wpp fun k h=>?_;go_simp;apply h;clear h k
     refine wln (hK77 _ _ ?_)
     refine wp_ret ?_
     refine hQf _ _ _ ?_
     exact bpr (v := .slice P88 t95.length q89) ⟨P88, q89, rfl, (h92.lower (Nat.le_trans hBa0 (hm47.out))), (hm85.out.grow hg93.out (fun k hk => Nat.le_trans (hm47.out) ((fun k hk => (lb97.out k hk).1) k hk)))⟩

set_option maxHeartbeats 40000000 in
set_option maxRecDepth 100000 in
theorem spec_TangentsFrom.calls (K : Nat) (a0 : Int) (a1 : Int) (a2_0 : Int) (a2_1 : Int) (a2_2 : Int) (a3_0 : Int) (a3_1 : Int) (r0 : List (Int × Int × Int)) (r1 : Int) (w : World)  (h : spec_TangentsFrom.f K a0 a1 a2_0 a2_1 a2_2 a3_0 a3_1 = some (r0, r1)) :
    Calls Try.prog 4 #[.int .i64 a0, .int .i64 a1, .agg #[.int .i64 a2_0, .int .i64 a2_1, .int .i64 a2_2], .agg #[.int .i64 a3_0, .int .i64 a3_1]] w fun e w' => ∃ (Ar0 : Option Addr) (cr0 : Nat), e = .returned (.tuple #[.slice Ar0 r0.length cr0, .int .i64 r1]) ∧ Own e3 40 w' w.heap.size (.slice Ar0 r0.length cr0) r0 ∧ Up w w' := by
 have H : (((spec_l06Given.f K a0 a1 a2_0 a2_1 a2_2 a3_0 a3_1).bind fun t10 => (if (t10 == 0) = true then ((spec_l02At.f K a0 a1 a2_0 a2_1 a2_2).bind fun t18 => (spec_TangentsFrom.l0 K a0 a1 a2_0 a2_1 a2_2 a3_0 a3_1 t18 K 0 ([] : List (Int × Int × Int)))) else some ([], t10))) : Option (List (Int × Int × Int) × Int)) = some (r0, r1) := h
 clear h
 obtain ⟨t10,A11,H⟩:=bnd H;try dsimp only at H
 go_enter Try.func4, Try.ntmps4
 refine wp_hide (fun Qf hQf => ?_)
 refine wsr fun _ hK1=>?_
 refine stp (cs := [.int .i64 a2_0, .int .i64 a2_1, .int .i64 a2_2]) (T := 30) ?_
 intro b2 w3 hu4 lbb2 ltb2 hb2
 simp only[nm]
 refine stp (cs := [.int .i64 a3_0, .int .i64 a3_1]) (T := 28) ?_
 intro b5 w6 hu7 lbb5 ltb5 hb5
 simp only[nm]
 iterate 2 (refine wpp fun k h=>?_;go_simp;apply h;clear h k)
 refine wln (hK1 _ _ ?_)
 refine wp_seq_k fun K8 hK8=>?_
 refine wsr fun _ hK9=>?_
 iterate 2 (refine wpp fun k h=>?_;go_simp;apply h;clear h k)
 have cl0 := (hb2.up hu7.out).cell (o := 0) rfl
 have cl1 := (hb2.up hu7.out).cell (o := 1) rfl
 have cl2 := (hb2.up hu7.out).cell (o := 2) rfl
 refine wpp fun k h=>?_;go_simp;apply h;clear h k
 clear cl0 cl1 cl2
 have cl0 := hb5.cell (o := 0) rfl
 have cl1 := hb5.cell (o := 1) rfl
 refine wpp fun k h=>?_;go_simp;apply h;clear h k
 clear cl0 cl1
 refine stc (spec_l06Given.calls K a0 a1 a2_0 a2_1 a2_2 a3_0 a3_1 t10 w6  A11.out) ?_
 intro w12 hu13
 simp only[nm]
 refine wpp fun k h=>?_;go_simp;apply h;clear h k
 refine wln (hK9 _ _ ?_)
 refine wsr fun _ hK14=>?_
 iterate 2 (refine wpp fun k h=>?_;go_simp;apply h;clear h k)
 refine wln (hK14 _ _ ?_)
 have hm16 := Aside0.mk ((hu4.out.trans hu7.out).trans hu13.out)
 by_cases c15 : (t10 == 0) = true
 rotate_left
 ·
  rw [if_neg c15] at H; replace c15 := Bool.eq_false_iff.mpr c15
  have c15n : (t10 != 0) = true := by rw [bne, c15]; rfl
  have c15p : ¬ t10 = 0 := fun e => by simp [e] at c15
  simp only [Option.some.injEq, Prod.mk.injEq] at H
  obtain ⟨rfl, rfl⟩ := H
  try simp only [c15, c15n, Bool.not_true, Bool.not_false]
  refine wp_cond_true rfl ?_
  refine wsr fun _ hK106=>?_
  iterate 3 (refine wpp fun k h=>?_;go_simp;apply h;clear h k)
  refine wln (hK106 _ _ ?_)
  refine wp_ret ?_
  have h108 : Own e3 40 w12 w12.heap.size (.slice none ([] : List (Int × Int × Int)).length 0) [] := Own.nil
  refine hQf _ _ _ ?_
  exact bpr (v := .tuple #[.slice none 0 0, .int .i64 t10]) ⟨none, 0, rfl, (h108.lower (hm16.out.size)), hm16.out⟩
 rw [if_pos c15] at H
 have c15n : (t10 != 0) = false := by rw [bne, c15]; rfl
 obtain ⟨t18,A21,H⟩:=bnd H;try dsimp only at H
 try simp only [c15, c15n, Bool.not_true, Bool.not_false]
 refine wp_cond_false rfl ?_
 refine wp_skip ?_
 refine hK8 _ _ ?_
 refine wsr fun _ hK17=>?_
 iterate 3 (refine wpp fun k h=>?_;go_simp;apply h;clear h k)
 have cl0 := (hb2.up (hu7.out.trans hu13.out)).cell (o := 0) rfl
 have cl1 := (hb2.up (hu7.out.trans hu13.out)).cell (o := 1) rfl
 refine wpp fun k h=>?_;go_simp;apply h;clear h k
 clear cl0 cl1
 refine wpp fun k h=>?_;go_simp;apply h;clear h k
 have cl0 := (hb2.up (hu7.out.trans hu13.out)).cell (o := 2) rfl
 refine wpp fun k h=>?_;go_simp;apply h;clear h k
 clear cl0
 refine step_call wn (by go_simp <;> rfl) (spec_l02At.calls K a0 a1 a2_0 a2_1 a2_2 t18 w12  A21.out) ?_
 rintro e w22 ⟨P19, q20, rfl, ht18, hu⟩
 have hu23 := Aside0.mk hu
 clear hu
 refine ⟨_, rfl, ?_⟩
 simp only[nm]
 refine step_new (cs := []) (T := 40) (f := fun b => .slice (some ⟨b, 0, none⟩) 0 0) rfl (by go_simp <;> rfl) ?_
 intro b24 w25 hu lb hb24
 simp only[nm]
 have lbb24 := Aside0.mk lb
 clear lb
 have hu26 := Aside0.mk hu
 clear hu
 iterate 2 (refine wpp fun k h=>?_;go_simp;apply h;clear h k)
 refine wln (hK17 _ _ ?_)
 refine wp_seq_k fun K27 hK27=>?_
 refine wsr fun _ hK28=>?_
 refine wpp fun k h=>?_;go_simp;apply h;clear h k
 refine wln (hK28 _ _ ?_)
 refine wp_block ?_
 have h30 : Own e3 40 w25 w22.heap.size (.slice (some ⟨b24, 0, none⟩) ([].length) 0) [] := Own.of_blk hb24 lbb24.out rfl (by simp) (by simp [Enc.flat, e3])
 have HL38 := Aside0.mk H
 clear H
 go_loopg [13, 12] K (fun kq v13 v12 w' => ∃ (x31 : Int) (x32 : List (Int × Int × Int)) (P33 : Option Addr) (q34 : Nat), v13 = .int .i64 x31 ∧ v12 = .slice P33 x32.length q34 ∧ Aside0 (spec_TangentsFrom.l0 K a0 a1 a2_0 a2_1 a2_2 a3_0 a3_1 t18 kq x31 x32 = some (r0, r1)) ∧ Aside0 (kq ≤ K) ∧ Aside0 (Up w22 w') ∧ Aside0 (w25.heap.size ≤ w'.heap.size) ∧ Own e3 40 w' w22.heap.size (.slice P33 x32.length q34) x32 ∧ Aside0 (∀ k, blk (.slice P33 x32.length q34) = some k → k ≠ b2) ∧ Aside0 (∀ k, blk (.slice P33 x32.length q34) = some k → k ≠ b5) ∧ Aside0 (∀ k l, blk (.slice P33 x32.length q34) = some k → blk (.slice P19 t18.length q20) = some l → k ≠ l))
 case atStart => exact ⟨0, ([] : List (Int × Int × Int)), some ⟨b24, 0, none⟩, 0, (by first | rfl | simp), (by first | rfl | simp), HL38, ⟨Nat.le_refl _⟩, ⟨hu26.out⟩, ⟨Nat.le_refl _⟩, h30, ⟨(fun k hk => Ne.symm ((fun k hk => Nat.ne_of_lt (Nat.lt_of_lt_of_le (Nat.lt_of_lt_of_le ltb2.out ((Nat.le_trans ((Nat.le_trans (hu7.out.size) hu13.out.size)) hu23.out.size))) ((fun k hk => Nat.le_trans (Nat.le_refl _) (h30.lt k hk).1) k hk))) k hk))⟩, ⟨(fun k hk => Ne.symm ((fun k hk => Nat.ne_of_lt (Nat.lt_of_lt_of_le (Nat.lt_of_lt_of_le ltb5.out ((Nat.le_trans (hu13.out.size) hu23.out.size))) ((fun k hk => Nat.le_trans (Nat.le_refl _) (h30.lt k hk).1) k hk))) k hk))⟩, ⟨(fun k l hk hl => Ne.symm ((fun k l hk hl => Nat.ne_of_lt (Nat.lt_of_lt_of_le ((fun k hk => Nat.lt_of_lt_of_le (ht18.lt k hk).2 (Nat.le_refl _)) k hk) ((fun k hk => Nat.le_trans (Nat.le_refl _) (h30.lt k hk).1) l hl))) l k hl hk))⟩⟩
 case round =>
  rename_i J45 K46 hJ45 hK46
  obtain ⟨x31, x32, P33, q34, rfl, rfl, HL47, hk44, hu36, hz37, h39, hn40, hn41, hn42⟩ := hrel
  obtain ⟨w35, rfl⟩ : ∃ wo : World, wo = wr := ⟨_, rfl⟩
  obtain ⟨k43, rfl⟩ | rfl : (∃ k, gk = k + 1) ∨ gk = 0 := by rcases gk with _ | k; exact .inr rfl; exact .inl ⟨k, rfl⟩
  case inr => exact absurd HL47.out (by simp [spec_TangentsFrom.l0])
  have H := HL47.out
  clear HL47
  rw [spec_TangentsFrom.l0] at H
  refine wp_seq_k fun K48 hK48=>?_
  refine wsr fun _ hK49=>?_
  iterate 4 (refine wpp fun k h=>?_;go_simp;apply h;clear h k)
  refine wln (hK49 _ _ ?_)
  have hm51 := Aside0.mk (hu23.out.trans hu36.out)
  by_cases c50 : (decide (x31 < (t18.length : Int))) = true
  rotate_left
  ·
   rw [if_neg c50] at H; replace c50 := Bool.eq_false_iff.mpr c50
   simp only [Option.some.injEq, Prod.mk.injEq] at H
   obtain ⟨rfl, rfl⟩ := H
   try simp only [c50, Bool.not_true, Bool.not_false]
   refine wp_cond_false rfl ?_
   refine wp_exit ?_
   refine hK27 _ _ ?_
   refine wsr fun _ hK105=>?_
   iterate 3 (refine wpp fun k h=>?_;go_simp;apply h;clear h k)
   refine wln (hK105 _ _ ?_)
   refine wp_ret ?_
   refine hQf _ _ _ ?_
   exact bpr (v := .tuple #[.slice P33 x32.length q34, .int .i64 0]) ⟨P33, q34, rfl, (h39.lower ((Nat.le_trans (hm16.out.size) hu23.out.size))), (hm16.out.trans hm51.out)⟩
  rw [if_pos c50] at H
  obtain ⟨⟨t55, t56⟩,A57,H⟩:=bnd H;try dsimp only at H
  try simp only [c50, Bool.not_true, Bool.not_false]
  refine wp_cond_true rfl ?_
  refine wp_skip ?_
  refine hK48 _ _ ?_
  refine wp_seq_k fun K52 hK52=>?_
  refine wp_block ?_
  refine wp_seq_k fun K53 hK53=>?_
  refine wp_seq_k fun K54 hK54=>?_
  obtain ⟨ad58, hat, he⟩ := rd_at ((ht18.up hu36.out).rd) A57.out
  have he59 := Aside0.mk he
  have hat61 := Aside0.mk hat
  clear he hat
  refine' wp_region_up 7 [Slot.det _, Slot.det _, Slot.det (.pointer (some ad58)), Slot.det _, Slot.det _, Slot.det _, Slot.det _] (by kernel_rfl) (by kernel_rfl) ?main
  case main =>
   simp only [List.take_succ_cons, List.take_zero]
   refine wpK_ops rfl (fun w1 hu => ?_) ?_
   · clear hu
     go_simp
     first | done | rfl
   simp only[nm]
   refine wpK_ops rfl (fun w1 hu => ?_) ?_
   · clear hu
     go_simp
     first | done | rfl
   simp only[nm]
   refine wpK_ops rfl (fun w1 hu => ?_) ?_
   · exact quiet_index e2 (T := 28) rfl (by kernel_rfl) (by kernel_rfl) rfl rfl rfl hat61.out A57.out
   simp only[nm]
   refine wpK_ops rfl (fun w1 hu => ?_) ?_
   · have cl0 := he59.out 0 _ rfl
     rw [addr_add0] at cl0
     replace cl0 := (((Up.refl _).drew.trans hu)).kept cl0
     have cl1 : World.cell? _ ⟨ad58.block, ad58.off + 1, none⟩ = some _ := he59.out 1 _ rfl
     replace cl1 := (((Up.refl _).drew.trans hu)).kept cl1
     go_simp
     first | done | rfl
   simp only[nm]
   refine wpK_ops rfl (fun w1 hu => ?_) ?_
   · clear hu
     go_simp
     first | done | rfl
   simp only[nm]
   refine wpK_ops rfl (fun w1 hu => ?_) ?_
   · have cl0 := ((hb2.up ((hu7.out.trans hu13.out).trans hm51.out)).up ((Up.refl _).drew.trans hu)).cell (o := 0) rfl
     have cl1 := ((hb2.up ((hu7.out.trans hu13.out).trans hm51.out)).up ((Up.refl _).drew.trans hu)).cell (o := 1) rfl
     go_simp
     first | done | rfl
   simp only[nm]
   refine wpK_ops rfl (fun w1 hu => ?_) ?_
   · clear hu
     go_simp
     first | done | rfl
   simp only[nm]
   refine wpK_nil ?_
   intro w62 hu hap
   simp only [List.drop_succ_cons, List.drop_zero]
   replace hu := (Up.refl _).drew.trans hu
   clear hap
   have hu63 := Aside0.mk hu
   clear hu
   refine wln (hK54 _ _ ?_)
   have h65 := (hb2.up (((hu7.out.trans hu13.out).trans hm51.out).trans hu63.out))
   by_cases c64 : (t55 == a2_0 && t56 == a2_1) = true
   ·
    rw [if_pos c64] at H
    have c64n : (!t55 == a2_0 || !t56 == a2_1) = false := by simp only [← Bool.not_and, c64, Bool.not_true, Bool.not_false]
    have HL66 := Aside0.mk H
    clear H
    try simp only [c64, c64n, Bool.not_true, Bool.not_false]
    refine wp_cond_true rfl ?_
    refine wp_exit ?_
    refine hK52 _ _ ?_
    refine wp_region_lit ?_
    iterate 3 (refine wpp fun k h=>?_;go_simp;apply h;clear h k)
    refine wln (hK46 _ _ ?_)
    go_roundg k43
    case measure => exact Nat.lt_succ_self _
    case rel => exact ⟨wrap64 (x31 + 1), x32, P33, q34, (by first | rfl | simp), (by first | rfl | simp), HL66, ⟨by have := hk44.out; omega⟩, ⟨(hu36.out.trans hu63.out)⟩, ⟨(Nat.le_trans ((Nat.le_trans (Nat.le_refl _) hz37.out)) hu63.out.size)⟩, (h39.up hu63.out), ⟨hn40.out⟩, ⟨hn41.out⟩, ⟨hn42.out⟩⟩
   rw [if_neg c64] at H; replace c64 := Bool.eq_false_iff.mpr c64
   have c64n : (!t55 == a2_0 || !t56 == a2_1) = true := by simp only [← Bool.not_and, c64, Bool.not_true, Bool.not_false]
   obtain ⟨⟨t68, t69⟩,A70,H⟩:=bnd H;try dsimp only at H
   obtain ⟨⟨t75, t76, t77⟩,A78,H⟩:=bnd H;try dsimp only at H
   obtain ⟨t87,A88,H⟩:=bnd H;try dsimp only at H
   try simp only [c64, c64n, Bool.not_true, Bool.not_false]
   refine wp_cond_false rfl ?_
   refine wp_skip ?_
   refine hK53 _ _ ?_
   refine wp_seq_k fun K67 hK67=>?_
   obtain ⟨ad71, hat, he⟩ := rd_at ((ht18.up (hu36.out.trans hu63.out)).rd) A70.out
   have he72 := Aside0.mk he
   have hat74 := Aside0.mk hat
   clear he hat
   refine' wp_region_up 9 [Slot.det _, Slot.det _, Slot.det _, Slot.det _, Slot.det _, Slot.det (.pointer (some ad71)), Slot.det _, Slot.det (.agg #[.int .i64 t75, .int .i64 t76, .int .i64 t77]), Slot.any (PtrTo [.int .i64 0, .int .i64 0, .int .i64 0] 40) true] (by kernel_rfl) (by kernel_rfl) ?main
   case main =>
    simp only [List.take_succ_cons, List.take_zero]
    refine wpK_ops rfl (fun w1 hu => ?_) ?_
    · clear hu
      go_simp
      first | done | rfl
    simp only[nm]
    refine wpK_ops rfl (fun w1 hu => ?_) ?_
    · clear hu
      go_simp
      first | done | rfl
    simp only[nm]
    refine wpK_ops rfl (fun w1 hu => ?_) ?_
    · have cl0 := (h65.up ((Up.refl _).drew.trans hu)).cell (o := 0) rfl
      have cl1 := (h65.up ((Up.refl _).drew.trans hu)).cell (o := 1) rfl
      have cl2 := (h65.up ((Up.refl _).drew.trans hu)).cell (o := 2) rfl
      go_simp
      first | done | rfl
    simp only[nm]
    refine wpK_ops rfl (fun w1 hu => ?_) ?_
    · clear hu
      go_simp
      first | done | rfl
    simp only[nm]
    refine wpK_ops rfl (fun w1 hu => ?_) ?_
    · clear hu
      go_simp
      first | done | rfl
    simp only[nm]
    refine wpK_ops rfl (fun w1 hu => ?_) ?_
    · exact quiet_index e2 (T := 28) rfl (by kernel_rfl) (by kernel_rfl) rfl rfl rfl hat74.out A70.out
    simp only[nm]
    refine wpK_ops rfl (fun w1 hu => ?_) ?_
    · have cl0 := he72.out 0 _ rfl
      rw [addr_add0] at cl0
      replace cl0 := (((Up.refl _).drew.trans hu)).kept cl0
      have cl1 : World.cell? _ ⟨ad71.block, ad71.off + 1, none⟩ = some _ := he72.out 1 _ rfl
      replace cl1 := (((Up.refl _).drew.trans hu)).kept cl1
      go_simp
      first | done | rfl
    simp only[nm]
    refine wpK_ops rfl (fun w1 hu => ?_) ?_
    · have hcl := (spec_l06Tangent.calls K a0 a1 a2_0 a2_1 a2_2 t68 t69 t75 t76 t77 w1  A78.out)
      clear hu
      replace hcl := Aside0.mk hcl
      go_simp
      exact hcl.out
    simp only[nm]
    refine wpK_any rfl (stab_ptr _ _) (fun w1 _ _ => fresh_ptr (by go_simp <;> rfl)) (fun v79 => ?_)
    simp only[nm]
    refine wpK_nil ?_
    intro w81 hu hap
    simp only [List.drop_succ_cons, List.drop_zero]
    replace hu := (Up.refl _).drew.trans hu
    obtain ⟨hf0, hn0, ⟨b80, e0, hb80⟩, -⟩ := hap
    have lbb80 := Aside0.mk (hf0 rfl b80 (by rw [e0]; rfl)).1
    dsimp only at e0
    subst e0
    clear hf0 hn0
    have hu82 := Aside0.mk hu
    clear hu
    refine stw [.int .i64 t75, .int .i64 t76, .int .i64 t77] hb80 rfl rfl rfl rfl rfl (by kernel_rfl) rfl rfl ?_
    intro w83 hs84 hb85
    refine wln (hK67 _ _ ?_)
    refine wsr fun _ hK86=>?_
    refine wpp fun k h=>?_;go_simp;apply h;clear h k
    have cl0 := (hb5.up ((((hu13.out.trans hm51.out).trans hu63.out).trans hu82.out).sto (Nat.le_trans ((Nat.le_trans ((Nat.le_trans (hu13.out.size) hm51.out.size)) hu63.out.size)) lbb80.out) hs84.out)).cell (o := 0) rfl
    have cl1 := (hb5.up ((((hu13.out.trans hm51.out).trans hu63.out).trans hu82.out).sto (Nat.le_trans ((Nat.le_trans ((Nat.le_trans (hu13.out.size) hm51.out.size)) hu63.out.size)) lbb80.out) hs84.out)).cell (o := 1) rfl
    refine wpp fun k h=>?_;go_simp;apply h;clear h k
    clear cl0 cl1
    have cl0 := hb85.cell (o := 0) rfl
    have cl1 := hb85.cell (o := 1) rfl
    have cl2 := hb85.cell (o := 2) rfl
    refine wpp fun k h=>?_;go_simp;apply h;clear h k
    clear cl0 cl1 cl2
    refine stc (spec_l01On.calls K a0 a3_0 a3_1 t75 t76 t77 t87 w83  A88.out) ?_
    intro w89 hu90
    simp only[nm]
    refine wln (hK86 _ _ ?_)
    have hm92 := Aside0.mk ((hu82.out.sto (Nat.le_trans (Nat.le_refl _) lbb80.out) hs84.out).trans hu90.out)
    have hm94 := Aside0.mk (Nat.le_trans ((Nat.le_trans ((Nat.le_trans (hu26.out.size) hz37.out)) hu63.out.size)) hm92.out.size)
    have hm95 := Aside0.mk (Nat.le_trans ((Nat.le_trans ((Nat.le_trans (Nat.le_refl _) hz37.out)) hu63.out.size)) hm92.out.size)
    by_cases c91 : (t87) = true
    rotate_left
    ·
     rw [if_neg c91] at H; replace c91 := Bool.eq_false_iff.mpr c91
     subst c91
     have HL104 := Aside0.mk H
     clear H
     refine wp_cond_false rfl ?_
     refine wp_skip ?_
     refine hK52 _ _ ?_
     refine wp_region_lit ?_
     iterate 3 (refine wpp fun k h=>?_;go_simp;apply h;clear h k)
     refine wln (hK46 _ _ ?_)
     go_roundg k43
     case measure => exact Nat.lt_succ_self _
     case rel => exact ⟨wrap64 (x31 + 1), x32, P33, q34, (by first | rfl | simp), (by first | rfl | simp), HL104, ⟨by have := hk44.out; omega⟩, ⟨((hu36.out.trans hu63.out).trans hm92.out)⟩, ⟨hm95.out⟩, (h39.up (hu63.out.trans hm92.out)), ⟨hn40.out⟩, ⟨hn41.out⟩, ⟨hn42.out⟩⟩
    rw [if_pos c91] at H
    subst c91
    obtain ⟨t97,A100,H⟩:=bnd H;try dsimp only at H
    have HL103 := Aside0.mk H
    clear H
    refine wp_cond_true rfl ?_
    refine wp_region_lit ?_
    refine wpp fun k h=>?_;go_simp;apply h;clear h k
    have cl0 := (hb85.up hu90.out).cell (o := 0) rfl
    have cl1 := (hb85.up hu90.out).cell (o := 1) rfl
    have cl2 := (hb85.up hu90.out).cell (o := 2) rfl
    refine wpp fun k h=>?_;go_simp;apply h;clear h k
    clear cl0 cl1 cl2
    refine step_call wn (by go_simp <;> rfl) (spec_l06Put.calls K P33 q34 w22.heap.size x32 t75 t76 t77 t97 w89 (h39.up (hu63.out.trans hm92.out)) (hm94.out) A100.out) ?_
    rintro e w101 ⟨P98, q99, rfl, ht97, hu⟩
    have hu102 := Aside0.mk hu
    clear hu
    refine ⟨_, rfl, ?_⟩
    simp only[nm]
    refine wpp fun k h=>?_;go_simp;apply h;clear h k
    refine wln (hK52 _ _ ?_)
    refine wp_region_lit ?_
    iterate 3 (refine wpp fun k h=>?_;go_simp;apply h;clear h k)
    refine wln (hK46 _ _ ?_)
    go_roundg k43
    case measure => exact Nat.lt_succ_self _
    case rel => exact ⟨wrap64 (x31 + 1), t97, P98, q99, (by first | rfl | simp), (by first | rfl | simp), HL103, ⟨by have := hk44.out; omega⟩, ⟨(((hu36.out.trans hu63.out).trans hm92.out).trans hu102.out)⟩, ⟨(Nat.le_trans (hm95.out) hu102.out.size)⟩, ht97, ⟨(fun k hk => Ne.symm ((fun k hk => Nat.ne_of_lt (Nat.lt_of_lt_of_le (Nat.lt_of_lt_of_le ltb2.out ((Nat.le_trans ((Nat.le_trans (hu7.out.size) hu13.out.size)) hu23.out.size))) ((fun k hk => Nat.le_trans (Nat.le_refl _) (ht97.lt k hk).1) k hk))) k hk))⟩, ⟨(fun k hk => Ne.symm ((fun k hk => Nat.ne_of_lt (Nat.lt_of_lt_of_le (Nat.lt_of_lt_of_le ltb5.out ((Nat.le_trans (hu13.out.size) hu23.out.size))) ((fun k hk => Nat.le_trans (Nat.le_refl _) (ht97.lt k hk).1) k hk))) k hk))⟩, ⟨(fun k l hk hl => Ne.symm ((fun k l hk hl => Nat.ne_of_lt (Nat.lt_of_lt_of_le ((fun k hk => Nat.lt_of_lt_of_le (ht18.lt k hk).2 (Nat.le_refl _)) k hk) ((fun k hk => Nat.le_trans (Nat.le_refl _) (ht97.lt k hk).1) l hl))) l k hl hk))⟩⟩

set_option maxHeartbeats 40000000 in
set_option maxRecDepth 100000 in
theorem impl_IsField.calls (K : Nat) (a0 : Int) (r0 : Bool) (w : World)  (h : impl_IsField.f K a0 = some (r0)) :
    Calls Try.prog 34 #[.int .i64 a0] w fun e w' => e = .returned (.bool r0) ∧ Up w w' := by
 have H : ((if (a0 == 3) = true then some true else (if (a0 == 5) = true then some true else (if (a0 == 7) = true then some true else (if (a0 == 11) = true then some true else (if (a0 == 13) = true then some true else (if (a0 == 17) = true then some true else (if (a0 == 19) = true then some true else (if (a0 == 23) = true then some true else (if (a0 == 29) = true then some true else (if (a0 == 31) = true then some true else some false)))))))))) : Option (Bool)) = some (r0) := h
 clear h
 go_enter Try.func34, Try.ntmps34
 refine wp_hide (fun Qf hQf => ?_)
 refine wsr fun _ hK1=>?_
 refine wpp fun k h=>?_;go_simp;apply h;clear h k
 refine wln (hK1 _ _ ?_)
 refine wp_seq_k fun K2 hK2=>?_
 refine wsr fun _ hK3=>?_
 refine wpp fun k h=>?_;go_simp;apply h;clear h k
 refine wln (hK3 _ _ ?_)
 refine wp_block ?_
 refine wp_seq_k fun K4 hK4=>?_
 refine wsr fun _ hK5=>?_
 iterate 2 (refine wpp fun k h=>?_;go_simp;apply h;clear h k)
 refine wln (hK5 _ _ ?_)
 by_cases c6 : (a0 == 3) = true
 ·
  rw [if_pos c6] at H
  have c6n : (a0 != 3) = false := by rw [bne, c6]; rfl
  obtain rfl := Option.some.inj H
  try simp only [c6, c6n, Bool.not_true, Bool.not_false]
  refine wp_cond_true rfl ?_
  refine wp_skip ?_
  refine hK4 _ _ ?_
  refine wp_cond_true rfl ?_
  refine wsr fun _ hK7=>?_
  refine wpp fun k h=>?_;go_simp;apply h;clear h k
  refine wln (hK7 _ _ ?_)
  refine wp_ret ?_
  refine hQf _ _ _ ?_
  exact bpr (v := .bool true) ⟨rfl, (Up.refl _)⟩
 rw [if_neg c6] at H; replace c6 := Bool.eq_false_iff.mpr c6
 have c6n : (a0 != 3) = true := by rw [bne, c6]; rfl
 have c6p : ¬ a0 = 3 := fun e => by simp [e] at c6
 try simp only [c6, c6n, Bool.not_true, Bool.not_false]
 refine wp_cond_false rfl ?_
 refine wsr fun _ hK8=>?_
 iterate 2 (refine wpp fun k h=>?_;go_simp;apply h;clear h k)
 refine wln (hK8 _ _ ?_)
 by_cases c9 : (a0 == 5) = true
 ·
  rw [if_pos c9] at H
  have c9n : (a0 != 5) = false := by rw [bne, c9]; rfl
  obtain rfl := Option.some.inj H
  try simp only [c9, c9n, Bool.not_true, Bool.not_false]
  refine wp_cond_true rfl ?_
  refine wp_skip ?_
  refine hK4 _ _ ?_
  refine wp_cond_true rfl ?_
  refine wsr fun _ hK10=>?_
  refine wpp fun k h=>?_;go_simp;apply h;clear h k
  refine wln (hK10 _ _ ?_)
  refine wp_ret ?_
  refine hQf _ _ _ ?_
  exact bpr (v := .bool true) ⟨rfl, (Up.refl _)⟩
 rw [if_neg c9] at H; replace c9 := Bool.eq_false_iff.mpr c9
 have c9n : (a0 != 5) = true := by rw [bne, c9]; rfl
 have c9p : ¬ a0 = 5 := fun e => by simp [e] at c9
 try simp only [c9, c9n, Bool.not_true, Bool.not_false]
 refine wp_cond_false rfl ?_
 refine wsr fun _ hK11=>?_
 iterate 2 (refine wpp fun k h=>?_;go_simp;apply h;clear h k)
 refine wln (hK11 _ _ ?_)
 by_cases c12 : (a0 == 7) = true
 ·
  rw [if_pos c12] at H
  have c12n : (a0 != 7) = false := by rw [bne, c12]; rfl
  obtain rfl := Option.some.inj H
  try simp only [c12, c12n, Bool.not_true, Bool.not_false]
  refine wp_cond_true rfl ?_
  refine wp_skip ?_
  refine hK4 _ _ ?_
  refine wp_cond_true rfl ?_
  refine wsr fun _ hK13=>?_
  refine wpp fun k h=>?_;go_simp;apply h;clear h k
  refine wln (hK13 _ _ ?_)
  refine wp_ret ?_
  refine hQf _ _ _ ?_
  exact bpr (v := .bool true) ⟨rfl, (Up.refl _)⟩
 rw [if_neg c12] at H; replace c12 := Bool.eq_false_iff.mpr c12
 have c12n : (a0 != 7) = true := by rw [bne, c12]; rfl
 have c12p : ¬ a0 = 7 := fun e => by simp [e] at c12
 try simp only [c12, c12n, Bool.not_true, Bool.not_false]
 refine wp_cond_false rfl ?_
 refine wsr fun _ hK14=>?_
 iterate 2 (refine wpp fun k h=>?_;go_simp;apply h;clear h k)
 refine wln (hK14 _ _ ?_)
 by_cases c15 : (a0 == 11) = true
 ·
  rw [if_pos c15] at H
  have c15n : (a0 != 11) = false := by rw [bne, c15]; rfl
  obtain rfl := Option.some.inj H
  try simp only [c15, c15n, Bool.not_true, Bool.not_false]
  refine wp_cond_true rfl ?_
  refine wp_skip ?_
  refine hK4 _ _ ?_
  refine wp_cond_true rfl ?_
  refine wsr fun _ hK16=>?_
  refine wpp fun k h=>?_;go_simp;apply h;clear h k
  refine wln (hK16 _ _ ?_)
  refine wp_ret ?_
  refine hQf _ _ _ ?_
  exact bpr (v := .bool true) ⟨rfl, (Up.refl _)⟩
 rw [if_neg c15] at H; replace c15 := Bool.eq_false_iff.mpr c15
 have c15n : (a0 != 11) = true := by rw [bne, c15]; rfl
 have c15p : ¬ a0 = 11 := fun e => by simp [e] at c15
 try simp only [c15, c15n, Bool.not_true, Bool.not_false]
 refine wp_cond_false rfl ?_
 refine wsr fun _ hK17=>?_
 iterate 2 (refine wpp fun k h=>?_;go_simp;apply h;clear h k)
 refine wln (hK17 _ _ ?_)
 by_cases c18 : (a0 == 13) = true
 ·
  rw [if_pos c18] at H
  have c18n : (a0 != 13) = false := by rw [bne, c18]; rfl
  obtain rfl := Option.some.inj H
  try simp only [c18, c18n, Bool.not_true, Bool.not_false]
  refine wp_cond_true rfl ?_
  refine wp_skip ?_
  refine hK4 _ _ ?_
  refine wp_cond_true rfl ?_
  refine wsr fun _ hK19=>?_
  refine wpp fun k h=>?_;go_simp;apply h;clear h k
  refine wln (hK19 _ _ ?_)
  refine wp_ret ?_
  refine hQf _ _ _ ?_
  exact bpr (v := .bool true) ⟨rfl, (Up.refl _)⟩
 rw [if_neg c18] at H; replace c18 := Bool.eq_false_iff.mpr c18
 have c18n : (a0 != 13) = true := by rw [bne, c18]; rfl
 have c18p : ¬ a0 = 13 := fun e => by simp [e] at c18
 try simp only [c18, c18n, Bool.not_true, Bool.not_false]
 refine wp_cond_false rfl ?_
 refine wsr fun _ hK20=>?_
 iterate 2 (refine wpp fun k h=>?_;go_simp;apply h;clear h k)
 refine wln (hK20 _ _ ?_)
 by_cases c21 : (a0 == 17) = true
 ·
  rw [if_pos c21] at H
  have c21n : (a0 != 17) = false := by rw [bne, c21]; rfl
  obtain rfl := Option.some.inj H
  try simp only [c21, c21n, Bool.not_true, Bool.not_false]
  refine wp_cond_true rfl ?_
  refine wp_skip ?_
  refine hK4 _ _ ?_
  refine wp_cond_true rfl ?_
  refine wsr fun _ hK22=>?_
  refine wpp fun k h=>?_;go_simp;apply h;clear h k
  refine wln (hK22 _ _ ?_)
  refine wp_ret ?_
  refine hQf _ _ _ ?_
  exact bpr (v := .bool true) ⟨rfl, (Up.refl _)⟩
 rw [if_neg c21] at H; replace c21 := Bool.eq_false_iff.mpr c21
 have c21n : (a0 != 17) = true := by rw [bne, c21]; rfl
 have c21p : ¬ a0 = 17 := fun e => by simp [e] at c21
 try simp only [c21, c21n, Bool.not_true, Bool.not_false]
 refine wp_cond_false rfl ?_
 refine wsr fun _ hK23=>?_
 iterate 2 (refine wpp fun k h=>?_;go_simp;apply h;clear h k)
 refine wln (hK23 _ _ ?_)
 by_cases c24 : (a0 == 19) = true
 ·
  rw [if_pos c24] at H
  have c24n : (a0 != 19) = false := by rw [bne, c24]; rfl
  obtain rfl := Option.some.inj H
  try simp only [c24, c24n, Bool.not_true, Bool.not_false]
  refine wp_cond_true rfl ?_
  refine wp_skip ?_
  refine hK4 _ _ ?_
  refine wp_cond_true rfl ?_
  refine wsr fun _ hK25=>?_
  refine wpp fun k h=>?_;go_simp;apply h;clear h k
  refine wln (hK25 _ _ ?_)
  refine wp_ret ?_
  refine hQf _ _ _ ?_
  exact bpr (v := .bool true) ⟨rfl, (Up.refl _)⟩
 rw [if_neg c24] at H; replace c24 := Bool.eq_false_iff.mpr c24
 have c24n : (a0 != 19) = true := by rw [bne, c24]; rfl
 have c24p : ¬ a0 = 19 := fun e => by simp [e] at c24
 try simp only [c24, c24n, Bool.not_true, Bool.not_false]
 refine wp_cond_false rfl ?_
 refine wsr fun _ hK26=>?_
 iterate 2 (refine wpp fun k h=>?_;go_simp;apply h;clear h k)
 refine wln (hK26 _ _ ?_)
 by_cases c27 : (a0 == 23) = true
 ·
  rw [if_pos c27] at H
  have c27n : (a0 != 23) = false := by rw [bne, c27]; rfl
  obtain rfl := Option.some.inj H
  try simp only [c27, c27n, Bool.not_true, Bool.not_false]
  refine wp_cond_true rfl ?_
  refine wp_skip ?_
  refine hK4 _ _ ?_
  refine wp_cond_true rfl ?_
  refine wsr fun _ hK28=>?_
  refine wpp fun k h=>?_;go_simp;apply h;clear h k
  refine wln (hK28 _ _ ?_)
  refine wp_ret ?_
  refine hQf _ _ _ ?_
  exact bpr (v := .bool true) ⟨rfl, (Up.refl _)⟩
 rw [if_neg c27] at H; replace c27 := Bool.eq_false_iff.mpr c27
 have c27n : (a0 != 23) = true := by rw [bne, c27]; rfl
 have c27p : ¬ a0 = 23 := fun e => by simp [e] at c27
 try simp only [c27, c27n, Bool.not_true, Bool.not_false]
 refine wp_cond_false rfl ?_
 refine wsr fun _ hK29=>?_
 iterate 2 (refine wpp fun k h=>?_;go_simp;apply h;clear h k)
 refine wln (hK29 _ _ ?_)
 by_cases c30 : (a0 == 29) = true
 ·
  rw [if_pos c30] at H
  have c30n : (a0 != 29) = false := by rw [bne, c30]; rfl
  obtain rfl := Option.some.inj H
  try simp only [c30, c30n, Bool.not_true, Bool.not_false]
  refine wp_cond_true rfl ?_
  refine wp_skip ?_
  refine hK4 _ _ ?_
  refine wp_cond_true rfl ?_
  refine wsr fun _ hK31=>?_
  refine wpp fun k h=>?_;go_simp;apply h;clear h k
  refine wln (hK31 _ _ ?_)
  refine wp_ret ?_
  refine hQf _ _ _ ?_
  exact bpr (v := .bool true) ⟨rfl, (Up.refl _)⟩
 rw [if_neg c30] at H; replace c30 := Bool.eq_false_iff.mpr c30
 have c30n : (a0 != 29) = true := by rw [bne, c30]; rfl
 have c30p : ¬ a0 = 29 := fun e => by simp [e] at c30
 try simp only [c30, c30n, Bool.not_true, Bool.not_false]
 refine wp_cond_false rfl ?_
 refine wp_region_lit ?_
 iterate 2 (refine wpp fun k h=>?_;go_simp;apply h;clear h k)
 refine wln (hK4 _ _ ?_)
 by_cases c32 : (a0 == 31) = true
 ·
  rw [if_pos c32] at H
  have c32n : (a0 != 31) = false := by rw [bne, c32]; rfl
  obtain rfl := Option.some.inj H
  try simp only [c32, c32n, Bool.not_true, Bool.not_false]
  refine wp_cond_true rfl ?_
  refine wsr fun _ hK33=>?_
  refine wpp fun k h=>?_;go_simp;apply h;clear h k
  refine wln (hK33 _ _ ?_)
  refine wp_ret ?_
  refine hQf _ _ _ ?_
  exact bpr (v := .bool true) ⟨rfl, (Up.refl _)⟩
 rw [if_neg c32] at H; replace c32 := Bool.eq_false_iff.mpr c32
 have c32n : (a0 != 31) = true := by rw [bne, c32]; rfl
 have c32p : ¬ a0 = 31 := fun e => by simp [e] at c32
 obtain rfl := Option.some.inj H
 try simp only [c32, c32n, Bool.not_true, Bool.not_false]
 refine wp_cond_false rfl ?_
 refine wp_skip ?_
 refine hK2 _ _ ?_
 refine wsr fun _ hK34=>?_
 refine wpp fun k h=>?_;go_simp;apply h;clear h k
 refine wln (hK34 _ _ ?_)
 refine wp_ret ?_
 refine hQf _ _ _ ?_
 exact bpr (v := .bool false) ⟨rfl, (Up.refl _)⟩

set_option maxHeartbeats 40000000 in
set_option maxRecDepth 100000 in
theorem impl_isColour.calls (K : Nat) (a0 : Int) (r0 : Bool) (w : World)  (h : impl_isColour.f K a0 = some (r0)) :
    Calls Try.prog 18 #[.int .i64 a0] w fun e w' => e = .returned (.bool r0) ∧ Up w w' := by
 have H : ((if decide (0 ≤ a0) = true then some (decide (a0 ≤ 2)) else some false) : Option (Bool)) = some (r0) := h
 clear h
 go_enter Try.func18, Try.ntmps18
 refine wp_hide (fun Qf hQf => ?_)
 refine wsr fun _ hK1=>?_
 refine wpp fun k h=>?_;go_simp;apply h;clear h k
 refine wln (hK1 _ _ ?_)
 refine wsr fun _ hK2=>?_
 iterate 3 (refine wpp fun k h=>?_;go_simp;apply h;clear h k)
 by_cases c3 : (decide (0 ≤ a0)) = true
 ·
  rw [if_pos c3] at H
  obtain rfl := Option.some.inj H
  try simp only [c3, Bool.not_true, Bool.not_false]
  refine wpList_step fun k h=>?_;go_simp;apply h;clear h k
  refine wpList_step fun k h=>?_;go_simp;apply h;clear h k
  iterate 2 (refine wpp fun k h=>?_;go_simp;apply h;clear h k)
  refine wln (hK2 _ _ ?_)
  refine wp_ret ?_
  refine hQf _ _ _ ?_
  exact bpr (v := .bool (decide (a0 ≤ 2))) ⟨rfl, (Up.refl _)⟩
 rw [if_neg c3] at H; replace c3 := Bool.eq_false_iff.mpr c3
 obtain rfl := Option.some.inj H
 try simp only [c3, Bool.not_true, Bool.not_false]
 refine step_no rfl ?_
 simp only[nm]
 refine step_no rfl ?_
 simp only[nm]
 iterate 2 (refine wpp fun k h=>?_;go_simp;apply h;clear h k)
 refine wln (hK2 _ _ ?_)
 refine wp_ret ?_
 refine hQf _ _ _ ?_
 exact bpr (v := .bool false) ⟨rfl, (Up.refl _)⟩

set_option maxHeartbeats 40000000 in
set_option maxRecDepth 100000 in
theorem impl_isNumber.calls (K : Nat) (a0 : Int) (a1 : Int) (r0 : Bool) (w : World)  (h : impl_isNumber.f K a0 a1 = some (r0)) :
    Calls Try.prog 35 #[.int .i64 a0, .int .i64 a1] w fun e w' => e = .returned (.bool r0) ∧ Up w w' := by
 have H : ((if decide (0 ≤ a1) = true then some (decide (a1 < a0)) else some false) : Option (Bool)) = some (r0) := h
 clear h
 go_enter Try.func35, Try.ntmps35
 refine wp_hide (fun Qf hQf => ?_)
 refine wsr fun _ hK1=>?_
 refine wpp fun k h=>?_;go_simp;apply h;clear h k
 refine wln (hK1 _ _ ?_)
 refine wsr fun _ hK2=>?_
 iterate 3 (refine wpp fun k h=>?_;go_simp;apply h;clear h k)
 by_cases c3 : (decide (0 ≤ a1)) = true
 ·
  rw [if_pos c3] at H
  obtain rfl := Option.some.inj H
  try simp only [c3, Bool.not_true, Bool.not_false]
  refine wpList_step fun k h=>?_;go_simp;apply h;clear h k
  refine wpList_step fun k h=>?_;go_simp;apply h;clear h k
  refine wpList_step fun k h=>?_;go_simp;apply h;clear h k
  iterate 2 (refine wpp fun k h=>?_;go_simp;apply h;clear h k)
  refine wln (hK2 _ _ ?_)
  refine wp_ret ?_
  refine hQf _ _ _ ?_
  exact bpr (v := .bool (decide (a1 < a0))) ⟨rfl, (Up.refl _)⟩
 rw [if_neg c3] at H; replace c3 := Bool.eq_false_iff.mpr c3
 obtain rfl := Option.some.inj H
 try simp only [c3, Bool.not_true, Bool.not_false]
 refine step_no rfl ?_
 simp only[nm]
 refine step_no rfl ?_
 simp only[nm]
 refine step_no rfl ?_
 simp only[nm]
 iterate 2 (refine wpp fun k h=>?_;go_simp;apply h;clear h k)
 refine wln (hK2 _ _ ?_)
 refine wp_ret ?_
 refine hQf _ _ _ ?_
 exact bpr (v := .bool false) ⟨rfl, (Up.refl _)⟩

set_option maxHeartbeats 40000000 in
set_option maxRecDepth 100000 in
theorem impl_areNumbers.calls (K : Nat) (a0 : Int) (a1_A : Option Addr) (a1_c : Nat) (a1 : List (Int)) (r0 : Bool) (w : World) (ha1 : Rd eI w a1_A a1) (h : impl_areNumbers.f K a0 a1 = some (r0)) :
    Calls Try.prog 36 #[.int .i64 a0, .slice a1_A a1.length a1_c] w fun e w' => e = .returned (.bool r0) ∧ Up w w' := by
 have H : ((impl_areNumbers.l0 K a0 a1 K 0) : Option (Bool)) = some (r0) := h
 clear h
 go_enter Try.func36, Try.ntmps36
 refine wp_hide (fun Qf hQf => ?_)
 refine wsr fun _ hK1=>?_
 refine wpp fun k h=>?_;go_simp;apply h;clear h k
 refine wln (hK1 _ _ ?_)
 refine wp_seq_k fun K2 hK2=>?_
 refine wsr fun _ hK3=>?_
 iterate 3 (refine wpp fun k h=>?_;go_simp;apply h;clear h k)
 refine wln (hK3 _ _ ?_)
 refine wp_block ?_
 have HL8 := Aside0.mk H
 clear H
 go_loopg [9] K (fun kq v9 w' => ∃ (x4 : Int), v9 = .int .i64 x4 ∧ Aside0 (impl_areNumbers.l0 K a0 a1 kq x4 = some (r0)) ∧ Aside0 (kq ≤ K) ∧ Aside0 (Up w w') ∧ Aside0 (w.heap.size ≤ w'.heap.size))
 case atStart => exact ⟨0, (by first | rfl | simp), HL8, ⟨Nat.le_refl _⟩, ⟨(Up.refl _)⟩, ⟨Nat.le_refl _⟩⟩
 case round =>
  rename_i J11 K12 hJ11 hK12
  obtain ⟨x4, rfl, HL13, hk10, hu6, hz7⟩ := hrel
  obtain ⟨w5, rfl⟩ : ∃ wo : World, wo = wr := ⟨_, rfl⟩
  obtain ⟨k9, rfl⟩ | rfl : (∃ k, gk = k + 1) ∨ gk = 0 := by rcases gk with _ | k; exact .inr rfl; exact .inl ⟨k, rfl⟩
  case inr => exact absurd HL13.out (by simp [impl_areNumbers.l0])
  have H := HL13.out
  clear HL13
  rw [impl_areNumbers.l0] at H
  refine wsr fun _ hK14=>?_
  refine wpp fun k h=>?_;go_simp;apply h;clear h k
  refine wln (hK14 _ _ ?_)
  refine wp_seq_k fun K15 hK15=>?_
  by_cases c16 : (decide (x4 < (a1.length : Int))) = true
  rotate_left
  ·
   rw [if_neg c16] at H; replace c16 := Bool.eq_false_iff.mpr c16
   obtain rfl := Option.some.inj H
   try simp only [c16, Bool.not_true, Bool.not_false]
   refine wp_cond_false rfl ?_
   refine wp_exit ?_
   refine hK2 _ _ ?_
   refine wsr fun _ hK32=>?_
   refine wpp fun k h=>?_;go_simp;apply h;clear h k
   refine wln (hK32 _ _ ?_)
   refine wp_ret ?_
   refine hQf _ _ _ ?_
   exact bpr (v := .bool true) ⟨rfl, hu6.out⟩
  rw [if_pos c16] at H
  obtain ⟨t19,A20,H⟩:=bnd H;try dsimp only at H
  obtain ⟨t25,A26,H⟩:=bnd H;try dsimp only at H
  try simp only [c16, Bool.not_true, Bool.not_false]
  refine wp_cond_true rfl ?_
  refine wp_skip ?_
  refine hK15 _ _ ?_
  refine wp_seq_k fun K17 hK17=>?_
  refine wp_block ?_
  refine wsr fun _ hK18=>?_
  refine step_index eI (T := 2) wn rfl (by kernel_rfl) (by kernel_rfl) rfl rfl rfl (ha1.up hu6.out) A20.out ?_
  intro ad21 hat he
  have he22 := Aside0.mk he
  have hat23 := Aside0.mk hat
  clear he hat
  simp only[nm]
  have cl0 := he22.out 0 _ rfl
  rw [addr_add0] at cl0
  refine wpp fun k h=>?_;go_simp;apply h;clear h k
  clear cl0
  refine wpp fun k h=>?_;go_simp;apply h;clear h k
  refine wln (hK18 _ _ ?_)
  refine wsr fun _ hK24=>?_
  iterate 2 (refine wpp fun k h=>?_;go_simp;apply h;clear h k)
  refine stc (impl_isNumber.calls K a0 t19 t25 w5  A26.out) ?_
  intro w27 hu28
  simp only[nm]
  refine wpp fun k h=>?_;go_simp;apply h;clear h k
  refine wln (hK24 _ _ ?_)
  by_cases c29 : (t25) = true
  rotate_left
  ·
   rw [if_neg c29] at H; replace c29 := Bool.eq_false_iff.mpr c29
   subst c29
   obtain rfl := Option.some.inj H
   refine wp_cond_true rfl ?_
   refine wsr fun _ hK31=>?_
   refine wpp fun k h=>?_;go_simp;apply h;clear h k
   refine wln (hK31 _ _ ?_)
   refine wp_ret ?_
   refine hQf _ _ _ ?_
   exact bpr (v := .bool false) ⟨rfl, (hu6.out.trans hu28.out)⟩
  rw [if_pos c29] at H
  subst c29
  have HL30 := Aside0.mk H
  clear H
  refine wp_cond_false rfl ?_
  refine wp_skip ?_
  refine hK17 _ _ ?_
  refine wp_region_lit ?_
  iterate 2 (refine wpp fun k h=>?_;go_simp;apply h;clear h k)
  refine wln (hK12 _ _ ?_)
  go_roundg k9
  case measure => exact Nat.lt_succ_self _
  case rel => exact ⟨wrap64 (x4 + 1), (by first | rfl | simp), HL30, ⟨by have := hk10.out; omega⟩, ⟨(hu6.out.trans hu28.out)⟩, ⟨(Nat.le_trans ((Nat.le_trans (Nat.le_refl _) hz7.out)) hu28.out.size)⟩⟩

set_option maxHeartbeats 40000000 in
set_option maxRecDepth 100000 in
theorem impl_isPoint.calls (K : Nat) (a0 : Int) (a1_0 : Int) (a1_1 : Int) (r0 : Bool) (w : World)  (h : impl_isPoint.f K a0 a1_0 a1_1 = some (r0)) :
    Calls Try.prog 20 #[.int .i64 a0, .agg #[.int .i64 a1_0, .int .i64 a1_1]] w fun e w' => e = .returned (.bool r0) ∧ Up w w' := by
 have H : (((impl_areNumbers.f K a0 ([a1_0, a1_1])).bind fun t6 => some t6) : Option (Bool)) = some (r0) := h
 clear h
 obtain ⟨t6,A7,H⟩:=bnd H;try dsimp only at H
 obtain rfl := Option.some.inj H
 go_enter Try.func20, Try.ntmps20
 refine wp_hide (fun Qf hQf => ?_)
 refine wsr fun _ hK1=>?_
 refine stp (cs := [.int .i64 a1_0, .int .i64 a1_1]) (T := 28) ?_
 intro b2 w3 hu4 lbb2 ltb2 hb2
 simp only[nm]
 refine wpp fun k h=>?_;go_simp;apply h;clear h k
 refine wln (hK1 _ _ ?_)
 refine wsr fun _ hK5=>?_
 iterate 2 (refine wpp fun k h=>?_;go_simp;apply h;clear h k)
 refine stc (impl_areNumbers.calls K a0 (some ⟨b2, 0, none⟩) 2 ([a1_0, a1_1]) t6 w3 (Rd.of_blk (E := eI) (xs := [a1_0, a1_1]) (o := 0) hb2 (by simp) (fun j u hu => by rcases j with _ | _ | j <;> simp_all [Enc.flat, eI])) A7.out) ?_
 intro w8 hu9
 simp only[nm]
 refine wpp fun k h=>?_;go_simp;apply h;clear h k
 refine wln (hK5 _ _ ?_)
 refine wp_ret ?_
 refine hQf _ _ _ ?_
 exact bpr (v := .bool t6) ⟨rfl, (hu4.out.trans hu9.out)⟩

set_option maxHeartbeats 40000000 in
set_option maxRecDepth 100000 in
theorem impl_isCircle.calls (K : Nat) (a0 : Int) (a1_0 : Int) (a1_1 : Int) (a1_2 : Int) (r0 : Bool) (w : World)  (h : impl_isCircle.f K a0 a1_0 a1_1 a1_2 = some (r0)) :
    Calls Try.prog 19 #[.int .i64 a0, .agg #[.int .i64 a1_0, .int .i64 a1_1, .int .i64 a1_2]] w fun e w' => e = .returned (.bool r0) ∧ Up w w' := by
 have H : (((impl_isPoint.f K a0 a1_0 a1_1).bind fun t6 => (if t6 = true then ((impl_isNumber.f K a0 a1_2).bind fun t11 => some t11) else some false)) : Option (Bool)) = some (r0) := h
 clear h
 obtain ⟨t6,A7,H⟩:=bnd H;try dsimp only at H
 go_enter Try.func19, Try.ntmps19
 refine wp_hide (fun Qf hQf => ?_)
 refine wsr fun _ hK1=>?_
 refine stp (cs := [.int .i64 a1_0, .int .i64 a1_1, .int .i64 a1_2]) (T := 30) ?_
 intro b2 w3 hu4 lbb2 ltb2 hb2
 simp only[nm]
 refine wpp fun k h=>?_;go_simp;apply h;clear h k
 refine wln (hK1 _ _ ?_)
 refine wsr fun _ hK5=>?_
 iterate 2 (refine wpp fun k h=>?_;go_simp;apply h;clear h k)
 have cl0 := hb2.cell (o := 0) rfl
 have cl1 := hb2.cell (o := 1) rfl
 refine wpp fun k h=>?_;go_simp;apply h;clear h k
 clear cl0 cl1
 refine stc (impl_isPoint.calls K a0 a1_0 a1_1 t6 w3  A7.out) ?_
 intro w8 hu9
 simp only[nm]
 refine wpp fun k h=>?_;go_simp;apply h;clear h k
 by_cases c10 : (t6) = true
 rotate_left
 ·
  rw [if_neg c10] at H; replace c10 := Bool.eq_false_iff.mpr c10
  subst c10
  obtain rfl := Option.some.inj H
  refine step_no rfl ?_
  simp only[nm]
  refine step_no rfl ?_
  simp only[nm]
  refine step_no rfl ?_
  simp only[nm]
  refine step_no rfl ?_
  simp only[nm]
  iterate 2 (refine wpp fun k h=>?_;go_simp;apply h;clear h k)
  refine wln (hK5 _ _ ?_)
  refine wp_ret ?_
  refine hQf _ _ _ ?_
  exact bpr (v := .bool false) ⟨rfl, (hu4.out.trans hu9.out)⟩
 rw [if_pos c10] at H
 subst c10
 obtain ⟨t11,A12,H⟩:=bnd H;try dsimp only at H
 obtain rfl := Option.some.inj H
 refine wpList_step fun k h=>?_;go_simp;apply h;clear h k
 refine wpList_step fun k h=>?_;go_simp;apply h;clear h k
 have cl0 := (hb2.up hu9.out).cell (o := 2) rfl
 refine wpList_step fun k h=>?_;go_simp;apply h;clear h k
 clear cl0
 refine step_call rfl (by go_simp <;> rfl) (impl_isNumber.calls K a0 a1_2 t11 w8  A12.out) ?_
 rintro e w13 ⟨rfl, hu⟩
 have hu14 := Aside0.mk hu
 clear hu
 refine ⟨_, rfl, ?_⟩
 simp only[nm]
 iterate 2 (refine wpp fun k h=>?_;go_simp;apply h;clear h k)
 refine wln (hK5 _ _ ?_)
 refine wp_ret ?_
 refine hQf _ _ _ ?_
 exact bpr (v := .bool t11) ⟨rfl, ((hu4.out.trans hu9.out).trans hu14.out)⟩

set_option maxHeartbeats 40000000 in
set_option maxRecDepth 100000 in
theorem impl_TangentsFrom_1.calls (K : Nat) (bf0 : Nat) (f0_0 : Int) (bf1 : Nat) (f1_0 : Int) (bf2 : Nat) (f2_0 : Int) (f2_1 : Int) (f2_2 : Int) (bf3 : Nat) (f3_0 : Int) (f3_1 : Int) (r0 : Bool) (w : World) (hf0 : Blk w bf0 [.int .i64 f0_0] 2) (hf1 : Blk w bf1 [.int .i64 f1_0] 2) (hf2 : Blk w bf2 [.int .i64 f2_0, .int .i64 f2_1, .int .i64 f2_2] 30) (hf3 : Blk w bf3 [.int .i64 f3_0, .int .i64 f3_1] 28) (h : impl_TangentsFrom_1.f K f0_0 f1_0 f2_0 f2_1 f2_2 f3_0 f3_1 = some (r0)) :
    Calls Try.prog 17 #[.pointer (some ⟨bf0, 0, none⟩), .pointer (some ⟨bf1, 0, none⟩), .pointer (some ⟨bf2, 0, none⟩), .pointer (some ⟨bf3, 0, none⟩)] w fun e w' => e = .returned (.bool r0) ∧ Up w w' := by
 have H : (((impl_isColour.f K f0_0).bind fun t3 => (if t3 = true then ((impl_isCircle.f K f1_0 f2_0 f2_1 f2_2).bind fun t8 => (if t8 = true then ((impl_isPoint.f K f1_0 f3_0 f3_1).bind fun t13 => some t13) else some false)) else some false)) : Option (Bool)) = some (r0) := h
 clear h
 obtain ⟨t3,A4,H⟩:=bnd H;try dsimp only at H
 have ltbf0 := Aside0.mk hf0.lt
 have ltbf1 := Aside0.mk hf1.lt
 have ltbf2 := Aside0.mk hf2.lt
 have ltbf3 := Aside0.mk hf3.lt
 go_enter Try.func17, Try.ntmps17
 refine wp_hide (fun Qf hQf => ?_)
 refine wsr fun _ hK1=>?_
 refine wpp fun k h=>?_;go_simp;apply h;clear h k
 refine wln (hK1 _ _ ?_)
 refine wsr fun _ hK2=>?_
 have cl0 := hf0.cell (o := 0) rfl
 refine wpp fun k h=>?_;go_simp;apply h;clear h k
 clear cl0
 refine stc (impl_isColour.calls K f0_0 t3 w  A4.out) ?_
 intro w5 hu6
 simp only[nm]
 refine wpp fun k h=>?_;go_simp;apply h;clear h k
 by_cases c7 : (t3) = true
 rotate_left
 ·
  rw [if_neg c7] at H; replace c7 := Bool.eq_false_iff.mpr c7
  subst c7
  obtain rfl := Option.some.inj H
  refine step_no rfl ?_
  simp only[nm]
  refine step_no rfl ?_
  simp only[nm]
  refine step_no rfl ?_
  simp only[nm]
  iterate 2 (refine wpp fun k h=>?_;go_simp;apply h;clear h k)
  refine step_no rfl ?_
  simp only[nm]
  refine step_no rfl ?_
  simp only[nm]
  refine step_no rfl ?_
  simp only[nm]
  iterate 2 (refine wpp fun k h=>?_;go_simp;apply h;clear h k)
  refine wln (hK2 _ _ ?_)
  refine wp_ret ?_
  refine hQf _ _ _ ?_
  exact bpr (v := .bool false) ⟨rfl, hu6.out⟩
 rw [if_pos c7] at H
 subst c7
 obtain ⟨t8,A9,H⟩:=bnd H;try dsimp only at H
 have cl0 := (hf1.up hu6.out).cell (o := 0) rfl
 refine wpList_step fun k h=>?_;go_simp;apply h;clear h k
 clear cl0
 have cl0 := (hf2.up hu6.out).cell (o := 0) rfl
 have cl1 := (hf2.up hu6.out).cell (o := 1) rfl
 have cl2 := (hf2.up hu6.out).cell (o := 2) rfl
 refine wpList_step fun k h=>?_;go_simp;apply h;clear h k
 clear cl0 cl1 cl2
 refine step_call rfl (by go_simp <;> rfl) (impl_isCircle.calls K f1_0 f2_0 f2_1 f2_2 t8 w5  A9.out) ?_
 rintro e w10 ⟨rfl, hu⟩
 have hu11 := Aside0.mk hu
 clear hu
 refine ⟨_, rfl, ?_⟩
 simp only[nm]
 iterate 2 (refine wpp fun k h=>?_;go_simp;apply h;clear h k)
 by_cases c12 : (t8) = true
 rotate_left
 ·
  rw [if_neg c12] at H; replace c12 := Bool.eq_false_iff.mpr c12
  subst c12
  obtain rfl := Option.some.inj H
  refine step_no rfl ?_
  simp only[nm]
  refine step_no rfl ?_
  simp only[nm]
  refine step_no rfl ?_
  simp only[nm]
  iterate 2 (refine wpp fun k h=>?_;go_simp;apply h;clear h k)
  refine wln (hK2 _ _ ?_)
  refine wp_ret ?_
  refine hQf _ _ _ ?_
  exact bpr (v := .bool false) ⟨rfl, (hu6.out.trans hu11.out)⟩
 rw [if_pos c12] at H
 subst c12
 obtain ⟨t13,A14,H⟩:=bnd H;try dsimp only at H
 obtain rfl := Option.some.inj H
 have cl0 := (hf1.up (hu6.out.trans hu11.out)).cell (o := 0) rfl
 refine wpList_step fun k h=>?_;go_simp;apply h;clear h k
 clear cl0
 have cl0 := (hf3.up (hu6.out.trans hu11.out)).cell (o := 0) rfl
 have cl1 := (hf3.up (hu6.out.trans hu11.out)).cell (o := 1) rfl
 refine wpList_step fun k h=>?_;go_simp;apply h;clear h k
 clear cl0 cl1
 refine step_call rfl (by go_simp <;> rfl) (impl_isPoint.calls K f1_0 f3_0 f3_1 t13 w10  A14.out) ?_
 rintro e w15 ⟨rfl, hu⟩
 have hu16 := Aside0.mk hu
 clear hu
 refine ⟨_, rfl, ?_⟩
 simp only[nm]
 iterate 2 (refine wpp fun k h=>?_;go_simp;apply h;clear h k)
 refine wln (hK2 _ _ ?_)
 refine wp_ret ?_
 refine hQf _ _ _ ?_
 exact bpr (v := .bool t13) ⟨rfl, ((hu6.out.trans hu11.out).trans hu16.out)⟩

set_option maxHeartbeats 40000000 in
set_option maxRecDepth 100000 in
theorem impl_asked__impl_TangentsFrom_1.calls (K : Nat) (a0 : Int) (bc1_0 : Nat) (c1_0_0 : Int) (bc1_1 : Nat) (c1_1_0 : Int) (bc1_2 : Nat) (c1_2_0 : Int) (c1_2_1 : Int) (c1_2_2 : Int) (bc1_3 : Nat) (c1_3_0 : Int) (c1_3_1 : Int) (r0 : Int) (w : World) (hc1_0 : Blk w bc1_0 [.int .i64 c1_0_0] 2) (hc1_1 : Blk w bc1_1 [.int .i64 c1_1_0] 2) (hc1_2 : Blk w bc1_2 [.int .i64 c1_2_0, .int .i64 c1_2_1, .int .i64 c1_2_2] 30) (hc1_3 : Blk w bc1_3 [.int .i64 c1_3_0, .int .i64 c1_3_1] 28) (h : impl_asked__impl_TangentsFrom_1.f K a0 c1_0_0 c1_1_0 c1_2_0 c1_2_1 c1_2_2 c1_3_0 c1_3_1 = some (r0)) :
    Calls Try.prog 16 #[.int .i64 a0, .func (.func 17) #[] #[.pointer (some ⟨bc1_0, 0, none⟩), .pointer (some ⟨bc1_1, 0, none⟩), .pointer (some ⟨bc1_2, 0, none⟩), .pointer (some ⟨bc1_3, 0, none⟩)]] w fun e w' => e = .returned (.int .i64 r0) ∧ Up w w' := by
 have H : (((impl_IsField.f K a0).bind fun t4 => (if t4 = true then ((impl_TangentsFrom_1.f K c1_0_0 c1_1_0 c1_2_0 c1_2_1 c1_2_2 c1_3_0 c1_3_1).bind fun t11 => (if t11 = true then some 0 else some 2)) else some 1)) : Option (Int)) = some (r0) := h
 clear h
 obtain ⟨t4,A5,H⟩:=bnd H;try dsimp only at H
 have ltbc1_0 := Aside0.mk hc1_0.lt
 have ltbc1_1 := Aside0.mk hc1_1.lt
 have ltbc1_2 := Aside0.mk hc1_2.lt
 have ltbc1_3 := Aside0.mk hc1_3.lt
 go_enter Try.func16, Try.ntmps16
 refine wp_hide (fun Qf hQf => ?_)
 refine wsr fun _ hK1=>?_
 refine wpp fun k h=>?_;go_simp;apply h;clear h k
 refine wln (hK1 _ _ ?_)
 refine wp_seq_k fun K2 hK2=>?_
 refine wsr fun _ hK3=>?_
 refine wpp fun k h=>?_;go_simp;apply h;clear h k
 refine stc (impl_IsField.calls K a0 t4 w  A5.out) ?_
 intro w6 hu7
 simp only[nm]
 refine wpp fun k h=>?_;go_simp;apply h;clear h k
 refine wln (hK3 _ _ ?_)
 by_cases c8 : (t4) = true
 rotate_left
 ·
  rw [if_neg c8] at H; replace c8 := Bool.eq_false_iff.mpr c8
  subst c8
  obtain rfl := Option.some.inj H
  refine wp_cond_true rfl ?_
  refine wsr fun _ hK18=>?_
  refine wpp fun k h=>?_;go_simp;apply h;clear h k
  refine wln (hK18 _ _ ?_)
  refine wp_ret ?_
  refine hQf _ _ _ ?_
  exact bpr (v := .int .i64 1) ⟨rfl, hu7.out⟩
 rw [if_pos c8] at H
 subst c8
 obtain ⟨t11,A12,H⟩:=bnd H;try dsimp only at H
 refine wp_cond_false rfl ?_
 refine wp_skip ?_
 refine hK2 _ _ ?_
 refine wp_seq_k fun K9 hK9=>?_
 refine wsr fun _ hK10=>?_
 refine wpp fun k h=>?_;go_simp;apply h;clear h k
 refine stc (impl_TangentsFrom_1.calls K bc1_0 c1_0_0 bc1_1 c1_1_0 bc1_2 c1_2_0 c1_2_1 c1_2_2 bc1_3 c1_3_0 c1_3_1 t11 w6 (hc1_0.up hu7.out) (hc1_1.up hu7.out) (hc1_2.up hu7.out) (hc1_3.up hu7.out) A12.out) ?_
 intro w13 hu14
 simp only[nm]
 refine wpp fun k h=>?_;go_simp;apply h;clear h k
 refine wln (hK10 _ _ ?_)
 by_cases c15 : (t11) = true
 rotate_left
 ·
  rw [if_neg c15] at H; replace c15 := Bool.eq_false_iff.mpr c15
  subst c15
  obtain rfl := Option.some.inj H
  refine wp_cond_true rfl ?_
  refine wsr fun _ hK17=>?_
  refine wpp fun k h=>?_;go_simp;apply h;clear h k
  refine wln (hK17 _ _ ?_)
  refine wp_ret ?_
  refine hQf _ _ _ ?_
  exact bpr (v := .int .i64 2) ⟨rfl, (hu7.out.trans hu14.out)⟩
 rw [if_pos c15] at H
 subst c15
 obtain rfl := Option.some.inj H
 refine wp_cond_false rfl ?_
 refine wp_skip ?_
 refine hK9 _ _ ?_
 refine wsr fun _ hK16=>?_
 refine wpp fun k h=>?_;go_simp;apply h;clear h k
 refine wln (hK16 _ _ ?_)
 refine wp_ret ?_
 refine hQf _ _ _ ?_
 exact bpr (v := .int .i64 0) ⟨rfl, (hu7.out.trans hu14.out)⟩

set_option maxHeartbeats 40000000 in
set_option maxRecDepth 100000 in
theorem impl_allPoints.calls (K : Nat) (a0 : Int) (r0 : List (Int × Int)) (w : World)  (h : impl_allPoints.f K a0 = some (r0)) :
    Calls Try.prog 54 #[.int .i64 a0] w fun e w' => ∃ (Ar0 : Option Addr) (cr0 : Nat), e = .returned (.slice Ar0 r0.length cr0) ∧ Own e2 28 w' w.heap.size (.slice Ar0 r0.length cr0) r0 ∧ Up w w' := by
 have H : ((impl_allPoints.l0 K a0 K 0 ([] : List (Int × Int))) : Option (List (Int × Int))) = some (r0) := h
 clear h
 go_enter Try.func54, Try.ntmps54
 refine wp_hide (fun Qf hQf => ?_)
 refine wsr fun _ hK1=>?_
 refine wpp fun k h=>?_;go_simp;apply h;clear h k
 refine wln (hK1 _ _ ?_)
 refine wsr fun _ hK2=>?_
 refine step_new (cs := []) (T := 28) (f := fun b => .slice (some ⟨b, 0, none⟩) 0 0) rfl (by go_simp <;> rfl) ?_
 intro b3 w4 hu lb hb3
 simp only[nm]
 have lbb3 := Aside0.mk lb
 clear lb
 have hu5 := Aside0.mk hu
 clear hu
 refine wpp fun k h=>?_;go_simp;apply h;clear h k
 refine wln (hK2 _ _ ?_)
 refine wp_seq_k fun K6 hK6=>?_
 refine wsr fun _ hK7=>?_
 refine wpp fun k h=>?_;go_simp;apply h;clear h k
 refine wln (hK7 _ _ ?_)
 refine wp_block ?_
 have h9 : Own e2 28 w4 w.heap.size (.slice (some ⟨b3, 0, none⟩) ([].length) 0) [] := Own.of_blk hb3 lbb3.out rfl (by simp) (by simp [Enc.flat, e2])
 have HL17 := Aside0.mk H
 clear H
 go_loopg [4, 3] K (fun kq v4 v3 w' => ∃ (x10 : Int) (x11 : List (Int × Int)) (P12 : Option Addr) (q13 : Nat), v4 = .int .i64 x10 ∧ v3 = .slice P12 x11.length q13 ∧ Aside0 (impl_allPoints.l0 K a0 kq x10 x11 = some (r0)) ∧ Aside0 (kq ≤ K) ∧ Aside0 (Up w w') ∧ Aside0 (w4.heap.size ≤ w'.heap.size) ∧ Own e2 28 w' w.heap.size (.slice P12 x11.length q13) x11)
 case atStart => exact ⟨0, ([] : List (Int × Int)), some ⟨b3, 0, none⟩, 0, (by first | rfl | simp), (by first | rfl | simp), HL17, ⟨Nat.le_refl _⟩, ⟨hu5.out⟩, ⟨Nat.le_refl _⟩, h9⟩
 case round =>
  rename_i J21 K22 hJ21 hK22
  obtain ⟨x10, x11, P12, q13, rfl, rfl, HL23, hk20, hu15, hz16, h18⟩ := hrel
  obtain ⟨w14, rfl⟩ : ∃ wo : World, wo = wr := ⟨_, rfl⟩
  obtain ⟨k19, rfl⟩ | rfl : (∃ k, gk = k + 1) ∨ gk = 0 := by rcases gk with _ | k; exact .inr rfl; exact .inl ⟨k, rfl⟩
  case inr => exact absurd HL23.out (by simp [impl_allPoints.l0])
  have H := HL23.out
  clear HL23
  rw [impl_allPoints.l0] at H
  refine wp_seq_k fun K24 hK24=>?_
  refine wsr fun _ hK25=>?_
  iterate 3 (refine wpp fun k h=>?_;go_simp;apply h;clear h k)
  refine wln (hK25 _ _ ?_)
  by_cases c26 : (decide (x10 < a0)) = true
  rotate_left
  ·
   rw [if_neg c26] at H; replace c26 := Bool.eq_false_iff.mpr c26
   obtain rfl := Option.some.inj H
   try simp only [c26, Bool.not_true, Bool.not_false]
   refine wp_cond_false rfl ?_
   refine wp_exit ?_
   refine hK6 _ _ ?_
   refine wsr fun _ hK63=>?_
   iterate 2 (refine wpp fun k h=>?_;go_simp;apply h;clear h k)
   refine wln (hK63 _ _ ?_)
   refine wp_ret ?_
   refine hQf _ _ _ ?_
   exact bpr (v := .slice P12 x11.length q13) ⟨P12, q13, rfl, (h18.lower (Nat.le_refl _)), hu15.out⟩
  rw [if_pos c26] at H
  try simp only [c26, Bool.not_true, Bool.not_false]
  refine wp_cond_true rfl ?_
  refine wp_skip ?_
  refine hK24 _ _ ?_
  refine wp_seq_k fun K27 hK27=>?_
  refine wp_block ?_
  refine wsr fun _ hK28=>?_
  refine wpp fun k h=>?_;go_simp;apply h;clear h k
  refine wln (hK28 _ _ ?_)
  refine wp_block ?_
  have HL36 := Aside0.mk H
  clear H
  go_loopg [5, 3] k19 (fun kq v5 v3 w' => ∃ (x29 : Int) (x30 : List (Int × Int)) (P31 : Option Addr) (q32 : Nat), v5 = .int .i64 x29 ∧ v3 = .slice P31 x30.length q32 ∧ Aside0 (impl_allPoints.l1 K a0 x10 kq x29 x30 = some (r0)) ∧ Aside0 (kq ≤ k19) ∧ Aside0 (Up w w') ∧ Aside0 (w14.heap.size ≤ w'.heap.size) ∧ Own e2 28 w' w.heap.size (.slice P31 x30.length q32) x30)
  case atStart => exact ⟨0, x11, P12, q13, (by first | rfl | simp), (by first | rfl | simp), HL36, ⟨Nat.le_refl _⟩, ⟨hu15.out⟩, ⟨Nat.le_refl _⟩, h18⟩
  case round =>
   rename_i J40 K41 hJ40 hK41
   obtain ⟨x29, x30, P31, q32, rfl, rfl, HL42, hk39, hu34, hz35, h37⟩ := hrel
   obtain ⟨w33, rfl⟩ : ∃ wo : World, wo = wr := ⟨_, rfl⟩
   obtain ⟨k38, rfl⟩ | rfl : (∃ k, gk = k + 1) ∨ gk = 0 := by rcases gk with _ | k; exact .inr rfl; exact .inl ⟨k, rfl⟩
   case inr => exact absurd HL42.out (by simp [impl_allPoints.l1])
   have H := HL42.out
   clear HL42
   rw [impl_allPoints.l1] at H
   refine wp_seq_k fun K43 hK43=>?_
   refine wsr fun _ hK44=>?_
   iterate 3 (refine wpp fun k h=>?_;go_simp;apply h;clear h k)
   refine wln (hK44 _ _ ?_)
   by_cases c45 : (decide (x29 < a0)) = true
   rotate_left
   ·
    rw [if_neg c45] at H; replace c45 := Bool.eq_false_iff.mpr c45
    have HL62 := Aside0.mk H
    clear H
    try simp only [c45, Bool.not_true, Bool.not_false]
    refine wp_cond_false rfl ?_
    refine wp_exit ?_
    refine hK27 _ _ ?_
    refine wp_region_lit ?_
    iterate 3 (refine wpp fun k h=>?_;go_simp;apply h;clear h k)
    refine wln (hK22 _ _ ?_)
    go_roundg k38
    case measure => have := hk20.out; have := hk39.out; omega
    case rel => exact ⟨wrap64 (x10 + 1), x30, P31, q32, (by first | rfl | simp), (by first | rfl | simp), HL62, ⟨by have := hk20.out; have := hk39.out; omega⟩, ⟨hu34.out⟩, ⟨(Nat.le_trans ((Nat.le_trans (Nat.le_refl _) hz16.out)) hz35.out)⟩, h37⟩
   rw [if_pos c45] at H
   try simp only [c45, Bool.not_true, Bool.not_false]
   refine wp_cond_true rfl ?_
   refine wp_skip ?_
   refine hK43 _ _ ?_
   refine wp_seq_k fun K46 hK46=>?_
   refine wp_block ?_
   refine wp_region_lit ?_
   iterate 4 (refine wpp fun k h=>?_;go_simp;apply h;clear h k)
   refine step_new (cs := [.int .i64 x10, .int .i64 x29]) (T := 28) (f := fun b => .slice (some ⟨b, 0, none⟩) 1 1) rfl (by go_simp <;> rfl) ?_
   intro b47 w48 hu lb hb47
   simp only[nm]
   clear lb
   have hu49 := Aside0.mk hu
   clear hu
   have hm51 := Aside0.mk (Nat.le_trans ((Nat.le_trans ((Nat.le_trans (hu5.out.size) hz16.out)) hz35.out)) hu49.out.size)
   by_cases c50 : (decide (x30.length ≤ 1000000)) = true
   rotate_left
   ·
    rw [if_neg c50] at H; replace c50 := Bool.eq_false_iff.mpr c50
    exact absurd H (by simp)
   rw [if_pos c50] at H
   have HL61 := Aside0.mk H
   clear H
   try simp only [c50, Bool.not_true, Bool.not_false]
   have hO0 := Aside0.mk (h37.up hu49.out)
   refine step_append e2 (z := .agg #[.int .i64 0, .int .i64 0]) (bytes := 16) (base := w.heap.size) (xs := x30) (ys := [(x10, x29)]) wn _ _ rfl rfl (by kernel_rfl) rfl (by decide) rfl rfl rfl hO0.out (Rd.of_blk (E := e2) (xs := [(x10, x29)]) (o := 0) hb47 (by simp) (fun j u hu => by rcases j with _ | _ | j <;> simp_all [Enc.flat, e2])) (hm51.out) (by have h0_ := (of_decide_eq_true (by assumption) : x30.length ≤ 1000000); (try simp only [List.length_cons, List.length_nil]); omega) ?_
   intro P52 q53 w54 h56 hg hat
   have hg57 := Aside0.mk hg
   have hat58 := Aside0.mk hat
   simp only[nm]
   have lb59 := Aside0.mk hO0.out.lt
   clear hO0 hg hat
   refine wpp fun k h=>?_;go_simp;apply h;clear h k
   refine wln (hK46 _ _ ?_)
   refine wp_region_lit ?_
   iterate 3 (refine wpp fun k h=>?_;go_simp;apply h;clear h k)
   refine wln (hK41 _ _ ?_)
   go_roundg k38
   case measure => exact Nat.lt_succ_self _
   case rel => exact ⟨wrap64 (x29 + 1), (x30 ++ [(x10, x29)]), P52, q53, (by first | rfl | simp), (by first | rfl | simp), HL61, ⟨by have := hk20.out; have := hk39.out; omega⟩, ⟨((hu34.out.trans hu49.out).grow hg57.out (fun k hk => Nat.le_trans (Nat.le_refl _) ((fun k hk => (lb59.out k hk).1) k hk)))⟩, ⟨(Nat.le_trans ((Nat.le_trans ((Nat.le_trans (Nat.le_refl _) hz35.out)) hu49.out.size)) hg57.out.size)⟩, h56⟩

set_option maxHeartbeats 40000000 in
set_option maxRecDepth 100000 in
theorem impl_rest.calls (K : Nat) (a0 : Int) (a1 : Int) (r0 : Int) (w : World)  (h : impl_rest.f K a0 a1 = some (r0)) :
    Calls Try.prog 82 #[.int .i64 a0, .int .i64 a1] w fun e w' => e = .returned (.int .i64 r0) ∧ Up w w' := by
 have H : ((if (a0 == 0) = true then none else some (Int.tmod (wrap64 ((Int.tmod a1 a0) + a0)) a0)) : Option (Int)) = some (r0) := h
 clear h
 go_enter Try.func82, Try.ntmps82
 refine wp_hide (fun Qf hQf => ?_)
 refine wsr fun _ hK1=>?_
 refine wpp fun k h=>?_;go_simp;apply h;clear h k
 refine wln (hK1 _ _ ?_)
 refine wsr fun _ hK2=>?_
 iterate 2 (refine wpp fun k h=>?_;go_simp;apply h;clear h k)
 by_cases c3 : (a0 == 0) = true
 ·
  rw [if_pos c3] at H
  have c3n : (a0 != 0) = false := by rw [bne, c3]; rfl
  exact absurd H (by simp)
 rw [if_neg c3] at H; replace c3 := Bool.eq_false_iff.mpr c3
 have c3n : (a0 != 0) = true := by rw [bne, c3]; rfl
 have c3p : ¬ a0 = 0 := fun e => by simp [e] at c3
 obtain rfl := Option.some.inj H
 try simp only [c3, c3n, Bool.not_true, Bool.not_false]
 iterate 6 (refine wpp fun k h=>?_;go_simp;apply h;clear h k)
 refine wln (hK2 _ _ ?_)
 refine wp_ret ?_
 refine hQf _ _ _ ?_
 exact bpr (v := .int .i64 (Int.tmod (wrap64 ((Int.tmod a1 a0) + a0)) a0)) ⟨rfl, (Up.refl _)⟩

set_option maxHeartbeats 40000000 in
set_option maxRecDepth 100000 in
theorem impl_less.calls (K : Nat) (a0 : Int) (a1_0 : Int) (a1_1 : Int) (a2_0 : Int) (a2_1 : Int) (r0 : Int) (r1 : Int) (w : World)  (h : impl_less.f K a0 a1_0 a1_1 a2_0 a2_1 = some (r0, r1)) :
    Calls Try.prog 55 #[.int .i64 a0, .agg #[.int .i64 a1_0, .int .i64 a1_1], .agg #[.int .i64 a2_0, .int .i64 a2_1]] w fun e w' => e = .returned (.agg #[.int .i64 r0, .int .i64 r1]) ∧ Up w w' := by
 have H : (((impl_rest.f K a0 (wrap64 (a1_0 - a2_0))).bind fun t12 => ((impl_rest.f K a0 (wrap64 (a1_1 - a2_1))).bind fun t14 => some (t12, t14))) : Option (Int × Int)) = some (r0, r1) := h
 clear h
 obtain ⟨t12,A13,H⟩:=bnd H;try dsimp only at H
 obtain ⟨t14,A15,H⟩:=bnd H;try dsimp only at H
 simp only [Option.some.injEq, Prod.mk.injEq] at H
 obtain ⟨rfl, rfl⟩ := H
 go_enter Try.func55, Try.ntmps55
 refine wp_hide (fun Qf hQf => ?_)
 refine wsr fun _ hK1=>?_
 refine stp (cs := [.int .i64 a1_0, .int .i64 a1_1]) (T := 28) ?_
 intro b2 w3 hu4 lbb2 ltb2 hb2
 simp only[nm]
 refine stp (cs := [.int .i64 a2_0, .int .i64 a2_1]) (T := 28) ?_
 intro b5 w6 hu7 lbb5 ltb5 hb5
 simp only[nm]
 refine stp (cs := [.int .i64 0, .int .i64 0]) (T := 28) ?_
 intro b8 w9 hu10 lbb8 ltb8 hb8
 simp only[nm]
 refine wln (hK1 _ _ ?_)
 refine wp_seq_k fun K11 hK11=>?_
 refine' wp_region_up 15 [Slot.det _, Slot.det _, Slot.det _, Slot.det _, Slot.det _, Slot.det _, Slot.det (.int .i64 t12), Slot.det _, Slot.det _, Slot.det _, Slot.det _, Slot.det _, Slot.det _, Slot.det (.int .i64 t14), Slot.det _] (by kernel_rfl) (by kernel_rfl) ?main
 case main =>
  simp only [List.take_succ_cons, List.take_zero]
  refine wpK_ops rfl (fun w1 hu => ?_) ?_
  · clear hu
    go_simp
    first | done | rfl
  simp only[nm]
  refine wpK_ops rfl (fun w1 hu => ?_) ?_
  · clear hu
    go_simp
    first | done | rfl
  simp only[nm]
  refine wpK_ops rfl (fun w1 hu => ?_) ?_
  · have cl0 := ((hb2.up (hu7.out.trans hu10.out)).up ((Up.refl _).drew.trans hu)).cell (o := 0) rfl
    go_simp
    first | done | rfl
  simp only[nm]
  refine wpK_ops rfl (fun w1 hu => ?_) ?_
  · clear hu
    go_simp
    first | done | rfl
  simp only[nm]
  refine wpK_ops rfl (fun w1 hu => ?_) ?_
  · have cl0 := ((hb5.up hu10.out).up ((Up.refl _).drew.trans hu)).cell (o := 0) rfl
    go_simp
    first | done | rfl
  simp only[nm]
  refine wpK_ops rfl (fun w1 hu => ?_) ?_
  · clear hu
    go_simp
    first | done | rfl
  simp only[nm]
  refine wpK_ops rfl (fun w1 hu => ?_) ?_
  · have hcl := (impl_rest.calls K a0 (wrap64 (a1_0 - a2_0)) t12 w1  A13.out)
    clear hu
    replace hcl := Aside0.mk hcl
    go_simp
    exact hcl.out
  simp only[nm]
  refine wpK_ops rfl (fun w1 hu => ?_) ?_
  · clear hu
    go_simp
    first | done | rfl
  simp only[nm]
  refine wpK_ops rfl (fun w1 hu => ?_) ?_
  · clear hu
    go_simp
    first | done | rfl
  simp only[nm]
  refine wpK_ops rfl (fun w1 hu => ?_) ?_
  · have cl0 := ((hb2.up (hu7.out.trans hu10.out)).up ((Up.refl _).drew.trans hu)).cell (o := 1) rfl
    go_simp
    first | done | rfl
  simp only[nm]
  refine wpK_ops rfl (fun w1 hu => ?_) ?_
  · clear hu
    go_simp
    first | done | rfl
  simp only[nm]
  refine wpK_ops rfl (fun w1 hu => ?_) ?_
  · have cl0 := ((hb5.up hu10.out).up ((Up.refl _).drew.trans hu)).cell (o := 1) rfl
    go_simp
    first | done | rfl
  simp only[nm]
  refine wpK_ops rfl (fun w1 hu => ?_) ?_
  · clear hu
    go_simp
    first | done | rfl
  simp only[nm]
  refine wpK_ops rfl (fun w1 hu => ?_) ?_
  · have hcl := (impl_rest.calls K a0 (wrap64 (a1_1 - a2_1)) t14 w1  A15.out)
    clear hu
    replace hcl := Aside0.mk hcl
    go_simp
    exact hcl.out
  simp only[nm]
  refine wpK_ops rfl (fun w1 hu => ?_) ?_
  · clear hu
    go_simp
    first | done | rfl
  simp only[nm]
  refine wpK_nil ?_
  intro w16 hu hap
  simp only [List.drop_succ_cons, List.drop_zero]
  replace hu := (Up.refl _).drew.trans hu
  clear hap
  have hu17 := Aside0.mk hu
  clear hu
  refine stw [.int .i64 t12, .int .i64 t14] (hb8.up hu17.out) rfl rfl rfl rfl rfl (by kernel_rfl) rfl rfl ?_
  intro w18 hs19 hb20
  refine wln (hK11 _ _ ?_)
  refine wp_ret ?_
  refine hQf _ _ _ ?_
  have cr0 := hb20.cell (o := 0) rfl
  have cr1 := hb20.cell (o := 1) rfl
  exact bodyPost_ret (v := .agg #[.int .i64 t12, .int .i64 t14]) (by first|rfl|simp [results, Try.results55, go_sem, cr0, cr1]<;>rfl) rfl ⟨rfl, ((((hu4.out.trans hu7.out).trans hu10.out).trans hu17.out).sto (Nat.le_trans ((Nat.le_trans (hu4.out.size) hu7.out.size)) lbb8.out) hs19.out)⟩

set_option maxHeartbeats 40000000 in
set_option maxRecDepth 100000 in
theorem impl_product.calls (K : Nat) (a0 : Int) (a1 : Int) (a2_0 : Int) (a2_1 : Int) (a3_0 : Int) (a3_1 : Int) (r0 : Int) (w : World)  (h : impl_product.f K a0 a1 a2_0 a2_1 a3_0 a3_1 = some (r0)) :
    Calls Try.prog 56 #[.int .i64 a0, .int .i64 a1, .agg #[.int .i64 a2_0, .int .i64 a2_1], .agg #[.int .i64 a3_0, .int .i64 a3_1]] w fun e w' => e = .returned (.int .i64 r0) ∧ Up w w' := by
 have H : ((if (a1 == 0) = true then ((impl_rest.f K a0 (wrap64 ((wrap64 (a2_0 * a3_0)) + (wrap64 (a2_1 * a3_1))))).bind fun t13 => some t13) else (if (a1 == 1) = true then ((impl_rest.f K a0 (wrap64 ((wrap64 (a2_0 * a3_0)) - (wrap64 (a2_1 * a3_1))))).bind fun t20 => some t20) else ((impl_rest.f K a0 (wrap64 ((wrap64 (a2_0 * a3_1)) + (wrap64 (a2_1 * a3_0))))).bind fun t25 => some t25))) : Option (Int)) = some (r0) := h
 clear h
 go_enter Try.func56, Try.ntmps56
 refine wp_hide (fun Qf hQf => ?_)
 refine wsr fun _ hK1=>?_
 refine stp (cs := [.int .i64 a2_0, .int .i64 a2_1]) (T := 28) ?_
 intro b2 w3 hu4 lbb2 ltb2 hb2
 simp only[nm]
 refine stp (cs := [.int .i64 a3_0, .int .i64 a3_1]) (T := 28) ?_
 intro b5 w6 hu7 lbb5 ltb5 hb5
 simp only[nm]
 refine wpp fun k h=>?_;go_simp;apply h;clear h k
 refine wln (hK1 _ _ ?_)
 refine wp_seq_k fun K8 hK8=>?_
 refine wsr fun _ hK9=>?_
 refine wpp fun k h=>?_;go_simp;apply h;clear h k
 refine wln (hK9 _ _ ?_)
 refine wp_block ?_
 refine wsr fun _ hK10=>?_
 iterate 2 (refine wpp fun k h=>?_;go_simp;apply h;clear h k)
 refine wln (hK10 _ _ ?_)
 by_cases c11 : (a1 == 0) = true
 ·
  rw [if_pos c11] at H
  have c11n : (a1 != 0) = false := by rw [bne, c11]; rfl
  obtain ⟨t13,A14,H⟩:=bnd H;try dsimp only at H
  obtain rfl := Option.some.inj H
  try simp only [c11, c11n, Bool.not_true, Bool.not_false]
  refine wp_cond_true rfl ?_
  refine wsr fun _ hK12=>?_
  iterate 2 (refine wpp fun k h=>?_;go_simp;apply h;clear h k)
  have cl0 := (hb2.up hu7.out).cell (o := 0) rfl
  refine wpp fun k h=>?_;go_simp;apply h;clear h k
  clear cl0
  refine wpp fun k h=>?_;go_simp;apply h;clear h k
  have cl0 := hb5.cell (o := 0) rfl
  refine wpp fun k h=>?_;go_simp;apply h;clear h k
  clear cl0
  iterate 2 (refine wpp fun k h=>?_;go_simp;apply h;clear h k)
  have cl0 := (hb2.up hu7.out).cell (o := 1) rfl
  refine wpp fun k h=>?_;go_simp;apply h;clear h k
  clear cl0
  refine wpp fun k h=>?_;go_simp;apply h;clear h k
  have cl0 := hb5.cell (o := 1) rfl
  refine wpp fun k h=>?_;go_simp;apply h;clear h k
  clear cl0
  iterate 2 (refine wpp fun k h=>?_;go_simp;apply h;clear h k)
  refine stc (impl_rest.calls K a0 (wrap64 ((wrap64 (a2_0 * a3_0)) + (wrap64 (a2_1 * a3_1)))) t13 w6  A14.out) ?_
  intro w15 hu16
  simp only[nm]
  refine wpp fun k h=>?_;go_simp;apply h;clear h k
  refine wln (hK12 _ _ ?_)
  refine wp_ret ?_
  refine hQf _ _ _ ?_
  exact bpr (v := .int .i64 t13) ⟨rfl, ((hu4.out.trans hu7.out).trans hu16.out)⟩
 rw [if_neg c11] at H; replace c11 := Bool.eq_false_iff.mpr c11
 have c11n : (a1 != 0) = true := by rw [bne, c11]; rfl
 have c11p : ¬ a1 = 0 := fun e => by simp [e] at c11
 try simp only [c11, c11n, Bool.not_true, Bool.not_false]
 refine wp_cond_false rfl ?_
 refine wsr fun _ hK17=>?_
 iterate 2 (refine wpp fun k h=>?_;go_simp;apply h;clear h k)
 refine wln (hK17 _ _ ?_)
 by_cases c18 : (a1 == 1) = true
 ·
  rw [if_pos c18] at H
  have c18n : (a1 != 1) = false := by rw [bne, c18]; rfl
  obtain ⟨t20,A21,H⟩:=bnd H;try dsimp only at H
  obtain rfl := Option.some.inj H
  try simp only [c18, c18n, Bool.not_true, Bool.not_false]
  refine wp_cond_true rfl ?_
  refine wsr fun _ hK19=>?_
  iterate 2 (refine wpp fun k h=>?_;go_simp;apply h;clear h k)
  have cl0 := (hb2.up hu7.out).cell (o := 0) rfl
  refine wpp fun k h=>?_;go_simp;apply h;clear h k
  clear cl0
  refine wpp fun k h=>?_;go_simp;apply h;clear h k
  have cl0 := hb5.cell (o := 0) rfl
  refine wpp fun k h=>?_;go_simp;apply h;clear h k
  clear cl0
  iterate 2 (refine wpp fun k h=>?_;go_simp;apply h;clear h k)
  have cl0 := (hb2.up hu7.out).cell (o := 1) rfl
  refine wpp fun k h=>?_;go_simp;apply h;clear h k
  clear cl0
  refine wpp fun k h=>?_;go_simp;apply h;clear h k
  have cl0 := hb5.cell (o := 1) rfl
  refine wpp fun k h=>?_;go_simp;apply h;clear h k
  clear cl0
  iterate 2 (refine wpp fun k h=>?_;go_simp;apply h;clear h k)
  refine stc (impl_rest.calls K a0 (wrap64 ((wrap64 (a2_0 * a3_0)) - (wrap64 (a2_1 * a3_1)))) t20 w6  A21.out) ?_
  intro w22 hu23
  simp only[nm]
  refine wpp fun k h=>?_;go_simp;apply h;clear h k
  refine wln (hK19 _ _ ?_)
  refine wp_ret ?_
  refine hQf _ _ _ ?_
  exact bpr (v := .int .i64 t20) ⟨rfl, ((hu4.out.trans hu7.out).trans hu23.out)⟩
 rw [if_neg c18] at H; replace c18 := Bool.eq_false_iff.mpr c18
 have c18n : (a1 != 1) = true := by rw [bne, c18]; rfl
 have c18p : ¬ a1 = 1 := fun e => by simp [e] at c18
 obtain ⟨t25,A26,H⟩:=bnd H;try dsimp only at H
 obtain rfl := Option.some.inj H
 try simp only [c18, c18n, Bool.not_true, Bool.not_false]
 refine wp_cond_false rfl ?_
 refine wp_skip ?_
 refine hK8 _ _ ?_
 refine wsr fun _ hK24=>?_
 iterate 2 (refine wpp fun k h=>?_;go_simp;apply h;clear h k)
 have cl0 := (hb2.up hu7.out).cell (o := 0) rfl
 refine wpp fun k h=>?_;go_simp;apply h;clear h k
 clear cl0
 refine wpp fun k h=>?_;go_simp;apply h;clear h k
 have cl0 := hb5.cell (o := 1) rfl
 refine wpp fun k h=>?_;go_simp;apply h;clear h k
 clear cl0
 iterate 2 (refine wpp fun k h=>?_;go_simp;apply h;clear h k)
 have cl0 := (hb2.up hu7.out).cell (o := 1) rfl
 refine wpp fun k h=>?_;go_simp;apply h;clear h k
 clear cl0
 refine wpp fun k h=>?_;go_simp;apply h;clear h k
 have cl0 := hb5.cell (o := 0) rfl
 refine wpp fun k h=>?_;go_simp;apply h;clear h k
 clear cl0
 iterate 2 (refine wpp fun k h=>?_;go_simp;apply h;clear h k)
 refine stc (impl_rest.calls K a0 (wrap64 ((wrap64 (a2_0 * a3_1)) + (wrap64 (a2_1 * a3_0)))) t25 w6  A26.out) ?_
 intro w27 hu28
 simp only[nm]
 refine wpp fun k h=>?_;go_simp;apply h;clear h k
 refine wln (hK24 _ _ ?_)
 refine wp_ret ?_
 refine hQf _ _ _ ?_
 exact bpr (v := .int .i64 t25) ⟨rfl, ((hu4.out.trans hu7.out).trans hu28.out)⟩

set_option maxHeartbeats 40000000 in
set_option maxRecDepth 100000 in
theorem impl_quadrance.calls (K : Nat) (a0 : Int) (a1 : Int) (a2_0 : Int) (a2_1 : Int) (a3_0 : Int) (a3_1 : Int) (r0 : Int) (w : World)  (h : impl_quadrance.f K a0 a1 a2_0 a2_1 a3_0 a3_1 = some (r0)) :
    Calls Try.prog 39 #[.int .i64 a0, .int .i64 a1, .agg #[.int .i64 a2_0, .int .i64 a2_1], .agg #[.int .i64 a3_0, .int .i64 a3_1]] w fun e w' => e = .returned (.int .i64 r0) ∧ Up w w' := by
 have H : (((impl_less.f K a0 a2_0 a2_1 a3_0 a3_1).bind fun (t9, t10) => ((impl_product.f K a0 a1 t9 t10 t9 t10).bind fun t21 => some t21)) : Option (Int)) = some (r0) := h
 clear h
 obtain ⟨⟨t9, t10⟩,A11,H⟩:=bnd H;try dsimp only at H
 obtain ⟨t21,A22,H⟩:=bnd H;try dsimp only at H
 obtain rfl := Option.some.inj H
 go_enter Try.func39, Try.ntmps39
 refine wp_hide (fun Qf hQf => ?_)
 refine wsr fun _ hK1=>?_
 refine stp (cs := [.int .i64 a2_0, .int .i64 a2_1]) (T := 28) ?_
 intro b2 w3 hu4 lbb2 ltb2 hb2
 simp only[nm]
 refine stp (cs := [.int .i64 a3_0, .int .i64 a3_1]) (T := 28) ?_
 intro b5 w6 hu7 lbb5 ltb5 hb5
 simp only[nm]
 refine wpp fun k h=>?_;go_simp;apply h;clear h k
 refine wln (hK1 _ _ ?_)
 refine wsr fun _ hK8=>?_
 refine wpp fun k h=>?_;go_simp;apply h;clear h k
 have cl0 := (hb2.up hu7.out).cell (o := 0) rfl
 have cl1 := (hb2.up hu7.out).cell (o := 1) rfl
 refine wpp fun k h=>?_;go_simp;apply h;clear h k
 clear cl0 cl1
 have cl0 := hb5.cell (o := 0) rfl
 have cl1 := hb5.cell (o := 1) rfl
 refine wpp fun k h=>?_;go_simp;apply h;clear h k
 clear cl0 cl1
 refine stc (impl_less.calls K a0 a2_0 a2_1 a3_0 a3_1 t9 t10 w6  A11.out) ?_
 intro w12 hu13
 simp only[nm]
 refine stp (cs := [.int .i64 0, .int .i64 0]) (T := 28) ?_
 intro b14 w15 hu16 lbb14 ltb14 hb14
 simp only[nm]
 refine stw [.int .i64 t9, .int .i64 t10] hb14 rfl rfl rfl rfl rfl (by kernel_rfl) rfl rfl ?_
 intro w17 hs18 hb19
 refine wln (hK8 _ _ ?_)
 refine wsr fun _ hK20=>?_
 iterate 2 (refine wpp fun k h=>?_;go_simp;apply h;clear h k)
 have cl0 := hb19.cell (o := 0) rfl
 have cl1 := hb19.cell (o := 1) rfl
 refine wpp fun k h=>?_;go_simp;apply h;clear h k
 clear cl0 cl1
 have cl0 := hb19.cell (o := 0) rfl
 have cl1 := hb19.cell (o := 1) rfl
 refine wpp fun k h=>?_;go_simp;apply h;clear h k
 clear cl0 cl1
 refine stc (impl_product.calls K a0 a1 t9 t10 t9 t10 t21 w17  A22.out) ?_
 intro w23 hu24
 simp only[nm]
 refine wpp fun k h=>?_;go_simp;apply h;clear h k
 refine wln (hK20 _ _ ?_)
 refine wp_ret ?_
 refine hQf _ _ _ ?_
 exact bpr (v := .int .i64 t21) ⟨rfl, (((((hu4.out.trans hu7.out).trans hu13.out).trans hu16.out).sto (Nat.le_trans ((Nat.le_trans ((Nat.le_trans (hu4.out.size) hu7.out.size)) hu13.out.size)) lbb14.out) hs18.out).trans hu24.out)⟩

set_option maxHeartbeats 40000000 in
set_option maxRecDepth 100000 in
theorem impl_pointsAt_1.calls (K : Nat) (a0_0 : Int) (a0_1 : Int) (bf0 : Nat) (f0_0 : Int) (bf1 : Nat) (f1_0 : Int) (bf2 : Nat) (f2_0 : Int) (f2_1 : Int) (bf3 : Nat) (f3_0 : Int) (r0 : Bool) (w : World) (hf0 : Blk w bf0 [.int .i64 f0_0] 2) (hf1 : Blk w bf1 [.int .i64 f1_0] 2) (hf2 : Blk w bf2 [.int .i64 f2_0, .int .i64 f2_1] 28) (hf3 : Blk w bf3 [.int .i64 f3_0] 2) (h : impl_pointsAt_1.f K a0_0 a0_1 f0_0 f1_0 f2_0 f2_1 f3_0 = some (r0)) :
    Calls Try.prog 38 #[.agg #[.int .i64 a0_0, .int .i64 a0_1], .pointer (some ⟨bf0, 0, none⟩), .pointer (some ⟨bf1, 0, none⟩), .pointer (some ⟨bf2, 0, none⟩), .pointer (some ⟨bf3, 0, none⟩)] w fun e w' => e = .returned (.bool r0) ∧ Up w w' := by
 have H : (((impl_quadrance.f K f0_0 f1_0 f2_0 f2_1 a0_0 a0_1).bind fun t6 => some (t6 == f3_0)) : Option (Bool)) = some (r0) := h
 clear h
 obtain ⟨t6,A7,H⟩:=bnd H;try dsimp only at H
 obtain rfl := Option.some.inj H
 have ltbf0 := Aside0.mk hf0.lt
 have ltbf1 := Aside0.mk hf1.lt
 have ltbf2 := Aside0.mk hf2.lt
 have ltbf3 := Aside0.mk hf3.lt
 go_enter Try.func38, Try.ntmps38
 refine wp_hide (fun Qf hQf => ?_)
 refine wsr fun _ hK1=>?_
 refine stp (cs := [.int .i64 a0_0, .int .i64 a0_1]) (T := 28) ?_
 intro b2 w3 hu4 lbb2 ltb2 hb2
 simp only[nm]
 refine wpp fun k h=>?_;go_simp;apply h;clear h k
 refine wln (hK1 _ _ ?_)
 refine wp_seq_k fun K5 hK5=>?_
 refine' wp_region_up 7 [Slot.det _, Slot.det _, Slot.det _, Slot.det _, Slot.det (.int .i64 t6), Slot.det _, Slot.det _] (by kernel_rfl) (by kernel_rfl) ?main
 case main =>
  simp only [List.take_succ_cons, List.take_zero]
  refine wpK_ops rfl (fun w1 hu => ?_) ?_
  · have cl0 := ((hf0.up hu4.out).up ((Up.refl _).drew.trans hu)).cell (o := 0) rfl
    go_simp
    first | done | rfl
  simp only[nm]
  refine wpK_ops rfl (fun w1 hu => ?_) ?_
  · have cl0 := ((hf1.up hu4.out).up ((Up.refl _).drew.trans hu)).cell (o := 0) rfl
    go_simp
    first | done | rfl
  simp only[nm]
  refine wpK_ops rfl (fun w1 hu => ?_) ?_
  · have cl0 := ((hf2.up hu4.out).up ((Up.refl _).drew.trans hu)).cell (o := 0) rfl
    have cl1 := ((hf2.up hu4.out).up ((Up.refl _).drew.trans hu)).cell (o := 1) rfl
    go_simp
    first | done | rfl
  simp only[nm]
  refine wpK_ops rfl (fun w1 hu => ?_) ?_
  · have cl0 := (hb2.up ((Up.refl _).drew.trans hu)).cell (o := 0) rfl
    have cl1 := (hb2.up ((Up.refl _).drew.trans hu)).cell (o := 1) rfl
    go_simp
    first | done | rfl
  simp only[nm]
  refine wpK_ops rfl (fun w1 hu => ?_) ?_
  · have hcl := (impl_quadrance.calls K f0_0 f1_0 f2_0 f2_1 a0_0 a0_1 t6 w1  A7.out)
    clear hu
    replace hcl := Aside0.mk hcl
    go_simp
    exact hcl.out
  simp only[nm]
  refine wpK_ops rfl (fun w1 hu => ?_) ?_
  · have cl0 := ((hf3.up hu4.out).up ((Up.refl _).drew.trans hu)).cell (o := 0) rfl
    go_simp
    first | done | rfl
  simp only[nm]
  refine wpK_ops rfl (fun w1 hu => ?_) ?_
  · clear hu
    go_simp
    first | done | rfl
  simp only[nm]
  refine wpK_nil ?_
  intro w8 hu hap
  simp only [List.drop_succ_cons, List.drop_zero]
  replace hu := (Up.refl _).drew.trans hu
  clear hap
  have hu9 := Aside0.mk hu
  clear hu
  refine wpp fun k h=>?_;go_simp;apply h;clear h k
  refine wln (hK5 _ _ ?_)
  refine wp_ret ?_
  refine hQf _ _ _ ?_
  exact bpr (v := .bool (t6 == f3_0)) ⟨rfl, (hu4.out.trans hu9.out)⟩

set_option maxHeartbeats 40000000 in
set_option maxRecDepth 100000 in
theorem impl_pointsWith__impl_pointsAt_1.calls (K : Nat) (a0 : Int) (bc1_0 : Nat) (c1_0_0 : Int) (bc1_1 : Nat) (c1_1_0 : Int) (bc1_2 : Nat) (c1_2_0 : Int) (c1_2_1 : Int) (bc1_3 : Nat) (c1_3_0 : Int) (r0 : List (Int × Int)) (w : World) (hc1_0 : Blk w bc1_0 [.int .i64 c1_0_0] 2) (hc1_1 : Blk w bc1_1 [.int .i64 c1_1_0] 2) (hc1_2 : Blk w bc1_2 [.int .i64 c1_2_0, .int .i64 c1_2_1] 28) (hc1_3 : Blk w bc1_3 [.int .i64 c1_3_0] 2) (h : impl_pointsWith__impl_pointsAt_1.f K a0 c1_0_0 c1_1_0 c1_2_0 c1_2_1 c1_3_0 = some (r0)) :
    Calls Try.prog 37 #[.int .i64 a0, .func (.func 38) #[] #[.pointer (some ⟨bc1_0, 0, none⟩), .pointer (some ⟨bc1_1, 0, none⟩), .pointer (some ⟨bc1_2, 0, none⟩), .pointer (some ⟨bc1_3, 0, none⟩)]] w fun e w' => ∃ (Ar0 : Option Addr) (cr0 : Nat), e = .returned (.slice Ar0 r0.length cr0) ∧ Own e2 28 w' w.heap.size (.slice Ar0 r0.length cr0) r0 ∧ Up w w' := by
 have H : (((impl_allPoints.f K a0).bind fun t8 => (impl_pointsWith__impl_pointsAt_1.l0 K c1_0_0 c1_1_0 c1_2_0 c1_2_1 c1_3_0 t8 K 0 ([] : List (Int × Int)))) : Option (List (Int × Int))) = some (r0) := h
 clear h
 obtain ⟨t8,A11,H⟩:=bnd H;try dsimp only at H
 have ltbc1_0 := Aside0.mk hc1_0.lt
 have ltbc1_1 := Aside0.mk hc1_1.lt
 have ltbc1_2 := Aside0.mk hc1_2.lt
 have ltbc1_3 := Aside0.mk hc1_3.lt
 go_enter Try.func37, Try.ntmps37
 refine wp_hide (fun Qf hQf => ?_)
 refine wsr fun _ hK1=>?_
 refine wpp fun k h=>?_;go_simp;apply h;clear h k
 refine wln (hK1 _ _ ?_)
 refine wsr fun _ hK2=>?_
 refine step_new (cs := []) (T := 28) (f := fun b => .slice (some ⟨b, 0, none⟩) 0 0) rfl (by go_simp <;> rfl) ?_
 intro b3 w4 hu lb hb3
 simp only[nm]
 have lbb3 := Aside0.mk lb
 clear lb
 have hu5 := Aside0.mk hu
 clear hu
 refine wpp fun k h=>?_;go_simp;apply h;clear h k
 refine wln (hK2 _ _ ?_)
 refine wp_seq_k fun K6 hK6=>?_
 refine wsr fun _ hK7=>?_
 refine wpp fun k h=>?_;go_simp;apply h;clear h k
 refine step_call wn (by go_simp <;> rfl) (impl_allPoints.calls K a0 t8 w4  A11.out) ?_
 rintro e w12 ⟨P9, q10, rfl, ht8, hu⟩
 have hu13 := Aside0.mk hu
 clear hu
 refine ⟨_, rfl, ?_⟩
 simp only[nm]
 iterate 2 (refine wpp fun k h=>?_;go_simp;apply h;clear h k)
 refine wln (hK7 _ _ ?_)
 refine wp_block ?_
 have h15 : Own e2 28 w12 w.heap.size (.slice (some ⟨b3, 0, none⟩) ([].length) 0) [] := Own.of_blk (hb3.up hu13.out) lbb3.out rfl (by simp) (by simp [Enc.flat, e2])
 have h16 : Own e2 28 w4 w.heap.size (.slice (some ⟨b3, 0, none⟩) ([].length) 0) [] := Own.of_blk hb3 lbb3.out rfl (by simp) (by simp [Enc.flat, e2])
 have HL24 := Aside0.mk H
 clear H
 go_loopg [12, 5] K (fun kq v12 v5 w' => ∃ (x17 : Int) (x18 : List (Int × Int)) (P19 : Option Addr) (q20 : Nat), v12 = .int .i64 x17 ∧ v5 = .slice P19 x18.length q20 ∧ Aside0 (impl_pointsWith__impl_pointsAt_1.l0 K c1_0_0 c1_1_0 c1_2_0 c1_2_1 c1_3_0 t8 kq x17 x18 = some (r0)) ∧ Aside0 (kq ≤ K) ∧ Aside0 (Up w w') ∧ Aside0 (w12.heap.size ≤ w'.heap.size) ∧ Own e2 28 w' w4.heap.size (.slice P9 t8.length q10) t8 ∧ Own e2 28 w' w.heap.size (.slice P19 x18.length q20) x18 ∧ Aside0 (∀ k l, blk (.slice P19 x18.length q20) = some k → blk (.slice P9 t8.length q10) = some l → k ≠ l))
 case atStart => exact ⟨0, ([] : List (Int × Int)), some ⟨b3, 0, none⟩, 0, (by first | rfl | simp), (by first | rfl | simp), HL24, ⟨Nat.le_refl _⟩, ⟨(hu5.out.trans hu13.out)⟩, ⟨Nat.le_refl _⟩, ht8, h15, ⟨(fun k l hk hl => Nat.ne_of_lt (Nat.lt_of_lt_of_le ((fun k hk => Nat.lt_of_lt_of_le (h16.lt k hk).2 (Nat.le_refl _)) k hk) ((fun k hk => Nat.le_trans (Nat.le_refl _) (ht8.lt k hk).1) l hl)))⟩⟩
 case round =>
  rename_i J30 K31 hJ30 hK31
  obtain ⟨x17, x18, P19, q20, rfl, rfl, HL32, hk29, hu22, hz23, h25, h26, hn27⟩ := hrel
  obtain ⟨w21, rfl⟩ : ∃ wo : World, wo = wr := ⟨_, rfl⟩
  obtain ⟨k28, rfl⟩ | rfl : (∃ k, gk = k + 1) ∨ gk = 0 := by rcases gk with _ | k; exact .inr rfl; exact .inl ⟨k, rfl⟩
  case inr => exact absurd HL32.out (by simp [impl_pointsWith__impl_pointsAt_1.l0])
  have H := HL32.out
  clear HL32
  rw [impl_pointsWith__impl_pointsAt_1.l0] at H
  refine wsr fun _ hK33=>?_
  refine wpp fun k h=>?_;go_simp;apply h;clear h k
  refine wln (hK33 _ _ ?_)
  refine wp_seq_k fun K34 hK34=>?_
  have hm36 := Aside0.mk hu22.out
  by_cases c35 : (decide (x17 < (t8.length : Int))) = true
  rotate_left
  ·
   rw [if_neg c35] at H; replace c35 := Bool.eq_false_iff.mpr c35
   obtain rfl := Option.some.inj H
   try simp only [c35, Bool.not_true, Bool.not_false]
   refine wp_cond_false rfl ?_
   refine wp_exit ?_
   refine hK6 _ _ ?_
   refine wsr fun _ hK76=>?_
   iterate 2 (refine wpp fun k h=>?_;go_simp;apply h;clear h k)
   refine wln (hK76 _ _ ?_)
   refine wp_ret ?_
   refine hQf _ _ _ ?_
   exact bpr (v := .slice P19 x18.length q20) ⟨P19, q20, rfl, (h26.lower (Nat.le_refl _)), hm36.out⟩
  rw [if_pos c35] at H
  obtain ⟨⟨t39, t40⟩,A41,H⟩:=bnd H;try dsimp only at H
  obtain ⟨t52,A53,H⟩:=bnd H;try dsimp only at H
  try simp only [c35, Bool.not_true, Bool.not_false]
  refine wp_cond_true rfl ?_
  refine wp_skip ?_
  refine hK34 _ _ ?_
  refine wp_seq_k fun K37 hK37=>?_
  refine wp_block ?_
  refine wsr fun _ hK38=>?_
  refine step_index e2 (T := 28) wn rfl (by kernel_rfl) (by kernel_rfl) rfl rfl rfl h25.rd A41.out ?_
  intro ad42 hat he
  have he43 := Aside0.mk he
  have hat44 := Aside0.mk hat
  clear he hat
  simp only[nm]
  have cl0 := he43.out 0 _ rfl
  rw [addr_add0] at cl0
  have cl1 : World.cell? _ ⟨ad42.block, ad42.off + 1, none⟩ = some _ := he43.out 1 _ rfl
  refine wpp fun k h=>?_;go_simp;apply h;clear h k
  clear cl0 cl1
  refine stp (cs := [.int .i64 0, .int .i64 0]) (T := 28) ?_
  intro b45 w46 hu47 lbb45 ltb45 hb45
  simp only[nm]
  refine stw [.int .i64 t39, .int .i64 t40] hb45 rfl rfl rfl rfl rfl (by kernel_rfl) rfl rfl ?_
  intro w48 hs49 hb50
  refine wln (hK38 _ _ ?_)
  refine wsr fun _ hK51=>?_
  refine wpp fun k h=>?_;go_simp;apply h;clear h k
  have cl0 := hb50.cell (o := 0) rfl
  have cl1 := hb50.cell (o := 1) rfl
  refine wpp fun k h=>?_;go_simp;apply h;clear h k
  clear cl0 cl1
  refine stc (impl_pointsAt_1.calls K t39 t40 bc1_0 c1_0_0 bc1_1 c1_1_0 bc1_2 c1_2_0 c1_2_1 bc1_3 c1_3_0 t52 w48 (hc1_0.up ((hm36.out.trans hu47.out).sto (Nat.le_trans (hm36.out.size) lbb45.out) hs49.out)) (hc1_1.up ((hm36.out.trans hu47.out).sto (Nat.le_trans (hm36.out.size) lbb45.out) hs49.out)) (hc1_2.up ((hm36.out.trans hu47.out).sto (Nat.le_trans (hm36.out.size) lbb45.out) hs49.out)) (hc1_3.up ((hm36.out.trans hu47.out).sto (Nat.le_trans (hm36.out.size) lbb45.out) hs49.out)) A53.out) ?_
  intro w54 hu55
  simp only[nm]
  refine wln (hK51 _ _ ?_)
  have hm57 := Aside0.mk ((hu47.out.sto (Nat.le_trans (Nat.le_refl _) lbb45.out) hs49.out).trans hu55.out)
  by_cases c56 : (t52) = true
  rotate_left
  ·
   rw [if_neg c56] at H; replace c56 := Bool.eq_false_iff.mpr c56
   subst c56
   have HL75 := Aside0.mk H
   clear H
   refine wp_cond_false rfl ?_
   refine wp_skip ?_
   refine hK37 _ _ ?_
   refine wp_region_lit ?_
   iterate 2 (refine wpp fun k h=>?_;go_simp;apply h;clear h k)
   refine wln (hK31 _ _ ?_)
   go_roundg k28
   case measure => exact Nat.lt_succ_self _
   case rel => exact ⟨wrap64 (x17 + 1), x18, P19, q20, (by first | rfl | simp), (by first | rfl | simp), HL75, ⟨by have := hk29.out; omega⟩, ⟨(hm36.out.trans hm57.out)⟩, ⟨(Nat.le_trans ((Nat.le_trans (Nat.le_refl _) hz23.out)) hm57.out.size)⟩, (h25.up hm57.out), (h26.up hm57.out), ⟨hn27.out⟩⟩
  rw [if_pos c56] at H
  subst c56
  refine wp_cond_true rfl ?_
  refine wp_region_lit ?_
  refine wpp fun k h=>?_;go_simp;apply h;clear h k
  have cl0 := (hb50.up hu55.out).cell (o := 0) rfl
  have cl1 := (hb50.up hu55.out).cell (o := 1) rfl
  refine wpp fun k h=>?_;go_simp;apply h;clear h k
  clear cl0 cl1
  refine step_new (cs := [.int .i64 t39, .int .i64 t40]) (T := 28) (f := fun b => .slice (some ⟨b, 0, none⟩) 1 1) rfl (by go_simp <;> rfl) ?_
  intro b58 w59 hu lb hb58
  simp only[nm]
  clear lb
  have hu60 := Aside0.mk hu
  clear hu
  have hm62 := Aside0.mk (Nat.le_trans ((Nat.le_trans ((Nat.le_trans (Nat.le_refl _) hz23.out)) hm57.out.size)) hu60.out.size)
  by_cases c61 : (decide (x18.length ≤ 1000000)) = true
  rotate_left
  ·
   rw [if_neg c61] at H; replace c61 := Bool.eq_false_iff.mpr c61
   exact absurd H (by simp)
  rw [if_pos c61] at H
  have HL74 := Aside0.mk H
  clear H
  try simp only [c61, Bool.not_true, Bool.not_false]
  have hO0 := Aside0.mk (h26.up (hm57.out.trans hu60.out))
  refine step_append e2 (z := .agg #[.int .i64 0, .int .i64 0]) (bytes := 16) (base := w.heap.size) (xs := x18) (ys := [(t39, t40)]) wn _ _ rfl rfl (by kernel_rfl) rfl (by decide) rfl rfl rfl hO0.out (Rd.of_blk (E := e2) (xs := [(t39, t40)]) (o := 0) hb58 (by simp) (fun j u hu => by rcases j with _ | _ | j <;> simp_all [Enc.flat, e2])) ((Nat.le_trans ((Nat.le_trans (hm36.out.size) hm57.out.size)) hu60.out.size)) (by have h0_ := (of_decide_eq_true (by assumption) : x18.length ≤ 1000000); (try simp only [List.length_cons, List.length_nil]); omega) ?_
  intro P63 q64 w65 h67 hg hat
  have hg68 := Aside0.mk hg
  have hat69 := Aside0.mk hat
  simp only[nm]
  have lb70 := Aside0.mk hO0.out.lt
  clear hO0 hg hat
  have h71 := (h25.up (hm57.out.trans hu60.out)).grow hg68.out hn27.out
  refine wpp fun k h=>?_;go_simp;apply h;clear h k
  refine wln (hK37 _ _ ?_)
  refine wp_region_lit ?_
  iterate 2 (refine wpp fun k h=>?_;go_simp;apply h;clear h k)
  refine wln (hK31 _ _ ?_)
  go_roundg k28
  case measure => exact Nat.lt_succ_self _
  case rel => exact ⟨wrap64 (x17 + 1), (x18 ++ [(t39, t40)]), P63, q64, (by first | rfl | simp), (by first | rfl | simp), HL74, ⟨by have := hk29.out; omega⟩, ⟨(((hm36.out.trans hm57.out).trans hu60.out).grow hg68.out (fun k hk => Nat.le_trans (Nat.le_refl _) ((fun k hk => (lb70.out k hk).1) k hk)))⟩, ⟨(Nat.le_trans (hm62.out) hg68.out.size)⟩, h71, h67, ⟨(fun k l hk hl => hat69.out.elim (fun e => hn27.out k l (e.symm.trans hk) hl) (fun g => Nat.ne_of_gt (Nat.lt_of_lt_of_le ((fun k hk => Nat.lt_of_lt_of_le (ht8.lt k hk).2 (hm62.out)) l hl) (g k hk))))⟩⟩

set_option maxHeartbeats 40000000 in
set_option maxRecDepth 100000 in
theorem impl_pointsAt.calls (K : Nat) (a0 : Int) (a1 : Int) (a2_0 : Int) (a2_1 : Int) (a3 : Int) (r0 : List (Int × Int)) (w : World)  (h : impl_pointsAt.f K a0 a1 a2_0 a2_1 a3 = some (r0)) :
    Calls Try.prog 21 #[.int .i64 a0, .int .i64 a1, .agg #[.int .i64 a2_0, .int .i64 a2_1], .int .i64 a3] w fun e w' => ∃ (Ar0 : Option Addr) (cr0 : Nat), e = .returned (.slice Ar0 r0.length cr0) ∧ Own e2 28 w' w.heap.size (.slice Ar0 r0.length cr0) r0 ∧ Up w w' := by
 have H : (((impl_pointsWith__impl_pointsAt_1.f K a0 a0 a1 a2_0 a2_1 a3).bind fun t15 => some t15) : Option (List (Int × Int))) = some (r0) := h
 clear h
 obtain ⟨t15,A18,H⟩:=bnd H;try dsimp only at H
 obtain rfl := Option.some.inj H
 go_enter Try.func21, Try.ntmps21
 refine wp_hide (fun Qf hQf => ?_)
 refine wsr fun _ hK1=>?_
 refine stp (cs := [.int .i64 a0]) (T := 2) ?_
 intro b2 w3 hu4 lbb2 ltb2 hb2
 simp only[nm]
 refine stp (cs := [.int .i64 a1]) (T := 2) ?_
 intro b5 w6 hu7 lbb5 ltb5 hb5
 simp only[nm]
 refine stp (cs := [.int .i64 a2_0, .int .i64 a2_1]) (T := 28) ?_
 intro b8 w9 hu10 lbb8 ltb8 hb8
 simp only[nm]
 refine stp (cs := [.int .i64 a3]) (T := 2) ?_
 intro b11 w12 hu13 lbb11 ltb11 hb11
 simp only[nm]
 refine wpp fun k h=>?_;go_simp;apply h;clear h k
 refine wln (hK1 _ _ ?_)
 refine wsr fun _ hK14=>?_
 have cl0 := (hb2.up ((hu7.out.trans hu10.out).trans hu13.out)).cell (o := 0) rfl
 refine wpp fun k h=>?_;go_simp;apply h;clear h k
 clear cl0
 refine wpp fun k h=>?_;go_simp;apply h;clear h k
 refine step_call wn (by go_simp <;> rfl) (impl_pointsWith__impl_pointsAt_1.calls K a0 b2 a0 b5 a1 b8 a2_0 a2_1 b11 a3 t15 w12 (hb2.up ((hu7.out.trans hu10.out).trans hu13.out)) (hb5.up (hu10.out.trans hu13.out)) (hb8.up hu13.out) hb11 A18.out) ?_
 rintro e w19 ⟨P16, q17, rfl, ht15, hu⟩
 have hu20 := Aside0.mk hu
 clear hu
 refine ⟨_, rfl, ?_⟩
 simp only[nm]
 refine wpp fun k h=>?_;go_simp;apply h;clear h k
 refine wln (hK14 _ _ ?_)
 refine wp_ret ?_
 refine hQf _ _ _ ?_
 exact bpr (v := .slice P16 t15.length q17) ⟨P16, q17, rfl, (ht15.lower ((Nat.le_trans ((Nat.le_trans ((Nat.le_trans (hu4.out.size) hu7.out.size)) hu10.out.size)) hu13.out.size))), ((((hu4.out.trans hu7.out).trans hu10.out).trans hu13.out).trans hu20.out)⟩

set_option maxHeartbeats 40000000 in
set_option maxRecDepth 100000 in
theorem impl_inverse.calls (K : Nat) (a0 : Int) (a1 : Int) (r0 : Int) (w : World)  (h : impl_inverse.f K a0 a1 = some (r0)) :
    Calls Try.prog 92 #[.int .i64 a0, .int .i64 a1] w fun e w' => e = .returned (.int .i64 r0) ∧ Up w w' := by
 have H : ((impl_inverse.l0 K a0 a1 K 1) : Option (Int)) = some (r0) := h
 clear h
 go_enter Try.func92, Try.ntmps92
 refine wp_hide (fun Qf hQf => ?_)
 refine wsr fun _ hK1=>?_
 refine wpp fun k h=>?_;go_simp;apply h;clear h k
 refine wln (hK1 _ _ ?_)
 refine wp_seq_k fun K2 hK2=>?_
 refine wsr fun _ hK3=>?_
 refine wpp fun k h=>?_;go_simp;apply h;clear h k
 refine wln (hK3 _ _ ?_)
 refine wp_block ?_
 have HL8 := Aside0.mk H
 clear H
 go_loopg [5] K (fun kq v5 w' => ∃ (x4 : Int), v5 = .int .i64 x4 ∧ Aside0 (impl_inverse.l0 K a0 a1 kq x4 = some (r0)) ∧ Aside0 (kq ≤ K) ∧ Aside0 (Up w w') ∧ Aside0 (w.heap.size ≤ w'.heap.size))
 case atStart => exact ⟨1, (by first | rfl | simp), HL8, ⟨Nat.le_refl _⟩, ⟨(Up.refl _)⟩, ⟨Nat.le_refl _⟩⟩
 case round =>
  rename_i J11 K12 hJ11 hK12
  obtain ⟨x4, rfl, HL13, hk10, hu6, hz7⟩ := hrel
  obtain ⟨w5, rfl⟩ : ∃ wo : World, wo = wr := ⟨_, rfl⟩
  obtain ⟨k9, rfl⟩ | rfl : (∃ k, gk = k + 1) ∨ gk = 0 := by rcases gk with _ | k; exact .inr rfl; exact .inl ⟨k, rfl⟩
  case inr => exact absurd HL13.out (by simp [impl_inverse.l0])
  have H := HL13.out
  clear HL13
  rw [impl_inverse.l0] at H
  refine wp_seq_k fun K14 hK14=>?_
  refine wsr fun _ hK15=>?_
  iterate 3 (refine wpp fun k h=>?_;go_simp;apply h;clear h k)
  refine wln (hK15 _ _ ?_)
  by_cases c16 : (decide (x4 < a0)) = true
  rotate_left
  ·
   rw [if_neg c16] at H; replace c16 := Bool.eq_false_iff.mpr c16
   obtain rfl := Option.some.inj H
   try simp only [c16, Bool.not_true, Bool.not_false]
   refine wp_cond_false rfl ?_
   refine wp_exit ?_
   refine hK2 _ _ ?_
   refine wsr fun _ hK23=>?_
   refine wpp fun k h=>?_;go_simp;apply h;clear h k
   refine wln (hK23 _ _ ?_)
   refine wp_ret ?_
   refine hQf _ _ _ ?_
   exact bpr (v := .int .i64 0) ⟨rfl, hu6.out⟩
  rw [if_pos c16] at H
  try simp only [c16, Bool.not_true, Bool.not_false]
  refine wp_cond_true rfl ?_
  refine wp_skip ?_
  refine hK14 _ _ ?_
  refine wp_seq_k fun K17 hK17=>?_
  refine wp_block ?_
  refine wsr fun _ hK18=>?_
  iterate 4 (refine wpp fun k h=>?_;go_simp;apply h;clear h k)
  by_cases c19 : (a0 == 0) = true
  ·
   rw [if_pos c19] at H
   have c19n : (a0 != 0) = false := by rw [bne, c19]; rfl
   exact absurd H (by simp)
  rw [if_neg c19] at H; replace c19 := Bool.eq_false_iff.mpr c19
  have c19n : (a0 != 0) = true := by rw [bne, c19]; rfl
  have c19p : ¬ a0 = 0 := fun e => by simp [e] at c19
  try simp only [c19, c19n, Bool.not_true, Bool.not_false]
  iterate 2 (refine wpp fun k h=>?_;go_simp;apply h;clear h k)
  refine wln (hK18 _ _ ?_)
  by_cases c20 : ((Int.tmod (wrap64 (a1 * x4)) a0) == 1) = true
  ·
   rw [if_pos c20] at H
   have c20n : ((Int.tmod (wrap64 (a1 * x4)) a0) != 1) = false := by rw [bne, c20]; rfl
   obtain rfl := Option.some.inj H
   try simp only [c20, c20n, Bool.not_true, Bool.not_false]
   refine wp_cond_true rfl ?_
   refine wsr fun _ hK21=>?_
   iterate 2 (refine wpp fun k h=>?_;go_simp;apply h;clear h k)
   refine wln (hK21 _ _ ?_)
   refine wp_ret ?_
   refine hQf _ _ _ ?_
   exact bpr (v := .int .i64 x4) ⟨rfl, hu6.out⟩
  rw [if_neg c20] at H; replace c20 := Bool.eq_false_iff.mpr c20
  have c20n : ((Int.tmod (wrap64 (a1 * x4)) a0) != 1) = true := by rw [bne, c20]; rfl
  have c20p : ¬ (Int.tmod (wrap64 (a1 * x4)) a0) = 1 := fun e => by simp [e] at c20
  have HL22 := Aside0.mk H
  clear H
  try simp only [c20, c20n, Bool.not_true, Bool.not_false]
  refine wp_cond_false rfl ?_
  refine wp_skip ?_
  refine hK17 _ _ ?_
  refine wp_region_lit ?_
  iterate 3 (refine wpp fun k h=>?_;go_simp;apply h;clear h k)
  refine wln (hK12 _ _ ?_)
  go_roundg k9
  case measure => exact Nat.lt_succ_self _
  case rel => exact ⟨wrap64 (x4 + 1), (by first | rfl | simp), HL22, ⟨by have := hk10.out; omega⟩, ⟨hu6.out⟩, ⟨(Nat.le_trans (Nat.le_refl _) hz7.out)⟩⟩

set_option maxHeartbeats 40000000 in
set_option maxRecDepth 100000 in
theorem impl_divide.calls (K : Nat) (a0 : Int) (a1 : Int) (a2 : Int) (r0 : Int) (w : World)  (h : impl_divide.f K a0 a1 a2 = some (r0)) :
    Calls Try.prog 90 #[.int .i64 a0, .int .i64 a1, .int .i64 a2] w fun e w' => e = .returned (.int .i64 r0) ∧ Up w w' := by
 have H : (((impl_inverse.f K a0 a2).bind fun t3 => ((impl_rest.f K a0 (wrap64 (a1 * t3))).bind fun t7 => some t7)) : Option (Int)) = some (r0) := h
 clear h
 obtain ⟨t3,A4,H⟩:=bnd H;try dsimp only at H
 obtain ⟨t7,A8,H⟩:=bnd H;try dsimp only at H
 obtain rfl := Option.some.inj H
 go_enter Try.func90, Try.ntmps90
 refine wp_hide (fun Qf hQf => ?_)
 refine wsr fun _ hK1=>?_
 refine wpp fun k h=>?_;go_simp;apply h;clear h k
 refine wln (hK1 _ _ ?_)
 refine wsr fun _ hK2=>?_
 iterate 4 (refine wpp fun k h=>?_;go_simp;apply h;clear h k)
 refine stc (impl_inverse.calls K a0 a2 t3 w  A4.out) ?_
 intro w5 hu6
 simp only[nm]
 refine wpp fun k h=>?_;go_simp;apply h;clear h k
 refine stc (impl_rest.calls K a0 (wrap64 (a1 * t3)) t7 w5  A8.out) ?_
 intro w9 hu10
 simp only[nm]
 refine wpp fun k h=>?_;go_simp;apply h;clear h k
 refine wln (hK2 _ _ ?_)
 refine wp_ret ?_
 refine hQf _ _ _ ?_
 exact bpr (v := .int .i64 t7) ⟨rfl, (hu6.out.trans hu10.out)⟩

set_option maxHeartbeats 40000000 in
set_option maxRecDepth 100000 in
theorem impl_makeLine.calls (K : Nat) (a0 : Int) (a1 : Int) (a2 : Int) (a3 : Int) (r0 : Int) (r1 : Int) (r2 : Int) (w : World)  (h : impl_makeLine.f K a0 a1 a2 a3 = some (r0, r1, r2)) :
    Calls Try.prog 84 #[.int .i64 a0, .int .i64 a1, .int .i64 a2, .int .i64 a3] w fun e w' => e = .returned (.agg #[.int .i64 r0, .int .i64 r1, .int .i64 r2]) ∧ Up w w' := by
 have H : (((impl_rest.f K a0 a1).bind fun t6 => ((impl_rest.f K a0 a2).bind fun t10 => ((impl_rest.f K a0 a3).bind fun t14 => (if (t6 == 0) = true then ((impl_divide.f K a0 t6 t10).bind fun t24 => ((impl_divide.f K a0 t10 t10).bind fun t28 => ((impl_divide.f K a0 t14 t10).bind fun t32 => some (t24, t28, t32)))) else ((impl_divide.f K a0 t6 t6).bind fun t40 => ((impl_divide.f K a0 t10 t6).bind fun t44 => ((impl_divide.f K a0 t14 t6).bind fun t48 => some (t40, t44, t48)))))))) : Option (Int × Int × Int)) = some (r0, r1, r2) := h
 clear h
 obtain ⟨t6,A7,H⟩:=bnd H;try dsimp only at H
 obtain ⟨t10,A11,H⟩:=bnd H;try dsimp only at H
 obtain ⟨t14,A15,H⟩:=bnd H;try dsimp only at H
 go_enter Try.func84, Try.ntmps84
 refine wp_hide (fun Qf hQf => ?_)
 refine wsr fun _ hK1=>?_
 refine stp (cs := [.int .i64 0, .int .i64 0, .int .i64 0]) (T := 40) ?_
 intro b2 w3 hu4 lbb2 ltb2 hb2
 simp only[nm]
 refine wln (hK1 _ _ ?_)
 refine wsr fun _ hK5=>?_
 iterate 2 (refine wpp fun k h=>?_;go_simp;apply h;clear h k)
 refine stc (impl_rest.calls K a0 a1 t6 w3  A7.out) ?_
 intro w8 hu9
 simp only[nm]
 iterate 2 (refine wpp fun k h=>?_;go_simp;apply h;clear h k)
 refine stc (impl_rest.calls K a0 a2 t10 w8  A11.out) ?_
 intro w12 hu13
 simp only[nm]
 iterate 2 (refine wpp fun k h=>?_;go_simp;apply h;clear h k)
 refine stc (impl_rest.calls K a0 a3 t14 w12  A15.out) ?_
 intro w16 hu17
 simp only[nm]
 iterate 3 (refine wpp fun k h=>?_;go_simp;apply h;clear h k)
 refine wln (hK5 _ _ ?_)
 refine wsr fun _ hK18=>?_
 iterate 2 (refine wpp fun k h=>?_;go_simp;apply h;clear h k)
 refine wln (hK18 _ _ ?_)
 refine wp_seq_k fun K19 hK19=>?_
 refine wsr fun _ hK20=>?_
 iterate 2 (refine wpp fun k h=>?_;go_simp;apply h;clear h k)
 refine wln (hK20 _ _ ?_)
 have hm22 := Aside0.mk (((hu4.out.trans hu9.out).trans hu13.out).trans hu17.out)
 by_cases c21 : (t6 == 0) = true
 rotate_left
 ·
  rw [if_neg c21] at H; replace c21 := Bool.eq_false_iff.mpr c21
  have c21n : (t6 != 0) = true := by rw [bne, c21]; rfl
  have c21p : ¬ t6 = 0 := fun e => by simp [e] at c21
  obtain ⟨t40,A41,H⟩:=bnd H;try dsimp only at H
  obtain ⟨t44,A45,H⟩:=bnd H;try dsimp only at H
  obtain ⟨t48,A49,H⟩:=bnd H;try dsimp only at H
  simp only [Option.some.injEq, Prod.mk.injEq] at H
  obtain ⟨rfl, rfl, rfl⟩ := H
  try simp only [c21, c21n, Bool.not_true, Bool.not_false]
  refine wp_cond_false rfl ?_
  refine wp_skip ?_
  refine hK19 _ _ ?_
  refine wsr fun _ hK39=>?_
  iterate 3 (refine wpp fun k h=>?_;go_simp;apply h;clear h k)
  refine stc (impl_divide.calls K a0 t6 t6 t40 w16  A41.out) ?_
  intro w42 hu43
  simp only[nm]
  iterate 3 (refine wpp fun k h=>?_;go_simp;apply h;clear h k)
  refine stc (impl_divide.calls K a0 t10 t6 t44 w42  A45.out) ?_
  intro w46 hu47
  simp only[nm]
  iterate 3 (refine wpp fun k h=>?_;go_simp;apply h;clear h k)
  refine stc (impl_divide.calls K a0 t14 t6 t48 w46  A49.out) ?_
  intro w50 hu51
  simp only[nm]
  refine wpp fun k h=>?_;go_simp;apply h;clear h k
  refine stw [.int .i64 t40, .int .i64 t44, .int .i64 t48] (hb2.up (((((hu9.out.trans hu13.out).trans hu17.out).trans hu43.out).trans hu47.out).trans hu51.out)) rfl rfl rfl rfl rfl (by kernel_rfl) rfl rfl ?_
  intro w52 hs53 hb54
  refine wln (hK39 _ _ ?_)
  refine wp_ret ?_
  refine hQf _ _ _ ?_
  have cr0 := hb54.cell (o := 0) rfl
  have cr1 := hb54.cell (o := 1) rfl
  have cr2 := hb54.cell (o := 2) rfl
  exact bodyPost_ret (v := .agg #[.int .i64 t40, .int .i64 t44, .int .i64 t48]) (by first|rfl|simp [results, Try.results84, go_sem, cr0, cr1, cr2]<;>rfl) rfl ⟨rfl, ((((hm22.out.trans hu43.out).trans hu47.out).trans hu51.out).sto (Nat.le_trans (Nat.le_refl _) lbb2.out) hs53.out)⟩
 rw [if_pos c21] at H
 have c21n : (t6 != 0) = false := by rw [bne, c21]; rfl
 obtain ⟨t24,A25,H⟩:=bnd H;try dsimp only at H
 obtain ⟨t28,A29,H⟩:=bnd H;try dsimp only at H
 obtain ⟨t32,A33,H⟩:=bnd H;try dsimp only at H
 simp only [Option.some.injEq, Prod.mk.injEq] at H
 obtain ⟨rfl, rfl, rfl⟩ := H
 try simp only [c21, c21n, Bool.not_true, Bool.not_false]
 refine wp_cond_true rfl ?_
 refine wp_region_lit ?_
 iterate 2 (refine wpp fun k h=>?_;go_simp;apply h;clear h k)
 refine wln (hK19 _ _ ?_)
 refine wsr fun _ hK23=>?_
 iterate 3 (refine wpp fun k h=>?_;go_simp;apply h;clear h k)
 refine stc (impl_divide.calls K a0 t6 t10 t24 w16  A25.out) ?_
 intro w26 hu27
 simp only[nm]
 iterate 3 (refine wpp fun k h=>?_;go_simp;apply h;clear h k)
 refine stc (impl_divide.calls K a0 t10 t10 t28 w26  A29.out) ?_
 intro w30 hu31
 simp only[nm]
 iterate 3 (refine wpp fun k h=>?_;go_simp;apply h;clear h k)
 refine stc (impl_divide.calls K a0 t14 t10 t32 w30  A33.out) ?_
 intro w34 hu35
 simp only[nm]
 refine wpp fun k h=>?_;go_simp;apply h;clear h k
 refine stw [.int .i64 t24, .int .i64 t28, .int .i64 t32] (hb2.up (((((hu9.out.trans hu13.out).trans hu17.out).trans hu27.out).trans hu31.out).trans hu35.out)) rfl rfl rfl rfl rfl (by kernel_rfl) rfl rfl ?_
 intro w36 hs37 hb38
 refine wln (hK23 _ _ ?_)
 refine wp_ret ?_
 refine hQf _ _ _ ?_
 have cr0 := hb38.cell (o := 0) rfl
 have cr1 := hb38.cell (o := 1) rfl
 have cr2 := hb38.cell (o := 2) rfl
 exact bodyPost_ret (v := .agg #[.int .i64 t24, .int .i64 t28, .int .i64 t32]) (by first|rfl|simp [results, Try.results84, go_sem, cr0, cr1, cr2]<;>rfl) rfl ⟨rfl, ((((hm22.out.trans hu27.out).trans hu31.out).trans hu35.out).sto (Nat.le_trans (Nat.le_refl _) lbb2.out) hs37.out)⟩

set_option maxHeartbeats 40000000 in
set_option maxRecDepth 100000 in
theorem impl_through.calls (K : Nat) (a0 : Int) (a1_0 : Int) (a1_1 : Int) (a2_0 : Int) (a2_1 : Int) (r0 : Int) (r1 : Int) (r2 : Int) (w : World)  (h : impl_through.f K a0 a1_0 a1_1 a2_0 a2_1 = some (r0, r1, r2)) :
    Calls Try.prog 59 #[.int .i64 a0, .agg #[.int .i64 a1_0, .int .i64 a1_1], .agg #[.int .i64 a2_0, .int .i64 a2_1]] w fun e w' => e = .returned (.agg #[.int .i64 r0, .int .i64 r1, .int .i64 r2]) ∧ Up w w' := by
 have H : (((impl_makeLine.f K a0 a2_1 (wrap64 (-a2_0)) (wrap64 (-(wrap64 ((wrap64 (a2_1 * a1_0)) + (wrap64 ((wrap64 (-a2_0)) * a1_1))))))).bind fun (t15, t16, t17) => some (t15, t16, t17)) : Option (Int × Int × Int)) = some (r0, r1, r2) := h
 clear h
 obtain ⟨⟨t15, t16, t17⟩,A18,H⟩:=bnd H;try dsimp only at H
 simp only [Option.some.injEq, Prod.mk.injEq] at H
 obtain ⟨rfl, rfl, rfl⟩ := H
 go_enter Try.func59, Try.ntmps59
 refine wp_hide (fun Qf hQf => ?_)
 refine wsr fun _ hK1=>?_
 refine stp (cs := [.int .i64 a1_0, .int .i64 a1_1]) (T := 28) ?_
 intro b2 w3 hu4 lbb2 ltb2 hb2
 simp only[nm]
 refine stp (cs := [.int .i64 a2_0, .int .i64 a2_1]) (T := 28) ?_
 intro b5 w6 hu7 lbb5 ltb5 hb5
 simp only[nm]
 refine stp (cs := [.int .i64 0, .int .i64 0, .int .i64 0]) (T := 40) ?_
 intro b8 w9 hu10 lbb8 ltb8 hb8
 simp only[nm]
 refine wln (hK1 _ _ ?_)
 refine wp_seq_k fun K11 hK11=>?_
 refine' wp_region_up 7 [Slot.det _, Slot.det _, Slot.det _, Slot.det _, Slot.det _, Slot.det _, Slot.det _] (by kernel_rfl) (by kernel_rfl) ?main
 case main =>
  simp only [List.take_succ_cons, List.take_zero]
  refine wpK_ops rfl (fun w1 hu => ?_) ?_
  · clear hu
    go_simp
    first | done | rfl
  simp only[nm]
  refine wpK_ops rfl (fun w1 hu => ?_) ?_
  · have cl0 := ((hb5.up hu10.out).up ((Up.refl _).drew.trans hu)).cell (o := 1) rfl
    go_simp
    first | done | rfl
  simp only[nm]
  refine wpK_ops rfl (fun w1 hu => ?_) ?_
  · clear hu
    go_simp
    first | done | rfl
  simp only[nm]
  refine wpK_ops rfl (fun w1 hu => ?_) ?_
  · have cl0 := ((hb5.up hu10.out).up ((Up.refl _).drew.trans hu)).cell (o := 0) rfl
    go_simp
    first | done | rfl
  simp only[nm]
  refine wpK_ops rfl (fun w1 hu => ?_) ?_
  · clear hu
    go_simp
    first | done | rfl
  simp only[nm]
  refine wpK_ops rfl (fun w1 hu => ?_) ?_
  · clear hu
    go_simp
    first | done | rfl
  simp only[nm]
  refine wpK_ops rfl (fun w1 hu => ?_) ?_
  · clear hu
    go_simp
    first | done | rfl
  simp only[nm]
  refine wpK_nil ?_
  intro w12 hu hap
  simp only [List.drop_succ_cons, List.drop_zero]
  replace hu := (Up.refl _).drew.trans hu
  clear hap
  have hu13 := Aside0.mk hu
  clear hu
  refine wln (hK11 _ _ ?_)
  refine wsr fun _ hK14=>?_
  iterate 5 (refine wpp fun k h=>?_;go_simp;apply h;clear h k)
  have cl0 := (hb2.up ((hu7.out.trans hu10.out).trans hu13.out)).cell (o := 0) rfl
  refine wpp fun k h=>?_;go_simp;apply h;clear h k
  clear cl0
  iterate 3 (refine wpp fun k h=>?_;go_simp;apply h;clear h k)
  have cl0 := (hb2.up ((hu7.out.trans hu10.out).trans hu13.out)).cell (o := 1) rfl
  refine wpp fun k h=>?_;go_simp;apply h;clear h k
  clear cl0
  iterate 3 (refine wpp fun k h=>?_;go_simp;apply h;clear h k)
  refine stc (impl_makeLine.calls K a0 a2_1 (wrap64 (-a2_0)) (wrap64 (-(wrap64 ((wrap64 (a2_1 * a1_0)) + (wrap64 ((wrap64 (-a2_0)) * a1_1)))))) t15 t16 t17 w12  A18.out) ?_
  intro w19 hu20
  simp only[nm]
  refine stw [.int .i64 t15, .int .i64 t16, .int .i64 t17] (hb8.up (hu13.out.trans hu20.out)) rfl rfl rfl rfl rfl (by kernel_rfl) rfl rfl ?_
  intro w21 hs22 hb23
  refine wln (hK14 _ _ ?_)
  refine wp_ret ?_
  refine hQf _ _ _ ?_
  have cr0 := hb23.cell (o := 0) rfl
  have cr1 := hb23.cell (o := 1) rfl
  have cr2 := hb23.cell (o := 2) rfl
  exact bodyPost_ret (v := .agg #[.int .i64 t15, .int .i64 t16, .int .i64 t17]) (by first|rfl|simp [results, Try.results59, go_sem, cr0, cr1, cr2]<;>rfl) rfl ⟨rfl, (((((hu4.out.trans hu7.out).trans hu10.out).trans hu13.out).trans hu20.out).sto (Nat.le_trans ((Nat.le_trans (hu4.out.size) hu7.out.size)) lbb8.out) hs22.out)⟩

set_option maxHeartbeats 40000000 in
set_option maxRecDepth 100000 in
theorem impl_lineThrough.calls (K : Nat) (a0 : Int) (a1_0 : Int) (a1_1 : Int) (a2_0 : Int) (a2_1 : Int) (r0 : Int) (r1 : Int) (r2 : Int) (w : World)  (h : impl_lineThrough.f K a0 a1_0 a1_1 a2_0 a2_1 = some (r0, r1, r2)) :
    Calls Try.prog 41 #[.int .i64 a0, .agg #[.int .i64 a1_0, .int .i64 a1_1], .agg #[.int .i64 a2_0, .int .i64 a2_1]] w fun e w' => e = .returned (.agg #[.int .i64 r0, .int .i64 r1, .int .i64 r2]) ∧ Up w w' := by
 have H : (((impl_less.f K a0 a2_0 a2_1 a1_0 a1_1).bind fun (t12, t13) => ((impl_through.f K a0 a1_0 a1_1 t12 t13).bind fun (t15, t16, t17) => some (t15, t16, t17))) : Option (Int × Int × Int)) = some (r0, r1, r2) := h
 clear h
 obtain ⟨⟨t12, t13⟩,A14,H⟩:=bnd H;try dsimp only at H
 obtain ⟨⟨t15, t16, t17⟩,A18,H⟩:=bnd H;try dsimp only at H
 simp only [Option.some.injEq, Prod.mk.injEq] at H
 obtain ⟨rfl, rfl, rfl⟩ := H
 go_enter Try.func41, Try.ntmps41
 refine wp_hide (fun Qf hQf => ?_)
 refine wsr fun _ hK1=>?_
 refine stp (cs := [.int .i64 a1_0, .int .i64 a1_1]) (T := 28) ?_
 intro b2 w3 hu4 lbb2 ltb2 hb2
 simp only[nm]
 refine stp (cs := [.int .i64 a2_0, .int .i64 a2_1]) (T := 28) ?_
 intro b5 w6 hu7 lbb5 ltb5 hb5
 simp only[nm]
 refine stp (cs := [.int .i64 0, .int .i64 0, .int .i64 0]) (T := 40) ?_
 intro b8 w9 hu10 lbb8 ltb8 hb8
 simp only[nm]
 refine wln (hK1 _ _ ?_)
 refine wp_seq_k fun K11 hK11=>?_
 refine' wp_region_up 7 [Slot.det _, Slot.det _, Slot.det _, Slot.det _, Slot.det _, Slot.det (.agg #[.int .i64 t12, .int .i64 t13]), Slot.det (.agg #[.int .i64 t15, .int .i64 t16, .int .i64 t17])] (by kernel_rfl) (by kernel_rfl) ?main
 case main =>
  simp only [List.take_succ_cons, List.take_zero]
  refine wpK_ops rfl (fun w1 hu => ?_) ?_
  · clear hu
    go_simp
    first | done | rfl
  simp only[nm]
  refine wpK_ops rfl (fun w1 hu => ?_) ?_
  · have cl0 := ((hb2.up (hu7.out.trans hu10.out)).up ((Up.refl _).drew.trans hu)).cell (o := 0) rfl
    have cl1 := ((hb2.up (hu7.out.trans hu10.out)).up ((Up.refl _).drew.trans hu)).cell (o := 1) rfl
    go_simp
    first | done | rfl
  simp only[nm]
  refine wpK_ops rfl (fun w1 hu => ?_) ?_
  · clear hu
    go_simp
    first | done | rfl
  simp only[nm]
  refine wpK_ops rfl (fun w1 hu => ?_) ?_
  · have cl0 := ((hb5.up hu10.out).up ((Up.refl _).drew.trans hu)).cell (o := 0) rfl
    have cl1 := ((hb5.up hu10.out).up ((Up.refl _).drew.trans hu)).cell (o := 1) rfl
    go_simp
    first | done | rfl
  simp only[nm]
  refine wpK_ops rfl (fun w1 hu => ?_) ?_
  · have cl0 := ((hb2.up (hu7.out.trans hu10.out)).up ((Up.refl _).drew.trans hu)).cell (o := 0) rfl
    have cl1 := ((hb2.up (hu7.out.trans hu10.out)).up ((Up.refl _).drew.trans hu)).cell (o := 1) rfl
    go_simp
    first | done | rfl
  simp only[nm]
  refine wpK_ops rfl (fun w1 hu => ?_) ?_
  · have hcl := (impl_less.calls K a0 a2_0 a2_1 a1_0 a1_1 t12 t13 w1  A14.out)
    clear hu
    replace hcl := Aside0.mk hcl
    go_simp
    exact hcl.out
  simp only[nm]
  refine wpK_ops rfl (fun w1 hu => ?_) ?_
  · have hcl := (impl_through.calls K a0 a1_0 a1_1 t12 t13 t15 t16 t17 w1  A18.out)
    clear hu
    replace hcl := Aside0.mk hcl
    go_simp
    exact hcl.out
  simp only[nm]
  refine wpK_nil ?_
  intro w19 hu hap
  simp only [List.drop_succ_cons, List.drop_zero]
  replace hu := (Up.refl _).drew.trans hu
  clear hap
  have hu20 := Aside0.mk hu
  clear hu
  refine stw [.int .i64 t15, .int .i64 t16, .int .i64 t17] (hb8.up hu20.out) rfl rfl rfl rfl rfl (by kernel_rfl) rfl rfl ?_
  intro w21 hs22 hb23
  refine wln (hK11 _ _ ?_)
  refine wp_ret ?_
  refine hQf _ _ _ ?_
  have cr0 := hb23.cell (o := 0) rfl
  have cr1 := hb23.cell (o := 1) rfl
  have cr2 := hb23.cell (o := 2) rfl
  exact bodyPost_ret (v := .agg #[.int .i64 t15, .int .i64 t16, .int .i64 t17]) (by first|rfl|simp [results, Try.results41, go_sem, cr0, cr1, cr2]<;>rfl) rfl ⟨rfl, ((((hu4.out.trans hu7.out).trans hu10.out).trans hu20.out).sto (Nat.le_trans ((Nat.le_trans (hu4.out.size) hu7.out.size)) lbb8.out) hs22.out)⟩

end Go.Proofs.Ytgboaomjahceiaa
