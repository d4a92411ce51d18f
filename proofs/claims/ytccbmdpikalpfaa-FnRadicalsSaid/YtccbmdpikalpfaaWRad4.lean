/- The walks: each of these functions of the program computes what its plain function says: spec_DrawAreCyclic, impl_arePoints, impl_AreCyclic_1, impl_asked__impl_AreCyclic_1, impl_circumcentre, impl_circleThrough, impl_AreCyclic, impl_isLine, impl_PointsOn_1, impl_asked__impl_PointsOn_1, impl_isOn, impl_PointsOn_2, impl_pointsWith__impl_PointsOn_2, impl_PointsOn, impl_PowerOf_1, impl_asked__impl_PowerOf_1, impl_PowerOf, laws_hasPoint9, impl_Quadrance_1, impl_asked__impl_Quadrance_1, impl_Quadrance, impl_ArchimedesOf_1, impl_asked__impl_ArchimedesOf_1, impl_archimedes, impl_ArchimedesOf, spec_AreCyclic. -/
import Derived.Test.YtccbmdpikalpfaaProg
import Derived.Test.YtccbmdpikalpfaaD1
import Derived.WalkKit
import Derived.KernelRfl
import Derived.BigQuiet
import Derived.Deep.LoopGhost
import Derived.Laws.StructEq
import Derived.Test.YtccbmdpikalpfaaWRad3
namespace Go.Proofs.Ytccbmdpikalpfaa
open Go Go.RowKit
attribute [local go_sem] Oper.quiet Oper.quietAt Oper.quietUpon Act.put nm1 nm2 nm3 i64_w run_max2 run_min2 mkT_getD mkT_get mkT_set lookT_cons lookT_nil
attribute [local irreducible] wpList
set_option linter.unusedVariables false
set_option linter.unusedSimpArgs false
attribute [local go_sem] eqT30
attribute [local go_sem] eqT34

set_option maxHeartbeats 40000000 in
set_option maxRecDepth 100000 in
theorem spec_DrawAreCyclic.calls (K : Nat) (a0_A : Option Addr) (a0_c : Nat) (a0 : List (Int)) (r0 : Int) (r1 : Int) (r2 : Int) (r3 : Int) (r4 : Int) (r5 : Int) (r6 : Int) (r7 : Int) (r8 : Int) (r9 : Int) (w : World) (ha0 : Rd eU8 w a0_A a0) (h : spec_DrawAreCyclic.f K a0 = some (r0, r1, r2, r3, r4, r5, r6, r7, r8, r9)) :
    Calls Try.prog 60 #[.slice a0_A a0.length a0_c] w fun e w' => e = .returned (.tuple #[.int .i64 r0, .int .i64 r1, .agg #[.int .i64 r2, .int .i64 r3], .agg #[.int .i64 r4, .int .i64 r5], .agg #[.int .i64 r6, .int .i64 r7], .agg #[.int .i64 r8, .int .i64 r9]]) ∧ Up w w' := by
 have H : (((spec_l01From.f K a0).bind fun (t16, t17) => ((spec_l04Draw.f K a0).bind fun (t22, t23, t24, t25, t26, t27, t28, t29) => ((spec_l01DrawPoint.f K a0 t16 t17 (imin (imax t22 3) 31)).bind fun (t58, t59, t60, t61) => ((spec_l04Code.f K t22 t23 t24 t25 t26 t27 t28 t29).bind fun t77 => (if (t77 == 0) = true then ((spec_l01Next.f K a0 t60 t61 2).bind fun (t91, t92, t93) => (if (t91 == 0) = true then ((spec_l06Through.f K t22 t23 t24 t25 t26 t27 t28 t29).bind fun (t109, t110, t111) => ((spec_l02At.f K t22 t23 t109 t110 t111).bind fun t122 => ((spec_l01Next.f K a0 t92 t93 (t122.length : Int)).bind fun (t128, t129, t130) => ((idx t122 t128).bind fun (t144, t145) => some (t22, t23, t24, t25, t26, t27, t28, t29, t144, t145))))) else some (t22, t23, t24, t25, t26, t27, t28, t29, t58, t59))) else some (t22, t23, t24, t25, t26, t27, t28, t29, t58, t59)))))) : Option (Int × Int × Int × Int × Int × Int × Int × Int × Int × Int)) = some (r0, r1, r2, r3, r4, r5, r6, r7, r8, r9) := h
 clear h
 obtain ⟨⟨t16, t17⟩,A18,H⟩:=Option.bind_eq_some_iff.mp H
 replace A18:=Aside0.mk A18;try dsimp only at H
 obtain ⟨⟨t22, t23, t24, t25, t26, t27, t28, t29⟩,A30,H⟩:=Option.bind_eq_some_iff.mp H
 replace A30:=Aside0.mk A30;try dsimp only at H
 obtain ⟨⟨t58, t59, t60, t61⟩,A62,H⟩:=Option.bind_eq_some_iff.mp H
 replace A62:=Aside0.mk A62;try dsimp only at H
 obtain ⟨t77,A78,H⟩:=Option.bind_eq_some_iff.mp H
 replace A78:=Aside0.mk A78;try dsimp only at H
 go_enter Try.func60, Try.ntmps60
 refine wp_hide (fun Qf hQf => ?_)
 refine wp_seq_k fun K1 hK1=>wp_region_lit ?_
 iterate 2 (refine wpp fun k h=>?_;go_simp;apply h;clear h k)
 refine step_new (cs := [.int .i64 0, .int .i64 0]) (T := 30) (f := fun b => .pointer (some ⟨b, 0, none⟩)) rfl (by go_simp <;> rfl) ?_
 intro b2 w3 hu lb hb2
 simp only[Act.put,nm1,nm2,nm3]
 have lbb2 := Aside0.mk lb
 have ltb2 := Aside0.mk hb2.lt
 clear lb
 have hu4 := Aside0.mk hu
 clear hu
 refine step_new (cs := [.int .i64 0, .int .i64 0]) (T := 30) (f := fun b => .pointer (some ⟨b, 0, none⟩)) rfl (by go_simp <;> rfl) ?_
 intro b5 w6 hu lb hb5
 simp only[Act.put,nm1,nm2,nm3]
 have lbb5 := Aside0.mk lb
 have ltb5 := Aside0.mk hb5.lt
 clear lb
 have hu7 := Aside0.mk hu
 clear hu
 refine step_new (cs := [.int .i64 0, .int .i64 0]) (T := 30) (f := fun b => .pointer (some ⟨b, 0, none⟩)) rfl (by go_simp <;> rfl) ?_
 intro b8 w9 hu lb hb8
 simp only[Act.put,nm1,nm2,nm3]
 have lbb8 := Aside0.mk lb
 have ltb8 := Aside0.mk hb8.lt
 clear lb
 have hu10 := Aside0.mk hu
 clear hu
 refine step_new (cs := [.int .i64 0, .int .i64 0]) (T := 30) (f := fun b => .pointer (some ⟨b, 0, none⟩)) rfl (by go_simp <;> rfl) ?_
 intro b11 w12 hu lb hb11
 simp only[Act.put,nm1,nm2,nm3]
 have lbb11 := Aside0.mk lb
 have ltb11 := Aside0.mk hb11.lt
 clear lb
 have hu13 := Aside0.mk hu
 clear hu
 refine wpList_nil (hK1 _ _ ?_)
 refine wp_seq_k fun K14 hK14=>wp_region_lit ?_
 refine wpp fun k h=>?_;go_simp;apply h;clear h k
 refine step_call wn (by go_simp <;> rfl) (spec_l01From.calls K a0_A a0_c a0 t16 t17 w12 (ha0.up (((hu4.out.trans hu7.out).trans hu10.out).trans hu13.out)) A18.out) ?_
 rintro e w19 ⟨b15, rfl, hb15, lb, hu⟩
 have lbb15 := lb
 have ltb15 := Aside0.mk hb15.lt
 clear lb
 have hu20 := Aside0.mk hu
 clear hu
 refine ⟨_, rfl, ?_⟩
 simp only[Act.put,nm1,nm2,nm3]
 refine wpp fun k h=>?_;go_simp;apply h;clear h k
 refine wpList_nil (hK14 _ _ ?_)
 refine wp_seq_k fun K21 hK21=>wp_region_lit ?_
 refine wpp fun k h=>?_;go_simp;apply h;clear h k
 refine step_call wn (by go_simp <;> rfl) (spec_l04Draw.calls K a0_A a0_c a0 t22 t23 t24 t25 t26 t27 t28 t29 w19 (ha0.up ((((hu4.out.trans hu7.out).trans hu10.out).trans hu13.out).trans hu20.out)) A30.out) ?_
 rintro e w31 ⟨rfl, hu⟩
 have hu32 := Aside0.mk hu
 clear hu
 refine ⟨_, rfl, ?_⟩
 simp only[Act.put,nm1,nm2,nm3]
 iterate 6 (refine wpp fun k h=>?_;go_simp;apply h;clear h k)
 refine step_new (cs := [.int .i64 0, .int .i64 0]) (T := 30) (f := fun b => .pointer (some ⟨b, 0, none⟩)) rfl (by go_simp <;> rfl) ?_
 intro b33 w34 hu lb hb33
 simp only[Act.put,nm1,nm2,nm3]
 have lbb33 := Aside0.mk lb
 have ltb33 := Aside0.mk hb33.lt
 clear lb
 have hu35 := Aside0.mk hu
 clear hu
 refine step_new (cs := [.int .i64 0, .int .i64 0]) (T := 30) (f := fun b => .pointer (some ⟨b, 0, none⟩)) rfl (by go_simp <;> rfl) ?_
 intro b36 w37 hu lb hb36
 simp only[Act.put,nm1,nm2,nm3]
 have lbb36 := Aside0.mk lb
 have ltb36 := Aside0.mk hb36.lt
 clear lb
 have hu38 := Aside0.mk hu
 clear hu
 refine step_new (cs := [.int .i64 0, .int .i64 0]) (T := 30) (f := fun b => .pointer (some ⟨b, 0, none⟩)) rfl (by go_simp <;> rfl) ?_
 intro b39 w40 hu lb hb39
 simp only[Act.put,nm1,nm2,nm3]
 have lbb39 := Aside0.mk lb
 have ltb39 := Aside0.mk hb39.lt
 clear lb
 have hu41 := Aside0.mk hu
 clear hu
 iterate 2 (refine wpp fun k h=>?_;go_simp;apply h;clear h k)
 have hB0 := (hb33.up (hu38.out.trans hu41.out))
 have cl0 := hB0.cell (o := 0) rfl
 have fr0 := hB0.free 0
 have cl1 := hB0.cell (o := 1) rfl
 have fr1 := hB0.free 1
 refine step_store (b := b33) (cs' := [.int .i64 t24, .int .i64 t25]) (T := 30) (W' := ((w40.setCell ⟨b33, 0, none⟩ (.int .i64 t24)).setCell ⟨b33, 1, none⟩ (.int .i64 t25))) rfl rfl (by go_simp <;> rfl) (((Sto.refl _ _).setCell 0 _).setCell 1 _) (((hB0).setCell 0 _).setCell 1 _) ?_
 clear hB0 cl0 fr0 cl1 fr1
 intro w42 hs hb44
 have hs43 := Aside0.mk hs
 clear hs
 have h45 := (hb36.up hu41.out).sto hs43.out (Ne.symm (Nat.ne_of_lt (Nat.lt_of_lt_of_le ltb33.out lbb36.out)))
 have h46 := hb39.sto hs43.out (Ne.symm (Nat.ne_of_lt (Nat.lt_of_lt_of_le (Nat.lt_of_lt_of_le ltb33.out (hu38.out.size)) lbb39.out)))
 have hB0 := h45
 have cl0 := hB0.cell (o := 0) rfl
 have fr0 := hB0.free 0
 have cl1 := hB0.cell (o := 1) rfl
 have fr1 := hB0.free 1
 refine step_store (b := b36) (cs' := [.int .i64 t26, .int .i64 t27]) (T := 30) (W' := ((w42.setCell ⟨b36, 0, none⟩ (.int .i64 t26)).setCell ⟨b36, 1, none⟩ (.int .i64 t27))) rfl rfl (by go_simp <;> rfl) (((Sto.refl _ _).setCell 0 _).setCell 1 _) (((hB0).setCell 0 _).setCell 1 _) ?_
 clear hB0 cl0 fr0 cl1 fr1
 intro w47 hs hb49
 have hs48 := Aside0.mk hs
 clear hs
 have h50 := hb44.sto hs48.out (Nat.ne_of_lt (Nat.lt_of_lt_of_le ltb33.out lbb36.out))
 have h51 := h46.sto hs48.out (Ne.symm (Nat.ne_of_lt (Nat.lt_of_lt_of_le ltb36.out lbb39.out)))
 have hB0 := h51
 have cl0 := hB0.cell (o := 0) rfl
 have fr0 := hB0.free 0
 have cl1 := hB0.cell (o := 1) rfl
 have fr1 := hB0.free 1
 refine step_store (b := b39) (cs' := [.int .i64 t28, .int .i64 t29]) (T := 30) (W' := ((w47.setCell ⟨b39, 0, none⟩ (.int .i64 t28)).setCell ⟨b39, 1, none⟩ (.int .i64 t29))) rfl rfl (by go_simp <;> rfl) (((Sto.refl _ _).setCell 0 _).setCell 1 _) (((hB0).setCell 0 _).setCell 1 _) ?_
 clear hB0 cl0 fr0 cl1 fr1
 intro w52 hs hb54
 have hs53 := Aside0.mk hs
 clear hs
 have h55 := h50.sto hs53.out (Nat.ne_of_lt (Nat.lt_of_lt_of_le (Nat.lt_of_lt_of_le ltb33.out (hu38.out.size)) lbb39.out))
 have h56 := hb49.sto hs53.out (Nat.ne_of_lt (Nat.lt_of_lt_of_le ltb36.out lbb39.out))
 refine wpList_nil (hK21 _ _ ?_)
 refine wp_seq_k fun K57 hK57=>wp_region_lit ?_
 iterate 4 (refine wpp fun k h=>?_;go_simp;apply h;clear h k)
 refine step_call wn (by go_simp <;> rfl) (spec_l01DrawPoint.calls K b15 a0_A a0_c a0 t16 t17 (imin (imax t22 3) 31) t58 t59 t60 t61 w52 (hb15.up ((((((hu32.out.trans hu35.out).trans hu38.out).trans hu41.out).sto (Nat.le_trans (hu32.out.size) lbb33.out) hs43.out).sto (Nat.le_trans ((Nat.le_trans (hu32.out.size) hu35.out.size)) lbb36.out) hs48.out).sto (Nat.le_trans ((Nat.le_trans ((Nat.le_trans (hu32.out.size) hu35.out.size)) hu38.out.size)) lbb39.out) hs53.out)) (ha0.up (((((((((((hu4.out.trans hu7.out).trans hu10.out).trans hu13.out).trans hu20.out).trans hu32.out).trans hu35.out).trans hu38.out).trans hu41.out).sto (Nat.le_trans ((Nat.le_trans ((Nat.le_trans ((Nat.le_trans ((Nat.le_trans ((Nat.le_trans (hu4.out.size) hu7.out.size)) hu10.out.size)) hu13.out.size)) hu20.out.size)) hu32.out.size)) lbb33.out) hs43.out).sto (Nat.le_trans ((Nat.le_trans ((Nat.le_trans ((Nat.le_trans ((Nat.le_trans ((Nat.le_trans ((Nat.le_trans (hu4.out.size) hu7.out.size)) hu10.out.size)) hu13.out.size)) hu20.out.size)) hu32.out.size)) hu35.out.size)) lbb36.out) hs48.out).sto (Nat.le_trans ((Nat.le_trans ((Nat.le_trans ((Nat.le_trans ((Nat.le_trans ((Nat.le_trans ((Nat.le_trans ((Nat.le_trans (hu4.out.size) hu7.out.size)) hu10.out.size)) hu13.out.size)) hu20.out.size)) hu32.out.size)) hu35.out.size)) hu38.out.size)) lbb39.out) hs53.out)) (fun k hk hp => Nat.ne_of_lt (Nat.lt_of_lt_of_le ((ha0.up (((hu4.out.trans hu7.out).trans hu10.out).trans hu13.out)).blk_lt hp k hk) lbb15.out)) A62.out) ?_
 rintro e w63 ⟨rfl, h64, hs⟩
 have hs65 := Aside0.mk hs
 clear hs
 have h66 := h55.grow hs65.out (fun k hk e => (Nat.ne_of_lt (Nat.lt_of_lt_of_le (Nat.lt_of_lt_of_le ltb15.out (hu32.out.size)) lbb33.out)) ((Option.some.inj hk).trans e))
 have h67 := h56.grow hs65.out (fun k hk e => (Nat.ne_of_lt (Nat.lt_of_lt_of_le (Nat.lt_of_lt_of_le ltb15.out ((Nat.le_trans (hu32.out.size) hu35.out.size))) lbb36.out)) ((Option.some.inj hk).trans e))
 have h68 := hb54.grow hs65.out (fun k hk e => (Nat.ne_of_lt (Nat.lt_of_lt_of_le (Nat.lt_of_lt_of_le ltb15.out ((Nat.le_trans ((Nat.le_trans (hu32.out.size) hu35.out.size)) hu38.out.size))) lbb39.out)) ((Option.some.inj hk).trans e))
 refine ⟨_, rfl, ?_⟩
 simp only[Act.put,nm1,nm2,nm3]
 refine step_new (cs := [.int .i64 0, .int .i64 0]) (T := 30) (f := fun b => .pointer (some ⟨b, 0, none⟩)) rfl (by go_simp <;> rfl) ?_
 intro b69 w70 hu lb hb69
 simp only[Act.put,nm1,nm2,nm3]
 have lbb69 := Aside0.mk lb
 have ltb69 := Aside0.mk hb69.lt
 clear lb
 have hu71 := Aside0.mk hu
 clear hu
 have hB0 := hb69
 have cl0 := hB0.cell (o := 0) rfl
 have fr0 := hB0.free 0
 have cl1 := hB0.cell (o := 1) rfl
 have fr1 := hB0.free 1
 refine step_store (b := b69) (cs' := [.int .i64 t58, .int .i64 t59]) (T := 30) (W' := ((w70.setCell ⟨b69, 0, none⟩ (.int .i64 t58)).setCell ⟨b69, 1, none⟩ (.int .i64 t59))) rfl rfl (by go_simp <;> rfl) (((Sto.refl _ _).setCell 0 _).setCell 1 _) (((hB0).setCell 0 _).setCell 1 _) ?_
 clear hB0 cl0 fr0 cl1 fr1
 intro w72 hs hb74
 have hs73 := Aside0.mk hs
 clear hs
 refine wpList_nil (hK57 _ _ ?_)
 refine wp_seq_k fun K75 hK75=>?_
 refine wp_seq_k fun K76 hK76=>wp_region_lit ?_
 iterate 2 (refine wpp fun k h=>?_;go_simp;apply h;clear h k)
 have cl0 := (h66.up (hu71.out.sto (Nat.le_trans (Nat.le_refl _) lbb69.out) hs73.out)).cell (o := 0) rfl
 have cl1 := (h66.up (hu71.out.sto (Nat.le_trans (Nat.le_refl _) lbb69.out) hs73.out)).cell (o := 1) rfl
 refine wpp fun k h=>?_;go_simp;apply h;clear h k
 clear cl0 cl1
 have cl0 := (h67.up (hu71.out.sto (Nat.le_trans (Nat.le_refl _) lbb69.out) hs73.out)).cell (o := 0) rfl
 have cl1 := (h67.up (hu71.out.sto (Nat.le_trans (Nat.le_refl _) lbb69.out) hs73.out)).cell (o := 1) rfl
 refine wpp fun k h=>?_;go_simp;apply h;clear h k
 clear cl0 cl1
 have cl0 := (h68.up (hu71.out.sto (Nat.le_trans (Nat.le_refl _) lbb69.out) hs73.out)).cell (o := 0) rfl
 have cl1 := (h68.up (hu71.out.sto (Nat.le_trans (Nat.le_refl _) lbb69.out) hs73.out)).cell (o := 1) rfl
 refine wpp fun k h=>?_;go_simp;apply h;clear h k
 clear cl0 cl1
 refine step_call wn (by go_simp <;> rfl) (spec_l04Code.calls K t22 t23 t24 t25 t26 t27 t28 t29 t77 w72  A78.out) ?_
 rintro e w79 ⟨rfl, hu⟩
 have hu80 := Aside0.mk hu
 clear hu
 refine ⟨_, rfl, ?_⟩
 simp only[Act.put,nm1,nm2,nm3]
 iterate 2 (refine wpp fun k h=>?_;go_simp;apply h;clear h k)
 have hm82 := Aside0.mk (((((((((((((((hu4.out.trans hu7.out).trans hu10.out).trans hu13.out).trans hu20.out).trans hu32.out).trans hu35.out).trans hu38.out).trans hu41.out).sto (Nat.le_trans ((Nat.le_trans ((Nat.le_trans ((Nat.le_trans ((Nat.le_trans ((Nat.le_trans (hu4.out.size) hu7.out.size)) hu10.out.size)) hu13.out.size)) hu20.out.size)) hu32.out.size)) lbb33.out) hs43.out).sto (Nat.le_trans ((Nat.le_trans ((Nat.le_trans ((Nat.le_trans ((Nat.le_trans ((Nat.le_trans ((Nat.le_trans (hu4.out.size) hu7.out.size)) hu10.out.size)) hu13.out.size)) hu20.out.size)) hu32.out.size)) hu35.out.size)) lbb36.out) hs48.out).sto (Nat.le_trans ((Nat.le_trans ((Nat.le_trans ((Nat.le_trans ((Nat.le_trans ((Nat.le_trans ((Nat.le_trans ((Nat.le_trans (hu4.out.size) hu7.out.size)) hu10.out.size)) hu13.out.size)) hu20.out.size)) hu32.out.size)) hu35.out.size)) hu38.out.size)) lbb39.out) hs53.out).grow hs65.out (fun k hk => Nat.le_trans ((Nat.le_trans ((Nat.le_trans ((Nat.le_trans (hu4.out.size) hu7.out.size)) hu10.out.size)) hu13.out.size)) ((fun k hk => Nat.le_trans lbb15.out (Nat.le_of_eq (Option.some.inj hk))) k hk))).trans hu71.out).sto (Nat.le_trans ((Nat.le_trans ((Nat.le_trans ((Nat.le_trans ((Nat.le_trans ((Nat.le_trans ((Nat.le_trans ((Nat.le_trans ((Nat.le_trans ((Nat.le_trans ((Nat.le_trans ((Nat.le_trans ((Nat.le_trans (hu4.out.size) hu7.out.size)) hu10.out.size)) hu13.out.size)) hu20.out.size)) hu32.out.size)) hu35.out.size)) hu38.out.size)) hu41.out.size)) (Nat.le_of_eq hs43.out.size.symm))) (Nat.le_of_eq hs48.out.size.symm))) (Nat.le_of_eq hs53.out.size.symm))) hs65.out.size)) lbb69.out) hs73.out).trans hu80.out)
 have h83 := (hb2.up ((((((((((((((hu7.out.trans hu10.out).trans hu13.out).trans hu20.out).trans hu32.out).trans hu35.out).trans hu38.out).trans hu41.out).sto (Nat.le_trans ((Nat.le_trans ((Nat.le_trans ((Nat.le_trans ((Nat.le_trans (hu7.out.size) hu10.out.size)) hu13.out.size)) hu20.out.size)) hu32.out.size)) lbb33.out) hs43.out).sto (Nat.le_trans ((Nat.le_trans ((Nat.le_trans ((Nat.le_trans ((Nat.le_trans ((Nat.le_trans (hu7.out.size) hu10.out.size)) hu13.out.size)) hu20.out.size)) hu32.out.size)) hu35.out.size)) lbb36.out) hs48.out).sto (Nat.le_trans ((Nat.le_trans ((Nat.le_trans ((Nat.le_trans ((Nat.le_trans ((Nat.le_trans ((Nat.le_trans (hu7.out.size) hu10.out.size)) hu13.out.size)) hu20.out.size)) hu32.out.size)) hu35.out.size)) hu38.out.size)) lbb39.out) hs53.out).grow hs65.out (fun k hk => Nat.le_trans ((Nat.le_trans ((Nat.le_trans (hu7.out.size) hu10.out.size)) hu13.out.size)) ((fun k hk => Nat.le_trans lbb15.out (Nat.le_of_eq (Option.some.inj hk))) k hk))).trans hu71.out).sto (Nat.le_trans ((Nat.le_trans ((Nat.le_trans ((Nat.le_trans ((Nat.le_trans ((Nat.le_trans ((Nat.le_trans ((Nat.le_trans ((Nat.le_trans ((Nat.le_trans ((Nat.le_trans ((Nat.le_trans (hu7.out.size) hu10.out.size)) hu13.out.size)) hu20.out.size)) hu32.out.size)) hu35.out.size)) hu38.out.size)) hu41.out.size)) (Nat.le_of_eq hs43.out.size.symm))) (Nat.le_of_eq hs48.out.size.symm))) (Nat.le_of_eq hs53.out.size.symm))) hs65.out.size)) lbb69.out) hs73.out).trans hu80.out))
 have h84 := (hb5.up (((((((((((((hu10.out.trans hu13.out).trans hu20.out).trans hu32.out).trans hu35.out).trans hu38.out).trans hu41.out).sto (Nat.le_trans ((Nat.le_trans ((Nat.le_trans ((Nat.le_trans (hu10.out.size) hu13.out.size)) hu20.out.size)) hu32.out.size)) lbb33.out) hs43.out).sto (Nat.le_trans ((Nat.le_trans ((Nat.le_trans ((Nat.le_trans ((Nat.le_trans (hu10.out.size) hu13.out.size)) hu20.out.size)) hu32.out.size)) hu35.out.size)) lbb36.out) hs48.out).sto (Nat.le_trans ((Nat.le_trans ((Nat.le_trans ((Nat.le_trans ((Nat.le_trans ((Nat.le_trans (hu10.out.size) hu13.out.size)) hu20.out.size)) hu32.out.size)) hu35.out.size)) hu38.out.size)) lbb39.out) hs53.out).grow hs65.out (fun k hk => Nat.le_trans ((Nat.le_trans (hu10.out.size) hu13.out.size)) ((fun k hk => Nat.le_trans lbb15.out (Nat.le_of_eq (Option.some.inj hk))) k hk))).trans hu71.out).sto (Nat.le_trans ((Nat.le_trans ((Nat.le_trans ((Nat.le_trans ((Nat.le_trans ((Nat.le_trans ((Nat.le_trans ((Nat.le_trans ((Nat.le_trans ((Nat.le_trans ((Nat.le_trans (hu10.out.size) hu13.out.size)) hu20.out.size)) hu32.out.size)) hu35.out.size)) hu38.out.size)) hu41.out.size)) (Nat.le_of_eq hs43.out.size.symm))) (Nat.le_of_eq hs48.out.size.symm))) (Nat.le_of_eq hs53.out.size.symm))) hs65.out.size)) lbb69.out) hs73.out).trans hu80.out))
 have h85 := (hb8.up ((((((((((((hu13.out.trans hu20.out).trans hu32.out).trans hu35.out).trans hu38.out).trans hu41.out).sto (Nat.le_trans ((Nat.le_trans ((Nat.le_trans (hu13.out.size) hu20.out.size)) hu32.out.size)) lbb33.out) hs43.out).sto (Nat.le_trans ((Nat.le_trans ((Nat.le_trans ((Nat.le_trans (hu13.out.size) hu20.out.size)) hu32.out.size)) hu35.out.size)) lbb36.out) hs48.out).sto (Nat.le_trans ((Nat.le_trans ((Nat.le_trans ((Nat.le_trans ((Nat.le_trans (hu13.out.size) hu20.out.size)) hu32.out.size)) hu35.out.size)) hu38.out.size)) lbb39.out) hs53.out).grow hs65.out (fun k hk => Nat.le_trans (hu13.out.size) ((fun k hk => Nat.le_trans lbb15.out (Nat.le_of_eq (Option.some.inj hk))) k hk))).trans hu71.out).sto (Nat.le_trans ((Nat.le_trans ((Nat.le_trans ((Nat.le_trans ((Nat.le_trans ((Nat.le_trans ((Nat.le_trans ((Nat.le_trans ((Nat.le_trans ((Nat.le_trans (hu13.out.size) hu20.out.size)) hu32.out.size)) hu35.out.size)) hu38.out.size)) hu41.out.size)) (Nat.le_of_eq hs43.out.size.symm))) (Nat.le_of_eq hs48.out.size.symm))) (Nat.le_of_eq hs53.out.size.symm))) hs65.out.size)) lbb69.out) hs73.out).trans hu80.out))
 have h86 := (hb11.up (((((((((((hu20.out.trans hu32.out).trans hu35.out).trans hu38.out).trans hu41.out).sto (Nat.le_trans ((Nat.le_trans (hu20.out.size) hu32.out.size)) lbb33.out) hs43.out).sto (Nat.le_trans ((Nat.le_trans ((Nat.le_trans (hu20.out.size) hu32.out.size)) hu35.out.size)) lbb36.out) hs48.out).sto (Nat.le_trans ((Nat.le_trans ((Nat.le_trans ((Nat.le_trans (hu20.out.size) hu32.out.size)) hu35.out.size)) hu38.out.size)) lbb39.out) hs53.out).grow hs65.out (fun k hk => Nat.le_trans (Nat.le_refl _) ((fun k hk => Nat.le_trans lbb15.out (Nat.le_of_eq (Option.some.inj hk))) k hk))).trans hu71.out).sto (Nat.le_trans ((Nat.le_trans ((Nat.le_trans ((Nat.le_trans ((Nat.le_trans ((Nat.le_trans ((Nat.le_trans ((Nat.le_trans ((Nat.le_trans (hu20.out.size) hu32.out.size)) hu35.out.size)) hu38.out.size)) hu41.out.size)) (Nat.le_of_eq hs43.out.size.symm))) (Nat.le_of_eq hs48.out.size.symm))) (Nat.le_of_eq hs53.out.size.symm))) hs65.out.size)) lbb69.out) hs73.out).trans hu80.out))
 have h87 := (h64.up ((hu71.out.sto (Nat.le_trans (Nat.le_refl _) lbb69.out) hs73.out).trans hu80.out))
 have h88 := (h66.up ((hu71.out.sto (Nat.le_trans (Nat.le_refl _) lbb69.out) hs73.out).trans hu80.out))
 have h89 := (h67.up ((hu71.out.sto (Nat.le_trans (Nat.le_refl _) lbb69.out) hs73.out).trans hu80.out))
 have h90 := (h68.up ((hu71.out.sto (Nat.le_trans (Nat.le_refl _) lbb69.out) hs73.out).trans hu80.out))
 by_cases c81 : (t77 == 0) = true
 rotate_left
 ·
  rw [if_neg c81] at H; replace c81 := Bool.eq_false_iff.mpr c81
  have c81n : (t77 != 0) = true := by rw [bne, c81]; rfl
  have c81p : ¬ t77 = 0 := fun e => by simp [e] at c81
  simp only [Option.some.injEq, Prod.mk.injEq] at H
  obtain ⟨rfl, rfl, rfl, rfl, rfl, rfl, rfl, rfl, rfl, rfl⟩ := H
  try simp only [c81, c81n, Bool.not_true, Bool.not_false]
  refine step_no rfl ?_
  simp only[Act.put,nm1,nm2,nm3]
  refine step_no rfl ?_
  simp only[Act.put,nm1,nm2,nm3]
  refine step_no rfl ?_
  simp only[Act.put,nm1,nm2,nm3]
  refine wpp fun k h=>?_;go_simp;apply h;clear h k
  refine wpList_nil (hK76 _ _ ?_)
  refine wp_cond_false rfl ?_
  refine wp_skip ?_
  refine hK75 _ _ ?_
  refine wp_seq_k fun K248 hK248=>?_
  have hTT_ : ∀ w_, Up (World.drew w79) w_ → (fun w_ => Blk w_ b33 [.int .i64 t24, .int .i64 t25] 30 ∧ Blk w_ b36 [.int .i64 t26, .int .i64 t27] 30 ∧ Blk w_ b39 [.int .i64 t28, .int .i64 t29] 30 ∧ Blk w_ b69 [.int .i64 t58, .int .i64 t59] 30 ∧ True) w_ := fun w_ hu_ => ⟨h88.up ((Up.refl _).drew.trans hu_), h89.up ((Up.refl _).drew.trans hu_), h90.up ((Up.refl _).drew.trans hu_), (hb74.up hu80.out).up ((Up.refl _).drew.trans hu_), True.intro⟩
  refine' wp_region_mix (fun w_ => Blk w_ b33 [.int .i64 t24, .int .i64 t25] 30 ∧ Blk w_ b36 [.int .i64 t26, .int .i64 t27] 30 ∧ Blk w_ b39 [.int .i64 t28, .int .i64 t29] 30 ∧ Blk w_ b69 [.int .i64 t58, .int .i64 t59] 30 ∧ True) [0, 1, 2, 3, 4, 5] [6, 7, 8, 9, 10, 11] [Slot.pur _, Slot.pur _, Slot.pur _, Slot.pur _, Slot.pur _, Slot.pur _] (by kernel_rfl) (by kernel_rfl) rfl rfl hTT_ ?main
  case main =>
   simp only [pick, List.drop_succ_cons, List.drop_zero]
   refine wpK_pur rfl hTT_ (fun w1 hT => ?_) ?_
   · clear hT
     go_simp
     first | done | rfl
   simp only[Act.put,nm1,nm2,nm3]
   refine wpK_pur rfl hTT_ (fun w1 hT => ?_) ?_
   · clear hT
     go_simp
     first | done | rfl
   simp only[Act.put,nm1,nm2,nm3]
   refine wpK_pur rfl hTT_ (fun w1 hT => ?_) ?_
   · have hB_ := hT.1
     have cl0 := hB_.cell (o := 0) rfl
     have cl1 := hB_.cell (o := 1) rfl
     clear hT
     go_simp
     first | done | rfl
   simp only[Act.put,nm1,nm2,nm3]
   refine wpK_pur rfl hTT_ (fun w1 hT => ?_) ?_
   · have hB_ := hT.2.1
     have cl0 := hB_.cell (o := 0) rfl
     have cl1 := hB_.cell (o := 1) rfl
     clear hT
     go_simp
     first | done | rfl
   simp only[Act.put,nm1,nm2,nm3]
   refine wpK_pur rfl hTT_ (fun w1 hT => ?_) ?_
   · have hB_ := hT.2.2.1
     have cl0 := hB_.cell (o := 0) rfl
     have cl1 := hB_.cell (o := 1) rfl
     clear hT
     go_simp
     first | done | rfl
   simp only[Act.put,nm1,nm2,nm3]
   refine wpK_pur rfl hTT_ (fun w1 hT => ?_) ?_
   · have hB_ := hT.2.2.2.1
     have cl0 := hB_.cell (o := 0) rfl
     have cl1 := hB_.cell (o := 1) rfl
     clear hT
     go_simp
     first | done | rfl
   simp only[Act.put,nm1,nm2,nm3]
   refine wpK_nil ?_
   intro w249 hu
   replace hu := (Up.refl _).drew.trans hu
   have hu250 := Aside0.mk hu
   clear hu
   refine late_consT ⟨(h88.up hu250.out), (h89.up hu250.out), (h90.up hu250.out), (hb74.up (hu80.out.trans hu250.out)), True.intro⟩ ?_
   refine wpp fun k h=>?_;go_simp;apply h;clear h k
   refine wpList_nil ?_
   refine wrapQ_k ?_
   refine late_consT ⟨(h88.up hu250.out), (h89.up hu250.out), (h90.up hu250.out), (hb74.up (hu80.out.trans hu250.out)), True.intro⟩ ?_
   refine wpp fun k h=>?_;go_simp;apply h;clear h k
   refine wpList_nil ?_
   refine wrapQ_k ?_
   refine late_consT ⟨(h88.up hu250.out), (h89.up hu250.out), (h90.up hu250.out), (hb74.up (hu80.out.trans hu250.out)), True.intro⟩ ?_
   have hB0 := (h83.up hu250.out)
   have cl0 := hB0.cell (o := 0) rfl
   have fr0 := hB0.free 0
   have cl1 := hB0.cell (o := 1) rfl
   have fr1 := hB0.free 1
   refine step_store (b := b2) (cs' := [.int .i64 t24, .int .i64 t25]) (T := 30) (W' := ((w249.setCell ⟨b2, 0, none⟩ (.int .i64 t24)).setCell ⟨b2, 1, none⟩ (.int .i64 t25))) rfl rfl (by go_simp <;> rfl) (((Sto.refl _ _).setCell 0 _).setCell 1 _) (((hB0).setCell 0 _).setCell 1 _) ?_
   clear hB0 cl0 fr0 cl1 fr1
   intro w251 hs hb253
   have hs252 := Aside0.mk hs
   clear hs
   have h254 := (h84.up hu250.out).sto hs252.out (Ne.symm (Nat.ne_of_lt (Nat.lt_of_lt_of_le ltb2.out lbb5.out)))
   have h255 := (h85.up hu250.out).sto hs252.out (Ne.symm (Nat.ne_of_lt (Nat.lt_of_lt_of_le (Nat.lt_of_lt_of_le ltb2.out (hu7.out.size)) lbb8.out)))
   have h256 := (h86.up hu250.out).sto hs252.out (Ne.symm (Nat.ne_of_lt (Nat.lt_of_lt_of_le (Nat.lt_of_lt_of_le ltb2.out ((Nat.le_trans (hu7.out.size) hu10.out.size))) lbb11.out)))
   have h257 := (h88.up hu250.out).sto hs252.out (Ne.symm (Nat.ne_of_lt (Nat.lt_of_lt_of_le (Nat.lt_of_lt_of_le ltb2.out ((Nat.le_trans ((Nat.le_trans ((Nat.le_trans ((Nat.le_trans (hu7.out.size) hu10.out.size)) hu13.out.size)) hu20.out.size)) hu32.out.size))) lbb33.out)))
   have h258 := (h89.up hu250.out).sto hs252.out (Ne.symm (Nat.ne_of_lt (Nat.lt_of_lt_of_le (Nat.lt_of_lt_of_le ltb2.out ((Nat.le_trans ((Nat.le_trans ((Nat.le_trans ((Nat.le_trans ((Nat.le_trans (hu7.out.size) hu10.out.size)) hu13.out.size)) hu20.out.size)) hu32.out.size)) hu35.out.size))) lbb36.out)))
   have h259 := (h90.up hu250.out).sto hs252.out (Ne.symm (Nat.ne_of_lt (Nat.lt_of_lt_of_le (Nat.lt_of_lt_of_le ltb2.out ((Nat.le_trans ((Nat.le_trans ((Nat.le_trans ((Nat.le_trans ((Nat.le_trans ((Nat.le_trans (hu7.out.size) hu10.out.size)) hu13.out.size)) hu20.out.size)) hu32.out.size)) hu35.out.size)) hu38.out.size))) lbb39.out)))
   have h260 := (hb74.up (hu80.out.trans hu250.out)).sto hs252.out (Ne.symm (Nat.ne_of_lt (Nat.lt_of_lt_of_le (Nat.lt_of_lt_of_le ltb2.out ((Nat.le_trans ((Nat.le_trans ((Nat.le_trans ((Nat.le_trans ((Nat.le_trans ((Nat.le_trans ((Nat.le_trans ((Nat.le_trans ((Nat.le_trans ((Nat.le_trans ((Nat.le_trans (hu7.out.size) hu10.out.size)) hu13.out.size)) hu20.out.size)) hu32.out.size)) hu35.out.size)) hu38.out.size)) hu41.out.size)) (Nat.le_of_eq hs43.out.size.symm))) (Nat.le_of_eq hs48.out.size.symm))) (Nat.le_of_eq hs53.out.size.symm))) hs65.out.size))) lbb69.out)))
   refine wpList_nil ?_
   refine wrapQ_k ?_
   refine late_consT ⟨h257, h258, h259, h260, True.intro⟩ ?_
   have hB0 := h254
   have cl0 := hB0.cell (o := 0) rfl
   have fr0 := hB0.free 0
   have cl1 := hB0.cell (o := 1) rfl
   have fr1 := hB0.free 1
   refine step_store (b := b5) (cs' := [.int .i64 t26, .int .i64 t27]) (T := 30) (W' := ((w251.setCell ⟨b5, 0, none⟩ (.int .i64 t26)).setCell ⟨b5, 1, none⟩ (.int .i64 t27))) rfl rfl (by go_simp <;> rfl) (((Sto.refl _ _).setCell 0 _).setCell 1 _) (((hB0).setCell 0 _).setCell 1 _) ?_
   clear hB0 cl0 fr0 cl1 fr1
   intro w261 hs hb263
   have hs262 := Aside0.mk hs
   clear hs
   have h264 := hb253.sto hs262.out (Nat.ne_of_lt (Nat.lt_of_lt_of_le ltb2.out lbb5.out))
   have h265 := h255.sto hs262.out (Ne.symm (Nat.ne_of_lt (Nat.lt_of_lt_of_le ltb5.out lbb8.out)))
   have h266 := h256.sto hs262.out (Ne.symm (Nat.ne_of_lt (Nat.lt_of_lt_of_le (Nat.lt_of_lt_of_le ltb5.out (hu10.out.size)) lbb11.out)))
   have h267 := h257.sto hs262.out (Ne.symm (Nat.ne_of_lt (Nat.lt_of_lt_of_le (Nat.lt_of_lt_of_le ltb5.out ((Nat.le_trans ((Nat.le_trans ((Nat.le_trans (hu10.out.size) hu13.out.size)) hu20.out.size)) hu32.out.size))) lbb33.out)))
   have h268 := h258.sto hs262.out (Ne.symm (Nat.ne_of_lt (Nat.lt_of_lt_of_le (Nat.lt_of_lt_of_le ltb5.out ((Nat.le_trans ((Nat.le_trans ((Nat.le_trans ((Nat.le_trans (hu10.out.size) hu13.out.size)) hu20.out.size)) hu32.out.size)) hu35.out.size))) lbb36.out)))
   have h269 := h259.sto hs262.out (Ne.symm (Nat.ne_of_lt (Nat.lt_of_lt_of_le (Nat.lt_of_lt_of_le ltb5.out ((Nat.le_trans ((Nat.le_trans ((Nat.le_trans ((Nat.le_trans ((Nat.le_trans (hu10.out.size) hu13.out.size)) hu20.out.size)) hu32.out.size)) hu35.out.size)) hu38.out.size))) lbb39.out)))
   have h270 := h260.sto hs262.out (Ne.symm (Nat.ne_of_lt (Nat.lt_of_lt_of_le (Nat.lt_of_lt_of_le ltb5.out ((Nat.le_trans ((Nat.le_trans ((Nat.le_trans ((Nat.le_trans ((Nat.le_trans ((Nat.le_trans ((Nat.le_trans ((Nat.le_trans ((Nat.le_trans ((Nat.le_trans (hu10.out.size) hu13.out.size)) hu20.out.size)) hu32.out.size)) hu35.out.size)) hu38.out.size)) hu41.out.size)) (Nat.le_of_eq hs43.out.size.symm))) (Nat.le_of_eq hs48.out.size.symm))) (Nat.le_of_eq hs53.out.size.symm))) hs65.out.size))) lbb69.out)))
   refine wpList_nil ?_
   refine wrapQ_k ?_
   refine late_consT ⟨h267, h268, h269, h270, True.intro⟩ ?_
   have hB0 := h265
   have cl0 := hB0.cell (o := 0) rfl
   have fr0 := hB0.free 0
   have cl1 := hB0.cell (o := 1) rfl
   have fr1 := hB0.free 1
   refine step_store (b := b8) (cs' := [.int .i64 t28, .int .i64 t29]) (T := 30) (W' := ((w261.setCell ⟨b8, 0, none⟩ (.int .i64 t28)).setCell ⟨b8, 1, none⟩ (.int .i64 t29))) rfl rfl (by go_simp <;> rfl) (((Sto.refl _ _).setCell 0 _).setCell 1 _) (((hB0).setCell 0 _).setCell 1 _) ?_
   clear hB0 cl0 fr0 cl1 fr1
   intro w271 hs hb273
   have hs272 := Aside0.mk hs
   clear hs
   have h274 := h264.sto hs272.out (Nat.ne_of_lt (Nat.lt_of_lt_of_le (Nat.lt_of_lt_of_le ltb2.out (hu7.out.size)) lbb8.out))
   have h275 := hb263.sto hs272.out (Nat.ne_of_lt (Nat.lt_of_lt_of_le ltb5.out lbb8.out))
   have h276 := h266.sto hs272.out (Ne.symm (Nat.ne_of_lt (Nat.lt_of_lt_of_le ltb8.out lbb11.out)))
   have h277 := h267.sto hs272.out (Ne.symm (Nat.ne_of_lt (Nat.lt_of_lt_of_le (Nat.lt_of_lt_of_le ltb8.out ((Nat.le_trans ((Nat.le_trans (hu13.out.size) hu20.out.size)) hu32.out.size))) lbb33.out)))
   have h278 := h268.sto hs272.out (Ne.symm (Nat.ne_of_lt (Nat.lt_of_lt_of_le (Nat.lt_of_lt_of_le ltb8.out ((Nat.le_trans ((Nat.le_trans ((Nat.le_trans (hu13.out.size) hu20.out.size)) hu32.out.size)) hu35.out.size))) lbb36.out)))
   have h279 := h269.sto hs272.out (Ne.symm (Nat.ne_of_lt (Nat.lt_of_lt_of_le (Nat.lt_of_lt_of_le ltb8.out ((Nat.le_trans ((Nat.le_trans ((Nat.le_trans ((Nat.le_trans (hu13.out.size) hu20.out.size)) hu32.out.size)) hu35.out.size)) hu38.out.size))) lbb39.out)))
   have h280 := h270.sto hs272.out (Ne.symm (Nat.ne_of_lt (Nat.lt_of_lt_of_le (Nat.lt_of_lt_of_le ltb8.out ((Nat.le_trans ((Nat.le_trans ((Nat.le_trans ((Nat.le_trans ((Nat.le_trans ((Nat.le_trans ((Nat.le_trans ((Nat.le_trans ((Nat.le_trans (hu13.out.size) hu20.out.size)) hu32.out.size)) hu35.out.size)) hu38.out.size)) hu41.out.size)) (Nat.le_of_eq hs43.out.size.symm))) (Nat.le_of_eq hs48.out.size.symm))) (Nat.le_of_eq hs53.out.size.symm))) hs65.out.size))) lbb69.out)))
   refine wpList_nil ?_
   refine wrapQ_k ?_
   refine late_consT ⟨h277, h278, h279, h280, True.intro⟩ ?_
   have hB0 := h276
   have cl0 := hB0.cell (o := 0) rfl
   have fr0 := hB0.free 0
   have cl1 := hB0.cell (o := 1) rfl
   have fr1 := hB0.free 1
   refine step_store (b := b11) (cs' := [.int .i64 t58, .int .i64 t59]) (T := 30) (W' := ((w271.setCell ⟨b11, 0, none⟩ (.int .i64 t58)).setCell ⟨b11, 1, none⟩ (.int .i64 t59))) rfl rfl (by go_simp <;> rfl) (((Sto.refl _ _).setCell 0 _).setCell 1 _) (((hB0).setCell 0 _).setCell 1 _) ?_
   clear hB0 cl0 fr0 cl1 fr1
   intro w281 hs hb283
   have hs282 := Aside0.mk hs
   clear hs
   have h284 := h274.sto hs282.out (Nat.ne_of_lt (Nat.lt_of_lt_of_le (Nat.lt_of_lt_of_le ltb2.out ((Nat.le_trans (hu7.out.size) hu10.out.size))) lbb11.out))
   have h285 := h275.sto hs282.out (Nat.ne_of_lt (Nat.lt_of_lt_of_le (Nat.lt_of_lt_of_le ltb5.out (hu10.out.size)) lbb11.out))
   have h286 := hb273.sto hs282.out (Nat.ne_of_lt (Nat.lt_of_lt_of_le ltb8.out lbb11.out))
   have h287 := h277.sto hs282.out (Ne.symm (Nat.ne_of_lt (Nat.lt_of_lt_of_le (Nat.lt_of_lt_of_le ltb11.out ((Nat.le_trans (hu20.out.size) hu32.out.size))) lbb33.out)))
   have h288 := h278.sto hs282.out (Ne.symm (Nat.ne_of_lt (Nat.lt_of_lt_of_le (Nat.lt_of_lt_of_le ltb11.out ((Nat.le_trans ((Nat.le_trans (hu20.out.size) hu32.out.size)) hu35.out.size))) lbb36.out)))
   have h289 := h279.sto hs282.out (Ne.symm (Nat.ne_of_lt (Nat.lt_of_lt_of_le (Nat.lt_of_lt_of_le ltb11.out ((Nat.le_trans ((Nat.le_trans ((Nat.le_trans (hu20.out.size) hu32.out.size)) hu35.out.size)) hu38.out.size))) lbb39.out)))
   have h290 := h280.sto hs282.out (Ne.symm (Nat.ne_of_lt (Nat.lt_of_lt_of_le (Nat.lt_of_lt_of_le ltb11.out ((Nat.le_trans ((Nat.le_trans ((Nat.le_trans ((Nat.le_trans ((Nat.le_trans ((Nat.le_trans ((Nat.le_trans ((Nat.le_trans (hu20.out.size) hu32.out.size)) hu35.out.size)) hu38.out.size)) hu41.out.size)) (Nat.le_of_eq hs43.out.size.symm))) (Nat.le_of_eq hs48.out.size.symm))) (Nat.le_of_eq hs53.out.size.symm))) hs65.out.size))) lbb69.out)))
   refine wpList_nil ?_
   refine wrapQ_k ?_
   refine late_nilT ⟨h287, h288, h289, h290, True.intro⟩ ?_
   refine hK248 _ _ ?_
   refine wp_ret ?_
   refine hQf _ _ _ ?_
   have cr0 := h284.cell (o := 0) rfl
   have cr1 := h284.cell (o := 1) rfl
   have cr2 := h285.cell (o := 0) rfl
   have cr3 := h285.cell (o := 1) rfl
   have cr4 := h286.cell (o := 0) rfl
   have cr5 := h286.cell (o := 1) rfl
   have cr6 := hb283.cell (o := 0) rfl
   have cr7 := hb283.cell (o := 1) rfl
   exact bodyPost_ret (v := .tuple #[.int .i64 t22, .int .i64 t23, .agg #[.int .i64 t24, .int .i64 t25], .agg #[.int .i64 t26, .int .i64 t27], .agg #[.int .i64 t28, .int .i64 t29], .agg #[.int .i64 t58, .int .i64 t59]]) (by first|rfl|simp [results, Try.results60, go_sem, cr0, cr1, cr2, cr3, cr4, cr5, cr6, cr7]<;>rfl) rfl ⟨rfl, (((((hm82.out.trans hu250.out).sto (Nat.le_trans (Nat.le_refl _) lbb2.out) hs252.out).sto (Nat.le_trans (hu4.out.size) lbb5.out) hs262.out).sto (Nat.le_trans ((Nat.le_trans (hu4.out.size) hu7.out.size)) lbb8.out) hs272.out).sto (Nat.le_trans ((Nat.le_trans ((Nat.le_trans (hu4.out.size) hu7.out.size)) hu10.out.size)) lbb11.out) hs282.out)⟩
 rw [if_pos c81] at H
 have c81n : (t77 != 0) = false := by rw [bne, c81]; rfl
 obtain ⟨⟨t91, t92, t93⟩,A94,H⟩:=Option.bind_eq_some_iff.mp H
 replace A94:=Aside0.mk A94;try dsimp only at H
 try simp only [c81, c81n, Bool.not_true, Bool.not_false]
 refine wpList_step fun k h=>?_;go_simp;apply h;clear h k
 refine step_call rfl (by go_simp <;> rfl) (spec_l01Next.calls K b15 a0_A a0_c a0 t60 t61 2 t91 t92 t93 w79 h87 (ha0.up hm82.out) (fun k hk hp => Nat.ne_of_lt (Nat.lt_of_lt_of_le ((ha0.up (((hu4.out.trans hu7.out).trans hu10.out).trans hu13.out)).blk_lt hp k hk) lbb15.out)) A94.out) ?_
 rintro e w95 ⟨rfl, h96, hs⟩
 have hs97 := Aside0.mk hs
 clear hs
 have h98 := h83.grow hs97.out (fun k hk e => (Ne.symm (Nat.ne_of_lt (Nat.lt_of_lt_of_le (Nat.lt_of_lt_of_le ltb2.out ((Nat.le_trans ((Nat.le_trans (hu7.out.size) hu10.out.size)) hu13.out.size))) lbb15.out))) ((Option.some.inj hk).trans e))
 have h99 := h84.grow hs97.out (fun k hk e => (Ne.symm (Nat.ne_of_lt (Nat.lt_of_lt_of_le (Nat.lt_of_lt_of_le ltb5.out ((Nat.le_trans (hu10.out.size) hu13.out.size))) lbb15.out))) ((Option.some.inj hk).trans e))
 have h100 := h85.grow hs97.out (fun k hk e => (Ne.symm (Nat.ne_of_lt (Nat.lt_of_lt_of_le (Nat.lt_of_lt_of_le ltb8.out (hu13.out.size)) lbb15.out))) ((Option.some.inj hk).trans e))
 have h101 := h86.grow hs97.out (fun k hk e => (Ne.symm (Nat.ne_of_lt (Nat.lt_of_lt_of_le ltb11.out lbb15.out))) ((Option.some.inj hk).trans e))
 have h102 := h88.grow hs97.out (fun k hk e => (Nat.ne_of_lt (Nat.lt_of_lt_of_le (Nat.lt_of_lt_of_le ltb15.out (hu32.out.size)) lbb33.out)) ((Option.some.inj hk).trans e))
 have h103 := h89.grow hs97.out (fun k hk e => (Nat.ne_of_lt (Nat.lt_of_lt_of_le (Nat.lt_of_lt_of_le ltb15.out ((Nat.le_trans (hu32.out.size) hu35.out.size))) lbb36.out)) ((Option.some.inj hk).trans e))
 have h104 := h90.grow hs97.out (fun k hk e => (Nat.ne_of_lt (Nat.lt_of_lt_of_le (Nat.lt_of_lt_of_le ltb15.out ((Nat.le_trans ((Nat.le_trans (hu32.out.size) hu35.out.size)) hu38.out.size))) lbb39.out)) ((Option.some.inj hk).trans e))
 have h105 := (hb74.up hu80.out).grow hs97.out (fun k hk e => (Nat.ne_of_lt (Nat.lt_of_lt_of_le (Nat.lt_of_lt_of_le ltb15.out ((Nat.le_trans ((Nat.le_trans ((Nat.le_trans ((Nat.le_trans ((Nat.le_trans ((Nat.le_trans ((Nat.le_trans (hu32.out.size) hu35.out.size)) hu38.out.size)) hu41.out.size)) (Nat.le_of_eq hs43.out.size.symm))) (Nat.le_of_eq hs48.out.size.symm))) (Nat.le_of_eq hs53.out.size.symm))) hs65.out.size))) lbb69.out)) ((Option.some.inj hk).trans e))
 refine ⟨_, rfl, ?_⟩
 simp only[Act.put,nm1,nm2,nm3]
 refine wpList_step fun k h=>?_;go_simp;apply h;clear h k
 refine wpp fun k h=>?_;go_simp;apply h;clear h k
 refine wpList_nil (hK76 _ _ ?_)
 have hm107 := Aside0.mk (hm82.out.grow hs97.out (fun k hk => Nat.le_trans ((Nat.le_trans ((Nat.le_trans ((Nat.le_trans (hu4.out.size) hu7.out.size)) hu10.out.size)) hu13.out.size)) ((fun k hk => Nat.le_trans lbb15.out (Nat.le_of_eq (Option.some.inj hk))) k hk)))
 by_cases c106 : (t91 == 0) = true
 rotate_left
 ·
  rw [if_neg c106] at H; replace c106 := Bool.eq_false_iff.mpr c106
  have c106n : (t91 != 0) = true := by rw [bne, c106]; rfl
  have c106p : ¬ t91 = 0 := fun e => by simp [e] at c106
  simp only [Option.some.injEq, Prod.mk.injEq] at H
  obtain ⟨rfl, rfl, rfl, rfl, rfl, rfl, rfl, rfl, rfl, rfl⟩ := H
  try simp only [c106, c106n, Bool.not_true, Bool.not_false]
  refine wp_cond_false rfl ?_
  refine wp_skip ?_
  refine hK75 _ _ ?_
  refine wp_seq_k fun K205 hK205=>?_
  have hTT_ : ∀ w_, Up (World.drew w95) w_ → (fun w_ => Blk w_ b33 [.int .i64 t24, .int .i64 t25] 30 ∧ Blk w_ b36 [.int .i64 t26, .int .i64 t27] 30 ∧ Blk w_ b39 [.int .i64 t28, .int .i64 t29] 30 ∧ Blk w_ b69 [.int .i64 t58, .int .i64 t59] 30 ∧ True) w_ := fun w_ hu_ => ⟨h102.up ((Up.refl _).drew.trans hu_), h103.up ((Up.refl _).drew.trans hu_), h104.up ((Up.refl _).drew.trans hu_), h105.up ((Up.refl _).drew.trans hu_), True.intro⟩
  refine' wp_region_mix (fun w_ => Blk w_ b33 [.int .i64 t24, .int .i64 t25] 30 ∧ Blk w_ b36 [.int .i64 t26, .int .i64 t27] 30 ∧ Blk w_ b39 [.int .i64 t28, .int .i64 t29] 30 ∧ Blk w_ b69 [.int .i64 t58, .int .i64 t59] 30 ∧ True) [0, 1, 2, 3, 4, 5] [6, 7, 8, 9, 10, 11] [Slot.pur _, Slot.pur _, Slot.pur _, Slot.pur _, Slot.pur _, Slot.pur _] (by kernel_rfl) (by kernel_rfl) rfl rfl hTT_ ?main
  case main =>
   simp only [pick, List.drop_succ_cons, List.drop_zero]
   refine wpK_pur rfl hTT_ (fun w1 hT => ?_) ?_
   · clear hT
     go_simp
     first | done | rfl
   simp only[Act.put,nm1,nm2,nm3]
   refine wpK_pur rfl hTT_ (fun w1 hT => ?_) ?_
   · clear hT
     go_simp
     first | done | rfl
   simp only[Act.put,nm1,nm2,nm3]
   refine wpK_pur rfl hTT_ (fun w1 hT => ?_) ?_
   · have hB_ := hT.1
     have cl0 := hB_.cell (o := 0) rfl
     have cl1 := hB_.cell (o := 1) rfl
     clear hT
     go_simp
     first | done | rfl
   simp only[Act.put,nm1,nm2,nm3]
   refine wpK_pur rfl hTT_ (fun w1 hT => ?_) ?_
   · have hB_ := hT.2.1
     have cl0 := hB_.cell (o := 0) rfl
     have cl1 := hB_.cell (o := 1) rfl
     clear hT
     go_simp
     first | done | rfl
   simp only[Act.put,nm1,nm2,nm3]
   refine wpK_pur rfl hTT_ (fun w1 hT => ?_) ?_
   · have hB_ := hT.2.2.1
     have cl0 := hB_.cell (o := 0) rfl
     have cl1 := hB_.cell (o := 1) rfl
     clear hT
     go_simp
     first | done | rfl
   simp only[Act.put,nm1,nm2,nm3]
   refine wpK_pur rfl hTT_ (fun w1 hT => ?_) ?_
   · have hB_ := hT.2.2.2.1
     have cl0 := hB_.cell (o := 0) rfl
     have cl1 := hB_.cell (o := 1) rfl
     clear hT
     go_simp
     first | done | rfl
   simp only[Act.put,nm1,nm2,nm3]
   refine wpK_nil ?_
   intro w206 hu
   replace hu := (Up.refl _).drew.trans hu
   have hu207 := Aside0.mk hu
   clear hu
   refine late_consT ⟨(h102.up hu207.out), (h103.up hu207.out), (h104.up hu207.out), (h105.up hu207.out), True.intro⟩ ?_
   refine wpp fun k h=>?_;go_simp;apply h;clear h k
   refine wpList_nil ?_
   refine wrapQ_k ?_
   refine late_consT ⟨(h102.up hu207.out), (h103.up hu207.out), (h104.up hu207.out), (h105.up hu207.out), True.intro⟩ ?_
   refine wpp fun k h=>?_;go_simp;apply h;clear h k
   refine wpList_nil ?_
   refine wrapQ_k ?_
   refine late_consT ⟨(h102.up hu207.out), (h103.up hu207.out), (h104.up hu207.out), (h105.up hu207.out), True.intro⟩ ?_
   have hB0 := (h98.up hu207.out)
   have cl0 := hB0.cell (o := 0) rfl
   have fr0 := hB0.free 0
   have cl1 := hB0.cell (o := 1) rfl
   have fr1 := hB0.free 1
   refine step_store (b := b2) (cs' := [.int .i64 t24, .int .i64 t25]) (T := 30) (W' := ((w206.setCell ⟨b2, 0, none⟩ (.int .i64 t24)).setCell ⟨b2, 1, none⟩ (.int .i64 t25))) rfl rfl (by go_simp <;> rfl) (((Sto.refl _ _).setCell 0 _).setCell 1 _) (((hB0).setCell 0 _).setCell 1 _) ?_
   clear hB0 cl0 fr0 cl1 fr1
   intro w208 hs hb210
   have hs209 := Aside0.mk hs
   clear hs
   have h211 := (h99.up hu207.out).sto hs209.out (Ne.symm (Nat.ne_of_lt (Nat.lt_of_lt_of_le ltb2.out lbb5.out)))
   have h212 := (h100.up hu207.out).sto hs209.out (Ne.symm (Nat.ne_of_lt (Nat.lt_of_lt_of_le (Nat.lt_of_lt_of_le ltb2.out (hu7.out.size)) lbb8.out)))
   have h213 := (h101.up hu207.out).sto hs209.out (Ne.symm (Nat.ne_of_lt (Nat.lt_of_lt_of_le (Nat.lt_of_lt_of_le ltb2.out ((Nat.le_trans (hu7.out.size) hu10.out.size))) lbb11.out)))
   have h214 := (h102.up hu207.out).sto hs209.out (Ne.symm (Nat.ne_of_lt (Nat.lt_of_lt_of_le (Nat.lt_of_lt_of_le ltb2.out ((Nat.le_trans ((Nat.le_trans ((Nat.le_trans ((Nat.le_trans (hu7.out.size) hu10.out.size)) hu13.out.size)) hu20.out.size)) hu32.out.size))) lbb33.out)))
   have h215 := (h103.up hu207.out).sto hs209.out (Ne.symm (Nat.ne_of_lt (Nat.lt_of_lt_of_le (Nat.lt_of_lt_of_le ltb2.out ((Nat.le_trans ((Nat.le_trans ((Nat.le_trans ((Nat.le_trans ((Nat.le_trans (hu7.out.size) hu10.out.size)) hu13.out.size)) hu20.out.size)) hu32.out.size)) hu35.out.size))) lbb36.out)))
   have h216 := (h104.up hu207.out).sto hs209.out (Ne.symm (Nat.ne_of_lt (Nat.lt_of_lt_of_le (Nat.lt_of_lt_of_le ltb2.out ((Nat.le_trans ((Nat.le_trans ((Nat.le_trans ((Nat.le_trans ((Nat.le_trans ((Nat.le_trans (hu7.out.size) hu10.out.size)) hu13.out.size)) hu20.out.size)) hu32.out.size)) hu35.out.size)) hu38.out.size))) lbb39.out)))
   have h217 := (h105.up hu207.out).sto hs209.out (Ne.symm (Nat.ne_of_lt (Nat.lt_of_lt_of_le (Nat.lt_of_lt_of_le ltb2.out ((Nat.le_trans ((Nat.le_trans ((Nat.le_trans ((Nat.le_trans ((Nat.le_trans ((Nat.le_trans ((Nat.le_trans ((Nat.le_trans ((Nat.le_trans ((Nat.le_trans ((Nat.le_trans (hu7.out.size) hu10.out.size)) hu13.out.size)) hu20.out.size)) hu32.out.size)) hu35.out.size)) hu38.out.size)) hu41.out.size)) (Nat.le_of_eq hs43.out.size.symm))) (Nat.le_of_eq hs48.out.size.symm))) (Nat.le_of_eq hs53.out.size.symm))) hs65.out.size))) lbb69.out)))
   refine wpList_nil ?_
   refine wrapQ_k ?_
   refine late_consT ⟨h214, h215, h216, h217, True.intro⟩ ?_
   have hB0 := h211
   have cl0 := hB0.cell (o := 0) rfl
   have fr0 := hB0.free 0
   have cl1 := hB0.cell (o := 1) rfl
   have fr1 := hB0.free 1
   refine step_store (b := b5) (cs' := [.int .i64 t26, .int .i64 t27]) (T := 30) (W' := ((w208.setCell ⟨b5, 0, none⟩ (.int .i64 t26)).setCell ⟨b5, 1, none⟩ (.int .i64 t27))) rfl rfl (by go_simp <;> rfl) (((Sto.refl _ _).setCell 0 _).setCell 1 _) (((hB0).setCell 0 _).setCell 1 _) ?_
   clear hB0 cl0 fr0 cl1 fr1
   intro w218 hs hb220
   have hs219 := Aside0.mk hs
   clear hs
   have h221 := hb210.sto hs219.out (Nat.ne_of_lt (Nat.lt_of_lt_of_le ltb2.out lbb5.out))
   have h222 := h212.sto hs219.out (Ne.symm (Nat.ne_of_lt (Nat.lt_of_lt_of_le ltb5.out lbb8.out)))
   have h223 := h213.sto hs219.out (Ne.symm (Nat.ne_of_lt (Nat.lt_of_lt_of_le (Nat.lt_of_lt_of_le ltb5.out (hu10.out.size)) lbb11.out)))
   have h224 := h214.sto hs219.out (Ne.symm (Nat.ne_of_lt (Nat.lt_of_lt_of_le (Nat.lt_of_lt_of_le ltb5.out ((Nat.le_trans ((Nat.le_trans ((Nat.le_trans (hu10.out.size) hu13.out.size)) hu20.out.size)) hu32.out.size))) lbb33.out)))
   have h225 := h215.sto hs219.out (Ne.symm (Nat.ne_of_lt (Nat.lt_of_lt_of_le (Nat.lt_of_lt_of_le ltb5.out ((Nat.le_trans ((Nat.le_trans ((Nat.le_trans ((Nat.le_trans (hu10.out.size) hu13.out.size)) hu20.out.size)) hu32.out.size)) hu35.out.size))) lbb36.out)))
   have h226 := h216.sto hs219.out (Ne.symm (Nat.ne_of_lt (Nat.lt_of_lt_of_le (Nat.lt_of_lt_of_le ltb5.out ((Nat.le_trans ((Nat.le_trans ((Nat.le_trans ((Nat.le_trans ((Nat.le_trans (hu10.out.size) hu13.out.size)) hu20.out.size)) hu32.out.size)) hu35.out.size)) hu38.out.size))) lbb39.out)))
   have h227 := h217.sto hs219.out (Ne.symm (Nat.ne_of_lt (Nat.lt_of_lt_of_le (Nat.lt_of_lt_of_le ltb5.out ((Nat.le_trans ((Nat.le_trans ((Nat.le_trans ((Nat.le_trans ((Nat.le_trans ((Nat.le_trans ((Nat.le_trans ((Nat.le_trans ((Nat.le_trans ((Nat.le_trans (hu10.out.size) hu13.out.size)) hu20.out.size)) hu32.out.size)) hu35.out.size)) hu38.out.size)) hu41.out.size)) (Nat.le_of_eq hs43.out.size.symm))) (Nat.le_of_eq hs48.out.size.symm))) (Nat.le_of_eq hs53.out.size.symm))) hs65.out.size))) lbb69.out)))
   refine wpList_nil ?_
   refine wrapQ_k ?_
   refine late_consT ⟨h224, h225, h226, h227, True.intro⟩ ?_
   have hB0 := h222
   have cl0 := hB0.cell (o := 0) rfl
   have fr0 := hB0.free 0
   have cl1 := hB0.cell (o := 1) rfl
   have fr1 := hB0.free 1
   refine step_store (b := b8) (cs' := [.int .i64 t28, .int .i64 t29]) (T := 30) (W' := ((w218.setCell ⟨b8, 0, none⟩ (.int .i64 t28)).setCell ⟨b8, 1, none⟩ (.int .i64 t29))) rfl rfl (by go_simp <;> rfl) (((Sto.refl _ _).setCell 0 _).setCell 1 _) (((hB0).setCell 0 _).setCell 1 _) ?_
   clear hB0 cl0 fr0 cl1 fr1
   intro w228 hs hb230
   have hs229 := Aside0.mk hs
   clear hs
   have h231 := h221.sto hs229.out (Nat.ne_of_lt (Nat.lt_of_lt_of_le (Nat.lt_of_lt_of_le ltb2.out (hu7.out.size)) lbb8.out))
   have h232 := hb220.sto hs229.out (Nat.ne_of_lt (Nat.lt_of_lt_of_le ltb5.out lbb8.out))
   have h233 := h223.sto hs229.out (Ne.symm (Nat.ne_of_lt (Nat.lt_of_lt_of_le ltb8.out lbb11.out)))
   have h234 := h224.sto hs229.out (Ne.symm (Nat.ne_of_lt (Nat.lt_of_lt_of_le (Nat.lt_of_lt_of_le ltb8.out ((Nat.le_trans ((Nat.le_trans (hu13.out.size) hu20.out.size)) hu32.out.size))) lbb33.out)))
   have h235 := h225.sto hs229.out (Ne.symm (Nat.ne_of_lt (Nat.lt_of_lt_of_le (Nat.lt_of_lt_of_le ltb8.out ((Nat.le_trans ((Nat.le_trans ((Nat.le_trans (hu13.out.size) hu20.out.size)) hu32.out.size)) hu35.out.size))) lbb36.out)))
   have h236 := h226.sto hs229.out (Ne.symm (Nat.ne_of_lt (Nat.lt_of_lt_of_le (Nat.lt_of_lt_of_le ltb8.out ((Nat.le_trans ((Nat.le_trans ((Nat.le_trans ((Nat.le_trans (hu13.out.size) hu20.out.size)) hu32.out.size)) hu35.out.size)) hu38.out.size))) lbb39.out)))
   have h237 := h227.sto hs229.out (Ne.symm (Nat.ne_of_lt (Nat.lt_of_lt_of_le (Nat.lt_of_lt_of_le ltb8.out ((Nat.le_trans ((Nat.le_trans ((Nat.le_trans ((Nat.le_trans ((Nat.le_trans ((Nat.le_trans ((Nat.le_trans ((Nat.le_trans ((Nat.le_trans (hu13.out.size) hu20.out.size)) hu32.out.size)) hu35.out.size)) hu38.out.size)) hu41.out.size)) (Nat.le_of_eq hs43.out.size.symm))) (Nat.le_of_eq hs48.out.size.symm))) (Nat.le_of_eq hs53.out.size.symm))) hs65.out.size))) lbb69.out)))
   refine wpList_nil ?_
   refine wrapQ_k ?_
   refine late_consT ⟨h234, h235, h236, h237, True.intro⟩ ?_
   have hB0 := h233
   have cl0 := hB0.cell (o := 0) rfl
   have fr0 := hB0.free 0
   have cl1 := hB0.cell (o := 1) rfl
   have fr1 := hB0.free 1
   refine step_store (b := b11) (cs' := [.int .i64 t58, .int .i64 t59]) (T := 30) (W' := ((w228.setCell ⟨b11, 0, none⟩ (.int .i64 t58)).setCell ⟨b11, 1, none⟩ (.int .i64 t59))) rfl rfl (by go_simp <;> rfl) (((Sto.refl _ _).setCell 0 _).setCell 1 _) (((hB0).setCell 0 _).setCell 1 _) ?_
   clear hB0 cl0 fr0 cl1 fr1
   intro w238 hs hb240
   have hs239 := Aside0.mk hs
   clear hs
   have h241 := h231.sto hs239.out (Nat.ne_of_lt (Nat.lt_of_lt_of_le (Nat.lt_of_lt_of_le ltb2.out ((Nat.le_trans (hu7.out.size) hu10.out.size))) lbb11.out))
   have h242 := h232.sto hs239.out (Nat.ne_of_lt (Nat.lt_of_lt_of_le (Nat.lt_of_lt_of_le ltb5.out (hu10.out.size)) lbb11.out))
   have h243 := hb230.sto hs239.out (Nat.ne_of_lt (Nat.lt_of_lt_of_le ltb8.out lbb11.out))
   have h244 := h234.sto hs239.out (Ne.symm (Nat.ne_of_lt (Nat.lt_of_lt_of_le (Nat.lt_of_lt_of_le ltb11.out ((Nat.le_trans (hu20.out.size) hu32.out.size))) lbb33.out)))
   have h245 := h235.sto hs239.out (Ne.symm (Nat.ne_of_lt (Nat.lt_of_lt_of_le (Nat.lt_of_lt_of_le ltb11.out ((Nat.le_trans ((Nat.le_trans (hu20.out.size) hu32.out.size)) hu35.out.size))) lbb36.out)))
   have h246 := h236.sto hs239.out (Ne.symm (Nat.ne_of_lt (Nat.lt_of_lt_of_le (Nat.lt_of_lt_of_le ltb11.out ((Nat.le_trans ((Nat.le_trans ((Nat.le_trans (hu20.out.size) hu32.out.size)) hu35.out.size)) hu38.out.size))) lbb39.out)))
   have h247 := h237.sto hs239.out (Ne.symm (Nat.ne_of_lt (Nat.lt_of_lt_of_le (Nat.lt_of_lt_of_le ltb11.out ((Nat.le_trans ((Nat.le_trans ((Nat.le_trans ((Nat.le_trans ((Nat.le_trans ((Nat.le_trans ((Nat.le_trans ((Nat.le_trans (hu20.out.size) hu32.out.size)) hu35.out.size)) hu38.out.size)) hu41.out.size)) (Nat.le_of_eq hs43.out.size.symm))) (Nat.le_of_eq hs48.out.size.symm))) (Nat.le_of_eq hs53.out.size.symm))) hs65.out.size))) lbb69.out)))
   refine wpList_nil ?_
   refine wrapQ_k ?_
   refine late_nilT ⟨h244, h245, h246, h247, True.intro⟩ ?_
   refine hK205 _ _ ?_
   refine wp_ret ?_
   refine hQf _ _ _ ?_
   have cr0 := h241.cell (o := 0) rfl
   have cr1 := h241.cell (o := 1) rfl
   have cr2 := h242.cell (o := 0) rfl
   have cr3 := h242.cell (o := 1) rfl
   have cr4 := h243.cell (o := 0) rfl
   have cr5 := h243.cell (o := 1) rfl
   have cr6 := hb240.cell (o := 0) rfl
   have cr7 := hb240.cell (o := 1) rfl
   exact bodyPost_ret (v := .tuple #[.int .i64 t22, .int .i64 t23, .agg #[.int .i64 t24, .int .i64 t25], .agg #[.int .i64 t26, .int .i64 t27], .agg #[.int .i64 t28, .int .i64 t29], .agg #[.int .i64 t58, .int .i64 t59]]) (by first|rfl|simp [results, Try.results60, go_sem, cr0, cr1, cr2, cr3, cr4, cr5, cr6, cr7]<;>rfl) rfl ⟨rfl, (((((hm107.out.trans hu207.out).sto (Nat.le_trans (Nat.le_refl _) lbb2.out) hs209.out).sto (Nat.le_trans (hu4.out.size) lbb5.out) hs219.out).sto (Nat.le_trans ((Nat.le_trans (hu4.out.size) hu7.out.size)) lbb8.out) hs229.out).sto (Nat.le_trans ((Nat.le_trans ((Nat.le_trans (hu4.out.size) hu7.out.size)) hu10.out.size)) lbb11.out) hs239.out)⟩
 rw [if_pos c106] at H
 have c106n : (t91 != 0) = false := by rw [bne, c106]; rfl
 obtain ⟨⟨t109, t110, t111⟩,A112,H⟩:=Option.bind_eq_some_iff.mp H
 replace A112:=Aside0.mk A112;try dsimp only at H
 obtain ⟨t122,A125,H⟩:=Option.bind_eq_some_iff.mp H
 replace A125:=Aside0.mk A125;try dsimp only at H
 obtain ⟨⟨t128, t129, t130⟩,A131,H⟩:=Option.bind_eq_some_iff.mp H
 replace A131:=Aside0.mk A131;try dsimp only at H
 obtain ⟨⟨t144, t145⟩,A146,H⟩:=Option.bind_eq_some_iff.mp H
 replace A146:=Aside0.mk A146;try dsimp only at H
 simp only [Option.some.injEq, Prod.mk.injEq] at H
 obtain ⟨rfl, rfl, rfl, rfl, rfl, rfl, rfl, rfl, rfl, rfl⟩ := H
 try simp only [c106, c106n, Bool.not_true, Bool.not_false]
 refine wp_cond_true rfl ?_
 refine wp_seq_k fun K108 hK108=>wp_region_lit ?_
 iterate 2 (refine wpp fun k h=>?_;go_simp;apply h;clear h k)
 have cl0 := h102.cell (o := 0) rfl
 have cl1 := h102.cell (o := 1) rfl
 refine wpp fun k h=>?_;go_simp;apply h;clear h k
 clear cl0 cl1
 have cl0 := h103.cell (o := 0) rfl
 have cl1 := h103.cell (o := 1) rfl
 refine wpp fun k h=>?_;go_simp;apply h;clear h k
 clear cl0 cl1
 have cl0 := h104.cell (o := 0) rfl
 have cl1 := h104.cell (o := 1) rfl
 refine wpp fun k h=>?_;go_simp;apply h;clear h k
 clear cl0 cl1
 refine step_call wn (by go_simp <;> rfl) (spec_l06Through.calls K t22 t23 t24 t25 t26 t27 t28 t29 t109 t110 t111 w95  A112.out) ?_
 rintro e w113 ⟨rfl, hu⟩
 have hu114 := Aside0.mk hu
 clear hu
 refine ⟨_, rfl, ?_⟩
 simp only[Act.put,nm1,nm2,nm3]
 refine step_new (cs := [.int .i64 0, .int .i64 0, .int .i64 0]) (T := 71) (f := fun b => .pointer (some ⟨b, 0, none⟩)) rfl (by go_simp <;> rfl) ?_
 intro b115 w116 hu lb hb115
 simp only[Act.put,nm1,nm2,nm3]
 have lbb115 := Aside0.mk lb
 have ltb115 := Aside0.mk hb115.lt
 clear lb
 have hu117 := Aside0.mk hu
 clear hu
 have hB0 := hb115
 have cl0 := hB0.cell (o := 0) rfl
 have fr0 := hB0.free 0
 have cl1 := hB0.cell (o := 1) rfl
 have fr1 := hB0.free 1
 have cl2 := hB0.cell (o := 2) rfl
 have fr2 := hB0.free 2
 refine step_store (b := b115) (cs' := [.int .i64 t109, .int .i64 t110, .int .i64 t111]) (T := 71) (W' := (((w116.setCell ⟨b115, 0, none⟩ (.int .i64 t109)).setCell ⟨b115, 1, none⟩ (.int .i64 t110)).setCell ⟨b115, 2, none⟩ (.int .i64 t111))) rfl rfl (by go_simp <;> rfl) ((((Sto.refl _ _).setCell 0 _).setCell 1 _).setCell 2 _) ((((hB0).setCell 0 _).setCell 1 _).setCell 2 _) ?_
 clear hB0 cl0 fr0 cl1 fr1 cl2 fr2
 intro w118 hs hb120
 have hs119 := Aside0.mk hs
 clear hs
 refine wpList_nil (hK108 _ _ ?_)
 refine wp_seq_k fun K121 hK121=>wp_region_lit ?_
 iterate 3 (refine wpp fun k h=>?_;go_simp;apply h;clear h k)
 have cl0 := hb120.cell (o := 0) rfl
 have cl1 := hb120.cell (o := 1) rfl
 refine wpp fun k h=>?_;go_simp;apply h;clear h k
 clear cl0 cl1
 refine wpp fun k h=>?_;go_simp;apply h;clear h k
 have cl0 := hb120.cell (o := 2) rfl
 refine wpp fun k h=>?_;go_simp;apply h;clear h k
 clear cl0
 refine step_call wn (by go_simp <;> rfl) (spec_l02At.calls K t22 t23 t109 t110 t111 t122 w118  A125.out) ?_
 rintro e w126 ⟨P123, q124, rfl, ht122, hu⟩
 have hu127 := Aside0.mk hu
 clear hu
 refine ⟨_, rfl, ?_⟩
 simp only[Act.put,nm1,nm2,nm3]
 refine wpp fun k h=>?_;go_simp;apply h;clear h k
 refine wpList_nil (hK121 _ _ ?_)
 refine wp_region_lit ?_
 iterate 4 (refine wpp fun k h=>?_;go_simp;apply h;clear h k)
 refine step_call wn (by go_simp <;> rfl) (spec_l01Next.calls K b15 a0_A a0_c a0 t92 t93 (t122.length : Int) t128 t129 t130 w126 (h96.up (((hu114.out.trans hu117.out).sto (Nat.le_trans (hu114.out.size) lbb115.out) hs119.out).trans hu127.out)) (ha0.up ((((hm107.out.trans hu114.out).trans hu117.out).sto (Nat.le_trans ((Nat.le_trans ((Nat.le_trans (hm82.out.size) hs97.out.size)) hu114.out.size)) lbb115.out) hs119.out).trans hu127.out)) (fun k hk hp => Nat.ne_of_lt (Nat.lt_of_lt_of_le ((ha0.up (((hu4.out.trans hu7.out).trans hu10.out).trans hu13.out)).blk_lt hp k hk) lbb15.out)) A131.out) ?_
 rintro e w132 ⟨rfl, h133, hs⟩
 have hs134 := Aside0.mk hs
 clear hs
 have h135 := (h98.up (((hu114.out.trans hu117.out).sto (Nat.le_trans (hu114.out.size) lbb115.out) hs119.out).trans hu127.out)).grow hs134.out (fun k hk e => (Ne.symm (Nat.ne_of_lt (Nat.lt_of_lt_of_le (Nat.lt_of_lt_of_le ltb2.out ((Nat.le_trans ((Nat.le_trans (hu7.out.size) hu10.out.size)) hu13.out.size))) lbb15.out))) ((Option.some.inj hk).trans e))
 have h136 := (h99.up (((hu114.out.trans hu117.out).sto (Nat.le_trans (hu114.out.size) lbb115.out) hs119.out).trans hu127.out)).grow hs134.out (fun k hk e => (Ne.symm (Nat.ne_of_lt (Nat.lt_of_lt_of_le (Nat.lt_of_lt_of_le ltb5.out ((Nat.le_trans (hu10.out.size) hu13.out.size))) lbb15.out))) ((Option.some.inj hk).trans e))
 have h137 := (h100.up (((hu114.out.trans hu117.out).sto (Nat.le_trans (hu114.out.size) lbb115.out) hs119.out).trans hu127.out)).grow hs134.out (fun k hk e => (Ne.symm (Nat.ne_of_lt (Nat.lt_of_lt_of_le (Nat.lt_of_lt_of_le ltb8.out (hu13.out.size)) lbb15.out))) ((Option.some.inj hk).trans e))
 have h138 := (h101.up (((hu114.out.trans hu117.out).sto (Nat.le_trans (hu114.out.size) lbb115.out) hs119.out).trans hu127.out)).grow hs134.out (fun k hk e => (Ne.symm (Nat.ne_of_lt (Nat.lt_of_lt_of_le ltb11.out lbb15.out))) ((Option.some.inj hk).trans e))
 have h139 := (h102.up (((hu114.out.trans hu117.out).sto (Nat.le_trans (hu114.out.size) lbb115.out) hs119.out).trans hu127.out)).grow hs134.out (fun k hk e => (Nat.ne_of_lt (Nat.lt_of_lt_of_le (Nat.lt_of_lt_of_le ltb15.out (hu32.out.size)) lbb33.out)) ((Option.some.inj hk).trans e))
 have h140 := (h103.up (((hu114.out.trans hu117.out).sto (Nat.le_trans (hu114.out.size) lbb115.out) hs119.out).trans hu127.out)).grow hs134.out (fun k hk e => (Nat.ne_of_lt (Nat.lt_of_lt_of_le (Nat.lt_of_lt_of_le ltb15.out ((Nat.le_trans (hu32.out.size) hu35.out.size))) lbb36.out)) ((Option.some.inj hk).trans e))
 have h141 := (h104.up (((hu114.out.trans hu117.out).sto (Nat.le_trans (hu114.out.size) lbb115.out) hs119.out).trans hu127.out)).grow hs134.out (fun k hk e => (Nat.ne_of_lt (Nat.lt_of_lt_of_le (Nat.lt_of_lt_of_le ltb15.out ((Nat.le_trans ((Nat.le_trans (hu32.out.size) hu35.out.size)) hu38.out.size))) lbb39.out)) ((Option.some.inj hk).trans e))
 have h142 := (h105.up (((hu114.out.trans hu117.out).sto (Nat.le_trans (hu114.out.size) lbb115.out) hs119.out).trans hu127.out)).grow hs134.out (fun k hk e => (Nat.ne_of_lt (Nat.lt_of_lt_of_le (Nat.lt_of_lt_of_le ltb15.out ((Nat.le_trans ((Nat.le_trans ((Nat.le_trans ((Nat.le_trans ((Nat.le_trans ((Nat.le_trans ((Nat.le_trans (hu32.out.size) hu35.out.size)) hu38.out.size)) hu41.out.size)) (Nat.le_of_eq hs43.out.size.symm))) (Nat.le_of_eq hs48.out.size.symm))) (Nat.le_of_eq hs53.out.size.symm))) hs65.out.size))) lbb69.out)) ((Option.some.inj hk).trans e))
 have h143 := ht122.grow hs134.out (fun k l hk hl e => (fun k hk => Nat.ne_of_lt (Nat.lt_of_lt_of_le (Nat.lt_of_lt_of_le ltb15.out ((Nat.le_trans ((Nat.le_trans ((Nat.le_trans ((Nat.le_trans ((Nat.le_trans ((Nat.le_trans ((Nat.le_trans ((Nat.le_trans ((Nat.le_trans ((Nat.le_trans ((Nat.le_trans ((Nat.le_trans ((Nat.le_trans ((Nat.le_trans (hu32.out.size) hu35.out.size)) hu38.out.size)) hu41.out.size)) (Nat.le_of_eq hs43.out.size.symm))) (Nat.le_of_eq hs48.out.size.symm))) (Nat.le_of_eq hs53.out.size.symm))) hs65.out.size)) hu71.out.size)) (Nat.le_of_eq hs73.out.size.symm))) hu80.out.size)) hs97.out.size)) hu114.out.size)) hu117.out.size)) (Nat.le_of_eq hs119.out.size.symm)))) ((fun k hk => Nat.le_trans (Nat.le_refl _) (ht122.lt k hk).1) k hk))) l hl ((Option.some.inj hk).trans e))
 refine ⟨_, rfl, ?_⟩
 simp only[Act.put,nm1,nm2,nm3]
 refine step_index e2 (T := 30) wn rfl (by kernel_rfl) (by kernel_rfl) rfl rfl rfl h143.rd A146.out ?_
 intro ad147 hat he
 have he148 := Aside0.mk he
 have hat149 := Aside0.mk hat
 clear he hat
 simp only[Act.put,nm1,nm2,nm3]
 have cl0 := he148.out 0 _ rfl
 rw [addr_add0] at cl0
 have cl1 : World.cell? _ ⟨ad147.block, ad147.off + 1, none⟩ = some _ := he148.out 1 _ rfl
 refine wpp fun k h=>?_;go_simp;apply h;clear h k
 clear cl0 cl1
 have hB0 := h142
 have cl0 := hB0.cell (o := 0) rfl
 have fr0 := hB0.free 0
 have cl1 := hB0.cell (o := 1) rfl
 have fr1 := hB0.free 1
 refine step_store (b := b69) (cs' := [.int .i64 t144, .int .i64 t145]) (T := 30) (W' := ((w132.setCell ⟨b69, 0, none⟩ (.int .i64 t144)).setCell ⟨b69, 1, none⟩ (.int .i64 t145))) rfl rfl (by go_simp <;> rfl) (((Sto.refl _ _).setCell 0 _).setCell 1 _) (((hB0).setCell 0 _).setCell 1 _) ?_
 clear hB0 cl0 fr0 cl1 fr1
 intro w150 hs hb152
 have hs151 := Aside0.mk hs
 clear hs
 have h153 := h135.sto hs151.out (Nat.ne_of_lt (Nat.lt_of_lt_of_le (Nat.lt_of_lt_of_le ltb2.out ((Nat.le_trans ((Nat.le_trans ((Nat.le_trans ((Nat.le_trans ((Nat.le_trans ((Nat.le_trans ((Nat.le_trans ((Nat.le_trans ((Nat.le_trans ((Nat.le_trans ((Nat.le_trans (hu7.out.size) hu10.out.size)) hu13.out.size)) hu20.out.size)) hu32.out.size)) hu35.out.size)) hu38.out.size)) hu41.out.size)) (Nat.le_of_eq hs43.out.size.symm))) (Nat.le_of_eq hs48.out.size.symm))) (Nat.le_of_eq hs53.out.size.symm))) hs65.out.size))) lbb69.out))
 have h154 := h136.sto hs151.out (Nat.ne_of_lt (Nat.lt_of_lt_of_le (Nat.lt_of_lt_of_le ltb5.out ((Nat.le_trans ((Nat.le_trans ((Nat.le_trans ((Nat.le_trans ((Nat.le_trans ((Nat.le_trans ((Nat.le_trans ((Nat.le_trans ((Nat.le_trans ((Nat.le_trans (hu10.out.size) hu13.out.size)) hu20.out.size)) hu32.out.size)) hu35.out.size)) hu38.out.size)) hu41.out.size)) (Nat.le_of_eq hs43.out.size.symm))) (Nat.le_of_eq hs48.out.size.symm))) (Nat.le_of_eq hs53.out.size.symm))) hs65.out.size))) lbb69.out))
 have h155 := h137.sto hs151.out (Nat.ne_of_lt (Nat.lt_of_lt_of_le (Nat.lt_of_lt_of_le ltb8.out ((Nat.le_trans ((Nat.le_trans ((Nat.le_trans ((Nat.le_trans ((Nat.le_trans ((Nat.le_trans ((Nat.le_trans ((Nat.le_trans ((Nat.le_trans (hu13.out.size) hu20.out.size)) hu32.out.size)) hu35.out.size)) hu38.out.size)) hu41.out.size)) (Nat.le_of_eq hs43.out.size.symm))) (Nat.le_of_eq hs48.out.size.symm))) (Nat.le_of_eq hs53.out.size.symm))) hs65.out.size))) lbb69.out))
 have h156 := h138.sto hs151.out (Nat.ne_of_lt (Nat.lt_of_lt_of_le (Nat.lt_of_lt_of_le ltb11.out ((Nat.le_trans ((Nat.le_trans ((Nat.le_trans ((Nat.le_trans ((Nat.le_trans ((Nat.le_trans ((Nat.le_trans ((Nat.le_trans (hu20.out.size) hu32.out.size)) hu35.out.size)) hu38.out.size)) hu41.out.size)) (Nat.le_of_eq hs43.out.size.symm))) (Nat.le_of_eq hs48.out.size.symm))) (Nat.le_of_eq hs53.out.size.symm))) hs65.out.size))) lbb69.out))
 have h157 := h133.sto hs151.out (Nat.ne_of_lt (Nat.lt_of_lt_of_le (Nat.lt_of_lt_of_le ltb15.out ((Nat.le_trans ((Nat.le_trans ((Nat.le_trans ((Nat.le_trans ((Nat.le_trans ((Nat.le_trans ((Nat.le_trans (hu32.out.size) hu35.out.size)) hu38.out.size)) hu41.out.size)) (Nat.le_of_eq hs43.out.size.symm))) (Nat.le_of_eq hs48.out.size.symm))) (Nat.le_of_eq hs53.out.size.symm))) hs65.out.size))) lbb69.out))
 have h158 := h139.sto hs151.out (Nat.ne_of_lt (Nat.lt_of_lt_of_le (Nat.lt_of_lt_of_le ltb33.out ((Nat.le_trans ((Nat.le_trans ((Nat.le_trans ((Nat.le_trans ((Nat.le_trans (hu38.out.size) hu41.out.size)) (Nat.le_of_eq hs43.out.size.symm))) (Nat.le_of_eq hs48.out.size.symm))) (Nat.le_of_eq hs53.out.size.symm))) hs65.out.size))) lbb69.out))
 have h159 := h140.sto hs151.out (Nat.ne_of_lt (Nat.lt_of_lt_of_le (Nat.lt_of_lt_of_le ltb36.out ((Nat.le_trans ((Nat.le_trans ((Nat.le_trans ((Nat.le_trans (hu41.out.size) (Nat.le_of_eq hs43.out.size.symm))) (Nat.le_of_eq hs48.out.size.symm))) (Nat.le_of_eq hs53.out.size.symm))) hs65.out.size))) lbb69.out))
 have h160 := h141.sto hs151.out (Nat.ne_of_lt (Nat.lt_of_lt_of_le (Nat.lt_of_lt_of_le ltb39.out ((Nat.le_trans ((Nat.le_trans ((Nat.le_trans ((Nat.le_of_eq hs43.out.size.symm)) (Nat.le_of_eq hs48.out.size.symm))) (Nat.le_of_eq hs53.out.size.symm))) hs65.out.size))) lbb69.out))
 have h161 := h143.sto hs151.out (fun k hk => Ne.symm ((fun k hk => Nat.ne_of_lt (Nat.lt_of_lt_of_le (Nat.lt_of_lt_of_le ltb69.out ((Nat.le_trans ((Nat.le_trans ((Nat.le_trans ((Nat.le_trans ((Nat.le_trans ((Nat.le_of_eq hs73.out.size.symm)) hu80.out.size)) hs97.out.size)) hu114.out.size)) hu117.out.size)) (Nat.le_of_eq hs119.out.size.symm)))) ((fun k hk => Nat.le_trans (Nat.le_refl _) (ht122.lt k hk).1) k hk))) k hk))
 refine wpList_nil (hK75 _ _ ?_)
 refine wp_seq_k fun K162 hK162=>?_
 have hTT_ : ∀ w_, Up (World.drew w150) w_ → (fun w_ => Blk w_ b33 [.int .i64 t24, .int .i64 t25] 30 ∧ Blk w_ b36 [.int .i64 t26, .int .i64 t27] 30 ∧ Blk w_ b39 [.int .i64 t28, .int .i64 t29] 30 ∧ Blk w_ b69 [.int .i64 t144, .int .i64 t145] 30 ∧ True) w_ := fun w_ hu_ => ⟨h158.up ((Up.refl _).drew.trans hu_), h159.up ((Up.refl _).drew.trans hu_), h160.up ((Up.refl _).drew.trans hu_), hb152.up ((Up.refl _).drew.trans hu_), True.intro⟩
 refine' wp_region_mix (fun w_ => Blk w_ b33 [.int .i64 t24, .int .i64 t25] 30 ∧ Blk w_ b36 [.int .i64 t26, .int .i64 t27] 30 ∧ Blk w_ b39 [.int .i64 t28, .int .i64 t29] 30 ∧ Blk w_ b69 [.int .i64 t144, .int .i64 t145] 30 ∧ True) [0, 1, 2, 3, 4, 5] [6, 7, 8, 9, 10, 11] [Slot.pur _, Slot.pur _, Slot.pur _, Slot.pur _, Slot.pur _, Slot.pur _] (by kernel_rfl) (by kernel_rfl) rfl rfl hTT_ ?main
 case main =>
  simp only [pick, List.drop_succ_cons, List.drop_zero]
  refine wpK_pur rfl hTT_ (fun w1 hT => ?_) ?_
  · clear hT
    go_simp
    first | done | rfl
  simp only[Act.put,nm1,nm2,nm3]
  refine wpK_pur rfl hTT_ (fun w1 hT => ?_) ?_
  · clear hT
    go_simp
    first | done | rfl
  simp only[Act.put,nm1,nm2,nm3]
  refine wpK_pur rfl hTT_ (fun w1 hT => ?_) ?_
  · have hB_ := hT.1
    have cl0 := hB_.cell (o := 0) rfl
    have cl1 := hB_.cell (o := 1) rfl
    clear hT
    go_simp
    first | done | rfl
  simp only[Act.put,nm1,nm2,nm3]
  refine wpK_pur rfl hTT_ (fun w1 hT => ?_) ?_
  · have hB_ := hT.2.1
    have cl0 := hB_.cell (o := 0) rfl
    have cl1 := hB_.cell (o := 1) rfl
    clear hT
    go_simp
    first | done | rfl
  simp only[Act.put,nm1,nm2,nm3]
  refine wpK_pur rfl hTT_ (fun w1 hT => ?_) ?_
  · have hB_ := hT.2.2.1
    have cl0 := hB_.cell (o := 0) rfl
    have cl1 := hB_.cell (o := 1) rfl
    clear hT
    go_simp
    first | done | rfl
  simp only[Act.put,nm1,nm2,nm3]
  refine wpK_pur rfl hTT_ (fun w1 hT => ?_) ?_
  · have hB_ := hT.2.2.2.1
    have cl0 := hB_.cell (o := 0) rfl
    have cl1 := hB_.cell (o := 1) rfl
    clear hT
    go_simp
    first | done | rfl
  simp only[Act.put,nm1,nm2,nm3]
  refine wpK_nil ?_
  intro w163 hu
  replace hu := (Up.refl _).drew.trans hu
  have hu164 := Aside0.mk hu
  clear hu
  refine late_consT ⟨(h158.up hu164.out), (h159.up hu164.out), (h160.up hu164.out), (hb152.up hu164.out), True.intro⟩ ?_
  refine wpp fun k h=>?_;go_simp;apply h;clear h k
  refine wpList_nil ?_
  refine wrapQ_k ?_
  refine late_consT ⟨(h158.up hu164.out), (h159.up hu164.out), (h160.up hu164.out), (hb152.up hu164.out), True.intro⟩ ?_
  refine wpp fun k h=>?_;go_simp;apply h;clear h k
  refine wpList_nil ?_
  refine wrapQ_k ?_
  refine late_consT ⟨(h158.up hu164.out), (h159.up hu164.out), (h160.up hu164.out), (hb152.up hu164.out), True.intro⟩ ?_
  have hB0 := (h153.up hu164.out)
  have cl0 := hB0.cell (o := 0) rfl
  have fr0 := hB0.free 0
  have cl1 := hB0.cell (o := 1) rfl
  have fr1 := hB0.free 1
  refine step_store (b := b2) (cs' := [.int .i64 t24, .int .i64 t25]) (T := 30) (W' := ((w163.setCell ⟨b2, 0, none⟩ (.int .i64 t24)).setCell ⟨b2, 1, none⟩ (.int .i64 t25))) rfl rfl (by go_simp <;> rfl) (((Sto.refl _ _).setCell 0 _).setCell 1 _) (((hB0).setCell 0 _).setCell 1 _) ?_
  clear hB0 cl0 fr0 cl1 fr1
  intro w165 hs hb167
  have hs166 := Aside0.mk hs
  clear hs
  have h168 := (h154.up hu164.out).sto hs166.out (Ne.symm (Nat.ne_of_lt (Nat.lt_of_lt_of_le ltb2.out lbb5.out)))
  have h169 := (h155.up hu164.out).sto hs166.out (Ne.symm (Nat.ne_of_lt (Nat.lt_of_lt_of_le (Nat.lt_of_lt_of_le ltb2.out (hu7.out.size)) lbb8.out)))
  have h170 := (h156.up hu164.out).sto hs166.out (Ne.symm (Nat.ne_of_lt (Nat.lt_of_lt_of_le (Nat.lt_of_lt_of_le ltb2.out ((Nat.le_trans (hu7.out.size) hu10.out.size))) lbb11.out)))
  have h171 := (h158.up hu164.out).sto hs166.out (Ne.symm (Nat.ne_of_lt (Nat.lt_of_lt_of_le (Nat.lt_of_lt_of_le ltb2.out ((Nat.le_trans ((Nat.le_trans ((Nat.le_trans ((Nat.le_trans (hu7.out.size) hu10.out.size)) hu13.out.size)) hu20.out.size)) hu32.out.size))) lbb33.out)))
  have h172 := (h159.up hu164.out).sto hs166.out (Ne.symm (Nat.ne_of_lt (Nat.lt_of_lt_of_le (Nat.lt_of_lt_of_le ltb2.out ((Nat.le_trans ((Nat.le_trans ((Nat.le_trans ((Nat.le_trans ((Nat.le_trans (hu7.out.size) hu10.out.size)) hu13.out.size)) hu20.out.size)) hu32.out.size)) hu35.out.size))) lbb36.out)))
  have h173 := (h160.up hu164.out).sto hs166.out (Ne.symm (Nat.ne_of_lt (Nat.lt_of_lt_of_le (Nat.lt_of_lt_of_le ltb2.out ((Nat.le_trans ((Nat.le_trans ((Nat.le_trans ((Nat.le_trans ((Nat.le_trans ((Nat.le_trans (hu7.out.size) hu10.out.size)) hu13.out.size)) hu20.out.size)) hu32.out.size)) hu35.out.size)) hu38.out.size))) lbb39.out)))
  have h174 := (hb152.up hu164.out).sto hs166.out (Ne.symm (Nat.ne_of_lt (Nat.lt_of_lt_of_le (Nat.lt_of_lt_of_le ltb2.out ((Nat.le_trans ((Nat.le_trans ((Nat.le_trans ((Nat.le_trans ((Nat.le_trans ((Nat.le_trans ((Nat.le_trans ((Nat.le_trans ((Nat.le_trans ((Nat.le_trans ((Nat.le_trans (hu7.out.size) hu10.out.size)) hu13.out.size)) hu20.out.size)) hu32.out.size)) hu35.out.size)) hu38.out.size)) hu41.out.size)) (Nat.le_of_eq hs43.out.size.symm))) (Nat.le_of_eq hs48.out.size.symm))) (Nat.le_of_eq hs53.out.size.symm))) hs65.out.size))) lbb69.out)))
  refine wpList_nil ?_
  refine wrapQ_k ?_
  refine late_consT ⟨h171, h172, h173, h174, True.intro⟩ ?_
  have hB0 := h168
  have cl0 := hB0.cell (o := 0) rfl
  have fr0 := hB0.free 0
  have cl1 := hB0.cell (o := 1) rfl
  have fr1 := hB0.free 1
  refine step_store (b := b5) (cs' := [.int .i64 t26, .int .i64 t27]) (T := 30) (W' := ((w165.setCell ⟨b5, 0, none⟩ (.int .i64 t26)).setCell ⟨b5, 1, none⟩ (.int .i64 t27))) rfl rfl (by go_simp <;> rfl) (((Sto.refl _ _).setCell 0 _).setCell 1 _) (((hB0).setCell 0 _).setCell 1 _) ?_
  clear hB0 cl0 fr0 cl1 fr1
  intro w175 hs hb177
  have hs176 := Aside0.mk hs
  clear hs
  have h178 := hb167.sto hs176.out (Nat.ne_of_lt (Nat.lt_of_lt_of_le ltb2.out lbb5.out))
  have h179 := h169.sto hs176.out (Ne.symm (Nat.ne_of_lt (Nat.lt_of_lt_of_le ltb5.out lbb8.out)))
  have h180 := h170.sto hs176.out (Ne.symm (Nat.ne_of_lt (Nat.lt_of_lt_of_le (Nat.lt_of_lt_of_le ltb5.out (hu10.out.size)) lbb11.out)))
  have h181 := h171.sto hs176.out (Ne.symm (Nat.ne_of_lt (Nat.lt_of_lt_of_le (Nat.lt_of_lt_of_le ltb5.out ((Nat.le_trans ((Nat.le_trans ((Nat.le_trans (hu10.out.size) hu13.out.size)) hu20.out.size)) hu32.out.size))) lbb33.out)))
  have h182 := h172.sto hs176.out (Ne.symm (Nat.ne_of_lt (Nat.lt_of_lt_of_le (Nat.lt_of_lt_of_le ltb5.out ((Nat.le_trans ((Nat.le_trans ((Nat.le_trans ((Nat.le_trans (hu10.out.size) hu13.out.size)) hu20.out.size)) hu32.out.size)) hu35.out.size))) lbb36.out)))
  have h183 := h173.sto hs176.out (Ne.symm (Nat.ne_of_lt (Nat.lt_of_lt_of_le (Nat.lt_of_lt_of_le ltb5.out ((Nat.le_trans ((Nat.le_trans ((Nat.le_trans ((Nat.le_trans ((Nat.le_trans (hu10.out.size) hu13.out.size)) hu20.out.size)) hu32.out.size)) hu35.out.size)) hu38.out.size))) lbb39.out)))
  have h184 := h174.sto hs176.out (Ne.symm (Nat.ne_of_lt (Nat.lt_of_lt_of_le (Nat.lt_of_lt_of_le ltb5.out ((Nat.le_trans ((Nat.le_trans ((Nat.le_trans ((Nat.le_trans ((Nat.le_trans ((Nat.le_trans ((Nat.le_trans ((Nat.le_trans ((Nat.le_trans ((Nat.le_trans (hu10.out.size) hu13.out.size)) hu20.out.size)) hu32.out.size)) hu35.out.size)) hu38.out.size)) hu41.out.size)) (Nat.le_of_eq hs43.out.size.symm))) (Nat.le_of_eq hs48.out.size.symm))) (Nat.le_of_eq hs53.out.size.symm))) hs65.out.size))) lbb69.out)))
  refine wpList_nil ?_
  refine wrapQ_k ?_
  refine late_consT ⟨h181, h182, h183, h184, True.intro⟩ ?_
  have hB0 := h179
  have cl0 := hB0.cell (o := 0) rfl
  have fr0 := hB0.free 0
  have cl1 := hB0.cell (o := 1) rfl
  have fr1 := hB0.free 1
  refine step_store (b := b8) (cs' := [.int .i64 t28, .int .i64 t29]) (T := 30) (W' := ((w175.setCell ⟨b8, 0, none⟩ (.int .i64 t28)).setCell ⟨b8, 1, none⟩ (.int .i64 t29))) rfl rfl (by go_simp <;> rfl) (((Sto.refl _ _).setCell 0 _).setCell 1 _) (((hB0).setCell 0 _).setCell 1 _) ?_
  clear hB0 cl0 fr0 cl1 fr1
  intro w185 hs hb187
  have hs186 := Aside0.mk hs
  clear hs
  have h188 := h178.sto hs186.out (Nat.ne_of_lt (Nat.lt_of_lt_of_le (Nat.lt_of_lt_of_le ltb2.out (hu7.out.size)) lbb8.out))
  have h189 := hb177.sto hs186.out (Nat.ne_of_lt (Nat.lt_of_lt_of_le ltb5.out lbb8.out))
  have h190 := h180.sto hs186.out (Ne.symm (Nat.ne_of_lt (Nat.lt_of_lt_of_le ltb8.out lbb11.out)))
  have h191 := h181.sto hs186.out (Ne.symm (Nat.ne_of_lt (Nat.lt_of_lt_of_le (Nat.lt_of_lt_of_le ltb8.out ((Nat.le_trans ((Nat.le_trans (hu13.out.size) hu20.out.size)) hu32.out.size))) lbb33.out)))
  have h192 := h182.sto hs186.out (Ne.symm (Nat.ne_of_lt (Nat.lt_of_lt_of_le (Nat.lt_of_lt_of_le ltb8.out ((Nat.le_trans ((Nat.le_trans ((Nat.le_trans (hu13.out.size) hu20.out.size)) hu32.out.size)) hu35.out.size))) lbb36.out)))
  have h193 := h183.sto hs186.out (Ne.symm (Nat.ne_of_lt (Nat.lt_of_lt_of_le (Nat.lt_of_lt_of_le ltb8.out ((Nat.le_trans ((Nat.le_trans ((Nat.le_trans ((Nat.le_trans (hu13.out.size) hu20.out.size)) hu32.out.size)) hu35.out.size)) hu38.out.size))) lbb39.out)))
  have h194 := h184.sto hs186.out (Ne.symm (Nat.ne_of_lt (Nat.lt_of_lt_of_le (Nat.lt_of_lt_of_le ltb8.out ((Nat.le_trans ((Nat.le_trans ((Nat.le_trans ((Nat.le_trans ((Nat.le_trans ((Nat.le_trans ((Nat.le_trans ((Nat.le_trans ((Nat.le_trans (hu13.out.size) hu20.out.size)) hu32.out.size)) hu35.out.size)) hu38.out.size)) hu41.out.size)) (Nat.le_of_eq hs43.out.size.symm))) (Nat.le_of_eq hs48.out.size.symm))) (Nat.le_of_eq hs53.out.size.symm))) hs65.out.size))) lbb69.out)))
  refine wpList_nil ?_
  refine wrapQ_k ?_
  refine late_consT ⟨h191, h192, h193, h194, True.intro⟩ ?_
  have hB0 := h190
  have cl0 := hB0.cell (o := 0) rfl
  have fr0 := hB0.free 0
  have cl1 := hB0.cell (o := 1) rfl
  have fr1 := hB0.free 1
  refine step_store (b := b11) (cs' := [.int .i64 t144, .int .i64 t145]) (T := 30) (W' := ((w185.setCell ⟨b11, 0, none⟩ (.int .i64 t144)).setCell ⟨b11, 1, none⟩ (.int .i64 t145))) rfl rfl (by go_simp <;> rfl) (((Sto.refl _ _).setCell 0 _).setCell 1 _) (((hB0).setCell 0 _).setCell 1 _) ?_
  clear hB0 cl0 fr0 cl1 fr1
  intro w195 hs hb197
  have hs196 := Aside0.mk hs
  clear hs
  have h198 := h188.sto hs196.out (Nat.ne_of_lt (Nat.lt_of_lt_of_le (Nat.lt_of_lt_of_le ltb2.out ((Nat.le_trans (hu7.out.size) hu10.out.size))) lbb11.out))
  have h199 := h189.sto hs196.out (Nat.ne_of_lt (Nat.lt_of_lt_of_le (Nat.lt_of_lt_of_le ltb5.out (hu10.out.size)) lbb11.out))
  have h200 := hb187.sto hs196.out (Nat.ne_of_lt (Nat.lt_of_lt_of_le ltb8.out lbb11.out))
  have h201 := h191.sto hs196.out (Ne.symm (Nat.ne_of_lt (Nat.lt_of_lt_of_le (Nat.lt_of_lt_of_le ltb11.out ((Nat.le_trans (hu20.out.size) hu32.out.size))) lbb33.out)))
  have h202 := h192.sto hs196.out (Ne.symm (Nat.ne_of_lt (Nat.lt_of_lt_of_le (Nat.lt_of_lt_of_le ltb11.out ((Nat.le_trans ((Nat.le_trans (hu20.out.size) hu32.out.size)) hu35.out.size))) lbb36.out)))
  have h203 := h193.sto hs196.out (Ne.symm (Nat.ne_of_lt (Nat.lt_of_lt_of_le (Nat.lt_of_lt_of_le ltb11.out ((Nat.le_trans ((Nat.le_trans ((Nat.le_trans (hu20.out.size) hu32.out.size)) hu35.out.size)) hu38.out.size))) lbb39.out)))
  have h204 := h194.sto hs196.out (Ne.symm (Nat.ne_of_lt (Nat.lt_of_lt_of_le (Nat.lt_of_lt_of_le ltb11.out ((Nat.le_trans ((Nat.le_trans ((Nat.le_trans ((Nat.le_trans ((Nat.le_trans ((Nat.le_trans ((Nat.le_trans ((Nat.le_trans (hu20.out.size) hu32.out.size)) hu35.out.size)) hu38.out.size)) hu41.out.size)) (Nat.le_of_eq hs43.out.size.symm))) (Nat.le_of_eq hs48.out.size.symm))) (Nat.le_of_eq hs53.out.size.symm))) hs65.out.size))) lbb69.out)))
  refine wpList_nil ?_
  refine wrapQ_k ?_
  refine late_nilT ⟨h201, h202, h203, h204, True.intro⟩ ?_
  refine hK162 _ _ ?_
  refine wp_ret ?_
  refine hQf _ _ _ ?_
  have cr0 := h198.cell (o := 0) rfl
  have cr1 := h198.cell (o := 1) rfl
  have cr2 := h199.cell (o := 0) rfl
  have cr3 := h199.cell (o := 1) rfl
  have cr4 := h200.cell (o := 0) rfl
  have cr5 := h200.cell (o := 1) rfl
  have cr6 := hb197.cell (o := 0) rfl
  have cr7 := hb197.cell (o := 1) rfl
  exact bodyPost_ret (v := .tuple #[.int .i64 t22, .int .i64 t23, .agg #[.int .i64 t24, .int .i64 t25], .agg #[.int .i64 t26, .int .i64 t27], .agg #[.int .i64 t28, .int .i64 t29], .agg #[.int .i64 t144, .int .i64 t145]]) (by first|rfl|simp [results, Try.results60, go_sem, cr0, cr1, cr2, cr3, cr4, cr5, cr6, cr7]<;>rfl) rfl ⟨rfl, (((((((((((hm107.out.trans hu114.out).trans hu117.out).sto (Nat.le_trans ((Nat.le_trans ((Nat.le_trans (hm82.out.size) hs97.out.size)) hu114.out.size)) lbb115.out) hs119.out).trans hu127.out).grow hs134.out (fun k hk => Nat.le_trans ((Nat.le_trans ((Nat.le_trans ((Nat.le_trans (hu4.out.size) hu7.out.size)) hu10.out.size)) hu13.out.size)) ((fun k hk => Nat.le_trans lbb15.out (Nat.le_of_eq (Option.some.inj hk))) k hk))).sto (Nat.le_trans ((Nat.le_trans ((Nat.le_trans ((Nat.le_trans ((Nat.le_trans ((Nat.le_trans ((Nat.le_trans ((Nat.le_trans ((Nat.le_trans ((Nat.le_trans ((Nat.le_trans ((Nat.le_trans ((Nat.le_trans (hu4.out.size) hu7.out.size)) hu10.out.size)) hu13.out.size)) hu20.out.size)) hu32.out.size)) hu35.out.size)) hu38.out.size)) hu41.out.size)) (Nat.le_of_eq hs43.out.size.symm))) (Nat.le_of_eq hs48.out.size.symm))) (Nat.le_of_eq hs53.out.size.symm))) hs65.out.size)) lbb69.out) hs151.out).trans hu164.out).sto (Nat.le_trans (Nat.le_refl _) lbb2.out) hs166.out).sto (Nat.le_trans (hu4.out.size) lbb5.out) hs176.out).sto (Nat.le_trans ((Nat.le_trans (hu4.out.size) hu7.out.size)) lbb8.out) hs186.out).sto (Nat.le_trans ((Nat.le_trans ((Nat.le_trans (hu4.out.size) hu7.out.size)) hu10.out.size)) lbb11.out) hs196.out)⟩

set_option maxHeartbeats 40000000 in
set_option maxRecDepth 100000 in
theorem impl_arePoints.calls (K : Nat) (a0 : Int) (a1_A : Option Addr) (a1_c : Nat) (a1 : List (Int × Int)) (r0 : Bool) (w : World) (ha1 : Rd e2 w a1_A a1) (h : impl_arePoints.f K a0 a1 = some (r0)) :
    Calls Try.prog 70 #[.int .i64 a0, .slice a1_A a1.length a1_c] w fun e w' => e = .returned (.bool r0) ∧ Up w w' := by
 have H : ((impl_arePoints.l0 K a0 a1 K 0) : Option (Bool)) = some (r0) := h
 clear h
 go_enter Try.func70, Try.ntmps70
 refine wp_hide (fun Qf hQf => ?_)
 refine wp_seq_k fun K1 hK1=>wp_region_lit ?_
 refine wpp fun k h=>?_;go_simp;apply h;clear h k
 refine wpList_nil (hK1 _ _ ?_)
 refine wp_seq_k fun K2 hK2=>?_
 refine wp_seq_k fun K3 hK3=>wp_region_lit ?_
 iterate 3 (refine wpp fun k h=>?_;go_simp;apply h;clear h k)
 refine wpList_nil (hK3 _ _ ?_)
 refine wp_block ?_
 have HL8 := Aside0.mk H
 clear H
 go_loopg [9] K (fun kq v9 w' => ∃ (x4 : Int), v9 = .int .i64 x4 ∧ Aside0 (impl_arePoints.l0 K a0 a1 kq x4 = some (r0)) ∧ Aside0 (kq ≤ K) ∧ Aside0 (Up w w') ∧ Aside0 (w.heap.size ≤ w'.heap.size))
 case atStart => exact ⟨0, (by first | rfl | simp), HL8, ⟨Nat.le_refl _⟩, ⟨(Up.refl _)⟩, ⟨Nat.le_refl _⟩⟩
 case round =>
  rename_i J11 K12 hJ11 hK12
  obtain ⟨x4, rfl, HL13, hk10, hu6, hz7⟩ := hrel
  obtain ⟨w5, rfl⟩ : ∃ wo : World, wo = wr := ⟨_, rfl⟩
  obtain ⟨k9, rfl⟩ | rfl : (∃ k, gk = k + 1) ∨ gk = 0 := by rcases gk with _ | k; exact .inr rfl; exact .inl ⟨k, rfl⟩
  case inr => exact absurd HL13.out (by simp [impl_arePoints.l0])
  have H := HL13.out
  clear HL13
  rw [impl_arePoints.l0] at H
  refine wp_seq_k fun K14 hK14=>wp_region_lit ?_
  refine wpp fun k h=>?_;go_simp;apply h;clear h k
  refine wpList_nil (hK14 _ _ ?_)
  refine wp_seq_k fun K15 hK15=>?_
  by_cases c16 : (decide (x4 < (a1.length : Int))) = true
  rotate_left
  ·
   rw [if_neg c16] at H; replace c16 := Bool.eq_false_iff.mpr c16
   obtain rfl := Option.some.inj H
   try simp only [c16, Bool.not_true, Bool.not_false]
   refine wp_cond_false rfl ?_
   refine wp_exit ?_
   refine hK2 _ _ ?_
   refine wp_seq_k fun K40 hK40=>wp_region_lit ?_
   refine wpp fun k h=>?_;go_simp;apply h;clear h k
   refine wpList_nil (hK40 _ _ ?_)
   refine wp_ret ?_
   refine hQf _ _ _ ?_
   exact bodyPost_ret (v := .bool true) (by first|rfl|simp [results, Try.results70, go_sem]<;>rfl) rfl ⟨rfl, hu6.out⟩
  rw [if_pos c16] at H
  obtain ⟨⟨t19, t20⟩,A21,H⟩:=Option.bind_eq_some_iff.mp H
  replace A21:=Aside0.mk A21;try dsimp only at H
  obtain ⟨t32,A33,H⟩:=Option.bind_eq_some_iff.mp H
  replace A33:=Aside0.mk A33;try dsimp only at H
  try simp only [c16, Bool.not_true, Bool.not_false]
  refine wp_cond_true rfl ?_
  refine wp_skip ?_
  refine hK15 _ _ ?_
  refine wp_seq_k fun K17 hK17=>?_
  refine wp_block ?_
  refine wp_seq_k fun K18 hK18=>wp_region_lit ?_
  refine step_index e2 (T := 30) wn rfl (by kernel_rfl) (by kernel_rfl) rfl rfl rfl (ha1.up hu6.out) A21.out ?_
  intro ad22 hat he
  have he23 := Aside0.mk he
  have hat24 := Aside0.mk hat
  clear he hat
  simp only[Act.put,nm1,nm2,nm3]
  have cl0 := he23.out 0 _ rfl
  rw [addr_add0] at cl0
  have cl1 : World.cell? _ ⟨ad22.block, ad22.off + 1, none⟩ = some _ := he23.out 1 _ rfl
  refine wpp fun k h=>?_;go_simp;apply h;clear h k
  clear cl0 cl1
  refine step_new (cs := [.int .i64 0, .int .i64 0]) (T := 30) (f := fun b => .pointer (some ⟨b, 0, none⟩)) rfl (by go_simp <;> rfl) ?_
  intro b25 w26 hu lb hb25
  simp only[Act.put,nm1,nm2,nm3]
  have lbb25 := Aside0.mk lb
  have ltb25 := Aside0.mk hb25.lt
  clear lb
  have hu27 := Aside0.mk hu
  clear hu
  have hB0 := hb25
  have cl0 := hB0.cell (o := 0) rfl
  have fr0 := hB0.free 0
  have cl1 := hB0.cell (o := 1) rfl
  have fr1 := hB0.free 1
  refine step_store (b := b25) (cs' := [.int .i64 t19, .int .i64 t20]) (T := 30) (W' := ((w26.setCell ⟨b25, 0, none⟩ (.int .i64 t19)).setCell ⟨b25, 1, none⟩ (.int .i64 t20))) rfl rfl (by go_simp <;> rfl) (((Sto.refl _ _).setCell 0 _).setCell 1 _) (((hB0).setCell 0 _).setCell 1 _) ?_
  clear hB0 cl0 fr0 cl1 fr1
  intro w28 hs hb30
  have hs29 := Aside0.mk hs
  clear hs
  refine wpList_nil (hK18 _ _ ?_)
  refine wp_seq_k fun K31 hK31=>wp_region_lit ?_
  refine wpp fun k h=>?_;go_simp;apply h;clear h k
  have cl0 := hb30.cell (o := 0) rfl
  have cl1 := hb30.cell (o := 1) rfl
  refine wpp fun k h=>?_;go_simp;apply h;clear h k
  clear cl0 cl1
  refine step_call wn (by go_simp <;> rfl) (impl_isPoint.calls K a0 t19 t20 t32 w28  A33.out) ?_
  rintro e w34 ⟨rfl, hu⟩
  have hu35 := Aside0.mk hu
  clear hu
  refine ⟨_, rfl, ?_⟩
  simp only[Act.put,nm1,nm2,nm3]
  refine wpp fun k h=>?_;go_simp;apply h;clear h k
  refine wpList_nil (hK31 _ _ ?_)
  have hm37 := Aside0.mk ((hu27.out.sto (Nat.le_trans (Nat.le_refl _) lbb25.out) hs29.out).trans hu35.out)
  by_cases c36 : (t32) = true
  rotate_left
  ·
   rw [if_neg c36] at H; replace c36 := Bool.eq_false_iff.mpr c36
   subst c36
   obtain rfl := Option.some.inj H
   refine wp_cond_true rfl ?_
   refine wp_seq_k fun K39 hK39=>wp_region_lit ?_
   refine wpp fun k h=>?_;go_simp;apply h;clear h k
   refine wpList_nil (hK39 _ _ ?_)
   refine wp_ret ?_
   refine hQf _ _ _ ?_
   exact bodyPost_ret (v := .bool false) (by first|rfl|simp [results, Try.results70, go_sem]<;>rfl) rfl ⟨rfl, (hu6.out.trans hm37.out)⟩
  rw [if_pos c36] at H
  subst c36
  have HL38 := Aside0.mk H
  clear H
  refine wp_cond_false rfl ?_
  refine wp_skip ?_
  refine hK17 _ _ ?_
  refine wp_region_lit ?_
  iterate 2 (refine wpp fun k h=>?_;go_simp;apply h;clear h k)
  refine wpList_nil (hK12 _ _ ?_)
  go_roundg k9
  case measure => exact Nat.lt_succ_self _
  case rel => exact ⟨wrap64 (x4 + 1), (by first | rfl | simp), HL38, ⟨by have := hk10.out; omega⟩, ⟨(hu6.out.trans hm37.out)⟩, ⟨(Nat.le_trans ((Nat.le_trans (Nat.le_refl _) hz7.out)) hm37.out.size)⟩⟩

set_option maxHeartbeats 40000000 in
set_option maxRecDepth 100000 in
theorem impl_AreCyclic_1.calls (K : Nat) (bf0 : Nat) (f0_0 : Int) (bf1 : Nat) (f1_0 : Int) (bf2 : Nat) (f2_0 : Int) (f2_1 : Int) (bf3 : Nat) (f3_0 : Int) (f3_1 : Int) (bf4 : Nat) (f4_0 : Int) (f4_1 : Int) (bf5 : Nat) (f5_0 : Int) (f5_1 : Int) (r0 : Bool) (w : World) (hf0 : Blk w bf0 [.int .i64 f0_0] 2) (hf1 : Blk w bf1 [.int .i64 f1_0] 2) (hf2 : Blk w bf2 [.int .i64 f2_0, .int .i64 f2_1] 30) (hf3 : Blk w bf3 [.int .i64 f3_0, .int .i64 f3_1] 30) (hf4 : Blk w bf4 [.int .i64 f4_0, .int .i64 f4_1] 30) (hf5 : Blk w bf5 [.int .i64 f5_0, .int .i64 f5_1] 30) (h : impl_AreCyclic_1.f K f0_0 f1_0 f2_0 f2_1 f3_0 f3_1 f4_0 f4_1 f5_0 f5_1 = some (r0)) :
    Calls Try.prog 162 #[.pointer (some ⟨bf0, 0, none⟩), .pointer (some ⟨bf1, 0, none⟩), .pointer (some ⟨bf2, 0, none⟩), .pointer (some ⟨bf3, 0, none⟩), .pointer (some ⟨bf4, 0, none⟩), .pointer (some ⟨bf5, 0, none⟩)] w fun e w' => e = .returned (.bool r0) ∧ Up w w' := by
 have H : (((impl_isColour.f K f0_0).bind fun t3 => (if t3 = true then ((impl_arePoints.f K f1_0 ([(f2_0, f2_1), (f3_0, f3_1), (f4_0, f4_1), (f5_0, f5_1)])).bind fun t11 => some t11) else some false)) : Option (Bool)) = some (r0) := h
 clear h
 obtain ⟨t3,A4,H⟩:=Option.bind_eq_some_iff.mp H
 replace A4:=Aside0.mk A4;try dsimp only at H
 have ltbf0 := Aside0.mk hf0.lt
 have ltbf1 := Aside0.mk hf1.lt
 have ltbf2 := Aside0.mk hf2.lt
 have ltbf3 := Aside0.mk hf3.lt
 have ltbf4 := Aside0.mk hf4.lt
 have ltbf5 := Aside0.mk hf5.lt
 go_enter Try.func162, Try.ntmps162
 refine wp_hide (fun Qf hQf => ?_)
 refine wp_seq_k fun K1 hK1=>wp_region_lit ?_
 refine wpp fun k h=>?_;go_simp;apply h;clear h k
 refine wpList_nil (hK1 _ _ ?_)
 refine wp_seq_k fun K2 hK2=>wp_region_lit ?_
 have cl0 := hf0.cell (o := 0) rfl
 refine wpp fun k h=>?_;go_simp;apply h;clear h k
 clear cl0
 refine step_call wn (by go_simp <;> rfl) (impl_isColour.calls K f0_0 t3 w  A4.out) ?_
 rintro e w5 ⟨rfl, hu⟩
 have hu6 := Aside0.mk hu
 clear hu
 refine ⟨_, rfl, ?_⟩
 simp only[Act.put,nm1,nm2,nm3]
 refine wpp fun k h=>?_;go_simp;apply h;clear h k
 by_cases c7 : (t3) = true
 rotate_left
 ·
  rw [if_neg c7] at H; replace c7 := Bool.eq_false_iff.mpr c7
  subst c7
  obtain rfl := Option.some.inj H
  refine step_no rfl ?_
  simp only[Act.put,nm1,nm2,nm3]
  refine step_no rfl ?_
  simp only[Act.put,nm1,nm2,nm3]
  refine step_no rfl ?_
  simp only[Act.put,nm1,nm2,nm3]
  refine step_no rfl ?_
  simp only[Act.put,nm1,nm2,nm3]
  refine step_no rfl ?_
  simp only[Act.put,nm1,nm2,nm3]
  refine step_no rfl ?_
  simp only[Act.put,nm1,nm2,nm3]
  refine step_no rfl ?_
  simp only[Act.put,nm1,nm2,nm3]
  iterate 2 (refine wpp fun k h=>?_;go_simp;apply h;clear h k)
  refine wpList_nil (hK2 _ _ ?_)
  refine wp_ret ?_
  refine hQf _ _ _ ?_
  exact bodyPost_ret (v := .bool false) (by first|rfl|simp [results, Try.results162, go_sem]<;>rfl) rfl ⟨rfl, hu6.out⟩
 rw [if_pos c7] at H
 subst c7
 obtain ⟨t11,A12,H⟩:=Option.bind_eq_some_iff.mp H
 replace A12:=Aside0.mk A12;try dsimp only at H
 obtain rfl := Option.some.inj H
 have cl0 := (hf1.up hu6.out).cell (o := 0) rfl
 refine wpList_step fun k h=>?_;go_simp;apply h;clear h k
 clear cl0
 have cl0 := (hf2.up hu6.out).cell (o := 0) rfl
 have cl1 := (hf2.up hu6.out).cell (o := 1) rfl
 refine wpList_step fun k h=>?_;go_simp;apply h;clear h k
 clear cl0 cl1
 have cl0 := (hf3.up hu6.out).cell (o := 0) rfl
 have cl1 := (hf3.up hu6.out).cell (o := 1) rfl
 refine wpList_step fun k h=>?_;go_simp;apply h;clear h k
 clear cl0 cl1
 have cl0 := (hf4.up hu6.out).cell (o := 0) rfl
 have cl1 := (hf4.up hu6.out).cell (o := 1) rfl
 refine wpList_step fun k h=>?_;go_simp;apply h;clear h k
 clear cl0 cl1
 have cl0 := (hf5.up hu6.out).cell (o := 0) rfl
 have cl1 := (hf5.up hu6.out).cell (o := 1) rfl
 refine wpList_step fun k h=>?_;go_simp;apply h;clear h k
 clear cl0 cl1
 refine step_new_yes (cs := [.int .i64 f2_0, .int .i64 f2_1, .int .i64 f3_0, .int .i64 f3_1, .int .i64 f4_0, .int .i64 f4_1, .int .i64 f5_0, .int .i64 f5_1]) (T := 30) (f := fun b => .slice (some ⟨b, 0, none⟩) 4 4) rfl (by go_simp <;> rfl) ?_
 intro b8 w9 hu lb hb8
 simp only[Act.put,nm1,nm2,nm3]
 have lbb8 := Aside0.mk lb
 have ltb8 := Aside0.mk hb8.lt
 clear lb
 have hu10 := Aside0.mk hu
 clear hu
 refine step_call rfl (by go_simp <;> rfl) (impl_arePoints.calls K f1_0 (some ⟨b8, 0, none⟩) 4 ([(f2_0, f2_1), (f3_0, f3_1), (f4_0, f4_1), (f5_0, f5_1)]) t11 w9 (Rd.of_blk (E := e2) (xs := [(f2_0, f2_1), (f3_0, f3_1), (f4_0, f4_1), (f5_0, f5_1)]) (o := 0) hb8 (by simp) (fun j u hu => by rcases j with _ | _ | _ | _ | _ | _ | _ | _ | j <;> simp_all [Enc.flat, e2])) A12.out) ?_
 rintro e w13 ⟨rfl, hu⟩
 have hu14 := Aside0.mk hu
 clear hu
 refine ⟨_, rfl, ?_⟩
 simp only[Act.put,nm1,nm2,nm3]
 iterate 2 (refine wpp fun k h=>?_;go_simp;apply h;clear h k)
 refine wpList_nil (hK2 _ _ ?_)
 refine wp_ret ?_
 refine hQf _ _ _ ?_
 exact bodyPost_ret (v := .bool t11) (by first|rfl|simp [results, Try.results162, go_sem]<;>rfl) rfl ⟨rfl, ((hu6.out.trans hu10.out).trans hu14.out)⟩

set_option maxHeartbeats 40000000 in
set_option maxRecDepth 100000 in
theorem impl_asked__impl_AreCyclic_1.calls (K : Nat) (a0 : Int) (bc1_0 : Nat) (c1_0_0 : Int) (bc1_1 : Nat) (c1_1_0 : Int) (bc1_2 : Nat) (c1_2_0 : Int) (c1_2_1 : Int) (bc1_3 : Nat) (c1_3_0 : Int) (c1_3_1 : Int) (bc1_4 : Nat) (c1_4_0 : Int) (c1_4_1 : Int) (bc1_5 : Nat) (c1_5_0 : Int) (c1_5_1 : Int) (r0 : Int) (w : World) (hc1_0 : Blk w bc1_0 [.int .i64 c1_0_0] 2) (hc1_1 : Blk w bc1_1 [.int .i64 c1_1_0] 2) (hc1_2 : Blk w bc1_2 [.int .i64 c1_2_0, .int .i64 c1_2_1] 30) (hc1_3 : Blk w bc1_3 [.int .i64 c1_3_0, .int .i64 c1_3_1] 30) (hc1_4 : Blk w bc1_4 [.int .i64 c1_4_0, .int .i64 c1_4_1] 30) (hc1_5 : Blk w bc1_5 [.int .i64 c1_5_0, .int .i64 c1_5_1] 30) (h : impl_asked__impl_AreCyclic_1.f K a0 c1_0_0 c1_1_0 c1_2_0 c1_2_1 c1_3_0 c1_3_1 c1_4_0 c1_4_1 c1_5_0 c1_5_1 = some (r0)) :
    Calls Try.prog 67 #[.int .i64 a0, .func (.func 162) #[] #[.pointer (some ⟨bc1_0, 0, none⟩), .pointer (some ⟨bc1_1, 0, none⟩), .pointer (some ⟨bc1_2, 0, none⟩), .pointer (some ⟨bc1_3, 0, none⟩), .pointer (some ⟨bc1_4, 0, none⟩), .pointer (some ⟨bc1_5, 0, none⟩)]] w fun e w' => e = .returned (.int .i64 r0) ∧ Up w w' := by
 have H : (((impl_IsField.f K a0).bind fun t4 => (if t4 = true then ((impl_AreCyclic_1.f K c1_0_0 c1_1_0 c1_2_0 c1_2_1 c1_3_0 c1_3_1 c1_4_0 c1_4_1 c1_5_0 c1_5_1).bind fun t11 => (if t11 = true then some 0 else some 2)) else some 1)) : Option (Int)) = some (r0) := h
 clear h
 obtain ⟨t4,A5,H⟩:=Option.bind_eq_some_iff.mp H
 replace A5:=Aside0.mk A5;try dsimp only at H
 have ltbc1_0 := Aside0.mk hc1_0.lt
 have ltbc1_1 := Aside0.mk hc1_1.lt
 have ltbc1_2 := Aside0.mk hc1_2.lt
 have ltbc1_3 := Aside0.mk hc1_3.lt
 have ltbc1_4 := Aside0.mk hc1_4.lt
 have ltbc1_5 := Aside0.mk hc1_5.lt
 go_enter Try.func67, Try.ntmps67
 refine wp_hide (fun Qf hQf => ?_)
 refine wp_seq_k fun K1 hK1=>wp_region_lit ?_
 refine wpp fun k h=>?_;go_simp;apply h;clear h k
 refine wpList_nil (hK1 _ _ ?_)
 refine wp_seq_k fun K2 hK2=>?_
 refine wp_seq_k fun K3 hK3=>wp_region_lit ?_
 refine wpp fun k h=>?_;go_simp;apply h;clear h k
 refine step_call wn (by go_simp <;> rfl) (impl_IsField.calls K a0 t4 w  A5.out) ?_
 rintro e w6 ⟨rfl, hu⟩
 have hu7 := Aside0.mk hu
 clear hu
 refine ⟨_, rfl, ?_⟩
 simp only[Act.put,nm1,nm2,nm3]
 refine wpp fun k h=>?_;go_simp;apply h;clear h k
 refine wpList_nil (hK3 _ _ ?_)
 by_cases c8 : (t4) = true
 rotate_left
 ·
  rw [if_neg c8] at H; replace c8 := Bool.eq_false_iff.mpr c8
  subst c8
  obtain rfl := Option.some.inj H
  refine wp_cond_true rfl ?_
  refine wp_seq_k fun K18 hK18=>wp_region_lit ?_
  refine wpp fun k h=>?_;go_simp;apply h;clear h k
  refine wpList_nil (hK18 _ _ ?_)
  refine wp_ret ?_
  refine hQf _ _ _ ?_
  exact bodyPost_ret (v := .int .i64 1) (by first|rfl|simp [results, Try.results67, go_sem]<;>rfl) rfl ⟨rfl, hu7.out⟩
 rw [if_pos c8] at H
 subst c8
 obtain ⟨t11,A12,H⟩:=Option.bind_eq_some_iff.mp H
 replace A12:=Aside0.mk A12;try dsimp only at H
 refine wp_cond_false rfl ?_
 refine wp_skip ?_
 refine hK2 _ _ ?_
 refine wp_seq_k fun K9 hK9=>?_
 refine wp_seq_k fun K10 hK10=>wp_region_lit ?_
 refine wpp fun k h=>?_;go_simp;apply h;clear h k
 refine step_call wn (by go_simp <;> rfl) (impl_AreCyclic_1.calls K bc1_0 c1_0_0 bc1_1 c1_1_0 bc1_2 c1_2_0 c1_2_1 bc1_3 c1_3_0 c1_3_1 bc1_4 c1_4_0 c1_4_1 bc1_5 c1_5_0 c1_5_1 t11 w6 (hc1_0.up hu7.out) (hc1_1.up hu7.out) (hc1_2.up hu7.out) (hc1_3.up hu7.out) (hc1_4.up hu7.out) (hc1_5.up hu7.out) A12.out) ?_
 rintro e w13 ⟨rfl, hu⟩
 have hu14 := Aside0.mk hu
 clear hu
 refine ⟨_, rfl, ?_⟩
 simp only[Act.put,nm1,nm2,nm3]
 refine wpp fun k h=>?_;go_simp;apply h;clear h k
 refine wpList_nil (hK10 _ _ ?_)
 by_cases c15 : (t11) = true
 rotate_left
 ·
  rw [if_neg c15] at H; replace c15 := Bool.eq_false_iff.mpr c15
  subst c15
  obtain rfl := Option.some.inj H
  refine wp_cond_true rfl ?_
  refine wp_seq_k fun K17 hK17=>wp_region_lit ?_
  refine wpp fun k h=>?_;go_simp;apply h;clear h k
  refine wpList_nil (hK17 _ _ ?_)
  refine wp_ret ?_
  refine hQf _ _ _ ?_
  exact bodyPost_ret (v := .int .i64 2) (by first|rfl|simp [results, Try.results67, go_sem]<;>rfl) rfl ⟨rfl, (hu7.out.trans hu14.out)⟩
 rw [if_pos c15] at H
 subst c15
 obtain rfl := Option.some.inj H
 refine wp_cond_false rfl ?_
 refine wp_skip ?_
 refine hK9 _ _ ?_
 refine wp_seq_k fun K16 hK16=>wp_region_lit ?_
 refine wpp fun k h=>?_;go_simp;apply h;clear h k
 refine wpList_nil (hK16 _ _ ?_)
 refine wp_ret ?_
 refine hQf _ _ _ ?_
 exact bodyPost_ret (v := .int .i64 0) (by first|rfl|simp [results, Try.results67, go_sem]<;>rfl) rfl ⟨rfl, (hu7.out.trans hu14.out)⟩

set_option maxHeartbeats 40000000 in
set_option maxRecDepth 100000 in
theorem impl_circumcentre.calls (K : Nat) (a0 : Int) (a1 : Int) (a2_0 : Int) (a2_1 : Int) (a3_0 : Int) (a3_1 : Int) (a4_0 : Int) (a4_1 : Int) (r0 : Int) (r1 : Int) (w : World)  (h : impl_circumcentre.f K a0 a1 a2_0 a2_1 a3_0 a3_1 a4_0 a4_1 = some (r0, r1)) :
    Calls Try.prog 121 #[.int .i64 a0, .int .i64 a1, .agg #[.int .i64 a2_0, .int .i64 a2_1], .agg #[.int .i64 a3_0, .int .i64 a3_1], .agg #[.int .i64 a4_0, .int .i64 a4_1]] w fun e w' => e = .returned (.agg #[.int .i64 r0, .int .i64 r1]) ∧ Up w w' := by
 have H : (((impl_allPoints.f K a0).bind fun t16 => (impl_circumcentre.l0 K a0 a1 a2_0 a2_1 a3_0 a3_1 a4_0 a4_1 t16 K 0 0 0)) : Option (Int × Int)) = some (r0, r1) := h
 clear h
 obtain ⟨t16,A19,H⟩:=Option.bind_eq_some_iff.mp H
 replace A19:=Aside0.mk A19;try dsimp only at H
 go_enter Try.func121, Try.ntmps121
 refine wp_hide (fun Qf hQf => ?_)
 refine wp_seq_k fun K1 hK1=>wp_region_lit ?_
 refine step_new (cs := [.int .i64 a2_0, .int .i64 a2_1]) (T := 30) (f := fun b => .pointer (some ⟨b, 0, none⟩)) rfl (by go_simp <;> rfl) ?_
 intro b2 w3 hu lb hb2
 simp only[Act.put,nm1,nm2,nm3]
 have lbb2 := Aside0.mk lb
 have ltb2 := Aside0.mk hb2.lt
 clear lb
 have hu4 := Aside0.mk hu
 clear hu
 refine step_new (cs := [.int .i64 a3_0, .int .i64 a3_1]) (T := 30) (f := fun b => .pointer (some ⟨b, 0, none⟩)) rfl (by go_simp <;> rfl) ?_
 intro b5 w6 hu lb hb5
 simp only[Act.put,nm1,nm2,nm3]
 have lbb5 := Aside0.mk lb
 have ltb5 := Aside0.mk hb5.lt
 clear lb
 have hu7 := Aside0.mk hu
 clear hu
 refine step_new (cs := [.int .i64 a4_0, .int .i64 a4_1]) (T := 30) (f := fun b => .pointer (some ⟨b, 0, none⟩)) rfl (by go_simp <;> rfl) ?_
 intro b8 w9 hu lb hb8
 simp only[Act.put,nm1,nm2,nm3]
 have lbb8 := Aside0.mk lb
 have ltb8 := Aside0.mk hb8.lt
 clear lb
 have hu10 := Aside0.mk hu
 clear hu
 refine step_new (cs := [.int .i64 0, .int .i64 0]) (T := 30) (f := fun b => .pointer (some ⟨b, 0, none⟩)) rfl (by go_simp <;> rfl) ?_
 intro b11 w12 hu lb hb11
 simp only[Act.put,nm1,nm2,nm3]
 have lbb11 := Aside0.mk lb
 have ltb11 := Aside0.mk hb11.lt
 clear lb
 have hu13 := Aside0.mk hu
 clear hu
 refine wpList_nil (hK1 _ _ ?_)
 refine wp_seq_k fun K14 hK14=>?_
 refine wp_seq_k fun K15 hK15=>wp_region_lit ?_
 refine wpp fun k h=>?_;go_simp;apply h;clear h k
 refine step_call wn (by go_simp <;> rfl) (impl_allPoints.calls K a0 t16 w12  A19.out) ?_
 rintro e w20 ⟨P17, q18, rfl, ht16, hu⟩
 have hu21 := Aside0.mk hu
 clear hu
 refine ⟨_, rfl, ?_⟩
 simp only[Act.put,nm1,nm2,nm3]
 iterate 2 (refine wpp fun k h=>?_;go_simp;apply h;clear h k)
 refine wpList_nil (hK15 _ _ ?_)
 refine wp_block ?_
 have HL28 := Aside0.mk H
 clear H
 go_loopg [17] K (fun kq v17 w' => ∃ (x22 : Int) (x23 : Int) (x24 : Int), v17 = .int .i64 x22 ∧ Aside0 (impl_circumcentre.l0 K a0 a1 a2_0 a2_1 a3_0 a3_1 a4_0 a4_1 t16 kq x22 x23 x24 = some (r0, r1)) ∧ Aside0 (kq ≤ K) ∧ Aside0 (Up w9 w') ∧ Aside0 (w20.heap.size ≤ w'.heap.size) ∧ Blk w' b11 [.int .i64 x23, .int .i64 x24] 30 ∧ Own e2 30 w' w12.heap.size (.slice P17 t16.length q18) t16)
 case atStart => exact ⟨0, 0, 0, (by first | rfl | simp), HL28, ⟨Nat.le_refl _⟩, ⟨(hu13.out.trans hu21.out)⟩, ⟨Nat.le_refl _⟩, (hb11.up hu21.out), ht16⟩
 case round =>
  rename_i J33 K34 hJ33 hK34
  obtain ⟨x22, x23, x24, rfl, HL35, hk32, hu26, hz27, h29, h30⟩ := hrel
  obtain ⟨w25, rfl⟩ : ∃ wo : World, wo = wr := ⟨_, rfl⟩
  obtain ⟨k31, rfl⟩ | rfl : (∃ k, gk = k + 1) ∨ gk = 0 := by rcases gk with _ | k; exact .inr rfl; exact .inl ⟨k, rfl⟩
  case inr => exact absurd HL35.out (by simp [impl_circumcentre.l0])
  have H := HL35.out
  clear HL35
  rw [impl_circumcentre.l0] at H
  refine wp_seq_k fun K36 hK36=>wp_region_lit ?_
  refine wpp fun k h=>?_;go_simp;apply h;clear h k
  refine wpList_nil (hK36 _ _ ?_)
  refine wp_seq_k fun K37 hK37=>?_
  have hm39 := Aside0.mk (((hu4.out.trans hu7.out).trans hu10.out).trans hu26.out)
  by_cases c38 : (decide (x22 < (t16.length : Int))) = true
  rotate_left
  ·
   rw [if_neg c38] at H; replace c38 := Bool.eq_false_iff.mpr c38
   simp only [Option.some.injEq, Prod.mk.injEq] at H
   obtain ⟨rfl, rfl⟩ := H
   try simp only [c38, Bool.not_true, Bool.not_false]
   refine wp_cond_false rfl ?_
   refine wp_exit ?_
   refine hK14 _ _ ?_
   refine wp_seq_k fun K85 hK85=>wp_region_lit ?_
   refine wpp fun k h=>?_;go_simp;apply h;clear h k
   have hB0 := h29
   have cl0 := hB0.cell (o := 0) rfl
   have fr0 := hB0.free 0
   have cl1 := hB0.cell (o := 1) rfl
   have fr1 := hB0.free 1
   refine step_store (b := b11) (cs' := [.int .i64 0, .int .i64 0]) (T := 30) (W' := ((w25.setCell ⟨b11, 0, none⟩ (.int .i64 0)).setCell ⟨b11, 1, none⟩ (.int .i64 0))) rfl rfl (by go_simp <;> rfl) (((Sto.refl _ _).setCell 0 _).setCell 1 _) (((hB0).setCell 0 _).setCell 1 _) ?_
   clear hB0 cl0 fr0 cl1 fr1
   intro w86 hs hb88
   have hs87 := Aside0.mk hs
   clear hs
   refine wpList_nil (hK85 _ _ ?_)
   refine wp_ret ?_
   refine hQf _ _ _ ?_
   have cr0 := hb88.cell (o := 0) rfl
   have cr1 := hb88.cell (o := 1) rfl
   exact bodyPost_ret (v := .agg #[.int .i64 0, .int .i64 0]) (by first|rfl|simp [results, Try.results121, go_sem, cr0, cr1]<;>rfl) rfl ⟨rfl, (hm39.out.sto (Nat.le_trans ((Nat.le_trans ((Nat.le_trans (hu4.out.size) hu7.out.size)) hu10.out.size)) lbb11.out) hs87.out)⟩
  rw [if_pos c38] at H
  obtain ⟨⟨t42, t43⟩,A44,H⟩:=Option.bind_eq_some_iff.mp H
  replace A44:=Aside0.mk A44;try dsimp only at H
  obtain ⟨t55,A56,H⟩:=Option.bind_eq_some_iff.mp H
  replace A56:=Aside0.mk A56;try dsimp only at H
  obtain ⟨t60,A61,H⟩:=Option.bind_eq_some_iff.mp H
  replace A61:=Aside0.mk A61;try dsimp only at H
  try simp only [c38, Bool.not_true, Bool.not_false]
  refine wp_cond_true rfl ?_
  refine wp_skip ?_
  refine hK37 _ _ ?_
  refine wp_seq_k fun K40 hK40=>?_
  refine wp_block ?_
  refine wp_seq_k fun K41 hK41=>wp_region_lit ?_
  refine step_index e2 (T := 30) wn rfl (by kernel_rfl) (by kernel_rfl) rfl rfl rfl h30.rd A44.out ?_
  intro ad45 hat he
  have he46 := Aside0.mk he
  have hat47 := Aside0.mk hat
  clear he hat
  simp only[Act.put,nm1,nm2,nm3]
  have cl0 := he46.out 0 _ rfl
  rw [addr_add0] at cl0
  have cl1 : World.cell? _ ⟨ad45.block, ad45.off + 1, none⟩ = some _ := he46.out 1 _ rfl
  refine wpp fun k h=>?_;go_simp;apply h;clear h k
  clear cl0 cl1
  refine step_new (cs := [.int .i64 0, .int .i64 0]) (T := 30) (f := fun b => .pointer (some ⟨b, 0, none⟩)) rfl (by go_simp <;> rfl) ?_
  intro b48 w49 hu lb hb48
  simp only[Act.put,nm1,nm2,nm3]
  have lbb48 := Aside0.mk lb
  have ltb48 := Aside0.mk hb48.lt
  clear lb
  have hu50 := Aside0.mk hu
  clear hu
  have hB0 := hb48
  have cl0 := hB0.cell (o := 0) rfl
  have fr0 := hB0.free 0
  have cl1 := hB0.cell (o := 1) rfl
  have fr1 := hB0.free 1
  refine step_store (b := b48) (cs' := [.int .i64 t42, .int .i64 t43]) (T := 30) (W' := ((w49.setCell ⟨b48, 0, none⟩ (.int .i64 t42)).setCell ⟨b48, 1, none⟩ (.int .i64 t43))) rfl rfl (by go_simp <;> rfl) (((Sto.refl _ _).setCell 0 _).setCell 1 _) (((hB0).setCell 0 _).setCell 1 _) ?_
  clear hB0 cl0 fr0 cl1 fr1
  intro w51 hs hb53
  have hs52 := Aside0.mk hs
  clear hs
  refine wpList_nil (hK41 _ _ ?_)
  refine wp_seq_k fun K54 hK54=>wp_region_lit ?_
  iterate 2 (refine wpp fun k h=>?_;go_simp;apply h;clear h k)
  have cl0 := hb53.cell (o := 0) rfl
  have cl1 := hb53.cell (o := 1) rfl
  refine wpp fun k h=>?_;go_simp;apply h;clear h k
  clear cl0 cl1
  have cl0 := (hb2.up ((((hu7.out.trans hu10.out).trans hu26.out).trans hu50.out).sto (Nat.le_trans ((Nat.le_trans ((Nat.le_trans ((Nat.le_trans ((Nat.le_trans (hu7.out.size) hu10.out.size)) hu13.out.size)) hu21.out.size)) hz27.out)) lbb48.out) hs52.out)).cell (o := 0) rfl
  have cl1 := (hb2.up ((((hu7.out.trans hu10.out).trans hu26.out).trans hu50.out).sto (Nat.le_trans ((Nat.le_trans ((Nat.le_trans ((Nat.le_trans ((Nat.le_trans (hu7.out.size) hu10.out.size)) hu13.out.size)) hu21.out.size)) hz27.out)) lbb48.out) hs52.out)).cell (o := 1) rfl
  refine wpp fun k h=>?_;go_simp;apply h;clear h k
  clear cl0 cl1
  refine step_call wn (by go_simp <;> rfl) (impl_quadrance.calls K a0 a1 t42 t43 a2_0 a2_1 t55 w51  A56.out) ?_
  rintro e w57 ⟨rfl, hu⟩
  have hu58 := Aside0.mk hu
  clear hu
  refine ⟨_, rfl, ?_⟩
  simp only[Act.put,nm1,nm2,nm3]
  refine wpp fun k h=>?_;go_simp;apply h;clear h k
  refine wpList_nil (hK54 _ _ ?_)
  refine wp_seq_k fun K59 hK59=>wp_region_lit ?_
  iterate 3 (refine wpp fun k h=>?_;go_simp;apply h;clear h k)
  have cl0 := (hb53.up hu58.out).cell (o := 0) rfl
  have cl1 := (hb53.up hu58.out).cell (o := 1) rfl
  refine wpp fun k h=>?_;go_simp;apply h;clear h k
  clear cl0 cl1
  have cl0 := (hb5.up ((((hu10.out.trans hu26.out).trans hu50.out).sto (Nat.le_trans ((Nat.le_trans ((Nat.le_trans ((Nat.le_trans (hu10.out.size) hu13.out.size)) hu21.out.size)) hz27.out)) lbb48.out) hs52.out).trans hu58.out)).cell (o := 0) rfl
  have cl1 := (hb5.up ((((hu10.out.trans hu26.out).trans hu50.out).sto (Nat.le_trans ((Nat.le_trans ((Nat.le_trans ((Nat.le_trans (hu10.out.size) hu13.out.size)) hu21.out.size)) hz27.out)) lbb48.out) hs52.out).trans hu58.out)).cell (o := 1) rfl
  refine wpp fun k h=>?_;go_simp;apply h;clear h k
  clear cl0 cl1
  refine step_call wn (by go_simp <;> rfl) (impl_quadrance.calls K a0 a1 t42 t43 a3_0 a3_1 t60 w57  A61.out) ?_
  rintro e w62 ⟨rfl, hu⟩
  have hu63 := Aside0.mk hu
  clear hu
  refine ⟨_, rfl, ?_⟩
  simp only[Act.put,nm1,nm2,nm3]
  iterate 2 (refine wpp fun k h=>?_;go_simp;apply h;clear h k)
  have hm65 := Aside0.mk (((hu50.out.sto (Nat.le_trans (Nat.le_refl _) lbb48.out) hs52.out).trans hu58.out).trans hu63.out)
  have hm66 := Aside0.mk (Nat.le_trans ((Nat.le_trans ((Nat.le_trans (hu13.out.size) hu21.out.size)) hz27.out)) hm65.out.size)
  have h67 := (hb2.up (((hu7.out.trans hu10.out).trans hu26.out).trans hm65.out))
  by_cases c64 : (t55 == t60) = true
  rotate_left
  ·
   rw [if_neg c64] at H; replace c64 := Bool.eq_false_iff.mpr c64
   have c64n : (t55 != t60) = true := by rw [bne, c64]; rfl
   have c64p : ¬ t55 = t60 := fun e => by simp [e] at c64
   have HL84 := Aside0.mk H
   clear H
   try simp only [c64, c64n, Bool.not_true, Bool.not_false]
   refine step_no rfl ?_
   simp only[Act.put,nm1,nm2,nm3]
   refine step_no rfl ?_
   simp only[Act.put,nm1,nm2,nm3]
   refine step_no rfl ?_
   simp only[Act.put,nm1,nm2,nm3]
   refine step_no rfl ?_
   simp only[Act.put,nm1,nm2,nm3]
   refine step_no rfl ?_
   simp only[Act.put,nm1,nm2,nm3]
   refine step_no rfl ?_
   simp only[Act.put,nm1,nm2,nm3]
   refine step_no rfl ?_
   simp only[Act.put,nm1,nm2,nm3]
   refine wpp fun k h=>?_;go_simp;apply h;clear h k
   refine wpList_nil (hK59 _ _ ?_)
   refine wp_cond_false rfl ?_
   refine wp_skip ?_
   refine hK40 _ _ ?_
   refine wp_region_lit ?_
   iterate 2 (refine wpp fun k h=>?_;go_simp;apply h;clear h k)
   refine wpList_nil (hK34 _ _ ?_)
   go_roundg k31
   case measure => exact Nat.lt_succ_self _
   case rel => exact ⟨wrap64 (x22 + 1), x23, x24, (by first | rfl | simp), HL84, ⟨by have := hk32.out; omega⟩, ⟨(hu26.out.trans hm65.out)⟩, ⟨(Nat.le_trans ((Nat.le_trans (Nat.le_refl _) hz27.out)) hm65.out.size)⟩, (h29.up hm65.out), (h30.up hm65.out)⟩
  rw [if_pos c64] at H
  have c64n : (t55 != t60) = false := by rw [bne, c64]; rfl
  obtain ⟨t68,A69,H⟩:=Option.bind_eq_some_iff.mp H
  replace A69:=Aside0.mk A69;try dsimp only at H
  try simp only [c64, c64n, Bool.not_true, Bool.not_false]
  refine wpList_step fun k h=>?_;go_simp;apply h;clear h k
  refine wpList_step fun k h=>?_;go_simp;apply h;clear h k
  refine wpList_step fun k h=>?_;go_simp;apply h;clear h k
  have cl0 := (hb53.up (hu58.out.trans hu63.out)).cell (o := 0) rfl
  have cl1 := (hb53.up (hu58.out.trans hu63.out)).cell (o := 1) rfl
  refine wpList_step fun k h=>?_;go_simp;apply h;clear h k
  clear cl0 cl1
  have cl0 := (hb8.up (hu26.out.trans hm65.out)).cell (o := 0) rfl
  have cl1 := (hb8.up (hu26.out.trans hm65.out)).cell (o := 1) rfl
  refine wpList_step fun k h=>?_;go_simp;apply h;clear h k
  clear cl0 cl1
  refine step_call rfl (by go_simp <;> rfl) (impl_quadrance.calls K a0 a1 t42 t43 a4_0 a4_1 t68 w62  A69.out) ?_
  rintro e w70 ⟨rfl, hu⟩
  have hu71 := Aside0.mk hu
  clear hu
  refine ⟨_, rfl, ?_⟩
  simp only[Act.put,nm1,nm2,nm3]
  refine wpList_step fun k h=>?_;go_simp;apply h;clear h k
  refine wpp fun k h=>?_;go_simp;apply h;clear h k
  refine wpList_nil (hK59 _ _ ?_)
  have hm73 := Aside0.mk (Nat.le_trans ((Nat.le_trans ((Nat.le_trans (Nat.le_refl _) hz27.out)) hm65.out.size)) hu71.out.size)
  have h74 := (hb5.up (((hu10.out.trans hu26.out).trans hm65.out).trans hu71.out))
  by_cases c72 : (t55 == t68) = true
  rotate_left
  ·
   rw [if_neg c72] at H; replace c72 := Bool.eq_false_iff.mpr c72
   have c72n : (t55 != t68) = true := by rw [bne, c72]; rfl
   have c72p : ¬ t55 = t68 := fun e => by simp [e] at c72
   have HL83 := Aside0.mk H
   clear H
   try simp only [c72, c72n, Bool.not_true, Bool.not_false]
   refine wp_cond_false rfl ?_
   refine wp_skip ?_
   refine hK40 _ _ ?_
   refine wp_region_lit ?_
   iterate 2 (refine wpp fun k h=>?_;go_simp;apply h;clear h k)
   refine wpList_nil (hK34 _ _ ?_)
   go_roundg k31
   case measure => exact Nat.lt_succ_self _
   case rel => exact ⟨wrap64 (x22 + 1), x23, x24, (by first | rfl | simp), HL83, ⟨by have := hk32.out; omega⟩, ⟨((hu26.out.trans hm65.out).trans hu71.out)⟩, ⟨hm73.out⟩, (h29.up (hm65.out.trans hu71.out)), (h30.up (hm65.out.trans hu71.out))⟩
  rw [if_pos c72] at H
  have c72n : (t55 != t68) = false := by rw [bne, c72]; rfl
  simp only [Option.some.injEq, Prod.mk.injEq] at H
  obtain ⟨rfl, rfl⟩ := H
  try simp only [c72, c72n, Bool.not_true, Bool.not_false]
  refine wp_cond_true rfl ?_
  refine wp_seq_k fun K75 hK75=>wp_region_lit ?_
  have cl0 := (hb53.up ((hu58.out.trans hu63.out).trans hu71.out)).cell (o := 0) rfl
  have cl1 := (hb53.up ((hu58.out.trans hu63.out).trans hu71.out)).cell (o := 1) rfl
  refine wpp fun k h=>?_;go_simp;apply h;clear h k
  clear cl0 cl1
  have hB0 := (h29.up (hm65.out.trans hu71.out))
  have cl0 := hB0.cell (o := 0) rfl
  have fr0 := hB0.free 0
  have cl1 := hB0.cell (o := 1) rfl
  have fr1 := hB0.free 1
  refine step_store (b := b11) (cs' := [.int .i64 t42, .int .i64 t43]) (T := 30) (W' := ((w70.setCell ⟨b11, 0, none⟩ (.int .i64 t42)).setCell ⟨b11, 1, none⟩ (.int .i64 t43))) rfl rfl (by go_simp <;> rfl) (((Sto.refl _ _).setCell 0 _).setCell 1 _) (((hB0).setCell 0 _).setCell 1 _) ?_
  clear hB0 cl0 fr0 cl1 fr1
  intro w76 hs hb78
  have hs77 := Aside0.mk hs
  clear hs
  have h79 := (h67.up hu71.out).sto hs77.out (Nat.ne_of_lt (Nat.lt_of_lt_of_le (Nat.lt_of_lt_of_le ltb2.out ((Nat.le_trans (hu7.out.size) hu10.out.size))) lbb11.out))
  have h80 := h74.sto hs77.out (Nat.ne_of_lt (Nat.lt_of_lt_of_le (Nat.lt_of_lt_of_le ltb5.out (hu10.out.size)) lbb11.out))
  have h81 := (h30.up (hm65.out.trans hu71.out)).sto hs77.out (fun k hk => Ne.symm ((fun k hk => Nat.ne_of_lt (Nat.lt_of_lt_of_le ltb11.out ((fun k hk => Nat.le_trans (Nat.le_refl _) (ht16.lt k hk).1) k hk))) k hk))
  have h82 := (hb53.up ((hu58.out.trans hu63.out).trans hu71.out)).sto hs77.out (Ne.symm (Nat.ne_of_lt (Nat.lt_of_lt_of_le (Nat.lt_of_lt_of_le ltb11.out ((Nat.le_trans (hu21.out.size) hz27.out))) lbb48.out)))
  refine wpList_nil (hK75 _ _ ?_)
  refine wp_ret ?_
  refine hQf _ _ _ ?_
  have cr0 := hb78.cell (o := 0) rfl
  have cr1 := hb78.cell (o := 1) rfl
  exact bodyPost_ret (v := .agg #[.int .i64 t42, .int .i64 t43]) (by first|rfl|simp [results, Try.results121, go_sem, cr0, cr1]<;>rfl) rfl ⟨rfl, (((hm39.out.trans hm65.out).trans hu71.out).sto (Nat.le_trans ((Nat.le_trans ((Nat.le_trans (hu4.out.size) hu7.out.size)) hu10.out.size)) lbb11.out) hs77.out)⟩

set_option maxHeartbeats 40000000 in
set_option maxRecDepth 100000 in
theorem impl_circleThrough.calls (K : Nat) (a0 : Int) (a1 : Int) (a2_0 : Int) (a2_1 : Int) (a3_0 : Int) (a3_1 : Int) (a4_0 : Int) (a4_1 : Int) (r0 : Int) (r1 : Int) (r2 : Int) (w : World)  (h : impl_circleThrough.f K a0 a1 a2_0 a2_1 a3_0 a3_1 a4_0 a4_1 = some (r0, r1, r2)) :
    Calls Try.prog 163 #[.int .i64 a0, .int .i64 a1, .agg #[.int .i64 a2_0, .int .i64 a2_1], .agg #[.int .i64 a3_0, .int .i64 a3_1], .agg #[.int .i64 a4_0, .int .i64 a4_1]] w fun e w' => e = .returned (.agg #[.int .i64 r0, .int .i64 r1, .int .i64 r2]) ∧ Up w w' := by
 have H : (((impl_circumcentre.f K a0 a1 a2_0 a2_1 a3_0 a3_1 a4_0 a4_1).bind fun (t15, t16) => ((impl_quadrance.f K a0 a1 t15 t16 a2_0 a2_1).bind fun t27 => some (t15, t16, t27))) : Option (Int × Int × Int)) = some (r0, r1, r2) := h
 clear h
 obtain ⟨⟨t15, t16⟩,A17,H⟩:=Option.bind_eq_some_iff.mp H
 replace A17:=Aside0.mk A17;try dsimp only at H
 obtain ⟨t27,A28,H⟩:=Option.bind_eq_some_iff.mp H
 replace A28:=Aside0.mk A28;try dsimp only at H
 simp only [Option.some.injEq, Prod.mk.injEq] at H
 obtain ⟨rfl, rfl, rfl⟩ := H
 go_enter Try.func163, Try.ntmps163
 refine wp_hide (fun Qf hQf => ?_)
 refine wp_seq_k fun K1 hK1=>wp_region_lit ?_
 refine step_new (cs := [.int .i64 a2_0, .int .i64 a2_1]) (T := 30) (f := fun b => .pointer (some ⟨b, 0, none⟩)) rfl (by go_simp <;> rfl) ?_
 intro b2 w3 hu lb hb2
 simp only[Act.put,nm1,nm2,nm3]
 have lbb2 := Aside0.mk lb
 have ltb2 := Aside0.mk hb2.lt
 clear lb
 have hu4 := Aside0.mk hu
 clear hu
 refine step_new (cs := [.int .i64 a3_0, .int .i64 a3_1]) (T := 30) (f := fun b => .pointer (some ⟨b, 0, none⟩)) rfl (by go_simp <;> rfl) ?_
 intro b5 w6 hu lb hb5
 simp only[Act.put,nm1,nm2,nm3]
 have lbb5 := Aside0.mk lb
 have ltb5 := Aside0.mk hb5.lt
 clear lb
 have hu7 := Aside0.mk hu
 clear hu
 refine step_new (cs := [.int .i64 a4_0, .int .i64 a4_1]) (T := 30) (f := fun b => .pointer (some ⟨b, 0, none⟩)) rfl (by go_simp <;> rfl) ?_
 intro b8 w9 hu lb hb8
 simp only[Act.put,nm1,nm2,nm3]
 have lbb8 := Aside0.mk lb
 have ltb8 := Aside0.mk hb8.lt
 clear lb
 have hu10 := Aside0.mk hu
 clear hu
 refine step_new (cs := [.int .i64 0, .int .i64 0, .int .i64 0]) (T := 71) (f := fun b => .pointer (some ⟨b, 0, none⟩)) rfl (by go_simp <;> rfl) ?_
 intro b11 w12 hu lb hb11
 simp only[Act.put,nm1,nm2,nm3]
 have lbb11 := Aside0.mk lb
 have ltb11 := Aside0.mk hb11.lt
 clear lb
 have hu13 := Aside0.mk hu
 clear hu
 refine wpList_nil (hK1 _ _ ?_)
 refine wp_seq_k fun K14 hK14=>wp_region_lit ?_
 iterate 2 (refine wpp fun k h=>?_;go_simp;apply h;clear h k)
 have cl0 := (hb2.up ((hu7.out.trans hu10.out).trans hu13.out)).cell (o := 0) rfl
 have cl1 := (hb2.up ((hu7.out.trans hu10.out).trans hu13.out)).cell (o := 1) rfl
 refine wpp fun k h=>?_;go_simp;apply h;clear h k
 clear cl0 cl1
 have cl0 := (hb5.up (hu10.out.trans hu13.out)).cell (o := 0) rfl
 have cl1 := (hb5.up (hu10.out.trans hu13.out)).cell (o := 1) rfl
 refine wpp fun k h=>?_;go_simp;apply h;clear h k
 clear cl0 cl1
 have cl0 := (hb8.up hu13.out).cell (o := 0) rfl
 have cl1 := (hb8.up hu13.out).cell (o := 1) rfl
 refine wpp fun k h=>?_;go_simp;apply h;clear h k
 clear cl0 cl1
 refine step_call wn (by go_simp <;> rfl) (impl_circumcentre.calls K a0 a1 a2_0 a2_1 a3_0 a3_1 a4_0 a4_1 t15 t16 w12  A17.out) ?_
 rintro e w18 ⟨rfl, hu⟩
 have hu19 := Aside0.mk hu
 clear hu
 refine ⟨_, rfl, ?_⟩
 simp only[Act.put,nm1,nm2,nm3]
 refine step_new (cs := [.int .i64 0, .int .i64 0]) (T := 30) (f := fun b => .pointer (some ⟨b, 0, none⟩)) rfl (by go_simp <;> rfl) ?_
 intro b20 w21 hu lb hb20
 simp only[Act.put,nm1,nm2,nm3]
 have lbb20 := Aside0.mk lb
 have ltb20 := Aside0.mk hb20.lt
 clear lb
 have hu22 := Aside0.mk hu
 clear hu
 have hB0 := hb20
 have cl0 := hB0.cell (o := 0) rfl
 have fr0 := hB0.free 0
 have cl1 := hB0.cell (o := 1) rfl
 have fr1 := hB0.free 1
 refine step_store (b := b20) (cs' := [.int .i64 t15, .int .i64 t16]) (T := 30) (W' := ((w21.setCell ⟨b20, 0, none⟩ (.int .i64 t15)).setCell ⟨b20, 1, none⟩ (.int .i64 t16))) rfl rfl (by go_simp <;> rfl) (((Sto.refl _ _).setCell 0 _).setCell 1 _) (((hB0).setCell 0 _).setCell 1 _) ?_
 clear hB0 cl0 fr0 cl1 fr1
 intro w23 hs hb25
 have hs24 := Aside0.mk hs
 clear hs
 refine wpList_nil (hK14 _ _ ?_)
 refine wp_seq_k fun K26 hK26=>?_
 refine' wp_region_up 7 [Slot.det _, Slot.det _, Slot.det _, Slot.det _, Slot.det _, Slot.det (.int .i64 t27), Slot.det _] (by kernel_rfl) (by kernel_rfl) ?main
 case main =>
  simp only [List.take_succ_cons, List.take_zero]
  refine wpK_ops rfl (fun w1 hu => ?_) ?_
  · have cl0 := (hb25.up ((Up.refl _).drew.trans hu)).cell (o := 0) rfl
    have cl1 := (hb25.up ((Up.refl _).drew.trans hu)).cell (o := 1) rfl
    go_simp
    first | done | rfl
  simp only[Act.put,nm1,nm2,nm3]
  refine wpK_ops rfl (fun w1 hu => ?_) ?_
  · clear hu
    go_simp
    first | done | rfl
  simp only[Act.put,nm1,nm2,nm3]
  refine wpK_ops rfl (fun w1 hu => ?_) ?_
  · clear hu
    go_simp
    first | done | rfl
  simp only[Act.put,nm1,nm2,nm3]
  refine wpK_ops rfl (fun w1 hu => ?_) ?_
  · have cl0 := (hb25.up ((Up.refl _).drew.trans hu)).cell (o := 0) rfl
    have cl1 := (hb25.up ((Up.refl _).drew.trans hu)).cell (o := 1) rfl
    go_simp
    first | done | rfl
  simp only[Act.put,nm1,nm2,nm3]
  refine wpK_ops rfl (fun w1 hu => ?_) ?_
  · have cl0 := ((hb2.up (((((hu7.out.trans hu10.out).trans hu13.out).trans hu19.out).trans hu22.out).sto (Nat.le_trans ((Nat.le_trans ((Nat.le_trans ((Nat.le_trans (hu7.out.size) hu10.out.size)) hu13.out.size)) hu19.out.size)) lbb20.out) hs24.out)).up ((Up.refl _).drew.trans hu)).cell (o := 0) rfl
    have cl1 := ((hb2.up (((((hu7.out.trans hu10.out).trans hu13.out).trans hu19.out).trans hu22.out).sto (Nat.le_trans ((Nat.le_trans ((Nat.le_trans ((Nat.le_trans (hu7.out.size) hu10.out.size)) hu13.out.size)) hu19.out.size)) lbb20.out) hs24.out)).up ((Up.refl _).drew.trans hu)).cell (o := 1) rfl
    go_simp
    first | done | rfl
  simp only[Act.put,nm1,nm2,nm3]
  refine wpK_ops rfl (fun w1 hu => ?_) ?_
  · have hcl := (impl_quadrance.calls K a0 a1 t15 t16 a2_0 a2_1 t27 w1  A28.out)
    clear hu
    replace hcl := Aside0.mk hcl
    go_simp
    exact hcl.out
  simp only[Act.put,nm1,nm2,nm3]
  refine wpK_ops rfl (fun w1 hu => ?_) ?_
  · clear hu
    go_simp
    first | done | rfl
  simp only[Act.put,nm1,nm2,nm3]
  refine wpK_nil ?_
  intro w29 hu hap
  simp only [List.drop_succ_cons, List.drop_zero]
  replace hu := (Up.refl _).drew.trans hu
  clear hap
  have hu30 := Aside0.mk hu
  clear hu
  have hB0 := (hb11.up (((hu19.out.trans hu22.out).sto (Nat.le_trans (hu19.out.size) lbb20.out) hs24.out).trans hu30.out))
  have cl0 := hB0.cell (o := 0) rfl
  have fr0 := hB0.free 0
  have cl1 := hB0.cell (o := 1) rfl
  have fr1 := hB0.free 1
  have cl2 := hB0.cell (o := 2) rfl
  have fr2 := hB0.free 2
  refine step_store (b := b11) (cs' := [.int .i64 t15, .int .i64 t16, .int .i64 t27]) (T := 71) (W' := (((w29.setCell ⟨b11, 0, none⟩ (.int .i64 t15)).setCell ⟨b11, 1, none⟩ (.int .i64 t16)).setCell ⟨b11, 2, none⟩ (.int .i64 t27))) rfl rfl (by go_simp <;> rfl) ((((Sto.refl _ _).setCell 0 _).setCell 1 _).setCell 2 _) ((((hB0).setCell 0 _).setCell 1 _).setCell 2 _) ?_
  clear hB0 cl0 fr0 cl1 fr1 cl2 fr2
  intro w31 hs hb33
  have hs32 := Aside0.mk hs
  clear hs
  have h34 := (hb25.up hu30.out).sto hs32.out (Ne.symm (Nat.ne_of_lt (Nat.lt_of_lt_of_le (Nat.lt_of_lt_of_le ltb11.out (hu19.out.size)) lbb20.out)))
  refine wpList_nil (hK26 _ _ ?_)
  refine wp_ret ?_
  refine hQf _ _ _ ?_
  have cr0 := hb33.cell (o := 0) rfl
  have cr1 := hb33.cell (o := 1) rfl
  have cr2 := hb33.cell (o := 2) rfl
  exact bodyPost_ret (v := .agg #[.int .i64 t15, .int .i64 t16, .int .i64 t27]) (by first|rfl|simp [results, Try.results163, go_sem, cr0, cr1, cr2]<;>rfl) rfl ⟨rfl, ((((((((hu4.out.trans hu7.out).trans hu10.out).trans hu13.out).trans hu19.out).trans hu22.out).sto (Nat.le_trans ((Nat.le_trans ((Nat.le_trans ((Nat.le_trans ((Nat.le_trans (hu4.out.size) hu7.out.size)) hu10.out.size)) hu13.out.size)) hu19.out.size)) lbb20.out) hs24.out).trans hu30.out).sto (Nat.le_trans ((Nat.le_trans ((Nat.le_trans (hu4.out.size) hu7.out.size)) hu10.out.size)) lbb11.out) hs32.out)⟩

set_option maxHeartbeats 40000000 in
set_option maxRecDepth 100000 in
theorem impl_AreCyclic.calls (K : Nat) (a0 : Int) (a1 : Int) (a2_0 : Int) (a2_1 : Int) (a3_0 : Int) (a3_1 : Int) (a4_0 : Int) (a4_1 : Int) (a5_0 : Int) (a5_1 : Int) (r0 : Bool) (r1 : Int) (w : World)  (h : impl_AreCyclic.f K a0 a1 a2_0 a2_1 a3_0 a3_1 a4_0 a4_1 a5_0 a5_1 = some (r0, r1)) :
    Calls Try.prog 61 #[.int .i64 a0, .int .i64 a1, .agg #[.int .i64 a2_0, .int .i64 a2_1], .agg #[.int .i64 a3_0, .int .i64 a3_1], .agg #[.int .i64 a4_0, .int .i64 a4_1], .agg #[.int .i64 a5_0, .int .i64 a5_1]] w fun e w' => e = .returned (.tuple #[.bool r0, .int .i64 r1]) ∧ Up w w' := by
 have H : (((impl_asked__impl_AreCyclic_1.f K a0 a1 a0 a2_0 a2_1 a3_0 a3_1 a4_0 a4_1 a5_0 a5_1).bind fun t22 => (if (t22 == 0) = true then ((impl_area.f K a0 a2_0 a2_1 a3_0 a3_1 a4_0 a4_1).bind fun t34 => (if (t34 == 0) = true then some (false, 5) else ((impl_circleThrough.f K a0 a1 a2_0 a2_1 a3_0 a3_1 a4_0 a4_1).bind fun (t42, t43, t44) => ((impl_power.f K a0 a1 t42 t43 t44 a5_0 a5_1).bind fun t46 => some (t46 == 0, 0))))) else some (false, t22))) : Option (Bool × Int)) = some (r0, r1) := h
 clear h
 obtain ⟨t22,A23,H⟩:=Option.bind_eq_some_iff.mp H
 replace A23:=Aside0.mk A23;try dsimp only at H
 go_enter Try.func61, Try.ntmps61
 refine wp_hide (fun Qf hQf => ?_)
 refine wp_seq_k fun K1 hK1=>wp_region_lit ?_
 refine step_new (cs := [.int .i64 a0]) (T := 2) (f := fun b => .pointer (some ⟨b, 0, none⟩)) rfl (by go_simp <;> rfl) ?_
 intro b2 w3 hu lb hb2
 simp only[Act.put,nm1,nm2,nm3]
 have lbb2 := Aside0.mk lb
 have ltb2 := Aside0.mk hb2.lt
 clear lb
 have hu4 := Aside0.mk hu
 clear hu
 refine step_new (cs := [.int .i64 a1]) (T := 2) (f := fun b => .pointer (some ⟨b, 0, none⟩)) rfl (by go_simp <;> rfl) ?_
 intro b5 w6 hu lb hb5
 simp only[Act.put,nm1,nm2,nm3]
 have lbb5 := Aside0.mk lb
 have ltb5 := Aside0.mk hb5.lt
 clear lb
 have hu7 := Aside0.mk hu
 clear hu
 refine step_new (cs := [.int .i64 a2_0, .int .i64 a2_1]) (T := 30) (f := fun b => .pointer (some ⟨b, 0, none⟩)) rfl (by go_simp <;> rfl) ?_
 intro b8 w9 hu lb hb8
 simp only[Act.put,nm1,nm2,nm3]
 have lbb8 := Aside0.mk lb
 have ltb8 := Aside0.mk hb8.lt
 clear lb
 have hu10 := Aside0.mk hu
 clear hu
 refine step_new (cs := [.int .i64 a3_0, .int .i64 a3_1]) (T := 30) (f := fun b => .pointer (some ⟨b, 0, none⟩)) rfl (by go_simp <;> rfl) ?_
 intro b11 w12 hu lb hb11
 simp only[Act.put,nm1,nm2,nm3]
 have lbb11 := Aside0.mk lb
 have ltb11 := Aside0.mk hb11.lt
 clear lb
 have hu13 := Aside0.mk hu
 clear hu
 refine step_new (cs := [.int .i64 a4_0, .int .i64 a4_1]) (T := 30) (f := fun b => .pointer (some ⟨b, 0, none⟩)) rfl (by go_simp <;> rfl) ?_
 intro b14 w15 hu lb hb14
 simp only[Act.put,nm1,nm2,nm3]
 have lbb14 := Aside0.mk lb
 have ltb14 := Aside0.mk hb14.lt
 clear lb
 have hu16 := Aside0.mk hu
 clear hu
 refine step_new (cs := [.int .i64 a5_0, .int .i64 a5_1]) (T := 30) (f := fun b => .pointer (some ⟨b, 0, none⟩)) rfl (by go_simp <;> rfl) ?_
 intro b17 w18 hu lb hb17
 simp only[Act.put,nm1,nm2,nm3]
 have lbb17 := Aside0.mk lb
 have ltb17 := Aside0.mk hb17.lt
 clear lb
 have hu19 := Aside0.mk hu
 clear hu
 iterate 2 (refine wpp fun k h=>?_;go_simp;apply h;clear h k)
 refine wpList_nil (hK1 _ _ ?_)
 refine wp_seq_k fun K20 hK20=>?_
 refine wp_seq_k fun K21 hK21=>wp_region_lit ?_
 have cl0 := (hb2.up ((((hu7.out.trans hu10.out).trans hu13.out).trans hu16.out).trans hu19.out)).cell (o := 0) rfl
 refine wpp fun k h=>?_;go_simp;apply h;clear h k
 clear cl0
 refine wpp fun k h=>?_;go_simp;apply h;clear h k
 refine step_call wn (by go_simp <;> rfl) (impl_asked__impl_AreCyclic_1.calls K a0 b5 a1 b2 a0 b8 a2_0 a2_1 b11 a3_0 a3_1 b14 a4_0 a4_1 b17 a5_0 a5_1 t22 w18 (hb5.up (((hu10.out.trans hu13.out).trans hu16.out).trans hu19.out)) (hb2.up ((((hu7.out.trans hu10.out).trans hu13.out).trans hu16.out).trans hu19.out)) (hb8.up ((hu13.out.trans hu16.out).trans hu19.out)) (hb11.up (hu16.out.trans hu19.out)) (hb14.up hu19.out) hb17 A23.out) ?_
 rintro e w24 ⟨rfl, hu⟩
 have hu25 := Aside0.mk hu
 clear hu
 refine ⟨_, rfl, ?_⟩
 simp only[Act.put,nm1,nm2,nm3]
 refine wpp fun k h=>?_;go_simp;apply h;clear h k
 refine wpList_nil (hK21 _ _ ?_)
 refine wp_seq_k fun K26 hK26=>wp_region_lit ?_
 iterate 2 (refine wpp fun k h=>?_;go_simp;apply h;clear h k)
 refine wpList_nil (hK26 _ _ ?_)
 have hm28 := Aside0.mk ((((((hu4.out.trans hu7.out).trans hu10.out).trans hu13.out).trans hu16.out).trans hu19.out).trans hu25.out)
 have h29 := (hb2.up (((((hu7.out.trans hu10.out).trans hu13.out).trans hu16.out).trans hu19.out).trans hu25.out))
 have h30 := (hb5.up ((((hu10.out.trans hu13.out).trans hu16.out).trans hu19.out).trans hu25.out))
 have h31 := (hb8.up (((hu13.out.trans hu16.out).trans hu19.out).trans hu25.out))
 by_cases c27 : (t22 == 0) = true
 rotate_left
 ·
  rw [if_neg c27] at H; replace c27 := Bool.eq_false_iff.mpr c27
  have c27n : (t22 != 0) = true := by rw [bne, c27]; rfl
  have c27p : ¬ t22 = 0 := fun e => by simp [e] at c27
  simp only [Option.some.injEq, Prod.mk.injEq] at H
  obtain ⟨rfl, rfl⟩ := H
  try simp only [c27, c27n, Bool.not_true, Bool.not_false]
  refine wp_cond_true rfl ?_
  refine wp_seq_k fun K50 hK50=>wp_region_lit ?_
  iterate 3 (refine wpp fun k h=>?_;go_simp;apply h;clear h k)
  refine wpList_nil (hK50 _ _ ?_)
  refine wp_ret ?_
  refine hQf _ _ _ ?_
  exact bodyPost_ret (v := .tuple #[.bool false, .int .i64 t22]) (by first|rfl|simp [results, Try.results61, go_sem]<;>rfl) rfl ⟨rfl, hm28.out⟩
 rw [if_pos c27] at H
 have c27n : (t22 != 0) = false := by rw [bne, c27]; rfl
 obtain ⟨t34,A35,H⟩:=Option.bind_eq_some_iff.mp H
 replace A35:=Aside0.mk A35;try dsimp only at H
 try simp only [c27, c27n, Bool.not_true, Bool.not_false]
 refine wp_cond_false rfl ?_
 refine wp_skip ?_
 refine hK20 _ _ ?_
 refine wp_seq_k fun K32 hK32=>?_
 refine wp_seq_k fun K33 hK33=>wp_region_lit ?_
 have cl0 := h29.cell (o := 0) rfl
 refine wpp fun k h=>?_;go_simp;apply h;clear h k
 clear cl0
 have cl0 := h31.cell (o := 0) rfl
 have cl1 := h31.cell (o := 1) rfl
 refine wpp fun k h=>?_;go_simp;apply h;clear h k
 clear cl0 cl1
 have cl0 := (hb11.up ((hu16.out.trans hu19.out).trans hu25.out)).cell (o := 0) rfl
 have cl1 := (hb11.up ((hu16.out.trans hu19.out).trans hu25.out)).cell (o := 1) rfl
 refine wpp fun k h=>?_;go_simp;apply h;clear h k
 clear cl0 cl1
 have cl0 := (hb14.up (hu19.out.trans hu25.out)).cell (o := 0) rfl
 have cl1 := (hb14.up (hu19.out.trans hu25.out)).cell (o := 1) rfl
 refine wpp fun k h=>?_;go_simp;apply h;clear h k
 clear cl0 cl1
 refine step_call wn (by go_simp <;> rfl) (impl_area.calls K a0 a2_0 a2_1 a3_0 a3_1 a4_0 a4_1 t34 w24  A35.out) ?_
 rintro e w36 ⟨rfl, hu⟩
 have hu37 := Aside0.mk hu
 clear hu
 refine ⟨_, rfl, ?_⟩
 simp only[Act.put,nm1,nm2,nm3]
 refine wpp fun k h=>?_;go_simp;apply h;clear h k
 refine wpList_nil (hK33 _ _ ?_)
 have h39 := (hb11.up (((hu16.out.trans hu19.out).trans hu25.out).trans hu37.out))
 by_cases c38 : (t34 == 0) = true
 ·
  rw [if_pos c38] at H
  have c38n : (t34 != 0) = false := by rw [bne, c38]; rfl
  simp only [Option.some.injEq, Prod.mk.injEq] at H
  obtain ⟨rfl, rfl⟩ := H
  try simp only [c38, c38n, Bool.not_true, Bool.not_false]
  refine wp_cond_true rfl ?_
  refine wp_seq_k fun K40 hK40=>wp_region_lit ?_
  iterate 2 (refine wpp fun k h=>?_;go_simp;apply h;clear h k)
  refine wpList_nil (hK40 _ _ ?_)
  refine wp_ret ?_
  refine hQf _ _ _ ?_
  exact bodyPost_ret (v := .tuple #[.bool false, .int .i64 5]) (by first|rfl|simp [results, Try.results61, go_sem]<;>rfl) rfl ⟨rfl, (hm28.out.trans hu37.out)⟩
 rw [if_neg c38] at H; replace c38 := Bool.eq_false_iff.mpr c38
 have c38n : (t34 != 0) = true := by rw [bne, c38]; rfl
 have c38p : ¬ t34 = 0 := fun e => by simp [e] at c38
 obtain ⟨⟨t42, t43, t44⟩,A45,H⟩:=Option.bind_eq_some_iff.mp H
 replace A45:=Aside0.mk A45;try dsimp only at H
 obtain ⟨t46,A47,H⟩:=Option.bind_eq_some_iff.mp H
 replace A47:=Aside0.mk A47;try dsimp only at H
 simp only [Option.some.injEq, Prod.mk.injEq] at H
 obtain ⟨rfl, rfl⟩ := H
 try simp only [c38, c38n, Bool.not_true, Bool.not_false]
 refine wp_cond_false rfl ?_
 refine wp_skip ?_
 refine hK32 _ _ ?_
 refine wp_seq_k fun K41 hK41=>?_
 refine' wp_region_up 11 [Slot.det _, Slot.det _, Slot.det _, Slot.det _, Slot.det _, Slot.det _, Slot.det _, Slot.det (.agg #[.int .i64 t42, .int .i64 t43, .int .i64 t44]), Slot.det _, Slot.det (.int .i64 t46), Slot.det _] (by kernel_rfl) (by kernel_rfl) ?main
 case main =>
  simp only [List.take_succ_cons, List.take_zero]
  refine wpK_ops rfl (fun w1 hu => ?_) ?_
  · have cl0 := ((h29.up hu37.out).up ((Up.refl _).drew.trans hu)).cell (o := 0) rfl
    go_simp
    first | done | rfl
  simp only[Act.put,nm1,nm2,nm3]
  refine wpK_ops rfl (fun w1 hu => ?_) ?_
  · have cl0 := ((h30.up hu37.out).up ((Up.refl _).drew.trans hu)).cell (o := 0) rfl
    go_simp
    first | done | rfl
  simp only[Act.put,nm1,nm2,nm3]
  refine wpK_ops rfl (fun w1 hu => ?_) ?_
  · have cl0 := ((h29.up hu37.out).up ((Up.refl _).drew.trans hu)).cell (o := 0) rfl
    go_simp
    first | done | rfl
  simp only[Act.put,nm1,nm2,nm3]
  refine wpK_ops rfl (fun w1 hu => ?_) ?_
  · have cl0 := ((h30.up hu37.out).up ((Up.refl _).drew.trans hu)).cell (o := 0) rfl
    go_simp
    first | done | rfl
  simp only[Act.put,nm1,nm2,nm3]
  refine wpK_ops rfl (fun w1 hu => ?_) ?_
  · have cl0 := ((h31.up hu37.out).up ((Up.refl _).drew.trans hu)).cell (o := 0) rfl
    have cl1 := ((h31.up hu37.out).up ((Up.refl _).drew.trans hu)).cell (o := 1) rfl
    go_simp
    first | done | rfl
  simp only[Act.put,nm1,nm2,nm3]
  refine wpK_ops rfl (fun w1 hu => ?_) ?_
  · have cl0 := (h39.up ((Up.refl _).drew.trans hu)).cell (o := 0) rfl
    have cl1 := (h39.up ((Up.refl _).drew.trans hu)).cell (o := 1) rfl
    go_simp
    first | done | rfl
  simp only[Act.put,nm1,nm2,nm3]
  refine wpK_ops rfl (fun w1 hu => ?_) ?_
  · have cl0 := ((hb14.up ((hu19.out.trans hu25.out).trans hu37.out)).up ((Up.refl _).drew.trans hu)).cell (o := 0) rfl
    have cl1 := ((hb14.up ((hu19.out.trans hu25.out).trans hu37.out)).up ((Up.refl _).drew.trans hu)).cell (o := 1) rfl
    go_simp
    first | done | rfl
  simp only[Act.put,nm1,nm2,nm3]
  refine wpK_ops rfl (fun w1 hu => ?_) ?_
  · have hcl := (impl_circleThrough.calls K a0 a1 a2_0 a2_1 a3_0 a3_1 a4_0 a4_1 t42 t43 t44 w1  A45.out)
    clear hu
    replace hcl := Aside0.mk hcl
    go_simp
    exact hcl.out
  simp only[Act.put,nm1,nm2,nm3]
  refine wpK_ops rfl (fun w1 hu => ?_) ?_
  · have cl0 := ((hb17.up (hu25.out.trans hu37.out)).up ((Up.refl _).drew.trans hu)).cell (o := 0) rfl
    have cl1 := ((hb17.up (hu25.out.trans hu37.out)).up ((Up.refl _).drew.trans hu)).cell (o := 1) rfl
    go_simp
    first | done | rfl
  simp only[Act.put,nm1,nm2,nm3]
  refine wpK_ops rfl (fun w1 hu => ?_) ?_
  · have hcl := (impl_power.calls K a0 a1 t42 t43 t44 a5_0 a5_1 t46 w1  A47.out)
    clear hu
    replace hcl := Aside0.mk hcl
    go_simp
    exact hcl.out
  simp only[Act.put,nm1,nm2,nm3]
  refine wpK_ops rfl (fun w1 hu => ?_) ?_
  · clear hu
    go_simp
    first | done | rfl
  simp only[Act.put,nm1,nm2,nm3]
  refine wpK_nil ?_
  intro w48 hu hap
  simp only [List.drop_succ_cons, List.drop_zero]
  replace hu := (Up.refl _).drew.trans hu
  clear hap
  have hu49 := Aside0.mk hu
  clear hu
  iterate 2 (refine wpp fun k h=>?_;go_simp;apply h;clear h k)
  refine wpList_nil (hK41 _ _ ?_)
  refine wp_ret ?_
  refine hQf _ _ _ ?_
  exact bodyPost_ret (v := .tuple #[.bool (t46 == 0), .int .i64 0]) (by first|rfl|simp [results, Try.results61, go_sem]<;>rfl) rfl ⟨rfl, ((hm28.out.trans hu37.out).trans hu49.out)⟩

set_option maxHeartbeats 40000000 in
set_option maxRecDepth 100000 in
theorem impl_isLine.calls (K : Nat) (a0 : Int) (a1_0 : Int) (a1_1 : Int) (a1_2 : Int) (r0 : Bool) (w : World)  (h : impl_isLine.f K a0 a1_0 a1_1 a1_2 = some (r0)) :
    Calls Try.prog 76 #[.int .i64 a0, .agg #[.int .i64 a1_0, .int .i64 a1_1, .int .i64 a1_2]] w fun e w' => e = .returned (.bool r0) ∧ Up w w' := by
 have H : (((impl_areNumbers.f K a0 ([a1_0, a1_1, a1_2])).bind fun t7 => (if t7 = true then (if (a1_0 == 1) = true then some true else (if (a1_0 == 0) = true then some (a1_1 == 1) else some false)) else some false)) : Option (Bool)) = some (r0) := h
 clear h
 obtain ⟨t7,A8,H⟩:=Option.bind_eq_some_iff.mp H
 replace A8:=Aside0.mk A8;try dsimp only at H
 go_enter Try.func76, Try.ntmps76
 refine wp_hide (fun Qf hQf => ?_)
 refine wp_seq_k fun K1 hK1=>wp_region_lit ?_
 refine step_new (cs := [.int .i64 a1_0, .int .i64 a1_1, .int .i64 a1_2]) (T := 34) (f := fun b => .pointer (some ⟨b, 0, none⟩)) rfl (by go_simp <;> rfl) ?_
 intro b2 w3 hu lb hb2
 simp only[Act.put,nm1,nm2,nm3]
 have lbb2 := Aside0.mk lb
 have ltb2 := Aside0.mk hb2.lt
 clear lb
 have hu4 := Aside0.mk hu
 clear hu
 refine wpp fun k h=>?_;go_simp;apply h;clear h k
 refine wpList_nil (hK1 _ _ ?_)
 refine wp_seq_k fun K5 hK5=>?_
 refine wp_seq_k fun K6 hK6=>wp_region_lit ?_
 iterate 2 (refine wpp fun k h=>?_;go_simp;apply h;clear h k)
 refine step_call wn (by go_simp <;> rfl) (impl_areNumbers.calls K a0 (some ⟨b2, 0, none⟩) 3 ([a1_0, a1_1, a1_2]) t7 w3 (Rd.of_blk (E := eI) (xs := [a1_0, a1_1, a1_2]) (o := 0) hb2 (by simp) (fun j u hu => by rcases j with _ | _ | _ | j <;> simp_all [Enc.flat, eI])) A8.out) ?_
 rintro e w9 ⟨rfl, hu⟩
 have hu10 := Aside0.mk hu
 clear hu
 refine ⟨_, rfl, ?_⟩
 simp only[Act.put,nm1,nm2,nm3]
 refine wpp fun k h=>?_;go_simp;apply h;clear h k
 refine wpList_nil (hK6 _ _ ?_)
 by_cases c11 : (t7) = true
 rotate_left
 ·
  rw [if_neg c11] at H; replace c11 := Bool.eq_false_iff.mpr c11
  subst c11
  obtain rfl := Option.some.inj H
  refine wp_cond_true rfl ?_
  refine wp_seq_k fun K15 hK15=>wp_region_lit ?_
  refine wpp fun k h=>?_;go_simp;apply h;clear h k
  refine wpList_nil (hK15 _ _ ?_)
  refine wp_ret ?_
  refine hQf _ _ _ ?_
  exact bodyPost_ret (v := .bool false) (by first|rfl|simp [results, Try.results76, go_sem]<;>rfl) rfl ⟨rfl, (hu4.out.trans hu10.out)⟩
 rw [if_pos c11] at H
 subst c11
 refine wp_cond_false rfl ?_
 refine wp_skip ?_
 refine hK5 _ _ ?_
 refine wp_seq_k fun K12 hK12=>wp_region_lit ?_
 refine wpp fun k h=>?_;go_simp;apply h;clear h k
 have cl0 := (hb2.up hu10.out).cell (o := 0) rfl
 refine wpp fun k h=>?_;go_simp;apply h;clear h k
 clear cl0
 iterate 2 (refine wpp fun k h=>?_;go_simp;apply h;clear h k)
 by_cases c13 : (a1_0 == 1) = true
 ·
  rw [if_pos c13] at H
  have c13n : (a1_0 != 1) = false := by rw [bne, c13]; rfl
  obtain rfl := Option.some.inj H
  try simp only [c13, c13n, Bool.not_true, Bool.not_false]
  refine step_no rfl ?_
  simp only[Act.put,nm1,nm2,nm3]
  refine step_no rfl ?_
  simp only[Act.put,nm1,nm2,nm3]
  refine step_no rfl ?_
  simp only[Act.put,nm1,nm2,nm3]
  refine step_no rfl ?_
  simp only[Act.put,nm1,nm2,nm3]
  refine step_no rfl ?_
  simp only[Act.put,nm1,nm2,nm3]
  refine step_no rfl ?_
  simp only[Act.put,nm1,nm2,nm3]
  refine step_no rfl ?_
  simp only[Act.put,nm1,nm2,nm3]
  refine step_no rfl ?_
  simp only[Act.put,nm1,nm2,nm3]
  iterate 2 (refine wpp fun k h=>?_;go_simp;apply h;clear h k)
  refine wpList_nil (hK12 _ _ ?_)
  refine wp_ret ?_
  refine hQf _ _ _ ?_
  exact bodyPost_ret (v := .bool true) (by first|rfl|simp [results, Try.results76, go_sem]<;>rfl) rfl ⟨rfl, (hu4.out.trans hu10.out)⟩
 rw [if_neg c13] at H; replace c13 := Bool.eq_false_iff.mpr c13
 have c13n : (a1_0 != 1) = true := by rw [bne, c13]; rfl
 have c13p : ¬ a1_0 = 1 := fun e => by simp [e] at c13
 try simp only [c13, c13n, Bool.not_true, Bool.not_false]
 refine wpList_step fun k h=>?_;go_simp;apply h;clear h k
 have cl0 := (hb2.up hu10.out).cell (o := 0) rfl
 refine wpList_step fun k h=>?_;go_simp;apply h;clear h k
 clear cl0
 refine wpList_step fun k h=>?_;go_simp;apply h;clear h k
 refine wpList_step fun k h=>?_;go_simp;apply h;clear h k
 by_cases c14 : (a1_0 == 0) = true
 ·
  rw [if_pos c14] at H
  have c14n : (a1_0 != 0) = false := by rw [bne, c14]; rfl
  obtain rfl := Option.some.inj H
  try simp only [c14, c14n, Bool.not_true, Bool.not_false]
  refine wpList_step fun k h=>?_;go_simp;apply h;clear h k
  have cl0 := (hb2.up hu10.out).cell (o := 1) rfl
  refine wpList_step fun k h=>?_;go_simp;apply h;clear h k
  clear cl0
  refine wpList_step fun k h=>?_;go_simp;apply h;clear h k
  refine wpList_step fun k h=>?_;go_simp;apply h;clear h k
  iterate 2 (refine wpp fun k h=>?_;go_simp;apply h;clear h k)
  refine wpList_nil (hK12 _ _ ?_)
  refine wp_ret ?_
  refine hQf _ _ _ ?_
  exact bodyPost_ret (v := .bool (a1_1 == 1)) (by first|rfl|simp [results, Try.results76, go_sem]<;>rfl) rfl ⟨rfl, (hu4.out.trans hu10.out)⟩
 rw [if_neg c14] at H; replace c14 := Bool.eq_false_iff.mpr c14
 have c14n : (a1_0 != 0) = true := by rw [bne, c14]; rfl
 have c14p : ¬ a1_0 = 0 := fun e => by simp [e] at c14
 obtain rfl := Option.some.inj H
 try simp only [c14, c14n, Bool.not_true, Bool.not_false]
 refine step_no rfl ?_
 simp only[Act.put,nm1,nm2,nm3]
 refine step_no rfl ?_
 simp only[Act.put,nm1,nm2,nm3]
 refine step_no rfl ?_
 simp only[Act.put,nm1,nm2,nm3]
 refine wpList_step fun k h=>?_;go_simp;apply h;clear h k
 iterate 2 (refine wpp fun k h=>?_;go_simp;apply h;clear h k)
 refine wpList_nil (hK12 _ _ ?_)
 refine wp_ret ?_
 refine hQf _ _ _ ?_
 exact bodyPost_ret (v := .bool false) (by first|rfl|simp [results, Try.results76, go_sem]<;>rfl) rfl ⟨rfl, (hu4.out.trans hu10.out)⟩

set_option maxHeartbeats 40000000 in
set_option maxRecDepth 100000 in
theorem impl_PointsOn_1.calls (K : Nat) (bf0 : Nat) (f0_0 : Int) (bf1 : Nat) (f1_0 : Int) (f1_1 : Int) (f1_2 : Int) (r0 : Bool) (w : World) (hf0 : Blk w bf0 [.int .i64 f0_0] 2) (hf1 : Blk w bf1 [.int .i64 f1_0, .int .i64 f1_1, .int .i64 f1_2] 34) (h : impl_PointsOn_1.f K f0_0 f1_0 f1_1 f1_2 = some (r0)) :
    Calls Try.prog 168 #[.pointer (some ⟨bf0, 0, none⟩), .pointer (some ⟨bf1, 0, none⟩)] w fun e w' => e = .returned (.bool r0) ∧ Up w w' := by
 have H : (((impl_isLine.f K f0_0 f1_0 f1_1 f1_2).bind fun t3 => some t3) : Option (Bool)) = some (r0) := h
 clear h
 obtain ⟨t3,A4,H⟩:=Option.bind_eq_some_iff.mp H
 replace A4:=Aside0.mk A4;try dsimp only at H
 obtain rfl := Option.some.inj H
 have ltbf0 := Aside0.mk hf0.lt
 have ltbf1 := Aside0.mk hf1.lt
 go_enter Try.func168, Try.ntmps168
 refine wp_hide (fun Qf hQf => ?_)
 refine wp_seq_k fun K1 hK1=>wp_region_lit ?_
 refine wpp fun k h=>?_;go_simp;apply h;clear h k
 refine wpList_nil (hK1 _ _ ?_)
 refine wp_seq_k fun K2 hK2=>wp_region_lit ?_
 have cl0 := hf0.cell (o := 0) rfl
 refine wpp fun k h=>?_;go_simp;apply h;clear h k
 clear cl0
 have cl0 := hf1.cell (o := 0) rfl
 have cl1 := hf1.cell (o := 1) rfl
 have cl2 := hf1.cell (o := 2) rfl
 refine wpp fun k h=>?_;go_simp;apply h;clear h k
 clear cl0 cl1 cl2
 refine step_call wn (by go_simp <;> rfl) (impl_isLine.calls K f0_0 f1_0 f1_1 f1_2 t3 w  A4.out) ?_
 rintro e w5 ⟨rfl, hu⟩
 have hu6 := Aside0.mk hu
 clear hu
 refine ⟨_, rfl, ?_⟩
 simp only[Act.put,nm1,nm2,nm3]
 refine wpp fun k h=>?_;go_simp;apply h;clear h k
 refine wpList_nil (hK2 _ _ ?_)
 refine wp_ret ?_
 refine hQf _ _ _ ?_
 exact bodyPost_ret (v := .bool t3) (by first|rfl|simp [results, Try.results168, go_sem]<;>rfl) rfl ⟨rfl, hu6.out⟩

set_option maxHeartbeats 40000000 in
set_option maxRecDepth 100000 in
theorem impl_asked__impl_PointsOn_1.calls (K : Nat) (a0 : Int) (bc1_0 : Nat) (c1_0_0 : Int) (bc1_1 : Nat) (c1_1_0 : Int) (c1_1_1 : Int) (c1_1_2 : Int) (r0 : Int) (w : World) (hc1_0 : Blk w bc1_0 [.int .i64 c1_0_0] 2) (hc1_1 : Blk w bc1_1 [.int .i64 c1_1_0, .int .i64 c1_1_1, .int .i64 c1_1_2] 34) (h : impl_asked__impl_PointsOn_1.f K a0 c1_0_0 c1_1_0 c1_1_1 c1_1_2 = some (r0)) :
    Calls Try.prog 67 #[.int .i64 a0, .func (.func 168) #[] #[.pointer (some ⟨bc1_0, 0, none⟩), .pointer (some ⟨bc1_1, 0, none⟩)]] w fun e w' => e = .returned (.int .i64 r0) ∧ Up w w' := by
 have H : (((impl_IsField.f K a0).bind fun t4 => (if t4 = true then ((impl_PointsOn_1.f K c1_0_0 c1_1_0 c1_1_1 c1_1_2).bind fun t11 => (if t11 = true then some 0 else some 2)) else some 1)) : Option (Int)) = some (r0) := h
 clear h
 obtain ⟨t4,A5,H⟩:=Option.bind_eq_some_iff.mp H
 replace A5:=Aside0.mk A5;try dsimp only at H
 have ltbc1_0 := Aside0.mk hc1_0.lt
 have ltbc1_1 := Aside0.mk hc1_1.lt
 go_enter Try.func67, Try.ntmps67
 refine wp_hide (fun Qf hQf => ?_)
 refine wp_seq_k fun K1 hK1=>wp_region_lit ?_
 refine wpp fun k h=>?_;go_simp;apply h;clear h k
 refine wpList_nil (hK1 _ _ ?_)
 refine wp_seq_k fun K2 hK2=>?_
 refine wp_seq_k fun K3 hK3=>wp_region_lit ?_
 refine wpp fun k h=>?_;go_simp;apply h;clear h k
 refine step_call wn (by go_simp <;> rfl) (impl_IsField.calls K a0 t4 w  A5.out) ?_
 rintro e w6 ⟨rfl, hu⟩
 have hu7 := Aside0.mk hu
 clear hu
 refine ⟨_, rfl, ?_⟩
 simp only[Act.put,nm1,nm2,nm3]
 refine wpp fun k h=>?_;go_simp;apply h;clear h k
 refine wpList_nil (hK3 _ _ ?_)
 by_cases c8 : (t4) = true
 rotate_left
 ·
  rw [if_neg c8] at H; replace c8 := Bool.eq_false_iff.mpr c8
  subst c8
  obtain rfl := Option.some.inj H
  refine wp_cond_true rfl ?_
  refine wp_seq_k fun K18 hK18=>wp_region_lit ?_
  refine wpp fun k h=>?_;go_simp;apply h;clear h k
  refine wpList_nil (hK18 _ _ ?_)
  refine wp_ret ?_
  refine hQf _ _ _ ?_
  exact bodyPost_ret (v := .int .i64 1) (by first|rfl|simp [results, Try.results67, go_sem]<;>rfl) rfl ⟨rfl, hu7.out⟩
 rw [if_pos c8] at H
 subst c8
 obtain ⟨t11,A12,H⟩:=Option.bind_eq_some_iff.mp H
 replace A12:=Aside0.mk A12;try dsimp only at H
 refine wp_cond_false rfl ?_
 refine wp_skip ?_
 refine hK2 _ _ ?_
 refine wp_seq_k fun K9 hK9=>?_
 refine wp_seq_k fun K10 hK10=>wp_region_lit ?_
 refine wpp fun k h=>?_;go_simp;apply h;clear h k
 refine step_call wn (by go_simp <;> rfl) (impl_PointsOn_1.calls K bc1_0 c1_0_0 bc1_1 c1_1_0 c1_1_1 c1_1_2 t11 w6 (hc1_0.up hu7.out) (hc1_1.up hu7.out) A12.out) ?_
 rintro e w13 ⟨rfl, hu⟩
 have hu14 := Aside0.mk hu
 clear hu
 refine ⟨_, rfl, ?_⟩
 simp only[Act.put,nm1,nm2,nm3]
 refine wpp fun k h=>?_;go_simp;apply h;clear h k
 refine wpList_nil (hK10 _ _ ?_)
 by_cases c15 : (t11) = true
 rotate_left
 ·
  rw [if_neg c15] at H; replace c15 := Bool.eq_false_iff.mpr c15
  subst c15
  obtain rfl := Option.some.inj H
  refine wp_cond_true rfl ?_
  refine wp_seq_k fun K17 hK17=>wp_region_lit ?_
  refine wpp fun k h=>?_;go_simp;apply h;clear h k
  refine wpList_nil (hK17 _ _ ?_)
  refine wp_ret ?_
  refine hQf _ _ _ ?_
  exact bodyPost_ret (v := .int .i64 2) (by first|rfl|simp [results, Try.results67, go_sem]<;>rfl) rfl ⟨rfl, (hu7.out.trans hu14.out)⟩
 rw [if_pos c15] at H
 subst c15
 obtain rfl := Option.some.inj H
 refine wp_cond_false rfl ?_
 refine wp_skip ?_
 refine hK9 _ _ ?_
 refine wp_seq_k fun K16 hK16=>wp_region_lit ?_
 refine wpp fun k h=>?_;go_simp;apply h;clear h k
 refine wpList_nil (hK16 _ _ ?_)
 refine wp_ret ?_
 refine hQf _ _ _ ?_
 exact bodyPost_ret (v := .int .i64 0) (by first|rfl|simp [results, Try.results67, go_sem]<;>rfl) rfl ⟨rfl, (hu7.out.trans hu14.out)⟩

set_option maxHeartbeats 40000000 in
set_option maxRecDepth 100000 in
theorem impl_isOn.calls (K : Nat) (a0 : Int) (a1_0 : Int) (a1_1 : Int) (a2_0 : Int) (a2_1 : Int) (a2_2 : Int) (r0 : Bool) (w : World)  (h : impl_isOn.f K a0 a1_0 a1_1 a2_0 a2_1 a2_2 = some (r0)) :
    Calls Try.prog 136 #[.int .i64 a0, .agg #[.int .i64 a1_0, .int .i64 a1_1], .agg #[.int .i64 a2_0, .int .i64 a2_1, .int .i64 a2_2]] w fun e w' => e = .returned (.bool r0) ∧ Up w w' := by
 have H : ((if (a0 == 0) = true then none else some ((Int.tmod (wrap64 ((wrap64 ((wrap64 (a2_0 * a1_0)) + (wrap64 (a2_1 * a1_1)))) + a2_2)) a0) == 0)) : Option (Bool)) = some (r0) := h
 clear h
 go_enter Try.func136, Try.ntmps136
 refine wp_hide (fun Qf hQf => ?_)
 refine wp_seq_k fun K1 hK1=>wp_region_lit ?_
 refine step_new (cs := [.int .i64 a1_0, .int .i64 a1_1]) (T := 30) (f := fun b => .pointer (some ⟨b, 0, none⟩)) rfl (by go_simp <;> rfl) ?_
 intro b2 w3 hu lb hb2
 simp only[Act.put,nm1,nm2,nm3]
 have lbb2 := Aside0.mk lb
 have ltb2 := Aside0.mk hb2.lt
 clear lb
 have hu4 := Aside0.mk hu
 clear hu
 refine step_new (cs := [.int .i64 a2_0, .int .i64 a2_1, .int .i64 a2_2]) (T := 34) (f := fun b => .pointer (some ⟨b, 0, none⟩)) rfl (by go_simp <;> rfl) ?_
 intro b5 w6 hu lb hb5
 simp only[Act.put,nm1,nm2,nm3]
 have lbb5 := Aside0.mk lb
 have ltb5 := Aside0.mk hb5.lt
 clear lb
 have hu7 := Aside0.mk hu
 clear hu
 refine wpp fun k h=>?_;go_simp;apply h;clear h k
 refine wpList_nil (hK1 _ _ ?_)
 refine wp_seq_k fun K8 hK8=>wp_region_lit ?_
 refine wpp fun k h=>?_;go_simp;apply h;clear h k
 have cl0 := hb5.cell (o := 0) rfl
 refine wpp fun k h=>?_;go_simp;apply h;clear h k
 clear cl0
 refine wpp fun k h=>?_;go_simp;apply h;clear h k
 have cl0 := (hb2.up hu7.out).cell (o := 0) rfl
 refine wpp fun k h=>?_;go_simp;apply h;clear h k
 clear cl0
 iterate 2 (refine wpp fun k h=>?_;go_simp;apply h;clear h k)
 have cl0 := hb5.cell (o := 1) rfl
 refine wpp fun k h=>?_;go_simp;apply h;clear h k
 clear cl0
 refine wpp fun k h=>?_;go_simp;apply h;clear h k
 have cl0 := (hb2.up hu7.out).cell (o := 1) rfl
 refine wpp fun k h=>?_;go_simp;apply h;clear h k
 clear cl0
 iterate 3 (refine wpp fun k h=>?_;go_simp;apply h;clear h k)
 have cl0 := hb5.cell (o := 2) rfl
 refine wpp fun k h=>?_;go_simp;apply h;clear h k
 clear cl0
 iterate 2 (refine wpp fun k h=>?_;go_simp;apply h;clear h k)
 by_cases c9 : (a0 == 0) = true
 ·
  rw [if_pos c9] at H
  have c9n : (a0 != 0) = false := by rw [bne, c9]; rfl
  exact absurd H (by simp)
 rw [if_neg c9] at H; replace c9 := Bool.eq_false_iff.mpr c9
 have c9n : (a0 != 0) = true := by rw [bne, c9]; rfl
 have c9p : ¬ a0 = 0 := fun e => by simp [e] at c9
 obtain rfl := Option.some.inj H
 try simp only [c9, c9n, Bool.not_true, Bool.not_false]
 iterate 3 (refine wpp fun k h=>?_;go_simp;apply h;clear h k)
 refine wpList_nil (hK8 _ _ ?_)
 refine wp_ret ?_
 refine hQf _ _ _ ?_
 exact bodyPost_ret (v := .bool ((Int.tmod (wrap64 ((wrap64 ((wrap64 (a2_0 * a1_0)) + (wrap64 (a2_1 * a1_1)))) + a2_2)) a0) == 0)) (by first|rfl|simp [results, Try.results136, go_sem]<;>rfl) rfl ⟨rfl, (hu4.out.trans hu7.out)⟩

set_option maxHeartbeats 40000000 in
set_option maxRecDepth 100000 in
theorem impl_PointsOn_2.calls (K : Nat) (a0_0 : Int) (a0_1 : Int) (bf0 : Nat) (f0_0 : Int) (bf1 : Nat) (f1_0 : Int) (f1_1 : Int) (f1_2 : Int) (r0 : Bool) (w : World) (hf0 : Blk w bf0 [.int .i64 f0_0] 2) (hf1 : Blk w bf1 [.int .i64 f1_0, .int .i64 f1_1, .int .i64 f1_2] 34) (h : impl_PointsOn_2.f K a0_0 a0_1 f0_0 f1_0 f1_1 f1_2 = some (r0)) :
    Calls Try.prog 169 #[.agg #[.int .i64 a0_0, .int .i64 a0_1], .pointer (some ⟨bf0, 0, none⟩), .pointer (some ⟨bf1, 0, none⟩)] w fun e w' => e = .returned (.bool r0) ∧ Up w w' := by
 have H : (((impl_isOn.f K f0_0 a0_0 a0_1 f1_0 f1_1 f1_2).bind fun t6 => some t6) : Option (Bool)) = some (r0) := h
 clear h
 obtain ⟨t6,A7,H⟩:=Option.bind_eq_some_iff.mp H
 replace A7:=Aside0.mk A7;try dsimp only at H
 obtain rfl := Option.some.inj H
 have ltbf0 := Aside0.mk hf0.lt
 have ltbf1 := Aside0.mk hf1.lt
 go_enter Try.func169, Try.ntmps169
 refine wp_hide (fun Qf hQf => ?_)
 refine wp_seq_k fun K1 hK1=>wp_region_lit ?_
 refine step_new (cs := [.int .i64 a0_0, .int .i64 a0_1]) (T := 30) (f := fun b => .pointer (some ⟨b, 0, none⟩)) rfl (by go_simp <;> rfl) ?_
 intro b2 w3 hu lb hb2
 simp only[Act.put,nm1,nm2,nm3]
 have lbb2 := Aside0.mk lb
 have ltb2 := Aside0.mk hb2.lt
 clear lb
 have hu4 := Aside0.mk hu
 clear hu
 refine wpp fun k h=>?_;go_simp;apply h;clear h k
 refine wpList_nil (hK1 _ _ ?_)
 refine wp_seq_k fun K5 hK5=>wp_region_lit ?_
 have cl0 := (hf0.up hu4.out).cell (o := 0) rfl
 refine wpp fun k h=>?_;go_simp;apply h;clear h k
 clear cl0
 have cl0 := hb2.cell (o := 0) rfl
 have cl1 := hb2.cell (o := 1) rfl
 refine wpp fun k h=>?_;go_simp;apply h;clear h k
 clear cl0 cl1
 have cl0 := (hf1.up hu4.out).cell (o := 0) rfl
 have cl1 := (hf1.up hu4.out).cell (o := 1) rfl
 have cl2 := (hf1.up hu4.out).cell (o := 2) rfl
 refine wpp fun k h=>?_;go_simp;apply h;clear h k
 clear cl0 cl1 cl2
 refine step_call wn (by go_simp <;> rfl) (impl_isOn.calls K f0_0 a0_0 a0_1 f1_0 f1_1 f1_2 t6 w3  A7.out) ?_
 rintro e w8 ⟨rfl, hu⟩
 have hu9 := Aside0.mk hu
 clear hu
 refine ⟨_, rfl, ?_⟩
 simp only[Act.put,nm1,nm2,nm3]
 refine wpp fun k h=>?_;go_simp;apply h;clear h k
 refine wpList_nil (hK5 _ _ ?_)
 refine wp_ret ?_
 refine hQf _ _ _ ?_
 exact bodyPost_ret (v := .bool t6) (by first|rfl|simp [results, Try.results169, go_sem]<;>rfl) rfl ⟨rfl, (hu4.out.trans hu9.out)⟩

set_option maxHeartbeats 40000000 in
set_option maxRecDepth 100000 in
theorem impl_pointsWith__impl_PointsOn_2.calls (K : Nat) (a0 : Int) (bc1_0 : Nat) (c1_0_0 : Int) (bc1_1 : Nat) (c1_1_0 : Int) (c1_1_1 : Int) (c1_1_2 : Int) (r0 : List (Int × Int)) (w : World) (hc1_0 : Blk w bc1_0 [.int .i64 c1_0_0] 2) (hc1_1 : Blk w bc1_1 [.int .i64 c1_1_0, .int .i64 c1_1_1, .int .i64 c1_1_2] 34) (h : impl_pointsWith__impl_PointsOn_2.f K a0 c1_0_0 c1_1_0 c1_1_1 c1_1_2 = some (r0)) :
    Calls Try.prog 149 #[.int .i64 a0, .func (.func 169) #[] #[.pointer (some ⟨bc1_0, 0, none⟩), .pointer (some ⟨bc1_1, 0, none⟩)]] w fun e w' => ∃ (Ar0 : Option Addr) (cr0 : Nat), e = .returned (.slice Ar0 r0.length cr0) ∧ Own e2 30 w' w.heap.size (.slice Ar0 r0.length cr0) r0 ∧ Up w w' := by
 have H : (((impl_allPoints.f K a0).bind fun t8 => (impl_pointsWith__impl_PointsOn_2.l0 K c1_0_0 c1_1_0 c1_1_1 c1_1_2 t8 K 0 ([] : List (Int × Int)))) : Option (List (Int × Int))) = some (r0) := h
 clear h
 obtain ⟨t8,A11,H⟩:=Option.bind_eq_some_iff.mp H
 replace A11:=Aside0.mk A11;try dsimp only at H
 have ltbc1_0 := Aside0.mk hc1_0.lt
 have ltbc1_1 := Aside0.mk hc1_1.lt
 go_enter Try.func149, Try.ntmps149
 refine wp_hide (fun Qf hQf => ?_)
 refine wp_seq_k fun K1 hK1=>wp_region_lit ?_
 refine wpp fun k h=>?_;go_simp;apply h;clear h k
 refine wpList_nil (hK1 _ _ ?_)
 refine wp_seq_k fun K2 hK2=>wp_region_lit ?_
 refine step_new (cs := []) (T := 30) (f := fun b => .slice (some ⟨b, 0, none⟩) 0 0) rfl (by go_simp <;> rfl) ?_
 intro b3 w4 hu lb hb3
 simp only[Act.put,nm1,nm2,nm3]
 have lbb3 := Aside0.mk lb
 have ltb3 := Aside0.mk hb3.lt
 clear lb
 have hu5 := Aside0.mk hu
 clear hu
 refine wpp fun k h=>?_;go_simp;apply h;clear h k
 refine wpList_nil (hK2 _ _ ?_)
 refine wp_seq_k fun K6 hK6=>?_
 refine wp_seq_k fun K7 hK7=>wp_region_lit ?_
 refine wpp fun k h=>?_;go_simp;apply h;clear h k
 refine step_call wn (by go_simp <;> rfl) (impl_allPoints.calls K a0 t8 w4  A11.out) ?_
 rintro e w12 ⟨P9, q10, rfl, ht8, hu⟩
 have hu13 := Aside0.mk hu
 clear hu
 refine ⟨_, rfl, ?_⟩
 simp only[Act.put,nm1,nm2,nm3]
 iterate 2 (refine wpp fun k h=>?_;go_simp;apply h;clear h k)
 refine wpList_nil (hK7 _ _ ?_)
 refine wp_block ?_
 have h15 : Own e2 30 w12 w.heap.size (.slice (some ⟨b3, 0, none⟩) ([].length) 0) [] := Own.of_blk (hb3.up hu13.out) lbb3.out rfl (by simp) (by simp [Enc.flat, e2])
 have h16 : Own e2 30 w4 w.heap.size (.slice (some ⟨b3, 0, none⟩) ([].length) 0) [] := Own.of_blk hb3 lbb3.out rfl (by simp) (by simp [Enc.flat, e2])
 have HL24 := Aside0.mk H
 clear H
 go_loopg [12, 5] K (fun kq v12 v5 w' => ∃ (x17 : Int) (x18 : List (Int × Int)) (P19 : Option Addr) (q20 : Nat), v12 = .int .i64 x17 ∧ v5 = .slice P19 x18.length q20 ∧ Aside0 (impl_pointsWith__impl_PointsOn_2.l0 K c1_0_0 c1_1_0 c1_1_1 c1_1_2 t8 kq x17 x18 = some (r0)) ∧ Aside0 (kq ≤ K) ∧ Aside0 (Up w w') ∧ Aside0 (w12.heap.size ≤ w'.heap.size) ∧ Own e2 30 w' w4.heap.size (.slice P9 t8.length q10) t8 ∧ Own e2 30 w' w.heap.size (.slice P19 x18.length q20) x18 ∧ Aside0 (∀ k l, blk (.slice P19 x18.length q20) = some k → blk (.slice P9 t8.length q10) = some l → k ≠ l))
 case atStart => exact ⟨0, ([] : List (Int × Int)), some ⟨b3, 0, none⟩, 0, (by first | rfl | simp), (by first | rfl | simp), HL24, ⟨Nat.le_refl _⟩, ⟨(hu5.out.trans hu13.out)⟩, ⟨Nat.le_refl _⟩, ht8, h15, ⟨(fun k l hk hl => Nat.ne_of_lt (Nat.lt_of_lt_of_le ((fun k hk => Nat.lt_of_lt_of_le (h16.lt k hk).2 (Nat.le_refl _)) k hk) ((fun k hk => Nat.le_trans (Nat.le_refl _) (ht8.lt k hk).1) l hl)))⟩⟩
 case round =>
  rename_i J30 K31 hJ30 hK31
  obtain ⟨x17, x18, P19, q20, rfl, rfl, HL32, hk29, hu22, hz23, h25, h26, hn27⟩ := hrel
  obtain ⟨w21, rfl⟩ : ∃ wo : World, wo = wr := ⟨_, rfl⟩
  obtain ⟨k28, rfl⟩ | rfl : (∃ k, gk = k + 1) ∨ gk = 0 := by rcases gk with _ | k; exact .inr rfl; exact .inl ⟨k, rfl⟩
  case inr => exact absurd HL32.out (by simp [impl_pointsWith__impl_PointsOn_2.l0])
  have H := HL32.out
  clear HL32
  rw [impl_pointsWith__impl_PointsOn_2.l0] at H
  refine wp_seq_k fun K33 hK33=>wp_region_lit ?_
  refine wpp fun k h=>?_;go_simp;apply h;clear h k
  refine wpList_nil (hK33 _ _ ?_)
  refine wp_seq_k fun K34 hK34=>?_
  have hm36 := Aside0.mk hu22.out
  by_cases c35 : (decide (x17 < (t8.length : Int))) = true
  rotate_left
  ·
   rw [if_neg c35] at H; replace c35 := Bool.eq_false_iff.mpr c35
   obtain rfl := Option.some.inj H
   try simp only [c35, Bool.not_true, Bool.not_false]
   refine wp_cond_false rfl ?_
   refine wp_exit ?_
   refine hK6 _ _ ?_
   refine wp_seq_k fun K76 hK76=>wp_region_lit ?_
   iterate 2 (refine wpp fun k h=>?_;go_simp;apply h;clear h k)
   refine wpList_nil (hK76 _ _ ?_)
   refine wp_ret ?_
   refine hQf _ _ _ ?_
   exact bodyPost_ret (v := .slice P19 x18.length q20) (by first|rfl|simp [results, Try.results149, go_sem]<;>rfl) rfl ⟨P19, q20, rfl, (h26.lower (Nat.le_refl _)), hm36.out⟩
  rw [if_pos c35] at H
  obtain ⟨⟨t39, t40⟩,A41,H⟩:=Option.bind_eq_some_iff.mp H
  replace A41:=Aside0.mk A41;try dsimp only at H
  obtain ⟨t52,A53,H⟩:=Option.bind_eq_some_iff.mp H
  replace A53:=Aside0.mk A53;try dsimp only at H
  try simp only [c35, Bool.not_true, Bool.not_false]
  refine wp_cond_true rfl ?_
  refine wp_skip ?_
  refine hK34 _ _ ?_
  refine wp_seq_k fun K37 hK37=>?_
  refine wp_block ?_
  refine wp_seq_k fun K38 hK38=>wp_region_lit ?_
  refine step_index e2 (T := 30) wn rfl (by kernel_rfl) (by kernel_rfl) rfl rfl rfl h25.rd A41.out ?_
  intro ad42 hat he
  have he43 := Aside0.mk he
  have hat44 := Aside0.mk hat
  clear he hat
  simp only[Act.put,nm1,nm2,nm3]
  have cl0 := he43.out 0 _ rfl
  rw [addr_add0] at cl0
  have cl1 : World.cell? _ ⟨ad42.block, ad42.off + 1, none⟩ = some _ := he43.out 1 _ rfl
  refine wpp fun k h=>?_;go_simp;apply h;clear h k
  clear cl0 cl1
  refine step_new (cs := [.int .i64 0, .int .i64 0]) (T := 30) (f := fun b => .pointer (some ⟨b, 0, none⟩)) rfl (by go_simp <;> rfl) ?_
  intro b45 w46 hu lb hb45
  simp only[Act.put,nm1,nm2,nm3]
  have lbb45 := Aside0.mk lb
  have ltb45 := Aside0.mk hb45.lt
  clear lb
  have hu47 := Aside0.mk hu
  clear hu
  have hB0 := hb45
  have cl0 := hB0.cell (o := 0) rfl
  have fr0 := hB0.free 0
  have cl1 := hB0.cell (o := 1) rfl
  have fr1 := hB0.free 1
  refine step_store (b := b45) (cs' := [.int .i64 t39, .int .i64 t40]) (T := 30) (W' := ((w46.setCell ⟨b45, 0, none⟩ (.int .i64 t39)).setCell ⟨b45, 1, none⟩ (.int .i64 t40))) rfl rfl (by go_simp <;> rfl) (((Sto.refl _ _).setCell 0 _).setCell 1 _) (((hB0).setCell 0 _).setCell 1 _) ?_
  clear hB0 cl0 fr0 cl1 fr1
  intro w48 hs hb50
  have hs49 := Aside0.mk hs
  clear hs
  refine wpList_nil (hK38 _ _ ?_)
  refine wp_seq_k fun K51 hK51=>wp_region_lit ?_
  refine wpp fun k h=>?_;go_simp;apply h;clear h k
  have cl0 := hb50.cell (o := 0) rfl
  have cl1 := hb50.cell (o := 1) rfl
  refine wpp fun k h=>?_;go_simp;apply h;clear h k
  clear cl0 cl1
  refine step_call wn (by go_simp <;> rfl) (impl_PointsOn_2.calls K t39 t40 bc1_0 c1_0_0 bc1_1 c1_1_0 c1_1_1 c1_1_2 t52 w48 (hc1_0.up ((hm36.out.trans hu47.out).sto (Nat.le_trans (hm36.out.size) lbb45.out) hs49.out)) (hc1_1.up ((hm36.out.trans hu47.out).sto (Nat.le_trans (hm36.out.size) lbb45.out) hs49.out)) A53.out) ?_
  rintro e w54 ⟨rfl, hu⟩
  have hu55 := Aside0.mk hu
  clear hu
  refine ⟨_, rfl, ?_⟩
  simp only[Act.put,nm1,nm2,nm3]
  refine wpList_nil (hK51 _ _ ?_)
  have hm57 := Aside0.mk ((hu47.out.sto (Nat.le_trans (Nat.le_refl _) lbb45.out) hs49.out).trans hu55.out)
  by_cases c56 : (t52) = true
  rotate_left
  ·
   rw [if_neg c56] at H; replace c56 := Bool.eq_false_iff.mpr c56
   subst c56
   have HL75 := Aside0.mk H
   clear H
   refine wp_cond_false rfl ?_
   refine wp_skip ?_
   refine hK37 _ _ ?_
   refine wp_region_lit ?_
   iterate 2 (refine wpp fun k h=>?_;go_simp;apply h;clear h k)
   refine wpList_nil (hK31 _ _ ?_)
   go_roundg k28
   case measure => exact Nat.lt_succ_self _
   case rel => exact ⟨wrap64 (x17 + 1), x18, P19, q20, (by first | rfl | simp), (by first | rfl | simp), HL75, ⟨by have := hk29.out; omega⟩, ⟨(hm36.out.trans hm57.out)⟩, ⟨(Nat.le_trans ((Nat.le_trans (Nat.le_refl _) hz23.out)) hm57.out.size)⟩, (h25.up hm57.out), (h26.up hm57.out), ⟨hn27.out⟩⟩
  rw [if_pos c56] at H
  subst c56
  refine wp_cond_true rfl ?_
  refine wp_region_lit ?_
  refine wpp fun k h=>?_;go_simp;apply h;clear h k
  have cl0 := (hb50.up hu55.out).cell (o := 0) rfl
  have cl1 := (hb50.up hu55.out).cell (o := 1) rfl
  refine wpp fun k h=>?_;go_simp;apply h;clear h k
  clear cl0 cl1
  refine step_new (cs := [.int .i64 t39, .int .i64 t40]) (T := 30) (f := fun b => .slice (some ⟨b, 0, none⟩) 1 1) rfl (by go_simp <;> rfl) ?_
  intro b58 w59 hu lb hb58
  simp only[Act.put,nm1,nm2,nm3]
  have lbb58 := Aside0.mk lb
  have ltb58 := Aside0.mk hb58.lt
  clear lb
  have hu60 := Aside0.mk hu
  clear hu
  have hm62 := Aside0.mk (Nat.le_trans ((Nat.le_trans ((Nat.le_trans (Nat.le_refl _) hz23.out)) hm57.out.size)) hu60.out.size)
  by_cases c61 : (decide (x18.length ≤ 1000000)) = true
  rotate_left
  ·
   rw [if_neg c61] at H; replace c61 := Bool.eq_false_iff.mpr c61
   exact absurd H (by simp)
  rw [if_pos c61] at H
  have HL74 := Aside0.mk H
  clear H
  try simp only [c61, Bool.not_true, Bool.not_false]
  have hO0 := Aside0.mk (h26.up (hm57.out.trans hu60.out))
  refine step_append e2 (z := .agg #[.int .i64 0, .int .i64 0]) (bytes := 16) (base := w.heap.size) (xs := x18) (ys := [(t39, t40)]) wn _ _ rfl rfl (by kernel_rfl) rfl (by decide) rfl rfl rfl hO0.out (Rd.of_blk (E := e2) (xs := [(t39, t40)]) (o := 0) hb58 (by simp) (fun j u hu => by rcases j with _ | _ | j <;> simp_all [Enc.flat, e2])) ((Nat.le_trans ((Nat.le_trans (hm36.out.size) hm57.out.size)) hu60.out.size)) (by have h0_ := (of_decide_eq_true (by assumption) : x18.length ≤ 1000000); (try simp only [List.length_cons, List.length_nil]); omega) ?_
  intro P63 q64 w65 h67 hg hat
  have hg68 := Aside0.mk hg
  have hat69 := Aside0.mk hat
  simp only[Act.put,nm1,nm2,nm3]
  have lb70 := Aside0.mk hO0.out.lt
  clear hO0 hg hat
  have h71 := (h25.up (hm57.out.trans hu60.out)).grow hg68.out hn27.out
  have h72 := (hb50.up (hu55.out.trans hu60.out)).grow hg68.out (fun k hk => Nat.ne_of_lt (Nat.lt_of_lt_of_le ((fun k hk => Nat.lt_of_lt_of_le (h26.lt k hk).2 (Nat.le_refl _)) k hk) lbb45.out))
  have h73 := hb58.grow hg68.out (fun k hk => Nat.ne_of_lt (Nat.lt_of_lt_of_le ((fun k hk => Nat.lt_of_lt_of_le (h26.lt k hk).2 (hm57.out.size)) k hk) lbb58.out))
  refine wpp fun k h=>?_;go_simp;apply h;clear h k
  refine wpList_nil (hK37 _ _ ?_)
  refine wp_region_lit ?_
  iterate 2 (refine wpp fun k h=>?_;go_simp;apply h;clear h k)
  refine wpList_nil (hK31 _ _ ?_)
  go_roundg k28
  case measure => exact Nat.lt_succ_self _
  case rel => exact ⟨wrap64 (x17 + 1), (x18 ++ [(t39, t40)]), P63, q64, (by first | rfl | simp), (by first | rfl | simp), HL74, ⟨by have := hk29.out; omega⟩, ⟨(((hm36.out.trans hm57.out).trans hu60.out).grow hg68.out (fun k hk => Nat.le_trans (Nat.le_refl _) ((fun k hk => (lb70.out k hk).1) k hk)))⟩, ⟨(Nat.le_trans (hm62.out) hg68.out.size)⟩, h71, h67, ⟨(fun k l hk hl => hat69.out.elim (fun e => hn27.out k l (e.symm.trans hk) hl) (fun g => Nat.ne_of_gt (Nat.lt_of_lt_of_le ((fun k hk => Nat.lt_of_lt_of_le (ht8.lt k hk).2 (hm62.out)) l hl) (g k hk))))⟩⟩

set_option maxHeartbeats 40000000 in
set_option maxRecDepth 100000 in
theorem impl_PointsOn.calls (K : Nat) (a0 : Int) (a1_0 : Int) (a1_1 : Int) (a1_2 : Int) (r0 : List (Int × Int)) (r1 : Int) (w : World)  (h : impl_PointsOn.f K a0 a1_0 a1_1 a1_2 = some (r0, r1)) :
    Calls Try.prog 65 #[.int .i64 a0, .agg #[.int .i64 a1_0, .int .i64 a1_1, .int .i64 a1_2]] w fun e w' => ∃ (Ar0 : Option Addr) (cr0 : Nat), e = .returned (.tuple #[.slice Ar0 r0.length cr0, .int .i64 r1]) ∧ Own e2 30 w' w.heap.size (.slice Ar0 r0.length cr0) r0 ∧ Up w w' := by
 have H : (((impl_asked__impl_PointsOn_1.f K a0 a0 a1_0 a1_1 a1_2).bind fun t10 => (if (t10 == 0) = true then ((impl_pointsWith__impl_PointsOn_2.f K a0 a0 a1_0 a1_1 a1_2).bind fun t18 => some (t18, 0)) else some ([], t10))) : Option (List (Int × Int) × Int)) = some (r0, r1) := h
 clear h
 obtain ⟨t10,A11,H⟩:=Option.bind_eq_some_iff.mp H
 replace A11:=Aside0.mk A11;try dsimp only at H
 go_enter Try.func65, Try.ntmps65
 refine wp_hide (fun Qf hQf => ?_)
 refine wp_seq_k fun K1 hK1=>wp_region_lit ?_
 refine step_new (cs := [.int .i64 a0]) (T := 2) (f := fun b => .pointer (some ⟨b, 0, none⟩)) rfl (by go_simp <;> rfl) ?_
 intro b2 w3 hu lb hb2
 simp only[Act.put,nm1,nm2,nm3]
 have lbb2 := Aside0.mk lb
 have ltb2 := Aside0.mk hb2.lt
 clear lb
 have hu4 := Aside0.mk hu
 clear hu
 refine step_new (cs := [.int .i64 a1_0, .int .i64 a1_1, .int .i64 a1_2]) (T := 34) (f := fun b => .pointer (some ⟨b, 0, none⟩)) rfl (by go_simp <;> rfl) ?_
 intro b5 w6 hu lb hb5
 simp only[Act.put,nm1,nm2,nm3]
 have lbb5 := Aside0.mk lb
 have ltb5 := Aside0.mk hb5.lt
 clear lb
 have hu7 := Aside0.mk hu
 clear hu
 iterate 2 (refine wpp fun k h=>?_;go_simp;apply h;clear h k)
 refine wpList_nil (hK1 _ _ ?_)
 refine wp_seq_k fun K8 hK8=>?_
 refine wp_seq_k fun K9 hK9=>wp_region_lit ?_
 have cl0 := (hb2.up hu7.out).cell (o := 0) rfl
 refine wpp fun k h=>?_;go_simp;apply h;clear h k
 clear cl0
 refine wpp fun k h=>?_;go_simp;apply h;clear h k
 refine step_call wn (by go_simp <;> rfl) (impl_asked__impl_PointsOn_1.calls K a0 b2 a0 b5 a1_0 a1_1 a1_2 t10 w6 (hb2.up hu7.out) hb5 A11.out) ?_
 rintro e w12 ⟨rfl, hu⟩
 have hu13 := Aside0.mk hu
 clear hu
 refine ⟨_, rfl, ?_⟩
 simp only[Act.put,nm1,nm2,nm3]
 refine wpp fun k h=>?_;go_simp;apply h;clear h k
 refine wpList_nil (hK9 _ _ ?_)
 refine wp_seq_k fun K14 hK14=>wp_region_lit ?_
 iterate 2 (refine wpp fun k h=>?_;go_simp;apply h;clear h k)
 refine wpList_nil (hK14 _ _ ?_)
 have hm16 := Aside0.mk ((hu4.out.trans hu7.out).trans hu13.out)
 by_cases c15 : (t10 == 0) = true
 rotate_left
 ·
  rw [if_neg c15] at H; replace c15 := Bool.eq_false_iff.mpr c15
  have c15n : (t10 != 0) = true := by rw [bne, c15]; rfl
  have c15p : ¬ t10 = 0 := fun e => by simp [e] at c15
  simp only [Option.some.injEq, Prod.mk.injEq] at H
  obtain ⟨rfl, rfl⟩ := H
  try simp only [c15, c15n, Bool.not_true, Bool.not_false]
  refine wp_cond_true rfl ?_
  refine wp_seq_k fun K24 hK24=>wp_region_lit ?_
  iterate 3 (refine wpp fun k h=>?_;go_simp;apply h;clear h k)
  refine wpList_nil (hK24 _ _ ?_)
  refine wp_ret ?_
  have h26 : Own e2 30 w12 w12.heap.size (.slice none ([] : List (Int × Int)).length 0) [] := Own.nil
  refine hQf _ _ _ ?_
  exact bodyPost_ret (v := .tuple #[.slice none 0 0, .int .i64 t10]) (by first|rfl|simp [results, Try.results65, go_sem]<;>rfl) rfl ⟨none, 0, rfl, (h26.lower (hm16.out.size)), hm16.out⟩
 rw [if_pos c15] at H
 have c15n : (t10 != 0) = false := by rw [bne, c15]; rfl
 obtain ⟨t18,A21,H⟩:=Option.bind_eq_some_iff.mp H
 replace A21:=Aside0.mk A21;try dsimp only at H
 simp only [Option.some.injEq, Prod.mk.injEq] at H
 obtain ⟨rfl, rfl⟩ := H
 try simp only [c15, c15n, Bool.not_true, Bool.not_false]
 refine wp_cond_false rfl ?_
 refine wp_skip ?_
 refine hK8 _ _ ?_
 refine wp_seq_k fun K17 hK17=>wp_region_lit ?_
 have cl0 := (hb2.up (hu7.out.trans hu13.out)).cell (o := 0) rfl
 refine wpp fun k h=>?_;go_simp;apply h;clear h k
 clear cl0
 refine wpp fun k h=>?_;go_simp;apply h;clear h k
 refine step_call wn (by go_simp <;> rfl) (impl_pointsWith__impl_PointsOn_2.calls K a0 b2 a0 b5 a1_0 a1_1 a1_2 t18 w12 (hb2.up (hu7.out.trans hu13.out)) (hb5.up hu13.out) A21.out) ?_
 rintro e w22 ⟨P19, q20, rfl, ht18, hu⟩
 have hu23 := Aside0.mk hu
 clear hu
 refine ⟨_, rfl, ?_⟩
 simp only[Act.put,nm1,nm2,nm3]
 iterate 2 (refine wpp fun k h=>?_;go_simp;apply h;clear h k)
 refine wpList_nil (hK17 _ _ ?_)
 refine wp_ret ?_
 refine hQf _ _ _ ?_
 exact bodyPost_ret (v := .tuple #[.slice P19 t18.length q20, .int .i64 0]) (by first|rfl|simp [results, Try.results65, go_sem]<;>rfl) rfl ⟨P19, q20, rfl, (ht18.lower (hm16.out.size)), (hm16.out.trans hu23.out)⟩

set_option maxHeartbeats 40000000 in
set_option maxRecDepth 100000 in
theorem impl_PowerOf_1.calls (K : Nat) (bf0 : Nat) (f0_0 : Int) (bf1 : Nat) (f1_0 : Int) (bf2 : Nat) (f2_0 : Int) (f2_1 : Int) (f2_2 : Int) (bf3 : Nat) (f3_0 : Int) (f3_1 : Int) (r0 : Bool) (w : World) (hf0 : Blk w bf0 [.int .i64 f0_0] 2) (hf1 : Blk w bf1 [.int .i64 f1_0] 2) (hf2 : Blk w bf2 [.int .i64 f2_0, .int .i64 f2_1, .int .i64 f2_2] 71) (hf3 : Blk w bf3 [.int .i64 f3_0, .int .i64 f3_1] 30) (h : impl_PowerOf_1.f K f0_0 f1_0 f2_0 f2_1 f2_2 f3_0 f3_1 = some (r0)) :
    Calls Try.prog 167 #[.pointer (some ⟨bf0, 0, none⟩), .pointer (some ⟨bf1, 0, none⟩), .pointer (some ⟨bf2, 0, none⟩), .pointer (some ⟨bf3, 0, none⟩)] w fun e w' => e = .returned (.bool r0) ∧ Up w w' := by
 have H : (((impl_isColour.f K f0_0).bind fun t3 => (if t3 = true then ((impl_isCircle.f K f1_0 f2_0 f2_1 f2_2).bind fun t8 => (if t8 = true then ((impl_isPoint.f K f1_0 f3_0 f3_1).bind fun t13 => some t13) else some false)) else some false)) : Option (Bool)) = some (r0) := h
 clear h
 obtain ⟨t3,A4,H⟩:=Option.bind_eq_some_iff.mp H
 replace A4:=Aside0.mk A4;try dsimp only at H
 have ltbf0 := Aside0.mk hf0.lt
 have ltbf1 := Aside0.mk hf1.lt
 have ltbf2 := Aside0.mk hf2.lt
 have ltbf3 := Aside0.mk hf3.lt
 go_enter Try.func167, Try.ntmps167
 refine wp_hide (fun Qf hQf => ?_)
 refine wp_seq_k fun K1 hK1=>wp_region_lit ?_
 refine wpp fun k h=>?_;go_simp;apply h;clear h k
 refine wpList_nil (hK1 _ _ ?_)
 refine wp_seq_k fun K2 hK2=>wp_region_lit ?_
 have cl0 := hf0.cell (o := 0) rfl
 refine wpp fun k h=>?_;go_simp;apply h;clear h k
 clear cl0
 refine step_call wn (by go_simp <;> rfl) (impl_isColour.calls K f0_0 t3 w  A4.out) ?_
 rintro e w5 ⟨rfl, hu⟩
 have hu6 := Aside0.mk hu
 clear hu
 refine ⟨_, rfl, ?_⟩
 simp only[Act.put,nm1,nm2,nm3]
 refine wpp fun k h=>?_;go_simp;apply h;clear h k
 by_cases c7 : (t3) = true
 rotate_left
 ·
  rw [if_neg c7] at H; replace c7 := Bool.eq_false_iff.mpr c7
  subst c7
  obtain rfl := Option.some.inj H
  refine step_no rfl ?_
  simp only[Act.put,nm1,nm2,nm3]
  refine step_no rfl ?_
  simp only[Act.put,nm1,nm2,nm3]
  refine step_no rfl ?_
  simp only[Act.put,nm1,nm2,nm3]
  iterate 2 (refine wpp fun k h=>?_;go_simp;apply h;clear h k)
  refine step_no rfl ?_
  simp only[Act.put,nm1,nm2,nm3]
  refine step_no rfl ?_
  simp only[Act.put,nm1,nm2,nm3]
  refine step_no rfl ?_
  simp only[Act.put,nm1,nm2,nm3]
  iterate 2 (refine wpp fun k h=>?_;go_simp;apply h;clear h k)
  refine wpList_nil (hK2 _ _ ?_)
  refine wp_ret ?_
  refine hQf _ _ _ ?_
  exact bodyPost_ret (v := .bool false) (by first|rfl|simp [results, Try.results167, go_sem]<;>rfl) rfl ⟨rfl, hu6.out⟩
 rw [if_pos c7] at H
 subst c7
 obtain ⟨t8,A9,H⟩:=Option.bind_eq_some_iff.mp H
 replace A9:=Aside0.mk A9;try dsimp only at H
 have cl0 := (hf1.up hu6.out).cell (o := 0) rfl
 refine wpList_step fun k h=>?_;go_simp;apply h;clear h k
 clear cl0
 have cl0 := (hf2.up hu6.out).cell (o := 0) rfl
 have cl1 := (hf2.up hu6.out).cell (o := 1) rfl
 have cl2 := (hf2.up hu6.out).cell (o := 2) rfl
 refine wpList_step fun k h=>?_;go_simp;apply h;clear h k
 clear cl0 cl1 cl2
 refine step_call rfl (by go_simp <;> rfl) (impl_isCircle.calls K f1_0 f2_0 f2_1 f2_2 t8 w5  A9.out) ?_
 rintro e w10 ⟨rfl, hu⟩
 have hu11 := Aside0.mk hu
 clear hu
 refine ⟨_, rfl, ?_⟩
 simp only[Act.put,nm1,nm2,nm3]
 iterate 2 (refine wpp fun k h=>?_;go_simp;apply h;clear h k)
 by_cases c12 : (t8) = true
 rotate_left
 ·
  rw [if_neg c12] at H; replace c12 := Bool.eq_false_iff.mpr c12
  subst c12
  obtain rfl := Option.some.inj H
  refine step_no rfl ?_
  simp only[Act.put,nm1,nm2,nm3]
  refine step_no rfl ?_
  simp only[Act.put,nm1,nm2,nm3]
  refine step_no rfl ?_
  simp only[Act.put,nm1,nm2,nm3]
  iterate 2 (refine wpp fun k h=>?_;go_simp;apply h;clear h k)
  refine wpList_nil (hK2 _ _ ?_)
  refine wp_ret ?_
  refine hQf _ _ _ ?_
  exact bodyPost_ret (v := .bool false) (by first|rfl|simp [results, Try.results167, go_sem]<;>rfl) rfl ⟨rfl, (hu6.out.trans hu11.out)⟩
 rw [if_pos c12] at H
 subst c12
 obtain ⟨t13,A14,H⟩:=Option.bind_eq_some_iff.mp H
 replace A14:=Aside0.mk A14;try dsimp only at H
 obtain rfl := Option.some.inj H
 have cl0 := (hf1.up (hu6.out.trans hu11.out)).cell (o := 0) rfl
 refine wpList_step fun k h=>?_;go_simp;apply h;clear h k
 clear cl0
 have cl0 := (hf3.up (hu6.out.trans hu11.out)).cell (o := 0) rfl
 have cl1 := (hf3.up (hu6.out.trans hu11.out)).cell (o := 1) rfl
 refine wpList_step fun k h=>?_;go_simp;apply h;clear h k
 clear cl0 cl1
 refine step_call rfl (by go_simp <;> rfl) (impl_isPoint.calls K f1_0 f3_0 f3_1 t13 w10  A14.out) ?_
 rintro e w15 ⟨rfl, hu⟩
 have hu16 := Aside0.mk hu
 clear hu
 refine ⟨_, rfl, ?_⟩
 simp only[Act.put,nm1,nm2,nm3]
 iterate 2 (refine wpp fun k h=>?_;go_simp;apply h;clear h k)
 refine wpList_nil (hK2 _ _ ?_)
 refine wp_ret ?_
 refine hQf _ _ _ ?_
 exact bodyPost_ret (v := .bool t13) (by first|rfl|simp [results, Try.results167, go_sem]<;>rfl) rfl ⟨rfl, ((hu6.out.trans hu11.out).trans hu16.out)⟩

set_option maxHeartbeats 40000000 in
set_option maxRecDepth 100000 in
theorem impl_asked__impl_PowerOf_1.calls (K : Nat) (a0 : Int) (bc1_0 : Nat) (c1_0_0 : Int) (bc1_1 : Nat) (c1_1_0 : Int) (bc1_2 : Nat) (c1_2_0 : Int) (c1_2_1 : Int) (c1_2_2 : Int) (bc1_3 : Nat) (c1_3_0 : Int) (c1_3_1 : Int) (r0 : Int) (w : World) (hc1_0 : Blk w bc1_0 [.int .i64 c1_0_0] 2) (hc1_1 : Blk w bc1_1 [.int .i64 c1_1_0] 2) (hc1_2 : Blk w bc1_2 [.int .i64 c1_2_0, .int .i64 c1_2_1, .int .i64 c1_2_2] 71) (hc1_3 : Blk w bc1_3 [.int .i64 c1_3_0, .int .i64 c1_3_1] 30) (h : impl_asked__impl_PowerOf_1.f K a0 c1_0_0 c1_1_0 c1_2_0 c1_2_1 c1_2_2 c1_3_0 c1_3_1 = some (r0)) :
    Calls Try.prog 67 #[.int .i64 a0, .func (.func 167) #[] #[.pointer (some ⟨bc1_0, 0, none⟩), .pointer (some ⟨bc1_1, 0, none⟩), .pointer (some ⟨bc1_2, 0, none⟩), .pointer (some ⟨bc1_3, 0, none⟩)]] w fun e w' => e = .returned (.int .i64 r0) ∧ Up w w' := by
 have H : (((impl_IsField.f K a0).bind fun t4 => (if t4 = true then ((impl_PowerOf_1.f K c1_0_0 c1_1_0 c1_2_0 c1_2_1 c1_2_2 c1_3_0 c1_3_1).bind fun t11 => (if t11 = true then some 0 else some 2)) else some 1)) : Option (Int)) = some (r0) := h
 clear h
 obtain ⟨t4,A5,H⟩:=Option.bind_eq_some_iff.mp H
 replace A5:=Aside0.mk A5;try dsimp only at H
 have ltbc1_0 := Aside0.mk hc1_0.lt
 have ltbc1_1 := Aside0.mk hc1_1.lt
 have ltbc1_2 := Aside0.mk hc1_2.lt
 have ltbc1_3 := Aside0.mk hc1_3.lt
 go_enter Try.func67, Try.ntmps67
 refine wp_hide (fun Qf hQf => ?_)
 refine wp_seq_k fun K1 hK1=>wp_region_lit ?_
 refine wpp fun k h=>?_;go_simp;apply h;clear h k
 refine wpList_nil (hK1 _ _ ?_)
 refine wp_seq_k fun K2 hK2=>?_
 refine wp_seq_k fun K3 hK3=>wp_region_lit ?_
 refine wpp fun k h=>?_;go_simp;apply h;clear h k
 refine step_call wn (by go_simp <;> rfl) (impl_IsField.calls K a0 t4 w  A5.out) ?_
 rintro e w6 ⟨rfl, hu⟩
 have hu7 := Aside0.mk hu
 clear hu
 refine ⟨_, rfl, ?_⟩
 simp only[Act.put,nm1,nm2,nm3]
 refine wpp fun k h=>?_;go_simp;apply h;clear h k
 refine wpList_nil (hK3 _ _ ?_)
 by_cases c8 : (t4) = true
 rotate_left
 ·
  rw [if_neg c8] at H; replace c8 := Bool.eq_false_iff.mpr c8
  subst c8
  obtain rfl := Option.some.inj H
  refine wp_cond_true rfl ?_
  refine wp_seq_k fun K18 hK18=>wp_region_lit ?_
  refine wpp fun k h=>?_;go_simp;apply h;clear h k
  refine wpList_nil (hK18 _ _ ?_)
  refine wp_ret ?_
  refine hQf _ _ _ ?_
  exact bodyPost_ret (v := .int .i64 1) (by first|rfl|simp [results, Try.results67, go_sem]<;>rfl) rfl ⟨rfl, hu7.out⟩
 rw [if_pos c8] at H
 subst c8
 obtain ⟨t11,A12,H⟩:=Option.bind_eq_some_iff.mp H
 replace A12:=Aside0.mk A12;try dsimp only at H
 refine wp_cond_false rfl ?_
 refine wp_skip ?_
 refine hK2 _ _ ?_
 refine wp_seq_k fun K9 hK9=>?_
 refine wp_seq_k fun K10 hK10=>wp_region_lit ?_
 refine wpp fun k h=>?_;go_simp;apply h;clear h k
 refine step_call wn (by go_simp <;> rfl) (impl_PowerOf_1.calls K bc1_0 c1_0_0 bc1_1 c1_1_0 bc1_2 c1_2_0 c1_2_1 c1_2_2 bc1_3 c1_3_0 c1_3_1 t11 w6 (hc1_0.up hu7.out) (hc1_1.up hu7.out) (hc1_2.up hu7.out) (hc1_3.up hu7.out) A12.out) ?_
 rintro e w13 ⟨rfl, hu⟩
 have hu14 := Aside0.mk hu
 clear hu
 refine ⟨_, rfl, ?_⟩
 simp only[Act.put,nm1,nm2,nm3]
 refine wpp fun k h=>?_;go_simp;apply h;clear h k
 refine wpList_nil (hK10 _ _ ?_)
 by_cases c15 : (t11) = true
 rotate_left
 ·
  rw [if_neg c15] at H; replace c15 := Bool.eq_false_iff.mpr c15
  subst c15
  obtain rfl := Option.some.inj H
  refine wp_cond_true rfl ?_
  refine wp_seq_k fun K17 hK17=>wp_region_lit ?_
  refine wpp fun k h=>?_;go_simp;apply h;clear h k
  refine wpList_nil (hK17 _ _ ?_)
  refine wp_ret ?_
  refine hQf _ _ _ ?_
  exact bodyPost_ret (v := .int .i64 2) (by first|rfl|simp [results, Try.results67, go_sem]<;>rfl) rfl ⟨rfl, (hu7.out.trans hu14.out)⟩
 rw [if_pos c15] at H
 subst c15
 obtain rfl := Option.some.inj H
 refine wp_cond_false rfl ?_
 refine wp_skip ?_
 refine hK9 _ _ ?_
 refine wp_seq_k fun K16 hK16=>wp_region_lit ?_
 refine wpp fun k h=>?_;go_simp;apply h;clear h k
 refine wpList_nil (hK16 _ _ ?_)
 refine wp_ret ?_
 refine hQf _ _ _ ?_
 exact bodyPost_ret (v := .int .i64 0) (by first|rfl|simp [results, Try.results67, go_sem]<;>rfl) rfl ⟨rfl, (hu7.out.trans hu14.out)⟩

set_option maxHeartbeats 40000000 in
set_option maxRecDepth 100000 in
theorem impl_PowerOf.calls (K : Nat) (a0 : Int) (a1 : Int) (a2_0 : Int) (a2_1 : Int) (a2_2 : Int) (a3_0 : Int) (a3_1 : Int) (r0 : Int) (r1 : Int) (w : World)  (h : impl_PowerOf.f K a0 a1 a2_0 a2_1 a2_2 a3_0 a3_1 = some (r0, r1)) :
    Calls Try.prog 64 #[.int .i64 a0, .int .i64 a1, .agg #[.int .i64 a2_0, .int .i64 a2_1, .int .i64 a2_2], .agg #[.int .i64 a3_0, .int .i64 a3_1]] w fun e w' => e = .returned (.tuple #[.int .i64 r0, .int .i64 r1]) ∧ Up w w' := by
 have H : (((impl_asked__impl_PowerOf_1.f K a0 a1 a0 a2_0 a2_1 a2_2 a3_0 a3_1).bind fun t16 => (if (t16 == 0) = true then ((impl_power.f K a0 a1 a2_0 a2_1 a2_2 a3_0 a3_1).bind fun t25 => some (t25, 0)) else some (0, t16))) : Option (Int × Int)) = some (r0, r1) := h
 clear h
 obtain ⟨t16,A17,H⟩:=Option.bind_eq_some_iff.mp H
 replace A17:=Aside0.mk A17;try dsimp only at H
 go_enter Try.func64, Try.ntmps64
 refine wp_hide (fun Qf hQf => ?_)
 refine wp_seq_k fun K1 hK1=>wp_region_lit ?_
 refine step_new (cs := [.int .i64 a0]) (T := 2) (f := fun b => .pointer (some ⟨b, 0, none⟩)) rfl (by go_simp <;> rfl) ?_
 intro b2 w3 hu lb hb2
 simp only[Act.put,nm1,nm2,nm3]
 have lbb2 := Aside0.mk lb
 have ltb2 := Aside0.mk hb2.lt
 clear lb
 have hu4 := Aside0.mk hu
 clear hu
 refine step_new (cs := [.int .i64 a1]) (T := 2) (f := fun b => .pointer (some ⟨b, 0, none⟩)) rfl (by go_simp <;> rfl) ?_
 intro b5 w6 hu lb hb5
 simp only[Act.put,nm1,nm2,nm3]
 have lbb5 := Aside0.mk lb
 have ltb5 := Aside0.mk hb5.lt
 clear lb
 have hu7 := Aside0.mk hu
 clear hu
 refine step_new (cs := [.int .i64 a2_0, .int .i64 a2_1, .int .i64 a2_2]) (T := 71) (f := fun b => .pointer (some ⟨b, 0, none⟩)) rfl (by go_simp <;> rfl) ?_
 intro b8 w9 hu lb hb8
 simp only[Act.put,nm1,nm2,nm3]
 have lbb8 := Aside0.mk lb
 have ltb8 := Aside0.mk hb8.lt
 clear lb
 have hu10 := Aside0.mk hu
 clear hu
 refine step_new (cs := [.int .i64 a3_0, .int .i64 a3_1]) (T := 30) (f := fun b => .pointer (some ⟨b, 0, none⟩)) rfl (by go_simp <;> rfl) ?_
 intro b11 w12 hu lb hb11
 simp only[Act.put,nm1,nm2,nm3]
 have lbb11 := Aside0.mk lb
 have ltb11 := Aside0.mk hb11.lt
 clear lb
 have hu13 := Aside0.mk hu
 clear hu
 iterate 2 (refine wpp fun k h=>?_;go_simp;apply h;clear h k)
 refine wpList_nil (hK1 _ _ ?_)
 refine wp_seq_k fun K14 hK14=>?_
 refine wp_seq_k fun K15 hK15=>wp_region_lit ?_
 have cl0 := (hb2.up ((hu7.out.trans hu10.out).trans hu13.out)).cell (o := 0) rfl
 refine wpp fun k h=>?_;go_simp;apply h;clear h k
 clear cl0
 refine wpp fun k h=>?_;go_simp;apply h;clear h k
 refine step_call wn (by go_simp <;> rfl) (impl_asked__impl_PowerOf_1.calls K a0 b5 a1 b2 a0 b8 a2_0 a2_1 a2_2 b11 a3_0 a3_1 t16 w12 (hb5.up (hu10.out.trans hu13.out)) (hb2.up ((hu7.out.trans hu10.out).trans hu13.out)) (hb8.up hu13.out) hb11 A17.out) ?_
 rintro e w18 ⟨rfl, hu⟩
 have hu19 := Aside0.mk hu
 clear hu
 refine ⟨_, rfl, ?_⟩
 simp only[Act.put,nm1,nm2,nm3]
 refine wpp fun k h=>?_;go_simp;apply h;clear h k
 refine wpList_nil (hK15 _ _ ?_)
 refine wp_seq_k fun K20 hK20=>wp_region_lit ?_
 iterate 2 (refine wpp fun k h=>?_;go_simp;apply h;clear h k)
 refine wpList_nil (hK20 _ _ ?_)
 have hm22 := Aside0.mk ((((hu4.out.trans hu7.out).trans hu10.out).trans hu13.out).trans hu19.out)
 have h23 := (hb2.up (((hu7.out.trans hu10.out).trans hu13.out).trans hu19.out))
 by_cases c21 : (t16 == 0) = true
 rotate_left
 ·
  rw [if_neg c21] at H; replace c21 := Bool.eq_false_iff.mpr c21
  have c21n : (t16 != 0) = true := by rw [bne, c21]; rfl
  have c21p : ¬ t16 = 0 := fun e => by simp [e] at c21
  simp only [Option.some.injEq, Prod.mk.injEq] at H
  obtain ⟨rfl, rfl⟩ := H
  try simp only [c21, c21n, Bool.not_true, Bool.not_false]
  refine wp_cond_true rfl ?_
  refine wp_seq_k fun K29 hK29=>wp_region_lit ?_
  iterate 3 (refine wpp fun k h=>?_;go_simp;apply h;clear h k)
  refine wpList_nil (hK29 _ _ ?_)
  refine wp_ret ?_
  refine hQf _ _ _ ?_
  exact bodyPost_ret (v := .tuple #[.int .i64 0, .int .i64 t16]) (by first|rfl|simp [results, Try.results64, go_sem]<;>rfl) rfl ⟨rfl, hm22.out⟩
 rw [if_pos c21] at H
 have c21n : (t16 != 0) = false := by rw [bne, c21]; rfl
 obtain ⟨t25,A26,H⟩:=Option.bind_eq_some_iff.mp H
 replace A26:=Aside0.mk A26;try dsimp only at H
 simp only [Option.some.injEq, Prod.mk.injEq] at H
 obtain ⟨rfl, rfl⟩ := H
 try simp only [c21, c21n, Bool.not_true, Bool.not_false]
 refine wp_cond_false rfl ?_
 refine wp_skip ?_
 refine hK14 _ _ ?_
 refine wp_seq_k fun K24 hK24=>wp_region_lit ?_
 have cl0 := h23.cell (o := 0) rfl
 refine wpp fun k h=>?_;go_simp;apply h;clear h k
 clear cl0
 have cl0 := (hb5.up ((hu10.out.trans hu13.out).trans hu19.out)).cell (o := 0) rfl
 refine wpp fun k h=>?_;go_simp;apply h;clear h k
 clear cl0
 have cl0 := (hb8.up (hu13.out.trans hu19.out)).cell (o := 0) rfl
 have cl1 := (hb8.up (hu13.out.trans hu19.out)).cell (o := 1) rfl
 have cl2 := (hb8.up (hu13.out.trans hu19.out)).cell (o := 2) rfl
 refine wpp fun k h=>?_;go_simp;apply h;clear h k
 clear cl0 cl1 cl2
 have cl0 := (hb11.up hu19.out).cell (o := 0) rfl
 have cl1 := (hb11.up hu19.out).cell (o := 1) rfl
 refine wpp fun k h=>?_;go_simp;apply h;clear h k
 clear cl0 cl1
 refine step_call wn (by go_simp <;> rfl) (impl_power.calls K a0 a1 a2_0 a2_1 a2_2 a3_0 a3_1 t25 w18  A26.out) ?_
 rintro e w27 ⟨rfl, hu⟩
 have hu28 := Aside0.mk hu
 clear hu
 refine ⟨_, rfl, ?_⟩
 simp only[Act.put,nm1,nm2,nm3]
 iterate 2 (refine wpp fun k h=>?_;go_simp;apply h;clear h k)
 refine wpList_nil (hK24 _ _ ?_)
 refine wp_ret ?_
 refine hQf _ _ _ ?_
 exact bodyPost_ret (v := .tuple #[.int .i64 t25, .int .i64 0]) (by first|rfl|simp [results, Try.results64, go_sem]<;>rfl) rfl ⟨rfl, (hm22.out.trans hu28.out)⟩

set_option maxHeartbeats 40000000 in
set_option maxRecDepth 100000 in
theorem laws_hasPoint9.calls (K : Nat) (a0_A : Option Addr) (a0_c : Nat) (a0 : List (Int × Int)) (a1_0 : Int) (a1_1 : Int) (r0 : Bool) (w : World) (ha0 : Rd e2 w a0_A a0) (h : laws_hasPoint9.f K a0 a1_0 a1_1 = some (r0)) :
    Calls Try.prog 66 #[.slice a0_A a0.length a0_c, .agg #[.int .i64 a1_0, .int .i64 a1_1]] w fun e w' => e = .returned (.bool r0) ∧ Up w w' := by
 have H : ((laws_hasPoint9.l0 K a0 a1_0 a1_1 K 0) : Option (Bool)) = some (r0) := h
 clear h
 go_enter Try.func66, Try.ntmps66
 refine wp_hide (fun Qf hQf => ?_)
 refine wp_seq_k fun K1 hK1=>wp_region_lit ?_
 refine step_new (cs := [.int .i64 a1_0, .int .i64 a1_1]) (T := 30) (f := fun b => .pointer (some ⟨b, 0, none⟩)) rfl (by go_simp <;> rfl) ?_
 intro b2 w3 hu lb hb2
 simp only[Act.put,nm1,nm2,nm3]
 have lbb2 := Aside0.mk lb
 have ltb2 := Aside0.mk hb2.lt
 clear lb
 have hu4 := Aside0.mk hu
 clear hu
 refine wpp fun k h=>?_;go_simp;apply h;clear h k
 refine wpList_nil (hK1 _ _ ?_)
 refine wp_seq_k fun K5 hK5=>?_
 refine wp_seq_k fun K6 hK6=>wp_region_lit ?_
 refine wpp fun k h=>?_;go_simp;apply h;clear h k
 refine wpList_nil (hK6 _ _ ?_)
 refine wp_block ?_
 have HL11 := Aside0.mk H
 clear H
 go_loopg [5] K (fun kq v5 w' => ∃ (x7 : Int), v5 = .int .i64 x7 ∧ Aside0 (laws_hasPoint9.l0 K a0 a1_0 a1_1 kq x7 = some (r0)) ∧ Aside0 (kq ≤ K) ∧ Aside0 (Up w3 w') ∧ Aside0 (w3.heap.size ≤ w'.heap.size))
 case atStart => exact ⟨0, (by first | rfl | simp), HL11, ⟨Nat.le_refl _⟩, ⟨(Up.refl _)⟩, ⟨Nat.le_refl _⟩⟩
 case round =>
  rename_i J14 K15 hJ14 hK15
  obtain ⟨x7, rfl, HL16, hk13, hu9, hz10⟩ := hrel
  obtain ⟨w8, rfl⟩ : ∃ wo : World, wo = wr := ⟨_, rfl⟩
  obtain ⟨k12, rfl⟩ | rfl : (∃ k, gk = k + 1) ∨ gk = 0 := by rcases gk with _ | k; exact .inr rfl; exact .inl ⟨k, rfl⟩
  case inr => exact absurd HL16.out (by simp [laws_hasPoint9.l0])
  have H := HL16.out
  clear HL16
  rw [laws_hasPoint9.l0] at H
  refine wp_seq_k fun K17 hK17=>?_
  refine wp_seq_k fun K18 hK18=>wp_region_lit ?_
  iterate 4 (refine wpp fun k h=>?_;go_simp;apply h;clear h k)
  refine wpList_nil (hK18 _ _ ?_)
  by_cases c19 : (decide (x7 < (a0.length : Int))) = true
  rotate_left
  ·
   rw [if_neg c19] at H; replace c19 := Bool.eq_false_iff.mpr c19
   obtain rfl := Option.some.inj H
   try simp only [c19, Bool.not_true, Bool.not_false]
   refine wp_cond_false rfl ?_
   refine wp_exit ?_
   refine hK5 _ _ ?_
   refine wp_seq_k fun K34 hK34=>wp_region_lit ?_
   refine wpp fun k h=>?_;go_simp;apply h;clear h k
   refine wpList_nil (hK34 _ _ ?_)
   refine wp_ret ?_
   refine hQf _ _ _ ?_
   exact bodyPost_ret (v := .bool false) (by first|rfl|simp [results, Try.results66, go_sem]<;>rfl) rfl ⟨rfl, (hu4.out.trans hu9.out)⟩
  rw [if_pos c19] at H
  obtain ⟨⟨t22, t23⟩,A24,H⟩:=Option.bind_eq_some_iff.mp H
  replace A24:=Aside0.mk A24;try dsimp only at H
  try simp only [c19, Bool.not_true, Bool.not_false]
  refine wp_cond_true rfl ?_
  refine wp_skip ?_
  refine hK17 _ _ ?_
  refine wp_seq_k fun K20 hK20=>?_
  refine wp_block ?_
  refine wp_seq_k fun K21 hK21=>?_
  obtain ⟨ad25, hat, he⟩ := rd_at (ha0.up (hu4.out.trans hu9.out)) A24.out
  have he26 := Aside0.mk he
  have hat28 := Aside0.mk hat
  clear he hat
  refine' wp_region_up 6 [Slot.det _, Slot.det _, Slot.det (.pointer (some ad25)), Slot.det _, Slot.det _, Slot.det _] (by kernel_rfl) (by kernel_rfl) ?main
  case main =>
   simp only [List.take_succ_cons, List.take_zero]
   refine wpK_ops rfl (fun w1 hu => ?_) ?_
   · clear hu
     go_simp
     first | done | rfl
   simp only[Act.put,nm1,nm2,nm3]
   refine wpK_ops rfl (fun w1 hu => ?_) ?_
   · clear hu
     go_simp
     first | done | rfl
   simp only[Act.put,nm1,nm2,nm3]
   refine wpK_ops rfl (fun w1 hu => ?_) ?_
   · exact quiet_index e2 (T := 30) rfl (by kernel_rfl) (by kernel_rfl) rfl rfl rfl hat28.out A24.out
   simp only[Act.put,nm1,nm2,nm3]
   refine wpK_ops rfl (fun w1 hu => ?_) ?_
   · have cl0 := he26.out 0 _ rfl
     rw [addr_add0] at cl0
     replace cl0 := (((Up.refl _).drew.trans hu)).kept cl0
     have cl1 : World.cell? _ ⟨ad25.block, ad25.off + 1, none⟩ = some _ := he26.out 1 _ rfl
     replace cl1 := (((Up.refl _).drew.trans hu)).kept cl1
     go_simp
     first | done | rfl
   simp only[Act.put,nm1,nm2,nm3]
   refine wpK_ops rfl (fun w1 hu => ?_) ?_
   · have cl0 := ((hb2.up hu9.out).up ((Up.refl _).drew.trans hu)).cell (o := 0) rfl
     have cl1 := ((hb2.up hu9.out).up ((Up.refl _).drew.trans hu)).cell (o := 1) rfl
     go_simp
     first | done | rfl
   simp only[Act.put,nm1,nm2,nm3]
   refine wpK_ops rfl (fun w1 hu => ?_) ?_
   · clear hu
     go_simp
     first | done | rfl
   simp only[Act.put,nm1,nm2,nm3]
   refine wpK_nil ?_
   intro w29 hu hap
   simp only [List.drop_succ_cons, List.drop_zero]
   replace hu := (Up.refl _).drew.trans hu
   clear hap
   have hu30 := Aside0.mk hu
   clear hu
   refine wpList_nil (hK21 _ _ ?_)
   by_cases c31 : (t22 == a1_0 && t23 == a1_1) = true
   ·
    rw [if_pos c31] at H
    have c31n : (!t22 == a1_0 || !t23 == a1_1) = false := by simp only [← Bool.not_and, c31, Bool.not_true, Bool.not_false]
    obtain rfl := Option.some.inj H
    try simp only [c31, c31n, Bool.not_true, Bool.not_false]
    refine wp_cond_true rfl ?_
    refine wp_seq_k fun K32 hK32=>wp_region_lit ?_
    refine wpp fun k h=>?_;go_simp;apply h;clear h k
    refine wpList_nil (hK32 _ _ ?_)
    refine wp_ret ?_
    refine hQf _ _ _ ?_
    exact bodyPost_ret (v := .bool true) (by first|rfl|simp [results, Try.results66, go_sem]<;>rfl) rfl ⟨rfl, ((hu4.out.trans hu9.out).trans hu30.out)⟩
   rw [if_neg c31] at H; replace c31 := Bool.eq_false_iff.mpr c31
   have c31n : (!t22 == a1_0 || !t23 == a1_1) = true := by simp only [← Bool.not_and, c31, Bool.not_true, Bool.not_false]
   have HL33 := Aside0.mk H
   clear H
   try simp only [c31, c31n, Bool.not_true, Bool.not_false]
   refine wp_cond_false rfl ?_
   refine wp_skip ?_
   refine hK20 _ _ ?_
   refine wp_region_lit ?_
   iterate 3 (refine wpp fun k h=>?_;go_simp;apply h;clear h k)
   refine wpList_nil (hK15 _ _ ?_)
   go_roundg k12
   case measure => exact Nat.lt_succ_self _
   case rel => exact ⟨wrap64 (x7 + 1), (by first | rfl | simp), HL33, ⟨by have := hk13.out; omega⟩, ⟨(hu9.out.trans hu30.out)⟩, ⟨(Nat.le_trans ((Nat.le_trans (Nat.le_refl _) hz10.out)) hu30.out.size)⟩⟩

set_option maxHeartbeats 40000000 in
set_option maxRecDepth 100000 in
theorem impl_Quadrance_1.calls (K : Nat) (bf0 : Nat) (f0_0 : Int) (bf1 : Nat) (f1_0 : Int) (bf2 : Nat) (f2_0 : Int) (f2_1 : Int) (bf3 : Nat) (f3_0 : Int) (f3_1 : Int) (r0 : Bool) (w : World) (hf0 : Blk w bf0 [.int .i64 f0_0] 2) (hf1 : Blk w bf1 [.int .i64 f1_0] 2) (hf2 : Blk w bf2 [.int .i64 f2_0, .int .i64 f2_1] 30) (hf3 : Blk w bf3 [.int .i64 f3_0, .int .i64 f3_1] 30) (h : impl_Quadrance_1.f K f0_0 f1_0 f2_0 f2_1 f3_0 f3_1 = some (r0)) :
    Calls Try.prog 68 #[.pointer (some ⟨bf0, 0, none⟩), .pointer (some ⟨bf1, 0, none⟩), .pointer (some ⟨bf2, 0, none⟩), .pointer (some ⟨bf3, 0, none⟩)] w fun e w' => e = .returned (.bool r0) ∧ Up w w' := by
 have H : (((impl_isColour.f K f0_0).bind fun t3 => (if t3 = true then ((impl_arePoints.f K f1_0 ([(f2_0, f2_1), (f3_0, f3_1)])).bind fun t11 => some t11) else some false)) : Option (Bool)) = some (r0) := h
 clear h
 obtain ⟨t3,A4,H⟩:=Option.bind_eq_some_iff.mp H
 replace A4:=Aside0.mk A4;try dsimp only at H
 have ltbf0 := Aside0.mk hf0.lt
 have ltbf1 := Aside0.mk hf1.lt
 have ltbf2 := Aside0.mk hf2.lt
 have ltbf3 := Aside0.mk hf3.lt
 go_enter Try.func68, Try.ntmps68
 refine wp_hide (fun Qf hQf => ?_)
 refine wp_seq_k fun K1 hK1=>wp_region_lit ?_
 refine wpp fun k h=>?_;go_simp;apply h;clear h k
 refine wpList_nil (hK1 _ _ ?_)
 refine wp_seq_k fun K2 hK2=>wp_region_lit ?_
 have cl0 := hf0.cell (o := 0) rfl
 refine wpp fun k h=>?_;go_simp;apply h;clear h k
 clear cl0
 refine step_call wn (by go_simp <;> rfl) (impl_isColour.calls K f0_0 t3 w  A4.out) ?_
 rintro e w5 ⟨rfl, hu⟩
 have hu6 := Aside0.mk hu
 clear hu
 refine ⟨_, rfl, ?_⟩
 simp only[Act.put,nm1,nm2,nm3]
 refine wpp fun k h=>?_;go_simp;apply h;clear h k
 by_cases c7 : (t3) = true
 rotate_left
 ·
  rw [if_neg c7] at H; replace c7 := Bool.eq_false_iff.mpr c7
  subst c7
  obtain rfl := Option.some.inj H
  refine step_no rfl ?_
  simp only[Act.put,nm1,nm2,nm3]
  refine step_no rfl ?_
  simp only[Act.put,nm1,nm2,nm3]
  refine step_no rfl ?_
  simp only[Act.put,nm1,nm2,nm3]
  refine step_no rfl ?_
  simp only[Act.put,nm1,nm2,nm3]
  refine step_no rfl ?_
  simp only[Act.put,nm1,nm2,nm3]
  iterate 2 (refine wpp fun k h=>?_;go_simp;apply h;clear h k)
  refine wpList_nil (hK2 _ _ ?_)
  refine wp_ret ?_
  refine hQf _ _ _ ?_
  exact bodyPost_ret (v := .bool false) (by first|rfl|simp [results, Try.results68, go_sem]<;>rfl) rfl ⟨rfl, hu6.out⟩
 rw [if_pos c7] at H
 subst c7
 obtain ⟨t11,A12,H⟩:=Option.bind_eq_some_iff.mp H
 replace A12:=Aside0.mk A12;try dsimp only at H
 obtain rfl := Option.some.inj H
 have cl0 := (hf1.up hu6.out).cell (o := 0) rfl
 refine wpList_step fun k h=>?_;go_simp;apply h;clear h k
 clear cl0
 have cl0 := (hf2.up hu6.out).cell (o := 0) rfl
 have cl1 := (hf2.up hu6.out).cell (o := 1) rfl
 refine wpList_step fun k h=>?_;go_simp;apply h;clear h k
 clear cl0 cl1
 have cl0 := (hf3.up hu6.out).cell (o := 0) rfl
 have cl1 := (hf3.up hu6.out).cell (o := 1) rfl
 refine wpList_step fun k h=>?_;go_simp;apply h;clear h k
 clear cl0 cl1
 refine step_new_yes (cs := [.int .i64 f2_0, .int .i64 f2_1, .int .i64 f3_0, .int .i64 f3_1]) (T := 30) (f := fun b => .slice (some ⟨b, 0, none⟩) 2 2) rfl (by go_simp <;> rfl) ?_
 intro b8 w9 hu lb hb8
 simp only[Act.put,nm1,nm2,nm3]
 have lbb8 := Aside0.mk lb
 have ltb8 := Aside0.mk hb8.lt
 clear lb
 have hu10 := Aside0.mk hu
 clear hu
 refine step_call rfl (by go_simp <;> rfl) (impl_arePoints.calls K f1_0 (some ⟨b8, 0, none⟩) 2 ([(f2_0, f2_1), (f3_0, f3_1)]) t11 w9 (Rd.of_blk (E := e2) (xs := [(f2_0, f2_1), (f3_0, f3_1)]) (o := 0) hb8 (by simp) (fun j u hu => by rcases j with _ | _ | _ | _ | j <;> simp_all [Enc.flat, e2])) A12.out) ?_
 rintro e w13 ⟨rfl, hu⟩
 have hu14 := Aside0.mk hu
 clear hu
 refine ⟨_, rfl, ?_⟩
 simp only[Act.put,nm1,nm2,nm3]
 iterate 2 (refine wpp fun k h=>?_;go_simp;apply h;clear h k)
 refine wpList_nil (hK2 _ _ ?_)
 refine wp_ret ?_
 refine hQf _ _ _ ?_
 exact bodyPost_ret (v := .bool t11) (by first|rfl|simp [results, Try.results68, go_sem]<;>rfl) rfl ⟨rfl, ((hu6.out.trans hu10.out).trans hu14.out)⟩

set_option maxHeartbeats 40000000 in
set_option maxRecDepth 100000 in
theorem impl_asked__impl_Quadrance_1.calls (K : Nat) (a0 : Int) (bc1_0 : Nat) (c1_0_0 : Int) (bc1_1 : Nat) (c1_1_0 : Int) (bc1_2 : Nat) (c1_2_0 : Int) (c1_2_1 : Int) (bc1_3 : Nat) (c1_3_0 : Int) (c1_3_1 : Int) (r0 : Int) (w : World) (hc1_0 : Blk w bc1_0 [.int .i64 c1_0_0] 2) (hc1_1 : Blk w bc1_1 [.int .i64 c1_1_0] 2) (hc1_2 : Blk w bc1_2 [.int .i64 c1_2_0, .int .i64 c1_2_1] 30) (hc1_3 : Blk w bc1_3 [.int .i64 c1_3_0, .int .i64 c1_3_1] 30) (h : impl_asked__impl_Quadrance_1.f K a0 c1_0_0 c1_1_0 c1_2_0 c1_2_1 c1_3_0 c1_3_1 = some (r0)) :
    Calls Try.prog 67 #[.int .i64 a0, .func (.func 68) #[] #[.pointer (some ⟨bc1_0, 0, none⟩), .pointer (some ⟨bc1_1, 0, none⟩), .pointer (some ⟨bc1_2, 0, none⟩), .pointer (some ⟨bc1_3, 0, none⟩)]] w fun e w' => e = .returned (.int .i64 r0) ∧ Up w w' := by
 have H : (((impl_IsField.f K a0).bind fun t4 => (if t4 = true then ((impl_Quadrance_1.f K c1_0_0 c1_1_0 c1_2_0 c1_2_1 c1_3_0 c1_3_1).bind fun t11 => (if t11 = true then some 0 else some 2)) else some 1)) : Option (Int)) = some (r0) := h
 clear h
 obtain ⟨t4,A5,H⟩:=Option.bind_eq_some_iff.mp H
 replace A5:=Aside0.mk A5;try dsimp only at H
 have ltbc1_0 := Aside0.mk hc1_0.lt
 have ltbc1_1 := Aside0.mk hc1_1.lt
 have ltbc1_2 := Aside0.mk hc1_2.lt
 have ltbc1_3 := Aside0.mk hc1_3.lt
 go_enter Try.func67, Try.ntmps67
 refine wp_hide (fun Qf hQf => ?_)
 refine wp_seq_k fun K1 hK1=>wp_region_lit ?_
 refine wpp fun k h=>?_;go_simp;apply h;clear h k
 refine wpList_nil (hK1 _ _ ?_)
 refine wp_seq_k fun K2 hK2=>?_
 refine wp_seq_k fun K3 hK3=>wp_region_lit ?_
 refine wpp fun k h=>?_;go_simp;apply h;clear h k
 refine step_call wn (by go_simp <;> rfl) (impl_IsField.calls K a0 t4 w  A5.out) ?_
 rintro e w6 ⟨rfl, hu⟩
 have hu7 := Aside0.mk hu
 clear hu
 refine ⟨_, rfl, ?_⟩
 simp only[Act.put,nm1,nm2,nm3]
 refine wpp fun k h=>?_;go_simp;apply h;clear h k
 refine wpList_nil (hK3 _ _ ?_)
 by_cases c8 : (t4) = true
 rotate_left
 ·
  rw [if_neg c8] at H; replace c8 := Bool.eq_false_iff.mpr c8
  subst c8
  obtain rfl := Option.some.inj H
  refine wp_cond_true rfl ?_
  refine wp_seq_k fun K18 hK18=>wp_region_lit ?_
  refine wpp fun k h=>?_;go_simp;apply h;clear h k
  refine wpList_nil (hK18 _ _ ?_)
  refine wp_ret ?_
  refine hQf _ _ _ ?_
  exact bodyPost_ret (v := .int .i64 1) (by first|rfl|simp [results, Try.results67, go_sem]<;>rfl) rfl ⟨rfl, hu7.out⟩
 rw [if_pos c8] at H
 subst c8
 obtain ⟨t11,A12,H⟩:=Option.bind_eq_some_iff.mp H
 replace A12:=Aside0.mk A12;try dsimp only at H
 refine wp_cond_false rfl ?_
 refine wp_skip ?_
 refine hK2 _ _ ?_
 refine wp_seq_k fun K9 hK9=>?_
 refine wp_seq_k fun K10 hK10=>wp_region_lit ?_
 refine wpp fun k h=>?_;go_simp;apply h;clear h k
 refine step_call wn (by go_simp <;> rfl) (impl_Quadrance_1.calls K bc1_0 c1_0_0 bc1_1 c1_1_0 bc1_2 c1_2_0 c1_2_1 bc1_3 c1_3_0 c1_3_1 t11 w6 (hc1_0.up hu7.out) (hc1_1.up hu7.out) (hc1_2.up hu7.out) (hc1_3.up hu7.out) A12.out) ?_
 rintro e w13 ⟨rfl, hu⟩
 have hu14 := Aside0.mk hu
 clear hu
 refine ⟨_, rfl, ?_⟩
 simp only[Act.put,nm1,nm2,nm3]
 refine wpp fun k h=>?_;go_simp;apply h;clear h k
 refine wpList_nil (hK10 _ _ ?_)
 by_cases c15 : (t11) = true
 rotate_left
 ·
  rw [if_neg c15] at H; replace c15 := Bool.eq_false_iff.mpr c15
  subst c15
  obtain rfl := Option.some.inj H
  refine wp_cond_true rfl ?_
  refine wp_seq_k fun K17 hK17=>wp_region_lit ?_
  refine wpp fun k h=>?_;go_simp;apply h;clear h k
  refine wpList_nil (hK17 _ _ ?_)
  refine wp_ret ?_
  refine hQf _ _ _ ?_
  exact bodyPost_ret (v := .int .i64 2) (by first|rfl|simp [results, Try.results67, go_sem]<;>rfl) rfl ⟨rfl, (hu7.out.trans hu14.out)⟩
 rw [if_pos c15] at H
 subst c15
 obtain rfl := Option.some.inj H
 refine wp_cond_false rfl ?_
 refine wp_skip ?_
 refine hK9 _ _ ?_
 refine wp_seq_k fun K16 hK16=>wp_region_lit ?_
 refine wpp fun k h=>?_;go_simp;apply h;clear h k
 refine wpList_nil (hK16 _ _ ?_)
 refine wp_ret ?_
 refine hQf _ _ _ ?_
 exact bodyPost_ret (v := .int .i64 0) (by first|rfl|simp [results, Try.results67, go_sem]<;>rfl) rfl ⟨rfl, (hu7.out.trans hu14.out)⟩

set_option maxHeartbeats 40000000 in
set_option maxRecDepth 100000 in
theorem impl_Quadrance.calls (K : Nat) (a0 : Int) (a1 : Int) (a2_0 : Int) (a2_1 : Int) (a3_0 : Int) (a3_1 : Int) (r0 : Int) (r1 : Int) (w : World)  (h : impl_Quadrance.f K a0 a1 a2_0 a2_1 a3_0 a3_1 = some (r0, r1)) :
    Calls Try.prog 10 #[.int .i64 a0, .int .i64 a1, .agg #[.int .i64 a2_0, .int .i64 a2_1], .agg #[.int .i64 a3_0, .int .i64 a3_1]] w fun e w' => e = .returned (.tuple #[.int .i64 r0, .int .i64 r1]) ∧ Up w w' := by
 have H : (((impl_asked__impl_Quadrance_1.f K a0 a1 a0 a2_0 a2_1 a3_0 a3_1).bind fun t16 => (if (t16 == 0) = true then ((impl_quadrance.f K a0 a1 a2_0 a2_1 a3_0 a3_1).bind fun t25 => some (t25, 0)) else some (0, t16))) : Option (Int × Int)) = some (r0, r1) := h
 clear h
 obtain ⟨t16,A17,H⟩:=Option.bind_eq_some_iff.mp H
 replace A17:=Aside0.mk A17;try dsimp only at H
 go_enter Try.func10, Try.ntmps10
 refine wp_hide (fun Qf hQf => ?_)
 refine wp_seq_k fun K1 hK1=>wp_region_lit ?_
 refine step_new (cs := [.int .i64 a0]) (T := 2) (f := fun b => .pointer (some ⟨b, 0, none⟩)) rfl (by go_simp <;> rfl) ?_
 intro b2 w3 hu lb hb2
 simp only[Act.put,nm1,nm2,nm3]
 have lbb2 := Aside0.mk lb
 have ltb2 := Aside0.mk hb2.lt
 clear lb
 have hu4 := Aside0.mk hu
 clear hu
 refine step_new (cs := [.int .i64 a1]) (T := 2) (f := fun b => .pointer (some ⟨b, 0, none⟩)) rfl (by go_simp <;> rfl) ?_
 intro b5 w6 hu lb hb5
 simp only[Act.put,nm1,nm2,nm3]
 have lbb5 := Aside0.mk lb
 have ltb5 := Aside0.mk hb5.lt
 clear lb
 have hu7 := Aside0.mk hu
 clear hu
 refine step_new (cs := [.int .i64 a2_0, .int .i64 a2_1]) (T := 30) (f := fun b => .pointer (some ⟨b, 0, none⟩)) rfl (by go_simp <;> rfl) ?_
 intro b8 w9 hu lb hb8
 simp only[Act.put,nm1,nm2,nm3]
 have lbb8 := Aside0.mk lb
 have ltb8 := Aside0.mk hb8.lt
 clear lb
 have hu10 := Aside0.mk hu
 clear hu
 refine step_new (cs := [.int .i64 a3_0, .int .i64 a3_1]) (T := 30) (f := fun b => .pointer (some ⟨b, 0, none⟩)) rfl (by go_simp <;> rfl) ?_
 intro b11 w12 hu lb hb11
 simp only[Act.put,nm1,nm2,nm3]
 have lbb11 := Aside0.mk lb
 have ltb11 := Aside0.mk hb11.lt
 clear lb
 have hu13 := Aside0.mk hu
 clear hu
 iterate 2 (refine wpp fun k h=>?_;go_simp;apply h;clear h k)
 refine wpList_nil (hK1 _ _ ?_)
 refine wp_seq_k fun K14 hK14=>?_
 refine wp_seq_k fun K15 hK15=>wp_region_lit ?_
 have cl0 := (hb2.up ((hu7.out.trans hu10.out).trans hu13.out)).cell (o := 0) rfl
 refine wpp fun k h=>?_;go_simp;apply h;clear h k
 clear cl0
 refine wpp fun k h=>?_;go_simp;apply h;clear h k
 refine step_call wn (by go_simp <;> rfl) (impl_asked__impl_Quadrance_1.calls K a0 b5 a1 b2 a0 b8 a2_0 a2_1 b11 a3_0 a3_1 t16 w12 (hb5.up (hu10.out.trans hu13.out)) (hb2.up ((hu7.out.trans hu10.out).trans hu13.out)) (hb8.up hu13.out) hb11 A17.out) ?_
 rintro e w18 ⟨rfl, hu⟩
 have hu19 := Aside0.mk hu
 clear hu
 refine ⟨_, rfl, ?_⟩
 simp only[Act.put,nm1,nm2,nm3]
 refine wpp fun k h=>?_;go_simp;apply h;clear h k
 refine wpList_nil (hK15 _ _ ?_)
 refine wp_seq_k fun K20 hK20=>wp_region_lit ?_
 iterate 2 (refine wpp fun k h=>?_;go_simp;apply h;clear h k)
 refine wpList_nil (hK20 _ _ ?_)
 have hm22 := Aside0.mk ((((hu4.out.trans hu7.out).trans hu10.out).trans hu13.out).trans hu19.out)
 have h23 := (hb2.up (((hu7.out.trans hu10.out).trans hu13.out).trans hu19.out))
 by_cases c21 : (t16 == 0) = true
 rotate_left
 ·
  rw [if_neg c21] at H; replace c21 := Bool.eq_false_iff.mpr c21
  have c21n : (t16 != 0) = true := by rw [bne, c21]; rfl
  have c21p : ¬ t16 = 0 := fun e => by simp [e] at c21
  simp only [Option.some.injEq, Prod.mk.injEq] at H
  obtain ⟨rfl, rfl⟩ := H
  try simp only [c21, c21n, Bool.not_true, Bool.not_false]
  refine wp_cond_true rfl ?_
  refine wp_seq_k fun K29 hK29=>wp_region_lit ?_
  iterate 3 (refine wpp fun k h=>?_;go_simp;apply h;clear h k)
  refine wpList_nil (hK29 _ _ ?_)
  refine wp_ret ?_
  refine hQf _ _ _ ?_
  exact bodyPost_ret (v := .tuple #[.int .i64 0, .int .i64 t16]) (by first|rfl|simp [results, Try.results10, go_sem]<;>rfl) rfl ⟨rfl, hm22.out⟩
 rw [if_pos c21] at H
 have c21n : (t16 != 0) = false := by rw [bne, c21]; rfl
 obtain ⟨t25,A26,H⟩:=Option.bind_eq_some_iff.mp H
 replace A26:=Aside0.mk A26;try dsimp only at H
 simp only [Option.some.injEq, Prod.mk.injEq] at H
 obtain ⟨rfl, rfl⟩ := H
 try simp only [c21, c21n, Bool.not_true, Bool.not_false]
 refine wp_cond_false rfl ?_
 refine wp_skip ?_
 refine hK14 _ _ ?_
 refine wp_seq_k fun K24 hK24=>wp_region_lit ?_
 have cl0 := h23.cell (o := 0) rfl
 refine wpp fun k h=>?_;go_simp;apply h;clear h k
 clear cl0
 have cl0 := (hb5.up ((hu10.out.trans hu13.out).trans hu19.out)).cell (o := 0) rfl
 refine wpp fun k h=>?_;go_simp;apply h;clear h k
 clear cl0
 have cl0 := (hb8.up (hu13.out.trans hu19.out)).cell (o := 0) rfl
 have cl1 := (hb8.up (hu13.out.trans hu19.out)).cell (o := 1) rfl
 refine wpp fun k h=>?_;go_simp;apply h;clear h k
 clear cl0 cl1
 have cl0 := (hb11.up hu19.out).cell (o := 0) rfl
 have cl1 := (hb11.up hu19.out).cell (o := 1) rfl
 refine wpp fun k h=>?_;go_simp;apply h;clear h k
 clear cl0 cl1
 refine step_call wn (by go_simp <;> rfl) (impl_quadrance.calls K a0 a1 a2_0 a2_1 a3_0 a3_1 t25 w18  A26.out) ?_
 rintro e w27 ⟨rfl, hu⟩
 have hu28 := Aside0.mk hu
 clear hu
 refine ⟨_, rfl, ?_⟩
 simp only[Act.put,nm1,nm2,nm3]
 iterate 2 (refine wpp fun k h=>?_;go_simp;apply h;clear h k)
 refine wpList_nil (hK24 _ _ ?_)
 refine wp_ret ?_
 refine hQf _ _ _ ?_
 exact bodyPost_ret (v := .tuple #[.int .i64 t25, .int .i64 0]) (by first|rfl|simp [results, Try.results10, go_sem]<;>rfl) rfl ⟨rfl, (hm22.out.trans hu28.out)⟩

set_option maxHeartbeats 40000000 in
set_option maxRecDepth 100000 in
theorem impl_ArchimedesOf_1.calls (K : Nat) (bf0 : Nat) (f0_0 : Int) (bf1 : Nat) (f1_0 : Int) (bf2 : Nat) (f2_0 : Int) (bf3 : Nat) (f3_0 : Int) (r0 : Bool) (w : World) (hf0 : Blk w bf0 [.int .i64 f0_0] 2) (hf1 : Blk w bf1 [.int .i64 f1_0] 2) (hf2 : Blk w bf2 [.int .i64 f2_0] 2) (hf3 : Blk w bf3 [.int .i64 f3_0] 2) (h : impl_ArchimedesOf_1.f K f0_0 f1_0 f2_0 f3_0 = some (r0)) :
    Calls Try.prog 165 #[.pointer (some ⟨bf0, 0, none⟩), .pointer (some ⟨bf1, 0, none⟩), .pointer (some ⟨bf2, 0, none⟩), .pointer (some ⟨bf3, 0, none⟩)] w fun e w' => e = .returned (.bool r0) ∧ Up w w' := by
 have H : (((impl_areNumbers.f K f0_0 ([f1_0, f2_0, f3_0])).bind fun t6 => some t6) : Option (Bool)) = some (r0) := h
 clear h
 obtain ⟨t6,A7,H⟩:=Option.bind_eq_some_iff.mp H
 replace A7:=Aside0.mk A7;try dsimp only at H
 obtain rfl := Option.some.inj H
 have ltbf0 := Aside0.mk hf0.lt
 have ltbf1 := Aside0.mk hf1.lt
 have ltbf2 := Aside0.mk hf2.lt
 have ltbf3 := Aside0.mk hf3.lt
 go_enter Try.func165, Try.ntmps165
 refine wp_hide (fun Qf hQf => ?_)
 refine wp_seq_k fun K1 hK1=>wp_region_lit ?_
 refine wpp fun k h=>?_;go_simp;apply h;clear h k
 refine wpList_nil (hK1 _ _ ?_)
 refine wp_seq_k fun K2 hK2=>wp_region_lit ?_
 have cl0 := hf0.cell (o := 0) rfl
 refine wpp fun k h=>?_;go_simp;apply h;clear h k
 clear cl0
 have cl0 := hf1.cell (o := 0) rfl
 refine wpp fun k h=>?_;go_simp;apply h;clear h k
 clear cl0
 have cl0 := hf2.cell (o := 0) rfl
 refine wpp fun k h=>?_;go_simp;apply h;clear h k
 clear cl0
 have cl0 := hf3.cell (o := 0) rfl
 refine wpp fun k h=>?_;go_simp;apply h;clear h k
 clear cl0
 refine step_new (cs := [.int .i64 f1_0, .int .i64 f2_0, .int .i64 f3_0]) (T := 2) (f := fun b => .slice (some ⟨b, 0, none⟩) 3 3) rfl (by go_simp <;> rfl) ?_
 intro b3 w4 hu lb hb3
 simp only[Act.put,nm1,nm2,nm3]
 have lbb3 := Aside0.mk lb
 have ltb3 := Aside0.mk hb3.lt
 clear lb
 have hu5 := Aside0.mk hu
 clear hu
 refine step_call wn (by go_simp <;> rfl) (impl_areNumbers.calls K f0_0 (some ⟨b3, 0, none⟩) 3 ([f1_0, f2_0, f3_0]) t6 w4 (Rd.of_blk (E := eI) (xs := [f1_0, f2_0, f3_0]) (o := 0) hb3 (by simp) (fun j u hu => by rcases j with _ | _ | _ | j <;> simp_all [Enc.flat, eI])) A7.out) ?_
 rintro e w8 ⟨rfl, hu⟩
 have hu9 := Aside0.mk hu
 clear hu
 refine ⟨_, rfl, ?_⟩
 simp only[Act.put,nm1,nm2,nm3]
 refine wpp fun k h=>?_;go_simp;apply h;clear h k
 refine wpList_nil (hK2 _ _ ?_)
 refine wp_ret ?_
 refine hQf _ _ _ ?_
 exact bodyPost_ret (v := .bool t6) (by first|rfl|simp [results, Try.results165, go_sem]<;>rfl) rfl ⟨rfl, (hu5.out.trans hu9.out)⟩

set_option maxHeartbeats 40000000 in
set_option maxRecDepth 100000 in
theorem impl_asked__impl_ArchimedesOf_1.calls (K : Nat) (a0 : Int) (bc1_0 : Nat) (c1_0_0 : Int) (bc1_1 : Nat) (c1_1_0 : Int) (bc1_2 : Nat) (c1_2_0 : Int) (bc1_3 : Nat) (c1_3_0 : Int) (r0 : Int) (w : World) (hc1_0 : Blk w bc1_0 [.int .i64 c1_0_0] 2) (hc1_1 : Blk w bc1_1 [.int .i64 c1_1_0] 2) (hc1_2 : Blk w bc1_2 [.int .i64 c1_2_0] 2) (hc1_3 : Blk w bc1_3 [.int .i64 c1_3_0] 2) (h : impl_asked__impl_ArchimedesOf_1.f K a0 c1_0_0 c1_1_0 c1_2_0 c1_3_0 = some (r0)) :
    Calls Try.prog 67 #[.int .i64 a0, .func (.func 165) #[] #[.pointer (some ⟨bc1_0, 0, none⟩), .pointer (some ⟨bc1_1, 0, none⟩), .pointer (some ⟨bc1_2, 0, none⟩), .pointer (some ⟨bc1_3, 0, none⟩)]] w fun e w' => e = .returned (.int .i64 r0) ∧ Up w w' := by
 have H : (((impl_IsField.f K a0).bind fun t4 => (if t4 = true then ((impl_ArchimedesOf_1.f K c1_0_0 c1_1_0 c1_2_0 c1_3_0).bind fun t11 => (if t11 = true then some 0 else some 2)) else some 1)) : Option (Int)) = some (r0) := h
 clear h
 obtain ⟨t4,A5,H⟩:=Option.bind_eq_some_iff.mp H
 replace A5:=Aside0.mk A5;try dsimp only at H
 have ltbc1_0 := Aside0.mk hc1_0.lt
 have ltbc1_1 := Aside0.mk hc1_1.lt
 have ltbc1_2 := Aside0.mk hc1_2.lt
 have ltbc1_3 := Aside0.mk hc1_3.lt
 go_enter Try.func67, Try.ntmps67
 refine wp_hide (fun Qf hQf => ?_)
 refine wp_seq_k fun K1 hK1=>wp_region_lit ?_
 refine wpp fun k h=>?_;go_simp;apply h;clear h k
 refine wpList_nil (hK1 _ _ ?_)
 refine wp_seq_k fun K2 hK2=>?_
 refine wp_seq_k fun K3 hK3=>wp_region_lit ?_
 refine wpp fun k h=>?_;go_simp;apply h;clear h k
 refine step_call wn (by go_simp <;> rfl) (impl_IsField.calls K a0 t4 w  A5.out) ?_
 rintro e w6 ⟨rfl, hu⟩
 have hu7 := Aside0.mk hu
 clear hu
 refine ⟨_, rfl, ?_⟩
 simp only[Act.put,nm1,nm2,nm3]
 refine wpp fun k h=>?_;go_simp;apply h;clear h k
 refine wpList_nil (hK3 _ _ ?_)
 by_cases c8 : (t4) = true
 rotate_left
 ·
  rw [if_neg c8] at H; replace c8 := Bool.eq_false_iff.mpr c8
  subst c8
  obtain rfl := Option.some.inj H
  refine wp_cond_true rfl ?_
  refine wp_seq_k fun K18 hK18=>wp_region_lit ?_
  refine wpp fun k h=>?_;go_simp;apply h;clear h k
  refine wpList_nil (hK18 _ _ ?_)
  refine wp_ret ?_
  refine hQf _ _ _ ?_
  exact bodyPost_ret (v := .int .i64 1) (by first|rfl|simp [results, Try.results67, go_sem]<;>rfl) rfl ⟨rfl, hu7.out⟩
 rw [if_pos c8] at H
 subst c8
 obtain ⟨t11,A12,H⟩:=Option.bind_eq_some_iff.mp H
 replace A12:=Aside0.mk A12;try dsimp only at H
 refine wp_cond_false rfl ?_
 refine wp_skip ?_
 refine hK2 _ _ ?_
 refine wp_seq_k fun K9 hK9=>?_
 refine wp_seq_k fun K10 hK10=>wp_region_lit ?_
 refine wpp fun k h=>?_;go_simp;apply h;clear h k
 refine step_call wn (by go_simp <;> rfl) (impl_ArchimedesOf_1.calls K bc1_0 c1_0_0 bc1_1 c1_1_0 bc1_2 c1_2_0 bc1_3 c1_3_0 t11 w6 (hc1_0.up hu7.out) (hc1_1.up hu7.out) (hc1_2.up hu7.out) (hc1_3.up hu7.out) A12.out) ?_
 rintro e w13 ⟨rfl, hu⟩
 have hu14 := Aside0.mk hu
 clear hu
 refine ⟨_, rfl, ?_⟩
 simp only[Act.put,nm1,nm2,nm3]
 refine wpp fun k h=>?_;go_simp;apply h;clear h k
 refine wpList_nil (hK10 _ _ ?_)
 by_cases c15 : (t11) = true
 rotate_left
 ·
  rw [if_neg c15] at H; replace c15 := Bool.eq_false_iff.mpr c15
  subst c15
  obtain rfl := Option.some.inj H
  refine wp_cond_true rfl ?_
  refine wp_seq_k fun K17 hK17=>wp_region_lit ?_
  refine wpp fun k h=>?_;go_simp;apply h;clear h k
  refine wpList_nil (hK17 _ _ ?_)
  refine wp_ret ?_
  refine hQf _ _ _ ?_
  exact bodyPost_ret (v := .int .i64 2) (by first|rfl|simp [results, Try.results67, go_sem]<;>rfl) rfl ⟨rfl, (hu7.out.trans hu14.out)⟩
 rw [if_pos c15] at H
 subst c15
 obtain rfl := Option.some.inj H
 refine wp_cond_false rfl ?_
 refine wp_skip ?_
 refine hK9 _ _ ?_
 refine wp_seq_k fun K16 hK16=>wp_region_lit ?_
 refine wpp fun k h=>?_;go_simp;apply h;clear h k
 refine wpList_nil (hK16 _ _ ?_)
 refine wp_ret ?_
 refine hQf _ _ _ ?_
 exact bodyPost_ret (v := .int .i64 0) (by first|rfl|simp [results, Try.results67, go_sem]<;>rfl) rfl ⟨rfl, (hu7.out.trans hu14.out)⟩

set_option maxHeartbeats 40000000 in
set_option maxRecDepth 100000 in
theorem impl_archimedes.calls (K : Nat) (a0 : Int) (a1 : Int) (a2 : Int) (a3 : Int) (r0 : Int) (w : World)  (h : impl_archimedes.f K a0 a1 a2 a3 = some (r0)) :
    Calls Try.prog 166 #[.int .i64 a0, .int .i64 a1, .int .i64 a2, .int .i64 a3] w fun e w' => e = .returned (.int .i64 r0) ∧ Up w w' := by
 have H : (((impl_rest.f K a0 (wrap64 ((wrap64 ((wrap64 ((wrap64 (a1 + a2)) + a3)) * (wrap64 ((wrap64 (a1 + a2)) + a3)))) - (wrap64 (2 * (wrap64 ((wrap64 ((wrap64 (a1 * a1)) + (wrap64 (a2 * a2)))) + (wrap64 (a3 * a3))))))))).bind fun t3 => some t3) : Option (Int)) = some (r0) := h
 clear h
 obtain ⟨t3,A4,H⟩:=Option.bind_eq_some_iff.mp H
 replace A4:=Aside0.mk A4;try dsimp only at H
 obtain rfl := Option.some.inj H
 go_enter Try.func166, Try.ntmps166
 refine wp_hide (fun Qf hQf => ?_)
 refine wp_seq_k fun K1 hK1=>wp_region_lit ?_
 refine wpp fun k h=>?_;go_simp;apply h;clear h k
 refine wpList_nil (hK1 _ _ ?_)
 refine wp_seq_k fun K2 hK2=>wp_region_lit ?_
 iterate 25 (refine wpp fun k h=>?_;go_simp;apply h;clear h k)
 refine step_call wn (by go_simp <;> rfl) (impl_rest.calls K a0 (wrap64 ((wrap64 ((wrap64 ((wrap64 (a1 + a2)) + a3)) * (wrap64 ((wrap64 (a1 + a2)) + a3)))) - (wrap64 (2 * (wrap64 ((wrap64 ((wrap64 (a1 * a1)) + (wrap64 (a2 * a2)))) + (wrap64 (a3 * a3)))))))) t3 w  A4.out) ?_
 rintro e w5 ⟨rfl, hu⟩
 have hu6 := Aside0.mk hu
 clear hu
 refine ⟨_, rfl, ?_⟩
 simp only[Act.put,nm1,nm2,nm3]
 refine wpp fun k h=>?_;go_simp;apply h;clear h k
 refine wpList_nil (hK2 _ _ ?_)
 refine wp_ret ?_
 refine hQf _ _ _ ?_
 exact bodyPost_ret (v := .int .i64 t3) (by first|rfl|simp [results, Try.results166, go_sem]<;>rfl) rfl ⟨rfl, hu6.out⟩

set_option maxHeartbeats 40000000 in
set_option maxRecDepth 100000 in
theorem impl_ArchimedesOf.calls (K : Nat) (a0 : Int) (a1 : Int) (a2 : Int) (a3 : Int) (r0 : Int) (r1 : Int) (w : World)  (h : impl_ArchimedesOf.f K a0 a1 a2 a3 = some (r0, r1)) :
    Calls Try.prog 63 #[.int .i64 a0, .int .i64 a1, .int .i64 a2, .int .i64 a3] w fun e w' => e = .returned (.tuple #[.int .i64 r0, .int .i64 r1]) ∧ Up w w' := by
 have H : (((impl_asked__impl_ArchimedesOf_1.f K a0 a0 a1 a2 a3).bind fun t16 => (if (t16 == 0) = true then ((impl_archimedes.f K a0 a1 a2 a3).bind fun t25 => some (t25, 0)) else some (0, t16))) : Option (Int × Int)) = some (r0, r1) := h
 clear h
 obtain ⟨t16,A17,H⟩:=Option.bind_eq_some_iff.mp H
 replace A17:=Aside0.mk A17;try dsimp only at H
 go_enter Try.func63, Try.ntmps63
 refine wp_hide (fun Qf hQf => ?_)
 refine wp_seq_k fun K1 hK1=>wp_region_lit ?_
 refine step_new (cs := [.int .i64 a0]) (T := 2) (f := fun b => .pointer (some ⟨b, 0, none⟩)) rfl (by go_simp <;> rfl) ?_
 intro b2 w3 hu lb hb2
 simp only[Act.put,nm1,nm2,nm3]
 have lbb2 := Aside0.mk lb
 have ltb2 := Aside0.mk hb2.lt
 clear lb
 have hu4 := Aside0.mk hu
 clear hu
 refine step_new (cs := [.int .i64 a1]) (T := 2) (f := fun b => .pointer (some ⟨b, 0, none⟩)) rfl (by go_simp <;> rfl) ?_
 intro b5 w6 hu lb hb5
 simp only[Act.put,nm1,nm2,nm3]
 have lbb5 := Aside0.mk lb
 have ltb5 := Aside0.mk hb5.lt
 clear lb
 have hu7 := Aside0.mk hu
 clear hu
 refine step_new (cs := [.int .i64 a2]) (T := 2) (f := fun b => .pointer (some ⟨b, 0, none⟩)) rfl (by go_simp <;> rfl) ?_
 intro b8 w9 hu lb hb8
 simp only[Act.put,nm1,nm2,nm3]
 have lbb8 := Aside0.mk lb
 have ltb8 := Aside0.mk hb8.lt
 clear lb
 have hu10 := Aside0.mk hu
 clear hu
 refine step_new (cs := [.int .i64 a3]) (T := 2) (f := fun b => .pointer (some ⟨b, 0, none⟩)) rfl (by go_simp <;> rfl) ?_
 intro b11 w12 hu lb hb11
 simp only[Act.put,nm1,nm2,nm3]
 have lbb11 := Aside0.mk lb
 have ltb11 := Aside0.mk hb11.lt
 clear lb
 have hu13 := Aside0.mk hu
 clear hu
 iterate 2 (refine wpp fun k h=>?_;go_simp;apply h;clear h k)
 refine wpList_nil (hK1 _ _ ?_)
 refine wp_seq_k fun K14 hK14=>?_
 refine wp_seq_k fun K15 hK15=>wp_region_lit ?_
 have cl0 := (hb2.up ((hu7.out.trans hu10.out).trans hu13.out)).cell (o := 0) rfl
 refine wpp fun k h=>?_;go_simp;apply h;clear h k
 clear cl0
 refine wpp fun k h=>?_;go_simp;apply h;clear h k
 refine step_call wn (by go_simp <;> rfl) (impl_asked__impl_ArchimedesOf_1.calls K a0 b2 a0 b5 a1 b8 a2 b11 a3 t16 w12 (hb2.up ((hu7.out.trans hu10.out).trans hu13.out)) (hb5.up (hu10.out.trans hu13.out)) (hb8.up hu13.out) hb11 A17.out) ?_
 rintro e w18 ⟨rfl, hu⟩
 have hu19 := Aside0.mk hu
 clear hu
 refine ⟨_, rfl, ?_⟩
 simp only[Act.put,nm1,nm2,nm3]
 refine wpp fun k h=>?_;go_simp;apply h;clear h k
 refine wpList_nil (hK15 _ _ ?_)
 refine wp_seq_k fun K20 hK20=>wp_region_lit ?_
 iterate 2 (refine wpp fun k h=>?_;go_simp;apply h;clear h k)
 refine wpList_nil (hK20 _ _ ?_)
 have hm22 := Aside0.mk ((((hu4.out.trans hu7.out).trans hu10.out).trans hu13.out).trans hu19.out)
 have h23 := (hb2.up (((hu7.out.trans hu10.out).trans hu13.out).trans hu19.out))
 by_cases c21 : (t16 == 0) = true
 rotate_left
 ·
  rw [if_neg c21] at H; replace c21 := Bool.eq_false_iff.mpr c21
  have c21n : (t16 != 0) = true := by rw [bne, c21]; rfl
  have c21p : ¬ t16 = 0 := fun e => by simp [e] at c21
  simp only [Option.some.injEq, Prod.mk.injEq] at H
  obtain ⟨rfl, rfl⟩ := H
  try simp only [c21, c21n, Bool.not_true, Bool.not_false]
  refine wp_cond_true rfl ?_
  refine wp_seq_k fun K29 hK29=>wp_region_lit ?_
  iterate 3 (refine wpp fun k h=>?_;go_simp;apply h;clear h k)
  refine wpList_nil (hK29 _ _ ?_)
  refine wp_ret ?_
  refine hQf _ _ _ ?_
  exact bodyPost_ret (v := .tuple #[.int .i64 0, .int .i64 t16]) (by first|rfl|simp [results, Try.results63, go_sem]<;>rfl) rfl ⟨rfl, hm22.out⟩
 rw [if_pos c21] at H
 have c21n : (t16 != 0) = false := by rw [bne, c21]; rfl
 obtain ⟨t25,A26,H⟩:=Option.bind_eq_some_iff.mp H
 replace A26:=Aside0.mk A26;try dsimp only at H
 simp only [Option.some.injEq, Prod.mk.injEq] at H
 obtain ⟨rfl, rfl⟩ := H
 try simp only [c21, c21n, Bool.not_true, Bool.not_false]
 refine wp_cond_false rfl ?_
 refine wp_skip ?_
 refine hK14 _ _ ?_
 refine wp_seq_k fun K24 hK24=>wp_region_lit ?_
 have cl0 := h23.cell (o := 0) rfl
 refine wpp fun k h=>?_;go_simp;apply h;clear h k
 clear cl0
 have cl0 := (hb5.up ((hu10.out.trans hu13.out).trans hu19.out)).cell (o := 0) rfl
 refine wpp fun k h=>?_;go_simp;apply h;clear h k
 clear cl0
 have cl0 := (hb8.up (hu13.out.trans hu19.out)).cell (o := 0) rfl
 refine wpp fun k h=>?_;go_simp;apply h;clear h k
 clear cl0
 have cl0 := (hb11.up hu19.out).cell (o := 0) rfl
 refine wpp fun k h=>?_;go_simp;apply h;clear h k
 clear cl0
 refine step_call wn (by go_simp <;> rfl) (impl_archimedes.calls K a0 a1 a2 a3 t25 w18  A26.out) ?_
 rintro e w27 ⟨rfl, hu⟩
 have hu28 := Aside0.mk hu
 clear hu
 refine ⟨_, rfl, ?_⟩
 simp only[Act.put,nm1,nm2,nm3]
 iterate 2 (refine wpp fun k h=>?_;go_simp;apply h;clear h k)
 refine wpList_nil (hK24 _ _ ?_)
 refine wp_ret ?_
 refine hQf _ _ _ ?_
 exact bodyPost_ret (v := .tuple #[.int .i64 t25, .int .i64 0]) (by first|rfl|simp [results, Try.results63, go_sem]<;>rfl) rfl ⟨rfl, (hm22.out.trans hu28.out)⟩

set_option maxHeartbeats 40000000 in
set_option maxRecDepth 100000 in
theorem spec_AreCyclic.calls (K : Nat) (a0 : Int) (a1 : Int) (a2_0 : Int) (a2_1 : Int) (a3_0 : Int) (a3_1 : Int) (a4_0 : Int) (a4_1 : Int) (a5_0 : Int) (a5_1 : Int) (r0 : Bool) (r1 : Int) (w : World)  (h : spec_AreCyclic.f K a0 a1 a2_0 a2_1 a3_0 a3_1 a4_0 a4_1 a5_0 a5_1 = some (r0, r1)) :
    Calls Try.prog 62 #[.int .i64 a0, .int .i64 a1, .agg #[.int .i64 a2_0, .int .i64 a2_1], .agg #[.int .i64 a3_0, .int .i64 a3_1], .agg #[.int .i64 a4_0, .int .i64 a4_1], .agg #[.int .i64 a5_0, .int .i64 a5_1]] w fun e w' => e = .returned (.tuple #[.bool r0, .int .i64 r1]) ∧ Up w w' := by
 have H : (((spec_l02Code.f K a0 a1 ([(a2_0, a2_1), (a3_0, a3_1), (a4_0, a4_1), (a5_0, a5_1)])).bind fun t18 => (if (t18 == 0) = true then ((spec_l04Code.f K a0 a1 a2_0 a2_1 a3_0 a3_1 a4_0 a4_1).bind fun t28 => (if (t28 == 0) = true then ((spec_l06Through.f K a0 a1 a2_0 a2_1 a3_0 a3_1 a4_0 a4_1).bind fun (t37, t38, t39) => ((spec_l06Power.f K a0 a1 t37 t38 t39 a5_0 a5_1).bind fun t41 => some (t41 == 0, 0))) else some (false, t28))) else some (false, t18))) : Option (Bool × Int)) = some (r0, r1) := h
 clear h
 obtain ⟨t18,A19,H⟩:=Option.bind_eq_some_iff.mp H
 replace A19:=Aside0.mk A19;try dsimp only at H
 go_enter Try.func62, Try.ntmps62
 refine wp_hide (fun Qf hQf => ?_)
 refine wp_seq_k fun K1 hK1=>wp_region_lit ?_
 refine step_new (cs := [.int .i64 a2_0, .int .i64 a2_1]) (T := 30) (f := fun b => .pointer (some ⟨b, 0, none⟩)) rfl (by go_simp <;> rfl) ?_
 intro b2 w3 hu lb hb2
 simp only[Act.put,nm1,nm2,nm3]
 have lbb2 := Aside0.mk lb
 have ltb2 := Aside0.mk hb2.lt
 clear lb
 have hu4 := Aside0.mk hu
 clear hu
 refine step_new (cs := [.int .i64 a3_0, .int .i64 a3_1]) (T := 30) (f := fun b => .pointer (some ⟨b, 0, none⟩)) rfl (by go_simp <;> rfl) ?_
 intro b5 w6 hu lb hb5
 simp only[Act.put,nm1,nm2,nm3]
 have lbb5 := Aside0.mk lb
 have ltb5 := Aside0.mk hb5.lt
 clear lb
 have hu7 := Aside0.mk hu
 clear hu
 refine step_new (cs := [.int .i64 a4_0, .int .i64 a4_1]) (T := 30) (f := fun b => .pointer (some ⟨b, 0, none⟩)) rfl (by go_simp <;> rfl) ?_
 intro b8 w9 hu lb hb8
 simp only[Act.put,nm1,nm2,nm3]
 have lbb8 := Aside0.mk lb
 have ltb8 := Aside0.mk hb8.lt
 clear lb
 have hu10 := Aside0.mk hu
 clear hu
 refine step_new (cs := [.int .i64 a5_0, .int .i64 a5_1]) (T := 30) (f := fun b => .pointer (some ⟨b, 0, none⟩)) rfl (by go_simp <;> rfl) ?_
 intro b11 w12 hu lb hb11
 simp only[Act.put,nm1,nm2,nm3]
 have lbb11 := Aside0.mk lb
 have ltb11 := Aside0.mk hb11.lt
 clear lb
 have hu13 := Aside0.mk hu
 clear hu
 iterate 2 (refine wpp fun k h=>?_;go_simp;apply h;clear h k)
 refine wpList_nil (hK1 _ _ ?_)
 refine wp_seq_k fun K14 hK14=>wp_region_lit ?_
 iterate 2 (refine wpp fun k h=>?_;go_simp;apply h;clear h k)
 have cl0 := (hb2.up ((hu7.out.trans hu10.out).trans hu13.out)).cell (o := 0) rfl
 have cl1 := (hb2.up ((hu7.out.trans hu10.out).trans hu13.out)).cell (o := 1) rfl
 refine wpp fun k h=>?_;go_simp;apply h;clear h k
 clear cl0 cl1
 have cl0 := (hb5.up (hu10.out.trans hu13.out)).cell (o := 0) rfl
 have cl1 := (hb5.up (hu10.out.trans hu13.out)).cell (o := 1) rfl
 refine wpp fun k h=>?_;go_simp;apply h;clear h k
 clear cl0 cl1
 have cl0 := (hb8.up hu13.out).cell (o := 0) rfl
 have cl1 := (hb8.up hu13.out).cell (o := 1) rfl
 refine wpp fun k h=>?_;go_simp;apply h;clear h k
 clear cl0 cl1
 have cl0 := hb11.cell (o := 0) rfl
 have cl1 := hb11.cell (o := 1) rfl
 refine wpp fun k h=>?_;go_simp;apply h;clear h k
 clear cl0 cl1
 refine step_new (cs := [.int .i64 a2_0, .int .i64 a2_1, .int .i64 a3_0, .int .i64 a3_1, .int .i64 a4_0, .int .i64 a4_1, .int .i64 a5_0, .int .i64 a5_1]) (T := 30) (f := fun b => .slice (some ⟨b, 0, none⟩) 4 4) rfl (by go_simp <;> rfl) ?_
 intro b15 w16 hu lb hb15
 simp only[Act.put,nm1,nm2,nm3]
 have lbb15 := Aside0.mk lb
 have ltb15 := Aside0.mk hb15.lt
 clear lb
 have hu17 := Aside0.mk hu
 clear hu
 refine step_call wn (by go_simp <;> rfl) (spec_l02Code.calls K a0 a1 (some ⟨b15, 0, none⟩) 4 ([(a2_0, a2_1), (a3_0, a3_1), (a4_0, a4_1), (a5_0, a5_1)]) t18 w16 (Rd.of_blk (E := e2) (xs := [(a2_0, a2_1), (a3_0, a3_1), (a4_0, a4_1), (a5_0, a5_1)]) (o := 0) hb15 (by simp) (fun j u hu => by rcases j with _ | _ | _ | _ | _ | _ | _ | _ | j <;> simp_all [Enc.flat, e2])) A19.out) ?_
 rintro e w20 ⟨rfl, hu⟩
 have hu21 := Aside0.mk hu
 clear hu
 refine ⟨_, rfl, ?_⟩
 simp only[Act.put,nm1,nm2,nm3]
 refine wpp fun k h=>?_;go_simp;apply h;clear h k
 refine wpList_nil (hK14 _ _ ?_)
 refine wp_seq_k fun K22 hK22=>?_
 refine wp_seq_k fun K23 hK23=>wp_region_lit ?_
 iterate 2 (refine wpp fun k h=>?_;go_simp;apply h;clear h k)
 refine wpList_nil (hK23 _ _ ?_)
 have hm25 := Aside0.mk (((((hu4.out.trans hu7.out).trans hu10.out).trans hu13.out).trans hu17.out).trans hu21.out)
 have h26 := (hb2.up ((((hu7.out.trans hu10.out).trans hu13.out).trans hu17.out).trans hu21.out))
 have h27 := (hb5.up (((hu10.out.trans hu13.out).trans hu17.out).trans hu21.out))
 by_cases c24 : (t18 == 0) = true
 rotate_left
 ·
  rw [if_neg c24] at H; replace c24 := Bool.eq_false_iff.mpr c24
  have c24n : (t18 != 0) = true := by rw [bne, c24]; rfl
  have c24p : ¬ t18 = 0 := fun e => by simp [e] at c24
  simp only [Option.some.injEq, Prod.mk.injEq] at H
  obtain ⟨rfl, rfl⟩ := H
  try simp only [c24, c24n, Bool.not_true, Bool.not_false]
  refine wp_cond_false rfl ?_
  refine wp_skip ?_
  refine hK22 _ _ ?_
  refine wp_seq_k fun K46 hK46=>?_
  refine wp_seq_k fun K47 hK47=>wp_region_lit ?_
  iterate 2 (refine wpp fun k h=>?_;go_simp;apply h;clear h k)
  refine wpList_nil (hK47 _ _ ?_)
  refine wp_cond_true rfl ?_
  refine wp_seq_k fun K48 hK48=>wp_region_lit ?_
  iterate 3 (refine wpp fun k h=>?_;go_simp;apply h;clear h k)
  refine wpList_nil (hK48 _ _ ?_)
  refine wp_ret ?_
  refine hQf _ _ _ ?_
  exact bodyPost_ret (v := .tuple #[.bool false, .int .i64 t18]) (by first|rfl|simp [results, Try.results62, go_sem]<;>rfl) rfl ⟨rfl, hm25.out⟩
 rw [if_pos c24] at H
 have c24n : (t18 != 0) = false := by rw [bne, c24]; rfl
 obtain ⟨t28,A29,H⟩:=Option.bind_eq_some_iff.mp H
 replace A29:=Aside0.mk A29;try dsimp only at H
 try simp only [c24, c24n, Bool.not_true, Bool.not_false]
 refine wp_cond_true rfl ?_
 refine wp_region_lit ?_
 iterate 2 (refine wpp fun k h=>?_;go_simp;apply h;clear h k)
 have cl0 := h26.cell (o := 0) rfl
 have cl1 := h26.cell (o := 1) rfl
 refine wpp fun k h=>?_;go_simp;apply h;clear h k
 clear cl0 cl1
 have cl0 := h27.cell (o := 0) rfl
 have cl1 := h27.cell (o := 1) rfl
 refine wpp fun k h=>?_;go_simp;apply h;clear h k
 clear cl0 cl1
 have cl0 := (hb8.up ((hu13.out.trans hu17.out).trans hu21.out)).cell (o := 0) rfl
 have cl1 := (hb8.up ((hu13.out.trans hu17.out).trans hu21.out)).cell (o := 1) rfl
 refine wpp fun k h=>?_;go_simp;apply h;clear h k
 clear cl0 cl1
 refine step_call wn (by go_simp <;> rfl) (spec_l04Code.calls K a0 a1 a2_0 a2_1 a3_0 a3_1 a4_0 a4_1 t28 w20  A29.out) ?_
 rintro e w30 ⟨rfl, hu⟩
 have hu31 := Aside0.mk hu
 clear hu
 refine ⟨_, rfl, ?_⟩
 simp only[Act.put,nm1,nm2,nm3]
 refine wpp fun k h=>?_;go_simp;apply h;clear h k
 refine wpList_nil (hK22 _ _ ?_)
 refine wp_seq_k fun K32 hK32=>?_
 refine wp_seq_k fun K33 hK33=>wp_region_lit ?_
 iterate 2 (refine wpp fun k h=>?_;go_simp;apply h;clear h k)
 refine wpList_nil (hK33 _ _ ?_)
 have h35 := (hb8.up (((hu13.out.trans hu17.out).trans hu21.out).trans hu31.out))
 by_cases c34 : (t28 == 0) = true
 rotate_left
 ·
  rw [if_neg c34] at H; replace c34 := Bool.eq_false_iff.mpr c34
  have c34n : (t28 != 0) = true := by rw [bne, c34]; rfl
  have c34p : ¬ t28 = 0 := fun e => by simp [e] at c34
  simp only [Option.some.injEq, Prod.mk.injEq] at H
  obtain ⟨rfl, rfl⟩ := H
  try simp only [c34, c34n, Bool.not_true, Bool.not_false]
  refine wp_cond_true rfl ?_
  refine wp_seq_k fun K45 hK45=>wp_region_lit ?_
  iterate 3 (refine wpp fun k h=>?_;go_simp;apply h;clear h k)
  refine wpList_nil (hK45 _ _ ?_)
  refine wp_ret ?_
  refine hQf _ _ _ ?_
  exact bodyPost_ret (v := .tuple #[.bool false, .int .i64 t28]) (by first|rfl|simp [results, Try.results62, go_sem]<;>rfl) rfl ⟨rfl, (hm25.out.trans hu31.out)⟩
 rw [if_pos c34] at H
 have c34n : (t28 != 0) = false := by rw [bne, c34]; rfl
 obtain ⟨⟨t37, t38, t39⟩,A40,H⟩:=Option.bind_eq_some_iff.mp H
 replace A40:=Aside0.mk A40;try dsimp only at H
 obtain ⟨t41,A42,H⟩:=Option.bind_eq_some_iff.mp H
 replace A42:=Aside0.mk A42;try dsimp only at H
 simp only [Option.some.injEq, Prod.mk.injEq] at H
 obtain ⟨rfl, rfl⟩ := H
 try simp only [c34, c34n, Bool.not_true, Bool.not_false]
 refine wp_cond_false rfl ?_
 refine wp_skip ?_
 refine hK32 _ _ ?_
 refine wp_seq_k fun K36 hK36=>?_
 refine' wp_region_up 11 [Slot.det _, Slot.det _, Slot.det _, Slot.det _, Slot.det _, Slot.det _, Slot.det _, Slot.det (.agg #[.int .i64 t37, .int .i64 t38, .int .i64 t39]), Slot.det _, Slot.det (.int .i64 t41), Slot.det _] (by kernel_rfl) (by kernel_rfl) ?main
 case main =>
  simp only [List.take_succ_cons, List.take_zero]
  refine wpK_ops rfl (fun w1 hu => ?_) ?_
  · clear hu
    go_simp
    first | done | rfl
  simp only[Act.put,nm1,nm2,nm3]
  refine wpK_ops rfl (fun w1 hu => ?_) ?_
  · clear hu
    go_simp
    first | done | rfl
  simp only[Act.put,nm1,nm2,nm3]
  refine wpK_ops rfl (fun w1 hu => ?_) ?_
  · clear hu
    go_simp
    first | done | rfl
  simp only[Act.put,nm1,nm2,nm3]
  refine wpK_ops rfl (fun w1 hu => ?_) ?_
  · clear hu
    go_simp
    first | done | rfl
  simp only[Act.put,nm1,nm2,nm3]
  refine wpK_ops rfl (fun w1 hu => ?_) ?_
  · have cl0 := ((h26.up hu31.out).up ((Up.refl _).drew.trans hu)).cell (o := 0) rfl
    have cl1 := ((h26.up hu31.out).up ((Up.refl _).drew.trans hu)).cell (o := 1) rfl
    go_simp
    first | done | rfl
  simp only[Act.put,nm1,nm2,nm3]
  refine wpK_ops rfl (fun w1 hu => ?_) ?_
  · have cl0 := ((h27.up hu31.out).up ((Up.refl _).drew.trans hu)).cell (o := 0) rfl
    have cl1 := ((h27.up hu31.out).up ((Up.refl _).drew.trans hu)).cell (o := 1) rfl
    go_simp
    first | done | rfl
  simp only[Act.put,nm1,nm2,nm3]
  refine wpK_ops rfl (fun w1 hu => ?_) ?_
  · have cl0 := (h35.up ((Up.refl _).drew.trans hu)).cell (o := 0) rfl
    have cl1 := (h35.up ((Up.refl _).drew.trans hu)).cell (o := 1) rfl
    go_simp
    first | done | rfl
  simp only[Act.put,nm1,nm2,nm3]
  refine wpK_ops rfl (fun w1 hu => ?_) ?_
  · have hcl := (spec_l06Through.calls K a0 a1 a2_0 a2_1 a3_0 a3_1 a4_0 a4_1 t37 t38 t39 w1  A40.out)
    clear hu
    replace hcl := Aside0.mk hcl
    go_simp
    exact hcl.out
  simp only[Act.put,nm1,nm2,nm3]
  refine wpK_ops rfl (fun w1 hu => ?_) ?_
  · have cl0 := ((hb11.up ((hu17.out.trans hu21.out).trans hu31.out)).up ((Up.refl _).drew.trans hu)).cell (o := 0) rfl
    have cl1 := ((hb11.up ((hu17.out.trans hu21.out).trans hu31.out)).up ((Up.refl _).drew.trans hu)).cell (o := 1) rfl
    go_simp
    first | done | rfl
  simp only[Act.put,nm1,nm2,nm3]
  refine wpK_ops rfl (fun w1 hu => ?_) ?_
  · have hcl := (spec_l06Power.calls K a0 a1 t37 t38 t39 a5_0 a5_1 t41 w1  A42.out)
    clear hu
    replace hcl := Aside0.mk hcl
    go_simp
    exact hcl.out
  simp only[Act.put,nm1,nm2,nm3]
  refine wpK_ops rfl (fun w1 hu => ?_) ?_
  · clear hu
    go_simp
    first | done | rfl
  simp only[Act.put,nm1,nm2,nm3]
  refine wpK_nil ?_
  intro w43 hu hap
  simp only [List.drop_succ_cons, List.drop_zero]
  replace hu := (Up.refl _).drew.trans hu
  clear hap
  have hu44 := Aside0.mk hu
  clear hu
  iterate 2 (refine wpp fun k h=>?_;go_simp;apply h;clear h k)
  refine wpList_nil (hK36 _ _ ?_)
  refine wp_ret ?_
  refine hQf _ _ _ ?_
  exact bodyPost_ret (v := .tuple #[.bool (t41 == 0), .int .i64 0]) (by first|rfl|simp [results, Try.results62, go_sem]<;>rfl) rfl ⟨rfl, ((hm25.out.trans hu31.out).trans hu44.out)⟩

end Go.Proofs.Ytccbmdpikalpfaa
