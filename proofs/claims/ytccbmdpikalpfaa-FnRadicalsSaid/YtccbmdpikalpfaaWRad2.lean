/- The walks: each of these functions of the program computes what its plain function says: spec_l06Is, spec_l06Code, spec_l01Mod, spec_l01Minus, spec_l02Product, spec_l02Quadrance, spec_l01Inverse, spec_l01Normal, spec_l06Radical, spec_RadicalLine, impl_MeetCircles_1, impl_asked__impl_MeetCircles_1, impl_allPoints, impl_MeetCircles_2, impl_pointsWith__impl_MeetCircles_2, impl_MeetCircles, spec_l02At, spec_l06Power, spec_MeetCircles, laws_points9, spec_DrawRadicalCentre, impl_RadicalCentre_1, impl_asked__impl_RadicalCentre_1, impl_area, impl_RadicalCentre, spec_l01Area. -/
import Derived.Test.YtccbmdpikalpfaaProg
import Derived.Test.YtccbmdpikalpfaaD1
import Derived.WalkKit
import Derived.KernelRfl
import Derived.BigQuiet
import Derived.Deep.LoopGhost
import Derived.Laws.StructEq
import Derived.Test.YtccbmdpikalpfaaWRad1
namespace Go.Proofs.Ytccbmdpikalpfaa
open Go Go.RowKit
attribute [local go_sem] Oper.quiet Oper.quietAt Oper.quietUpon Act.put nm1 nm2 nm3 i64_w run_max2 run_min2 mkT_getD mkT_get mkT_set lookT_cons lookT_nil
attribute [local irreducible] wpList
set_option linter.unusedVariables false
set_option linter.unusedSimpArgs false
attribute [local go_sem] eqT30
attribute [local go_sem] eqT34

set_option maxHeartbeats 40000000 in
set_option maxRecDepth 100000 in
theorem spec_l06Is.calls (K : Nat) (a0 : Int) (a1_0 : Int) (a1_1 : Int) (a1_2 : Int) (r0 : Bool) (w : World)  (h : spec_l06Is.f K a0 a1_0 a1_1 a1_2 = some (r0)) :
    Calls Try.prog 193 #[.int .i64 a0, .agg #[.int .i64 a1_0, .int .i64 a1_1, .int .i64 a1_2]] w fun e w' => e = .returned (.bool r0) ∧ Up w w' := by
 have H : (((spec_l01Point.f K a0 a1_0 a1_1).bind fun t6 => (if t6 = true then ((spec_l01In.f K a1_2 0 (wrap64 (a0 - 1))).bind fun t11 => some t11) else some false)) : Option (Bool)) = some (r0) := h
 clear h
 obtain ⟨t6,A7,H⟩:=Option.bind_eq_some_iff.mp H
 replace A7:=Aside0.mk A7;try dsimp only at H
 go_enter Try.func193, Try.ntmps193
 refine wp_hide (fun Qf hQf => ?_)
 refine wp_seq_k fun K1 hK1=>wp_region_lit ?_
 refine step_new (cs := [.int .i64 a1_0, .int .i64 a1_1, .int .i64 a1_2]) (T := 71) (f := fun b => .pointer (some ⟨b, 0, none⟩)) rfl (by go_simp <;> rfl) ?_
 intro b2 w3 hu lb hb2
 simp only[Act.put,nm1,nm2,nm3]
 have lbb2 := Aside0.mk lb
 have ltb2 := Aside0.mk hb2.lt
 clear lb
 have hu4 := Aside0.mk hu
 clear hu
 refine wpp fun k h=>?_;go_simp;apply h;clear h k
 refine wpList_nil (hK1 _ _ ?_)
 refine wp_seq_k fun K5 hK5=>wp_region_lit ?_
 iterate 2 (refine wpp fun k h=>?_;go_simp;apply h;clear h k)
 have cl0 := hb2.cell (o := 0) rfl
 have cl1 := hb2.cell (o := 1) rfl
 refine wpp fun k h=>?_;go_simp;apply h;clear h k
 clear cl0 cl1
 refine step_call wn (by go_simp <;> rfl) (spec_l01Point.calls K a0 a1_0 a1_1 t6 w3  A7.out) ?_
 rintro e w8 ⟨rfl, hu⟩
 have hu9 := Aside0.mk hu
 clear hu
 refine ⟨_, rfl, ?_⟩
 simp only[Act.put,nm1,nm2,nm3]
 refine wpp fun k h=>?_;go_simp;apply h;clear h k
 by_cases c10 : (t6) = true
 rotate_left
 ·
  rw [if_neg c10] at H; replace c10 := Bool.eq_false_iff.mpr c10
  subst c10
  obtain rfl := Option.some.inj H
  refine step_no rfl ?_
  simp only[Act.put,nm1,nm2,nm3]
  refine step_no rfl ?_
  simp only[Act.put,nm1,nm2,nm3]
  refine step_no rfl ?_
  simp only[Act.put,nm1,nm2,nm3]
  refine step_no rfl ?_
  simp only[Act.put,nm1,nm2,nm3]
  refine step_no rfl ?_
  simp only[Act.put,nm1,nm2,nm3]
  iterate 2 (refine wpp fun k h=>?_;go_simp;apply h;clear h k)
  refine wpList_nil (hK5 _ _ ?_)
  refine wp_ret ?_
  refine hQf _ _ _ ?_
  exact bodyPost_ret (v := .bool false) (by first|rfl|simp [results, Try.results193, go_sem]<;>rfl) rfl ⟨rfl, (hu4.out.trans hu9.out)⟩
 rw [if_pos c10] at H
 subst c10
 obtain ⟨t11,A12,H⟩:=Option.bind_eq_some_iff.mp H
 replace A12:=Aside0.mk A12;try dsimp only at H
 obtain rfl := Option.some.inj H
 refine wpList_step fun k h=>?_;go_simp;apply h;clear h k
 have cl0 := (hb2.up hu9.out).cell (o := 2) rfl
 refine wpList_step fun k h=>?_;go_simp;apply h;clear h k
 clear cl0
 refine wpList_step fun k h=>?_;go_simp;apply h;clear h k
 refine wpList_step fun k h=>?_;go_simp;apply h;clear h k
 refine step_call rfl (by go_simp <;> rfl) (spec_l01In.calls K a1_2 0 (wrap64 (a0 - 1)) t11 w8  A12.out) ?_
 rintro e w13 ⟨rfl, hu⟩
 have hu14 := Aside0.mk hu
 clear hu
 refine ⟨_, rfl, ?_⟩
 simp only[Act.put,nm1,nm2,nm3]
 iterate 2 (refine wpp fun k h=>?_;go_simp;apply h;clear h k)
 refine wpList_nil (hK5 _ _ ?_)
 refine wp_ret ?_
 refine hQf _ _ _ ?_
 exact bodyPost_ret (v := .bool t11) (by first|rfl|simp [results, Try.results193, go_sem]<;>rfl) rfl ⟨rfl, ((hu4.out.trans hu9.out).trans hu14.out)⟩

set_option maxHeartbeats 40000000 in
set_option maxRecDepth 100000 in
theorem spec_l06Code.calls (K : Nat) (a0 : Int) (a1 : Int) (a2_A : Option Addr) (a2_c : Nat) (a2 : List (Int × Int × Int)) (r0 : Int) (w : World) (ha2 : Rd e3 w a2_A a2) (h : spec_l06Code.f K a0 a1 a2 = some (r0)) :
    Calls Try.prog 146 #[.int .i64 a0, .int .i64 a1, .slice a2_A a2.length a2_c] w fun e w' => e = .returned (.int .i64 r0) ∧ Up w w' := by
 have H : (((spec_l02Code.f K a0 a1 ([])).bind fun t3 => (spec_l06Code.l0 K a0 a2 K t3 0)) : Option (Int)) = some (r0) := h
 clear h
 obtain ⟨t3,A4,H⟩:=Option.bind_eq_some_iff.mp H
 replace A4:=Aside0.mk A4;try dsimp only at H
 go_enter Try.func146, Try.ntmps146
 refine wp_hide (fun Qf hQf => ?_)
 refine wp_seq_k fun K1 hK1=>wp_region_lit ?_
 refine wpp fun k h=>?_;go_simp;apply h;clear h k
 refine wpList_nil (hK1 _ _ ?_)
 refine wp_seq_k fun K2 hK2=>wp_region_lit ?_
 iterate 2 (refine wpp fun k h=>?_;go_simp;apply h;clear h k)
 refine step_call wn (by go_simp <;> rfl) (spec_l02Code.calls K a0 a1 none 0 ([]) t3 w (Rd.nil) A4.out) ?_
 rintro e w5 ⟨rfl, hu⟩
 have hu6 := Aside0.mk hu
 clear hu
 refine ⟨_, rfl, ?_⟩
 simp only[Act.put,nm1,nm2,nm3]
 refine wpp fun k h=>?_;go_simp;apply h;clear h k
 refine wpList_nil (hK2 _ _ ?_)
 refine wp_seq_k fun K7 hK7=>?_
 refine wp_seq_k fun K8 hK8=>wp_region_lit ?_
 refine wpp fun k h=>?_;go_simp;apply h;clear h k
 refine wpList_nil (hK8 _ _ ?_)
 refine wp_block ?_
 have HL14 := Aside0.mk H
 clear H
 go_loopg [7, 8] K (fun kq v7 v8 w' => ∃ (x9 : Int) (x10 : Int), v7 = .int .i64 x9 ∧ v8 = .int .i64 x10 ∧ Aside0 (spec_l06Code.l0 K a0 a2 kq x9 x10 = some (r0)) ∧ Aside0 (kq ≤ K) ∧ Aside0 (Up w5 w') ∧ Aside0 (w5.heap.size ≤ w'.heap.size))
 case atStart => exact ⟨t3, 0, (by first | rfl | simp), (by first | rfl | simp), HL14, ⟨Nat.le_refl _⟩, ⟨(Up.refl _)⟩, ⟨Nat.le_refl _⟩⟩
 case round =>
  rename_i J17 K18 hJ17 hK18
  obtain ⟨x9, x10, rfl, rfl, HL19, hk16, hu12, hz13⟩ := hrel
  obtain ⟨w11, rfl⟩ : ∃ wo : World, wo = wr := ⟨_, rfl⟩
  obtain ⟨k15, rfl⟩ | rfl : (∃ k, gk = k + 1) ∨ gk = 0 := by rcases gk with _ | k; exact .inr rfl; exact .inl ⟨k, rfl⟩
  case inr => exact absurd HL19.out (by simp [spec_l06Code.l0])
  have H := HL19.out
  clear HL19
  rw [spec_l06Code.l0] at H
  refine wp_seq_k fun K20 hK20=>?_
  refine wp_seq_k fun K21 hK21=>wp_region_lit ?_
  iterate 5 (refine wpp fun k h=>?_;go_simp;apply h;clear h k)
  by_cases c22 : (decide (x10 < (a2.length : Int))) = true
  rotate_left
  ·
   rw [if_neg c22] at H; replace c22 := Bool.eq_false_iff.mpr c22
   obtain rfl := Option.some.inj H
   try simp only [c22, Bool.not_true, Bool.not_false]
   refine step_no rfl ?_
   simp only[Act.put,nm1,nm2,nm3]
   refine step_no rfl ?_
   simp only[Act.put,nm1,nm2,nm3]
   refine wpp fun k h=>?_;go_simp;apply h;clear h k
   refine wpList_nil (hK21 _ _ ?_)
   refine wp_cond_false rfl ?_
   refine wp_exit ?_
   refine hK7 _ _ ?_
   refine wp_seq_k fun K41 hK41=>wp_region_lit ?_
   iterate 2 (refine wpp fun k h=>?_;go_simp;apply h;clear h k)
   refine wpList_nil (hK41 _ _ ?_)
   refine wp_ret ?_
   refine hQf _ _ _ ?_
   exact bodyPost_ret (v := .int .i64 x9) (by first|rfl|simp [results, Try.results146, go_sem]<;>rfl) rfl ⟨rfl, (hu6.out.trans hu12.out)⟩
  rw [if_pos c22] at H
  try simp only [c22, Bool.not_true, Bool.not_false]
  refine wpList_step fun k h=>?_;go_simp;apply h;clear h k
  refine wpList_step fun k h=>?_;go_simp;apply h;clear h k
  refine wpp fun k h=>?_;go_simp;apply h;clear h k
  refine wpList_nil (hK21 _ _ ?_)
  by_cases c23 : (x9 == 0) = true
  rotate_left
  ·
   rw [if_neg c23] at H; replace c23 := Bool.eq_false_iff.mpr c23
   have c23n : (x9 != 0) = true := by rw [bne, c23]; rfl
   have c23p : ¬ x9 = 0 := fun e => by simp [e] at c23
   obtain rfl := Option.some.inj H
   try simp only [c23, c23n, Bool.not_true, Bool.not_false]
   refine wp_cond_false rfl ?_
   refine wp_exit ?_
   refine hK7 _ _ ?_
   refine wp_seq_k fun K40 hK40=>wp_region_lit ?_
   iterate 2 (refine wpp fun k h=>?_;go_simp;apply h;clear h k)
   refine wpList_nil (hK40 _ _ ?_)
   refine wp_ret ?_
   refine hQf _ _ _ ?_
   exact bodyPost_ret (v := .int .i64 x9) (by first|rfl|simp [results, Try.results146, go_sem]<;>rfl) rfl ⟨rfl, (hu6.out.trans hu12.out)⟩
  rw [if_pos c23] at H
  have c23n : (x9 != 0) = false := by rw [bne, c23]; rfl
  obtain ⟨⟨t26, t27, t28⟩,A29,H⟩:=Option.bind_eq_some_iff.mp H
  replace A29:=Aside0.mk A29;try dsimp only at H
  obtain ⟨t33,A34,H⟩:=Option.bind_eq_some_iff.mp H
  replace A34:=Aside0.mk A34;try dsimp only at H
  try simp only [c23, c23n, Bool.not_true, Bool.not_false]
  refine wp_cond_true rfl ?_
  refine wp_skip ?_
  refine hK20 _ _ ?_
  refine wp_seq_k fun K24 hK24=>?_
  refine wp_block ?_
  refine wp_seq_k fun K25 hK25=>wp_region_lit ?_
  iterate 3 (refine wpp fun k h=>?_;go_simp;apply h;clear h k)
  refine step_index e3 (T := 71) wn rfl (by kernel_rfl) (by kernel_rfl) rfl rfl rfl (ha2.up (hu6.out.trans hu12.out)) A29.out ?_
  intro ad30 hat he
  have he31 := Aside0.mk he
  have hat32 := Aside0.mk hat
  clear he hat
  simp only[Act.put,nm1,nm2,nm3]
  have cl0 := he31.out 0 _ rfl
  rw [addr_add0] at cl0
  have cl1 : World.cell? _ ⟨ad30.block, ad30.off + 1, none⟩ = some _ := he31.out 1 _ rfl
  have cl2 : World.cell? _ ⟨ad30.block, ad30.off + 2, none⟩ = some _ := he31.out 2 _ rfl
  refine wpp fun k h=>?_;go_simp;apply h;clear h k
  clear cl0 cl1 cl2
  refine step_call wn (by go_simp <;> rfl) (spec_l06Is.calls K a0 t26 t27 t28 t33 w11  A34.out) ?_
  rintro e w35 ⟨rfl, hu⟩
  have hu36 := Aside0.mk hu
  clear hu
  refine ⟨_, rfl, ?_⟩
  simp only[Act.put,nm1,nm2,nm3]
  refine wpp fun k h=>?_;go_simp;apply h;clear h k
  refine wpList_nil (hK25 _ _ ?_)
  by_cases c37 : (t33) = true
  ·
   rw [if_pos c37] at H
   subst c37
   have HL38 := Aside0.mk H
   clear H
   refine wp_cond_false rfl ?_
   refine wp_skip ?_
   refine hK24 _ _ ?_
   refine wp_region_lit ?_
   iterate 3 (refine wpp fun k h=>?_;go_simp;apply h;clear h k)
   refine wpList_nil (hK18 _ _ ?_)
   go_roundg k15
   case measure => exact Nat.lt_succ_self _
   case rel => exact ⟨x9, wrap64 (x10 + 1), (by first | rfl | simp), (by first | rfl | simp), HL38, ⟨by have := hk16.out; omega⟩, ⟨(hu12.out.trans hu36.out)⟩, ⟨(Nat.le_trans ((Nat.le_trans (Nat.le_refl _) hz13.out)) hu36.out.size)⟩⟩
  rw [if_neg c37] at H; replace c37 := Bool.eq_false_iff.mpr c37
  subst c37
  have HL39 := Aside0.mk H
  clear H
  refine wp_cond_true rfl ?_
  refine wp_region_lit ?_
  refine wpp fun k h=>?_;go_simp;apply h;clear h k
  refine wpList_nil (hK24 _ _ ?_)
  refine wp_region_lit ?_
  iterate 3 (refine wpp fun k h=>?_;go_simp;apply h;clear h k)
  refine wpList_nil (hK18 _ _ ?_)
  go_roundg k15
  case measure => exact Nat.lt_succ_self _
  case rel => exact ⟨2, wrap64 (x10 + 1), (by first | rfl | simp), (by first | rfl | simp), HL39, ⟨by have := hk16.out; omega⟩, ⟨(hu12.out.trans hu36.out)⟩, ⟨(Nat.le_trans ((Nat.le_trans (Nat.le_refl _) hz13.out)) hu36.out.size)⟩⟩

set_option maxHeartbeats 40000000 in
set_option maxRecDepth 100000 in
theorem spec_l01Mod.calls (K : Nat) (a0 : Int) (a1 : Int) (r0 : Int) (w : World)  (h : spec_l01Mod.f K a0 a1 = some (r0)) :
    Calls Try.prog 111 #[.int .i64 a0, .int .i64 a1] w fun e w' => e = .returned (.int .i64 r0) ∧ Up w w' := by
 have H : ((if (a1 == 0) = true then none else some (Int.tmod (wrap64 ((Int.tmod a0 a1) + a1)) a1)) : Option (Int)) = some (r0) := h
 clear h
 go_enter Try.func111, Try.ntmps111
 refine wp_hide (fun Qf hQf => ?_)
 refine wp_seq_k fun K1 hK1=>wp_region_lit ?_
 refine wpp fun k h=>?_;go_simp;apply h;clear h k
 refine wpList_nil (hK1 _ _ ?_)
 refine wp_seq_k fun K2 hK2=>wp_region_lit ?_
 iterate 2 (refine wpp fun k h=>?_;go_simp;apply h;clear h k)
 by_cases c3 : (a1 == 0) = true
 ·
  rw [if_pos c3] at H
  have c3n : (a1 != 0) = false := by rw [bne, c3]; rfl
  exact absurd H (by simp)
 rw [if_neg c3] at H; replace c3 := Bool.eq_false_iff.mpr c3
 have c3n : (a1 != 0) = true := by rw [bne, c3]; rfl
 have c3p : ¬ a1 = 0 := fun e => by simp [e] at c3
 obtain rfl := Option.some.inj H
 try simp only [c3, c3n, Bool.not_true, Bool.not_false]
 iterate 6 (refine wpp fun k h=>?_;go_simp;apply h;clear h k)
 refine wpList_nil (hK2 _ _ ?_)
 refine wp_ret ?_
 refine hQf _ _ _ ?_
 exact bodyPost_ret (v := .int .i64 (Int.tmod (wrap64 ((Int.tmod a0 a1) + a1)) a1)) (by first|rfl|simp [results, Try.results111, go_sem]<;>rfl) rfl ⟨rfl, (Up.refl _)⟩

set_option maxHeartbeats 40000000 in
set_option maxRecDepth 100000 in
theorem spec_l01Minus.calls (K : Nat) (a0 : Int) (a1_0 : Int) (a1_1 : Int) (a2_0 : Int) (a2_1 : Int) (r0 : Int) (r1 : Int) (w : World)  (h : spec_l01Minus.f K a0 a1_0 a1_1 a2_0 a2_1 = some (r0, r1)) :
    Calls Try.prog 185 #[.int .i64 a0, .agg #[.int .i64 a1_0, .int .i64 a1_1], .agg #[.int .i64 a2_0, .int .i64 a2_1]] w fun e w' => e = .returned (.agg #[.int .i64 r0, .int .i64 r1]) ∧ Up w w' := by
 have H : (((spec_l01Mod.f K (wrap64 (a1_0 - a2_0)) a0).bind fun t12 => ((spec_l01Mod.f K (wrap64 (a1_1 - a2_1)) a0).bind fun t14 => some (t12, t14))) : Option (Int × Int)) = some (r0, r1) := h
 clear h
 obtain ⟨t12,A13,H⟩:=Option.bind_eq_some_iff.mp H
 replace A13:=Aside0.mk A13;try dsimp only at H
 obtain ⟨t14,A15,H⟩:=Option.bind_eq_some_iff.mp H
 replace A15:=Aside0.mk A15;try dsimp only at H
 simp only [Option.some.injEq, Prod.mk.injEq] at H
 obtain ⟨rfl, rfl⟩ := H
 go_enter Try.func185, Try.ntmps185
 refine wp_hide (fun Qf hQf => ?_)
 refine wp_seq_k fun K1 hK1=>wp_region_lit ?_
 refine step_new (cs := [.int .i64 a1_0, .int .i64 a1_1]) (T := 30) (f := fun b => .pointer (some ⟨b, 0, none⟩)) rfl (by go_simp <;> rfl) ?_
 intro b2 w3 hu lb hb2
 simp only[Act.put,nm1,nm2,nm3]
 have lbb2 := Aside0.mk lb
 have ltb2 := Aside0.mk hb2.lt
 clear lb
 have hu4 := Aside0.mk hu
 clear hu
 refine step_new (cs := [.int .i64 a2_0, .int .i64 a2_1]) (T := 30) (f := fun b => .pointer (some ⟨b, 0, none⟩)) rfl (by go_simp <;> rfl) ?_
 intro b5 w6 hu lb hb5
 simp only[Act.put,nm1,nm2,nm3]
 have lbb5 := Aside0.mk lb
 have ltb5 := Aside0.mk hb5.lt
 clear lb
 have hu7 := Aside0.mk hu
 clear hu
 refine step_new (cs := [.int .i64 0, .int .i64 0]) (T := 30) (f := fun b => .pointer (some ⟨b, 0, none⟩)) rfl (by go_simp <;> rfl) ?_
 intro b8 w9 hu lb hb8
 simp only[Act.put,nm1,nm2,nm3]
 have lbb8 := Aside0.mk lb
 have ltb8 := Aside0.mk hb8.lt
 clear lb
 have hu10 := Aside0.mk hu
 clear hu
 refine wpList_nil (hK1 _ _ ?_)
 refine wp_seq_k fun K11 hK11=>?_
 refine' wp_region_up 15 [Slot.det _, Slot.det _, Slot.det _, Slot.det _, Slot.det _, Slot.det _, Slot.det (.int .i64 t12), Slot.det _, Slot.det _, Slot.det _, Slot.det _, Slot.det _, Slot.det _, Slot.det (.int .i64 t14), Slot.det _] (by kernel_rfl) (by kernel_rfl) ?main
 case main =>
  simp only [List.take_succ_cons, List.take_zero]
  refine wpK_ops rfl (fun w1 hu => ?_) ?_
  · clear hu
    go_simp
    first | done | rfl
  simp only[Act.put,nm1,nm2,nm3]
  refine wpK_ops rfl (fun w1 hu => ?_) ?_
  · have cl0 := ((hb2.up (hu7.out.trans hu10.out)).up ((Up.refl _).drew.trans hu)).cell (o := 0) rfl
    go_simp
    first | done | rfl
  simp only[Act.put,nm1,nm2,nm3]
  refine wpK_ops rfl (fun w1 hu => ?_) ?_
  · clear hu
    go_simp
    first | done | rfl
  simp only[Act.put,nm1,nm2,nm3]
  refine wpK_ops rfl (fun w1 hu => ?_) ?_
  · have cl0 := ((hb5.up hu10.out).up ((Up.refl _).drew.trans hu)).cell (o := 0) rfl
    go_simp
    first | done | rfl
  simp only[Act.put,nm1,nm2,nm3]
  refine wpK_ops rfl (fun w1 hu => ?_) ?_
  · clear hu
    go_simp
    first | done | rfl
  simp only[Act.put,nm1,nm2,nm3]
  refine wpK_ops rfl (fun w1 hu => ?_) ?_
  · clear hu
    go_simp
    first | done | rfl
  simp only[Act.put,nm1,nm2,nm3]
  refine wpK_ops rfl (fun w1 hu => ?_) ?_
  · have hcl := (spec_l01Mod.calls K (wrap64 (a1_0 - a2_0)) a0 t12 w1  A13.out)
    clear hu
    replace hcl := Aside0.mk hcl
    go_simp
    exact hcl.out
  simp only[Act.put,nm1,nm2,nm3]
  refine wpK_ops rfl (fun w1 hu => ?_) ?_
  · clear hu
    go_simp
    first | done | rfl
  simp only[Act.put,nm1,nm2,nm3]
  refine wpK_ops rfl (fun w1 hu => ?_) ?_
  · have cl0 := ((hb2.up (hu7.out.trans hu10.out)).up ((Up.refl _).drew.trans hu)).cell (o := 1) rfl
    go_simp
    first | done | rfl
  simp only[Act.put,nm1,nm2,nm3]
  refine wpK_ops rfl (fun w1 hu => ?_) ?_
  · clear hu
    go_simp
    first | done | rfl
  simp only[Act.put,nm1,nm2,nm3]
  refine wpK_ops rfl (fun w1 hu => ?_) ?_
  · have cl0 := ((hb5.up hu10.out).up ((Up.refl _).drew.trans hu)).cell (o := 1) rfl
    go_simp
    first | done | rfl
  simp only[Act.put,nm1,nm2,nm3]
  refine wpK_ops rfl (fun w1 hu => ?_) ?_
  · clear hu
    go_simp
    first | done | rfl
  simp only[Act.put,nm1,nm2,nm3]
  refine wpK_ops rfl (fun w1 hu => ?_) ?_
  · clear hu
    go_simp
    first | done | rfl
  simp only[Act.put,nm1,nm2,nm3]
  refine wpK_ops rfl (fun w1 hu => ?_) ?_
  · have hcl := (spec_l01Mod.calls K (wrap64 (a1_1 - a2_1)) a0 t14 w1  A15.out)
    clear hu
    replace hcl := Aside0.mk hcl
    go_simp
    exact hcl.out
  simp only[Act.put,nm1,nm2,nm3]
  refine wpK_ops rfl (fun w1 hu => ?_) ?_
  · clear hu
    go_simp
    first | done | rfl
  simp only[Act.put,nm1,nm2,nm3]
  refine wpK_nil ?_
  intro w16 hu hap
  simp only [List.drop_succ_cons, List.drop_zero]
  replace hu := (Up.refl _).drew.trans hu
  clear hap
  have hu17 := Aside0.mk hu
  clear hu
  have hB0 := (hb8.up hu17.out)
  have cl0 := hB0.cell (o := 0) rfl
  have fr0 := hB0.free 0
  have cl1 := hB0.cell (o := 1) rfl
  have fr1 := hB0.free 1
  refine step_store (b := b8) (cs' := [.int .i64 t12, .int .i64 t14]) (T := 30) (W' := ((w16.setCell ⟨b8, 0, none⟩ (.int .i64 t12)).setCell ⟨b8, 1, none⟩ (.int .i64 t14))) rfl rfl (by go_simp <;> rfl) (((Sto.refl _ _).setCell 0 _).setCell 1 _) (((hB0).setCell 0 _).setCell 1 _) ?_
  clear hB0 cl0 fr0 cl1 fr1
  intro w18 hs hb20
  have hs19 := Aside0.mk hs
  clear hs
  refine wpList_nil (hK11 _ _ ?_)
  refine wp_ret ?_
  refine hQf _ _ _ ?_
  have cr0 := hb20.cell (o := 0) rfl
  have cr1 := hb20.cell (o := 1) rfl
  exact bodyPost_ret (v := .agg #[.int .i64 t12, .int .i64 t14]) (by first|rfl|simp [results, Try.results185, go_sem, cr0, cr1]<;>rfl) rfl ⟨rfl, ((((hu4.out.trans hu7.out).trans hu10.out).trans hu17.out).sto (Nat.le_trans ((Nat.le_trans (hu4.out.size) hu7.out.size)) lbb8.out) hs19.out)⟩

set_option maxHeartbeats 40000000 in
set_option maxRecDepth 100000 in
theorem spec_l02Product.calls (K : Nat) (a0 : Int) (a1 : Int) (a2_0 : Int) (a2_1 : Int) (a3_0 : Int) (a3_1 : Int) (r0 : Int) (w : World)  (h : spec_l02Product.f K a0 a1 a2_0 a2_1 a3_0 a3_1 = some (r0)) :
    Calls Try.prog 186 #[.int .i64 a0, .int .i64 a1, .agg #[.int .i64 a2_0, .int .i64 a2_1], .agg #[.int .i64 a3_0, .int .i64 a3_1]] w fun e w' => e = .returned (.int .i64 r0) ∧ Up w w' := by
 have H : ((if (a1 == 0) = true then ((spec_l01Mod.f K (wrap64 ((wrap64 (a2_0 * a3_0)) + (wrap64 (a2_1 * a3_1)))) a0).bind fun t13 => some t13) else (if (a1 == 1) = true then ((spec_l01Mod.f K (wrap64 ((wrap64 (a2_0 * a3_0)) - (wrap64 (a2_1 * a3_1)))) a0).bind fun t20 => some t20) else ((spec_l01Mod.f K (wrap64 ((wrap64 (a2_0 * a3_1)) + (wrap64 (a2_1 * a3_0)))) a0).bind fun t25 => some t25))) : Option (Int)) = some (r0) := h
 clear h
 go_enter Try.func186, Try.ntmps186
 refine wp_hide (fun Qf hQf => ?_)
 refine wp_seq_k fun K1 hK1=>wp_region_lit ?_
 refine step_new (cs := [.int .i64 a2_0, .int .i64 a2_1]) (T := 30) (f := fun b => .pointer (some ⟨b, 0, none⟩)) rfl (by go_simp <;> rfl) ?_
 intro b2 w3 hu lb hb2
 simp only[Act.put,nm1,nm2,nm3]
 have lbb2 := Aside0.mk lb
 have ltb2 := Aside0.mk hb2.lt
 clear lb
 have hu4 := Aside0.mk hu
 clear hu
 refine step_new (cs := [.int .i64 a3_0, .int .i64 a3_1]) (T := 30) (f := fun b => .pointer (some ⟨b, 0, none⟩)) rfl (by go_simp <;> rfl) ?_
 intro b5 w6 hu lb hb5
 simp only[Act.put,nm1,nm2,nm3]
 have lbb5 := Aside0.mk lb
 have ltb5 := Aside0.mk hb5.lt
 clear lb
 have hu7 := Aside0.mk hu
 clear hu
 refine wpp fun k h=>?_;go_simp;apply h;clear h k
 refine wpList_nil (hK1 _ _ ?_)
 refine wp_seq_k fun K8 hK8=>?_
 refine wp_seq_k fun K9 hK9=>wp_region_lit ?_
 refine wpp fun k h=>?_;go_simp;apply h;clear h k
 refine wpList_nil (hK9 _ _ ?_)
 refine wp_block ?_
 refine wp_seq_k fun K10 hK10=>wp_region_lit ?_
 iterate 2 (refine wpp fun k h=>?_;go_simp;apply h;clear h k)
 refine wpList_nil (hK10 _ _ ?_)
 by_cases c11 : (a1 == 0) = true
 ·
  rw [if_pos c11] at H
  have c11n : (a1 != 0) = false := by rw [bne, c11]; rfl
  obtain ⟨t13,A14,H⟩:=Option.bind_eq_some_iff.mp H
  replace A14:=Aside0.mk A14;try dsimp only at H
  obtain rfl := Option.some.inj H
  try simp only [c11, c11n, Bool.not_true, Bool.not_false]
  refine wp_cond_true rfl ?_
  refine wp_seq_k fun K12 hK12=>wp_region_lit ?_
  refine wpp fun k h=>?_;go_simp;apply h;clear h k
  have cl0 := (hb2.up hu7.out).cell (o := 0) rfl
  refine wpp fun k h=>?_;go_simp;apply h;clear h k
  clear cl0
  refine wpp fun k h=>?_;go_simp;apply h;clear h k
  have cl0 := hb5.cell (o := 0) rfl
  refine wpp fun k h=>?_;go_simp;apply h;clear h k
  clear cl0
  iterate 2 (refine wpp fun k h=>?_;go_simp;apply h;clear h k)
  have cl0 := (hb2.up hu7.out).cell (o := 1) rfl
  refine wpp fun k h=>?_;go_simp;apply h;clear h k
  clear cl0
  refine wpp fun k h=>?_;go_simp;apply h;clear h k
  have cl0 := hb5.cell (o := 1) rfl
  refine wpp fun k h=>?_;go_simp;apply h;clear h k
  clear cl0
  iterate 3 (refine wpp fun k h=>?_;go_simp;apply h;clear h k)
  refine step_call wn (by go_simp <;> rfl) (spec_l01Mod.calls K (wrap64 ((wrap64 (a2_0 * a3_0)) + (wrap64 (a2_1 * a3_1)))) a0 t13 w6  A14.out) ?_
  rintro e w15 ⟨rfl, hu⟩
  have hu16 := Aside0.mk hu
  clear hu
  refine ⟨_, rfl, ?_⟩
  simp only[Act.put,nm1,nm2,nm3]
  refine wpp fun k h=>?_;go_simp;apply h;clear h k
  refine wpList_nil (hK12 _ _ ?_)
  refine wp_ret ?_
  refine hQf _ _ _ ?_
  exact bodyPost_ret (v := .int .i64 t13) (by first|rfl|simp [results, Try.results186, go_sem]<;>rfl) rfl ⟨rfl, ((hu4.out.trans hu7.out).trans hu16.out)⟩
 rw [if_neg c11] at H; replace c11 := Bool.eq_false_iff.mpr c11
 have c11n : (a1 != 0) = true := by rw [bne, c11]; rfl
 have c11p : ¬ a1 = 0 := fun e => by simp [e] at c11
 try simp only [c11, c11n, Bool.not_true, Bool.not_false]
 refine wp_cond_false rfl ?_
 refine wp_seq_k fun K17 hK17=>wp_region_lit ?_
 iterate 2 (refine wpp fun k h=>?_;go_simp;apply h;clear h k)
 refine wpList_nil (hK17 _ _ ?_)
 by_cases c18 : (a1 == 1) = true
 ·
  rw [if_pos c18] at H
  have c18n : (a1 != 1) = false := by rw [bne, c18]; rfl
  obtain ⟨t20,A21,H⟩:=Option.bind_eq_some_iff.mp H
  replace A21:=Aside0.mk A21;try dsimp only at H
  obtain rfl := Option.some.inj H
  try simp only [c18, c18n, Bool.not_true, Bool.not_false]
  refine wp_cond_true rfl ?_
  refine wp_seq_k fun K19 hK19=>wp_region_lit ?_
  refine wpp fun k h=>?_;go_simp;apply h;clear h k
  have cl0 := (hb2.up hu7.out).cell (o := 0) rfl
  refine wpp fun k h=>?_;go_simp;apply h;clear h k
  clear cl0
  refine wpp fun k h=>?_;go_simp;apply h;clear h k
  have cl0 := hb5.cell (o := 0) rfl
  refine wpp fun k h=>?_;go_simp;apply h;clear h k
  clear cl0
  iterate 2 (refine wpp fun k h=>?_;go_simp;apply h;clear h k)
  have cl0 := (hb2.up hu7.out).cell (o := 1) rfl
  refine wpp fun k h=>?_;go_simp;apply h;clear h k
  clear cl0
  refine wpp fun k h=>?_;go_simp;apply h;clear h k
  have cl0 := hb5.cell (o := 1) rfl
  refine wpp fun k h=>?_;go_simp;apply h;clear h k
  clear cl0
  iterate 3 (refine wpp fun k h=>?_;go_simp;apply h;clear h k)
  refine step_call wn (by go_simp <;> rfl) (spec_l01Mod.calls K (wrap64 ((wrap64 (a2_0 * a3_0)) - (wrap64 (a2_1 * a3_1)))) a0 t20 w6  A21.out) ?_
  rintro e w22 ⟨rfl, hu⟩
  have hu23 := Aside0.mk hu
  clear hu
  refine ⟨_, rfl, ?_⟩
  simp only[Act.put,nm1,nm2,nm3]
  refine wpp fun k h=>?_;go_simp;apply h;clear h k
  refine wpList_nil (hK19 _ _ ?_)
  refine wp_ret ?_
  refine hQf _ _ _ ?_
  exact bodyPost_ret (v := .int .i64 t20) (by first|rfl|simp [results, Try.results186, go_sem]<;>rfl) rfl ⟨rfl, ((hu4.out.trans hu7.out).trans hu23.out)⟩
 rw [if_neg c18] at H; replace c18 := Bool.eq_false_iff.mpr c18
 have c18n : (a1 != 1) = true := by rw [bne, c18]; rfl
 have c18p : ¬ a1 = 1 := fun e => by simp [e] at c18
 obtain ⟨t25,A26,H⟩:=Option.bind_eq_some_iff.mp H
 replace A26:=Aside0.mk A26;try dsimp only at H
 obtain rfl := Option.some.inj H
 try simp only [c18, c18n, Bool.not_true, Bool.not_false]
 refine wp_cond_false rfl ?_
 refine wp_skip ?_
 refine hK8 _ _ ?_
 refine wp_seq_k fun K24 hK24=>wp_region_lit ?_
 refine wpp fun k h=>?_;go_simp;apply h;clear h k
 have cl0 := (hb2.up hu7.out).cell (o := 0) rfl
 refine wpp fun k h=>?_;go_simp;apply h;clear h k
 clear cl0
 refine wpp fun k h=>?_;go_simp;apply h;clear h k
 have cl0 := hb5.cell (o := 1) rfl
 refine wpp fun k h=>?_;go_simp;apply h;clear h k
 clear cl0
 iterate 2 (refine wpp fun k h=>?_;go_simp;apply h;clear h k)
 have cl0 := (hb2.up hu7.out).cell (o := 1) rfl
 refine wpp fun k h=>?_;go_simp;apply h;clear h k
 clear cl0
 refine wpp fun k h=>?_;go_simp;apply h;clear h k
 have cl0 := hb5.cell (o := 0) rfl
 refine wpp fun k h=>?_;go_simp;apply h;clear h k
 clear cl0
 iterate 3 (refine wpp fun k h=>?_;go_simp;apply h;clear h k)
 refine step_call wn (by go_simp <;> rfl) (spec_l01Mod.calls K (wrap64 ((wrap64 (a2_0 * a3_1)) + (wrap64 (a2_1 * a3_0)))) a0 t25 w6  A26.out) ?_
 rintro e w27 ⟨rfl, hu⟩
 have hu28 := Aside0.mk hu
 clear hu
 refine ⟨_, rfl, ?_⟩
 simp only[Act.put,nm1,nm2,nm3]
 refine wpp fun k h=>?_;go_simp;apply h;clear h k
 refine wpList_nil (hK24 _ _ ?_)
 refine wp_ret ?_
 refine hQf _ _ _ ?_
 exact bodyPost_ret (v := .int .i64 t25) (by first|rfl|simp [results, Try.results186, go_sem]<;>rfl) rfl ⟨rfl, ((hu4.out.trans hu7.out).trans hu28.out)⟩

set_option maxHeartbeats 40000000 in
set_option maxRecDepth 100000 in
theorem spec_l02Quadrance.calls (K : Nat) (a0 : Int) (a1 : Int) (a2_0 : Int) (a2_1 : Int) (a3_0 : Int) (a3_1 : Int) (r0 : Int) (w : World)  (h : spec_l02Quadrance.f K a0 a1 a2_0 a2_1 a3_0 a3_1 = some (r0)) :
    Calls Try.prog 123 #[.int .i64 a0, .int .i64 a1, .agg #[.int .i64 a2_0, .int .i64 a2_1], .agg #[.int .i64 a3_0, .int .i64 a3_1]] w fun e w' => e = .returned (.int .i64 r0) ∧ Up w w' := by
 have H : (((spec_l01Minus.f K a0 a3_0 a3_1 a2_0 a2_1).bind fun (t9, t10) => ((spec_l02Product.f K a0 a1 t9 t10 t9 t10).bind fun t21 => some t21)) : Option (Int)) = some (r0) := h
 clear h
 obtain ⟨⟨t9, t10⟩,A11,H⟩:=Option.bind_eq_some_iff.mp H
 replace A11:=Aside0.mk A11;try dsimp only at H
 obtain ⟨t21,A22,H⟩:=Option.bind_eq_some_iff.mp H
 replace A22:=Aside0.mk A22;try dsimp only at H
 obtain rfl := Option.some.inj H
 go_enter Try.func123, Try.ntmps123
 refine wp_hide (fun Qf hQf => ?_)
 refine wp_seq_k fun K1 hK1=>wp_region_lit ?_
 refine step_new (cs := [.int .i64 a2_0, .int .i64 a2_1]) (T := 30) (f := fun b => .pointer (some ⟨b, 0, none⟩)) rfl (by go_simp <;> rfl) ?_
 intro b2 w3 hu lb hb2
 simp only[Act.put,nm1,nm2,nm3]
 have lbb2 := Aside0.mk lb
 have ltb2 := Aside0.mk hb2.lt
 clear lb
 have hu4 := Aside0.mk hu
 clear hu
 refine step_new (cs := [.int .i64 a3_0, .int .i64 a3_1]) (T := 30) (f := fun b => .pointer (some ⟨b, 0, none⟩)) rfl (by go_simp <;> rfl) ?_
 intro b5 w6 hu lb hb5
 simp only[Act.put,nm1,nm2,nm3]
 have lbb5 := Aside0.mk lb
 have ltb5 := Aside0.mk hb5.lt
 clear lb
 have hu7 := Aside0.mk hu
 clear hu
 refine wpp fun k h=>?_;go_simp;apply h;clear h k
 refine wpList_nil (hK1 _ _ ?_)
 refine wp_seq_k fun K8 hK8=>wp_region_lit ?_
 refine wpp fun k h=>?_;go_simp;apply h;clear h k
 have cl0 := hb5.cell (o := 0) rfl
 have cl1 := hb5.cell (o := 1) rfl
 refine wpp fun k h=>?_;go_simp;apply h;clear h k
 clear cl0 cl1
 have cl0 := (hb2.up hu7.out).cell (o := 0) rfl
 have cl1 := (hb2.up hu7.out).cell (o := 1) rfl
 refine wpp fun k h=>?_;go_simp;apply h;clear h k
 clear cl0 cl1
 refine step_call wn (by go_simp <;> rfl) (spec_l01Minus.calls K a0 a3_0 a3_1 a2_0 a2_1 t9 t10 w6  A11.out) ?_
 rintro e w12 ⟨rfl, hu⟩
 have hu13 := Aside0.mk hu
 clear hu
 refine ⟨_, rfl, ?_⟩
 simp only[Act.put,nm1,nm2,nm3]
 refine step_new (cs := [.int .i64 0, .int .i64 0]) (T := 30) (f := fun b => .pointer (some ⟨b, 0, none⟩)) rfl (by go_simp <;> rfl) ?_
 intro b14 w15 hu lb hb14
 simp only[Act.put,nm1,nm2,nm3]
 have lbb14 := Aside0.mk lb
 have ltb14 := Aside0.mk hb14.lt
 clear lb
 have hu16 := Aside0.mk hu
 clear hu
 have hB0 := hb14
 have cl0 := hB0.cell (o := 0) rfl
 have fr0 := hB0.free 0
 have cl1 := hB0.cell (o := 1) rfl
 have fr1 := hB0.free 1
 refine step_store (b := b14) (cs' := [.int .i64 t9, .int .i64 t10]) (T := 30) (W' := ((w15.setCell ⟨b14, 0, none⟩ (.int .i64 t9)).setCell ⟨b14, 1, none⟩ (.int .i64 t10))) rfl rfl (by go_simp <;> rfl) (((Sto.refl _ _).setCell 0 _).setCell 1 _) (((hB0).setCell 0 _).setCell 1 _) ?_
 clear hB0 cl0 fr0 cl1 fr1
 intro w17 hs hb19
 have hs18 := Aside0.mk hs
 clear hs
 refine wpList_nil (hK8 _ _ ?_)
 refine wp_seq_k fun K20 hK20=>wp_region_lit ?_
 iterate 2 (refine wpp fun k h=>?_;go_simp;apply h;clear h k)
 have cl0 := hb19.cell (o := 0) rfl
 have cl1 := hb19.cell (o := 1) rfl
 refine wpp fun k h=>?_;go_simp;apply h;clear h k
 clear cl0 cl1
 have cl0 := hb19.cell (o := 0) rfl
 have cl1 := hb19.cell (o := 1) rfl
 refine wpp fun k h=>?_;go_simp;apply h;clear h k
 clear cl0 cl1
 refine step_call wn (by go_simp <;> rfl) (spec_l02Product.calls K a0 a1 t9 t10 t9 t10 t21 w17  A22.out) ?_
 rintro e w23 ⟨rfl, hu⟩
 have hu24 := Aside0.mk hu
 clear hu
 refine ⟨_, rfl, ?_⟩
 simp only[Act.put,nm1,nm2,nm3]
 refine wpp fun k h=>?_;go_simp;apply h;clear h k
 refine wpList_nil (hK20 _ _ ?_)
 refine wp_ret ?_
 refine hQf _ _ _ ?_
 exact bodyPost_ret (v := .int .i64 t21) (by first|rfl|simp [results, Try.results123, go_sem]<;>rfl) rfl ⟨rfl, (((((hu4.out.trans hu7.out).trans hu13.out).trans hu16.out).sto (Nat.le_trans ((Nat.le_trans ((Nat.le_trans (hu4.out.size) hu7.out.size)) hu13.out.size)) lbb14.out) hs18.out).trans hu24.out)⟩

set_option maxHeartbeats 40000000 in
set_option maxRecDepth 100000 in
theorem spec_l01Inverse.calls (K : Nat) (a0 : Int) (a1 : Int) (r0 : Int) (w : World)  (h : spec_l01Inverse.f K a0 a1 = some (r0)) :
    Calls Try.prog 129 #[.int .i64 a0, .int .i64 a1] w fun e w' => e = .returned (.int .i64 r0) ∧ Up w w' := by
 have H : (((spec_l01Mod.f K a0 a1).bind fun t3 => (spec_l01Inverse.l0 K a1 K 1 t3 (wrap64 (a1 - 2)))) : Option (Int)) = some (r0) := h
 clear h
 obtain ⟨t3,A4,H⟩:=Option.bind_eq_some_iff.mp H
 replace A4:=Aside0.mk A4;try dsimp only at H
 go_enter Try.func129, Try.ntmps129
 refine wp_hide (fun Qf hQf => ?_)
 refine wp_seq_k fun K1 hK1=>wp_region_lit ?_
 refine wpp fun k h=>?_;go_simp;apply h;clear h k
 refine wpList_nil (hK1 _ _ ?_)
 refine wp_seq_k fun K2 hK2=>wp_region_lit ?_
 iterate 2 (refine wpp fun k h=>?_;go_simp;apply h;clear h k)
 refine step_call wn (by go_simp <;> rfl) (spec_l01Mod.calls K a0 a1 t3 w  A4.out) ?_
 rintro e w5 ⟨rfl, hu⟩
 have hu6 := Aside0.mk hu
 clear hu
 refine ⟨_, rfl, ?_⟩
 simp only[Act.put,nm1,nm2,nm3]
 iterate 2 (refine wpp fun k h=>?_;go_simp;apply h;clear h k)
 refine wpList_nil (hK2 _ _ ?_)
 refine wp_seq_k fun K7 hK7=>?_
 refine wp_seq_k fun K8 hK8=>wp_region_lit ?_
 iterate 3 (refine wpp fun k h=>?_;go_simp;apply h;clear h k)
 refine wpList_nil (hK8 _ _ ?_)
 refine wp_block ?_
 have HL15 := Aside0.mk H
 clear H
 go_loopg [5, 6, 7] K (fun kq v5 v6 v7 w' => ∃ (x9 : Int) (x10 : Int) (x11 : Int), v5 = .int .i64 x9 ∧ v6 = .int .i64 x10 ∧ v7 = .int .i64 x11 ∧ Aside0 (spec_l01Inverse.l0 K a1 kq x9 x10 x11 = some (r0)) ∧ Aside0 (kq ≤ K) ∧ Aside0 (Up w5 w') ∧ Aside0 (w5.heap.size ≤ w'.heap.size))
 case atStart => exact ⟨1, t3, wrap64 (a1 - 2), (by first | rfl | simp), (by first | rfl | simp), (by first | rfl | simp), HL15, ⟨Nat.le_refl _⟩, ⟨(Up.refl _)⟩, ⟨Nat.le_refl _⟩⟩
 case round =>
  rename_i J18 K19 hJ18 hK19
  obtain ⟨x9, x10, x11, rfl, rfl, rfl, HL20, hk17, hu13, hz14⟩ := hrel
  obtain ⟨w12, rfl⟩ : ∃ wo : World, wo = wr := ⟨_, rfl⟩
  obtain ⟨k16, rfl⟩ | rfl : (∃ k, gk = k + 1) ∨ gk = 0 := by rcases gk with _ | k; exact .inr rfl; exact .inl ⟨k, rfl⟩
  case inr => exact absurd HL20.out (by simp [spec_l01Inverse.l0])
  have H := HL20.out
  clear HL20
  rw [spec_l01Inverse.l0] at H
  refine wp_seq_k fun K21 hK21=>?_
  refine wp_seq_k fun K22 hK22=>wp_region_lit ?_
  iterate 2 (refine wpp fun k h=>?_;go_simp;apply h;clear h k)
  refine wpList_nil (hK22 _ _ ?_)
  by_cases c23 : (decide (0 < x11)) = true
  rotate_left
  ·
   rw [if_neg c23] at H; replace c23 := Bool.eq_false_iff.mpr c23
   obtain rfl := Option.some.inj H
   try simp only [c23, Bool.not_true, Bool.not_false]
   refine wp_cond_false rfl ?_
   refine wp_exit ?_
   refine hK7 _ _ ?_
   refine wp_seq_k fun K32 hK32=>wp_region_lit ?_
   iterate 2 (refine wpp fun k h=>?_;go_simp;apply h;clear h k)
   refine wpList_nil (hK32 _ _ ?_)
   refine wp_ret ?_
   refine hQf _ _ _ ?_
   exact bodyPost_ret (v := .int .i64 x9) (by first|rfl|simp [results, Try.results129, go_sem]<;>rfl) rfl ⟨rfl, (hu6.out.trans hu13.out)⟩
  rw [if_pos c23] at H
  try simp only [c23, Bool.not_true, Bool.not_false]
  refine wp_cond_true rfl ?_
  refine wp_skip ?_
  refine hK21 _ _ ?_
  refine wp_seq_k fun K24 hK24=>?_
  refine wp_block ?_
  refine wp_seq_k fun K25 hK25=>?_
  refine wp_seq_k fun K26 hK26=>wp_region_lit ?_
  iterate 3 (refine wpp fun k h=>?_;go_simp;apply h;clear h k)
  refine wpList_nil (hK26 _ _ ?_)
  by_cases c27 : ((Int.tmod x11 2) == 1) = true
  rotate_left
  ·
   rw [if_neg c27] at H; replace c27 := Bool.eq_false_iff.mpr c27
   have c27n : ((Int.tmod x11 2) != 1) = true := by rw [bne, c27]; rfl
   have c27p : ¬ (Int.tmod x11 2) = 1 := fun e => by simp [e] at c27
   try simp only [c27, c27n, Bool.not_true, Bool.not_false]
   refine wp_cond_false rfl ?_
   refine wp_skip ?_
   refine hK25 _ _ ?_
   refine wp_region_lit ?_
   iterate 4 (refine wpp fun k h=>?_;go_simp;apply h;clear h k)
   by_cases c30 : (a1 == 0) = true
   ·
    rw [if_pos c30] at H
    have c30n : (a1 != 0) = false := by rw [bne, c30]; rfl
    exact absurd H (by simp)
   rw [if_neg c30] at H; replace c30 := Bool.eq_false_iff.mpr c30
   have c30n : (a1 != 0) = true := by rw [bne, c30]; rfl
   have c30p : ¬ a1 = 0 := fun e => by simp [e] at c30
   have HL31 := Aside0.mk H
   clear H
   try simp only [c30, c30n, Bool.not_true, Bool.not_false]
   iterate 2 (refine wpp fun k h=>?_;go_simp;apply h;clear h k)
   refine wpList_nil (hK24 _ _ ?_)
   refine wp_region_lit ?_
   iterate 3 (refine wpp fun k h=>?_;go_simp;apply h;clear h k)
   refine wpList_nil (hK19 _ _ ?_)
   go_roundg k16
   case measure => exact Nat.lt_succ_self _
   case rel => exact ⟨x9, Int.tmod (wrap64 (x10 * x10)) a1, wrap64 (Int.tdiv x11 2), (by first | rfl | simp), (by first | rfl | simp), (by first | rfl | simp), HL31, ⟨by have := hk17.out; omega⟩, ⟨hu13.out⟩, ⟨(Nat.le_trans (Nat.le_refl _) hz14.out)⟩⟩
  rw [if_pos c27] at H
  have c27n : ((Int.tmod x11 2) != 1) = false := by rw [bne, c27]; rfl
  try simp only [c27, c27n, Bool.not_true, Bool.not_false]
  refine wp_cond_true rfl ?_
  refine wp_region_lit ?_
  iterate 4 (refine wpp fun k h=>?_;go_simp;apply h;clear h k)
  by_cases c28 : (a1 == 0) = true
  ·
   rw [if_pos c28] at H
   have c28n : (a1 != 0) = false := by rw [bne, c28]; rfl
   exact absurd H (by simp)
  rw [if_neg c28] at H; replace c28 := Bool.eq_false_iff.mpr c28
  have c28n : (a1 != 0) = true := by rw [bne, c28]; rfl
  have c28p : ¬ a1 = 0 := fun e => by simp [e] at c28
  have HL29 := Aside0.mk H
  clear H
  try simp only [c28, c28n, Bool.not_true, Bool.not_false]
  iterate 2 (refine wpp fun k h=>?_;go_simp;apply h;clear h k)
  refine wpList_nil (hK25 _ _ ?_)
  refine wp_region_lit ?_
  iterate 6 (refine wpp fun k h=>?_;go_simp;apply h;clear h k)
  refine wpList_nil (hK24 _ _ ?_)
  refine wp_region_lit ?_
  iterate 3 (refine wpp fun k h=>?_;go_simp;apply h;clear h k)
  refine wpList_nil (hK19 _ _ ?_)
  go_roundg k16
  case measure => exact Nat.lt_succ_self _
  case rel => exact ⟨Int.tmod (wrap64 (x9 * x10)) a1, Int.tmod (wrap64 (x10 * x10)) a1, wrap64 (Int.tdiv x11 2), (by first | rfl | simp), (by first | rfl | simp), (by first | rfl | simp), HL29, ⟨by have := hk17.out; omega⟩, ⟨hu13.out⟩, ⟨(Nat.le_trans (Nat.le_refl _) hz14.out)⟩⟩

set_option maxHeartbeats 40000000 in
set_option maxRecDepth 100000 in
theorem spec_l01Normal.calls (K : Nat) (a0 : Int) (a1 : Int) (a2 : Int) (a3 : Int) (r0 : Int) (r1 : Int) (r2 : Int) (w : World)  (h : spec_l01Normal.f K a0 a1 a2 a3 = some (r0, r1, r2)) :
    Calls Try.prog 189 #[.int .i64 a0, .int .i64 a1, .int .i64 a2, .int .i64 a3] w fun e w' => e = .returned (.agg #[.int .i64 r0, .int .i64 r1, .int .i64 r2]) ∧ Up w w' := by
 have H : (((spec_l01Mod.f K a1 a0).bind fun t6 => (if (t6 == 0) = true then ((spec_l01Mod.f K a2 a0).bind fun t13 => ((spec_l01Inverse.f K t13 a0).bind fun t18 => ((spec_l01Mod.f K (wrap64 (a1 * t18)) a0).bind fun t23 => ((spec_l01Mod.f K (wrap64 (a2 * t18)) a0).bind fun t27 => ((spec_l01Mod.f K (wrap64 (a3 * t18)) a0).bind fun t31 => some (t23, t27, t31)))))) else ((spec_l01Inverse.f K t6 a0).bind fun t39 => ((spec_l01Mod.f K (wrap64 (a1 * t39)) a0).bind fun t44 => ((spec_l01Mod.f K (wrap64 (a2 * t39)) a0).bind fun t48 => ((spec_l01Mod.f K (wrap64 (a3 * t39)) a0).bind fun t52 => some (t44, t48, t52))))))) : Option (Int × Int × Int)) = some (r0, r1, r2) := h
 clear h
 obtain ⟨t6,A7,H⟩:=Option.bind_eq_some_iff.mp H
 replace A7:=Aside0.mk A7;try dsimp only at H
 go_enter Try.func189, Try.ntmps189
 refine wp_hide (fun Qf hQf => ?_)
 refine wp_seq_k fun K1 hK1=>wp_region_lit ?_
 refine step_new (cs := [.int .i64 0, .int .i64 0, .int .i64 0]) (T := 34) (f := fun b => .pointer (some ⟨b, 0, none⟩)) rfl (by go_simp <;> rfl) ?_
 intro b2 w3 hu lb hb2
 simp only[Act.put,nm1,nm2,nm3]
 have lbb2 := Aside0.mk lb
 have ltb2 := Aside0.mk hb2.lt
 clear lb
 have hu4 := Aside0.mk hu
 clear hu
 refine wpList_nil (hK1 _ _ ?_)
 refine wp_seq_k fun K5 hK5=>wp_region_lit ?_
 iterate 2 (refine wpp fun k h=>?_;go_simp;apply h;clear h k)
 refine step_call wn (by go_simp <;> rfl) (spec_l01Mod.calls K a1 a0 t6 w3  A7.out) ?_
 rintro e w8 ⟨rfl, hu⟩
 have hu9 := Aside0.mk hu
 clear hu
 refine ⟨_, rfl, ?_⟩
 simp only[Act.put,nm1,nm2,nm3]
 refine wpp fun k h=>?_;go_simp;apply h;clear h k
 refine wpList_nil (hK5 _ _ ?_)
 refine wp_seq_k fun K10 hK10=>?_
 refine wp_seq_k fun K11 hK11=>wp_region_lit ?_
 iterate 2 (refine wpp fun k h=>?_;go_simp;apply h;clear h k)
 refine wpList_nil (hK11 _ _ ?_)
 by_cases c12 : (t6 == 0) = true
 rotate_left
 ·
  rw [if_neg c12] at H; replace c12 := Bool.eq_false_iff.mpr c12
  have c12n : (t6 != 0) = true := by rw [bne, c12]; rfl
  have c12p : ¬ t6 = 0 := fun e => by simp [e] at c12
  obtain ⟨t39,A40,H⟩:=Option.bind_eq_some_iff.mp H
  replace A40:=Aside0.mk A40;try dsimp only at H
  obtain ⟨t44,A45,H⟩:=Option.bind_eq_some_iff.mp H
  replace A45:=Aside0.mk A45;try dsimp only at H
  obtain ⟨t48,A49,H⟩:=Option.bind_eq_some_iff.mp H
  replace A49:=Aside0.mk A49;try dsimp only at H
  obtain ⟨t52,A53,H⟩:=Option.bind_eq_some_iff.mp H
  replace A53:=Aside0.mk A53;try dsimp only at H
  simp only [Option.some.injEq, Prod.mk.injEq] at H
  obtain ⟨rfl, rfl, rfl⟩ := H
  try simp only [c12, c12n, Bool.not_true, Bool.not_false]
  refine wp_cond_false rfl ?_
  refine wp_skip ?_
  refine hK10 _ _ ?_
  refine wp_seq_k fun K38 hK38=>wp_region_lit ?_
  iterate 2 (refine wpp fun k h=>?_;go_simp;apply h;clear h k)
  refine step_call wn (by go_simp <;> rfl) (spec_l01Inverse.calls K t6 a0 t39 w8  A40.out) ?_
  rintro e w41 ⟨rfl, hu⟩
  have hu42 := Aside0.mk hu
  clear hu
  refine ⟨_, rfl, ?_⟩
  simp only[Act.put,nm1,nm2,nm3]
  refine wpp fun k h=>?_;go_simp;apply h;clear h k
  refine wpList_nil (hK38 _ _ ?_)
  refine wp_seq_k fun K43 hK43=>wp_region_lit ?_
  iterate 4 (refine wpp fun k h=>?_;go_simp;apply h;clear h k)
  refine step_call wn (by go_simp <;> rfl) (spec_l01Mod.calls K (wrap64 (a1 * t39)) a0 t44 w41  A45.out) ?_
  rintro e w46 ⟨rfl, hu⟩
  have hu47 := Aside0.mk hu
  clear hu
  refine ⟨_, rfl, ?_⟩
  simp only[Act.put,nm1,nm2,nm3]
  iterate 4 (refine wpp fun k h=>?_;go_simp;apply h;clear h k)
  refine step_call wn (by go_simp <;> rfl) (spec_l01Mod.calls K (wrap64 (a2 * t39)) a0 t48 w46  A49.out) ?_
  rintro e w50 ⟨rfl, hu⟩
  have hu51 := Aside0.mk hu
  clear hu
  refine ⟨_, rfl, ?_⟩
  simp only[Act.put,nm1,nm2,nm3]
  iterate 4 (refine wpp fun k h=>?_;go_simp;apply h;clear h k)
  refine step_call wn (by go_simp <;> rfl) (spec_l01Mod.calls K (wrap64 (a3 * t39)) a0 t52 w50  A53.out) ?_
  rintro e w54 ⟨rfl, hu⟩
  have hu55 := Aside0.mk hu
  clear hu
  refine ⟨_, rfl, ?_⟩
  simp only[Act.put,nm1,nm2,nm3]
  refine wpp fun k h=>?_;go_simp;apply h;clear h k
  have hB0 := (hb2.up ((((hu9.out.trans hu42.out).trans hu47.out).trans hu51.out).trans hu55.out))
  have cl0 := hB0.cell (o := 0) rfl
  have fr0 := hB0.free 0
  have cl1 := hB0.cell (o := 1) rfl
  have fr1 := hB0.free 1
  have cl2 := hB0.cell (o := 2) rfl
  have fr2 := hB0.free 2
  refine step_store (b := b2) (cs' := [.int .i64 t44, .int .i64 t48, .int .i64 t52]) (T := 34) (W' := (((w54.setCell ⟨b2, 0, none⟩ (.int .i64 t44)).setCell ⟨b2, 1, none⟩ (.int .i64 t48)).setCell ⟨b2, 2, none⟩ (.int .i64 t52))) rfl rfl (by go_simp <;> rfl) ((((Sto.refl _ _).setCell 0 _).setCell 1 _).setCell 2 _) ((((hB0).setCell 0 _).setCell 1 _).setCell 2 _) ?_
  clear hB0 cl0 fr0 cl1 fr1 cl2 fr2
  intro w56 hs hb58
  have hs57 := Aside0.mk hs
  clear hs
  refine wpList_nil (hK43 _ _ ?_)
  refine wp_ret ?_
  refine hQf _ _ _ ?_
  have cr0 := hb58.cell (o := 0) rfl
  have cr1 := hb58.cell (o := 1) rfl
  have cr2 := hb58.cell (o := 2) rfl
  exact bodyPost_ret (v := .agg #[.int .i64 t44, .int .i64 t48, .int .i64 t52]) (by first|rfl|simp [results, Try.results189, go_sem, cr0, cr1, cr2]<;>rfl) rfl ⟨rfl, ((((((hu4.out.trans hu9.out).trans hu42.out).trans hu47.out).trans hu51.out).trans hu55.out).sto (Nat.le_trans (Nat.le_refl _) lbb2.out) hs57.out)⟩
 rw [if_pos c12] at H
 have c12n : (t6 != 0) = false := by rw [bne, c12]; rfl
 obtain ⟨t13,A14,H⟩:=Option.bind_eq_some_iff.mp H
 replace A14:=Aside0.mk A14;try dsimp only at H
 obtain ⟨t18,A19,H⟩:=Option.bind_eq_some_iff.mp H
 replace A19:=Aside0.mk A19;try dsimp only at H
 obtain ⟨t23,A24,H⟩:=Option.bind_eq_some_iff.mp H
 replace A24:=Aside0.mk A24;try dsimp only at H
 obtain ⟨t27,A28,H⟩:=Option.bind_eq_some_iff.mp H
 replace A28:=Aside0.mk A28;try dsimp only at H
 obtain ⟨t31,A32,H⟩:=Option.bind_eq_some_iff.mp H
 replace A32:=Aside0.mk A32;try dsimp only at H
 simp only [Option.some.injEq, Prod.mk.injEq] at H
 obtain ⟨rfl, rfl, rfl⟩ := H
 try simp only [c12, c12n, Bool.not_true, Bool.not_false]
 refine wp_cond_true rfl ?_
 refine wp_region_lit ?_
 iterate 2 (refine wpp fun k h=>?_;go_simp;apply h;clear h k)
 refine step_call wn (by go_simp <;> rfl) (spec_l01Mod.calls K a2 a0 t13 w8  A14.out) ?_
 rintro e w15 ⟨rfl, hu⟩
 have hu16 := Aside0.mk hu
 clear hu
 refine ⟨_, rfl, ?_⟩
 simp only[Act.put,nm1,nm2,nm3]
 refine wpp fun k h=>?_;go_simp;apply h;clear h k
 refine wpList_nil (hK10 _ _ ?_)
 refine wp_seq_k fun K17 hK17=>wp_region_lit ?_
 iterate 2 (refine wpp fun k h=>?_;go_simp;apply h;clear h k)
 refine step_call wn (by go_simp <;> rfl) (spec_l01Inverse.calls K t13 a0 t18 w15  A19.out) ?_
 rintro e w20 ⟨rfl, hu⟩
 have hu21 := Aside0.mk hu
 clear hu
 refine ⟨_, rfl, ?_⟩
 simp only[Act.put,nm1,nm2,nm3]
 refine wpp fun k h=>?_;go_simp;apply h;clear h k
 refine wpList_nil (hK17 _ _ ?_)
 refine wp_seq_k fun K22 hK22=>wp_region_lit ?_
 iterate 4 (refine wpp fun k h=>?_;go_simp;apply h;clear h k)
 refine step_call wn (by go_simp <;> rfl) (spec_l01Mod.calls K (wrap64 (a1 * t18)) a0 t23 w20  A24.out) ?_
 rintro e w25 ⟨rfl, hu⟩
 have hu26 := Aside0.mk hu
 clear hu
 refine ⟨_, rfl, ?_⟩
 simp only[Act.put,nm1,nm2,nm3]
 iterate 4 (refine wpp fun k h=>?_;go_simp;apply h;clear h k)
 refine step_call wn (by go_simp <;> rfl) (spec_l01Mod.calls K (wrap64 (a2 * t18)) a0 t27 w25  A28.out) ?_
 rintro e w29 ⟨rfl, hu⟩
 have hu30 := Aside0.mk hu
 clear hu
 refine ⟨_, rfl, ?_⟩
 simp only[Act.put,nm1,nm2,nm3]
 iterate 4 (refine wpp fun k h=>?_;go_simp;apply h;clear h k)
 refine step_call wn (by go_simp <;> rfl) (spec_l01Mod.calls K (wrap64 (a3 * t18)) a0 t31 w29  A32.out) ?_
 rintro e w33 ⟨rfl, hu⟩
 have hu34 := Aside0.mk hu
 clear hu
 refine ⟨_, rfl, ?_⟩
 simp only[Act.put,nm1,nm2,nm3]
 refine wpp fun k h=>?_;go_simp;apply h;clear h k
 have hB0 := (hb2.up (((((hu9.out.trans hu16.out).trans hu21.out).trans hu26.out).trans hu30.out).trans hu34.out))
 have cl0 := hB0.cell (o := 0) rfl
 have fr0 := hB0.free 0
 have cl1 := hB0.cell (o := 1) rfl
 have fr1 := hB0.free 1
 have cl2 := hB0.cell (o := 2) rfl
 have fr2 := hB0.free 2
 refine step_store (b := b2) (cs' := [.int .i64 t23, .int .i64 t27, .int .i64 t31]) (T := 34) (W' := (((w33.setCell ⟨b2, 0, none⟩ (.int .i64 t23)).setCell ⟨b2, 1, none⟩ (.int .i64 t27)).setCell ⟨b2, 2, none⟩ (.int .i64 t31))) rfl rfl (by go_simp <;> rfl) ((((Sto.refl _ _).setCell 0 _).setCell 1 _).setCell 2 _) ((((hB0).setCell 0 _).setCell 1 _).setCell 2 _) ?_
 clear hB0 cl0 fr0 cl1 fr1 cl2 fr2
 intro w35 hs hb37
 have hs36 := Aside0.mk hs
 clear hs
 refine wpList_nil (hK22 _ _ ?_)
 refine wp_ret ?_
 refine hQf _ _ _ ?_
 have cr0 := hb37.cell (o := 0) rfl
 have cr1 := hb37.cell (o := 1) rfl
 have cr2 := hb37.cell (o := 2) rfl
 exact bodyPost_ret (v := .agg #[.int .i64 t23, .int .i64 t27, .int .i64 t31]) (by first|rfl|simp [results, Try.results189, go_sem, cr0, cr1, cr2]<;>rfl) rfl ⟨rfl, (((((((hu4.out.trans hu9.out).trans hu16.out).trans hu21.out).trans hu26.out).trans hu30.out).trans hu34.out).sto (Nat.le_trans (Nat.le_refl _) lbb2.out) hs36.out)⟩

set_option maxHeartbeats 40000000 in
set_option maxRecDepth 100000 in
theorem spec_l06Radical.calls (K : Nat) (a0 : Int) (a1 : Int) (a2_0 : Int) (a2_1 : Int) (a2_2 : Int) (a3_0 : Int) (a3_1 : Int) (a3_2 : Int) (r0 : Int) (r1 : Int) (r2 : Int) (w : World)  (h : spec_l06Radical.f K a0 a1 a2_0 a2_1 a2_2 a3_0 a3_1 a3_2 = some (r0, r1, r2)) :
    Calls Try.prog 147 #[.int .i64 a0, .int .i64 a1, .agg #[.int .i64 a2_0, .int .i64 a2_1, .int .i64 a2_2], .agg #[.int .i64 a3_0, .int .i64 a3_1, .int .i64 a3_2]] w fun e w' => e = .returned (.agg #[.int .i64 r0, .int .i64 r1, .int .i64 r2]) ∧ Up w w' := by
 have H : (((spec_l01Minus.f K a0 a3_0 a3_1 a2_0 a2_1).bind fun (t12, t13) => ((spec_l02Quadrance.f K a0 a1 0 0 a2_0 a2_1).bind fun t31 => ((spec_l02Quadrance.f K a0 a1 0 0 a3_0 a3_1).bind fun t33 => (if (a1 == 1) = true then ((spec_l01Normal.f K a0 (wrap64 (2 * t12)) (wrap64 (2 * (wrap64 (-t13)))) (wrap64 ((wrap64 ((wrap64 (t31 - t33)) - a2_2)) + a3_2))).bind fun (t48, t49, t50) => some (t48, t49, t50)) else (if (a1 == 2) = true then ((spec_l01Normal.f K a0 (wrap64 (2 * t13)) (wrap64 (2 * t12)) (wrap64 ((wrap64 ((wrap64 (t31 - t33)) - a2_2)) + a3_2))).bind fun (t61, t62, t63) => some (t61, t62, t63)) else ((spec_l01Normal.f K a0 (wrap64 (2 * t12)) (wrap64 (2 * t13)) (wrap64 ((wrap64 ((wrap64 (t31 - t33)) - a2_2)) + a3_2))).bind fun (t71, t72, t73) => some (t71, t72, t73))))))) : Option (Int × Int × Int)) = some (r0, r1, r2) := h
 clear h
 obtain ⟨⟨t12, t13⟩,A14,H⟩:=Option.bind_eq_some_iff.mp H
 replace A14:=Aside0.mk A14;try dsimp only at H
 obtain ⟨t31,A32,H⟩:=Option.bind_eq_some_iff.mp H
 replace A32:=Aside0.mk A32;try dsimp only at H
 obtain ⟨t33,A34,H⟩:=Option.bind_eq_some_iff.mp H
 replace A34:=Aside0.mk A34;try dsimp only at H
 go_enter Try.func147, Try.ntmps147
 refine wp_hide (fun Qf hQf => ?_)
 refine wp_seq_k fun K1 hK1=>wp_region_lit ?_
 refine step_new (cs := [.int .i64 a2_0, .int .i64 a2_1, .int .i64 a2_2]) (T := 71) (f := fun b => .pointer (some ⟨b, 0, none⟩)) rfl (by go_simp <;> rfl) ?_
 intro b2 w3 hu lb hb2
 simp only[Act.put,nm1,nm2,nm3]
 have lbb2 := Aside0.mk lb
 have ltb2 := Aside0.mk hb2.lt
 clear lb
 have hu4 := Aside0.mk hu
 clear hu
 refine step_new (cs := [.int .i64 a3_0, .int .i64 a3_1, .int .i64 a3_2]) (T := 71) (f := fun b => .pointer (some ⟨b, 0, none⟩)) rfl (by go_simp <;> rfl) ?_
 intro b5 w6 hu lb hb5
 simp only[Act.put,nm1,nm2,nm3]
 have lbb5 := Aside0.mk lb
 have ltb5 := Aside0.mk hb5.lt
 clear lb
 have hu7 := Aside0.mk hu
 clear hu
 refine step_new (cs := [.int .i64 0, .int .i64 0, .int .i64 0]) (T := 34) (f := fun b => .pointer (some ⟨b, 0, none⟩)) rfl (by go_simp <;> rfl) ?_
 intro b8 w9 hu lb hb8
 simp only[Act.put,nm1,nm2,nm3]
 have lbb8 := Aside0.mk lb
 have ltb8 := Aside0.mk hb8.lt
 clear lb
 have hu10 := Aside0.mk hu
 clear hu
 refine wpList_nil (hK1 _ _ ?_)
 refine wp_seq_k fun K11 hK11=>wp_region_lit ?_
 iterate 2 (refine wpp fun k h=>?_;go_simp;apply h;clear h k)
 have cl0 := (hb5.up hu10.out).cell (o := 0) rfl
 have cl1 := (hb5.up hu10.out).cell (o := 1) rfl
 refine wpp fun k h=>?_;go_simp;apply h;clear h k
 clear cl0 cl1
 refine wpp fun k h=>?_;go_simp;apply h;clear h k
 have cl0 := (hb2.up (hu7.out.trans hu10.out)).cell (o := 0) rfl
 have cl1 := (hb2.up (hu7.out.trans hu10.out)).cell (o := 1) rfl
 refine wpp fun k h=>?_;go_simp;apply h;clear h k
 clear cl0 cl1
 refine step_call wn (by go_simp <;> rfl) (spec_l01Minus.calls K a0 a3_0 a3_1 a2_0 a2_1 t12 t13 w9  A14.out) ?_
 rintro e w15 ⟨rfl, hu⟩
 have hu16 := Aside0.mk hu
 clear hu
 refine ⟨_, rfl, ?_⟩
 simp only[Act.put,nm1,nm2,nm3]
 refine step_new (cs := [.int .i64 0, .int .i64 0]) (T := 30) (f := fun b => .pointer (some ⟨b, 0, none⟩)) rfl (by go_simp <;> rfl) ?_
 intro b17 w18 hu lb hb17
 simp only[Act.put,nm1,nm2,nm3]
 have lbb17 := Aside0.mk lb
 have ltb17 := Aside0.mk hb17.lt
 clear lb
 have hu19 := Aside0.mk hu
 clear hu
 have hB0 := hb17
 have cl0 := hB0.cell (o := 0) rfl
 have fr0 := hB0.free 0
 have cl1 := hB0.cell (o := 1) rfl
 have fr1 := hB0.free 1
 refine step_store (b := b17) (cs' := [.int .i64 t12, .int .i64 t13]) (T := 30) (W' := ((w18.setCell ⟨b17, 0, none⟩ (.int .i64 t12)).setCell ⟨b17, 1, none⟩ (.int .i64 t13))) rfl rfl (by go_simp <;> rfl) (((Sto.refl _ _).setCell 0 _).setCell 1 _) (((hB0).setCell 0 _).setCell 1 _) ?_
 clear hB0 cl0 fr0 cl1 fr1
 intro w20 hs hb22
 have hs21 := Aside0.mk hs
 clear hs
 refine wpList_nil (hK11 _ _ ?_)
 refine wp_seq_k fun K23 hK23=>wp_region_lit ?_
 refine wpp fun k h=>?_;go_simp;apply h;clear h k
 refine step_new (cs := [.int .i64 0, .int .i64 0]) (T := 30) (f := fun b => .pointer (some ⟨b, 0, none⟩)) rfl (by go_simp <;> rfl) ?_
 intro b24 w25 hu lb hb24
 simp only[Act.put,nm1,nm2,nm3]
 have lbb24 := Aside0.mk lb
 have ltb24 := Aside0.mk hb24.lt
 clear lb
 have hu26 := Aside0.mk hu
 clear hu
 have hB0 := hb24
 have cl0 := hB0.cell (o := 0) rfl
 have fr0 := hB0.free 0
 have cl1 := hB0.cell (o := 1) rfl
 have fr1 := hB0.free 1
 refine step_store (b := b24) (cs' := [.int .i64 0, .int .i64 0]) (T := 30) (W' := ((w25.setCell ⟨b24, 0, none⟩ (.int .i64 0)).setCell ⟨b24, 1, none⟩ (.int .i64 0))) rfl rfl (by go_simp <;> rfl) (((Sto.refl _ _).setCell 0 _).setCell 1 _) (((hB0).setCell 0 _).setCell 1 _) ?_
 clear hB0 cl0 fr0 cl1 fr1
 intro w27 hs hb29
 have hs28 := Aside0.mk hs
 clear hs
 refine wpList_nil (hK23 _ _ ?_)
 refine wp_seq_k fun K30 hK30=>?_
 refine' wp_region_up 19 [Slot.det _, Slot.det _, Slot.det _, Slot.det _, Slot.det _, Slot.det (.int .i64 t31), Slot.det _, Slot.det _, Slot.det _, Slot.det _, Slot.det _, Slot.det (.int .i64 t33), Slot.det _, Slot.det _, Slot.det _, Slot.det _, Slot.det _, Slot.det _, Slot.det _] (by kernel_rfl) (by kernel_rfl) ?main
 case main =>
  simp only [List.take_succ_cons, List.take_zero]
  refine wpK_ops rfl (fun w1 hu => ?_) ?_
  · clear hu
    go_simp
    first | done | rfl
  simp only[Act.put,nm1,nm2,nm3]
  refine wpK_ops rfl (fun w1 hu => ?_) ?_
  · clear hu
    go_simp
    first | done | rfl
  simp only[Act.put,nm1,nm2,nm3]
  refine wpK_ops rfl (fun w1 hu => ?_) ?_
  · have cl0 := (hb29.up ((Up.refl _).drew.trans hu)).cell (o := 0) rfl
    have cl1 := (hb29.up ((Up.refl _).drew.trans hu)).cell (o := 1) rfl
    go_simp
    first | done | rfl
  simp only[Act.put,nm1,nm2,nm3]
  refine wpK_ops rfl (fun w1 hu => ?_) ?_
  · clear hu
    go_simp
    first | done | rfl
  simp only[Act.put,nm1,nm2,nm3]
  refine wpK_ops rfl (fun w1 hu => ?_) ?_
  · have cl0 := ((hb2.up ((((((hu7.out.trans hu10.out).trans hu16.out).trans hu19.out).sto (Nat.le_trans ((Nat.le_trans ((Nat.le_trans (hu7.out.size) hu10.out.size)) hu16.out.size)) lbb17.out) hs21.out).trans hu26.out).sto (Nat.le_trans ((Nat.le_trans ((Nat.le_trans ((Nat.le_trans ((Nat.le_trans (hu7.out.size) hu10.out.size)) hu16.out.size)) hu19.out.size)) (Nat.le_of_eq hs21.out.size.symm))) lbb24.out) hs28.out)).up ((Up.refl _).drew.trans hu)).cell (o := 0) rfl
    have cl1 := ((hb2.up ((((((hu7.out.trans hu10.out).trans hu16.out).trans hu19.out).sto (Nat.le_trans ((Nat.le_trans ((Nat.le_trans (hu7.out.size) hu10.out.size)) hu16.out.size)) lbb17.out) hs21.out).trans hu26.out).sto (Nat.le_trans ((Nat.le_trans ((Nat.le_trans ((Nat.le_trans ((Nat.le_trans (hu7.out.size) hu10.out.size)) hu16.out.size)) hu19.out.size)) (Nat.le_of_eq hs21.out.size.symm))) lbb24.out) hs28.out)).up ((Up.refl _).drew.trans hu)).cell (o := 1) rfl
    go_simp
    first | done | rfl
  simp only[Act.put,nm1,nm2,nm3]
  refine wpK_ops rfl (fun w1 hu => ?_) ?_
  · have hcl := (spec_l02Quadrance.calls K a0 a1 0 0 a2_0 a2_1 t31 w1  A32.out)
    clear hu
    replace hcl := Aside0.mk hcl
    go_simp
    exact hcl.out
  simp only[Act.put,nm1,nm2,nm3]
  refine wpK_ops rfl (fun w1 hu => ?_) ?_
  · clear hu
    go_simp
    first | done | rfl
  simp only[Act.put,nm1,nm2,nm3]
  refine wpK_ops rfl (fun w1 hu => ?_) ?_
  · clear hu
    go_simp
    first | done | rfl
  simp only[Act.put,nm1,nm2,nm3]
  refine wpK_ops rfl (fun w1 hu => ?_) ?_
  · have cl0 := (hb29.up ((Up.refl _).drew.trans hu)).cell (o := 0) rfl
    have cl1 := (hb29.up ((Up.refl _).drew.trans hu)).cell (o := 1) rfl
    go_simp
    first | done | rfl
  simp only[Act.put,nm1,nm2,nm3]
  refine wpK_ops rfl (fun w1 hu => ?_) ?_
  · clear hu
    go_simp
    first | done | rfl
  simp only[Act.put,nm1,nm2,nm3]
  refine wpK_ops rfl (fun w1 hu => ?_) ?_
  · have cl0 := ((hb5.up (((((hu10.out.trans hu16.out).trans hu19.out).sto (Nat.le_trans ((Nat.le_trans (hu10.out.size) hu16.out.size)) lbb17.out) hs21.out).trans hu26.out).sto (Nat.le_trans ((Nat.le_trans ((Nat.le_trans ((Nat.le_trans (hu10.out.size) hu16.out.size)) hu19.out.size)) (Nat.le_of_eq hs21.out.size.symm))) lbb24.out) hs28.out)).up ((Up.refl _).drew.trans hu)).cell (o := 0) rfl
    have cl1 := ((hb5.up (((((hu10.out.trans hu16.out).trans hu19.out).sto (Nat.le_trans ((Nat.le_trans (hu10.out.size) hu16.out.size)) lbb17.out) hs21.out).trans hu26.out).sto (Nat.le_trans ((Nat.le_trans ((Nat.le_trans ((Nat.le_trans (hu10.out.size) hu16.out.size)) hu19.out.size)) (Nat.le_of_eq hs21.out.size.symm))) lbb24.out) hs28.out)).up ((Up.refl _).drew.trans hu)).cell (o := 1) rfl
    go_simp
    first | done | rfl
  simp only[Act.put,nm1,nm2,nm3]
  refine wpK_ops rfl (fun w1 hu => ?_) ?_
  · have hcl := (spec_l02Quadrance.calls K a0 a1 0 0 a3_0 a3_1 t33 w1  A34.out)
    clear hu
    replace hcl := Aside0.mk hcl
    go_simp
    exact hcl.out
  simp only[Act.put,nm1,nm2,nm3]
  refine wpK_ops rfl (fun w1 hu => ?_) ?_
  · clear hu
    go_simp
    first | done | rfl
  simp only[Act.put,nm1,nm2,nm3]
  refine wpK_ops rfl (fun w1 hu => ?_) ?_
  · clear hu
    go_simp
    first | done | rfl
  simp only[Act.put,nm1,nm2,nm3]
  refine wpK_ops rfl (fun w1 hu => ?_) ?_
  · have cl0 := ((hb2.up ((((((hu7.out.trans hu10.out).trans hu16.out).trans hu19.out).sto (Nat.le_trans ((Nat.le_trans ((Nat.le_trans (hu7.out.size) hu10.out.size)) hu16.out.size)) lbb17.out) hs21.out).trans hu26.out).sto (Nat.le_trans ((Nat.le_trans ((Nat.le_trans ((Nat.le_trans ((Nat.le_trans (hu7.out.size) hu10.out.size)) hu16.out.size)) hu19.out.size)) (Nat.le_of_eq hs21.out.size.symm))) lbb24.out) hs28.out)).up ((Up.refl _).drew.trans hu)).cell (o := 2) rfl
    go_simp
    first | done | rfl
  simp only[Act.put,nm1,nm2,nm3]
  refine wpK_ops rfl (fun w1 hu => ?_) ?_
  · clear hu
    go_simp
    first | done | rfl
  simp only[Act.put,nm1,nm2,nm3]
  refine wpK_ops rfl (fun w1 hu => ?_) ?_
  · clear hu
    go_simp
    first | done | rfl
  simp only[Act.put,nm1,nm2,nm3]
  refine wpK_ops rfl (fun w1 hu => ?_) ?_
  · have cl0 := ((hb5.up (((((hu10.out.trans hu16.out).trans hu19.out).sto (Nat.le_trans ((Nat.le_trans (hu10.out.size) hu16.out.size)) lbb17.out) hs21.out).trans hu26.out).sto (Nat.le_trans ((Nat.le_trans ((Nat.le_trans ((Nat.le_trans (hu10.out.size) hu16.out.size)) hu19.out.size)) (Nat.le_of_eq hs21.out.size.symm))) lbb24.out) hs28.out)).up ((Up.refl _).drew.trans hu)).cell (o := 2) rfl
    go_simp
    first | done | rfl
  simp only[Act.put,nm1,nm2,nm3]
  refine wpK_ops rfl (fun w1 hu => ?_) ?_
  · clear hu
    go_simp
    first | done | rfl
  simp only[Act.put,nm1,nm2,nm3]
  refine wpK_nil ?_
  intro w35 hu hap
  simp only [List.drop_succ_cons, List.drop_zero]
  replace hu := (Up.refl _).drew.trans hu
  clear hap
  have hu36 := Aside0.mk hu
  clear hu
  refine wpp fun k h=>?_;go_simp;apply h;clear h k
  refine wpList_nil (hK30 _ _ ?_)
  refine wp_seq_k fun K37 hK37=>?_
  refine' wp_region_up 6 [Slot.det _, Slot.det _, Slot.det _, Slot.det _, Slot.det _, Slot.det _] (by kernel_rfl) (by kernel_rfl) ?main
  case main =>
   simp only [List.take_succ_cons, List.take_zero]
   refine wpK_ops rfl (fun w1 hu => ?_) ?_
   · clear hu
     go_simp
     first | done | rfl
   simp only[Act.put,nm1,nm2,nm3]
   refine wpK_ops rfl (fun w1 hu => ?_) ?_
   · have cl0 := ((hb22.up ((hu26.out.sto (Nat.le_trans (Nat.le_refl _) lbb24.out) hs28.out).trans hu36.out)).up ((Up.refl _).drew.trans hu)).cell (o := 0) rfl
     go_simp
     first | done | rfl
   simp only[Act.put,nm1,nm2,nm3]
   refine wpK_ops rfl (fun w1 hu => ?_) ?_
   · clear hu
     go_simp
     first | done | rfl
   simp only[Act.put,nm1,nm2,nm3]
   refine wpK_ops rfl (fun w1 hu => ?_) ?_
   · have cl0 := ((hb22.up ((hu26.out.sto (Nat.le_trans (Nat.le_refl _) lbb24.out) hs28.out).trans hu36.out)).up ((Up.refl _).drew.trans hu)).cell (o := 1) rfl
     go_simp
     first | done | rfl
   simp only[Act.put,nm1,nm2,nm3]
   refine wpK_ops rfl (fun w1 hu => ?_) ?_
   · clear hu
     go_simp
     first | done | rfl
   simp only[Act.put,nm1,nm2,nm3]
   refine wpK_ops rfl (fun w1 hu => ?_) ?_
   · clear hu
     go_simp
     first | done | rfl
   simp only[Act.put,nm1,nm2,nm3]
   refine wpK_nil ?_
   intro w38 hu hap
   simp only [List.drop_succ_cons, List.drop_zero]
   replace hu := (Up.refl _).drew.trans hu
   clear hap
   have hu39 := Aside0.mk hu
   clear hu
   refine wpList_nil (hK37 _ _ ?_)
   refine wp_seq_k fun K40 hK40=>?_
   refine wp_seq_k fun K41 hK41=>wp_region_lit ?_
   refine wpp fun k h=>?_;go_simp;apply h;clear h k
   refine wpList_nil (hK41 _ _ ?_)
   refine wp_block ?_
   refine wp_seq_k fun K42 hK42=>wp_region_lit ?_
   iterate 2 (refine wpp fun k h=>?_;go_simp;apply h;clear h k)
   refine wpList_nil (hK42 _ _ ?_)
   have hm44 := Aside0.mk (((((((((hu4.out.trans hu7.out).trans hu10.out).trans hu16.out).trans hu19.out).sto (Nat.le_trans ((Nat.le_trans ((Nat.le_trans ((Nat.le_trans (hu4.out.size) hu7.out.size)) hu10.out.size)) hu16.out.size)) lbb17.out) hs21.out).trans hu26.out).sto (Nat.le_trans ((Nat.le_trans ((Nat.le_trans ((Nat.le_trans ((Nat.le_trans ((Nat.le_trans (hu4.out.size) hu7.out.size)) hu10.out.size)) hu16.out.size)) hu19.out.size)) (Nat.le_of_eq hs21.out.size.symm))) lbb24.out) hs28.out).trans hu36.out).trans hu39.out)
   have h45 := (hb8.up ((((((hu16.out.trans hu19.out).sto (Nat.le_trans (hu16.out.size) lbb17.out) hs21.out).trans hu26.out).sto (Nat.le_trans ((Nat.le_trans ((Nat.le_trans (hu16.out.size) hu19.out.size)) (Nat.le_of_eq hs21.out.size.symm))) lbb24.out) hs28.out).trans hu36.out).trans hu39.out))
   have h46 := (hb22.up (((hu26.out.sto (Nat.le_trans (Nat.le_refl _) lbb24.out) hs28.out).trans hu36.out).trans hu39.out))
   by_cases c43 : (a1 == 1) = true
   ·
    rw [if_pos c43] at H
    have c43n : (a1 != 1) = false := by rw [bne, c43]; rfl
    obtain ⟨⟨t48, t49, t50⟩,A51,H⟩:=Option.bind_eq_some_iff.mp H
    replace A51:=Aside0.mk A51;try dsimp only at H
    simp only [Option.some.injEq, Prod.mk.injEq] at H
    obtain ⟨rfl, rfl, rfl⟩ := H
    try simp only [c43, c43n, Bool.not_true, Bool.not_false]
    refine wp_cond_true rfl ?_
    refine wp_region_lit ?_
    iterate 3 (refine wpp fun k h=>?_;go_simp;apply h;clear h k)
    refine wpList_nil (hK40 _ _ ?_)
    refine wp_seq_k fun K47 hK47=>wp_region_lit ?_
    iterate 6 (refine wpp fun k h=>?_;go_simp;apply h;clear h k)
    refine step_call wn (by go_simp <;> rfl) (spec_l01Normal.calls K a0 (wrap64 (2 * t12)) (wrap64 (2 * (wrap64 (-t13)))) (wrap64 ((wrap64 ((wrap64 (t31 - t33)) - a2_2)) + a3_2)) t48 t49 t50 w38  A51.out) ?_
    rintro e w52 ⟨rfl, hu⟩
    have hu53 := Aside0.mk hu
    clear hu
    refine ⟨_, rfl, ?_⟩
    simp only[Act.put,nm1,nm2,nm3]
    have hB0 := (h45.up hu53.out)
    have cl0 := hB0.cell (o := 0) rfl
    have fr0 := hB0.free 0
    have cl1 := hB0.cell (o := 1) rfl
    have fr1 := hB0.free 1
    have cl2 := hB0.cell (o := 2) rfl
    have fr2 := hB0.free 2
    refine step_store (b := b8) (cs' := [.int .i64 t48, .int .i64 t49, .int .i64 t50]) (T := 34) (W' := (((w52.setCell ⟨b8, 0, none⟩ (.int .i64 t48)).setCell ⟨b8, 1, none⟩ (.int .i64 t49)).setCell ⟨b8, 2, none⟩ (.int .i64 t50))) rfl rfl (by go_simp <;> rfl) ((((Sto.refl _ _).setCell 0 _).setCell 1 _).setCell 2 _) ((((hB0).setCell 0 _).setCell 1 _).setCell 2 _) ?_
    clear hB0 cl0 fr0 cl1 fr1 cl2 fr2
    intro w54 hs hb56
    have hs55 := Aside0.mk hs
    clear hs
    refine wpList_nil (hK47 _ _ ?_)
    refine wp_ret ?_
    refine hQf _ _ _ ?_
    have cr0 := hb56.cell (o := 0) rfl
    have cr1 := hb56.cell (o := 1) rfl
    have cr2 := hb56.cell (o := 2) rfl
    exact bodyPost_ret (v := .agg #[.int .i64 t48, .int .i64 t49, .int .i64 t50]) (by first|rfl|simp [results, Try.results147, go_sem, cr0, cr1, cr2]<;>rfl) rfl ⟨rfl, ((hm44.out.trans hu53.out).sto (Nat.le_trans ((Nat.le_trans (hu4.out.size) hu7.out.size)) lbb8.out) hs55.out)⟩
   rw [if_neg c43] at H; replace c43 := Bool.eq_false_iff.mpr c43
   have c43n : (a1 != 1) = true := by rw [bne, c43]; rfl
   have c43p : ¬ a1 = 1 := fun e => by simp [e] at c43
   try simp only [c43, c43n, Bool.not_true, Bool.not_false]
   refine wp_cond_false rfl ?_
   refine wp_seq_k fun K57 hK57=>wp_region_lit ?_
   iterate 2 (refine wpp fun k h=>?_;go_simp;apply h;clear h k)
   refine wpList_nil (hK57 _ _ ?_)
   by_cases c58 : (a1 == 2) = true
   rotate_left
   ·
    rw [if_neg c58] at H; replace c58 := Bool.eq_false_iff.mpr c58
    have c58n : (a1 != 2) = true := by rw [bne, c58]; rfl
    have c58p : ¬ a1 = 2 := fun e => by simp [e] at c58
    obtain ⟨⟨t71, t72, t73⟩,A74,H⟩:=Option.bind_eq_some_iff.mp H
    replace A74:=Aside0.mk A74;try dsimp only at H
    simp only [Option.some.injEq, Prod.mk.injEq] at H
    obtain ⟨rfl, rfl, rfl⟩ := H
    try simp only [c58, c58n, Bool.not_true, Bool.not_false]
    refine wp_cond_false rfl ?_
    refine wp_skip ?_
    refine hK40 _ _ ?_
    refine wp_seq_k fun K70 hK70=>wp_region_lit ?_
    iterate 6 (refine wpp fun k h=>?_;go_simp;apply h;clear h k)
    refine step_call wn (by go_simp <;> rfl) (spec_l01Normal.calls K a0 (wrap64 (2 * t12)) (wrap64 (2 * t13)) (wrap64 ((wrap64 ((wrap64 (t31 - t33)) - a2_2)) + a3_2)) t71 t72 t73 w38  A74.out) ?_
    rintro e w75 ⟨rfl, hu⟩
    have hu76 := Aside0.mk hu
    clear hu
    refine ⟨_, rfl, ?_⟩
    simp only[Act.put,nm1,nm2,nm3]
    have hB0 := (h45.up hu76.out)
    have cl0 := hB0.cell (o := 0) rfl
    have fr0 := hB0.free 0
    have cl1 := hB0.cell (o := 1) rfl
    have fr1 := hB0.free 1
    have cl2 := hB0.cell (o := 2) rfl
    have fr2 := hB0.free 2
    refine step_store (b := b8) (cs' := [.int .i64 t71, .int .i64 t72, .int .i64 t73]) (T := 34) (W' := (((w75.setCell ⟨b8, 0, none⟩ (.int .i64 t71)).setCell ⟨b8, 1, none⟩ (.int .i64 t72)).setCell ⟨b8, 2, none⟩ (.int .i64 t73))) rfl rfl (by go_simp <;> rfl) ((((Sto.refl _ _).setCell 0 _).setCell 1 _).setCell 2 _) ((((hB0).setCell 0 _).setCell 1 _).setCell 2 _) ?_
    clear hB0 cl0 fr0 cl1 fr1 cl2 fr2
    intro w77 hs hb79
    have hs78 := Aside0.mk hs
    clear hs
    refine wpList_nil (hK70 _ _ ?_)
    refine wp_ret ?_
    refine hQf _ _ _ ?_
    have cr0 := hb79.cell (o := 0) rfl
    have cr1 := hb79.cell (o := 1) rfl
    have cr2 := hb79.cell (o := 2) rfl
    exact bodyPost_ret (v := .agg #[.int .i64 t71, .int .i64 t72, .int .i64 t73]) (by first|rfl|simp [results, Try.results147, go_sem, cr0, cr1, cr2]<;>rfl) rfl ⟨rfl, ((hm44.out.trans hu76.out).sto (Nat.le_trans ((Nat.le_trans (hu4.out.size) hu7.out.size)) lbb8.out) hs78.out)⟩
   rw [if_pos c58] at H
   have c58n : (a1 != 2) = false := by rw [bne, c58]; rfl
   obtain ⟨⟨t61, t62, t63⟩,A64,H⟩:=Option.bind_eq_some_iff.mp H
   replace A64:=Aside0.mk A64;try dsimp only at H
   simp only [Option.some.injEq, Prod.mk.injEq] at H
   obtain ⟨rfl, rfl, rfl⟩ := H
   try simp only [c58, c58n, Bool.not_true, Bool.not_false]
   refine wp_cond_true rfl ?_
   refine wp_seq_k fun K59 hK59=>wp_region_lit ?_
   refine wpp fun k h=>?_;go_simp;apply h;clear h k
   have cl0 := h46.cell (o := 1) rfl
   refine wpp fun k h=>?_;go_simp;apply h;clear h k
   clear cl0
   refine wpp fun k h=>?_;go_simp;apply h;clear h k
   refine wpList_nil (hK59 _ _ ?_)
   refine wp_region_lit ?_
   refine wpp fun k h=>?_;go_simp;apply h;clear h k
   have cl0 := h46.cell (o := 0) rfl
   refine wpp fun k h=>?_;go_simp;apply h;clear h k
   clear cl0
   refine wpp fun k h=>?_;go_simp;apply h;clear h k
   refine wpList_nil (hK40 _ _ ?_)
   refine wp_seq_k fun K60 hK60=>wp_region_lit ?_
   iterate 6 (refine wpp fun k h=>?_;go_simp;apply h;clear h k)
   refine step_call wn (by go_simp <;> rfl) (spec_l01Normal.calls K a0 (wrap64 (2 * t13)) (wrap64 (2 * t12)) (wrap64 ((wrap64 ((wrap64 (t31 - t33)) - a2_2)) + a3_2)) t61 t62 t63 w38  A64.out) ?_
   rintro e w65 ⟨rfl, hu⟩
   have hu66 := Aside0.mk hu
   clear hu
   refine ⟨_, rfl, ?_⟩
   simp only[Act.put,nm1,nm2,nm3]
   have hB0 := (h45.up hu66.out)
   have cl0 := hB0.cell (o := 0) rfl
   have fr0 := hB0.free 0
   have cl1 := hB0.cell (o := 1) rfl
   have fr1 := hB0.free 1
   have cl2 := hB0.cell (o := 2) rfl
   have fr2 := hB0.free 2
   refine step_store (b := b8) (cs' := [.int .i64 t61, .int .i64 t62, .int .i64 t63]) (T := 34) (W' := (((w65.setCell ⟨b8, 0, none⟩ (.int .i64 t61)).setCell ⟨b8, 1, none⟩ (.int .i64 t62)).setCell ⟨b8, 2, none⟩ (.int .i64 t63))) rfl rfl (by go_simp <;> rfl) ((((Sto.refl _ _).setCell 0 _).setCell 1 _).setCell 2 _) ((((hB0).setCell 0 _).setCell 1 _).setCell 2 _) ?_
   clear hB0 cl0 fr0 cl1 fr1 cl2 fr2
   intro w67 hs hb69
   have hs68 := Aside0.mk hs
   clear hs
   refine wpList_nil (hK60 _ _ ?_)
   refine wp_ret ?_
   refine hQf _ _ _ ?_
   have cr0 := hb69.cell (o := 0) rfl
   have cr1 := hb69.cell (o := 1) rfl
   have cr2 := hb69.cell (o := 2) rfl
   exact bodyPost_ret (v := .agg #[.int .i64 t61, .int .i64 t62, .int .i64 t63]) (by first|rfl|simp [results, Try.results147, go_sem, cr0, cr1, cr2]<;>rfl) rfl ⟨rfl, ((hm44.out.trans hu66.out).sto (Nat.le_trans ((Nat.le_trans (hu4.out.size) hu7.out.size)) lbb8.out) hs68.out)⟩

set_option maxHeartbeats 40000000 in
set_option maxRecDepth 100000 in
theorem spec_RadicalLine.calls (K : Nat) (a0 : Int) (a1 : Int) (a2_0 : Int) (a2_1 : Int) (a2_2 : Int) (a3_0 : Int) (a3_1 : Int) (a3_2 : Int) (r0 : Int) (r1 : Int) (r2 : Int) (r3 : Int) (w : World)  (h : spec_RadicalLine.f K a0 a1 a2_0 a2_1 a2_2 a3_0 a3_1 a3_2 = some (r0, r1, r2, r3)) :
    Calls Try.prog 53 #[.int .i64 a0, .int .i64 a1, .agg #[.int .i64 a2_0, .int .i64 a2_1, .int .i64 a2_2], .agg #[.int .i64 a3_0, .int .i64 a3_1, .int .i64 a3_2]] w fun e w' => e = .returned (.tuple #[.agg #[.int .i64 r0, .int .i64 r1, .int .i64 r2], .int .i64 r3]) ∧ Up w w' := by
 have H : (((spec_l06Code.f K a0 a1 ([(a2_0, a2_1, a2_2), (a3_0, a3_1, a3_2)])).bind fun t15 => (if (t15 == 0) = true then (if (a2_0 == a3_0 && a2_1 == a3_1) = true then some (0, 0, 0, 5) else ((spec_l06Radical.f K a0 a1 a2_0 a2_1 a2_2 a3_0 a3_1 a3_2).bind fun (t35, t36, t37) => some (t35, t36, t37, 0))) else some (0, 0, 0, t15))) : Option (Int × Int × Int × Int)) = some (r0, r1, r2, r3) := h
 clear h
 obtain ⟨t15,A16,H⟩:=Option.bind_eq_some_iff.mp H
 replace A16:=Aside0.mk A16;try dsimp only at H
 go_enter Try.func53, Try.ntmps53
 refine wp_hide (fun Qf hQf => ?_)
 refine wp_seq_k fun K1 hK1=>wp_region_lit ?_
 refine step_new (cs := [.int .i64 a2_0, .int .i64 a2_1, .int .i64 a2_2]) (T := 71) (f := fun b => .pointer (some ⟨b, 0, none⟩)) rfl (by go_simp <;> rfl) ?_
 intro b2 w3 hu lb hb2
 simp only[Act.put,nm1,nm2,nm3]
 have lbb2 := Aside0.mk lb
 have ltb2 := Aside0.mk hb2.lt
 clear lb
 have hu4 := Aside0.mk hu
 clear hu
 refine step_new (cs := [.int .i64 a3_0, .int .i64 a3_1, .int .i64 a3_2]) (T := 71) (f := fun b => .pointer (some ⟨b, 0, none⟩)) rfl (by go_simp <;> rfl) ?_
 intro b5 w6 hu lb hb5
 simp only[Act.put,nm1,nm2,nm3]
 have lbb5 := Aside0.mk lb
 have ltb5 := Aside0.mk hb5.lt
 clear lb
 have hu7 := Aside0.mk hu
 clear hu
 refine step_new (cs := [.int .i64 0, .int .i64 0, .int .i64 0]) (T := 34) (f := fun b => .pointer (some ⟨b, 0, none⟩)) rfl (by go_simp <;> rfl) ?_
 intro b8 w9 hu lb hb8
 simp only[Act.put,nm1,nm2,nm3]
 have lbb8 := Aside0.mk lb
 have ltb8 := Aside0.mk hb8.lt
 clear lb
 have hu10 := Aside0.mk hu
 clear hu
 refine wpp fun k h=>?_;go_simp;apply h;clear h k
 refine wpList_nil (hK1 _ _ ?_)
 refine wp_seq_k fun K11 hK11=>wp_region_lit ?_
 iterate 2 (refine wpp fun k h=>?_;go_simp;apply h;clear h k)
 have cl0 := (hb2.up (hu7.out.trans hu10.out)).cell (o := 0) rfl
 have cl1 := (hb2.up (hu7.out.trans hu10.out)).cell (o := 1) rfl
 have cl2 := (hb2.up (hu7.out.trans hu10.out)).cell (o := 2) rfl
 refine wpp fun k h=>?_;go_simp;apply h;clear h k
 clear cl0 cl1 cl2
 have cl0 := (hb5.up hu10.out).cell (o := 0) rfl
 have cl1 := (hb5.up hu10.out).cell (o := 1) rfl
 have cl2 := (hb5.up hu10.out).cell (o := 2) rfl
 refine wpp fun k h=>?_;go_simp;apply h;clear h k
 clear cl0 cl1 cl2
 refine step_new (cs := [.int .i64 a2_0, .int .i64 a2_1, .int .i64 a2_2, .int .i64 a3_0, .int .i64 a3_1, .int .i64 a3_2]) (T := 71) (f := fun b => .slice (some ⟨b, 0, none⟩) 2 2) rfl (by go_simp <;> rfl) ?_
 intro b12 w13 hu lb hb12
 simp only[Act.put,nm1,nm2,nm3]
 have lbb12 := Aside0.mk lb
 have ltb12 := Aside0.mk hb12.lt
 clear lb
 have hu14 := Aside0.mk hu
 clear hu
 refine step_call wn (by go_simp <;> rfl) (spec_l06Code.calls K a0 a1 (some ⟨b12, 0, none⟩) 2 ([(a2_0, a2_1, a2_2), (a3_0, a3_1, a3_2)]) t15 w13 (Rd.of_blk (E := e3) (xs := [(a2_0, a2_1, a2_2), (a3_0, a3_1, a3_2)]) (o := 0) hb12 (by simp) (fun j u hu => by rcases j with _ | _ | _ | _ | _ | _ | j <;> simp_all [Enc.flat, e3])) A16.out) ?_
 rintro e w17 ⟨rfl, hu⟩
 have hu18 := Aside0.mk hu
 clear hu
 refine ⟨_, rfl, ?_⟩
 simp only[Act.put,nm1,nm2,nm3]
 refine wpp fun k h=>?_;go_simp;apply h;clear h k
 refine wpList_nil (hK11 _ _ ?_)
 refine wp_seq_k fun K19 hK19=>?_
 refine wp_seq_k fun K20 hK20=>wp_region_lit ?_
 iterate 3 (refine wpp fun k h=>?_;go_simp;apply h;clear h k)
 have hm22 := Aside0.mk ((((hu4.out.trans hu7.out).trans hu10.out).trans hu14.out).trans hu18.out)
 have h23 := (hb2.up (((hu7.out.trans hu10.out).trans hu14.out).trans hu18.out))
 by_cases c21 : (t15 == 0) = true
 rotate_left
 ·
  rw [if_neg c21] at H; replace c21 := Bool.eq_false_iff.mpr c21
  have c21n : (t15 != 0) = true := by rw [bne, c21]; rfl
  have c21p : ¬ t15 = 0 := fun e => by simp [e] at c21
  simp only [Option.some.injEq, Prod.mk.injEq] at H
  obtain ⟨rfl, rfl, rfl, rfl⟩ := H
  try simp only [c21, c21n, Bool.not_true, Bool.not_false]
  refine step_no rfl ?_
  simp only[Act.put,nm1,nm2,nm3]
  refine step_no rfl ?_
  simp only[Act.put,nm1,nm2,nm3]
  refine step_no rfl ?_
  simp only[Act.put,nm1,nm2,nm3]
  refine step_no rfl ?_
  simp only[Act.put,nm1,nm2,nm3]
  refine step_no rfl ?_
  simp only[Act.put,nm1,nm2,nm3]
  refine wpp fun k h=>?_;go_simp;apply h;clear h k
  refine wpList_nil (hK20 _ _ ?_)
  refine wp_cond_false rfl ?_
  refine wp_skip ?_
  refine hK19 _ _ ?_
  refine wp_seq_k fun K45 hK45=>?_
  refine wp_seq_k fun K46 hK46=>wp_region_lit ?_
  iterate 2 (refine wpp fun k h=>?_;go_simp;apply h;clear h k)
  refine wpList_nil (hK46 _ _ ?_)
  refine wp_cond_true rfl ?_
  refine wp_seq_k fun K47 hK47=>wp_region_lit ?_
  iterate 2 (refine wpp fun k h=>?_;go_simp;apply h;clear h k)
  have hB0 := (hb8.up (hu14.out.trans hu18.out))
  have cl0 := hB0.cell (o := 0) rfl
  have fr0 := hB0.free 0
  have cl1 := hB0.cell (o := 1) rfl
  have fr1 := hB0.free 1
  have cl2 := hB0.cell (o := 2) rfl
  have fr2 := hB0.free 2
  refine step_store (b := b8) (cs' := [.int .i64 0, .int .i64 0, .int .i64 0]) (T := 34) (W' := (((w17.setCell ⟨b8, 0, none⟩ (.int .i64 0)).setCell ⟨b8, 1, none⟩ (.int .i64 0)).setCell ⟨b8, 2, none⟩ (.int .i64 0))) rfl rfl (by go_simp <;> rfl) ((((Sto.refl _ _).setCell 0 _).setCell 1 _).setCell 2 _) ((((hB0).setCell 0 _).setCell 1 _).setCell 2 _) ?_
  clear hB0 cl0 fr0 cl1 fr1 cl2 fr2
  intro w48 hs hb50
  have hs49 := Aside0.mk hs
  clear hs
  have h51 := h23.sto hs49.out (Nat.ne_of_lt (Nat.lt_of_lt_of_le (Nat.lt_of_lt_of_le ltb2.out (hu7.out.size)) lbb8.out))
  refine wpp fun k h=>?_;go_simp;apply h;clear h k
  refine wpList_nil (hK47 _ _ ?_)
  refine wp_ret ?_
  refine hQf _ _ _ ?_
  have cr0 := hb50.cell (o := 0) rfl
  have cr1 := hb50.cell (o := 1) rfl
  have cr2 := hb50.cell (o := 2) rfl
  exact bodyPost_ret (v := .tuple #[.agg #[.int .i64 0, .int .i64 0, .int .i64 0], .int .i64 t15]) (by first|rfl|simp [results, Try.results53, go_sem, cr0, cr1, cr2]<;>rfl) rfl ⟨rfl, (hm22.out.sto (Nat.le_trans ((Nat.le_trans (hu4.out.size) hu7.out.size)) lbb8.out) hs49.out)⟩
 rw [if_pos c21] at H
 have c21n : (t15 != 0) = false := by rw [bne, c21]; rfl
 try simp only [c21, c21n, Bool.not_true, Bool.not_false]
 refine wpList_step fun k h=>?_;go_simp;apply h;clear h k
 have cl0 := h23.cell (o := 0) rfl
 have cl1 := h23.cell (o := 1) rfl
 refine wpList_step fun k h=>?_;go_simp;apply h;clear h k
 clear cl0 cl1
 refine wpList_step fun k h=>?_;go_simp;apply h;clear h k
 have cl0 := (hb5.up ((hu10.out.trans hu14.out).trans hu18.out)).cell (o := 0) rfl
 have cl1 := (hb5.up ((hu10.out.trans hu14.out).trans hu18.out)).cell (o := 1) rfl
 refine wpList_step fun k h=>?_;go_simp;apply h;clear h k
 clear cl0 cl1
 refine wpList_step fun k h=>?_;go_simp;apply h;clear h k
 refine wpp fun k h=>?_;go_simp;apply h;clear h k
 refine wpList_nil (hK20 _ _ ?_)
 by_cases c24 : (a2_0 == a3_0 && a2_1 == a3_1) = true
 ·
  rw [if_pos c24] at H
  have c24n : (!a2_0 == a3_0 || !a2_1 == a3_1) = false := by simp only [← Bool.not_and, c24, Bool.not_true, Bool.not_false]
  simp only [Option.some.injEq, Prod.mk.injEq] at H
  obtain ⟨rfl, rfl, rfl, rfl⟩ := H
  try simp only [c24, c24n, Bool.not_true, Bool.not_false]
  refine wp_cond_true rfl ?_
  refine wp_region_lit ?_
  refine wpp fun k h=>?_;go_simp;apply h;clear h k
  refine wpList_nil (hK19 _ _ ?_)
  refine wp_seq_k fun K25 hK25=>?_
  refine wp_seq_k fun K26 hK26=>wp_region_lit ?_
  iterate 2 (refine wpp fun k h=>?_;go_simp;apply h;clear h k)
  refine wpList_nil (hK26 _ _ ?_)
  refine wp_cond_true rfl ?_
  refine wp_seq_k fun K27 hK27=>wp_region_lit ?_
  iterate 2 (refine wpp fun k h=>?_;go_simp;apply h;clear h k)
  have hB0 := (hb8.up (hu14.out.trans hu18.out))
  have cl0 := hB0.cell (o := 0) rfl
  have fr0 := hB0.free 0
  have cl1 := hB0.cell (o := 1) rfl
  have fr1 := hB0.free 1
  have cl2 := hB0.cell (o := 2) rfl
  have fr2 := hB0.free 2
  refine step_store (b := b8) (cs' := [.int .i64 0, .int .i64 0, .int .i64 0]) (T := 34) (W' := (((w17.setCell ⟨b8, 0, none⟩ (.int .i64 0)).setCell ⟨b8, 1, none⟩ (.int .i64 0)).setCell ⟨b8, 2, none⟩ (.int .i64 0))) rfl rfl (by go_simp <;> rfl) ((((Sto.refl _ _).setCell 0 _).setCell 1 _).setCell 2 _) ((((hB0).setCell 0 _).setCell 1 _).setCell 2 _) ?_
  clear hB0 cl0 fr0 cl1 fr1 cl2 fr2
  intro w28 hs hb30
  have hs29 := Aside0.mk hs
  clear hs
  have h31 := h23.sto hs29.out (Nat.ne_of_lt (Nat.lt_of_lt_of_le (Nat.lt_of_lt_of_le ltb2.out (hu7.out.size)) lbb8.out))
  refine wpp fun k h=>?_;go_simp;apply h;clear h k
  refine wpList_nil (hK27 _ _ ?_)
  refine wp_ret ?_
  refine hQf _ _ _ ?_
  have cr0 := hb30.cell (o := 0) rfl
  have cr1 := hb30.cell (o := 1) rfl
  have cr2 := hb30.cell (o := 2) rfl
  exact bodyPost_ret (v := .tuple #[.agg #[.int .i64 0, .int .i64 0, .int .i64 0], .int .i64 5]) (by first|rfl|simp [results, Try.results53, go_sem, cr0, cr1, cr2]<;>rfl) rfl ⟨rfl, (hm22.out.sto (Nat.le_trans ((Nat.le_trans (hu4.out.size) hu7.out.size)) lbb8.out) hs29.out)⟩
 rw [if_neg c24] at H; replace c24 := Bool.eq_false_iff.mpr c24
 have c24n : (!a2_0 == a3_0 || !a2_1 == a3_1) = true := by simp only [← Bool.not_and, c24, Bool.not_true, Bool.not_false]
 obtain ⟨⟨t35, t36, t37⟩,A38,H⟩:=Option.bind_eq_some_iff.mp H
 replace A38:=Aside0.mk A38;try dsimp only at H
 simp only [Option.some.injEq, Prod.mk.injEq] at H
 obtain ⟨rfl, rfl, rfl, rfl⟩ := H
 try simp only [c24, c24n, Bool.not_true, Bool.not_false]
 refine wp_cond_false rfl ?_
 refine wp_skip ?_
 refine hK19 _ _ ?_
 refine wp_seq_k fun K32 hK32=>?_
 refine wp_seq_k fun K33 hK33=>wp_region_lit ?_
 iterate 2 (refine wpp fun k h=>?_;go_simp;apply h;clear h k)
 refine wpList_nil (hK33 _ _ ?_)
 refine wp_cond_false rfl ?_
 refine wp_skip ?_
 refine hK32 _ _ ?_
 refine wp_seq_k fun K34 hK34=>wp_region_lit ?_
 iterate 2 (refine wpp fun k h=>?_;go_simp;apply h;clear h k)
 have cl0 := h23.cell (o := 0) rfl
 have cl1 := h23.cell (o := 1) rfl
 have cl2 := h23.cell (o := 2) rfl
 refine wpp fun k h=>?_;go_simp;apply h;clear h k
 clear cl0 cl1 cl2
 have cl0 := (hb5.up ((hu10.out.trans hu14.out).trans hu18.out)).cell (o := 0) rfl
 have cl1 := (hb5.up ((hu10.out.trans hu14.out).trans hu18.out)).cell (o := 1) rfl
 have cl2 := (hb5.up ((hu10.out.trans hu14.out).trans hu18.out)).cell (o := 2) rfl
 refine wpp fun k h=>?_;go_simp;apply h;clear h k
 clear cl0 cl1 cl2
 refine step_call wn (by go_simp <;> rfl) (spec_l06Radical.calls K a0 a1 a2_0 a2_1 a2_2 a3_0 a3_1 a3_2 t35 t36 t37 w17  A38.out) ?_
 rintro e w39 ⟨rfl, hu⟩
 have hu40 := Aside0.mk hu
 clear hu
 refine ⟨_, rfl, ?_⟩
 simp only[Act.put,nm1,nm2,nm3]
 have hB0 := (hb8.up ((hu14.out.trans hu18.out).trans hu40.out))
 have cl0 := hB0.cell (o := 0) rfl
 have fr0 := hB0.free 0
 have cl1 := hB0.cell (o := 1) rfl
 have fr1 := hB0.free 1
 have cl2 := hB0.cell (o := 2) rfl
 have fr2 := hB0.free 2
 refine step_store (b := b8) (cs' := [.int .i64 t35, .int .i64 t36, .int .i64 t37]) (T := 34) (W' := (((w39.setCell ⟨b8, 0, none⟩ (.int .i64 t35)).setCell ⟨b8, 1, none⟩ (.int .i64 t36)).setCell ⟨b8, 2, none⟩ (.int .i64 t37))) rfl rfl (by go_simp <;> rfl) ((((Sto.refl _ _).setCell 0 _).setCell 1 _).setCell 2 _) ((((hB0).setCell 0 _).setCell 1 _).setCell 2 _) ?_
 clear hB0 cl0 fr0 cl1 fr1 cl2 fr2
 intro w41 hs hb43
 have hs42 := Aside0.mk hs
 clear hs
 have h44 := (h23.up hu40.out).sto hs42.out (Nat.ne_of_lt (Nat.lt_of_lt_of_le (Nat.lt_of_lt_of_le ltb2.out (hu7.out.size)) lbb8.out))
 refine wpp fun k h=>?_;go_simp;apply h;clear h k
 refine wpList_nil (hK34 _ _ ?_)
 refine wp_ret ?_
 refine hQf _ _ _ ?_
 have cr0 := hb43.cell (o := 0) rfl
 have cr1 := hb43.cell (o := 1) rfl
 have cr2 := hb43.cell (o := 2) rfl
 exact bodyPost_ret (v := .tuple #[.agg #[.int .i64 t35, .int .i64 t36, .int .i64 t37], .int .i64 0]) (by first|rfl|simp [results, Try.results53, go_sem, cr0, cr1, cr2]<;>rfl) rfl ⟨rfl, ((hm22.out.trans hu40.out).sto (Nat.le_trans ((Nat.le_trans (hu4.out.size) hu7.out.size)) lbb8.out) hs42.out)⟩

set_option maxHeartbeats 40000000 in
set_option maxRecDepth 100000 in
theorem impl_MeetCircles_1.calls (K : Nat) (bf0 : Nat) (f0_0 : Int) (bf1 : Nat) (f1_0 : Int) (bf2 : Nat) (f2_0 : Int) (f2_1 : Int) (f2_2 : Int) (bf3 : Nat) (f3_0 : Int) (f3_1 : Int) (f3_2 : Int) (r0 : Bool) (w : World) (hf0 : Blk w bf0 [.int .i64 f0_0] 2) (hf1 : Blk w bf1 [.int .i64 f1_0] 2) (hf2 : Blk w bf2 [.int .i64 f2_0, .int .i64 f2_1, .int .i64 f2_2] 71) (hf3 : Blk w bf3 [.int .i64 f3_0, .int .i64 f3_1, .int .i64 f3_2] 71) (h : impl_MeetCircles_1.f K f0_0 f1_0 f2_0 f2_1 f2_2 f3_0 f3_1 f3_2 = some (r0)) :
    Calls Try.prog 148 #[.pointer (some ⟨bf0, 0, none⟩), .pointer (some ⟨bf1, 0, none⟩), .pointer (some ⟨bf2, 0, none⟩), .pointer (some ⟨bf3, 0, none⟩)] w fun e w' => e = .returned (.bool r0) ∧ Up w w' := by
 have H : (((impl_isColour.f K f0_0).bind fun t3 => (if t3 = true then ((impl_isCircle.f K f1_0 f2_0 f2_1 f2_2).bind fun t8 => (if t8 = true then ((impl_isCircle.f K f1_0 f3_0 f3_1 f3_2).bind fun t13 => some t13) else some false)) else some false)) : Option (Bool)) = some (r0) := h
 clear h
 obtain ⟨t3,A4,H⟩:=Option.bind_eq_some_iff.mp H
 replace A4:=Aside0.mk A4;try dsimp only at H
 have ltbf0 := Aside0.mk hf0.lt
 have ltbf1 := Aside0.mk hf1.lt
 have ltbf2 := Aside0.mk hf2.lt
 have ltbf3 := Aside0.mk hf3.lt
 go_enter Try.func148, Try.ntmps148
 refine wp_hide (fun Qf hQf => ?_)
 refine wp_seq_k fun K1 hK1=>wp_region_lit ?_
 refine wpp fun k h=>?_;go_simp;apply h;clear h k
 refine wpList_nil (hK1 _ _ ?_)
 refine wp_seq_k fun K2 hK2=>wp_region_lit ?_
 have cl0 := hf0.cell (o := 0) rfl
 refine wpp fun k h=>?_;go_simp;apply h;clear h k
 clear cl0
 refine step_call wn (by go_simp <;> rfl) (impl_isColour.calls K f0_0 t3 w  A4.out) ?_
 rintro e w5 ⟨rfl, hu⟩
 have hu6 := Aside0.mk hu
 clear hu
 refine ⟨_, rfl, ?_⟩
 simp only[Act.put,nm1,nm2,nm3]
 refine wpp fun k h=>?_;go_simp;apply h;clear h k
 by_cases c7 : (t3) = true
 rotate_left
 ·
  rw [if_neg c7] at H; replace c7 := Bool.eq_false_iff.mpr c7
  subst c7
  obtain rfl := Option.some.inj H
  refine step_no rfl ?_
  simp only[Act.put,nm1,nm2,nm3]
  refine step_no rfl ?_
  simp only[Act.put,nm1,nm2,nm3]
  refine step_no rfl ?_
  simp only[Act.put,nm1,nm2,nm3]
  iterate 2 (refine wpp fun k h=>?_;go_simp;apply h;clear h k)
  refine step_no rfl ?_
  simp only[Act.put,nm1,nm2,nm3]
  refine step_no rfl ?_
  simp only[Act.put,nm1,nm2,nm3]
  refine step_no rfl ?_
  simp only[Act.put,nm1,nm2,nm3]
  iterate 2 (refine wpp fun k h=>?_;go_simp;apply h;clear h k)
  refine wpList_nil (hK2 _ _ ?_)
  refine wp_ret ?_
  refine hQf _ _ _ ?_
  exact bodyPost_ret (v := .bool false) (by first|rfl|simp [results, Try.results148, go_sem]<;>rfl) rfl ⟨rfl, hu6.out⟩
 rw [if_pos c7] at H
 subst c7
 obtain ⟨t8,A9,H⟩:=Option.bind_eq_some_iff.mp H
 replace A9:=Aside0.mk A9;try dsimp only at H
 have cl0 := (hf1.up hu6.out).cell (o := 0) rfl
 refine wpList_step fun k h=>?_;go_simp;apply h;clear h k
 clear cl0
 have cl0 := (hf2.up hu6.out).cell (o := 0) rfl
 have cl1 := (hf2.up hu6.out).cell (o := 1) rfl
 have cl2 := (hf2.up hu6.out).cell (o := 2) rfl
 refine wpList_step fun k h=>?_;go_simp;apply h;clear h k
 clear cl0 cl1 cl2
 refine step_call rfl (by go_simp <;> rfl) (impl_isCircle.calls K f1_0 f2_0 f2_1 f2_2 t8 w5  A9.out) ?_
 rintro e w10 ⟨rfl, hu⟩
 have hu11 := Aside0.mk hu
 clear hu
 refine ⟨_, rfl, ?_⟩
 simp only[Act.put,nm1,nm2,nm3]
 iterate 2 (refine wpp fun k h=>?_;go_simp;apply h;clear h k)
 by_cases c12 : (t8) = true
 rotate_left
 ·
  rw [if_neg c12] at H; replace c12 := Bool.eq_false_iff.mpr c12
  subst c12
  obtain rfl := Option.some.inj H
  refine step_no rfl ?_
  simp only[Act.put,nm1,nm2,nm3]
  refine step_no rfl ?_
  simp only[Act.put,nm1,nm2,nm3]
  refine step_no rfl ?_
  simp only[Act.put,nm1,nm2,nm3]
  iterate 2 (refine wpp fun k h=>?_;go_simp;apply h;clear h k)
  refine wpList_nil (hK2 _ _ ?_)
  refine wp_ret ?_
  refine hQf _ _ _ ?_
  exact bodyPost_ret (v := .bool false) (by first|rfl|simp [results, Try.results148, go_sem]<;>rfl) rfl ⟨rfl, (hu6.out.trans hu11.out)⟩
 rw [if_pos c12] at H
 subst c12
 obtain ⟨t13,A14,H⟩:=Option.bind_eq_some_iff.mp H
 replace A14:=Aside0.mk A14;try dsimp only at H
 obtain rfl := Option.some.inj H
 have cl0 := (hf1.up (hu6.out.trans hu11.out)).cell (o := 0) rfl
 refine wpList_step fun k h=>?_;go_simp;apply h;clear h k
 clear cl0
 have cl0 := (hf3.up (hu6.out.trans hu11.out)).cell (o := 0) rfl
 have cl1 := (hf3.up (hu6.out.trans hu11.out)).cell (o := 1) rfl
 have cl2 := (hf3.up (hu6.out.trans hu11.out)).cell (o := 2) rfl
 refine wpList_step fun k h=>?_;go_simp;apply h;clear h k
 clear cl0 cl1 cl2
 refine step_call rfl (by go_simp <;> rfl) (impl_isCircle.calls K f1_0 f3_0 f3_1 f3_2 t13 w10  A14.out) ?_
 rintro e w15 ⟨rfl, hu⟩
 have hu16 := Aside0.mk hu
 clear hu
 refine ⟨_, rfl, ?_⟩
 simp only[Act.put,nm1,nm2,nm3]
 iterate 2 (refine wpp fun k h=>?_;go_simp;apply h;clear h k)
 refine wpList_nil (hK2 _ _ ?_)
 refine wp_ret ?_
 refine hQf _ _ _ ?_
 exact bodyPost_ret (v := .bool t13) (by first|rfl|simp [results, Try.results148, go_sem]<;>rfl) rfl ⟨rfl, ((hu6.out.trans hu11.out).trans hu16.out)⟩

set_option maxHeartbeats 40000000 in
set_option maxRecDepth 100000 in
theorem impl_asked__impl_MeetCircles_1.calls (K : Nat) (a0 : Int) (bc1_0 : Nat) (c1_0_0 : Int) (bc1_1 : Nat) (c1_1_0 : Int) (bc1_2 : Nat) (c1_2_0 : Int) (c1_2_1 : Int) (c1_2_2 : Int) (bc1_3 : Nat) (c1_3_0 : Int) (c1_3_1 : Int) (c1_3_2 : Int) (r0 : Int) (w : World) (hc1_0 : Blk w bc1_0 [.int .i64 c1_0_0] 2) (hc1_1 : Blk w bc1_1 [.int .i64 c1_1_0] 2) (hc1_2 : Blk w bc1_2 [.int .i64 c1_2_0, .int .i64 c1_2_1, .int .i64 c1_2_2] 71) (hc1_3 : Blk w bc1_3 [.int .i64 c1_3_0, .int .i64 c1_3_1, .int .i64 c1_3_2] 71) (h : impl_asked__impl_MeetCircles_1.f K a0 c1_0_0 c1_1_0 c1_2_0 c1_2_1 c1_2_2 c1_3_0 c1_3_1 c1_3_2 = some (r0)) :
    Calls Try.prog 67 #[.int .i64 a0, .func (.func 148) #[] #[.pointer (some ⟨bc1_0, 0, none⟩), .pointer (some ⟨bc1_1, 0, none⟩), .pointer (some ⟨bc1_2, 0, none⟩), .pointer (some ⟨bc1_3, 0, none⟩)]] w fun e w' => e = .returned (.int .i64 r0) ∧ Up w w' := by
 have H : (((impl_IsField.f K a0).bind fun t4 => (if t4 = true then ((impl_MeetCircles_1.f K c1_0_0 c1_1_0 c1_2_0 c1_2_1 c1_2_2 c1_3_0 c1_3_1 c1_3_2).bind fun t11 => (if t11 = true then some 0 else some 2)) else some 1)) : Option (Int)) = some (r0) := h
 clear h
 obtain ⟨t4,A5,H⟩:=Option.bind_eq_some_iff.mp H
 replace A5:=Aside0.mk A5;try dsimp only at H
 have ltbc1_0 := Aside0.mk hc1_0.lt
 have ltbc1_1 := Aside0.mk hc1_1.lt
 have ltbc1_2 := Aside0.mk hc1_2.lt
 have ltbc1_3 := Aside0.mk hc1_3.lt
 go_enter Try.func67, Try.ntmps67
 refine wp_hide (fun Qf hQf => ?_)
 refine wp_seq_k fun K1 hK1=>wp_region_lit ?_
 refine wpp fun k h=>?_;go_simp;apply h;clear h k
 refine wpList_nil (hK1 _ _ ?_)
 refine wp_seq_k fun K2 hK2=>?_
 refine wp_seq_k fun K3 hK3=>wp_region_lit ?_
 refine wpp fun k h=>?_;go_simp;apply h;clear h k
 refine step_call wn (by go_simp <;> rfl) (impl_IsField.calls K a0 t4 w  A5.out) ?_
 rintro e w6 ⟨rfl, hu⟩
 have hu7 := Aside0.mk hu
 clear hu
 refine ⟨_, rfl, ?_⟩
 simp only[Act.put,nm1,nm2,nm3]
 refine wpp fun k h=>?_;go_simp;apply h;clear h k
 refine wpList_nil (hK3 _ _ ?_)
 by_cases c8 : (t4) = true
 rotate_left
 ·
  rw [if_neg c8] at H; replace c8 := Bool.eq_false_iff.mpr c8
  subst c8
  obtain rfl := Option.some.inj H
  refine wp_cond_true rfl ?_
  refine wp_seq_k fun K18 hK18=>wp_region_lit ?_
  refine wpp fun k h=>?_;go_simp;apply h;clear h k
  refine wpList_nil (hK18 _ _ ?_)
  refine wp_ret ?_
  refine hQf _ _ _ ?_
  exact bodyPost_ret (v := .int .i64 1) (by first|rfl|simp [results, Try.results67, go_sem]<;>rfl) rfl ⟨rfl, hu7.out⟩
 rw [if_pos c8] at H
 subst c8
 obtain ⟨t11,A12,H⟩:=Option.bind_eq_some_iff.mp H
 replace A12:=Aside0.mk A12;try dsimp only at H
 refine wp_cond_false rfl ?_
 refine wp_skip ?_
 refine hK2 _ _ ?_
 refine wp_seq_k fun K9 hK9=>?_
 refine wp_seq_k fun K10 hK10=>wp_region_lit ?_
 refine wpp fun k h=>?_;go_simp;apply h;clear h k
 refine step_call wn (by go_simp <;> rfl) (impl_MeetCircles_1.calls K bc1_0 c1_0_0 bc1_1 c1_1_0 bc1_2 c1_2_0 c1_2_1 c1_2_2 bc1_3 c1_3_0 c1_3_1 c1_3_2 t11 w6 (hc1_0.up hu7.out) (hc1_1.up hu7.out) (hc1_2.up hu7.out) (hc1_3.up hu7.out) A12.out) ?_
 rintro e w13 ⟨rfl, hu⟩
 have hu14 := Aside0.mk hu
 clear hu
 refine ⟨_, rfl, ?_⟩
 simp only[Act.put,nm1,nm2,nm3]
 refine wpp fun k h=>?_;go_simp;apply h;clear h k
 refine wpList_nil (hK10 _ _ ?_)
 by_cases c15 : (t11) = true
 rotate_left
 ·
  rw [if_neg c15] at H; replace c15 := Bool.eq_false_iff.mpr c15
  subst c15
  obtain rfl := Option.some.inj H
  refine wp_cond_true rfl ?_
  refine wp_seq_k fun K17 hK17=>wp_region_lit ?_
  refine wpp fun k h=>?_;go_simp;apply h;clear h k
  refine wpList_nil (hK17 _ _ ?_)
  refine wp_ret ?_
  refine hQf _ _ _ ?_
  exact bodyPost_ret (v := .int .i64 2) (by first|rfl|simp [results, Try.results67, go_sem]<;>rfl) rfl ⟨rfl, (hu7.out.trans hu14.out)⟩
 rw [if_pos c15] at H
 subst c15
 obtain rfl := Option.some.inj H
 refine wp_cond_false rfl ?_
 refine wp_skip ?_
 refine hK9 _ _ ?_
 refine wp_seq_k fun K16 hK16=>wp_region_lit ?_
 refine wpp fun k h=>?_;go_simp;apply h;clear h k
 refine wpList_nil (hK16 _ _ ?_)
 refine wp_ret ?_
 refine hQf _ _ _ ?_
 exact bodyPost_ret (v := .int .i64 0) (by first|rfl|simp [results, Try.results67, go_sem]<;>rfl) rfl ⟨rfl, (hu7.out.trans hu14.out)⟩

set_option maxHeartbeats 40000000 in
set_option maxRecDepth 100000 in
theorem impl_allPoints.calls (K : Nat) (a0 : Int) (r0 : List (Int × Int)) (w : World)  (h : impl_allPoints.f K a0 = some (r0)) :
    Calls Try.prog 155 #[.int .i64 a0] w fun e w' => ∃ (Ar0 : Option Addr) (cr0 : Nat), e = .returned (.slice Ar0 r0.length cr0) ∧ Own e2 30 w' w.heap.size (.slice Ar0 r0.length cr0) r0 ∧ Up w w' := by
 have H : ((impl_allPoints.l0 K a0 K 0 ([] : List (Int × Int))) : Option (List (Int × Int))) = some (r0) := h
 clear h
 go_enter Try.func155, Try.ntmps155
 refine wp_hide (fun Qf hQf => ?_)
 refine wp_seq_k fun K1 hK1=>wp_region_lit ?_
 refine wpp fun k h=>?_;go_simp;apply h;clear h k
 refine wpList_nil (hK1 _ _ ?_)
 refine wp_seq_k fun K2 hK2=>wp_region_lit ?_
 refine step_new (cs := []) (T := 30) (f := fun b => .slice (some ⟨b, 0, none⟩) 0 0) rfl (by go_simp <;> rfl) ?_
 intro b3 w4 hu lb hb3
 simp only[Act.put,nm1,nm2,nm3]
 have lbb3 := Aside0.mk lb
 have ltb3 := Aside0.mk hb3.lt
 clear lb
 have hu5 := Aside0.mk hu
 clear hu
 refine wpp fun k h=>?_;go_simp;apply h;clear h k
 refine wpList_nil (hK2 _ _ ?_)
 refine wp_seq_k fun K6 hK6=>?_
 refine wp_seq_k fun K7 hK7=>wp_region_lit ?_
 refine wpp fun k h=>?_;go_simp;apply h;clear h k
 refine wpList_nil (hK7 _ _ ?_)
 refine wp_block ?_
 have h9 : Own e2 30 w4 w.heap.size (.slice (some ⟨b3, 0, none⟩) ([].length) 0) [] := Own.of_blk hb3 lbb3.out rfl (by simp) (by simp [Enc.flat, e2])
 have HL17 := Aside0.mk H
 clear H
 go_loopg [4, 3] K (fun kq v4 v3 w' => ∃ (x10 : Int) (x11 : List (Int × Int)) (P12 : Option Addr) (q13 : Nat), v4 = .int .i64 x10 ∧ v3 = .slice P12 x11.length q13 ∧ Aside0 (impl_allPoints.l0 K a0 kq x10 x11 = some (r0)) ∧ Aside0 (kq ≤ K) ∧ Aside0 (Up w w') ∧ Aside0 (w4.heap.size ≤ w'.heap.size) ∧ Own e2 30 w' w.heap.size (.slice P12 x11.length q13) x11)
 case atStart => exact ⟨0, ([] : List (Int × Int)), some ⟨b3, 0, none⟩, 0, (by first | rfl | simp), (by first | rfl | simp), HL17, ⟨Nat.le_refl _⟩, ⟨hu5.out⟩, ⟨Nat.le_refl _⟩, h9⟩
 case round =>
  rename_i J21 K22 hJ21 hK22
  obtain ⟨x10, x11, P12, q13, rfl, rfl, HL23, hk20, hu15, hz16, h18⟩ := hrel
  obtain ⟨w14, rfl⟩ : ∃ wo : World, wo = wr := ⟨_, rfl⟩
  obtain ⟨k19, rfl⟩ | rfl : (∃ k, gk = k + 1) ∨ gk = 0 := by rcases gk with _ | k; exact .inr rfl; exact .inl ⟨k, rfl⟩
  case inr => exact absurd HL23.out (by simp [impl_allPoints.l0])
  have H := HL23.out
  clear HL23
  rw [impl_allPoints.l0] at H
  refine wp_seq_k fun K24 hK24=>?_
  refine wp_seq_k fun K25 hK25=>wp_region_lit ?_
  iterate 3 (refine wpp fun k h=>?_;go_simp;apply h;clear h k)
  refine wpList_nil (hK25 _ _ ?_)
  by_cases c26 : (decide (x10 < a0)) = true
  rotate_left
  ·
   rw [if_neg c26] at H; replace c26 := Bool.eq_false_iff.mpr c26
   obtain rfl := Option.some.inj H
   try simp only [c26, Bool.not_true, Bool.not_false]
   refine wp_cond_false rfl ?_
   refine wp_exit ?_
   refine hK6 _ _ ?_
   refine wp_seq_k fun K63 hK63=>wp_region_lit ?_
   iterate 2 (refine wpp fun k h=>?_;go_simp;apply h;clear h k)
   refine wpList_nil (hK63 _ _ ?_)
   refine wp_ret ?_
   refine hQf _ _ _ ?_
   exact bodyPost_ret (v := .slice P12 x11.length q13) (by first|rfl|simp [results, Try.results155, go_sem]<;>rfl) rfl ⟨P12, q13, rfl, (h18.lower (Nat.le_refl _)), hu15.out⟩
  rw [if_pos c26] at H
  try simp only [c26, Bool.not_true, Bool.not_false]
  refine wp_cond_true rfl ?_
  refine wp_skip ?_
  refine hK24 _ _ ?_
  refine wp_seq_k fun K27 hK27=>?_
  refine wp_block ?_
  refine wp_seq_k fun K28 hK28=>wp_region_lit ?_
  refine wpp fun k h=>?_;go_simp;apply h;clear h k
  refine wpList_nil (hK28 _ _ ?_)
  refine wp_block ?_
  have HL36 := Aside0.mk H
  clear H
  go_loopg [5, 3] k19 (fun kq v5 v3 w' => ∃ (x29 : Int) (x30 : List (Int × Int)) (P31 : Option Addr) (q32 : Nat), v5 = .int .i64 x29 ∧ v3 = .slice P31 x30.length q32 ∧ Aside0 (impl_allPoints.l1 K a0 x10 kq x29 x30 = some (r0)) ∧ Aside0 (kq ≤ k19) ∧ Aside0 (Up w w') ∧ Aside0 (w14.heap.size ≤ w'.heap.size) ∧ Own e2 30 w' w.heap.size (.slice P31 x30.length q32) x30)
  case atStart => exact ⟨0, x11, P12, q13, (by first | rfl | simp), (by first | rfl | simp), HL36, ⟨Nat.le_refl _⟩, ⟨hu15.out⟩, ⟨Nat.le_refl _⟩, h18⟩
  case round =>
   rename_i J40 K41 hJ40 hK41
   obtain ⟨x29, x30, P31, q32, rfl, rfl, HL42, hk39, hu34, hz35, h37⟩ := hrel
   obtain ⟨w33, rfl⟩ : ∃ wo : World, wo = wr := ⟨_, rfl⟩
   obtain ⟨k38, rfl⟩ | rfl : (∃ k, gk = k + 1) ∨ gk = 0 := by rcases gk with _ | k; exact .inr rfl; exact .inl ⟨k, rfl⟩
   case inr => exact absurd HL42.out (by simp [impl_allPoints.l1])
   have H := HL42.out
   clear HL42
   rw [impl_allPoints.l1] at H
   refine wp_seq_k fun K43 hK43=>?_
   refine wp_seq_k fun K44 hK44=>wp_region_lit ?_
   iterate 3 (refine wpp fun k h=>?_;go_simp;apply h;clear h k)
   refine wpList_nil (hK44 _ _ ?_)
   by_cases c45 : (decide (x29 < a0)) = true
   rotate_left
   ·
    rw [if_neg c45] at H; replace c45 := Bool.eq_false_iff.mpr c45
    have HL62 := Aside0.mk H
    clear H
    try simp only [c45, Bool.not_true, Bool.not_false]
    refine wp_cond_false rfl ?_
    refine wp_exit ?_
    refine hK27 _ _ ?_
    refine wp_region_lit ?_
    iterate 3 (refine wpp fun k h=>?_;go_simp;apply h;clear h k)
    refine wpList_nil (hK22 _ _ ?_)
    go_roundg k38
    case measure => have := hk20.out; have := hk39.out; omega
    case rel => exact ⟨wrap64 (x10 + 1), x30, P31, q32, (by first | rfl | simp), (by first | rfl | simp), HL62, ⟨by have := hk20.out; have := hk39.out; omega⟩, ⟨hu34.out⟩, ⟨(Nat.le_trans ((Nat.le_trans (Nat.le_refl _) hz16.out)) hz35.out)⟩, h37⟩
   rw [if_pos c45] at H
   try simp only [c45, Bool.not_true, Bool.not_false]
   refine wp_cond_true rfl ?_
   refine wp_skip ?_
   refine hK43 _ _ ?_
   refine wp_seq_k fun K46 hK46=>?_
   refine wp_block ?_
   refine wp_region_lit ?_
   iterate 4 (refine wpp fun k h=>?_;go_simp;apply h;clear h k)
   refine step_new (cs := [.int .i64 x10, .int .i64 x29]) (T := 30) (f := fun b => .slice (some ⟨b, 0, none⟩) 1 1) rfl (by go_simp <;> rfl) ?_
   intro b47 w48 hu lb hb47
   simp only[Act.put,nm1,nm2,nm3]
   have lbb47 := Aside0.mk lb
   have ltb47 := Aside0.mk hb47.lt
   clear lb
   have hu49 := Aside0.mk hu
   clear hu
   have hm51 := Aside0.mk (Nat.le_trans ((Nat.le_trans ((Nat.le_trans (hu5.out.size) hz16.out)) hz35.out)) hu49.out.size)
   by_cases c50 : (decide (x30.length ≤ 1000000)) = true
   rotate_left
   ·
    rw [if_neg c50] at H; replace c50 := Bool.eq_false_iff.mpr c50
    exact absurd H (by simp)
   rw [if_pos c50] at H
   have HL61 := Aside0.mk H
   clear H
   try simp only [c50, Bool.not_true, Bool.not_false]
   have hO0 := Aside0.mk (h37.up hu49.out)
   refine step_append e2 (z := .agg #[.int .i64 0, .int .i64 0]) (bytes := 16) (base := w.heap.size) (xs := x30) (ys := [(x10, x29)]) wn _ _ rfl rfl (by kernel_rfl) rfl (by decide) rfl rfl rfl hO0.out (Rd.of_blk (E := e2) (xs := [(x10, x29)]) (o := 0) hb47 (by simp) (fun j u hu => by rcases j with _ | _ | j <;> simp_all [Enc.flat, e2])) (hm51.out) (by have h0_ := (of_decide_eq_true (by assumption) : x30.length ≤ 1000000); (try simp only [List.length_cons, List.length_nil]); omega) ?_
   intro P52 q53 w54 h56 hg hat
   have hg57 := Aside0.mk hg
   have hat58 := Aside0.mk hat
   simp only[Act.put,nm1,nm2,nm3]
   have lb59 := Aside0.mk hO0.out.lt
   clear hO0 hg hat
   have h60 := hb47.grow hg57.out (fun k hk => Nat.ne_of_lt (Nat.lt_of_lt_of_le ((fun k hk => Nat.lt_of_lt_of_le (h37.lt k hk).2 (Nat.le_refl _)) k hk) lbb47.out))
   refine wpp fun k h=>?_;go_simp;apply h;clear h k
   refine wpList_nil (hK46 _ _ ?_)
   refine wp_region_lit ?_
   iterate 3 (refine wpp fun k h=>?_;go_simp;apply h;clear h k)
   refine wpList_nil (hK41 _ _ ?_)
   go_roundg k38
   case measure => exact Nat.lt_succ_self _
   case rel => exact ⟨wrap64 (x29 + 1), (x30 ++ [(x10, x29)]), P52, q53, (by first | rfl | simp), (by first | rfl | simp), HL61, ⟨by have := hk20.out; have := hk39.out; omega⟩, ⟨((hu34.out.trans hu49.out).grow hg57.out (fun k hk => Nat.le_trans (Nat.le_refl _) ((fun k hk => (lb59.out k hk).1) k hk)))⟩, ⟨(Nat.le_trans ((Nat.le_trans ((Nat.le_trans (Nat.le_refl _) hz35.out)) hu49.out.size)) hg57.out.size)⟩, h56⟩

set_option maxHeartbeats 40000000 in
set_option maxRecDepth 100000 in
theorem impl_MeetCircles_2.calls (K : Nat) (a0_0 : Int) (a0_1 : Int) (bf0 : Nat) (f0_0 : Int) (bf1 : Nat) (f1_0 : Int) (bf2 : Nat) (f2_0 : Int) (f2_1 : Int) (f2_2 : Int) (bf3 : Nat) (f3_0 : Int) (f3_1 : Int) (f3_2 : Int) (r0 : Bool) (w : World) (hf0 : Blk w bf0 [.int .i64 f0_0] 2) (hf1 : Blk w bf1 [.int .i64 f1_0] 2) (hf2 : Blk w bf2 [.int .i64 f2_0, .int .i64 f2_1, .int .i64 f2_2] 71) (hf3 : Blk w bf3 [.int .i64 f3_0, .int .i64 f3_1, .int .i64 f3_2] 71) (h : impl_MeetCircles_2.f K a0_0 a0_1 f0_0 f1_0 f2_0 f2_1 f2_2 f3_0 f3_1 f3_2 = some (r0)) :
    Calls Try.prog 150 #[.agg #[.int .i64 a0_0, .int .i64 a0_1], .pointer (some ⟨bf0, 0, none⟩), .pointer (some ⟨bf1, 0, none⟩), .pointer (some ⟨bf2, 0, none⟩), .pointer (some ⟨bf3, 0, none⟩)] w fun e w' => e = .returned (.bool r0) ∧ Up w w' := by
 have H : (((impl_power.f K f0_0 f1_0 f2_0 f2_1 f2_2 a0_0 a0_1).bind fun t6 => (if (t6 == 0) = true then ((impl_power.f K f0_0 f1_0 f3_0 f3_1 f3_2 a0_0 a0_1).bind fun t11 => some (t11 == 0)) else some false)) : Option (Bool)) = some (r0) := h
 clear h
 obtain ⟨t6,A7,H⟩:=Option.bind_eq_some_iff.mp H
 replace A7:=Aside0.mk A7;try dsimp only at H
 have ltbf0 := Aside0.mk hf0.lt
 have ltbf1 := Aside0.mk hf1.lt
 have ltbf2 := Aside0.mk hf2.lt
 have ltbf3 := Aside0.mk hf3.lt
 go_enter Try.func150, Try.ntmps150
 refine wp_hide (fun Qf hQf => ?_)
 refine wp_seq_k fun K1 hK1=>wp_region_lit ?_
 refine step_new (cs := [.int .i64 a0_0, .int .i64 a0_1]) (T := 30) (f := fun b => .pointer (some ⟨b, 0, none⟩)) rfl (by go_simp <;> rfl) ?_
 intro b2 w3 hu lb hb2
 simp only[Act.put,nm1,nm2,nm3]
 have lbb2 := Aside0.mk lb
 have ltb2 := Aside0.mk hb2.lt
 clear lb
 have hu4 := Aside0.mk hu
 clear hu
 refine wpp fun k h=>?_;go_simp;apply h;clear h k
 refine wpList_nil (hK1 _ _ ?_)
 refine wp_seq_k fun K5 hK5=>wp_region_lit ?_
 have cl0 := (hf0.up hu4.out).cell (o := 0) rfl
 refine wpp fun k h=>?_;go_simp;apply h;clear h k
 clear cl0
 have cl0 := (hf1.up hu4.out).cell (o := 0) rfl
 refine wpp fun k h=>?_;go_simp;apply h;clear h k
 clear cl0
 have cl0 := (hf2.up hu4.out).cell (o := 0) rfl
 have cl1 := (hf2.up hu4.out).cell (o := 1) rfl
 have cl2 := (hf2.up hu4.out).cell (o := 2) rfl
 refine wpp fun k h=>?_;go_simp;apply h;clear h k
 clear cl0 cl1 cl2
 have cl0 := hb2.cell (o := 0) rfl
 have cl1 := hb2.cell (o := 1) rfl
 refine wpp fun k h=>?_;go_simp;apply h;clear h k
 clear cl0 cl1
 refine step_call wn (by go_simp <;> rfl) (impl_power.calls K f0_0 f1_0 f2_0 f2_1 f2_2 a0_0 a0_1 t6 w3  A7.out) ?_
 rintro e w8 ⟨rfl, hu⟩
 have hu9 := Aside0.mk hu
 clear hu
 refine ⟨_, rfl, ?_⟩
 simp only[Act.put,nm1,nm2,nm3]
 iterate 2 (refine wpp fun k h=>?_;go_simp;apply h;clear h k)
 by_cases c10 : (t6 == 0) = true
 rotate_left
 ·
  rw [if_neg c10] at H; replace c10 := Bool.eq_false_iff.mpr c10
  have c10n : (t6 != 0) = true := by rw [bne, c10]; rfl
  have c10p : ¬ t6 = 0 := fun e => by simp [e] at c10
  obtain rfl := Option.some.inj H
  try simp only [c10, c10n, Bool.not_true, Bool.not_false]
  refine step_no rfl ?_
  simp only[Act.put,nm1,nm2,nm3]
  refine step_no rfl ?_
  simp only[Act.put,nm1,nm2,nm3]
  refine step_no rfl ?_
  simp only[Act.put,nm1,nm2,nm3]
  refine step_no rfl ?_
  simp only[Act.put,nm1,nm2,nm3]
  refine step_no rfl ?_
  simp only[Act.put,nm1,nm2,nm3]
  refine step_no rfl ?_
  simp only[Act.put,nm1,nm2,nm3]
  iterate 2 (refine wpp fun k h=>?_;go_simp;apply h;clear h k)
  refine wpList_nil (hK5 _ _ ?_)
  refine wp_ret ?_
  refine hQf _ _ _ ?_
  exact bodyPost_ret (v := .bool false) (by first|rfl|simp [results, Try.results150, go_sem]<;>rfl) rfl ⟨rfl, (hu4.out.trans hu9.out)⟩
 rw [if_pos c10] at H
 have c10n : (t6 != 0) = false := by rw [bne, c10]; rfl
 obtain ⟨t11,A12,H⟩:=Option.bind_eq_some_iff.mp H
 replace A12:=Aside0.mk A12;try dsimp only at H
 obtain rfl := Option.some.inj H
 try simp only [c10, c10n, Bool.not_true, Bool.not_false]
 have cl0 := (hf0.up (hu4.out.trans hu9.out)).cell (o := 0) rfl
 refine wpList_step fun k h=>?_;go_simp;apply h;clear h k
 clear cl0
 have cl0 := (hf1.up (hu4.out.trans hu9.out)).cell (o := 0) rfl
 refine wpList_step fun k h=>?_;go_simp;apply h;clear h k
 clear cl0
 have cl0 := (hf3.up (hu4.out.trans hu9.out)).cell (o := 0) rfl
 have cl1 := (hf3.up (hu4.out.trans hu9.out)).cell (o := 1) rfl
 have cl2 := (hf3.up (hu4.out.trans hu9.out)).cell (o := 2) rfl
 refine wpList_step fun k h=>?_;go_simp;apply h;clear h k
 clear cl0 cl1 cl2
 have cl0 := (hb2.up hu9.out).cell (o := 0) rfl
 have cl1 := (hb2.up hu9.out).cell (o := 1) rfl
 refine wpList_step fun k h=>?_;go_simp;apply h;clear h k
 clear cl0 cl1
 refine step_call rfl (by go_simp <;> rfl) (impl_power.calls K f0_0 f1_0 f3_0 f3_1 f3_2 a0_0 a0_1 t11 w8  A12.out) ?_
 rintro e w13 ⟨rfl, hu⟩
 have hu14 := Aside0.mk hu
 clear hu
 refine ⟨_, rfl, ?_⟩
 simp only[Act.put,nm1,nm2,nm3]
 refine wpList_step fun k h=>?_;go_simp;apply h;clear h k
 iterate 2 (refine wpp fun k h=>?_;go_simp;apply h;clear h k)
 refine wpList_nil (hK5 _ _ ?_)
 refine wp_ret ?_
 refine hQf _ _ _ ?_
 exact bodyPost_ret (v := .bool (t11 == 0)) (by first|rfl|simp [results, Try.results150, go_sem]<;>rfl) rfl ⟨rfl, ((hu4.out.trans hu9.out).trans hu14.out)⟩

set_option maxHeartbeats 40000000 in
set_option maxRecDepth 100000 in
theorem impl_pointsWith__impl_MeetCircles_2.calls (K : Nat) (a0 : Int) (bc1_0 : Nat) (c1_0_0 : Int) (bc1_1 : Nat) (c1_1_0 : Int) (bc1_2 : Nat) (c1_2_0 : Int) (c1_2_1 : Int) (c1_2_2 : Int) (bc1_3 : Nat) (c1_3_0 : Int) (c1_3_1 : Int) (c1_3_2 : Int) (r0 : List (Int × Int)) (w : World) (hc1_0 : Blk w bc1_0 [.int .i64 c1_0_0] 2) (hc1_1 : Blk w bc1_1 [.int .i64 c1_1_0] 2) (hc1_2 : Blk w bc1_2 [.int .i64 c1_2_0, .int .i64 c1_2_1, .int .i64 c1_2_2] 71) (hc1_3 : Blk w bc1_3 [.int .i64 c1_3_0, .int .i64 c1_3_1, .int .i64 c1_3_2] 71) (h : impl_pointsWith__impl_MeetCircles_2.f K a0 c1_0_0 c1_1_0 c1_2_0 c1_2_1 c1_2_2 c1_3_0 c1_3_1 c1_3_2 = some (r0)) :
    Calls Try.prog 149 #[.int .i64 a0, .func (.func 150) #[] #[.pointer (some ⟨bc1_0, 0, none⟩), .pointer (some ⟨bc1_1, 0, none⟩), .pointer (some ⟨bc1_2, 0, none⟩), .pointer (some ⟨bc1_3, 0, none⟩)]] w fun e w' => ∃ (Ar0 : Option Addr) (cr0 : Nat), e = .returned (.slice Ar0 r0.length cr0) ∧ Own e2 30 w' w.heap.size (.slice Ar0 r0.length cr0) r0 ∧ Up w w' := by
 have H : (((impl_allPoints.f K a0).bind fun t8 => (impl_pointsWith__impl_MeetCircles_2.l0 K c1_0_0 c1_1_0 c1_2_0 c1_2_1 c1_2_2 c1_3_0 c1_3_1 c1_3_2 t8 K 0 ([] : List (Int × Int)))) : Option (List (Int × Int))) = some (r0) := h
 clear h
 obtain ⟨t8,A11,H⟩:=Option.bind_eq_some_iff.mp H
 replace A11:=Aside0.mk A11;try dsimp only at H
 have ltbc1_0 := Aside0.mk hc1_0.lt
 have ltbc1_1 := Aside0.mk hc1_1.lt
 have ltbc1_2 := Aside0.mk hc1_2.lt
 have ltbc1_3 := Aside0.mk hc1_3.lt
 go_enter Try.func149, Try.ntmps149
 refine wp_hide (fun Qf hQf => ?_)
 refine wp_seq_k fun K1 hK1=>wp_region_lit ?_
 refine wpp fun k h=>?_;go_simp;apply h;clear h k
 refine wpList_nil (hK1 _ _ ?_)
 refine wp_seq_k fun K2 hK2=>wp_region_lit ?_
 refine step_new (cs := []) (T := 30) (f := fun b => .slice (some ⟨b, 0, none⟩) 0 0) rfl (by go_simp <;> rfl) ?_
 intro b3 w4 hu lb hb3
 simp only[Act.put,nm1,nm2,nm3]
 have lbb3 := Aside0.mk lb
 have ltb3 := Aside0.mk hb3.lt
 clear lb
 have hu5 := Aside0.mk hu
 clear hu
 refine wpp fun k h=>?_;go_simp;apply h;clear h k
 refine wpList_nil (hK2 _ _ ?_)
 refine wp_seq_k fun K6 hK6=>?_
 refine wp_seq_k fun K7 hK7=>wp_region_lit ?_
 refine wpp fun k h=>?_;go_simp;apply h;clear h k
 refine step_call wn (by go_simp <;> rfl) (impl_allPoints.calls K a0 t8 w4  A11.out) ?_
 rintro e w12 ⟨P9, q10, rfl, ht8, hu⟩
 have hu13 := Aside0.mk hu
 clear hu
 refine ⟨_, rfl, ?_⟩
 simp only[Act.put,nm1,nm2,nm3]
 iterate 2 (refine wpp fun k h=>?_;go_simp;apply h;clear h k)
 refine wpList_nil (hK7 _ _ ?_)
 refine wp_block ?_
 have h15 : Own e2 30 w12 w.heap.size (.slice (some ⟨b3, 0, none⟩) ([].length) 0) [] := Own.of_blk (hb3.up hu13.out) lbb3.out rfl (by simp) (by simp [Enc.flat, e2])
 have h16 : Own e2 30 w4 w.heap.size (.slice (some ⟨b3, 0, none⟩) ([].length) 0) [] := Own.of_blk hb3 lbb3.out rfl (by simp) (by simp [Enc.flat, e2])
 have HL24 := Aside0.mk H
 clear H
 go_loopg [12, 5] K (fun kq v12 v5 w' => ∃ (x17 : Int) (x18 : List (Int × Int)) (P19 : Option Addr) (q20 : Nat), v12 = .int .i64 x17 ∧ v5 = .slice P19 x18.length q20 ∧ Aside0 (impl_pointsWith__impl_MeetCircles_2.l0 K c1_0_0 c1_1_0 c1_2_0 c1_2_1 c1_2_2 c1_3_0 c1_3_1 c1_3_2 t8 kq x17 x18 = some (r0)) ∧ Aside0 (kq ≤ K) ∧ Aside0 (Up w w') ∧ Aside0 (w12.heap.size ≤ w'.heap.size) ∧ Own e2 30 w' w4.heap.size (.slice P9 t8.length q10) t8 ∧ Own e2 30 w' w.heap.size (.slice P19 x18.length q20) x18 ∧ Aside0 (∀ k l, blk (.slice P19 x18.length q20) = some k → blk (.slice P9 t8.length q10) = some l → k ≠ l))
 case atStart => exact ⟨0, ([] : List (Int × Int)), some ⟨b3, 0, none⟩, 0, (by first | rfl | simp), (by first | rfl | simp), HL24, ⟨Nat.le_refl _⟩, ⟨(hu5.out.trans hu13.out)⟩, ⟨Nat.le_refl _⟩, ht8, h15, ⟨(fun k l hk hl => Nat.ne_of_lt (Nat.lt_of_lt_of_le ((fun k hk => Nat.lt_of_lt_of_le (h16.lt k hk).2 (Nat.le_refl _)) k hk) ((fun k hk => Nat.le_trans (Nat.le_refl _) (ht8.lt k hk).1) l hl)))⟩⟩
 case round =>
  rename_i J30 K31 hJ30 hK31
  obtain ⟨x17, x18, P19, q20, rfl, rfl, HL32, hk29, hu22, hz23, h25, h26, hn27⟩ := hrel
  obtain ⟨w21, rfl⟩ : ∃ wo : World, wo = wr := ⟨_, rfl⟩
  obtain ⟨k28, rfl⟩ | rfl : (∃ k, gk = k + 1) ∨ gk = 0 := by rcases gk with _ | k; exact .inr rfl; exact .inl ⟨k, rfl⟩
  case inr => exact absurd HL32.out (by simp [impl_pointsWith__impl_MeetCircles_2.l0])
  have H := HL32.out
  clear HL32
  rw [impl_pointsWith__impl_MeetCircles_2.l0] at H
  refine wp_seq_k fun K33 hK33=>wp_region_lit ?_
  refine wpp fun k h=>?_;go_simp;apply h;clear h k
  refine wpList_nil (hK33 _ _ ?_)
  refine wp_seq_k fun K34 hK34=>?_
  have hm36 := Aside0.mk hu22.out
  by_cases c35 : (decide (x17 < (t8.length : Int))) = true
  rotate_left
  ·
   rw [if_neg c35] at H; replace c35 := Bool.eq_false_iff.mpr c35
   obtain rfl := Option.some.inj H
   try simp only [c35, Bool.not_true, Bool.not_false]
   refine wp_cond_false rfl ?_
   refine wp_exit ?_
   refine hK6 _ _ ?_
   refine wp_seq_k fun K76 hK76=>wp_region_lit ?_
   iterate 2 (refine wpp fun k h=>?_;go_simp;apply h;clear h k)
   refine wpList_nil (hK76 _ _ ?_)
   refine wp_ret ?_
   refine hQf _ _ _ ?_
   exact bodyPost_ret (v := .slice P19 x18.length q20) (by first|rfl|simp [results, Try.results149, go_sem]<;>rfl) rfl ⟨P19, q20, rfl, (h26.lower (Nat.le_refl _)), hm36.out⟩
  rw [if_pos c35] at H
  obtain ⟨⟨t39, t40⟩,A41,H⟩:=Option.bind_eq_some_iff.mp H
  replace A41:=Aside0.mk A41;try dsimp only at H
  obtain ⟨t52,A53,H⟩:=Option.bind_eq_some_iff.mp H
  replace A53:=Aside0.mk A53;try dsimp only at H
  try simp only [c35, Bool.not_true, Bool.not_false]
  refine wp_cond_true rfl ?_
  refine wp_skip ?_
  refine hK34 _ _ ?_
  refine wp_seq_k fun K37 hK37=>?_
  refine wp_block ?_
  refine wp_seq_k fun K38 hK38=>wp_region_lit ?_
  refine step_index e2 (T := 30) wn rfl (by kernel_rfl) (by kernel_rfl) rfl rfl rfl h25.rd A41.out ?_
  intro ad42 hat he
  have he43 := Aside0.mk he
  have hat44 := Aside0.mk hat
  clear he hat
  simp only[Act.put,nm1,nm2,nm3]
  have cl0 := he43.out 0 _ rfl
  rw [addr_add0] at cl0
  have cl1 : World.cell? _ ⟨ad42.block, ad42.off + 1, none⟩ = some _ := he43.out 1 _ rfl
  refine wpp fun k h=>?_;go_simp;apply h;clear h k
  clear cl0 cl1
  refine step_new (cs := [.int .i64 0, .int .i64 0]) (T := 30) (f := fun b => .pointer (some ⟨b, 0, none⟩)) rfl (by go_simp <;> rfl) ?_
  intro b45 w46 hu lb hb45
  simp only[Act.put,nm1,nm2,nm3]
  have lbb45 := Aside0.mk lb
  have ltb45 := Aside0.mk hb45.lt
  clear lb
  have hu47 := Aside0.mk hu
  clear hu
  have hB0 := hb45
  have cl0 := hB0.cell (o := 0) rfl
  have fr0 := hB0.free 0
  have cl1 := hB0.cell (o := 1) rfl
  have fr1 := hB0.free 1
  refine step_store (b := b45) (cs' := [.int .i64 t39, .int .i64 t40]) (T := 30) (W' := ((w46.setCell ⟨b45, 0, none⟩ (.int .i64 t39)).setCell ⟨b45, 1, none⟩ (.int .i64 t40))) rfl rfl (by go_simp <;> rfl) (((Sto.refl _ _).setCell 0 _).setCell 1 _) (((hB0).setCell 0 _).setCell 1 _) ?_
  clear hB0 cl0 fr0 cl1 fr1
  intro w48 hs hb50
  have hs49 := Aside0.mk hs
  clear hs
  refine wpList_nil (hK38 _ _ ?_)
  refine wp_seq_k fun K51 hK51=>wp_region_lit ?_
  refine wpp fun k h=>?_;go_simp;apply h;clear h k
  have cl0 := hb50.cell (o := 0) rfl
  have cl1 := hb50.cell (o := 1) rfl
  refine wpp fun k h=>?_;go_simp;apply h;clear h k
  clear cl0 cl1
  refine step_call wn (by go_simp <;> rfl) (impl_MeetCircles_2.calls K t39 t40 bc1_0 c1_0_0 bc1_1 c1_1_0 bc1_2 c1_2_0 c1_2_1 c1_2_2 bc1_3 c1_3_0 c1_3_1 c1_3_2 t52 w48 (hc1_0.up ((hm36.out.trans hu47.out).sto (Nat.le_trans (hm36.out.size) lbb45.out) hs49.out)) (hc1_1.up ((hm36.out.trans hu47.out).sto (Nat.le_trans (hm36.out.size) lbb45.out) hs49.out)) (hc1_2.up ((hm36.out.trans hu47.out).sto (Nat.le_trans (hm36.out.size) lbb45.out) hs49.out)) (hc1_3.up ((hm36.out.trans hu47.out).sto (Nat.le_trans (hm36.out.size) lbb45.out) hs49.out)) A53.out) ?_
  rintro e w54 ⟨rfl, hu⟩
  have hu55 := Aside0.mk hu
  clear hu
  refine ⟨_, rfl, ?_⟩
  simp only[Act.put,nm1,nm2,nm3]
  refine wpList_nil (hK51 _ _ ?_)
  have hm57 := Aside0.mk ((hu47.out.sto (Nat.le_trans (Nat.le_refl _) lbb45.out) hs49.out).trans hu55.out)
  by_cases c56 : (t52) = true
  rotate_left
  ·
   rw [if_neg c56] at H; replace c56 := Bool.eq_false_iff.mpr c56
   subst c56
   have HL75 := Aside0.mk H
   clear H
   refine wp_cond_false rfl ?_
   refine wp_skip ?_
   refine hK37 _ _ ?_
   refine wp_region_lit ?_
   iterate 2 (refine wpp fun k h=>?_;go_simp;apply h;clear h k)
   refine wpList_nil (hK31 _ _ ?_)
   go_roundg k28
   case measure => exact Nat.lt_succ_self _
   case rel => exact ⟨wrap64 (x17 + 1), x18, P19, q20, (by first | rfl | simp), (by first | rfl | simp), HL75, ⟨by have := hk29.out; omega⟩, ⟨(hm36.out.trans hm57.out)⟩, ⟨(Nat.le_trans ((Nat.le_trans (Nat.le_refl _) hz23.out)) hm57.out.size)⟩, (h25.up hm57.out), (h26.up hm57.out), ⟨hn27.out⟩⟩
  rw [if_pos c56] at H
  subst c56
  refine wp_cond_true rfl ?_
  refine wp_region_lit ?_
  refine wpp fun k h=>?_;go_simp;apply h;clear h k
  have cl0 := (hb50.up hu55.out).cell (o := 0) rfl
  have cl1 := (hb50.up hu55.out).cell (o := 1) rfl
  refine wpp fun k h=>?_;go_simp;apply h;clear h k
  clear cl0 cl1
  refine step_new (cs := [.int .i64 t39, .int .i64 t40]) (T := 30) (f := fun b => .slice (some ⟨b, 0, none⟩) 1 1) rfl (by go_simp <;> rfl) ?_
  intro b58 w59 hu lb hb58
  simp only[Act.put,nm1,nm2,nm3]
  have lbb58 := Aside0.mk lb
  have ltb58 := Aside0.mk hb58.lt
  clear lb
  have hu60 := Aside0.mk hu
  clear hu
  have hm62 := Aside0.mk (Nat.le_trans ((Nat.le_trans ((Nat.le_trans (Nat.le_refl _) hz23.out)) hm57.out.size)) hu60.out.size)
  by_cases c61 : (decide (x18.length ≤ 1000000)) = true
  rotate_left
  ·
   rw [if_neg c61] at H; replace c61 := Bool.eq_false_iff.mpr c61
   exact absurd H (by simp)
  rw [if_pos c61] at H
  have HL74 := Aside0.mk H
  clear H
  try simp only [c61, Bool.not_true, Bool.not_false]
  have hO0 := Aside0.mk (h26.up (hm57.out.trans hu60.out))
  refine step_append e2 (z := .agg #[.int .i64 0, .int .i64 0]) (bytes := 16) (base := w.heap.size) (xs := x18) (ys := [(t39, t40)]) wn _ _ rfl rfl (by kernel_rfl) rfl (by decide) rfl rfl rfl hO0.out (Rd.of_blk (E := e2) (xs := [(t39, t40)]) (o := 0) hb58 (by simp) (fun j u hu => by rcases j with _ | _ | j <;> simp_all [Enc.flat, e2])) ((Nat.le_trans ((Nat.le_trans (hm36.out.size) hm57.out.size)) hu60.out.size)) (by have h0_ := (of_decide_eq_true (by assumption) : x18.length ≤ 1000000); (try simp only [List.length_cons, List.length_nil]); omega) ?_
  intro P63 q64 w65 h67 hg hat
  have hg68 := Aside0.mk hg
  have hat69 := Aside0.mk hat
  simp only[Act.put,nm1,nm2,nm3]
  have lb70 := Aside0.mk hO0.out.lt
  clear hO0 hg hat
  have h71 := (h25.up (hm57.out.trans hu60.out)).grow hg68.out hn27.out
  have h72 := (hb50.up (hu55.out.trans hu60.out)).grow hg68.out (fun k hk => Nat.ne_of_lt (Nat.lt_of_lt_of_le ((fun k hk => Nat.lt_of_lt_of_le (h26.lt k hk).2 (Nat.le_refl _)) k hk) lbb45.out))
  have h73 := hb58.grow hg68.out (fun k hk => Nat.ne_of_lt (Nat.lt_of_lt_of_le ((fun k hk => Nat.lt_of_lt_of_le (h26.lt k hk).2 (hm57.out.size)) k hk) lbb58.out))
  refine wpp fun k h=>?_;go_simp;apply h;clear h k
  refine wpList_nil (hK37 _ _ ?_)
  refine wp_region_lit ?_
  iterate 2 (refine wpp fun k h=>?_;go_simp;apply h;clear h k)
  refine wpList_nil (hK31 _ _ ?_)
  go_roundg k28
  case measure => exact Nat.lt_succ_self _
  case rel => exact ⟨wrap64 (x17 + 1), (x18 ++ [(t39, t40)]), P63, q64, (by first | rfl | simp), (by first | rfl | simp), HL74, ⟨by have := hk29.out; omega⟩, ⟨(((hm36.out.trans hm57.out).trans hu60.out).grow hg68.out (fun k hk => Nat.le_trans (Nat.le_refl _) ((fun k hk => (lb70.out k hk).1) k hk)))⟩, ⟨(Nat.le_trans (hm62.out) hg68.out.size)⟩, h71, h67, ⟨(fun k l hk hl => hat69.out.elim (fun e => hn27.out k l (e.symm.trans hk) hl) (fun g => Nat.ne_of_gt (Nat.lt_of_lt_of_le ((fun k hk => Nat.lt_of_lt_of_le (ht8.lt k hk).2 (hm62.out)) l hl) (g k hk))))⟩⟩

set_option maxHeartbeats 40000000 in
set_option maxRecDepth 100000 in
theorem impl_MeetCircles.calls (K : Nat) (a0 : Int) (a1 : Int) (a2_0 : Int) (a2_1 : Int) (a2_2 : Int) (a3_0 : Int) (a3_1 : Int) (a3_2 : Int) (r0 : List (Int × Int)) (r1 : Int) (w : World)  (h : impl_MeetCircles.f K a0 a1 a2_0 a2_1 a2_2 a3_0 a3_1 a3_2 = some (r0, r1)) :
    Calls Try.prog 54 #[.int .i64 a0, .int .i64 a1, .agg #[.int .i64 a2_0, .int .i64 a2_1, .int .i64 a2_2], .agg #[.int .i64 a3_0, .int .i64 a3_1, .int .i64 a3_2]] w fun e w' => ∃ (Ar0 : Option Addr) (cr0 : Nat), e = .returned (.tuple #[.slice Ar0 r0.length cr0, .int .i64 r1]) ∧ Own e2 30 w' w.heap.size (.slice Ar0 r0.length cr0) r0 ∧ Up w w' := by
 have H : (((impl_asked__impl_MeetCircles_1.f K a0 a1 a0 a2_0 a2_1 a2_2 a3_0 a3_1 a3_2).bind fun t16 => (if (t16 == 0) = true then ((impl_pointsWith__impl_MeetCircles_2.f K a0 a0 a1 a2_0 a2_1 a2_2 a3_0 a3_1 a3_2).bind fun t25 => some (t25, 0)) else some ([], t16))) : Option (List (Int × Int) × Int)) = some (r0, r1) := h
 clear h
 obtain ⟨t16,A17,H⟩:=Option.bind_eq_some_iff.mp H
 replace A17:=Aside0.mk A17;try dsimp only at H
 go_enter Try.func54, Try.ntmps54
 refine wp_hide (fun Qf hQf => ?_)
 refine wp_seq_k fun K1 hK1=>wp_region_lit ?_
 refine step_new (cs := [.int .i64 a0]) (T := 2) (f := fun b => .pointer (some ⟨b, 0, none⟩)) rfl (by go_simp <;> rfl) ?_
 intro b2 w3 hu lb hb2
 simp only[Act.put,nm1,nm2,nm3]
 have lbb2 := Aside0.mk lb
 have ltb2 := Aside0.mk hb2.lt
 clear lb
 have hu4 := Aside0.mk hu
 clear hu
 refine step_new (cs := [.int .i64 a1]) (T := 2) (f := fun b => .pointer (some ⟨b, 0, none⟩)) rfl (by go_simp <;> rfl) ?_
 intro b5 w6 hu lb hb5
 simp only[Act.put,nm1,nm2,nm3]
 have lbb5 := Aside0.mk lb
 have ltb5 := Aside0.mk hb5.lt
 clear lb
 have hu7 := Aside0.mk hu
 clear hu
 refine step_new (cs := [.int .i64 a2_0, .int .i64 a2_1, .int .i64 a2_2]) (T := 71) (f := fun b => .pointer (some ⟨b, 0, none⟩)) rfl (by go_simp <;> rfl) ?_
 intro b8 w9 hu lb hb8
 simp only[Act.put,nm1,nm2,nm3]
 have lbb8 := Aside0.mk lb
 have ltb8 := Aside0.mk hb8.lt
 clear lb
 have hu10 := Aside0.mk hu
 clear hu
 refine step_new (cs := [.int .i64 a3_0, .int .i64 a3_1, .int .i64 a3_2]) (T := 71) (f := fun b => .pointer (some ⟨b, 0, none⟩)) rfl (by go_simp <;> rfl) ?_
 intro b11 w12 hu lb hb11
 simp only[Act.put,nm1,nm2,nm3]
 have lbb11 := Aside0.mk lb
 have ltb11 := Aside0.mk hb11.lt
 clear lb
 have hu13 := Aside0.mk hu
 clear hu
 iterate 2 (refine wpp fun k h=>?_;go_simp;apply h;clear h k)
 refine wpList_nil (hK1 _ _ ?_)
 refine wp_seq_k fun K14 hK14=>?_
 refine wp_seq_k fun K15 hK15=>wp_region_lit ?_
 have cl0 := (hb2.up ((hu7.out.trans hu10.out).trans hu13.out)).cell (o := 0) rfl
 refine wpp fun k h=>?_;go_simp;apply h;clear h k
 clear cl0
 refine wpp fun k h=>?_;go_simp;apply h;clear h k
 refine step_call wn (by go_simp <;> rfl) (impl_asked__impl_MeetCircles_1.calls K a0 b5 a1 b2 a0 b8 a2_0 a2_1 a2_2 b11 a3_0 a3_1 a3_2 t16 w12 (hb5.up (hu10.out.trans hu13.out)) (hb2.up ((hu7.out.trans hu10.out).trans hu13.out)) (hb8.up hu13.out) hb11 A17.out) ?_
 rintro e w18 ⟨rfl, hu⟩
 have hu19 := Aside0.mk hu
 clear hu
 refine ⟨_, rfl, ?_⟩
 simp only[Act.put,nm1,nm2,nm3]
 refine wpp fun k h=>?_;go_simp;apply h;clear h k
 refine wpList_nil (hK15 _ _ ?_)
 refine wp_seq_k fun K20 hK20=>wp_region_lit ?_
 iterate 2 (refine wpp fun k h=>?_;go_simp;apply h;clear h k)
 refine wpList_nil (hK20 _ _ ?_)
 have hm22 := Aside0.mk ((((hu4.out.trans hu7.out).trans hu10.out).trans hu13.out).trans hu19.out)
 have h23 := (hb2.up (((hu7.out.trans hu10.out).trans hu13.out).trans hu19.out))
 by_cases c21 : (t16 == 0) = true
 rotate_left
 ·
  rw [if_neg c21] at H; replace c21 := Bool.eq_false_iff.mpr c21
  have c21n : (t16 != 0) = true := by rw [bne, c21]; rfl
  have c21p : ¬ t16 = 0 := fun e => by simp [e] at c21
  simp only [Option.some.injEq, Prod.mk.injEq] at H
  obtain ⟨rfl, rfl⟩ := H
  try simp only [c21, c21n, Bool.not_true, Bool.not_false]
  refine wp_cond_true rfl ?_
  refine wp_seq_k fun K31 hK31=>wp_region_lit ?_
  iterate 3 (refine wpp fun k h=>?_;go_simp;apply h;clear h k)
  refine wpList_nil (hK31 _ _ ?_)
  refine wp_ret ?_
  have h33 : Own e2 30 w18 w18.heap.size (.slice none ([] : List (Int × Int)).length 0) [] := Own.nil
  refine hQf _ _ _ ?_
  exact bodyPost_ret (v := .tuple #[.slice none 0 0, .int .i64 t16]) (by first|rfl|simp [results, Try.results54, go_sem]<;>rfl) rfl ⟨none, 0, rfl, (h33.lower (hm22.out.size)), hm22.out⟩
 rw [if_pos c21] at H
 have c21n : (t16 != 0) = false := by rw [bne, c21]; rfl
 obtain ⟨t25,A28,H⟩:=Option.bind_eq_some_iff.mp H
 replace A28:=Aside0.mk A28;try dsimp only at H
 simp only [Option.some.injEq, Prod.mk.injEq] at H
 obtain ⟨rfl, rfl⟩ := H
 try simp only [c21, c21n, Bool.not_true, Bool.not_false]
 refine wp_cond_false rfl ?_
 refine wp_skip ?_
 refine hK14 _ _ ?_
 refine wp_seq_k fun K24 hK24=>wp_region_lit ?_
 have cl0 := h23.cell (o := 0) rfl
 refine wpp fun k h=>?_;go_simp;apply h;clear h k
 clear cl0
 refine wpp fun k h=>?_;go_simp;apply h;clear h k
 refine step_call wn (by go_simp <;> rfl) (impl_pointsWith__impl_MeetCircles_2.calls K a0 b2 a0 b5 a1 b8 a2_0 a2_1 a2_2 b11 a3_0 a3_1 a3_2 t25 w18 h23 (hb5.up ((hu10.out.trans hu13.out).trans hu19.out)) (hb8.up (hu13.out.trans hu19.out)) (hb11.up hu19.out) A28.out) ?_
 rintro e w29 ⟨P26, q27, rfl, ht25, hu⟩
 have hu30 := Aside0.mk hu
 clear hu
 refine ⟨_, rfl, ?_⟩
 simp only[Act.put,nm1,nm2,nm3]
 iterate 2 (refine wpp fun k h=>?_;go_simp;apply h;clear h k)
 refine wpList_nil (hK24 _ _ ?_)
 refine wp_ret ?_
 refine hQf _ _ _ ?_
 exact bodyPost_ret (v := .tuple #[.slice P26 t25.length q27, .int .i64 0]) (by first|rfl|simp [results, Try.results54, go_sem]<;>rfl) rfl ⟨P26, q27, rfl, (ht25.lower (hm22.out.size)), (hm22.out.trans hu30.out)⟩

set_option maxHeartbeats 40000000 in
set_option maxRecDepth 100000 in
theorem spec_l02At.calls (K : Nat) (a0 : Int) (a1 : Int) (a2_0 : Int) (a2_1 : Int) (a3 : Int) (r0 : List (Int × Int)) (w : World)  (h : spec_l02At.f K a0 a1 a2_0 a2_1 a3 = some (r0)) :
    Calls Try.prog 151 #[.int .i64 a0, .int .i64 a1, .agg #[.int .i64 a2_0, .int .i64 a2_1], .int .i64 a3] w fun e w' => ∃ (Ar0 : Option Addr) (cr0 : Nat), e = .returned (.slice Ar0 r0.length cr0) ∧ Own e2 30 w' w.heap.size (.slice Ar0 r0.length cr0) r0 ∧ Up w w' := by
 have H : ((spec_l02At.l0 K a0 a1 a2_0 a2_1 a3 K 0 ([] : List (Int × Int))) : Option (List (Int × Int))) = some (r0) := h
 clear h
 go_enter Try.func151, Try.ntmps151
 refine wp_hide (fun Qf hQf => ?_)
 refine wp_seq_k fun K1 hK1=>wp_region_lit ?_
 refine step_new (cs := [.int .i64 a2_0, .int .i64 a2_1]) (T := 30) (f := fun b => .pointer (some ⟨b, 0, none⟩)) rfl (by go_simp <;> rfl) ?_
 intro b2 w3 hu lb hb2
 simp only[Act.put,nm1,nm2,nm3]
 have lbb2 := Aside0.mk lb
 have ltb2 := Aside0.mk hb2.lt
 clear lb
 have hu4 := Aside0.mk hu
 clear hu
 refine wpp fun k h=>?_;go_simp;apply h;clear h k
 refine wpList_nil (hK1 _ _ ?_)
 refine wp_seq_k fun K5 hK5=>wp_region_lit ?_
 refine step_new (cs := []) (T := 30) (f := fun b => .slice (some ⟨b, 0, none⟩) 0 0) rfl (by go_simp <;> rfl) ?_
 intro b6 w7 hu lb hb6
 simp only[Act.put,nm1,nm2,nm3]
 have lbb6 := Aside0.mk lb
 have ltb6 := Aside0.mk hb6.lt
 clear lb
 have hu8 := Aside0.mk hu
 clear hu
 refine wpp fun k h=>?_;go_simp;apply h;clear h k
 refine wpList_nil (hK5 _ _ ?_)
 refine wp_seq_k fun K9 hK9=>?_
 refine wp_seq_k fun K10 hK10=>wp_region_lit ?_
 refine wpp fun k h=>?_;go_simp;apply h;clear h k
 refine wpList_nil (hK10 _ _ ?_)
 refine wp_block ?_
 have h12 : Own e2 30 w7 w3.heap.size (.slice (some ⟨b6, 0, none⟩) ([].length) 0) [] := Own.of_blk hb6 lbb6.out rfl (by simp) (by simp [Enc.flat, e2])
 have HL20 := Aside0.mk H
 clear H
 go_loopg [10, 9] K (fun kq v10 v9 w' => ∃ (x13 : Int) (x14 : List (Int × Int)) (P15 : Option Addr) (q16 : Nat), v10 = .int .i64 x13 ∧ v9 = .slice P15 x14.length q16 ∧ Aside0 (spec_l02At.l0 K a0 a1 a2_0 a2_1 a3 kq x13 x14 = some (r0)) ∧ Aside0 (kq ≤ K) ∧ Aside0 (Up w3 w') ∧ Aside0 (w7.heap.size ≤ w'.heap.size) ∧ Own e2 30 w' w3.heap.size (.slice P15 x14.length q16) x14 ∧ Aside0 (∀ k, blk (.slice P15 x14.length q16) = some k → k ≠ b2))
 case atStart => exact ⟨0, ([] : List (Int × Int)), some ⟨b6, 0, none⟩, 0, (by first | rfl | simp), (by first | rfl | simp), HL20, ⟨Nat.le_refl _⟩, ⟨hu8.out⟩, ⟨Nat.le_refl _⟩, h12, ⟨(fun k hk => Ne.symm ((fun k hk => Nat.ne_of_lt (Nat.lt_of_lt_of_le ltb2.out ((fun k hk => Nat.le_trans (Nat.le_refl _) (h12.lt k hk).1) k hk))) k hk))⟩⟩
 case round =>
  rename_i J25 K26 hJ25 hK26
  obtain ⟨x13, x14, P15, q16, rfl, rfl, HL27, hk24, hu18, hz19, h21, hn22⟩ := hrel
  obtain ⟨w17, rfl⟩ : ∃ wo : World, wo = wr := ⟨_, rfl⟩
  obtain ⟨k23, rfl⟩ | rfl : (∃ k, gk = k + 1) ∨ gk = 0 := by rcases gk with _ | k; exact .inr rfl; exact .inl ⟨k, rfl⟩
  case inr => exact absurd HL27.out (by simp [spec_l02At.l0])
  have H := HL27.out
  clear HL27
  rw [spec_l02At.l0] at H
  refine wp_seq_k fun K28 hK28=>?_
  refine wp_seq_k fun K29 hK29=>wp_region_lit ?_
  iterate 3 (refine wpp fun k h=>?_;go_simp;apply h;clear h k)
  refine wpList_nil (hK29 _ _ ?_)
  have hm31 := Aside0.mk (hu4.out.trans hu18.out)
  by_cases c30 : (decide (x13 < a0)) = true
  rotate_left
  ·
   rw [if_neg c30] at H; replace c30 := Bool.eq_false_iff.mpr c30
   obtain rfl := Option.some.inj H
   try simp only [c30, Bool.not_true, Bool.not_false]
   refine wp_cond_false rfl ?_
   refine wp_exit ?_
   refine hK9 _ _ ?_
   refine wp_seq_k fun K87 hK87=>wp_region_lit ?_
   iterate 2 (refine wpp fun k h=>?_;go_simp;apply h;clear h k)
   refine wpList_nil (hK87 _ _ ?_)
   refine wp_ret ?_
   refine hQf _ _ _ ?_
   exact bodyPost_ret (v := .slice P15 x14.length q16) (by first|rfl|simp [results, Try.results151, go_sem]<;>rfl) rfl ⟨P15, q16, rfl, (h21.lower (hu4.out.size)), hm31.out⟩
  rw [if_pos c30] at H
  try simp only [c30, Bool.not_true, Bool.not_false]
  refine wp_cond_true rfl ?_
  refine wp_skip ?_
  refine hK28 _ _ ?_
  refine wp_seq_k fun K32 hK32=>?_
  refine wp_block ?_
  refine wp_seq_k fun K33 hK33=>wp_region_lit ?_
  refine wpp fun k h=>?_;go_simp;apply h;clear h k
  refine wpList_nil (hK33 _ _ ?_)
  refine wp_block ?_
  have HL41 := Aside0.mk H
  clear H
  go_loopg [11, 9] k23 (fun kq v11 v9 w' => ∃ (x34 : Int) (x35 : List (Int × Int)) (P36 : Option Addr) (q37 : Nat), v11 = .int .i64 x34 ∧ v9 = .slice P36 x35.length q37 ∧ Aside0 (spec_l02At.l1 K a0 a1 a2_0 a2_1 a3 x13 kq x34 x35 = some (r0)) ∧ Aside0 (kq ≤ k23) ∧ Aside0 (Up w3 w') ∧ Aside0 (w17.heap.size ≤ w'.heap.size) ∧ Own e2 30 w' w3.heap.size (.slice P36 x35.length q37) x35 ∧ Aside0 (∀ k, blk (.slice P36 x35.length q37) = some k → k ≠ b2))
  case atStart => exact ⟨0, x14, P15, q16, (by first | rfl | simp), (by first | rfl | simp), HL41, ⟨Nat.le_refl _⟩, ⟨hu18.out⟩, ⟨Nat.le_refl _⟩, h21, ⟨hn22.out⟩⟩
  case round =>
   rename_i J46 K47 hJ46 hK47
   obtain ⟨x34, x35, P36, q37, rfl, rfl, HL48, hk45, hu39, hz40, h42, hn43⟩ := hrel
   obtain ⟨w38, rfl⟩ : ∃ wo : World, wo = wr := ⟨_, rfl⟩
   obtain ⟨k44, rfl⟩ | rfl : (∃ k, gk = k + 1) ∨ gk = 0 := by rcases gk with _ | k; exact .inr rfl; exact .inl ⟨k, rfl⟩
   case inr => exact absurd HL48.out (by simp [spec_l02At.l1])
   have H := HL48.out
   clear HL48
   rw [spec_l02At.l1] at H
   refine wp_seq_k fun K49 hK49=>?_
   refine wp_seq_k fun K50 hK50=>wp_region_lit ?_
   iterate 3 (refine wpp fun k h=>?_;go_simp;apply h;clear h k)
   refine wpList_nil (hK50 _ _ ?_)
   by_cases c51 : (decide (x34 < a0)) = true
   rotate_left
   ·
    rw [if_neg c51] at H; replace c51 := Bool.eq_false_iff.mpr c51
    have HL86 := Aside0.mk H
    clear H
    try simp only [c51, Bool.not_true, Bool.not_false]
    refine wp_cond_false rfl ?_
    refine wp_exit ?_
    refine hK32 _ _ ?_
    refine wp_region_lit ?_
    iterate 3 (refine wpp fun k h=>?_;go_simp;apply h;clear h k)
    refine wpList_nil (hK26 _ _ ?_)
    go_roundg k44
    case measure => have := hk24.out; have := hk45.out; omega
    case rel => exact ⟨wrap64 (x13 + 1), x35, P36, q37, (by first | rfl | simp), (by first | rfl | simp), HL86, ⟨by have := hk24.out; have := hk45.out; omega⟩, ⟨hu39.out⟩, ⟨(Nat.le_trans ((Nat.le_trans (Nat.le_refl _) hz19.out)) hz40.out)⟩, h42, ⟨hn43.out⟩⟩
   rw [if_pos c51] at H
   obtain ⟨t61,A62,H⟩:=Option.bind_eq_some_iff.mp H
   replace A62:=Aside0.mk A62;try dsimp only at H
   try simp only [c51, Bool.not_true, Bool.not_false]
   refine wp_cond_true rfl ?_
   refine wp_skip ?_
   refine hK49 _ _ ?_
   refine wp_seq_k fun K52 hK52=>?_
   refine wp_block ?_
   refine wp_seq_k fun K53 hK53=>wp_region_lit ?_
   iterate 3 (refine wpp fun k h=>?_;go_simp;apply h;clear h k)
   refine step_new (cs := [.int .i64 0, .int .i64 0]) (T := 30) (f := fun b => .pointer (some ⟨b, 0, none⟩)) rfl (by go_simp <;> rfl) ?_
   intro b54 w55 hu lb hb54
   simp only[Act.put,nm1,nm2,nm3]
   have lbb54 := Aside0.mk lb
   have ltb54 := Aside0.mk hb54.lt
   clear lb
   have hu56 := Aside0.mk hu
   clear hu
   have hB0 := hb54
   have cl0 := hB0.cell (o := 0) rfl
   have fr0 := hB0.free 0
   have cl1 := hB0.cell (o := 1) rfl
   have fr1 := hB0.free 1
   refine step_store (b := b54) (cs' := [.int .i64 x13, .int .i64 x34]) (T := 30) (W' := ((w55.setCell ⟨b54, 0, none⟩ (.int .i64 x13)).setCell ⟨b54, 1, none⟩ (.int .i64 x34))) rfl rfl (by go_simp <;> rfl) (((Sto.refl _ _).setCell 0 _).setCell 1 _) (((hB0).setCell 0 _).setCell 1 _) ?_
   clear hB0 cl0 fr0 cl1 fr1
   intro w57 hs hb59
   have hs58 := Aside0.mk hs
   clear hs
   refine wpList_nil (hK53 _ _ ?_)
   refine wp_seq_k fun K60 hK60=>wp_region_lit ?_
   iterate 2 (refine wpp fun k h=>?_;go_simp;apply h;clear h k)
   have cl0 := (hb2.up ((hu39.out.trans hu56.out).sto (Nat.le_trans ((Nat.le_trans ((Nat.le_trans (hu8.out.size) hz19.out)) hz40.out)) lbb54.out) hs58.out)).cell (o := 0) rfl
   have cl1 := (hb2.up ((hu39.out.trans hu56.out).sto (Nat.le_trans ((Nat.le_trans ((Nat.le_trans (hu8.out.size) hz19.out)) hz40.out)) lbb54.out) hs58.out)).cell (o := 1) rfl
   refine wpp fun k h=>?_;go_simp;apply h;clear h k
   clear cl0 cl1
   have cl0 := hb59.cell (o := 0) rfl
   have cl1 := hb59.cell (o := 1) rfl
   refine wpp fun k h=>?_;go_simp;apply h;clear h k
   clear cl0 cl1
   refine step_call wn (by go_simp <;> rfl) (spec_l02Quadrance.calls K a0 a1 a2_0 a2_1 x13 x34 t61 w57  A62.out) ?_
   rintro e w63 ⟨rfl, hu⟩
   have hu64 := Aside0.mk hu
   clear hu
   refine ⟨_, rfl, ?_⟩
   simp only[Act.put,nm1,nm2,nm3]
   iterate 2 (refine wpp fun k h=>?_;go_simp;apply h;clear h k)
   refine wpList_nil (hK60 _ _ ?_)
   have hm66 := Aside0.mk ((hu56.out.sto (Nat.le_trans (Nat.le_refl _) lbb54.out) hs58.out).trans hu64.out)
   have hm67 := Aside0.mk (Nat.le_trans ((Nat.le_trans ((Nat.le_trans (hu8.out.size) hz19.out)) hz40.out)) hm66.out.size)
   by_cases c65 : (t61 == a3) = true
   rotate_left
   ·
    rw [if_neg c65] at H; replace c65 := Bool.eq_false_iff.mpr c65
    have c65n : (t61 != a3) = true := by rw [bne, c65]; rfl
    have c65p : ¬ t61 = a3 := fun e => by simp [e] at c65
    have HL85 := Aside0.mk H
    clear H
    try simp only [c65, c65n, Bool.not_true, Bool.not_false]
    refine wp_cond_false rfl ?_
    refine wp_skip ?_
    refine hK52 _ _ ?_
    refine wp_region_lit ?_
    iterate 3 (refine wpp fun k h=>?_;go_simp;apply h;clear h k)
    refine wpList_nil (hK47 _ _ ?_)
    go_roundg k44
    case measure => exact Nat.lt_succ_self _
    case rel => exact ⟨wrap64 (x34 + 1), x35, P36, q37, (by first | rfl | simp), (by first | rfl | simp), HL85, ⟨by have := hk24.out; have := hk45.out; omega⟩, ⟨(hu39.out.trans hm66.out)⟩, ⟨(Nat.le_trans ((Nat.le_trans (Nat.le_refl _) hz40.out)) hm66.out.size)⟩, (h42.up hm66.out), ⟨hn43.out⟩⟩
   rw [if_pos c65] at H
   have c65n : (t61 != a3) = false := by rw [bne, c65]; rfl
   try simp only [c65, c65n, Bool.not_true, Bool.not_false]
   refine wp_cond_true rfl ?_
   refine wp_region_lit ?_
   refine wpp fun k h=>?_;go_simp;apply h;clear h k
   have cl0 := (hb59.up hu64.out).cell (o := 0) rfl
   have cl1 := (hb59.up hu64.out).cell (o := 1) rfl
   refine wpp fun k h=>?_;go_simp;apply h;clear h k
   clear cl0 cl1
   refine step_new (cs := [.int .i64 x13, .int .i64 x34]) (T := 30) (f := fun b => .slice (some ⟨b, 0, none⟩) 1 1) rfl (by go_simp <;> rfl) ?_
   intro b68 w69 hu lb hb68
   simp only[Act.put,nm1,nm2,nm3]
   have lbb68 := Aside0.mk lb
   have ltb68 := Aside0.mk hb68.lt
   clear lb
   have hu70 := Aside0.mk hu
   clear hu
   have hm72 := Aside0.mk (Nat.le_trans ((Nat.le_trans ((Nat.le_trans (hm31.out.size) hz40.out)) hm66.out.size)) hu70.out.size)
   have hm73 := Aside0.mk (Nat.le_trans ((Nat.le_trans ((Nat.le_trans (Nat.le_refl _) hz40.out)) hm66.out.size)) hu70.out.size)
   by_cases c71 : (decide (x35.length ≤ 1000000)) = true
   rotate_left
   ·
    rw [if_neg c71] at H; replace c71 := Bool.eq_false_iff.mpr c71
    exact absurd H (by simp)
   rw [if_pos c71] at H
   have HL84 := Aside0.mk H
   clear H
   try simp only [c71, Bool.not_true, Bool.not_false]
   have hO0 := Aside0.mk (h42.up (hm66.out.trans hu70.out))
   refine step_append e2 (z := .agg #[.int .i64 0, .int .i64 0]) (bytes := 16) (base := w3.heap.size) (xs := x35) (ys := [(x13, x34)]) wn _ _ rfl rfl (by kernel_rfl) rfl (by decide) rfl rfl rfl hO0.out (Rd.of_blk (E := e2) (xs := [(x13, x34)]) (o := 0) hb68 (by simp) (fun j u hu => by rcases j with _ | _ | j <;> simp_all [Enc.flat, e2])) ((Nat.le_trans (hm67.out) hu70.out.size)) (by have h0_ := (of_decide_eq_true (by assumption) : x35.length ≤ 1000000); (try simp only [List.length_cons, List.length_nil]); omega) ?_
   intro P74 q75 w76 h78 hg hat
   have hg79 := Aside0.mk hg
   have hat80 := Aside0.mk hat
   simp only[Act.put,nm1,nm2,nm3]
   have lb81 := Aside0.mk hO0.out.lt
   clear hO0 hg hat
   have h82 := (hb59.up (hu64.out.trans hu70.out)).grow hg79.out (fun k hk => Nat.ne_of_lt (Nat.lt_of_lt_of_le ((fun k hk => Nat.lt_of_lt_of_le (h42.lt k hk).2 (Nat.le_refl _)) k hk) lbb54.out))
   have h83 := hb68.grow hg79.out (fun k hk => Nat.ne_of_lt (Nat.lt_of_lt_of_le ((fun k hk => Nat.lt_of_lt_of_le (h42.lt k hk).2 (hm66.out.size)) k hk) lbb68.out))
   refine wpp fun k h=>?_;go_simp;apply h;clear h k
   refine wpList_nil (hK52 _ _ ?_)
   refine wp_region_lit ?_
   iterate 3 (refine wpp fun k h=>?_;go_simp;apply h;clear h k)
   refine wpList_nil (hK47 _ _ ?_)
   go_roundg k44
   case measure => exact Nat.lt_succ_self _
   case rel => exact ⟨wrap64 (x34 + 1), (x35 ++ [(x13, x34)]), P74, q75, (by first | rfl | simp), (by first | rfl | simp), HL84, ⟨by have := hk24.out; have := hk45.out; omega⟩, ⟨(((hu39.out.trans hm66.out).trans hu70.out).grow hg79.out (fun k hk => Nat.le_trans (Nat.le_refl _) ((fun k hk => (lb81.out k hk).1) k hk)))⟩, ⟨(Nat.le_trans (hm73.out) hg79.out.size)⟩, h78, ⟨(fun k hk => hat80.out.elim (fun e => hn43.out k (e.symm.trans hk)) (fun g => Nat.ne_of_gt (Nat.lt_of_lt_of_le (Nat.lt_of_lt_of_le ltb2.out ((Nat.le_trans (hm67.out) hu70.out.size))) (g k hk))))⟩⟩

set_option maxHeartbeats 40000000 in
set_option maxRecDepth 100000 in
theorem spec_l06Power.calls (K : Nat) (a0 : Int) (a1 : Int) (a2_0 : Int) (a2_1 : Int) (a2_2 : Int) (a3_0 : Int) (a3_1 : Int) (r0 : Int) (w : World)  (h : spec_l06Power.f K a0 a1 a2_0 a2_1 a2_2 a3_0 a3_1 = some (r0)) :
    Calls Try.prog 152 #[.int .i64 a0, .int .i64 a1, .agg #[.int .i64 a2_0, .int .i64 a2_1, .int .i64 a2_2], .agg #[.int .i64 a3_0, .int .i64 a3_1]] w fun e w' => e = .returned (.int .i64 r0) ∧ Up w w' := by
 have H : (((spec_l02Quadrance.f K a0 a1 a2_0 a2_1 a3_0 a3_1).bind fun t9 => ((spec_l01Mod.f K (wrap64 (t9 - a2_2)) a0).bind fun t11 => some t11)) : Option (Int)) = some (r0) := h
 clear h
 obtain ⟨t9,A10,H⟩:=Option.bind_eq_some_iff.mp H
 replace A10:=Aside0.mk A10;try dsimp only at H
 obtain ⟨t11,A12,H⟩:=Option.bind_eq_some_iff.mp H
 replace A12:=Aside0.mk A12;try dsimp only at H
 obtain rfl := Option.some.inj H
 go_enter Try.func152, Try.ntmps152
 refine wp_hide (fun Qf hQf => ?_)
 refine wp_seq_k fun K1 hK1=>wp_region_lit ?_
 refine step_new (cs := [.int .i64 a2_0, .int .i64 a2_1, .int .i64 a2_2]) (T := 71) (f := fun b => .pointer (some ⟨b, 0, none⟩)) rfl (by go_simp <;> rfl) ?_
 intro b2 w3 hu lb hb2
 simp only[Act.put,nm1,nm2,nm3]
 have lbb2 := Aside0.mk lb
 have ltb2 := Aside0.mk hb2.lt
 clear lb
 have hu4 := Aside0.mk hu
 clear hu
 refine step_new (cs := [.int .i64 a3_0, .int .i64 a3_1]) (T := 30) (f := fun b => .pointer (some ⟨b, 0, none⟩)) rfl (by go_simp <;> rfl) ?_
 intro b5 w6 hu lb hb5
 simp only[Act.put,nm1,nm2,nm3]
 have lbb5 := Aside0.mk lb
 have ltb5 := Aside0.mk hb5.lt
 clear lb
 have hu7 := Aside0.mk hu
 clear hu
 refine wpp fun k h=>?_;go_simp;apply h;clear h k
 refine wpList_nil (hK1 _ _ ?_)
 refine wp_seq_k fun K8 hK8=>?_
 refine' wp_region_up 11 [Slot.det _, Slot.det _, Slot.det _, Slot.det _, Slot.det _, Slot.det (.int .i64 t9), Slot.det _, Slot.det _, Slot.det _, Slot.det _, Slot.det (.int .i64 t11)] (by kernel_rfl) (by kernel_rfl) ?main
 case main =>
  simp only [List.take_succ_cons, List.take_zero]
  refine wpK_ops rfl (fun w1 hu => ?_) ?_
  · clear hu
    go_simp
    first | done | rfl
  simp only[Act.put,nm1,nm2,nm3]
  refine wpK_ops rfl (fun w1 hu => ?_) ?_
  · clear hu
    go_simp
    first | done | rfl
  simp only[Act.put,nm1,nm2,nm3]
  refine wpK_ops rfl (fun w1 hu => ?_) ?_
  · clear hu
    go_simp
    first | done | rfl
  simp only[Act.put,nm1,nm2,nm3]
  refine wpK_ops rfl (fun w1 hu => ?_) ?_
  · have cl0 := ((hb2.up hu7.out).up ((Up.refl _).drew.trans hu)).cell (o := 0) rfl
    have cl1 := ((hb2.up hu7.out).up ((Up.refl _).drew.trans hu)).cell (o := 1) rfl
    go_simp
    first | done | rfl
  simp only[Act.put,nm1,nm2,nm3]
  refine wpK_ops rfl (fun w1 hu => ?_) ?_
  · have cl0 := (hb5.up ((Up.refl _).drew.trans hu)).cell (o := 0) rfl
    have cl1 := (hb5.up ((Up.refl _).drew.trans hu)).cell (o := 1) rfl
    go_simp
    first | done | rfl
  simp only[Act.put,nm1,nm2,nm3]
  refine wpK_ops rfl (fun w1 hu => ?_) ?_
  · have hcl := (spec_l02Quadrance.calls K a0 a1 a2_0 a2_1 a3_0 a3_1 t9 w1  A10.out)
    clear hu
    replace hcl := Aside0.mk hcl
    go_simp
    exact hcl.out
  simp only[Act.put,nm1,nm2,nm3]
  refine wpK_ops rfl (fun w1 hu => ?_) ?_
  · clear hu
    go_simp
    first | done | rfl
  simp only[Act.put,nm1,nm2,nm3]
  refine wpK_ops rfl (fun w1 hu => ?_) ?_
  · have cl0 := ((hb2.up hu7.out).up ((Up.refl _).drew.trans hu)).cell (o := 2) rfl
    go_simp
    first | done | rfl
  simp only[Act.put,nm1,nm2,nm3]
  refine wpK_ops rfl (fun w1 hu => ?_) ?_
  · clear hu
    go_simp
    first | done | rfl
  simp only[Act.put,nm1,nm2,nm3]
  refine wpK_ops rfl (fun w1 hu => ?_) ?_
  · clear hu
    go_simp
    first | done | rfl
  simp only[Act.put,nm1,nm2,nm3]
  refine wpK_ops rfl (fun w1 hu => ?_) ?_
  · have hcl := (spec_l01Mod.calls K (wrap64 (t9 - a2_2)) a0 t11 w1  A12.out)
    clear hu
    replace hcl := Aside0.mk hcl
    go_simp
    exact hcl.out
  simp only[Act.put,nm1,nm2,nm3]
  refine wpK_nil ?_
  intro w13 hu hap
  simp only [List.drop_succ_cons, List.drop_zero]
  replace hu := (Up.refl _).drew.trans hu
  clear hap
  have hu14 := Aside0.mk hu
  clear hu
  refine wpp fun k h=>?_;go_simp;apply h;clear h k
  refine wpList_nil (hK8 _ _ ?_)
  refine wp_ret ?_
  refine hQf _ _ _ ?_
  exact bodyPost_ret (v := .int .i64 t11) (by first|rfl|simp [results, Try.results152, go_sem]<;>rfl) rfl ⟨rfl, ((hu4.out.trans hu7.out).trans hu14.out)⟩

set_option maxHeartbeats 40000000 in
set_option maxRecDepth 100000 in
theorem spec_MeetCircles.calls (K : Nat) (a0 : Int) (a1 : Int) (a2_0 : Int) (a2_1 : Int) (a2_2 : Int) (a3_0 : Int) (a3_1 : Int) (a3_2 : Int) (r0 : List (Int × Int)) (r1 : Int) (w : World)  (h : spec_MeetCircles.f K a0 a1 a2_0 a2_1 a2_2 a3_0 a3_1 a3_2 = some (r0, r1)) :
    Calls Try.prog 55 #[.int .i64 a0, .int .i64 a1, .agg #[.int .i64 a2_0, .int .i64 a2_1, .int .i64 a2_2], .agg #[.int .i64 a3_0, .int .i64 a3_1, .int .i64 a3_2]] w fun e w' => ∃ (Ar0 : Option Addr) (cr0 : Nat), e = .returned (.tuple #[.slice Ar0 r0.length cr0, .int .i64 r1]) ∧ Own e2 30 w' w.heap.size (.slice Ar0 r0.length cr0) r0 ∧ Up w w' := by
 have H : (((spec_l06Code.f K a0 a1 ([(a2_0, a2_1, a2_2), (a3_0, a3_1, a3_2)])).bind fun t13 => (if (t13 == 0) = true then ((spec_l02At.f K a0 a1 a2_0 a2_1 a2_2).bind fun t21 => (spec_MeetCircles.l0 K a0 a1 a3_0 a3_1 a3_2 t21 K 0 ([] : List (Int × Int)))) else some ([], t13))) : Option (List (Int × Int) × Int)) = some (r0, r1) := h
 clear h
 obtain ⟨t13,A14,H⟩:=Option.bind_eq_some_iff.mp H
 replace A14:=Aside0.mk A14;try dsimp only at H
 go_enter Try.func55, Try.ntmps55
 refine wp_hide (fun Qf hQf => ?_)
 refine wp_seq_k fun K1 hK1=>wp_region_lit ?_
 refine step_new (cs := [.int .i64 a2_0, .int .i64 a2_1, .int .i64 a2_2]) (T := 71) (f := fun b => .pointer (some ⟨b, 0, none⟩)) rfl (by go_simp <;> rfl) ?_
 intro b2 w3 hu lb hb2
 simp only[Act.put,nm1,nm2,nm3]
 have lbb2 := Aside0.mk lb
 have ltb2 := Aside0.mk hb2.lt
 clear lb
 have hu4 := Aside0.mk hu
 clear hu
 refine step_new (cs := [.int .i64 a3_0, .int .i64 a3_1, .int .i64 a3_2]) (T := 71) (f := fun b => .pointer (some ⟨b, 0, none⟩)) rfl (by go_simp <;> rfl) ?_
 intro b5 w6 hu lb hb5
 simp only[Act.put,nm1,nm2,nm3]
 have lbb5 := Aside0.mk lb
 have ltb5 := Aside0.mk hb5.lt
 clear lb
 have hu7 := Aside0.mk hu
 clear hu
 iterate 2 (refine wpp fun k h=>?_;go_simp;apply h;clear h k)
 refine wpList_nil (hK1 _ _ ?_)
 refine wp_seq_k fun K8 hK8=>?_
 refine wp_seq_k fun K9 hK9=>wp_region_lit ?_
 iterate 2 (refine wpp fun k h=>?_;go_simp;apply h;clear h k)
 have cl0 := (hb2.up hu7.out).cell (o := 0) rfl
 have cl1 := (hb2.up hu7.out).cell (o := 1) rfl
 have cl2 := (hb2.up hu7.out).cell (o := 2) rfl
 refine wpp fun k h=>?_;go_simp;apply h;clear h k
 clear cl0 cl1 cl2
 have cl0 := hb5.cell (o := 0) rfl
 have cl1 := hb5.cell (o := 1) rfl
 have cl2 := hb5.cell (o := 2) rfl
 refine wpp fun k h=>?_;go_simp;apply h;clear h k
 clear cl0 cl1 cl2
 refine step_new (cs := [.int .i64 a2_0, .int .i64 a2_1, .int .i64 a2_2, .int .i64 a3_0, .int .i64 a3_1, .int .i64 a3_2]) (T := 71) (f := fun b => .slice (some ⟨b, 0, none⟩) 2 2) rfl (by go_simp <;> rfl) ?_
 intro b10 w11 hu lb hb10
 simp only[Act.put,nm1,nm2,nm3]
 have lbb10 := Aside0.mk lb
 have ltb10 := Aside0.mk hb10.lt
 clear lb
 have hu12 := Aside0.mk hu
 clear hu
 refine step_call wn (by go_simp <;> rfl) (spec_l06Code.calls K a0 a1 (some ⟨b10, 0, none⟩) 2 ([(a2_0, a2_1, a2_2), (a3_0, a3_1, a3_2)]) t13 w11 (Rd.of_blk (E := e3) (xs := [(a2_0, a2_1, a2_2), (a3_0, a3_1, a3_2)]) (o := 0) hb10 (by simp) (fun j u hu => by rcases j with _ | _ | _ | _ | _ | _ | j <;> simp_all [Enc.flat, e3])) A14.out) ?_
 rintro e w15 ⟨rfl, hu⟩
 have hu16 := Aside0.mk hu
 clear hu
 refine ⟨_, rfl, ?_⟩
 simp only[Act.put,nm1,nm2,nm3]
 refine wpp fun k h=>?_;go_simp;apply h;clear h k
 refine wpList_nil (hK9 _ _ ?_)
 refine wp_seq_k fun K17 hK17=>wp_region_lit ?_
 iterate 2 (refine wpp fun k h=>?_;go_simp;apply h;clear h k)
 refine wpList_nil (hK17 _ _ ?_)
 have hm19 := Aside0.mk (((hu4.out.trans hu7.out).trans hu12.out).trans hu16.out)
 by_cases c18 : (t13 == 0) = true
 rotate_left
 ·
  rw [if_neg c18] at H; replace c18 := Bool.eq_false_iff.mpr c18
  have c18n : (t13 != 0) = true := by rw [bne, c18]; rfl
  have c18p : ¬ t13 = 0 := fun e => by simp [e] at c18
  simp only [Option.some.injEq, Prod.mk.injEq] at H
  obtain ⟨rfl, rfl⟩ := H
  try simp only [c18, c18n, Bool.not_true, Bool.not_false]
  refine wp_cond_true rfl ?_
  refine wp_seq_k fun K95 hK95=>wp_region_lit ?_
  iterate 3 (refine wpp fun k h=>?_;go_simp;apply h;clear h k)
  refine wpList_nil (hK95 _ _ ?_)
  refine wp_ret ?_
  have h97 : Own e2 30 w15 w15.heap.size (.slice none ([] : List (Int × Int)).length 0) [] := Own.nil
  refine hQf _ _ _ ?_
  exact bodyPost_ret (v := .tuple #[.slice none 0 0, .int .i64 t13]) (by first|rfl|simp [results, Try.results55, go_sem]<;>rfl) rfl ⟨none, 0, rfl, (h97.lower (hm19.out.size)), hm19.out⟩
 rw [if_pos c18] at H
 have c18n : (t13 != 0) = false := by rw [bne, c18]; rfl
 obtain ⟨t21,A24,H⟩:=Option.bind_eq_some_iff.mp H
 replace A24:=Aside0.mk A24;try dsimp only at H
 try simp only [c18, c18n, Bool.not_true, Bool.not_false]
 refine wp_cond_false rfl ?_
 refine wp_skip ?_
 refine hK8 _ _ ?_
 refine wp_seq_k fun K20 hK20=>wp_region_lit ?_
 iterate 3 (refine wpp fun k h=>?_;go_simp;apply h;clear h k)
 have cl0 := (hb2.up ((hu7.out.trans hu12.out).trans hu16.out)).cell (o := 0) rfl
 have cl1 := (hb2.up ((hu7.out.trans hu12.out).trans hu16.out)).cell (o := 1) rfl
 refine wpp fun k h=>?_;go_simp;apply h;clear h k
 clear cl0 cl1
 refine wpp fun k h=>?_;go_simp;apply h;clear h k
 have cl0 := (hb2.up ((hu7.out.trans hu12.out).trans hu16.out)).cell (o := 2) rfl
 refine wpp fun k h=>?_;go_simp;apply h;clear h k
 clear cl0
 refine step_call wn (by go_simp <;> rfl) (spec_l02At.calls K a0 a1 a2_0 a2_1 a2_2 t21 w15  A24.out) ?_
 rintro e w25 ⟨P22, q23, rfl, ht21, hu⟩
 have hu26 := Aside0.mk hu
 clear hu
 refine ⟨_, rfl, ?_⟩
 simp only[Act.put,nm1,nm2,nm3]
 refine step_new (cs := []) (T := 30) (f := fun b => .slice (some ⟨b, 0, none⟩) 0 0) rfl (by go_simp <;> rfl) ?_
 intro b27 w28 hu lb hb27
 simp only[Act.put,nm1,nm2,nm3]
 have lbb27 := Aside0.mk lb
 have ltb27 := Aside0.mk hb27.lt
 clear lb
 have hu29 := Aside0.mk hu
 clear hu
 iterate 2 (refine wpp fun k h=>?_;go_simp;apply h;clear h k)
 refine wpList_nil (hK20 _ _ ?_)
 refine wp_seq_k fun K30 hK30=>?_
 refine wp_seq_k fun K31 hK31=>wp_region_lit ?_
 refine wpp fun k h=>?_;go_simp;apply h;clear h k
 refine wpList_nil (hK31 _ _ ?_)
 refine wp_block ?_
 have h33 : Own e2 30 w28 w25.heap.size (.slice (some ⟨b27, 0, none⟩) ([].length) 0) [] := Own.of_blk hb27 lbb27.out rfl (by simp) (by simp [Enc.flat, e2])
 have HL41 := Aside0.mk H
 clear H
 go_loopg [13, 12] K (fun kq v13 v12 w' => ∃ (x34 : Int) (x35 : List (Int × Int)) (P36 : Option Addr) (q37 : Nat), v13 = .int .i64 x34 ∧ v12 = .slice P36 x35.length q37 ∧ Aside0 (spec_MeetCircles.l0 K a0 a1 a3_0 a3_1 a3_2 t21 kq x34 x35 = some (r0, r1)) ∧ Aside0 (kq ≤ K) ∧ Aside0 (Up w25 w') ∧ Aside0 (w28.heap.size ≤ w'.heap.size) ∧ Own e2 30 w' w25.heap.size (.slice P36 x35.length q37) x35 ∧ Aside0 (∀ k, blk (.slice P36 x35.length q37) = some k → k ≠ b5) ∧ Aside0 (∀ k l, blk (.slice P36 x35.length q37) = some k → blk (.slice P22 t21.length q23) = some l → k ≠ l))
 case atStart => exact ⟨0, ([] : List (Int × Int)), some ⟨b27, 0, none⟩, 0, (by first | rfl | simp), (by first | rfl | simp), HL41, ⟨Nat.le_refl _⟩, ⟨hu29.out⟩, ⟨Nat.le_refl _⟩, h33, ⟨(fun k hk => Ne.symm ((fun k hk => Nat.ne_of_lt (Nat.lt_of_lt_of_le (Nat.lt_of_lt_of_le ltb5.out ((Nat.le_trans ((Nat.le_trans (hu12.out.size) hu16.out.size)) hu26.out.size))) ((fun k hk => Nat.le_trans (Nat.le_refl _) (h33.lt k hk).1) k hk))) k hk))⟩, ⟨(fun k l hk hl => Ne.symm ((fun k l hk hl => Nat.ne_of_lt (Nat.lt_of_lt_of_le ((fun k hk => Nat.lt_of_lt_of_le (ht21.lt k hk).2 (Nat.le_refl _)) k hk) ((fun k hk => Nat.le_trans (Nat.le_refl _) (h33.lt k hk).1) l hl))) l k hl hk))⟩⟩
 case round =>
  rename_i J47 K48 hJ47 hK48
  obtain ⟨x34, x35, P36, q37, rfl, rfl, HL49, hk46, hu39, hz40, h42, hn43, hn44⟩ := hrel
  obtain ⟨w38, rfl⟩ : ∃ wo : World, wo = wr := ⟨_, rfl⟩
  obtain ⟨k45, rfl⟩ | rfl : (∃ k, gk = k + 1) ∨ gk = 0 := by rcases gk with _ | k; exact .inr rfl; exact .inl ⟨k, rfl⟩
  case inr => exact absurd HL49.out (by simp [spec_MeetCircles.l0])
  have H := HL49.out
  clear HL49
  rw [spec_MeetCircles.l0] at H
  refine wp_seq_k fun K50 hK50=>?_
  refine wp_seq_k fun K51 hK51=>wp_region_lit ?_
  iterate 4 (refine wpp fun k h=>?_;go_simp;apply h;clear h k)
  refine wpList_nil (hK51 _ _ ?_)
  have hm53 := Aside0.mk (hu26.out.trans hu39.out)
  by_cases c52 : (decide (x34 < (t21.length : Int))) = true
  rotate_left
  ·
   rw [if_neg c52] at H; replace c52 := Bool.eq_false_iff.mpr c52
   simp only [Option.some.injEq, Prod.mk.injEq] at H
   obtain ⟨rfl, rfl⟩ := H
   try simp only [c52, Bool.not_true, Bool.not_false]
   refine wp_cond_false rfl ?_
   refine wp_exit ?_
   refine hK30 _ _ ?_
   refine wp_seq_k fun K94 hK94=>wp_region_lit ?_
   iterate 3 (refine wpp fun k h=>?_;go_simp;apply h;clear h k)
   refine wpList_nil (hK94 _ _ ?_)
   refine wp_ret ?_
   refine hQf _ _ _ ?_
   exact bodyPost_ret (v := .tuple #[.slice P36 x35.length q37, .int .i64 0]) (by first|rfl|simp [results, Try.results55, go_sem]<;>rfl) rfl ⟨P36, q37, rfl, (h42.lower ((Nat.le_trans (hm19.out.size) hu26.out.size))), (hm19.out.trans hm53.out)⟩
  rw [if_pos c52] at H
  obtain ⟨⟨t56, t57⟩,A58,H⟩:=Option.bind_eq_some_iff.mp H
  replace A58:=Aside0.mk A58;try dsimp only at H
  obtain ⟨t63,A64,H⟩:=Option.bind_eq_some_iff.mp H
  replace A64:=Aside0.mk A64;try dsimp only at H
  try simp only [c52, Bool.not_true, Bool.not_false]
  refine wp_cond_true rfl ?_
  refine wp_skip ?_
  refine hK50 _ _ ?_
  refine wp_seq_k fun K54 hK54=>?_
  refine wp_block ?_
  refine wp_seq_k fun K55 hK55=>?_
  obtain ⟨ad59, hat, he⟩ := rd_at ((ht21.up hu39.out).rd) A58.out
  have he60 := Aside0.mk he
  have hat62 := Aside0.mk hat
  clear he hat
  refine' wp_region_up 9 [Slot.det _, Slot.det _, Slot.det _, Slot.det _, Slot.det _, Slot.det (.pointer (some ad59)), Slot.det _, Slot.det (.int .i64 t63), Slot.det _] (by kernel_rfl) (by kernel_rfl) ?main
  case main =>
   simp only [List.take_succ_cons, List.take_zero]
   refine wpK_ops rfl (fun w1 hu => ?_) ?_
   · clear hu
     go_simp
     first | done | rfl
   simp only[Act.put,nm1,nm2,nm3]
   refine wpK_ops rfl (fun w1 hu => ?_) ?_
   · clear hu
     go_simp
     first | done | rfl
   simp only[Act.put,nm1,nm2,nm3]
   refine wpK_ops rfl (fun w1 hu => ?_) ?_
   · have cl0 := ((hb5.up ((hu12.out.trans hu16.out).trans hm53.out)).up ((Up.refl _).drew.trans hu)).cell (o := 0) rfl
     have cl1 := ((hb5.up ((hu12.out.trans hu16.out).trans hm53.out)).up ((Up.refl _).drew.trans hu)).cell (o := 1) rfl
     have cl2 := ((hb5.up ((hu12.out.trans hu16.out).trans hm53.out)).up ((Up.refl _).drew.trans hu)).cell (o := 2) rfl
     go_simp
     first | done | rfl
   simp only[Act.put,nm1,nm2,nm3]
   refine wpK_ops rfl (fun w1 hu => ?_) ?_
   · clear hu
     go_simp
     first | done | rfl
   simp only[Act.put,nm1,nm2,nm3]
   refine wpK_ops rfl (fun w1 hu => ?_) ?_
   · clear hu
     go_simp
     first | done | rfl
   simp only[Act.put,nm1,nm2,nm3]
   refine wpK_ops rfl (fun w1 hu => ?_) ?_
   · exact quiet_index e2 (T := 30) rfl (by kernel_rfl) (by kernel_rfl) rfl rfl rfl hat62.out A58.out
   simp only[Act.put,nm1,nm2,nm3]
   refine wpK_ops rfl (fun w1 hu => ?_) ?_
   · have cl0 := he60.out 0 _ rfl
     rw [addr_add0] at cl0
     replace cl0 := (((Up.refl _).drew.trans hu)).kept cl0
     have cl1 : World.cell? _ ⟨ad59.block, ad59.off + 1, none⟩ = some _ := he60.out 1 _ rfl
     replace cl1 := (((Up.refl _).drew.trans hu)).kept cl1
     go_simp
     first | done | rfl
   simp only[Act.put,nm1,nm2,nm3]
   refine wpK_ops rfl (fun w1 hu => ?_) ?_
   · have hcl := (spec_l06Power.calls K a0 a1 a3_0 a3_1 a3_2 t56 t57 t63 w1  A64.out)
     clear hu
     replace hcl := Aside0.mk hcl
     go_simp
     exact hcl.out
   simp only[Act.put,nm1,nm2,nm3]
   refine wpK_ops rfl (fun w1 hu => ?_) ?_
   · clear hu
     go_simp
     first | done | rfl
   simp only[Act.put,nm1,nm2,nm3]
   refine wpK_nil ?_
   intro w65 hu hap
   simp only [List.drop_succ_cons, List.drop_zero]
   replace hu := (Up.refl _).drew.trans hu
   clear hap
   have hu66 := Aside0.mk hu
   clear hu
   refine wpList_nil (hK55 _ _ ?_)
   have h68 := (hb5.up (((hu12.out.trans hu16.out).trans hm53.out).trans hu66.out))
   by_cases c67 : (t63 == 0) = true
   rotate_left
   ·
    rw [if_neg c67] at H; replace c67 := Bool.eq_false_iff.mpr c67
    have c67n : (t63 != 0) = true := by rw [bne, c67]; rfl
    have c67p : ¬ t63 = 0 := fun e => by simp [e] at c67
    have HL93 := Aside0.mk H
    clear H
    try simp only [c67, c67n, Bool.not_true, Bool.not_false]
    refine wp_cond_false rfl ?_
    refine wp_skip ?_
    refine hK54 _ _ ?_
    refine wp_region_lit ?_
    iterate 3 (refine wpp fun k h=>?_;go_simp;apply h;clear h k)
    refine wpList_nil (hK48 _ _ ?_)
    go_roundg k45
    case measure => exact Nat.lt_succ_self _
    case rel => exact ⟨wrap64 (x34 + 1), x35, P36, q37, (by first | rfl | simp), (by first | rfl | simp), HL93, ⟨by have := hk46.out; omega⟩, ⟨(hu39.out.trans hu66.out)⟩, ⟨(Nat.le_trans ((Nat.le_trans (Nat.le_refl _) hz40.out)) hu66.out.size)⟩, (h42.up hu66.out), ⟨hn43.out⟩, ⟨hn44.out⟩⟩
   rw [if_pos c67] at H
   have c67n : (t63 != 0) = false := by rw [bne, c67]; rfl
   obtain ⟨⟨t69, t70⟩,A71,H⟩:=Option.bind_eq_some_iff.mp H
   replace A71:=Aside0.mk A71;try dsimp only at H
   try simp only [c67, c67n, Bool.not_true, Bool.not_false]
   refine wp_cond_true rfl ?_
   refine wp_region_lit ?_
   iterate 3 (refine wpp fun k h=>?_;go_simp;apply h;clear h k)
   refine step_index e2 (T := 30) wn rfl (by kernel_rfl) (by kernel_rfl) rfl rfl rfl (ht21.up (hu39.out.trans hu66.out)).rd A71.out ?_
   intro ad72 hat he
   have he73 := Aside0.mk he
   have hat74 := Aside0.mk hat
   clear he hat
   simp only[Act.put,nm1,nm2,nm3]
   have cl0 := he73.out 0 _ rfl
   rw [addr_add0] at cl0
   have cl1 : World.cell? _ ⟨ad72.block, ad72.off + 1, none⟩ = some _ := he73.out 1 _ rfl
   refine wpp fun k h=>?_;go_simp;apply h;clear h k
   clear cl0 cl1
   refine step_new (cs := [.int .i64 t69, .int .i64 t70]) (T := 30) (f := fun b => .slice (some ⟨b, 0, none⟩) 1 1) rfl (by go_simp <;> rfl) ?_
   intro b75 w76 hu lb hb75
   simp only[Act.put,nm1,nm2,nm3]
   have lbb75 := Aside0.mk lb
   have ltb75 := Aside0.mk hb75.lt
   clear lb
   have hu77 := Aside0.mk hu
   clear hu
   have hm79 := Aside0.mk (Nat.le_trans ((Nat.le_trans ((Nat.le_trans (hm19.out.size) hm53.out.size)) hu66.out.size)) hu77.out.size)
   have hm80 := Aside0.mk (Nat.le_trans ((Nat.le_trans ((Nat.le_trans (hu29.out.size) hz40.out)) hu66.out.size)) hu77.out.size)
   have hm81 := Aside0.mk (Nat.le_trans ((Nat.le_trans ((Nat.le_trans (Nat.le_refl _) hz40.out)) hu66.out.size)) hu77.out.size)
   by_cases c78 : (decide (x35.length ≤ 1000000)) = true
   rotate_left
   ·
    rw [if_neg c78] at H; replace c78 := Bool.eq_false_iff.mpr c78
    exact absurd H (by simp)
   rw [if_pos c78] at H
   have HL92 := Aside0.mk H
   clear H
   try simp only [c78, Bool.not_true, Bool.not_false]
   have hO0 := Aside0.mk (h42.up (hu66.out.trans hu77.out))
   refine step_append e2 (z := .agg #[.int .i64 0, .int .i64 0]) (bytes := 16) (base := w25.heap.size) (xs := x35) (ys := [(t69, t70)]) wn _ _ rfl rfl (by kernel_rfl) rfl (by decide) rfl rfl rfl hO0.out (Rd.of_blk (E := e2) (xs := [(t69, t70)]) (o := 0) hb75 (by simp) (fun j u hu => by rcases j with _ | _ | j <;> simp_all [Enc.flat, e2])) (hm80.out) (by have h0_ := (of_decide_eq_true (by assumption) : x35.length ≤ 1000000); (try simp only [List.length_cons, List.length_nil]); omega) ?_
   intro P82 q83 w84 h86 hg hat
   have hg87 := Aside0.mk hg
   have hat88 := Aside0.mk hat
   simp only[Act.put,nm1,nm2,nm3]
   have lb89 := Aside0.mk hO0.out.lt
   clear hO0 hg hat
   have h90 := (h68.up hu77.out).grow hg87.out hn43.out
   have h91 := hb75.grow hg87.out (fun k hk => Nat.ne_of_lt (Nat.lt_of_lt_of_le ((fun k hk => Nat.lt_of_lt_of_le (h42.lt k hk).2 (hu66.out.size)) k hk) lbb75.out))
   refine wpp fun k h=>?_;go_simp;apply h;clear h k
   refine wpList_nil (hK54 _ _ ?_)
   refine wp_region_lit ?_
   iterate 3 (refine wpp fun k h=>?_;go_simp;apply h;clear h k)
   refine wpList_nil (hK48 _ _ ?_)
   go_roundg k45
   case measure => exact Nat.lt_succ_self _
   case rel => exact ⟨wrap64 (x34 + 1), (x35 ++ [(t69, t70)]), P82, q83, (by first | rfl | simp), (by first | rfl | simp), HL92, ⟨by have := hk46.out; omega⟩, ⟨(((hu39.out.trans hu66.out).trans hu77.out).grow hg87.out (fun k hk => Nat.le_trans (Nat.le_refl _) ((fun k hk => (lb89.out k hk).1) k hk)))⟩, ⟨(Nat.le_trans (hm81.out) hg87.out.size)⟩, h86, ⟨(fun k hk => hat88.out.elim (fun e => hn43.out k (e.symm.trans hk)) (fun g => Nat.ne_of_gt (Nat.lt_of_lt_of_le (Nat.lt_of_lt_of_le ltb5.out ((Nat.le_trans ((Nat.le_trans ((Nat.le_trans ((Nat.le_trans (hu12.out.size) hu16.out.size)) hm53.out.size)) hu66.out.size)) hu77.out.size))) (g k hk))))⟩, ⟨(fun k l hk hl => hat88.out.elim (fun e => hn44.out k l (e.symm.trans hk) hl) (fun g => Nat.ne_of_gt (Nat.lt_of_lt_of_le ((fun k hk => Nat.lt_of_lt_of_le (ht21.lt k hk).2 (hm80.out)) l hl) (g k hk))))⟩⟩

set_option maxHeartbeats 40000000 in
set_option maxRecDepth 100000 in
theorem laws_points9.calls (K : Nat) (a0_A : Option Addr) (a0_c : Nat) (a0 : List (Int × Int)) (a1_A : Option Addr) (a1_c : Nat) (a1 : List (Int × Int)) (r0 : Bool) (w : World) (ha0 : Rd e2 w a0_A a0) (ha1 : Rd e2 w a1_A a1) (h : laws_points9.f K a0 a1 = some (r0)) :
    Calls Try.prog 56 #[.slice a0_A a0.length a0_c, .slice a1_A a1.length a1_c] w fun e w' => e = .returned (.bool r0) ∧ Up w w' := by
 have H : ((if ((a0.length : Int) == (a1.length : Int)) = true then (laws_points9.l0 K a0 a1 K 0) else some false) : Option (Bool)) = some (r0) := h
 clear h
 go_enter Try.func56, Try.ntmps56
 refine wp_hide (fun Qf hQf => ?_)
 refine wp_seq_k fun K1 hK1=>wp_region_lit ?_
 refine wpp fun k h=>?_;go_simp;apply h;clear h k
 refine wpList_nil (hK1 _ _ ?_)
 refine wp_seq_k fun K2 hK2=>?_
 refine wp_seq_k fun K3 hK3=>wp_region_lit ?_
 iterate 5 (refine wpp fun k h=>?_;go_simp;apply h;clear h k)
 refine wpList_nil (hK3 _ _ ?_)
 by_cases c4 : ((a0.length : Int) == (a1.length : Int)) = true
 rotate_left
 ·
  rw [if_neg c4] at H; replace c4 := Bool.eq_false_iff.mpr c4
  have c4n : ((a0.length : Int) != (a1.length : Int)) = true := by rw [bne, c4]; rfl
  have c4p : ¬ (a0.length : Int) = (a1.length : Int) := fun e => by simp [e] at c4
  obtain rfl := Option.some.inj H
  try simp only [c4, c4n, Bool.not_true, Bool.not_false]
  refine wp_cond_true rfl ?_
  refine wp_seq_k fun K42 hK42=>wp_region_lit ?_
  refine wpp fun k h=>?_;go_simp;apply h;clear h k
  refine wpList_nil (hK42 _ _ ?_)
  refine wp_ret ?_
  refine hQf _ _ _ ?_
  exact bodyPost_ret (v := .bool false) (by first|rfl|simp [results, Try.results56, go_sem]<;>rfl) rfl ⟨rfl, (Up.refl _)⟩
 rw [if_pos c4] at H
 have c4n : ((a0.length : Int) != (a1.length : Int)) = false := by rw [bne, c4]; rfl
 try simp only [c4, c4n, Bool.not_true, Bool.not_false]
 refine wp_cond_false rfl ?_
 refine wp_skip ?_
 refine hK2 _ _ ?_
 refine wp_seq_k fun K5 hK5=>?_
 refine wp_seq_k fun K6 hK6=>wp_region_lit ?_
 refine wpp fun k h=>?_;go_simp;apply h;clear h k
 refine wpList_nil (hK6 _ _ ?_)
 refine wp_block ?_
 have HL11 := Aside0.mk H
 clear H
 go_loopg [5] K (fun kq v5 w' => ∃ (x7 : Int), v5 = .int .i64 x7 ∧ Aside0 (laws_points9.l0 K a0 a1 kq x7 = some (r0)) ∧ Aside0 (kq ≤ K) ∧ Aside0 (Up w w') ∧ Aside0 (w.heap.size ≤ w'.heap.size))
 case atStart => exact ⟨0, (by first | rfl | simp), HL11, ⟨Nat.le_refl _⟩, ⟨(Up.refl _)⟩, ⟨Nat.le_refl _⟩⟩
 case round =>
  rename_i J14 K15 hJ14 hK15
  obtain ⟨x7, rfl, HL16, hk13, hu9, hz10⟩ := hrel
  obtain ⟨w8, rfl⟩ : ∃ wo : World, wo = wr := ⟨_, rfl⟩
  obtain ⟨k12, rfl⟩ | rfl : (∃ k, gk = k + 1) ∨ gk = 0 := by rcases gk with _ | k; exact .inr rfl; exact .inl ⟨k, rfl⟩
  case inr => exact absurd HL16.out (by simp [laws_points9.l0])
  have H := HL16.out
  clear HL16
  rw [laws_points9.l0] at H
  refine wp_seq_k fun K17 hK17=>?_
  refine wp_seq_k fun K18 hK18=>wp_region_lit ?_
  iterate 4 (refine wpp fun k h=>?_;go_simp;apply h;clear h k)
  refine wpList_nil (hK18 _ _ ?_)
  by_cases c19 : (decide (x7 < (a0.length : Int))) = true
  rotate_left
  ·
   rw [if_neg c19] at H; replace c19 := Bool.eq_false_iff.mpr c19
   obtain rfl := Option.some.inj H
   try simp only [c19, Bool.not_true, Bool.not_false]
   refine wp_cond_false rfl ?_
   refine wp_exit ?_
   refine hK5 _ _ ?_
   refine wp_seq_k fun K41 hK41=>wp_region_lit ?_
   refine wpp fun k h=>?_;go_simp;apply h;clear h k
   refine wpList_nil (hK41 _ _ ?_)
   refine wp_ret ?_
   refine hQf _ _ _ ?_
   exact bodyPost_ret (v := .bool true) (by first|rfl|simp [results, Try.results56, go_sem]<;>rfl) rfl ⟨rfl, hu9.out⟩
  rw [if_pos c19] at H
  obtain ⟨⟨t22, t23⟩,A24,H⟩:=Option.bind_eq_some_iff.mp H
  replace A24:=Aside0.mk A24;try dsimp only at H
  obtain ⟨⟨t29, t30⟩,A31,H⟩:=Option.bind_eq_some_iff.mp H
  replace A31:=Aside0.mk A31;try dsimp only at H
  try simp only [c19, Bool.not_true, Bool.not_false]
  refine wp_cond_true rfl ?_
  refine wp_skip ?_
  refine hK17 _ _ ?_
  refine wp_seq_k fun K20 hK20=>?_
  refine wp_block ?_
  refine wp_seq_k fun K21 hK21=>?_
  obtain ⟨ad25, hat, he⟩ := rd_at (ha0.up hu9.out) A24.out
  have he26 := Aside0.mk he
  have hat28 := Aside0.mk hat
  clear he hat
  obtain ⟨ad32, hat, he⟩ := rd_at (ha1.up hu9.out) A31.out
  have he33 := Aside0.mk he
  have hat35 := Aside0.mk hat
  clear he hat
  refine' wp_region_up 9 [Slot.det _, Slot.det _, Slot.det (.pointer (some ad25)), Slot.det _, Slot.det _, Slot.det _, Slot.det (.pointer (some ad32)), Slot.det _, Slot.det _] (by kernel_rfl) (by kernel_rfl) ?main
  case main =>
   simp only [List.take_succ_cons, List.take_zero]
   refine wpK_ops rfl (fun w1 hu => ?_) ?_
   · clear hu
     go_simp
     first | done | rfl
   simp only[Act.put,nm1,nm2,nm3]
   refine wpK_ops rfl (fun w1 hu => ?_) ?_
   · clear hu
     go_simp
     first | done | rfl
   simp only[Act.put,nm1,nm2,nm3]
   refine wpK_ops rfl (fun w1 hu => ?_) ?_
   · exact quiet_index e2 (T := 30) rfl (by kernel_rfl) (by kernel_rfl) rfl rfl rfl hat28.out A24.out
   simp only[Act.put,nm1,nm2,nm3]
   refine wpK_ops rfl (fun w1 hu => ?_) ?_
   · have cl0 := he26.out 0 _ rfl
     rw [addr_add0] at cl0
     replace cl0 := (((Up.refl _).drew.trans hu)).kept cl0
     have cl1 : World.cell? _ ⟨ad25.block, ad25.off + 1, none⟩ = some _ := he26.out 1 _ rfl
     replace cl1 := (((Up.refl _).drew.trans hu)).kept cl1
     go_simp
     first | done | rfl
   simp only[Act.put,nm1,nm2,nm3]
   refine wpK_ops rfl (fun w1 hu => ?_) ?_
   · clear hu
     go_simp
     first | done | rfl
   simp only[Act.put,nm1,nm2,nm3]
   refine wpK_ops rfl (fun w1 hu => ?_) ?_
   · clear hu
     go_simp
     first | done | rfl
   simp only[Act.put,nm1,nm2,nm3]
   refine wpK_ops rfl (fun w1 hu => ?_) ?_
   · exact quiet_index e2 (T := 30) rfl (by kernel_rfl) (by kernel_rfl) rfl rfl rfl hat35.out A31.out
   simp only[Act.put,nm1,nm2,nm3]
   refine wpK_ops rfl (fun w1 hu => ?_) ?_
   · have cl0 := he33.out 0 _ rfl
     rw [addr_add0] at cl0
     replace cl0 := (((Up.refl _).drew.trans hu)).kept cl0
     have cl1 : World.cell? _ ⟨ad32.block, ad32.off + 1, none⟩ = some _ := he33.out 1 _ rfl
     replace cl1 := (((Up.refl _).drew.trans hu)).kept cl1
     go_simp
     first | done | rfl
   simp only[Act.put,nm1,nm2,nm3]
   refine wpK_ops rfl (fun w1 hu => ?_) ?_
   · clear hu
     go_simp
     first | done | rfl
   simp only[Act.put,nm1,nm2,nm3]
   refine wpK_nil ?_
   intro w36 hu hap
   simp only [List.drop_succ_cons, List.drop_zero]
   replace hu := (Up.refl _).drew.trans hu
   clear hap
   have hu37 := Aside0.mk hu
   clear hu
   refine wpList_nil (hK21 _ _ ?_)
   by_cases c38 : (t22 == t29 && t23 == t30) = true
   rotate_left
   ·
    rw [if_neg c38] at H; replace c38 := Bool.eq_false_iff.mpr c38
    have c38n : (!t22 == t29 || !t23 == t30) = true := by simp only [← Bool.not_and, c38, Bool.not_true, Bool.not_false]
    obtain rfl := Option.some.inj H
    try simp only [c38, c38n, Bool.not_true, Bool.not_false]
    refine wp_cond_true rfl ?_
    refine wp_seq_k fun K40 hK40=>wp_region_lit ?_
    refine wpp fun k h=>?_;go_simp;apply h;clear h k
    refine wpList_nil (hK40 _ _ ?_)
    refine wp_ret ?_
    refine hQf _ _ _ ?_
    exact bodyPost_ret (v := .bool false) (by first|rfl|simp [results, Try.results56, go_sem]<;>rfl) rfl ⟨rfl, (hu9.out.trans hu37.out)⟩
   rw [if_pos c38] at H
   have c38n : (!t22 == t29 || !t23 == t30) = false := by simp only [← Bool.not_and, c38, Bool.not_true, Bool.not_false]
   have HL39 := Aside0.mk H
   clear H
   try simp only [c38, c38n, Bool.not_true, Bool.not_false]
   refine wp_cond_false rfl ?_
   refine wp_skip ?_
   refine hK20 _ _ ?_
   refine wp_region_lit ?_
   iterate 3 (refine wpp fun k h=>?_;go_simp;apply h;clear h k)
   refine wpList_nil (hK15 _ _ ?_)
   go_roundg k12
   case measure => exact Nat.lt_succ_self _
   case rel => exact ⟨wrap64 (x7 + 1), (by first | rfl | simp), HL39, ⟨by have := hk13.out; omega⟩, ⟨(hu9.out.trans hu37.out)⟩, ⟨(Nat.le_trans ((Nat.le_trans (Nat.le_refl _) hz10.out)) hu37.out.size)⟩⟩

set_option maxHeartbeats 40000000 in
set_option maxRecDepth 100000 in
theorem spec_DrawRadicalCentre.calls (K : Nat) (a0_A : Option Addr) (a0_c : Nat) (a0 : List (Int)) (r0 : Int) (r1 : Int) (r2 : Int) (r3 : Int) (r4 : Int) (r5 : Int) (r6 : Int) (r7 : Int) (r8 : Int) (r9 : Int) (r10 : Int) (w : World) (ha0 : Rd eU8 w a0_A a0) (h : spec_DrawRadicalCentre.f K a0 = some (r0, r1, r2, r3, r4, r5, r6, r7, r8, r9, r10)) :
    Calls Try.prog 57 #[.slice a0_A a0.length a0_c] w fun e w' => e = .returned (.tuple #[.int .i64 r0, .int .i64 r1, .agg #[.int .i64 r2, .int .i64 r3, .int .i64 r4], .agg #[.int .i64 r5, .int .i64 r6, .int .i64 r7], .agg #[.int .i64 r8, .int .i64 r9, .int .i64 r10]]) ∧ Up w w' := by
 have H : (((spec_l01From.f K a0).bind fun (t13, t14) => ((spec_l06Two.f K a0).bind fun (t19, t20, t21, t22, t23, t24, t25, t26) => ((spec_l06DrawOf.f K a0 t13 t14 (imin (imax t19 3) 31)).bind fun (t45, t46, t47, t48, t49) => some (t19, t20, t21, t22, t23, t24, t25, t26, t45, t46, t47)))) : Option (Int × Int × Int × Int × Int × Int × Int × Int × Int × Int × Int)) = some (r0, r1, r2, r3, r4, r5, r6, r7, r8, r9, r10) := h
 clear h
 obtain ⟨⟨t13, t14⟩,A15,H⟩:=Option.bind_eq_some_iff.mp H
 replace A15:=Aside0.mk A15;try dsimp only at H
 obtain ⟨⟨t19, t20, t21, t22, t23, t24, t25, t26⟩,A27,H⟩:=Option.bind_eq_some_iff.mp H
 replace A27:=Aside0.mk A27;try dsimp only at H
 obtain ⟨⟨t45, t46, t47, t48, t49⟩,A50,H⟩:=Option.bind_eq_some_iff.mp H
 replace A50:=Aside0.mk A50;try dsimp only at H
 simp only [Option.some.injEq, Prod.mk.injEq] at H
 obtain ⟨rfl, rfl, rfl, rfl, rfl, rfl, rfl, rfl, rfl, rfl, rfl⟩ := H
 go_enter Try.func57, Try.ntmps57
 refine wp_hide (fun Qf hQf => ?_)
 refine wp_seq_k fun K1 hK1=>wp_region_lit ?_
 iterate 2 (refine wpp fun k h=>?_;go_simp;apply h;clear h k)
 refine step_new (cs := [.int .i64 0, .int .i64 0, .int .i64 0]) (T := 71) (f := fun b => .pointer (some ⟨b, 0, none⟩)) rfl (by go_simp <;> rfl) ?_
 intro b2 w3 hu lb hb2
 simp only[Act.put,nm1,nm2,nm3]
 have lbb2 := Aside0.mk lb
 have ltb2 := Aside0.mk hb2.lt
 clear lb
 have hu4 := Aside0.mk hu
 clear hu
 refine step_new (cs := [.int .i64 0, .int .i64 0, .int .i64 0]) (T := 71) (f := fun b => .pointer (some ⟨b, 0, none⟩)) rfl (by go_simp <;> rfl) ?_
 intro b5 w6 hu lb hb5
 simp only[Act.put,nm1,nm2,nm3]
 have lbb5 := Aside0.mk lb
 have ltb5 := Aside0.mk hb5.lt
 clear lb
 have hu7 := Aside0.mk hu
 clear hu
 refine step_new (cs := [.int .i64 0, .int .i64 0, .int .i64 0]) (T := 71) (f := fun b => .pointer (some ⟨b, 0, none⟩)) rfl (by go_simp <;> rfl) ?_
 intro b8 w9 hu lb hb8
 simp only[Act.put,nm1,nm2,nm3]
 have lbb8 := Aside0.mk lb
 have ltb8 := Aside0.mk hb8.lt
 clear lb
 have hu10 := Aside0.mk hu
 clear hu
 refine wpList_nil (hK1 _ _ ?_)
 refine wp_seq_k fun K11 hK11=>wp_region_lit ?_
 refine wpp fun k h=>?_;go_simp;apply h;clear h k
 refine step_call wn (by go_simp <;> rfl) (spec_l01From.calls K a0_A a0_c a0 t13 t14 w9 (ha0.up ((hu4.out.trans hu7.out).trans hu10.out)) A15.out) ?_
 rintro e w16 ⟨b12, rfl, hb12, lb, hu⟩
 have lbb12 := lb
 have ltb12 := Aside0.mk hb12.lt
 clear lb
 have hu17 := Aside0.mk hu
 clear hu
 refine ⟨_, rfl, ?_⟩
 simp only[Act.put,nm1,nm2,nm3]
 refine wpp fun k h=>?_;go_simp;apply h;clear h k
 refine wpList_nil (hK11 _ _ ?_)
 refine wp_seq_k fun K18 hK18=>wp_region_lit ?_
 refine wpp fun k h=>?_;go_simp;apply h;clear h k
 refine step_call wn (by go_simp <;> rfl) (spec_l06Two.calls K a0_A a0_c a0 t19 t20 t21 t22 t23 t24 t25 t26 w16 (ha0.up (((hu4.out.trans hu7.out).trans hu10.out).trans hu17.out)) A27.out) ?_
 rintro e w28 ⟨rfl, hu⟩
 have hu29 := Aside0.mk hu
 clear hu
 refine ⟨_, rfl, ?_⟩
 simp only[Act.put,nm1,nm2,nm3]
 iterate 5 (refine wpp fun k h=>?_;go_simp;apply h;clear h k)
 refine step_new (cs := [.int .i64 0, .int .i64 0, .int .i64 0]) (T := 71) (f := fun b => .pointer (some ⟨b, 0, none⟩)) rfl (by go_simp <;> rfl) ?_
 intro b30 w31 hu lb hb30
 simp only[Act.put,nm1,nm2,nm3]
 have lbb30 := Aside0.mk lb
 have ltb30 := Aside0.mk hb30.lt
 clear lb
 have hu32 := Aside0.mk hu
 clear hu
 refine step_new (cs := [.int .i64 0, .int .i64 0, .int .i64 0]) (T := 71) (f := fun b => .pointer (some ⟨b, 0, none⟩)) rfl (by go_simp <;> rfl) ?_
 intro b33 w34 hu lb hb33
 simp only[Act.put,nm1,nm2,nm3]
 have lbb33 := Aside0.mk lb
 have ltb33 := Aside0.mk hb33.lt
 clear lb
 have hu35 := Aside0.mk hu
 clear hu
 iterate 2 (refine wpp fun k h=>?_;go_simp;apply h;clear h k)
 have hB0 := (hb30.up hu35.out)
 have cl0 := hB0.cell (o := 0) rfl
 have fr0 := hB0.free 0
 have cl1 := hB0.cell (o := 1) rfl
 have fr1 := hB0.free 1
 have cl2 := hB0.cell (o := 2) rfl
 have fr2 := hB0.free 2
 refine step_store (b := b30) (cs' := [.int .i64 t21, .int .i64 t22, .int .i64 t23]) (T := 71) (W' := (((w34.setCell ⟨b30, 0, none⟩ (.int .i64 t21)).setCell ⟨b30, 1, none⟩ (.int .i64 t22)).setCell ⟨b30, 2, none⟩ (.int .i64 t23))) rfl rfl (by go_simp <;> rfl) ((((Sto.refl _ _).setCell 0 _).setCell 1 _).setCell 2 _) ((((hB0).setCell 0 _).setCell 1 _).setCell 2 _) ?_
 clear hB0 cl0 fr0 cl1 fr1 cl2 fr2
 intro w36 hs hb38
 have hs37 := Aside0.mk hs
 clear hs
 have h39 := hb33.sto hs37.out (Ne.symm (Nat.ne_of_lt (Nat.lt_of_lt_of_le ltb30.out lbb33.out)))
 have hB0 := h39
 have cl0 := hB0.cell (o := 0) rfl
 have fr0 := hB0.free 0
 have cl1 := hB0.cell (o := 1) rfl
 have fr1 := hB0.free 1
 have cl2 := hB0.cell (o := 2) rfl
 have fr2 := hB0.free 2
 refine step_store (b := b33) (cs' := [.int .i64 t24, .int .i64 t25, .int .i64 t26]) (T := 71) (W' := (((w36.setCell ⟨b33, 0, none⟩ (.int .i64 t24)).setCell ⟨b33, 1, none⟩ (.int .i64 t25)).setCell ⟨b33, 2, none⟩ (.int .i64 t26))) rfl rfl (by go_simp <;> rfl) ((((Sto.refl _ _).setCell 0 _).setCell 1 _).setCell 2 _) ((((hB0).setCell 0 _).setCell 1 _).setCell 2 _) ?_
 clear hB0 cl0 fr0 cl1 fr1 cl2 fr2
 intro w40 hs hb42
 have hs41 := Aside0.mk hs
 clear hs
 have h43 := hb38.sto hs41.out (Nat.ne_of_lt (Nat.lt_of_lt_of_le ltb30.out lbb33.out))
 refine wpList_nil (hK18 _ _ ?_)
 refine wp_seq_k fun K44 hK44=>wp_region_lit ?_
 iterate 4 (refine wpp fun k h=>?_;go_simp;apply h;clear h k)
 refine step_call wn (by go_simp <;> rfl) (spec_l06DrawOf.calls K b12 a0_A a0_c a0 t13 t14 (imin (imax t19 3) 31) t45 t46 t47 t48 t49 w40 (hb12.up ((((hu29.out.trans hu32.out).trans hu35.out).sto (Nat.le_trans (hu29.out.size) lbb30.out) hs37.out).sto (Nat.le_trans ((Nat.le_trans (hu29.out.size) hu32.out.size)) lbb33.out) hs41.out)) (ha0.up ((((((((hu4.out.trans hu7.out).trans hu10.out).trans hu17.out).trans hu29.out).trans hu32.out).trans hu35.out).sto (Nat.le_trans ((Nat.le_trans ((Nat.le_trans ((Nat.le_trans ((Nat.le_trans (hu4.out.size) hu7.out.size)) hu10.out.size)) hu17.out.size)) hu29.out.size)) lbb30.out) hs37.out).sto (Nat.le_trans ((Nat.le_trans ((Nat.le_trans ((Nat.le_trans ((Nat.le_trans ((Nat.le_trans (hu4.out.size) hu7.out.size)) hu10.out.size)) hu17.out.size)) hu29.out.size)) hu32.out.size)) lbb33.out) hs41.out)) (fun k hk hp => Nat.ne_of_lt (Nat.lt_of_lt_of_le ((ha0.up ((hu4.out.trans hu7.out).trans hu10.out)).blk_lt hp k hk) lbb12.out)) A50.out) ?_
 rintro e w51 ⟨rfl, h52, hs⟩
 have hs53 := Aside0.mk hs
 clear hs
 have h54 := h43.grow hs53.out (fun k hk e => (Nat.ne_of_lt (Nat.lt_of_lt_of_le (Nat.lt_of_lt_of_le ltb12.out (hu29.out.size)) lbb30.out)) ((Option.some.inj hk).trans e))
 have h55 := hb42.grow hs53.out (fun k hk e => (Nat.ne_of_lt (Nat.lt_of_lt_of_le (Nat.lt_of_lt_of_le ltb12.out ((Nat.le_trans (hu29.out.size) hu32.out.size))) lbb33.out)) ((Option.some.inj hk).trans e))
 refine ⟨_, rfl, ?_⟩
 simp only[Act.put,nm1,nm2,nm3]
 refine step_new (cs := [.int .i64 0, .int .i64 0, .int .i64 0]) (T := 71) (f := fun b => .pointer (some ⟨b, 0, none⟩)) rfl (by go_simp <;> rfl) ?_
 intro b56 w57 hu lb hb56
 simp only[Act.put,nm1,nm2,nm3]
 have lbb56 := Aside0.mk lb
 have ltb56 := Aside0.mk hb56.lt
 clear lb
 have hu58 := Aside0.mk hu
 clear hu
 have hB0 := hb56
 have cl0 := hB0.cell (o := 0) rfl
 have fr0 := hB0.free 0
 have cl1 := hB0.cell (o := 1) rfl
 have fr1 := hB0.free 1
 have cl2 := hB0.cell (o := 2) rfl
 have fr2 := hB0.free 2
 refine step_store (b := b56) (cs' := [.int .i64 t45, .int .i64 t46, .int .i64 t47]) (T := 71) (W' := (((w57.setCell ⟨b56, 0, none⟩ (.int .i64 t45)).setCell ⟨b56, 1, none⟩ (.int .i64 t46)).setCell ⟨b56, 2, none⟩ (.int .i64 t47))) rfl rfl (by go_simp <;> rfl) ((((Sto.refl _ _).setCell 0 _).setCell 1 _).setCell 2 _) ((((hB0).setCell 0 _).setCell 1 _).setCell 2 _) ?_
 clear hB0 cl0 fr0 cl1 fr1 cl2 fr2
 intro w59 hs hb61
 have hs60 := Aside0.mk hs
 clear hs
 refine wpList_nil (hK44 _ _ ?_)
 refine wp_seq_k fun K62 hK62=>?_
 have hTT_ : ∀ w_, Up (World.drew w59) w_ → (fun w_ => Blk w_ b30 [.int .i64 t21, .int .i64 t22, .int .i64 t23] 71 ∧ Blk w_ b33 [.int .i64 t24, .int .i64 t25, .int .i64 t26] 71 ∧ Blk w_ b56 [.int .i64 t45, .int .i64 t46, .int .i64 t47] 71 ∧ True) w_ := fun w_ hu_ => ⟨(h54.up (hu58.out.sto (Nat.le_trans (Nat.le_refl _) lbb56.out) hs60.out)).up ((Up.refl _).drew.trans hu_), (h55.up (hu58.out.sto (Nat.le_trans (Nat.le_refl _) lbb56.out) hs60.out)).up ((Up.refl _).drew.trans hu_), hb61.up ((Up.refl _).drew.trans hu_), True.intro⟩
 refine' wp_region_mix (fun w_ => Blk w_ b30 [.int .i64 t21, .int .i64 t22, .int .i64 t23] 71 ∧ Blk w_ b33 [.int .i64 t24, .int .i64 t25, .int .i64 t26] 71 ∧ Blk w_ b56 [.int .i64 t45, .int .i64 t46, .int .i64 t47] 71 ∧ True) [0, 1, 2, 3, 4] [5, 6, 7, 8, 9] [Slot.pur _, Slot.pur _, Slot.pur _, Slot.pur _, Slot.pur _] (by kernel_rfl) (by kernel_rfl) rfl rfl hTT_ ?main
 case main =>
  simp only [pick, List.drop_succ_cons, List.drop_zero]
  refine wpK_pur rfl hTT_ (fun w1 hT => ?_) ?_
  · clear hT
    go_simp
    first | done | rfl
  simp only[Act.put,nm1,nm2,nm3]
  refine wpK_pur rfl hTT_ (fun w1 hT => ?_) ?_
  · clear hT
    go_simp
    first | done | rfl
  simp only[Act.put,nm1,nm2,nm3]
  refine wpK_pur rfl hTT_ (fun w1 hT => ?_) ?_
  · have hB_ := hT.1
    have cl0 := hB_.cell (o := 0) rfl
    have cl1 := hB_.cell (o := 1) rfl
    have cl2 := hB_.cell (o := 2) rfl
    clear hT
    go_simp
    first | done | rfl
  simp only[Act.put,nm1,nm2,nm3]
  refine wpK_pur rfl hTT_ (fun w1 hT => ?_) ?_
  · have hB_ := hT.2.1
    have cl0 := hB_.cell (o := 0) rfl
    have cl1 := hB_.cell (o := 1) rfl
    have cl2 := hB_.cell (o := 2) rfl
    clear hT
    go_simp
    first | done | rfl
  simp only[Act.put,nm1,nm2,nm3]
  refine wpK_pur rfl hTT_ (fun w1 hT => ?_) ?_
  · have hB_ := hT.2.2.1
    have cl0 := hB_.cell (o := 0) rfl
    have cl1 := hB_.cell (o := 1) rfl
    have cl2 := hB_.cell (o := 2) rfl
    clear hT
    go_simp
    first | done | rfl
  simp only[Act.put,nm1,nm2,nm3]
  refine wpK_nil ?_
  intro w63 hu
  replace hu := (Up.refl _).drew.trans hu
  have hu64 := Aside0.mk hu
  clear hu
  refine late_consT ⟨(h54.up ((hu58.out.sto (Nat.le_trans (Nat.le_refl _) lbb56.out) hs60.out).trans hu64.out)), (h55.up ((hu58.out.sto (Nat.le_trans (Nat.le_refl _) lbb56.out) hs60.out).trans hu64.out)), (hb61.up hu64.out), True.intro⟩ ?_
  refine wpp fun k h=>?_;go_simp;apply h;clear h k
  refine wpList_nil ?_
  refine wrapQ_k ?_
  refine late_consT ⟨(h54.up ((hu58.out.sto (Nat.le_trans (Nat.le_refl _) lbb56.out) hs60.out).trans hu64.out)), (h55.up ((hu58.out.sto (Nat.le_trans (Nat.le_refl _) lbb56.out) hs60.out).trans hu64.out)), (hb61.up hu64.out), True.intro⟩ ?_
  refine wpp fun k h=>?_;go_simp;apply h;clear h k
  refine wpList_nil ?_
  refine wrapQ_k ?_
  refine late_consT ⟨(h54.up ((hu58.out.sto (Nat.le_trans (Nat.le_refl _) lbb56.out) hs60.out).trans hu64.out)), (h55.up ((hu58.out.sto (Nat.le_trans (Nat.le_refl _) lbb56.out) hs60.out).trans hu64.out)), (hb61.up hu64.out), True.intro⟩ ?_
  have hB0 := (hb2.up (((((((((((hu7.out.trans hu10.out).trans hu17.out).trans hu29.out).trans hu32.out).trans hu35.out).sto (Nat.le_trans ((Nat.le_trans ((Nat.le_trans ((Nat.le_trans (hu7.out.size) hu10.out.size)) hu17.out.size)) hu29.out.size)) lbb30.out) hs37.out).sto (Nat.le_trans ((Nat.le_trans ((Nat.le_trans ((Nat.le_trans ((Nat.le_trans (hu7.out.size) hu10.out.size)) hu17.out.size)) hu29.out.size)) hu32.out.size)) lbb33.out) hs41.out).grow hs53.out (fun k hk => Nat.le_trans ((Nat.le_trans (hu7.out.size) hu10.out.size)) ((fun k hk => Nat.le_trans lbb12.out (Nat.le_of_eq (Option.some.inj hk))) k hk))).trans hu58.out).sto (Nat.le_trans ((Nat.le_trans ((Nat.le_trans ((Nat.le_trans ((Nat.le_trans ((Nat.le_trans ((Nat.le_trans ((Nat.le_trans ((Nat.le_trans (hu7.out.size) hu10.out.size)) hu17.out.size)) hu29.out.size)) hu32.out.size)) hu35.out.size)) (Nat.le_of_eq hs37.out.size.symm))) (Nat.le_of_eq hs41.out.size.symm))) hs53.out.size)) lbb56.out) hs60.out).trans hu64.out))
  have cl0 := hB0.cell (o := 0) rfl
  have fr0 := hB0.free 0
  have cl1 := hB0.cell (o := 1) rfl
  have fr1 := hB0.free 1
  have cl2 := hB0.cell (o := 2) rfl
  have fr2 := hB0.free 2
  refine step_store (b := b2) (cs' := [.int .i64 t21, .int .i64 t22, .int .i64 t23]) (T := 71) (W' := (((w63.setCell ⟨b2, 0, none⟩ (.int .i64 t21)).setCell ⟨b2, 1, none⟩ (.int .i64 t22)).setCell ⟨b2, 2, none⟩ (.int .i64 t23))) rfl rfl (by go_simp <;> rfl) ((((Sto.refl _ _).setCell 0 _).setCell 1 _).setCell 2 _) ((((hB0).setCell 0 _).setCell 1 _).setCell 2 _) ?_
  clear hB0 cl0 fr0 cl1 fr1 cl2 fr2
  intro w65 hs hb67
  have hs66 := Aside0.mk hs
  clear hs
  have h68 := (hb5.up ((((((((((hu10.out.trans hu17.out).trans hu29.out).trans hu32.out).trans hu35.out).sto (Nat.le_trans ((Nat.le_trans ((Nat.le_trans (hu10.out.size) hu17.out.size)) hu29.out.size)) lbb30.out) hs37.out).sto (Nat.le_trans ((Nat.le_trans ((Nat.le_trans ((Nat.le_trans (hu10.out.size) hu17.out.size)) hu29.out.size)) hu32.out.size)) lbb33.out) hs41.out).grow hs53.out (fun k hk => Nat.le_trans (hu10.out.size) ((fun k hk => Nat.le_trans lbb12.out (Nat.le_of_eq (Option.some.inj hk))) k hk))).trans hu58.out).sto (Nat.le_trans ((Nat.le_trans ((Nat.le_trans ((Nat.le_trans ((Nat.le_trans ((Nat.le_trans ((Nat.le_trans ((Nat.le_trans (hu10.out.size) hu17.out.size)) hu29.out.size)) hu32.out.size)) hu35.out.size)) (Nat.le_of_eq hs37.out.size.symm))) (Nat.le_of_eq hs41.out.size.symm))) hs53.out.size)) lbb56.out) hs60.out).trans hu64.out)).sto hs66.out (Ne.symm (Nat.ne_of_lt (Nat.lt_of_lt_of_le ltb2.out lbb5.out)))
  have h69 := (hb8.up (((((((((hu17.out.trans hu29.out).trans hu32.out).trans hu35.out).sto (Nat.le_trans ((Nat.le_trans (hu17.out.size) hu29.out.size)) lbb30.out) hs37.out).sto (Nat.le_trans ((Nat.le_trans ((Nat.le_trans (hu17.out.size) hu29.out.size)) hu32.out.size)) lbb33.out) hs41.out).grow hs53.out (fun k hk => Nat.le_trans (Nat.le_refl _) ((fun k hk => Nat.le_trans lbb12.out (Nat.le_of_eq (Option.some.inj hk))) k hk))).trans hu58.out).sto (Nat.le_trans ((Nat.le_trans ((Nat.le_trans ((Nat.le_trans ((Nat.le_trans ((Nat.le_trans ((Nat.le_trans (hu17.out.size) hu29.out.size)) hu32.out.size)) hu35.out.size)) (Nat.le_of_eq hs37.out.size.symm))) (Nat.le_of_eq hs41.out.size.symm))) hs53.out.size)) lbb56.out) hs60.out).trans hu64.out)).sto hs66.out (Ne.symm (Nat.ne_of_lt (Nat.lt_of_lt_of_le (Nat.lt_of_lt_of_le ltb2.out (hu7.out.size)) lbb8.out)))
  have h70 := (h54.up ((hu58.out.sto (Nat.le_trans (Nat.le_refl _) lbb56.out) hs60.out).trans hu64.out)).sto hs66.out (Ne.symm (Nat.ne_of_lt (Nat.lt_of_lt_of_le (Nat.lt_of_lt_of_le ltb2.out ((Nat.le_trans ((Nat.le_trans ((Nat.le_trans (hu7.out.size) hu10.out.size)) hu17.out.size)) hu29.out.size))) lbb30.out)))
  have h71 := (h55.up ((hu58.out.sto (Nat.le_trans (Nat.le_refl _) lbb56.out) hs60.out).trans hu64.out)).sto hs66.out (Ne.symm (Nat.ne_of_lt (Nat.lt_of_lt_of_le (Nat.lt_of_lt_of_le ltb2.out ((Nat.le_trans ((Nat.le_trans ((Nat.le_trans ((Nat.le_trans (hu7.out.size) hu10.out.size)) hu17.out.size)) hu29.out.size)) hu32.out.size))) lbb33.out)))
  have h72 := (hb61.up hu64.out).sto hs66.out (Ne.symm (Nat.ne_of_lt (Nat.lt_of_lt_of_le (Nat.lt_of_lt_of_le ltb2.out ((Nat.le_trans ((Nat.le_trans ((Nat.le_trans ((Nat.le_trans ((Nat.le_trans ((Nat.le_trans ((Nat.le_trans ((Nat.le_trans (hu7.out.size) hu10.out.size)) hu17.out.size)) hu29.out.size)) hu32.out.size)) hu35.out.size)) (Nat.le_of_eq hs37.out.size.symm))) (Nat.le_of_eq hs41.out.size.symm))) hs53.out.size))) lbb56.out)))
  refine wpList_nil ?_
  refine wrapQ_k ?_
  refine late_consT ⟨h70, h71, h72, True.intro⟩ ?_
  have hB0 := h68
  have cl0 := hB0.cell (o := 0) rfl
  have fr0 := hB0.free 0
  have cl1 := hB0.cell (o := 1) rfl
  have fr1 := hB0.free 1
  have cl2 := hB0.cell (o := 2) rfl
  have fr2 := hB0.free 2
  refine step_store (b := b5) (cs' := [.int .i64 t24, .int .i64 t25, .int .i64 t26]) (T := 71) (W' := (((w65.setCell ⟨b5, 0, none⟩ (.int .i64 t24)).setCell ⟨b5, 1, none⟩ (.int .i64 t25)).setCell ⟨b5, 2, none⟩ (.int .i64 t26))) rfl rfl (by go_simp <;> rfl) ((((Sto.refl _ _).setCell 0 _).setCell 1 _).setCell 2 _) ((((hB0).setCell 0 _).setCell 1 _).setCell 2 _) ?_
  clear hB0 cl0 fr0 cl1 fr1 cl2 fr2
  intro w73 hs hb75
  have hs74 := Aside0.mk hs
  clear hs
  have h76 := hb67.sto hs74.out (Nat.ne_of_lt (Nat.lt_of_lt_of_le ltb2.out lbb5.out))
  have h77 := h69.sto hs74.out (Ne.symm (Nat.ne_of_lt (Nat.lt_of_lt_of_le ltb5.out lbb8.out)))
  have h78 := h70.sto hs74.out (Ne.symm (Nat.ne_of_lt (Nat.lt_of_lt_of_le (Nat.lt_of_lt_of_le ltb5.out ((Nat.le_trans ((Nat.le_trans (hu10.out.size) hu17.out.size)) hu29.out.size))) lbb30.out)))
  have h79 := h71.sto hs74.out (Ne.symm (Nat.ne_of_lt (Nat.lt_of_lt_of_le (Nat.lt_of_lt_of_le ltb5.out ((Nat.le_trans ((Nat.le_trans ((Nat.le_trans (hu10.out.size) hu17.out.size)) hu29.out.size)) hu32.out.size))) lbb33.out)))
  have h80 := h72.sto hs74.out (Ne.symm (Nat.ne_of_lt (Nat.lt_of_lt_of_le (Nat.lt_of_lt_of_le ltb5.out ((Nat.le_trans ((Nat.le_trans ((Nat.le_trans ((Nat.le_trans ((Nat.le_trans ((Nat.le_trans ((Nat.le_trans (hu10.out.size) hu17.out.size)) hu29.out.size)) hu32.out.size)) hu35.out.size)) (Nat.le_of_eq hs37.out.size.symm))) (Nat.le_of_eq hs41.out.size.symm))) hs53.out.size))) lbb56.out)))
  refine wpList_nil ?_
  refine wrapQ_k ?_
  refine late_consT ⟨h78, h79, h80, True.intro⟩ ?_
  have hB0 := h77
  have cl0 := hB0.cell (o := 0) rfl
  have fr0 := hB0.free 0
  have cl1 := hB0.cell (o := 1) rfl
  have fr1 := hB0.free 1
  have cl2 := hB0.cell (o := 2) rfl
  have fr2 := hB0.free 2
  refine step_store (b := b8) (cs' := [.int .i64 t45, .int .i64 t46, .int .i64 t47]) (T := 71) (W' := (((w73.setCell ⟨b8, 0, none⟩ (.int .i64 t45)).setCell ⟨b8, 1, none⟩ (.int .i64 t46)).setCell ⟨b8, 2, none⟩ (.int .i64 t47))) rfl rfl (by go_simp <;> rfl) ((((Sto.refl _ _).setCell 0 _).setCell 1 _).setCell 2 _) ((((hB0).setCell 0 _).setCell 1 _).setCell 2 _) ?_
  clear hB0 cl0 fr0 cl1 fr1 cl2 fr2
  intro w81 hs hb83
  have hs82 := Aside0.mk hs
  clear hs
  have h84 := h76.sto hs82.out (Nat.ne_of_lt (Nat.lt_of_lt_of_le (Nat.lt_of_lt_of_le ltb2.out (hu7.out.size)) lbb8.out))
  have h85 := hb75.sto hs82.out (Nat.ne_of_lt (Nat.lt_of_lt_of_le ltb5.out lbb8.out))
  have h86 := h78.sto hs82.out (Ne.symm (Nat.ne_of_lt (Nat.lt_of_lt_of_le (Nat.lt_of_lt_of_le ltb8.out ((Nat.le_trans (hu17.out.size) hu29.out.size))) lbb30.out)))
  have h87 := h79.sto hs82.out (Ne.symm (Nat.ne_of_lt (Nat.lt_of_lt_of_le (Nat.lt_of_lt_of_le ltb8.out ((Nat.le_trans ((Nat.le_trans (hu17.out.size) hu29.out.size)) hu32.out.size))) lbb33.out)))
  have h88 := h80.sto hs82.out (Ne.symm (Nat.ne_of_lt (Nat.lt_of_lt_of_le (Nat.lt_of_lt_of_le ltb8.out ((Nat.le_trans ((Nat.le_trans ((Nat.le_trans ((Nat.le_trans ((Nat.le_trans ((Nat.le_trans (hu17.out.size) hu29.out.size)) hu32.out.size)) hu35.out.size)) (Nat.le_of_eq hs37.out.size.symm))) (Nat.le_of_eq hs41.out.size.symm))) hs53.out.size))) lbb56.out)))
  refine wpList_nil ?_
  refine wrapQ_k ?_
  refine late_nilT ⟨h86, h87, h88, True.intro⟩ ?_
  refine hK62 _ _ ?_
  refine wp_ret ?_
  refine hQf _ _ _ ?_
  have cr0 := h84.cell (o := 0) rfl
  have cr1 := h84.cell (o := 1) rfl
  have cr2 := h84.cell (o := 2) rfl
  have cr3 := h85.cell (o := 0) rfl
  have cr4 := h85.cell (o := 1) rfl
  have cr5 := h85.cell (o := 2) rfl
  have cr6 := hb83.cell (o := 0) rfl
  have cr7 := hb83.cell (o := 1) rfl
  have cr8 := hb83.cell (o := 2) rfl
  exact bodyPost_ret (v := .tuple #[.int .i64 t19, .int .i64 t20, .agg #[.int .i64 t21, .int .i64 t22, .int .i64 t23], .agg #[.int .i64 t24, .int .i64 t25, .int .i64 t26], .agg #[.int .i64 t45, .int .i64 t46, .int .i64 t47]]) (by first|rfl|simp [results, Try.results57, go_sem, cr0, cr1, cr2, cr3, cr4, cr5, cr6, cr7, cr8]<;>rfl) rfl ⟨rfl, (((((((((((((((hu4.out.trans hu7.out).trans hu10.out).trans hu17.out).trans hu29.out).trans hu32.out).trans hu35.out).sto (Nat.le_trans ((Nat.le_trans ((Nat.le_trans ((Nat.le_trans ((Nat.le_trans (hu4.out.size) hu7.out.size)) hu10.out.size)) hu17.out.size)) hu29.out.size)) lbb30.out) hs37.out).sto (Nat.le_trans ((Nat.le_trans ((Nat.le_trans ((Nat.le_trans ((Nat.le_trans ((Nat.le_trans (hu4.out.size) hu7.out.size)) hu10.out.size)) hu17.out.size)) hu29.out.size)) hu32.out.size)) lbb33.out) hs41.out).grow hs53.out (fun k hk => Nat.le_trans ((Nat.le_trans ((Nat.le_trans (hu4.out.size) hu7.out.size)) hu10.out.size)) ((fun k hk => Nat.le_trans lbb12.out (Nat.le_of_eq (Option.some.inj hk))) k hk))).trans hu58.out).sto (Nat.le_trans ((Nat.le_trans ((Nat.le_trans ((Nat.le_trans ((Nat.le_trans ((Nat.le_trans ((Nat.le_trans ((Nat.le_trans ((Nat.le_trans ((Nat.le_trans (hu4.out.size) hu7.out.size)) hu10.out.size)) hu17.out.size)) hu29.out.size)) hu32.out.size)) hu35.out.size)) (Nat.le_of_eq hs37.out.size.symm))) (Nat.le_of_eq hs41.out.size.symm))) hs53.out.size)) lbb56.out) hs60.out).trans hu64.out).sto (Nat.le_trans (Nat.le_refl _) lbb2.out) hs66.out).sto (Nat.le_trans (hu4.out.size) lbb5.out) hs74.out).sto (Nat.le_trans ((Nat.le_trans (hu4.out.size) hu7.out.size)) lbb8.out) hs82.out)⟩

set_option maxHeartbeats 40000000 in
set_option maxRecDepth 100000 in
theorem impl_RadicalCentre_1.calls (K : Nat) (bf0 : Nat) (f0_0 : Int) (bf1 : Nat) (f1_0 : Int) (bf2 : Nat) (f2_0 : Int) (f2_1 : Int) (f2_2 : Int) (bf3 : Nat) (f3_0 : Int) (f3_1 : Int) (f3_2 : Int) (bf4 : Nat) (f4_0 : Int) (f4_1 : Int) (f4_2 : Int) (r0 : Bool) (w : World) (hf0 : Blk w bf0 [.int .i64 f0_0] 2) (hf1 : Blk w bf1 [.int .i64 f1_0] 2) (hf2 : Blk w bf2 [.int .i64 f2_0, .int .i64 f2_1, .int .i64 f2_2] 71) (hf3 : Blk w bf3 [.int .i64 f3_0, .int .i64 f3_1, .int .i64 f3_2] 71) (hf4 : Blk w bf4 [.int .i64 f4_0, .int .i64 f4_1, .int .i64 f4_2] 71) (h : impl_RadicalCentre_1.f K f0_0 f1_0 f2_0 f2_1 f2_2 f3_0 f3_1 f3_2 f4_0 f4_1 f4_2 = some (r0)) :
    Calls Try.prog 154 #[.pointer (some ⟨bf0, 0, none⟩), .pointer (some ⟨bf1, 0, none⟩), .pointer (some ⟨bf2, 0, none⟩), .pointer (some ⟨bf3, 0, none⟩), .pointer (some ⟨bf4, 0, none⟩)] w fun e w' => e = .returned (.bool r0) ∧ Up w w' := by
 have H : (((impl_isColour.f K f0_0).bind fun t3 => (if t3 = true then ((impl_isCircle.f K f1_0 f2_0 f2_1 f2_2).bind fun t8 => (if t8 = true then ((impl_isCircle.f K f1_0 f3_0 f3_1 f3_2).bind fun t13 => (if t13 = true then ((impl_isCircle.f K f1_0 f4_0 f4_1 f4_2).bind fun t18 => some t18) else some false)) else some false)) else some false)) : Option (Bool)) = some (r0) := h
 clear h
 obtain ⟨t3,A4,H⟩:=Option.bind_eq_some_iff.mp H
 replace A4:=Aside0.mk A4;try dsimp only at H
 have ltbf0 := Aside0.mk hf0.lt
 have ltbf1 := Aside0.mk hf1.lt
 have ltbf2 := Aside0.mk hf2.lt
 have ltbf3 := Aside0.mk hf3.lt
 have ltbf4 := Aside0.mk hf4.lt
 go_enter Try.func154, Try.ntmps154
 refine wp_hide (fun Qf hQf => ?_)
 refine wp_seq_k fun K1 hK1=>wp_region_lit ?_
 refine wpp fun k h=>?_;go_simp;apply h;clear h k
 refine wpList_nil (hK1 _ _ ?_)
 refine wp_seq_k fun K2 hK2=>wp_region_lit ?_
 have cl0 := hf0.cell (o := 0) rfl
 refine wpp fun k h=>?_;go_simp;apply h;clear h k
 clear cl0
 refine step_call wn (by go_simp <;> rfl) (impl_isColour.calls K f0_0 t3 w  A4.out) ?_
 rintro e w5 ⟨rfl, hu⟩
 have hu6 := Aside0.mk hu
 clear hu
 refine ⟨_, rfl, ?_⟩
 simp only[Act.put,nm1,nm2,nm3]
 refine wpp fun k h=>?_;go_simp;apply h;clear h k
 by_cases c7 : (t3) = true
 rotate_left
 ·
  rw [if_neg c7] at H; replace c7 := Bool.eq_false_iff.mpr c7
  subst c7
  obtain rfl := Option.some.inj H
  refine step_no rfl ?_
  simp only[Act.put,nm1,nm2,nm3]
  refine step_no rfl ?_
  simp only[Act.put,nm1,nm2,nm3]
  refine step_no rfl ?_
  simp only[Act.put,nm1,nm2,nm3]
  iterate 2 (refine wpp fun k h=>?_;go_simp;apply h;clear h k)
  refine step_no rfl ?_
  simp only[Act.put,nm1,nm2,nm3]
  refine step_no rfl ?_
  simp only[Act.put,nm1,nm2,nm3]
  refine step_no rfl ?_
  simp only[Act.put,nm1,nm2,nm3]
  iterate 2 (refine wpp fun k h=>?_;go_simp;apply h;clear h k)
  refine step_no rfl ?_
  simp only[Act.put,nm1,nm2,nm3]
  refine step_no rfl ?_
  simp only[Act.put,nm1,nm2,nm3]
  refine step_no rfl ?_
  simp only[Act.put,nm1,nm2,nm3]
  iterate 2 (refine wpp fun k h=>?_;go_simp;apply h;clear h k)
  refine wpList_nil (hK2 _ _ ?_)
  refine wp_ret ?_
  refine hQf _ _ _ ?_
  exact bodyPost_ret (v := .bool false) (by first|rfl|simp [results, Try.results154, go_sem]<;>rfl) rfl ⟨rfl, hu6.out⟩
 rw [if_pos c7] at H
 subst c7
 obtain ⟨t8,A9,H⟩:=Option.bind_eq_some_iff.mp H
 replace A9:=Aside0.mk A9;try dsimp only at H
 have cl0 := (hf1.up hu6.out).cell (o := 0) rfl
 refine wpList_step fun k h=>?_;go_simp;apply h;clear h k
 clear cl0
 have cl0 := (hf2.up hu6.out).cell (o := 0) rfl
 have cl1 := (hf2.up hu6.out).cell (o := 1) rfl
 have cl2 := (hf2.up hu6.out).cell (o := 2) rfl
 refine wpList_step fun k h=>?_;go_simp;apply h;clear h k
 clear cl0 cl1 cl2
 refine step_call rfl (by go_simp <;> rfl) (impl_isCircle.calls K f1_0 f2_0 f2_1 f2_2 t8 w5  A9.out) ?_
 rintro e w10 ⟨rfl, hu⟩
 have hu11 := Aside0.mk hu
 clear hu
 refine ⟨_, rfl, ?_⟩
 simp only[Act.put,nm1,nm2,nm3]
 iterate 2 (refine wpp fun k h=>?_;go_simp;apply h;clear h k)
 by_cases c12 : (t8) = true
 rotate_left
 ·
  rw [if_neg c12] at H; replace c12 := Bool.eq_false_iff.mpr c12
  subst c12
  obtain rfl := Option.some.inj H
  refine step_no rfl ?_
  simp only[Act.put,nm1,nm2,nm3]
  refine step_no rfl ?_
  simp only[Act.put,nm1,nm2,nm3]
  refine step_no rfl ?_
  simp only[Act.put,nm1,nm2,nm3]
  iterate 2 (refine wpp fun k h=>?_;go_simp;apply h;clear h k)
  refine step_no rfl ?_
  simp only[Act.put,nm1,nm2,nm3]
  refine step_no rfl ?_
  simp only[Act.put,nm1,nm2,nm3]
  refine step_no rfl ?_
  simp only[Act.put,nm1,nm2,nm3]
  iterate 2 (refine wpp fun k h=>?_;go_simp;apply h;clear h k)
  refine wpList_nil (hK2 _ _ ?_)
  refine wp_ret ?_
  refine hQf _ _ _ ?_
  exact bodyPost_ret (v := .bool false) (by first|rfl|simp [results, Try.results154, go_sem]<;>rfl) rfl ⟨rfl, (hu6.out.trans hu11.out)⟩
 rw [if_pos c12] at H
 subst c12
 obtain ⟨t13,A14,H⟩:=Option.bind_eq_some_iff.mp H
 replace A14:=Aside0.mk A14;try dsimp only at H
 have cl0 := (hf1.up (hu6.out.trans hu11.out)).cell (o := 0) rfl
 refine wpList_step fun k h=>?_;go_simp;apply h;clear h k
 clear cl0
 have cl0 := (hf3.up (hu6.out.trans hu11.out)).cell (o := 0) rfl
 have cl1 := (hf3.up (hu6.out.trans hu11.out)).cell (o := 1) rfl
 have cl2 := (hf3.up (hu6.out.trans hu11.out)).cell (o := 2) rfl
 refine wpList_step fun k h=>?_;go_simp;apply h;clear h k
 clear cl0 cl1 cl2
 refine step_call rfl (by go_simp <;> rfl) (impl_isCircle.calls K f1_0 f3_0 f3_1 f3_2 t13 w10  A14.out) ?_
 rintro e w15 ⟨rfl, hu⟩
 have hu16 := Aside0.mk hu
 clear hu
 refine ⟨_, rfl, ?_⟩
 simp only[Act.put,nm1,nm2,nm3]
 iterate 2 (refine wpp fun k h=>?_;go_simp;apply h;clear h k)
 by_cases c17 : (t13) = true
 rotate_left
 ·
  rw [if_neg c17] at H; replace c17 := Bool.eq_false_iff.mpr c17
  subst c17
  obtain rfl := Option.some.inj H
  refine step_no rfl ?_
  simp only[Act.put,nm1,nm2,nm3]
  refine step_no rfl ?_
  simp only[Act.put,nm1,nm2,nm3]
  refine step_no rfl ?_
  simp only[Act.put,nm1,nm2,nm3]
  iterate 2 (refine wpp fun k h=>?_;go_simp;apply h;clear h k)
  refine wpList_nil (hK2 _ _ ?_)
  refine wp_ret ?_
  refine hQf _ _ _ ?_
  exact bodyPost_ret (v := .bool false) (by first|rfl|simp [results, Try.results154, go_sem]<;>rfl) rfl ⟨rfl, ((hu6.out.trans hu11.out).trans hu16.out)⟩
 rw [if_pos c17] at H
 subst c17
 obtain ⟨t18,A19,H⟩:=Option.bind_eq_some_iff.mp H
 replace A19:=Aside0.mk A19;try dsimp only at H
 obtain rfl := Option.some.inj H
 have cl0 := (hf1.up ((hu6.out.trans hu11.out).trans hu16.out)).cell (o := 0) rfl
 refine wpList_step fun k h=>?_;go_simp;apply h;clear h k
 clear cl0
 have cl0 := (hf4.up ((hu6.out.trans hu11.out).trans hu16.out)).cell (o := 0) rfl
 have cl1 := (hf4.up ((hu6.out.trans hu11.out).trans hu16.out)).cell (o := 1) rfl
 have cl2 := (hf4.up ((hu6.out.trans hu11.out).trans hu16.out)).cell (o := 2) rfl
 refine wpList_step fun k h=>?_;go_simp;apply h;clear h k
 clear cl0 cl1 cl2
 refine step_call rfl (by go_simp <;> rfl) (impl_isCircle.calls K f1_0 f4_0 f4_1 f4_2 t18 w15  A19.out) ?_
 rintro e w20 ⟨rfl, hu⟩
 have hu21 := Aside0.mk hu
 clear hu
 refine ⟨_, rfl, ?_⟩
 simp only[Act.put,nm1,nm2,nm3]
 iterate 2 (refine wpp fun k h=>?_;go_simp;apply h;clear h k)
 refine wpList_nil (hK2 _ _ ?_)
 refine wp_ret ?_
 refine hQf _ _ _ ?_
 exact bodyPost_ret (v := .bool t18) (by first|rfl|simp [results, Try.results154, go_sem]<;>rfl) rfl ⟨rfl, (((hu6.out.trans hu11.out).trans hu16.out).trans hu21.out)⟩

set_option maxHeartbeats 40000000 in
set_option maxRecDepth 100000 in
theorem impl_asked__impl_RadicalCentre_1.calls (K : Nat) (a0 : Int) (bc1_0 : Nat) (c1_0_0 : Int) (bc1_1 : Nat) (c1_1_0 : Int) (bc1_2 : Nat) (c1_2_0 : Int) (c1_2_1 : Int) (c1_2_2 : Int) (bc1_3 : Nat) (c1_3_0 : Int) (c1_3_1 : Int) (c1_3_2 : Int) (bc1_4 : Nat) (c1_4_0 : Int) (c1_4_1 : Int) (c1_4_2 : Int) (r0 : Int) (w : World) (hc1_0 : Blk w bc1_0 [.int .i64 c1_0_0] 2) (hc1_1 : Blk w bc1_1 [.int .i64 c1_1_0] 2) (hc1_2 : Blk w bc1_2 [.int .i64 c1_2_0, .int .i64 c1_2_1, .int .i64 c1_2_2] 71) (hc1_3 : Blk w bc1_3 [.int .i64 c1_3_0, .int .i64 c1_3_1, .int .i64 c1_3_2] 71) (hc1_4 : Blk w bc1_4 [.int .i64 c1_4_0, .int .i64 c1_4_1, .int .i64 c1_4_2] 71) (h : impl_asked__impl_RadicalCentre_1.f K a0 c1_0_0 c1_1_0 c1_2_0 c1_2_1 c1_2_2 c1_3_0 c1_3_1 c1_3_2 c1_4_0 c1_4_1 c1_4_2 = some (r0)) :
    Calls Try.prog 67 #[.int .i64 a0, .func (.func 154) #[] #[.pointer (some ⟨bc1_0, 0, none⟩), .pointer (some ⟨bc1_1, 0, none⟩), .pointer (some ⟨bc1_2, 0, none⟩), .pointer (some ⟨bc1_3, 0, none⟩), .pointer (some ⟨bc1_4, 0, none⟩)]] w fun e w' => e = .returned (.int .i64 r0) ∧ Up w w' := by
 have H : (((impl_IsField.f K a0).bind fun t4 => (if t4 = true then ((impl_RadicalCentre_1.f K c1_0_0 c1_1_0 c1_2_0 c1_2_1 c1_2_2 c1_3_0 c1_3_1 c1_3_2 c1_4_0 c1_4_1 c1_4_2).bind fun t11 => (if t11 = true then some 0 else some 2)) else some 1)) : Option (Int)) = some (r0) := h
 clear h
 obtain ⟨t4,A5,H⟩:=Option.bind_eq_some_iff.mp H
 replace A5:=Aside0.mk A5;try dsimp only at H
 have ltbc1_0 := Aside0.mk hc1_0.lt
 have ltbc1_1 := Aside0.mk hc1_1.lt
 have ltbc1_2 := Aside0.mk hc1_2.lt
 have ltbc1_3 := Aside0.mk hc1_3.lt
 have ltbc1_4 := Aside0.mk hc1_4.lt
 go_enter Try.func67, Try.ntmps67
 refine wp_hide (fun Qf hQf => ?_)
 refine wp_seq_k fun K1 hK1=>wp_region_lit ?_
 refine wpp fun k h=>?_;go_simp;apply h;clear h k
 refine wpList_nil (hK1 _ _ ?_)
 refine wp_seq_k fun K2 hK2=>?_
 refine wp_seq_k fun K3 hK3=>wp_region_lit ?_
 refine wpp fun k h=>?_;go_simp;apply h;clear h k
 refine step_call wn (by go_simp <;> rfl) (impl_IsField.calls K a0 t4 w  A5.out) ?_
 rintro e w6 ⟨rfl, hu⟩
 have hu7 := Aside0.mk hu
 clear hu
 refine ⟨_, rfl, ?_⟩
 simp only[Act.put,nm1,nm2,nm3]
 refine wpp fun k h=>?_;go_simp;apply h;clear h k
 refine wpList_nil (hK3 _ _ ?_)
 by_cases c8 : (t4) = true
 rotate_left
 ·
  rw [if_neg c8] at H; replace c8 := Bool.eq_false_iff.mpr c8
  subst c8
  obtain rfl := Option.some.inj H
  refine wp_cond_true rfl ?_
  refine wp_seq_k fun K18 hK18=>wp_region_lit ?_
  refine wpp fun k h=>?_;go_simp;apply h;clear h k
  refine wpList_nil (hK18 _ _ ?_)
  refine wp_ret ?_
  refine hQf _ _ _ ?_
  exact bodyPost_ret (v := .int .i64 1) (by first|rfl|simp [results, Try.results67, go_sem]<;>rfl) rfl ⟨rfl, hu7.out⟩
 rw [if_pos c8] at H
 subst c8
 obtain ⟨t11,A12,H⟩:=Option.bind_eq_some_iff.mp H
 replace A12:=Aside0.mk A12;try dsimp only at H
 refine wp_cond_false rfl ?_
 refine wp_skip ?_
 refine hK2 _ _ ?_
 refine wp_seq_k fun K9 hK9=>?_
 refine wp_seq_k fun K10 hK10=>wp_region_lit ?_
 refine wpp fun k h=>?_;go_simp;apply h;clear h k
 refine step_call wn (by go_simp <;> rfl) (impl_RadicalCentre_1.calls K bc1_0 c1_0_0 bc1_1 c1_1_0 bc1_2 c1_2_0 c1_2_1 c1_2_2 bc1_3 c1_3_0 c1_3_1 c1_3_2 bc1_4 c1_4_0 c1_4_1 c1_4_2 t11 w6 (hc1_0.up hu7.out) (hc1_1.up hu7.out) (hc1_2.up hu7.out) (hc1_3.up hu7.out) (hc1_4.up hu7.out) A12.out) ?_
 rintro e w13 ⟨rfl, hu⟩
 have hu14 := Aside0.mk hu
 clear hu
 refine ⟨_, rfl, ?_⟩
 simp only[Act.put,nm1,nm2,nm3]
 refine wpp fun k h=>?_;go_simp;apply h;clear h k
 refine wpList_nil (hK10 _ _ ?_)
 by_cases c15 : (t11) = true
 rotate_left
 ·
  rw [if_neg c15] at H; replace c15 := Bool.eq_false_iff.mpr c15
  subst c15
  obtain rfl := Option.some.inj H
  refine wp_cond_true rfl ?_
  refine wp_seq_k fun K17 hK17=>wp_region_lit ?_
  refine wpp fun k h=>?_;go_simp;apply h;clear h k
  refine wpList_nil (hK17 _ _ ?_)
  refine wp_ret ?_
  refine hQf _ _ _ ?_
  exact bodyPost_ret (v := .int .i64 2) (by first|rfl|simp [results, Try.results67, go_sem]<;>rfl) rfl ⟨rfl, (hu7.out.trans hu14.out)⟩
 rw [if_pos c15] at H
 subst c15
 obtain rfl := Option.some.inj H
 refine wp_cond_false rfl ?_
 refine wp_skip ?_
 refine hK9 _ _ ?_
 refine wp_seq_k fun K16 hK16=>wp_region_lit ?_
 refine wpp fun k h=>?_;go_simp;apply h;clear h k
 refine wpList_nil (hK16 _ _ ?_)
 refine wp_ret ?_
 refine hQf _ _ _ ?_
 exact bodyPost_ret (v := .int .i64 0) (by first|rfl|simp [results, Try.results67, go_sem]<;>rfl) rfl ⟨rfl, (hu7.out.trans hu14.out)⟩

set_option maxHeartbeats 40000000 in
set_option maxRecDepth 100000 in
theorem impl_area.calls (K : Nat) (a0 : Int) (a1_0 : Int) (a1_1 : Int) (a2_0 : Int) (a2_1 : Int) (a3_0 : Int) (a3_1 : Int) (r0 : Int) (w : World)  (h : impl_area.f K a0 a1_0 a1_1 a2_0 a2_1 a3_0 a3_1 = some (r0)) :
    Calls Try.prog 89 #[.int .i64 a0, .agg #[.int .i64 a1_0, .int .i64 a1_1], .agg #[.int .i64 a2_0, .int .i64 a2_1], .agg #[.int .i64 a3_0, .int .i64 a3_1]] w fun e w' => e = .returned (.int .i64 r0) ∧ Up w w' := by
 have H : (((impl_less.f K a0 a2_0 a2_1 a1_0 a1_1).bind fun (t12, t13) => ((impl_less.f K a0 a3_0 a3_1 a1_0 a1_1).bind fun (t15, t16) => ((impl_rest.f K a0 (wrap64 ((wrap64 (t12 * t16)) - (wrap64 (t13 * t15))))).bind fun t34 => some t34))) : Option (Int)) = some (r0) := h
 clear h
 obtain ⟨⟨t12, t13⟩,A14,H⟩:=Option.bind_eq_some_iff.mp H
 replace A14:=Aside0.mk A14;try dsimp only at H
 obtain ⟨⟨t15, t16⟩,A17,H⟩:=Option.bind_eq_some_iff.mp H
 replace A17:=Aside0.mk A17;try dsimp only at H
 obtain ⟨t34,A35,H⟩:=Option.bind_eq_some_iff.mp H
 replace A35:=Aside0.mk A35;try dsimp only at H
 obtain rfl := Option.some.inj H
 go_enter Try.func89, Try.ntmps89
 refine wp_hide (fun Qf hQf => ?_)
 refine wp_seq_k fun K1 hK1=>wp_region_lit ?_
 refine step_new (cs := [.int .i64 a1_0, .int .i64 a1_1]) (T := 30) (f := fun b => .pointer (some ⟨b, 0, none⟩)) rfl (by go_simp <;> rfl) ?_
 intro b2 w3 hu lb hb2
 simp only[Act.put,nm1,nm2,nm3]
 have lbb2 := Aside0.mk lb
 have ltb2 := Aside0.mk hb2.lt
 clear lb
 have hu4 := Aside0.mk hu
 clear hu
 refine step_new (cs := [.int .i64 a2_0, .int .i64 a2_1]) (T := 30) (f := fun b => .pointer (some ⟨b, 0, none⟩)) rfl (by go_simp <;> rfl) ?_
 intro b5 w6 hu lb hb5
 simp only[Act.put,nm1,nm2,nm3]
 have lbb5 := Aside0.mk lb
 have ltb5 := Aside0.mk hb5.lt
 clear lb
 have hu7 := Aside0.mk hu
 clear hu
 refine step_new (cs := [.int .i64 a3_0, .int .i64 a3_1]) (T := 30) (f := fun b => .pointer (some ⟨b, 0, none⟩)) rfl (by go_simp <;> rfl) ?_
 intro b8 w9 hu lb hb8
 simp only[Act.put,nm1,nm2,nm3]
 have lbb8 := Aside0.mk lb
 have ltb8 := Aside0.mk hb8.lt
 clear lb
 have hu10 := Aside0.mk hu
 clear hu
 refine wpp fun k h=>?_;go_simp;apply h;clear h k
 refine wpList_nil (hK1 _ _ ?_)
 refine wp_seq_k fun K11 hK11=>?_
 refine' wp_region_up 10 [Slot.det _, Slot.det _, Slot.det _, Slot.det (.agg #[.int .i64 t12, .int .i64 t13]), Slot.det _, Slot.det _, Slot.det _, Slot.det (.agg #[.int .i64 t15, .int .i64 t16]), Slot.any (PtrTo [.int .i64 0, .int .i64 0] 30) true, Slot.any (PtrTo [.int .i64 0, .int .i64 0] 30) true] (by kernel_rfl) (by kernel_rfl) ?main
 case main =>
  simp only [List.take_succ_cons, List.take_zero]
  refine wpK_ops rfl (fun w1 hu => ?_) ?_
  · clear hu
    go_simp
    first | done | rfl
  simp only[Act.put,nm1,nm2,nm3]
  refine wpK_ops rfl (fun w1 hu => ?_) ?_
  · have cl0 := ((hb5.up hu10.out).up ((Up.refl _).drew.trans hu)).cell (o := 0) rfl
    have cl1 := ((hb5.up hu10.out).up ((Up.refl _).drew.trans hu)).cell (o := 1) rfl
    go_simp
    first | done | rfl
  simp only[Act.put,nm1,nm2,nm3]
  refine wpK_ops rfl (fun w1 hu => ?_) ?_
  · have cl0 := ((hb2.up (hu7.out.trans hu10.out)).up ((Up.refl _).drew.trans hu)).cell (o := 0) rfl
    have cl1 := ((hb2.up (hu7.out.trans hu10.out)).up ((Up.refl _).drew.trans hu)).cell (o := 1) rfl
    go_simp
    first | done | rfl
  simp only[Act.put,nm1,nm2,nm3]
  refine wpK_ops rfl (fun w1 hu => ?_) ?_
  · have hcl := (impl_less.calls K a0 a2_0 a2_1 a1_0 a1_1 t12 t13 w1  A14.out)
    clear hu
    replace hcl := Aside0.mk hcl
    go_simp
    exact hcl.out
  simp only[Act.put,nm1,nm2,nm3]
  refine wpK_ops rfl (fun w1 hu => ?_) ?_
  · clear hu
    go_simp
    first | done | rfl
  simp only[Act.put,nm1,nm2,nm3]
  refine wpK_ops rfl (fun w1 hu => ?_) ?_
  · have cl0 := (hb8.up ((Up.refl _).drew.trans hu)).cell (o := 0) rfl
    have cl1 := (hb8.up ((Up.refl _).drew.trans hu)).cell (o := 1) rfl
    go_simp
    first | done | rfl
  simp only[Act.put,nm1,nm2,nm3]
  refine wpK_ops rfl (fun w1 hu => ?_) ?_
  · have cl0 := ((hb2.up (hu7.out.trans hu10.out)).up ((Up.refl _).drew.trans hu)).cell (o := 0) rfl
    have cl1 := ((hb2.up (hu7.out.trans hu10.out)).up ((Up.refl _).drew.trans hu)).cell (o := 1) rfl
    go_simp
    first | done | rfl
  simp only[Act.put,nm1,nm2,nm3]
  refine wpK_ops rfl (fun w1 hu => ?_) ?_
  · have hcl := (impl_less.calls K a0 a3_0 a3_1 a1_0 a1_1 t15 t16 w1  A17.out)
    clear hu
    replace hcl := Aside0.mk hcl
    go_simp
    exact hcl.out
  simp only[Act.put,nm1,nm2,nm3]
  refine wpK_any rfl (stab_ptr _ _) (fun w1 _ _ => fresh_ptr (by go_simp <;> rfl)) (fun v18 => ?_)
  simp only[Act.put,nm1,nm2,nm3]
  refine wpK_any rfl (stab_ptr _ _) (fun w1 _ _ => fresh_ptr (by go_simp <;> rfl)) (fun v20 => ?_)
  simp only[Act.put,nm1,nm2,nm3]
  refine wpK_nil ?_
  intro w22 hu hap
  simp only [List.drop_succ_cons, List.drop_zero]
  replace hu := (Up.refl _).drew.trans hu
  obtain ⟨hf0, hn0, ⟨b21, e0, hb21⟩, hf1, hn1, ⟨b19, e1, hb19⟩, -⟩ := hap
  have lbb21 := Aside0.mk (hf0 rfl b21 (by rw [e0]; rfl)).1
  have ltb21 := Aside0.mk hb21.lt
  have lbb19 := Aside0.mk (hf1 rfl b19 (by rw [e1]; rfl)).1
  have ltb19 := Aside0.mk hb19.lt
  have ne23 := Aside0.mk (hn0 _ (.head _) rfl rfl b21 b19 (by rw [e0]; rfl) (by rw [e1]; rfl)).symm
  dsimp only at e0 e1
  subst e0 e1
  clear hf0 hn0 hf1 hn1
  have hu24 := Aside0.mk hu
  clear hu
  have hB0 := hb19
  have cl0 := hB0.cell (o := 0) rfl
  have fr0 := hB0.free 0
  have cl1 := hB0.cell (o := 1) rfl
  have fr1 := hB0.free 1
  refine step_store (b := b19) (cs' := [.int .i64 t12, .int .i64 t13]) (T := 30) (W' := ((w22.setCell ⟨b19, 0, none⟩ (.int .i64 t12)).setCell ⟨b19, 1, none⟩ (.int .i64 t13))) rfl rfl (by go_simp <;> rfl) (((Sto.refl _ _).setCell 0 _).setCell 1 _) (((hB0).setCell 0 _).setCell 1 _) ?_
  clear hB0 cl0 fr0 cl1 fr1
  intro w25 hs hb27
  have hs26 := Aside0.mk hs
  clear hs
  have h28 := hb21.sto hs26.out (Ne.symm (ne23.out))
  have hB0 := h28
  have cl0 := hB0.cell (o := 0) rfl
  have fr0 := hB0.free 0
  have cl1 := hB0.cell (o := 1) rfl
  have fr1 := hB0.free 1
  refine step_store (b := b21) (cs' := [.int .i64 t15, .int .i64 t16]) (T := 30) (W' := ((w25.setCell ⟨b21, 0, none⟩ (.int .i64 t15)).setCell ⟨b21, 1, none⟩ (.int .i64 t16))) rfl rfl (by go_simp <;> rfl) (((Sto.refl _ _).setCell 0 _).setCell 1 _) (((hB0).setCell 0 _).setCell 1 _) ?_
  clear hB0 cl0 fr0 cl1 fr1
  intro w29 hs hb31
  have hs30 := Aside0.mk hs
  clear hs
  have h32 := hb27.sto hs30.out ne23.out
  refine wpList_nil (hK11 _ _ ?_)
  refine wp_seq_k fun K33 hK33=>wp_region_lit ?_
  iterate 2 (refine wpp fun k h=>?_;go_simp;apply h;clear h k)
  have cl0 := h32.cell (o := 0) rfl
  refine wpp fun k h=>?_;go_simp;apply h;clear h k
  clear cl0
  refine wpp fun k h=>?_;go_simp;apply h;clear h k
  have cl0 := hb31.cell (o := 1) rfl
  refine wpp fun k h=>?_;go_simp;apply h;clear h k
  clear cl0
  iterate 2 (refine wpp fun k h=>?_;go_simp;apply h;clear h k)
  have cl0 := h32.cell (o := 1) rfl
  refine wpp fun k h=>?_;go_simp;apply h;clear h k
  clear cl0
  refine wpp fun k h=>?_;go_simp;apply h;clear h k
  have cl0 := hb31.cell (o := 0) rfl
  refine wpp fun k h=>?_;go_simp;apply h;clear h k
  clear cl0
  iterate 2 (refine wpp fun k h=>?_;go_simp;apply h;clear h k)
  refine step_call wn (by go_simp <;> rfl) (impl_rest.calls K a0 (wrap64 ((wrap64 (t12 * t16)) - (wrap64 (t13 * t15)))) t34 w29  A35.out) ?_
  rintro e w36 ⟨rfl, hu⟩
  have hu37 := Aside0.mk hu
  clear hu
  refine ⟨_, rfl, ?_⟩
  simp only[Act.put,nm1,nm2,nm3]
  refine wpp fun k h=>?_;go_simp;apply h;clear h k
  refine wpList_nil (hK33 _ _ ?_)
  refine wp_ret ?_
  refine hQf _ _ _ ?_
  exact bodyPost_ret (v := .int .i64 t34) (by first|rfl|simp [results, Try.results89, go_sem]<;>rfl) rfl ⟨rfl, ((((((hu4.out.trans hu7.out).trans hu10.out).trans hu24.out).sto (Nat.le_trans ((Nat.le_trans ((Nat.le_trans (hu4.out.size) hu7.out.size)) hu10.out.size)) lbb19.out) hs26.out).sto (Nat.le_trans ((Nat.le_trans ((Nat.le_trans (hu4.out.size) hu7.out.size)) hu10.out.size)) lbb21.out) hs30.out).trans hu37.out)⟩

set_option maxHeartbeats 40000000 in
set_option maxRecDepth 100000 in
theorem impl_RadicalCentre.calls (K : Nat) (a0 : Int) (a1 : Int) (a2_0 : Int) (a2_1 : Int) (a2_2 : Int) (a3_0 : Int) (a3_1 : Int) (a3_2 : Int) (a4_0 : Int) (a4_1 : Int) (a4_2 : Int) (r0 : Int) (r1 : Int) (r2 : Int) (w : World)  (h : impl_RadicalCentre.f K a0 a1 a2_0 a2_1 a2_2 a3_0 a3_1 a3_2 a4_0 a4_1 a4_2 = some (r0, r1, r2)) :
    Calls Try.prog 58 #[.int .i64 a0, .int .i64 a1, .agg #[.int .i64 a2_0, .int .i64 a2_1, .int .i64 a2_2], .agg #[.int .i64 a3_0, .int .i64 a3_1, .int .i64 a3_2], .agg #[.int .i64 a4_0, .int .i64 a4_1, .int .i64 a4_2]] w fun e w' => e = .returned (.tuple #[.agg #[.int .i64 r0, .int .i64 r1], .int .i64 r2]) ∧ Up w w' := by
 have H : (((impl_asked__impl_RadicalCentre_1.f K a0 a1 a0 a2_0 a2_1 a2_2 a3_0 a3_1 a3_2 a4_0 a4_1 a4_2).bind fun t22 => (if (t22 == 0) = true then ((impl_area.f K a0 a2_0 a2_1 a3_0 a3_1 a4_0 a4_1).bind fun t34 => (if (t34 == 0) = true then some (0, 0, 5) else ((impl_allPoints.f K a0).bind fun t50 => (impl_RadicalCentre.l0 K a0 a1 a2_0 a2_1 a2_2 a3_0 a3_1 a3_2 a4_0 a4_1 a4_2 t50 K 0 0 0)))) else some (0, 0, t22))) : Option (Int × Int × Int)) = some (r0, r1, r2) := h
 clear h
 obtain ⟨t22,A23,H⟩:=Option.bind_eq_some_iff.mp H
 replace A23:=Aside0.mk A23;try dsimp only at H
 go_enter Try.func58, Try.ntmps58
 refine wp_hide (fun Qf hQf => ?_)
 refine wp_seq_k fun K1 hK1=>wp_region_lit ?_
 refine step_new (cs := [.int .i64 a0]) (T := 2) (f := fun b => .pointer (some ⟨b, 0, none⟩)) rfl (by go_simp <;> rfl) ?_
 intro b2 w3 hu lb hb2
 simp only[Act.put,nm1,nm2,nm3]
 have lbb2 := Aside0.mk lb
 have ltb2 := Aside0.mk hb2.lt
 clear lb
 have hu4 := Aside0.mk hu
 clear hu
 refine step_new (cs := [.int .i64 a1]) (T := 2) (f := fun b => .pointer (some ⟨b, 0, none⟩)) rfl (by go_simp <;> rfl) ?_
 intro b5 w6 hu lb hb5
 simp only[Act.put,nm1,nm2,nm3]
 have lbb5 := Aside0.mk lb
 have ltb5 := Aside0.mk hb5.lt
 clear lb
 have hu7 := Aside0.mk hu
 clear hu
 refine step_new (cs := [.int .i64 a2_0, .int .i64 a2_1, .int .i64 a2_2]) (T := 71) (f := fun b => .pointer (some ⟨b, 0, none⟩)) rfl (by go_simp <;> rfl) ?_
 intro b8 w9 hu lb hb8
 simp only[Act.put,nm1,nm2,nm3]
 have lbb8 := Aside0.mk lb
 have ltb8 := Aside0.mk hb8.lt
 clear lb
 have hu10 := Aside0.mk hu
 clear hu
 refine step_new (cs := [.int .i64 a3_0, .int .i64 a3_1, .int .i64 a3_2]) (T := 71) (f := fun b => .pointer (some ⟨b, 0, none⟩)) rfl (by go_simp <;> rfl) ?_
 intro b11 w12 hu lb hb11
 simp only[Act.put,nm1,nm2,nm3]
 have lbb11 := Aside0.mk lb
 have ltb11 := Aside0.mk hb11.lt
 clear lb
 have hu13 := Aside0.mk hu
 clear hu
 refine step_new (cs := [.int .i64 a4_0, .int .i64 a4_1, .int .i64 a4_2]) (T := 71) (f := fun b => .pointer (some ⟨b, 0, none⟩)) rfl (by go_simp <;> rfl) ?_
 intro b14 w15 hu lb hb14
 simp only[Act.put,nm1,nm2,nm3]
 have lbb14 := Aside0.mk lb
 have ltb14 := Aside0.mk hb14.lt
 clear lb
 have hu16 := Aside0.mk hu
 clear hu
 refine step_new (cs := [.int .i64 0, .int .i64 0]) (T := 30) (f := fun b => .pointer (some ⟨b, 0, none⟩)) rfl (by go_simp <;> rfl) ?_
 intro b17 w18 hu lb hb17
 simp only[Act.put,nm1,nm2,nm3]
 have lbb17 := Aside0.mk lb
 have ltb17 := Aside0.mk hb17.lt
 clear lb
 have hu19 := Aside0.mk hu
 clear hu
 refine wpp fun k h=>?_;go_simp;apply h;clear h k
 refine wpList_nil (hK1 _ _ ?_)
 refine wp_seq_k fun K20 hK20=>?_
 refine wp_seq_k fun K21 hK21=>wp_region_lit ?_
 have cl0 := (hb2.up ((((hu7.out.trans hu10.out).trans hu13.out).trans hu16.out).trans hu19.out)).cell (o := 0) rfl
 refine wpp fun k h=>?_;go_simp;apply h;clear h k
 clear cl0
 refine wpp fun k h=>?_;go_simp;apply h;clear h k
 refine step_call wn (by go_simp <;> rfl) (impl_asked__impl_RadicalCentre_1.calls K a0 b5 a1 b2 a0 b8 a2_0 a2_1 a2_2 b11 a3_0 a3_1 a3_2 b14 a4_0 a4_1 a4_2 t22 w18 (hb5.up (((hu10.out.trans hu13.out).trans hu16.out).trans hu19.out)) (hb2.up ((((hu7.out.trans hu10.out).trans hu13.out).trans hu16.out).trans hu19.out)) (hb8.up ((hu13.out.trans hu16.out).trans hu19.out)) (hb11.up (hu16.out.trans hu19.out)) (hb14.up hu19.out) A23.out) ?_
 rintro e w24 ⟨rfl, hu⟩
 have hu25 := Aside0.mk hu
 clear hu
 refine ⟨_, rfl, ?_⟩
 simp only[Act.put,nm1,nm2,nm3]
 refine wpp fun k h=>?_;go_simp;apply h;clear h k
 refine wpList_nil (hK21 _ _ ?_)
 refine wp_seq_k fun K26 hK26=>wp_region_lit ?_
 iterate 2 (refine wpp fun k h=>?_;go_simp;apply h;clear h k)
 refine wpList_nil (hK26 _ _ ?_)
 have hm28 := Aside0.mk ((((((hu4.out.trans hu7.out).trans hu10.out).trans hu13.out).trans hu16.out).trans hu19.out).trans hu25.out)
 have h29 := (hb2.up (((((hu7.out.trans hu10.out).trans hu13.out).trans hu16.out).trans hu19.out).trans hu25.out))
 have h30 := (hb5.up ((((hu10.out.trans hu13.out).trans hu16.out).trans hu19.out).trans hu25.out))
 have h31 := (hb8.up (((hu13.out.trans hu16.out).trans hu19.out).trans hu25.out))
 by_cases c27 : (t22 == 0) = true
 rotate_left
 ·
  rw [if_neg c27] at H; replace c27 := Bool.eq_false_iff.mpr c27
  have c27n : (t22 != 0) = true := by rw [bne, c27]; rfl
  have c27p : ¬ t22 = 0 := fun e => by simp [e] at c27
  simp only [Option.some.injEq, Prod.mk.injEq] at H
  obtain ⟨rfl, rfl, rfl⟩ := H
  try simp only [c27, c27n, Bool.not_true, Bool.not_false]
  refine wp_cond_true rfl ?_
  refine wp_seq_k fun K128 hK128=>wp_region_lit ?_
  iterate 2 (refine wpp fun k h=>?_;go_simp;apply h;clear h k)
  have hB0 := (hb17.up hu25.out)
  have cl0 := hB0.cell (o := 0) rfl
  have fr0 := hB0.free 0
  have cl1 := hB0.cell (o := 1) rfl
  have fr1 := hB0.free 1
  refine step_store (b := b17) (cs' := [.int .i64 0, .int .i64 0]) (T := 30) (W' := ((w24.setCell ⟨b17, 0, none⟩ (.int .i64 0)).setCell ⟨b17, 1, none⟩ (.int .i64 0))) rfl rfl (by go_simp <;> rfl) (((Sto.refl _ _).setCell 0 _).setCell 1 _) (((hB0).setCell 0 _).setCell 1 _) ?_
  clear hB0 cl0 fr0 cl1 fr1
  intro w129 hs hb131
  have hs130 := Aside0.mk hs
  clear hs
  have h132 := h29.sto hs130.out (Nat.ne_of_lt (Nat.lt_of_lt_of_le (Nat.lt_of_lt_of_le ltb2.out ((Nat.le_trans ((Nat.le_trans ((Nat.le_trans (hu7.out.size) hu10.out.size)) hu13.out.size)) hu16.out.size))) lbb17.out))
  have h133 := h30.sto hs130.out (Nat.ne_of_lt (Nat.lt_of_lt_of_le (Nat.lt_of_lt_of_le ltb5.out ((Nat.le_trans ((Nat.le_trans (hu10.out.size) hu13.out.size)) hu16.out.size))) lbb17.out))
  have h134 := h31.sto hs130.out (Nat.ne_of_lt (Nat.lt_of_lt_of_le (Nat.lt_of_lt_of_le ltb8.out ((Nat.le_trans (hu13.out.size) hu16.out.size))) lbb17.out))
  refine wpp fun k h=>?_;go_simp;apply h;clear h k
  refine wpList_nil (hK128 _ _ ?_)
  refine wp_ret ?_
  refine hQf _ _ _ ?_
  have cr0 := hb131.cell (o := 0) rfl
  have cr1 := hb131.cell (o := 1) rfl
  exact bodyPost_ret (v := .tuple #[.agg #[.int .i64 0, .int .i64 0], .int .i64 t22]) (by first|rfl|simp [results, Try.results58, go_sem, cr0, cr1]<;>rfl) rfl ⟨rfl, (hm28.out.sto (Nat.le_trans ((Nat.le_trans ((Nat.le_trans ((Nat.le_trans ((Nat.le_trans (hu4.out.size) hu7.out.size)) hu10.out.size)) hu13.out.size)) hu16.out.size)) lbb17.out) hs130.out)⟩
 rw [if_pos c27] at H
 have c27n : (t22 != 0) = false := by rw [bne, c27]; rfl
 obtain ⟨t34,A35,H⟩:=Option.bind_eq_some_iff.mp H
 replace A35:=Aside0.mk A35;try dsimp only at H
 try simp only [c27, c27n, Bool.not_true, Bool.not_false]
 refine wp_cond_false rfl ?_
 refine wp_skip ?_
 refine hK20 _ _ ?_
 refine wp_seq_k fun K32 hK32=>?_
 refine wp_seq_k fun K33 hK33=>wp_region_lit ?_
 have cl0 := h29.cell (o := 0) rfl
 refine wpp fun k h=>?_;go_simp;apply h;clear h k
 clear cl0
 refine wpp fun k h=>?_;go_simp;apply h;clear h k
 have cl0 := h31.cell (o := 0) rfl
 have cl1 := h31.cell (o := 1) rfl
 refine wpp fun k h=>?_;go_simp;apply h;clear h k
 clear cl0 cl1
 refine wpp fun k h=>?_;go_simp;apply h;clear h k
 have cl0 := (hb11.up ((hu16.out.trans hu19.out).trans hu25.out)).cell (o := 0) rfl
 have cl1 := (hb11.up ((hu16.out.trans hu19.out).trans hu25.out)).cell (o := 1) rfl
 refine wpp fun k h=>?_;go_simp;apply h;clear h k
 clear cl0 cl1
 refine wpp fun k h=>?_;go_simp;apply h;clear h k
 have cl0 := (hb14.up (hu19.out.trans hu25.out)).cell (o := 0) rfl
 have cl1 := (hb14.up (hu19.out.trans hu25.out)).cell (o := 1) rfl
 refine wpp fun k h=>?_;go_simp;apply h;clear h k
 clear cl0 cl1
 refine step_call wn (by go_simp <;> rfl) (impl_area.calls K a0 a2_0 a2_1 a3_0 a3_1 a4_0 a4_1 t34 w24  A35.out) ?_
 rintro e w36 ⟨rfl, hu⟩
 have hu37 := Aside0.mk hu
 clear hu
 refine ⟨_, rfl, ?_⟩
 simp only[Act.put,nm1,nm2,nm3]
 refine wpp fun k h=>?_;go_simp;apply h;clear h k
 refine wpList_nil (hK33 _ _ ?_)
 have h39 := (hb11.up (((hu16.out.trans hu19.out).trans hu25.out).trans hu37.out))
 by_cases c38 : (t34 == 0) = true
 ·
  rw [if_pos c38] at H
  have c38n : (t34 != 0) = false := by rw [bne, c38]; rfl
  simp only [Option.some.injEq, Prod.mk.injEq] at H
  obtain ⟨rfl, rfl, rfl⟩ := H
  try simp only [c38, c38n, Bool.not_true, Bool.not_false]
  refine wp_cond_true rfl ?_
  refine wp_seq_k fun K40 hK40=>wp_region_lit ?_
  refine wpp fun k h=>?_;go_simp;apply h;clear h k
  have hB0 := (hb17.up (hu25.out.trans hu37.out))
  have cl0 := hB0.cell (o := 0) rfl
  have fr0 := hB0.free 0
  have cl1 := hB0.cell (o := 1) rfl
  have fr1 := hB0.free 1
  refine step_store (b := b17) (cs' := [.int .i64 0, .int .i64 0]) (T := 30) (W' := ((w36.setCell ⟨b17, 0, none⟩ (.int .i64 0)).setCell ⟨b17, 1, none⟩ (.int .i64 0))) rfl rfl (by go_simp <;> rfl) (((Sto.refl _ _).setCell 0 _).setCell 1 _) (((hB0).setCell 0 _).setCell 1 _) ?_
  clear hB0 cl0 fr0 cl1 fr1
  intro w41 hs hb43
  have hs42 := Aside0.mk hs
  clear hs
  have h44 := (h29.up hu37.out).sto hs42.out (Nat.ne_of_lt (Nat.lt_of_lt_of_le (Nat.lt_of_lt_of_le ltb2.out ((Nat.le_trans ((Nat.le_trans ((Nat.le_trans (hu7.out.size) hu10.out.size)) hu13.out.size)) hu16.out.size))) lbb17.out))
  have h45 := (h30.up hu37.out).sto hs42.out (Nat.ne_of_lt (Nat.lt_of_lt_of_le (Nat.lt_of_lt_of_le ltb5.out ((Nat.le_trans ((Nat.le_trans (hu10.out.size) hu13.out.size)) hu16.out.size))) lbb17.out))
  have h46 := (h31.up hu37.out).sto hs42.out (Nat.ne_of_lt (Nat.lt_of_lt_of_le (Nat.lt_of_lt_of_le ltb8.out ((Nat.le_trans (hu13.out.size) hu16.out.size))) lbb17.out))
  have h47 := h39.sto hs42.out (Nat.ne_of_lt (Nat.lt_of_lt_of_le (Nat.lt_of_lt_of_le ltb11.out (hu16.out.size)) lbb17.out))
  refine wpp fun k h=>?_;go_simp;apply h;clear h k
  refine wpList_nil (hK40 _ _ ?_)
  refine wp_ret ?_
  refine hQf _ _ _ ?_
  have cr0 := hb43.cell (o := 0) rfl
  have cr1 := hb43.cell (o := 1) rfl
  exact bodyPost_ret (v := .tuple #[.agg #[.int .i64 0, .int .i64 0], .int .i64 5]) (by first|rfl|simp [results, Try.results58, go_sem, cr0, cr1]<;>rfl) rfl ⟨rfl, ((hm28.out.trans hu37.out).sto (Nat.le_trans ((Nat.le_trans ((Nat.le_trans ((Nat.le_trans ((Nat.le_trans (hu4.out.size) hu7.out.size)) hu10.out.size)) hu13.out.size)) hu16.out.size)) lbb17.out) hs42.out)⟩
 rw [if_neg c38] at H; replace c38 := Bool.eq_false_iff.mpr c38
 have c38n : (t34 != 0) = true := by rw [bne, c38]; rfl
 have c38p : ¬ t34 = 0 := fun e => by simp [e] at c38
 obtain ⟨t50,A53,H⟩:=Option.bind_eq_some_iff.mp H
 replace A53:=Aside0.mk A53;try dsimp only at H
 try simp only [c38, c38n, Bool.not_true, Bool.not_false]
 refine wp_cond_false rfl ?_
 refine wp_skip ?_
 refine hK32 _ _ ?_
 refine wp_seq_k fun K48 hK48=>?_
 refine wp_seq_k fun K49 hK49=>wp_region_lit ?_
 have cl0 := (h29.up hu37.out).cell (o := 0) rfl
 refine wpp fun k h=>?_;go_simp;apply h;clear h k
 clear cl0
 refine step_call wn (by go_simp <;> rfl) (impl_allPoints.calls K a0 t50 w36  A53.out) ?_
 rintro e w54 ⟨P51, q52, rfl, ht50, hu⟩
 have hu55 := Aside0.mk hu
 clear hu
 refine ⟨_, rfl, ?_⟩
 simp only[Act.put,nm1,nm2,nm3]
 iterate 2 (refine wpp fun k h=>?_;go_simp;apply h;clear h k)
 refine wpList_nil (hK49 _ _ ?_)
 refine wp_block ?_
 have HL62 := Aside0.mk H
 clear H
 go_loopg [36] K (fun kq v36 w' => ∃ (x56 : Int) (x57 : Int) (x58 : Int), v36 = .int .i64 x56 ∧ Aside0 (impl_RadicalCentre.l0 K a0 a1 a2_0 a2_1 a2_2 a3_0 a3_1 a3_2 a4_0 a4_1 a4_2 t50 kq x56 x57 x58 = some (r0, r1, r2)) ∧ Aside0 (kq ≤ K) ∧ Aside0 (Up w15 w') ∧ Aside0 (w54.heap.size ≤ w'.heap.size) ∧ Blk w' b17 [.int .i64 x57, .int .i64 x58] 30 ∧ Own e2 30 w' w36.heap.size (.slice P51 t50.length q52) t50)
 case atStart => exact ⟨0, 0, 0, (by first | rfl | simp), HL62, ⟨Nat.le_refl _⟩, ⟨(((hu19.out.trans hu25.out).trans hu37.out).trans hu55.out)⟩, ⟨Nat.le_refl _⟩, (hb17.up ((hu25.out.trans hu37.out).trans hu55.out)), ht50⟩
 case round =>
  rename_i J67 K68 hJ67 hK68
  obtain ⟨x56, x57, x58, rfl, HL69, hk66, hu60, hz61, h63, h64⟩ := hrel
  obtain ⟨w59, rfl⟩ : ∃ wo : World, wo = wr := ⟨_, rfl⟩
  obtain ⟨k65, rfl⟩ | rfl : (∃ k, gk = k + 1) ∨ gk = 0 := by rcases gk with _ | k; exact .inr rfl; exact .inl ⟨k, rfl⟩
  case inr => exact absurd HL69.out (by simp [impl_RadicalCentre.l0])
  have H := HL69.out
  clear HL69
  rw [impl_RadicalCentre.l0] at H
  refine wp_seq_k fun K70 hK70=>wp_region_lit ?_
  refine wpp fun k h=>?_;go_simp;apply h;clear h k
  refine wpList_nil (hK70 _ _ ?_)
  refine wp_seq_k fun K71 hK71=>?_
  have hm73 := Aside0.mk (((((hu4.out.trans hu7.out).trans hu10.out).trans hu13.out).trans hu16.out).trans hu60.out)
  have hm74 := Aside0.mk (Nat.le_trans ((Nat.le_trans ((Nat.le_trans (hm28.out.size) hu37.out.size)) hu55.out.size)) hz61.out)
  have hm75 := Aside0.mk (Nat.le_trans ((Nat.le_trans ((Nat.le_trans ((Nat.le_trans (hu19.out.size) hu25.out.size)) hu37.out.size)) hu55.out.size)) hz61.out)
  have h76 := (hb2.up ((((hu7.out.trans hu10.out).trans hu13.out).trans hu16.out).trans hu60.out))
  have h77 := (hb5.up (((hu10.out.trans hu13.out).trans hu16.out).trans hu60.out))
  by_cases c72 : (decide (x56 < (t50.length : Int))) = true
  rotate_left
  ·
   rw [if_neg c72] at H; replace c72 := Bool.eq_false_iff.mpr c72
   simp only [Option.some.injEq, Prod.mk.injEq] at H
   obtain ⟨rfl, rfl, rfl⟩ := H
   try simp only [c72, Bool.not_true, Bool.not_false]
   refine wp_cond_false rfl ?_
   refine wp_exit ?_
   refine hK48 _ _ ?_
   refine wp_seq_k fun K124 hK124=>wp_region_lit ?_
   refine wpp fun k h=>?_;go_simp;apply h;clear h k
   have hB0 := h63
   have cl0 := hB0.cell (o := 0) rfl
   have fr0 := hB0.free 0
   have cl1 := hB0.cell (o := 1) rfl
   have fr1 := hB0.free 1
   refine step_store (b := b17) (cs' := [.int .i64 0, .int .i64 0]) (T := 30) (W' := ((w59.setCell ⟨b17, 0, none⟩ (.int .i64 0)).setCell ⟨b17, 1, none⟩ (.int .i64 0))) rfl rfl (by go_simp <;> rfl) (((Sto.refl _ _).setCell 0 _).setCell 1 _) (((hB0).setCell 0 _).setCell 1 _) ?_
   clear hB0 cl0 fr0 cl1 fr1
   intro w125 hs hb127
   have hs126 := Aside0.mk hs
   clear hs
   refine wpp fun k h=>?_;go_simp;apply h;clear h k
   refine wpList_nil (hK124 _ _ ?_)
   refine wp_ret ?_
   refine hQf _ _ _ ?_
   have cr0 := hb127.cell (o := 0) rfl
   have cr1 := hb127.cell (o := 1) rfl
   exact bodyPost_ret (v := .tuple #[.agg #[.int .i64 0, .int .i64 0], .int .i64 5]) (by first|rfl|simp [results, Try.results58, go_sem, cr0, cr1]<;>rfl) rfl ⟨rfl, (hm73.out.sto (Nat.le_trans ((Nat.le_trans ((Nat.le_trans ((Nat.le_trans ((Nat.le_trans (hu4.out.size) hu7.out.size)) hu10.out.size)) hu13.out.size)) hu16.out.size)) lbb17.out) hs126.out)⟩
  rw [if_pos c72] at H
  obtain ⟨⟨t80, t81⟩,A82,H⟩:=Option.bind_eq_some_iff.mp H
  replace A82:=Aside0.mk A82;try dsimp only at H
  obtain ⟨t93,A94,H⟩:=Option.bind_eq_some_iff.mp H
  replace A94:=Aside0.mk A94;try dsimp only at H
  obtain ⟨t98,A99,H⟩:=Option.bind_eq_some_iff.mp H
  replace A99:=Aside0.mk A99;try dsimp only at H
  try simp only [c72, Bool.not_true, Bool.not_false]
  refine wp_cond_true rfl ?_
  refine wp_skip ?_
  refine hK71 _ _ ?_
  refine wp_seq_k fun K78 hK78=>?_
  refine wp_block ?_
  refine wp_seq_k fun K79 hK79=>wp_region_lit ?_
  refine step_index e2 (T := 30) wn rfl (by kernel_rfl) (by kernel_rfl) rfl rfl rfl h64.rd A82.out ?_
  intro ad83 hat he
  have he84 := Aside0.mk he
  have hat85 := Aside0.mk hat
  clear he hat
  simp only[Act.put,nm1,nm2,nm3]
  have cl0 := he84.out 0 _ rfl
  rw [addr_add0] at cl0
  have cl1 : World.cell? _ ⟨ad83.block, ad83.off + 1, none⟩ = some _ := he84.out 1 _ rfl
  refine wpp fun k h=>?_;go_simp;apply h;clear h k
  clear cl0 cl1
  refine step_new (cs := [.int .i64 0, .int .i64 0]) (T := 30) (f := fun b => .pointer (some ⟨b, 0, none⟩)) rfl (by go_simp <;> rfl) ?_
  intro b86 w87 hu lb hb86
  simp only[Act.put,nm1,nm2,nm3]
  have lbb86 := Aside0.mk lb
  have ltb86 := Aside0.mk hb86.lt
  clear lb
  have hu88 := Aside0.mk hu
  clear hu
  have hB0 := hb86
  have cl0 := hB0.cell (o := 0) rfl
  have fr0 := hB0.free 0
  have cl1 := hB0.cell (o := 1) rfl
  have fr1 := hB0.free 1
  refine step_store (b := b86) (cs' := [.int .i64 t80, .int .i64 t81]) (T := 30) (W' := ((w87.setCell ⟨b86, 0, none⟩ (.int .i64 t80)).setCell ⟨b86, 1, none⟩ (.int .i64 t81))) rfl rfl (by go_simp <;> rfl) (((Sto.refl _ _).setCell 0 _).setCell 1 _) (((hB0).setCell 0 _).setCell 1 _) ?_
  clear hB0 cl0 fr0 cl1 fr1
  intro w89 hs hb91
  have hs90 := Aside0.mk hs
  clear hs
  refine wpList_nil (hK79 _ _ ?_)
  refine wp_seq_k fun K92 hK92=>wp_region_lit ?_
  have cl0 := (h76.up (hu88.out.sto (Nat.le_trans (Nat.le_refl _) lbb86.out) hs90.out)).cell (o := 0) rfl
  refine wpp fun k h=>?_;go_simp;apply h;clear h k
  clear cl0
  have cl0 := (h77.up (hu88.out.sto (Nat.le_trans (Nat.le_refl _) lbb86.out) hs90.out)).cell (o := 0) rfl
  refine wpp fun k h=>?_;go_simp;apply h;clear h k
  clear cl0
  have cl0 := (hb8.up ((((hu13.out.trans hu16.out).trans hu60.out).trans hu88.out).sto (Nat.le_trans ((Nat.le_trans ((Nat.le_trans ((Nat.le_trans ((Nat.le_trans ((Nat.le_trans ((Nat.le_trans (hu13.out.size) hu16.out.size)) hu19.out.size)) hu25.out.size)) hu37.out.size)) hu55.out.size)) hz61.out)) lbb86.out) hs90.out)).cell (o := 0) rfl
  have cl1 := (hb8.up ((((hu13.out.trans hu16.out).trans hu60.out).trans hu88.out).sto (Nat.le_trans ((Nat.le_trans ((Nat.le_trans ((Nat.le_trans ((Nat.le_trans ((Nat.le_trans ((Nat.le_trans (hu13.out.size) hu16.out.size)) hu19.out.size)) hu25.out.size)) hu37.out.size)) hu55.out.size)) hz61.out)) lbb86.out) hs90.out)).cell (o := 1) rfl
  have cl2 := (hb8.up ((((hu13.out.trans hu16.out).trans hu60.out).trans hu88.out).sto (Nat.le_trans ((Nat.le_trans ((Nat.le_trans ((Nat.le_trans ((Nat.le_trans ((Nat.le_trans ((Nat.le_trans (hu13.out.size) hu16.out.size)) hu19.out.size)) hu25.out.size)) hu37.out.size)) hu55.out.size)) hz61.out)) lbb86.out) hs90.out)).cell (o := 2) rfl
  refine wpp fun k h=>?_;go_simp;apply h;clear h k
  clear cl0 cl1 cl2
  have cl0 := hb91.cell (o := 0) rfl
  have cl1 := hb91.cell (o := 1) rfl
  refine wpp fun k h=>?_;go_simp;apply h;clear h k
  clear cl0 cl1
  refine step_call wn (by go_simp <;> rfl) (impl_power.calls K a0 a1 a2_0 a2_1 a2_2 t80 t81 t93 w89  A94.out) ?_
  rintro e w95 ⟨rfl, hu⟩
  have hu96 := Aside0.mk hu
  clear hu
  refine ⟨_, rfl, ?_⟩
  simp only[Act.put,nm1,nm2,nm3]
  refine wpp fun k h=>?_;go_simp;apply h;clear h k
  refine wpList_nil (hK92 _ _ ?_)
  refine wp_seq_k fun K97 hK97=>wp_region_lit ?_
  refine wpp fun k h=>?_;go_simp;apply h;clear h k
  have cl0 := (h76.up ((hu88.out.sto (Nat.le_trans (Nat.le_refl _) lbb86.out) hs90.out).trans hu96.out)).cell (o := 0) rfl
  refine wpp fun k h=>?_;go_simp;apply h;clear h k
  clear cl0
  have cl0 := (h77.up ((hu88.out.sto (Nat.le_trans (Nat.le_refl _) lbb86.out) hs90.out).trans hu96.out)).cell (o := 0) rfl
  refine wpp fun k h=>?_;go_simp;apply h;clear h k
  clear cl0
  have cl0 := (hb11.up ((((hu16.out.trans hu60.out).trans hu88.out).sto (Nat.le_trans ((Nat.le_trans ((Nat.le_trans ((Nat.le_trans ((Nat.le_trans ((Nat.le_trans (hu16.out.size) hu19.out.size)) hu25.out.size)) hu37.out.size)) hu55.out.size)) hz61.out)) lbb86.out) hs90.out).trans hu96.out)).cell (o := 0) rfl
  have cl1 := (hb11.up ((((hu16.out.trans hu60.out).trans hu88.out).sto (Nat.le_trans ((Nat.le_trans ((Nat.le_trans ((Nat.le_trans ((Nat.le_trans ((Nat.le_trans (hu16.out.size) hu19.out.size)) hu25.out.size)) hu37.out.size)) hu55.out.size)) hz61.out)) lbb86.out) hs90.out).trans hu96.out)).cell (o := 1) rfl
  have cl2 := (hb11.up ((((hu16.out.trans hu60.out).trans hu88.out).sto (Nat.le_trans ((Nat.le_trans ((Nat.le_trans ((Nat.le_trans ((Nat.le_trans ((Nat.le_trans (hu16.out.size) hu19.out.size)) hu25.out.size)) hu37.out.size)) hu55.out.size)) hz61.out)) lbb86.out) hs90.out).trans hu96.out)).cell (o := 2) rfl
  refine wpp fun k h=>?_;go_simp;apply h;clear h k
  clear cl0 cl1 cl2
  have cl0 := (hb91.up hu96.out).cell (o := 0) rfl
  have cl1 := (hb91.up hu96.out).cell (o := 1) rfl
  refine wpp fun k h=>?_;go_simp;apply h;clear h k
  clear cl0 cl1
  refine step_call wn (by go_simp <;> rfl) (impl_power.calls K a0 a1 a3_0 a3_1 a3_2 t80 t81 t98 w95  A99.out) ?_
  rintro e w100 ⟨rfl, hu⟩
  have hu101 := Aside0.mk hu
  clear hu
  refine ⟨_, rfl, ?_⟩
  simp only[Act.put,nm1,nm2,nm3]
  iterate 2 (refine wpp fun k h=>?_;go_simp;apply h;clear h k)
  have hm103 := Aside0.mk (((hu88.out.sto (Nat.le_trans (Nat.le_refl _) lbb86.out) hs90.out).trans hu96.out).trans hu101.out)
  have h104 := (hb8.up (((hu13.out.trans hu16.out).trans hu60.out).trans hm103.out))
  by_cases c102 : (t93 == t98) = true
  rotate_left
  ·
   rw [if_neg c102] at H; replace c102 := Bool.eq_false_iff.mpr c102
   have c102n : (t93 != t98) = true := by rw [bne, c102]; rfl
   have c102p : ¬ t93 = t98 := fun e => by simp [e] at c102
   have HL123 := Aside0.mk H
   clear H
   try simp only [c102, c102n, Bool.not_true, Bool.not_false]
   refine step_no rfl ?_
   simp only[Act.put,nm1,nm2,nm3]
   refine step_no rfl ?_
   simp only[Act.put,nm1,nm2,nm3]
   refine step_no rfl ?_
   simp only[Act.put,nm1,nm2,nm3]
   refine step_no rfl ?_
   simp only[Act.put,nm1,nm2,nm3]
   refine step_no rfl ?_
   simp only[Act.put,nm1,nm2,nm3]
   refine step_no rfl ?_
   simp only[Act.put,nm1,nm2,nm3]
   refine step_no rfl ?_
   simp only[Act.put,nm1,nm2,nm3]
   refine wpp fun k h=>?_;go_simp;apply h;clear h k
   refine wpList_nil (hK97 _ _ ?_)
   refine wp_cond_false rfl ?_
   refine wp_skip ?_
   refine hK78 _ _ ?_
   refine wp_region_lit ?_
   iterate 2 (refine wpp fun k h=>?_;go_simp;apply h;clear h k)
   refine wpList_nil (hK68 _ _ ?_)
   go_roundg k65
   case measure => exact Nat.lt_succ_self _
   case rel => exact ⟨wrap64 (x56 + 1), x57, x58, (by first | rfl | simp), HL123, ⟨by have := hk66.out; omega⟩, ⟨(hu60.out.trans hm103.out)⟩, ⟨(Nat.le_trans ((Nat.le_trans (Nat.le_refl _) hz61.out)) hm103.out.size)⟩, (h63.up hm103.out), (h64.up hm103.out)⟩
  rw [if_pos c102] at H
  have c102n : (t93 != t98) = false := by rw [bne, c102]; rfl
  obtain ⟨t105,A106,H⟩:=Option.bind_eq_some_iff.mp H
  replace A106:=Aside0.mk A106;try dsimp only at H
  try simp only [c102, c102n, Bool.not_true, Bool.not_false]
  refine wpList_step fun k h=>?_;go_simp;apply h;clear h k
  have cl0 := (h76.up hm103.out).cell (o := 0) rfl
  refine wpList_step fun k h=>?_;go_simp;apply h;clear h k
  clear cl0
  have cl0 := (h77.up hm103.out).cell (o := 0) rfl
  refine wpList_step fun k h=>?_;go_simp;apply h;clear h k
  clear cl0
  have cl0 := (hb14.up (hu60.out.trans hm103.out)).cell (o := 0) rfl
  have cl1 := (hb14.up (hu60.out.trans hm103.out)).cell (o := 1) rfl
  have cl2 := (hb14.up (hu60.out.trans hm103.out)).cell (o := 2) rfl
  refine wpList_step fun k h=>?_;go_simp;apply h;clear h k
  clear cl0 cl1 cl2
  have cl0 := (hb91.up (hu96.out.trans hu101.out)).cell (o := 0) rfl
  have cl1 := (hb91.up (hu96.out.trans hu101.out)).cell (o := 1) rfl
  refine wpList_step fun k h=>?_;go_simp;apply h;clear h k
  clear cl0 cl1
  refine step_call rfl (by go_simp <;> rfl) (impl_power.calls K a0 a1 a4_0 a4_1 a4_2 t80 t81 t105 w100  A106.out) ?_
  rintro e w107 ⟨rfl, hu⟩
  have hu108 := Aside0.mk hu
  clear hu
  refine ⟨_, rfl, ?_⟩
  simp only[Act.put,nm1,nm2,nm3]
  refine wpList_step fun k h=>?_;go_simp;apply h;clear h k
  refine wpp fun k h=>?_;go_simp;apply h;clear h k
  refine wpList_nil (hK97 _ _ ?_)
  have hm110 := Aside0.mk (Nat.le_trans ((Nat.le_trans ((Nat.le_trans (Nat.le_refl _) hz61.out)) hm103.out.size)) hu108.out.size)
  have h111 := (hb11.up (((hu16.out.trans hu60.out).trans hm103.out).trans hu108.out))
  by_cases c109 : (t93 == t105) = true
  rotate_left
  ·
   rw [if_neg c109] at H; replace c109 := Bool.eq_false_iff.mpr c109
   have c109n : (t93 != t105) = true := by rw [bne, c109]; rfl
   have c109p : ¬ t93 = t105 := fun e => by simp [e] at c109
   have HL122 := Aside0.mk H
   clear H
   try simp only [c109, c109n, Bool.not_true, Bool.not_false]
   refine wp_cond_false rfl ?_
   refine wp_skip ?_
   refine hK78 _ _ ?_
   refine wp_region_lit ?_
   iterate 2 (refine wpp fun k h=>?_;go_simp;apply h;clear h k)
   refine wpList_nil (hK68 _ _ ?_)
   go_roundg k65
   case measure => exact Nat.lt_succ_self _
   case rel => exact ⟨wrap64 (x56 + 1), x57, x58, (by first | rfl | simp), HL122, ⟨by have := hk66.out; omega⟩, ⟨((hu60.out.trans hm103.out).trans hu108.out)⟩, ⟨hm110.out⟩, (h63.up (hm103.out.trans hu108.out)), (h64.up (hm103.out.trans hu108.out))⟩
  rw [if_pos c109] at H
  have c109n : (t93 != t105) = false := by rw [bne, c109]; rfl
  simp only [Option.some.injEq, Prod.mk.injEq] at H
  obtain ⟨rfl, rfl, rfl⟩ := H
  try simp only [c109, c109n, Bool.not_true, Bool.not_false]
  refine wp_cond_true rfl ?_
  refine wp_seq_k fun K112 hK112=>wp_region_lit ?_
  have cl0 := (hb91.up ((hu96.out.trans hu101.out).trans hu108.out)).cell (o := 0) rfl
  have cl1 := (hb91.up ((hu96.out.trans hu101.out).trans hu108.out)).cell (o := 1) rfl
  refine wpp fun k h=>?_;go_simp;apply h;clear h k
  clear cl0 cl1
  have hB0 := (h63.up (hm103.out.trans hu108.out))
  have cl0 := hB0.cell (o := 0) rfl
  have fr0 := hB0.free 0
  have cl1 := hB0.cell (o := 1) rfl
  have fr1 := hB0.free 1
  refine step_store (b := b17) (cs' := [.int .i64 t80, .int .i64 t81]) (T := 30) (W' := ((w107.setCell ⟨b17, 0, none⟩ (.int .i64 t80)).setCell ⟨b17, 1, none⟩ (.int .i64 t81))) rfl rfl (by go_simp <;> rfl) (((Sto.refl _ _).setCell 0 _).setCell 1 _) (((hB0).setCell 0 _).setCell 1 _) ?_
  clear hB0 cl0 fr0 cl1 fr1
  intro w113 hs hb115
  have hs114 := Aside0.mk hs
  clear hs
  have h116 := (h76.up (hm103.out.trans hu108.out)).sto hs114.out (Nat.ne_of_lt (Nat.lt_of_lt_of_le (Nat.lt_of_lt_of_le ltb2.out ((Nat.le_trans ((Nat.le_trans ((Nat.le_trans (hu7.out.size) hu10.out.size)) hu13.out.size)) hu16.out.size))) lbb17.out))
  have h117 := (h77.up (hm103.out.trans hu108.out)).sto hs114.out (Nat.ne_of_lt (Nat.lt_of_lt_of_le (Nat.lt_of_lt_of_le ltb5.out ((Nat.le_trans ((Nat.le_trans (hu10.out.size) hu13.out.size)) hu16.out.size))) lbb17.out))
  have h118 := (h104.up hu108.out).sto hs114.out (Nat.ne_of_lt (Nat.lt_of_lt_of_le (Nat.lt_of_lt_of_le ltb8.out ((Nat.le_trans (hu13.out.size) hu16.out.size))) lbb17.out))
  have h119 := h111.sto hs114.out (Nat.ne_of_lt (Nat.lt_of_lt_of_le (Nat.lt_of_lt_of_le ltb11.out (hu16.out.size)) lbb17.out))
  have h120 := (h64.up (hm103.out.trans hu108.out)).sto hs114.out (fun k hk => Ne.symm ((fun k hk => Nat.ne_of_lt (Nat.lt_of_lt_of_le (Nat.lt_of_lt_of_le ltb17.out ((Nat.le_trans (hu25.out.size) hu37.out.size))) ((fun k hk => Nat.le_trans (Nat.le_refl _) (ht50.lt k hk).1) k hk))) k hk))
  have h121 := (hb91.up ((hu96.out.trans hu101.out).trans hu108.out)).sto hs114.out (Ne.symm (Nat.ne_of_lt (Nat.lt_of_lt_of_le (Nat.lt_of_lt_of_le ltb17.out ((Nat.le_trans ((Nat.le_trans ((Nat.le_trans (hu25.out.size) hu37.out.size)) hu55.out.size)) hz61.out))) lbb86.out)))
  refine wpp fun k h=>?_;go_simp;apply h;clear h k
  refine wpList_nil (hK112 _ _ ?_)
  refine wp_ret ?_
  refine hQf _ _ _ ?_
  have cr0 := hb115.cell (o := 0) rfl
  have cr1 := hb115.cell (o := 1) rfl
  exact bodyPost_ret (v := .tuple #[.agg #[.int .i64 t80, .int .i64 t81], .int .i64 0]) (by first|rfl|simp [results, Try.results58, go_sem, cr0, cr1]<;>rfl) rfl ⟨rfl, (((hm73.out.trans hm103.out).trans hu108.out).sto (Nat.le_trans ((Nat.le_trans ((Nat.le_trans ((Nat.le_trans ((Nat.le_trans (hu4.out.size) hu7.out.size)) hu10.out.size)) hu13.out.size)) hu16.out.size)) lbb17.out) hs114.out)⟩

set_option maxHeartbeats 40000000 in
set_option maxRecDepth 100000 in
theorem spec_l01Area.calls (K : Nat) (a0 : Int) (a1_0 : Int) (a1_1 : Int) (a2_0 : Int) (a2_1 : Int) (a3_0 : Int) (a3_1 : Int) (r0 : Int) (w : World)  (h : spec_l01Area.f K a0 a1_0 a1_1 a2_0 a2_1 a3_0 a3_1 = some (r0)) :
    Calls Try.prog 156 #[.int .i64 a0, .agg #[.int .i64 a1_0, .int .i64 a1_1], .agg #[.int .i64 a2_0, .int .i64 a2_1], .agg #[.int .i64 a3_0, .int .i64 a3_1]] w fun e w' => e = .returned (.int .i64 r0) ∧ Up w w' := by
 have H : (((spec_l01Mod.f K (wrap64 ((wrap64 ((wrap64 (a2_0 - a1_0)) * (wrap64 (a3_1 - a1_1)))) - (wrap64 ((wrap64 (a2_1 - a1_1)) * (wrap64 (a3_0 - a1_0)))))) a0).bind fun t12 => some t12) : Option (Int)) = some (r0) := h
 clear h
 obtain ⟨t12,A13,H⟩:=Option.bind_eq_some_iff.mp H
 replace A13:=Aside0.mk A13;try dsimp only at H
 obtain rfl := Option.some.inj H
 go_enter Try.func156, Try.ntmps156
 refine wp_hide (fun Qf hQf => ?_)
 refine wp_seq_k fun K1 hK1=>wp_region_lit ?_
 refine step_new (cs := [.int .i64 a1_0, .int .i64 a1_1]) (T := 30) (f := fun b => .pointer (some ⟨b, 0, none⟩)) rfl (by go_simp <;> rfl) ?_
 intro b2 w3 hu lb hb2
 simp only[Act.put,nm1,nm2,nm3]
 have lbb2 := Aside0.mk lb
 have ltb2 := Aside0.mk hb2.lt
 clear lb
 have hu4 := Aside0.mk hu
 clear hu
 refine step_new (cs := [.int .i64 a2_0, .int .i64 a2_1]) (T := 30) (f := fun b => .pointer (some ⟨b, 0, none⟩)) rfl (by go_simp <;> rfl) ?_
 intro b5 w6 hu lb hb5
 simp only[Act.put,nm1,nm2,nm3]
 have lbb5 := Aside0.mk lb
 have ltb5 := Aside0.mk hb5.lt
 clear lb
 have hu7 := Aside0.mk hu
 clear hu
 refine step_new (cs := [.int .i64 a3_0, .int .i64 a3_1]) (T := 30) (f := fun b => .pointer (some ⟨b, 0, none⟩)) rfl (by go_simp <;> rfl) ?_
 intro b8 w9 hu lb hb8
 simp only[Act.put,nm1,nm2,nm3]
 have lbb8 := Aside0.mk lb
 have ltb8 := Aside0.mk hb8.lt
 clear lb
 have hu10 := Aside0.mk hu
 clear hu
 refine wpp fun k h=>?_;go_simp;apply h;clear h k
 refine wpList_nil (hK1 _ _ ?_)
 refine wp_seq_k fun K11 hK11=>wp_region_lit ?_
 refine wpp fun k h=>?_;go_simp;apply h;clear h k
 have cl0 := (hb5.up hu10.out).cell (o := 0) rfl
 refine wpp fun k h=>?_;go_simp;apply h;clear h k
 clear cl0
 refine wpp fun k h=>?_;go_simp;apply h;clear h k
 have cl0 := (hb2.up (hu7.out.trans hu10.out)).cell (o := 0) rfl
 refine wpp fun k h=>?_;go_simp;apply h;clear h k
 clear cl0
 iterate 2 (refine wpp fun k h=>?_;go_simp;apply h;clear h k)
 have cl0 := hb8.cell (o := 1) rfl
 refine wpp fun k h=>?_;go_simp;apply h;clear h k
 clear cl0
 refine wpp fun k h=>?_;go_simp;apply h;clear h k
 have cl0 := (hb2.up (hu7.out.trans hu10.out)).cell (o := 1) rfl
 refine wpp fun k h=>?_;go_simp;apply h;clear h k
 clear cl0
 iterate 3 (refine wpp fun k h=>?_;go_simp;apply h;clear h k)
 have cl0 := (hb5.up hu10.out).cell (o := 1) rfl
 refine wpp fun k h=>?_;go_simp;apply h;clear h k
 clear cl0
 refine wpp fun k h=>?_;go_simp;apply h;clear h k
 have cl0 := (hb2.up (hu7.out.trans hu10.out)).cell (o := 1) rfl
 refine wpp fun k h=>?_;go_simp;apply h;clear h k
 clear cl0
 iterate 2 (refine wpp fun k h=>?_;go_simp;apply h;clear h k)
 have cl0 := hb8.cell (o := 0) rfl
 refine wpp fun k h=>?_;go_simp;apply h;clear h k
 clear cl0
 refine wpp fun k h=>?_;go_simp;apply h;clear h k
 have cl0 := (hb2.up (hu7.out.trans hu10.out)).cell (o := 0) rfl
 refine wpp fun k h=>?_;go_simp;apply h;clear h k
 clear cl0
 iterate 4 (refine wpp fun k h=>?_;go_simp;apply h;clear h k)
 refine step_call wn (by go_simp <;> rfl) (spec_l01Mod.calls K (wrap64 ((wrap64 ((wrap64 (a2_0 - a1_0)) * (wrap64 (a3_1 - a1_1)))) - (wrap64 ((wrap64 (a2_1 - a1_1)) * (wrap64 (a3_0 - a1_0)))))) a0 t12 w9  A13.out) ?_
 rintro e w14 ⟨rfl, hu⟩
 have hu15 := Aside0.mk hu
 clear hu
 refine ⟨_, rfl, ?_⟩
 simp only[Act.put,nm1,nm2,nm3]
 refine wpp fun k h=>?_;go_simp;apply h;clear h k
 refine wpList_nil (hK11 _ _ ?_)
 refine wp_ret ?_
 refine hQf _ _ _ ?_
 exact bodyPost_ret (v := .int .i64 t12) (by first|rfl|simp [results, Try.results156, go_sem]<;>rfl) rfl ⟨rfl, (((hu4.out.trans hu7.out).trans hu10.out).trans hu15.out)⟩

end Go.Proofs.Ytccbmdpikalpfaa
