/- The walks: each of these functions of the program computes what its plain function says: laws_FnRadicals. -/
import Derived.Test.YtccbmdpikalpfaaProg
import Derived.Test.YtccbmdpikalpfaaD1
import Derived.WalkKit
import Derived.KernelRfl
import Derived.BigQuiet
import Derived.Deep.LoopGhost
import Derived.Laws.StructEq
import Derived.Test.YtccbmdpikalpfaaWRad4
namespace Go.Proofs.Ytccbmdpikalpfaa
open Go Go.RowKit
attribute [local go_sem] Oper.quiet Oper.quietAt Oper.quietUpon Act.put nm1 nm2 nm3 i64_w run_max2 run_min2 mkT_getD mkT_get mkT_set lookT_cons lookT_nil
attribute [local irreducible] wpList
set_option linter.unusedVariables false
set_option linter.unusedSimpArgs false
attribute [local go_sem] eqT30
attribute [local go_sem] eqT34

set_option maxHeartbeats 40000000 in
set_option maxRecDepth 100000 in
theorem laws_FnRadicals.calls (K : Nat) (a0_A : Option Addr) (a0_c : Nat) (a0 : List (Int)) (r0 : Bool) (w : World) (ha0 : Rd eU8 w a0_A a0) (h : laws_FnRadicals.f K a0 = some (r0)) :
    Calls Try.prog 6 #[.slice a0_A a0.length a0_c] w fun e w' => e = .returned (.bool r0) ∧ Up w w' := by
 have H : (((laws_big.f K a0).bind fun t4 => (if t4 = true then some true else ((spec_DrawRadicalLine.f K a0).bind fun (t11, t12, t13, t14, t15, t16, t17, t18) => ((impl_RadicalLine.f K t11 t12 t13 t14 t15 t16 t17 t18).bind fun (t37, t38, t39, t40) => ((spec_RadicalLine.f K t11 t12 t13 t14 t15 t16 t17 t18).bind fun (t52, t53, t54, t55) => (if (t40 == t55) = true then (if (t37 == t52 && (t38 == t53 && t39 == t54)) = true then ((impl_MeetCircles.f K t11 t12 t13 t14 t15 t16 t17 t18).bind fun (t73, t76) => ((spec_MeetCircles.f K t11 t12 t13 t14 t15 t16 t17 t18).bind fun (t82, t85) => (if (t76 == t85) = true then ((laws_points9.f K t73 t82).bind fun t92 => (if t92 = true then ((spec_DrawRadicalCentre.f K a0).bind fun (t98, t99, t100, t101, t102, t103, t104, t105, t106, t107, t108) => ((impl_RadicalCentre.f K t98 t99 t100 t101 t102 t103 t104 t105 t106 t107 t108).bind fun (t137, t138, t139) => ((spec_RadicalCentre.f K t98 t99 t100 t101 t102 t103 t104 t105 t106 t107 t108).bind fun (t151, t152, t153) => (if (t139 == t153) = true then (if (t137 == t151 && t138 == t152) = true then ((spec_DrawAreCyclic.f K a0).bind fun (t176, t177, t178, t179, t180, t181, t182, t183, t184, t185) => ((impl_AreCyclic.f K t176 t177 t178 t179 t180 t181 t182 t183 t184 t185).bind fun (t226, t227) => ((spec_AreCyclic.f K t176 t177 t178 t179 t180 t181 t182 t183 t184 t185).bind fun (t616, t617) => (if (t227 == t617) = true then (if t226 = true then (if t616 = true then (laws_FnRadicals.j0 K t11 t12 t13 t14 t15 t16 t17 t18 t37 t38 t39 t40 t73 t76 t98 t99 t100 t101 t102 t103 t104 t105 t106 t107 t108 t137 t138 t139 t176 t177 t178 t179 t180 t181 t182 t183 t184 t185 t226 t227) else some false) else (if t616 = true then some false else (laws_FnRadicals.j0 K t11 t12 t13 t14 t15 t16 t17 t18 t37 t38 t39 t40 t73 t76 t98 t99 t100 t101 t102 t103 t104 t105 t106 t107 t108 t137 t138 t139 t176 t177 t178 t179 t180 t181 t182 t183 t184 t185 t226 t227))) else some false)))) else some false) else some false)))) else some false)) else some false))) else some false) else some false)))))) : Option (Bool)) = some (r0) := h
 clear h
 obtain ⟨t4,A5,H⟩:=Option.bind_eq_some_iff.mp H
 replace A5:=Aside0.mk A5;try dsimp only at H
 refine calls_T [0] Try.func6 rfl Try.ntmps6 rfl fun B_ => ?_
 simp only [keepT,nthV,lookT_cons,lookT_nil,Nat.reduceEqDiff,↓reduceIte]
 refine wp_hide (fun Qf hQf => ?_)
 refine wp_seq_k fun K1 hK1=>wp_region_lit ?_
 refine wpp fun k h=>?_;go_simp;apply h;clear h k
 refine wpList_nil (hK1 _ _ ?_)
 refine wp_seq_k fun K2 hK2=>?_
 refine wp_seq_k fun K3 hK3=>wp_region_lit ?_
 refine wpp fun k h=>?_;go_simp;apply h;clear h k
 refine step_call wn (by go_simp <;> rfl) (laws_big.calls K a0_A a0_c a0 t4 w ha0 A5.out) ?_
 rintro e w6 ⟨rfl, hu⟩
 have hu7 := Aside0.mk hu
 clear hu
 refine ⟨_, rfl, ?_⟩
 simp only[Act.put,mkT_set]
 refine wpList_nil (hK3 _ _ ?_)
 by_cases c8 : (t4) = true
 ·
  rw [if_pos c8] at H
  subst c8
  obtain rfl := Option.some.inj H
  refine wp_cond_true (evT rfl rfl) ?_
  refine wp_seq_k fun K9 hK9=>wp_region_lit ?_
  refine wpp fun k h=>?_;go_simp;apply h;clear h k
  refine wpList_nil (hK9 _ _ ?_)
  refine wp_ret ?_
  refine hQf _ _ _ ?_
  exact bodyPost_ret (v := .bool true) (by first|rfl|simp [results, Try.results6, go_sem]<;>rfl) rfl ⟨rfl, hu7.out⟩
 rw [if_neg c8] at H; replace c8 := Bool.eq_false_iff.mpr c8
 subst c8
 obtain ⟨⟨t11, t12, t13, t14, t15, t16, t17, t18⟩,A19,H⟩:=Option.bind_eq_some_iff.mp H
 replace A19:=Aside0.mk A19;try dsimp only at H
 obtain ⟨⟨t37, t38, t39, t40⟩,A41,H⟩:=Option.bind_eq_some_iff.mp H
 replace A41:=Aside0.mk A41;try dsimp only at H
 obtain ⟨⟨t52, t53, t54, t55⟩,A56,H⟩:=Option.bind_eq_some_iff.mp H
 replace A56:=Aside0.mk A56;try dsimp only at H
 refine wp_cond_false (evT rfl rfl) ?_
 refine wp_skip ?_
 refine hK2 _ _ ?_
 refine wp_seq_k fun K10 hK10=>wp_region_lit ?_
 refine wpp fun k h=>?_;go_simp;apply h;clear h k
 refine step_call wn (by go_simp <;> rfl) (spec_DrawRadicalLine.calls K a0_A a0_c a0 t11 t12 t13 t14 t15 t16 t17 t18 w6 (ha0.up hu7.out) A19.out) ?_
 rintro e w20 ⟨rfl, hu⟩
 have hu21 := Aside0.mk hu
 clear hu
 refine ⟨_, rfl, ?_⟩
 simp only[Act.put,mkT_set]
 iterate 5 (refine wpp fun k h=>?_;go_simp;apply h;clear h k)
 refine step_new (cs := [.int .i64 0, .int .i64 0, .int .i64 0]) (T := 71) (f := fun b => .pointer (some ⟨b, 0, none⟩)) rfl (by go_simp <;> rfl) ?_
 intro b22 w23 hu lb hb22
 simp only[Act.put,mkT_set]
 have lbb22 := Aside0.mk lb
 have ltb22 := Aside0.mk hb22.lt
 clear lb
 have hu24 := Aside0.mk hu
 clear hu
 refine step_new (cs := [.int .i64 0, .int .i64 0, .int .i64 0]) (T := 71) (f := fun b => .pointer (some ⟨b, 0, none⟩)) rfl (by go_simp <;> rfl) ?_
 intro b25 w26 hu lb hb25
 simp only[Act.put,mkT_set]
 have lbb25 := Aside0.mk lb
 have ltb25 := Aside0.mk hb25.lt
 clear lb
 have hu27 := Aside0.mk hu
 clear hu
 iterate 2 (refine wpp fun k h=>?_;go_simp;apply h;clear h k)
 have hB0 := (hb22.up hu27.out)
 have cl0 := hB0.cell (o := 0) rfl
 have fr0 := hB0.free 0
 have cl1 := hB0.cell (o := 1) rfl
 have fr1 := hB0.free 1
 have cl2 := hB0.cell (o := 2) rfl
 have fr2 := hB0.free 2
 refine step_store (b := b22) (cs' := [.int .i64 t13, .int .i64 t14, .int .i64 t15]) (T := 71) (W' := (((w26.setCell ⟨b22, 0, none⟩ (.int .i64 t13)).setCell ⟨b22, 1, none⟩ (.int .i64 t14)).setCell ⟨b22, 2, none⟩ (.int .i64 t15))) rfl rfl (by go_simp <;> rfl) ((((Sto.refl _ _).setCell 0 _).setCell 1 _).setCell 2 _) ((((hB0).setCell 0 _).setCell 1 _).setCell 2 _) ?_
 clear hB0 cl0 fr0 cl1 fr1 cl2 fr2
 intro w28 hs hb30
 have hs29 := Aside0.mk hs
 clear hs
 have h31 := hb25.sto hs29.out (Ne.symm (Nat.ne_of_lt (Nat.lt_of_lt_of_le ltb22.out lbb25.out)))
 have hB0 := h31
 have cl0 := hB0.cell (o := 0) rfl
 have fr0 := hB0.free 0
 have cl1 := hB0.cell (o := 1) rfl
 have fr1 := hB0.free 1
 have cl2 := hB0.cell (o := 2) rfl
 have fr2 := hB0.free 2
 refine step_store (b := b25) (cs' := [.int .i64 t16, .int .i64 t17, .int .i64 t18]) (T := 71) (W' := (((w28.setCell ⟨b25, 0, none⟩ (.int .i64 t16)).setCell ⟨b25, 1, none⟩ (.int .i64 t17)).setCell ⟨b25, 2, none⟩ (.int .i64 t18))) rfl rfl (by go_simp <;> rfl) ((((Sto.refl _ _).setCell 0 _).setCell 1 _).setCell 2 _) ((((hB0).setCell 0 _).setCell 1 _).setCell 2 _) ?_
 clear hB0 cl0 fr0 cl1 fr1 cl2 fr2
 intro w32 hs hb34
 have hs33 := Aside0.mk hs
 clear hs
 have h35 := hb30.sto hs33.out (Nat.ne_of_lt (Nat.lt_of_lt_of_le ltb22.out lbb25.out))
 refine wpList_nil (hK10 _ _ ?_)
 refine wp_seq_k fun K36 hK36=>wp_region_lit ?_
 iterate 2 (refine wpp fun k h=>?_;go_simp;apply h;clear h k)
 have cl0 := h35.cell (o := 0) rfl
 have cl1 := h35.cell (o := 1) rfl
 have cl2 := h35.cell (o := 2) rfl
 refine wpp fun k h=>?_;go_simp;apply h;clear h k
 clear cl0 cl1 cl2
 have cl0 := hb34.cell (o := 0) rfl
 have cl1 := hb34.cell (o := 1) rfl
 have cl2 := hb34.cell (o := 2) rfl
 refine wpp fun k h=>?_;go_simp;apply h;clear h k
 clear cl0 cl1 cl2
 refine step_call wn (by go_simp <;> rfl) (impl_RadicalLine.calls K t11 t12 t13 t14 t15 t16 t17 t18 t37 t38 t39 t40 w32  A41.out) ?_
 rintro e w42 ⟨rfl, hu⟩
 have hu43 := Aside0.mk hu
 clear hu
 refine ⟨_, rfl, ?_⟩
 simp only[Act.put,mkT_set]
 iterate 3 (refine wpp fun k h=>?_;go_simp;apply h;clear h k)
 refine step_new (cs := [.int .i64 0, .int .i64 0, .int .i64 0]) (T := 34) (f := fun b => .pointer (some ⟨b, 0, none⟩)) rfl (by go_simp <;> rfl) ?_
 intro b44 w45 hu lb hb44
 simp only[Act.put,mkT_set]
 have lbb44 := Aside0.mk lb
 have ltb44 := Aside0.mk hb44.lt
 clear lb
 have hu46 := Aside0.mk hu
 clear hu
 have hB0 := hb44
 have cl0 := hB0.cell (o := 0) rfl
 have fr0 := hB0.free 0
 have cl1 := hB0.cell (o := 1) rfl
 have fr1 := hB0.free 1
 have cl2 := hB0.cell (o := 2) rfl
 have fr2 := hB0.free 2
 refine step_store (b := b44) (cs' := [.int .i64 t37, .int .i64 t38, .int .i64 t39]) (T := 34) (W' := (((w45.setCell ⟨b44, 0, none⟩ (.int .i64 t37)).setCell ⟨b44, 1, none⟩ (.int .i64 t38)).setCell ⟨b44, 2, none⟩ (.int .i64 t39))) rfl rfl (by go_simp <;> rfl) ((((Sto.refl _ _).setCell 0 _).setCell 1 _).setCell 2 _) ((((hB0).setCell 0 _).setCell 1 _).setCell 2 _) ?_
 clear hB0 cl0 fr0 cl1 fr1 cl2 fr2
 intro w47 hs hb49
 have hs48 := Aside0.mk hs
 clear hs
 refine wpp fun k h=>?_;go_simp;apply h;clear h k
 refine wpList_nil (hK36 _ _ ?_)
 refine wp_seq_k fun K50 hK50=>?_
 refine wp_seq_k fun K51 hK51=>wp_region_lit ?_
 iterate 2 (refine wpp fun k h=>?_;go_simp;apply h;clear h k)
 have cl0 := (h35.up ((hu43.out.trans hu46.out).sto (Nat.le_trans (hu43.out.size) lbb44.out) hs48.out)).cell (o := 0) rfl
 have cl1 := (h35.up ((hu43.out.trans hu46.out).sto (Nat.le_trans (hu43.out.size) lbb44.out) hs48.out)).cell (o := 1) rfl
 have cl2 := (h35.up ((hu43.out.trans hu46.out).sto (Nat.le_trans (hu43.out.size) lbb44.out) hs48.out)).cell (o := 2) rfl
 refine wpp fun k h=>?_;go_simp;apply h;clear h k
 clear cl0 cl1 cl2
 have cl0 := (hb34.up ((hu43.out.trans hu46.out).sto (Nat.le_trans (hu43.out.size) lbb44.out) hs48.out)).cell (o := 0) rfl
 have cl1 := (hb34.up ((hu43.out.trans hu46.out).sto (Nat.le_trans (hu43.out.size) lbb44.out) hs48.out)).cell (o := 1) rfl
 have cl2 := (hb34.up ((hu43.out.trans hu46.out).sto (Nat.le_trans (hu43.out.size) lbb44.out) hs48.out)).cell (o := 2) rfl
 refine wpp fun k h=>?_;go_simp;apply h;clear h k
 clear cl0 cl1 cl2
 refine step_call wn (by go_simp <;> rfl) (spec_RadicalLine.calls K t11 t12 t13 t14 t15 t16 t17 t18 t52 t53 t54 t55 w47  A56.out) ?_
 rintro e w57 ⟨rfl, hu⟩
 have hu58 := Aside0.mk hu
 clear hu
 refine ⟨_, rfl, ?_⟩
 simp only[Act.put,mkT_set]
 iterate 3 (refine wpp fun k h=>?_;go_simp;apply h;clear h k)
 refine step_new (cs := [.int .i64 0, .int .i64 0, .int .i64 0]) (T := 34) (f := fun b => .pointer (some ⟨b, 0, none⟩)) rfl (by go_simp <;> rfl) ?_
 intro b59 w60 hu lb hb59
 simp only[Act.put,mkT_set]
 have lbb59 := Aside0.mk lb
 have ltb59 := Aside0.mk hb59.lt
 clear lb
 have hu61 := Aside0.mk hu
 clear hu
 have hB0 := hb59
 have cl0 := hB0.cell (o := 0) rfl
 have fr0 := hB0.free 0
 have cl1 := hB0.cell (o := 1) rfl
 have fr1 := hB0.free 1
 have cl2 := hB0.cell (o := 2) rfl
 have fr2 := hB0.free 2
 refine step_store (b := b59) (cs' := [.int .i64 t52, .int .i64 t53, .int .i64 t54]) (T := 34) (W' := (((w60.setCell ⟨b59, 0, none⟩ (.int .i64 t52)).setCell ⟨b59, 1, none⟩ (.int .i64 t53)).setCell ⟨b59, 2, none⟩ (.int .i64 t54))) rfl rfl (by go_simp <;> rfl) ((((Sto.refl _ _).setCell 0 _).setCell 1 _).setCell 2 _) ((((hB0).setCell 0 _).setCell 1 _).setCell 2 _) ?_
 clear hB0 cl0 fr0 cl1 fr1 cl2 fr2
 intro w62 hs hb64
 have hs63 := Aside0.mk hs
 clear hs
 refine wpp fun k h=>?_;go_simp;apply h;clear h k
 refine wpList_nil (hK51 _ _ ?_)
 refine wp_seq_k fun K65 hK65=>wp_region_lit ?_
 iterate 4 (refine wpp fun k h=>?_;go_simp;apply h;clear h k)
 have hm67 := Aside0.mk ((((((((((hu21.out.trans hu24.out).trans hu27.out).sto (Nat.le_trans (hu21.out.size) lbb22.out) hs29.out).sto (Nat.le_trans ((Nat.le_trans (hu21.out.size) hu24.out.size)) lbb25.out) hs33.out).trans hu43.out).trans hu46.out).sto (Nat.le_trans ((Nat.le_trans ((Nat.le_trans ((Nat.le_trans ((Nat.le_trans ((Nat.le_trans (hu21.out.size) hu24.out.size)) hu27.out.size)) (Nat.le_of_eq hs29.out.size.symm))) (Nat.le_of_eq hs33.out.size.symm))) hu43.out.size)) lbb44.out) hs48.out).trans hu58.out).trans hu61.out).sto (Nat.le_trans ((Nat.le_trans ((Nat.le_trans ((Nat.le_trans ((Nat.le_trans ((Nat.le_trans ((Nat.le_trans ((Nat.le_trans ((Nat.le_trans (hu21.out.size) hu24.out.size)) hu27.out.size)) (Nat.le_of_eq hs29.out.size.symm))) (Nat.le_of_eq hs33.out.size.symm))) hu43.out.size)) hu46.out.size)) (Nat.le_of_eq hs48.out.size.symm))) hu58.out.size)) lbb59.out) hs63.out)
 have h68 := (h35.up (((((hu43.out.trans hu46.out).sto (Nat.le_trans (hu43.out.size) lbb44.out) hs48.out).trans hu58.out).trans hu61.out).sto (Nat.le_trans ((Nat.le_trans ((Nat.le_trans ((Nat.le_trans (hu43.out.size) hu46.out.size)) (Nat.le_of_eq hs48.out.size.symm))) hu58.out.size)) lbb59.out) hs63.out))
 have h69 := (hb34.up (((((hu43.out.trans hu46.out).sto (Nat.le_trans (hu43.out.size) lbb44.out) hs48.out).trans hu58.out).trans hu61.out).sto (Nat.le_trans ((Nat.le_trans ((Nat.le_trans ((Nat.le_trans (hu43.out.size) hu46.out.size)) (Nat.le_of_eq hs48.out.size.symm))) hu58.out.size)) lbb59.out) hs63.out))
 have h70 := (hb49.up ((hu58.out.trans hu61.out).sto (Nat.le_trans (hu58.out.size) lbb59.out) hs63.out))
 by_cases c66 : (t40 == t55) = true
 rotate_left
 ·
  rw [if_neg c66] at H; replace c66 := Bool.eq_false_iff.mpr c66
  have c66n : (t40 != t55) = true := by rw [bne, c66]; rfl
  have c66p : ¬ t40 = t55 := fun e => by simp [e] at c66
  obtain rfl := Option.some.inj H
  try simp only [c66, c66n, Bool.not_true, Bool.not_false]
  refine step_no (wantT rfl rfl rfl rfl) ?_
  simp only[Act.put,mkT_set]
  refine step_no (wantT rfl rfl rfl rfl) ?_
  simp only[Act.put,mkT_set]
  refine step_no (wantT rfl rfl rfl rfl) ?_
  simp only[Act.put,mkT_set]
  refine wpp fun k h=>?_;go_simp;apply h;clear h k
  refine wpList_nil (hK65 _ _ ?_)
  refine wp_cond_true (evT rfl rfl) ?_
  refine wp_seq_k fun K636 hK636=>wp_region_lit ?_
  refine wpp fun k h=>?_;go_simp;apply h;clear h k
  refine wpList_nil (hK636 _ _ ?_)
  refine wp_ret ?_
  refine hQf _ _ _ ?_
  exact bodyPost_ret (v := .bool false) (by first|rfl|simp [results, Try.results6, go_sem]<;>rfl) rfl ⟨rfl, (hu7.out.trans hm67.out)⟩
 rw [if_pos c66] at H
 have c66n : (t40 != t55) = false := by rw [bne, c66]; rfl
 try simp only [c66, c66n, Bool.not_true, Bool.not_false]
 have cl0 := h70.cell (o := 0) rfl
 have cl1 := h70.cell (o := 1) rfl
 have cl2 := h70.cell (o := 2) rfl
 refine BigFrame.wpList_want (wantT rfl rfl rfl rfl) fun k h=>?_;go_simp;apply h;clear h k
 clear cl0 cl1 cl2
 have cl0 := hb64.cell (o := 0) rfl
 have cl1 := hb64.cell (o := 1) rfl
 have cl2 := hb64.cell (o := 2) rfl
 refine BigFrame.wpList_want (wantT rfl rfl rfl rfl) fun k h=>?_;go_simp;apply h;clear h k
 clear cl0 cl1 cl2
 refine BigFrame.wpList_want (wantT rfl rfl rfl rfl) fun k h=>?_;go_simp;apply h;clear h k
 refine wpp fun k h=>?_;go_simp;apply h;clear h k
 refine wpList_nil (hK65 _ _ ?_)
 by_cases c71 : (t37 == t52 && (t38 == t53 && t39 == t54)) = true
 rotate_left
 ·
  rw [if_neg c71] at H; replace c71 := Bool.eq_false_iff.mpr c71
  have c71n : (!t37 == t52 || (!t38 == t53 || !t39 == t54)) = true := by simp only [← Bool.not_and, c71, Bool.not_true, Bool.not_false]
  obtain rfl := Option.some.inj H
  try simp only [c71, c71n, Bool.not_true, Bool.not_false]
  refine wp_cond_true (evT rfl rfl) ?_
  refine wp_seq_k fun K635 hK635=>wp_region_lit ?_
  refine wpp fun k h=>?_;go_simp;apply h;clear h k
  refine wpList_nil (hK635 _ _ ?_)
  refine wp_ret ?_
  refine hQf _ _ _ ?_
  exact bodyPost_ret (v := .bool false) (by first|rfl|simp [results, Try.results6, go_sem]<;>rfl) rfl ⟨rfl, (hu7.out.trans hm67.out)⟩
 rw [if_pos c71] at H
 have c71n : (!t37 == t52 || (!t38 == t53 || !t39 == t54)) = false := by simp only [← Bool.not_and, c71, Bool.not_true, Bool.not_false]
 obtain ⟨⟨t73, t76⟩,A77,H⟩:=Option.bind_eq_some_iff.mp H
 replace A77:=Aside0.mk A77;try dsimp only at H
 obtain ⟨⟨t82, t85⟩,A86,H⟩:=Option.bind_eq_some_iff.mp H
 replace A86:=Aside0.mk A86;try dsimp only at H
 try simp only [c71, c71n, Bool.not_true, Bool.not_false]
 refine wp_cond_false (evT rfl rfl) ?_
 refine wp_skip ?_
 refine hK50 _ _ ?_
 refine wp_seq_k fun K72 hK72=>wp_region_lit ?_
 iterate 2 (refine wpp fun k h=>?_;go_simp;apply h;clear h k)
 have cl0 := h68.cell (o := 0) rfl
 have cl1 := h68.cell (o := 1) rfl
 have cl2 := h68.cell (o := 2) rfl
 refine wpp fun k h=>?_;go_simp;apply h;clear h k
 clear cl0 cl1 cl2
 have cl0 := h69.cell (o := 0) rfl
 have cl1 := h69.cell (o := 1) rfl
 have cl2 := h69.cell (o := 2) rfl
 refine wpp fun k h=>?_;go_simp;apply h;clear h k
 clear cl0 cl1 cl2
 refine step_call wn (by go_simp <;> rfl) (impl_MeetCircles.calls K t11 t12 t13 t14 t15 t16 t17 t18 t73 t76 w62  A77.out) ?_
 rintro e w78 ⟨P74, q75, rfl, ht73, hu⟩
 have hu79 := Aside0.mk hu
 clear hu
 refine ⟨_, rfl, ?_⟩
 simp only[Act.put,mkT_set]
 iterate 5 (refine wpp fun k h=>?_;go_simp;apply h;clear h k)
 refine wpList_nil (hK72 _ _ ?_)
 refine wp_seq_k fun K80 hK80=>?_
 refine wp_seq_k fun K81 hK81=>wp_region_lit ?_
 iterate 2 (refine wpp fun k h=>?_;go_simp;apply h;clear h k)
 have cl0 := (h68.up hu79.out).cell (o := 0) rfl
 have cl1 := (h68.up hu79.out).cell (o := 1) rfl
 have cl2 := (h68.up hu79.out).cell (o := 2) rfl
 refine wpp fun k h=>?_;go_simp;apply h;clear h k
 clear cl0 cl1 cl2
 have cl0 := (h69.up hu79.out).cell (o := 0) rfl
 have cl1 := (h69.up hu79.out).cell (o := 1) rfl
 have cl2 := (h69.up hu79.out).cell (o := 2) rfl
 refine wpp fun k h=>?_;go_simp;apply h;clear h k
 clear cl0 cl1 cl2
 refine step_call wn (by go_simp <;> rfl) (spec_MeetCircles.calls K t11 t12 t13 t14 t15 t16 t17 t18 t82 t85 w78  A86.out) ?_
 rintro e w87 ⟨P83, q84, rfl, ht82, hu⟩
 have hu88 := Aside0.mk hu
 clear hu
 refine ⟨_, rfl, ?_⟩
 simp only[Act.put,mkT_set]
 iterate 5 (refine wpp fun k h=>?_;go_simp;apply h;clear h k)
 refine wpList_nil (hK81 _ _ ?_)
 refine wp_seq_k fun K89 hK89=>wp_region_lit ?_
 iterate 4 (refine wpp fun k h=>?_;go_simp;apply h;clear h k)
 have hm91 := Aside0.mk (Nat.le_trans ((Nat.le_trans ((Nat.le_trans (hu7.out.size) hm67.out.size)) hu79.out.size)) hu88.out.size)
 by_cases c90 : (t76 == t85) = true
 rotate_left
 ·
  rw [if_neg c90] at H; replace c90 := Bool.eq_false_iff.mpr c90
  have c90n : (t76 != t85) = true := by rw [bne, c90]; rfl
  have c90p : ¬ t76 = t85 := fun e => by simp [e] at c90
  obtain rfl := Option.some.inj H
  try simp only [c90, c90n, Bool.not_true, Bool.not_false]
  refine step_no (wantT rfl rfl rfl rfl) ?_
  simp only[Act.put,mkT_set]
  refine step_no (wantT rfl rfl rfl rfl) ?_
  simp only[Act.put,mkT_set]
  refine step_no (wantT rfl rfl rfl rfl) ?_
  simp only[Act.put,mkT_set]
  refine step_no (wantT rfl rfl rfl rfl) ?_
  simp only[Act.put,mkT_set]
  refine wpp fun k h=>?_;go_simp;apply h;clear h k
  refine wpList_nil (hK89 _ _ ?_)
  refine wp_cond_true (evT rfl rfl) ?_
  refine wp_seq_k fun K634 hK634=>wp_region_lit ?_
  refine wpp fun k h=>?_;go_simp;apply h;clear h k
  refine wpList_nil (hK634 _ _ ?_)
  refine wp_ret ?_
  refine hQf _ _ _ ?_
  exact bodyPost_ret (v := .bool false) (by first|rfl|simp [results, Try.results6, go_sem]<;>rfl) rfl ⟨rfl, (((hu7.out.trans hm67.out).trans hu79.out).trans hu88.out)⟩
 rw [if_pos c90] at H
 have c90n : (t76 != t85) = false := by rw [bne, c90]; rfl
 obtain ⟨t92,A93,H⟩:=Option.bind_eq_some_iff.mp H
 replace A93:=Aside0.mk A93;try dsimp only at H
 try simp only [c90, c90n, Bool.not_true, Bool.not_false]
 refine BigFrame.wpList_want (wantT rfl rfl rfl rfl) fun k h=>?_;go_simp;apply h;clear h k
 refine BigFrame.wpList_want (wantT rfl rfl rfl rfl) fun k h=>?_;go_simp;apply h;clear h k
 refine step_call (wantT rfl rfl rfl rfl) (by go_simp <;> rfl) (laws_points9.calls K P74 q75 t73 P83 q84 t82 t92 w87 ((ht73.up hu88.out).rd) ht82.rd A93.out) ?_
 rintro e w94 ⟨rfl, hu⟩
 have hu95 := Aside0.mk hu
 clear hu
 refine ⟨_, rfl, ?_⟩
 simp only[Act.put,mkT_set]
 refine BigFrame.wpList_want (wantT rfl rfl rfl rfl) fun k h=>?_;go_simp;apply h;clear h k
 refine wpp fun k h=>?_;go_simp;apply h;clear h k
 refine wpList_nil (hK89 _ _ ?_)
 by_cases c96 : (t92) = true
 rotate_left
 ·
  rw [if_neg c96] at H; replace c96 := Bool.eq_false_iff.mpr c96
  subst c96
  obtain rfl := Option.some.inj H
  refine wp_cond_true (evT rfl rfl) ?_
  refine wp_seq_k fun K633 hK633=>wp_region_lit ?_
  refine wpp fun k h=>?_;go_simp;apply h;clear h k
  refine wpList_nil (hK633 _ _ ?_)
  refine wp_ret ?_
  refine hQf _ _ _ ?_
  exact bodyPost_ret (v := .bool false) (by first|rfl|simp [results, Try.results6, go_sem]<;>rfl) rfl ⟨rfl, ((((hu7.out.trans hm67.out).trans hu79.out).trans hu88.out).trans hu95.out)⟩
 rw [if_pos c96] at H
 subst c96
 obtain ⟨⟨t98, t99, t100, t101, t102, t103, t104, t105, t106, t107, t108⟩,A109,H⟩:=Option.bind_eq_some_iff.mp H
 replace A109:=Aside0.mk A109;try dsimp only at H
 obtain ⟨⟨t137, t138, t139⟩,A140,H⟩:=Option.bind_eq_some_iff.mp H
 replace A140:=Aside0.mk A140;try dsimp only at H
 obtain ⟨⟨t151, t152, t153⟩,A154,H⟩:=Option.bind_eq_some_iff.mp H
 replace A154:=Aside0.mk A154;try dsimp only at H
 refine wp_cond_false (evT rfl rfl) ?_
 refine wp_skip ?_
 refine hK80 _ _ ?_
 refine wp_seq_k fun K97 hK97=>wp_region_lit ?_
 refine wpp fun k h=>?_;go_simp;apply h;clear h k
 refine step_call wn (by go_simp <;> rfl) (spec_DrawRadicalCentre.calls K a0_A a0_c a0 t98 t99 t100 t101 t102 t103 t104 t105 t106 t107 t108 w94 (ha0.up ((((hu7.out.trans hm67.out).trans hu79.out).trans hu88.out).trans hu95.out)) A109.out) ?_
 rintro e w110 ⟨rfl, hu⟩
 have hu111 := Aside0.mk hu
 clear hu
 refine ⟨_, rfl, ?_⟩
 simp only[Act.put,mkT_set]
 iterate 6 (refine wpp fun k h=>?_;go_simp;apply h;clear h k)
 refine step_new (cs := [.int .i64 0, .int .i64 0, .int .i64 0]) (T := 71) (f := fun b => .pointer (some ⟨b, 0, none⟩)) rfl (by go_simp <;> rfl) ?_
 intro b112 w113 hu lb hb112
 simp only[Act.put,mkT_set]
 have lbb112 := Aside0.mk lb
 have ltb112 := Aside0.mk hb112.lt
 clear lb
 have hu114 := Aside0.mk hu
 clear hu
 refine step_new (cs := [.int .i64 0, .int .i64 0, .int .i64 0]) (T := 71) (f := fun b => .pointer (some ⟨b, 0, none⟩)) rfl (by go_simp <;> rfl) ?_
 intro b115 w116 hu lb hb115
 simp only[Act.put,mkT_set]
 have lbb115 := Aside0.mk lb
 have ltb115 := Aside0.mk hb115.lt
 clear lb
 have hu117 := Aside0.mk hu
 clear hu
 refine step_new (cs := [.int .i64 0, .int .i64 0, .int .i64 0]) (T := 71) (f := fun b => .pointer (some ⟨b, 0, none⟩)) rfl (by go_simp <;> rfl) ?_
 intro b118 w119 hu lb hb118
 simp only[Act.put,mkT_set]
 have lbb118 := Aside0.mk lb
 have ltb118 := Aside0.mk hb118.lt
 clear lb
 have hu120 := Aside0.mk hu
 clear hu
 iterate 2 (refine wpp fun k h=>?_;go_simp;apply h;clear h k)
 have hB0 := (hb112.up (hu117.out.trans hu120.out))
 have cl0 := hB0.cell (o := 0) rfl
 have fr0 := hB0.free 0
 have cl1 := hB0.cell (o := 1) rfl
 have fr1 := hB0.free 1
 have cl2 := hB0.cell (o := 2) rfl
 have fr2 := hB0.free 2
 refine step_store (b := b112) (cs' := [.int .i64 t100, .int .i64 t101, .int .i64 t102]) (T := 71) (W' := (((w119.setCell ⟨b112, 0, none⟩ (.int .i64 t100)).setCell ⟨b112, 1, none⟩ (.int .i64 t101)).setCell ⟨b112, 2, none⟩ (.int .i64 t102))) rfl rfl (by go_simp <;> rfl) ((((Sto.refl _ _).setCell 0 _).setCell 1 _).setCell 2 _) ((((hB0).setCell 0 _).setCell 1 _).setCell 2 _) ?_
 clear hB0 cl0 fr0 cl1 fr1 cl2 fr2
 intro w121 hs hb123
 have hs122 := Aside0.mk hs
 clear hs
 have h124 := (hb115.up hu120.out).sto hs122.out (Ne.symm (Nat.ne_of_lt (Nat.lt_of_lt_of_le ltb112.out lbb115.out)))
 have h125 := hb118.sto hs122.out (Ne.symm (Nat.ne_of_lt (Nat.lt_of_lt_of_le (Nat.lt_of_lt_of_le ltb112.out (hu117.out.size)) lbb118.out)))
 have hB0 := h124
 have cl0 := hB0.cell (o := 0) rfl
 have fr0 := hB0.free 0
 have cl1 := hB0.cell (o := 1) rfl
 have fr1 := hB0.free 1
 have cl2 := hB0.cell (o := 2) rfl
 have fr2 := hB0.free 2
 refine step_store (b := b115) (cs' := [.int .i64 t103, .int .i64 t104, .int .i64 t105]) (T := 71) (W' := (((w121.setCell ⟨b115, 0, none⟩ (.int .i64 t103)).setCell ⟨b115, 1, none⟩ (.int .i64 t104)).setCell ⟨b115, 2, none⟩ (.int .i64 t105))) rfl rfl (by go_simp <;> rfl) ((((Sto.refl _ _).setCell 0 _).setCell 1 _).setCell 2 _) ((((hB0).setCell 0 _).setCell 1 _).setCell 2 _) ?_
 clear hB0 cl0 fr0 cl1 fr1 cl2 fr2
 intro w126 hs hb128
 have hs127 := Aside0.mk hs
 clear hs
 have h129 := hb123.sto hs127.out (Nat.ne_of_lt (Nat.lt_of_lt_of_le ltb112.out lbb115.out))
 have h130 := h125.sto hs127.out (Ne.symm (Nat.ne_of_lt (Nat.lt_of_lt_of_le ltb115.out lbb118.out)))
 have hB0 := h130
 have cl0 := hB0.cell (o := 0) rfl
 have fr0 := hB0.free 0
 have cl1 := hB0.cell (o := 1) rfl
 have fr1 := hB0.free 1
 have cl2 := hB0.cell (o := 2) rfl
 have fr2 := hB0.free 2
 refine step_store (b := b118) (cs' := [.int .i64 t106, .int .i64 t107, .int .i64 t108]) (T := 71) (W' := (((w126.setCell ⟨b118, 0, none⟩ (.int .i64 t106)).setCell ⟨b118, 1, none⟩ (.int .i64 t107)).setCell ⟨b118, 2, none⟩ (.int .i64 t108))) rfl rfl (by go_simp <;> rfl) ((((Sto.refl _ _).setCell 0 _).setCell 1 _).setCell 2 _) ((((hB0).setCell 0 _).setCell 1 _).setCell 2 _) ?_
 clear hB0 cl0 fr0 cl1 fr1 cl2 fr2
 intro w131 hs hb133
 have hs132 := Aside0.mk hs
 clear hs
 have h134 := h129.sto hs132.out (Nat.ne_of_lt (Nat.lt_of_lt_of_le (Nat.lt_of_lt_of_le ltb112.out (hu117.out.size)) lbb118.out))
 have h135 := hb128.sto hs132.out (Nat.ne_of_lt (Nat.lt_of_lt_of_le ltb115.out lbb118.out))
 refine wpList_nil (hK97 _ _ ?_)
 refine wp_seq_k fun K136 hK136=>wp_region_lit ?_
 iterate 2 (refine wpp fun k h=>?_;go_simp;apply h;clear h k)
 have cl0 := h134.cell (o := 0) rfl
 have cl1 := h134.cell (o := 1) rfl
 have cl2 := h134.cell (o := 2) rfl
 refine wpp fun k h=>?_;go_simp;apply h;clear h k
 clear cl0 cl1 cl2
 have cl0 := h135.cell (o := 0) rfl
 have cl1 := h135.cell (o := 1) rfl
 have cl2 := h135.cell (o := 2) rfl
 refine wpp fun k h=>?_;go_simp;apply h;clear h k
 clear cl0 cl1 cl2
 have cl0 := hb133.cell (o := 0) rfl
 have cl1 := hb133.cell (o := 1) rfl
 have cl2 := hb133.cell (o := 2) rfl
 refine wpp fun k h=>?_;go_simp;apply h;clear h k
 clear cl0 cl1 cl2
 refine step_call wn (by go_simp <;> rfl) (impl_RadicalCentre.calls K t98 t99 t100 t101 t102 t103 t104 t105 t106 t107 t108 t137 t138 t139 w131  A140.out) ?_
 rintro e w141 ⟨rfl, hu⟩
 have hu142 := Aside0.mk hu
 clear hu
 refine ⟨_, rfl, ?_⟩
 simp only[Act.put,mkT_set]
 iterate 3 (refine wpp fun k h=>?_;go_simp;apply h;clear h k)
 refine step_new (cs := [.int .i64 0, .int .i64 0]) (T := 30) (f := fun b => .pointer (some ⟨b, 0, none⟩)) rfl (by go_simp <;> rfl) ?_
 intro b143 w144 hu lb hb143
 simp only[Act.put,mkT_set]
 have lbb143 := Aside0.mk lb
 have ltb143 := Aside0.mk hb143.lt
 clear lb
 have hu145 := Aside0.mk hu
 clear hu
 have hB0 := hb143
 have cl0 := hB0.cell (o := 0) rfl
 have fr0 := hB0.free 0
 have cl1 := hB0.cell (o := 1) rfl
 have fr1 := hB0.free 1
 refine step_store (b := b143) (cs' := [.int .i64 t137, .int .i64 t138]) (T := 30) (W' := ((w144.setCell ⟨b143, 0, none⟩ (.int .i64 t137)).setCell ⟨b143, 1, none⟩ (.int .i64 t138))) rfl rfl (by go_simp <;> rfl) (((Sto.refl _ _).setCell 0 _).setCell 1 _) (((hB0).setCell 0 _).setCell 1 _) ?_
 clear hB0 cl0 fr0 cl1 fr1
 intro w146 hs hb148
 have hs147 := Aside0.mk hs
 clear hs
 refine wpp fun k h=>?_;go_simp;apply h;clear h k
 refine wpList_nil (hK136 _ _ ?_)
 refine wp_seq_k fun K149 hK149=>?_
 refine wp_seq_k fun K150 hK150=>wp_region_lit ?_
 iterate 2 (refine wpp fun k h=>?_;go_simp;apply h;clear h k)
 have cl0 := (h134.up ((hu142.out.trans hu145.out).sto (Nat.le_trans (hu142.out.size) lbb143.out) hs147.out)).cell (o := 0) rfl
 have cl1 := (h134.up ((hu142.out.trans hu145.out).sto (Nat.le_trans (hu142.out.size) lbb143.out) hs147.out)).cell (o := 1) rfl
 have cl2 := (h134.up ((hu142.out.trans hu145.out).sto (Nat.le_trans (hu142.out.size) lbb143.out) hs147.out)).cell (o := 2) rfl
 refine wpp fun k h=>?_;go_simp;apply h;clear h k
 clear cl0 cl1 cl2
 have cl0 := (h135.up ((hu142.out.trans hu145.out).sto (Nat.le_trans (hu142.out.size) lbb143.out) hs147.out)).cell (o := 0) rfl
 have cl1 := (h135.up ((hu142.out.trans hu145.out).sto (Nat.le_trans (hu142.out.size) lbb143.out) hs147.out)).cell (o := 1) rfl
 have cl2 := (h135.up ((hu142.out.trans hu145.out).sto (Nat.le_trans (hu142.out.size) lbb143.out) hs147.out)).cell (o := 2) rfl
 refine wpp fun k h=>?_;go_simp;apply h;clear h k
 clear cl0 cl1 cl2
 have cl0 := (hb133.up ((hu142.out.trans hu145.out).sto (Nat.le_trans (hu142.out.size) lbb143.out) hs147.out)).cell (o := 0) rfl
 have cl1 := (hb133.up ((hu142.out.trans hu145.out).sto (Nat.le_trans (hu142.out.size) lbb143.out) hs147.out)).cell (o := 1) rfl
 have cl2 := (hb133.up ((hu142.out.trans hu145.out).sto (Nat.le_trans (hu142.out.size) lbb143.out) hs147.out)).cell (o := 2) rfl
 refine wpp fun k h=>?_;go_simp;apply h;clear h k
 clear cl0 cl1 cl2
 refine step_call wn (by go_simp <;> rfl) (spec_RadicalCentre.calls K t98 t99 t100 t101 t102 t103 t104 t105 t106 t107 t108 t151 t152 t153 w146  A154.out) ?_
 rintro e w155 ⟨rfl, hu⟩
 have hu156 := Aside0.mk hu
 clear hu
 refine ⟨_, rfl, ?_⟩
 simp only[Act.put,mkT_set]
 iterate 3 (refine wpp fun k h=>?_;go_simp;apply h;clear h k)
 refine step_new (cs := [.int .i64 0, .int .i64 0]) (T := 30) (f := fun b => .pointer (some ⟨b, 0, none⟩)) rfl (by go_simp <;> rfl) ?_
 intro b157 w158 hu lb hb157
 simp only[Act.put,mkT_set]
 have lbb157 := Aside0.mk lb
 have ltb157 := Aside0.mk hb157.lt
 clear lb
 have hu159 := Aside0.mk hu
 clear hu
 have hB0 := hb157
 have cl0 := hB0.cell (o := 0) rfl
 have fr0 := hB0.free 0
 have cl1 := hB0.cell (o := 1) rfl
 have fr1 := hB0.free 1
 refine step_store (b := b157) (cs' := [.int .i64 t151, .int .i64 t152]) (T := 30) (W' := ((w158.setCell ⟨b157, 0, none⟩ (.int .i64 t151)).setCell ⟨b157, 1, none⟩ (.int .i64 t152))) rfl rfl (by go_simp <;> rfl) (((Sto.refl _ _).setCell 0 _).setCell 1 _) (((hB0).setCell 0 _).setCell 1 _) ?_
 clear hB0 cl0 fr0 cl1 fr1
 intro w160 hs hb162
 have hs161 := Aside0.mk hs
 clear hs
 refine wpp fun k h=>?_;go_simp;apply h;clear h k
 refine wpList_nil (hK150 _ _ ?_)
 refine wp_seq_k fun K163 hK163=>wp_region_lit ?_
 iterate 4 (refine wpp fun k h=>?_;go_simp;apply h;clear h k)
 have hm165 := Aside0.mk ((((((((((((hu111.out.trans hu114.out).trans hu117.out).trans hu120.out).sto (Nat.le_trans (hu111.out.size) lbb112.out) hs122.out).sto (Nat.le_trans ((Nat.le_trans (hu111.out.size) hu114.out.size)) lbb115.out) hs127.out).sto (Nat.le_trans ((Nat.le_trans ((Nat.le_trans (hu111.out.size) hu114.out.size)) hu117.out.size)) lbb118.out) hs132.out).trans hu142.out).trans hu145.out).sto (Nat.le_trans ((Nat.le_trans ((Nat.le_trans ((Nat.le_trans ((Nat.le_trans ((Nat.le_trans ((Nat.le_trans ((Nat.le_trans (hu111.out.size) hu114.out.size)) hu117.out.size)) hu120.out.size)) (Nat.le_of_eq hs122.out.size.symm))) (Nat.le_of_eq hs127.out.size.symm))) (Nat.le_of_eq hs132.out.size.symm))) hu142.out.size)) lbb143.out) hs147.out).trans hu156.out).trans hu159.out).sto (Nat.le_trans ((Nat.le_trans ((Nat.le_trans ((Nat.le_trans ((Nat.le_trans ((Nat.le_trans ((Nat.le_trans ((Nat.le_trans ((Nat.le_trans ((Nat.le_trans ((Nat.le_trans (hu111.out.size) hu114.out.size)) hu117.out.size)) hu120.out.size)) (Nat.le_of_eq hs122.out.size.symm))) (Nat.le_of_eq hs127.out.size.symm))) (Nat.le_of_eq hs132.out.size.symm))) hu142.out.size)) hu145.out.size)) (Nat.le_of_eq hs147.out.size.symm))) hu156.out.size)) lbb157.out) hs161.out)
 have hm166 := Aside0.mk (((((hu7.out.trans hm67.out).trans hu79.out).trans hu88.out).trans hu95.out).trans hm165.out)
 have h167 := (h68.up (((hu79.out.trans hu88.out).trans hu95.out).trans hm165.out))
 have h168 := (h69.up (((hu79.out.trans hu88.out).trans hu95.out).trans hm165.out))
 have h169 := (h70.up (((hu79.out.trans hu88.out).trans hu95.out).trans hm165.out))
 have h170 := (h134.up (((((hu142.out.trans hu145.out).sto (Nat.le_trans (hu142.out.size) lbb143.out) hs147.out).trans hu156.out).trans hu159.out).sto (Nat.le_trans ((Nat.le_trans ((Nat.le_trans ((Nat.le_trans (hu142.out.size) hu145.out.size)) (Nat.le_of_eq hs147.out.size.symm))) hu156.out.size)) lbb157.out) hs161.out))
 have h171 := (h135.up (((((hu142.out.trans hu145.out).sto (Nat.le_trans (hu142.out.size) lbb143.out) hs147.out).trans hu156.out).trans hu159.out).sto (Nat.le_trans ((Nat.le_trans ((Nat.le_trans ((Nat.le_trans (hu142.out.size) hu145.out.size)) (Nat.le_of_eq hs147.out.size.symm))) hu156.out.size)) lbb157.out) hs161.out))
 have h172 := (hb133.up (((((hu142.out.trans hu145.out).sto (Nat.le_trans (hu142.out.size) lbb143.out) hs147.out).trans hu156.out).trans hu159.out).sto (Nat.le_trans ((Nat.le_trans ((Nat.le_trans ((Nat.le_trans (hu142.out.size) hu145.out.size)) (Nat.le_of_eq hs147.out.size.symm))) hu156.out.size)) lbb157.out) hs161.out))
 have h173 := (hb148.up ((hu156.out.trans hu159.out).sto (Nat.le_trans (hu156.out.size) lbb157.out) hs161.out))
 by_cases c164 : (t139 == t153) = true
 rotate_left
 ·
  rw [if_neg c164] at H; replace c164 := Bool.eq_false_iff.mpr c164
  have c164n : (t139 != t153) = true := by rw [bne, c164]; rfl
  have c164p : ¬ t139 = t153 := fun e => by simp [e] at c164
  obtain rfl := Option.some.inj H
  try simp only [c164, c164n, Bool.not_true, Bool.not_false]
  refine step_no (wantT rfl rfl rfl rfl) ?_
  simp only[Act.put,mkT_set]
  refine step_no (wantT rfl rfl rfl rfl) ?_
  simp only[Act.put,mkT_set]
  refine step_no (wantT rfl rfl rfl rfl) ?_
  simp only[Act.put,mkT_set]
  refine wpp fun k h=>?_;go_simp;apply h;clear h k
  refine wpList_nil (hK163 _ _ ?_)
  refine wp_cond_true (evT rfl rfl) ?_
  refine wp_seq_k fun K632 hK632=>wp_region_lit ?_
  refine wpp fun k h=>?_;go_simp;apply h;clear h k
  refine wpList_nil (hK632 _ _ ?_)
  refine wp_ret ?_
  refine hQf _ _ _ ?_
  exact bodyPost_ret (v := .bool false) (by first|rfl|simp [results, Try.results6, go_sem]<;>rfl) rfl ⟨rfl, hm166.out⟩
 rw [if_pos c164] at H
 have c164n : (t139 != t153) = false := by rw [bne, c164]; rfl
 try simp only [c164, c164n, Bool.not_true, Bool.not_false]
 have cl0 := h173.cell (o := 0) rfl
 have cl1 := h173.cell (o := 1) rfl
 refine BigFrame.wpList_want (wantT rfl rfl rfl rfl) fun k h=>?_;go_simp;apply h;clear h k
 clear cl0 cl1
 have cl0 := hb162.cell (o := 0) rfl
 have cl1 := hb162.cell (o := 1) rfl
 refine BigFrame.wpList_want (wantT rfl rfl rfl rfl) fun k h=>?_;go_simp;apply h;clear h k
 clear cl0 cl1
 refine BigFrame.wpList_want (wantT rfl rfl rfl rfl) fun k h=>?_;go_simp;apply h;clear h k
 refine wpp fun k h=>?_;go_simp;apply h;clear h k
 refine wpList_nil (hK163 _ _ ?_)
 by_cases c174 : (t137 == t151 && t138 == t152) = true
 rotate_left
 ·
  rw [if_neg c174] at H; replace c174 := Bool.eq_false_iff.mpr c174
  have c174n : (!t137 == t151 || !t138 == t152) = true := by simp only [← Bool.not_and, c174, Bool.not_true, Bool.not_false]
  obtain rfl := Option.some.inj H
  try simp only [c174, c174n, Bool.not_true, Bool.not_false]
  refine wp_cond_true (evT rfl rfl) ?_
  refine wp_seq_k fun K631 hK631=>wp_region_lit ?_
  refine wpp fun k h=>?_;go_simp;apply h;clear h k
  refine wpList_nil (hK631 _ _ ?_)
  refine wp_ret ?_
  refine hQf _ _ _ ?_
  exact bodyPost_ret (v := .bool false) (by first|rfl|simp [results, Try.results6, go_sem]<;>rfl) rfl ⟨rfl, hm166.out⟩
 rw [if_pos c174] at H
 have c174n : (!t137 == t151 || !t138 == t152) = false := by simp only [← Bool.not_and, c174, Bool.not_true, Bool.not_false]
 obtain ⟨⟨t176, t177, t178, t179, t180, t181, t182, t183, t184, t185⟩,A186,H⟩:=Option.bind_eq_some_iff.mp H
 replace A186:=Aside0.mk A186;try dsimp only at H
 obtain ⟨⟨t226, t227⟩,A228,H⟩:=Option.bind_eq_some_iff.mp H
 replace A228:=Aside0.mk A228;try dsimp only at H
 try simp only [c174, c174n, Bool.not_true, Bool.not_false]
 refine wp_cond_false (evT rfl rfl) ?_
 refine wp_skip ?_
 refine hK149 _ _ ?_
 refine wp_seq_k fun K175 hK175=>wp_region_lit ?_
 refine wpp fun k h=>?_;go_simp;apply h;clear h k
 refine step_call wn (by go_simp <;> rfl) (spec_DrawAreCyclic.calls K a0_A a0_c a0 t176 t177 t178 t179 t180 t181 t182 t183 t184 t185 w160 (ha0.up hm166.out) A186.out) ?_
 rintro e w187 ⟨rfl, hu⟩
 have hu188 := Aside0.mk hu
 clear hu
 refine ⟨_, rfl, ?_⟩
 simp only[Act.put,mkT_set]
 iterate 7 (refine wpp fun k h=>?_;go_simp;apply h;clear h k)
 refine step_new (cs := [.int .i64 0, .int .i64 0]) (T := 30) (f := fun b => .pointer (some ⟨b, 0, none⟩)) rfl (by go_simp <;> rfl) ?_
 intro b189 w190 hu lb hb189
 simp only[Act.put,mkT_set]
 have lbb189 := Aside0.mk lb
 have ltb189 := Aside0.mk hb189.lt
 clear lb
 have hu191 := Aside0.mk hu
 clear hu
 refine step_new (cs := [.int .i64 0, .int .i64 0]) (T := 30) (f := fun b => .pointer (some ⟨b, 0, none⟩)) rfl (by go_simp <;> rfl) ?_
 intro b192 w193 hu lb hb192
 simp only[Act.put,mkT_set]
 have lbb192 := Aside0.mk lb
 have ltb192 := Aside0.mk hb192.lt
 clear lb
 have hu194 := Aside0.mk hu
 clear hu
 refine step_new (cs := [.int .i64 0, .int .i64 0]) (T := 30) (f := fun b => .pointer (some ⟨b, 0, none⟩)) rfl (by go_simp <;> rfl) ?_
 intro b195 w196 hu lb hb195
 simp only[Act.put,mkT_set]
 have lbb195 := Aside0.mk lb
 have ltb195 := Aside0.mk hb195.lt
 clear lb
 have hu197 := Aside0.mk hu
 clear hu
 refine step_new (cs := [.int .i64 0, .int .i64 0]) (T := 30) (f := fun b => .pointer (some ⟨b, 0, none⟩)) rfl (by go_simp <;> rfl) ?_
 intro b198 w199 hu lb hb198
 simp only[Act.put,mkT_set]
 have lbb198 := Aside0.mk lb
 have ltb198 := Aside0.mk hb198.lt
 clear lb
 have hu200 := Aside0.mk hu
 clear hu
 iterate 2 (refine wpp fun k h=>?_;go_simp;apply h;clear h k)
 have hB0 := (hb189.up ((hu194.out.trans hu197.out).trans hu200.out))
 have cl0 := hB0.cell (o := 0) rfl
 have fr0 := hB0.free 0
 have cl1 := hB0.cell (o := 1) rfl
 have fr1 := hB0.free 1
 refine step_store (b := b189) (cs' := [.int .i64 t178, .int .i64 t179]) (T := 30) (W' := ((w199.setCell ⟨b189, 0, none⟩ (.int .i64 t178)).setCell ⟨b189, 1, none⟩ (.int .i64 t179))) rfl rfl (by go_simp <;> rfl) (((Sto.refl _ _).setCell 0 _).setCell 1 _) (((hB0).setCell 0 _).setCell 1 _) ?_
 clear hB0 cl0 fr0 cl1 fr1
 intro w201 hs hb203
 have hs202 := Aside0.mk hs
 clear hs
 have h204 := (hb192.up (hu197.out.trans hu200.out)).sto hs202.out (Ne.symm (Nat.ne_of_lt (Nat.lt_of_lt_of_le ltb189.out lbb192.out)))
 have h205 := (hb195.up hu200.out).sto hs202.out (Ne.symm (Nat.ne_of_lt (Nat.lt_of_lt_of_le (Nat.lt_of_lt_of_le ltb189.out (hu194.out.size)) lbb195.out)))
 have h206 := hb198.sto hs202.out (Ne.symm (Nat.ne_of_lt (Nat.lt_of_lt_of_le (Nat.lt_of_lt_of_le ltb189.out ((Nat.le_trans (hu194.out.size) hu197.out.size))) lbb198.out)))
 have hB0 := h204
 have cl0 := hB0.cell (o := 0) rfl
 have fr0 := hB0.free 0
 have cl1 := hB0.cell (o := 1) rfl
 have fr1 := hB0.free 1
 refine step_store (b := b192) (cs' := [.int .i64 t180, .int .i64 t181]) (T := 30) (W' := ((w201.setCell ⟨b192, 0, none⟩ (.int .i64 t180)).setCell ⟨b192, 1, none⟩ (.int .i64 t181))) rfl rfl (by go_simp <;> rfl) (((Sto.refl _ _).setCell 0 _).setCell 1 _) (((hB0).setCell 0 _).setCell 1 _) ?_
 clear hB0 cl0 fr0 cl1 fr1
 intro w207 hs hb209
 have hs208 := Aside0.mk hs
 clear hs
 have h210 := hb203.sto hs208.out (Nat.ne_of_lt (Nat.lt_of_lt_of_le ltb189.out lbb192.out))
 have h211 := h205.sto hs208.out (Ne.symm (Nat.ne_of_lt (Nat.lt_of_lt_of_le ltb192.out lbb195.out)))
 have h212 := h206.sto hs208.out (Ne.symm (Nat.ne_of_lt (Nat.lt_of_lt_of_le (Nat.lt_of_lt_of_le ltb192.out (hu197.out.size)) lbb198.out)))
 have hB0 := h211
 have cl0 := hB0.cell (o := 0) rfl
 have fr0 := hB0.free 0
 have cl1 := hB0.cell (o := 1) rfl
 have fr1 := hB0.free 1
 refine step_store (b := b195) (cs' := [.int .i64 t182, .int .i64 t183]) (T := 30) (W' := ((w207.setCell ⟨b195, 0, none⟩ (.int .i64 t182)).setCell ⟨b195, 1, none⟩ (.int .i64 t183))) rfl rfl (by go_simp <;> rfl) (((Sto.refl _ _).setCell 0 _).setCell 1 _) (((hB0).setCell 0 _).setCell 1 _) ?_
 clear hB0 cl0 fr0 cl1 fr1
 intro w213 hs hb215
 have hs214 := Aside0.mk hs
 clear hs
 have h216 := h210.sto hs214.out (Nat.ne_of_lt (Nat.lt_of_lt_of_le (Nat.lt_of_lt_of_le ltb189.out (hu194.out.size)) lbb195.out))
 have h217 := hb209.sto hs214.out (Nat.ne_of_lt (Nat.lt_of_lt_of_le ltb192.out lbb195.out))
 have h218 := h212.sto hs214.out (Ne.symm (Nat.ne_of_lt (Nat.lt_of_lt_of_le ltb195.out lbb198.out)))
 have hB0 := h218
 have cl0 := hB0.cell (o := 0) rfl
 have fr0 := hB0.free 0
 have cl1 := hB0.cell (o := 1) rfl
 have fr1 := hB0.free 1
 refine step_store (b := b198) (cs' := [.int .i64 t184, .int .i64 t185]) (T := 30) (W' := ((w213.setCell ⟨b198, 0, none⟩ (.int .i64 t184)).setCell ⟨b198, 1, none⟩ (.int .i64 t185))) rfl rfl (by go_simp <;> rfl) (((Sto.refl _ _).setCell 0 _).setCell 1 _) (((hB0).setCell 0 _).setCell 1 _) ?_
 clear hB0 cl0 fr0 cl1 fr1
 intro w219 hs hb221
 have hs220 := Aside0.mk hs
 clear hs
 have h222 := h216.sto hs220.out (Nat.ne_of_lt (Nat.lt_of_lt_of_le (Nat.lt_of_lt_of_le ltb189.out ((Nat.le_trans (hu194.out.size) hu197.out.size))) lbb198.out))
 have h223 := h217.sto hs220.out (Nat.ne_of_lt (Nat.lt_of_lt_of_le (Nat.lt_of_lt_of_le ltb192.out (hu197.out.size)) lbb198.out))
 have h224 := hb215.sto hs220.out (Nat.ne_of_lt (Nat.lt_of_lt_of_le ltb195.out lbb198.out))
 refine wpList_nil (hK175 _ _ ?_)
 refine wp_seq_k fun K225 hK225=>wp_region_lit ?_
 iterate 2 (refine wpp fun k h=>?_;go_simp;apply h;clear h k)
 have cl0 := h222.cell (o := 0) rfl
 have cl1 := h222.cell (o := 1) rfl
 refine wpp fun k h=>?_;go_simp;apply h;clear h k
 clear cl0 cl1
 have cl0 := h223.cell (o := 0) rfl
 have cl1 := h223.cell (o := 1) rfl
 refine wpp fun k h=>?_;go_simp;apply h;clear h k
 clear cl0 cl1
 have cl0 := h224.cell (o := 0) rfl
 have cl1 := h224.cell (o := 1) rfl
 refine wpp fun k h=>?_;go_simp;apply h;clear h k
 clear cl0 cl1
 have cl0 := hb221.cell (o := 0) rfl
 have cl1 := hb221.cell (o := 1) rfl
 refine wpp fun k h=>?_;go_simp;apply h;clear h k
 clear cl0 cl1
 refine step_call wn (by go_simp <;> rfl) (impl_AreCyclic.calls K t176 t177 t178 t179 t180 t181 t182 t183 t184 t185 t226 t227 w219  A228.out) ?_
 rintro e w229 ⟨rfl, hu⟩
 have hu230 := Aside0.mk hu
 clear hu
 refine ⟨_, rfl, ?_⟩
 simp only[Act.put,mkT_set]
 iterate 5 (refine wpp fun k h=>?_;go_simp;apply h;clear h k)
 refine wpList_nil (hK225 _ _ ?_)
 refine wp_seq_joinT [3, 4, 5, 6, 7, 8, 11, 12, 15, 16, 17, 18, 19, 20, 21, 24, 25, 26, 27, 28, 29, 30, 31] (fun w_ => (laws_FnRadicals.j0 K t11 t12 t13 t14 t15 t16 t17 t18 t37 t38 t39 t40 t73 t76 t98 t99 t100 t101 t102 t103 t104 t105 t106 t107 t108 t137 t138 t139 t176 t177 t178 t179 t180 t181 t182 t183 t184 t185 t226 t227) = some (r0) ∧ Up w229 w_) ?_ (fun K614 hK614 => ?_)
 ·
  intro v_ w231 hT_
  clear H
  obtain ⟨H, hu⟩ := hT_
  have hu232 := Aside0.mk hu
  clear hu
  rw [laws_FnRadicals.j0] at H
  simp only [keepT,lookT_cons,lookT_nil,Nat.reduceEqDiff,↓reduceIte]
  refine wp_seq_joinT [3, 4, 5, 6, 7, 8, 11, 12, 15, 16, 17, 18, 19, 20, 21] (fun w_ => (laws_FnRadicals.j1 K t11 t12 t13 t14 t15 t16 t17 t18 t37 t38 t39 t40 t73 t76 t98 t99 t100 t101 t102 t103 t104 t105 t106 t107 t108 t137 t138 t139) = some (r0) ∧ Up w231 w_) ?_ (fun K396 hK396 => ?_)
  ·
   intro v_ w233 hT_
   clear H
   obtain ⟨H, hu⟩ := hT_
   have hu234 := Aside0.mk hu
   clear hu
   rw [laws_FnRadicals.j1] at H
   simp only [keepT,lookT_cons,lookT_nil,Nat.reduceEqDiff,↓reduceIte]
   refine wp_seq_joinT [3, 4, 5, 6, 7, 8, 11, 12] (fun w_ => (laws_FnRadicals.j2 K t11 t12 t13 t14 t15 t16 t17 t18 t37 t38 t39 t40 t73 t76) = some (r0) ∧ Up w233 w_) ?_ (fun K361 hK361 => ?_)
   ·
    intro v_ w235 hT_
    clear H
    obtain ⟨H, hu⟩ := hT_
    have hu236 := Aside0.mk hu
    clear hu
    rw [laws_FnRadicals.j2] at H
    simp only [keepT,lookT_cons,lookT_nil,Nat.reduceEqDiff,↓reduceIte]
    refine wp_seq_k fun K237 hK237=>?_
    refine wp_seq_k fun K238 hK238=>wp_region_lit ?_
    iterate 2 (refine wpp fun k h=>?_;go_simp;apply h;clear h k)
    refine wpList_nil (hK238 _ _ ?_)
    have hm240 := Aside0.mk ((((((((((((hu188.out.trans hu191.out).trans hu194.out).trans hu197.out).trans hu200.out).sto (Nat.le_trans (hu188.out.size) lbb189.out) hs202.out).sto (Nat.le_trans ((Nat.le_trans (hu188.out.size) hu191.out.size)) lbb192.out) hs208.out).sto (Nat.le_trans ((Nat.le_trans ((Nat.le_trans (hu188.out.size) hu191.out.size)) hu194.out.size)) lbb195.out) hs214.out).sto (Nat.le_trans ((Nat.le_trans ((Nat.le_trans ((Nat.le_trans (hu188.out.size) hu191.out.size)) hu194.out.size)) hu197.out.size)) lbb198.out) hs220.out).trans hu230.out).trans hu232.out).trans hu234.out).trans hu236.out)
    have hm241 := Aside0.mk (Nat.le_trans ((Nat.le_trans ((Nat.le_trans (hm91.out) hu95.out.size)) hm165.out.size)) hm240.out.size)
    by_cases c239 : (t40 == 0) = true
    rotate_left
    ·
     rw [if_neg c239] at H; replace c239 := Bool.eq_false_iff.mpr c239
     have c239n : (t40 != 0) = true := by rw [bne, c239]; rfl
     have c239p : ¬ t40 = 0 := fun e => by simp [e] at c239
     obtain rfl := Option.some.inj H
     try simp only [c239, c239n, Bool.not_true, Bool.not_false]
     refine wp_cond_true (evT rfl rfl) ?_
     refine wp_seq_k fun K360 hK360=>wp_region_lit ?_
     have cl0 := (h169.up hm240.out).cell (o := 0) rfl
     have cl1 := (h169.up hm240.out).cell (o := 1) rfl
     have cl2 := (h169.up hm240.out).cell (o := 2) rfl
     refine wpp fun k h=>?_;go_simp;apply h;clear h k
     clear cl0 cl1 cl2
     iterate 3 (refine wpp fun k h=>?_;go_simp;apply h;clear h k)
     refine wpList_nil (hK360 _ _ ?_)
     refine wp_ret ?_
     refine hQf _ _ _ ?_
     exact bodyPost_ret (v := .bool (t37 == 0 && (t38 == 0 && t39 == 0))) (by first|rfl|simp [results, Try.results6, go_sem]<;>rfl) rfl ⟨rfl, (hm166.out.trans hm240.out)⟩
    rw [if_pos c239] at H
    have c239n : (t40 != 0) = false := by rw [bne, c239]; rfl
    obtain ⟨⟨t243, t246⟩,A247,H⟩:=Option.bind_eq_some_iff.mp H
    replace A247:=Aside0.mk A247;try dsimp only at H
    try simp only [c239, c239n, Bool.not_true, Bool.not_false]
    refine wp_cond_false (evT rfl rfl) ?_
    refine wp_skip ?_
    refine hK237 _ _ ?_
    refine wp_seq_k fun K242 hK242=>wp_region_lit ?_
    refine wpp fun k h=>?_;go_simp;apply h;clear h k
    have cl0 := (h169.up hm240.out).cell (o := 0) rfl
    have cl1 := (h169.up hm240.out).cell (o := 1) rfl
    have cl2 := (h169.up hm240.out).cell (o := 2) rfl
    refine wpp fun k h=>?_;go_simp;apply h;clear h k
    clear cl0 cl1 cl2
    refine step_call wn (by go_simp <;> rfl) (impl_PointsOn.calls K t11 t37 t38 t39 t243 t246 w235  A247.out) ?_
    rintro e w248 ⟨P244, q245, rfl, ht243, hu⟩
    have hu249 := Aside0.mk hu
    clear hu
    refine ⟨_, rfl, ?_⟩
    simp only[Act.put,mkT_set]
    iterate 5 (refine wpp fun k h=>?_;go_simp;apply h;clear h k)
    refine wpList_nil (hK242 _ _ ?_)
    refine wp_seq_k fun K250 hK250=>?_
    refine wp_seq_k fun K251 hK251=>wp_region_lit ?_
    iterate 3 (refine wpp fun k h=>?_;go_simp;apply h;clear h k)
    by_cases c252 : (t246 == 0) = true
    rotate_left
    ·
     rw [if_neg c252] at H; replace c252 := Bool.eq_false_iff.mpr c252
     have c252n : (t246 != 0) = true := by rw [bne, c252]; rfl
     have c252p : ¬ t246 = 0 := fun e => by simp [e] at c252
     obtain rfl := Option.some.inj H
     try simp only [c252, c252n, Bool.not_true, Bool.not_false]
     refine step_no (wantT rfl rfl rfl rfl) ?_
     simp only[Act.put,mkT_set]
     refine step_no (wantT rfl rfl rfl rfl) ?_
     simp only[Act.put,mkT_set]
     refine step_no (wantT rfl rfl rfl rfl) ?_
     simp only[Act.put,mkT_set]
     refine step_no (wantT rfl rfl rfl rfl) ?_
     simp only[Act.put,mkT_set]
     refine wpp fun k h=>?_;go_simp;apply h;clear h k
     refine wpList_nil (hK251 _ _ ?_)
     refine wp_cond_true (evT rfl rfl) ?_
     refine wp_seq_k fun K359 hK359=>wp_region_lit ?_
     refine wpp fun k h=>?_;go_simp;apply h;clear h k
     refine wpList_nil (hK359 _ _ ?_)
     refine wp_ret ?_
     refine hQf _ _ _ ?_
     exact bodyPost_ret (v := .bool false) (by first|rfl|simp [results, Try.results6, go_sem]<;>rfl) rfl ⟨rfl, ((hm166.out.trans hm240.out).trans hu249.out)⟩
    rw [if_pos c252] at H
    have c252n : (t246 != 0) = false := by rw [bne, c252]; rfl
    try simp only [c252, c252n, Bool.not_true, Bool.not_false]
    refine BigFrame.wpList_want (wantT rfl rfl rfl rfl) fun k h=>?_;go_simp;apply h;clear h k
    refine BigFrame.wpList_want (wantT rfl rfl rfl rfl) fun k h=>?_;go_simp;apply h;clear h k
    refine BigFrame.wpList_want (wantT rfl rfl rfl rfl) fun k h=>?_;go_simp;apply h;clear h k
    refine BigFrame.wpList_want (wantT rfl rfl rfl rfl) fun k h=>?_;go_simp;apply h;clear h k
    refine wpp fun k h=>?_;go_simp;apply h;clear h k
    refine wpList_nil (hK251 _ _ ?_)
    by_cases c253 : ((t243.length : Int) == t11) = true
    rotate_left
    ·
     rw [if_neg c253] at H; replace c253 := Bool.eq_false_iff.mpr c253
     have c253n : ((t243.length : Int) != t11) = true := by rw [bne, c253]; rfl
     have c253p : ¬ (t243.length : Int) = t11 := fun e => by simp [e] at c253
     obtain rfl := Option.some.inj H
     try simp only [c253, c253n, Bool.not_true, Bool.not_false]
     refine wp_cond_true (evT rfl rfl) ?_
     refine wp_seq_k fun K358 hK358=>wp_region_lit ?_
     refine wpp fun k h=>?_;go_simp;apply h;clear h k
     refine wpList_nil (hK358 _ _ ?_)
     refine wp_ret ?_
     refine hQf _ _ _ ?_
     exact bodyPost_ret (v := .bool false) (by first|rfl|simp [results, Try.results6, go_sem]<;>rfl) rfl ⟨rfl, ((hm166.out.trans hm240.out).trans hu249.out)⟩
    rw [if_pos c253] at H
    have c253n : ((t243.length : Int) != t11) = false := by rw [bne, c253]; rfl
    try simp only [c253, c253n, Bool.not_true, Bool.not_false]
    refine wp_cond_false (evT rfl rfl) ?_
    refine wp_skip ?_
    refine hK250 _ _ ?_
    refine wp_seq_k fun K254 hK254=>?_
    refine wp_seq_k fun K255 hK255=>wp_region_lit ?_
    refine wpp fun k h=>?_;go_simp;apply h;clear h k
    refine wpList_nil (hK255 _ _ ?_)
    refine wp_block ?_
    have HL260 := Aside0.mk H
    clear H
    refine wp_loopT [3, 4, 5, 6, 11, 12, 49] 51 K (fun kq v51 w' => ∃ (x256 : Int), v51 = .int .i64 x256 ∧ Aside0 (laws_FnRadicals.l0 K t11 t12 t13 t14 t15 t16 t17 t18 t73 t76 t243 kq x256 = some (r0)) ∧ Aside0 (kq ≤ K) ∧ Aside0 (Up w248 w') ∧ Aside0 (w248.heap.size ≤ w'.heap.size)) ?atStart (fun gk _ B_ wr hrel K264 hK264 => ?round)
    case atStart => exact ⟨0, (by first | rfl | simp), HL260, ⟨Nat.le_refl _⟩, ⟨(Up.refl _)⟩, ⟨Nat.le_refl _⟩⟩
    case round =>
     simp only [keepT,lookT_cons,lookT_nil,Nat.reduceEqDiff,↓reduceIte]
     obtain ⟨x256, rfl, HL265, hk262, hu258, hz259⟩ := hrel
     obtain ⟨w257, rfl⟩ : ∃ wo : World, wo = wr := ⟨_, rfl⟩
     obtain ⟨k261, rfl⟩ | rfl : (∃ k, gk = k + 1) ∨ gk = 0 := by rcases gk with _ | k; exact .inr rfl; exact .inl ⟨k, rfl⟩
     case inr => exact absurd HL265.out (by simp [laws_FnRadicals.l0])
     have H := HL265.out
     clear HL265
     rw [laws_FnRadicals.l0] at H
     refine wp_seq_k fun K266 hK266=>?_
     refine wp_seq_k fun K267 hK267=>wp_region_lit ?_
     iterate 4 (refine wpp fun k h=>?_;go_simp;apply h;clear h k)
     refine wpList_nil (hK267 _ _ ?_)
     by_cases c268 : (decide (x256 < (t243.length : Int))) = true
     rotate_left
     ·
      rw [if_neg c268] at H; replace c268 := Bool.eq_false_iff.mpr c268
      try simp only [c268, Bool.not_true, Bool.not_false]
      refine wp_cond_false (evT rfl rfl) ?_
      refine wp_exit ?_
      refine hK254 _ _ ?_
      refine wp_seq_k fun K325 hK325=>?_
      refine wp_seq_k fun K326 hK326=>wp_region_lit ?_
      refine wpp fun k h=>?_;go_simp;apply h;clear h k
      refine wpList_nil (hK326 _ _ ?_)
      refine wp_block ?_
      have HL331 := Aside0.mk H
      clear H
      refine wp_loopT [11, 12, 49] 56 k261 (fun kq v56 w' => ∃ (x327 : Int), v56 = .int .i64 x327 ∧ Aside0 (laws_FnRadicals.l1 K t73 t76 t243 kq x327 = some (r0)) ∧ Aside0 (kq ≤ k261) ∧ Aside0 (Up w257 w') ∧ Aside0 (w257.heap.size ≤ w'.heap.size)) ?atStart (fun gk _ B_ wr hrel K335 hK335 => ?round)
      case atStart => exact ⟨0, (by first | rfl | simp), HL331, ⟨Nat.le_refl _⟩, ⟨(Up.refl _)⟩, ⟨Nat.le_refl _⟩⟩
      case round =>
       simp only [keepT,lookT_cons,lookT_nil,Nat.reduceEqDiff,↓reduceIte]
       obtain ⟨x327, rfl, HL336, hk333, hu329, hz330⟩ := hrel
       obtain ⟨w328, rfl⟩ : ∃ wo : World, wo = wr := ⟨_, rfl⟩
       obtain ⟨k332, rfl⟩ | rfl : (∃ k, gk = k + 1) ∨ gk = 0 := by rcases gk with _ | k; exact .inr rfl; exact .inl ⟨k, rfl⟩
       case inr => exact absurd HL336.out (by simp [laws_FnRadicals.l1])
       have H := HL336.out
       clear HL336
       rw [laws_FnRadicals.l1] at H
       refine wp_seq_k fun K337 hK337=>?_
       refine wp_seq_k fun K338 hK338=>wp_region_lit ?_
       iterate 4 (refine wpp fun k h=>?_;go_simp;apply h;clear h k)
       refine wpList_nil (hK338 _ _ ?_)
       have hm340 := Aside0.mk (Nat.le_trans ((Nat.le_trans ((Nat.le_trans (hm241.out) hu249.out.size)) hz259.out)) hz330.out)
       by_cases c339 : (decide (x327 < (t73.length : Int))) = true
       rotate_left
       ·
        rw [if_neg c339] at H; replace c339 := Bool.eq_false_iff.mpr c339
        obtain rfl := Option.some.inj H
        try simp only [c339, Bool.not_true, Bool.not_false]
        refine wp_cond_false (evT rfl rfl) ?_
        refine wp_exit ?_
        refine hK325 _ _ ?_
        refine wp_seq_k fun K357 hK357=>wp_region_lit ?_
        iterate 3 (refine wpp fun k h=>?_;go_simp;apply h;clear h k)
        refine wpList_nil (hK357 _ _ ?_)
        refine wp_ret ?_
        refine hQf _ _ _ ?_
        exact bodyPost_ret (v := .bool (t76 == 0)) (by first|rfl|simp [results, Try.results6, go_sem]<;>rfl) rfl ⟨rfl, ((((hm166.out.trans hm240.out).trans hu249.out).trans hu258.out).trans hu329.out)⟩
       rw [if_pos c339] at H
       obtain ⟨⟨t343, t344⟩,A345,H⟩:=Option.bind_eq_some_iff.mp H
       replace A345:=Aside0.mk A345;try dsimp only at H
       obtain ⟨t349,A350,H⟩:=Option.bind_eq_some_iff.mp H
       replace A350:=Aside0.mk A350;try dsimp only at H
       try simp only [c339, Bool.not_true, Bool.not_false]
       refine wp_cond_true (evT rfl rfl) ?_
       refine wp_skip ?_
       refine hK337 _ _ ?_
       refine wp_seq_k fun K341 hK341=>?_
       refine wp_block ?_
       refine wp_seq_k fun K342 hK342=>wp_region_lit ?_
       iterate 3 (refine wpp fun k h=>?_;go_simp;apply h;clear h k)
       refine step_index e2 (T := 30) wn rfl (by kernel_rfl) (by kernel_rfl) (evT rfl rfl) rfl (evT rfl rfl) (ht73.up ((((((hu88.out.trans hu95.out).trans hm165.out).trans hm240.out).trans hu249.out).trans hu258.out).trans hu329.out)).rd A345.out ?_
       intro ad346 hat he
       have he347 := Aside0.mk he
       have hat348 := Aside0.mk hat
       clear he hat
       simp only[Act.put,mkT_set]
       have cl0 := he347.out 0 _ rfl
       rw [addr_add0] at cl0
       have cl1 : World.cell? _ ⟨ad346.block, ad346.off + 1, none⟩ = some _ := he347.out 1 _ rfl
       refine wpp fun k h=>?_;go_simp;apply h;clear h k
       clear cl0 cl1
       refine step_call wn (by go_simp <;> rfl) (laws_hasPoint9.calls K P244 q245 t243 t343 t344 t349 w328 ((ht243.up (hu258.out.trans hu329.out)).rd) A350.out) ?_
       rintro e w351 ⟨rfl, hu⟩
       have hu352 := Aside0.mk hu
       clear hu
       refine ⟨_, rfl, ?_⟩
       simp only[Act.put,mkT_set]
       refine wpp fun k h=>?_;go_simp;apply h;clear h k
       refine wpList_nil (hK342 _ _ ?_)
       have hm354 := Aside0.mk (((((hm166.out.trans hm240.out).trans hu249.out).trans hu258.out).trans hu329.out).trans hu352.out)
       by_cases c353 : (t349) = true
       rotate_left
       ·
        rw [if_neg c353] at H; replace c353 := Bool.eq_false_iff.mpr c353
        subst c353
        obtain rfl := Option.some.inj H
        refine wp_cond_true (evT rfl rfl) ?_
        refine wp_seq_k fun K356 hK356=>wp_region_lit ?_
        refine wpp fun k h=>?_;go_simp;apply h;clear h k
        refine wpList_nil (hK356 _ _ ?_)
        refine wp_ret ?_
        refine hQf _ _ _ ?_
        exact bodyPost_ret (v := .bool false) (by first|rfl|simp [results, Try.results6, go_sem]<;>rfl) rfl ⟨rfl, hm354.out⟩
       rw [if_pos c353] at H
       subst c353
       have HL355 := Aside0.mk H
       clear H
       refine wp_cond_false (evT rfl rfl) ?_
       refine wp_skip ?_
       refine hK341 _ _ ?_
       refine wp_region_lit ?_
       iterate 3 (refine wpp fun k h=>?_;go_simp;apply h;clear h k)
       refine wpList_nil ?_
       refine hK335 k332 _ _ _ ?measure ?rel (by kernel_rfl)
       case measure => exact Nat.lt_succ_self _
       case rel => exact ⟨wrap64 (x327 + 1), (by first | rfl | simp), HL355, ⟨by have := hk262.out; have := hk333.out; omega⟩, ⟨(hu329.out.trans hu352.out)⟩, ⟨(Nat.le_trans ((Nat.le_trans (Nat.le_refl _) hz330.out)) hu352.out.size)⟩⟩
     rw [if_pos c268] at H
     obtain ⟨⟨t271, t272⟩,A273,H⟩:=Option.bind_eq_some_iff.mp H
     replace A273:=Aside0.mk A273;try dsimp only at H
     obtain ⟨⟨t278, t279⟩,A280,H⟩:=Option.bind_eq_some_iff.mp H
     replace A280:=Aside0.mk A280;try dsimp only at H
     obtain ⟨⟨t284, t285⟩,A286,H⟩:=Option.bind_eq_some_iff.mp H
     replace A286:=Aside0.mk A286;try dsimp only at H
     obtain ⟨⟨t291, t292⟩,A293,H⟩:=Option.bind_eq_some_iff.mp H
     replace A293:=Aside0.mk A293;try dsimp only at H
     try simp only [c268, Bool.not_true, Bool.not_false]
     refine wp_cond_true (evT rfl rfl) ?_
     refine wp_skip ?_
     refine hK266 _ _ ?_
     refine wp_seq_k fun K269 hK269=>?_
     refine wp_block ?_
     refine wp_seq_k fun K270 hK270=>?_
     obtain ⟨ad274, hat, he⟩ := rd_at ((ht243.up hu258.out).rd) A273.out
     have he275 := Aside0.mk he
     have hat277 := Aside0.mk hat
     clear he hat
     refine' wp_region_up 13 [Slot.det _, Slot.det _, Slot.det _, Slot.det _, Slot.det _, Slot.det (.pointer (some ad274)), Slot.det _, Slot.det (.tuple #[.int .i64 t278, .int .i64 t279]), Slot.det _, Slot.det _, Slot.det _, Slot.det _, Slot.det _] (by kernel_rfl) (by kernel_rfl) ?main
     case main =>
      simp only [List.take_succ_cons, List.take_zero]
      refine wpK_ops rfl (fun w1 hu => ?_) ?_
      · clear hu
        go_simp
        first | done | rfl
      simp only[Act.put,mkT_set]
      refine wpK_ops rfl (fun w1 hu => ?_) ?_
      · clear hu
        go_simp
        first | done | rfl
      simp only[Act.put,mkT_set]
      refine wpK_ops rfl (fun w1 hu => ?_) ?_
      · have cl0 := ((h167.up ((hm240.out.trans hu249.out).trans hu258.out)).up ((Up.refl _).drew.trans hu)).cell (o := 0) rfl
        have cl1 := ((h167.up ((hm240.out.trans hu249.out).trans hu258.out)).up ((Up.refl _).drew.trans hu)).cell (o := 1) rfl
        have cl2 := ((h167.up ((hm240.out.trans hu249.out).trans hu258.out)).up ((Up.refl _).drew.trans hu)).cell (o := 2) rfl
        go_simp
        first | done | rfl
      simp only[Act.put,mkT_set]
      refine wpK_ops rfl (fun w1 hu => ?_) ?_
      · clear hu
        go_simp
        first | done | rfl
      simp only[Act.put,mkT_set]
      refine wpK_ops rfl (fun w1 hu => ?_) ?_
      · clear hu
        go_simp
        first | done | rfl
      simp only[Act.put,mkT_set]
      refine wpK_ops rfl (fun w1 hu => ?_) ?_
      · exact quiet_index e2 (T := 30) rfl (by kernel_rfl) (by kernel_rfl) (evT rfl rfl) rfl (evT rfl rfl) hat277.out A273.out
      simp only[Act.put,mkT_set]
      refine wpK_ops rfl (fun w1 hu => ?_) ?_
      · have cl0 := he275.out 0 _ rfl
        rw [addr_add0] at cl0
        replace cl0 := (((Up.refl _).drew.trans hu)).kept cl0
        have cl1 : World.cell? _ ⟨ad274.block, ad274.off + 1, none⟩ = some _ := he275.out 1 _ rfl
        replace cl1 := (((Up.refl _).drew.trans hu)).kept cl1
        go_simp
        first | done | rfl
      simp only[Act.put,mkT_set]
      refine wpK_ops rfl (fun w1 hu => ?_) ?_
      · have hcl := (impl_PowerOf.calls K t11 t12 t13 t14 t15 t271 t272 t278 t279 w1  A280.out)
        clear hu
        replace hcl := Aside0.mk hcl
        go_simp
        exact hcl.out
      simp only[Act.put,mkT_set]
      refine wpK_ops rfl (fun w1 hu => ?_) ?_
      · clear hu
        go_simp
        first | done | rfl
      simp only[Act.put,mkT_set]
      refine wpK_ops rfl (fun w1 hu => ?_) ?_
      · clear hu
        go_simp
        first | done | rfl
      simp only[Act.put,mkT_set]
      refine wpK_ops rfl (fun w1 hu => ?_) ?_
      · clear hu
        go_simp
        first | done | rfl
      simp only[Act.put,mkT_set]
      refine wpK_ops rfl (fun w1 hu => ?_) ?_
      · clear hu
        go_simp
        first | done | rfl
      simp only[Act.put,mkT_set]
      refine wpK_ops rfl (fun w1 hu => ?_) ?_
      · clear hu
        go_simp
        first | done | rfl
      simp only[Act.put,mkT_set]
      refine wpK_nil ?_
      intro w281 hu hap
      simp only [List.drop_succ_cons, List.drop_zero]
      replace hu := (Up.refl _).drew.trans hu
      clear hap
      have hu282 := Aside0.mk hu
      clear hu
      refine wpList_nil (hK270 _ _ ?_)
      refine wp_seq_k fun K283 hK283=>?_
      obtain ⟨ad287, hat, he⟩ := rd_at ((ht243.up (hu258.out.trans hu282.out)).rd) A286.out
      have he288 := Aside0.mk he
      have hat290 := Aside0.mk hat
      clear he hat
      refine' wp_region_up 13 [Slot.det _, Slot.det _, Slot.det _, Slot.det _, Slot.det _, Slot.det (.pointer (some ad287)), Slot.det _, Slot.det (.tuple #[.int .i64 t291, .int .i64 t292]), Slot.det _, Slot.det _, Slot.det _, Slot.det _, Slot.det _] (by kernel_rfl) (by kernel_rfl) ?main
      case main =>
       simp only [List.take_succ_cons, List.take_zero]
       refine wpK_ops rfl (fun w1 hu => ?_) ?_
       · clear hu
         go_simp
         first | done | rfl
       simp only[Act.put,mkT_set]
       refine wpK_ops rfl (fun w1 hu => ?_) ?_
       · clear hu
         go_simp
         first | done | rfl
       simp only[Act.put,mkT_set]
       refine wpK_ops rfl (fun w1 hu => ?_) ?_
       · have cl0 := ((h168.up (((hm240.out.trans hu249.out).trans hu258.out).trans hu282.out)).up ((Up.refl _).drew.trans hu)).cell (o := 0) rfl
         have cl1 := ((h168.up (((hm240.out.trans hu249.out).trans hu258.out).trans hu282.out)).up ((Up.refl _).drew.trans hu)).cell (o := 1) rfl
         have cl2 := ((h168.up (((hm240.out.trans hu249.out).trans hu258.out).trans hu282.out)).up ((Up.refl _).drew.trans hu)).cell (o := 2) rfl
         go_simp
         first | done | rfl
       simp only[Act.put,mkT_set]
       refine wpK_ops rfl (fun w1 hu => ?_) ?_
       · clear hu
         go_simp
         first | done | rfl
       simp only[Act.put,mkT_set]
       refine wpK_ops rfl (fun w1 hu => ?_) ?_
       · clear hu
         go_simp
         first | done | rfl
       simp only[Act.put,mkT_set]
       refine wpK_ops rfl (fun w1 hu => ?_) ?_
       · exact quiet_index e2 (T := 30) rfl (by kernel_rfl) (by kernel_rfl) (evT rfl rfl) rfl (evT rfl rfl) hat290.out A286.out
       simp only[Act.put,mkT_set]
       refine wpK_ops rfl (fun w1 hu => ?_) ?_
       · have cl0 := he288.out 0 _ rfl
         rw [addr_add0] at cl0
         replace cl0 := (((Up.refl _).drew.trans hu)).kept cl0
         have cl1 : World.cell? _ ⟨ad287.block, ad287.off + 1, none⟩ = some _ := he288.out 1 _ rfl
         replace cl1 := (((Up.refl _).drew.trans hu)).kept cl1
         go_simp
         first | done | rfl
       simp only[Act.put,mkT_set]
       refine wpK_ops rfl (fun w1 hu => ?_) ?_
       · have hcl := (impl_PowerOf.calls K t11 t12 t16 t17 t18 t284 t285 t291 t292 w1  A293.out)
         clear hu
         replace hcl := Aside0.mk hcl
         go_simp
         exact hcl.out
       simp only[Act.put,mkT_set]
       refine wpK_ops rfl (fun w1 hu => ?_) ?_
       · clear hu
         go_simp
         first | done | rfl
       simp only[Act.put,mkT_set]
       refine wpK_ops rfl (fun w1 hu => ?_) ?_
       · clear hu
         go_simp
         first | done | rfl
       simp only[Act.put,mkT_set]
       refine wpK_ops rfl (fun w1 hu => ?_) ?_
       · clear hu
         go_simp
         first | done | rfl
       simp only[Act.put,mkT_set]
       refine wpK_ops rfl (fun w1 hu => ?_) ?_
       · clear hu
         go_simp
         first | done | rfl
       simp only[Act.put,mkT_set]
       refine wpK_ops rfl (fun w1 hu => ?_) ?_
       · clear hu
         go_simp
         first | done | rfl
       simp only[Act.put,mkT_set]
       refine wpK_nil ?_
       intro w294 hu hap
       simp only [List.drop_succ_cons, List.drop_zero]
       replace hu := (Up.refl _).drew.trans hu
       clear hap
       have hu295 := Aside0.mk hu
       clear hu
       refine wpList_nil (hK283 _ _ ?_)
       refine wp_seq_k fun K296 hK296=>wp_region_lit ?_
       iterate 3 (refine wpp fun k h=>?_;go_simp;apply h;clear h k)
       have hm298 := Aside0.mk (((((hm166.out.trans hm240.out).trans hu249.out).trans hu258.out).trans hu282.out).trans hu295.out)
       have hm299 := Aside0.mk (Nat.le_trans ((Nat.le_trans ((Nat.le_trans ((Nat.le_trans (hm241.out) hu249.out.size)) hz259.out)) hu282.out.size)) hu295.out.size)
       have hm300 := Aside0.mk (Nat.le_trans ((Nat.le_trans ((Nat.le_trans (Nat.le_refl _) hz259.out)) hu282.out.size)) hu295.out.size)
       have h301 := (h167.up ((((hm240.out.trans hu249.out).trans hu258.out).trans hu282.out).trans hu295.out))
       have h302 := (h168.up ((((hm240.out.trans hu249.out).trans hu258.out).trans hu282.out).trans hu295.out))
       by_cases c297 : (t279 == 0) = true
       rotate_left
       ·
        rw [if_neg c297] at H; replace c297 := Bool.eq_false_iff.mpr c297
        have c297n : (t279 != 0) = true := by rw [bne, c297]; rfl
        have c297p : ¬ t279 = 0 := fun e => by simp [e] at c297
        obtain rfl := Option.some.inj H
        try simp only [c297, c297n, Bool.not_true, Bool.not_false]
        refine step_no (wantT rfl rfl rfl rfl) ?_
        simp only[Act.put,mkT_set]
        refine step_no (wantT rfl rfl rfl rfl) ?_
        simp only[Act.put,mkT_set]
        iterate 2 (refine wpp fun k h=>?_;go_simp;apply h;clear h k)
        refine step_no (wantT rfl rfl rfl rfl) ?_
        simp only[Act.put,mkT_set]
        refine step_no (wantT rfl rfl rfl rfl) ?_
        simp only[Act.put,mkT_set]
        refine step_no (wantT rfl rfl rfl rfl) ?_
        simp only[Act.put,mkT_set]
        iterate 2 (refine wpp fun k h=>?_;go_simp;apply h;clear h k)
        refine step_no (wantT rfl rfl rfl rfl) ?_
        simp only[Act.put,mkT_set]
        refine step_no (wantT rfl rfl rfl rfl) ?_
        simp only[Act.put,mkT_set]
        refine step_no (wantT rfl rfl rfl rfl) ?_
        simp only[Act.put,mkT_set]
        refine step_no (wantT rfl rfl rfl rfl) ?_
        simp only[Act.put,mkT_set]
        refine step_no (wantT rfl rfl rfl rfl) ?_
        simp only[Act.put,mkT_set]
        refine step_no (wantT rfl rfl rfl rfl) ?_
        simp only[Act.put,mkT_set]
        refine step_no (wantT rfl rfl rfl rfl) ?_
        simp only[Act.put,mkT_set]
        refine step_no (wantT rfl rfl rfl rfl) ?_
        simp only[Act.put,mkT_set]
        refine step_no (wantT rfl rfl rfl rfl) ?_
        simp only[Act.put,mkT_set]
        refine wpp fun k h=>?_;go_simp;apply h;clear h k
        refine wpList_nil (hK296 _ _ ?_)
        refine wp_cond_true (evT rfl rfl) ?_
        refine wp_seq_k fun K324 hK324=>wp_region_lit ?_
        refine wpp fun k h=>?_;go_simp;apply h;clear h k
        refine wpList_nil (hK324 _ _ ?_)
        refine wp_ret ?_
        refine hQf _ _ _ ?_
        exact bodyPost_ret (v := .bool false) (by first|rfl|simp [results, Try.results6, go_sem]<;>rfl) rfl ⟨rfl, hm298.out⟩
       rw [if_pos c297] at H
       have c297n : (t279 != 0) = false := by rw [bne, c297]; rfl
       try simp only [c297, c297n, Bool.not_true, Bool.not_false]
       refine BigFrame.wpList_want (wantT rfl rfl rfl rfl) fun k h=>?_;go_simp;apply h;clear h k
       refine BigFrame.wpList_want (wantT rfl rfl rfl rfl) fun k h=>?_;go_simp;apply h;clear h k
       iterate 2 (refine wpp fun k h=>?_;go_simp;apply h;clear h k)
       by_cases c303 : (t292 == 0) = true
       rotate_left
       ·
        rw [if_neg c303] at H; replace c303 := Bool.eq_false_iff.mpr c303
        have c303n : (t292 != 0) = true := by rw [bne, c303]; rfl
        have c303p : ¬ t292 = 0 := fun e => by simp [e] at c303
        obtain rfl := Option.some.inj H
        try simp only [c303, c303n, Bool.not_true, Bool.not_false]
        refine step_no (wantT rfl rfl rfl rfl) ?_
        simp only[Act.put,mkT_set]
        refine step_no (wantT rfl rfl rfl rfl) ?_
        simp only[Act.put,mkT_set]
        refine step_no (wantT rfl rfl rfl rfl) ?_
        simp only[Act.put,mkT_set]
        iterate 2 (refine wpp fun k h=>?_;go_simp;apply h;clear h k)
        refine step_no (wantT rfl rfl rfl rfl) ?_
        simp only[Act.put,mkT_set]
        refine step_no (wantT rfl rfl rfl rfl) ?_
        simp only[Act.put,mkT_set]
        refine step_no (wantT rfl rfl rfl rfl) ?_
        simp only[Act.put,mkT_set]
        refine step_no (wantT rfl rfl rfl rfl) ?_
        simp only[Act.put,mkT_set]
        refine step_no (wantT rfl rfl rfl rfl) ?_
        simp only[Act.put,mkT_set]
        refine step_no (wantT rfl rfl rfl rfl) ?_
        simp only[Act.put,mkT_set]
        refine step_no (wantT rfl rfl rfl rfl) ?_
        simp only[Act.put,mkT_set]
        refine step_no (wantT rfl rfl rfl rfl) ?_
        simp only[Act.put,mkT_set]
        refine step_no (wantT rfl rfl rfl rfl) ?_
        simp only[Act.put,mkT_set]
        refine wpp fun k h=>?_;go_simp;apply h;clear h k
        refine wpList_nil (hK296 _ _ ?_)
        refine wp_cond_true (evT rfl rfl) ?_
        refine wp_seq_k fun K323 hK323=>wp_region_lit ?_
        refine wpp fun k h=>?_;go_simp;apply h;clear h k
        refine wpList_nil (hK323 _ _ ?_)
        refine wp_ret ?_
        refine hQf _ _ _ ?_
        exact bodyPost_ret (v := .bool false) (by first|rfl|simp [results, Try.results6, go_sem]<;>rfl) rfl ⟨rfl, hm298.out⟩
       rw [if_pos c303] at H
       have c303n : (t292 != 0) = false := by rw [bne, c303]; rfl
       try simp only [c303, c303n, Bool.not_true, Bool.not_false]
       refine BigFrame.wpList_want (wantT rfl rfl rfl rfl) fun k h=>?_;go_simp;apply h;clear h k
       refine BigFrame.wpList_want (wantT rfl rfl rfl rfl) fun k h=>?_;go_simp;apply h;clear h k
       refine BigFrame.wpList_want (wantT rfl rfl rfl rfl) fun k h=>?_;go_simp;apply h;clear h k
       iterate 2 (refine wpp fun k h=>?_;go_simp;apply h;clear h k)
       by_cases c304 : (t278 == t291) = true
       rotate_left
       ·
        rw [if_neg c304] at H; replace c304 := Bool.eq_false_iff.mpr c304
        have c304n : (t278 != t291) = true := by rw [bne, c304]; rfl
        have c304p : ¬ t278 = t291 := fun e => by simp [e] at c304
        obtain rfl := Option.some.inj H
        try simp only [c304, c304n, Bool.not_true, Bool.not_false]
        refine step_no (wantT rfl rfl rfl rfl) ?_
        simp only[Act.put,mkT_set]
        refine step_no (wantT rfl rfl rfl rfl) ?_
        simp only[Act.put,mkT_set]
        refine step_no (wantT rfl rfl rfl rfl) ?_
        simp only[Act.put,mkT_set]
        refine step_no (wantT rfl rfl rfl rfl) ?_
        simp only[Act.put,mkT_set]
        refine step_no (wantT rfl rfl rfl rfl) ?_
        simp only[Act.put,mkT_set]
        refine step_no (wantT rfl rfl rfl rfl) ?_
        simp only[Act.put,mkT_set]
        refine step_no (wantT rfl rfl rfl rfl) ?_
        simp only[Act.put,mkT_set]
        refine step_no (wantT rfl rfl rfl rfl) ?_
        simp only[Act.put,mkT_set]
        refine step_no (wantT rfl rfl rfl rfl) ?_
        simp only[Act.put,mkT_set]
        refine wpp fun k h=>?_;go_simp;apply h;clear h k
        refine wpList_nil (hK296 _ _ ?_)
        refine wp_cond_true (evT rfl rfl) ?_
        refine wp_seq_k fun K322 hK322=>wp_region_lit ?_
        refine wpp fun k h=>?_;go_simp;apply h;clear h k
        refine wpList_nil (hK322 _ _ ?_)
        refine wp_ret ?_
        refine hQf _ _ _ ?_
        exact bodyPost_ret (v := .bool false) (by first|rfl|simp [results, Try.results6, go_sem]<;>rfl) rfl ⟨rfl, hm298.out⟩
       rw [if_pos c304] at H
       have c304n : (t278 != t291) = false := by rw [bne, c304]; rfl
       obtain ⟨⟨t305, t306⟩,A307,H⟩:=Option.bind_eq_some_iff.mp H
       replace A307:=Aside0.mk A307;try dsimp only at H
       obtain ⟨t311,A312,H⟩:=Option.bind_eq_some_iff.mp H
       replace A312:=Aside0.mk A312;try dsimp only at H
       try simp only [c304, c304n, Bool.not_true, Bool.not_false]
       refine BigFrame.wpList_want (wantT rfl rfl rfl rfl) fun k h=>?_;go_simp;apply h;clear h k
       refine BigFrame.wpList_want (wantT rfl rfl rfl rfl) fun k h=>?_;go_simp;apply h;clear h k
       refine BigFrame.wpList_want (wantT rfl rfl rfl rfl) fun k h=>?_;go_simp;apply h;clear h k
       refine BigFrame.wpList_want (wantT rfl rfl rfl rfl) fun k h=>?_;go_simp;apply h;clear h k
       refine BigFrame.wpList_want (wantT rfl rfl rfl rfl) fun k h=>?_;go_simp;apply h;clear h k
       refine step_index e2 (T := 30) (wantT rfl rfl rfl rfl) rfl (by kernel_rfl) (by kernel_rfl) (evT rfl rfl) rfl (evT rfl rfl) (ht243.up ((hu258.out.trans hu282.out).trans hu295.out)).rd A307.out ?_
       intro ad308 hat he
       have he309 := Aside0.mk he
       have hat310 := Aside0.mk hat
       clear he hat
       simp only[Act.put,mkT_set]
       have cl0 := he309.out 0 _ rfl
       rw [addr_add0] at cl0
       have cl1 : World.cell? _ ⟨ad308.block, ad308.off + 1, none⟩ = some _ := he309.out 1 _ rfl
       refine BigFrame.wpList_want (wantT rfl rfl rfl rfl) fun k h=>?_;go_simp;apply h;clear h k
       clear cl0 cl1
       refine step_call (wantT rfl rfl rfl rfl) (by go_simp <;> rfl) (laws_hasPoint9.calls K P74 q75 t73 t305 t306 t311 w294 ((ht73.up (((((((hu88.out.trans hu95.out).trans hm165.out).trans hm240.out).trans hu249.out).trans hu258.out).trans hu282.out).trans hu295.out)).rd) A312.out) ?_
       rintro e w313 ⟨rfl, hu⟩
       have hu314 := Aside0.mk hu
       clear hu
       refine ⟨_, rfl, ?_⟩
       simp only[Act.put,mkT_set]
       by_cases c315 : (t278 == 0) = true
       rotate_left
       ·
        rw [if_neg c315] at H; replace c315 := Bool.eq_false_iff.mpr c315
        have c315n : (t278 != 0) = true := by rw [bne, c315]; rfl
        have c315p : ¬ t278 = 0 := fun e => by simp [e] at c315
        try simp only [c315, c315n, Bool.not_true, Bool.not_false]
        by_cases c319 : (t311) = true
        ·
         rw [if_pos c319] at H
         subst c319
         obtain rfl := Option.some.inj H
         refine BigFrame.wpList_want (wantT rfl rfl rfl rfl) fun k h=>?_;go_simp;apply h;clear h k
         refine wpp fun k h=>?_;go_simp;apply h;clear h k
         refine wpList_nil (hK296 _ _ ?_)
         refine wp_cond_true (evT rfl rfl) ?_
         refine wp_seq_k fun K320 hK320=>wp_region_lit ?_
         refine wpp fun k h=>?_;go_simp;apply h;clear h k
         refine wpList_nil (hK320 _ _ ?_)
         refine wp_ret ?_
         refine hQf _ _ _ ?_
         exact bodyPost_ret (v := .bool false) (by first|rfl|simp [results, Try.results6, go_sem]<;>rfl) rfl ⟨rfl, (hm298.out.trans hu314.out)⟩
        rw [if_neg c319] at H; replace c319 := Bool.eq_false_iff.mpr c319
        subst c319
        have HL321 := Aside0.mk H
        clear H
        refine BigFrame.wpList_want (wantT rfl rfl rfl rfl) fun k h=>?_;go_simp;apply h;clear h k
        refine wpp fun k h=>?_;go_simp;apply h;clear h k
        refine wpList_nil (hK296 _ _ ?_)
        refine wp_cond_false (evT rfl rfl) ?_
        refine wp_skip ?_
        refine hK269 _ _ ?_
        refine wp_region_lit ?_
        iterate 3 (refine wpp fun k h=>?_;go_simp;apply h;clear h k)
        refine wpList_nil ?_
        refine hK264 k261 _ _ _ ?measure ?rel (by kernel_rfl)
        case measure => exact Nat.lt_succ_self _
        case rel => exact ⟨wrap64 (x256 + 1), (by first | rfl | simp), HL321, ⟨by have := hk262.out; omega⟩, ⟨(((hu258.out.trans hu282.out).trans hu295.out).trans hu314.out)⟩, ⟨(Nat.le_trans (hm300.out) hu314.out.size)⟩⟩
       rw [if_pos c315] at H
       have c315n : (t278 != 0) = false := by rw [bne, c315]; rfl
       try simp only [c315, c315n, Bool.not_true, Bool.not_false]
       by_cases c316 : (t311) = true
       rotate_left
       ·
        rw [if_neg c316] at H; replace c316 := Bool.eq_false_iff.mpr c316
        subst c316
        obtain rfl := Option.some.inj H
        refine BigFrame.wpList_want (wantT rfl rfl rfl rfl) fun k h=>?_;go_simp;apply h;clear h k
        refine wpp fun k h=>?_;go_simp;apply h;clear h k
        refine wpList_nil (hK296 _ _ ?_)
        refine wp_cond_true (evT rfl rfl) ?_
        refine wp_seq_k fun K318 hK318=>wp_region_lit ?_
        refine wpp fun k h=>?_;go_simp;apply h;clear h k
        refine wpList_nil (hK318 _ _ ?_)
        refine wp_ret ?_
        refine hQf _ _ _ ?_
        exact bodyPost_ret (v := .bool false) (by first|rfl|simp [results, Try.results6, go_sem]<;>rfl) rfl ⟨rfl, (hm298.out.trans hu314.out)⟩
       rw [if_pos c316] at H
       subst c316
       have HL317 := Aside0.mk H
       clear H
       refine BigFrame.wpList_want (wantT rfl rfl rfl rfl) fun k h=>?_;go_simp;apply h;clear h k
       refine wpp fun k h=>?_;go_simp;apply h;clear h k
       refine wpList_nil (hK296 _ _ ?_)
       refine wp_cond_false (evT rfl rfl) ?_
       refine wp_skip ?_
       refine hK269 _ _ ?_
       refine wp_region_lit ?_
       iterate 3 (refine wpp fun k h=>?_;go_simp;apply h;clear h k)
       refine wpList_nil ?_
       refine hK264 k261 _ _ _ ?measure ?rel (by kernel_rfl)
       case measure => exact Nat.lt_succ_self _
       case rel => exact ⟨wrap64 (x256 + 1), (by first | rfl | simp), HL317, ⟨by have := hk262.out; omega⟩, ⟨(((hu258.out.trans hu282.out).trans hu295.out).trans hu314.out)⟩, ⟨(Nat.le_trans (hm300.out) hu314.out.size)⟩⟩
   refine wp_seq_k fun K362 hK362=>wp_region_lit ?_
   iterate 2 (refine wpp fun k h=>?_;go_simp;apply h;clear h k)
   refine wpList_nil (hK362 _ _ ?_)
   have hm364 := Aside0.mk (((((((((((hu188.out.trans hu191.out).trans hu194.out).trans hu197.out).trans hu200.out).sto (Nat.le_trans (hu188.out.size) lbb189.out) hs202.out).sto (Nat.le_trans ((Nat.le_trans (hu188.out.size) hu191.out.size)) lbb192.out) hs208.out).sto (Nat.le_trans ((Nat.le_trans ((Nat.le_trans (hu188.out.size) hu191.out.size)) hu194.out.size)) lbb195.out) hs214.out).sto (Nat.le_trans ((Nat.le_trans ((Nat.le_trans ((Nat.le_trans (hu188.out.size) hu191.out.size)) hu194.out.size)) hu197.out.size)) lbb198.out) hs220.out).trans hu230.out).trans hu232.out).trans hu234.out)
   have hm365 := Aside0.mk (Nat.le_trans ((Nat.le_trans ((Nat.le_trans (hm91.out) hu95.out.size)) hm165.out.size)) hm364.out.size)
   by_cases c363 : (t139 == 0) = true
   rotate_left
   ·
    rw [if_neg c363] at H; replace c363 := Bool.eq_false_iff.mpr c363
    have c363n : (t139 != 0) = true := by rw [bne, c363]; rfl
    have c363p : ¬ t139 = 0 := fun e => by simp [e] at c363
    try simp only [c363, c363n, Bool.not_true, Bool.not_false]
    refine wp_cond_false (evT rfl rfl) ?_
    refine wp_skip ?_
    exact hK361 _ _ _ (by kernel_rfl) ⟨H, (Up.refl _)⟩
   rw [if_pos c363] at H
   have c363n : (t139 != 0) = false := by rw [bne, c363]; rfl
   obtain ⟨⟨t367, t368⟩,A369,H⟩:=Option.bind_eq_some_iff.mp H
   replace A369:=Aside0.mk A369;try dsimp only at H
   obtain ⟨⟨t373, t374⟩,A375,H⟩:=Option.bind_eq_some_iff.mp H
   replace A375:=Aside0.mk A375;try dsimp only at H
   obtain ⟨⟨t379, t380⟩,A381,H⟩:=Option.bind_eq_some_iff.mp H
   replace A381:=Aside0.mk A381;try dsimp only at H
   try simp only [c363, c363n, Bool.not_true, Bool.not_false]
   refine wp_cond_true (evT rfl rfl) ?_
   refine wp_seq_k fun K366 hK366=>wp_region_lit ?_
   iterate 2 (refine wpp fun k h=>?_;go_simp;apply h;clear h k)
   have cl0 := (h170.up hm364.out).cell (o := 0) rfl
   have cl1 := (h170.up hm364.out).cell (o := 1) rfl
   have cl2 := (h170.up hm364.out).cell (o := 2) rfl
   refine wpp fun k h=>?_;go_simp;apply h;clear h k
   clear cl0 cl1 cl2
   have cl0 := (h173.up hm364.out).cell (o := 0) rfl
   have cl1 := (h173.up hm364.out).cell (o := 1) rfl
   refine wpp fun k h=>?_;go_simp;apply h;clear h k
   clear cl0 cl1
   refine step_call wn (by go_simp <;> rfl) (impl_PowerOf.calls K t98 t99 t100 t101 t102 t137 t138 t367 t368 w233  A369.out) ?_
   rintro e w370 ⟨rfl, hu⟩
   have hu371 := Aside0.mk hu
   clear hu
   refine ⟨_, rfl, ?_⟩
   simp only[Act.put,mkT_set]
   iterate 5 (refine wpp fun k h=>?_;go_simp;apply h;clear h k)
   refine wpList_nil (hK366 _ _ ?_)
   refine wp_seq_k fun K372 hK372=>wp_region_lit ?_
   iterate 2 (refine wpp fun k h=>?_;go_simp;apply h;clear h k)
   have cl0 := (h171.up (hm364.out.trans hu371.out)).cell (o := 0) rfl
   have cl1 := (h171.up (hm364.out.trans hu371.out)).cell (o := 1) rfl
   have cl2 := (h171.up (hm364.out.trans hu371.out)).cell (o := 2) rfl
   refine wpp fun k h=>?_;go_simp;apply h;clear h k
   clear cl0 cl1 cl2
   have cl0 := (h173.up (hm364.out.trans hu371.out)).cell (o := 0) rfl
   have cl1 := (h173.up (hm364.out.trans hu371.out)).cell (o := 1) rfl
   refine wpp fun k h=>?_;go_simp;apply h;clear h k
   clear cl0 cl1
   refine step_call wn (by go_simp <;> rfl) (impl_PowerOf.calls K t98 t99 t103 t104 t105 t137 t138 t373 t374 w370  A375.out) ?_
   rintro e w376 ⟨rfl, hu⟩
   have hu377 := Aside0.mk hu
   clear hu
   refine ⟨_, rfl, ?_⟩
   simp only[Act.put,mkT_set]
   iterate 5 (refine wpp fun k h=>?_;go_simp;apply h;clear h k)
   refine wpList_nil (hK372 _ _ ?_)
   refine wp_seq_k fun K378 hK378=>wp_region_lit ?_
   iterate 2 (refine wpp fun k h=>?_;go_simp;apply h;clear h k)
   have cl0 := (h172.up ((hm364.out.trans hu371.out).trans hu377.out)).cell (o := 0) rfl
   have cl1 := (h172.up ((hm364.out.trans hu371.out).trans hu377.out)).cell (o := 1) rfl
   have cl2 := (h172.up ((hm364.out.trans hu371.out).trans hu377.out)).cell (o := 2) rfl
   refine wpp fun k h=>?_;go_simp;apply h;clear h k
   clear cl0 cl1 cl2
   have cl0 := (h173.up ((hm364.out.trans hu371.out).trans hu377.out)).cell (o := 0) rfl
   have cl1 := (h173.up ((hm364.out.trans hu371.out).trans hu377.out)).cell (o := 1) rfl
   refine wpp fun k h=>?_;go_simp;apply h;clear h k
   clear cl0 cl1
   refine step_call wn (by go_simp <;> rfl) (impl_PowerOf.calls K t98 t99 t106 t107 t108 t137 t138 t379 t380 w376  A381.out) ?_
   rintro e w382 ⟨rfl, hu⟩
   have hu383 := Aside0.mk hu
   clear hu
   refine ⟨_, rfl, ?_⟩
   simp only[Act.put,mkT_set]
   iterate 5 (refine wpp fun k h=>?_;go_simp;apply h;clear h k)
   refine wpList_nil (hK378 _ _ ?_)
   refine wp_seq_k fun K384 hK384=>wp_region_lit ?_
   iterate 3 (refine wpp fun k h=>?_;go_simp;apply h;clear h k)
   have hm386 := Aside0.mk ((hu371.out.trans hu377.out).trans hu383.out)
   by_cases c385 : (t368 == 0) = true
   rotate_left
   ·
    rw [if_neg c385] at H; replace c385 := Bool.eq_false_iff.mpr c385
    have c385n : (t368 != 0) = true := by rw [bne, c385]; rfl
    have c385p : ¬ t368 = 0 := fun e => by simp [e] at c385
    obtain rfl := Option.some.inj H
    try simp only [c385, c385n, Bool.not_true, Bool.not_false]
    refine step_no (wantT rfl rfl rfl rfl) ?_
    simp only[Act.put,mkT_set]
    refine step_no (wantT rfl rfl rfl rfl) ?_
    simp only[Act.put,mkT_set]
    iterate 2 (refine wpp fun k h=>?_;go_simp;apply h;clear h k)
    refine step_no (wantT rfl rfl rfl rfl) ?_
    simp only[Act.put,mkT_set]
    refine step_no (wantT rfl rfl rfl rfl) ?_
    simp only[Act.put,mkT_set]
    iterate 2 (refine wpp fun k h=>?_;go_simp;apply h;clear h k)
    refine step_no (wantT rfl rfl rfl rfl) ?_
    simp only[Act.put,mkT_set]
    refine step_no (wantT rfl rfl rfl rfl) ?_
    simp only[Act.put,mkT_set]
    refine step_no (wantT rfl rfl rfl rfl) ?_
    simp only[Act.put,mkT_set]
    iterate 2 (refine wpp fun k h=>?_;go_simp;apply h;clear h k)
    refine step_no (wantT rfl rfl rfl rfl) ?_
    simp only[Act.put,mkT_set]
    refine step_no (wantT rfl rfl rfl rfl) ?_
    simp only[Act.put,mkT_set]
    refine step_no (wantT rfl rfl rfl rfl) ?_
    simp only[Act.put,mkT_set]
    refine wpp fun k h=>?_;go_simp;apply h;clear h k
    refine wpList_nil (hK384 _ _ ?_)
    refine wp_cond_true (evT rfl rfl) ?_
    refine wp_seq_k fun K395 hK395=>wp_region_lit ?_
    refine wpp fun k h=>?_;go_simp;apply h;clear h k
    refine wpList_nil (hK395 _ _ ?_)
    refine wp_ret ?_
    refine hQf _ _ _ ?_
    exact bodyPost_ret (v := .bool false) (by first|rfl|simp [results, Try.results6, go_sem]<;>rfl) rfl ⟨rfl, ((hm166.out.trans hm364.out).trans hm386.out)⟩
   rw [if_pos c385] at H
   have c385n : (t368 != 0) = false := by rw [bne, c385]; rfl
   try simp only [c385, c385n, Bool.not_true, Bool.not_false]
   refine BigFrame.wpList_want (wantT rfl rfl rfl rfl) fun k h=>?_;go_simp;apply h;clear h k
   refine BigFrame.wpList_want (wantT rfl rfl rfl rfl) fun k h=>?_;go_simp;apply h;clear h k
   iterate 2 (refine wpp fun k h=>?_;go_simp;apply h;clear h k)
   by_cases c387 : (t374 == 0) = true
   rotate_left
   ·
    rw [if_neg c387] at H; replace c387 := Bool.eq_false_iff.mpr c387
    have c387n : (t374 != 0) = true := by rw [bne, c387]; rfl
    have c387p : ¬ t374 = 0 := fun e => by simp [e] at c387
    obtain rfl := Option.some.inj H
    try simp only [c387, c387n, Bool.not_true, Bool.not_false]
    refine step_no (wantT rfl rfl rfl rfl) ?_
    simp only[Act.put,mkT_set]
    refine step_no (wantT rfl rfl rfl rfl) ?_
    simp only[Act.put,mkT_set]
    iterate 2 (refine wpp fun k h=>?_;go_simp;apply h;clear h k)
    refine step_no (wantT rfl rfl rfl rfl) ?_
    simp only[Act.put,mkT_set]
    refine step_no (wantT rfl rfl rfl rfl) ?_
    simp only[Act.put,mkT_set]
    refine step_no (wantT rfl rfl rfl rfl) ?_
    simp only[Act.put,mkT_set]
    iterate 2 (refine wpp fun k h=>?_;go_simp;apply h;clear h k)
    refine step_no (wantT rfl rfl rfl rfl) ?_
    simp only[Act.put,mkT_set]
    refine step_no (wantT rfl rfl rfl rfl) ?_
    simp only[Act.put,mkT_set]
    refine step_no (wantT rfl rfl rfl rfl) ?_
    simp only[Act.put,mkT_set]
    refine wpp fun k h=>?_;go_simp;apply h;clear h k
    refine wpList_nil (hK384 _ _ ?_)
    refine wp_cond_true (evT rfl rfl) ?_
    refine wp_seq_k fun K394 hK394=>wp_region_lit ?_
    refine wpp fun k h=>?_;go_simp;apply h;clear h k
    refine wpList_nil (hK394 _ _ ?_)
    refine wp_ret ?_
    refine hQf _ _ _ ?_
    exact bodyPost_ret (v := .bool false) (by first|rfl|simp [results, Try.results6, go_sem]<;>rfl) rfl ⟨rfl, ((hm166.out.trans hm364.out).trans hm386.out)⟩
   rw [if_pos c387] at H
   have c387n : (t374 != 0) = false := by rw [bne, c387]; rfl
   try simp only [c387, c387n, Bool.not_true, Bool.not_false]
   refine BigFrame.wpList_want (wantT rfl rfl rfl rfl) fun k h=>?_;go_simp;apply h;clear h k
   refine BigFrame.wpList_want (wantT rfl rfl rfl rfl) fun k h=>?_;go_simp;apply h;clear h k
   iterate 2 (refine wpp fun k h=>?_;go_simp;apply h;clear h k)
   by_cases c388 : (t380 == 0) = true
   rotate_left
   ·
    rw [if_neg c388] at H; replace c388 := Bool.eq_false_iff.mpr c388
    have c388n : (t380 != 0) = true := by rw [bne, c388]; rfl
    have c388p : ¬ t380 = 0 := fun e => by simp [e] at c388
    obtain rfl := Option.some.inj H
    try simp only [c388, c388n, Bool.not_true, Bool.not_false]
    refine step_no (wantT rfl rfl rfl rfl) ?_
    simp only[Act.put,mkT_set]
    refine step_no (wantT rfl rfl rfl rfl) ?_
    simp only[Act.put,mkT_set]
    refine step_no (wantT rfl rfl rfl rfl) ?_
    simp only[Act.put,mkT_set]
    iterate 2 (refine wpp fun k h=>?_;go_simp;apply h;clear h k)
    refine step_no (wantT rfl rfl rfl rfl) ?_
    simp only[Act.put,mkT_set]
    refine step_no (wantT rfl rfl rfl rfl) ?_
    simp only[Act.put,mkT_set]
    refine step_no (wantT rfl rfl rfl rfl) ?_
    simp only[Act.put,mkT_set]
    refine wpp fun k h=>?_;go_simp;apply h;clear h k
    refine wpList_nil (hK384 _ _ ?_)
    refine wp_cond_true (evT rfl rfl) ?_
    refine wp_seq_k fun K393 hK393=>wp_region_lit ?_
    refine wpp fun k h=>?_;go_simp;apply h;clear h k
    refine wpList_nil (hK393 _ _ ?_)
    refine wp_ret ?_
    refine hQf _ _ _ ?_
    exact bodyPost_ret (v := .bool false) (by first|rfl|simp [results, Try.results6, go_sem]<;>rfl) rfl ⟨rfl, ((hm166.out.trans hm364.out).trans hm386.out)⟩
   rw [if_pos c388] at H
   have c388n : (t380 != 0) = false := by rw [bne, c388]; rfl
   try simp only [c388, c388n, Bool.not_true, Bool.not_false]
   refine BigFrame.wpList_want (wantT rfl rfl rfl rfl) fun k h=>?_;go_simp;apply h;clear h k
   refine BigFrame.wpList_want (wantT rfl rfl rfl rfl) fun k h=>?_;go_simp;apply h;clear h k
   refine BigFrame.wpList_want (wantT rfl rfl rfl rfl) fun k h=>?_;go_simp;apply h;clear h k
   iterate 2 (refine wpp fun k h=>?_;go_simp;apply h;clear h k)
   by_cases c389 : (t367 == t373) = true
   rotate_left
   ·
    rw [if_neg c389] at H; replace c389 := Bool.eq_false_iff.mpr c389
    have c389n : (t367 != t373) = true := by rw [bne, c389]; rfl
    have c389p : ¬ t367 = t373 := fun e => by simp [e] at c389
    obtain rfl := Option.some.inj H
    try simp only [c389, c389n, Bool.not_true, Bool.not_false]
    refine step_no (wantT rfl rfl rfl rfl) ?_
    simp only[Act.put,mkT_set]
    refine step_no (wantT rfl rfl rfl rfl) ?_
    simp only[Act.put,mkT_set]
    refine step_no (wantT rfl rfl rfl rfl) ?_
    simp only[Act.put,mkT_set]
    refine wpp fun k h=>?_;go_simp;apply h;clear h k
    refine wpList_nil (hK384 _ _ ?_)
    refine wp_cond_true (evT rfl rfl) ?_
    refine wp_seq_k fun K392 hK392=>wp_region_lit ?_
    refine wpp fun k h=>?_;go_simp;apply h;clear h k
    refine wpList_nil (hK392 _ _ ?_)
    refine wp_ret ?_
    refine hQf _ _ _ ?_
    exact bodyPost_ret (v := .bool false) (by first|rfl|simp [results, Try.results6, go_sem]<;>rfl) rfl ⟨rfl, ((hm166.out.trans hm364.out).trans hm386.out)⟩
   rw [if_pos c389] at H
   have c389n : (t367 != t373) = false := by rw [bne, c389]; rfl
   try simp only [c389, c389n, Bool.not_true, Bool.not_false]
   refine BigFrame.wpList_want (wantT rfl rfl rfl rfl) fun k h=>?_;go_simp;apply h;clear h k
   refine BigFrame.wpList_want (wantT rfl rfl rfl rfl) fun k h=>?_;go_simp;apply h;clear h k
   refine BigFrame.wpList_want (wantT rfl rfl rfl rfl) fun k h=>?_;go_simp;apply h;clear h k
   refine wpp fun k h=>?_;go_simp;apply h;clear h k
   refine wpList_nil (hK384 _ _ ?_)
   by_cases c390 : (t373 == t379) = true
   ·
    rw [if_pos c390] at H
    have c390n : (t373 != t379) = false := by rw [bne, c390]; rfl
    try simp only [c390, c390n, Bool.not_true, Bool.not_false]
    refine wp_cond_false (evT rfl rfl) ?_
    refine wp_skip ?_
    exact hK361 _ _ _ (by kernel_rfl) ⟨H, hm386.out⟩
   rw [if_neg c390] at H; replace c390 := Bool.eq_false_iff.mpr c390
   have c390n : (t373 != t379) = true := by rw [bne, c390]; rfl
   have c390p : ¬ t373 = t379 := fun e => by simp [e] at c390
   obtain rfl := Option.some.inj H
   try simp only [c390, c390n, Bool.not_true, Bool.not_false]
   refine wp_cond_true (evT rfl rfl) ?_
   refine wp_seq_k fun K391 hK391=>wp_region_lit ?_
   refine wpp fun k h=>?_;go_simp;apply h;clear h k
   refine wpList_nil (hK391 _ _ ?_)
   refine wp_ret ?_
   refine hQf _ _ _ ?_
   exact bodyPost_ret (v := .bool false) (by first|rfl|simp [results, Try.results6, go_sem]<;>rfl) rfl ⟨rfl, ((hm166.out.trans hm364.out).trans hm386.out)⟩
  refine wp_seq_k fun K397 hK397=>wp_region_lit ?_
  iterate 3 (refine wpp fun k h=>?_;go_simp;apply h;clear h k)
  have hm399 := Aside0.mk ((((((((((hu188.out.trans hu191.out).trans hu194.out).trans hu197.out).trans hu200.out).sto (Nat.le_trans (hu188.out.size) lbb189.out) hs202.out).sto (Nat.le_trans ((Nat.le_trans (hu188.out.size) hu191.out.size)) lbb192.out) hs208.out).sto (Nat.le_trans ((Nat.le_trans ((Nat.le_trans (hu188.out.size) hu191.out.size)) hu194.out.size)) lbb195.out) hs214.out).sto (Nat.le_trans ((Nat.le_trans ((Nat.le_trans ((Nat.le_trans (hu188.out.size) hu191.out.size)) hu194.out.size)) hu197.out.size)) lbb198.out) hs220.out).trans hu230.out).trans hu232.out)
  have hm400 := Aside0.mk (Nat.le_trans ((Nat.le_trans ((Nat.le_trans (hm91.out) hu95.out.size)) hm165.out.size)) hm399.out.size)
  by_cases c398 : (t227 == 0) = true
  rotate_left
  ·
   rw [if_neg c398] at H; replace c398 := Bool.eq_false_iff.mpr c398
   have c398n : (t227 != 0) = true := by rw [bne, c398]; rfl
   have c398p : ¬ t227 = 0 := fun e => by simp [e] at c398
   try simp only [c398, c398n, Bool.not_true, Bool.not_false]
   refine step_no (wantT rfl rfl rfl rfl) ?_
   simp only[Act.put,mkT_set]
   refine wpp fun k h=>?_;go_simp;apply h;clear h k
   refine wpList_nil (hK397 _ _ ?_)
   refine wp_cond_false (evT rfl rfl) ?_
   refine wp_skip ?_
   exact hK396 _ _ _ (by kernel_rfl) ⟨H, (Up.refl _)⟩
  rw [if_pos c398] at H
  have c398n : (t227 != 0) = false := by rw [bne, c398]; rfl
  try simp only [c398, c398n, Bool.not_true, Bool.not_false]
  refine BigFrame.wpList_want (wantT rfl rfl rfl rfl) fun k h=>?_;go_simp;apply h;clear h k
  refine wpp fun k h=>?_;go_simp;apply h;clear h k
  refine wpList_nil (hK397 _ _ ?_)
  by_cases c401 : (t226) = true
  rotate_left
  ·
   rw [if_neg c401] at H; replace c401 := Bool.eq_false_iff.mpr c401
   subst c401
   refine wp_cond_false (evT rfl rfl) ?_
   refine wp_skip ?_
   exact hK396 _ _ _ (by kernel_rfl) ⟨H, (Up.refl _)⟩
  rw [if_pos c401] at H
  subst c401
  obtain ⟨⟨t423, t424⟩,A425,H⟩:=Option.bind_eq_some_iff.mp H
  replace A425:=Aside0.mk A425;try dsimp only at H
  obtain ⟨⟨t429, t430⟩,A431,H⟩:=Option.bind_eq_some_iff.mp H
  replace A431:=Aside0.mk A431;try dsimp only at H
  refine wp_cond_true (evT rfl rfl) ?_
  refine wp_seq_k fun K402 hK402=>wp_region_lit ?_
  refine step_new (cs := []) (T := 2) (f := fun b => .slice (some ⟨b, 0, none⟩) 0 0) rfl (by go_simp <;> rfl) ?_
  intro b403 w404 hu lb hb403
  simp only[Act.put,mkT_set]
  have lbb403 := Aside0.mk lb
  have ltb403 := Aside0.mk hb403.lt
  clear lb
  have hu405 := Aside0.mk hu
  clear hu
  refine wpp fun k h=>?_;go_simp;apply h;clear h k
  refine wpList_nil (hK402 _ _ ?_)
  refine wp_seq_k fun K406 hK406=>?_
  refine wp_seq_k fun K407 hK407=>wp_region_lit ?_
  have cl0 := (h222.up ((hu230.out.trans hu232.out).trans hu405.out)).cell (o := 0) rfl
  have cl1 := (h222.up ((hu230.out.trans hu232.out).trans hu405.out)).cell (o := 1) rfl
  refine wpp fun k h=>?_;go_simp;apply h;clear h k
  clear cl0 cl1
  have cl0 := (h223.up ((hu230.out.trans hu232.out).trans hu405.out)).cell (o := 0) rfl
  have cl1 := (h223.up ((hu230.out.trans hu232.out).trans hu405.out)).cell (o := 1) rfl
  refine wpp fun k h=>?_;go_simp;apply h;clear h k
  clear cl0 cl1
  have cl0 := (h224.up ((hu230.out.trans hu232.out).trans hu405.out)).cell (o := 0) rfl
  have cl1 := (h224.up ((hu230.out.trans hu232.out).trans hu405.out)).cell (o := 1) rfl
  refine wpp fun k h=>?_;go_simp;apply h;clear h k
  clear cl0 cl1
  have cl0 := (hb221.up ((hu230.out.trans hu232.out).trans hu405.out)).cell (o := 0) rfl
  have cl1 := (hb221.up ((hu230.out.trans hu232.out).trans hu405.out)).cell (o := 1) rfl
  refine wpp fun k h=>?_;go_simp;apply h;clear h k
  clear cl0 cl1
  refine wpp fun k h=>?_;go_simp;apply h;clear h k
  have cl0 := (h223.up ((hu230.out.trans hu232.out).trans hu405.out)).cell (o := 0) rfl
  have cl1 := (h223.up ((hu230.out.trans hu232.out).trans hu405.out)).cell (o := 1) rfl
  refine wpp fun k h=>?_;go_simp;apply h;clear h k
  clear cl0 cl1
  have cl0 := (h224.up ((hu230.out.trans hu232.out).trans hu405.out)).cell (o := 0) rfl
  have cl1 := (h224.up ((hu230.out.trans hu232.out).trans hu405.out)).cell (o := 1) rfl
  refine wpp fun k h=>?_;go_simp;apply h;clear h k
  clear cl0 cl1
  have cl0 := (hb221.up ((hu230.out.trans hu232.out).trans hu405.out)).cell (o := 0) rfl
  have cl1 := (hb221.up ((hu230.out.trans hu232.out).trans hu405.out)).cell (o := 1) rfl
  refine wpp fun k h=>?_;go_simp;apply h;clear h k
  clear cl0 cl1
  have cl0 := (h222.up ((hu230.out.trans hu232.out).trans hu405.out)).cell (o := 0) rfl
  have cl1 := (h222.up ((hu230.out.trans hu232.out).trans hu405.out)).cell (o := 1) rfl
  refine wpp fun k h=>?_;go_simp;apply h;clear h k
  clear cl0 cl1
  refine wpp fun k h=>?_;go_simp;apply h;clear h k
  have cl0 := (h222.up ((hu230.out.trans hu232.out).trans hu405.out)).cell (o := 0) rfl
  have cl1 := (h222.up ((hu230.out.trans hu232.out).trans hu405.out)).cell (o := 1) rfl
  refine wpp fun k h=>?_;go_simp;apply h;clear h k
  clear cl0 cl1
  have cl0 := (h224.up ((hu230.out.trans hu232.out).trans hu405.out)).cell (o := 0) rfl
  have cl1 := (h224.up ((hu230.out.trans hu232.out).trans hu405.out)).cell (o := 1) rfl
  refine wpp fun k h=>?_;go_simp;apply h;clear h k
  clear cl0 cl1
  have cl0 := (h223.up ((hu230.out.trans hu232.out).trans hu405.out)).cell (o := 0) rfl
  have cl1 := (h223.up ((hu230.out.trans hu232.out).trans hu405.out)).cell (o := 1) rfl
  refine wpp fun k h=>?_;go_simp;apply h;clear h k
  clear cl0 cl1
  have cl0 := (hb221.up ((hu230.out.trans hu232.out).trans hu405.out)).cell (o := 0) rfl
  have cl1 := (hb221.up ((hu230.out.trans hu232.out).trans hu405.out)).cell (o := 1) rfl
  refine wpp fun k h=>?_;go_simp;apply h;clear h k
  clear cl0 cl1
  refine wpp fun k h=>?_;go_simp;apply h;clear h k
  refine step_new (cs := [.int .i64 t178, .int .i64 t179, .int .i64 t180, .int .i64 t181, .int .i64 t182, .int .i64 t183, .int .i64 t184, .int .i64 t185, .int .i64 t180, .int .i64 t181, .int .i64 t182, .int .i64 t183, .int .i64 t184, .int .i64 t185, .int .i64 t178, .int .i64 t179, .int .i64 t178, .int .i64 t179, .int .i64 t182, .int .i64 t183, .int .i64 t180, .int .i64 t181, .int .i64 t184, .int .i64 t185]) (T := 85) (f := fun b => .slice (some ⟨b, 0, none⟩) 3 3) rfl (by go_simp <;> rfl) ?_
  intro b408 w409 hu lb hb408
  simp only[Act.put,mkT_set]
  have lbb408 := Aside0.mk lb
  have ltb408 := Aside0.mk hb408.lt
  clear lb
  have hu410 := Aside0.mk hu
  clear hu
  iterate 2 (refine wpp fun k h=>?_;go_simp;apply h;clear h k)
  refine wpList_nil (hK407 _ _ ?_)
  refine wp_block ?_
  refine wp_loop_rounds 40 ?_
  refine rounds_k (fun K411 hK411 => ?_)
  refine wp_seq_k fun K412 hK412=>wp_region_lit ?_
  refine wpp fun k h=>?_;go_simp;apply h;clear h k
  refine wpList_nil (hK412 _ _ ?_)
  refine wp_seq_k fun K413 hK413=>?_
  refine wp_cond_true (evT rfl rfl) ?_
  refine wp_skip ?_
  refine hK413 _ _ ?_
  refine wp_seq_k fun K414 hK414=>?_
  refine wp_block ?_
  refine wp_seq_k fun K415 hK415=>wp_region_lit ?_
  refine wpp fun k h=>?_;go_simp;apply h;clear h k
  have cl0 := hb408.cell (o := 0) rfl
  have cl1 := hb408.cell (o := 1) rfl
  have cl2 := hb408.cell (o := 2) rfl
  have cl3 := hb408.cell (o := 3) rfl
  have cl4 := hb408.cell (o := 4) rfl
  have cl5 := hb408.cell (o := 5) rfl
  have cl6 := hb408.cell (o := 6) rfl
  have cl7 := hb408.cell (o := 7) rfl
  refine wpp fun k h=>?_;go_simp;apply h;clear h k
  clear cl0 cl1 cl2 cl3 cl4 cl5 cl6 cl7
  refine step_new (cs := [.int .i64 0, .int .i64 0, .int .i64 0, .int .i64 0, .int .i64 0, .int .i64 0, .int .i64 0, .int .i64 0]) (T := 85) (f := fun b => .pointer (some ⟨b, 0, none⟩)) rfl (by go_simp <;> rfl) ?_
  intro b416 w417 hu lb hb416
  simp only[Act.put,mkT_set]
  have lbb416 := Aside0.mk lb
  have ltb416 := Aside0.mk hb416.lt
  clear lb
  have hu418 := Aside0.mk hu
  clear hu
  have hB0 := hb416
  have cl0 := hB0.cell (o := 0) rfl
  have fr0 := hB0.free 0
  have cl1 := hB0.cell (o := 1) rfl
  have fr1 := hB0.free 1
  have cl2 := hB0.cell (o := 2) rfl
  have fr2 := hB0.free 2
  have cl3 := hB0.cell (o := 3) rfl
  have fr3 := hB0.free 3
  have cl4 := hB0.cell (o := 4) rfl
  have fr4 := hB0.free 4
  have cl5 := hB0.cell (o := 5) rfl
  have fr5 := hB0.free 5
  have cl6 := hB0.cell (o := 6) rfl
  have fr6 := hB0.free 6
  have cl7 := hB0.cell (o := 7) rfl
  have fr7 := hB0.free 7
  refine step_store (b := b416) (cs' := [.int .i64 t178, .int .i64 t179, .int .i64 t180, .int .i64 t181, .int .i64 t182, .int .i64 t183, .int .i64 t184, .int .i64 t185]) (T := 85) (W' := ((((((((w417.setCell ⟨b416, 0, none⟩ (.int .i64 t178)).setCell ⟨b416, 1, none⟩ (.int .i64 t179)).setCell ⟨b416, 2, none⟩ (.int .i64 t180)).setCell ⟨b416, 3, none⟩ (.int .i64 t181)).setCell ⟨b416, 4, none⟩ (.int .i64 t182)).setCell ⟨b416, 5, none⟩ (.int .i64 t183)).setCell ⟨b416, 6, none⟩ (.int .i64 t184)).setCell ⟨b416, 7, none⟩ (.int .i64 t185))) rfl rfl (by go_simp <;> rfl) (((((((((Sto.refl _ _).setCell 0 _).setCell 1 _).setCell 2 _).setCell 3 _).setCell 4 _).setCell 5 _).setCell 6 _).setCell 7 _) (((((((((hB0).setCell 0 _).setCell 1 _).setCell 2 _).setCell 3 _).setCell 4 _).setCell 5 _).setCell 6 _).setCell 7 _) ?_
  clear hB0 cl0 fr0 cl1 fr1 cl2 fr2 cl3 fr3 cl4 fr4 cl5 fr5 cl6 fr6 cl7 fr7
  intro w419 hs hb421
  have hs420 := Aside0.mk hs
  clear hs
  refine wpList_nil (hK415 _ _ ?_)
  refine wp_seq_k fun K422 hK422=>wp_region_lit ?_
  iterate 3 (refine wpp fun k h=>?_;go_simp;apply h;clear h k)
  have cl0 := hb421.cell (o := 0) rfl
  have cl1 := hb421.cell (o := 1) rfl
  refine wpp fun k h=>?_;go_simp;apply h;clear h k
  clear cl0 cl1
  refine wpp fun k h=>?_;go_simp;apply h;clear h k
  have cl0 := hb421.cell (o := 2) rfl
  have cl1 := hb421.cell (o := 3) rfl
  refine wpp fun k h=>?_;go_simp;apply h;clear h k
  clear cl0 cl1
  refine step_call wn (by go_simp <;> rfl) (impl_Quadrance.calls K t176 t177 t178 t179 t180 t181 t423 t424 w419  A425.out) ?_
  rintro e w426 ⟨rfl, hu⟩
  have hu427 := Aside0.mk hu
  clear hu
  refine ⟨_, rfl, ?_⟩
  simp only[Act.put,mkT_set]
  iterate 5 (refine wpp fun k h=>?_;go_simp;apply h;clear h k)
  refine wpList_nil (hK422 _ _ ?_)
  refine wp_seq_k fun K428 hK428=>wp_region_lit ?_
  iterate 3 (refine wpp fun k h=>?_;go_simp;apply h;clear h k)
  have cl0 := (hb421.up hu427.out).cell (o := 4) rfl
  have cl1 := (hb421.up hu427.out).cell (o := 5) rfl
  refine wpp fun k h=>?_;go_simp;apply h;clear h k
  clear cl0 cl1
  refine wpp fun k h=>?_;go_simp;apply h;clear h k
  have cl0 := (hb421.up hu427.out).cell (o := 6) rfl
  have cl1 := (hb421.up hu427.out).cell (o := 7) rfl
  refine wpp fun k h=>?_;go_simp;apply h;clear h k
  clear cl0 cl1
  refine step_call wn (by go_simp <;> rfl) (impl_Quadrance.calls K t176 t177 t182 t183 t184 t185 t429 t430 w426  A431.out) ?_
  rintro e w432 ⟨rfl, hu⟩
  have hu433 := Aside0.mk hu
  clear hu
  refine ⟨_, rfl, ?_⟩
  simp only[Act.put,mkT_set]
  iterate 5 (refine wpp fun k h=>?_;go_simp;apply h;clear h k)
  refine wpList_nil (hK428 _ _ ?_)
  refine wp_seq_k fun K434 hK434=>?_
  refine wp_seq_k fun K435 hK435=>wp_region_lit ?_
  iterate 3 (refine wpp fun k h=>?_;go_simp;apply h;clear h k)
  have hm437 := Aside0.mk (((((hu405.out.trans hu410.out).trans hu418.out).sto (Nat.le_trans ((Nat.le_trans (hu405.out.size) hu410.out.size)) lbb416.out) hs420.out).trans hu427.out).trans hu433.out)
  have h438 := (hb403.up ((((hu410.out.trans hu418.out).sto (Nat.le_trans (hu410.out.size) lbb416.out) hs420.out).trans hu427.out).trans hu433.out))
  have h439 := (hb408.up (((hu418.out.sto (Nat.le_trans (Nat.le_refl _) lbb416.out) hs420.out).trans hu427.out).trans hu433.out))
  by_cases c436 : (t424 == 0) = true
  rotate_left
  ·
   rw [if_neg c436] at H; replace c436 := Bool.eq_false_iff.mpr c436
   have c436n : (t424 != 0) = true := by rw [bne, c436]; rfl
   have c436p : ¬ t424 = 0 := fun e => by simp [e] at c436
   obtain rfl := Option.some.inj H
   try simp only [c436, c436n, Bool.not_true, Bool.not_false]
   refine step_no (wantT rfl rfl rfl rfl) ?_
   simp only[Act.put,mkT_set]
   refine step_no (wantT rfl rfl rfl rfl) ?_
   simp only[Act.put,mkT_set]
   refine wpp fun k h=>?_;go_simp;apply h;clear h k
   refine wpList_nil (hK435 _ _ ?_)
   refine wp_cond_true (evT rfl rfl) ?_
   refine wp_seq_k fun K613 hK613=>wp_region_lit ?_
   refine wpp fun k h=>?_;go_simp;apply h;clear h k
   refine wpList_nil (hK613 _ _ ?_)
   refine wp_ret ?_
   refine hQf _ _ _ ?_
   exact bodyPost_ret (v := .bool false) (by first|rfl|simp [results, Try.results6, go_sem]<;>rfl) rfl ⟨rfl, ((hm166.out.trans hm399.out).trans hm437.out)⟩
  rw [if_pos c436] at H
  have c436n : (t424 != 0) = false := by rw [bne, c436]; rfl
  try simp only [c436, c436n, Bool.not_true, Bool.not_false]
  refine BigFrame.wpList_want (wantT rfl rfl rfl rfl) fun k h=>?_;go_simp;apply h;clear h k
  refine BigFrame.wpList_want (wantT rfl rfl rfl rfl) fun k h=>?_;go_simp;apply h;clear h k
  refine wpp fun k h=>?_;go_simp;apply h;clear h k
  refine wpList_nil (hK435 _ _ ?_)
  by_cases c440 : (t430 == 0) = true
  rotate_left
  ·
   rw [if_neg c440] at H; replace c440 := Bool.eq_false_iff.mpr c440
   have c440n : (t430 != 0) = true := by rw [bne, c440]; rfl
   have c440p : ¬ t430 = 0 := fun e => by simp [e] at c440
   obtain rfl := Option.some.inj H
   try simp only [c440, c440n, Bool.not_true, Bool.not_false]
   refine wp_cond_true (evT rfl rfl) ?_
   refine wp_seq_k fun K612 hK612=>wp_region_lit ?_
   refine wpp fun k h=>?_;go_simp;apply h;clear h k
   refine wpList_nil (hK612 _ _ ?_)
   refine wp_ret ?_
   refine hQf _ _ _ ?_
   exact bodyPost_ret (v := .bool false) (by first|rfl|simp [results, Try.results6, go_sem]<;>rfl) rfl ⟨rfl, ((hm166.out.trans hm399.out).trans hm437.out)⟩
  rw [if_pos c440] at H
  have c440n : (t430 != 0) = false := by rw [bne, c440]; rfl
  try simp only [c440, c440n, Bool.not_true, Bool.not_false]
  refine wp_cond_false (evT rfl rfl) ?_
  refine wp_skip ?_
  refine hK434 _ _ ?_
  refine wp_region_lit ?_
  iterate 5 (refine wpp fun k h=>?_;go_simp;apply h;clear h k)
  by_cases c441 : (t176 == 0) = true
  ·
   rw [if_pos c441] at H
   have c441n : (t176 != 0) = false := by rw [bne, c441]; rfl
   exact absurd H (by simp)
  rw [if_neg c441] at H; replace c441 := Bool.eq_false_iff.mpr c441
  have c441n : (t176 != 0) = true := by rw [bne, c441]; rfl
  have c441p : ¬ t176 = 0 := fun e => by simp [e] at c441
  obtain ⟨⟨t470, t471⟩,A472,H⟩:=Option.bind_eq_some_iff.mp H
  replace A472:=Aside0.mk A472;try dsimp only at H
  obtain ⟨⟨t476, t477⟩,A478,H⟩:=Option.bind_eq_some_iff.mp H
  replace A478:=Aside0.mk A478;try dsimp only at H
  try simp only [c441, c441n, Bool.not_true, Bool.not_false]
  refine wpp fun k h=>?_;go_simp;apply h;clear h k
  refine step_new (cs := [.int .i64 (Int.tmod (wrap64 (t423 * t429)) t176)]) (T := 2) (f := fun b => .slice (some ⟨b, 0, none⟩) 1 1) rfl (by go_simp <;> rfl) ?_
  intro b442 w443 hu lb hb442
  simp only[Act.put,mkT_set]
  have lbb442 := Aside0.mk lb
  have ltb442 := Aside0.mk hb442.lt
  clear lb
  have hu444 := Aside0.mk hu
  clear hu
  have h446 : Own eI 2 w443 w231.heap.size (.slice (some ⟨b403, 0, none⟩) ([].length) 0) [] := Own.of_blk (h438.up hu444.out) lbb403.out rfl (by simp) (by simp [Enc.flat, eI])
  have h447 : Own eI 2 w404 w231.heap.size (.slice (some ⟨b403, 0, none⟩) ([].length) 0) [] := Own.of_blk hb403 lbb403.out rfl (by simp) (by simp [Enc.flat, eI])
  have hO0 := Aside0.mk h446
  refine step_append eI (z := .int .i64 0) (bytes := 8) (base := w231.heap.size) (xs := ([] : List (Int))) (ys := [Int.tmod (wrap64 (t423 * t429)) t176]) wn _ _ rfl rfl (by kernel_rfl) rfl (by decide) (evT rfl rfl) (evT rfl rfl) rfl hO0.out (Rd.of_blk (E := eI) (xs := [Int.tmod (wrap64 (t423 * t429)) t176]) (o := 0) hb442 (by simp) (fun j u hu => by revert hu;rcases j with _ | j <;> simp [Enc.flat, eI])) ((Nat.le_trans (hm437.out.size) hu444.out.size)) (by (try simp only [List.length_cons, List.length_nil]); omega) ?_
  intro P448 q449 w450 h452 hg hat
  have hg453 := Aside0.mk hg
  have hat454 := Aside0.mk hat
  simp only[Act.put,mkT_set]
  have lb455 := Aside0.mk hO0.out.lt
  clear hO0 hg hat
  have h456 := (h439.up hu444.out).grow hg453.out (fun k hk => Nat.ne_of_lt (Nat.lt_of_lt_of_le ((fun k hk => Nat.lt_of_lt_of_le (h447.lt k hk).2 (Nat.le_refl _)) k hk) lbb408.out))
  have h457 := hb442.grow hg453.out (fun k hk => Nat.ne_of_lt (Nat.lt_of_lt_of_le ((fun k hk => Nat.lt_of_lt_of_le (h447.lt k hk).2 ((Nat.le_trans ((Nat.le_trans ((Nat.le_trans ((Nat.le_trans (hu410.out.size) hu418.out.size)) (Nat.le_of_eq hs420.out.size.symm))) hu427.out.size)) hu433.out.size))) k hk) lbb442.out))
  refine wpp fun k h=>?_;go_simp;apply h;clear h k
  refine wpList_nil (hK414 _ _ ?_)
  refine wp_region_lit ?_
  refine wpp fun k h=>?_;go_simp;apply h;clear h k
  try simp only [show wrap64 1 = 1 from wlit rfl]
  refine wpp fun k h=>?_;go_simp;apply h;clear h k
  refine wpList_nil (hK411 _ _ ?_)
  refine rounds_k (fun K458 hK458 => ?_)
  refine wp_seq_k fun K459 hK459=>wp_region_lit ?_
  refine wpp fun k h=>?_;go_simp;apply h;clear h k
  refine wpList_nil (hK459 _ _ ?_)
  refine wp_seq_k fun K460 hK460=>?_
  refine wp_cond_true (evT rfl rfl) ?_
  refine wp_skip ?_
  refine hK460 _ _ ?_
  refine wp_seq_k fun K461 hK461=>?_
  refine wp_block ?_
  refine wp_seq_k fun K462 hK462=>wp_region_lit ?_
  refine wpp fun k h=>?_;go_simp;apply h;clear h k
  have cl0 := h456.cell (o := 8) rfl
  have cl1 := h456.cell (o := 9) rfl
  have cl2 := h456.cell (o := 10) rfl
  have cl3 := h456.cell (o := 11) rfl
  have cl4 := h456.cell (o := 12) rfl
  have cl5 := h456.cell (o := 13) rfl
  have cl6 := h456.cell (o := 14) rfl
  have cl7 := h456.cell (o := 15) rfl
  refine wpp fun k h=>?_;go_simp;apply h;clear h k
  clear cl0 cl1 cl2 cl3 cl4 cl5 cl6 cl7
  refine step_new (cs := [.int .i64 0, .int .i64 0, .int .i64 0, .int .i64 0, .int .i64 0, .int .i64 0, .int .i64 0, .int .i64 0]) (T := 85) (f := fun b => .pointer (some ⟨b, 0, none⟩)) rfl (by go_simp <;> rfl) ?_
  intro b463 w464 hu lb hb463
  simp only[Act.put,mkT_set]
  have lbb463 := Aside0.mk lb
  have ltb463 := Aside0.mk hb463.lt
  clear lb
  have hu465 := Aside0.mk hu
  clear hu
  have hB0 := hb463
  have cl0 := hB0.cell (o := 0) rfl
  have fr0 := hB0.free 0
  have cl1 := hB0.cell (o := 1) rfl
  have fr1 := hB0.free 1
  have cl2 := hB0.cell (o := 2) rfl
  have fr2 := hB0.free 2
  have cl3 := hB0.cell (o := 3) rfl
  have fr3 := hB0.free 3
  have cl4 := hB0.cell (o := 4) rfl
  have fr4 := hB0.free 4
  have cl5 := hB0.cell (o := 5) rfl
  have fr5 := hB0.free 5
  have cl6 := hB0.cell (o := 6) rfl
  have fr6 := hB0.free 6
  have cl7 := hB0.cell (o := 7) rfl
  have fr7 := hB0.free 7
  refine step_store (b := b463) (cs' := [.int .i64 t180, .int .i64 t181, .int .i64 t182, .int .i64 t183, .int .i64 t184, .int .i64 t185, .int .i64 t178, .int .i64 t179]) (T := 85) (W' := ((((((((w464.setCell ⟨b463, 0, none⟩ (.int .i64 t180)).setCell ⟨b463, 1, none⟩ (.int .i64 t181)).setCell ⟨b463, 2, none⟩ (.int .i64 t182)).setCell ⟨b463, 3, none⟩ (.int .i64 t183)).setCell ⟨b463, 4, none⟩ (.int .i64 t184)).setCell ⟨b463, 5, none⟩ (.int .i64 t185)).setCell ⟨b463, 6, none⟩ (.int .i64 t178)).setCell ⟨b463, 7, none⟩ (.int .i64 t179))) rfl rfl (by go_simp <;> rfl) (((((((((Sto.refl _ _).setCell 0 _).setCell 1 _).setCell 2 _).setCell 3 _).setCell 4 _).setCell 5 _).setCell 6 _).setCell 7 _) (((((((((hB0).setCell 0 _).setCell 1 _).setCell 2 _).setCell 3 _).setCell 4 _).setCell 5 _).setCell 6 _).setCell 7 _) ?_
  clear hB0 cl0 fr0 cl1 fr1 cl2 fr2 cl3 fr3 cl4 fr4 cl5 fr5 cl6 fr6 cl7 fr7
  intro w466 hs hb468
  have hs467 := Aside0.mk hs
  clear hs
  refine wpList_nil (hK462 _ _ ?_)
  refine wp_seq_k fun K469 hK469=>wp_region_lit ?_
  iterate 3 (refine wpp fun k h=>?_;go_simp;apply h;clear h k)
  have cl0 := hb468.cell (o := 0) rfl
  have cl1 := hb468.cell (o := 1) rfl
  refine wpp fun k h=>?_;go_simp;apply h;clear h k
  clear cl0 cl1
  refine wpp fun k h=>?_;go_simp;apply h;clear h k
  have cl0 := hb468.cell (o := 2) rfl
  have cl1 := hb468.cell (o := 3) rfl
  refine wpp fun k h=>?_;go_simp;apply h;clear h k
  clear cl0 cl1
  refine step_call wn (by go_simp <;> rfl) (impl_Quadrance.calls K t176 t177 t180 t181 t182 t183 t470 t471 w466  A472.out) ?_
  rintro e w473 ⟨rfl, hu⟩
  have hu474 := Aside0.mk hu
  clear hu
  refine ⟨_, rfl, ?_⟩
  simp only[Act.put,mkT_set]
  iterate 5 (refine wpp fun k h=>?_;go_simp;apply h;clear h k)
  refine wpList_nil (hK469 _ _ ?_)
  refine wp_seq_k fun K475 hK475=>wp_region_lit ?_
  iterate 3 (refine wpp fun k h=>?_;go_simp;apply h;clear h k)
  have cl0 := (hb468.up hu474.out).cell (o := 4) rfl
  have cl1 := (hb468.up hu474.out).cell (o := 5) rfl
  refine wpp fun k h=>?_;go_simp;apply h;clear h k
  clear cl0 cl1
  refine wpp fun k h=>?_;go_simp;apply h;clear h k
  have cl0 := (hb468.up hu474.out).cell (o := 6) rfl
  have cl1 := (hb468.up hu474.out).cell (o := 7) rfl
  refine wpp fun k h=>?_;go_simp;apply h;clear h k
  clear cl0 cl1
  refine step_call wn (by go_simp <;> rfl) (impl_Quadrance.calls K t176 t177 t184 t185 t178 t179 t476 t477 w473  A478.out) ?_
  rintro e w479 ⟨rfl, hu⟩
  have hu480 := Aside0.mk hu
  clear hu
  refine ⟨_, rfl, ?_⟩
  simp only[Act.put,mkT_set]
  iterate 5 (refine wpp fun k h=>?_;go_simp;apply h;clear h k)
  refine wpList_nil (hK475 _ _ ?_)
  refine wp_seq_k fun K481 hK481=>?_
  refine wp_seq_k fun K482 hK482=>wp_region_lit ?_
  iterate 3 (refine wpp fun k h=>?_;go_simp;apply h;clear h k)
  have hm484 := Aside0.mk ((((((((hm166.out.trans hm399.out).trans hm437.out).trans hu444.out).grow hg453.out (fun k hk => Nat.le_trans (hm400.out) ((fun k hk => (lb455.out k hk).1) k hk))).trans hu465.out).sto (Nat.le_trans ((Nat.le_trans ((Nat.le_trans ((Nat.le_trans (hm400.out) hm437.out.size)) hu444.out.size)) hg453.out.size)) lbb463.out) hs467.out).trans hu474.out).trans hu480.out)
  have hm485 := Aside0.mk (Nat.le_trans ((Nat.le_trans ((Nat.le_trans ((Nat.le_trans ((Nat.le_trans ((Nat.le_trans ((Nat.le_trans (hm400.out) hm437.out.size)) hu444.out.size)) hg453.out.size)) hu465.out.size)) (Nat.le_of_eq hs467.out.size.symm))) hu474.out.size)) hu480.out.size)
  have h486 := (h167.up (((((((hm399.out.trans hm437.out).trans hu444.out).grow hg453.out (fun k hk => Nat.le_trans (hm399.out.size) ((fun k hk => (lb455.out k hk).1) k hk))).trans hu465.out).sto (Nat.le_trans ((Nat.le_trans ((Nat.le_trans ((Nat.le_trans (hm399.out.size) hm437.out.size)) hu444.out.size)) hg453.out.size)) lbb463.out) hs467.out).trans hu474.out).trans hu480.out))
  have h487 := (h168.up (((((((hm399.out.trans hm437.out).trans hu444.out).grow hg453.out (fun k hk => Nat.le_trans (hm399.out.size) ((fun k hk => (lb455.out k hk).1) k hk))).trans hu465.out).sto (Nat.le_trans ((Nat.le_trans ((Nat.le_trans ((Nat.le_trans (hm399.out.size) hm437.out.size)) hu444.out.size)) hg453.out.size)) lbb463.out) hs467.out).trans hu474.out).trans hu480.out))
  have h488 := (h169.up (((((((hm399.out.trans hm437.out).trans hu444.out).grow hg453.out (fun k hk => Nat.le_trans (hm399.out.size) ((fun k hk => (lb455.out k hk).1) k hk))).trans hu465.out).sto (Nat.le_trans ((Nat.le_trans ((Nat.le_trans ((Nat.le_trans (hm399.out.size) hm437.out.size)) hu444.out.size)) hg453.out.size)) lbb463.out) hs467.out).trans hu474.out).trans hu480.out))
  have h489 := (h170.up (((((((hm399.out.trans hm437.out).trans hu444.out).grow hg453.out (fun k hk => Nat.le_trans (hm399.out.size) ((fun k hk => (lb455.out k hk).1) k hk))).trans hu465.out).sto (Nat.le_trans ((Nat.le_trans ((Nat.le_trans ((Nat.le_trans (hm399.out.size) hm437.out.size)) hu444.out.size)) hg453.out.size)) lbb463.out) hs467.out).trans hu474.out).trans hu480.out))
  have h490 := (h171.up (((((((hm399.out.trans hm437.out).trans hu444.out).grow hg453.out (fun k hk => Nat.le_trans (hm399.out.size) ((fun k hk => (lb455.out k hk).1) k hk))).trans hu465.out).sto (Nat.le_trans ((Nat.le_trans ((Nat.le_trans ((Nat.le_trans (hm399.out.size) hm437.out.size)) hu444.out.size)) hg453.out.size)) lbb463.out) hs467.out).trans hu474.out).trans hu480.out))
  have h491 := (h172.up (((((((hm399.out.trans hm437.out).trans hu444.out).grow hg453.out (fun k hk => Nat.le_trans (hm399.out.size) ((fun k hk => (lb455.out k hk).1) k hk))).trans hu465.out).sto (Nat.le_trans ((Nat.le_trans ((Nat.le_trans ((Nat.le_trans (hm399.out.size) hm437.out.size)) hu444.out.size)) hg453.out.size)) lbb463.out) hs467.out).trans hu474.out).trans hu480.out))
  have h492 := (h173.up (((((((hm399.out.trans hm437.out).trans hu444.out).grow hg453.out (fun k hk => Nat.le_trans (hm399.out.size) ((fun k hk => (lb455.out k hk).1) k hk))).trans hu465.out).sto (Nat.le_trans ((Nat.le_trans ((Nat.le_trans ((Nat.le_trans (hm399.out.size) hm437.out.size)) hu444.out.size)) hg453.out.size)) lbb463.out) hs467.out).trans hu474.out).trans hu480.out))
  have h493 := (h456.up (((hu465.out.sto (Nat.le_trans (Nat.le_refl _) lbb463.out) hs467.out).trans hu474.out).trans hu480.out))
  by_cases c483 : (t471 == 0) = true
  rotate_left
  ·
   rw [if_neg c483] at H; replace c483 := Bool.eq_false_iff.mpr c483
   have c483n : (t471 != 0) = true := by rw [bne, c483]; rfl
   have c483p : ¬ t471 = 0 := fun e => by simp [e] at c483
   obtain rfl := Option.some.inj H
   try simp only [c483, c483n, Bool.not_true, Bool.not_false]
   refine step_no (wantT rfl rfl rfl rfl) ?_
   simp only[Act.put,mkT_set]
   refine step_no (wantT rfl rfl rfl rfl) ?_
   simp only[Act.put,mkT_set]
   refine wpp fun k h=>?_;go_simp;apply h;clear h k
   refine wpList_nil (hK482 _ _ ?_)
   refine wp_cond_true (evT rfl rfl) ?_
   refine wp_seq_k fun K611 hK611=>wp_region_lit ?_
   refine wpp fun k h=>?_;go_simp;apply h;clear h k
   refine wpList_nil (hK611 _ _ ?_)
   refine wp_ret ?_
   refine hQf _ _ _ ?_
   exact bodyPost_ret (v := .bool false) (by first|rfl|simp [results, Try.results6, go_sem]<;>rfl) rfl ⟨rfl, hm484.out⟩
  rw [if_pos c483] at H
  have c483n : (t471 != 0) = false := by rw [bne, c483]; rfl
  try simp only [c483, c483n, Bool.not_true, Bool.not_false]
  refine BigFrame.wpList_want (wantT rfl rfl rfl rfl) fun k h=>?_;go_simp;apply h;clear h k
  refine BigFrame.wpList_want (wantT rfl rfl rfl rfl) fun k h=>?_;go_simp;apply h;clear h k
  refine wpp fun k h=>?_;go_simp;apply h;clear h k
  refine wpList_nil (hK482 _ _ ?_)
  by_cases c494 : (t477 == 0) = true
  rotate_left
  ·
   rw [if_neg c494] at H; replace c494 := Bool.eq_false_iff.mpr c494
   have c494n : (t477 != 0) = true := by rw [bne, c494]; rfl
   have c494p : ¬ t477 = 0 := fun e => by simp [e] at c494
   obtain rfl := Option.some.inj H
   try simp only [c494, c494n, Bool.not_true, Bool.not_false]
   refine wp_cond_true (evT rfl rfl) ?_
   refine wp_seq_k fun K610 hK610=>wp_region_lit ?_
   refine wpp fun k h=>?_;go_simp;apply h;clear h k
   refine wpList_nil (hK610 _ _ ?_)
   refine wp_ret ?_
   refine hQf _ _ _ ?_
   exact bodyPost_ret (v := .bool false) (by first|rfl|simp [results, Try.results6, go_sem]<;>rfl) rfl ⟨rfl, hm484.out⟩
  rw [if_pos c494] at H
  have c494n : (t477 != 0) = false := by rw [bne, c494]; rfl
  try simp only [c494, c494n, Bool.not_true, Bool.not_false]
  refine wp_cond_false (evT rfl rfl) ?_
  refine wp_skip ?_
  refine hK481 _ _ ?_
  refine wp_region_lit ?_
  iterate 6 (refine wpp fun k h=>?_;go_simp;apply h;clear h k)
  refine step_new (cs := [.int .i64 (Int.tmod (wrap64 (t470 * t476)) t176)]) (T := 2) (f := fun b => .slice (some ⟨b, 0, none⟩) 1 1) rfl (by go_simp <;> rfl) ?_
  intro b495 w496 hu lb hb495
  simp only[Act.put,mkT_set]
  have lbb495 := Aside0.mk lb
  have ltb495 := Aside0.mk hb495.lt
  clear lb
  have hu497 := Aside0.mk hu
  clear hu
  by_cases c498 : (decide ((([] : List (Int)) ++ [Int.tmod (wrap64 (t423 * t429)) t176]).length ≤ 1000000)) = true
  rotate_left
  ·
   rw [if_neg c498] at H; replace c498 := Bool.eq_false_iff.mpr c498
   exact absurd H (by simp)
  rw [if_pos c498] at H
  obtain ⟨⟨t528, t529⟩,A530,H⟩:=Option.bind_eq_some_iff.mp H
  replace A530:=Aside0.mk A530;try dsimp only at H
  obtain ⟨⟨t534, t535⟩,A536,H⟩:=Option.bind_eq_some_iff.mp H
  replace A536:=Aside0.mk A536;try dsimp only at H
  try simp only [c498, Bool.not_true, Bool.not_false]
  have hO0 := Aside0.mk (h452.up ((((hu465.out.sto (Nat.le_trans (Nat.le_refl _) lbb463.out) hs467.out).trans hu474.out).trans hu480.out).trans hu497.out))
  refine step_append eI (z := .int .i64 0) (bytes := 8) (base := w231.heap.size) (xs := (([] : List (Int)) ++ [Int.tmod (wrap64 (t423 * t429)) t176])) (ys := [Int.tmod (wrap64 (t470 * t476)) t176]) wn _ _ rfl rfl (by kernel_rfl) rfl (by decide) (evT rfl rfl) (evT rfl rfl) rfl hO0.out (Rd.of_blk (E := eI) (xs := [Int.tmod (wrap64 (t470 * t476)) t176]) (o := 0) hb495 (by simp) (fun j u hu => by revert hu;rcases j with _ | j <;> simp [Enc.flat, eI])) ((Nat.le_trans ((Nat.le_trans ((Nat.le_trans ((Nat.le_trans ((Nat.le_trans ((Nat.le_trans ((Nat.le_trans (hm437.out.size) hu444.out.size)) hg453.out.size)) hu465.out.size)) (Nat.le_of_eq hs467.out.size.symm))) hu474.out.size)) hu480.out.size)) hu497.out.size)) (by have h0_ := (of_decide_eq_true (by assumption) : (([] : List (Int)) ++ [Int.tmod (wrap64 (t423 * t429)) t176]).length ≤ 1000000); (try simp only [List.length_cons, List.length_nil]); omega) ?_
  intro P499 q500 w501 h503 hg hat
  have hg504 := Aside0.mk hg
  have hat505 := Aside0.mk hat
  simp only[Act.put,mkT_set]
  have lb506 := Aside0.mk hO0.out.lt
  clear hO0 hg hat
  have h507 := (h486.up hu497.out).grow hg504.out (fun k hk => hat454.out.elim (fun e => (fun k hk => Ne.symm ((fun k hk => Nat.ne_of_lt (Nat.lt_of_lt_of_le (Nat.lt_of_lt_of_le ltb22.out ((Nat.le_trans ((Nat.le_trans ((Nat.le_trans ((Nat.le_trans ((Nat.le_trans ((Nat.le_trans ((Nat.le_trans ((Nat.le_trans ((Nat.le_trans ((Nat.le_trans ((Nat.le_trans ((Nat.le_trans ((Nat.le_trans (hu27.out.size) (Nat.le_of_eq hs29.out.size.symm))) (Nat.le_of_eq hs33.out.size.symm))) hu43.out.size)) hu46.out.size)) (Nat.le_of_eq hs48.out.size.symm))) hu58.out.size)) hu61.out.size)) (Nat.le_of_eq hs63.out.size.symm))) hu79.out.size)) hu88.out.size)) hu95.out.size)) hm165.out.size)) hm399.out.size))) ((fun k hk => Nat.le_trans (Nat.le_refl _) (h447.lt k hk).1) k hk))) k hk)) k (e.symm.trans hk)) (fun g => Nat.ne_of_gt (Nat.lt_of_lt_of_le (Nat.lt_of_lt_of_le ltb22.out ((Nat.le_trans ((Nat.le_trans ((Nat.le_trans ((Nat.le_trans ((Nat.le_trans ((Nat.le_trans ((Nat.le_trans ((Nat.le_trans ((Nat.le_trans ((Nat.le_trans ((Nat.le_trans ((Nat.le_trans ((Nat.le_trans ((Nat.le_trans ((Nat.le_trans (hu27.out.size) (Nat.le_of_eq hs29.out.size.symm))) (Nat.le_of_eq hs33.out.size.symm))) hu43.out.size)) hu46.out.size)) (Nat.le_of_eq hs48.out.size.symm))) hu58.out.size)) hu61.out.size)) (Nat.le_of_eq hs63.out.size.symm))) hu79.out.size)) hu88.out.size)) hu95.out.size)) hm165.out.size)) hm399.out.size)) hm437.out.size)) hu444.out.size))) (g k hk))))
  have h508 := (h487.up hu497.out).grow hg504.out (fun k hk => hat454.out.elim (fun e => (fun k hk => Ne.symm ((fun k hk => Nat.ne_of_lt (Nat.lt_of_lt_of_le (Nat.lt_of_lt_of_le ltb25.out ((Nat.le_trans ((Nat.le_trans ((Nat.le_trans ((Nat.le_trans ((Nat.le_trans ((Nat.le_trans ((Nat.le_trans ((Nat.le_trans ((Nat.le_trans ((Nat.le_trans ((Nat.le_trans ((Nat.le_trans ((Nat.le_of_eq hs29.out.size.symm)) (Nat.le_of_eq hs33.out.size.symm))) hu43.out.size)) hu46.out.size)) (Nat.le_of_eq hs48.out.size.symm))) hu58.out.size)) hu61.out.size)) (Nat.le_of_eq hs63.out.size.symm))) hu79.out.size)) hu88.out.size)) hu95.out.size)) hm165.out.size)) hm399.out.size))) ((fun k hk => Nat.le_trans (Nat.le_refl _) (h447.lt k hk).1) k hk))) k hk)) k (e.symm.trans hk)) (fun g => Nat.ne_of_gt (Nat.lt_of_lt_of_le (Nat.lt_of_lt_of_le ltb25.out ((Nat.le_trans ((Nat.le_trans ((Nat.le_trans ((Nat.le_trans ((Nat.le_trans ((Nat.le_trans ((Nat.le_trans ((Nat.le_trans ((Nat.le_trans ((Nat.le_trans ((Nat.le_trans ((Nat.le_trans ((Nat.le_trans ((Nat.le_trans ((Nat.le_of_eq hs29.out.size.symm)) (Nat.le_of_eq hs33.out.size.symm))) hu43.out.size)) hu46.out.size)) (Nat.le_of_eq hs48.out.size.symm))) hu58.out.size)) hu61.out.size)) (Nat.le_of_eq hs63.out.size.symm))) hu79.out.size)) hu88.out.size)) hu95.out.size)) hm165.out.size)) hm399.out.size)) hm437.out.size)) hu444.out.size))) (g k hk))))
  have h509 := (h488.up hu497.out).grow hg504.out (fun k hk => hat454.out.elim (fun e => (fun k hk => Ne.symm ((fun k hk => Nat.ne_of_lt (Nat.lt_of_lt_of_le (Nat.lt_of_lt_of_le ltb44.out ((Nat.le_trans ((Nat.le_trans ((Nat.le_trans ((Nat.le_trans ((Nat.le_trans ((Nat.le_trans ((Nat.le_trans ((Nat.le_trans ((Nat.le_of_eq hs48.out.size.symm)) hu58.out.size)) hu61.out.size)) (Nat.le_of_eq hs63.out.size.symm))) hu79.out.size)) hu88.out.size)) hu95.out.size)) hm165.out.size)) hm399.out.size))) ((fun k hk => Nat.le_trans (Nat.le_refl _) (h447.lt k hk).1) k hk))) k hk)) k (e.symm.trans hk)) (fun g => Nat.ne_of_gt (Nat.lt_of_lt_of_le (Nat.lt_of_lt_of_le ltb44.out ((Nat.le_trans ((Nat.le_trans ((Nat.le_trans ((Nat.le_trans ((Nat.le_trans ((Nat.le_trans ((Nat.le_trans ((Nat.le_trans ((Nat.le_trans ((Nat.le_trans ((Nat.le_of_eq hs48.out.size.symm)) hu58.out.size)) hu61.out.size)) (Nat.le_of_eq hs63.out.size.symm))) hu79.out.size)) hu88.out.size)) hu95.out.size)) hm165.out.size)) hm399.out.size)) hm437.out.size)) hu444.out.size))) (g k hk))))
  have h510 := (h489.up hu497.out).grow hg504.out (fun k hk => hat454.out.elim (fun e => (fun k hk => Ne.symm ((fun k hk => Nat.ne_of_lt (Nat.lt_of_lt_of_le (Nat.lt_of_lt_of_le ltb112.out ((Nat.le_trans ((Nat.le_trans ((Nat.le_trans ((Nat.le_trans ((Nat.le_trans ((Nat.le_trans ((Nat.le_trans ((Nat.le_trans ((Nat.le_trans ((Nat.le_trans ((Nat.le_trans (hu117.out.size) hu120.out.size)) (Nat.le_of_eq hs122.out.size.symm))) (Nat.le_of_eq hs127.out.size.symm))) (Nat.le_of_eq hs132.out.size.symm))) hu142.out.size)) hu145.out.size)) (Nat.le_of_eq hs147.out.size.symm))) hu156.out.size)) hu159.out.size)) (Nat.le_of_eq hs161.out.size.symm))) hm399.out.size))) ((fun k hk => Nat.le_trans (Nat.le_refl _) (h447.lt k hk).1) k hk))) k hk)) k (e.symm.trans hk)) (fun g => Nat.ne_of_gt (Nat.lt_of_lt_of_le (Nat.lt_of_lt_of_le ltb112.out ((Nat.le_trans ((Nat.le_trans ((Nat.le_trans ((Nat.le_trans ((Nat.le_trans ((Nat.le_trans ((Nat.le_trans ((Nat.le_trans ((Nat.le_trans ((Nat.le_trans ((Nat.le_trans ((Nat.le_trans ((Nat.le_trans (hu117.out.size) hu120.out.size)) (Nat.le_of_eq hs122.out.size.symm))) (Nat.le_of_eq hs127.out.size.symm))) (Nat.le_of_eq hs132.out.size.symm))) hu142.out.size)) hu145.out.size)) (Nat.le_of_eq hs147.out.size.symm))) hu156.out.size)) hu159.out.size)) (Nat.le_of_eq hs161.out.size.symm))) hm399.out.size)) hm437.out.size)) hu444.out.size))) (g k hk))))
  have h511 := (h490.up hu497.out).grow hg504.out (fun k hk => hat454.out.elim (fun e => (fun k hk => Ne.symm ((fun k hk => Nat.ne_of_lt (Nat.lt_of_lt_of_le (Nat.lt_of_lt_of_le ltb115.out ((Nat.le_trans ((Nat.le_trans ((Nat.le_trans ((Nat.le_trans ((Nat.le_trans ((Nat.le_trans ((Nat.le_trans ((Nat.le_trans ((Nat.le_trans ((Nat.le_trans (hu120.out.size) (Nat.le_of_eq hs122.out.size.symm))) (Nat.le_of_eq hs127.out.size.symm))) (Nat.le_of_eq hs132.out.size.symm))) hu142.out.size)) hu145.out.size)) (Nat.le_of_eq hs147.out.size.symm))) hu156.out.size)) hu159.out.size)) (Nat.le_of_eq hs161.out.size.symm))) hm399.out.size))) ((fun k hk => Nat.le_trans (Nat.le_refl _) (h447.lt k hk).1) k hk))) k hk)) k (e.symm.trans hk)) (fun g => Nat.ne_of_gt (Nat.lt_of_lt_of_le (Nat.lt_of_lt_of_le ltb115.out ((Nat.le_trans ((Nat.le_trans ((Nat.le_trans ((Nat.le_trans ((Nat.le_trans ((Nat.le_trans ((Nat.le_trans ((Nat.le_trans ((Nat.le_trans ((Nat.le_trans ((Nat.le_trans ((Nat.le_trans (hu120.out.size) (Nat.le_of_eq hs122.out.size.symm))) (Nat.le_of_eq hs127.out.size.symm))) (Nat.le_of_eq hs132.out.size.symm))) hu142.out.size)) hu145.out.size)) (Nat.le_of_eq hs147.out.size.symm))) hu156.out.size)) hu159.out.size)) (Nat.le_of_eq hs161.out.size.symm))) hm399.out.size)) hm437.out.size)) hu444.out.size))) (g k hk))))
  have h512 := (h491.up hu497.out).grow hg504.out (fun k hk => hat454.out.elim (fun e => (fun k hk => Ne.symm ((fun k hk => Nat.ne_of_lt (Nat.lt_of_lt_of_le (Nat.lt_of_lt_of_le ltb118.out ((Nat.le_trans ((Nat.le_trans ((Nat.le_trans ((Nat.le_trans ((Nat.le_trans ((Nat.le_trans ((Nat.le_trans ((Nat.le_trans ((Nat.le_trans ((Nat.le_of_eq hs122.out.size.symm)) (Nat.le_of_eq hs127.out.size.symm))) (Nat.le_of_eq hs132.out.size.symm))) hu142.out.size)) hu145.out.size)) (Nat.le_of_eq hs147.out.size.symm))) hu156.out.size)) hu159.out.size)) (Nat.le_of_eq hs161.out.size.symm))) hm399.out.size))) ((fun k hk => Nat.le_trans (Nat.le_refl _) (h447.lt k hk).1) k hk))) k hk)) k (e.symm.trans hk)) (fun g => Nat.ne_of_gt (Nat.lt_of_lt_of_le (Nat.lt_of_lt_of_le ltb118.out ((Nat.le_trans ((Nat.le_trans ((Nat.le_trans ((Nat.le_trans ((Nat.le_trans ((Nat.le_trans ((Nat.le_trans ((Nat.le_trans ((Nat.le_trans ((Nat.le_trans ((Nat.le_trans ((Nat.le_of_eq hs122.out.size.symm)) (Nat.le_of_eq hs127.out.size.symm))) (Nat.le_of_eq hs132.out.size.symm))) hu142.out.size)) hu145.out.size)) (Nat.le_of_eq hs147.out.size.symm))) hu156.out.size)) hu159.out.size)) (Nat.le_of_eq hs161.out.size.symm))) hm399.out.size)) hm437.out.size)) hu444.out.size))) (g k hk))))
  have h513 := (h492.up hu497.out).grow hg504.out (fun k hk => hat454.out.elim (fun e => (fun k hk => Ne.symm ((fun k hk => Nat.ne_of_lt (Nat.lt_of_lt_of_le (Nat.lt_of_lt_of_le ltb143.out ((Nat.le_trans ((Nat.le_trans ((Nat.le_trans ((Nat.le_trans ((Nat.le_of_eq hs147.out.size.symm)) hu156.out.size)) hu159.out.size)) (Nat.le_of_eq hs161.out.size.symm))) hm399.out.size))) ((fun k hk => Nat.le_trans (Nat.le_refl _) (h447.lt k hk).1) k hk))) k hk)) k (e.symm.trans hk)) (fun g => Nat.ne_of_gt (Nat.lt_of_lt_of_le (Nat.lt_of_lt_of_le ltb143.out ((Nat.le_trans ((Nat.le_trans ((Nat.le_trans ((Nat.le_trans ((Nat.le_trans ((Nat.le_trans ((Nat.le_of_eq hs147.out.size.symm)) hu156.out.size)) hu159.out.size)) (Nat.le_of_eq hs161.out.size.symm))) hm399.out.size)) hm437.out.size)) hu444.out.size))) (g k hk))))
  have h514 := (h493.up hu497.out).grow hg504.out (fun k hk => hat454.out.elim (fun e => (fun k hk => Nat.ne_of_lt (Nat.lt_of_lt_of_le ((fun k hk => Nat.lt_of_lt_of_le (h447.lt k hk).2 (Nat.le_refl _)) k hk) lbb408.out)) k (e.symm.trans hk)) (fun g => Nat.ne_of_gt (Nat.lt_of_lt_of_le (Nat.lt_of_lt_of_le ltb408.out ((Nat.le_trans ((Nat.le_trans ((Nat.le_trans ((Nat.le_trans (hu418.out.size) (Nat.le_of_eq hs420.out.size.symm))) hu427.out.size)) hu433.out.size)) hu444.out.size))) (g k hk))))
  have h515 := hb495.grow hg504.out (fun k hk => Nat.ne_of_lt (Nat.lt_of_lt_of_le ((fun k hk => Nat.lt_of_lt_of_le (h452.lt k hk).2 ((Nat.le_trans ((Nat.le_trans ((Nat.le_trans (hu465.out.size) (Nat.le_of_eq hs467.out.size.symm))) hu474.out.size)) hu480.out.size))) k hk) lbb495.out))
  refine wpp fun k h=>?_;go_simp;apply h;clear h k
  refine wpList_nil (hK461 _ _ ?_)
  refine wp_region_lit ?_
  refine wpp fun k h=>?_;go_simp;apply h;clear h k
  try simp only [show wrap64 2 = 2 from wlit rfl]
  refine wpp fun k h=>?_;go_simp;apply h;clear h k
  refine wpList_nil (hK458 _ _ ?_)
  refine rounds_k (fun K516 hK516 => ?_)
  refine wp_seq_k fun K517 hK517=>wp_region_lit ?_
  refine wpp fun k h=>?_;go_simp;apply h;clear h k
  refine wpList_nil (hK517 _ _ ?_)
  refine wp_seq_k fun K518 hK518=>?_
  refine wp_cond_true (evT rfl rfl) ?_
  refine wp_skip ?_
  refine hK518 _ _ ?_
  refine wp_seq_k fun K519 hK519=>?_
  refine wp_block ?_
  refine wp_seq_k fun K520 hK520=>wp_region_lit ?_
  refine wpp fun k h=>?_;go_simp;apply h;clear h k
  have cl0 := h514.cell (o := 16) rfl
  have cl1 := h514.cell (o := 17) rfl
  have cl2 := h514.cell (o := 18) rfl
  have cl3 := h514.cell (o := 19) rfl
  have cl4 := h514.cell (o := 20) rfl
  have cl5 := h514.cell (o := 21) rfl
  have cl6 := h514.cell (o := 22) rfl
  have cl7 := h514.cell (o := 23) rfl
  refine wpp fun k h=>?_;go_simp;apply h;clear h k
  clear cl0 cl1 cl2 cl3 cl4 cl5 cl6 cl7
  refine step_new (cs := [.int .i64 0, .int .i64 0, .int .i64 0, .int .i64 0, .int .i64 0, .int .i64 0, .int .i64 0, .int .i64 0]) (T := 85) (f := fun b => .pointer (some ⟨b, 0, none⟩)) rfl (by go_simp <;> rfl) ?_
  intro b521 w522 hu lb hb521
  simp only[Act.put,mkT_set]
  have lbb521 := Aside0.mk lb
  have ltb521 := Aside0.mk hb521.lt
  clear lb
  have hu523 := Aside0.mk hu
  clear hu
  have hB0 := hb521
  have cl0 := hB0.cell (o := 0) rfl
  have fr0 := hB0.free 0
  have cl1 := hB0.cell (o := 1) rfl
  have fr1 := hB0.free 1
  have cl2 := hB0.cell (o := 2) rfl
  have fr2 := hB0.free 2
  have cl3 := hB0.cell (o := 3) rfl
  have fr3 := hB0.free 3
  have cl4 := hB0.cell (o := 4) rfl
  have fr4 := hB0.free 4
  have cl5 := hB0.cell (o := 5) rfl
  have fr5 := hB0.free 5
  have cl6 := hB0.cell (o := 6) rfl
  have fr6 := hB0.free 6
  have cl7 := hB0.cell (o := 7) rfl
  have fr7 := hB0.free 7
  refine step_store (b := b521) (cs' := [.int .i64 t178, .int .i64 t179, .int .i64 t182, .int .i64 t183, .int .i64 t180, .int .i64 t181, .int .i64 t184, .int .i64 t185]) (T := 85) (W' := ((((((((w522.setCell ⟨b521, 0, none⟩ (.int .i64 t178)).setCell ⟨b521, 1, none⟩ (.int .i64 t179)).setCell ⟨b521, 2, none⟩ (.int .i64 t182)).setCell ⟨b521, 3, none⟩ (.int .i64 t183)).setCell ⟨b521, 4, none⟩ (.int .i64 t180)).setCell ⟨b521, 5, none⟩ (.int .i64 t181)).setCell ⟨b521, 6, none⟩ (.int .i64 t184)).setCell ⟨b521, 7, none⟩ (.int .i64 t185))) rfl rfl (by go_simp <;> rfl) (((((((((Sto.refl _ _).setCell 0 _).setCell 1 _).setCell 2 _).setCell 3 _).setCell 4 _).setCell 5 _).setCell 6 _).setCell 7 _) (((((((((hB0).setCell 0 _).setCell 1 _).setCell 2 _).setCell 3 _).setCell 4 _).setCell 5 _).setCell 6 _).setCell 7 _) ?_
  clear hB0 cl0 fr0 cl1 fr1 cl2 fr2 cl3 fr3 cl4 fr4 cl5 fr5 cl6 fr6 cl7 fr7
  intro w524 hs hb526
  have hs525 := Aside0.mk hs
  clear hs
  refine wpList_nil (hK520 _ _ ?_)
  refine wp_seq_k fun K527 hK527=>wp_region_lit ?_
  iterate 3 (refine wpp fun k h=>?_;go_simp;apply h;clear h k)
  have cl0 := hb526.cell (o := 0) rfl
  have cl1 := hb526.cell (o := 1) rfl
  refine wpp fun k h=>?_;go_simp;apply h;clear h k
  clear cl0 cl1
  refine wpp fun k h=>?_;go_simp;apply h;clear h k
  have cl0 := hb526.cell (o := 2) rfl
  have cl1 := hb526.cell (o := 3) rfl
  refine wpp fun k h=>?_;go_simp;apply h;clear h k
  clear cl0 cl1
  refine step_call wn (by go_simp <;> rfl) (impl_Quadrance.calls K t176 t177 t178 t179 t182 t183 t528 t529 w524  A530.out) ?_
  rintro e w531 ⟨rfl, hu⟩
  have hu532 := Aside0.mk hu
  clear hu
  refine ⟨_, rfl, ?_⟩
  simp only[Act.put,mkT_set]
  iterate 5 (refine wpp fun k h=>?_;go_simp;apply h;clear h k)
  refine wpList_nil (hK527 _ _ ?_)
  refine wp_seq_k fun K533 hK533=>wp_region_lit ?_
  iterate 3 (refine wpp fun k h=>?_;go_simp;apply h;clear h k)
  have cl0 := (hb526.up hu532.out).cell (o := 4) rfl
  have cl1 := (hb526.up hu532.out).cell (o := 5) rfl
  refine wpp fun k h=>?_;go_simp;apply h;clear h k
  clear cl0 cl1
  refine wpp fun k h=>?_;go_simp;apply h;clear h k
  have cl0 := (hb526.up hu532.out).cell (o := 6) rfl
  have cl1 := (hb526.up hu532.out).cell (o := 7) rfl
  refine wpp fun k h=>?_;go_simp;apply h;clear h k
  clear cl0 cl1
  refine step_call wn (by go_simp <;> rfl) (impl_Quadrance.calls K t176 t177 t180 t181 t184 t185 t534 t535 w531  A536.out) ?_
  rintro e w537 ⟨rfl, hu⟩
  have hu538 := Aside0.mk hu
  clear hu
  refine ⟨_, rfl, ?_⟩
  simp only[Act.put,mkT_set]
  iterate 5 (refine wpp fun k h=>?_;go_simp;apply h;clear h k)
  refine wpList_nil (hK533 _ _ ?_)
  refine wp_seq_k fun K539 hK539=>?_
  refine wp_seq_k fun K540 hK540=>wp_region_lit ?_
  iterate 3 (refine wpp fun k h=>?_;go_simp;apply h;clear h k)
  have hm542 := Aside0.mk ((((((hm484.out.trans hu497.out).grow hg504.out (fun k hk => Nat.le_trans (hm400.out) ((fun k hk => (lb506.out k hk).1) k hk))).trans hu523.out).sto (Nat.le_trans ((Nat.le_trans ((Nat.le_trans (hm485.out) hu497.out.size)) hg504.out.size)) lbb521.out) hs525.out).trans hu532.out).trans hu538.out)
  have hm543 := Aside0.mk (Nat.le_trans ((Nat.le_trans ((Nat.le_trans ((Nat.le_trans ((Nat.le_trans ((Nat.le_trans (hm485.out) hu497.out.size)) hg504.out.size)) hu523.out.size)) (Nat.le_of_eq hs525.out.size.symm))) hu532.out.size)) hu538.out.size)
  have h544 := (h507.up (((hu523.out.sto (Nat.le_trans (Nat.le_refl _) lbb521.out) hs525.out).trans hu532.out).trans hu538.out))
  have h545 := (h508.up (((hu523.out.sto (Nat.le_trans (Nat.le_refl _) lbb521.out) hs525.out).trans hu532.out).trans hu538.out))
  have h546 := (h509.up (((hu523.out.sto (Nat.le_trans (Nat.le_refl _) lbb521.out) hs525.out).trans hu532.out).trans hu538.out))
  have h547 := (h510.up (((hu523.out.sto (Nat.le_trans (Nat.le_refl _) lbb521.out) hs525.out).trans hu532.out).trans hu538.out))
  have h548 := (h511.up (((hu523.out.sto (Nat.le_trans (Nat.le_refl _) lbb521.out) hs525.out).trans hu532.out).trans hu538.out))
  have h549 := (h512.up (((hu523.out.sto (Nat.le_trans (Nat.le_refl _) lbb521.out) hs525.out).trans hu532.out).trans hu538.out))
  have h550 := (h513.up (((hu523.out.sto (Nat.le_trans (Nat.le_refl _) lbb521.out) hs525.out).trans hu532.out).trans hu538.out))
  have h551 := (h514.up (((hu523.out.sto (Nat.le_trans (Nat.le_refl _) lbb521.out) hs525.out).trans hu532.out).trans hu538.out))
  by_cases c541 : (t529 == 0) = true
  rotate_left
  ·
   rw [if_neg c541] at H; replace c541 := Bool.eq_false_iff.mpr c541
   have c541n : (t529 != 0) = true := by rw [bne, c541]; rfl
   have c541p : ¬ t529 = 0 := fun e => by simp [e] at c541
   obtain rfl := Option.some.inj H
   try simp only [c541, c541n, Bool.not_true, Bool.not_false]
   refine step_no (wantT rfl rfl rfl rfl) ?_
   simp only[Act.put,mkT_set]
   refine step_no (wantT rfl rfl rfl rfl) ?_
   simp only[Act.put,mkT_set]
   refine wpp fun k h=>?_;go_simp;apply h;clear h k
   refine wpList_nil (hK540 _ _ ?_)
   refine wp_cond_true (evT rfl rfl) ?_
   refine wp_seq_k fun K609 hK609=>wp_region_lit ?_
   refine wpp fun k h=>?_;go_simp;apply h;clear h k
   refine wpList_nil (hK609 _ _ ?_)
   refine wp_ret ?_
   refine hQf _ _ _ ?_
   exact bodyPost_ret (v := .bool false) (by first|rfl|simp [results, Try.results6, go_sem]<;>rfl) rfl ⟨rfl, hm542.out⟩
  rw [if_pos c541] at H
  have c541n : (t529 != 0) = false := by rw [bne, c541]; rfl
  try simp only [c541, c541n, Bool.not_true, Bool.not_false]
  refine BigFrame.wpList_want (wantT rfl rfl rfl rfl) fun k h=>?_;go_simp;apply h;clear h k
  refine BigFrame.wpList_want (wantT rfl rfl rfl rfl) fun k h=>?_;go_simp;apply h;clear h k
  refine wpp fun k h=>?_;go_simp;apply h;clear h k
  refine wpList_nil (hK540 _ _ ?_)
  by_cases c552 : (t535 == 0) = true
  rotate_left
  ·
   rw [if_neg c552] at H; replace c552 := Bool.eq_false_iff.mpr c552
   have c552n : (t535 != 0) = true := by rw [bne, c552]; rfl
   have c552p : ¬ t535 = 0 := fun e => by simp [e] at c552
   obtain rfl := Option.some.inj H
   try simp only [c552, c552n, Bool.not_true, Bool.not_false]
   refine wp_cond_true (evT rfl rfl) ?_
   refine wp_seq_k fun K608 hK608=>wp_region_lit ?_
   refine wpp fun k h=>?_;go_simp;apply h;clear h k
   refine wpList_nil (hK608 _ _ ?_)
   refine wp_ret ?_
   refine hQf _ _ _ ?_
   exact bodyPost_ret (v := .bool false) (by first|rfl|simp [results, Try.results6, go_sem]<;>rfl) rfl ⟨rfl, hm542.out⟩
  rw [if_pos c552] at H
  have c552n : (t535 != 0) = false := by rw [bne, c552]; rfl
  try simp only [c552, c552n, Bool.not_true, Bool.not_false]
  refine wp_cond_false (evT rfl rfl) ?_
  refine wp_skip ?_
  refine hK539 _ _ ?_
  refine wp_region_lit ?_
  iterate 6 (refine wpp fun k h=>?_;go_simp;apply h;clear h k)
  refine step_new (cs := [.int .i64 (Int.tmod (wrap64 (t528 * t534)) t176)]) (T := 2) (f := fun b => .slice (some ⟨b, 0, none⟩) 1 1) rfl (by go_simp <;> rfl) ?_
  intro b553 w554 hu lb hb553
  simp only[Act.put,mkT_set]
  have lbb553 := Aside0.mk lb
  have ltb553 := Aside0.mk hb553.lt
  clear lb
  have hu555 := Aside0.mk hu
  clear hu
  by_cases c556 : (decide (((([] : List (Int)) ++ [Int.tmod (wrap64 (t423 * t429)) t176]) ++ [Int.tmod (wrap64 (t470 * t476)) t176]).length ≤ 1000000)) = true
  rotate_left
  ·
   rw [if_neg c556] at H; replace c556 := Bool.eq_false_iff.mpr c556
   exact absurd H (by simp)
  rw [if_pos c556] at H
  obtain ⟨t578,A579,H⟩:=Option.bind_eq_some_iff.mp H
  replace A579:=Aside0.mk A579;try dsimp only at H
  obtain ⟨t584,A585,H⟩:=Option.bind_eq_some_iff.mp H
  replace A585:=Aside0.mk A585;try dsimp only at H
  obtain ⟨t590,A591,H⟩:=Option.bind_eq_some_iff.mp H
  replace A591:=Aside0.mk A591;try dsimp only at H
  obtain ⟨⟨t596, t597⟩,A598,H⟩:=Option.bind_eq_some_iff.mp H
  replace A598:=Aside0.mk A598;try dsimp only at H
  try simp only [c556, Bool.not_true, Bool.not_false]
  have hO0 := Aside0.mk (h503.up ((((hu523.out.sto (Nat.le_trans (Nat.le_refl _) lbb521.out) hs525.out).trans hu532.out).trans hu538.out).trans hu555.out))
  refine step_append eI (z := .int .i64 0) (bytes := 8) (base := w231.heap.size) (xs := ((([] : List (Int)) ++ [Int.tmod (wrap64 (t423 * t429)) t176]) ++ [Int.tmod (wrap64 (t470 * t476)) t176])) (ys := [Int.tmod (wrap64 (t528 * t534)) t176]) wn _ _ rfl rfl (by kernel_rfl) rfl (by decide) (evT rfl rfl) (evT rfl rfl) rfl hO0.out (Rd.of_blk (E := eI) (xs := [Int.tmod (wrap64 (t528 * t534)) t176]) (o := 0) hb553 (by simp) (fun j u hu => by revert hu;rcases j with _ | j <;> simp [Enc.flat, eI])) ((Nat.le_trans ((Nat.le_trans ((Nat.le_trans ((Nat.le_trans ((Nat.le_trans ((Nat.le_trans ((Nat.le_trans ((Nat.le_trans ((Nat.le_trans ((Nat.le_trans ((Nat.le_trans ((Nat.le_trans ((Nat.le_trans (hm437.out.size) hu444.out.size)) hg453.out.size)) hu465.out.size)) (Nat.le_of_eq hs467.out.size.symm))) hu474.out.size)) hu480.out.size)) hu497.out.size)) hg504.out.size)) hu523.out.size)) (Nat.le_of_eq hs525.out.size.symm))) hu532.out.size)) hu538.out.size)) hu555.out.size)) (by have h0_ := (of_decide_eq_true (by assumption) : ((([] : List (Int)) ++ [Int.tmod (wrap64 (t423 * t429)) t176]) ++ [Int.tmod (wrap64 (t470 * t476)) t176]).length ≤ 1000000); (try simp only [List.length_cons, List.length_nil]); omega) ?_
  intro P557 q558 w559 h561 hg hat
  have hg562 := Aside0.mk hg
  have hat563 := Aside0.mk hat
  simp only[Act.put,mkT_set]
  have lb564 := Aside0.mk hO0.out.lt
  clear hO0 hg hat
  have h565 := (h544.up hu555.out).grow hg562.out (fun k hk => hat505.out.elim (fun e => (fun k hk => hat454.out.elim (fun e => (fun k hk => Ne.symm ((fun k hk => Nat.ne_of_lt (Nat.lt_of_lt_of_le (Nat.lt_of_lt_of_le ltb22.out ((Nat.le_trans ((Nat.le_trans ((Nat.le_trans ((Nat.le_trans ((Nat.le_trans ((Nat.le_trans ((Nat.le_trans ((Nat.le_trans ((Nat.le_trans ((Nat.le_trans ((Nat.le_trans ((Nat.le_trans ((Nat.le_trans (hu27.out.size) (Nat.le_of_eq hs29.out.size.symm))) (Nat.le_of_eq hs33.out.size.symm))) hu43.out.size)) hu46.out.size)) (Nat.le_of_eq hs48.out.size.symm))) hu58.out.size)) hu61.out.size)) (Nat.le_of_eq hs63.out.size.symm))) hu79.out.size)) hu88.out.size)) hu95.out.size)) hm165.out.size)) hm399.out.size))) ((fun k hk => Nat.le_trans (Nat.le_refl _) (h447.lt k hk).1) k hk))) k hk)) k (e.symm.trans hk)) (fun g => Nat.ne_of_gt (Nat.lt_of_lt_of_le (Nat.lt_of_lt_of_le ltb22.out ((Nat.le_trans ((Nat.le_trans ((Nat.le_trans ((Nat.le_trans ((Nat.le_trans ((Nat.le_trans ((Nat.le_trans ((Nat.le_trans ((Nat.le_trans ((Nat.le_trans ((Nat.le_trans ((Nat.le_trans ((Nat.le_trans ((Nat.le_trans ((Nat.le_trans (hu27.out.size) (Nat.le_of_eq hs29.out.size.symm))) (Nat.le_of_eq hs33.out.size.symm))) hu43.out.size)) hu46.out.size)) (Nat.le_of_eq hs48.out.size.symm))) hu58.out.size)) hu61.out.size)) (Nat.le_of_eq hs63.out.size.symm))) hu79.out.size)) hu88.out.size)) hu95.out.size)) hm165.out.size)) hm399.out.size)) hm437.out.size)) hu444.out.size))) (g k hk)))) k (e.symm.trans hk)) (fun g => Nat.ne_of_gt (Nat.lt_of_lt_of_le (Nat.lt_of_lt_of_le ltb22.out ((Nat.le_trans ((Nat.le_trans ((Nat.le_trans ((Nat.le_trans ((Nat.le_trans ((Nat.le_trans ((Nat.le_trans ((Nat.le_trans ((Nat.le_trans ((Nat.le_trans ((Nat.le_trans ((Nat.le_trans ((Nat.le_trans ((Nat.le_trans ((Nat.le_trans ((Nat.le_trans ((Nat.le_trans ((Nat.le_trans ((Nat.le_trans ((Nat.le_trans ((Nat.le_trans (hu27.out.size) (Nat.le_of_eq hs29.out.size.symm))) (Nat.le_of_eq hs33.out.size.symm))) hu43.out.size)) hu46.out.size)) (Nat.le_of_eq hs48.out.size.symm))) hu58.out.size)) hu61.out.size)) (Nat.le_of_eq hs63.out.size.symm))) hu79.out.size)) hu88.out.size)) hu95.out.size)) hm165.out.size)) hm399.out.size)) hm437.out.size)) hu444.out.size)) hg453.out.size)) hu465.out.size)) (Nat.le_of_eq hs467.out.size.symm))) hu474.out.size)) hu480.out.size)) hu497.out.size))) (g k hk))))
  have h566 := (h545.up hu555.out).grow hg562.out (fun k hk => hat505.out.elim (fun e => (fun k hk => hat454.out.elim (fun e => (fun k hk => Ne.symm ((fun k hk => Nat.ne_of_lt (Nat.lt_of_lt_of_le (Nat.lt_of_lt_of_le ltb25.out ((Nat.le_trans ((Nat.le_trans ((Nat.le_trans ((Nat.le_trans ((Nat.le_trans ((Nat.le_trans ((Nat.le_trans ((Nat.le_trans ((Nat.le_trans ((Nat.le_trans ((Nat.le_trans ((Nat.le_trans ((Nat.le_of_eq hs29.out.size.symm)) (Nat.le_of_eq hs33.out.size.symm))) hu43.out.size)) hu46.out.size)) (Nat.le_of_eq hs48.out.size.symm))) hu58.out.size)) hu61.out.size)) (Nat.le_of_eq hs63.out.size.symm))) hu79.out.size)) hu88.out.size)) hu95.out.size)) hm165.out.size)) hm399.out.size))) ((fun k hk => Nat.le_trans (Nat.le_refl _) (h447.lt k hk).1) k hk))) k hk)) k (e.symm.trans hk)) (fun g => Nat.ne_of_gt (Nat.lt_of_lt_of_le (Nat.lt_of_lt_of_le ltb25.out ((Nat.le_trans ((Nat.le_trans ((Nat.le_trans ((Nat.le_trans ((Nat.le_trans ((Nat.le_trans ((Nat.le_trans ((Nat.le_trans ((Nat.le_trans ((Nat.le_trans ((Nat.le_trans ((Nat.le_trans ((Nat.le_trans ((Nat.le_trans ((Nat.le_of_eq hs29.out.size.symm)) (Nat.le_of_eq hs33.out.size.symm))) hu43.out.size)) hu46.out.size)) (Nat.le_of_eq hs48.out.size.symm))) hu58.out.size)) hu61.out.size)) (Nat.le_of_eq hs63.out.size.symm))) hu79.out.size)) hu88.out.size)) hu95.out.size)) hm165.out.size)) hm399.out.size)) hm437.out.size)) hu444.out.size))) (g k hk)))) k (e.symm.trans hk)) (fun g => Nat.ne_of_gt (Nat.lt_of_lt_of_le (Nat.lt_of_lt_of_le ltb25.out ((Nat.le_trans ((Nat.le_trans ((Nat.le_trans ((Nat.le_trans ((Nat.le_trans ((Nat.le_trans ((Nat.le_trans ((Nat.le_trans ((Nat.le_trans ((Nat.le_trans ((Nat.le_trans ((Nat.le_trans ((Nat.le_trans ((Nat.le_trans ((Nat.le_trans ((Nat.le_trans ((Nat.le_trans ((Nat.le_trans ((Nat.le_trans ((Nat.le_trans ((Nat.le_of_eq hs29.out.size.symm)) (Nat.le_of_eq hs33.out.size.symm))) hu43.out.size)) hu46.out.size)) (Nat.le_of_eq hs48.out.size.symm))) hu58.out.size)) hu61.out.size)) (Nat.le_of_eq hs63.out.size.symm))) hu79.out.size)) hu88.out.size)) hu95.out.size)) hm165.out.size)) hm399.out.size)) hm437.out.size)) hu444.out.size)) hg453.out.size)) hu465.out.size)) (Nat.le_of_eq hs467.out.size.symm))) hu474.out.size)) hu480.out.size)) hu497.out.size))) (g k hk))))
  have h567 := (h546.up hu555.out).grow hg562.out (fun k hk => hat505.out.elim (fun e => (fun k hk => hat454.out.elim (fun e => (fun k hk => Ne.symm ((fun k hk => Nat.ne_of_lt (Nat.lt_of_lt_of_le (Nat.lt_of_lt_of_le ltb44.out ((Nat.le_trans ((Nat.le_trans ((Nat.le_trans ((Nat.le_trans ((Nat.le_trans ((Nat.le_trans ((Nat.le_trans ((Nat.le_trans ((Nat.le_of_eq hs48.out.size.symm)) hu58.out.size)) hu61.out.size)) (Nat.le_of_eq hs63.out.size.symm))) hu79.out.size)) hu88.out.size)) hu95.out.size)) hm165.out.size)) hm399.out.size))) ((fun k hk => Nat.le_trans (Nat.le_refl _) (h447.lt k hk).1) k hk))) k hk)) k (e.symm.trans hk)) (fun g => Nat.ne_of_gt (Nat.lt_of_lt_of_le (Nat.lt_of_lt_of_le ltb44.out ((Nat.le_trans ((Nat.le_trans ((Nat.le_trans ((Nat.le_trans ((Nat.le_trans ((Nat.le_trans ((Nat.le_trans ((Nat.le_trans ((Nat.le_trans ((Nat.le_trans ((Nat.le_of_eq hs48.out.size.symm)) hu58.out.size)) hu61.out.size)) (Nat.le_of_eq hs63.out.size.symm))) hu79.out.size)) hu88.out.size)) hu95.out.size)) hm165.out.size)) hm399.out.size)) hm437.out.size)) hu444.out.size))) (g k hk)))) k (e.symm.trans hk)) (fun g => Nat.ne_of_gt (Nat.lt_of_lt_of_le (Nat.lt_of_lt_of_le ltb44.out ((Nat.le_trans ((Nat.le_trans ((Nat.le_trans ((Nat.le_trans ((Nat.le_trans ((Nat.le_trans ((Nat.le_trans ((Nat.le_trans ((Nat.le_trans ((Nat.le_trans ((Nat.le_trans ((Nat.le_trans ((Nat.le_trans ((Nat.le_trans ((Nat.le_trans ((Nat.le_trans ((Nat.le_of_eq hs48.out.size.symm)) hu58.out.size)) hu61.out.size)) (Nat.le_of_eq hs63.out.size.symm))) hu79.out.size)) hu88.out.size)) hu95.out.size)) hm165.out.size)) hm399.out.size)) hm437.out.size)) hu444.out.size)) hg453.out.size)) hu465.out.size)) (Nat.le_of_eq hs467.out.size.symm))) hu474.out.size)) hu480.out.size)) hu497.out.size))) (g k hk))))
  have h568 := (h547.up hu555.out).grow hg562.out (fun k hk => hat505.out.elim (fun e => (fun k hk => hat454.out.elim (fun e => (fun k hk => Ne.symm ((fun k hk => Nat.ne_of_lt (Nat.lt_of_lt_of_le (Nat.lt_of_lt_of_le ltb112.out ((Nat.le_trans ((Nat.le_trans ((Nat.le_trans ((Nat.le_trans ((Nat.le_trans ((Nat.le_trans ((Nat.le_trans ((Nat.le_trans ((Nat.le_trans ((Nat.le_trans ((Nat.le_trans (hu117.out.size) hu120.out.size)) (Nat.le_of_eq hs122.out.size.symm))) (Nat.le_of_eq hs127.out.size.symm))) (Nat.le_of_eq hs132.out.size.symm))) hu142.out.size)) hu145.out.size)) (Nat.le_of_eq hs147.out.size.symm))) hu156.out.size)) hu159.out.size)) (Nat.le_of_eq hs161.out.size.symm))) hm399.out.size))) ((fun k hk => Nat.le_trans (Nat.le_refl _) (h447.lt k hk).1) k hk))) k hk)) k (e.symm.trans hk)) (fun g => Nat.ne_of_gt (Nat.lt_of_lt_of_le (Nat.lt_of_lt_of_le ltb112.out ((Nat.le_trans ((Nat.le_trans ((Nat.le_trans ((Nat.le_trans ((Nat.le_trans ((Nat.le_trans ((Nat.le_trans ((Nat.le_trans ((Nat.le_trans ((Nat.le_trans ((Nat.le_trans ((Nat.le_trans ((Nat.le_trans (hu117.out.size) hu120.out.size)) (Nat.le_of_eq hs122.out.size.symm))) (Nat.le_of_eq hs127.out.size.symm))) (Nat.le_of_eq hs132.out.size.symm))) hu142.out.size)) hu145.out.size)) (Nat.le_of_eq hs147.out.size.symm))) hu156.out.size)) hu159.out.size)) (Nat.le_of_eq hs161.out.size.symm))) hm399.out.size)) hm437.out.size)) hu444.out.size))) (g k hk)))) k (e.symm.trans hk)) (fun g => Nat.ne_of_gt (Nat.lt_of_lt_of_le (Nat.lt_of_lt_of_le ltb112.out ((Nat.le_trans ((Nat.le_trans ((Nat.le_trans ((Nat.le_trans ((Nat.le_trans ((Nat.le_trans ((Nat.le_trans ((Nat.le_trans ((Nat.le_trans ((Nat.le_trans ((Nat.le_trans ((Nat.le_trans ((Nat.le_trans ((Nat.le_trans ((Nat.le_trans ((Nat.le_trans ((Nat.le_trans ((Nat.le_trans ((Nat.le_trans (hu117.out.size) hu120.out.size)) (Nat.le_of_eq hs122.out.size.symm))) (Nat.le_of_eq hs127.out.size.symm))) (Nat.le_of_eq hs132.out.size.symm))) hu142.out.size)) hu145.out.size)) (Nat.le_of_eq hs147.out.size.symm))) hu156.out.size)) hu159.out.size)) (Nat.le_of_eq hs161.out.size.symm))) hm399.out.size)) hm437.out.size)) hu444.out.size)) hg453.out.size)) hu465.out.size)) (Nat.le_of_eq hs467.out.size.symm))) hu474.out.size)) hu480.out.size)) hu497.out.size))) (g k hk))))
  have h569 := (h548.up hu555.out).grow hg562.out (fun k hk => hat505.out.elim (fun e => (fun k hk => hat454.out.elim (fun e => (fun k hk => Ne.symm ((fun k hk => Nat.ne_of_lt (Nat.lt_of_lt_of_le (Nat.lt_of_lt_of_le ltb115.out ((Nat.le_trans ((Nat.le_trans ((Nat.le_trans ((Nat.le_trans ((Nat.le_trans ((Nat.le_trans ((Nat.le_trans ((Nat.le_trans ((Nat.le_trans ((Nat.le_trans (hu120.out.size) (Nat.le_of_eq hs122.out.size.symm))) (Nat.le_of_eq hs127.out.size.symm))) (Nat.le_of_eq hs132.out.size.symm))) hu142.out.size)) hu145.out.size)) (Nat.le_of_eq hs147.out.size.symm))) hu156.out.size)) hu159.out.size)) (Nat.le_of_eq hs161.out.size.symm))) hm399.out.size))) ((fun k hk => Nat.le_trans (Nat.le_refl _) (h447.lt k hk).1) k hk))) k hk)) k (e.symm.trans hk)) (fun g => Nat.ne_of_gt (Nat.lt_of_lt_of_le (Nat.lt_of_lt_of_le ltb115.out ((Nat.le_trans ((Nat.le_trans ((Nat.le_trans ((Nat.le_trans ((Nat.le_trans ((Nat.le_trans ((Nat.le_trans ((Nat.le_trans ((Nat.le_trans ((Nat.le_trans ((Nat.le_trans ((Nat.le_trans (hu120.out.size) (Nat.le_of_eq hs122.out.size.symm))) (Nat.le_of_eq hs127.out.size.symm))) (Nat.le_of_eq hs132.out.size.symm))) hu142.out.size)) hu145.out.size)) (Nat.le_of_eq hs147.out.size.symm))) hu156.out.size)) hu159.out.size)) (Nat.le_of_eq hs161.out.size.symm))) hm399.out.size)) hm437.out.size)) hu444.out.size))) (g k hk)))) k (e.symm.trans hk)) (fun g => Nat.ne_of_gt (Nat.lt_of_lt_of_le (Nat.lt_of_lt_of_le ltb115.out ((Nat.le_trans ((Nat.le_trans ((Nat.le_trans ((Nat.le_trans ((Nat.le_trans ((Nat.le_trans ((Nat.le_trans ((Nat.le_trans ((Nat.le_trans ((Nat.le_trans ((Nat.le_trans ((Nat.le_trans ((Nat.le_trans ((Nat.le_trans ((Nat.le_trans ((Nat.le_trans ((Nat.le_trans ((Nat.le_trans (hu120.out.size) (Nat.le_of_eq hs122.out.size.symm))) (Nat.le_of_eq hs127.out.size.symm))) (Nat.le_of_eq hs132.out.size.symm))) hu142.out.size)) hu145.out.size)) (Nat.le_of_eq hs147.out.size.symm))) hu156.out.size)) hu159.out.size)) (Nat.le_of_eq hs161.out.size.symm))) hm399.out.size)) hm437.out.size)) hu444.out.size)) hg453.out.size)) hu465.out.size)) (Nat.le_of_eq hs467.out.size.symm))) hu474.out.size)) hu480.out.size)) hu497.out.size))) (g k hk))))
  have h570 := (h549.up hu555.out).grow hg562.out (fun k hk => hat505.out.elim (fun e => (fun k hk => hat454.out.elim (fun e => (fun k hk => Ne.symm ((fun k hk => Nat.ne_of_lt (Nat.lt_of_lt_of_le (Nat.lt_of_lt_of_le ltb118.out ((Nat.le_trans ((Nat.le_trans ((Nat.le_trans ((Nat.le_trans ((Nat.le_trans ((Nat.le_trans ((Nat.le_trans ((Nat.le_trans ((Nat.le_trans ((Nat.le_of_eq hs122.out.size.symm)) (Nat.le_of_eq hs127.out.size.symm))) (Nat.le_of_eq hs132.out.size.symm))) hu142.out.size)) hu145.out.size)) (Nat.le_of_eq hs147.out.size.symm))) hu156.out.size)) hu159.out.size)) (Nat.le_of_eq hs161.out.size.symm))) hm399.out.size))) ((fun k hk => Nat.le_trans (Nat.le_refl _) (h447.lt k hk).1) k hk))) k hk)) k (e.symm.trans hk)) (fun g => Nat.ne_of_gt (Nat.lt_of_lt_of_le (Nat.lt_of_lt_of_le ltb118.out ((Nat.le_trans ((Nat.le_trans ((Nat.le_trans ((Nat.le_trans ((Nat.le_trans ((Nat.le_trans ((Nat.le_trans ((Nat.le_trans ((Nat.le_trans ((Nat.le_trans ((Nat.le_trans ((Nat.le_of_eq hs122.out.size.symm)) (Nat.le_of_eq hs127.out.size.symm))) (Nat.le_of_eq hs132.out.size.symm))) hu142.out.size)) hu145.out.size)) (Nat.le_of_eq hs147.out.size.symm))) hu156.out.size)) hu159.out.size)) (Nat.le_of_eq hs161.out.size.symm))) hm399.out.size)) hm437.out.size)) hu444.out.size))) (g k hk)))) k (e.symm.trans hk)) (fun g => Nat.ne_of_gt (Nat.lt_of_lt_of_le (Nat.lt_of_lt_of_le ltb118.out ((Nat.le_trans ((Nat.le_trans ((Nat.le_trans ((Nat.le_trans ((Nat.le_trans ((Nat.le_trans ((Nat.le_trans ((Nat.le_trans ((Nat.le_trans ((Nat.le_trans ((Nat.le_trans ((Nat.le_trans ((Nat.le_trans ((Nat.le_trans ((Nat.le_trans ((Nat.le_trans ((Nat.le_trans ((Nat.le_of_eq hs122.out.size.symm)) (Nat.le_of_eq hs127.out.size.symm))) (Nat.le_of_eq hs132.out.size.symm))) hu142.out.size)) hu145.out.size)) (Nat.le_of_eq hs147.out.size.symm))) hu156.out.size)) hu159.out.size)) (Nat.le_of_eq hs161.out.size.symm))) hm399.out.size)) hm437.out.size)) hu444.out.size)) hg453.out.size)) hu465.out.size)) (Nat.le_of_eq hs467.out.size.symm))) hu474.out.size)) hu480.out.size)) hu497.out.size))) (g k hk))))
  have h571 := (h550.up hu555.out).grow hg562.out (fun k hk => hat505.out.elim (fun e => (fun k hk => hat454.out.elim (fun e => (fun k hk => Ne.symm ((fun k hk => Nat.ne_of_lt (Nat.lt_of_lt_of_le (Nat.lt_of_lt_of_le ltb143.out ((Nat.le_trans ((Nat.le_trans ((Nat.le_trans ((Nat.le_trans ((Nat.le_of_eq hs147.out.size.symm)) hu156.out.size)) hu159.out.size)) (Nat.le_of_eq hs161.out.size.symm))) hm399.out.size))) ((fun k hk => Nat.le_trans (Nat.le_refl _) (h447.lt k hk).1) k hk))) k hk)) k (e.symm.trans hk)) (fun g => Nat.ne_of_gt (Nat.lt_of_lt_of_le (Nat.lt_of_lt_of_le ltb143.out ((Nat.le_trans ((Nat.le_trans ((Nat.le_trans ((Nat.le_trans ((Nat.le_trans ((Nat.le_trans ((Nat.le_of_eq hs147.out.size.symm)) hu156.out.size)) hu159.out.size)) (Nat.le_of_eq hs161.out.size.symm))) hm399.out.size)) hm437.out.size)) hu444.out.size))) (g k hk)))) k (e.symm.trans hk)) (fun g => Nat.ne_of_gt (Nat.lt_of_lt_of_le (Nat.lt_of_lt_of_le ltb143.out ((Nat.le_trans ((Nat.le_trans ((Nat.le_trans ((Nat.le_trans ((Nat.le_trans ((Nat.le_trans ((Nat.le_trans ((Nat.le_trans ((Nat.le_trans ((Nat.le_trans ((Nat.le_trans ((Nat.le_trans ((Nat.le_of_eq hs147.out.size.symm)) hu156.out.size)) hu159.out.size)) (Nat.le_of_eq hs161.out.size.symm))) hm399.out.size)) hm437.out.size)) hu444.out.size)) hg453.out.size)) hu465.out.size)) (Nat.le_of_eq hs467.out.size.symm))) hu474.out.size)) hu480.out.size)) hu497.out.size))) (g k hk))))
  have h572 := (h551.up hu555.out).grow hg562.out (fun k hk => hat505.out.elim (fun e => (fun k hk => hat454.out.elim (fun e => (fun k hk => Nat.ne_of_lt (Nat.lt_of_lt_of_le ((fun k hk => Nat.lt_of_lt_of_le (h447.lt k hk).2 (Nat.le_refl _)) k hk) lbb408.out)) k (e.symm.trans hk)) (fun g => Nat.ne_of_gt (Nat.lt_of_lt_of_le (Nat.lt_of_lt_of_le ltb408.out ((Nat.le_trans ((Nat.le_trans ((Nat.le_trans ((Nat.le_trans (hu418.out.size) (Nat.le_of_eq hs420.out.size.symm))) hu427.out.size)) hu433.out.size)) hu444.out.size))) (g k hk)))) k (e.symm.trans hk)) (fun g => Nat.ne_of_gt (Nat.lt_of_lt_of_le (Nat.lt_of_lt_of_le ltb408.out ((Nat.le_trans ((Nat.le_trans ((Nat.le_trans ((Nat.le_trans ((Nat.le_trans ((Nat.le_trans ((Nat.le_trans ((Nat.le_trans ((Nat.le_trans ((Nat.le_trans (hu418.out.size) (Nat.le_of_eq hs420.out.size.symm))) hu427.out.size)) hu433.out.size)) hu444.out.size)) hg453.out.size)) hu465.out.size)) (Nat.le_of_eq hs467.out.size.symm))) hu474.out.size)) hu480.out.size)) hu497.out.size))) (g k hk))))
  have h573 := hb553.grow hg562.out (fun k hk => Nat.ne_of_lt (Nat.lt_of_lt_of_le ((fun k hk => Nat.lt_of_lt_of_le (h503.lt k hk).2 ((Nat.le_trans ((Nat.le_trans ((Nat.le_trans (hu523.out.size) (Nat.le_of_eq hs525.out.size.symm))) hu532.out.size)) hu538.out.size))) k hk) lbb553.out))
  refine wpp fun k h=>?_;go_simp;apply h;clear h k
  refine wpList_nil (hK519 _ _ ?_)
  refine wp_region_lit ?_
  refine wpp fun k h=>?_;go_simp;apply h;clear h k
  try simp only [show wrap64 3 = 3 from wlit rfl]
  refine wpp fun k h=>?_;go_simp;apply h;clear h k
  refine wpList_nil (hK516 _ _ ?_)
  refine rounds_k (fun K574 hK574 => ?_)
  refine wp_seq_k fun K575 hK575=>wp_region_lit ?_
  refine wpp fun k h=>?_;go_simp;apply h;clear h k
  refine wpList_nil (hK575 _ _ ?_)
  refine wp_seq_k fun K576 hK576=>?_
  refine wp_cond_false (evT rfl rfl) ?_
  refine wp_exit ?_
  refine hK406 _ _ ?_
  refine wp_seq_k fun K577 hK577=>?_
  obtain ⟨ad580, hat, he⟩ := rd_at h561.rd A579.out
  have he581 := Aside0.mk he
  have hat583 := Aside0.mk hat
  clear he hat
  obtain ⟨ad586, hat, he⟩ := rd_at h561.rd A585.out
  have he587 := Aside0.mk he
  have hat589 := Aside0.mk hat
  clear he hat
  obtain ⟨ad592, hat, he⟩ := rd_at h561.rd A591.out
  have he593 := Aside0.mk he
  have hat595 := Aside0.mk hat
  clear he hat
  refine' wp_region_up 16 [Slot.det _, Slot.det _, Slot.det (.pointer (some ad580)), Slot.det _, Slot.det _, Slot.det (.pointer (some ad586)), Slot.det _, Slot.det _, Slot.det (.pointer (some ad592)), Slot.det _, Slot.det (.tuple #[.int .i64 t596, .int .i64 t597]), Slot.det _, Slot.det _, Slot.det _, Slot.det _, Slot.det _] (by kernel_rfl) (by kernel_rfl) ?main
  case main =>
   simp only [List.take_succ_cons, List.take_zero]
   refine wpK_ops rfl (fun w1 hu => ?_) ?_
   · clear hu
     go_simp
     first | done | rfl
   simp only[Act.put,mkT_set]
   refine wpK_ops rfl (fun w1 hu => ?_) ?_
   · clear hu
     go_simp
     first | done | rfl
   simp only[Act.put,mkT_set]
   refine wpK_ops rfl (fun w1 hu => ?_) ?_
   · exact quiet_index eI (T := 2) rfl (by kernel_rfl) (by kernel_rfl) (evT rfl rfl) rfl rfl hat583.out A579.out
   simp only[Act.put,mkT_set]
   refine wpK_ops rfl (fun w1 hu => ?_) ?_
   · have cl0 := he581.out 0 _ rfl
     rw [addr_add0] at cl0
     replace cl0 := (((Up.refl _).drew.trans hu)).kept cl0
     go_simp
     first | done | rfl
   simp only[Act.put,mkT_set]
   refine wpK_ops rfl (fun w1 hu => ?_) ?_
   · clear hu
     go_simp
     first | done | rfl
   simp only[Act.put,mkT_set]
   refine wpK_ops rfl (fun w1 hu => ?_) ?_
   · exact quiet_index eI (T := 2) rfl (by kernel_rfl) (by kernel_rfl) (evT rfl rfl) rfl rfl hat589.out A585.out
   simp only[Act.put,mkT_set]
   refine wpK_ops rfl (fun w1 hu => ?_) ?_
   · have cl0 := he587.out 0 _ rfl
     rw [addr_add0] at cl0
     replace cl0 := (((Up.refl _).drew.trans hu)).kept cl0
     go_simp
     first | done | rfl
   simp only[Act.put,mkT_set]
   refine wpK_ops rfl (fun w1 hu => ?_) ?_
   · clear hu
     go_simp
     first | done | rfl
   simp only[Act.put,mkT_set]
   refine wpK_ops rfl (fun w1 hu => ?_) ?_
   · exact quiet_index eI (T := 2) rfl (by kernel_rfl) (by kernel_rfl) (evT rfl rfl) rfl rfl hat595.out A591.out
   simp only[Act.put,mkT_set]
   refine wpK_ops rfl (fun w1 hu => ?_) ?_
   · have cl0 := he593.out 0 _ rfl
     rw [addr_add0] at cl0
     replace cl0 := (((Up.refl _).drew.trans hu)).kept cl0
     go_simp
     first | done | rfl
   simp only[Act.put,mkT_set]
   refine wpK_ops rfl (fun w1 hu => ?_) ?_
   · have hcl := (impl_ArchimedesOf.calls K t176 t578 t584 t590 t596 t597 w1  A598.out)
     clear hu
     replace hcl := Aside0.mk hcl
     go_simp
     exact hcl.out
   simp only[Act.put,mkT_set]
   refine wpK_ops rfl (fun w1 hu => ?_) ?_
   · clear hu
     go_simp
     first | done | rfl
   simp only[Act.put,mkT_set]
   refine wpK_ops rfl (fun w1 hu => ?_) ?_
   · clear hu
     go_simp
     first | done | rfl
   simp only[Act.put,mkT_set]
   refine wpK_ops rfl (fun w1 hu => ?_) ?_
   · clear hu
     go_simp
     first | done | rfl
   simp only[Act.put,mkT_set]
   refine wpK_ops rfl (fun w1 hu => ?_) ?_
   · clear hu
     go_simp
     first | done | rfl
   simp only[Act.put,mkT_set]
   refine wpK_ops rfl (fun w1 hu => ?_) ?_
   · clear hu
     go_simp
     first | done | rfl
   simp only[Act.put,mkT_set]
   refine wpK_nil ?_
   intro w599 hu hap
   simp only [List.drop_succ_cons, List.drop_zero]
   replace hu := (Up.refl _).drew.trans hu
   clear hap
   have hu600 := Aside0.mk hu
   clear hu
   refine wpList_nil (hK577 _ _ ?_)
   refine wp_seq_k fun K601 hK601=>wp_region_lit ?_
   iterate 3 (refine wpp fun k h=>?_;go_simp;apply h;clear h k)
   have hm603 := Aside0.mk (((hm542.out.trans hu555.out).grow hg562.out (fun k hk => Nat.le_trans (hm400.out) ((fun k hk => (lb564.out k hk).1) k hk))).trans hu600.out)
   have hm604 := Aside0.mk (Nat.le_trans ((Nat.le_trans ((Nat.le_trans (hm543.out) hu555.out.size)) hg562.out.size)) hu600.out.size)
   by_cases c602 : (t597 == 0) = true
   rotate_left
   ·
    rw [if_neg c602] at H; replace c602 := Bool.eq_false_iff.mpr c602
    have c602n : (t597 != 0) = true := by rw [bne, c602]; rfl
    have c602p : ¬ t597 = 0 := fun e => by simp [e] at c602
    obtain rfl := Option.some.inj H
    try simp only [c602, c602n, Bool.not_true, Bool.not_false]
    refine step_no (wantT rfl rfl rfl rfl) ?_
    simp only[Act.put,mkT_set]
    refine step_no (wantT rfl rfl rfl rfl) ?_
    simp only[Act.put,mkT_set]
    refine wpp fun k h=>?_;go_simp;apply h;clear h k
    refine wpList_nil (hK601 _ _ ?_)
    refine wp_cond_true (evT rfl rfl) ?_
    refine wp_seq_k fun K607 hK607=>wp_region_lit ?_
    refine wpp fun k h=>?_;go_simp;apply h;clear h k
    refine wpList_nil (hK607 _ _ ?_)
    refine wp_ret ?_
    refine hQf _ _ _ ?_
    exact bodyPost_ret (v := .bool false) (by first|rfl|simp [results, Try.results6, go_sem]<;>rfl) rfl ⟨rfl, hm603.out⟩
   rw [if_pos c602] at H
   have c602n : (t597 != 0) = false := by rw [bne, c602]; rfl
   try simp only [c602, c602n, Bool.not_true, Bool.not_false]
   refine BigFrame.wpList_want (wantT rfl rfl rfl rfl) fun k h=>?_;go_simp;apply h;clear h k
   refine BigFrame.wpList_want (wantT rfl rfl rfl rfl) fun k h=>?_;go_simp;apply h;clear h k
   refine wpp fun k h=>?_;go_simp;apply h;clear h k
   refine wpList_nil (hK601 _ _ ?_)
   by_cases c605 : (t596 == 0) = true
   ·
    rw [if_pos c605] at H
    have c605n : (t596 != 0) = false := by rw [bne, c605]; rfl
    try simp only [c605, c605n, Bool.not_true, Bool.not_false]
    refine wp_cond_false (evT rfl rfl) ?_
    refine wp_skip ?_
    exact hK396 _ _ _ (by kernel_rfl) ⟨H, (((((((((((((((hm437.out.trans hu444.out).grow hg453.out (fun k hk => Nat.le_trans (Nat.le_refl _) ((fun k hk => (lb455.out k hk).1) k hk))).trans hu465.out).sto (Nat.le_trans ((Nat.le_trans ((Nat.le_trans (hm437.out.size) hu444.out.size)) hg453.out.size)) lbb463.out) hs467.out).trans hu474.out).trans hu480.out).trans hu497.out).grow hg504.out (fun k hk => Nat.le_trans (Nat.le_refl _) ((fun k hk => (lb506.out k hk).1) k hk))).trans hu523.out).sto (Nat.le_trans ((Nat.le_trans ((Nat.le_trans ((Nat.le_trans ((Nat.le_trans ((Nat.le_trans ((Nat.le_trans ((Nat.le_trans ((Nat.le_trans (hm437.out.size) hu444.out.size)) hg453.out.size)) hu465.out.size)) (Nat.le_of_eq hs467.out.size.symm))) hu474.out.size)) hu480.out.size)) hu497.out.size)) hg504.out.size)) lbb521.out) hs525.out).trans hu532.out).trans hu538.out).trans hu555.out).grow hg562.out (fun k hk => Nat.le_trans (Nat.le_refl _) ((fun k hk => (lb564.out k hk).1) k hk))).trans hu600.out)⟩
   rw [if_neg c605] at H; replace c605 := Bool.eq_false_iff.mpr c605
   have c605n : (t596 != 0) = true := by rw [bne, c605]; rfl
   have c605p : ¬ t596 = 0 := fun e => by simp [e] at c605
   obtain rfl := Option.some.inj H
   try simp only [c605, c605n, Bool.not_true, Bool.not_false]
   refine wp_cond_true (evT rfl rfl) ?_
   refine wp_seq_k fun K606 hK606=>wp_region_lit ?_
   refine wpp fun k h=>?_;go_simp;apply h;clear h k
   refine wpList_nil (hK606 _ _ ?_)
   refine wp_ret ?_
   refine hQf _ _ _ ?_
   exact bodyPost_ret (v := .bool false) (by first|rfl|simp [results, Try.results6, go_sem]<;>rfl) rfl ⟨rfl, hm603.out⟩
 obtain ⟨⟨t616, t617⟩,A618,H⟩:=Option.bind_eq_some_iff.mp H
 replace A618:=Aside0.mk A618;try dsimp only at H
 refine wp_seq_k fun K615 hK615=>wp_region_lit ?_
 iterate 2 (refine wpp fun k h=>?_;go_simp;apply h;clear h k)
 have cl0 := (h222.up hu230.out).cell (o := 0) rfl
 have cl1 := (h222.up hu230.out).cell (o := 1) rfl
 refine wpp fun k h=>?_;go_simp;apply h;clear h k
 clear cl0 cl1
 have cl0 := (h223.up hu230.out).cell (o := 0) rfl
 have cl1 := (h223.up hu230.out).cell (o := 1) rfl
 refine wpp fun k h=>?_;go_simp;apply h;clear h k
 clear cl0 cl1
 have cl0 := (h224.up hu230.out).cell (o := 0) rfl
 have cl1 := (h224.up hu230.out).cell (o := 1) rfl
 refine wpp fun k h=>?_;go_simp;apply h;clear h k
 clear cl0 cl1
 have cl0 := (hb221.up hu230.out).cell (o := 0) rfl
 have cl1 := (hb221.up hu230.out).cell (o := 1) rfl
 refine wpp fun k h=>?_;go_simp;apply h;clear h k
 clear cl0 cl1
 refine step_call wn (by go_simp <;> rfl) (spec_AreCyclic.calls K t176 t177 t178 t179 t180 t181 t182 t183 t184 t185 t616 t617 w229  A618.out) ?_
 rintro e w619 ⟨rfl, hu⟩
 have hu620 := Aside0.mk hu
 clear hu
 refine ⟨_, rfl, ?_⟩
 simp only[Act.put,mkT_set]
 iterate 5 (refine wpp fun k h=>?_;go_simp;apply h;clear h k)
 refine wpList_nil (hK615 _ _ ?_)
 refine wp_seq_k fun K621 hK621=>wp_region_lit ?_
 iterate 4 (refine wpp fun k h=>?_;go_simp;apply h;clear h k)
 have hm623 := Aside0.mk ((((((((((hu188.out.trans hu191.out).trans hu194.out).trans hu197.out).trans hu200.out).sto (Nat.le_trans (hu188.out.size) lbb189.out) hs202.out).sto (Nat.le_trans ((Nat.le_trans (hu188.out.size) hu191.out.size)) lbb192.out) hs208.out).sto (Nat.le_trans ((Nat.le_trans ((Nat.le_trans (hu188.out.size) hu191.out.size)) hu194.out.size)) lbb195.out) hs214.out).sto (Nat.le_trans ((Nat.le_trans ((Nat.le_trans ((Nat.le_trans (hu188.out.size) hu191.out.size)) hu194.out.size)) hu197.out.size)) lbb198.out) hs220.out).trans hu230.out).trans hu620.out)
 have hm624 := Aside0.mk (Nat.le_trans ((Nat.le_trans ((Nat.le_trans (hm91.out) hu95.out.size)) hm165.out.size)) hm623.out.size)
 by_cases c622 : (t227 == t617) = true
 rotate_left
 ·
  rw [if_neg c622] at H; replace c622 := Bool.eq_false_iff.mpr c622
  have c622n : (t227 != t617) = true := by rw [bne, c622]; rfl
  have c622p : ¬ t227 = t617 := fun e => by simp [e] at c622
  obtain rfl := Option.some.inj H
  try simp only [c622, c622n, Bool.not_true, Bool.not_false]
  refine step_no (wantT rfl rfl rfl rfl) ?_
  simp only[Act.put,mkT_set]
  refine step_no (wantT rfl rfl rfl rfl) ?_
  simp only[Act.put,mkT_set]
  refine step_no (wantT rfl rfl rfl rfl) ?_
  simp only[Act.put,mkT_set]
  refine wpp fun k h=>?_;go_simp;apply h;clear h k
  refine wpList_nil (hK621 _ _ ?_)
  refine wp_cond_true (evT rfl rfl) ?_
  refine wp_seq_k fun K630 hK630=>wp_region_lit ?_
  refine wpp fun k h=>?_;go_simp;apply h;clear h k
  refine wpList_nil (hK630 _ _ ?_)
  refine wp_ret ?_
  refine hQf _ _ _ ?_
  exact bodyPost_ret (v := .bool false) (by first|rfl|simp [results, Try.results6, go_sem]<;>rfl) rfl ⟨rfl, (hm166.out.trans hm623.out)⟩
 rw [if_pos c622] at H
 have c622n : (t227 != t617) = false := by rw [bne, c622]; rfl
 try simp only [c622, c622n, Bool.not_true, Bool.not_false]
 refine BigFrame.wpList_want (wantT rfl rfl rfl rfl) fun k h=>?_;go_simp;apply h;clear h k
 refine BigFrame.wpList_want (wantT rfl rfl rfl rfl) fun k h=>?_;go_simp;apply h;clear h k
 by_cases c625 : (t226) = true
 rotate_left
 ·
  rw [if_neg c625] at H; replace c625 := Bool.eq_false_iff.mpr c625
  subst c625
  by_cases c628 : (t616) = true
  rotate_left
  ·
   rw [if_neg c628] at H; replace c628 := Bool.eq_false_iff.mpr c628
   subst c628
   refine BigFrame.wpList_want (wantT rfl rfl rfl rfl) fun k h=>?_;go_simp;apply h;clear h k
   refine wpp fun k h=>?_;go_simp;apply h;clear h k
   refine wpList_nil (hK621 _ _ ?_)
   refine wp_cond_false (evT rfl rfl) ?_
   refine wp_skip ?_
   exact hK614 _ _ _ (by kernel_rfl) ⟨H, hu620.out⟩
  rw [if_pos c628] at H
  subst c628
  obtain rfl := Option.some.inj H
  refine BigFrame.wpList_want (wantT rfl rfl rfl rfl) fun k h=>?_;go_simp;apply h;clear h k
  refine wpp fun k h=>?_;go_simp;apply h;clear h k
  refine wpList_nil (hK621 _ _ ?_)
  refine wp_cond_true (evT rfl rfl) ?_
  refine wp_seq_k fun K629 hK629=>wp_region_lit ?_
  refine wpp fun k h=>?_;go_simp;apply h;clear h k
  refine wpList_nil (hK629 _ _ ?_)
  refine wp_ret ?_
  refine hQf _ _ _ ?_
  exact bodyPost_ret (v := .bool false) (by first|rfl|simp [results, Try.results6, go_sem]<;>rfl) rfl ⟨rfl, (hm166.out.trans hm623.out)⟩
 rw [if_pos c625] at H
 subst c625
 by_cases c626 : (t616) = true
 ·
  rw [if_pos c626] at H
  subst c626
  refine BigFrame.wpList_want (wantT rfl rfl rfl rfl) fun k h=>?_;go_simp;apply h;clear h k
  refine wpp fun k h=>?_;go_simp;apply h;clear h k
  refine wpList_nil (hK621 _ _ ?_)
  refine wp_cond_false (evT rfl rfl) ?_
  refine wp_skip ?_
  exact hK614 _ _ _ (by kernel_rfl) ⟨H, hu620.out⟩
 rw [if_neg c626] at H; replace c626 := Bool.eq_false_iff.mpr c626
 subst c626
 obtain rfl := Option.some.inj H
 refine BigFrame.wpList_want (wantT rfl rfl rfl rfl) fun k h=>?_;go_simp;apply h;clear h k
 refine wpp fun k h=>?_;go_simp;apply h;clear h k
 refine wpList_nil (hK621 _ _ ?_)
 refine wp_cond_true (evT rfl rfl) ?_
 refine wp_seq_k fun K627 hK627=>wp_region_lit ?_
 refine wpp fun k h=>?_;go_simp;apply h;clear h k
 refine wpList_nil (hK627 _ _ ?_)
 refine wp_ret ?_
 refine hQf _ _ _ ?_
 exact bodyPost_ret (v := .bool false) (by first|rfl|simp [results, Try.results6, go_sem]<;>rfl) rfl ⟨rfl, (hm166.out.trans hm623.out)⟩

end Go.Proofs.Ytccbmdpikalpfaa
