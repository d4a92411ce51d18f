/- The walks: each of these functions of the program computes what its plain function says: spec_l01Meet, spec_RadicalCentre, spec_l04DrawOf, spec_l01Plus, spec_l01Times, spec_l01Middle, spec_l04Draw, spec_l04Code, spec_l02Through, spec_l04Circumcentre, spec_l06Through. -/
import Derived.Test.YtccbmdpikalpfaaProg
import Derived.Test.YtccbmdpikalpfaaD1
import Derived.WalkKit
import Derived.KernelRfl
import Derived.BigQuiet
import Derived.Deep.LoopGhost
import Derived.Laws.StructEq
import Derived.Test.YtccbmdpikalpfaaWRad2
namespace Go.Proofs.Ytccbmdpikalpfaa
open Go Go.RowKit
attribute [local go_sem] Oper.quiet Oper.quietAt Oper.quietUpon Act.put nm1 nm2 nm3 i64_w run_max2 run_min2 mkT_getD mkT_get mkT_set lookT_cons lookT_nil
attribute [local irreducible] wpList
set_option linter.unusedVariables false
set_option linter.unusedSimpArgs false
attribute [local go_sem] eqT30
attribute [local go_sem] eqT34

set_option maxHeartbeats 40000000 in
set_option maxRecDepth 100000 in
theorem spec_l01Meet.calls (K : Nat) (a0 : Int) (a1_0 : Int) (a1_1 : Int) (a1_2 : Int) (a2_0 : Int) (a2_1 : Int) (a2_2 : Int) (r0 : Int) (r1 : Int) (r2 : Bool) (w : World)  (h : spec_l01Meet.f K a0 a1_0 a1_1 a1_2 a2_0 a2_1 a2_2 = some (r0, r1, r2)) :
    Calls Try.prog 157 #[.int .i64 a0, .agg #[.int .i64 a1_0, .int .i64 a1_1, .int .i64 a1_2], .agg #[.int .i64 a2_0, .int .i64 a2_1, .int .i64 a2_2]] w fun e w' => e = .returned (.tuple #[.agg #[.int .i64 r0, .int .i64 r1], .bool r2]) ∧ Up w w' := by
 have H : (((spec_l01Mod.f K (wrap64 ((wrap64 (a1_0 * a2_1)) - (wrap64 (a1_1 * a2_0)))) a0).bind fun t12 => (if (t12 == 0) = true then some (0, 0, false) else ((spec_l01Inverse.f K t12 a0).bind fun t25 => (if (a0 == 0) = true then none else ((spec_l01Mod.f K (wrap64 ((Int.tmod (wrap64 ((wrap64 (a1_1 * a2_2)) - (wrap64 (a2_1 * a1_2)))) a0) * t25)) a0).bind fun t32 => ((spec_l01Mod.f K (wrap64 ((Int.tmod (wrap64 ((wrap64 (a2_0 * a1_2)) - (wrap64 (a1_0 * a2_2)))) a0) * t25)) a0).bind fun t34 => some (t32, t34, true))))))) : Option (Int × Int × Bool)) = some (r0, r1, r2) := h
 clear h
 obtain ⟨t12,A13,H⟩:=Option.bind_eq_some_iff.mp H
 replace A13:=Aside0.mk A13;try dsimp only at H
 go_enter Try.func157, Try.ntmps157
 refine wp_hide (fun Qf hQf => ?_)
 refine wp_seq_k fun K1 hK1=>wp_region_lit ?_
 refine step_new (cs := [.int .i64 a1_0, .int .i64 a1_1, .int .i64 a1_2]) (T := 34) (f := fun b => .pointer (some ⟨b, 0, none⟩)) rfl (by go_simp <;> rfl) ?_
 intro b2 w3 hu lb hb2
 simp only[Act.put,nm1,nm2,nm3]
 have lbb2 := Aside0.mk lb
 have ltb2 := Aside0.mk hb2.lt
 clear lb
 have hu4 := Aside0.mk hu
 clear hu
 refine step_new (cs := [.int .i64 a2_0, .int .i64 a2_1, .int .i64 a2_2]) (T := 34) (f := fun b => .pointer (some ⟨b, 0, none⟩)) rfl (by go_simp <;> rfl) ?_
 intro b5 w6 hu lb hb5
 simp only[Act.put,nm1,nm2,nm3]
 have lbb5 := Aside0.mk lb
 have ltb5 := Aside0.mk hb5.lt
 clear lb
 have hu7 := Aside0.mk hu
 clear hu
 refine step_new (cs := [.int .i64 0, .int .i64 0]) (T := 30) (f := fun b => .pointer (some ⟨b, 0, none⟩)) rfl (by go_simp <;> rfl) ?_
 intro b8 w9 hu lb hb8
 simp only[Act.put,nm1,nm2,nm3]
 have lbb8 := Aside0.mk lb
 have ltb8 := Aside0.mk hb8.lt
 clear lb
 have hu10 := Aside0.mk hu
 clear hu
 refine wpp fun k h=>?_;go_simp;apply h;clear h k
 refine wpList_nil (hK1 _ _ ?_)
 refine wp_seq_k fun K11 hK11=>wp_region_lit ?_
 refine wpp fun k h=>?_;go_simp;apply h;clear h k
 have cl0 := (hb2.up (hu7.out.trans hu10.out)).cell (o := 0) rfl
 refine wpp fun k h=>?_;go_simp;apply h;clear h k
 clear cl0
 refine wpp fun k h=>?_;go_simp;apply h;clear h k
 have cl0 := (hb5.up hu10.out).cell (o := 1) rfl
 refine wpp fun k h=>?_;go_simp;apply h;clear h k
 clear cl0
 iterate 2 (refine wpp fun k h=>?_;go_simp;apply h;clear h k)
 have cl0 := (hb2.up (hu7.out.trans hu10.out)).cell (o := 1) rfl
 refine wpp fun k h=>?_;go_simp;apply h;clear h k
 clear cl0
 refine wpp fun k h=>?_;go_simp;apply h;clear h k
 have cl0 := (hb5.up hu10.out).cell (o := 0) rfl
 refine wpp fun k h=>?_;go_simp;apply h;clear h k
 clear cl0
 iterate 3 (refine wpp fun k h=>?_;go_simp;apply h;clear h k)
 refine step_call wn (by go_simp <;> rfl) (spec_l01Mod.calls K (wrap64 ((wrap64 (a1_0 * a2_1)) - (wrap64 (a1_1 * a2_0)))) a0 t12 w9  A13.out) ?_
 rintro e w14 ⟨rfl, hu⟩
 have hu15 := Aside0.mk hu
 clear hu
 refine ⟨_, rfl, ?_⟩
 simp only[Act.put,nm1,nm2,nm3]
 refine wpp fun k h=>?_;go_simp;apply h;clear h k
 refine wpList_nil (hK11 _ _ ?_)
 refine wp_seq_k fun K16 hK16=>?_
 refine wp_seq_k fun K17 hK17=>wp_region_lit ?_
 iterate 2 (refine wpp fun k h=>?_;go_simp;apply h;clear h k)
 refine wpList_nil (hK17 _ _ ?_)
 have hm19 := Aside0.mk (((hu4.out.trans hu7.out).trans hu10.out).trans hu15.out)
 by_cases c18 : (t12 == 0) = true
 ·
  rw [if_pos c18] at H
  have c18n : (t12 != 0) = false := by rw [bne, c18]; rfl
  simp only [Option.some.injEq, Prod.mk.injEq] at H
  obtain ⟨rfl, rfl, rfl⟩ := H
  try simp only [c18, c18n, Bool.not_true, Bool.not_false]
  refine wp_cond_true rfl ?_
  refine wp_seq_k fun K20 hK20=>wp_region_lit ?_
  refine wpp fun k h=>?_;go_simp;apply h;clear h k
  have hB0 := (hb8.up hu15.out)
  have cl0 := hB0.cell (o := 0) rfl
  have fr0 := hB0.free 0
  have cl1 := hB0.cell (o := 1) rfl
  have fr1 := hB0.free 1
  refine step_store (b := b8) (cs' := [.int .i64 0, .int .i64 0]) (T := 30) (W' := ((w14.setCell ⟨b8, 0, none⟩ (.int .i64 0)).setCell ⟨b8, 1, none⟩ (.int .i64 0))) rfl rfl (by go_simp <;> rfl) (((Sto.refl _ _).setCell 0 _).setCell 1 _) (((hB0).setCell 0 _).setCell 1 _) ?_
  clear hB0 cl0 fr0 cl1 fr1
  intro w21 hs hb23
  have hs22 := Aside0.mk hs
  clear hs
  refine wpp fun k h=>?_;go_simp;apply h;clear h k
  refine wpList_nil (hK20 _ _ ?_)
  refine wp_ret ?_
  refine hQf _ _ _ ?_
  have cr0 := hb23.cell (o := 0) rfl
  have cr1 := hb23.cell (o := 1) rfl
  exact bodyPost_ret (v := .tuple #[.agg #[.int .i64 0, .int .i64 0], .bool false]) (by first|rfl|simp [results, Try.results157, go_sem, cr0, cr1]<;>rfl) rfl ⟨rfl, (hm19.out.sto (Nat.le_trans ((Nat.le_trans (hu4.out.size) hu7.out.size)) lbb8.out) hs22.out)⟩
 rw [if_neg c18] at H; replace c18 := Bool.eq_false_iff.mpr c18
 have c18n : (t12 != 0) = true := by rw [bne, c18]; rfl
 have c18p : ¬ t12 = 0 := fun e => by simp [e] at c18
 obtain ⟨t25,A26,H⟩:=Option.bind_eq_some_iff.mp H
 replace A26:=Aside0.mk A26;try dsimp only at H
 try simp only [c18, c18n, Bool.not_true, Bool.not_false]
 refine wp_cond_false rfl ?_
 refine wp_skip ?_
 refine hK16 _ _ ?_
 refine wp_seq_k fun K24 hK24=>wp_region_lit ?_
 iterate 2 (refine wpp fun k h=>?_;go_simp;apply h;clear h k)
 refine step_call wn (by go_simp <;> rfl) (spec_l01Inverse.calls K t12 a0 t25 w14  A26.out) ?_
 rintro e w27 ⟨rfl, hu⟩
 have hu28 := Aside0.mk hu
 clear hu
 refine ⟨_, rfl, ?_⟩
 simp only[Act.put,nm1,nm2,nm3]
 refine wpp fun k h=>?_;go_simp;apply h;clear h k
 refine wpList_nil (hK24 _ _ ?_)
 refine wp_seq_k fun K29 hK29=>?_
 have h31 := (hb2.up (((hu7.out.trans hu10.out).trans hu15.out).trans hu28.out))
 by_cases c30 : (a0 == 0) = true
 ·
  rw [if_pos c30] at H
  have c30n : (a0 != 0) = false := by rw [bne, c30]; rfl
  exact absurd H (by simp)
 rw [if_neg c30] at H; replace c30 := Bool.eq_false_iff.mpr c30
 have c30n : (a0 != 0) = true := by rw [bne, c30]; rfl
 have c30p : ¬ a0 = 0 := fun e => by simp [e] at c30
 obtain ⟨t32,A33,H⟩:=Option.bind_eq_some_iff.mp H
 replace A33:=Aside0.mk A33;try dsimp only at H
 obtain ⟨t34,A35,H⟩:=Option.bind_eq_some_iff.mp H
 replace A35:=Aside0.mk A35;try dsimp only at H
 simp only [Option.some.injEq, Prod.mk.injEq] at H
 obtain ⟨rfl, rfl, rfl⟩ := H
 try simp only [c30, c30n, Bool.not_true, Bool.not_false]
 refine' wp_region_up 35 [Slot.det _, Slot.det _, Slot.det _, Slot.det _, Slot.det _, Slot.det _, Slot.det _, Slot.det _, Slot.det _, Slot.det _, Slot.det _, Slot.det _, Slot.det _, Slot.det _, Slot.det _, Slot.det _, Slot.det (.int .i64 t32), Slot.det _, Slot.det _, Slot.det _, Slot.det _, Slot.det _, Slot.det _, Slot.det _, Slot.det _, Slot.det _, Slot.det _, Slot.det _, Slot.det _, Slot.det _, Slot.det _, Slot.det _, Slot.det _, Slot.det (.int .i64 t34), Slot.det _] (by kernel_rfl) (by kernel_rfl) ?main
 case main =>
  simp only [List.take_succ_cons, List.take_zero]
  refine wpK_ops rfl (fun w1 hu => ?_) ?_
  · clear hu
    go_simp
    first | done | rfl
  simp only[Act.put,nm1,nm2,nm3]
  refine wpK_ops rfl (fun w1 hu => ?_) ?_
  · have cl0 := ((hb2.up (((hu7.out.trans hu10.out).trans hu15.out).trans hu28.out)).up ((Up.refl _).drew.trans hu)).cell (o := 1) rfl
    go_simp
    first | done | rfl
  simp only[Act.put,nm1,nm2,nm3]
  refine wpK_ops rfl (fun w1 hu => ?_) ?_
  · clear hu
    go_simp
    first | done | rfl
  simp only[Act.put,nm1,nm2,nm3]
  refine wpK_ops rfl (fun w1 hu => ?_) ?_
  · have cl0 := ((hb5.up ((hu10.out.trans hu15.out).trans hu28.out)).up ((Up.refl _).drew.trans hu)).cell (o := 2) rfl
    go_simp
    first | done | rfl
  simp only[Act.put,nm1,nm2,nm3]
  refine wpK_ops rfl (fun w1 hu => ?_) ?_
  · clear hu
    go_simp
    first | done | rfl
  simp only[Act.put,nm1,nm2,nm3]
  refine wpK_ops rfl (fun w1 hu => ?_) ?_
  · clear hu
    go_simp
    first | done | rfl
  simp only[Act.put,nm1,nm2,nm3]
  refine wpK_ops rfl (fun w1 hu => ?_) ?_
  · have cl0 := ((hb5.up ((hu10.out.trans hu15.out).trans hu28.out)).up ((Up.refl _).drew.trans hu)).cell (o := 1) rfl
    go_simp
    first | done | rfl
  simp only[Act.put,nm1,nm2,nm3]
  refine wpK_ops rfl (fun w1 hu => ?_) ?_
  · clear hu
    go_simp
    first | done | rfl
  simp only[Act.put,nm1,nm2,nm3]
  refine wpK_ops rfl (fun w1 hu => ?_) ?_
  · have cl0 := ((hb2.up (((hu7.out.trans hu10.out).trans hu15.out).trans hu28.out)).up ((Up.refl _).drew.trans hu)).cell (o := 2) rfl
    go_simp
    first | done | rfl
  simp only[Act.put,nm1,nm2,nm3]
  refine wpK_ops rfl (fun w1 hu => ?_) ?_
  · clear hu
    go_simp
    first | done | rfl
  simp only[Act.put,nm1,nm2,nm3]
  refine wpK_ops rfl (fun w1 hu => ?_) ?_
  · clear hu
    go_simp
    first | done | rfl
  simp only[Act.put,nm1,nm2,nm3]
  refine wpK_ops rfl (fun w1 hu => ?_) ?_
  · clear hu
    go_simp
    first | done | rfl
  simp only[Act.put,nm1,nm2,nm3]
  refine wpK_ops rfl (fun w1 hu => ?_) ?_
  · clear hu
    go_simp
    first | done | rfl
  simp only[Act.put,nm1,nm2,nm3]
  refine wpK_ops rfl (fun w1 hu => ?_) ?_
  · clear hu
    go_simp
    first | done | rfl
  simp only[Act.put,nm1,nm2,nm3]
  refine wpK_ops rfl (fun w1 hu => ?_) ?_
  · clear hu
    go_simp
    first | done | rfl
  simp only[Act.put,nm1,nm2,nm3]
  refine wpK_ops rfl (fun w1 hu => ?_) ?_
  · clear hu
    go_simp
    first | done | rfl
  simp only[Act.put,nm1,nm2,nm3]
  refine wpK_ops rfl (fun w1 hu => ?_) ?_
  · have hcl := (spec_l01Mod.calls K (wrap64 ((Int.tmod (wrap64 ((wrap64 (a1_1 * a2_2)) - (wrap64 (a2_1 * a1_2)))) a0) * t25)) a0 t32 w1  A33.out)
    clear hu
    replace hcl := Aside0.mk hcl
    go_simp
    exact hcl.out
  simp only[Act.put,nm1,nm2,nm3]
  refine wpK_ops rfl (fun w1 hu => ?_) ?_
  · clear hu
    go_simp
    first | done | rfl
  simp only[Act.put,nm1,nm2,nm3]
  refine wpK_ops rfl (fun w1 hu => ?_) ?_
  · have cl0 := ((hb5.up ((hu10.out.trans hu15.out).trans hu28.out)).up ((Up.refl _).drew.trans hu)).cell (o := 0) rfl
    go_simp
    first | done | rfl
  simp only[Act.put,nm1,nm2,nm3]
  refine wpK_ops rfl (fun w1 hu => ?_) ?_
  · clear hu
    go_simp
    first | done | rfl
  simp only[Act.put,nm1,nm2,nm3]
  refine wpK_ops rfl (fun w1 hu => ?_) ?_
  · have cl0 := (h31.up ((Up.refl _).drew.trans hu)).cell (o := 2) rfl
    go_simp
    first | done | rfl
  simp only[Act.put,nm1,nm2,nm3]
  refine wpK_ops rfl (fun w1 hu => ?_) ?_
  · clear hu
    go_simp
    first | done | rfl
  simp only[Act.put,nm1,nm2,nm3]
  refine wpK_ops rfl (fun w1 hu => ?_) ?_
  · clear hu
    go_simp
    first | done | rfl
  simp only[Act.put,nm1,nm2,nm3]
  refine wpK_ops rfl (fun w1 hu => ?_) ?_
  · have cl0 := (h31.up ((Up.refl _).drew.trans hu)).cell (o := 0) rfl
    go_simp
    first | done | rfl
  simp only[Act.put,nm1,nm2,nm3]
  refine wpK_ops rfl (fun w1 hu => ?_) ?_
  · clear hu
    go_simp
    first | done | rfl
  simp only[Act.put,nm1,nm2,nm3]
  refine wpK_ops rfl (fun w1 hu => ?_) ?_
  · have cl0 := ((hb5.up ((hu10.out.trans hu15.out).trans hu28.out)).up ((Up.refl _).drew.trans hu)).cell (o := 2) rfl
    go_simp
    first | done | rfl
  simp only[Act.put,nm1,nm2,nm3]
  refine wpK_ops rfl (fun w1 hu => ?_) ?_
  · clear hu
    go_simp
    first | done | rfl
  simp only[Act.put,nm1,nm2,nm3]
  refine wpK_ops rfl (fun w1 hu => ?_) ?_
  · clear hu
    go_simp
    first | done | rfl
  simp only[Act.put,nm1,nm2,nm3]
  refine wpK_ops rfl (fun w1 hu => ?_) ?_
  · clear hu
    go_simp
    first | done | rfl
  simp only[Act.put,nm1,nm2,nm3]
  refine wpK_ops rfl (fun w1 hu => ?_) ?_
  · clear hu
    go_simp
    first | done | rfl
  simp only[Act.put,nm1,nm2,nm3]
  refine wpK_ops rfl (fun w1 hu => ?_) ?_
  · clear hu
    go_simp
    first | done | rfl
  simp only[Act.put,nm1,nm2,nm3]
  refine wpK_ops rfl (fun w1 hu => ?_) ?_
  · clear hu
    go_simp
    first | done | rfl
  simp only[Act.put,nm1,nm2,nm3]
  refine wpK_ops rfl (fun w1 hu => ?_) ?_
  · clear hu
    go_simp
    first | done | rfl
  simp only[Act.put,nm1,nm2,nm3]
  refine wpK_ops rfl (fun w1 hu => ?_) ?_
  · have hcl := (spec_l01Mod.calls K (wrap64 ((Int.tmod (wrap64 ((wrap64 (a2_0 * a1_2)) - (wrap64 (a1_0 * a2_2)))) a0) * t25)) a0 t34 w1  A35.out)
    clear hu
    replace hcl := Aside0.mk hcl
    go_simp
    exact hcl.out
  simp only[Act.put,nm1,nm2,nm3]
  refine wpK_ops rfl (fun w1 hu => ?_) ?_
  · clear hu
    go_simp
    first | done | rfl
  simp only[Act.put,nm1,nm2,nm3]
  refine wpK_nil ?_
  intro w36 hu hap
  simp only [List.drop_succ_cons, List.drop_zero]
  replace hu := (Up.refl _).drew.trans hu
  clear hap
  have hu37 := Aside0.mk hu
  clear hu
  have hB0 := (hb8.up ((hu15.out.trans hu28.out).trans hu37.out))
  have cl0 := hB0.cell (o := 0) rfl
  have fr0 := hB0.free 0
  have cl1 := hB0.cell (o := 1) rfl
  have fr1 := hB0.free 1
  refine step_store (b := b8) (cs' := [.int .i64 t32, .int .i64 t34]) (T := 30) (W' := ((w36.setCell ⟨b8, 0, none⟩ (.int .i64 t32)).setCell ⟨b8, 1, none⟩ (.int .i64 t34))) rfl rfl (by go_simp <;> rfl) (((Sto.refl _ _).setCell 0 _).setCell 1 _) (((hB0).setCell 0 _).setCell 1 _) ?_
  clear hB0 cl0 fr0 cl1 fr1
  intro w38 hs hb40
  have hs39 := Aside0.mk hs
  clear hs
  have h41 := (h31.up hu37.out).sto hs39.out (Nat.ne_of_lt (Nat.lt_of_lt_of_le (Nat.lt_of_lt_of_le ltb2.out (hu7.out.size)) lbb8.out))
  refine wpp fun k h=>?_;go_simp;apply h;clear h k
  refine wpList_nil (hK29 _ _ ?_)
  refine wp_ret ?_
  refine hQf _ _ _ ?_
  have cr0 := hb40.cell (o := 0) rfl
  have cr1 := hb40.cell (o := 1) rfl
  exact bodyPost_ret (v := .tuple #[.agg #[.int .i64 t32, .int .i64 t34], .bool true]) (by first|rfl|simp [results, Try.results157, go_sem, cr0, cr1]<;>rfl) rfl ⟨rfl, (((hm19.out.trans hu28.out).trans hu37.out).sto (Nat.le_trans ((Nat.le_trans (hu4.out.size) hu7.out.size)) lbb8.out) hs39.out)⟩

set_option maxHeartbeats 40000000 in
set_option maxRecDepth 100000 in
theorem spec_RadicalCentre.calls (K : Nat) (a0 : Int) (a1 : Int) (a2_0 : Int) (a2_1 : Int) (a2_2 : Int) (a3_0 : Int) (a3_1 : Int) (a3_2 : Int) (a4_0 : Int) (a4_1 : Int) (a4_2 : Int) (r0 : Int) (r1 : Int) (r2 : Int) (w : World)  (h : spec_RadicalCentre.f K a0 a1 a2_0 a2_1 a2_2 a3_0 a3_1 a3_2 a4_0 a4_1 a4_2 = some (r0, r1, r2)) :
    Calls Try.prog 59 #[.int .i64 a0, .int .i64 a1, .agg #[.int .i64 a2_0, .int .i64 a2_1, .int .i64 a2_2], .agg #[.int .i64 a3_0, .int .i64 a3_1, .int .i64 a3_2], .agg #[.int .i64 a4_0, .int .i64 a4_1, .int .i64 a4_2]] w fun e w' => e = .returned (.tuple #[.agg #[.int .i64 r0, .int .i64 r1], .int .i64 r2]) ∧ Up w w' := by
 have H : (((spec_l06Code.f K a0 a1 ([(a2_0, a2_1, a2_2), (a3_0, a3_1, a3_2), (a4_0, a4_1, a4_2)])).bind fun t18 => (if (t18 == 0) = true then ((spec_l01Area.f K a0 a2_0 a2_1 a3_0 a3_1 a4_0 a4_1).bind fun t28 => (if (t28 == 0) = true then some (0, 0, 5) else ((spec_l06Radical.f K a0 a1 a2_0 a2_1 a2_2 a3_0 a3_1 a3_2).bind fun (t46, t47, t48) => ((spec_l06Radical.f K a0 a1 a2_0 a2_1 a2_2 a4_0 a4_1 a4_2).bind fun (t50, t51, t52) => ((spec_l01Meet.f K a0 t46 t47 t48 t50 t51 t52).bind fun (t54, t55, t56) => some (t54, t55, 0)))))) else some (0, 0, t18))) : Option (Int × Int × Int)) = some (r0, r1, r2) := h
 clear h
 obtain ⟨t18,A19,H⟩:=Option.bind_eq_some_iff.mp H
 replace A19:=Aside0.mk A19;try dsimp only at H
 go_enter Try.func59, Try.ntmps59
 refine wp_hide (fun Qf hQf => ?_)
 refine wp_seq_k fun K1 hK1=>wp_region_lit ?_
 refine step_new (cs := [.int .i64 a2_0, .int .i64 a2_1, .int .i64 a2_2]) (T := 71) (f := fun b => .pointer (some ⟨b, 0, none⟩)) rfl (by go_simp <;> rfl) ?_
 intro b2 w3 hu lb hb2
 simp only[Act.put,nm1,nm2,nm3]
 have lbb2 := Aside0.mk lb
 have ltb2 := Aside0.mk hb2.lt
 clear lb
 have hu4 := Aside0.mk hu
 clear hu
 refine step_new (cs := [.int .i64 a3_0, .int .i64 a3_1, .int .i64 a3_2]) (T := 71) (f := fun b => .pointer (some ⟨b, 0, none⟩)) rfl (by go_simp <;> rfl) ?_
 intro b5 w6 hu lb hb5
 simp only[Act.put,nm1,nm2,nm3]
 have lbb5 := Aside0.mk lb
 have ltb5 := Aside0.mk hb5.lt
 clear lb
 have hu7 := Aside0.mk hu
 clear hu
 refine step_new (cs := [.int .i64 a4_0, .int .i64 a4_1, .int .i64 a4_2]) (T := 71) (f := fun b => .pointer (some ⟨b, 0, none⟩)) rfl (by go_simp <;> rfl) ?_
 intro b8 w9 hu lb hb8
 simp only[Act.put,nm1,nm2,nm3]
 have lbb8 := Aside0.mk lb
 have ltb8 := Aside0.mk hb8.lt
 clear lb
 have hu10 := Aside0.mk hu
 clear hu
 refine step_new (cs := [.int .i64 0, .int .i64 0]) (T := 30) (f := fun b => .pointer (some ⟨b, 0, none⟩)) rfl (by go_simp <;> rfl) ?_
 intro b11 w12 hu lb hb11
 simp only[Act.put,nm1,nm2,nm3]
 have lbb11 := Aside0.mk lb
 have ltb11 := Aside0.mk hb11.lt
 clear lb
 have hu13 := Aside0.mk hu
 clear hu
 refine wpp fun k h=>?_;go_simp;apply h;clear h k
 refine wpList_nil (hK1 _ _ ?_)
 refine wp_seq_k fun K14 hK14=>wp_region_lit ?_
 iterate 2 (refine wpp fun k h=>?_;go_simp;apply h;clear h k)
 have cl0 := (hb2.up ((hu7.out.trans hu10.out).trans hu13.out)).cell (o := 0) rfl
 have cl1 := (hb2.up ((hu7.out.trans hu10.out).trans hu13.out)).cell (o := 1) rfl
 have cl2 := (hb2.up ((hu7.out.trans hu10.out).trans hu13.out)).cell (o := 2) rfl
 refine wpp fun k h=>?_;go_simp;apply h;clear h k
 clear cl0 cl1 cl2
 have cl0 := (hb5.up (hu10.out.trans hu13.out)).cell (o := 0) rfl
 have cl1 := (hb5.up (hu10.out.trans hu13.out)).cell (o := 1) rfl
 have cl2 := (hb5.up (hu10.out.trans hu13.out)).cell (o := 2) rfl
 refine wpp fun k h=>?_;go_simp;apply h;clear h k
 clear cl0 cl1 cl2
 have cl0 := (hb8.up hu13.out).cell (o := 0) rfl
 have cl1 := (hb8.up hu13.out).cell (o := 1) rfl
 have cl2 := (hb8.up hu13.out).cell (o := 2) rfl
 refine wpp fun k h=>?_;go_simp;apply h;clear h k
 clear cl0 cl1 cl2
 refine step_new (cs := [.int .i64 a2_0, .int .i64 a2_1, .int .i64 a2_2, .int .i64 a3_0, .int .i64 a3_1, .int .i64 a3_2, .int .i64 a4_0, .int .i64 a4_1, .int .i64 a4_2]) (T := 71) (f := fun b => .slice (some ⟨b, 0, none⟩) 3 3) rfl (by go_simp <;> rfl) ?_
 intro b15 w16 hu lb hb15
 simp only[Act.put,nm1,nm2,nm3]
 have lbb15 := Aside0.mk lb
 have ltb15 := Aside0.mk hb15.lt
 clear lb
 have hu17 := Aside0.mk hu
 clear hu
 refine step_call wn (by go_simp <;> rfl) (spec_l06Code.calls K a0 a1 (some ⟨b15, 0, none⟩) 3 ([(a2_0, a2_1, a2_2), (a3_0, a3_1, a3_2), (a4_0, a4_1, a4_2)]) t18 w16 (Rd.of_blk (E := e3) (xs := [(a2_0, a2_1, a2_2), (a3_0, a3_1, a3_2), (a4_0, a4_1, a4_2)]) (o := 0) hb15 (by simp) (fun j u hu => by rcases j with _ | _ | _ | _ | _ | _ | _ | _ | _ | j <;> simp_all [Enc.flat, e3])) A19.out) ?_
 rintro e w20 ⟨rfl, hu⟩
 have hu21 := Aside0.mk hu
 clear hu
 refine ⟨_, rfl, ?_⟩
 simp only[Act.put,nm1,nm2,nm3]
 refine wpp fun k h=>?_;go_simp;apply h;clear h k
 refine wpList_nil (hK14 _ _ ?_)
 refine wp_seq_k fun K22 hK22=>?_
 refine wp_seq_k fun K23 hK23=>wp_region_lit ?_
 iterate 3 (refine wpp fun k h=>?_;go_simp;apply h;clear h k)
 have hm25 := Aside0.mk (((((hu4.out.trans hu7.out).trans hu10.out).trans hu13.out).trans hu17.out).trans hu21.out)
 have h26 := (hb2.up ((((hu7.out.trans hu10.out).trans hu13.out).trans hu17.out).trans hu21.out))
 have h27 := (hb5.up (((hu10.out.trans hu13.out).trans hu17.out).trans hu21.out))
 by_cases c24 : (t18 == 0) = true
 rotate_left
 ·
  rw [if_neg c24] at H; replace c24 := Bool.eq_false_iff.mpr c24
  have c24n : (t18 != 0) = true := by rw [bne, c24]; rfl
  have c24p : ¬ t18 = 0 := fun e => by simp [e] at c24
  simp only [Option.some.injEq, Prod.mk.injEq] at H
  obtain ⟨rfl, rfl, rfl⟩ := H
  try simp only [c24, c24n, Bool.not_true, Bool.not_false]
  refine step_no rfl ?_
  simp only[Act.put,nm1,nm2,nm3]
  refine step_no rfl ?_
  simp only[Act.put,nm1,nm2,nm3]
  refine step_no rfl ?_
  simp only[Act.put,nm1,nm2,nm3]
  refine step_no rfl ?_
  simp only[Act.put,nm1,nm2,nm3]
  refine step_no rfl ?_
  simp only[Act.put,nm1,nm2,nm3]
  refine step_no rfl ?_
  simp only[Act.put,nm1,nm2,nm3]
  refine step_no rfl ?_
  simp only[Act.put,nm1,nm2,nm3]
  refine step_no rfl ?_
  simp only[Act.put,nm1,nm2,nm3]
  refine step_no rfl ?_
  simp only[Act.put,nm1,nm2,nm3]
  refine wpp fun k h=>?_;go_simp;apply h;clear h k
  refine wpList_nil (hK23 _ _ ?_)
  refine wp_cond_false rfl ?_
  refine wp_skip ?_
  refine hK22 _ _ ?_
  refine wp_seq_k fun K70 hK70=>?_
  refine wp_seq_k fun K71 hK71=>wp_region_lit ?_
  iterate 2 (refine wpp fun k h=>?_;go_simp;apply h;clear h k)
  refine wpList_nil (hK71 _ _ ?_)
  refine wp_cond_true rfl ?_
  refine wp_seq_k fun K72 hK72=>wp_region_lit ?_
  iterate 2 (refine wpp fun k h=>?_;go_simp;apply h;clear h k)
  have hB0 := (hb11.up (hu17.out.trans hu21.out))
  have cl0 := hB0.cell (o := 0) rfl
  have fr0 := hB0.free 0
  have cl1 := hB0.cell (o := 1) rfl
  have fr1 := hB0.free 1
  refine step_store (b := b11) (cs' := [.int .i64 0, .int .i64 0]) (T := 30) (W' := ((w20.setCell ⟨b11, 0, none⟩ (.int .i64 0)).setCell ⟨b11, 1, none⟩ (.int .i64 0))) rfl rfl (by go_simp <;> rfl) (((Sto.refl _ _).setCell 0 _).setCell 1 _) (((hB0).setCell 0 _).setCell 1 _) ?_
  clear hB0 cl0 fr0 cl1 fr1
  intro w73 hs hb75
  have hs74 := Aside0.mk hs
  clear hs
  have h76 := h26.sto hs74.out (Nat.ne_of_lt (Nat.lt_of_lt_of_le (Nat.lt_of_lt_of_le ltb2.out ((Nat.le_trans (hu7.out.size) hu10.out.size))) lbb11.out))
  have h77 := h27.sto hs74.out (Nat.ne_of_lt (Nat.lt_of_lt_of_le (Nat.lt_of_lt_of_le ltb5.out (hu10.out.size)) lbb11.out))
  refine wpp fun k h=>?_;go_simp;apply h;clear h k
  refine wpList_nil (hK72 _ _ ?_)
  refine wp_ret ?_
  refine hQf _ _ _ ?_
  have cr0 := hb75.cell (o := 0) rfl
  have cr1 := hb75.cell (o := 1) rfl
  exact bodyPost_ret (v := .tuple #[.agg #[.int .i64 0, .int .i64 0], .int .i64 t18]) (by first|rfl|simp [results, Try.results59, go_sem, cr0, cr1]<;>rfl) rfl ⟨rfl, (hm25.out.sto (Nat.le_trans ((Nat.le_trans ((Nat.le_trans (hu4.out.size) hu7.out.size)) hu10.out.size)) lbb11.out) hs74.out)⟩
 rw [if_pos c24] at H
 have c24n : (t18 != 0) = false := by rw [bne, c24]; rfl
 obtain ⟨t28,A29,H⟩:=Option.bind_eq_some_iff.mp H
 replace A29:=Aside0.mk A29;try dsimp only at H
 try simp only [c24, c24n, Bool.not_true, Bool.not_false]
 refine wpList_step fun k h=>?_;go_simp;apply h;clear h k
 refine wpList_step fun k h=>?_;go_simp;apply h;clear h k
 have cl0 := h26.cell (o := 0) rfl
 have cl1 := h26.cell (o := 1) rfl
 refine wpList_step fun k h=>?_;go_simp;apply h;clear h k
 clear cl0 cl1
 refine wpList_step fun k h=>?_;go_simp;apply h;clear h k
 have cl0 := h27.cell (o := 0) rfl
 have cl1 := h27.cell (o := 1) rfl
 refine wpList_step fun k h=>?_;go_simp;apply h;clear h k
 clear cl0 cl1
 refine wpList_step fun k h=>?_;go_simp;apply h;clear h k
 have cl0 := (hb8.up ((hu13.out.trans hu17.out).trans hu21.out)).cell (o := 0) rfl
 have cl1 := (hb8.up ((hu13.out.trans hu17.out).trans hu21.out)).cell (o := 1) rfl
 refine wpList_step fun k h=>?_;go_simp;apply h;clear h k
 clear cl0 cl1
 refine step_call rfl (by go_simp <;> rfl) (spec_l01Area.calls K a0 a2_0 a2_1 a3_0 a3_1 a4_0 a4_1 t28 w20  A29.out) ?_
 rintro e w30 ⟨rfl, hu⟩
 have hu31 := Aside0.mk hu
 clear hu
 refine ⟨_, rfl, ?_⟩
 simp only[Act.put,nm1,nm2,nm3]
 refine wpList_step fun k h=>?_;go_simp;apply h;clear h k
 refine wpp fun k h=>?_;go_simp;apply h;clear h k
 refine wpList_nil (hK23 _ _ ?_)
 have h33 := (hb8.up (((hu13.out.trans hu17.out).trans hu21.out).trans hu31.out))
 by_cases c32 : (t28 == 0) = true
 ·
  rw [if_pos c32] at H
  have c32n : (t28 != 0) = false := by rw [bne, c32]; rfl
  simp only [Option.some.injEq, Prod.mk.injEq] at H
  obtain ⟨rfl, rfl, rfl⟩ := H
  try simp only [c32, c32n, Bool.not_true, Bool.not_false]
  refine wp_cond_true rfl ?_
  refine wp_region_lit ?_
  refine wpp fun k h=>?_;go_simp;apply h;clear h k
  refine wpList_nil (hK22 _ _ ?_)
  refine wp_seq_k fun K34 hK34=>?_
  refine wp_seq_k fun K35 hK35=>wp_region_lit ?_
  iterate 2 (refine wpp fun k h=>?_;go_simp;apply h;clear h k)
  refine wpList_nil (hK35 _ _ ?_)
  refine wp_cond_true rfl ?_
  refine wp_seq_k fun K36 hK36=>wp_region_lit ?_
  iterate 2 (refine wpp fun k h=>?_;go_simp;apply h;clear h k)
  have hB0 := (hb11.up ((hu17.out.trans hu21.out).trans hu31.out))
  have cl0 := hB0.cell (o := 0) rfl
  have fr0 := hB0.free 0
  have cl1 := hB0.cell (o := 1) rfl
  have fr1 := hB0.free 1
  refine step_store (b := b11) (cs' := [.int .i64 0, .int .i64 0]) (T := 30) (W' := ((w30.setCell ⟨b11, 0, none⟩ (.int .i64 0)).setCell ⟨b11, 1, none⟩ (.int .i64 0))) rfl rfl (by go_simp <;> rfl) (((Sto.refl _ _).setCell 0 _).setCell 1 _) (((hB0).setCell 0 _).setCell 1 _) ?_
  clear hB0 cl0 fr0 cl1 fr1
  intro w37 hs hb39
  have hs38 := Aside0.mk hs
  clear hs
  have h40 := (h26.up hu31.out).sto hs38.out (Nat.ne_of_lt (Nat.lt_of_lt_of_le (Nat.lt_of_lt_of_le ltb2.out ((Nat.le_trans (hu7.out.size) hu10.out.size))) lbb11.out))
  have h41 := (h27.up hu31.out).sto hs38.out (Nat.ne_of_lt (Nat.lt_of_lt_of_le (Nat.lt_of_lt_of_le ltb5.out (hu10.out.size)) lbb11.out))
  have h42 := h33.sto hs38.out (Nat.ne_of_lt (Nat.lt_of_lt_of_le ltb8.out lbb11.out))
  refine wpp fun k h=>?_;go_simp;apply h;clear h k
  refine wpList_nil (hK36 _ _ ?_)
  refine wp_ret ?_
  refine hQf _ _ _ ?_
  have cr0 := hb39.cell (o := 0) rfl
  have cr1 := hb39.cell (o := 1) rfl
  exact bodyPost_ret (v := .tuple #[.agg #[.int .i64 0, .int .i64 0], .int .i64 5]) (by first|rfl|simp [results, Try.results59, go_sem, cr0, cr1]<;>rfl) rfl ⟨rfl, ((hm25.out.trans hu31.out).sto (Nat.le_trans ((Nat.le_trans ((Nat.le_trans (hu4.out.size) hu7.out.size)) hu10.out.size)) lbb11.out) hs38.out)⟩
 rw [if_neg c32] at H; replace c32 := Bool.eq_false_iff.mpr c32
 have c32n : (t28 != 0) = true := by rw [bne, c32]; rfl
 have c32p : ¬ t28 = 0 := fun e => by simp [e] at c32
 obtain ⟨⟨t46, t47, t48⟩,A49,H⟩:=Option.bind_eq_some_iff.mp H
 replace A49:=Aside0.mk A49;try dsimp only at H
 obtain ⟨⟨t50, t51, t52⟩,A53,H⟩:=Option.bind_eq_some_iff.mp H
 replace A53:=Aside0.mk A53;try dsimp only at H
 obtain ⟨⟨t54, t55, t56⟩,A57,H⟩:=Option.bind_eq_some_iff.mp H
 replace A57:=Aside0.mk A57;try dsimp only at H
 simp only [Option.some.injEq, Prod.mk.injEq] at H
 obtain ⟨rfl, rfl, rfl⟩ := H
 try simp only [c32, c32n, Bool.not_true, Bool.not_false]
 refine wp_cond_false rfl ?_
 refine wp_skip ?_
 refine hK22 _ _ ?_
 refine wp_seq_k fun K43 hK43=>?_
 refine wp_seq_k fun K44 hK44=>wp_region_lit ?_
 iterate 2 (refine wpp fun k h=>?_;go_simp;apply h;clear h k)
 refine wpList_nil (hK44 _ _ ?_)
 refine wp_cond_false rfl ?_
 refine wp_skip ?_
 refine hK43 _ _ ?_
 refine wp_seq_k fun K45 hK45=>?_
 have hTT_ : ∀ w_, Up (World.drew w30) w_ → (fun w_ => True) w_ := fun w_ hu_ => True.intro
 refine' wp_region_pure (fun w_ => True) 16 [14] [Slot.det _, Slot.det _, Slot.det _, Slot.det _, Slot.det _, Slot.det (.agg #[.int .i64 t46, .int .i64 t47, .int .i64 t48]), Slot.det _, Slot.det _, Slot.det _, Slot.det _, Slot.det (.agg #[.int .i64 t50, .int .i64 t51, .int .i64 t52]), Slot.det (.tuple #[.agg #[.int .i64 t54, .int .i64 t55], .bool t56]), Slot.det _, Slot.det _, Slot.pur _, Slot.any (PtrTo [.int .i64 0, .int .i64 0] 30) true] (by kernel_rfl) [false, false, false, false, false, false, false, false, false, false, false, false, false, false, true, false] (by kernel_rfl) rfl (by kernel_rfl) (by decide) hTT_ ?main
 case main =>
  simp only [List.take_succ_cons, List.take_zero]
  refine wpK_ops rfl (fun w1 hu => ?_) ?_
  · clear hu
    go_simp
    first | done | rfl
  simp only[Act.put,nm1,nm2,nm3]
  refine wpK_ops rfl (fun w1 hu => ?_) ?_
  · clear hu
    go_simp
    first | done | rfl
  simp only[Act.put,nm1,nm2,nm3]
  refine wpK_ops rfl (fun w1 hu => ?_) ?_
  · clear hu
    go_simp
    first | done | rfl
  simp only[Act.put,nm1,nm2,nm3]
  refine wpK_ops rfl (fun w1 hu => ?_) ?_
  · have cl0 := ((h26.up hu31.out).up ((Up.refl _).drew.trans hu)).cell (o := 0) rfl
    have cl1 := ((h26.up hu31.out).up ((Up.refl _).drew.trans hu)).cell (o := 1) rfl
    have cl2 := ((h26.up hu31.out).up ((Up.refl _).drew.trans hu)).cell (o := 2) rfl
    go_simp
    first | done | rfl
  simp only[Act.put,nm1,nm2,nm3]
  refine wpK_ops rfl (fun w1 hu => ?_) ?_
  · have cl0 := ((h27.up hu31.out).up ((Up.refl _).drew.trans hu)).cell (o := 0) rfl
    have cl1 := ((h27.up hu31.out).up ((Up.refl _).drew.trans hu)).cell (o := 1) rfl
    have cl2 := ((h27.up hu31.out).up ((Up.refl _).drew.trans hu)).cell (o := 2) rfl
    go_simp
    first | done | rfl
  simp only[Act.put,nm1,nm2,nm3]
  refine wpK_ops rfl (fun w1 hu => ?_) ?_
  · have hcl := (spec_l06Radical.calls K a0 a1 a2_0 a2_1 a2_2 a3_0 a3_1 a3_2 t46 t47 t48 w1  A49.out)
    clear hu
    replace hcl := Aside0.mk hcl
    go_simp
    exact hcl.out
  simp only[Act.put,nm1,nm2,nm3]
  refine wpK_ops rfl (fun w1 hu => ?_) ?_
  · clear hu
    go_simp
    first | done | rfl
  simp only[Act.put,nm1,nm2,nm3]
  refine wpK_ops rfl (fun w1 hu => ?_) ?_
  · clear hu
    go_simp
    first | done | rfl
  simp only[Act.put,nm1,nm2,nm3]
  refine wpK_ops rfl (fun w1 hu => ?_) ?_
  · have cl0 := ((h26.up hu31.out).up ((Up.refl _).drew.trans hu)).cell (o := 0) rfl
    have cl1 := ((h26.up hu31.out).up ((Up.refl _).drew.trans hu)).cell (o := 1) rfl
    have cl2 := ((h26.up hu31.out).up ((Up.refl _).drew.trans hu)).cell (o := 2) rfl
    go_simp
    first | done | rfl
  simp only[Act.put,nm1,nm2,nm3]
  refine wpK_ops rfl (fun w1 hu => ?_) ?_
  · have cl0 := (h33.up ((Up.refl _).drew.trans hu)).cell (o := 0) rfl
    have cl1 := (h33.up ((Up.refl _).drew.trans hu)).cell (o := 1) rfl
    have cl2 := (h33.up ((Up.refl _).drew.trans hu)).cell (o := 2) rfl
    go_simp
    first | done | rfl
  simp only[Act.put,nm1,nm2,nm3]
  refine wpK_ops rfl (fun w1 hu => ?_) ?_
  · have hcl := (spec_l06Radical.calls K a0 a1 a2_0 a2_1 a2_2 a4_0 a4_1 a4_2 t50 t51 t52 w1  A53.out)
    clear hu
    replace hcl := Aside0.mk hcl
    go_simp
    exact hcl.out
  simp only[Act.put,nm1,nm2,nm3]
  refine wpK_ops rfl (fun w1 hu => ?_) ?_
  · have hcl := (spec_l01Meet.calls K a0 t46 t47 t48 t50 t51 t52 t54 t55 t56 w1  A57.out)
    clear hu
    replace hcl := Aside0.mk hcl
    go_simp
    exact hcl.out
  simp only[Act.put,nm1,nm2,nm3]
  refine wpK_ops rfl (fun w1 hu => ?_) ?_
  · clear hu
    go_simp
    first | done | rfl
  simp only[Act.put,nm1,nm2,nm3]
  refine wpK_ops rfl (fun w1 hu => ?_) ?_
  · clear hu
    go_simp
    first | done | rfl
  simp only[Act.put,nm1,nm2,nm3]
  refine wpK_pur rfl hTT_ (fun w1 hT => ?_) ?_
  · clear hT
    go_simp
    first | done | rfl
  simp only[Act.put,nm1,nm2,nm3]
  refine wpK_any rfl (stab_ptr _ _) (fun w1 _ _ => fresh_ptr (by go_simp <;> rfl)) (fun v58 => ?_)
  simp only[Act.put,nm1,nm2,nm3]
  refine wpK_nil ?_
  intro w60 hu hap
  simp only [List.drop_succ_cons, List.drop_zero]
  replace hu := (Up.refl _).drew.trans hu
  obtain ⟨hf0, hn0, ⟨b59, e0, hb59⟩, -⟩ := hap
  have lbb59 := Aside0.mk (hf0 rfl b59 (by rw [e0]; rfl)).1
  have ltb59 := Aside0.mk hb59.lt
  dsimp only at e0
  subst e0
  clear hf0 hn0
  have hu61 := Aside0.mk hu
  clear hu
  refine late_consT True.intro ?_
  have hB0 := hb59
  have cl0 := hB0.cell (o := 0) rfl
  have fr0 := hB0.free 0
  have cl1 := hB0.cell (o := 1) rfl
  have fr1 := hB0.free 1
  refine step_store (b := b59) (cs' := [.int .i64 t54, .int .i64 t55]) (T := 30) (W' := ((w60.setCell ⟨b59, 0, none⟩ (.int .i64 t54)).setCell ⟨b59, 1, none⟩ (.int .i64 t55))) rfl rfl (by go_simp <;> rfl) (((Sto.refl _ _).setCell 0 _).setCell 1 _) (((hB0).setCell 0 _).setCell 1 _) ?_
  clear hB0 cl0 fr0 cl1 fr1
  intro w62 hs hb64
  have hs63 := Aside0.mk hs
  clear hs
  refine wpList_nil ?_
  refine wrapQ_k ?_
  refine late_consT True.intro ?_
  refine wpp fun k h=>?_;go_simp;apply h;clear h k
  refine wpList_nil ?_
  refine wrapQ_k ?_
  refine late_nilT True.intro ?_
  refine hK45 _ _ ?_
  refine wp_seq_k fun K65 hK65=>wp_region_lit ?_
  have cl0 := hb64.cell (o := 0) rfl
  have cl1 := hb64.cell (o := 1) rfl
  refine wpp fun k h=>?_;go_simp;apply h;clear h k
  clear cl0 cl1
  have hB0 := (hb11.up ((((hu17.out.trans hu21.out).trans hu31.out).trans hu61.out).sto (Nat.le_trans ((Nat.le_trans ((Nat.le_trans (hu17.out.size) hu21.out.size)) hu31.out.size)) lbb59.out) hs63.out))
  have cl0 := hB0.cell (o := 0) rfl
  have fr0 := hB0.free 0
  have cl1 := hB0.cell (o := 1) rfl
  have fr1 := hB0.free 1
  refine step_store (b := b11) (cs' := [.int .i64 t54, .int .i64 t55]) (T := 30) (W' := ((w62.setCell ⟨b11, 0, none⟩ (.int .i64 t54)).setCell ⟨b11, 1, none⟩ (.int .i64 t55))) rfl rfl (by go_simp <;> rfl) (((Sto.refl _ _).setCell 0 _).setCell 1 _) (((hB0).setCell 0 _).setCell 1 _) ?_
  clear hB0 cl0 fr0 cl1 fr1
  intro w66 hs hb68
  have hs67 := Aside0.mk hs
  clear hs
  have h69 := hb64.sto hs67.out (Ne.symm (Nat.ne_of_lt (Nat.lt_of_lt_of_le (Nat.lt_of_lt_of_le ltb11.out ((Nat.le_trans ((Nat.le_trans (hu17.out.size) hu21.out.size)) hu31.out.size))) lbb59.out)))
  refine wpp fun k h=>?_;go_simp;apply h;clear h k
  refine wpList_nil (hK65 _ _ ?_)
  refine wp_ret ?_
  refine hQf _ _ _ ?_
  have cr0 := hb68.cell (o := 0) rfl
  have cr1 := hb68.cell (o := 1) rfl
  exact bodyPost_ret (v := .tuple #[.agg #[.int .i64 t54, .int .i64 t55], .int .i64 0]) (by first|rfl|simp [results, Try.results59, go_sem, cr0, cr1]<;>rfl) rfl ⟨rfl, ((((hm25.out.trans hu31.out).trans hu61.out).sto (Nat.le_trans ((Nat.le_trans (hm25.out.size) hu31.out.size)) lbb59.out) hs63.out).sto (Nat.le_trans ((Nat.le_trans ((Nat.le_trans (hu4.out.size) hu7.out.size)) hu10.out.size)) lbb11.out) hs67.out)⟩

set_option maxHeartbeats 40000000 in
set_option maxRecDepth 100000 in
theorem spec_l04DrawOf.calls (K : Nat) (ba0 : Nat) (a0_0_A : Option Addr) (a0_0_c : Nat) (a0_0 : List (Int)) (a0_1 : Int) (a0_2 : Int) (a1 : Int) (r0 : Int) (r1 : Int) (r2 : Int) (r3 : Int) (r4 : Int) (r5 : Int) (r6 : Int) (r7 : Int) (w : World) (ha0 : Blk w ba0 [.slice a0_0_A a0_0.length a0_0_c, .int .i64 a0_1, .int .u64 a0_2] 158) (ha0_0 : Rd eU8 w a0_0_A a0_0) (haa0_0 : ∀ k, blk (.slice a0_0_A a0_0.length a0_0_c) = some k → 0 < a0_0.length → k ≠ ba0) (h : spec_l04DrawOf.f K a0_0 a0_1 a0_2 a1 = some (r0, r1, r2, r3, r4, r5, r6, r7)) :
    Calls Try.prog 194 #[.pointer (some ⟨ba0, 0, none⟩), .int .i64 a1] w fun e w' => e = .returned (.tuple #[.agg #[.int .i64 r0, .int .i64 r1], .agg #[.int .i64 r2, .int .i64 r3], .agg #[.int .i64 r4, .int .i64 r5]]) ∧ Blk w' ba0 [.slice a0_0_A a0_0.length a0_0_c, .int .i64 r6, .int .u64 r7] 158 ∧ Grow (.pointer (some ⟨ba0, 0, none⟩)) w w' := by
 have H : (((spec_l01DrawPoint.f K a0_0 a0_1 a0_2 a1).bind fun (t12, t13, t14, t15) => ((spec_l01DrawPoint.f K a0_0 t14 t15 a1).bind fun (t24, t25, t26, t27) => ((spec_l01DrawPoint.f K a0_0 t26 t27 a1).bind fun (t36, t37, t38, t39) => (spec_l04DrawOf.l0 K a0_0 a1 t12 t13 K 0 t38 t39 0 0 0 0 0 0 t24 t25 t36 t37)))) : Option (Int × Int × Int × Int × Int × Int × Int × Int)) = some (r0, r1, r2, r3, r4, r5, r6, r7) := h
 clear h
 obtain ⟨⟨t12, t13, t14, t15⟩,A16,H⟩:=Option.bind_eq_some_iff.mp H
 replace A16:=Aside0.mk A16;try dsimp only at H
 obtain ⟨⟨t24, t25, t26, t27⟩,A28,H⟩:=Option.bind_eq_some_iff.mp H
 replace A28:=Aside0.mk A28;try dsimp only at H
 obtain ⟨⟨t36, t37, t38, t39⟩,A40,H⟩:=Option.bind_eq_some_iff.mp H
 replace A40:=Aside0.mk A40;try dsimp only at H
 have ltba0 := Aside0.mk ha0.lt
 go_enter Try.func194, Try.ntmps194
 refine wp_hide (fun Qf hQf => ?_)
 refine wp_seq_k fun K1 hK1=>wp_region_lit ?_
 refine step_new (cs := [.int .i64 0, .int .i64 0]) (T := 30) (f := fun b => .pointer (some ⟨b, 0, none⟩)) rfl (by go_simp <;> rfl) ?_
 intro b2 w3 hu lb hb2
 simp only[Act.put,nm1,nm2,nm3]
 have lbb2 := Aside0.mk lb
 have ltb2 := Aside0.mk hb2.lt
 clear lb
 have hu4 := Aside0.mk hu
 clear hu
 refine step_new (cs := [.int .i64 0, .int .i64 0]) (T := 30) (f := fun b => .pointer (some ⟨b, 0, none⟩)) rfl (by go_simp <;> rfl) ?_
 intro b5 w6 hu lb hb5
 simp only[Act.put,nm1,nm2,nm3]
 have lbb5 := Aside0.mk lb
 have ltb5 := Aside0.mk hb5.lt
 clear lb
 have hu7 := Aside0.mk hu
 clear hu
 refine step_new (cs := [.int .i64 0, .int .i64 0]) (T := 30) (f := fun b => .pointer (some ⟨b, 0, none⟩)) rfl (by go_simp <;> rfl) ?_
 intro b8 w9 hu lb hb8
 simp only[Act.put,nm1,nm2,nm3]
 have lbb8 := Aside0.mk lb
 have ltb8 := Aside0.mk hb8.lt
 clear lb
 have hu10 := Aside0.mk hu
 clear hu
 refine wpList_nil (hK1 _ _ ?_)
 refine wp_seq_k fun K11 hK11=>wp_region_lit ?_
 iterate 2 (refine wpp fun k h=>?_;go_simp;apply h;clear h k)
 refine step_call wn (by go_simp <;> rfl) (spec_l01DrawPoint.calls K ba0 a0_0_A a0_0_c a0_0 a0_1 a0_2 a1 t12 t13 t14 t15 w9 (ha0.up ((hu4.out.trans hu7.out).trans hu10.out)) (ha0_0.up ((hu4.out.trans hu7.out).trans hu10.out)) haa0_0 A16.out) ?_
 rintro e w17 ⟨rfl, h18, hs⟩
 have hs19 := Aside0.mk hs
 clear hs
 have h20 := (ha0_0.up ((hu4.out.trans hu7.out).trans hu10.out)).growp hs19.out haa0_0
 have h21 := (hb2.up (hu7.out.trans hu10.out)).grow hs19.out (fun k hk e => (Nat.ne_of_lt (Nat.lt_of_lt_of_le ltba0.out lbb2.out)) ((Option.some.inj hk).trans e))
 have h22 := (hb5.up hu10.out).grow hs19.out (fun k hk e => (Nat.ne_of_lt (Nat.lt_of_lt_of_le (Nat.lt_of_lt_of_le ltba0.out (hu4.out.size)) lbb5.out)) ((Option.some.inj hk).trans e))
 have h23 := hb8.grow hs19.out (fun k hk e => (Nat.ne_of_lt (Nat.lt_of_lt_of_le (Nat.lt_of_lt_of_le ltba0.out ((Nat.le_trans (hu4.out.size) hu7.out.size))) lbb8.out)) ((Option.some.inj hk).trans e))
 refine ⟨_, rfl, ?_⟩
 simp only[Act.put,nm1,nm2,nm3]
 iterate 2 (refine wpp fun k h=>?_;go_simp;apply h;clear h k)
 refine step_call wn (by go_simp <;> rfl) (spec_l01DrawPoint.calls K ba0 a0_0_A a0_0_c a0_0 t14 t15 a1 t24 t25 t26 t27 w17 h18 h20 haa0_0 A28.out) ?_
 rintro e w29 ⟨rfl, h30, hs⟩
 have hs31 := Aside0.mk hs
 clear hs
 have h32 := h20.growp hs31.out haa0_0
 have h33 := h21.grow hs31.out (fun k hk e => (Nat.ne_of_lt (Nat.lt_of_lt_of_le ltba0.out lbb2.out)) ((Option.some.inj hk).trans e))
 have h34 := h22.grow hs31.out (fun k hk e => (Nat.ne_of_lt (Nat.lt_of_lt_of_le (Nat.lt_of_lt_of_le ltba0.out (hu4.out.size)) lbb5.out)) ((Option.some.inj hk).trans e))
 have h35 := h23.grow hs31.out (fun k hk e => (Nat.ne_of_lt (Nat.lt_of_lt_of_le (Nat.lt_of_lt_of_le ltba0.out ((Nat.le_trans (hu4.out.size) hu7.out.size))) lbb8.out)) ((Option.some.inj hk).trans e))
 refine ⟨_, rfl, ?_⟩
 simp only[Act.put,nm1,nm2,nm3]
 iterate 2 (refine wpp fun k h=>?_;go_simp;apply h;clear h k)
 refine step_call wn (by go_simp <;> rfl) (spec_l01DrawPoint.calls K ba0 a0_0_A a0_0_c a0_0 t26 t27 a1 t36 t37 t38 t39 w29 h30 h32 haa0_0 A40.out) ?_
 rintro e w41 ⟨rfl, h42, hs⟩
 have hs43 := Aside0.mk hs
 clear hs
 have h44 := h32.growp hs43.out haa0_0
 have h45 := h33.grow hs43.out (fun k hk e => (Nat.ne_of_lt (Nat.lt_of_lt_of_le ltba0.out lbb2.out)) ((Option.some.inj hk).trans e))
 have h46 := h34.grow hs43.out (fun k hk e => (Nat.ne_of_lt (Nat.lt_of_lt_of_le (Nat.lt_of_lt_of_le ltba0.out (hu4.out.size)) lbb5.out)) ((Option.some.inj hk).trans e))
 have h47 := h35.grow hs43.out (fun k hk e => (Nat.ne_of_lt (Nat.lt_of_lt_of_le (Nat.lt_of_lt_of_le ltba0.out ((Nat.le_trans (hu4.out.size) hu7.out.size))) lbb8.out)) ((Option.some.inj hk).trans e))
 refine ⟨_, rfl, ?_⟩
 simp only[Act.put,nm1,nm2,nm3]
 refine step_new (cs := [.int .i64 0, .int .i64 0]) (T := 30) (f := fun b => .pointer (some ⟨b, 0, none⟩)) rfl (by go_simp <;> rfl) ?_
 intro b48 w49 hu lb hb48
 simp only[Act.put,nm1,nm2,nm3]
 have lbb48 := Aside0.mk lb
 have ltb48 := Aside0.mk hb48.lt
 clear lb
 have hu50 := Aside0.mk hu
 clear hu
 refine step_new (cs := [.int .i64 0, .int .i64 0]) (T := 30) (f := fun b => .pointer (some ⟨b, 0, none⟩)) rfl (by go_simp <;> rfl) ?_
 intro b51 w52 hu lb hb51
 simp only[Act.put,nm1,nm2,nm3]
 have lbb51 := Aside0.mk lb
 have ltb51 := Aside0.mk hb51.lt
 clear lb
 have hu53 := Aside0.mk hu
 clear hu
 refine step_new (cs := [.int .i64 0, .int .i64 0]) (T := 30) (f := fun b => .pointer (some ⟨b, 0, none⟩)) rfl (by go_simp <;> rfl) ?_
 intro b54 w55 hu lb hb54
 simp only[Act.put,nm1,nm2,nm3]
 have lbb54 := Aside0.mk lb
 have ltb54 := Aside0.mk hb54.lt
 clear lb
 have hu56 := Aside0.mk hu
 clear hu
 have hB0 := (hb48.up (hu53.out.trans hu56.out))
 have cl0 := hB0.cell (o := 0) rfl
 have fr0 := hB0.free 0
 have cl1 := hB0.cell (o := 1) rfl
 have fr1 := hB0.free 1
 refine step_store (b := b48) (cs' := [.int .i64 t12, .int .i64 t13]) (T := 30) (W' := ((w55.setCell ⟨b48, 0, none⟩ (.int .i64 t12)).setCell ⟨b48, 1, none⟩ (.int .i64 t13))) rfl rfl (by go_simp <;> rfl) (((Sto.refl _ _).setCell 0 _).setCell 1 _) (((hB0).setCell 0 _).setCell 1 _) ?_
 clear hB0 cl0 fr0 cl1 fr1
 intro w57 hs hb59
 have hs58 := Aside0.mk hs
 clear hs
 have h60 := (hb51.up hu56.out).sto hs58.out (Ne.symm (Nat.ne_of_lt (Nat.lt_of_lt_of_le ltb48.out lbb51.out)))
 have h61 := hb54.sto hs58.out (Ne.symm (Nat.ne_of_lt (Nat.lt_of_lt_of_le (Nat.lt_of_lt_of_le ltb48.out (hu53.out.size)) lbb54.out)))
 have hB0 := h60
 have cl0 := hB0.cell (o := 0) rfl
 have fr0 := hB0.free 0
 have cl1 := hB0.cell (o := 1) rfl
 have fr1 := hB0.free 1
 refine step_store (b := b51) (cs' := [.int .i64 t24, .int .i64 t25]) (T := 30) (W' := ((w57.setCell ⟨b51, 0, none⟩ (.int .i64 t24)).setCell ⟨b51, 1, none⟩ (.int .i64 t25))) rfl rfl (by go_simp <;> rfl) (((Sto.refl _ _).setCell 0 _).setCell 1 _) (((hB0).setCell 0 _).setCell 1 _) ?_
 clear hB0 cl0 fr0 cl1 fr1
 intro w62 hs hb64
 have hs63 := Aside0.mk hs
 clear hs
 have h65 := hb59.sto hs63.out (Nat.ne_of_lt (Nat.lt_of_lt_of_le ltb48.out lbb51.out))
 have h66 := h61.sto hs63.out (Ne.symm (Nat.ne_of_lt (Nat.lt_of_lt_of_le ltb51.out lbb54.out)))
 have hB0 := h66
 have cl0 := hB0.cell (o := 0) rfl
 have fr0 := hB0.free 0
 have cl1 := hB0.cell (o := 1) rfl
 have fr1 := hB0.free 1
 refine step_store (b := b54) (cs' := [.int .i64 t36, .int .i64 t37]) (T := 30) (W' := ((w62.setCell ⟨b54, 0, none⟩ (.int .i64 t36)).setCell ⟨b54, 1, none⟩ (.int .i64 t37))) rfl rfl (by go_simp <;> rfl) (((Sto.refl _ _).setCell 0 _).setCell 1 _) (((hB0).setCell 0 _).setCell 1 _) ?_
 clear hB0 cl0 fr0 cl1 fr1
 intro w67 hs hb69
 have hs68 := Aside0.mk hs
 clear hs
 have h70 := h65.sto hs68.out (Nat.ne_of_lt (Nat.lt_of_lt_of_le (Nat.lt_of_lt_of_le ltb48.out (hu53.out.size)) lbb54.out))
 have h71 := hb64.sto hs68.out (Nat.ne_of_lt (Nat.lt_of_lt_of_le ltb51.out lbb54.out))
 refine wpList_nil (hK11 _ _ ?_)
 refine wp_seq_k fun K72 hK72=>?_
 refine wp_seq_k fun K73 hK73=>wp_region_lit ?_
 refine wpp fun k h=>?_;go_simp;apply h;clear h k
 refine wpList_nil (hK73 _ _ ?_)
 refine wp_block ?_
 have HL90 := Aside0.mk H
 clear H
 go_loopg [10] K (fun kq v10 w' => ∃ (x74 : Int) (x75 : Int) (x76 : Int) (x77 : Int) (x78 : Int) (x79 : Int) (x80 : Int) (x81 : Int) (x82 : Int) (x83 : Int) (x84 : Int) (x85 : Int) (x86 : Int), v10 = .int .i64 x74 ∧ Aside0 (spec_l04DrawOf.l0 K a0_0 a1 t12 t13 kq x74 x75 x76 x77 x78 x79 x80 x81 x82 x83 x84 x85 x86 = some (r0, r1, r2, r3, r4, r5, r6, r7)) ∧ Aside0 (kq ≤ K) ∧ Aside0 (Grow (.pointer (some ⟨ba0, 0, none⟩)) w w') ∧ Aside0 (w67.heap.size ≤ w'.heap.size) ∧ Rd eU8 w' a0_0_A a0_0 ∧ Blk w' ba0 [.slice a0_0_A a0_0.length a0_0_c, .int .i64 x75, .int .u64 x76] 158 ∧ Blk w' b2 [.int .i64 x77, .int .i64 x78] 30 ∧ Blk w' b5 [.int .i64 x79, .int .i64 x80] 30 ∧ Blk w' b8 [.int .i64 x81, .int .i64 x82] 30 ∧ Blk w' b48 [.int .i64 t12, .int .i64 t13] 30 ∧ Blk w' b51 [.int .i64 x83, .int .i64 x84] 30 ∧ Blk w' b54 [.int .i64 x85, .int .i64 x86] 30)
 case atStart => exact ⟨0, t38, t39, 0, 0, 0, 0, 0, 0, t24, t25, t36, t37, (by first | rfl | simp), HL90, ⟨Nat.le_refl _⟩, ⟨(Grow.sto_young (Grow.sto_young (Grow.sto_young ((((((((((Grow.refl (.pointer (some ⟨ba0, 0, none⟩)) _).trans (Grow.up hu4.out)).trans (Grow.up hu7.out)).trans (Grow.up hu10.out)).trans hs19.out).trans hs31.out).trans hs43.out).trans (Grow.up hu50.out)).trans (Grow.up hu53.out)).trans (Grow.up hu56.out)) hs58.out (Nat.le_trans ((Nat.le_trans ((Nat.le_trans ((Nat.le_trans ((Nat.le_trans ((Nat.le_trans (hu4.out.size) hu7.out.size)) hu10.out.size)) hs19.out.size)) hs31.out.size)) hs43.out.size)) lbb48.out)) hs63.out (Nat.le_trans ((Nat.le_trans ((Nat.le_trans ((Nat.le_trans ((Nat.le_trans ((Nat.le_trans ((Nat.le_trans (hu4.out.size) hu7.out.size)) hu10.out.size)) hs19.out.size)) hs31.out.size)) hs43.out.size)) hu50.out.size)) lbb51.out)) hs68.out (Nat.le_trans ((Nat.le_trans ((Nat.le_trans ((Nat.le_trans ((Nat.le_trans ((Nat.le_trans ((Nat.le_trans ((Nat.le_trans (hu4.out.size) hu7.out.size)) hu10.out.size)) hs19.out.size)) hs31.out.size)) hs43.out.size)) hu50.out.size)) hu53.out.size)) lbb54.out))⟩, ⟨Nat.le_refl _⟩, (h44.up (((((hu50.out.trans hu53.out).trans hu56.out).sto (Nat.le_trans (Nat.le_refl _) lbb48.out) hs58.out).sto (Nat.le_trans (hu50.out.size) lbb51.out) hs63.out).sto (Nat.le_trans ((Nat.le_trans (hu50.out.size) hu53.out.size)) lbb54.out) hs68.out)), (h42.up (((((hu50.out.trans hu53.out).trans hu56.out).sto (Nat.le_trans (Nat.le_refl _) lbb48.out) hs58.out).sto (Nat.le_trans (hu50.out.size) lbb51.out) hs63.out).sto (Nat.le_trans ((Nat.le_trans (hu50.out.size) hu53.out.size)) lbb54.out) hs68.out)), (h45.up (((((hu50.out.trans hu53.out).trans hu56.out).sto (Nat.le_trans (Nat.le_refl _) lbb48.out) hs58.out).sto (Nat.le_trans (hu50.out.size) lbb51.out) hs63.out).sto (Nat.le_trans ((Nat.le_trans (hu50.out.size) hu53.out.size)) lbb54.out) hs68.out)), (h46.up (((((hu50.out.trans hu53.out).trans hu56.out).sto (Nat.le_trans (Nat.le_refl _) lbb48.out) hs58.out).sto (Nat.le_trans (hu50.out.size) lbb51.out) hs63.out).sto (Nat.le_trans ((Nat.le_trans (hu50.out.size) hu53.out.size)) lbb54.out) hs68.out)), (h47.up (((((hu50.out.trans hu53.out).trans hu56.out).sto (Nat.le_trans (Nat.le_refl _) lbb48.out) hs58.out).sto (Nat.le_trans (hu50.out.size) lbb51.out) hs63.out).sto (Nat.le_trans ((Nat.le_trans (hu50.out.size) hu53.out.size)) lbb54.out) hs68.out)), h70, h71, hb69⟩
 case round =>
  rename_i J101 K102 hJ101 hK102
  obtain ⟨x74, x75, x76, x77, x78, x79, x80, x81, x82, x83, x84, x85, x86, rfl, HL103, hk100, hu88, hz89, h91, h92, h93, h94, h95, h96, h97, h98⟩ := hrel
  obtain ⟨w87, rfl⟩ : ∃ wo : World, wo = wr := ⟨_, rfl⟩
  obtain ⟨k99, rfl⟩ | rfl : (∃ k, gk = k + 1) ∨ gk = 0 := by rcases gk with _ | k; exact .inr rfl; exact .inl ⟨k, rfl⟩
  case inr => exact absurd HL103.out (by simp [spec_l04DrawOf.l0])
  have H := HL103.out
  clear HL103
  rw [spec_l04DrawOf.l0] at H
  refine wp_seq_k fun K104 hK104=>?_
  refine wp_seq_k fun K105 hK105=>wp_region_lit ?_
  iterate 3 (refine wpp fun k h=>?_;go_simp;apply h;clear h k)
  have hm107 := Aside0.mk (Nat.le_trans ((Nat.le_trans ((Nat.le_trans ((Nat.le_trans ((Nat.le_trans ((Nat.le_trans ((Nat.le_trans ((Nat.le_trans ((Nat.le_trans ((Nat.le_trans ((Nat.le_trans ((Nat.le_trans (hu4.out.size) hu7.out.size)) hu10.out.size)) hs19.out.size)) hs31.out.size)) hs43.out.size)) hu50.out.size)) hu53.out.size)) hu56.out.size)) (Nat.le_of_eq hs58.out.size.symm))) (Nat.le_of_eq hs63.out.size.symm))) (Nat.le_of_eq hs68.out.size.symm))) hz89.out)
  by_cases c106 : (decide (x74 < 6)) = true
  rotate_left
  ·
   rw [if_neg c106] at H; replace c106 := Bool.eq_false_iff.mpr c106
   simp only [Option.some.injEq, Prod.mk.injEq] at H
   obtain ⟨rfl, rfl, rfl, rfl, rfl, rfl, rfl, rfl⟩ := H
   try simp only [c106, Bool.not_true, Bool.not_false]
   refine step_no rfl ?_
   simp only[Act.put,nm1,nm2,nm3]
   refine step_no rfl ?_
   simp only[Act.put,nm1,nm2,nm3]
   refine step_no rfl ?_
   simp only[Act.put,nm1,nm2,nm3]
   refine step_no rfl ?_
   simp only[Act.put,nm1,nm2,nm3]
   refine step_no rfl ?_
   simp only[Act.put,nm1,nm2,nm3]
   refine step_no rfl ?_
   simp only[Act.put,nm1,nm2,nm3]
   refine wpp fun k h=>?_;go_simp;apply h;clear h k
   refine wpList_nil (hK105 _ _ ?_)
   refine wp_cond_false rfl ?_
   refine wp_exit ?_
   refine hK72 _ _ ?_
   refine wp_seq_k fun K199 hK199=>?_
   have hTT_ : ∀ w_, Up (World.drew w87) w_ → (fun w_ => Blk w_ b51 [.int .i64 x83, .int .i64 x84] 30 ∧ Blk w_ b54 [.int .i64 x85, .int .i64 x86] 30 ∧ True) w_ := fun w_ hu_ => ⟨h97.up ((Up.refl _).drew.trans hu_), h98.up ((Up.refl _).drew.trans hu_), True.intro⟩
   refine' wp_region_pure (fun w_ => Blk w_ b51 [.int .i64 x83, .int .i64 x84] 30 ∧ Blk w_ b54 [.int .i64 x85, .int .i64 x86] 30 ∧ True) 3 [1, 2] [Slot.det _, Slot.pur _, Slot.pur _] (by kernel_rfl) [false, true, true] (by kernel_rfl) rfl (by kernel_rfl) (by decide) hTT_ ?main
   case main =>
    simp only [List.take_succ_cons, List.take_zero]
    refine wpK_ops rfl (fun w1 hu => ?_) ?_
    · have cl0 := (h96.up ((Up.refl _).drew.trans hu)).cell (o := 0) rfl
      have cl1 := (h96.up ((Up.refl _).drew.trans hu)).cell (o := 1) rfl
      go_simp
      first | done | rfl
    simp only[Act.put,nm1,nm2,nm3]
    refine wpK_pur rfl hTT_ (fun w1 hT => ?_) ?_
    · have hB_ := hT.1
      have cl0 := hB_.cell (o := 0) rfl
      have cl1 := hB_.cell (o := 1) rfl
      clear hT
      go_simp
      first | done | rfl
    simp only[Act.put,nm1,nm2,nm3]
    refine wpK_pur rfl hTT_ (fun w1 hT => ?_) ?_
    · have hB_ := hT.2.1
      have cl0 := hB_.cell (o := 0) rfl
      have cl1 := hB_.cell (o := 1) rfl
      clear hT
      go_simp
      first | done | rfl
    simp only[Act.put,nm1,nm2,nm3]
    refine wpK_nil ?_
    intro w200 hu hap
    simp only [List.drop_succ_cons, List.drop_zero]
    replace hu := (Up.refl _).drew.trans hu
    clear hap
    have hu201 := Aside0.mk hu
    clear hu
    refine late_consT ⟨(h97.up hu201.out), (h98.up hu201.out), True.intro⟩ ?_
    have hB0 := (h93.up hu201.out)
    have cl0 := hB0.cell (o := 0) rfl
    have fr0 := hB0.free 0
    have cl1 := hB0.cell (o := 1) rfl
    have fr1 := hB0.free 1
    refine step_store (b := b2) (cs' := [.int .i64 t12, .int .i64 t13]) (T := 30) (W' := ((w200.setCell ⟨b2, 0, none⟩ (.int .i64 t12)).setCell ⟨b2, 1, none⟩ (.int .i64 t13))) rfl rfl (by go_simp <;> rfl) (((Sto.refl _ _).setCell 0 _).setCell 1 _) (((hB0).setCell 0 _).setCell 1 _) ?_
    clear hB0 cl0 fr0 cl1 fr1
    intro w202 hs hb204
    have hs203 := Aside0.mk hs
    clear hs
    have h205 := (h92.up hu201.out).sto hs203.out (Nat.ne_of_lt (Nat.lt_of_lt_of_le ltba0.out lbb2.out))
    have h206 := Rd.sto (c := 0) (h91.up hu201.out) hs203.out (fun k hk hp => Nat.ne_of_lt (Nat.lt_of_lt_of_le (ha0_0.blk_lt hp k hk) (lbb2.out)))
    have h207 := (h94.up hu201.out).sto hs203.out (Ne.symm (Nat.ne_of_lt (Nat.lt_of_lt_of_le ltb2.out lbb5.out)))
    have h208 := (h95.up hu201.out).sto hs203.out (Ne.symm (Nat.ne_of_lt (Nat.lt_of_lt_of_le (Nat.lt_of_lt_of_le ltb2.out (hu7.out.size)) lbb8.out)))
    have h209 := (h96.up hu201.out).sto hs203.out (Ne.symm (Nat.ne_of_lt (Nat.lt_of_lt_of_le (Nat.lt_of_lt_of_le ltb2.out ((Nat.le_trans ((Nat.le_trans ((Nat.le_trans ((Nat.le_trans (hu7.out.size) hu10.out.size)) hs19.out.size)) hs31.out.size)) hs43.out.size))) lbb48.out)))
    have h210 := (h97.up hu201.out).sto hs203.out (Ne.symm (Nat.ne_of_lt (Nat.lt_of_lt_of_le (Nat.lt_of_lt_of_le ltb2.out ((Nat.le_trans ((Nat.le_trans ((Nat.le_trans ((Nat.le_trans ((Nat.le_trans (hu7.out.size) hu10.out.size)) hs19.out.size)) hs31.out.size)) hs43.out.size)) hu50.out.size))) lbb51.out)))
    have h211 := (h98.up hu201.out).sto hs203.out (Ne.symm (Nat.ne_of_lt (Nat.lt_of_lt_of_le (Nat.lt_of_lt_of_le ltb2.out ((Nat.le_trans ((Nat.le_trans ((Nat.le_trans ((Nat.le_trans ((Nat.le_trans ((Nat.le_trans (hu7.out.size) hu10.out.size)) hs19.out.size)) hs31.out.size)) hs43.out.size)) hu50.out.size)) hu53.out.size))) lbb54.out)))
    refine wpList_nil ?_
    refine wrapQ_k ?_
    refine late_consT ⟨h210, h211, True.intro⟩ ?_
    have hB0 := h207
    have cl0 := hB0.cell (o := 0) rfl
    have fr0 := hB0.free 0
    have cl1 := hB0.cell (o := 1) rfl
    have fr1 := hB0.free 1
    refine step_store (b := b5) (cs' := [.int .i64 x83, .int .i64 x84]) (T := 30) (W' := ((w202.setCell ⟨b5, 0, none⟩ (.int .i64 x83)).setCell ⟨b5, 1, none⟩ (.int .i64 x84))) rfl rfl (by go_simp <;> rfl) (((Sto.refl _ _).setCell 0 _).setCell 1 _) (((hB0).setCell 0 _).setCell 1 _) ?_
    clear hB0 cl0 fr0 cl1 fr1
    intro w212 hs hb214
    have hs213 := Aside0.mk hs
    clear hs
    have h215 := h205.sto hs213.out (Nat.ne_of_lt (Nat.lt_of_lt_of_le (Nat.lt_of_lt_of_le ltba0.out (hu4.out.size)) lbb5.out))
    have h216 := Rd.sto (c := 0) h206 hs213.out (fun k hk hp => Nat.ne_of_lt (Nat.lt_of_lt_of_le (ha0_0.blk_lt hp k hk) ((Nat.le_trans (hu4.out.size) lbb5.out))))
    have h217 := hb204.sto hs213.out (Nat.ne_of_lt (Nat.lt_of_lt_of_le ltb2.out lbb5.out))
    have h218 := h208.sto hs213.out (Ne.symm (Nat.ne_of_lt (Nat.lt_of_lt_of_le ltb5.out lbb8.out)))
    have h219 := h209.sto hs213.out (Ne.symm (Nat.ne_of_lt (Nat.lt_of_lt_of_le (Nat.lt_of_lt_of_le ltb5.out ((Nat.le_trans ((Nat.le_trans ((Nat.le_trans (hu10.out.size) hs19.out.size)) hs31.out.size)) hs43.out.size))) lbb48.out)))
    have h220 := h210.sto hs213.out (Ne.symm (Nat.ne_of_lt (Nat.lt_of_lt_of_le (Nat.lt_of_lt_of_le ltb5.out ((Nat.le_trans ((Nat.le_trans ((Nat.le_trans ((Nat.le_trans (hu10.out.size) hs19.out.size)) hs31.out.size)) hs43.out.size)) hu50.out.size))) lbb51.out)))
    have h221 := h211.sto hs213.out (Ne.symm (Nat.ne_of_lt (Nat.lt_of_lt_of_le (Nat.lt_of_lt_of_le ltb5.out ((Nat.le_trans ((Nat.le_trans ((Nat.le_trans ((Nat.le_trans ((Nat.le_trans (hu10.out.size) hs19.out.size)) hs31.out.size)) hs43.out.size)) hu50.out.size)) hu53.out.size))) lbb54.out)))
    refine wpList_nil ?_
    refine wrapQ_k ?_
    refine late_consT ⟨h220, h221, True.intro⟩ ?_
    have hB0 := h218
    have cl0 := hB0.cell (o := 0) rfl
    have fr0 := hB0.free 0
    have cl1 := hB0.cell (o := 1) rfl
    have fr1 := hB0.free 1
    refine step_store (b := b8) (cs' := [.int .i64 x85, .int .i64 x86]) (T := 30) (W' := ((w212.setCell ⟨b8, 0, none⟩ (.int .i64 x85)).setCell ⟨b8, 1, none⟩ (.int .i64 x86))) rfl rfl (by go_simp <;> rfl) (((Sto.refl _ _).setCell 0 _).setCell 1 _) (((hB0).setCell 0 _).setCell 1 _) ?_
    clear hB0 cl0 fr0 cl1 fr1
    intro w222 hs hb224
    have hs223 := Aside0.mk hs
    clear hs
    have h225 := h215.sto hs223.out (Nat.ne_of_lt (Nat.lt_of_lt_of_le (Nat.lt_of_lt_of_le ltba0.out ((Nat.le_trans (hu4.out.size) hu7.out.size))) lbb8.out))
    have h226 := Rd.sto (c := 0) h216 hs223.out (fun k hk hp => Nat.ne_of_lt (Nat.lt_of_lt_of_le (ha0_0.blk_lt hp k hk) ((Nat.le_trans ((Nat.le_trans (hu4.out.size) hu7.out.size)) lbb8.out))))
    have h227 := h217.sto hs223.out (Nat.ne_of_lt (Nat.lt_of_lt_of_le (Nat.lt_of_lt_of_le ltb2.out (hu7.out.size)) lbb8.out))
    have h228 := hb214.sto hs223.out (Nat.ne_of_lt (Nat.lt_of_lt_of_le ltb5.out lbb8.out))
    have h229 := h219.sto hs223.out (Ne.symm (Nat.ne_of_lt (Nat.lt_of_lt_of_le (Nat.lt_of_lt_of_le ltb8.out ((Nat.le_trans ((Nat.le_trans (hs19.out.size) hs31.out.size)) hs43.out.size))) lbb48.out)))
    have h230 := h220.sto hs223.out (Ne.symm (Nat.ne_of_lt (Nat.lt_of_lt_of_le (Nat.lt_of_lt_of_le ltb8.out ((Nat.le_trans ((Nat.le_trans ((Nat.le_trans (hs19.out.size) hs31.out.size)) hs43.out.size)) hu50.out.size))) lbb51.out)))
    have h231 := h221.sto hs223.out (Ne.symm (Nat.ne_of_lt (Nat.lt_of_lt_of_le (Nat.lt_of_lt_of_le ltb8.out ((Nat.le_trans ((Nat.le_trans ((Nat.le_trans ((Nat.le_trans (hs19.out.size) hs31.out.size)) hs43.out.size)) hu50.out.size)) hu53.out.size))) lbb54.out)))
    refine wpList_nil ?_
    refine wrapQ_k ?_
    refine late_nilT ⟨h230, h231, True.intro⟩ ?_
    refine hK199 _ _ ?_
    refine wp_ret ?_
    refine hQf _ _ _ ?_
    have cr0 := h227.cell (o := 0) rfl
    have cr1 := h227.cell (o := 1) rfl
    have cr2 := h228.cell (o := 0) rfl
    have cr3 := h228.cell (o := 1) rfl
    have cr4 := hb224.cell (o := 0) rfl
    have cr5 := hb224.cell (o := 1) rfl
    exact bodyPost_ret (v := .tuple #[.agg #[.int .i64 t12, .int .i64 t13], .agg #[.int .i64 x83, .int .i64 x84], .agg #[.int .i64 x85, .int .i64 x86]]) (by first|rfl|simp [results, Try.results194, go_sem, cr0, cr1, cr2, cr3, cr4, cr5]<;>rfl) rfl ⟨rfl, h225, (Grow.sto_young (Grow.sto_young (Grow.sto_young (hu88.out.trans (Grow.up hu201.out)) hs203.out (Nat.le_trans (Nat.le_refl _) lbb2.out)) hs213.out (Nat.le_trans (hu4.out.size) lbb5.out)) hs223.out (Nat.le_trans ((Nat.le_trans (hu4.out.size) hu7.out.size)) lbb8.out))⟩
  rw [if_pos c106] at H
  obtain ⟨t108,A109,H⟩:=Option.bind_eq_some_iff.mp H
  replace A109:=Aside0.mk A109;try dsimp only at H
  try simp only [c106, Bool.not_true, Bool.not_false]
  refine wpList_step fun k h=>?_;go_simp;apply h;clear h k
  have cl0 := h96.cell (o := 0) rfl
  have cl1 := h96.cell (o := 1) rfl
  refine wpList_step fun k h=>?_;go_simp;apply h;clear h k
  clear cl0 cl1
  have cl0 := h97.cell (o := 0) rfl
  have cl1 := h97.cell (o := 1) rfl
  refine wpList_step fun k h=>?_;go_simp;apply h;clear h k
  clear cl0 cl1
  have cl0 := h98.cell (o := 0) rfl
  have cl1 := h98.cell (o := 1) rfl
  refine wpList_step fun k h=>?_;go_simp;apply h;clear h k
  clear cl0 cl1
  refine step_call rfl (by go_simp <;> rfl) (spec_l01Area.calls K a1 t12 t13 x83 x84 x85 x86 t108 w87  A109.out) ?_
  rintro e w110 ⟨rfl, hu⟩
  have hu111 := Aside0.mk hu
  clear hu
  refine ⟨_, rfl, ?_⟩
  simp only[Act.put,nm1,nm2,nm3]
  refine wpList_step fun k h=>?_;go_simp;apply h;clear h k
  refine wpp fun k h=>?_;go_simp;apply h;clear h k
  refine wpList_nil (hK105 _ _ ?_)
  by_cases c112 : (t108 == 0) = true
  ·
   rw [if_pos c112] at H
   have c112n : (t108 != 0) = false := by rw [bne, c112]; rfl
   obtain ⟨⟨t115, t116, t117, t118⟩,A119,H⟩:=Option.bind_eq_some_iff.mp H
   replace A119:=Aside0.mk A119;try dsimp only at H
   obtain ⟨⟨t140, t141, t142, t143⟩,A144,H⟩:=Option.bind_eq_some_iff.mp H
   replace A144:=Aside0.mk A144;try dsimp only at H
   have HL165 := Aside0.mk H
   clear H
   try simp only [c112, c112n, Bool.not_true, Bool.not_false]
   refine wp_cond_true rfl ?_
   refine wp_skip ?_
   refine hK104 _ _ ?_
   refine wp_seq_k fun K113 hK113=>?_
   refine wp_block ?_
   refine wp_seq_k fun K114 hK114=>wp_region_lit ?_
   iterate 2 (refine wpp fun k h=>?_;go_simp;apply h;clear h k)
   refine step_call wn (by go_simp <;> rfl) (spec_l01DrawPoint.calls K ba0 a0_0_A a0_0_c a0_0 x75 x76 a1 t115 t116 t117 t118 w110 (h92.up hu111.out) (h91.up hu111.out) haa0_0 A119.out) ?_
   rintro e w120 ⟨rfl, h121, hs⟩
   have hs122 := Aside0.mk hs
   clear hs
   have h123 := (h91.up hu111.out).growp hs122.out haa0_0
   have h124 := (h93.up hu111.out).grow hs122.out (fun k hk e => (Nat.ne_of_lt (Nat.lt_of_lt_of_le ltba0.out lbb2.out)) ((Option.some.inj hk).trans e))
   have h125 := (h94.up hu111.out).grow hs122.out (fun k hk e => (Nat.ne_of_lt (Nat.lt_of_lt_of_le (Nat.lt_of_lt_of_le ltba0.out (hu4.out.size)) lbb5.out)) ((Option.some.inj hk).trans e))
   have h126 := (h95.up hu111.out).grow hs122.out (fun k hk e => (Nat.ne_of_lt (Nat.lt_of_lt_of_le (Nat.lt_of_lt_of_le ltba0.out ((Nat.le_trans (hu4.out.size) hu7.out.size))) lbb8.out)) ((Option.some.inj hk).trans e))
   have h127 := (h96.up hu111.out).grow hs122.out (fun k hk e => (Nat.ne_of_lt (Nat.lt_of_lt_of_le (Nat.lt_of_lt_of_le ltba0.out ((Nat.le_trans ((Nat.le_trans ((Nat.le_trans ((Nat.le_trans ((Nat.le_trans (hu4.out.size) hu7.out.size)) hu10.out.size)) hs19.out.size)) hs31.out.size)) hs43.out.size))) lbb48.out)) ((Option.some.inj hk).trans e))
   have h128 := (h97.up hu111.out).grow hs122.out (fun k hk e => (Nat.ne_of_lt (Nat.lt_of_lt_of_le (Nat.lt_of_lt_of_le ltba0.out ((Nat.le_trans ((Nat.le_trans ((Nat.le_trans ((Nat.le_trans ((Nat.le_trans ((Nat.le_trans (hu4.out.size) hu7.out.size)) hu10.out.size)) hs19.out.size)) hs31.out.size)) hs43.out.size)) hu50.out.size))) lbb51.out)) ((Option.some.inj hk).trans e))
   have h129 := (h98.up hu111.out).grow hs122.out (fun k hk e => (Nat.ne_of_lt (Nat.lt_of_lt_of_le (Nat.lt_of_lt_of_le ltba0.out ((Nat.le_trans ((Nat.le_trans ((Nat.le_trans ((Nat.le_trans ((Nat.le_trans ((Nat.le_trans ((Nat.le_trans (hu4.out.size) hu7.out.size)) hu10.out.size)) hs19.out.size)) hs31.out.size)) hs43.out.size)) hu50.out.size)) hu53.out.size))) lbb54.out)) ((Option.some.inj hk).trans e))
   refine ⟨_, rfl, ?_⟩
   simp only[Act.put,nm1,nm2,nm3]
   have hB0 := h128
   have cl0 := hB0.cell (o := 0) rfl
   have fr0 := hB0.free 0
   have cl1 := hB0.cell (o := 1) rfl
   have fr1 := hB0.free 1
   refine step_store (b := b51) (cs' := [.int .i64 t115, .int .i64 t116]) (T := 30) (W' := ((w120.setCell ⟨b51, 0, none⟩ (.int .i64 t115)).setCell ⟨b51, 1, none⟩ (.int .i64 t116))) rfl rfl (by go_simp <;> rfl) (((Sto.refl _ _).setCell 0 _).setCell 1 _) (((hB0).setCell 0 _).setCell 1 _) ?_
   clear hB0 cl0 fr0 cl1 fr1
   intro w130 hs hb132
   have hs131 := Aside0.mk hs
   clear hs
   have h133 := h121.sto hs131.out (Nat.ne_of_lt (Nat.lt_of_lt_of_le (Nat.lt_of_lt_of_le ltba0.out ((Nat.le_trans ((Nat.le_trans ((Nat.le_trans ((Nat.le_trans ((Nat.le_trans ((Nat.le_trans (hu4.out.size) hu7.out.size)) hu10.out.size)) hs19.out.size)) hs31.out.size)) hs43.out.size)) hu50.out.size))) lbb51.out))
   have h134 := Rd.sto (c := 0) h123 hs131.out (fun k hk hp => Nat.ne_of_lt (Nat.lt_of_lt_of_le (ha0_0.blk_lt hp k hk) ((Nat.le_trans ((Nat.le_trans ((Nat.le_trans ((Nat.le_trans ((Nat.le_trans ((Nat.le_trans ((Nat.le_trans (hu4.out.size) hu7.out.size)) hu10.out.size)) hs19.out.size)) hs31.out.size)) hs43.out.size)) hu50.out.size)) lbb51.out))))
   have h135 := h124.sto hs131.out (Nat.ne_of_lt (Nat.lt_of_lt_of_le (Nat.lt_of_lt_of_le ltb2.out ((Nat.le_trans ((Nat.le_trans ((Nat.le_trans ((Nat.le_trans ((Nat.le_trans (hu7.out.size) hu10.out.size)) hs19.out.size)) hs31.out.size)) hs43.out.size)) hu50.out.size))) lbb51.out))
   have h136 := h125.sto hs131.out (Nat.ne_of_lt (Nat.lt_of_lt_of_le (Nat.lt_of_lt_of_le ltb5.out ((Nat.le_trans ((Nat.le_trans ((Nat.le_trans ((Nat.le_trans (hu10.out.size) hs19.out.size)) hs31.out.size)) hs43.out.size)) hu50.out.size))) lbb51.out))
   have h137 := h126.sto hs131.out (Nat.ne_of_lt (Nat.lt_of_lt_of_le (Nat.lt_of_lt_of_le ltb8.out ((Nat.le_trans ((Nat.le_trans ((Nat.le_trans (hs19.out.size) hs31.out.size)) hs43.out.size)) hu50.out.size))) lbb51.out))
   have h138 := h127.sto hs131.out (Nat.ne_of_lt (Nat.lt_of_lt_of_le ltb48.out lbb51.out))
   have h139 := h129.sto hs131.out (Ne.symm (Nat.ne_of_lt (Nat.lt_of_lt_of_le ltb51.out lbb54.out)))
   refine wpList_nil (hK114 _ _ ?_)
   refine wp_region_lit ?_
   iterate 2 (refine wpp fun k h=>?_;go_simp;apply h;clear h k)
   refine step_call wn (by go_simp <;> rfl) (spec_l01DrawPoint.calls K ba0 a0_0_A a0_0_c a0_0 t117 t118 a1 t140 t141 t142 t143 w130 h133 h134 haa0_0 A144.out) ?_
   rintro e w145 ⟨rfl, h146, hs⟩
   have hs147 := Aside0.mk hs
   clear hs
   have h148 := h134.growp hs147.out haa0_0
   have h149 := h135.grow hs147.out (fun k hk e => (Nat.ne_of_lt (Nat.lt_of_lt_of_le ltba0.out lbb2.out)) ((Option.some.inj hk).trans e))
   have h150 := h136.grow hs147.out (fun k hk e => (Nat.ne_of_lt (Nat.lt_of_lt_of_le (Nat.lt_of_lt_of_le ltba0.out (hu4.out.size)) lbb5.out)) ((Option.some.inj hk).trans e))
   have h151 := h137.grow hs147.out (fun k hk e => (Nat.ne_of_lt (Nat.lt_of_lt_of_le (Nat.lt_of_lt_of_le ltba0.out ((Nat.le_trans (hu4.out.size) hu7.out.size))) lbb8.out)) ((Option.some.inj hk).trans e))
   have h152 := h138.grow hs147.out (fun k hk e => (Nat.ne_of_lt (Nat.lt_of_lt_of_le (Nat.lt_of_lt_of_le ltba0.out ((Nat.le_trans ((Nat.le_trans ((Nat.le_trans ((Nat.le_trans ((Nat.le_trans (hu4.out.size) hu7.out.size)) hu10.out.size)) hs19.out.size)) hs31.out.size)) hs43.out.size))) lbb48.out)) ((Option.some.inj hk).trans e))
   have h153 := hb132.grow hs147.out (fun k hk e => (Nat.ne_of_lt (Nat.lt_of_lt_of_le (Nat.lt_of_lt_of_le ltba0.out ((Nat.le_trans ((Nat.le_trans ((Nat.le_trans ((Nat.le_trans ((Nat.le_trans ((Nat.le_trans (hu4.out.size) hu7.out.size)) hu10.out.size)) hs19.out.size)) hs31.out.size)) hs43.out.size)) hu50.out.size))) lbb51.out)) ((Option.some.inj hk).trans e))
   have h154 := h139.grow hs147.out (fun k hk e => (Nat.ne_of_lt (Nat.lt_of_lt_of_le (Nat.lt_of_lt_of_le ltba0.out ((Nat.le_trans ((Nat.le_trans ((Nat.le_trans ((Nat.le_trans ((Nat.le_trans ((Nat.le_trans ((Nat.le_trans (hu4.out.size) hu7.out.size)) hu10.out.size)) hs19.out.size)) hs31.out.size)) hs43.out.size)) hu50.out.size)) hu53.out.size))) lbb54.out)) ((Option.some.inj hk).trans e))
   refine ⟨_, rfl, ?_⟩
   simp only[Act.put,nm1,nm2,nm3]
   have hB0 := h154
   have cl0 := hB0.cell (o := 0) rfl
   have fr0 := hB0.free 0
   have cl1 := hB0.cell (o := 1) rfl
   have fr1 := hB0.free 1
   refine step_store (b := b54) (cs' := [.int .i64 t140, .int .i64 t141]) (T := 30) (W' := ((w145.setCell ⟨b54, 0, none⟩ (.int .i64 t140)).setCell ⟨b54, 1, none⟩ (.int .i64 t141))) rfl rfl (by go_simp <;> rfl) (((Sto.refl _ _).setCell 0 _).setCell 1 _) (((hB0).setCell 0 _).setCell 1 _) ?_
   clear hB0 cl0 fr0 cl1 fr1
   intro w155 hs hb157
   have hs156 := Aside0.mk hs
   clear hs
   have h158 := h146.sto hs156.out (Nat.ne_of_lt (Nat.lt_of_lt_of_le (Nat.lt_of_lt_of_le ltba0.out ((Nat.le_trans ((Nat.le_trans ((Nat.le_trans ((Nat.le_trans ((Nat.le_trans ((Nat.le_trans ((Nat.le_trans (hu4.out.size) hu7.out.size)) hu10.out.size)) hs19.out.size)) hs31.out.size)) hs43.out.size)) hu50.out.size)) hu53.out.size))) lbb54.out))
   have h159 := Rd.sto (c := 0) h148 hs156.out (fun k hk hp => Nat.ne_of_lt (Nat.lt_of_lt_of_le (ha0_0.blk_lt hp k hk) ((Nat.le_trans ((Nat.le_trans ((Nat.le_trans ((Nat.le_trans ((Nat.le_trans ((Nat.le_trans ((Nat.le_trans ((Nat.le_trans (hu4.out.size) hu7.out.size)) hu10.out.size)) hs19.out.size)) hs31.out.size)) hs43.out.size)) hu50.out.size)) hu53.out.size)) lbb54.out))))
   have h160 := h149.sto hs156.out (Nat.ne_of_lt (Nat.lt_of_lt_of_le (Nat.lt_of_lt_of_le ltb2.out ((Nat.le_trans ((Nat.le_trans ((Nat.le_trans ((Nat.le_trans ((Nat.le_trans ((Nat.le_trans (hu7.out.size) hu10.out.size)) hs19.out.size)) hs31.out.size)) hs43.out.size)) hu50.out.size)) hu53.out.size))) lbb54.out))
   have h161 := h150.sto hs156.out (Nat.ne_of_lt (Nat.lt_of_lt_of_le (Nat.lt_of_lt_of_le ltb5.out ((Nat.le_trans ((Nat.le_trans ((Nat.le_trans ((Nat.le_trans ((Nat.le_trans (hu10.out.size) hs19.out.size)) hs31.out.size)) hs43.out.size)) hu50.out.size)) hu53.out.size))) lbb54.out))
   have h162 := h151.sto hs156.out (Nat.ne_of_lt (Nat.lt_of_lt_of_le (Nat.lt_of_lt_of_le ltb8.out ((Nat.le_trans ((Nat.le_trans ((Nat.le_trans ((Nat.le_trans (hs19.out.size) hs31.out.size)) hs43.out.size)) hu50.out.size)) hu53.out.size))) lbb54.out))
   have h163 := h152.sto hs156.out (Nat.ne_of_lt (Nat.lt_of_lt_of_le (Nat.lt_of_lt_of_le ltb48.out (hu53.out.size)) lbb54.out))
   have h164 := h153.sto hs156.out (Nat.ne_of_lt (Nat.lt_of_lt_of_le ltb51.out lbb54.out))
   refine wpList_nil (hK113 _ _ ?_)
   refine wp_region_lit ?_
   iterate 3 (refine wpp fun k h=>?_;go_simp;apply h;clear h k)
   refine wpList_nil (hK102 _ _ ?_)
   go_roundg k99
   case measure => exact Nat.lt_succ_self _
   case rel => exact ⟨wrap64 (x74 + 1), t142, t143, x77, x78, x79, x80, x81, x82, t115, t116, t140, t141, (by first | rfl | simp), HL165, ⟨by have := hk100.out; omega⟩, ⟨(Grow.sto_young ((Grow.sto_young ((hu88.out.trans (Grow.up hu111.out)).trans hs122.out) hs131.out (Nat.le_trans ((Nat.le_trans ((Nat.le_trans ((Nat.le_trans ((Nat.le_trans ((Nat.le_trans ((Nat.le_trans (hu4.out.size) hu7.out.size)) hu10.out.size)) hs19.out.size)) hs31.out.size)) hs43.out.size)) hu50.out.size)) lbb51.out)).trans hs147.out) hs156.out (Nat.le_trans ((Nat.le_trans ((Nat.le_trans ((Nat.le_trans ((Nat.le_trans ((Nat.le_trans ((Nat.le_trans ((Nat.le_trans (hu4.out.size) hu7.out.size)) hu10.out.size)) hs19.out.size)) hs31.out.size)) hs43.out.size)) hu50.out.size)) hu53.out.size)) lbb54.out))⟩, ⟨(Nat.le_trans ((Nat.le_trans ((Nat.le_trans ((Nat.le_trans ((Nat.le_trans ((Nat.le_trans (Nat.le_refl _) hz89.out)) hu111.out.size)) hs122.out.size)) (Nat.le_of_eq hs131.out.size.symm))) hs147.out.size)) (Nat.le_of_eq hs156.out.size.symm))⟩, h159, h158, h160, h161, h162, h163, h164, hb157⟩
  rw [if_neg c112] at H; replace c112 := Bool.eq_false_iff.mpr c112
  have c112n : (t108 != 0) = true := by rw [bne, c112]; rfl
  have c112p : ¬ t108 = 0 := fun e => by simp [e] at c112
  simp only [Option.some.injEq, Prod.mk.injEq] at H
  obtain ⟨rfl, rfl, rfl, rfl, rfl, rfl, rfl, rfl⟩ := H
  try simp only [c112, c112n, Bool.not_true, Bool.not_false]
  refine wp_cond_false rfl ?_
  refine wp_exit ?_
  refine hK72 _ _ ?_
  refine wp_seq_k fun K166 hK166=>?_
  have hTT_ : ∀ w_, Up (World.drew w110) w_ → (fun w_ => Blk w_ b51 [.int .i64 x83, .int .i64 x84] 30 ∧ Blk w_ b54 [.int .i64 x85, .int .i64 x86] 30 ∧ True) w_ := fun w_ hu_ => ⟨(h97.up hu111.out).up ((Up.refl _).drew.trans hu_), (h98.up hu111.out).up ((Up.refl _).drew.trans hu_), True.intro⟩
  refine' wp_region_pure (fun w_ => Blk w_ b51 [.int .i64 x83, .int .i64 x84] 30 ∧ Blk w_ b54 [.int .i64 x85, .int .i64 x86] 30 ∧ True) 3 [1, 2] [Slot.det _, Slot.pur _, Slot.pur _] (by kernel_rfl) [false, true, true] (by kernel_rfl) rfl (by kernel_rfl) (by decide) hTT_ ?main
  case main =>
   simp only [List.take_succ_cons, List.take_zero]
   refine wpK_ops rfl (fun w1 hu => ?_) ?_
   · have cl0 := ((h96.up hu111.out).up ((Up.refl _).drew.trans hu)).cell (o := 0) rfl
     have cl1 := ((h96.up hu111.out).up ((Up.refl _).drew.trans hu)).cell (o := 1) rfl
     go_simp
     first | done | rfl
   simp only[Act.put,nm1,nm2,nm3]
   refine wpK_pur rfl hTT_ (fun w1 hT => ?_) ?_
   · have hB_ := hT.1
     have cl0 := hB_.cell (o := 0) rfl
     have cl1 := hB_.cell (o := 1) rfl
     clear hT
     go_simp
     first | done | rfl
   simp only[Act.put,nm1,nm2,nm3]
   refine wpK_pur rfl hTT_ (fun w1 hT => ?_) ?_
   · have hB_ := hT.2.1
     have cl0 := hB_.cell (o := 0) rfl
     have cl1 := hB_.cell (o := 1) rfl
     clear hT
     go_simp
     first | done | rfl
   simp only[Act.put,nm1,nm2,nm3]
   refine wpK_nil ?_
   intro w167 hu hap
   simp only [List.drop_succ_cons, List.drop_zero]
   replace hu := (Up.refl _).drew.trans hu
   clear hap
   have hu168 := Aside0.mk hu
   clear hu
   refine late_consT ⟨(h97.up (hu111.out.trans hu168.out)), (h98.up (hu111.out.trans hu168.out)), True.intro⟩ ?_
   have hB0 := (h93.up (hu111.out.trans hu168.out))
   have cl0 := hB0.cell (o := 0) rfl
   have fr0 := hB0.free 0
   have cl1 := hB0.cell (o := 1) rfl
   have fr1 := hB0.free 1
   refine step_store (b := b2) (cs' := [.int .i64 t12, .int .i64 t13]) (T := 30) (W' := ((w167.setCell ⟨b2, 0, none⟩ (.int .i64 t12)).setCell ⟨b2, 1, none⟩ (.int .i64 t13))) rfl rfl (by go_simp <;> rfl) (((Sto.refl _ _).setCell 0 _).setCell 1 _) (((hB0).setCell 0 _).setCell 1 _) ?_
   clear hB0 cl0 fr0 cl1 fr1
   intro w169 hs hb171
   have hs170 := Aside0.mk hs
   clear hs
   have h172 := (h92.up (hu111.out.trans hu168.out)).sto hs170.out (Nat.ne_of_lt (Nat.lt_of_lt_of_le ltba0.out lbb2.out))
   have h173 := Rd.sto (c := 0) (h91.up (hu111.out.trans hu168.out)) hs170.out (fun k hk hp => Nat.ne_of_lt (Nat.lt_of_lt_of_le (ha0_0.blk_lt hp k hk) (lbb2.out)))
   have h174 := (h94.up (hu111.out.trans hu168.out)).sto hs170.out (Ne.symm (Nat.ne_of_lt (Nat.lt_of_lt_of_le ltb2.out lbb5.out)))
   have h175 := (h95.up (hu111.out.trans hu168.out)).sto hs170.out (Ne.symm (Nat.ne_of_lt (Nat.lt_of_lt_of_le (Nat.lt_of_lt_of_le ltb2.out (hu7.out.size)) lbb8.out)))
   have h176 := (h96.up (hu111.out.trans hu168.out)).sto hs170.out (Ne.symm (Nat.ne_of_lt (Nat.lt_of_lt_of_le (Nat.lt_of_lt_of_le ltb2.out ((Nat.le_trans ((Nat.le_trans ((Nat.le_trans ((Nat.le_trans (hu7.out.size) hu10.out.size)) hs19.out.size)) hs31.out.size)) hs43.out.size))) lbb48.out)))
   have h177 := (h97.up (hu111.out.trans hu168.out)).sto hs170.out (Ne.symm (Nat.ne_of_lt (Nat.lt_of_lt_of_le (Nat.lt_of_lt_of_le ltb2.out ((Nat.le_trans ((Nat.le_trans ((Nat.le_trans ((Nat.le_trans ((Nat.le_trans (hu7.out.size) hu10.out.size)) hs19.out.size)) hs31.out.size)) hs43.out.size)) hu50.out.size))) lbb51.out)))
   have h178 := (h98.up (hu111.out.trans hu168.out)).sto hs170.out (Ne.symm (Nat.ne_of_lt (Nat.lt_of_lt_of_le (Nat.lt_of_lt_of_le ltb2.out ((Nat.le_trans ((Nat.le_trans ((Nat.le_trans ((Nat.le_trans ((Nat.le_trans ((Nat.le_trans (hu7.out.size) hu10.out.size)) hs19.out.size)) hs31.out.size)) hs43.out.size)) hu50.out.size)) hu53.out.size))) lbb54.out)))
   refine wpList_nil ?_
   refine wrapQ_k ?_
   refine late_consT ⟨h177, h178, True.intro⟩ ?_
   have hB0 := h174
   have cl0 := hB0.cell (o := 0) rfl
   have fr0 := hB0.free 0
   have cl1 := hB0.cell (o := 1) rfl
   have fr1 := hB0.free 1
   refine step_store (b := b5) (cs' := [.int .i64 x83, .int .i64 x84]) (T := 30) (W' := ((w169.setCell ⟨b5, 0, none⟩ (.int .i64 x83)).setCell ⟨b5, 1, none⟩ (.int .i64 x84))) rfl rfl (by go_simp <;> rfl) (((Sto.refl _ _).setCell 0 _).setCell 1 _) (((hB0).setCell 0 _).setCell 1 _) ?_
   clear hB0 cl0 fr0 cl1 fr1
   intro w179 hs hb181
   have hs180 := Aside0.mk hs
   clear hs
   have h182 := h172.sto hs180.out (Nat.ne_of_lt (Nat.lt_of_lt_of_le (Nat.lt_of_lt_of_le ltba0.out (hu4.out.size)) lbb5.out))
   have h183 := Rd.sto (c := 0) h173 hs180.out (fun k hk hp => Nat.ne_of_lt (Nat.lt_of_lt_of_le (ha0_0.blk_lt hp k hk) ((Nat.le_trans (hu4.out.size) lbb5.out))))
   have h184 := hb171.sto hs180.out (Nat.ne_of_lt (Nat.lt_of_lt_of_le ltb2.out lbb5.out))
   have h185 := h175.sto hs180.out (Ne.symm (Nat.ne_of_lt (Nat.lt_of_lt_of_le ltb5.out lbb8.out)))
   have h186 := h176.sto hs180.out (Ne.symm (Nat.ne_of_lt (Nat.lt_of_lt_of_le (Nat.lt_of_lt_of_le ltb5.out ((Nat.le_trans ((Nat.le_trans ((Nat.le_trans (hu10.out.size) hs19.out.size)) hs31.out.size)) hs43.out.size))) lbb48.out)))
   have h187 := h177.sto hs180.out (Ne.symm (Nat.ne_of_lt (Nat.lt_of_lt_of_le (Nat.lt_of_lt_of_le ltb5.out ((Nat.le_trans ((Nat.le_trans ((Nat.le_trans ((Nat.le_trans (hu10.out.size) hs19.out.size)) hs31.out.size)) hs43.out.size)) hu50.out.size))) lbb51.out)))
   have h188 := h178.sto hs180.out (Ne.symm (Nat.ne_of_lt (Nat.lt_of_lt_of_le (Nat.lt_of_lt_of_le ltb5.out ((Nat.le_trans ((Nat.le_trans ((Nat.le_trans ((Nat.le_trans ((Nat.le_trans (hu10.out.size) hs19.out.size)) hs31.out.size)) hs43.out.size)) hu50.out.size)) hu53.out.size))) lbb54.out)))
   refine wpList_nil ?_
   refine wrapQ_k ?_
   refine late_consT ⟨h187, h188, True.intro⟩ ?_
   have hB0 := h185
   have cl0 := hB0.cell (o := 0) rfl
   have fr0 := hB0.free 0
   have cl1 := hB0.cell (o := 1) rfl
   have fr1 := hB0.free 1
   refine step_store (b := b8) (cs' := [.int .i64 x85, .int .i64 x86]) (T := 30) (W' := ((w179.setCell ⟨b8, 0, none⟩ (.int .i64 x85)).setCell ⟨b8, 1, none⟩ (.int .i64 x86))) rfl rfl (by go_simp <;> rfl) (((Sto.refl _ _).setCell 0 _).setCell 1 _) (((hB0).setCell 0 _).setCell 1 _) ?_
   clear hB0 cl0 fr0 cl1 fr1
   intro w189 hs hb191
   have hs190 := Aside0.mk hs
   clear hs
   have h192 := h182.sto hs190.out (Nat.ne_of_lt (Nat.lt_of_lt_of_le (Nat.lt_of_lt_of_le ltba0.out ((Nat.le_trans (hu4.out.size) hu7.out.size))) lbb8.out))
   have h193 := Rd.sto (c := 0) h183 hs190.out (fun k hk hp => Nat.ne_of_lt (Nat.lt_of_lt_of_le (ha0_0.blk_lt hp k hk) ((Nat.le_trans ((Nat.le_trans (hu4.out.size) hu7.out.size)) lbb8.out))))
   have h194 := h184.sto hs190.out (Nat.ne_of_lt (Nat.lt_of_lt_of_le (Nat.lt_of_lt_of_le ltb2.out (hu7.out.size)) lbb8.out))
   have h195 := hb181.sto hs190.out (Nat.ne_of_lt (Nat.lt_of_lt_of_le ltb5.out lbb8.out))
   have h196 := h186.sto hs190.out (Ne.symm (Nat.ne_of_lt (Nat.lt_of_lt_of_le (Nat.lt_of_lt_of_le ltb8.out ((Nat.le_trans ((Nat.le_trans (hs19.out.size) hs31.out.size)) hs43.out.size))) lbb48.out)))
   have h197 := h187.sto hs190.out (Ne.symm (Nat.ne_of_lt (Nat.lt_of_lt_of_le (Nat.lt_of_lt_of_le ltb8.out ((Nat.le_trans ((Nat.le_trans ((Nat.le_trans (hs19.out.size) hs31.out.size)) hs43.out.size)) hu50.out.size))) lbb51.out)))
   have h198 := h188.sto hs190.out (Ne.symm (Nat.ne_of_lt (Nat.lt_of_lt_of_le (Nat.lt_of_lt_of_le ltb8.out ((Nat.le_trans ((Nat.le_trans ((Nat.le_trans ((Nat.le_trans (hs19.out.size) hs31.out.size)) hs43.out.size)) hu50.out.size)) hu53.out.size))) lbb54.out)))
   refine wpList_nil ?_
   refine wrapQ_k ?_
   refine late_nilT ⟨h197, h198, True.intro⟩ ?_
   refine hK166 _ _ ?_
   refine wp_ret ?_
   refine hQf _ _ _ ?_
   have cr0 := h194.cell (o := 0) rfl
   have cr1 := h194.cell (o := 1) rfl
   have cr2 := h195.cell (o := 0) rfl
   have cr3 := h195.cell (o := 1) rfl
   have cr4 := hb191.cell (o := 0) rfl
   have cr5 := hb191.cell (o := 1) rfl
   exact bodyPost_ret (v := .tuple #[.agg #[.int .i64 t12, .int .i64 t13], .agg #[.int .i64 x83, .int .i64 x84], .agg #[.int .i64 x85, .int .i64 x86]]) (by first|rfl|simp [results, Try.results194, go_sem, cr0, cr1, cr2, cr3, cr4, cr5]<;>rfl) rfl ⟨rfl, h192, (Grow.sto_young (Grow.sto_young (Grow.sto_young ((hu88.out.trans (Grow.up hu111.out)).trans (Grow.up hu168.out)) hs170.out (Nat.le_trans (Nat.le_refl _) lbb2.out)) hs180.out (Nat.le_trans (hu4.out.size) lbb5.out)) hs190.out (Nat.le_trans ((Nat.le_trans (hu4.out.size) hu7.out.size)) lbb8.out))⟩

set_option maxHeartbeats 40000000 in
set_option maxRecDepth 100000 in
theorem spec_l01Plus.calls (K : Nat) (a0 : Int) (a1_0 : Int) (a1_1 : Int) (a2_0 : Int) (a2_1 : Int) (r0 : Int) (r1 : Int) (w : World)  (h : spec_l01Plus.f K a0 a1_0 a1_1 a2_0 a2_1 = some (r0, r1)) :
    Calls Try.prog 130 #[.int .i64 a0, .agg #[.int .i64 a1_0, .int .i64 a1_1], .agg #[.int .i64 a2_0, .int .i64 a2_1]] w fun e w' => e = .returned (.agg #[.int .i64 r0, .int .i64 r1]) ∧ Up w w' := by
 have H : (((spec_l01Mod.f K (wrap64 (a1_0 + a2_0)) a0).bind fun t12 => ((spec_l01Mod.f K (wrap64 (a1_1 + a2_1)) a0).bind fun t14 => some (t12, t14))) : Option (Int × Int)) = some (r0, r1) := h
 clear h
 obtain ⟨t12,A13,H⟩:=Option.bind_eq_some_iff.mp H
 replace A13:=Aside0.mk A13;try dsimp only at H
 obtain ⟨t14,A15,H⟩:=Option.bind_eq_some_iff.mp H
 replace A15:=Aside0.mk A15;try dsimp only at H
 simp only [Option.some.injEq, Prod.mk.injEq] at H
 obtain ⟨rfl, rfl⟩ := H
 go_enter Try.func130, Try.ntmps130
 refine wp_hide (fun Qf hQf => ?_)
 refine wp_seq_k fun K1 hK1=>wp_region_lit ?_
 refine step_new (cs := [.int .i64 a1_0, .int .i64 a1_1]) (T := 30) (f := fun b => .pointer (some ⟨b, 0, none⟩)) rfl (by go_simp <;> rfl) ?_
 intro b2 w3 hu lb hb2
 simp only[Act.put,nm1,nm2,nm3]
 have lbb2 := Aside0.mk lb
 have ltb2 := Aside0.mk hb2.lt
 clear lb
 have hu4 := Aside0.mk hu
 clear hu
 refine step_new (cs := [.int .i64 a2_0, .int .i64 a2_1]) (T := 30) (f := fun b => .pointer (some ⟨b, 0, none⟩)) rfl (by go_simp <;> rfl) ?_
 intro b5 w6 hu lb hb5
 simp only[Act.put,nm1,nm2,nm3]
 have lbb5 := Aside0.mk lb
 have ltb5 := Aside0.mk hb5.lt
 clear lb
 have hu7 := Aside0.mk hu
 clear hu
 refine step_new (cs := [.int .i64 0, .int .i64 0]) (T := 30) (f := fun b => .pointer (some ⟨b, 0, none⟩)) rfl (by go_simp <;> rfl) ?_
 intro b8 w9 hu lb hb8
 simp only[Act.put,nm1,nm2,nm3]
 have lbb8 := Aside0.mk lb
 have ltb8 := Aside0.mk hb8.lt
 clear lb
 have hu10 := Aside0.mk hu
 clear hu
 refine wpList_nil (hK1 _ _ ?_)
 refine wp_seq_k fun K11 hK11=>?_
 refine' wp_region_up 15 [Slot.det _, Slot.det _, Slot.det _, Slot.det _, Slot.det _, Slot.det _, Slot.det (.int .i64 t12), Slot.det _, Slot.det _, Slot.det _, Slot.det _, Slot.det _, Slot.det _, Slot.det (.int .i64 t14), Slot.det _] (by kernel_rfl) (by kernel_rfl) ?main
 case main =>
  simp only [List.take_succ_cons, List.take_zero]
  refine wpK_ops rfl (fun w1 hu => ?_) ?_
  · clear hu
    go_simp
    first | done | rfl
  simp only[Act.put,nm1,nm2,nm3]
  refine wpK_ops rfl (fun w1 hu => ?_) ?_
  · have cl0 := ((hb2.up (hu7.out.trans hu10.out)).up ((Up.refl _).drew.trans hu)).cell (o := 0) rfl
    go_simp
    first | done | rfl
  simp only[Act.put,nm1,nm2,nm3]
  refine wpK_ops rfl (fun w1 hu => ?_) ?_
  · clear hu
    go_simp
    first | done | rfl
  simp only[Act.put,nm1,nm2,nm3]
  refine wpK_ops rfl (fun w1 hu => ?_) ?_
  · have cl0 := ((hb5.up hu10.out).up ((Up.refl _).drew.trans hu)).cell (o := 0) rfl
    go_simp
    first | done | rfl
  simp only[Act.put,nm1,nm2,nm3]
  refine wpK_ops rfl (fun w1 hu => ?_) ?_
  · clear hu
    go_simp
    first | done | rfl
  simp only[Act.put,nm1,nm2,nm3]
  refine wpK_ops rfl (fun w1 hu => ?_) ?_
  · clear hu
    go_simp
    first | done | rfl
  simp only[Act.put,nm1,nm2,nm3]
  refine wpK_ops rfl (fun w1 hu => ?_) ?_
  · have hcl := (spec_l01Mod.calls K (wrap64 (a1_0 + a2_0)) a0 t12 w1  A13.out)
    clear hu
    replace hcl := Aside0.mk hcl
    go_simp
    exact hcl.out
  simp only[Act.put,nm1,nm2,nm3]
  refine wpK_ops rfl (fun w1 hu => ?_) ?_
  · clear hu
    go_simp
    first | done | rfl
  simp only[Act.put,nm1,nm2,nm3]
  refine wpK_ops rfl (fun w1 hu => ?_) ?_
  · have cl0 := ((hb2.up (hu7.out.trans hu10.out)).up ((Up.refl _).drew.trans hu)).cell (o := 1) rfl
    go_simp
    first | done | rfl
  simp only[Act.put,nm1,nm2,nm3]
  refine wpK_ops rfl (fun w1 hu => ?_) ?_
  · clear hu
    go_simp
    first | done | rfl
  simp only[Act.put,nm1,nm2,nm3]
  refine wpK_ops rfl (fun w1 hu => ?_) ?_
  · have cl0 := ((hb5.up hu10.out).up ((Up.refl _).drew.trans hu)).cell (o := 1) rfl
    go_simp
    first | done | rfl
  simp only[Act.put,nm1,nm2,nm3]
  refine wpK_ops rfl (fun w1 hu => ?_) ?_
  · clear hu
    go_simp
    first | done | rfl
  simp only[Act.put,nm1,nm2,nm3]
  refine wpK_ops rfl (fun w1 hu => ?_) ?_
  · clear hu
    go_simp
    first | done | rfl
  simp only[Act.put,nm1,nm2,nm3]
  refine wpK_ops rfl (fun w1 hu => ?_) ?_
  · have hcl := (spec_l01Mod.calls K (wrap64 (a1_1 + a2_1)) a0 t14 w1  A15.out)
    clear hu
    replace hcl := Aside0.mk hcl
    go_simp
    exact hcl.out
  simp only[Act.put,nm1,nm2,nm3]
  refine wpK_ops rfl (fun w1 hu => ?_) ?_
  · clear hu
    go_simp
    first | done | rfl
  simp only[Act.put,nm1,nm2,nm3]
  refine wpK_nil ?_
  intro w16 hu hap
  simp only [List.drop_succ_cons, List.drop_zero]
  replace hu := (Up.refl _).drew.trans hu
  clear hap
  have hu17 := Aside0.mk hu
  clear hu
  have hB0 := (hb8.up hu17.out)
  have cl0 := hB0.cell (o := 0) rfl
  have fr0 := hB0.free 0
  have cl1 := hB0.cell (o := 1) rfl
  have fr1 := hB0.free 1
  refine step_store (b := b8) (cs' := [.int .i64 t12, .int .i64 t14]) (T := 30) (W' := ((w16.setCell ⟨b8, 0, none⟩ (.int .i64 t12)).setCell ⟨b8, 1, none⟩ (.int .i64 t14))) rfl rfl (by go_simp <;> rfl) (((Sto.refl _ _).setCell 0 _).setCell 1 _) (((hB0).setCell 0 _).setCell 1 _) ?_
  clear hB0 cl0 fr0 cl1 fr1
  intro w18 hs hb20
  have hs19 := Aside0.mk hs
  clear hs
  refine wpList_nil (hK11 _ _ ?_)
  refine wp_ret ?_
  refine hQf _ _ _ ?_
  have cr0 := hb20.cell (o := 0) rfl
  have cr1 := hb20.cell (o := 1) rfl
  exact bodyPost_ret (v := .agg #[.int .i64 t12, .int .i64 t14]) (by first|rfl|simp [results, Try.results130, go_sem, cr0, cr1]<;>rfl) rfl ⟨rfl, ((((hu4.out.trans hu7.out).trans hu10.out).trans hu17.out).sto (Nat.le_trans ((Nat.le_trans (hu4.out.size) hu7.out.size)) lbb8.out) hs19.out)⟩

set_option maxHeartbeats 40000000 in
set_option maxRecDepth 100000 in
theorem spec_l01Times.calls (K : Nat) (a0 : Int) (a1 : Int) (a2_0 : Int) (a2_1 : Int) (r0 : Int) (r1 : Int) (w : World)  (h : spec_l01Times.f K a0 a1 a2_0 a2_1 = some (r0, r1)) :
    Calls Try.prog 128 #[.int .i64 a0, .int .i64 a1, .agg #[.int .i64 a2_0, .int .i64 a2_1]] w fun e w' => e = .returned (.agg #[.int .i64 r0, .int .i64 r1]) ∧ Up w w' := by
 have H : (((spec_l01Mod.f K (wrap64 (a1 * a2_0)) a0).bind fun t9 => ((spec_l01Mod.f K (wrap64 (a1 * a2_1)) a0).bind fun t11 => some (t9, t11))) : Option (Int × Int)) = some (r0, r1) := h
 clear h
 obtain ⟨t9,A10,H⟩:=Option.bind_eq_some_iff.mp H
 replace A10:=Aside0.mk A10;try dsimp only at H
 obtain ⟨t11,A12,H⟩:=Option.bind_eq_some_iff.mp H
 replace A12:=Aside0.mk A12;try dsimp only at H
 simp only [Option.some.injEq, Prod.mk.injEq] at H
 obtain ⟨rfl, rfl⟩ := H
 go_enter Try.func128, Try.ntmps128
 refine wp_hide (fun Qf hQf => ?_)
 refine wp_seq_k fun K1 hK1=>wp_region_lit ?_
 refine step_new (cs := [.int .i64 a2_0, .int .i64 a2_1]) (T := 30) (f := fun b => .pointer (some ⟨b, 0, none⟩)) rfl (by go_simp <;> rfl) ?_
 intro b2 w3 hu lb hb2
 simp only[Act.put,nm1,nm2,nm3]
 have lbb2 := Aside0.mk lb
 have ltb2 := Aside0.mk hb2.lt
 clear lb
 have hu4 := Aside0.mk hu
 clear hu
 refine step_new (cs := [.int .i64 0, .int .i64 0]) (T := 30) (f := fun b => .pointer (some ⟨b, 0, none⟩)) rfl (by go_simp <;> rfl) ?_
 intro b5 w6 hu lb hb5
 simp only[Act.put,nm1,nm2,nm3]
 have lbb5 := Aside0.mk lb
 have ltb5 := Aside0.mk hb5.lt
 clear lb
 have hu7 := Aside0.mk hu
 clear hu
 refine wpList_nil (hK1 _ _ ?_)
 refine wp_seq_k fun K8 hK8=>?_
 refine' wp_region_up 13 [Slot.det _, Slot.det _, Slot.det _, Slot.det _, Slot.det _, Slot.det (.int .i64 t9), Slot.det _, Slot.det _, Slot.det _, Slot.det _, Slot.det _, Slot.det (.int .i64 t11), Slot.det _] (by kernel_rfl) (by kernel_rfl) ?main
 case main =>
  simp only [List.take_succ_cons, List.take_zero]
  refine wpK_ops rfl (fun w1 hu => ?_) ?_
  · clear hu
    go_simp
    first | done | rfl
  simp only[Act.put,nm1,nm2,nm3]
  refine wpK_ops rfl (fun w1 hu => ?_) ?_
  · clear hu
    go_simp
    first | done | rfl
  simp only[Act.put,nm1,nm2,nm3]
  refine wpK_ops rfl (fun w1 hu => ?_) ?_
  · have cl0 := ((hb2.up hu7.out).up ((Up.refl _).drew.trans hu)).cell (o := 0) rfl
    go_simp
    first | done | rfl
  simp only[Act.put,nm1,nm2,nm3]
  refine wpK_ops rfl (fun w1 hu => ?_) ?_
  · clear hu
    go_simp
    first | done | rfl
  simp only[Act.put,nm1,nm2,nm3]
  refine wpK_ops rfl (fun w1 hu => ?_) ?_
  · clear hu
    go_simp
    first | done | rfl
  simp only[Act.put,nm1,nm2,nm3]
  refine wpK_ops rfl (fun w1 hu => ?_) ?_
  · have hcl := (spec_l01Mod.calls K (wrap64 (a1 * a2_0)) a0 t9 w1  A10.out)
    clear hu
    replace hcl := Aside0.mk hcl
    go_simp
    exact hcl.out
  simp only[Act.put,nm1,nm2,nm3]
  refine wpK_ops rfl (fun w1 hu => ?_) ?_
  · clear hu
    go_simp
    first | done | rfl
  simp only[Act.put,nm1,nm2,nm3]
  refine wpK_ops rfl (fun w1 hu => ?_) ?_
  · clear hu
    go_simp
    first | done | rfl
  simp only[Act.put,nm1,nm2,nm3]
  refine wpK_ops rfl (fun w1 hu => ?_) ?_
  · have cl0 := ((hb2.up hu7.out).up ((Up.refl _).drew.trans hu)).cell (o := 1) rfl
    go_simp
    first | done | rfl
  simp only[Act.put,nm1,nm2,nm3]
  refine wpK_ops rfl (fun w1 hu => ?_) ?_
  · clear hu
    go_simp
    first | done | rfl
  simp only[Act.put,nm1,nm2,nm3]
  refine wpK_ops rfl (fun w1 hu => ?_) ?_
  · clear hu
    go_simp
    first | done | rfl
  simp only[Act.put,nm1,nm2,nm3]
  refine wpK_ops rfl (fun w1 hu => ?_) ?_
  · have hcl := (spec_l01Mod.calls K (wrap64 (a1 * a2_1)) a0 t11 w1  A12.out)
    clear hu
    replace hcl := Aside0.mk hcl
    go_simp
    exact hcl.out
  simp only[Act.put,nm1,nm2,nm3]
  refine wpK_ops rfl (fun w1 hu => ?_) ?_
  · clear hu
    go_simp
    first | done | rfl
  simp only[Act.put,nm1,nm2,nm3]
  refine wpK_nil ?_
  intro w13 hu hap
  simp only [List.drop_succ_cons, List.drop_zero]
  replace hu := (Up.refl _).drew.trans hu
  clear hap
  have hu14 := Aside0.mk hu
  clear hu
  have hB0 := (hb5.up hu14.out)
  have cl0 := hB0.cell (o := 0) rfl
  have fr0 := hB0.free 0
  have cl1 := hB0.cell (o := 1) rfl
  have fr1 := hB0.free 1
  refine step_store (b := b5) (cs' := [.int .i64 t9, .int .i64 t11]) (T := 30) (W' := ((w13.setCell ⟨b5, 0, none⟩ (.int .i64 t9)).setCell ⟨b5, 1, none⟩ (.int .i64 t11))) rfl rfl (by go_simp <;> rfl) (((Sto.refl _ _).setCell 0 _).setCell 1 _) (((hB0).setCell 0 _).setCell 1 _) ?_
  clear hB0 cl0 fr0 cl1 fr1
  intro w15 hs hb17
  have hs16 := Aside0.mk hs
  clear hs
  refine wpList_nil (hK8 _ _ ?_)
  refine wp_ret ?_
  refine hQf _ _ _ ?_
  have cr0 := hb17.cell (o := 0) rfl
  have cr1 := hb17.cell (o := 1) rfl
  exact bodyPost_ret (v := .agg #[.int .i64 t9, .int .i64 t11]) (by first|rfl|simp [results, Try.results128, go_sem, cr0, cr1]<;>rfl) rfl ⟨rfl, (((hu4.out.trans hu7.out).trans hu14.out).sto (Nat.le_trans (hu4.out.size) lbb5.out) hs16.out)⟩

set_option maxHeartbeats 40000000 in
set_option maxRecDepth 100000 in
theorem spec_l01Middle.calls (K : Nat) (a0 : Int) (a1_0 : Int) (a1_1 : Int) (a2_0 : Int) (a2_1 : Int) (r0 : Int) (r1 : Int) (w : World)  (h : spec_l01Middle.f K a0 a1_0 a1_1 a2_0 a2_1 = some (r0, r1)) :
    Calls Try.prog 134 #[.int .i64 a0, .agg #[.int .i64 a1_0, .int .i64 a1_1], .agg #[.int .i64 a2_0, .int .i64 a2_1]] w fun e w' => e = .returned (.agg #[.int .i64 r0, .int .i64 r1]) ∧ Up w w' := by
 have H : (((spec_l01Plus.f K a0 a1_0 a1_1 a2_0 a2_1).bind fun (t12, t13) => ((spec_l01Times.f K a0 (wrap64 (Int.tdiv (wrap64 (a0 + 1)) 2)) t12 t13).bind fun (t17, t18) => some (t17, t18))) : Option (Int × Int)) = some (r0, r1) := h
 clear h
 obtain ⟨⟨t12, t13⟩,A14,H⟩:=Option.bind_eq_some_iff.mp H
 replace A14:=Aside0.mk A14;try dsimp only at H
 obtain ⟨⟨t17, t18⟩,A19,H⟩:=Option.bind_eq_some_iff.mp H
 replace A19:=Aside0.mk A19;try dsimp only at H
 simp only [Option.some.injEq, Prod.mk.injEq] at H
 obtain ⟨rfl, rfl⟩ := H
 go_enter Try.func134, Try.ntmps134
 refine wp_hide (fun Qf hQf => ?_)
 refine wp_seq_k fun K1 hK1=>wp_region_lit ?_
 refine step_new (cs := [.int .i64 a1_0, .int .i64 a1_1]) (T := 30) (f := fun b => .pointer (some ⟨b, 0, none⟩)) rfl (by go_simp <;> rfl) ?_
 intro b2 w3 hu lb hb2
 simp only[Act.put,nm1,nm2,nm3]
 have lbb2 := Aside0.mk lb
 have ltb2 := Aside0.mk hb2.lt
 clear lb
 have hu4 := Aside0.mk hu
 clear hu
 refine step_new (cs := [.int .i64 a2_0, .int .i64 a2_1]) (T := 30) (f := fun b => .pointer (some ⟨b, 0, none⟩)) rfl (by go_simp <;> rfl) ?_
 intro b5 w6 hu lb hb5
 simp only[Act.put,nm1,nm2,nm3]
 have lbb5 := Aside0.mk lb
 have ltb5 := Aside0.mk hb5.lt
 clear lb
 have hu7 := Aside0.mk hu
 clear hu
 refine step_new (cs := [.int .i64 0, .int .i64 0]) (T := 30) (f := fun b => .pointer (some ⟨b, 0, none⟩)) rfl (by go_simp <;> rfl) ?_
 intro b8 w9 hu lb hb8
 simp only[Act.put,nm1,nm2,nm3]
 have lbb8 := Aside0.mk lb
 have ltb8 := Aside0.mk hb8.lt
 clear lb
 have hu10 := Aside0.mk hu
 clear hu
 refine wpList_nil (hK1 _ _ ?_)
 refine wp_seq_k fun K11 hK11=>wp_region_lit ?_
 iterate 5 (refine wpp fun k h=>?_;go_simp;apply h;clear h k)
 have cl0 := (hb2.up (hu7.out.trans hu10.out)).cell (o := 0) rfl
 have cl1 := (hb2.up (hu7.out.trans hu10.out)).cell (o := 1) rfl
 refine wpp fun k h=>?_;go_simp;apply h;clear h k
 clear cl0 cl1
 have cl0 := (hb5.up hu10.out).cell (o := 0) rfl
 have cl1 := (hb5.up hu10.out).cell (o := 1) rfl
 refine wpp fun k h=>?_;go_simp;apply h;clear h k
 clear cl0 cl1
 refine step_call wn (by go_simp <;> rfl) (spec_l01Plus.calls K a0 a1_0 a1_1 a2_0 a2_1 t12 t13 w9  A14.out) ?_
 rintro e w15 ⟨rfl, hu⟩
 have hu16 := Aside0.mk hu
 clear hu
 refine ⟨_, rfl, ?_⟩
 simp only[Act.put,nm1,nm2,nm3]
 refine step_call wn (by go_simp <;> rfl) (spec_l01Times.calls K a0 (wrap64 (Int.tdiv (wrap64 (a0 + 1)) 2)) t12 t13 t17 t18 w15  A19.out) ?_
 rintro e w20 ⟨rfl, hu⟩
 have hu21 := Aside0.mk hu
 clear hu
 refine ⟨_, rfl, ?_⟩
 simp only[Act.put,nm1,nm2,nm3]
 have hB0 := (hb8.up (hu16.out.trans hu21.out))
 have cl0 := hB0.cell (o := 0) rfl
 have fr0 := hB0.free 0
 have cl1 := hB0.cell (o := 1) rfl
 have fr1 := hB0.free 1
 refine step_store (b := b8) (cs' := [.int .i64 t17, .int .i64 t18]) (T := 30) (W' := ((w20.setCell ⟨b8, 0, none⟩ (.int .i64 t17)).setCell ⟨b8, 1, none⟩ (.int .i64 t18))) rfl rfl (by go_simp <;> rfl) (((Sto.refl _ _).setCell 0 _).setCell 1 _) (((hB0).setCell 0 _).setCell 1 _) ?_
 clear hB0 cl0 fr0 cl1 fr1
 intro w22 hs hb24
 have hs23 := Aside0.mk hs
 clear hs
 refine wpList_nil (hK11 _ _ ?_)
 refine wp_ret ?_
 refine hQf _ _ _ ?_
 have cr0 := hb24.cell (o := 0) rfl
 have cr1 := hb24.cell (o := 1) rfl
 exact bodyPost_ret (v := .agg #[.int .i64 t17, .int .i64 t18]) (by first|rfl|simp [results, Try.results134, go_sem, cr0, cr1]<;>rfl) rfl ⟨rfl, (((((hu4.out.trans hu7.out).trans hu10.out).trans hu16.out).trans hu21.out).sto (Nat.le_trans ((Nat.le_trans (hu4.out.size) hu7.out.size)) lbb8.out) hs23.out)⟩

set_option maxHeartbeats 40000000 in
set_option maxRecDepth 100000 in
theorem spec_l04Draw.calls (K : Nat) (a0_A : Option Addr) (a0_c : Nat) (a0 : List (Int)) (r0 : Int) (r1 : Int) (r2 : Int) (r3 : Int) (r4 : Int) (r5 : Int) (r6 : Int) (r7 : Int) (w : World) (ha0 : Rd eU8 w a0_A a0) (h : spec_l04Draw.f K a0 = some (r0, r1, r2, r3, r4, r5, r6, r7)) :
    Calls Try.prog 158 #[.slice a0_A a0.length a0_c] w fun e w' => e = .returned (.tuple #[.int .i64 r0, .int .i64 r1, .agg #[.int .i64 r2, .int .i64 r3], .agg #[.int .i64 r4, .int .i64 r5], .agg #[.int .i64 r6, .int .i64 r7]]) ∧ Up w w' := by
 have H : (((spec_l01From.f K a0).bind fun (t13, t14) => ((spec_l01DrawField.f K a0 t13 t14).bind fun (t19, t20, t21) => ((spec_l04DrawOf.f K a0 t20 t21 t19).bind fun (t27, t28, t29, t30, t31, t32, t33, t34) => ((spec_l02DrawColour.f K a0 t33 t34).bind fun (t64, t65, t66) => ((spec_l01Next.f K a0 t65 t66 24).bind fun (t76, t77, t78) => (if (t76 == 0) = true then ((spec_l01Middle.f K t19 t27 t28 t29 t30).bind fun (t91, t92) => ((spec_l01BadField.f K a0 t77 t78 t19).bind fun (t110, t111, t112) => ((spec_l01BadPoint.f K a0 t111 t112 t19 t27 t28).bind fun (t123, t124, t125, t126) => ((spec_l01BadPoint.f K a0 t125 t126 t19 t29 t30).bind fun (t137, t138, t139, t140) => ((spec_l01BadPoint.f K a0 t139 t140 t19 t91 t92).bind fun (t151, t152, t153, t154) => some (t110, t64, t123, t124, t137, t138, t151, t152)))))) else ((spec_l01BadField.f K a0 t77 t78 t19).bind fun (t197, t198, t199) => ((spec_l01BadPoint.f K a0 t198 t199 t19 t27 t28).bind fun (t210, t211, t212, t213) => ((spec_l01BadPoint.f K a0 t212 t213 t19 t29 t30).bind fun (t224, t225, t226, t227) => ((spec_l01BadPoint.f K a0 t226 t227 t19 t31 t32).bind fun (t238, t239, t240, t241) => some (t197, t64, t210, t211, t224, t225, t238, t239))))))))))) : Option (Int × Int × Int × Int × Int × Int × Int × Int)) = some (r0, r1, r2, r3, r4, r5, r6, r7) := h
 clear h
 obtain ⟨⟨t13, t14⟩,A15,H⟩:=Option.bind_eq_some_iff.mp H
 replace A15:=Aside0.mk A15;try dsimp only at H
 obtain ⟨⟨t19, t20, t21⟩,A22,H⟩:=Option.bind_eq_some_iff.mp H
 replace A22:=Aside0.mk A22;try dsimp only at H
 obtain ⟨⟨t27, t28, t29, t30, t31, t32, t33, t34⟩,A35,H⟩:=Option.bind_eq_some_iff.mp H
 replace A35:=Aside0.mk A35;try dsimp only at H
 obtain ⟨⟨t64, t65, t66⟩,A67,H⟩:=Option.bind_eq_some_iff.mp H
 replace A67:=Aside0.mk A67;try dsimp only at H
 obtain ⟨⟨t76, t77, t78⟩,A79,H⟩:=Option.bind_eq_some_iff.mp H
 replace A79:=Aside0.mk A79;try dsimp only at H
 go_enter Try.func158, Try.ntmps158
 refine wp_hide (fun Qf hQf => ?_)
 refine wp_seq_k fun K1 hK1=>wp_region_lit ?_
 iterate 2 (refine wpp fun k h=>?_;go_simp;apply h;clear h k)
 refine step_new (cs := [.int .i64 0, .int .i64 0]) (T := 30) (f := fun b => .pointer (some ⟨b, 0, none⟩)) rfl (by go_simp <;> rfl) ?_
 intro b2 w3 hu lb hb2
 simp only[Act.put,nm1,nm2,nm3]
 have lbb2 := Aside0.mk lb
 have ltb2 := Aside0.mk hb2.lt
 clear lb
 have hu4 := Aside0.mk hu
 clear hu
 refine step_new (cs := [.int .i64 0, .int .i64 0]) (T := 30) (f := fun b => .pointer (some ⟨b, 0, none⟩)) rfl (by go_simp <;> rfl) ?_
 intro b5 w6 hu lb hb5
 simp only[Act.put,nm1,nm2,nm3]
 have lbb5 := Aside0.mk lb
 have ltb5 := Aside0.mk hb5.lt
 clear lb
 have hu7 := Aside0.mk hu
 clear hu
 refine step_new (cs := [.int .i64 0, .int .i64 0]) (T := 30) (f := fun b => .pointer (some ⟨b, 0, none⟩)) rfl (by go_simp <;> rfl) ?_
 intro b8 w9 hu lb hb8
 simp only[Act.put,nm1,nm2,nm3]
 have lbb8 := Aside0.mk lb
 have ltb8 := Aside0.mk hb8.lt
 clear lb
 have hu10 := Aside0.mk hu
 clear hu
 refine wpList_nil (hK1 _ _ ?_)
 refine wp_seq_k fun K11 hK11=>wp_region_lit ?_
 refine wpp fun k h=>?_;go_simp;apply h;clear h k
 refine step_call wn (by go_simp <;> rfl) (spec_l01From.calls K a0_A a0_c a0 t13 t14 w9 (ha0.up ((hu4.out.trans hu7.out).trans hu10.out)) A15.out) ?_
 rintro e w16 ⟨b12, rfl, hb12, lb, hu⟩
 have lbb12 := lb
 have ltb12 := Aside0.mk hb12.lt
 clear lb
 have hu17 := Aside0.mk hu
 clear hu
 refine ⟨_, rfl, ?_⟩
 simp only[Act.put,nm1,nm2,nm3]
 refine wpp fun k h=>?_;go_simp;apply h;clear h k
 refine wpList_nil (hK11 _ _ ?_)
 refine wp_seq_k fun K18 hK18=>wp_region_lit ?_
 refine wpp fun k h=>?_;go_simp;apply h;clear h k
 refine step_call wn (by go_simp <;> rfl) (spec_l01DrawField.calls K b12 a0_A a0_c a0 t13 t14 t19 t20 t21 w16 hb12 (ha0.up (((hu4.out.trans hu7.out).trans hu10.out).trans hu17.out)) (fun k hk hp => Nat.ne_of_lt (Nat.lt_of_lt_of_le ((ha0.up ((hu4.out.trans hu7.out).trans hu10.out)).blk_lt hp k hk) lbb12.out)) A22.out) ?_
 rintro e w23 ⟨rfl, h24, hs⟩
 have hs25 := Aside0.mk hs
 clear hs
 refine ⟨_, rfl, ?_⟩
 simp only[Act.put,nm1,nm2,nm3]
 refine wpp fun k h=>?_;go_simp;apply h;clear h k
 refine wpList_nil (hK18 _ _ ?_)
 refine wp_seq_k fun K26 hK26=>wp_region_lit ?_
 iterate 2 (refine wpp fun k h=>?_;go_simp;apply h;clear h k)
 refine step_call wn (by go_simp <;> rfl) (spec_l04DrawOf.calls K b12 a0_A a0_c a0 t20 t21 t19 t27 t28 t29 t30 t31 t32 t33 t34 w23 h24 (ha0.up ((((hu4.out.trans hu7.out).trans hu10.out).trans hu17.out).grow hs25.out (fun k hk => Nat.le_trans ((Nat.le_trans ((Nat.le_trans (hu4.out.size) hu7.out.size)) hu10.out.size)) ((fun k hk => Nat.le_trans lbb12.out (Nat.le_of_eq (Option.some.inj hk))) k hk)))) (fun k hk hp => Nat.ne_of_lt (Nat.lt_of_lt_of_le ((ha0.up ((hu4.out.trans hu7.out).trans hu10.out)).blk_lt hp k hk) lbb12.out)) A35.out) ?_
 rintro e w36 ⟨rfl, h37, hs⟩
 have hs38 := Aside0.mk hs
 clear hs
 refine ⟨_, rfl, ?_⟩
 simp only[Act.put,nm1,nm2,nm3]
 iterate 4 (refine wpp fun k h=>?_;go_simp;apply h;clear h k)
 refine step_new (cs := [.int .i64 0, .int .i64 0]) (T := 30) (f := fun b => .pointer (some ⟨b, 0, none⟩)) rfl (by go_simp <;> rfl) ?_
 intro b39 w40 hu lb hb39
 simp only[Act.put,nm1,nm2,nm3]
 have lbb39 := Aside0.mk lb
 have ltb39 := Aside0.mk hb39.lt
 clear lb
 have hu41 := Aside0.mk hu
 clear hu
 refine step_new (cs := [.int .i64 0, .int .i64 0]) (T := 30) (f := fun b => .pointer (some ⟨b, 0, none⟩)) rfl (by go_simp <;> rfl) ?_
 intro b42 w43 hu lb hb42
 simp only[Act.put,nm1,nm2,nm3]
 have lbb42 := Aside0.mk lb
 have ltb42 := Aside0.mk hb42.lt
 clear lb
 have hu44 := Aside0.mk hu
 clear hu
 refine step_new (cs := [.int .i64 0, .int .i64 0]) (T := 30) (f := fun b => .pointer (some ⟨b, 0, none⟩)) rfl (by go_simp <;> rfl) ?_
 intro b45 w46 hu lb hb45
 simp only[Act.put,nm1,nm2,nm3]
 have lbb45 := Aside0.mk lb
 have ltb45 := Aside0.mk hb45.lt
 clear lb
 have hu47 := Aside0.mk hu
 clear hu
 have hB0 := (hb39.up (hu44.out.trans hu47.out))
 have cl0 := hB0.cell (o := 0) rfl
 have fr0 := hB0.free 0
 have cl1 := hB0.cell (o := 1) rfl
 have fr1 := hB0.free 1
 refine step_store (b := b39) (cs' := [.int .i64 t27, .int .i64 t28]) (T := 30) (W' := ((w46.setCell ⟨b39, 0, none⟩ (.int .i64 t27)).setCell ⟨b39, 1, none⟩ (.int .i64 t28))) rfl rfl (by go_simp <;> rfl) (((Sto.refl _ _).setCell 0 _).setCell 1 _) (((hB0).setCell 0 _).setCell 1 _) ?_
 clear hB0 cl0 fr0 cl1 fr1
 intro w48 hs hb50
 have hs49 := Aside0.mk hs
 clear hs
 have h51 := (hb42.up hu47.out).sto hs49.out (Ne.symm (Nat.ne_of_lt (Nat.lt_of_lt_of_le ltb39.out lbb42.out)))
 have h52 := hb45.sto hs49.out (Ne.symm (Nat.ne_of_lt (Nat.lt_of_lt_of_le (Nat.lt_of_lt_of_le ltb39.out (hu44.out.size)) lbb45.out)))
 have hB0 := h51
 have cl0 := hB0.cell (o := 0) rfl
 have fr0 := hB0.free 0
 have cl1 := hB0.cell (o := 1) rfl
 have fr1 := hB0.free 1
 refine step_store (b := b42) (cs' := [.int .i64 t29, .int .i64 t30]) (T := 30) (W' := ((w48.setCell ⟨b42, 0, none⟩ (.int .i64 t29)).setCell ⟨b42, 1, none⟩ (.int .i64 t30))) rfl rfl (by go_simp <;> rfl) (((Sto.refl _ _).setCell 0 _).setCell 1 _) (((hB0).setCell 0 _).setCell 1 _) ?_
 clear hB0 cl0 fr0 cl1 fr1
 intro w53 hs hb55
 have hs54 := Aside0.mk hs
 clear hs
 have h56 := hb50.sto hs54.out (Nat.ne_of_lt (Nat.lt_of_lt_of_le ltb39.out lbb42.out))
 have h57 := h52.sto hs54.out (Ne.symm (Nat.ne_of_lt (Nat.lt_of_lt_of_le ltb42.out lbb45.out)))
 have hB0 := h57
 have cl0 := hB0.cell (o := 0) rfl
 have fr0 := hB0.free 0
 have cl1 := hB0.cell (o := 1) rfl
 have fr1 := hB0.free 1
 refine step_store (b := b45) (cs' := [.int .i64 t31, .int .i64 t32]) (T := 30) (W' := ((w53.setCell ⟨b45, 0, none⟩ (.int .i64 t31)).setCell ⟨b45, 1, none⟩ (.int .i64 t32))) rfl rfl (by go_simp <;> rfl) (((Sto.refl _ _).setCell 0 _).setCell 1 _) (((hB0).setCell 0 _).setCell 1 _) ?_
 clear hB0 cl0 fr0 cl1 fr1
 intro w58 hs hb60
 have hs59 := Aside0.mk hs
 clear hs
 have h61 := h56.sto hs59.out (Nat.ne_of_lt (Nat.lt_of_lt_of_le (Nat.lt_of_lt_of_le ltb39.out (hu44.out.size)) lbb45.out))
 have h62 := hb55.sto hs59.out (Nat.ne_of_lt (Nat.lt_of_lt_of_le ltb42.out lbb45.out))
 refine wpList_nil (hK26 _ _ ?_)
 refine wp_seq_k fun K63 hK63=>wp_region_lit ?_
 refine wpp fun k h=>?_;go_simp;apply h;clear h k
 refine step_call wn (by go_simp <;> rfl) (spec_l02DrawColour.calls K b12 a0_A a0_c a0 t33 t34 t64 t65 t66 w58 (h37.up (((((hu41.out.trans hu44.out).trans hu47.out).sto (Nat.le_trans (Nat.le_refl _) lbb39.out) hs49.out).sto (Nat.le_trans (hu41.out.size) lbb42.out) hs54.out).sto (Nat.le_trans ((Nat.le_trans (hu41.out.size) hu44.out.size)) lbb45.out) hs59.out)) (ha0.up (((((((((((hu4.out.trans hu7.out).trans hu10.out).trans hu17.out).grow hs25.out (fun k hk => Nat.le_trans ((Nat.le_trans ((Nat.le_trans (hu4.out.size) hu7.out.size)) hu10.out.size)) ((fun k hk => Nat.le_trans lbb12.out (Nat.le_of_eq (Option.some.inj hk))) k hk))).grow hs38.out (fun k hk => Nat.le_trans ((Nat.le_trans ((Nat.le_trans (hu4.out.size) hu7.out.size)) hu10.out.size)) ((fun k hk => Nat.le_trans lbb12.out (Nat.le_of_eq (Option.some.inj hk))) k hk))).trans hu41.out).trans hu44.out).trans hu47.out).sto (Nat.le_trans ((Nat.le_trans ((Nat.le_trans ((Nat.le_trans ((Nat.le_trans ((Nat.le_trans (hu4.out.size) hu7.out.size)) hu10.out.size)) hu17.out.size)) hs25.out.size)) hs38.out.size)) lbb39.out) hs49.out).sto (Nat.le_trans ((Nat.le_trans ((Nat.le_trans ((Nat.le_trans ((Nat.le_trans ((Nat.le_trans ((Nat.le_trans (hu4.out.size) hu7.out.size)) hu10.out.size)) hu17.out.size)) hs25.out.size)) hs38.out.size)) hu41.out.size)) lbb42.out) hs54.out).sto (Nat.le_trans ((Nat.le_trans ((Nat.le_trans ((Nat.le_trans ((Nat.le_trans ((Nat.le_trans ((Nat.le_trans ((Nat.le_trans (hu4.out.size) hu7.out.size)) hu10.out.size)) hu17.out.size)) hs25.out.size)) hs38.out.size)) hu41.out.size)) hu44.out.size)) lbb45.out) hs59.out)) (fun k hk hp => Nat.ne_of_lt (Nat.lt_of_lt_of_le ((ha0.up ((hu4.out.trans hu7.out).trans hu10.out)).blk_lt hp k hk) lbb12.out)) A67.out) ?_
 rintro e w68 ⟨rfl, h69, hs⟩
 have hs70 := Aside0.mk hs
 clear hs
 have h71 := h61.grow hs70.out (fun k hk e => (Nat.ne_of_lt (Nat.lt_of_lt_of_le (Nat.lt_of_lt_of_le ltb12.out ((Nat.le_trans (hs25.out.size) hs38.out.size))) lbb39.out)) ((Option.some.inj hk).trans e))
 have h72 := h62.grow hs70.out (fun k hk e => (Nat.ne_of_lt (Nat.lt_of_lt_of_le (Nat.lt_of_lt_of_le ltb12.out ((Nat.le_trans ((Nat.le_trans (hs25.out.size) hs38.out.size)) hu41.out.size))) lbb42.out)) ((Option.some.inj hk).trans e))
 have h73 := hb60.grow hs70.out (fun k hk e => (Nat.ne_of_lt (Nat.lt_of_lt_of_le (Nat.lt_of_lt_of_le ltb12.out ((Nat.le_trans ((Nat.le_trans ((Nat.le_trans (hs25.out.size) hs38.out.size)) hu41.out.size)) hu44.out.size))) lbb45.out)) ((Option.some.inj hk).trans e))
 refine ⟨_, rfl, ?_⟩
 simp only[Act.put,nm1,nm2,nm3]
 refine wpp fun k h=>?_;go_simp;apply h;clear h k
 refine wpList_nil (hK63 _ _ ?_)
 refine wp_seq_k fun K74 hK74=>?_
 refine wp_seq_k fun K75 hK75=>wp_region_lit ?_
 refine wpp fun k h=>?_;go_simp;apply h;clear h k
 refine step_call wn (by go_simp <;> rfl) (spec_l01Next.calls K b12 a0_A a0_c a0 t65 t66 24 t76 t77 t78 w68 h69 (ha0.up ((((((((((((hu4.out.trans hu7.out).trans hu10.out).trans hu17.out).grow hs25.out (fun k hk => Nat.le_trans ((Nat.le_trans ((Nat.le_trans (hu4.out.size) hu7.out.size)) hu10.out.size)) ((fun k hk => Nat.le_trans lbb12.out (Nat.le_of_eq (Option.some.inj hk))) k hk))).grow hs38.out (fun k hk => Nat.le_trans ((Nat.le_trans ((Nat.le_trans (hu4.out.size) hu7.out.size)) hu10.out.size)) ((fun k hk => Nat.le_trans lbb12.out (Nat.le_of_eq (Option.some.inj hk))) k hk))).trans hu41.out).trans hu44.out).trans hu47.out).sto (Nat.le_trans ((Nat.le_trans ((Nat.le_trans ((Nat.le_trans ((Nat.le_trans ((Nat.le_trans (hu4.out.size) hu7.out.size)) hu10.out.size)) hu17.out.size)) hs25.out.size)) hs38.out.size)) lbb39.out) hs49.out).sto (Nat.le_trans ((Nat.le_trans ((Nat.le_trans ((Nat.le_trans ((Nat.le_trans ((Nat.le_trans ((Nat.le_trans (hu4.out.size) hu7.out.size)) hu10.out.size)) hu17.out.size)) hs25.out.size)) hs38.out.size)) hu41.out.size)) lbb42.out) hs54.out).sto (Nat.le_trans ((Nat.le_trans ((Nat.le_trans ((Nat.le_trans ((Nat.le_trans ((Nat.le_trans ((Nat.le_trans ((Nat.le_trans (hu4.out.size) hu7.out.size)) hu10.out.size)) hu17.out.size)) hs25.out.size)) hs38.out.size)) hu41.out.size)) hu44.out.size)) lbb45.out) hs59.out).grow hs70.out (fun k hk => Nat.le_trans ((Nat.le_trans ((Nat.le_trans (hu4.out.size) hu7.out.size)) hu10.out.size)) ((fun k hk => Nat.le_trans lbb12.out (Nat.le_of_eq (Option.some.inj hk))) k hk)))) (fun k hk hp => Nat.ne_of_lt (Nat.lt_of_lt_of_le ((ha0.up ((hu4.out.trans hu7.out).trans hu10.out)).blk_lt hp k hk) lbb12.out)) A79.out) ?_
 rintro e w80 ⟨rfl, h81, hs⟩
 have hs82 := Aside0.mk hs
 clear hs
 have h83 := h71.grow hs82.out (fun k hk e => (Nat.ne_of_lt (Nat.lt_of_lt_of_le (Nat.lt_of_lt_of_le ltb12.out ((Nat.le_trans (hs25.out.size) hs38.out.size))) lbb39.out)) ((Option.some.inj hk).trans e))
 have h84 := h72.grow hs82.out (fun k hk e => (Nat.ne_of_lt (Nat.lt_of_lt_of_le (Nat.lt_of_lt_of_le ltb12.out ((Nat.le_trans ((Nat.le_trans (hs25.out.size) hs38.out.size)) hu41.out.size))) lbb42.out)) ((Option.some.inj hk).trans e))
 have h85 := h73.grow hs82.out (fun k hk e => (Nat.ne_of_lt (Nat.lt_of_lt_of_le (Nat.lt_of_lt_of_le ltb12.out ((Nat.le_trans ((Nat.le_trans ((Nat.le_trans (hs25.out.size) hs38.out.size)) hu41.out.size)) hu44.out.size))) lbb45.out)) ((Option.some.inj hk).trans e))
 refine ⟨_, rfl, ?_⟩
 simp only[Act.put,nm1,nm2,nm3]
 refine wpp fun k h=>?_;go_simp;apply h;clear h k
 refine wpList_nil (hK75 _ _ ?_)
 have hm87 := Aside0.mk (((((((((((((hu4.out.trans hu7.out).trans hu10.out).trans hu17.out).grow hs25.out (fun k hk => Nat.le_trans ((Nat.le_trans ((Nat.le_trans (hu4.out.size) hu7.out.size)) hu10.out.size)) ((fun k hk => Nat.le_trans lbb12.out (Nat.le_of_eq (Option.some.inj hk))) k hk))).grow hs38.out (fun k hk => Nat.le_trans ((Nat.le_trans ((Nat.le_trans (hu4.out.size) hu7.out.size)) hu10.out.size)) ((fun k hk => Nat.le_trans lbb12.out (Nat.le_of_eq (Option.some.inj hk))) k hk))).trans hu41.out).trans hu44.out).trans hu47.out).sto (Nat.le_trans ((Nat.le_trans ((Nat.le_trans ((Nat.le_trans ((Nat.le_trans ((Nat.le_trans (hu4.out.size) hu7.out.size)) hu10.out.size)) hu17.out.size)) hs25.out.size)) hs38.out.size)) lbb39.out) hs49.out).sto (Nat.le_trans ((Nat.le_trans ((Nat.le_trans ((Nat.le_trans ((Nat.le_trans ((Nat.le_trans ((Nat.le_trans (hu4.out.size) hu7.out.size)) hu10.out.size)) hu17.out.size)) hs25.out.size)) hs38.out.size)) hu41.out.size)) lbb42.out) hs54.out).sto (Nat.le_trans ((Nat.le_trans ((Nat.le_trans ((Nat.le_trans ((Nat.le_trans ((Nat.le_trans ((Nat.le_trans ((Nat.le_trans (hu4.out.size) hu7.out.size)) hu10.out.size)) hu17.out.size)) hs25.out.size)) hs38.out.size)) hu41.out.size)) hu44.out.size)) lbb45.out) hs59.out).grow hs70.out (fun k hk => Nat.le_trans ((Nat.le_trans ((Nat.le_trans (hu4.out.size) hu7.out.size)) hu10.out.size)) ((fun k hk => Nat.le_trans lbb12.out (Nat.le_of_eq (Option.some.inj hk))) k hk))).grow hs82.out (fun k hk => Nat.le_trans ((Nat.le_trans ((Nat.le_trans (hu4.out.size) hu7.out.size)) hu10.out.size)) ((fun k hk => Nat.le_trans lbb12.out (Nat.le_of_eq (Option.some.inj hk))) k hk)))
 have h88 := (hb2.up ((((((((((((hu7.out.trans hu10.out).trans hu17.out).grow hs25.out (fun k hk => Nat.le_trans ((Nat.le_trans (hu7.out.size) hu10.out.size)) ((fun k hk => Nat.le_trans lbb12.out (Nat.le_of_eq (Option.some.inj hk))) k hk))).grow hs38.out (fun k hk => Nat.le_trans ((Nat.le_trans (hu7.out.size) hu10.out.size)) ((fun k hk => Nat.le_trans lbb12.out (Nat.le_of_eq (Option.some.inj hk))) k hk))).trans hu41.out).trans hu44.out).trans hu47.out).sto (Nat.le_trans ((Nat.le_trans ((Nat.le_trans ((Nat.le_trans ((Nat.le_trans (hu7.out.size) hu10.out.size)) hu17.out.size)) hs25.out.size)) hs38.out.size)) lbb39.out) hs49.out).sto (Nat.le_trans ((Nat.le_trans ((Nat.le_trans ((Nat.le_trans ((Nat.le_trans ((Nat.le_trans (hu7.out.size) hu10.out.size)) hu17.out.size)) hs25.out.size)) hs38.out.size)) hu41.out.size)) lbb42.out) hs54.out).sto (Nat.le_trans ((Nat.le_trans ((Nat.le_trans ((Nat.le_trans ((Nat.le_trans ((Nat.le_trans ((Nat.le_trans (hu7.out.size) hu10.out.size)) hu17.out.size)) hs25.out.size)) hs38.out.size)) hu41.out.size)) hu44.out.size)) lbb45.out) hs59.out).grow hs70.out (fun k hk => Nat.le_trans ((Nat.le_trans (hu7.out.size) hu10.out.size)) ((fun k hk => Nat.le_trans lbb12.out (Nat.le_of_eq (Option.some.inj hk))) k hk))).grow hs82.out (fun k hk => Nat.le_trans ((Nat.le_trans (hu7.out.size) hu10.out.size)) ((fun k hk => Nat.le_trans lbb12.out (Nat.le_of_eq (Option.some.inj hk))) k hk))))
 have h89 := (hb5.up (((((((((((hu10.out.trans hu17.out).grow hs25.out (fun k hk => Nat.le_trans (hu10.out.size) ((fun k hk => Nat.le_trans lbb12.out (Nat.le_of_eq (Option.some.inj hk))) k hk))).grow hs38.out (fun k hk => Nat.le_trans (hu10.out.size) ((fun k hk => Nat.le_trans lbb12.out (Nat.le_of_eq (Option.some.inj hk))) k hk))).trans hu41.out).trans hu44.out).trans hu47.out).sto (Nat.le_trans ((Nat.le_trans ((Nat.le_trans ((Nat.le_trans (hu10.out.size) hu17.out.size)) hs25.out.size)) hs38.out.size)) lbb39.out) hs49.out).sto (Nat.le_trans ((Nat.le_trans ((Nat.le_trans ((Nat.le_trans ((Nat.le_trans (hu10.out.size) hu17.out.size)) hs25.out.size)) hs38.out.size)) hu41.out.size)) lbb42.out) hs54.out).sto (Nat.le_trans ((Nat.le_trans ((Nat.le_trans ((Nat.le_trans ((Nat.le_trans ((Nat.le_trans (hu10.out.size) hu17.out.size)) hs25.out.size)) hs38.out.size)) hu41.out.size)) hu44.out.size)) lbb45.out) hs59.out).grow hs70.out (fun k hk => Nat.le_trans (hu10.out.size) ((fun k hk => Nat.le_trans lbb12.out (Nat.le_of_eq (Option.some.inj hk))) k hk))).grow hs82.out (fun k hk => Nat.le_trans (hu10.out.size) ((fun k hk => Nat.le_trans lbb12.out (Nat.le_of_eq (Option.some.inj hk))) k hk))))
 have h90 := (hb8.up ((((((((((hu17.out.grow hs25.out (fun k hk => Nat.le_trans (Nat.le_refl _) ((fun k hk => Nat.le_trans lbb12.out (Nat.le_of_eq (Option.some.inj hk))) k hk))).grow hs38.out (fun k hk => Nat.le_trans (Nat.le_refl _) ((fun k hk => Nat.le_trans lbb12.out (Nat.le_of_eq (Option.some.inj hk))) k hk))).trans hu41.out).trans hu44.out).trans hu47.out).sto (Nat.le_trans ((Nat.le_trans ((Nat.le_trans (hu17.out.size) hs25.out.size)) hs38.out.size)) lbb39.out) hs49.out).sto (Nat.le_trans ((Nat.le_trans ((Nat.le_trans ((Nat.le_trans (hu17.out.size) hs25.out.size)) hs38.out.size)) hu41.out.size)) lbb42.out) hs54.out).sto (Nat.le_trans ((Nat.le_trans ((Nat.le_trans ((Nat.le_trans ((Nat.le_trans (hu17.out.size) hs25.out.size)) hs38.out.size)) hu41.out.size)) hu44.out.size)) lbb45.out) hs59.out).grow hs70.out (fun k hk => Nat.le_trans (Nat.le_refl _) ((fun k hk => Nat.le_trans lbb12.out (Nat.le_of_eq (Option.some.inj hk))) k hk))).grow hs82.out (fun k hk => Nat.le_trans (Nat.le_refl _) ((fun k hk => Nat.le_trans lbb12.out (Nat.le_of_eq (Option.some.inj hk))) k hk))))
 by_cases c86 : (t76 == 0) = true
 rotate_left
 ·
  rw [if_neg c86] at H; replace c86 := Bool.eq_false_iff.mpr c86
  have c86n : (t76 != 0) = true := by rw [bne, c86]; rfl
  have c86p : ¬ t76 = 0 := fun e => by simp [e] at c86
  obtain ⟨⟨t197, t198, t199⟩,A200,H⟩:=Option.bind_eq_some_iff.mp H
  replace A200:=Aside0.mk A200;try dsimp only at H
  obtain ⟨⟨t210, t211, t212, t213⟩,A214,H⟩:=Option.bind_eq_some_iff.mp H
  replace A214:=Aside0.mk A214;try dsimp only at H
  obtain ⟨⟨t224, t225, t226, t227⟩,A228,H⟩:=Option.bind_eq_some_iff.mp H
  replace A228:=Aside0.mk A228;try dsimp only at H
  obtain ⟨⟨t238, t239, t240, t241⟩,A242,H⟩:=Option.bind_eq_some_iff.mp H
  replace A242:=Aside0.mk A242;try dsimp only at H
  simp only [Option.some.injEq, Prod.mk.injEq] at H
  obtain ⟨rfl, rfl, rfl, rfl, rfl, rfl, rfl, rfl⟩ := H
  try simp only [c86, c86n, Bool.not_true, Bool.not_false]
  refine wp_cond_false rfl ?_
  refine wp_skip ?_
  refine hK74 _ _ ?_
  refine wp_seq_k fun K192 hK192=>?_
  have hTT_ : ∀ w_, Up (World.drew w80) w_ → (fun w_ => Blk w_ b39 [.int .i64 t27, .int .i64 t28] 30 ∧ Blk w_ b42 [.int .i64 t29, .int .i64 t30] 30 ∧ Blk w_ b45 [.int .i64 t31, .int .i64 t32] 30 ∧ True) w_ := fun w_ hu_ => ⟨h83.up ((Up.refl _).drew.trans hu_), h84.up ((Up.refl _).drew.trans hu_), h85.up ((Up.refl _).drew.trans hu_), True.intro⟩
  refine' wp_region_mix (fun w_ => Blk w_ b39 [.int .i64 t27, .int .i64 t28] 30 ∧ Blk w_ b42 [.int .i64 t29, .int .i64 t30] 30 ∧ Blk w_ b45 [.int .i64 t31, .int .i64 t32] 30 ∧ True) [0, 1, 3, 4, 5, 6, 8, 9, 10, 12, 13, 14] [2, 7, 11, 15, 16, 17, 18, 19, 20] [Slot.pur _, Slot.pur _, Slot.pur _, Slot.pur _, Slot.pur _, Slot.pur _, Slot.pur _, Slot.pur _, Slot.pur _, Slot.pur _, Slot.pur _, Slot.pur _] (by kernel_rfl) (by kernel_rfl) rfl rfl hTT_ ?main
  case main =>
   simp only [pick, List.drop_succ_cons, List.drop_zero]
   refine wpK_pur rfl hTT_ (fun w1 hT => ?_) ?_
   · clear hT
     go_simp
     first | done | rfl
   simp only[Act.put,nm1,nm2,nm3]
   refine wpK_pur rfl hTT_ (fun w1 hT => ?_) ?_
   · clear hT
     go_simp
     first | done | rfl
   simp only[Act.put,nm1,nm2,nm3]
   refine wpK_pur rfl hTT_ (fun w1 hT => ?_) ?_
   · clear hT
     go_simp
     first | done | rfl
   simp only[Act.put,nm1,nm2,nm3]
   refine wpK_pur rfl hTT_ (fun w1 hT => ?_) ?_
   · clear hT
     go_simp
     first | done | rfl
   simp only[Act.put,nm1,nm2,nm3]
   refine wpK_pur rfl hTT_ (fun w1 hT => ?_) ?_
   · clear hT
     go_simp
     first | done | rfl
   simp only[Act.put,nm1,nm2,nm3]
   refine wpK_pur rfl hTT_ (fun w1 hT => ?_) ?_
   · have hB_ := hT.1
     have cl0 := hB_.cell (o := 0) rfl
     have cl1 := hB_.cell (o := 1) rfl
     clear hT
     go_simp
     first | done | rfl
   simp only[Act.put,nm1,nm2,nm3]
   refine wpK_pur rfl hTT_ (fun w1 hT => ?_) ?_
   · clear hT
     go_simp
     first | done | rfl
   simp only[Act.put,nm1,nm2,nm3]
   refine wpK_pur rfl hTT_ (fun w1 hT => ?_) ?_
   · clear hT
     go_simp
     first | done | rfl
   simp only[Act.put,nm1,nm2,nm3]
   refine wpK_pur rfl hTT_ (fun w1 hT => ?_) ?_
   · have hB_ := hT.2.1
     have cl0 := hB_.cell (o := 0) rfl
     have cl1 := hB_.cell (o := 1) rfl
     clear hT
     go_simp
     first | done | rfl
   simp only[Act.put,nm1,nm2,nm3]
   refine wpK_pur rfl hTT_ (fun w1 hT => ?_) ?_
   · clear hT
     go_simp
     first | done | rfl
   simp only[Act.put,nm1,nm2,nm3]
   refine wpK_pur rfl hTT_ (fun w1 hT => ?_) ?_
   · clear hT
     go_simp
     first | done | rfl
   simp only[Act.put,nm1,nm2,nm3]
   refine wpK_pur rfl hTT_ (fun w1 hT => ?_) ?_
   · have hB_ := hT.2.2.1
     have cl0 := hB_.cell (o := 0) rfl
     have cl1 := hB_.cell (o := 1) rfl
     clear hT
     go_simp
     first | done | rfl
   simp only[Act.put,nm1,nm2,nm3]
   refine wpK_nil ?_
   intro w195 hu
   replace hu := (Up.refl _).drew.trans hu
   have hu196 := Aside0.mk hu
   clear hu
   refine late_consT ⟨(h83.up hu196.out), (h84.up hu196.out), (h85.up hu196.out), True.intro⟩ ?_
   refine step_call wn (by go_simp <;> rfl) (spec_l01BadField.calls K b12 a0_A a0_c a0 t77 t78 t19 t197 t198 t199 w195 (h81.up hu196.out) (ha0.up (hm87.out.trans hu196.out)) (fun k hk hp => Nat.ne_of_lt (Nat.lt_of_lt_of_le ((ha0.up ((hu4.out.trans hu7.out).trans hu10.out)).blk_lt hp k hk) lbb12.out)) A200.out) ?_
   rintro e w201 ⟨rfl, h202, hs⟩
   have hs203 := Aside0.mk hs
   clear hs
   have h204 := (h88.up hu196.out).grow hs203.out (fun k hk e => (Ne.symm (Nat.ne_of_lt (Nat.lt_of_lt_of_le (Nat.lt_of_lt_of_le ltb2.out ((Nat.le_trans (hu7.out.size) hu10.out.size))) lbb12.out))) ((Option.some.inj hk).trans e))
   have h205 := (h89.up hu196.out).grow hs203.out (fun k hk e => (Ne.symm (Nat.ne_of_lt (Nat.lt_of_lt_of_le (Nat.lt_of_lt_of_le ltb5.out (hu10.out.size)) lbb12.out))) ((Option.some.inj hk).trans e))
   have h206 := (h90.up hu196.out).grow hs203.out (fun k hk e => (Ne.symm (Nat.ne_of_lt (Nat.lt_of_lt_of_le ltb8.out lbb12.out))) ((Option.some.inj hk).trans e))
   have h207 := (h83.up hu196.out).grow hs203.out (fun k hk e => (Nat.ne_of_lt (Nat.lt_of_lt_of_le (Nat.lt_of_lt_of_le ltb12.out ((Nat.le_trans (hs25.out.size) hs38.out.size))) lbb39.out)) ((Option.some.inj hk).trans e))
   have h208 := (h84.up hu196.out).grow hs203.out (fun k hk e => (Nat.ne_of_lt (Nat.lt_of_lt_of_le (Nat.lt_of_lt_of_le ltb12.out ((Nat.le_trans ((Nat.le_trans (hs25.out.size) hs38.out.size)) hu41.out.size))) lbb42.out)) ((Option.some.inj hk).trans e))
   have h209 := (h85.up hu196.out).grow hs203.out (fun k hk e => (Nat.ne_of_lt (Nat.lt_of_lt_of_le (Nat.lt_of_lt_of_le ltb12.out ((Nat.le_trans ((Nat.le_trans ((Nat.le_trans (hs25.out.size) hs38.out.size)) hu41.out.size)) hu44.out.size))) lbb45.out)) ((Option.some.inj hk).trans e))
   refine ⟨_, rfl, ?_⟩
   simp only[Act.put,nm1,nm2,nm3]
   refine wpList_nil ?_
   refine wrapQ_k ?_
   refine late_consT ⟨h207, h208, h209, True.intro⟩ ?_
   refine step_call wn (by go_simp <;> rfl) (spec_l01BadPoint.calls K b12 a0_A a0_c a0 t198 t199 t19 t27 t28 t210 t211 t212 t213 w201 h202 (ha0.up ((hm87.out.trans hu196.out).grow hs203.out (fun k hk => Nat.le_trans ((Nat.le_trans ((Nat.le_trans (hu4.out.size) hu7.out.size)) hu10.out.size)) ((fun k hk => Nat.le_trans lbb12.out (Nat.le_of_eq (Option.some.inj hk))) k hk)))) (fun k hk hp => Nat.ne_of_lt (Nat.lt_of_lt_of_le ((ha0.up ((hu4.out.trans hu7.out).trans hu10.out)).blk_lt hp k hk) lbb12.out)) A214.out) ?_
   rintro e w215 ⟨rfl, h216, hs⟩
   have hs217 := Aside0.mk hs
   clear hs
   have h218 := h204.grow hs217.out (fun k hk e => (Ne.symm (Nat.ne_of_lt (Nat.lt_of_lt_of_le (Nat.lt_of_lt_of_le ltb2.out ((Nat.le_trans (hu7.out.size) hu10.out.size))) lbb12.out))) ((Option.some.inj hk).trans e))
   have h219 := h205.grow hs217.out (fun k hk e => (Ne.symm (Nat.ne_of_lt (Nat.lt_of_lt_of_le (Nat.lt_of_lt_of_le ltb5.out (hu10.out.size)) lbb12.out))) ((Option.some.inj hk).trans e))
   have h220 := h206.grow hs217.out (fun k hk e => (Ne.symm (Nat.ne_of_lt (Nat.lt_of_lt_of_le ltb8.out lbb12.out))) ((Option.some.inj hk).trans e))
   have h221 := h207.grow hs217.out (fun k hk e => (Nat.ne_of_lt (Nat.lt_of_lt_of_le (Nat.lt_of_lt_of_le ltb12.out ((Nat.le_trans (hs25.out.size) hs38.out.size))) lbb39.out)) ((Option.some.inj hk).trans e))
   have h222 := h208.grow hs217.out (fun k hk e => (Nat.ne_of_lt (Nat.lt_of_lt_of_le (Nat.lt_of_lt_of_le ltb12.out ((Nat.le_trans ((Nat.le_trans (hs25.out.size) hs38.out.size)) hu41.out.size))) lbb42.out)) ((Option.some.inj hk).trans e))
   have h223 := h209.grow hs217.out (fun k hk e => (Nat.ne_of_lt (Nat.lt_of_lt_of_le (Nat.lt_of_lt_of_le ltb12.out ((Nat.le_trans ((Nat.le_trans ((Nat.le_trans (hs25.out.size) hs38.out.size)) hu41.out.size)) hu44.out.size))) lbb45.out)) ((Option.some.inj hk).trans e))
   refine ⟨_, rfl, ?_⟩
   simp only[Act.put,nm1,nm2,nm3]
   refine wpList_nil ?_
   refine wrapQ_k ?_
   refine late_consT ⟨h221, h222, h223, True.intro⟩ ?_
   refine step_call wn (by go_simp <;> rfl) (spec_l01BadPoint.calls K b12 a0_A a0_c a0 t212 t213 t19 t29 t30 t224 t225 t226 t227 w215 h216 (ha0.up (((hm87.out.trans hu196.out).grow hs203.out (fun k hk => Nat.le_trans ((Nat.le_trans ((Nat.le_trans (hu4.out.size) hu7.out.size)) hu10.out.size)) ((fun k hk => Nat.le_trans lbb12.out (Nat.le_of_eq (Option.some.inj hk))) k hk))).grow hs217.out (fun k hk => Nat.le_trans ((Nat.le_trans ((Nat.le_trans (hu4.out.size) hu7.out.size)) hu10.out.size)) ((fun k hk => Nat.le_trans lbb12.out (Nat.le_of_eq (Option.some.inj hk))) k hk)))) (fun k hk hp => Nat.ne_of_lt (Nat.lt_of_lt_of_le ((ha0.up ((hu4.out.trans hu7.out).trans hu10.out)).blk_lt hp k hk) lbb12.out)) A228.out) ?_
   rintro e w229 ⟨rfl, h230, hs⟩
   have hs231 := Aside0.mk hs
   clear hs
   have h232 := h218.grow hs231.out (fun k hk e => (Ne.symm (Nat.ne_of_lt (Nat.lt_of_lt_of_le (Nat.lt_of_lt_of_le ltb2.out ((Nat.le_trans (hu7.out.size) hu10.out.size))) lbb12.out))) ((Option.some.inj hk).trans e))
   have h233 := h219.grow hs231.out (fun k hk e => (Ne.symm (Nat.ne_of_lt (Nat.lt_of_lt_of_le (Nat.lt_of_lt_of_le ltb5.out (hu10.out.size)) lbb12.out))) ((Option.some.inj hk).trans e))
   have h234 := h220.grow hs231.out (fun k hk e => (Ne.symm (Nat.ne_of_lt (Nat.lt_of_lt_of_le ltb8.out lbb12.out))) ((Option.some.inj hk).trans e))
   have h235 := h221.grow hs231.out (fun k hk e => (Nat.ne_of_lt (Nat.lt_of_lt_of_le (Nat.lt_of_lt_of_le ltb12.out ((Nat.le_trans (hs25.out.size) hs38.out.size))) lbb39.out)) ((Option.some.inj hk).trans e))
   have h236 := h222.grow hs231.out (fun k hk e => (Nat.ne_of_lt (Nat.lt_of_lt_of_le (Nat.lt_of_lt_of_le ltb12.out ((Nat.le_trans ((Nat.le_trans (hs25.out.size) hs38.out.size)) hu41.out.size))) lbb42.out)) ((Option.some.inj hk).trans e))
   have h237 := h223.grow hs231.out (fun k hk e => (Nat.ne_of_lt (Nat.lt_of_lt_of_le (Nat.lt_of_lt_of_le ltb12.out ((Nat.le_trans ((Nat.le_trans ((Nat.le_trans (hs25.out.size) hs38.out.size)) hu41.out.size)) hu44.out.size))) lbb45.out)) ((Option.some.inj hk).trans e))
   refine ⟨_, rfl, ?_⟩
   simp only[Act.put,nm1,nm2,nm3]
   refine wpList_nil ?_
   refine wrapQ_k ?_
   refine late_consT ⟨h235, h236, h237, True.intro⟩ ?_
   refine step_call wn (by go_simp <;> rfl) (spec_l01BadPoint.calls K b12 a0_A a0_c a0 t226 t227 t19 t31 t32 t238 t239 t240 t241 w229 h230 (ha0.up ((((hm87.out.trans hu196.out).grow hs203.out (fun k hk => Nat.le_trans ((Nat.le_trans ((Nat.le_trans (hu4.out.size) hu7.out.size)) hu10.out.size)) ((fun k hk => Nat.le_trans lbb12.out (Nat.le_of_eq (Option.some.inj hk))) k hk))).grow hs217.out (fun k hk => Nat.le_trans ((Nat.le_trans ((Nat.le_trans (hu4.out.size) hu7.out.size)) hu10.out.size)) ((fun k hk => Nat.le_trans lbb12.out (Nat.le_of_eq (Option.some.inj hk))) k hk))).grow hs231.out (fun k hk => Nat.le_trans ((Nat.le_trans ((Nat.le_trans (hu4.out.size) hu7.out.size)) hu10.out.size)) ((fun k hk => Nat.le_trans lbb12.out (Nat.le_of_eq (Option.some.inj hk))) k hk)))) (fun k hk hp => Nat.ne_of_lt (Nat.lt_of_lt_of_le ((ha0.up ((hu4.out.trans hu7.out).trans hu10.out)).blk_lt hp k hk) lbb12.out)) A242.out) ?_
   rintro e w243 ⟨rfl, h244, hs⟩
   have hs245 := Aside0.mk hs
   clear hs
   have h246 := h232.grow hs245.out (fun k hk e => (Ne.symm (Nat.ne_of_lt (Nat.lt_of_lt_of_le (Nat.lt_of_lt_of_le ltb2.out ((Nat.le_trans (hu7.out.size) hu10.out.size))) lbb12.out))) ((Option.some.inj hk).trans e))
   have h247 := h233.grow hs245.out (fun k hk e => (Ne.symm (Nat.ne_of_lt (Nat.lt_of_lt_of_le (Nat.lt_of_lt_of_le ltb5.out (hu10.out.size)) lbb12.out))) ((Option.some.inj hk).trans e))
   have h248 := h234.grow hs245.out (fun k hk e => (Ne.symm (Nat.ne_of_lt (Nat.lt_of_lt_of_le ltb8.out lbb12.out))) ((Option.some.inj hk).trans e))
   have h249 := h235.grow hs245.out (fun k hk e => (Nat.ne_of_lt (Nat.lt_of_lt_of_le (Nat.lt_of_lt_of_le ltb12.out ((Nat.le_trans (hs25.out.size) hs38.out.size))) lbb39.out)) ((Option.some.inj hk).trans e))
   have h250 := h236.grow hs245.out (fun k hk e => (Nat.ne_of_lt (Nat.lt_of_lt_of_le (Nat.lt_of_lt_of_le ltb12.out ((Nat.le_trans ((Nat.le_trans (hs25.out.size) hs38.out.size)) hu41.out.size))) lbb42.out)) ((Option.some.inj hk).trans e))
   have h251 := h237.grow hs245.out (fun k hk e => (Nat.ne_of_lt (Nat.lt_of_lt_of_le (Nat.lt_of_lt_of_le ltb12.out ((Nat.le_trans ((Nat.le_trans ((Nat.le_trans (hs25.out.size) hs38.out.size)) hu41.out.size)) hu44.out.size))) lbb45.out)) ((Option.some.inj hk).trans e))
   refine ⟨_, rfl, ?_⟩
   simp only[Act.put,nm1,nm2,nm3]
   refine wpList_nil ?_
   refine wrapQ_k ?_
   refine late_consT ⟨h249, h250, h251, True.intro⟩ ?_
   refine wpp fun k h=>?_;go_simp;apply h;clear h k
   refine wpList_nil ?_
   refine wrapQ_k ?_
   refine late_consT ⟨h249, h250, h251, True.intro⟩ ?_
   refine wpp fun k h=>?_;go_simp;apply h;clear h k
   refine wpList_nil ?_
   refine wrapQ_k ?_
   refine late_consT ⟨h249, h250, h251, True.intro⟩ ?_
   have hB0 := h246
   have cl0 := hB0.cell (o := 0) rfl
   have fr0 := hB0.free 0
   have cl1 := hB0.cell (o := 1) rfl
   have fr1 := hB0.free 1
   refine step_store (b := b2) (cs' := [.int .i64 t210, .int .i64 t211]) (T := 30) (W' := ((w243.setCell ⟨b2, 0, none⟩ (.int .i64 t210)).setCell ⟨b2, 1, none⟩ (.int .i64 t211))) rfl rfl (by go_simp <;> rfl) (((Sto.refl _ _).setCell 0 _).setCell 1 _) (((hB0).setCell 0 _).setCell 1 _) ?_
   clear hB0 cl0 fr0 cl1 fr1
   intro w252 hs hb254
   have hs253 := Aside0.mk hs
   clear hs
   have h255 := h247.sto hs253.out (Ne.symm (Nat.ne_of_lt (Nat.lt_of_lt_of_le ltb2.out lbb5.out)))
   have h256 := h248.sto hs253.out (Ne.symm (Nat.ne_of_lt (Nat.lt_of_lt_of_le (Nat.lt_of_lt_of_le ltb2.out (hu7.out.size)) lbb8.out)))
   have h257 := h244.sto hs253.out (Ne.symm (Nat.ne_of_lt (Nat.lt_of_lt_of_le (Nat.lt_of_lt_of_le ltb2.out ((Nat.le_trans (hu7.out.size) hu10.out.size))) lbb12.out)))
   have h258 := h249.sto hs253.out (Ne.symm (Nat.ne_of_lt (Nat.lt_of_lt_of_le (Nat.lt_of_lt_of_le ltb2.out ((Nat.le_trans ((Nat.le_trans ((Nat.le_trans ((Nat.le_trans (hu7.out.size) hu10.out.size)) hu17.out.size)) hs25.out.size)) hs38.out.size))) lbb39.out)))
   have h259 := h250.sto hs253.out (Ne.symm (Nat.ne_of_lt (Nat.lt_of_lt_of_le (Nat.lt_of_lt_of_le ltb2.out ((Nat.le_trans ((Nat.le_trans ((Nat.le_trans ((Nat.le_trans ((Nat.le_trans (hu7.out.size) hu10.out.size)) hu17.out.size)) hs25.out.size)) hs38.out.size)) hu41.out.size))) lbb42.out)))
   have h260 := h251.sto hs253.out (Ne.symm (Nat.ne_of_lt (Nat.lt_of_lt_of_le (Nat.lt_of_lt_of_le ltb2.out ((Nat.le_trans ((Nat.le_trans ((Nat.le_trans ((Nat.le_trans ((Nat.le_trans ((Nat.le_trans (hu7.out.size) hu10.out.size)) hu17.out.size)) hs25.out.size)) hs38.out.size)) hu41.out.size)) hu44.out.size))) lbb45.out)))
   refine wpList_nil ?_
   refine wrapQ_k ?_
   refine late_consT ⟨h258, h259, h260, True.intro⟩ ?_
   have hB0 := h255
   have cl0 := hB0.cell (o := 0) rfl
   have fr0 := hB0.free 0
   have cl1 := hB0.cell (o := 1) rfl
   have fr1 := hB0.free 1
   refine step_store (b := b5) (cs' := [.int .i64 t224, .int .i64 t225]) (T := 30) (W' := ((w252.setCell ⟨b5, 0, none⟩ (.int .i64 t224)).setCell ⟨b5, 1, none⟩ (.int .i64 t225))) rfl rfl (by go_simp <;> rfl) (((Sto.refl _ _).setCell 0 _).setCell 1 _) (((hB0).setCell 0 _).setCell 1 _) ?_
   clear hB0 cl0 fr0 cl1 fr1
   intro w261 hs hb263
   have hs262 := Aside0.mk hs
   clear hs
   have h264 := hb254.sto hs262.out (Nat.ne_of_lt (Nat.lt_of_lt_of_le ltb2.out lbb5.out))
   have h265 := h256.sto hs262.out (Ne.symm (Nat.ne_of_lt (Nat.lt_of_lt_of_le ltb5.out lbb8.out)))
   have h266 := h257.sto hs262.out (Ne.symm (Nat.ne_of_lt (Nat.lt_of_lt_of_le (Nat.lt_of_lt_of_le ltb5.out (hu10.out.size)) lbb12.out)))
   have h267 := h258.sto hs262.out (Ne.symm (Nat.ne_of_lt (Nat.lt_of_lt_of_le (Nat.lt_of_lt_of_le ltb5.out ((Nat.le_trans ((Nat.le_trans ((Nat.le_trans (hu10.out.size) hu17.out.size)) hs25.out.size)) hs38.out.size))) lbb39.out)))
   have h268 := h259.sto hs262.out (Ne.symm (Nat.ne_of_lt (Nat.lt_of_lt_of_le (Nat.lt_of_lt_of_le ltb5.out ((Nat.le_trans ((Nat.le_trans ((Nat.le_trans ((Nat.le_trans (hu10.out.size) hu17.out.size)) hs25.out.size)) hs38.out.size)) hu41.out.size))) lbb42.out)))
   have h269 := h260.sto hs262.out (Ne.symm (Nat.ne_of_lt (Nat.lt_of_lt_of_le (Nat.lt_of_lt_of_le ltb5.out ((Nat.le_trans ((Nat.le_trans ((Nat.le_trans ((Nat.le_trans ((Nat.le_trans (hu10.out.size) hu17.out.size)) hs25.out.size)) hs38.out.size)) hu41.out.size)) hu44.out.size))) lbb45.out)))
   refine wpList_nil ?_
   refine wrapQ_k ?_
   refine late_consT ⟨h267, h268, h269, True.intro⟩ ?_
   have hB0 := h265
   have cl0 := hB0.cell (o := 0) rfl
   have fr0 := hB0.free 0
   have cl1 := hB0.cell (o := 1) rfl
   have fr1 := hB0.free 1
   refine step_store (b := b8) (cs' := [.int .i64 t238, .int .i64 t239]) (T := 30) (W' := ((w261.setCell ⟨b8, 0, none⟩ (.int .i64 t238)).setCell ⟨b8, 1, none⟩ (.int .i64 t239))) rfl rfl (by go_simp <;> rfl) (((Sto.refl _ _).setCell 0 _).setCell 1 _) (((hB0).setCell 0 _).setCell 1 _) ?_
   clear hB0 cl0 fr0 cl1 fr1
   intro w270 hs hb272
   have hs271 := Aside0.mk hs
   clear hs
   have h273 := h264.sto hs271.out (Nat.ne_of_lt (Nat.lt_of_lt_of_le (Nat.lt_of_lt_of_le ltb2.out (hu7.out.size)) lbb8.out))
   have h274 := hb263.sto hs271.out (Nat.ne_of_lt (Nat.lt_of_lt_of_le ltb5.out lbb8.out))
   have h275 := h266.sto hs271.out (Ne.symm (Nat.ne_of_lt (Nat.lt_of_lt_of_le ltb8.out lbb12.out)))
   have h276 := h267.sto hs271.out (Ne.symm (Nat.ne_of_lt (Nat.lt_of_lt_of_le (Nat.lt_of_lt_of_le ltb8.out ((Nat.le_trans ((Nat.le_trans (hu17.out.size) hs25.out.size)) hs38.out.size))) lbb39.out)))
   have h277 := h268.sto hs271.out (Ne.symm (Nat.ne_of_lt (Nat.lt_of_lt_of_le (Nat.lt_of_lt_of_le ltb8.out ((Nat.le_trans ((Nat.le_trans ((Nat.le_trans (hu17.out.size) hs25.out.size)) hs38.out.size)) hu41.out.size))) lbb42.out)))
   have h278 := h269.sto hs271.out (Ne.symm (Nat.ne_of_lt (Nat.lt_of_lt_of_le (Nat.lt_of_lt_of_le ltb8.out ((Nat.le_trans ((Nat.le_trans ((Nat.le_trans ((Nat.le_trans (hu17.out.size) hs25.out.size)) hs38.out.size)) hu41.out.size)) hu44.out.size))) lbb45.out)))
   refine wpList_nil ?_
   refine wrapQ_k ?_
   refine late_nilT ⟨h276, h277, h278, True.intro⟩ ?_
   refine hK192 _ _ ?_
   refine wp_ret ?_
   refine hQf _ _ _ ?_
   have cr0 := h273.cell (o := 0) rfl
   have cr1 := h273.cell (o := 1) rfl
   have cr2 := h274.cell (o := 0) rfl
   have cr3 := h274.cell (o := 1) rfl
   have cr4 := hb272.cell (o := 0) rfl
   have cr5 := hb272.cell (o := 1) rfl
   exact bodyPost_ret (v := .tuple #[.int .i64 t197, .int .i64 t64, .agg #[.int .i64 t210, .int .i64 t211], .agg #[.int .i64 t224, .int .i64 t225], .agg #[.int .i64 t238, .int .i64 t239]]) (by first|rfl|simp [results, Try.results158, go_sem, cr0, cr1, cr2, cr3, cr4, cr5]<;>rfl) rfl ⟨rfl, ((((((((hm87.out.trans hu196.out).grow hs203.out (fun k hk => Nat.le_trans ((Nat.le_trans ((Nat.le_trans (hu4.out.size) hu7.out.size)) hu10.out.size)) ((fun k hk => Nat.le_trans lbb12.out (Nat.le_of_eq (Option.some.inj hk))) k hk))).grow hs217.out (fun k hk => Nat.le_trans ((Nat.le_trans ((Nat.le_trans (hu4.out.size) hu7.out.size)) hu10.out.size)) ((fun k hk => Nat.le_trans lbb12.out (Nat.le_of_eq (Option.some.inj hk))) k hk))).grow hs231.out (fun k hk => Nat.le_trans ((Nat.le_trans ((Nat.le_trans (hu4.out.size) hu7.out.size)) hu10.out.size)) ((fun k hk => Nat.le_trans lbb12.out (Nat.le_of_eq (Option.some.inj hk))) k hk))).grow hs245.out (fun k hk => Nat.le_trans ((Nat.le_trans ((Nat.le_trans (hu4.out.size) hu7.out.size)) hu10.out.size)) ((fun k hk => Nat.le_trans lbb12.out (Nat.le_of_eq (Option.some.inj hk))) k hk))).sto (Nat.le_trans (Nat.le_refl _) lbb2.out) hs253.out).sto (Nat.le_trans (hu4.out.size) lbb5.out) hs262.out).sto (Nat.le_trans ((Nat.le_trans (hu4.out.size) hu7.out.size)) lbb8.out) hs271.out)⟩
 rw [if_pos c86] at H
 have c86n : (t76 != 0) = false := by rw [bne, c86]; rfl
 obtain ⟨⟨t91, t92⟩,A93,H⟩:=Option.bind_eq_some_iff.mp H
 replace A93:=Aside0.mk A93;try dsimp only at H
 obtain ⟨⟨t110, t111, t112⟩,A113,H⟩:=Option.bind_eq_some_iff.mp H
 replace A113:=Aside0.mk A113;try dsimp only at H
 obtain ⟨⟨t123, t124, t125, t126⟩,A127,H⟩:=Option.bind_eq_some_iff.mp H
 replace A127:=Aside0.mk A127;try dsimp only at H
 obtain ⟨⟨t137, t138, t139, t140⟩,A141,H⟩:=Option.bind_eq_some_iff.mp H
 replace A141:=Aside0.mk A141;try dsimp only at H
 obtain ⟨⟨t151, t152, t153, t154⟩,A155,H⟩:=Option.bind_eq_some_iff.mp H
 replace A155:=Aside0.mk A155;try dsimp only at H
 simp only [Option.some.injEq, Prod.mk.injEq] at H
 obtain ⟨rfl, rfl, rfl, rfl, rfl, rfl, rfl, rfl⟩ := H
 try simp only [c86, c86n, Bool.not_true, Bool.not_false]
 refine wp_cond_true rfl ?_
 refine wp_region_lit ?_
 refine wpp fun k h=>?_;go_simp;apply h;clear h k
 have cl0 := h83.cell (o := 0) rfl
 have cl1 := h83.cell (o := 1) rfl
 refine wpp fun k h=>?_;go_simp;apply h;clear h k
 clear cl0 cl1
 have cl0 := h84.cell (o := 0) rfl
 have cl1 := h84.cell (o := 1) rfl
 refine wpp fun k h=>?_;go_simp;apply h;clear h k
 clear cl0 cl1
 refine step_call wn (by go_simp <;> rfl) (spec_l01Middle.calls K t19 t27 t28 t29 t30 t91 t92 w80  A93.out) ?_
 rintro e w94 ⟨rfl, hu⟩
 have hu95 := Aside0.mk hu
 clear hu
 refine ⟨_, rfl, ?_⟩
 simp only[Act.put,nm1,nm2,nm3]
 have hB0 := (h85.up hu95.out)
 have cl0 := hB0.cell (o := 0) rfl
 have fr0 := hB0.free 0
 have cl1 := hB0.cell (o := 1) rfl
 have fr1 := hB0.free 1
 refine step_store (b := b45) (cs' := [.int .i64 t91, .int .i64 t92]) (T := 30) (W' := ((w94.setCell ⟨b45, 0, none⟩ (.int .i64 t91)).setCell ⟨b45, 1, none⟩ (.int .i64 t92))) rfl rfl (by go_simp <;> rfl) (((Sto.refl _ _).setCell 0 _).setCell 1 _) (((hB0).setCell 0 _).setCell 1 _) ?_
 clear hB0 cl0 fr0 cl1 fr1
 intro w96 hs hb98
 have hs97 := Aside0.mk hs
 clear hs
 have h99 := (h88.up hu95.out).sto hs97.out (Nat.ne_of_lt (Nat.lt_of_lt_of_le (Nat.lt_of_lt_of_le ltb2.out ((Nat.le_trans ((Nat.le_trans ((Nat.le_trans ((Nat.le_trans ((Nat.le_trans ((Nat.le_trans (hu7.out.size) hu10.out.size)) hu17.out.size)) hs25.out.size)) hs38.out.size)) hu41.out.size)) hu44.out.size))) lbb45.out))
 have h100 := (h89.up hu95.out).sto hs97.out (Nat.ne_of_lt (Nat.lt_of_lt_of_le (Nat.lt_of_lt_of_le ltb5.out ((Nat.le_trans ((Nat.le_trans ((Nat.le_trans ((Nat.le_trans ((Nat.le_trans (hu10.out.size) hu17.out.size)) hs25.out.size)) hs38.out.size)) hu41.out.size)) hu44.out.size))) lbb45.out))
 have h101 := (h90.up hu95.out).sto hs97.out (Nat.ne_of_lt (Nat.lt_of_lt_of_le (Nat.lt_of_lt_of_le ltb8.out ((Nat.le_trans ((Nat.le_trans ((Nat.le_trans ((Nat.le_trans (hu17.out.size) hs25.out.size)) hs38.out.size)) hu41.out.size)) hu44.out.size))) lbb45.out))
 have h102 := (h81.up hu95.out).sto hs97.out (Nat.ne_of_lt (Nat.lt_of_lt_of_le (Nat.lt_of_lt_of_le ltb12.out ((Nat.le_trans ((Nat.le_trans ((Nat.le_trans (hs25.out.size) hs38.out.size)) hu41.out.size)) hu44.out.size))) lbb45.out))
 have h103 := (h83.up hu95.out).sto hs97.out (Nat.ne_of_lt (Nat.lt_of_lt_of_le (Nat.lt_of_lt_of_le ltb39.out (hu44.out.size)) lbb45.out))
 have h104 := (h84.up hu95.out).sto hs97.out (Nat.ne_of_lt (Nat.lt_of_lt_of_le ltb42.out lbb45.out))
 refine wpList_nil (hK74 _ _ ?_)
 refine wp_seq_k fun K105 hK105=>?_
 have hTT_ : ∀ w_, Up (World.drew w96) w_ → (fun w_ => Blk w_ b39 [.int .i64 t27, .int .i64 t28] 30 ∧ Blk w_ b42 [.int .i64 t29, .int .i64 t30] 30 ∧ Blk w_ b45 [.int .i64 t91, .int .i64 t92] 30 ∧ True) w_ := fun w_ hu_ => ⟨h103.up ((Up.refl _).drew.trans hu_), h104.up ((Up.refl _).drew.trans hu_), hb98.up ((Up.refl _).drew.trans hu_), True.intro⟩
 refine' wp_region_mix (fun w_ => Blk w_ b39 [.int .i64 t27, .int .i64 t28] 30 ∧ Blk w_ b42 [.int .i64 t29, .int .i64 t30] 30 ∧ Blk w_ b45 [.int .i64 t91, .int .i64 t92] 30 ∧ True) [0, 1, 3, 4, 5, 6, 8, 9, 10, 12, 13, 14] [2, 7, 11, 15, 16, 17, 18, 19, 20] [Slot.pur _, Slot.pur _, Slot.pur _, Slot.pur _, Slot.pur _, Slot.pur _, Slot.pur _, Slot.pur _, Slot.pur _, Slot.pur _, Slot.pur _, Slot.pur _] (by kernel_rfl) (by kernel_rfl) rfl rfl hTT_ ?main
 case main =>
  simp only [pick, List.drop_succ_cons, List.drop_zero]
  refine wpK_pur rfl hTT_ (fun w1 hT => ?_) ?_
  · clear hT
    go_simp
    first | done | rfl
  simp only[Act.put,nm1,nm2,nm3]
  refine wpK_pur rfl hTT_ (fun w1 hT => ?_) ?_
  · clear hT
    go_simp
    first | done | rfl
  simp only[Act.put,nm1,nm2,nm3]
  refine wpK_pur rfl hTT_ (fun w1 hT => ?_) ?_
  · clear hT
    go_simp
    first | done | rfl
  simp only[Act.put,nm1,nm2,nm3]
  refine wpK_pur rfl hTT_ (fun w1 hT => ?_) ?_
  · clear hT
    go_simp
    first | done | rfl
  simp only[Act.put,nm1,nm2,nm3]
  refine wpK_pur rfl hTT_ (fun w1 hT => ?_) ?_
  · clear hT
    go_simp
    first | done | rfl
  simp only[Act.put,nm1,nm2,nm3]
  refine wpK_pur rfl hTT_ (fun w1 hT => ?_) ?_
  · have hB_ := hT.1
    have cl0 := hB_.cell (o := 0) rfl
    have cl1 := hB_.cell (o := 1) rfl
    clear hT
    go_simp
    first | done | rfl
  simp only[Act.put,nm1,nm2,nm3]
  refine wpK_pur rfl hTT_ (fun w1 hT => ?_) ?_
  · clear hT
    go_simp
    first | done | rfl
  simp only[Act.put,nm1,nm2,nm3]
  refine wpK_pur rfl hTT_ (fun w1 hT => ?_) ?_
  · clear hT
    go_simp
    first | done | rfl
  simp only[Act.put,nm1,nm2,nm3]
  refine wpK_pur rfl hTT_ (fun w1 hT => ?_) ?_
  · have hB_ := hT.2.1
    have cl0 := hB_.cell (o := 0) rfl
    have cl1 := hB_.cell (o := 1) rfl
    clear hT
    go_simp
    first | done | rfl
  simp only[Act.put,nm1,nm2,nm3]
  refine wpK_pur rfl hTT_ (fun w1 hT => ?_) ?_
  · clear hT
    go_simp
    first | done | rfl
  simp only[Act.put,nm1,nm2,nm3]
  refine wpK_pur rfl hTT_ (fun w1 hT => ?_) ?_
  · clear hT
    go_simp
    first | done | rfl
  simp only[Act.put,nm1,nm2,nm3]
  refine wpK_pur rfl hTT_ (fun w1 hT => ?_) ?_
  · have hB_ := hT.2.2.1
    have cl0 := hB_.cell (o := 0) rfl
    have cl1 := hB_.cell (o := 1) rfl
    clear hT
    go_simp
    first | done | rfl
  simp only[Act.put,nm1,nm2,nm3]
  refine wpK_nil ?_
  intro w108 hu
  replace hu := (Up.refl _).drew.trans hu
  have hu109 := Aside0.mk hu
  clear hu
  refine late_consT ⟨(h103.up hu109.out), (h104.up hu109.out), (hb98.up hu109.out), True.intro⟩ ?_
  refine step_call wn (by go_simp <;> rfl) (spec_l01BadField.calls K b12 a0_A a0_c a0 t77 t78 t19 t110 t111 t112 w108 (h102.up hu109.out) (ha0.up (((hm87.out.trans hu95.out).sto (Nat.le_trans ((Nat.le_trans ((Nat.le_trans ((Nat.le_trans ((Nat.le_trans ((Nat.le_trans ((Nat.le_trans ((Nat.le_trans (hu4.out.size) hu7.out.size)) hu10.out.size)) hu17.out.size)) hs25.out.size)) hs38.out.size)) hu41.out.size)) hu44.out.size)) lbb45.out) hs97.out).trans hu109.out)) (fun k hk hp => Nat.ne_of_lt (Nat.lt_of_lt_of_le ((ha0.up ((hu4.out.trans hu7.out).trans hu10.out)).blk_lt hp k hk) lbb12.out)) A113.out) ?_
  rintro e w114 ⟨rfl, h115, hs⟩
  have hs116 := Aside0.mk hs
  clear hs
  have h117 := (h99.up hu109.out).grow hs116.out (fun k hk e => (Ne.symm (Nat.ne_of_lt (Nat.lt_of_lt_of_le (Nat.lt_of_lt_of_le ltb2.out ((Nat.le_trans (hu7.out.size) hu10.out.size))) lbb12.out))) ((Option.some.inj hk).trans e))
  have h118 := (h100.up hu109.out).grow hs116.out (fun k hk e => (Ne.symm (Nat.ne_of_lt (Nat.lt_of_lt_of_le (Nat.lt_of_lt_of_le ltb5.out (hu10.out.size)) lbb12.out))) ((Option.some.inj hk).trans e))
  have h119 := (h101.up hu109.out).grow hs116.out (fun k hk e => (Ne.symm (Nat.ne_of_lt (Nat.lt_of_lt_of_le ltb8.out lbb12.out))) ((Option.some.inj hk).trans e))
  have h120 := (h103.up hu109.out).grow hs116.out (fun k hk e => (Nat.ne_of_lt (Nat.lt_of_lt_of_le (Nat.lt_of_lt_of_le ltb12.out ((Nat.le_trans (hs25.out.size) hs38.out.size))) lbb39.out)) ((Option.some.inj hk).trans e))
  have h121 := (h104.up hu109.out).grow hs116.out (fun k hk e => (Nat.ne_of_lt (Nat.lt_of_lt_of_le (Nat.lt_of_lt_of_le ltb12.out ((Nat.le_trans ((Nat.le_trans (hs25.out.size) hs38.out.size)) hu41.out.size))) lbb42.out)) ((Option.some.inj hk).trans e))
  have h122 := (hb98.up hu109.out).grow hs116.out (fun k hk e => (Nat.ne_of_lt (Nat.lt_of_lt_of_le (Nat.lt_of_lt_of_le ltb12.out ((Nat.le_trans ((Nat.le_trans ((Nat.le_trans (hs25.out.size) hs38.out.size)) hu41.out.size)) hu44.out.size))) lbb45.out)) ((Option.some.inj hk).trans e))
  refine ⟨_, rfl, ?_⟩
  simp only[Act.put,nm1,nm2,nm3]
  refine wpList_nil ?_
  refine wrapQ_k ?_
  refine late_consT ⟨h120, h121, h122, True.intro⟩ ?_
  refine step_call wn (by go_simp <;> rfl) (spec_l01BadPoint.calls K b12 a0_A a0_c a0 t111 t112 t19 t27 t28 t123 t124 t125 t126 w114 h115 (ha0.up ((((hm87.out.trans hu95.out).sto (Nat.le_trans ((Nat.le_trans ((Nat.le_trans ((Nat.le_trans ((Nat.le_trans ((Nat.le_trans ((Nat.le_trans ((Nat.le_trans (hu4.out.size) hu7.out.size)) hu10.out.size)) hu17.out.size)) hs25.out.size)) hs38.out.size)) hu41.out.size)) hu44.out.size)) lbb45.out) hs97.out).trans hu109.out).grow hs116.out (fun k hk => Nat.le_trans ((Nat.le_trans ((Nat.le_trans (hu4.out.size) hu7.out.size)) hu10.out.size)) ((fun k hk => Nat.le_trans lbb12.out (Nat.le_of_eq (Option.some.inj hk))) k hk)))) (fun k hk hp => Nat.ne_of_lt (Nat.lt_of_lt_of_le ((ha0.up ((hu4.out.trans hu7.out).trans hu10.out)).blk_lt hp k hk) lbb12.out)) A127.out) ?_
  rintro e w128 ⟨rfl, h129, hs⟩
  have hs130 := Aside0.mk hs
  clear hs
  have h131 := h117.grow hs130.out (fun k hk e => (Ne.symm (Nat.ne_of_lt (Nat.lt_of_lt_of_le (Nat.lt_of_lt_of_le ltb2.out ((Nat.le_trans (hu7.out.size) hu10.out.size))) lbb12.out))) ((Option.some.inj hk).trans e))
  have h132 := h118.grow hs130.out (fun k hk e => (Ne.symm (Nat.ne_of_lt (Nat.lt_of_lt_of_le (Nat.lt_of_lt_of_le ltb5.out (hu10.out.size)) lbb12.out))) ((Option.some.inj hk).trans e))
  have h133 := h119.grow hs130.out (fun k hk e => (Ne.symm (Nat.ne_of_lt (Nat.lt_of_lt_of_le ltb8.out lbb12.out))) ((Option.some.inj hk).trans e))
  have h134 := h120.grow hs130.out (fun k hk e => (Nat.ne_of_lt (Nat.lt_of_lt_of_le (Nat.lt_of_lt_of_le ltb12.out ((Nat.le_trans (hs25.out.size) hs38.out.size))) lbb39.out)) ((Option.some.inj hk).trans e))
  have h135 := h121.grow hs130.out (fun k hk e => (Nat.ne_of_lt (Nat.lt_of_lt_of_le (Nat.lt_of_lt_of_le ltb12.out ((Nat.le_trans ((Nat.le_trans (hs25.out.size) hs38.out.size)) hu41.out.size))) lbb42.out)) ((Option.some.inj hk).trans e))
  have h136 := h122.grow hs130.out (fun k hk e => (Nat.ne_of_lt (Nat.lt_of_lt_of_le (Nat.lt_of_lt_of_le ltb12.out ((Nat.le_trans ((Nat.le_trans ((Nat.le_trans (hs25.out.size) hs38.out.size)) hu41.out.size)) hu44.out.size))) lbb45.out)) ((Option.some.inj hk).trans e))
  refine ⟨_, rfl, ?_⟩
  simp only[Act.put,nm1,nm2,nm3]
  refine wpList_nil ?_
  refine wrapQ_k ?_
  refine late_consT ⟨h134, h135, h136, True.intro⟩ ?_
  refine step_call wn (by go_simp <;> rfl) (spec_l01BadPoint.calls K b12 a0_A a0_c a0 t125 t126 t19 t29 t30 t137 t138 t139 t140 w128 h129 (ha0.up (((((hm87.out.trans hu95.out).sto (Nat.le_trans ((Nat.le_trans ((Nat.le_trans ((Nat.le_trans ((Nat.le_trans ((Nat.le_trans ((Nat.le_trans ((Nat.le_trans (hu4.out.size) hu7.out.size)) hu10.out.size)) hu17.out.size)) hs25.out.size)) hs38.out.size)) hu41.out.size)) hu44.out.size)) lbb45.out) hs97.out).trans hu109.out).grow hs116.out (fun k hk => Nat.le_trans ((Nat.le_trans ((Nat.le_trans (hu4.out.size) hu7.out.size)) hu10.out.size)) ((fun k hk => Nat.le_trans lbb12.out (Nat.le_of_eq (Option.some.inj hk))) k hk))).grow hs130.out (fun k hk => Nat.le_trans ((Nat.le_trans ((Nat.le_trans (hu4.out.size) hu7.out.size)) hu10.out.size)) ((fun k hk => Nat.le_trans lbb12.out (Nat.le_of_eq (Option.some.inj hk))) k hk)))) (fun k hk hp => Nat.ne_of_lt (Nat.lt_of_lt_of_le ((ha0.up ((hu4.out.trans hu7.out).trans hu10.out)).blk_lt hp k hk) lbb12.out)) A141.out) ?_
  rintro e w142 ⟨rfl, h143, hs⟩
  have hs144 := Aside0.mk hs
  clear hs
  have h145 := h131.grow hs144.out (fun k hk e => (Ne.symm (Nat.ne_of_lt (Nat.lt_of_lt_of_le (Nat.lt_of_lt_of_le ltb2.out ((Nat.le_trans (hu7.out.size) hu10.out.size))) lbb12.out))) ((Option.some.inj hk).trans e))
  have h146 := h132.grow hs144.out (fun k hk e => (Ne.symm (Nat.ne_of_lt (Nat.lt_of_lt_of_le (Nat.lt_of_lt_of_le ltb5.out (hu10.out.size)) lbb12.out))) ((Option.some.inj hk).trans e))
  have h147 := h133.grow hs144.out (fun k hk e => (Ne.symm (Nat.ne_of_lt (Nat.lt_of_lt_of_le ltb8.out lbb12.out))) ((Option.some.inj hk).trans e))
  have h148 := h134.grow hs144.out (fun k hk e => (Nat.ne_of_lt (Nat.lt_of_lt_of_le (Nat.lt_of_lt_of_le ltb12.out ((Nat.le_trans (hs25.out.size) hs38.out.size))) lbb39.out)) ((Option.some.inj hk).trans e))
  have h149 := h135.grow hs144.out (fun k hk e => (Nat.ne_of_lt (Nat.lt_of_lt_of_le (Nat.lt_of_lt_of_le ltb12.out ((Nat.le_trans ((Nat.le_trans (hs25.out.size) hs38.out.size)) hu41.out.size))) lbb42.out)) ((Option.some.inj hk).trans e))
  have h150 := h136.grow hs144.out (fun k hk e => (Nat.ne_of_lt (Nat.lt_of_lt_of_le (Nat.lt_of_lt_of_le ltb12.out ((Nat.le_trans ((Nat.le_trans ((Nat.le_trans (hs25.out.size) hs38.out.size)) hu41.out.size)) hu44.out.size))) lbb45.out)) ((Option.some.inj hk).trans e))
  refine ⟨_, rfl, ?_⟩
  simp only[Act.put,nm1,nm2,nm3]
  refine wpList_nil ?_
  refine wrapQ_k ?_
  refine late_consT ⟨h148, h149, h150, True.intro⟩ ?_
  refine step_call wn (by go_simp <;> rfl) (spec_l01BadPoint.calls K b12 a0_A a0_c a0 t139 t140 t19 t91 t92 t151 t152 t153 t154 w142 h143 (ha0.up ((((((hm87.out.trans hu95.out).sto (Nat.le_trans ((Nat.le_trans ((Nat.le_trans ((Nat.le_trans ((Nat.le_trans ((Nat.le_trans ((Nat.le_trans ((Nat.le_trans (hu4.out.size) hu7.out.size)) hu10.out.size)) hu17.out.size)) hs25.out.size)) hs38.out.size)) hu41.out.size)) hu44.out.size)) lbb45.out) hs97.out).trans hu109.out).grow hs116.out (fun k hk => Nat.le_trans ((Nat.le_trans ((Nat.le_trans (hu4.out.size) hu7.out.size)) hu10.out.size)) ((fun k hk => Nat.le_trans lbb12.out (Nat.le_of_eq (Option.some.inj hk))) k hk))).grow hs130.out (fun k hk => Nat.le_trans ((Nat.le_trans ((Nat.le_trans (hu4.out.size) hu7.out.size)) hu10.out.size)) ((fun k hk => Nat.le_trans lbb12.out (Nat.le_of_eq (Option.some.inj hk))) k hk))).grow hs144.out (fun k hk => Nat.le_trans ((Nat.le_trans ((Nat.le_trans (hu4.out.size) hu7.out.size)) hu10.out.size)) ((fun k hk => Nat.le_trans lbb12.out (Nat.le_of_eq (Option.some.inj hk))) k hk)))) (fun k hk hp => Nat.ne_of_lt (Nat.lt_of_lt_of_le ((ha0.up ((hu4.out.trans hu7.out).trans hu10.out)).blk_lt hp k hk) lbb12.out)) A155.out) ?_
  rintro e w156 ⟨rfl, h157, hs⟩
  have hs158 := Aside0.mk hs
  clear hs
  have h159 := h145.grow hs158.out (fun k hk e => (Ne.symm (Nat.ne_of_lt (Nat.lt_of_lt_of_le (Nat.lt_of_lt_of_le ltb2.out ((Nat.le_trans (hu7.out.size) hu10.out.size))) lbb12.out))) ((Option.some.inj hk).trans e))
  have h160 := h146.grow hs158.out (fun k hk e => (Ne.symm (Nat.ne_of_lt (Nat.lt_of_lt_of_le (Nat.lt_of_lt_of_le ltb5.out (hu10.out.size)) lbb12.out))) ((Option.some.inj hk).trans e))
  have h161 := h147.grow hs158.out (fun k hk e => (Ne.symm (Nat.ne_of_lt (Nat.lt_of_lt_of_le ltb8.out lbb12.out))) ((Option.some.inj hk).trans e))
  have h162 := h148.grow hs158.out (fun k hk e => (Nat.ne_of_lt (Nat.lt_of_lt_of_le (Nat.lt_of_lt_of_le ltb12.out ((Nat.le_trans (hs25.out.size) hs38.out.size))) lbb39.out)) ((Option.some.inj hk).trans e))
  have h163 := h149.grow hs158.out (fun k hk e => (Nat.ne_of_lt (Nat.lt_of_lt_of_le (Nat.lt_of_lt_of_le ltb12.out ((Nat.le_trans ((Nat.le_trans (hs25.out.size) hs38.out.size)) hu41.out.size))) lbb42.out)) ((Option.some.inj hk).trans e))
  have h164 := h150.grow hs158.out (fun k hk e => (Nat.ne_of_lt (Nat.lt_of_lt_of_le (Nat.lt_of_lt_of_le ltb12.out ((Nat.le_trans ((Nat.le_trans ((Nat.le_trans (hs25.out.size) hs38.out.size)) hu41.out.size)) hu44.out.size))) lbb45.out)) ((Option.some.inj hk).trans e))
  refine ⟨_, rfl, ?_⟩
  simp only[Act.put,nm1,nm2,nm3]
  refine wpList_nil ?_
  refine wrapQ_k ?_
  refine late_consT ⟨h162, h163, h164, True.intro⟩ ?_
  refine wpp fun k h=>?_;go_simp;apply h;clear h k
  refine wpList_nil ?_
  refine wrapQ_k ?_
  refine late_consT ⟨h162, h163, h164, True.intro⟩ ?_
  refine wpp fun k h=>?_;go_simp;apply h;clear h k
  refine wpList_nil ?_
  refine wrapQ_k ?_
  refine late_consT ⟨h162, h163, h164, True.intro⟩ ?_
  have hB0 := h159
  have cl0 := hB0.cell (o := 0) rfl
  have fr0 := hB0.free 0
  have cl1 := hB0.cell (o := 1) rfl
  have fr1 := hB0.free 1
  refine step_store (b := b2) (cs' := [.int .i64 t123, .int .i64 t124]) (T := 30) (W' := ((w156.setCell ⟨b2, 0, none⟩ (.int .i64 t123)).setCell ⟨b2, 1, none⟩ (.int .i64 t124))) rfl rfl (by go_simp <;> rfl) (((Sto.refl _ _).setCell 0 _).setCell 1 _) (((hB0).setCell 0 _).setCell 1 _) ?_
  clear hB0 cl0 fr0 cl1 fr1
  intro w165 hs hb167
  have hs166 := Aside0.mk hs
  clear hs
  have h168 := h160.sto hs166.out (Ne.symm (Nat.ne_of_lt (Nat.lt_of_lt_of_le ltb2.out lbb5.out)))
  have h169 := h161.sto hs166.out (Ne.symm (Nat.ne_of_lt (Nat.lt_of_lt_of_le (Nat.lt_of_lt_of_le ltb2.out (hu7.out.size)) lbb8.out)))
  have h170 := h157.sto hs166.out (Ne.symm (Nat.ne_of_lt (Nat.lt_of_lt_of_le (Nat.lt_of_lt_of_le ltb2.out ((Nat.le_trans (hu7.out.size) hu10.out.size))) lbb12.out)))
  have h171 := h162.sto hs166.out (Ne.symm (Nat.ne_of_lt (Nat.lt_of_lt_of_le (Nat.lt_of_lt_of_le ltb2.out ((Nat.le_trans ((Nat.le_trans ((Nat.le_trans ((Nat.le_trans (hu7.out.size) hu10.out.size)) hu17.out.size)) hs25.out.size)) hs38.out.size))) lbb39.out)))
  have h172 := h163.sto hs166.out (Ne.symm (Nat.ne_of_lt (Nat.lt_of_lt_of_le (Nat.lt_of_lt_of_le ltb2.out ((Nat.le_trans ((Nat.le_trans ((Nat.le_trans ((Nat.le_trans ((Nat.le_trans (hu7.out.size) hu10.out.size)) hu17.out.size)) hs25.out.size)) hs38.out.size)) hu41.out.size))) lbb42.out)))
  have h173 := h164.sto hs166.out (Ne.symm (Nat.ne_of_lt (Nat.lt_of_lt_of_le (Nat.lt_of_lt_of_le ltb2.out ((Nat.le_trans ((Nat.le_trans ((Nat.le_trans ((Nat.le_trans ((Nat.le_trans ((Nat.le_trans (hu7.out.size) hu10.out.size)) hu17.out.size)) hs25.out.size)) hs38.out.size)) hu41.out.size)) hu44.out.size))) lbb45.out)))
  refine wpList_nil ?_
  refine wrapQ_k ?_
  refine late_consT ⟨h171, h172, h173, True.intro⟩ ?_
  have hB0 := h168
  have cl0 := hB0.cell (o := 0) rfl
  have fr0 := hB0.free 0
  have cl1 := hB0.cell (o := 1) rfl
  have fr1 := hB0.free 1
  refine step_store (b := b5) (cs' := [.int .i64 t137, .int .i64 t138]) (T := 30) (W' := ((w165.setCell ⟨b5, 0, none⟩ (.int .i64 t137)).setCell ⟨b5, 1, none⟩ (.int .i64 t138))) rfl rfl (by go_simp <;> rfl) (((Sto.refl _ _).setCell 0 _).setCell 1 _) (((hB0).setCell 0 _).setCell 1 _) ?_
  clear hB0 cl0 fr0 cl1 fr1
  intro w174 hs hb176
  have hs175 := Aside0.mk hs
  clear hs
  have h177 := hb167.sto hs175.out (Nat.ne_of_lt (Nat.lt_of_lt_of_le ltb2.out lbb5.out))
  have h178 := h169.sto hs175.out (Ne.symm (Nat.ne_of_lt (Nat.lt_of_lt_of_le ltb5.out lbb8.out)))
  have h179 := h170.sto hs175.out (Ne.symm (Nat.ne_of_lt (Nat.lt_of_lt_of_le (Nat.lt_of_lt_of_le ltb5.out (hu10.out.size)) lbb12.out)))
  have h180 := h171.sto hs175.out (Ne.symm (Nat.ne_of_lt (Nat.lt_of_lt_of_le (Nat.lt_of_lt_of_le ltb5.out ((Nat.le_trans ((Nat.le_trans ((Nat.le_trans (hu10.out.size) hu17.out.size)) hs25.out.size)) hs38.out.size))) lbb39.out)))
  have h181 := h172.sto hs175.out (Ne.symm (Nat.ne_of_lt (Nat.lt_of_lt_of_le (Nat.lt_of_lt_of_le ltb5.out ((Nat.le_trans ((Nat.le_trans ((Nat.le_trans ((Nat.le_trans (hu10.out.size) hu17.out.size)) hs25.out.size)) hs38.out.size)) hu41.out.size))) lbb42.out)))
  have h182 := h173.sto hs175.out (Ne.symm (Nat.ne_of_lt (Nat.lt_of_lt_of_le (Nat.lt_of_lt_of_le ltb5.out ((Nat.le_trans ((Nat.le_trans ((Nat.le_trans ((Nat.le_trans ((Nat.le_trans (hu10.out.size) hu17.out.size)) hs25.out.size)) hs38.out.size)) hu41.out.size)) hu44.out.size))) lbb45.out)))
  refine wpList_nil ?_
  refine wrapQ_k ?_
  refine late_consT ⟨h180, h181, h182, True.intro⟩ ?_
  have hB0 := h178
  have cl0 := hB0.cell (o := 0) rfl
  have fr0 := hB0.free 0
  have cl1 := hB0.cell (o := 1) rfl
  have fr1 := hB0.free 1
  refine step_store (b := b8) (cs' := [.int .i64 t151, .int .i64 t152]) (T := 30) (W' := ((w174.setCell ⟨b8, 0, none⟩ (.int .i64 t151)).setCell ⟨b8, 1, none⟩ (.int .i64 t152))) rfl rfl (by go_simp <;> rfl) (((Sto.refl _ _).setCell 0 _).setCell 1 _) (((hB0).setCell 0 _).setCell 1 _) ?_
  clear hB0 cl0 fr0 cl1 fr1
  intro w183 hs hb185
  have hs184 := Aside0.mk hs
  clear hs
  have h186 := h177.sto hs184.out (Nat.ne_of_lt (Nat.lt_of_lt_of_le (Nat.lt_of_lt_of_le ltb2.out (hu7.out.size)) lbb8.out))
  have h187 := hb176.sto hs184.out (Nat.ne_of_lt (Nat.lt_of_lt_of_le ltb5.out lbb8.out))
  have h188 := h179.sto hs184.out (Ne.symm (Nat.ne_of_lt (Nat.lt_of_lt_of_le ltb8.out lbb12.out)))
  have h189 := h180.sto hs184.out (Ne.symm (Nat.ne_of_lt (Nat.lt_of_lt_of_le (Nat.lt_of_lt_of_le ltb8.out ((Nat.le_trans ((Nat.le_trans (hu17.out.size) hs25.out.size)) hs38.out.size))) lbb39.out)))
  have h190 := h181.sto hs184.out (Ne.symm (Nat.ne_of_lt (Nat.lt_of_lt_of_le (Nat.lt_of_lt_of_le ltb8.out ((Nat.le_trans ((Nat.le_trans ((Nat.le_trans (hu17.out.size) hs25.out.size)) hs38.out.size)) hu41.out.size))) lbb42.out)))
  have h191 := h182.sto hs184.out (Ne.symm (Nat.ne_of_lt (Nat.lt_of_lt_of_le (Nat.lt_of_lt_of_le ltb8.out ((Nat.le_trans ((Nat.le_trans ((Nat.le_trans ((Nat.le_trans (hu17.out.size) hs25.out.size)) hs38.out.size)) hu41.out.size)) hu44.out.size))) lbb45.out)))
  refine wpList_nil ?_
  refine wrapQ_k ?_
  refine late_nilT ⟨h189, h190, h191, True.intro⟩ ?_
  refine hK105 _ _ ?_
  refine wp_ret ?_
  refine hQf _ _ _ ?_
  have cr0 := h186.cell (o := 0) rfl
  have cr1 := h186.cell (o := 1) rfl
  have cr2 := h187.cell (o := 0) rfl
  have cr3 := h187.cell (o := 1) rfl
  have cr4 := hb185.cell (o := 0) rfl
  have cr5 := hb185.cell (o := 1) rfl
  exact bodyPost_ret (v := .tuple #[.int .i64 t110, .int .i64 t64, .agg #[.int .i64 t123, .int .i64 t124], .agg #[.int .i64 t137, .int .i64 t138], .agg #[.int .i64 t151, .int .i64 t152]]) (by first|rfl|simp [results, Try.results158, go_sem, cr0, cr1, cr2, cr3, cr4, cr5]<;>rfl) rfl ⟨rfl, ((((((((((hm87.out.trans hu95.out).sto (Nat.le_trans ((Nat.le_trans ((Nat.le_trans ((Nat.le_trans ((Nat.le_trans ((Nat.le_trans ((Nat.le_trans ((Nat.le_trans (hu4.out.size) hu7.out.size)) hu10.out.size)) hu17.out.size)) hs25.out.size)) hs38.out.size)) hu41.out.size)) hu44.out.size)) lbb45.out) hs97.out).trans hu109.out).grow hs116.out (fun k hk => Nat.le_trans ((Nat.le_trans ((Nat.le_trans (hu4.out.size) hu7.out.size)) hu10.out.size)) ((fun k hk => Nat.le_trans lbb12.out (Nat.le_of_eq (Option.some.inj hk))) k hk))).grow hs130.out (fun k hk => Nat.le_trans ((Nat.le_trans ((Nat.le_trans (hu4.out.size) hu7.out.size)) hu10.out.size)) ((fun k hk => Nat.le_trans lbb12.out (Nat.le_of_eq (Option.some.inj hk))) k hk))).grow hs144.out (fun k hk => Nat.le_trans ((Nat.le_trans ((Nat.le_trans (hu4.out.size) hu7.out.size)) hu10.out.size)) ((fun k hk => Nat.le_trans lbb12.out (Nat.le_of_eq (Option.some.inj hk))) k hk))).grow hs158.out (fun k hk => Nat.le_trans ((Nat.le_trans ((Nat.le_trans (hu4.out.size) hu7.out.size)) hu10.out.size)) ((fun k hk => Nat.le_trans lbb12.out (Nat.le_of_eq (Option.some.inj hk))) k hk))).sto (Nat.le_trans (Nat.le_refl _) lbb2.out) hs166.out).sto (Nat.le_trans (hu4.out.size) lbb5.out) hs175.out).sto (Nat.le_trans ((Nat.le_trans (hu4.out.size) hu7.out.size)) lbb8.out) hs184.out)⟩

set_option maxHeartbeats 40000000 in
set_option maxRecDepth 100000 in
theorem spec_l04Code.calls (K : Nat) (a0 : Int) (a1 : Int) (a2_0 : Int) (a2_1 : Int) (a3_0 : Int) (a3_1 : Int) (a4_0 : Int) (a4_1 : Int) (r0 : Int) (w : World)  (h : spec_l04Code.f K a0 a1 a2_0 a2_1 a3_0 a3_1 a4_0 a4_1 = some (r0)) :
    Calls Try.prog 119 #[.int .i64 a0, .int .i64 a1, .agg #[.int .i64 a2_0, .int .i64 a2_1], .agg #[.int .i64 a3_0, .int .i64 a3_1], .agg #[.int .i64 a4_0, .int .i64 a4_1]] w fun e w' => e = .returned (.int .i64 r0) ∧ Up w w' := by
 have H : (((spec_l02Code.f K a0 a1 ([(a2_0, a2_1), (a3_0, a3_1), (a4_0, a4_1)])).bind fun t15 => (if (t15 == 0) = true then ((spec_l01Area.f K a0 a2_0 a2_1 a3_0 a3_1 a4_0 a4_1).bind fun t24 => (if (t24 == 0) = true then some 5 else some t15)) else some t15)) : Option (Int)) = some (r0) := h
 clear h
 obtain ⟨t15,A16,H⟩:=Option.bind_eq_some_iff.mp H
 replace A16:=Aside0.mk A16;try dsimp only at H
 go_enter Try.func119, Try.ntmps119
 refine wp_hide (fun Qf hQf => ?_)
 refine wp_seq_k fun K1 hK1=>wp_region_lit ?_
 refine step_new (cs := [.int .i64 a2_0, .int .i64 a2_1]) (T := 30) (f := fun b => .pointer (some ⟨b, 0, none⟩)) rfl (by go_simp <;> rfl) ?_
 intro b2 w3 hu lb hb2
 simp only[Act.put,nm1,nm2,nm3]
 have lbb2 := Aside0.mk lb
 have ltb2 := Aside0.mk hb2.lt
 clear lb
 have hu4 := Aside0.mk hu
 clear hu
 refine step_new (cs := [.int .i64 a3_0, .int .i64 a3_1]) (T := 30) (f := fun b => .pointer (some ⟨b, 0, none⟩)) rfl (by go_simp <;> rfl) ?_
 intro b5 w6 hu lb hb5
 simp only[Act.put,nm1,nm2,nm3]
 have lbb5 := Aside0.mk lb
 have ltb5 := Aside0.mk hb5.lt
 clear lb
 have hu7 := Aside0.mk hu
 clear hu
 refine step_new (cs := [.int .i64 a4_0, .int .i64 a4_1]) (T := 30) (f := fun b => .pointer (some ⟨b, 0, none⟩)) rfl (by go_simp <;> rfl) ?_
 intro b8 w9 hu lb hb8
 simp only[Act.put,nm1,nm2,nm3]
 have lbb8 := Aside0.mk lb
 have ltb8 := Aside0.mk hb8.lt
 clear lb
 have hu10 := Aside0.mk hu
 clear hu
 refine wpp fun k h=>?_;go_simp;apply h;clear h k
 refine wpList_nil (hK1 _ _ ?_)
 refine wp_seq_k fun K11 hK11=>wp_region_lit ?_
 iterate 2 (refine wpp fun k h=>?_;go_simp;apply h;clear h k)
 have cl0 := (hb2.up (hu7.out.trans hu10.out)).cell (o := 0) rfl
 have cl1 := (hb2.up (hu7.out.trans hu10.out)).cell (o := 1) rfl
 refine wpp fun k h=>?_;go_simp;apply h;clear h k
 clear cl0 cl1
 have cl0 := (hb5.up hu10.out).cell (o := 0) rfl
 have cl1 := (hb5.up hu10.out).cell (o := 1) rfl
 refine wpp fun k h=>?_;go_simp;apply h;clear h k
 clear cl0 cl1
 have cl0 := hb8.cell (o := 0) rfl
 have cl1 := hb8.cell (o := 1) rfl
 refine wpp fun k h=>?_;go_simp;apply h;clear h k
 clear cl0 cl1
 refine step_new (cs := [.int .i64 a2_0, .int .i64 a2_1, .int .i64 a3_0, .int .i64 a3_1, .int .i64 a4_0, .int .i64 a4_1]) (T := 30) (f := fun b => .slice (some ⟨b, 0, none⟩) 3 3) rfl (by go_simp <;> rfl) ?_
 intro b12 w13 hu lb hb12
 simp only[Act.put,nm1,nm2,nm3]
 have lbb12 := Aside0.mk lb
 have ltb12 := Aside0.mk hb12.lt
 clear lb
 have hu14 := Aside0.mk hu
 clear hu
 refine step_call wn (by go_simp <;> rfl) (spec_l02Code.calls K a0 a1 (some ⟨b12, 0, none⟩) 3 ([(a2_0, a2_1), (a3_0, a3_1), (a4_0, a4_1)]) t15 w13 (Rd.of_blk (E := e2) (xs := [(a2_0, a2_1), (a3_0, a3_1), (a4_0, a4_1)]) (o := 0) hb12 (by simp) (fun j u hu => by rcases j with _ | _ | _ | _ | _ | _ | j <;> simp_all [Enc.flat, e2])) A16.out) ?_
 rintro e w17 ⟨rfl, hu⟩
 have hu18 := Aside0.mk hu
 clear hu
 refine ⟨_, rfl, ?_⟩
 simp only[Act.put,nm1,nm2,nm3]
 refine wpp fun k h=>?_;go_simp;apply h;clear h k
 refine wpList_nil (hK11 _ _ ?_)
 refine wp_seq_k fun K19 hK19=>?_
 refine wp_seq_k fun K20 hK20=>wp_region_lit ?_
 iterate 3 (refine wpp fun k h=>?_;go_simp;apply h;clear h k)
 have hm22 := Aside0.mk ((((hu4.out.trans hu7.out).trans hu10.out).trans hu14.out).trans hu18.out)
 have h23 := (hb2.up (((hu7.out.trans hu10.out).trans hu14.out).trans hu18.out))
 by_cases c21 : (t15 == 0) = true
 rotate_left
 ·
  rw [if_neg c21] at H; replace c21 := Bool.eq_false_iff.mpr c21
  have c21n : (t15 != 0) = true := by rw [bne, c21]; rfl
  have c21p : ¬ t15 = 0 := fun e => by simp [e] at c21
  obtain rfl := Option.some.inj H
  try simp only [c21, c21n, Bool.not_true, Bool.not_false]
  refine step_no rfl ?_
  simp only[Act.put,nm1,nm2,nm3]
  refine step_no rfl ?_
  simp only[Act.put,nm1,nm2,nm3]
  refine step_no rfl ?_
  simp only[Act.put,nm1,nm2,nm3]
  refine step_no rfl ?_
  simp only[Act.put,nm1,nm2,nm3]
  refine step_no rfl ?_
  simp only[Act.put,nm1,nm2,nm3]
  refine step_no rfl ?_
  simp only[Act.put,nm1,nm2,nm3]
  refine wpp fun k h=>?_;go_simp;apply h;clear h k
  refine wpList_nil (hK20 _ _ ?_)
  refine wp_cond_false rfl ?_
  refine wp_skip ?_
  refine hK19 _ _ ?_
  refine wp_seq_k fun K31 hK31=>wp_region_lit ?_
  iterate 2 (refine wpp fun k h=>?_;go_simp;apply h;clear h k)
  refine wpList_nil (hK31 _ _ ?_)
  refine wp_ret ?_
  refine hQf _ _ _ ?_
  exact bodyPost_ret (v := .int .i64 t15) (by first|rfl|simp [results, Try.results119, go_sem]<;>rfl) rfl ⟨rfl, hm22.out⟩
 rw [if_pos c21] at H
 have c21n : (t15 != 0) = false := by rw [bne, c21]; rfl
 obtain ⟨t24,A25,H⟩:=Option.bind_eq_some_iff.mp H
 replace A25:=Aside0.mk A25;try dsimp only at H
 try simp only [c21, c21n, Bool.not_true, Bool.not_false]
 refine wpList_step fun k h=>?_;go_simp;apply h;clear h k
 have cl0 := h23.cell (o := 0) rfl
 have cl1 := h23.cell (o := 1) rfl
 refine wpList_step fun k h=>?_;go_simp;apply h;clear h k
 clear cl0 cl1
 have cl0 := (hb5.up ((hu10.out.trans hu14.out).trans hu18.out)).cell (o := 0) rfl
 have cl1 := (hb5.up ((hu10.out.trans hu14.out).trans hu18.out)).cell (o := 1) rfl
 refine wpList_step fun k h=>?_;go_simp;apply h;clear h k
 clear cl0 cl1
 have cl0 := (hb8.up (hu14.out.trans hu18.out)).cell (o := 0) rfl
 have cl1 := (hb8.up (hu14.out.trans hu18.out)).cell (o := 1) rfl
 refine wpList_step fun k h=>?_;go_simp;apply h;clear h k
 clear cl0 cl1
 refine step_call rfl (by go_simp <;> rfl) (spec_l01Area.calls K a0 a2_0 a2_1 a3_0 a3_1 a4_0 a4_1 t24 w17  A25.out) ?_
 rintro e w26 ⟨rfl, hu⟩
 have hu27 := Aside0.mk hu
 clear hu
 refine ⟨_, rfl, ?_⟩
 simp only[Act.put,nm1,nm2,nm3]
 refine wpList_step fun k h=>?_;go_simp;apply h;clear h k
 refine wpp fun k h=>?_;go_simp;apply h;clear h k
 refine wpList_nil (hK20 _ _ ?_)
 by_cases c28 : (t24 == 0) = true
 rotate_left
 ·
  rw [if_neg c28] at H; replace c28 := Bool.eq_false_iff.mpr c28
  have c28n : (t24 != 0) = true := by rw [bne, c28]; rfl
  have c28p : ¬ t24 = 0 := fun e => by simp [e] at c28
  obtain rfl := Option.some.inj H
  try simp only [c28, c28n, Bool.not_true, Bool.not_false]
  refine wp_cond_false rfl ?_
  refine wp_skip ?_
  refine hK19 _ _ ?_
  refine wp_seq_k fun K30 hK30=>wp_region_lit ?_
  iterate 2 (refine wpp fun k h=>?_;go_simp;apply h;clear h k)
  refine wpList_nil (hK30 _ _ ?_)
  refine wp_ret ?_
  refine hQf _ _ _ ?_
  exact bodyPost_ret (v := .int .i64 t15) (by first|rfl|simp [results, Try.results119, go_sem]<;>rfl) rfl ⟨rfl, (hm22.out.trans hu27.out)⟩
 rw [if_pos c28] at H
 have c28n : (t24 != 0) = false := by rw [bne, c28]; rfl
 obtain rfl := Option.some.inj H
 try simp only [c28, c28n, Bool.not_true, Bool.not_false]
 refine wp_cond_true rfl ?_
 refine wp_region_lit ?_
 refine wpp fun k h=>?_;go_simp;apply h;clear h k
 refine wpList_nil (hK19 _ _ ?_)
 refine wp_seq_k fun K29 hK29=>wp_region_lit ?_
 iterate 2 (refine wpp fun k h=>?_;go_simp;apply h;clear h k)
 refine wpList_nil (hK29 _ _ ?_)
 refine wp_ret ?_
 refine hQf _ _ _ ?_
 exact bodyPost_ret (v := .int .i64 5) (by first|rfl|simp [results, Try.results119, go_sem]<;>rfl) rfl ⟨rfl, (hm22.out.trans hu27.out)⟩

set_option maxHeartbeats 40000000 in
set_option maxRecDepth 100000 in
theorem spec_l02Through.calls (K : Nat) (a0 : Int) (a1 : Int) (a2_0 : Int) (a2_1 : Int) (a3_0 : Int) (a3_1 : Int) (r0 : Int) (r1 : Int) (r2 : Int) (w : World)  (h : spec_l02Through.f K a0 a1 a2_0 a2_1 a3_0 a3_1 = some (r0, r1, r2)) :
    Calls Try.prog 184 #[.int .i64 a0, .int .i64 a1, .agg #[.int .i64 a2_0, .int .i64 a2_1], .agg #[.int .i64 a3_0, .int .i64 a3_1]] w fun e w' => e = .returned (.agg #[.int .i64 r0, .int .i64 r1, .int .i64 r2]) ∧ Up w w' := by
 have H : ((if (a1 == 1) = true then ((spec_l01Mod.f K (wrap64 (-a2_1)) a0).bind fun t19 => ((spec_l01Mod.f K (wrap64 (-(wrap64 ((wrap64 (a2_0 * a3_0)) + (wrap64 (t19 * a3_1)))))) a0).bind fun t24 => ((spec_l01Normal.f K a0 a2_0 t19 t24).bind fun (t28, t29, t30) => some (t28, t29, t30)))) else (if (a1 == 2) = true then ((spec_l01Mod.f K (wrap64 (-(wrap64 ((wrap64 (a2_1 * a3_0)) + (wrap64 (a2_0 * a3_1)))))) a0).bind fun t41 => ((spec_l01Normal.f K a0 a2_1 a2_0 t41).bind fun (t45, t46, t47) => some (t45, t46, t47))) else ((spec_l01Mod.f K (wrap64 (-(wrap64 ((wrap64 (a2_0 * a3_0)) + (wrap64 (a2_1 * a3_1)))))) a0).bind fun t55 => ((spec_l01Normal.f K a0 a2_0 a2_1 t55).bind fun (t59, t60, t61) => some (t59, t60, t61))))) : Option (Int × Int × Int)) = some (r0, r1, r2) := h
 clear h
 go_enter Try.func184, Try.ntmps184
 refine wp_hide (fun Qf hQf => ?_)
 refine wp_seq_k fun K1 hK1=>wp_region_lit ?_
 refine step_new (cs := [.int .i64 a2_0, .int .i64 a2_1]) (T := 30) (f := fun b => .pointer (some ⟨b, 0, none⟩)) rfl (by go_simp <;> rfl) ?_
 intro b2 w3 hu lb hb2
 simp only[Act.put,nm1,nm2,nm3]
 have lbb2 := Aside0.mk lb
 have ltb2 := Aside0.mk hb2.lt
 clear lb
 have hu4 := Aside0.mk hu
 clear hu
 refine step_new (cs := [.int .i64 a3_0, .int .i64 a3_1]) (T := 30) (f := fun b => .pointer (some ⟨b, 0, none⟩)) rfl (by go_simp <;> rfl) ?_
 intro b5 w6 hu lb hb5
 simp only[Act.put,nm1,nm2,nm3]
 have lbb5 := Aside0.mk lb
 have ltb5 := Aside0.mk hb5.lt
 clear lb
 have hu7 := Aside0.mk hu
 clear hu
 refine step_new (cs := [.int .i64 0, .int .i64 0, .int .i64 0]) (T := 34) (f := fun b => .pointer (some ⟨b, 0, none⟩)) rfl (by go_simp <;> rfl) ?_
 intro b8 w9 hu lb hb8
 simp only[Act.put,nm1,nm2,nm3]
 have lbb8 := Aside0.mk lb
 have ltb8 := Aside0.mk hb8.lt
 clear lb
 have hu10 := Aside0.mk hu
 clear hu
 refine wpList_nil (hK1 _ _ ?_)
 refine wp_seq_k fun K11 hK11=>?_
 refine' wp_region_up 6 [Slot.det _, Slot.det _, Slot.det _, Slot.det _, Slot.det _, Slot.det _] (by kernel_rfl) (by kernel_rfl) ?main
 case main =>
  simp only [List.take_succ_cons, List.take_zero]
  refine wpK_ops rfl (fun w1 hu => ?_) ?_
  · clear hu
    go_simp
    first | done | rfl
  simp only[Act.put,nm1,nm2,nm3]
  refine wpK_ops rfl (fun w1 hu => ?_) ?_
  · have cl0 := ((hb2.up (hu7.out.trans hu10.out)).up ((Up.refl _).drew.trans hu)).cell (o := 0) rfl
    go_simp
    first | done | rfl
  simp only[Act.put,nm1,nm2,nm3]
  refine wpK_ops rfl (fun w1 hu => ?_) ?_
  · clear hu
    go_simp
    first | done | rfl
  simp only[Act.put,nm1,nm2,nm3]
  refine wpK_ops rfl (fun w1 hu => ?_) ?_
  · have cl0 := ((hb2.up (hu7.out.trans hu10.out)).up ((Up.refl _).drew.trans hu)).cell (o := 1) rfl
    go_simp
    first | done | rfl
  simp only[Act.put,nm1,nm2,nm3]
  refine wpK_ops rfl (fun w1 hu => ?_) ?_
  · clear hu
    go_simp
    first | done | rfl
  simp only[Act.put,nm1,nm2,nm3]
  refine wpK_ops rfl (fun w1 hu => ?_) ?_
  · clear hu
    go_simp
    first | done | rfl
  simp only[Act.put,nm1,nm2,nm3]
  refine wpK_nil ?_
  intro w12 hu hap
  simp only [List.drop_succ_cons, List.drop_zero]
  replace hu := (Up.refl _).drew.trans hu
  clear hap
  have hu13 := Aside0.mk hu
  clear hu
  refine wpList_nil (hK11 _ _ ?_)
  refine wp_seq_k fun K14 hK14=>?_
  refine wp_seq_k fun K15 hK15=>wp_region_lit ?_
  refine wpp fun k h=>?_;go_simp;apply h;clear h k
  refine wpList_nil (hK15 _ _ ?_)
  refine wp_block ?_
  refine wp_seq_k fun K16 hK16=>wp_region_lit ?_
  iterate 2 (refine wpp fun k h=>?_;go_simp;apply h;clear h k)
  refine wpList_nil (hK16 _ _ ?_)
  have hm18 := Aside0.mk (((hu4.out.trans hu7.out).trans hu10.out).trans hu13.out)
  by_cases c17 : (a1 == 1) = true
  ·
   rw [if_pos c17] at H
   have c17n : (a1 != 1) = false := by rw [bne, c17]; rfl
   obtain ⟨t19,A20,H⟩:=Option.bind_eq_some_iff.mp H
   replace A20:=Aside0.mk A20;try dsimp only at H
   obtain ⟨t24,A25,H⟩:=Option.bind_eq_some_iff.mp H
   replace A25:=Aside0.mk A25;try dsimp only at H
   obtain ⟨⟨t28, t29, t30⟩,A31,H⟩:=Option.bind_eq_some_iff.mp H
   replace A31:=Aside0.mk A31;try dsimp only at H
   simp only [Option.some.injEq, Prod.mk.injEq] at H
   obtain ⟨rfl, rfl, rfl⟩ := H
   try simp only [c17, c17n, Bool.not_true, Bool.not_false]
   refine wp_cond_true rfl ?_
   refine wp_region_lit ?_
   iterate 3 (refine wpp fun k h=>?_;go_simp;apply h;clear h k)
   refine step_call wn (by go_simp <;> rfl) (spec_l01Mod.calls K (wrap64 (-a2_1)) a0 t19 w12  A20.out) ?_
   rintro e w21 ⟨rfl, hu⟩
   have hu22 := Aside0.mk hu
   clear hu
   refine ⟨_, rfl, ?_⟩
   simp only[Act.put,nm1,nm2,nm3]
   refine wpp fun k h=>?_;go_simp;apply h;clear h k
   refine wpList_nil (hK14 _ _ ?_)
   refine wp_seq_k fun K23 hK23=>wp_region_lit ?_
   iterate 5 (refine wpp fun k h=>?_;go_simp;apply h;clear h k)
   have cl0 := (hb5.up ((hu10.out.trans hu13.out).trans hu22.out)).cell (o := 0) rfl
   refine wpp fun k h=>?_;go_simp;apply h;clear h k
   clear cl0
   iterate 3 (refine wpp fun k h=>?_;go_simp;apply h;clear h k)
   have cl0 := (hb5.up ((hu10.out.trans hu13.out).trans hu22.out)).cell (o := 1) rfl
   refine wpp fun k h=>?_;go_simp;apply h;clear h k
   clear cl0
   iterate 4 (refine wpp fun k h=>?_;go_simp;apply h;clear h k)
   refine step_call wn (by go_simp <;> rfl) (spec_l01Mod.calls K (wrap64 (-(wrap64 ((wrap64 (a2_0 * a3_0)) + (wrap64 (t19 * a3_1)))))) a0 t24 w21  A25.out) ?_
   rintro e w26 ⟨rfl, hu⟩
   have hu27 := Aside0.mk hu
   clear hu
   refine ⟨_, rfl, ?_⟩
   simp only[Act.put,nm1,nm2,nm3]
   refine step_call wn (by go_simp <;> rfl) (spec_l01Normal.calls K a0 a2_0 t19 t24 t28 t29 t30 w26  A31.out) ?_
   rintro e w32 ⟨rfl, hu⟩
   have hu33 := Aside0.mk hu
   clear hu
   refine ⟨_, rfl, ?_⟩
   simp only[Act.put,nm1,nm2,nm3]
   have hB0 := (hb8.up (((hu13.out.trans hu22.out).trans hu27.out).trans hu33.out))
   have cl0 := hB0.cell (o := 0) rfl
   have fr0 := hB0.free 0
   have cl1 := hB0.cell (o := 1) rfl
   have fr1 := hB0.free 1
   have cl2 := hB0.cell (o := 2) rfl
   have fr2 := hB0.free 2
   refine step_store (b := b8) (cs' := [.int .i64 t28, .int .i64 t29, .int .i64 t30]) (T := 34) (W' := (((w32.setCell ⟨b8, 0, none⟩ (.int .i64 t28)).setCell ⟨b8, 1, none⟩ (.int .i64 t29)).setCell ⟨b8, 2, none⟩ (.int .i64 t30))) rfl rfl (by go_simp <;> rfl) ((((Sto.refl _ _).setCell 0 _).setCell 1 _).setCell 2 _) ((((hB0).setCell 0 _).setCell 1 _).setCell 2 _) ?_
   clear hB0 cl0 fr0 cl1 fr1 cl2 fr2
   intro w34 hs hb36
   have hs35 := Aside0.mk hs
   clear hs
   refine wpList_nil (hK23 _ _ ?_)
   refine wp_ret ?_
   refine hQf _ _ _ ?_
   have cr0 := hb36.cell (o := 0) rfl
   have cr1 := hb36.cell (o := 1) rfl
   have cr2 := hb36.cell (o := 2) rfl
   exact bodyPost_ret (v := .agg #[.int .i64 t28, .int .i64 t29, .int .i64 t30]) (by first|rfl|simp [results, Try.results184, go_sem, cr0, cr1, cr2]<;>rfl) rfl ⟨rfl, ((((hm18.out.trans hu22.out).trans hu27.out).trans hu33.out).sto (Nat.le_trans ((Nat.le_trans (hu4.out.size) hu7.out.size)) lbb8.out) hs35.out)⟩
  rw [if_neg c17] at H; replace c17 := Bool.eq_false_iff.mpr c17
  have c17n : (a1 != 1) = true := by rw [bne, c17]; rfl
  have c17p : ¬ a1 = 1 := fun e => by simp [e] at c17
  try simp only [c17, c17n, Bool.not_true, Bool.not_false]
  refine wp_cond_false rfl ?_
  refine wp_seq_k fun K37 hK37=>wp_region_lit ?_
  iterate 2 (refine wpp fun k h=>?_;go_simp;apply h;clear h k)
  refine wpList_nil (hK37 _ _ ?_)
  by_cases c38 : (a1 == 2) = true
  rotate_left
  ·
   rw [if_neg c38] at H; replace c38 := Bool.eq_false_iff.mpr c38
   have c38n : (a1 != 2) = true := by rw [bne, c38]; rfl
   have c38p : ¬ a1 = 2 := fun e => by simp [e] at c38
   obtain ⟨t55,A56,H⟩:=Option.bind_eq_some_iff.mp H
   replace A56:=Aside0.mk A56;try dsimp only at H
   obtain ⟨⟨t59, t60, t61⟩,A62,H⟩:=Option.bind_eq_some_iff.mp H
   replace A62:=Aside0.mk A62;try dsimp only at H
   simp only [Option.some.injEq, Prod.mk.injEq] at H
   obtain ⟨rfl, rfl, rfl⟩ := H
   try simp only [c38, c38n, Bool.not_true, Bool.not_false]
   refine wp_cond_false rfl ?_
   refine wp_skip ?_
   refine hK14 _ _ ?_
   refine wp_seq_k fun K54 hK54=>wp_region_lit ?_
   iterate 5 (refine wpp fun k h=>?_;go_simp;apply h;clear h k)
   have cl0 := (hb5.up (hu10.out.trans hu13.out)).cell (o := 0) rfl
   refine wpp fun k h=>?_;go_simp;apply h;clear h k
   clear cl0
   iterate 3 (refine wpp fun k h=>?_;go_simp;apply h;clear h k)
   have cl0 := (hb5.up (hu10.out.trans hu13.out)).cell (o := 1) rfl
   refine wpp fun k h=>?_;go_simp;apply h;clear h k
   clear cl0
   iterate 4 (refine wpp fun k h=>?_;go_simp;apply h;clear h k)
   refine step_call wn (by go_simp <;> rfl) (spec_l01Mod.calls K (wrap64 (-(wrap64 ((wrap64 (a2_0 * a3_0)) + (wrap64 (a2_1 * a3_1)))))) a0 t55 w12  A56.out) ?_
   rintro e w57 ⟨rfl, hu⟩
   have hu58 := Aside0.mk hu
   clear hu
   refine ⟨_, rfl, ?_⟩
   simp only[Act.put,nm1,nm2,nm3]
   refine step_call wn (by go_simp <;> rfl) (spec_l01Normal.calls K a0 a2_0 a2_1 t55 t59 t60 t61 w57  A62.out) ?_
   rintro e w63 ⟨rfl, hu⟩
   have hu64 := Aside0.mk hu
   clear hu
   refine ⟨_, rfl, ?_⟩
   simp only[Act.put,nm1,nm2,nm3]
   have hB0 := (hb8.up ((hu13.out.trans hu58.out).trans hu64.out))
   have cl0 := hB0.cell (o := 0) rfl
   have fr0 := hB0.free 0
   have cl1 := hB0.cell (o := 1) rfl
   have fr1 := hB0.free 1
   have cl2 := hB0.cell (o := 2) rfl
   have fr2 := hB0.free 2
   refine step_store (b := b8) (cs' := [.int .i64 t59, .int .i64 t60, .int .i64 t61]) (T := 34) (W' := (((w63.setCell ⟨b8, 0, none⟩ (.int .i64 t59)).setCell ⟨b8, 1, none⟩ (.int .i64 t60)).setCell ⟨b8, 2, none⟩ (.int .i64 t61))) rfl rfl (by go_simp <;> rfl) ((((Sto.refl _ _).setCell 0 _).setCell 1 _).setCell 2 _) ((((hB0).setCell 0 _).setCell 1 _).setCell 2 _) ?_
   clear hB0 cl0 fr0 cl1 fr1 cl2 fr2
   intro w65 hs hb67
   have hs66 := Aside0.mk hs
   clear hs
   refine wpList_nil (hK54 _ _ ?_)
   refine wp_ret ?_
   refine hQf _ _ _ ?_
   have cr0 := hb67.cell (o := 0) rfl
   have cr1 := hb67.cell (o := 1) rfl
   have cr2 := hb67.cell (o := 2) rfl
   exact bodyPost_ret (v := .agg #[.int .i64 t59, .int .i64 t60, .int .i64 t61]) (by first|rfl|simp [results, Try.results184, go_sem, cr0, cr1, cr2]<;>rfl) rfl ⟨rfl, (((hm18.out.trans hu58.out).trans hu64.out).sto (Nat.le_trans ((Nat.le_trans (hu4.out.size) hu7.out.size)) lbb8.out) hs66.out)⟩
  rw [if_pos c38] at H
  have c38n : (a1 != 2) = false := by rw [bne, c38]; rfl
  obtain ⟨t41,A42,H⟩:=Option.bind_eq_some_iff.mp H
  replace A42:=Aside0.mk A42;try dsimp only at H
  obtain ⟨⟨t45, t46, t47⟩,A48,H⟩:=Option.bind_eq_some_iff.mp H
  replace A48:=Aside0.mk A48;try dsimp only at H
  simp only [Option.some.injEq, Prod.mk.injEq] at H
  obtain ⟨rfl, rfl, rfl⟩ := H
  try simp only [c38, c38n, Bool.not_true, Bool.not_false]
  refine wp_cond_true rfl ?_
  refine wp_seq_k fun K39 hK39=>wp_region_lit ?_
  refine wpp fun k h=>?_;go_simp;apply h;clear h k
  have cl0 := (hb2.up ((hu7.out.trans hu10.out).trans hu13.out)).cell (o := 1) rfl
  refine wpp fun k h=>?_;go_simp;apply h;clear h k
  clear cl0
  refine wpp fun k h=>?_;go_simp;apply h;clear h k
  refine wpList_nil (hK39 _ _ ?_)
  refine wp_region_lit ?_
  refine wpp fun k h=>?_;go_simp;apply h;clear h k
  have cl0 := (hb2.up ((hu7.out.trans hu10.out).trans hu13.out)).cell (o := 0) rfl
  refine wpp fun k h=>?_;go_simp;apply h;clear h k
  clear cl0
  refine wpp fun k h=>?_;go_simp;apply h;clear h k
  refine wpList_nil (hK14 _ _ ?_)
  refine wp_seq_k fun K40 hK40=>wp_region_lit ?_
  iterate 5 (refine wpp fun k h=>?_;go_simp;apply h;clear h k)
  have cl0 := (hb5.up (hu10.out.trans hu13.out)).cell (o := 0) rfl
  refine wpp fun k h=>?_;go_simp;apply h;clear h k
  clear cl0
  iterate 3 (refine wpp fun k h=>?_;go_simp;apply h;clear h k)
  have cl0 := (hb5.up (hu10.out.trans hu13.out)).cell (o := 1) rfl
  refine wpp fun k h=>?_;go_simp;apply h;clear h k
  clear cl0
  iterate 4 (refine wpp fun k h=>?_;go_simp;apply h;clear h k)
  refine step_call wn (by go_simp <;> rfl) (spec_l01Mod.calls K (wrap64 (-(wrap64 ((wrap64 (a2_1 * a3_0)) + (wrap64 (a2_0 * a3_1)))))) a0 t41 w12  A42.out) ?_
  rintro e w43 ⟨rfl, hu⟩
  have hu44 := Aside0.mk hu
  clear hu
  refine ⟨_, rfl, ?_⟩
  simp only[Act.put,nm1,nm2,nm3]
  refine step_call wn (by go_simp <;> rfl) (spec_l01Normal.calls K a0 a2_1 a2_0 t41 t45 t46 t47 w43  A48.out) ?_
  rintro e w49 ⟨rfl, hu⟩
  have hu50 := Aside0.mk hu
  clear hu
  refine ⟨_, rfl, ?_⟩
  simp only[Act.put,nm1,nm2,nm3]
  have hB0 := (hb8.up ((hu13.out.trans hu44.out).trans hu50.out))
  have cl0 := hB0.cell (o := 0) rfl
  have fr0 := hB0.free 0
  have cl1 := hB0.cell (o := 1) rfl
  have fr1 := hB0.free 1
  have cl2 := hB0.cell (o := 2) rfl
  have fr2 := hB0.free 2
  refine step_store (b := b8) (cs' := [.int .i64 t45, .int .i64 t46, .int .i64 t47]) (T := 34) (W' := (((w49.setCell ⟨b8, 0, none⟩ (.int .i64 t45)).setCell ⟨b8, 1, none⟩ (.int .i64 t46)).setCell ⟨b8, 2, none⟩ (.int .i64 t47))) rfl rfl (by go_simp <;> rfl) ((((Sto.refl _ _).setCell 0 _).setCell 1 _).setCell 2 _) ((((hB0).setCell 0 _).setCell 1 _).setCell 2 _) ?_
  clear hB0 cl0 fr0 cl1 fr1 cl2 fr2
  intro w51 hs hb53
  have hs52 := Aside0.mk hs
  clear hs
  refine wpList_nil (hK40 _ _ ?_)
  refine wp_ret ?_
  refine hQf _ _ _ ?_
  have cr0 := hb53.cell (o := 0) rfl
  have cr1 := hb53.cell (o := 1) rfl
  have cr2 := hb53.cell (o := 2) rfl
  exact bodyPost_ret (v := .agg #[.int .i64 t45, .int .i64 t46, .int .i64 t47]) (by first|rfl|simp [results, Try.results184, go_sem, cr0, cr1, cr2]<;>rfl) rfl ⟨rfl, (((hm18.out.trans hu44.out).trans hu50.out).sto (Nat.le_trans ((Nat.le_trans (hu4.out.size) hu7.out.size)) lbb8.out) hs52.out)⟩

set_option maxHeartbeats 40000000 in
set_option maxRecDepth 100000 in
theorem spec_l04Circumcentre.calls (K : Nat) (a0 : Int) (a1 : Int) (a2_0 : Int) (a2_1 : Int) (a3_0 : Int) (a3_1 : Int) (a4_0 : Int) (a4_1 : Int) (r0 : Int) (r1 : Int) (w : World)  (h : spec_l04Circumcentre.f K a0 a1 a2_0 a2_1 a3_0 a3_1 a4_0 a4_1 = some (r0, r1)) :
    Calls Try.prog 122 #[.int .i64 a0, .int .i64 a1, .agg #[.int .i64 a2_0, .int .i64 a2_1], .agg #[.int .i64 a3_0, .int .i64 a3_1], .agg #[.int .i64 a4_0, .int .i64 a4_1]] w fun e w' => e = .returned (.agg #[.int .i64 r0, .int .i64 r1]) ∧ Up w w' := by
 have H : (((spec_l01Minus.f K a0 a2_0 a2_1 a3_0 a3_1).bind fun (t15, t16) => ((spec_l01Middle.f K a0 a2_0 a2_1 a3_0 a3_1).bind fun (t18, t19) => ((spec_l02Through.f K a0 a1 t15 t16 t18 t19).bind fun (t21, t22, t23) => ((spec_l01Minus.f K a0 a2_0 a2_1 a4_0 a4_1).bind fun (t33, t34) => ((spec_l01Middle.f K a0 a2_0 a2_1 a4_0 a4_1).bind fun (t36, t37) => ((spec_l02Through.f K a0 a1 t33 t34 t36 t37).bind fun (t39, t40, t41) => ((spec_l01Meet.f K a0 t21 t22 t23 t39 t40 t41).bind fun (t51, t52, t53) => some (t51, t52)))))))) : Option (Int × Int)) = some (r0, r1) := h
 clear h
 obtain ⟨⟨t15, t16⟩,A17,H⟩:=Option.bind_eq_some_iff.mp H
 replace A17:=Aside0.mk A17;try dsimp only at H
 obtain ⟨⟨t18, t19⟩,A20,H⟩:=Option.bind_eq_some_iff.mp H
 replace A20:=Aside0.mk A20;try dsimp only at H
 obtain ⟨⟨t21, t22, t23⟩,A24,H⟩:=Option.bind_eq_some_iff.mp H
 replace A24:=Aside0.mk A24;try dsimp only at H
 obtain ⟨⟨t33, t34⟩,A35,H⟩:=Option.bind_eq_some_iff.mp H
 replace A35:=Aside0.mk A35;try dsimp only at H
 obtain ⟨⟨t36, t37⟩,A38,H⟩:=Option.bind_eq_some_iff.mp H
 replace A38:=Aside0.mk A38;try dsimp only at H
 obtain ⟨⟨t39, t40, t41⟩,A42,H⟩:=Option.bind_eq_some_iff.mp H
 replace A42:=Aside0.mk A42;try dsimp only at H
 obtain ⟨⟨t51, t52, t53⟩,A54,H⟩:=Option.bind_eq_some_iff.mp H
 replace A54:=Aside0.mk A54;try dsimp only at H
 simp only [Option.some.injEq, Prod.mk.injEq] at H
 obtain ⟨rfl, rfl⟩ := H
 go_enter Try.func122, Try.ntmps122
 refine wp_hide (fun Qf hQf => ?_)
 refine wp_seq_k fun K1 hK1=>wp_region_lit ?_
 refine step_new (cs := [.int .i64 a2_0, .int .i64 a2_1]) (T := 30) (f := fun b => .pointer (some ⟨b, 0, none⟩)) rfl (by go_simp <;> rfl) ?_
 intro b2 w3 hu lb hb2
 simp only[Act.put,nm1,nm2,nm3]
 have lbb2 := Aside0.mk lb
 have ltb2 := Aside0.mk hb2.lt
 clear lb
 have hu4 := Aside0.mk hu
 clear hu
 refine step_new (cs := [.int .i64 a3_0, .int .i64 a3_1]) (T := 30) (f := fun b => .pointer (some ⟨b, 0, none⟩)) rfl (by go_simp <;> rfl) ?_
 intro b5 w6 hu lb hb5
 simp only[Act.put,nm1,nm2,nm3]
 have lbb5 := Aside0.mk lb
 have ltb5 := Aside0.mk hb5.lt
 clear lb
 have hu7 := Aside0.mk hu
 clear hu
 refine step_new (cs := [.int .i64 a4_0, .int .i64 a4_1]) (T := 30) (f := fun b => .pointer (some ⟨b, 0, none⟩)) rfl (by go_simp <;> rfl) ?_
 intro b8 w9 hu lb hb8
 simp only[Act.put,nm1,nm2,nm3]
 have lbb8 := Aside0.mk lb
 have ltb8 := Aside0.mk hb8.lt
 clear lb
 have hu10 := Aside0.mk hu
 clear hu
 refine step_new (cs := [.int .i64 0, .int .i64 0]) (T := 30) (f := fun b => .pointer (some ⟨b, 0, none⟩)) rfl (by go_simp <;> rfl) ?_
 intro b11 w12 hu lb hb11
 simp only[Act.put,nm1,nm2,nm3]
 have lbb11 := Aside0.mk lb
 have ltb11 := Aside0.mk hb11.lt
 clear lb
 have hu13 := Aside0.mk hu
 clear hu
 refine wpList_nil (hK1 _ _ ?_)
 refine wp_seq_k fun K14 hK14=>?_
 refine' wp_region_up 12 [Slot.det _, Slot.det _, Slot.det _, Slot.det _, Slot.det _, Slot.det (.agg #[.int .i64 t15, .int .i64 t16]), Slot.det _, Slot.det _, Slot.det _, Slot.det (.agg #[.int .i64 t18, .int .i64 t19]), Slot.det (.agg #[.int .i64 t21, .int .i64 t22, .int .i64 t23]), Slot.any (PtrTo [.int .i64 0, .int .i64 0, .int .i64 0] 34) true] (by kernel_rfl) (by kernel_rfl) ?main
 case main =>
  simp only [List.take_succ_cons, List.take_zero]
  refine wpK_ops rfl (fun w1 hu => ?_) ?_
  · clear hu
    go_simp
    first | done | rfl
  simp only[Act.put,nm1,nm2,nm3]
  refine wpK_ops rfl (fun w1 hu => ?_) ?_
  · clear hu
    go_simp
    first | done | rfl
  simp only[Act.put,nm1,nm2,nm3]
  refine wpK_ops rfl (fun w1 hu => ?_) ?_
  · clear hu
    go_simp
    first | done | rfl
  simp only[Act.put,nm1,nm2,nm3]
  refine wpK_ops rfl (fun w1 hu => ?_) ?_
  · have cl0 := ((hb2.up ((hu7.out.trans hu10.out).trans hu13.out)).up ((Up.refl _).drew.trans hu)).cell (o := 0) rfl
    have cl1 := ((hb2.up ((hu7.out.trans hu10.out).trans hu13.out)).up ((Up.refl _).drew.trans hu)).cell (o := 1) rfl
    go_simp
    first | done | rfl
  simp only[Act.put,nm1,nm2,nm3]
  refine wpK_ops rfl (fun w1 hu => ?_) ?_
  · have cl0 := ((hb5.up (hu10.out.trans hu13.out)).up ((Up.refl _).drew.trans hu)).cell (o := 0) rfl
    have cl1 := ((hb5.up (hu10.out.trans hu13.out)).up ((Up.refl _).drew.trans hu)).cell (o := 1) rfl
    go_simp
    first | done | rfl
  simp only[Act.put,nm1,nm2,nm3]
  refine wpK_ops rfl (fun w1 hu => ?_) ?_
  · have hcl := (spec_l01Minus.calls K a0 a2_0 a2_1 a3_0 a3_1 t15 t16 w1  A17.out)
    clear hu
    replace hcl := Aside0.mk hcl
    go_simp
    exact hcl.out
  simp only[Act.put,nm1,nm2,nm3]
  refine wpK_ops rfl (fun w1 hu => ?_) ?_
  · clear hu
    go_simp
    first | done | rfl
  simp only[Act.put,nm1,nm2,nm3]
  refine wpK_ops rfl (fun w1 hu => ?_) ?_
  · have cl0 := ((hb2.up ((hu7.out.trans hu10.out).trans hu13.out)).up ((Up.refl _).drew.trans hu)).cell (o := 0) rfl
    have cl1 := ((hb2.up ((hu7.out.trans hu10.out).trans hu13.out)).up ((Up.refl _).drew.trans hu)).cell (o := 1) rfl
    go_simp
    first | done | rfl
  simp only[Act.put,nm1,nm2,nm3]
  refine wpK_ops rfl (fun w1 hu => ?_) ?_
  · have cl0 := ((hb5.up (hu10.out.trans hu13.out)).up ((Up.refl _).drew.trans hu)).cell (o := 0) rfl
    have cl1 := ((hb5.up (hu10.out.trans hu13.out)).up ((Up.refl _).drew.trans hu)).cell (o := 1) rfl
    go_simp
    first | done | rfl
  simp only[Act.put,nm1,nm2,nm3]
  refine wpK_ops rfl (fun w1 hu => ?_) ?_
  · have hcl := (spec_l01Middle.calls K a0 a2_0 a2_1 a3_0 a3_1 t18 t19 w1  A20.out)
    clear hu
    replace hcl := Aside0.mk hcl
    go_simp
    exact hcl.out
  simp only[Act.put,nm1,nm2,nm3]
  refine wpK_ops rfl (fun w1 hu => ?_) ?_
  · have hcl := (spec_l02Through.calls K a0 a1 t15 t16 t18 t19 t21 t22 t23 w1  A24.out)
    clear hu
    replace hcl := Aside0.mk hcl
    go_simp
    exact hcl.out
  simp only[Act.put,nm1,nm2,nm3]
  refine wpK_any rfl (stab_ptr _ _) (fun w1 _ _ => fresh_ptr (by go_simp <;> rfl)) (fun v25 => ?_)
  simp only[Act.put,nm1,nm2,nm3]
  refine wpK_nil ?_
  intro w27 hu hap
  simp only [List.drop_succ_cons, List.drop_zero]
  replace hu := (Up.refl _).drew.trans hu
  obtain ⟨hf0, hn0, ⟨b26, e0, hb26⟩, -⟩ := hap
  have lbb26 := Aside0.mk (hf0 rfl b26 (by rw [e0]; rfl)).1
  have ltb26 := Aside0.mk hb26.lt
  dsimp only at e0
  subst e0
  clear hf0 hn0
  have hu28 := Aside0.mk hu
  clear hu
  have hB0 := hb26
  have cl0 := hB0.cell (o := 0) rfl
  have fr0 := hB0.free 0
  have cl1 := hB0.cell (o := 1) rfl
  have fr1 := hB0.free 1
  have cl2 := hB0.cell (o := 2) rfl
  have fr2 := hB0.free 2
  refine step_store (b := b26) (cs' := [.int .i64 t21, .int .i64 t22, .int .i64 t23]) (T := 34) (W' := (((w27.setCell ⟨b26, 0, none⟩ (.int .i64 t21)).setCell ⟨b26, 1, none⟩ (.int .i64 t22)).setCell ⟨b26, 2, none⟩ (.int .i64 t23))) rfl rfl (by go_simp <;> rfl) ((((Sto.refl _ _).setCell 0 _).setCell 1 _).setCell 2 _) ((((hB0).setCell 0 _).setCell 1 _).setCell 2 _) ?_
  clear hB0 cl0 fr0 cl1 fr1 cl2 fr2
  intro w29 hs hb31
  have hs30 := Aside0.mk hs
  clear hs
  refine wpList_nil (hK14 _ _ ?_)
  refine wp_seq_k fun K32 hK32=>?_
  refine' wp_region_up 12 [Slot.det _, Slot.det _, Slot.det _, Slot.det _, Slot.det _, Slot.det (.agg #[.int .i64 t33, .int .i64 t34]), Slot.det _, Slot.det _, Slot.det _, Slot.det (.agg #[.int .i64 t36, .int .i64 t37]), Slot.det (.agg #[.int .i64 t39, .int .i64 t40, .int .i64 t41]), Slot.any (PtrTo [.int .i64 0, .int .i64 0, .int .i64 0] 34) true] (by kernel_rfl) (by kernel_rfl) ?main
  case main =>
   simp only [List.take_succ_cons, List.take_zero]
   refine wpK_ops rfl (fun w1 hu => ?_) ?_
   · clear hu
     go_simp
     first | done | rfl
   simp only[Act.put,nm1,nm2,nm3]
   refine wpK_ops rfl (fun w1 hu => ?_) ?_
   · clear hu
     go_simp
     first | done | rfl
   simp only[Act.put,nm1,nm2,nm3]
   refine wpK_ops rfl (fun w1 hu => ?_) ?_
   · clear hu
     go_simp
     first | done | rfl
   simp only[Act.put,nm1,nm2,nm3]
   refine wpK_ops rfl (fun w1 hu => ?_) ?_
   · have cl0 := ((hb2.up ((((hu7.out.trans hu10.out).trans hu13.out).trans hu28.out).sto (Nat.le_trans ((Nat.le_trans ((Nat.le_trans (hu7.out.size) hu10.out.size)) hu13.out.size)) lbb26.out) hs30.out)).up ((Up.refl _).drew.trans hu)).cell (o := 0) rfl
     have cl1 := ((hb2.up ((((hu7.out.trans hu10.out).trans hu13.out).trans hu28.out).sto (Nat.le_trans ((Nat.le_trans ((Nat.le_trans (hu7.out.size) hu10.out.size)) hu13.out.size)) lbb26.out) hs30.out)).up ((Up.refl _).drew.trans hu)).cell (o := 1) rfl
     go_simp
     first | done | rfl
   simp only[Act.put,nm1,nm2,nm3]
   refine wpK_ops rfl (fun w1 hu => ?_) ?_
   · have cl0 := ((hb8.up ((hu13.out.trans hu28.out).sto (Nat.le_trans (hu13.out.size) lbb26.out) hs30.out)).up ((Up.refl _).drew.trans hu)).cell (o := 0) rfl
     have cl1 := ((hb8.up ((hu13.out.trans hu28.out).sto (Nat.le_trans (hu13.out.size) lbb26.out) hs30.out)).up ((Up.refl _).drew.trans hu)).cell (o := 1) rfl
     go_simp
     first | done | rfl
   simp only[Act.put,nm1,nm2,nm3]
   refine wpK_ops rfl (fun w1 hu => ?_) ?_
   · have hcl := (spec_l01Minus.calls K a0 a2_0 a2_1 a4_0 a4_1 t33 t34 w1  A35.out)
     clear hu
     replace hcl := Aside0.mk hcl
     go_simp
     exact hcl.out
   simp only[Act.put,nm1,nm2,nm3]
   refine wpK_ops rfl (fun w1 hu => ?_) ?_
   · clear hu
     go_simp
     first | done | rfl
   simp only[Act.put,nm1,nm2,nm3]
   refine wpK_ops rfl (fun w1 hu => ?_) ?_
   · have cl0 := ((hb2.up ((((hu7.out.trans hu10.out).trans hu13.out).trans hu28.out).sto (Nat.le_trans ((Nat.le_trans ((Nat.le_trans (hu7.out.size) hu10.out.size)) hu13.out.size)) lbb26.out) hs30.out)).up ((Up.refl _).drew.trans hu)).cell (o := 0) rfl
     have cl1 := ((hb2.up ((((hu7.out.trans hu10.out).trans hu13.out).trans hu28.out).sto (Nat.le_trans ((Nat.le_trans ((Nat.le_trans (hu7.out.size) hu10.out.size)) hu13.out.size)) lbb26.out) hs30.out)).up ((Up.refl _).drew.trans hu)).cell (o := 1) rfl
     go_simp
     first | done | rfl
   simp only[Act.put,nm1,nm2,nm3]
   refine wpK_ops rfl (fun w1 hu => ?_) ?_
   · have cl0 := ((hb8.up ((hu13.out.trans hu28.out).sto (Nat.le_trans (hu13.out.size) lbb26.out) hs30.out)).up ((Up.refl _).drew.trans hu)).cell (o := 0) rfl
     have cl1 := ((hb8.up ((hu13.out.trans hu28.out).sto (Nat.le_trans (hu13.out.size) lbb26.out) hs30.out)).up ((Up.refl _).drew.trans hu)).cell (o := 1) rfl
     go_simp
     first | done | rfl
   simp only[Act.put,nm1,nm2,nm3]
   refine wpK_ops rfl (fun w1 hu => ?_) ?_
   · have hcl := (spec_l01Middle.calls K a0 a2_0 a2_1 a4_0 a4_1 t36 t37 w1  A38.out)
     clear hu
     replace hcl := Aside0.mk hcl
     go_simp
     exact hcl.out
   simp only[Act.put,nm1,nm2,nm3]
   refine wpK_ops rfl (fun w1 hu => ?_) ?_
   · have hcl := (spec_l02Through.calls K a0 a1 t33 t34 t36 t37 t39 t40 t41 w1  A42.out)
     clear hu
     replace hcl := Aside0.mk hcl
     go_simp
     exact hcl.out
   simp only[Act.put,nm1,nm2,nm3]
   refine wpK_any rfl (stab_ptr _ _) (fun w1 _ _ => fresh_ptr (by go_simp <;> rfl)) (fun v43 => ?_)
   simp only[Act.put,nm1,nm2,nm3]
   refine wpK_nil ?_
   intro w45 hu hap
   simp only [List.drop_succ_cons, List.drop_zero]
   replace hu := (Up.refl _).drew.trans hu
   obtain ⟨hf0, hn0, ⟨b44, e0, hb44⟩, -⟩ := hap
   have lbb44 := Aside0.mk (hf0 rfl b44 (by rw [e0]; rfl)).1
   have ltb44 := Aside0.mk hb44.lt
   dsimp only at e0
   subst e0
   clear hf0 hn0
   have hu46 := Aside0.mk hu
   clear hu
   have hB0 := hb44
   have cl0 := hB0.cell (o := 0) rfl
   have fr0 := hB0.free 0
   have cl1 := hB0.cell (o := 1) rfl
   have fr1 := hB0.free 1
   have cl2 := hB0.cell (o := 2) rfl
   have fr2 := hB0.free 2
   refine step_store (b := b44) (cs' := [.int .i64 t39, .int .i64 t40, .int .i64 t41]) (T := 34) (W' := (((w45.setCell ⟨b44, 0, none⟩ (.int .i64 t39)).setCell ⟨b44, 1, none⟩ (.int .i64 t40)).setCell ⟨b44, 2, none⟩ (.int .i64 t41))) rfl rfl (by go_simp <;> rfl) ((((Sto.refl _ _).setCell 0 _).setCell 1 _).setCell 2 _) ((((hB0).setCell 0 _).setCell 1 _).setCell 2 _) ?_
   clear hB0 cl0 fr0 cl1 fr1 cl2 fr2
   intro w47 hs hb49
   have hs48 := Aside0.mk hs
   clear hs
   refine wpList_nil (hK32 _ _ ?_)
   refine wp_seq_k fun K50 hK50=>wp_region_lit ?_
   refine wpp fun k h=>?_;go_simp;apply h;clear h k
   have cl0 := (hb31.up (hu46.out.sto (Nat.le_trans (Nat.le_refl _) lbb44.out) hs48.out)).cell (o := 0) rfl
   have cl1 := (hb31.up (hu46.out.sto (Nat.le_trans (Nat.le_refl _) lbb44.out) hs48.out)).cell (o := 1) rfl
   have cl2 := (hb31.up (hu46.out.sto (Nat.le_trans (Nat.le_refl _) lbb44.out) hs48.out)).cell (o := 2) rfl
   refine wpp fun k h=>?_;go_simp;apply h;clear h k
   clear cl0 cl1 cl2
   have cl0 := hb49.cell (o := 0) rfl
   have cl1 := hb49.cell (o := 1) rfl
   have cl2 := hb49.cell (o := 2) rfl
   refine wpp fun k h=>?_;go_simp;apply h;clear h k
   clear cl0 cl1 cl2
   refine step_call wn (by go_simp <;> rfl) (spec_l01Meet.calls K a0 t21 t22 t23 t39 t40 t41 t51 t52 t53 w47  A54.out) ?_
   rintro e w55 ⟨rfl, hu⟩
   have hu56 := Aside0.mk hu
   clear hu
   refine ⟨_, rfl, ?_⟩
   simp only[Act.put,nm1,nm2,nm3]
   iterate 3 (refine wpp fun k h=>?_;go_simp;apply h;clear h k)
   refine step_new (cs := [.int .i64 0, .int .i64 0]) (T := 30) (f := fun b => .pointer (some ⟨b, 0, none⟩)) rfl (by go_simp <;> rfl) ?_
   intro b57 w58 hu lb hb57
   simp only[Act.put,nm1,nm2,nm3]
   have lbb57 := Aside0.mk lb
   have ltb57 := Aside0.mk hb57.lt
   clear lb
   have hu59 := Aside0.mk hu
   clear hu
   have hB0 := hb57
   have cl0 := hB0.cell (o := 0) rfl
   have fr0 := hB0.free 0
   have cl1 := hB0.cell (o := 1) rfl
   have fr1 := hB0.free 1
   refine step_store (b := b57) (cs' := [.int .i64 t51, .int .i64 t52]) (T := 30) (W' := ((w58.setCell ⟨b57, 0, none⟩ (.int .i64 t51)).setCell ⟨b57, 1, none⟩ (.int .i64 t52))) rfl rfl (by go_simp <;> rfl) (((Sto.refl _ _).setCell 0 _).setCell 1 _) (((hB0).setCell 0 _).setCell 1 _) ?_
   clear hB0 cl0 fr0 cl1 fr1
   intro w60 hs hb62
   have hs61 := Aside0.mk hs
   clear hs
   refine wpp fun k h=>?_;go_simp;apply h;clear h k
   refine wpList_nil (hK50 _ _ ?_)
   refine wp_seq_k fun K63 hK63=>wp_region_lit ?_
   have cl0 := hb62.cell (o := 0) rfl
   have cl1 := hb62.cell (o := 1) rfl
   refine wpp fun k h=>?_;go_simp;apply h;clear h k
   clear cl0 cl1
   have hB0 := (hb11.up ((((((hu28.out.sto (Nat.le_trans (Nat.le_refl _) lbb26.out) hs30.out).trans hu46.out).sto (Nat.le_trans ((Nat.le_trans (hu28.out.size) (Nat.le_of_eq hs30.out.size.symm))) lbb44.out) hs48.out).trans hu56.out).trans hu59.out).sto (Nat.le_trans ((Nat.le_trans ((Nat.le_trans ((Nat.le_trans ((Nat.le_trans (hu28.out.size) (Nat.le_of_eq hs30.out.size.symm))) hu46.out.size)) (Nat.le_of_eq hs48.out.size.symm))) hu56.out.size)) lbb57.out) hs61.out))
   have cl0 := hB0.cell (o := 0) rfl
   have fr0 := hB0.free 0
   have cl1 := hB0.cell (o := 1) rfl
   have fr1 := hB0.free 1
   refine step_store (b := b11) (cs' := [.int .i64 t51, .int .i64 t52]) (T := 30) (W' := ((w60.setCell ⟨b11, 0, none⟩ (.int .i64 t51)).setCell ⟨b11, 1, none⟩ (.int .i64 t52))) rfl rfl (by go_simp <;> rfl) (((Sto.refl _ _).setCell 0 _).setCell 1 _) (((hB0).setCell 0 _).setCell 1 _) ?_
   clear hB0 cl0 fr0 cl1 fr1
   intro w64 hs hb66
   have hs65 := Aside0.mk hs
   clear hs
   have h67 := hb62.sto hs65.out (Ne.symm (Nat.ne_of_lt (Nat.lt_of_lt_of_le (Nat.lt_of_lt_of_le ltb11.out ((Nat.le_trans ((Nat.le_trans ((Nat.le_trans ((Nat.le_trans (hu28.out.size) (Nat.le_of_eq hs30.out.size.symm))) hu46.out.size)) (Nat.le_of_eq hs48.out.size.symm))) hu56.out.size))) lbb57.out)))
   refine wpList_nil (hK63 _ _ ?_)
   refine wp_ret ?_
   refine hQf _ _ _ ?_
   have cr0 := hb66.cell (o := 0) rfl
   have cr1 := hb66.cell (o := 1) rfl
   exact bodyPost_ret (v := .agg #[.int .i64 t51, .int .i64 t52]) (by first|rfl|simp [results, Try.results122, go_sem, cr0, cr1]<;>rfl) rfl ⟨rfl, (((((((((((hu4.out.trans hu7.out).trans hu10.out).trans hu13.out).trans hu28.out).sto (Nat.le_trans ((Nat.le_trans ((Nat.le_trans ((Nat.le_trans (hu4.out.size) hu7.out.size)) hu10.out.size)) hu13.out.size)) lbb26.out) hs30.out).trans hu46.out).sto (Nat.le_trans ((Nat.le_trans ((Nat.le_trans ((Nat.le_trans ((Nat.le_trans ((Nat.le_trans (hu4.out.size) hu7.out.size)) hu10.out.size)) hu13.out.size)) hu28.out.size)) (Nat.le_of_eq hs30.out.size.symm))) lbb44.out) hs48.out).trans hu56.out).trans hu59.out).sto (Nat.le_trans ((Nat.le_trans ((Nat.le_trans ((Nat.le_trans ((Nat.le_trans ((Nat.le_trans ((Nat.le_trans ((Nat.le_trans ((Nat.le_trans (hu4.out.size) hu7.out.size)) hu10.out.size)) hu13.out.size)) hu28.out.size)) (Nat.le_of_eq hs30.out.size.symm))) hu46.out.size)) (Nat.le_of_eq hs48.out.size.symm))) hu56.out.size)) lbb57.out) hs61.out).sto (Nat.le_trans ((Nat.le_trans ((Nat.le_trans (hu4.out.size) hu7.out.size)) hu10.out.size)) lbb11.out) hs65.out)⟩

set_option maxHeartbeats 40000000 in
set_option maxRecDepth 100000 in
theorem spec_l06Through.calls (K : Nat) (a0 : Int) (a1 : Int) (a2_0 : Int) (a2_1 : Int) (a3_0 : Int) (a3_1 : Int) (a4_0 : Int) (a4_1 : Int) (r0 : Int) (r1 : Int) (r2 : Int) (w : World)  (h : spec_l06Through.f K a0 a1 a2_0 a2_1 a3_0 a3_1 a4_0 a4_1 = some (r0, r1, r2)) :
    Calls Try.prog 161 #[.int .i64 a0, .int .i64 a1, .agg #[.int .i64 a2_0, .int .i64 a2_1], .agg #[.int .i64 a3_0, .int .i64 a3_1], .agg #[.int .i64 a4_0, .int .i64 a4_1]] w fun e w' => e = .returned (.agg #[.int .i64 r0, .int .i64 r1, .int .i64 r2]) ∧ Up w w' := by
 have H : (((spec_l04Circumcentre.f K a0 a1 a2_0 a2_1 a3_0 a3_1 a4_0 a4_1).bind fun (t15, t16) => ((spec_l02Quadrance.f K a0 a1 t15 t16 a2_0 a2_1).bind fun t27 => some (t15, t16, t27))) : Option (Int × Int × Int)) = some (r0, r1, r2) := h
 clear h
 obtain ⟨⟨t15, t16⟩,A17,H⟩:=Option.bind_eq_some_iff.mp H
 replace A17:=Aside0.mk A17;try dsimp only at H
 obtain ⟨t27,A28,H⟩:=Option.bind_eq_some_iff.mp H
 replace A28:=Aside0.mk A28;try dsimp only at H
 simp only [Option.some.injEq, Prod.mk.injEq] at H
 obtain ⟨rfl, rfl, rfl⟩ := H
 go_enter Try.func161, Try.ntmps161
 refine wp_hide (fun Qf hQf => ?_)
 refine wp_seq_k fun K1 hK1=>wp_region_lit ?_
 refine step_new (cs := [.int .i64 a2_0, .int .i64 a2_1]) (T := 30) (f := fun b => .pointer (some ⟨b, 0, none⟩)) rfl (by go_simp <;> rfl) ?_
 intro b2 w3 hu lb hb2
 simp only[Act.put,nm1,nm2,nm3]
 have lbb2 := Aside0.mk lb
 have ltb2 := Aside0.mk hb2.lt
 clear lb
 have hu4 := Aside0.mk hu
 clear hu
 refine step_new (cs := [.int .i64 a3_0, .int .i64 a3_1]) (T := 30) (f := fun b => .pointer (some ⟨b, 0, none⟩)) rfl (by go_simp <;> rfl) ?_
 intro b5 w6 hu lb hb5
 simp only[Act.put,nm1,nm2,nm3]
 have lbb5 := Aside0.mk lb
 have ltb5 := Aside0.mk hb5.lt
 clear lb
 have hu7 := Aside0.mk hu
 clear hu
 refine step_new (cs := [.int .i64 a4_0, .int .i64 a4_1]) (T := 30) (f := fun b => .pointer (some ⟨b, 0, none⟩)) rfl (by go_simp <;> rfl) ?_
 intro b8 w9 hu lb hb8
 simp only[Act.put,nm1,nm2,nm3]
 have lbb8 := Aside0.mk lb
 have ltb8 := Aside0.mk hb8.lt
 clear lb
 have hu10 := Aside0.mk hu
 clear hu
 refine step_new (cs := [.int .i64 0, .int .i64 0, .int .i64 0]) (T := 71) (f := fun b => .pointer (some ⟨b, 0, none⟩)) rfl (by go_simp <;> rfl) ?_
 intro b11 w12 hu lb hb11
 simp only[Act.put,nm1,nm2,nm3]
 have lbb11 := Aside0.mk lb
 have ltb11 := Aside0.mk hb11.lt
 clear lb
 have hu13 := Aside0.mk hu
 clear hu
 refine wpList_nil (hK1 _ _ ?_)
 refine wp_seq_k fun K14 hK14=>wp_region_lit ?_
 iterate 2 (refine wpp fun k h=>?_;go_simp;apply h;clear h k)
 have cl0 := (hb2.up ((hu7.out.trans hu10.out).trans hu13.out)).cell (o := 0) rfl
 have cl1 := (hb2.up ((hu7.out.trans hu10.out).trans hu13.out)).cell (o := 1) rfl
 refine wpp fun k h=>?_;go_simp;apply h;clear h k
 clear cl0 cl1
 have cl0 := (hb5.up (hu10.out.trans hu13.out)).cell (o := 0) rfl
 have cl1 := (hb5.up (hu10.out.trans hu13.out)).cell (o := 1) rfl
 refine wpp fun k h=>?_;go_simp;apply h;clear h k
 clear cl0 cl1
 have cl0 := (hb8.up hu13.out).cell (o := 0) rfl
 have cl1 := (hb8.up hu13.out).cell (o := 1) rfl
 refine wpp fun k h=>?_;go_simp;apply h;clear h k
 clear cl0 cl1
 refine step_call wn (by go_simp <;> rfl) (spec_l04Circumcentre.calls K a0 a1 a2_0 a2_1 a3_0 a3_1 a4_0 a4_1 t15 t16 w12  A17.out) ?_
 rintro e w18 ⟨rfl, hu⟩
 have hu19 := Aside0.mk hu
 clear hu
 refine ⟨_, rfl, ?_⟩
 simp only[Act.put,nm1,nm2,nm3]
 refine step_new (cs := [.int .i64 0, .int .i64 0]) (T := 30) (f := fun b => .pointer (some ⟨b, 0, none⟩)) rfl (by go_simp <;> rfl) ?_
 intro b20 w21 hu lb hb20
 simp only[Act.put,nm1,nm2,nm3]
 have lbb20 := Aside0.mk lb
 have ltb20 := Aside0.mk hb20.lt
 clear lb
 have hu22 := Aside0.mk hu
 clear hu
 have hB0 := hb20
 have cl0 := hB0.cell (o := 0) rfl
 have fr0 := hB0.free 0
 have cl1 := hB0.cell (o := 1) rfl
 have fr1 := hB0.free 1
 refine step_store (b := b20) (cs' := [.int .i64 t15, .int .i64 t16]) (T := 30) (W' := ((w21.setCell ⟨b20, 0, none⟩ (.int .i64 t15)).setCell ⟨b20, 1, none⟩ (.int .i64 t16))) rfl rfl (by go_simp <;> rfl) (((Sto.refl _ _).setCell 0 _).setCell 1 _) (((hB0).setCell 0 _).setCell 1 _) ?_
 clear hB0 cl0 fr0 cl1 fr1
 intro w23 hs hb25
 have hs24 := Aside0.mk hs
 clear hs
 refine wpList_nil (hK14 _ _ ?_)
 refine wp_seq_k fun K26 hK26=>?_
 refine' wp_region_up 7 [Slot.det _, Slot.det _, Slot.det _, Slot.det _, Slot.det _, Slot.det (.int .i64 t27), Slot.det _] (by kernel_rfl) (by kernel_rfl) ?main
 case main =>
  simp only [List.take_succ_cons, List.take_zero]
  refine wpK_ops rfl (fun w1 hu => ?_) ?_
  · have cl0 := (hb25.up ((Up.refl _).drew.trans hu)).cell (o := 0) rfl
    have cl1 := (hb25.up ((Up.refl _).drew.trans hu)).cell (o := 1) rfl
    go_simp
    first | done | rfl
  simp only[Act.put,nm1,nm2,nm3]
  refine wpK_ops rfl (fun w1 hu => ?_) ?_
  · clear hu
    go_simp
    first | done | rfl
  simp only[Act.put,nm1,nm2,nm3]
  refine wpK_ops rfl (fun w1 hu => ?_) ?_
  · clear hu
    go_simp
    first | done | rfl
  simp only[Act.put,nm1,nm2,nm3]
  refine wpK_ops rfl (fun w1 hu => ?_) ?_
  · have cl0 := (hb25.up ((Up.refl _).drew.trans hu)).cell (o := 0) rfl
    have cl1 := (hb25.up ((Up.refl _).drew.trans hu)).cell (o := 1) rfl
    go_simp
    first | done | rfl
  simp only[Act.put,nm1,nm2,nm3]
  refine wpK_ops rfl (fun w1 hu => ?_) ?_
  · have cl0 := ((hb2.up (((((hu7.out.trans hu10.out).trans hu13.out).trans hu19.out).trans hu22.out).sto (Nat.le_trans ((Nat.le_trans ((Nat.le_trans ((Nat.le_trans (hu7.out.size) hu10.out.size)) hu13.out.size)) hu19.out.size)) lbb20.out) hs24.out)).up ((Up.refl _).drew.trans hu)).cell (o := 0) rfl
    have cl1 := ((hb2.up (((((hu7.out.trans hu10.out).trans hu13.out).trans hu19.out).trans hu22.out).sto (Nat.le_trans ((Nat.le_trans ((Nat.le_trans ((Nat.le_trans (hu7.out.size) hu10.out.size)) hu13.out.size)) hu19.out.size)) lbb20.out) hs24.out)).up ((Up.refl _).drew.trans hu)).cell (o := 1) rfl
    go_simp
    first | done | rfl
  simp only[Act.put,nm1,nm2,nm3]
  refine wpK_ops rfl (fun w1 hu => ?_) ?_
  · have hcl := (spec_l02Quadrance.calls K a0 a1 t15 t16 a2_0 a2_1 t27 w1  A28.out)
    clear hu
    replace hcl := Aside0.mk hcl
    go_simp
    exact hcl.out
  simp only[Act.put,nm1,nm2,nm3]
  refine wpK_ops rfl (fun w1 hu => ?_) ?_
  · clear hu
    go_simp
    first | done | rfl
  simp only[Act.put,nm1,nm2,nm3]
  refine wpK_nil ?_
  intro w29 hu hap
  simp only [List.drop_succ_cons, List.drop_zero]
  replace hu := (Up.refl _).drew.trans hu
  clear hap
  have hu30 := Aside0.mk hu
  clear hu
  have hB0 := (hb11.up (((hu19.out.trans hu22.out).sto (Nat.le_trans (hu19.out.size) lbb20.out) hs24.out).trans hu30.out))
  have cl0 := hB0.cell (o := 0) rfl
  have fr0 := hB0.free 0
  have cl1 := hB0.cell (o := 1) rfl
  have fr1 := hB0.free 1
  have cl2 := hB0.cell (o := 2) rfl
  have fr2 := hB0.free 2
  refine step_store (b := b11) (cs' := [.int .i64 t15, .int .i64 t16, .int .i64 t27]) (T := 71) (W' := (((w29.setCell ⟨b11, 0, none⟩ (.int .i64 t15)).setCell ⟨b11, 1, none⟩ (.int .i64 t16)).setCell ⟨b11, 2, none⟩ (.int .i64 t27))) rfl rfl (by go_simp <;> rfl) ((((Sto.refl _ _).setCell 0 _).setCell 1 _).setCell 2 _) ((((hB0).setCell 0 _).setCell 1 _).setCell 2 _) ?_
  clear hB0 cl0 fr0 cl1 fr1 cl2 fr2
  intro w31 hs hb33
  have hs32 := Aside0.mk hs
  clear hs
  have h34 := (hb25.up hu30.out).sto hs32.out (Ne.symm (Nat.ne_of_lt (Nat.lt_of_lt_of_le (Nat.lt_of_lt_of_le ltb11.out (hu19.out.size)) lbb20.out)))
  refine wpList_nil (hK26 _ _ ?_)
  refine wp_ret ?_
  refine hQf _ _ _ ?_
  have cr0 := hb33.cell (o := 0) rfl
  have cr1 := hb33.cell (o := 1) rfl
  have cr2 := hb33.cell (o := 2) rfl
  exact bodyPost_ret (v := .agg #[.int .i64 t15, .int .i64 t16, .int .i64 t27]) (by first|rfl|simp [results, Try.results161, go_sem, cr0, cr1, cr2]<;>rfl) rfl ⟨rfl, ((((((((hu4.out.trans hu7.out).trans hu10.out).trans hu13.out).trans hu19.out).trans hu22.out).sto (Nat.le_trans ((Nat.le_trans ((Nat.le_trans ((Nat.le_trans ((Nat.le_trans (hu4.out.size) hu7.out.size)) hu10.out.size)) hu13.out.size)) hu19.out.size)) lbb20.out) hs24.out).trans hu30.out).sto (Nat.le_trans ((Nat.le_trans ((Nat.le_trans (hu4.out.size) hu7.out.size)) hu10.out.size)) lbb11.out) hs32.out)⟩

end Go.Proofs.Ytccbmdpikalpfaa
