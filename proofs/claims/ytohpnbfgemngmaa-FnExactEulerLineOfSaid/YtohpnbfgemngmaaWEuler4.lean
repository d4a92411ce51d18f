/- The walks: each of these functions of the program computes what its plain function says: laws_FnExactEulerLineOf. -/
import Derived.Test.YtohpnbfgemngmaaProg
import Derived.Test.YtohpnbfgemngmaaD1
import Derived.WalkKit
import Derived.KernelRfl
import Derived.BigQuiet
import Derived.Deep.LoopGhost
import Derived.Laws.StructEq
import Derived.Test.YtohpnbfgemngmaaWEuler3
namespace Go.Proofs.Ytohpnbfgemngmaa
open Go Go.RowKit
attribute [local go_sem] Oper.quiet Oper.quietAt Oper.quietUpon
set_option linter.unusedVariables false
set_option linter.unusedSimpArgs false
attribute [local go_sem] eqT25

set_option maxHeartbeats 4000000 in
set_option maxRecDepth 100000 in
theorem laws_FnExactEulerLineOf.calls (K : Nat) (a0 : Int) (a1 : Int) (a2_0 : Int) (a2_1 : Int) (a3_0 : Int) (a3_1 : Int) (a4_0 : Int) (a4_1 : Int) (r0 : Bool) (w : World)  (h : laws_FnExactEulerLineOf.f K a0 a1 a2_0 a2_1 a3_0 a3_1 a4_0 a4_1 = some (r0)) :
    Calls Try.prog 11 #[.int .i64 a0, .int .i64 a1, .agg #[.int .i64 a2_0, .int .i64 a2_1], .agg #[.int .i64 a3_0, .int .i64 a3_1], .agg #[.int .i64 a4_0, .int .i64 a4_1]] w fun e w' => e = .returned (.bool r0) ∧ Up w w' := by
 have H : (((laws_toPoint.f K a2_0 a2_1).bind fun (t12, t13) => ((laws_toPoint.f K a3_0 a3_1).bind fun (t15, t16) => ((laws_toPoint.f K a4_0 a4_1).bind fun (t18, t19) => ((spec_EulerLineOf.f K a0 a1 t12 t13 t15 t16 t18 t19).bind fun (t21, t22, t23, t24) => ((laws_toPoint.f K a2_0 a2_1).bind fun (t34, t35) => ((laws_toPoint.f K a3_0 a3_1).bind fun (t37, t38) => ((laws_toPoint.f K a4_0 a4_1).bind fun (t40, t41) => ((impl_EulerLineOf.f K a0 a1 t34 t35 t37 t38 t40 t41).bind fun (t43, t44, t45, t46) => ((laws_eqLine.f K t43 t44 t45 t21 t22 t23).bind fun t57 => (if t57 = true then (if (t46 == t24) = true then some true else some false) else some false)))))))))) : Option (Bool)) = some (r0) := h
 clear h
 replace H := Option.bind_eq_some_iff.mp H
 obtain ⟨⟨t12, t13⟩, A14, H⟩ := H
 replace A14 := Aside0.mk A14
 try dsimp only at H
 replace H := Option.bind_eq_some_iff.mp H
 obtain ⟨⟨t15, t16⟩, A17, H⟩ := H
 replace A17 := Aside0.mk A17
 try dsimp only at H
 replace H := Option.bind_eq_some_iff.mp H
 obtain ⟨⟨t18, t19⟩, A20, H⟩ := H
 replace A20 := Aside0.mk A20
 try dsimp only at H
 replace H := Option.bind_eq_some_iff.mp H
 obtain ⟨⟨t21, t22, t23, t24⟩, A25, H⟩ := H
 replace A25 := Aside0.mk A25
 try dsimp only at H
 replace H := Option.bind_eq_some_iff.mp H
 obtain ⟨⟨t34, t35⟩, A36, H⟩ := H
 replace A36 := Aside0.mk A36
 try dsimp only at H
 replace H := Option.bind_eq_some_iff.mp H
 obtain ⟨⟨t37, t38⟩, A39, H⟩ := H
 replace A39 := Aside0.mk A39
 try dsimp only at H
 replace H := Option.bind_eq_some_iff.mp H
 obtain ⟨⟨t40, t41⟩, A42, H⟩ := H
 replace A42 := Aside0.mk A42
 try dsimp only at H
 replace H := Option.bind_eq_some_iff.mp H
 obtain ⟨⟨t43, t44, t45, t46⟩, A47, H⟩ := H
 replace A47 := Aside0.mk A47
 try dsimp only at H
 replace H := Option.bind_eq_some_iff.mp H
 obtain ⟨t57, A58, H⟩ := H
 replace A58 := Aside0.mk A58
 try dsimp only at H
 by_cases c61 : (t57) = true
 ·
  rw [if_pos c61] at H
  subst c61
  by_cases c62 : (t46 == t24) = true
  ·
   rw [if_pos c62] at H
   have c62n : (t46 != t24) = false := by rw [bne, c62]; rfl
   obtain rfl := Option.some.inj H
   go_enter Try.func11, Try.ntmps11
   refine wp_hide (fun Qf hQf => ?_)
   refine wp_seq_k (fun K1 hK1 => ?_)
   refine wp_region_lit ?_
   refine step_new (cs := [.int .i64 a2_0, .int .i64 a2_1]) (T := 22) (f := fun b => .pointer (some ⟨b, 0, none⟩)) rfl (by first | (go_simp; done) | (go_simp; rfl)) ?_
   intro b2 w3 hu lb hb2
   simp only [Act.put, nm1, nm2, nm3, i64_w]
   have lbb2 := Aside0.mk lb
   have ltb2 := Aside0.mk hb2.lt
   clear lb
   have hu4 := Aside0.mk hu
   clear hu
   refine step_new (cs := [.int .i64 a3_0, .int .i64 a3_1]) (T := 22) (f := fun b => .pointer (some ⟨b, 0, none⟩)) rfl (by first | (go_simp; done) | (go_simp; rfl)) ?_
   intro b5 w6 hu lb hb5
   simp only [Act.put, nm1, nm2, nm3, i64_w]
   have lbb5 := Aside0.mk lb
   have ltb5 := Aside0.mk hb5.lt
   clear lb
   have hu7 := Aside0.mk hu
   clear hu
   refine step_new (cs := [.int .i64 a4_0, .int .i64 a4_1]) (T := 22) (f := fun b => .pointer (some ⟨b, 0, none⟩)) rfl (by first | (go_simp; done) | (go_simp; rfl)) ?_
   intro b8 w9 hu lb hb8
   simp only [Act.put, nm1, nm2, nm3, i64_w]
   have lbb8 := Aside0.mk lb
   have ltb8 := Aside0.mk hb8.lt
   clear lb
   have hu10 := Aside0.mk hu
   clear hu
   refine wpList_plain rfl (fun Ko hKo => ?_)
   go_simp
   refine hKo _ _ ?_
   clear hKo Ko
   try simp only [Act.put, nm1, nm2, nm3, i64_w]
   refine wpList_nil ?_
   (try simp only [Exit.then, Exit.inBlock, ↓reduceIte, Nat.reduceEqDiff])
   refine hK1 _ _ ?_
   refine wp_seq_k (fun K11 hK11 => ?_)
   refine' wp_region_late 13 [11] [Slot.det _, Slot.det _, Slot.det _, Slot.det (.agg #[.int .i64 t12, .int .i64 t13]), Slot.det _, Slot.det (.agg #[.int .i64 t15, .int .i64 t16]), Slot.det _, Slot.det (.agg #[.int .i64 t18, .int .i64 t19]), Slot.det (.tuple #[.agg #[.int .i64 t21, .int .i64 t22, .int .i64 t23], .int .i64 t24]), Slot.det _, Slot.det _, Slot.det _, Slot.any (PtrTo [.int .i64 0, .int .i64 0, .int .i64 0] 39) true] (by kernel_rfl) [true, true, true, true, true, true, true, true, true, true, true, true, false] (by kernel_rfl) rfl (by kernel_rfl) (by decide) ?main
   case main =>
    simp only [List.take_succ_cons, List.take_zero]
    refine wpK_ops rfl (fun w1 hu => ?_) ?_
    · clear hu
      go_simp
      first | done | rfl
    simp only [Act.put, nm1, nm2, nm3, i64_w]
    refine wpK_ops rfl (fun w1 hu => ?_) ?_
    · clear hu
      go_simp
      first | done | rfl
    simp only [Act.put, nm1, nm2, nm3, i64_w]
    refine wpK_ops rfl (fun w1 hu => ?_) ?_
    · have cl0 := ((hb2.up (hu7.out.trans hu10.out)).up ((Up.refl _).drew.trans hu)).cell (o := 0) rfl
      have cl1 := ((hb2.up (hu7.out.trans hu10.out)).up ((Up.refl _).drew.trans hu)).cell (o := 1) rfl
      go_simp
      first | done | rfl
    simp only [Act.put, nm1, nm2, nm3, i64_w]
    refine wpK_ops rfl (fun w1 hu => ?_) ?_
    · have hcl := (laws_toPoint.calls K a2_0 a2_1 t12 t13 w1  A14.out)
      clear hu
      replace hcl := Aside0.mk hcl
      go_simp
      exact hcl.out
    simp only [Act.put, nm1, nm2, nm3, i64_w]
    refine wpK_ops rfl (fun w1 hu => ?_) ?_
    · have cl0 := ((hb5.up hu10.out).up ((Up.refl _).drew.trans hu)).cell (o := 0) rfl
      have cl1 := ((hb5.up hu10.out).up ((Up.refl _).drew.trans hu)).cell (o := 1) rfl
      go_simp
      first | done | rfl
    simp only [Act.put, nm1, nm2, nm3, i64_w]
    refine wpK_ops rfl (fun w1 hu => ?_) ?_
    · have hcl := (laws_toPoint.calls K a3_0 a3_1 t15 t16 w1  A17.out)
      clear hu
      replace hcl := Aside0.mk hcl
      go_simp
      exact hcl.out
    simp only [Act.put, nm1, nm2, nm3, i64_w]
    refine wpK_ops rfl (fun w1 hu => ?_) ?_
    · have cl0 := (hb8.up ((Up.refl _).drew.trans hu)).cell (o := 0) rfl
      have cl1 := (hb8.up ((Up.refl _).drew.trans hu)).cell (o := 1) rfl
      go_simp
      first | done | rfl
    simp only [Act.put, nm1, nm2, nm3, i64_w]
    refine wpK_ops rfl (fun w1 hu => ?_) ?_
    · have hcl := (laws_toPoint.calls K a4_0 a4_1 t18 t19 w1  A20.out)
      clear hu
      replace hcl := Aside0.mk hcl
      go_simp
      exact hcl.out
    simp only [Act.put, nm1, nm2, nm3, i64_w]
    refine wpK_ops rfl (fun w1 hu => ?_) ?_
    · have hcl := (spec_EulerLineOf.calls K a0 a1 t12 t13 t15 t16 t18 t19 t21 t22 t23 t24 w1  A25.out)
      clear hu
      replace hcl := Aside0.mk hcl
      go_simp
      exact hcl.out
    simp only [Act.put, nm1, nm2, nm3, i64_w]
    refine wpK_ops rfl (fun w1 hu => ?_) ?_
    · clear hu
      go_simp
      first | done | rfl
    simp only [Act.put, nm1, nm2, nm3, i64_w]
    refine wpK_ops rfl (fun w1 hu => ?_) ?_
    · clear hu
      go_simp
      first | done | rfl
    simp only [Act.put, nm1, nm2, nm3, i64_w]
    refine wpK_ops rfl (fun w1 hu => ?_) ?_
    · clear hu
      go_simp
      first | done | rfl
    simp only [Act.put, nm1, nm2, nm3, i64_w]
    refine wpK_any rfl (stab_ptr _ _) (fun w1 _ _ => fresh_ptr (by first | (go_simp; done) | (go_simp; rfl))) (fun v26 => ?_)
    simp only [Act.put, nm1, nm2, nm3, i64_w]
    refine wpK_nil ?_
    intro w28 hu hap
    simp only [List.drop_succ_cons, List.drop_zero]
    replace hu := (Up.refl _).drew.trans hu
    obtain ⟨hf0, hn0, ⟨b27, e0, hb27⟩, -⟩ := hap
    have lbb27 := Aside0.mk (hf0 rfl b27 (by rw [e0]; rfl)).1
    have ltb27 := Aside0.mk hb27.lt
    dsimp only at e0
    subst e0
    clear hf0 hn0
    have hu29 := Aside0.mk hu
    clear hu
    refine late_cons (Up.of_drew hu29.out) ?_
    have hB0 := hb27
    have cl0 := hB0.cell (o := 0) rfl
    have fr0 := hB0.free 0
    have cl1 := hB0.cell (o := 1) rfl
    have fr1 := hB0.free 1
    have cl2 := hB0.cell (o := 2) rfl
    have fr2 := hB0.free 2
    refine step_store (b := b27) (cs' := [.int .i64 t21, .int .i64 t22, .int .i64 t23]) (T := 39) (W' := (((w28.setCell ⟨b27, 0, none⟩ (.int .i64 t21)).setCell ⟨b27, 1, none⟩ (.int .i64 t22)).setCell ⟨b27, 2, none⟩ (.int .i64 t23))) rfl rfl (by first | (go_simp; done) | (go_simp; rfl)) ((((Sto.refl _ _).setCell 0 _).setCell 1 _).setCell 2 _) ((((hB0).setCell 0 _).setCell 1 _).setCell 2 _) ?_
    clear hB0 cl0 fr0 cl1 fr1 cl2 fr2
    intro w30 hs hb32
    have hs31 := Aside0.mk hs
    clear hs
    refine wpList_nil ?_
    refine wrapQ_k ?_
    refine late_cons (Up.of_drew (hu29.out.sto (Nat.le_trans (Nat.le_refl _) lbb27.out) hs31.out)) ?_
    refine wpList_plain rfl (fun Ko hKo => ?_)
    go_simp
    refine hKo _ _ ?_
    clear hKo Ko
    try simp only [Act.put, nm1, nm2, nm3, i64_w]
    refine wpList_nil ?_
    refine wrapQ_k ?_
    refine late_nil (Up.of_drew (hu29.out.sto (Nat.le_trans (Nat.le_refl _) lbb27.out) hs31.out)) ?_
    (try simp only [Exit.then, Exit.inBlock, ↓reduceIte, Nat.reduceEqDiff])
    refine hK11 _ _ ?_
    refine wp_seq_k (fun K33 hK33 => ?_)
    refine' wp_region_late 13 [11] [Slot.det _, Slot.det _, Slot.det _, Slot.det (.agg #[.int .i64 t34, .int .i64 t35]), Slot.det _, Slot.det (.agg #[.int .i64 t37, .int .i64 t38]), Slot.det _, Slot.det (.agg #[.int .i64 t40, .int .i64 t41]), Slot.det (.tuple #[.agg #[.int .i64 t43, .int .i64 t44, .int .i64 t45], .int .i64 t46]), Slot.det _, Slot.det _, Slot.det _, Slot.any (PtrTo [.int .i64 0, .int .i64 0, .int .i64 0] 39) true] (by kernel_rfl) [true, true, true, true, true, true, true, true, true, true, true, true, false] (by kernel_rfl) rfl (by kernel_rfl) (by decide) ?main
    case main =>
     simp only [List.take_succ_cons, List.take_zero]
     refine wpK_ops rfl (fun w1 hu => ?_) ?_
     · clear hu
       go_simp
       first | done | rfl
     simp only [Act.put, nm1, nm2, nm3, i64_w]
     refine wpK_ops rfl (fun w1 hu => ?_) ?_
     · clear hu
       go_simp
       first | done | rfl
     simp only [Act.put, nm1, nm2, nm3, i64_w]
     refine wpK_ops rfl (fun w1 hu => ?_) ?_
     · have cl0 := ((hb2.up (((hu7.out.trans hu10.out).trans hu29.out).sto (Nat.le_trans ((Nat.le_trans (hu7.out.size) hu10.out.size)) lbb27.out) hs31.out)).up ((Up.refl _).drew.trans hu)).cell (o := 0) rfl
       have cl1 := ((hb2.up (((hu7.out.trans hu10.out).trans hu29.out).sto (Nat.le_trans ((Nat.le_trans (hu7.out.size) hu10.out.size)) lbb27.out) hs31.out)).up ((Up.refl _).drew.trans hu)).cell (o := 1) rfl
       go_simp
       first | done | rfl
     simp only [Act.put, nm1, nm2, nm3, i64_w]
     refine wpK_ops rfl (fun w1 hu => ?_) ?_
     · have hcl := (laws_toPoint.calls K a2_0 a2_1 t34 t35 w1  A36.out)
       clear hu
       replace hcl := Aside0.mk hcl
       go_simp
       exact hcl.out
     simp only [Act.put, nm1, nm2, nm3, i64_w]
     refine wpK_ops rfl (fun w1 hu => ?_) ?_
     · have cl0 := ((hb5.up ((hu10.out.trans hu29.out).sto (Nat.le_trans (hu10.out.size) lbb27.out) hs31.out)).up ((Up.refl _).drew.trans hu)).cell (o := 0) rfl
       have cl1 := ((hb5.up ((hu10.out.trans hu29.out).sto (Nat.le_trans (hu10.out.size) lbb27.out) hs31.out)).up ((Up.refl _).drew.trans hu)).cell (o := 1) rfl
       go_simp
       first | done | rfl
     simp only [Act.put, nm1, nm2, nm3, i64_w]
     refine wpK_ops rfl (fun w1 hu => ?_) ?_
     · have hcl := (laws_toPoint.calls K a3_0 a3_1 t37 t38 w1  A39.out)
       clear hu
       replace hcl := Aside0.mk hcl
       go_simp
       exact hcl.out
     simp only [Act.put, nm1, nm2, nm3, i64_w]
     refine wpK_ops rfl (fun w1 hu => ?_) ?_
     · have cl0 := ((hb8.up (hu29.out.sto (Nat.le_trans (Nat.le_refl _) lbb27.out) hs31.out)).up ((Up.refl _).drew.trans hu)).cell (o := 0) rfl
       have cl1 := ((hb8.up (hu29.out.sto (Nat.le_trans (Nat.le_refl _) lbb27.out) hs31.out)).up ((Up.refl _).drew.trans hu)).cell (o := 1) rfl
       go_simp
       first | done | rfl
     simp only [Act.put, nm1, nm2, nm3, i64_w]
     refine wpK_ops rfl (fun w1 hu => ?_) ?_
     · have hcl := (laws_toPoint.calls K a4_0 a4_1 t40 t41 w1  A42.out)
       clear hu
       replace hcl := Aside0.mk hcl
       go_simp
       exact hcl.out
     simp only [Act.put, nm1, nm2, nm3, i64_w]
     refine wpK_ops rfl (fun w1 hu => ?_) ?_
     · have hcl := (impl_EulerLineOf.calls K a0 a1 t34 t35 t37 t38 t40 t41 t43 t44 t45 t46 w1  A47.out)
       clear hu
       replace hcl := Aside0.mk hcl
       go_simp
       exact hcl.out
     simp only [Act.put, nm1, nm2, nm3, i64_w]
     refine wpK_ops rfl (fun w1 hu => ?_) ?_
     · clear hu
       go_simp
       first | done | rfl
     simp only [Act.put, nm1, nm2, nm3, i64_w]
     refine wpK_ops rfl (fun w1 hu => ?_) ?_
     · clear hu
       go_simp
       first | done | rfl
     simp only [Act.put, nm1, nm2, nm3, i64_w]
     refine wpK_ops rfl (fun w1 hu => ?_) ?_
     · clear hu
       go_simp
       first | done | rfl
     simp only [Act.put, nm1, nm2, nm3, i64_w]
     refine wpK_any rfl (stab_ptr _ _) (fun w1 _ _ => fresh_ptr (by first | (go_simp; done) | (go_simp; rfl))) (fun v48 => ?_)
     simp only [Act.put, nm1, nm2, nm3, i64_w]
     refine wpK_nil ?_
     intro w50 hu hap
     simp only [List.drop_succ_cons, List.drop_zero]
     replace hu := (Up.refl _).drew.trans hu
     obtain ⟨hf0, hn0, ⟨b49, e0, hb49⟩, -⟩ := hap
     have lbb49 := Aside0.mk (hf0 rfl b49 (by rw [e0]; rfl)).1
     have ltb49 := Aside0.mk hb49.lt
     dsimp only at e0
     subst e0
     clear hf0 hn0
     have hu51 := Aside0.mk hu
     clear hu
     refine late_cons (Up.of_drew hu51.out) ?_
     have hB0 := hb49
     have cl0 := hB0.cell (o := 0) rfl
     have fr0 := hB0.free 0
     have cl1 := hB0.cell (o := 1) rfl
     have fr1 := hB0.free 1
     have cl2 := hB0.cell (o := 2) rfl
     have fr2 := hB0.free 2
     refine step_store (b := b49) (cs' := [.int .i64 t43, .int .i64 t44, .int .i64 t45]) (T := 39) (W' := (((w50.setCell ⟨b49, 0, none⟩ (.int .i64 t43)).setCell ⟨b49, 1, none⟩ (.int .i64 t44)).setCell ⟨b49, 2, none⟩ (.int .i64 t45))) rfl rfl (by first | (go_simp; done) | (go_simp; rfl)) ((((Sto.refl _ _).setCell 0 _).setCell 1 _).setCell 2 _) ((((hB0).setCell 0 _).setCell 1 _).setCell 2 _) ?_
     clear hB0 cl0 fr0 cl1 fr1 cl2 fr2
     intro w52 hs hb54
     have hs53 := Aside0.mk hs
     clear hs
     refine wpList_nil ?_
     refine wrapQ_k ?_
     refine late_cons (Up.of_drew (hu51.out.sto (Nat.le_trans (Nat.le_refl _) lbb49.out) hs53.out)) ?_
     refine wpList_plain rfl (fun Ko hKo => ?_)
     go_simp
     refine hKo _ _ ?_
     clear hKo Ko
     try simp only [Act.put, nm1, nm2, nm3, i64_w]
     refine wpList_nil ?_
     refine wrapQ_k ?_
     refine late_nil (Up.of_drew (hu51.out.sto (Nat.le_trans (Nat.le_refl _) lbb49.out) hs53.out)) ?_
     (try simp only [Exit.then, Exit.inBlock, ↓reduceIte, Nat.reduceEqDiff])
     refine hK33 _ _ ?_
     refine wp_seq_k (fun K55 hK55 => ?_)
     refine wp_seq_k (fun K56 hK56 => ?_)
     refine wp_region_lit ?_
     have cl0 := hb54.cell (o := 0) rfl
     have cl1 := hb54.cell (o := 1) rfl
     have cl2 := hb54.cell (o := 2) rfl
     refine wpList_plain rfl (fun Ko hKo => ?_)
     go_simp
     refine hKo _ _ ?_
     clear hKo Ko
     clear cl0 cl1 cl2
     try simp only [Act.put, nm1, nm2, nm3, i64_w]
     have cl0 := (hb32.up (hu51.out.sto (Nat.le_trans (Nat.le_refl _) lbb49.out) hs53.out)).cell (o := 0) rfl
     have cl1 := (hb32.up (hu51.out.sto (Nat.le_trans (Nat.le_refl _) lbb49.out) hs53.out)).cell (o := 1) rfl
     have cl2 := (hb32.up (hu51.out.sto (Nat.le_trans (Nat.le_refl _) lbb49.out) hs53.out)).cell (o := 2) rfl
     refine wpList_plain rfl (fun Ko hKo => ?_)
     go_simp
     refine hKo _ _ ?_
     clear hKo Ko
     clear cl0 cl1 cl2
     try simp only [Act.put, nm1, nm2, nm3, i64_w]
     refine step_call (wanted_none rfl) (by first | (go_simp; done) | (go_simp; rfl)) (laws_eqLine.calls K t43 t44 t45 t21 t22 t23 true w52  A58.out) ?_
     rintro e w59 ⟨rfl, hu⟩
     have hu60 := Aside0.mk hu
     clear hu
     refine ⟨_, rfl, ?_⟩
     simp only [Act.put, nm1, nm2, nm3, i64_w]
     refine wpList_plain rfl (fun Ko hKo => ?_)
     go_simp
     refine hKo _ _ ?_
     clear hKo Ko
     try simp only [Act.put, nm1, nm2, nm3, i64_w]
     refine wpList_plain rfl (fun Ko hKo => ?_)
     go_simp
     refine hKo _ _ ?_
     clear hKo Ko
     try simp only [Act.put, nm1, nm2, nm3, i64_w]
     refine wpList_step (fun Ko hKo => ?_)
     go_simp
     refine hKo _ _ ?_
     clear hKo Ko
     try simp only [Act.put, nm1, nm2, nm3, i64_w]
     refine wpList_step (fun Ko hKo => ?_)
     go_simp
     refine hKo _ _ ?_
     clear hKo Ko
     try simp only [Act.put, nm1, nm2, nm3, i64_w]
     refine wpList_step (fun Ko hKo => ?_)
     go_simp
     refine hKo _ _ ?_
     clear hKo Ko
     try simp only [Act.put, nm1, nm2, nm3, i64_w]
     refine wpList_plain rfl (fun Ko hKo => ?_)
     go_simp
     refine hKo _ _ ?_
     clear hKo Ko
     try simp only [Act.put, nm1, nm2, nm3, i64_w]
     refine wpList_nil ?_
     (try simp only [Exit.then, Exit.inBlock, ↓reduceIte, Nat.reduceEqDiff])
     refine hK56 _ _ ?_
     refine wp_cond_false rfl ?_
     refine wp_skip ?_
     (try simp only [Exit.then, Exit.inBlock, ↓reduceIte, Nat.reduceEqDiff])
     refine hK55 _ _ ?_
     refine wp_seq_k (fun K63 hK63 => ?_)
     refine wp_region_lit ?_
     refine wpList_plain rfl (fun Ko hKo => ?_)
     go_simp
     refine hKo _ _ ?_
     clear hKo Ko
     try simp only [Act.put, nm1, nm2, nm3, i64_w]
     refine wpList_nil ?_
     (try simp only [Exit.then, Exit.inBlock, ↓reduceIte, Nat.reduceEqDiff])
     refine hK63 _ _ ?_
     refine wp_ret ?_
     (try simp only [Exit.then, Exit.inBlock, ↓reduceIte, Nat.reduceEqDiff])
     refine hQf _ _ _ ?_
     exact bodyPost_ret (v := .bool true) (by first | rfl | (simp [results, Try.results11, go_sem]; done) | (simp [results, Try.results11, go_sem]; rfl)) rfl ⟨rfl, (((((((hu4.out.trans hu7.out).trans hu10.out).trans hu29.out).sto (Nat.le_trans ((Nat.le_trans ((Nat.le_trans (hu4.out.size) hu7.out.size)) hu10.out.size)) lbb27.out) hs31.out).trans hu51.out).sto (Nat.le_trans ((Nat.le_trans ((Nat.le_trans ((Nat.le_trans ((Nat.le_trans (hu4.out.size) hu7.out.size)) hu10.out.size)) hu29.out.size)) (Nat.le_of_eq hs31.out.size.symm))) lbb49.out) hs53.out).trans hu60.out)⟩
  ·
   rw [if_neg c62] at H
   replace c62 := Bool.eq_false_iff.mpr c62
   have c62n : (t46 != t24) = true := by rw [bne, c62]; rfl
   have c62p : ¬ t46 = t24 := fun e => by simp [e] at c62
   obtain rfl := Option.some.inj H
   go_enter Try.func11, Try.ntmps11
   refine wp_hide (fun Qf hQf => ?_)
   refine wp_seq_k (fun K1 hK1 => ?_)
   refine wp_region_lit ?_
   refine step_new (cs := [.int .i64 a2_0, .int .i64 a2_1]) (T := 22) (f := fun b => .pointer (some ⟨b, 0, none⟩)) rfl (by first | (go_simp; done) | (go_simp; rfl)) ?_
   intro b2 w3 hu lb hb2
   simp only [Act.put, nm1, nm2, nm3, i64_w]
   have lbb2 := Aside0.mk lb
   have ltb2 := Aside0.mk hb2.lt
   clear lb
   have hu4 := Aside0.mk hu
   clear hu
   refine step_new (cs := [.int .i64 a3_0, .int .i64 a3_1]) (T := 22) (f := fun b => .pointer (some ⟨b, 0, none⟩)) rfl (by first | (go_simp; done) | (go_simp; rfl)) ?_
   intro b5 w6 hu lb hb5
   simp only [Act.put, nm1, nm2, nm3, i64_w]
   have lbb5 := Aside0.mk lb
   have ltb5 := Aside0.mk hb5.lt
   clear lb
   have hu7 := Aside0.mk hu
   clear hu
   refine step_new (cs := [.int .i64 a4_0, .int .i64 a4_1]) (T := 22) (f := fun b => .pointer (some ⟨b, 0, none⟩)) rfl (by first | (go_simp; done) | (go_simp; rfl)) ?_
   intro b8 w9 hu lb hb8
   simp only [Act.put, nm1, nm2, nm3, i64_w]
   have lbb8 := Aside0.mk lb
   have ltb8 := Aside0.mk hb8.lt
   clear lb
   have hu10 := Aside0.mk hu
   clear hu
   refine wpList_plain rfl (fun Ko hKo => ?_)
   go_simp
   refine hKo _ _ ?_
   clear hKo Ko
   try simp only [Act.put, nm1, nm2, nm3, i64_w]
   refine wpList_nil ?_
   (try simp only [Exit.then, Exit.inBlock, ↓reduceIte, Nat.reduceEqDiff])
   refine hK1 _ _ ?_
   refine wp_seq_k (fun K11 hK11 => ?_)
   refine' wp_region_late 13 [11] [Slot.det _, Slot.det _, Slot.det _, Slot.det (.agg #[.int .i64 t12, .int .i64 t13]), Slot.det _, Slot.det (.agg #[.int .i64 t15, .int .i64 t16]), Slot.det _, Slot.det (.agg #[.int .i64 t18, .int .i64 t19]), Slot.det (.tuple #[.agg #[.int .i64 t21, .int .i64 t22, .int .i64 t23], .int .i64 t24]), Slot.det _, Slot.det _, Slot.det _, Slot.any (PtrTo [.int .i64 0, .int .i64 0, .int .i64 0] 39) true] (by kernel_rfl) [true, true, true, true, true, true, true, true, true, true, true, true, false] (by kernel_rfl) rfl (by kernel_rfl) (by decide) ?main
   case main =>
    simp only [List.take_succ_cons, List.take_zero]
    refine wpK_ops rfl (fun w1 hu => ?_) ?_
    · clear hu
      go_simp
      first | done | rfl
    simp only [Act.put, nm1, nm2, nm3, i64_w]
    refine wpK_ops rfl (fun w1 hu => ?_) ?_
    · clear hu
      go_simp
      first | done | rfl
    simp only [Act.put, nm1, nm2, nm3, i64_w]
    refine wpK_ops rfl (fun w1 hu => ?_) ?_
    · have cl0 := ((hb2.up (hu7.out.trans hu10.out)).up ((Up.refl _).drew.trans hu)).cell (o := 0) rfl
      have cl1 := ((hb2.up (hu7.out.trans hu10.out)).up ((Up.refl _).drew.trans hu)).cell (o := 1) rfl
      go_simp
      first | done | rfl
    simp only [Act.put, nm1, nm2, nm3, i64_w]
    refine wpK_ops rfl (fun w1 hu => ?_) ?_
    · have hcl := (laws_toPoint.calls K a2_0 a2_1 t12 t13 w1  A14.out)
      clear hu
      replace hcl := Aside0.mk hcl
      go_simp
      exact hcl.out
    simp only [Act.put, nm1, nm2, nm3, i64_w]
    refine wpK_ops rfl (fun w1 hu => ?_) ?_
    · have cl0 := ((hb5.up hu10.out).up ((Up.refl _).drew.trans hu)).cell (o := 0) rfl
      have cl1 := ((hb5.up hu10.out).up ((Up.refl _).drew.trans hu)).cell (o := 1) rfl
      go_simp
      first | done | rfl
    simp only [Act.put, nm1, nm2, nm3, i64_w]
    refine wpK_ops rfl (fun w1 hu => ?_) ?_
    · have hcl := (laws_toPoint.calls K a3_0 a3_1 t15 t16 w1  A17.out)
      clear hu
      replace hcl := Aside0.mk hcl
      go_simp
      exact hcl.out
    simp only [Act.put, nm1, nm2, nm3, i64_w]
    refine wpK_ops rfl (fun w1 hu => ?_) ?_
    · have cl0 := (hb8.up ((Up.refl _).drew.trans hu)).cell (o := 0) rfl
      have cl1 := (hb8.up ((Up.refl _).drew.trans hu)).cell (o := 1) rfl
      go_simp
      first | done | rfl
    simp only [Act.put, nm1, nm2, nm3, i64_w]
    refine wpK_ops rfl (fun w1 hu => ?_) ?_
    · have hcl := (laws_toPoint.calls K a4_0 a4_1 t18 t19 w1  A20.out)
      clear hu
      replace hcl := Aside0.mk hcl
      go_simp
      exact hcl.out
    simp only [Act.put, nm1, nm2, nm3, i64_w]
    refine wpK_ops rfl (fun w1 hu => ?_) ?_
    · have hcl := (spec_EulerLineOf.calls K a0 a1 t12 t13 t15 t16 t18 t19 t21 t22 t23 t24 w1  A25.out)
      clear hu
      replace hcl := Aside0.mk hcl
      go_simp
      exact hcl.out
    simp only [Act.put, nm1, nm2, nm3, i64_w]
    refine wpK_ops rfl (fun w1 hu => ?_) ?_
    · clear hu
      go_simp
      first | done | rfl
    simp only [Act.put, nm1, nm2, nm3, i64_w]
    refine wpK_ops rfl (fun w1 hu => ?_) ?_
    · clear hu
      go_simp
      first | done | rfl
    simp only [Act.put, nm1, nm2, nm3, i64_w]
    refine wpK_ops rfl (fun w1 hu => ?_) ?_
    · clear hu
      go_simp
      first | done | rfl
    simp only [Act.put, nm1, nm2, nm3, i64_w]
    refine wpK_any rfl (stab_ptr _ _) (fun w1 _ _ => fresh_ptr (by first | (go_simp; done) | (go_simp; rfl))) (fun v26 => ?_)
    simp only [Act.put, nm1, nm2, nm3, i64_w]
    refine wpK_nil ?_
    intro w28 hu hap
    simp only [List.drop_succ_cons, List.drop_zero]
    replace hu := (Up.refl _).drew.trans hu
    obtain ⟨hf0, hn0, ⟨b27, e0, hb27⟩, -⟩ := hap
    have lbb27 := Aside0.mk (hf0 rfl b27 (by rw [e0]; rfl)).1
    have ltb27 := Aside0.mk hb27.lt
    dsimp only at e0
    subst e0
    clear hf0 hn0
    have hu29 := Aside0.mk hu
    clear hu
    refine late_cons (Up.of_drew hu29.out) ?_
    have hB0 := hb27
    have cl0 := hB0.cell (o := 0) rfl
    have fr0 := hB0.free 0
    have cl1 := hB0.cell (o := 1) rfl
    have fr1 := hB0.free 1
    have cl2 := hB0.cell (o := 2) rfl
    have fr2 := hB0.free 2
    refine step_store (b := b27) (cs' := [.int .i64 t21, .int .i64 t22, .int .i64 t23]) (T := 39) (W' := (((w28.setCell ⟨b27, 0, none⟩ (.int .i64 t21)).setCell ⟨b27, 1, none⟩ (.int .i64 t22)).setCell ⟨b27, 2, none⟩ (.int .i64 t23))) rfl rfl (by first | (go_simp; done) | (go_simp; rfl)) ((((Sto.refl _ _).setCell 0 _).setCell 1 _).setCell 2 _) ((((hB0).setCell 0 _).setCell 1 _).setCell 2 _) ?_
    clear hB0 cl0 fr0 cl1 fr1 cl2 fr2
    intro w30 hs hb32
    have hs31 := Aside0.mk hs
    clear hs
    refine wpList_nil ?_
    refine wrapQ_k ?_
    refine late_cons (Up.of_drew (hu29.out.sto (Nat.le_trans (Nat.le_refl _) lbb27.out) hs31.out)) ?_
    refine wpList_plain rfl (fun Ko hKo => ?_)
    go_simp
    refine hKo _ _ ?_
    clear hKo Ko
    try simp only [Act.put, nm1, nm2, nm3, i64_w]
    refine wpList_nil ?_
    refine wrapQ_k ?_
    refine late_nil (Up.of_drew (hu29.out.sto (Nat.le_trans (Nat.le_refl _) lbb27.out) hs31.out)) ?_
    (try simp only [Exit.then, Exit.inBlock, ↓reduceIte, Nat.reduceEqDiff])
    refine hK11 _ _ ?_
    refine wp_seq_k (fun K33 hK33 => ?_)
    refine' wp_region_late 13 [11] [Slot.det _, Slot.det _, Slot.det _, Slot.det (.agg #[.int .i64 t34, .int .i64 t35]), Slot.det _, Slot.det (.agg #[.int .i64 t37, .int .i64 t38]), Slot.det _, Slot.det (.agg #[.int .i64 t40, .int .i64 t41]), Slot.det (.tuple #[.agg #[.int .i64 t43, .int .i64 t44, .int .i64 t45], .int .i64 t46]), Slot.det _, Slot.det _, Slot.det _, Slot.any (PtrTo [.int .i64 0, .int .i64 0, .int .i64 0] 39) true] (by kernel_rfl) [true, true, true, true, true, true, true, true, true, true, true, true, false] (by kernel_rfl) rfl (by kernel_rfl) (by decide) ?main
    case main =>
     simp only [List.take_succ_cons, List.take_zero]
     refine wpK_ops rfl (fun w1 hu => ?_) ?_
     · clear hu
       go_simp
       first | done | rfl
     simp only [Act.put, nm1, nm2, nm3, i64_w]
     refine wpK_ops rfl (fun w1 hu => ?_) ?_
     · clear hu
       go_simp
       first | done | rfl
     simp only [Act.put, nm1, nm2, nm3, i64_w]
     refine wpK_ops rfl (fun w1 hu => ?_) ?_
     · have cl0 := ((hb2.up (((hu7.out.trans hu10.out).trans hu29.out).sto (Nat.le_trans ((Nat.le_trans (hu7.out.size) hu10.out.size)) lbb27.out) hs31.out)).up ((Up.refl _).drew.trans hu)).cell (o := 0) rfl
       have cl1 := ((hb2.up (((hu7.out.trans hu10.out).trans hu29.out).sto (Nat.le_trans ((Nat.le_trans (hu7.out.size) hu10.out.size)) lbb27.out) hs31.out)).up ((Up.refl _).drew.trans hu)).cell (o := 1) rfl
       go_simp
       first | done | rfl
     simp only [Act.put, nm1, nm2, nm3, i64_w]
     refine wpK_ops rfl (fun w1 hu => ?_) ?_
     · have hcl := (laws_toPoint.calls K a2_0 a2_1 t34 t35 w1  A36.out)
       clear hu
       replace hcl := Aside0.mk hcl
       go_simp
       exact hcl.out
     simp only [Act.put, nm1, nm2, nm3, i64_w]
     refine wpK_ops rfl (fun w1 hu => ?_) ?_
     · have cl0 := ((hb5.up ((hu10.out.trans hu29.out).sto (Nat.le_trans (hu10.out.size) lbb27.out) hs31.out)).up ((Up.refl _).drew.trans hu)).cell (o := 0) rfl
       have cl1 := ((hb5.up ((hu10.out.trans hu29.out).sto (Nat.le_trans (hu10.out.size) lbb27.out) hs31.out)).up ((Up.refl _).drew.trans hu)).cell (o := 1) rfl
       go_simp
       first | done | rfl
     simp only [Act.put, nm1, nm2, nm3, i64_w]
     refine wpK_ops rfl (fun w1 hu => ?_) ?_
     · have hcl := (laws_toPoint.calls K a3_0 a3_1 t37 t38 w1  A39.out)
       clear hu
       replace hcl := Aside0.mk hcl
       go_simp
       exact hcl.out
     simp only [Act.put, nm1, nm2, nm3, i64_w]
     refine wpK_ops rfl (fun w1 hu => ?_) ?_
     · have cl0 := ((hb8.up (hu29.out.sto (Nat.le_trans (Nat.le_refl _) lbb27.out) hs31.out)).up ((Up.refl _).drew.trans hu)).cell (o := 0) rfl
       have cl1 := ((hb8.up (hu29.out.sto (Nat.le_trans (Nat.le_refl _) lbb27.out) hs31.out)).up ((Up.refl _).drew.trans hu)).cell (o := 1) rfl
       go_simp
       first | done | rfl
     simp only [Act.put, nm1, nm2, nm3, i64_w]
     refine wpK_ops rfl (fun w1 hu => ?_) ?_
     · have hcl := (laws_toPoint.calls K a4_0 a4_1 t40 t41 w1  A42.out)
       clear hu
       replace hcl := Aside0.mk hcl
       go_simp
       exact hcl.out
     simp only [Act.put, nm1, nm2, nm3, i64_w]
     refine wpK_ops rfl (fun w1 hu => ?_) ?_
     · have hcl := (impl_EulerLineOf.calls K a0 a1 t34 t35 t37 t38 t40 t41 t43 t44 t45 t46 w1  A47.out)
       clear hu
       replace hcl := Aside0.mk hcl
       go_simp
       exact hcl.out
     simp only [Act.put, nm1, nm2, nm3, i64_w]
     refine wpK_ops rfl (fun w1 hu => ?_) ?_
     · clear hu
       go_simp
       first | done | rfl
     simp only [Act.put, nm1, nm2, nm3, i64_w]
     refine wpK_ops rfl (fun w1 hu => ?_) ?_
     · clear hu
       go_simp
       first | done | rfl
     simp only [Act.put, nm1, nm2, nm3, i64_w]
     refine wpK_ops rfl (fun w1 hu => ?_) ?_
     · clear hu
       go_simp
       first | done | rfl
     simp only [Act.put, nm1, nm2, nm3, i64_w]
     refine wpK_any rfl (stab_ptr _ _) (fun w1 _ _ => fresh_ptr (by first | (go_simp; done) | (go_simp; rfl))) (fun v48 => ?_)
     simp only [Act.put, nm1, nm2, nm3, i64_w]
     refine wpK_nil ?_
     intro w50 hu hap
     simp only [List.drop_succ_cons, List.drop_zero]
     replace hu := (Up.refl _).drew.trans hu
     obtain ⟨hf0, hn0, ⟨b49, e0, hb49⟩, -⟩ := hap
     have lbb49 := Aside0.mk (hf0 rfl b49 (by rw [e0]; rfl)).1
     have ltb49 := Aside0.mk hb49.lt
     dsimp only at e0
     subst e0
     clear hf0 hn0
     have hu51 := Aside0.mk hu
     clear hu
     refine late_cons (Up.of_drew hu51.out) ?_
     have hB0 := hb49
     have cl0 := hB0.cell (o := 0) rfl
     have fr0 := hB0.free 0
     have cl1 := hB0.cell (o := 1) rfl
     have fr1 := hB0.free 1
     have cl2 := hB0.cell (o := 2) rfl
     have fr2 := hB0.free 2
     refine step_store (b := b49) (cs' := [.int .i64 t43, .int .i64 t44, .int .i64 t45]) (T := 39) (W' := (((w50.setCell ⟨b49, 0, none⟩ (.int .i64 t43)).setCell ⟨b49, 1, none⟩ (.int .i64 t44)).setCell ⟨b49, 2, none⟩ (.int .i64 t45))) rfl rfl (by first | (go_simp; done) | (go_simp; rfl)) ((((Sto.refl _ _).setCell 0 _).setCell 1 _).setCell 2 _) ((((hB0).setCell 0 _).setCell 1 _).setCell 2 _) ?_
     clear hB0 cl0 fr0 cl1 fr1 cl2 fr2
     intro w52 hs hb54
     have hs53 := Aside0.mk hs
     clear hs
     refine wpList_nil ?_
     refine wrapQ_k ?_
     refine late_cons (Up.of_drew (hu51.out.sto (Nat.le_trans (Nat.le_refl _) lbb49.out) hs53.out)) ?_
     refine wpList_plain rfl (fun Ko hKo => ?_)
     go_simp
     refine hKo _ _ ?_
     clear hKo Ko
     try simp only [Act.put, nm1, nm2, nm3, i64_w]
     refine wpList_nil ?_
     refine wrapQ_k ?_
     refine late_nil (Up.of_drew (hu51.out.sto (Nat.le_trans (Nat.le_refl _) lbb49.out) hs53.out)) ?_
     (try simp only [Exit.then, Exit.inBlock, ↓reduceIte, Nat.reduceEqDiff])
     refine hK33 _ _ ?_
     refine wp_seq_k (fun K55 hK55 => ?_)
     refine wp_seq_k (fun K56 hK56 => ?_)
     refine wp_region_lit ?_
     have cl0 := hb54.cell (o := 0) rfl
     have cl1 := hb54.cell (o := 1) rfl
     have cl2 := hb54.cell (o := 2) rfl
     refine wpList_plain rfl (fun Ko hKo => ?_)
     go_simp
     refine hKo _ _ ?_
     clear hKo Ko
     clear cl0 cl1 cl2
     try simp only [Act.put, nm1, nm2, nm3, i64_w]
     have cl0 := (hb32.up (hu51.out.sto (Nat.le_trans (Nat.le_refl _) lbb49.out) hs53.out)).cell (o := 0) rfl
     have cl1 := (hb32.up (hu51.out.sto (Nat.le_trans (Nat.le_refl _) lbb49.out) hs53.out)).cell (o := 1) rfl
     have cl2 := (hb32.up (hu51.out.sto (Nat.le_trans (Nat.le_refl _) lbb49.out) hs53.out)).cell (o := 2) rfl
     refine wpList_plain rfl (fun Ko hKo => ?_)
     go_simp
     refine hKo _ _ ?_
     clear hKo Ko
     clear cl0 cl1 cl2
     try simp only [Act.put, nm1, nm2, nm3, i64_w]
     refine step_call (wanted_none rfl) (by first | (go_simp; done) | (go_simp; rfl)) (laws_eqLine.calls K t43 t44 t45 t21 t22 t23 true w52  A58.out) ?_
     rintro e w59 ⟨rfl, hu⟩
     have hu60 := Aside0.mk hu
     clear hu
     refine ⟨_, rfl, ?_⟩
     simp only [Act.put, nm1, nm2, nm3, i64_w]
     refine wpList_plain rfl (fun Ko hKo => ?_)
     go_simp
     refine hKo _ _ ?_
     clear hKo Ko
     try simp only [Act.put, nm1, nm2, nm3, i64_w]
     refine wpList_plain rfl (fun Ko hKo => ?_)
     go_simp
     refine hKo _ _ ?_
     clear hKo Ko
     try simp only [Act.put, nm1, nm2, nm3, i64_w]
     refine wpList_step (fun Ko hKo => ?_)
     go_simp
     refine hKo _ _ ?_
     clear hKo Ko
     try simp only [Act.put, nm1, nm2, nm3, i64_w]
     refine wpList_step (fun Ko hKo => ?_)
     go_simp
     refine hKo _ _ ?_
     clear hKo Ko
     try simp only [Act.put, nm1, nm2, nm3, i64_w]
     refine wpList_step (fun Ko hKo => ?_)
     go_simp
     refine hKo _ _ ?_
     clear hKo Ko
     try simp only [Act.put, nm1, nm2, nm3, i64_w]
     refine wpList_plain rfl (fun Ko hKo => ?_)
     go_simp
     refine hKo _ _ ?_
     clear hKo Ko
     try simp only [Act.put, nm1, nm2, nm3, i64_w]
     refine wpList_nil ?_
     (try simp only [Exit.then, Exit.inBlock, ↓reduceIte, Nat.reduceEqDiff])
     refine hK56 _ _ ?_
     refine wp_cond_true rfl ?_
     refine wp_seq_k (fun K64 hK64 => ?_)
     refine wp_region_lit ?_
     refine wpList_plain rfl (fun Ko hKo => ?_)
     go_simp
     refine hKo _ _ ?_
     clear hKo Ko
     try simp only [Act.put, nm1, nm2, nm3, i64_w]
     refine wpList_nil ?_
     (try simp only [Exit.then, Exit.inBlock, ↓reduceIte, Nat.reduceEqDiff])
     refine hK64 _ _ ?_
     refine wp_ret ?_
     (try simp only [Exit.then, Exit.inBlock, ↓reduceIte, Nat.reduceEqDiff])
     refine hQf _ _ _ ?_
     exact bodyPost_ret (v := .bool false) (by first | rfl | (simp [results, Try.results11, go_sem]; done) | (simp [results, Try.results11, go_sem]; rfl)) rfl ⟨rfl, (((((((hu4.out.trans hu7.out).trans hu10.out).trans hu29.out).sto (Nat.le_trans ((Nat.le_trans ((Nat.le_trans (hu4.out.size) hu7.out.size)) hu10.out.size)) lbb27.out) hs31.out).trans hu51.out).sto (Nat.le_trans ((Nat.le_trans ((Nat.le_trans ((Nat.le_trans ((Nat.le_trans (hu4.out.size) hu7.out.size)) hu10.out.size)) hu29.out.size)) (Nat.le_of_eq hs31.out.size.symm))) lbb49.out) hs53.out).trans hu60.out)⟩
 ·
  rw [if_neg c61] at H
  replace c61 := Bool.eq_false_iff.mpr c61
  subst c61
  obtain rfl := Option.some.inj H
  go_enter Try.func11, Try.ntmps11
  refine wp_hide (fun Qf hQf => ?_)
  refine wp_seq_k (fun K1 hK1 => ?_)
  refine wp_region_lit ?_
  refine step_new (cs := [.int .i64 a2_0, .int .i64 a2_1]) (T := 22) (f := fun b => .pointer (some ⟨b, 0, none⟩)) rfl (by first | (go_simp; done) | (go_simp; rfl)) ?_
  intro b2 w3 hu lb hb2
  simp only [Act.put, nm1, nm2, nm3, i64_w]
  have lbb2 := Aside0.mk lb
  have ltb2 := Aside0.mk hb2.lt
  clear lb
  have hu4 := Aside0.mk hu
  clear hu
  refine step_new (cs := [.int .i64 a3_0, .int .i64 a3_1]) (T := 22) (f := fun b => .pointer (some ⟨b, 0, none⟩)) rfl (by first | (go_simp; done) | (go_simp; rfl)) ?_
  intro b5 w6 hu lb hb5
  simp only [Act.put, nm1, nm2, nm3, i64_w]
  have lbb5 := Aside0.mk lb
  have ltb5 := Aside0.mk hb5.lt
  clear lb
  have hu7 := Aside0.mk hu
  clear hu
  refine step_new (cs := [.int .i64 a4_0, .int .i64 a4_1]) (T := 22) (f := fun b => .pointer (some ⟨b, 0, none⟩)) rfl (by first | (go_simp; done) | (go_simp; rfl)) ?_
  intro b8 w9 hu lb hb8
  simp only [Act.put, nm1, nm2, nm3, i64_w]
  have lbb8 := Aside0.mk lb
  have ltb8 := Aside0.mk hb8.lt
  clear lb
  have hu10 := Aside0.mk hu
  clear hu
  refine wpList_plain rfl (fun Ko hKo => ?_)
  go_simp
  refine hKo _ _ ?_
  clear hKo Ko
  try simp only [Act.put, nm1, nm2, nm3, i64_w]
  refine wpList_nil ?_
  (try simp only [Exit.then, Exit.inBlock, ↓reduceIte, Nat.reduceEqDiff])
  refine hK1 _ _ ?_
  refine wp_seq_k (fun K11 hK11 => ?_)
  refine' wp_region_late 13 [11] [Slot.det _, Slot.det _, Slot.det _, Slot.det (.agg #[.int .i64 t12, .int .i64 t13]), Slot.det _, Slot.det (.agg #[.int .i64 t15, .int .i64 t16]), Slot.det _, Slot.det (.agg #[.int .i64 t18, .int .i64 t19]), Slot.det (.tuple #[.agg #[.int .i64 t21, .int .i64 t22, .int .i64 t23], .int .i64 t24]), Slot.det _, Slot.det _, Slot.det _, Slot.any (PtrTo [.int .i64 0, .int .i64 0, .int .i64 0] 39) true] (by kernel_rfl) [true, true, true, true, true, true, true, true, true, true, true, true, false] (by kernel_rfl) rfl (by kernel_rfl) (by decide) ?main
  case main =>
   simp only [List.take_succ_cons, List.take_zero]
   refine wpK_ops rfl (fun w1 hu => ?_) ?_
   · clear hu
     go_simp
     first | done | rfl
   simp only [Act.put, nm1, nm2, nm3, i64_w]
   refine wpK_ops rfl (fun w1 hu => ?_) ?_
   · clear hu
     go_simp
     first | done | rfl
   simp only [Act.put, nm1, nm2, nm3, i64_w]
   refine wpK_ops rfl (fun w1 hu => ?_) ?_
   · have cl0 := ((hb2.up (hu7.out.trans hu10.out)).up ((Up.refl _).drew.trans hu)).cell (o := 0) rfl
     have cl1 := ((hb2.up (hu7.out.trans hu10.out)).up ((Up.refl _).drew.trans hu)).cell (o := 1) rfl
     go_simp
     first | done | rfl
   simp only [Act.put, nm1, nm2, nm3, i64_w]
   refine wpK_ops rfl (fun w1 hu => ?_) ?_
   · have hcl := (laws_toPoint.calls K a2_0 a2_1 t12 t13 w1  A14.out)
     clear hu
     replace hcl := Aside0.mk hcl
     go_simp
     exact hcl.out
   simp only [Act.put, nm1, nm2, nm3, i64_w]
   refine wpK_ops rfl (fun w1 hu => ?_) ?_
   · have cl0 := ((hb5.up hu10.out).up ((Up.refl _).drew.trans hu)).cell (o := 0) rfl
     have cl1 := ((hb5.up hu10.out).up ((Up.refl _).drew.trans hu)).cell (o := 1) rfl
     go_simp
     first | done | rfl
   simp only [Act.put, nm1, nm2, nm3, i64_w]
   refine wpK_ops rfl (fun w1 hu => ?_) ?_
   · have hcl := (laws_toPoint.calls K a3_0 a3_1 t15 t16 w1  A17.out)
     clear hu
     replace hcl := Aside0.mk hcl
     go_simp
     exact hcl.out
   simp only [Act.put, nm1, nm2, nm3, i64_w]
   refine wpK_ops rfl (fun w1 hu => ?_) ?_
   · have cl0 := (hb8.up ((Up.refl _).drew.trans hu)).cell (o := 0) rfl
     have cl1 := (hb8.up ((Up.refl _).drew.trans hu)).cell (o := 1) rfl
     go_simp
     first | done | rfl
   simp only [Act.put, nm1, nm2, nm3, i64_w]
   refine wpK_ops rfl (fun w1 hu => ?_) ?_
   · have hcl := (laws_toPoint.calls K a4_0 a4_1 t18 t19 w1  A20.out)
     clear hu
     replace hcl := Aside0.mk hcl
     go_simp
     exact hcl.out
   simp only [Act.put, nm1, nm2, nm3, i64_w]
   refine wpK_ops rfl (fun w1 hu => ?_) ?_
   · have hcl := (spec_EulerLineOf.calls K a0 a1 t12 t13 t15 t16 t18 t19 t21 t22 t23 t24 w1  A25.out)
     clear hu
     replace hcl := Aside0.mk hcl
     go_simp
     exact hcl.out
   simp only [Act.put, nm1, nm2, nm3, i64_w]
   refine wpK_ops rfl (fun w1 hu => ?_) ?_
   · clear hu
     go_simp
     first | done | rfl
   simp only [Act.put, nm1, nm2, nm3, i64_w]
   refine wpK_ops rfl (fun w1 hu => ?_) ?_
   · clear hu
     go_simp
     first | done | rfl
   simp only [Act.put, nm1, nm2, nm3, i64_w]
   refine wpK_ops rfl (fun w1 hu => ?_) ?_
   · clear hu
     go_simp
     first | done | rfl
   simp only [Act.put, nm1, nm2, nm3, i64_w]
   refine wpK_any rfl (stab_ptr _ _) (fun w1 _ _ => fresh_ptr (by first | (go_simp; done) | (go_simp; rfl))) (fun v26 => ?_)
   simp only [Act.put, nm1, nm2, nm3, i64_w]
   refine wpK_nil ?_
   intro w28 hu hap
   simp only [List.drop_succ_cons, List.drop_zero]
   replace hu := (Up.refl _).drew.trans hu
   obtain ⟨hf0, hn0, ⟨b27, e0, hb27⟩, -⟩ := hap
   have lbb27 := Aside0.mk (hf0 rfl b27 (by rw [e0]; rfl)).1
   have ltb27 := Aside0.mk hb27.lt
   dsimp only at e0
   subst e0
   clear hf0 hn0
   have hu29 := Aside0.mk hu
   clear hu
   refine late_cons (Up.of_drew hu29.out) ?_
   have hB0 := hb27
   have cl0 := hB0.cell (o := 0) rfl
   have fr0 := hB0.free 0
   have cl1 := hB0.cell (o := 1) rfl
   have fr1 := hB0.free 1
   have cl2 := hB0.cell (o := 2) rfl
   have fr2 := hB0.free 2
   refine step_store (b := b27) (cs' := [.int .i64 t21, .int .i64 t22, .int .i64 t23]) (T := 39) (W' := (((w28.setCell ⟨b27, 0, none⟩ (.int .i64 t21)).setCell ⟨b27, 1, none⟩ (.int .i64 t22)).setCell ⟨b27, 2, none⟩ (.int .i64 t23))) rfl rfl (by first | (go_simp; done) | (go_simp; rfl)) ((((Sto.refl _ _).setCell 0 _).setCell 1 _).setCell 2 _) ((((hB0).setCell 0 _).setCell 1 _).setCell 2 _) ?_
   clear hB0 cl0 fr0 cl1 fr1 cl2 fr2
   intro w30 hs hb32
   have hs31 := Aside0.mk hs
   clear hs
   refine wpList_nil ?_
   refine wrapQ_k ?_
   refine late_cons (Up.of_drew (hu29.out.sto (Nat.le_trans (Nat.le_refl _) lbb27.out) hs31.out)) ?_
   refine wpList_plain rfl (fun Ko hKo => ?_)
   go_simp
   refine hKo _ _ ?_
   clear hKo Ko
   try simp only [Act.put, nm1, nm2, nm3, i64_w]
   refine wpList_nil ?_
   refine wrapQ_k ?_
   refine late_nil (Up.of_drew (hu29.out.sto (Nat.le_trans (Nat.le_refl _) lbb27.out) hs31.out)) ?_
   (try simp only [Exit.then, Exit.inBlock, ↓reduceIte, Nat.reduceEqDiff])
   refine hK11 _ _ ?_
   refine wp_seq_k (fun K33 hK33 => ?_)
   refine' wp_region_late 13 [11] [Slot.det _, Slot.det _, Slot.det _, Slot.det (.agg #[.int .i64 t34, .int .i64 t35]), Slot.det _, Slot.det (.agg #[.int .i64 t37, .int .i64 t38]), Slot.det _, Slot.det (.agg #[.int .i64 t40, .int .i64 t41]), Slot.det (.tuple #[.agg #[.int .i64 t43, .int .i64 t44, .int .i64 t45], .int .i64 t46]), Slot.det _, Slot.det _, Slot.det _, Slot.any (PtrTo [.int .i64 0, .int .i64 0, .int .i64 0] 39) true] (by kernel_rfl) [true, true, true, true, true, true, true, true, true, true, true, true, false] (by kernel_rfl) rfl (by kernel_rfl) (by decide) ?main
   case main =>
    simp only [List.take_succ_cons, List.take_zero]
    refine wpK_ops rfl (fun w1 hu => ?_) ?_
    · clear hu
      go_simp
      first | done | rfl
    simp only [Act.put, nm1, nm2, nm3, i64_w]
    refine wpK_ops rfl (fun w1 hu => ?_) ?_
    · clear hu
      go_simp
      first | done | rfl
    simp only [Act.put, nm1, nm2, nm3, i64_w]
    refine wpK_ops rfl (fun w1 hu => ?_) ?_
    · have cl0 := ((hb2.up (((hu7.out.trans hu10.out).trans hu29.out).sto (Nat.le_trans ((Nat.le_trans (hu7.out.size) hu10.out.size)) lbb27.out) hs31.out)).up ((Up.refl _).drew.trans hu)).cell (o := 0) rfl
      have cl1 := ((hb2.up (((hu7.out.trans hu10.out).trans hu29.out).sto (Nat.le_trans ((Nat.le_trans (hu7.out.size) hu10.out.size)) lbb27.out) hs31.out)).up ((Up.refl _).drew.trans hu)).cell (o := 1) rfl
      go_simp
      first | done | rfl
    simp only [Act.put, nm1, nm2, nm3, i64_w]
    refine wpK_ops rfl (fun w1 hu => ?_) ?_
    · have hcl := (laws_toPoint.calls K a2_0 a2_1 t34 t35 w1  A36.out)
      clear hu
      replace hcl := Aside0.mk hcl
      go_simp
      exact hcl.out
    simp only [Act.put, nm1, nm2, nm3, i64_w]
    refine wpK_ops rfl (fun w1 hu => ?_) ?_
    · have cl0 := ((hb5.up ((hu10.out.trans hu29.out).sto (Nat.le_trans (hu10.out.size) lbb27.out) hs31.out)).up ((Up.refl _).drew.trans hu)).cell (o := 0) rfl
      have cl1 := ((hb5.up ((hu10.out.trans hu29.out).sto (Nat.le_trans (hu10.out.size) lbb27.out) hs31.out)).up ((Up.refl _).drew.trans hu)).cell (o := 1) rfl
      go_simp
      first | done | rfl
    simp only [Act.put, nm1, nm2, nm3, i64_w]
    refine wpK_ops rfl (fun w1 hu => ?_) ?_
    · have hcl := (laws_toPoint.calls K a3_0 a3_1 t37 t38 w1  A39.out)
      clear hu
      replace hcl := Aside0.mk hcl
      go_simp
      exact hcl.out
    simp only [Act.put, nm1, nm2, nm3, i64_w]
    refine wpK_ops rfl (fun w1 hu => ?_) ?_
    · have cl0 := ((hb8.up (hu29.out.sto (Nat.le_trans (Nat.le_refl _) lbb27.out) hs31.out)).up ((Up.refl _).drew.trans hu)).cell (o := 0) rfl
      have cl1 := ((hb8.up (hu29.out.sto (Nat.le_trans (Nat.le_refl _) lbb27.out) hs31.out)).up ((Up.refl _).drew.trans hu)).cell (o := 1) rfl
      go_simp
      first | done | rfl
    simp only [Act.put, nm1, nm2, nm3, i64_w]
    refine wpK_ops rfl (fun w1 hu => ?_) ?_
    · have hcl := (laws_toPoint.calls K a4_0 a4_1 t40 t41 w1  A42.out)
      clear hu
      replace hcl := Aside0.mk hcl
      go_simp
      exact hcl.out
    simp only [Act.put, nm1, nm2, nm3, i64_w]
    refine wpK_ops rfl (fun w1 hu => ?_) ?_
    · have hcl := (impl_EulerLineOf.calls K a0 a1 t34 t35 t37 t38 t40 t41 t43 t44 t45 t46 w1  A47.out)
      clear hu
      replace hcl := Aside0.mk hcl
      go_simp
      exact hcl.out
    simp only [Act.put, nm1, nm2, nm3, i64_w]
    refine wpK_ops rfl (fun w1 hu => ?_) ?_
    · clear hu
      go_simp
      first | done | rfl
    simp only [Act.put, nm1, nm2, nm3, i64_w]
    refine wpK_ops rfl (fun w1 hu => ?_) ?_
    · clear hu
      go_simp
      first | done | rfl
    simp only [Act.put, nm1, nm2, nm3, i64_w]
    refine wpK_ops rfl (fun w1 hu => ?_) ?_
    · clear hu
      go_simp
      first | done | rfl
    simp only [Act.put, nm1, nm2, nm3, i64_w]
    refine wpK_any rfl (stab_ptr _ _) (fun w1 _ _ => fresh_ptr (by first | (go_simp; done) | (go_simp; rfl))) (fun v48 => ?_)
    simp only [Act.put, nm1, nm2, nm3, i64_w]
    refine wpK_nil ?_
    intro w50 hu hap
    simp only [List.drop_succ_cons, List.drop_zero]
    replace hu := (Up.refl _).drew.trans hu
    obtain ⟨hf0, hn0, ⟨b49, e0, hb49⟩, -⟩ := hap
    have lbb49 := Aside0.mk (hf0 rfl b49 (by rw [e0]; rfl)).1
    have ltb49 := Aside0.mk hb49.lt
    dsimp only at e0
    subst e0
    clear hf0 hn0
    have hu51 := Aside0.mk hu
    clear hu
    refine late_cons (Up.of_drew hu51.out) ?_
    have hB0 := hb49
    have cl0 := hB0.cell (o := 0) rfl
    have fr0 := hB0.free 0
    have cl1 := hB0.cell (o := 1) rfl
    have fr1 := hB0.free 1
    have cl2 := hB0.cell (o := 2) rfl
    have fr2 := hB0.free 2
    refine step_store (b := b49) (cs' := [.int .i64 t43, .int .i64 t44, .int .i64 t45]) (T := 39) (W' := (((w50.setCell ⟨b49, 0, none⟩ (.int .i64 t43)).setCell ⟨b49, 1, none⟩ (.int .i64 t44)).setCell ⟨b49, 2, none⟩ (.int .i64 t45))) rfl rfl (by first | (go_simp; done) | (go_simp; rfl)) ((((Sto.refl _ _).setCell 0 _).setCell 1 _).setCell 2 _) ((((hB0).setCell 0 _).setCell 1 _).setCell 2 _) ?_
    clear hB0 cl0 fr0 cl1 fr1 cl2 fr2
    intro w52 hs hb54
    have hs53 := Aside0.mk hs
    clear hs
    refine wpList_nil ?_
    refine wrapQ_k ?_
    refine late_cons (Up.of_drew (hu51.out.sto (Nat.le_trans (Nat.le_refl _) lbb49.out) hs53.out)) ?_
    refine wpList_plain rfl (fun Ko hKo => ?_)
    go_simp
    refine hKo _ _ ?_
    clear hKo Ko
    try simp only [Act.put, nm1, nm2, nm3, i64_w]
    refine wpList_nil ?_
    refine wrapQ_k ?_
    refine late_nil (Up.of_drew (hu51.out.sto (Nat.le_trans (Nat.le_refl _) lbb49.out) hs53.out)) ?_
    (try simp only [Exit.then, Exit.inBlock, ↓reduceIte, Nat.reduceEqDiff])
    refine hK33 _ _ ?_
    refine wp_seq_k (fun K55 hK55 => ?_)
    refine wp_seq_k (fun K56 hK56 => ?_)
    refine wp_region_lit ?_
    have cl0 := hb54.cell (o := 0) rfl
    have cl1 := hb54.cell (o := 1) rfl
    have cl2 := hb54.cell (o := 2) rfl
    refine wpList_plain rfl (fun Ko hKo => ?_)
    go_simp
    refine hKo _ _ ?_
    clear hKo Ko
    clear cl0 cl1 cl2
    try simp only [Act.put, nm1, nm2, nm3, i64_w]
    have cl0 := (hb32.up (hu51.out.sto (Nat.le_trans (Nat.le_refl _) lbb49.out) hs53.out)).cell (o := 0) rfl
    have cl1 := (hb32.up (hu51.out.sto (Nat.le_trans (Nat.le_refl _) lbb49.out) hs53.out)).cell (o := 1) rfl
    have cl2 := (hb32.up (hu51.out.sto (Nat.le_trans (Nat.le_refl _) lbb49.out) hs53.out)).cell (o := 2) rfl
    refine wpList_plain rfl (fun Ko hKo => ?_)
    go_simp
    refine hKo _ _ ?_
    clear hKo Ko
    clear cl0 cl1 cl2
    try simp only [Act.put, nm1, nm2, nm3, i64_w]
    refine step_call (wanted_none rfl) (by first | (go_simp; done) | (go_simp; rfl)) (laws_eqLine.calls K t43 t44 t45 t21 t22 t23 false w52  A58.out) ?_
    rintro e w59 ⟨rfl, hu⟩
    have hu60 := Aside0.mk hu
    clear hu
    refine ⟨_, rfl, ?_⟩
    simp only [Act.put, nm1, nm2, nm3, i64_w]
    refine wpList_plain rfl (fun Ko hKo => ?_)
    go_simp
    refine hKo _ _ ?_
    clear hKo Ko
    try simp only [Act.put, nm1, nm2, nm3, i64_w]
    refine wpList_plain rfl (fun Ko hKo => ?_)
    go_simp
    refine hKo _ _ ?_
    clear hKo Ko
    try simp only [Act.put, nm1, nm2, nm3, i64_w]
    refine step_no rfl ?_
    simp only [Act.put, nm1, nm2, nm3, i64_w]
    refine step_no rfl ?_
    simp only [Act.put, nm1, nm2, nm3, i64_w]
    refine step_no rfl ?_
    simp only [Act.put, nm1, nm2, nm3, i64_w]
    refine wpList_plain rfl (fun Ko hKo => ?_)
    go_simp
    refine hKo _ _ ?_
    clear hKo Ko
    try simp only [Act.put, nm1, nm2, nm3, i64_w]
    refine wpList_nil ?_
    (try simp only [Exit.then, Exit.inBlock, ↓reduceIte, Nat.reduceEqDiff])
    refine hK56 _ _ ?_
    refine wp_cond_true rfl ?_
    refine wp_seq_k (fun K65 hK65 => ?_)
    refine wp_region_lit ?_
    refine wpList_plain rfl (fun Ko hKo => ?_)
    go_simp
    refine hKo _ _ ?_
    clear hKo Ko
    try simp only [Act.put, nm1, nm2, nm3, i64_w]
    refine wpList_nil ?_
    (try simp only [Exit.then, Exit.inBlock, ↓reduceIte, Nat.reduceEqDiff])
    refine hK65 _ _ ?_
    refine wp_ret ?_
    (try simp only [Exit.then, Exit.inBlock, ↓reduceIte, Nat.reduceEqDiff])
    refine hQf _ _ _ ?_
    exact bodyPost_ret (v := .bool false) (by first | rfl | (simp [results, Try.results11, go_sem]; done) | (simp [results, Try.results11, go_sem]; rfl)) rfl ⟨rfl, (((((((hu4.out.trans hu7.out).trans hu10.out).trans hu29.out).sto (Nat.le_trans ((Nat.le_trans ((Nat.le_trans (hu4.out.size) hu7.out.size)) hu10.out.size)) lbb27.out) hs31.out).trans hu51.out).sto (Nat.le_trans ((Nat.le_trans ((Nat.le_trans ((Nat.le_trans ((Nat.le_trans (hu4.out.size) hu7.out.size)) hu10.out.size)) hu29.out.size)) (Nat.le_of_eq hs31.out.size.symm))) lbb49.out) hs53.out).trans hu60.out)⟩

end Go.Proofs.Ytohpnbfgemngmaa
