/- The walks: each of these functions of the program computes what its plain function says: laws_FnExactInversePoint. -/
import Derived.Test.YthaopanhdmakbaaProg
import Derived.Test.YthaopanhdmakbaaD1
import Derived.WalkKit
import Derived.KernelRfl
import Derived.BigQuiet
import Derived.Deep.LoopGhost
import Derived.Laws.StructEq
import Derived.Test.YthaopanhdmakbaaWInvP2
namespace Go.Proofs.Ythaopanhdmakbaa
open Go Go.RowKit
attribute [local go_sem] Oper.quiet Oper.quietAt Oper.quietUpon
set_option linter.unusedVariables false
set_option linter.unusedSimpArgs false

set_option maxHeartbeats 4000000 in
set_option maxRecDepth 100000 in
theorem laws_FnExactInversePoint.calls (K : Nat) (a0 : Int) (a1 : Int) (a2_0 : Int) (a2_1 : Int) (a2_2 : Int) (a3_0 : Int) (a3_1 : Int) (r0 : Bool) (w : World)  (h : laws_FnExactInversePoint.f K a0 a1 a2_0 a2_1 a2_2 a3_0 a3_1 = some (r0)) :
    Calls Try.prog 5 #[.int .i64 a0, .int .i64 a1, .agg #[.int .i64 a2_0, .int .i64 a2_1, .int .i64 a2_2], .agg #[.int .i64 a3_0, .int .i64 a3_1]] w fun e w' => e = .returned (.bool r0) ∧ Up w w' := by
 have H : (((laws_toCircle.f K a2_0 a2_1 a2_2).bind fun (t9, t10, t11) => ((laws_toPoint.f K a3_0 a3_1).bind fun (t13, t14) => ((spec_InversePoint.f K a0 a1 t9 t10 t11 t13 t14).bind fun (t16, t17, t18) => ((laws_toCircle.f K a2_0 a2_1 a2_2).bind fun (t28, t29, t30) => ((laws_toPoint.f K a3_0 a3_1).bind fun (t32, t33) => ((impl_InversePoint.f K a0 a1 t28 t29 t30 t32 t33).bind fun (t35, t36, t37) => ((laws_eqPoint.f K t35 t36 t16 t17).bind fun t48 => (if t48 = true then (if (t37 == t18) = true then some true else some false) else some false)))))))) : Option (Bool)) = some (r0) := h
 clear h
 replace H := Option.bind_eq_some_iff.mp H
 obtain ⟨⟨t9, t10, t11⟩, A12, H⟩ := H
 replace A12 := Aside0.mk A12
 try dsimp only at H
 replace H := Option.bind_eq_some_iff.mp H
 obtain ⟨⟨t13, t14⟩, A15, H⟩ := H
 replace A15 := Aside0.mk A15
 try dsimp only at H
 replace H := Option.bind_eq_some_iff.mp H
 obtain ⟨⟨t16, t17, t18⟩, A19, H⟩ := H
 replace A19 := Aside0.mk A19
 try dsimp only at H
 replace H := Option.bind_eq_some_iff.mp H
 obtain ⟨⟨t28, t29, t30⟩, A31, H⟩ := H
 replace A31 := Aside0.mk A31
 try dsimp only at H
 replace H := Option.bind_eq_some_iff.mp H
 obtain ⟨⟨t32, t33⟩, A34, H⟩ := H
 replace A34 := Aside0.mk A34
 try dsimp only at H
 replace H := Option.bind_eq_some_iff.mp H
 obtain ⟨⟨t35, t36, t37⟩, A38, H⟩ := H
 replace A38 := Aside0.mk A38
 try dsimp only at H
 replace H := Option.bind_eq_some_iff.mp H
 obtain ⟨t48, A49, H⟩ := H
 replace A49 := Aside0.mk A49
 try dsimp only at H
 by_cases c52 : (t48) = true
 ·
  rw [if_pos c52] at H
  subst c52
  by_cases c53 : (t37 == t18) = true
  ·
   rw [if_pos c53] at H
   have c53n : (t37 != t18) = false := by rw [bne, c53]; rfl
   obtain rfl := Option.some.inj H
   go_enter Try.func5, Try.ntmps5
   refine wp_hide (fun Qf hQf => ?_)
   refine wp_seq_k (fun K1 hK1 => ?_)
   refine wp_region_lit ?_
   refine step_new (cs := [.int .i64 a2_0, .int .i64 a2_1, .int .i64 a2_2]) (T := 24) (f := fun b => .pointer (some ⟨b, 0, none⟩)) rfl (by first | (go_simp; done) | (go_simp; rfl)) ?_
   intro b2 w3 hu lb hb2
   simp only [Act.put, nm1, nm2, nm3, i64_w]
   have lbb2 := Aside0.mk lb
   have ltb2 := Aside0.mk hb2.lt
   clear lb
   have hu4 := Aside0.mk hu
   clear hu
   refine step_new (cs := [.int .i64 a3_0, .int .i64 a3_1]) (T := 22) (f := fun b => .pointer (some ⟨b, 0, none⟩)) rfl (by first | (go_simp; done) | (go_simp; rfl)) ?_
   intro b5 w6 hu lb hb5
   simp only [Act.put, nm1, nm2, nm3, i64_w]
   have lbb5 := Aside0.mk lb
   have ltb5 := Aside0.mk hb5.lt
   clear lb
   have hu7 := Aside0.mk hu
   clear hu
   refine wpList_plain rfl (fun Ko hKo => ?_)
   go_simp
   refine hKo _ _ ?_
   clear hKo Ko
   try simp only [Act.put, nm1, nm2, nm3, i64_w]
   refine wpList_nil ?_
   (try simp only [Exit.then, Exit.inBlock, ↓reduceIte, Nat.reduceEqDiff])
   refine hK1 _ _ ?_
   refine wp_seq_k (fun K8 hK8 => ?_)
   refine' wp_region_late 11 [9] [Slot.det _, Slot.det _, Slot.det _, Slot.det (.agg #[.int .i64 t9, .int .i64 t10, .int .i64 t11]), Slot.det _, Slot.det (.agg #[.int .i64 t13, .int .i64 t14]), Slot.det (.tuple #[.agg #[.int .i64 t16, .int .i64 t17], .int .i64 t18]), Slot.det _, Slot.det _, Slot.det _, Slot.any (PtrTo [.int .i64 0, .int .i64 0] 27) true] (by kernel_rfl) [true, true, true, true, true, true, true, true, true, true, false] (by kernel_rfl) rfl (by kernel_rfl) (by decide) ?main
   case main =>
    simp only [List.take_succ_cons, List.take_zero]
    refine wpK_ops rfl (fun w1 hu => ?_) ?_
    · clear hu
      go_simp
      first | done | rfl
    simp only [Act.put, nm1, nm2, nm3, i64_w]
    refine wpK_ops rfl (fun w1 hu => ?_) ?_
    · clear hu
      go_simp
      first | done | rfl
    simp only [Act.put, nm1, nm2, nm3, i64_w]
    refine wpK_ops rfl (fun w1 hu => ?_) ?_
    · have cl0 := ((hb2.up hu7.out).up ((Up.refl _).drew.trans hu)).cell (o := 0) rfl
      have cl1 := ((hb2.up hu7.out).up ((Up.refl _).drew.trans hu)).cell (o := 1) rfl
      have cl2 := ((hb2.up hu7.out).up ((Up.refl _).drew.trans hu)).cell (o := 2) rfl
      go_simp
      first | done | rfl
    simp only [Act.put, nm1, nm2, nm3, i64_w]
    refine wpK_ops rfl (fun w1 hu => ?_) ?_
    · have hcl := (laws_toCircle.calls K a2_0 a2_1 a2_2 t9 t10 t11 w1  A12.out)
      clear hu
      replace hcl := Aside0.mk hcl
      go_simp
      exact hcl.out
    simp only [Act.put, nm1, nm2, nm3, i64_w]
    refine wpK_ops rfl (fun w1 hu => ?_) ?_
    · have cl0 := (hb5.up ((Up.refl _).drew.trans hu)).cell (o := 0) rfl
      have cl1 := (hb5.up ((Up.refl _).drew.trans hu)).cell (o := 1) rfl
      go_simp
      first | done | rfl
    simp only [Act.put, nm1, nm2, nm3, i64_w]
    refine wpK_ops rfl (fun w1 hu => ?_) ?_
    · have hcl := (laws_toPoint.calls K a3_0 a3_1 t13 t14 w1  A15.out)
      clear hu
      replace hcl := Aside0.mk hcl
      go_simp
      exact hcl.out
    simp only [Act.put, nm1, nm2, nm3, i64_w]
    refine wpK_ops rfl (fun w1 hu => ?_) ?_
    · have hcl := (spec_InversePoint.calls K a0 a1 t9 t10 t11 t13 t14 t16 t17 t18 w1  A19.out)
      clear hu
      replace hcl := Aside0.mk hcl
      go_simp
      exact hcl.out
    simp only [Act.put, nm1, nm2, nm3, i64_w]
    refine wpK_ops rfl (fun w1 hu => ?_) ?_
    · clear hu
      go_simp
      first | done | rfl
    simp only [Act.put, nm1, nm2, nm3, i64_w]
    refine wpK_ops rfl (fun w1 hu => ?_) ?_
    · clear hu
      go_simp
      first | done | rfl
    simp only [Act.put, nm1, nm2, nm3, i64_w]
    refine wpK_ops rfl (fun w1 hu => ?_) ?_
    · clear hu
      go_simp
      first | done | rfl
    simp only [Act.put, nm1, nm2, nm3, i64_w]
    refine wpK_any rfl (stab_ptr _ _) (fun w1 _ _ => fresh_ptr (by first | (go_simp; done) | (go_simp; rfl))) (fun v20 => ?_)
    simp only [Act.put, nm1, nm2, nm3, i64_w]
    refine wpK_nil ?_
    intro w22 hu hap
    simp only [List.drop_succ_cons, List.drop_zero]
    replace hu := (Up.refl _).drew.trans hu
    obtain ⟨hf0, hn0, ⟨b21, e0, hb21⟩, -⟩ := hap
    have lbb21 := Aside0.mk (hf0 rfl b21 (by rw [e0]; rfl)).1
    have ltb21 := Aside0.mk hb21.lt
    dsimp only at e0
    subst e0
    clear hf0 hn0
    have hu23 := Aside0.mk hu
    clear hu
    refine late_cons (Up.of_drew hu23.out) ?_
    have hB0 := hb21
    have cl0 := hB0.cell (o := 0) rfl
    have fr0 := hB0.free 0
    have cl1 := hB0.cell (o := 1) rfl
    have fr1 := hB0.free 1
    refine step_store (b := b21) (cs' := [.int .i64 t16, .int .i64 t17]) (T := 27) (W' := ((w22.setCell ⟨b21, 0, none⟩ (.int .i64 t16)).setCell ⟨b21, 1, none⟩ (.int .i64 t17))) rfl rfl (by first | (go_simp; done) | (go_simp; rfl)) (((Sto.refl _ _).setCell 0 _).setCell 1 _) (((hB0).setCell 0 _).setCell 1 _) ?_
    clear hB0 cl0 fr0 cl1 fr1
    intro w24 hs hb26
    have hs25 := Aside0.mk hs
    clear hs
    refine wpList_nil ?_
    refine wrapQ_k ?_
    refine late_cons (Up.of_drew (hu23.out.sto (Nat.le_trans (Nat.le_refl _) lbb21.out) hs25.out)) ?_
    refine wpList_plain rfl (fun Ko hKo => ?_)
    go_simp
    refine hKo _ _ ?_
    clear hKo Ko
    try simp only [Act.put, nm1, nm2, nm3, i64_w]
    refine wpList_nil ?_
    refine wrapQ_k ?_
    refine late_nil (Up.of_drew (hu23.out.sto (Nat.le_trans (Nat.le_refl _) lbb21.out) hs25.out)) ?_
    (try simp only [Exit.then, Exit.inBlock, ↓reduceIte, Nat.reduceEqDiff])
    refine hK8 _ _ ?_
    refine wp_seq_k (fun K27 hK27 => ?_)
    refine' wp_region_late 11 [9] [Slot.det _, Slot.det _, Slot.det _, Slot.det (.agg #[.int .i64 t28, .int .i64 t29, .int .i64 t30]), Slot.det _, Slot.det (.agg #[.int .i64 t32, .int .i64 t33]), Slot.det (.tuple #[.agg #[.int .i64 t35, .int .i64 t36], .int .i64 t37]), Slot.det _, Slot.det _, Slot.det _, Slot.any (PtrTo [.int .i64 0, .int .i64 0] 27) true] (by kernel_rfl) [true, true, true, true, true, true, true, true, true, true, false] (by kernel_rfl) rfl (by kernel_rfl) (by decide) ?main
    case main =>
     simp only [List.take_succ_cons, List.take_zero]
     refine wpK_ops rfl (fun w1 hu => ?_) ?_
     · clear hu
       go_simp
       first | done | rfl
     simp only [Act.put, nm1, nm2, nm3, i64_w]
     refine wpK_ops rfl (fun w1 hu => ?_) ?_
     · clear hu
       go_simp
       first | done | rfl
     simp only [Act.put, nm1, nm2, nm3, i64_w]
     refine wpK_ops rfl (fun w1 hu => ?_) ?_
     · have cl0 := ((hb2.up ((hu7.out.trans hu23.out).sto (Nat.le_trans (hu7.out.size) lbb21.out) hs25.out)).up ((Up.refl _).drew.trans hu)).cell (o := 0) rfl
       have cl1 := ((hb2.up ((hu7.out.trans hu23.out).sto (Nat.le_trans (hu7.out.size) lbb21.out) hs25.out)).up ((Up.refl _).drew.trans hu)).cell (o := 1) rfl
       have cl2 := ((hb2.up ((hu7.out.trans hu23.out).sto (Nat.le_trans (hu7.out.size) lbb21.out) hs25.out)).up ((Up.refl _).drew.trans hu)).cell (o := 2) rfl
       go_simp
       first | done | rfl
     simp only [Act.put, nm1, nm2, nm3, i64_w]
     refine wpK_ops rfl (fun w1 hu => ?_) ?_
     · have hcl := (laws_toCircle.calls K a2_0 a2_1 a2_2 t28 t29 t30 w1  A31.out)
       clear hu
       replace hcl := Aside0.mk hcl
       go_simp
       exact hcl.out
     simp only [Act.put, nm1, nm2, nm3, i64_w]
     refine wpK_ops rfl (fun w1 hu => ?_) ?_
     · have cl0 := ((hb5.up (hu23.out.sto (Nat.le_trans (Nat.le_refl _) lbb21.out) hs25.out)).up ((Up.refl _).drew.trans hu)).cell (o := 0) rfl
       have cl1 := ((hb5.up (hu23.out.sto (Nat.le_trans (Nat.le_refl _) lbb21.out) hs25.out)).up ((Up.refl _).drew.trans hu)).cell (o := 1) rfl
       go_simp
       first | done | rfl
     simp only [Act.put, nm1, nm2, nm3, i64_w]
     refine wpK_ops rfl (fun w1 hu => ?_) ?_
     · have hcl := (laws_toPoint.calls K a3_0 a3_1 t32 t33 w1  A34.out)
       clear hu
       replace hcl := Aside0.mk hcl
       go_simp
       exact hcl.out
     simp only [Act.put, nm1, nm2, nm3, i64_w]
     refine wpK_ops rfl (fun w1 hu => ?_) ?_
     · have hcl := (impl_InversePoint.calls K a0 a1 t28 t29 t30 t32 t33 t35 t36 t37 w1  A38.out)
       clear hu
       replace hcl := Aside0.mk hcl
       go_simp
       exact hcl.out
     simp only [Act.put, nm1, nm2, nm3, i64_w]
     refine wpK_ops rfl (fun w1 hu => ?_) ?_
     · clear hu
       go_simp
       first | done | rfl
     simp only [Act.put, nm1, nm2, nm3, i64_w]
     refine wpK_ops rfl (fun w1 hu => ?_) ?_
     · clear hu
       go_simp
       first | done | rfl
     simp only [Act.put, nm1, nm2, nm3, i64_w]
     refine wpK_ops rfl (fun w1 hu => ?_) ?_
     · clear hu
       go_simp
       first | done | rfl
     simp only [Act.put, nm1, nm2, nm3, i64_w]
     refine wpK_any rfl (stab_ptr _ _) (fun w1 _ _ => fresh_ptr (by first | (go_simp; done) | (go_simp; rfl))) (fun v39 => ?_)
     simp only [Act.put, nm1, nm2, nm3, i64_w]
     refine wpK_nil ?_
     intro w41 hu hap
     simp only [List.drop_succ_cons, List.drop_zero]
     replace hu := (Up.refl _).drew.trans hu
     obtain ⟨hf0, hn0, ⟨b40, e0, hb40⟩, -⟩ := hap
     have lbb40 := Aside0.mk (hf0 rfl b40 (by rw [e0]; rfl)).1
     have ltb40 := Aside0.mk hb40.lt
     dsimp only at e0
     subst e0
     clear hf0 hn0
     have hu42 := Aside0.mk hu
     clear hu
     refine late_cons (Up.of_drew hu42.out) ?_
     have hB0 := hb40
     have cl0 := hB0.cell (o := 0) rfl
     have fr0 := hB0.free 0
     have cl1 := hB0.cell (o := 1) rfl
     have fr1 := hB0.free 1
     refine step_store (b := b40) (cs' := [.int .i64 t35, .int .i64 t36]) (T := 27) (W' := ((w41.setCell ⟨b40, 0, none⟩ (.int .i64 t35)).setCell ⟨b40, 1, none⟩ (.int .i64 t36))) rfl rfl (by first | (go_simp; done) | (go_simp; rfl)) (((Sto.refl _ _).setCell 0 _).setCell 1 _) (((hB0).setCell 0 _).setCell 1 _) ?_
     clear hB0 cl0 fr0 cl1 fr1
     intro w43 hs hb45
     have hs44 := Aside0.mk hs
     clear hs
     refine wpList_nil ?_
     refine wrapQ_k ?_
     refine late_cons (Up.of_drew (hu42.out.sto (Nat.le_trans (Nat.le_refl _) lbb40.out) hs44.out)) ?_
     refine wpList_plain rfl (fun Ko hKo => ?_)
     go_simp
     refine hKo _ _ ?_
     clear hKo Ko
     try simp only [Act.put, nm1, nm2, nm3, i64_w]
     refine wpList_nil ?_
     refine wrapQ_k ?_
     refine late_nil (Up.of_drew (hu42.out.sto (Nat.le_trans (Nat.le_refl _) lbb40.out) hs44.out)) ?_
     (try simp only [Exit.then, Exit.inBlock, ↓reduceIte, Nat.reduceEqDiff])
     refine hK27 _ _ ?_
     refine wp_seq_k (fun K46 hK46 => ?_)
     refine wp_seq_k (fun K47 hK47 => ?_)
     refine wp_region_lit ?_
     have cl0 := hb45.cell (o := 0) rfl
     have cl1 := hb45.cell (o := 1) rfl
     refine wpList_plain rfl (fun Ko hKo => ?_)
     go_simp
     refine hKo _ _ ?_
     clear hKo Ko
     clear cl0 cl1
     try simp only [Act.put, nm1, nm2, nm3, i64_w]
     have cl0 := (hb26.up (hu42.out.sto (Nat.le_trans (Nat.le_refl _) lbb40.out) hs44.out)).cell (o := 0) rfl
     have cl1 := (hb26.up (hu42.out.sto (Nat.le_trans (Nat.le_refl _) lbb40.out) hs44.out)).cell (o := 1) rfl
     refine wpList_plain rfl (fun Ko hKo => ?_)
     go_simp
     refine hKo _ _ ?_
     clear hKo Ko
     clear cl0 cl1
     try simp only [Act.put, nm1, nm2, nm3, i64_w]
     refine step_call (wanted_none rfl) (by first | (go_simp; done) | (go_simp; rfl)) (laws_eqPoint.calls K t35 t36 t16 t17 true w43  A49.out) ?_
     rintro e w50 ⟨rfl, hu⟩
     have hu51 := Aside0.mk hu
     clear hu
     refine ⟨_, rfl, ?_⟩
     simp only [Act.put, nm1, nm2, nm3, i64_w]
     refine wpList_plain rfl (fun Ko hKo => ?_)
     go_simp
     refine hKo _ _ ?_
     clear hKo Ko
     try simp only [Act.put, nm1, nm2, nm3, i64_w]
     refine wpList_plain rfl (fun Ko hKo => ?_)
     go_simp
     refine hKo _ _ ?_
     clear hKo Ko
     try simp only [Act.put, nm1, nm2, nm3, i64_w]
     refine wpList_step (fun Ko hKo => ?_)
     go_simp
     refine hKo _ _ ?_
     clear hKo Ko
     try simp only [Act.put, nm1, nm2, nm3, i64_w]
     refine wpList_step (fun Ko hKo => ?_)
     go_simp
     refine hKo _ _ ?_
     clear hKo Ko
     try simp only [Act.put, nm1, nm2, nm3, i64_w]
     refine wpList_step (fun Ko hKo => ?_)
     go_simp
     refine hKo _ _ ?_
     clear hKo Ko
     try simp only [Act.put, nm1, nm2, nm3, i64_w]
     refine wpList_plain rfl (fun Ko hKo => ?_)
     go_simp
     refine hKo _ _ ?_
     clear hKo Ko
     try simp only [Act.put, nm1, nm2, nm3, i64_w]
     refine wpList_nil ?_
     (try simp only [Exit.then, Exit.inBlock, ↓reduceIte, Nat.reduceEqDiff])
     refine hK47 _ _ ?_
     refine wp_cond_false rfl ?_
     refine wp_skip ?_
     (try simp only [Exit.then, Exit.inBlock, ↓reduceIte, Nat.reduceEqDiff])
     refine hK46 _ _ ?_
     refine wp_seq_k (fun K54 hK54 => ?_)
     refine wp_region_lit ?_
     refine wpList_plain rfl (fun Ko hKo => ?_)
     go_simp
     refine hKo _ _ ?_
     clear hKo Ko
     try simp only [Act.put, nm1, nm2, nm3, i64_w]
     refine wpList_nil ?_
     (try simp only [Exit.then, Exit.inBlock, ↓reduceIte, Nat.reduceEqDiff])
     refine hK54 _ _ ?_
     refine wp_ret ?_
     (try simp only [Exit.then, Exit.inBlock, ↓reduceIte, Nat.reduceEqDiff])
     refine hQf _ _ _ ?_
     exact bodyPost_ret (v := .bool true) (by first | rfl | (simp [results, Try.results5, go_sem]; done) | (simp [results, Try.results5, go_sem]; rfl)) rfl ⟨rfl, ((((((hu4.out.trans hu7.out).trans hu23.out).sto (Nat.le_trans ((Nat.le_trans (hu4.out.size) hu7.out.size)) lbb21.out) hs25.out).trans hu42.out).sto (Nat.le_trans ((Nat.le_trans ((Nat.le_trans ((Nat.le_trans (hu4.out.size) hu7.out.size)) hu23.out.size)) (Nat.le_of_eq hs25.out.size.symm))) lbb40.out) hs44.out).trans hu51.out)⟩
  ·
   rw [if_neg c53] at H
   replace c53 := Bool.eq_false_iff.mpr c53
   have c53n : (t37 != t18) = true := by rw [bne, c53]; rfl
   have c53p : ¬ t37 = t18 := fun e => by simp [e] at c53
   obtain rfl := Option.some.inj H
   go_enter Try.func5, Try.ntmps5
   refine wp_hide (fun Qf hQf => ?_)
   refine wp_seq_k (fun K1 hK1 => ?_)
   refine wp_region_lit ?_
   refine step_new (cs := [.int .i64 a2_0, .int .i64 a2_1, .int .i64 a2_2]) (T := 24) (f := fun b => .pointer (some ⟨b, 0, none⟩)) rfl (by first | (go_simp; done) | (go_simp; rfl)) ?_
   intro b2 w3 hu lb hb2
   simp only [Act.put, nm1, nm2, nm3, i64_w]
   have lbb2 := Aside0.mk lb
   have ltb2 := Aside0.mk hb2.lt
   clear lb
   have hu4 := Aside0.mk hu
   clear hu
   refine step_new (cs := [.int .i64 a3_0, .int .i64 a3_1]) (T := 22) (f := fun b => .pointer (some ⟨b, 0, none⟩)) rfl (by first | (go_simp; done) | (go_simp; rfl)) ?_
   intro b5 w6 hu lb hb5
   simp only [Act.put, nm1, nm2, nm3, i64_w]
   have lbb5 := Aside0.mk lb
   have ltb5 := Aside0.mk hb5.lt
   clear lb
   have hu7 := Aside0.mk hu
   clear hu
   refine wpList_plain rfl (fun Ko hKo => ?_)
   go_simp
   refine hKo _ _ ?_
   clear hKo Ko
   try simp only [Act.put, nm1, nm2, nm3, i64_w]
   refine wpList_nil ?_
   (try simp only [Exit.then, Exit.inBlock, ↓reduceIte, Nat.reduceEqDiff])
   refine hK1 _ _ ?_
   refine wp_seq_k (fun K8 hK8 => ?_)
   refine' wp_region_late 11 [9] [Slot.det _, Slot.det _, Slot.det _, Slot.det (.agg #[.int .i64 t9, .int .i64 t10, .int .i64 t11]), Slot.det _, Slot.det (.agg #[.int .i64 t13, .int .i64 t14]), Slot.det (.tuple #[.agg #[.int .i64 t16, .int .i64 t17], .int .i64 t18]), Slot.det _, Slot.det _, Slot.det _, Slot.any (PtrTo [.int .i64 0, .int .i64 0] 27) true] (by kernel_rfl) [true, true, true, true, true, true, true, true, true, true, false] (by kernel_rfl) rfl (by kernel_rfl) (by decide) ?main
   case main =>
    simp only [List.take_succ_cons, List.take_zero]
    refine wpK_ops rfl (fun w1 hu => ?_) ?_
    · clear hu
      go_simp
      first | done | rfl
    simp only [Act.put, nm1, nm2, nm3, i64_w]
    refine wpK_ops rfl (fun w1 hu => ?_) ?_
    · clear hu
      go_simp
      first | done | rfl
    simp only [Act.put, nm1, nm2, nm3, i64_w]
    refine wpK_ops rfl (fun w1 hu => ?_) ?_
    · have cl0 := ((hb2.up hu7.out).up ((Up.refl _).drew.trans hu)).cell (o := 0) rfl
      have cl1 := ((hb2.up hu7.out).up ((Up.refl _).drew.trans hu)).cell (o := 1) rfl
      have cl2 := ((hb2.up hu7.out).up ((Up.refl _).drew.trans hu)).cell (o := 2) rfl
      go_simp
      first | done | rfl
    simp only [Act.put, nm1, nm2, nm3, i64_w]
    refine wpK_ops rfl (fun w1 hu => ?_) ?_
    · have hcl := (laws_toCircle.calls K a2_0 a2_1 a2_2 t9 t10 t11 w1  A12.out)
      clear hu
      replace hcl := Aside0.mk hcl
      go_simp
      exact hcl.out
    simp only [Act.put, nm1, nm2, nm3, i64_w]
    refine wpK_ops rfl (fun w1 hu => ?_) ?_
    · have cl0 := (hb5.up ((Up.refl _).drew.trans hu)).cell (o := 0) rfl
      have cl1 := (hb5.up ((Up.refl _).drew.trans hu)).cell (o := 1) rfl
      go_simp
      first | done | rfl
    simp only [Act.put, nm1, nm2, nm3, i64_w]
    refine wpK_ops rfl (fun w1 hu => ?_) ?_
    · have hcl := (laws_toPoint.calls K a3_0 a3_1 t13 t14 w1  A15.out)
      clear hu
      replace hcl := Aside0.mk hcl
      go_simp
      exact hcl.out
    simp only [Act.put, nm1, nm2, nm3, i64_w]
    refine wpK_ops rfl (fun w1 hu => ?_) ?_
    · have hcl := (spec_InversePoint.calls K a0 a1 t9 t10 t11 t13 t14 t16 t17 t18 w1  A19.out)
      clear hu
      replace hcl := Aside0.mk hcl
      go_simp
      exact hcl.out
    simp only [Act.put, nm1, nm2, nm3, i64_w]
    refine wpK_ops rfl (fun w1 hu => ?_) ?_
    · clear hu
      go_simp
      first | done | rfl
    simp only [Act.put, nm1, nm2, nm3, i64_w]
    refine wpK_ops rfl (fun w1 hu => ?_) ?_
    · clear hu
      go_simp
      first | done | rfl
    simp only [Act.put, nm1, nm2, nm3, i64_w]
    refine wpK_ops rfl (fun w1 hu => ?_) ?_
    · clear hu
      go_simp
      first | done | rfl
    simp only [Act.put, nm1, nm2, nm3, i64_w]
    refine wpK_any rfl (stab_ptr _ _) (fun w1 _ _ => fresh_ptr (by first | (go_simp; done) | (go_simp; rfl))) (fun v20 => ?_)
    simp only [Act.put, nm1, nm2, nm3, i64_w]
    refine wpK_nil ?_
    intro w22 hu hap
    simp only [List.drop_succ_cons, List.drop_zero]
    replace hu := (Up.refl _).drew.trans hu
    obtain ⟨hf0, hn0, ⟨b21, e0, hb21⟩, -⟩ := hap
    have lbb21 := Aside0.mk (hf0 rfl b21 (by rw [e0]; rfl)).1
    have ltb21 := Aside0.mk hb21.lt
    dsimp only at e0
    subst e0
    clear hf0 hn0
    have hu23 := Aside0.mk hu
    clear hu
    refine late_cons (Up.of_drew hu23.out) ?_
    have hB0 := hb21
    have cl0 := hB0.cell (o := 0) rfl
    have fr0 := hB0.free 0
    have cl1 := hB0.cell (o := 1) rfl
    have fr1 := hB0.free 1
    refine step_store (b := b21) (cs' := [.int .i64 t16, .int .i64 t17]) (T := 27) (W' := ((w22.setCell ⟨b21, 0, none⟩ (.int .i64 t16)).setCell ⟨b21, 1, none⟩ (.int .i64 t17))) rfl rfl (by first | (go_simp; done) | (go_simp; rfl)) (((Sto.refl _ _).setCell 0 _).setCell 1 _) (((hB0).setCell 0 _).setCell 1 _) ?_
    clear hB0 cl0 fr0 cl1 fr1
    intro w24 hs hb26
    have hs25 := Aside0.mk hs
    clear hs
    refine wpList_nil ?_
    refine wrapQ_k ?_
    refine late_cons (Up.of_drew (hu23.out.sto (Nat.le_trans (Nat.le_refl _) lbb21.out) hs25.out)) ?_
    refine wpList_plain rfl (fun Ko hKo => ?_)
    go_simp
    refine hKo _ _ ?_
    clear hKo Ko
    try simp only [Act.put, nm1, nm2, nm3, i64_w]
    refine wpList_nil ?_
    refine wrapQ_k ?_
    refine late_nil (Up.of_drew (hu23.out.sto (Nat.le_trans (Nat.le_refl _) lbb21.out) hs25.out)) ?_
    (try simp only [Exit.then, Exit.inBlock, ↓reduceIte, Nat.reduceEqDiff])
    refine hK8 _ _ ?_
    refine wp_seq_k (fun K27 hK27 => ?_)
    refine' wp_region_late 11 [9] [Slot.det _, Slot.det _, Slot.det _, Slot.det (.agg #[.int .i64 t28, .int .i64 t29, .int .i64 t30]), Slot.det _, Slot.det (.agg #[.int .i64 t32, .int .i64 t33]), Slot.det (.tuple #[.agg #[.int .i64 t35, .int .i64 t36], .int .i64 t37]), Slot.det _, Slot.det _, Slot.det _, Slot.any (PtrTo [.int .i64 0, .int .i64 0] 27) true] (by kernel_rfl) [true, true, true, true, true, true, true, true, true, true, false] (by kernel_rfl) rfl (by kernel_rfl) (by decide) ?main
    case main =>
     simp only [List.take_succ_cons, List.take_zero]
     refine wpK_ops rfl (fun w1 hu => ?_) ?_
     · clear hu
       go_simp
       first | done | rfl
     simp only [Act.put, nm1, nm2, nm3, i64_w]
     refine wpK_ops rfl (fun w1 hu => ?_) ?_
     · clear hu
       go_simp
       first | done | rfl
     simp only [Act.put, nm1, nm2, nm3, i64_w]
     refine wpK_ops rfl (fun w1 hu => ?_) ?_
     · have cl0 := ((hb2.up ((hu7.out.trans hu23.out).sto (Nat.le_trans (hu7.out.size) lbb21.out) hs25.out)).up ((Up.refl _).drew.trans hu)).cell (o := 0) rfl
       have cl1 := ((hb2.up ((hu7.out.trans hu23.out).sto (Nat.le_trans (hu7.out.size) lbb21.out) hs25.out)).up ((Up.refl _).drew.trans hu)).cell (o := 1) rfl
       have cl2 := ((hb2.up ((hu7.out.trans hu23.out).sto (Nat.le_trans (hu7.out.size) lbb21.out) hs25.out)).up ((Up.refl _).drew.trans hu)).cell (o := 2) rfl
       go_simp
       first | done | rfl
     simp only [Act.put, nm1, nm2, nm3, i64_w]
     refine wpK_ops rfl (fun w1 hu => ?_) ?_
     · have hcl := (laws_toCircle.calls K a2_0 a2_1 a2_2 t28 t29 t30 w1  A31.out)
       clear hu
       replace hcl := Aside0.mk hcl
       go_simp
       exact hcl.out
     simp only [Act.put, nm1, nm2, nm3, i64_w]
     refine wpK_ops rfl (fun w1 hu => ?_) ?_
     · have cl0 := ((hb5.up (hu23.out.sto (Nat.le_trans (Nat.le_refl _) lbb21.out) hs25.out)).up ((Up.refl _).drew.trans hu)).cell (o := 0) rfl
       have cl1 := ((hb5.up (hu23.out.sto (Nat.le_trans (Nat.le_refl _) lbb21.out) hs25.out)).up ((Up.refl _).drew.trans hu)).cell (o := 1) rfl
       go_simp
       first | done | rfl
     simp only [Act.put, nm1, nm2, nm3, i64_w]
     refine wpK_ops rfl (fun w1 hu => ?_) ?_
     · have hcl := (laws_toPoint.calls K a3_0 a3_1 t32 t33 w1  A34.out)
       clear hu
       replace hcl := Aside0.mk hcl
       go_simp
       exact hcl.out
     simp only [Act.put, nm1, nm2, nm3, i64_w]
     refine wpK_ops rfl (fun w1 hu => ?_) ?_
     · have hcl := (impl_InversePoint.calls K a0 a1 t28 t29 t30 t32 t33 t35 t36 t37 w1  A38.out)
       clear hu
       replace hcl := Aside0.mk hcl
       go_simp
       exact hcl.out
     simp only [Act.put, nm1, nm2, nm3, i64_w]
     refine wpK_ops rfl (fun w1 hu => ?_) ?_
     · clear hu
       go_simp
       first | done | rfl
     simp only [Act.put, nm1, nm2, nm3, i64_w]
     refine wpK_ops rfl (fun w1 hu => ?_) ?_
     · clear hu
       go_simp
       first | done | rfl
     simp only [Act.put, nm1, nm2, nm3, i64_w]
     refine wpK_ops rfl (fun w1 hu => ?_) ?_
     · clear hu
       go_simp
       first | done | rfl
     simp only [Act.put, nm1, nm2, nm3, i64_w]
     refine wpK_any rfl (stab_ptr _ _) (fun w1 _ _ => fresh_ptr (by first | (go_simp; done) | (go_simp; rfl))) (fun v39 => ?_)
     simp only [Act.put, nm1, nm2, nm3, i64_w]
     refine wpK_nil ?_
     intro w41 hu hap
     simp only [List.drop_succ_cons, List.drop_zero]
     replace hu := (Up.refl _).drew.trans hu
     obtain ⟨hf0, hn0, ⟨b40, e0, hb40⟩, -⟩ := hap
     have lbb40 := Aside0.mk (hf0 rfl b40 (by rw [e0]; rfl)).1
     have ltb40 := Aside0.mk hb40.lt
     dsimp only at e0
     subst e0
     clear hf0 hn0
     have hu42 := Aside0.mk hu
     clear hu
     refine late_cons (Up.of_drew hu42.out) ?_
     have hB0 := hb40
     have cl0 := hB0.cell (o := 0) rfl
     have fr0 := hB0.free 0
     have cl1 := hB0.cell (o := 1) rfl
     have fr1 := hB0.free 1
     refine step_store (b := b40) (cs' := [.int .i64 t35, .int .i64 t36]) (T := 27) (W' := ((w41.setCell ⟨b40, 0, none⟩ (.int .i64 t35)).setCell ⟨b40, 1, none⟩ (.int .i64 t36))) rfl rfl (by first | (go_simp; done) | (go_simp; rfl)) (((Sto.refl _ _).setCell 0 _).setCell 1 _) (((hB0).setCell 0 _).setCell 1 _) ?_
     clear hB0 cl0 fr0 cl1 fr1
     intro w43 hs hb45
     have hs44 := Aside0.mk hs
     clear hs
     refine wpList_nil ?_
     refine wrapQ_k ?_
     refine late_cons (Up.of_drew (hu42.out.sto (Nat.le_trans (Nat.le_refl _) lbb40.out) hs44.out)) ?_
     refine wpList_plain rfl (fun Ko hKo => ?_)
     go_simp
     refine hKo _ _ ?_
     clear hKo Ko
     try simp only [Act.put, nm1, nm2, nm3, i64_w]
     refine wpList_nil ?_
     refine wrapQ_k ?_
     refine late_nil (Up.of_drew (hu42.out.sto (Nat.le_trans (Nat.le_refl _) lbb40.out) hs44.out)) ?_
     (try simp only [Exit.then, Exit.inBlock, ↓reduceIte, Nat.reduceEqDiff])
     refine hK27 _ _ ?_
     refine wp_seq_k (fun K46 hK46 => ?_)
     refine wp_seq_k (fun K47 hK47 => ?_)
     refine wp_region_lit ?_
     have cl0 := hb45.cell (o := 0) rfl
     have cl1 := hb45.cell (o := 1) rfl
     refine wpList_plain rfl (fun Ko hKo => ?_)
     go_simp
     refine hKo _ _ ?_
     clear hKo Ko
     clear cl0 cl1
     try simp only [Act.put, nm1, nm2, nm3, i64_w]
     have cl0 := (hb26.up (hu42.out.sto (Nat.le_trans (Nat.le_refl _) lbb40.out) hs44.out)).cell (o := 0) rfl
     have cl1 := (hb26.up (hu42.out.sto (Nat.le_trans (Nat.le_refl _) lbb40.out) hs44.out)).cell (o := 1) rfl
     refine wpList_plain rfl (fun Ko hKo => ?_)
     go_simp
     refine hKo _ _ ?_
     clear hKo Ko
     clear cl0 cl1
     try simp only [Act.put, nm1, nm2, nm3, i64_w]
     refine step_call (wanted_none rfl) (by first | (go_simp; done) | (go_simp; rfl)) (laws_eqPoint.calls K t35 t36 t16 t17 true w43  A49.out) ?_
     rintro e w50 ⟨rfl, hu⟩
     have hu51 := Aside0.mk hu
     clear hu
     refine ⟨_, rfl, ?_⟩
     simp only [Act.put, nm1, nm2, nm3, i64_w]
     refine wpList_plain rfl (fun Ko hKo => ?_)
     go_simp
     refine hKo _ _ ?_
     clear hKo Ko
     try simp only [Act.put, nm1, nm2, nm3, i64_w]
     refine wpList_plain rfl (fun Ko hKo => ?_)
     go_simp
     refine hKo _ _ ?_
     clear hKo Ko
     try simp only [Act.put, nm1, nm2, nm3, i64_w]
     refine wpList_step (fun Ko hKo => ?_)
     go_simp
     refine hKo _ _ ?_
     clear hKo Ko
     try simp only [Act.put, nm1, nm2, nm3, i64_w]
     refine wpList_step (fun Ko hKo => ?_)
     go_simp
     refine hKo _ _ ?_
     clear hKo Ko
     try simp only [Act.put, nm1, nm2, nm3, i64_w]
     refine wpList_step (fun Ko hKo => ?_)
     go_simp
     refine hKo _ _ ?_
     clear hKo Ko
     try simp only [Act.put, nm1, nm2, nm3, i64_w]
     refine wpList_plain rfl (fun Ko hKo => ?_)
     go_simp
     refine hKo _ _ ?_
     clear hKo Ko
     try simp only [Act.put, nm1, nm2, nm3, i64_w]
     refine wpList_nil ?_
     (try simp only [Exit.then, Exit.inBlock, ↓reduceIte, Nat.reduceEqDiff])
     refine hK47 _ _ ?_
     refine wp_cond_true rfl ?_
     refine wp_seq_k (fun K55 hK55 => ?_)
     refine wp_region_lit ?_
     refine wpList_plain rfl (fun Ko hKo => ?_)
     go_simp
     refine hKo _ _ ?_
     clear hKo Ko
     try simp only [Act.put, nm1, nm2, nm3, i64_w]
     refine wpList_nil ?_
     (try simp only [Exit.then, Exit.inBlock, ↓reduceIte, Nat.reduceEqDiff])
     refine hK55 _ _ ?_
     refine wp_ret ?_
     (try simp only [Exit.then, Exit.inBlock, ↓reduceIte, Nat.reduceEqDiff])
     refine hQf _ _ _ ?_
     exact bodyPost_ret (v := .bool false) (by first | rfl | (simp [results, Try.results5, go_sem]; done) | (simp [results, Try.results5, go_sem]; rfl)) rfl ⟨rfl, ((((((hu4.out.trans hu7.out).trans hu23.out).sto (Nat.le_trans ((Nat.le_trans (hu4.out.size) hu7.out.size)) lbb21.out) hs25.out).trans hu42.out).sto (Nat.le_trans ((Nat.le_trans ((Nat.le_trans ((Nat.le_trans (hu4.out.size) hu7.out.size)) hu23.out.size)) (Nat.le_of_eq hs25.out.size.symm))) lbb40.out) hs44.out).trans hu51.out)⟩
 ·
  rw [if_neg c52] at H
  replace c52 := Bool.eq_false_iff.mpr c52
  subst c52
  obtain rfl := Option.some.inj H
  go_enter Try.func5, Try.ntmps5
  refine wp_hide (fun Qf hQf => ?_)
  refine wp_seq_k (fun K1 hK1 => ?_)
  refine wp_region_lit ?_
  refine step_new (cs := [.int .i64 a2_0, .int .i64 a2_1, .int .i64 a2_2]) (T := 24) (f := fun b => .pointer (some ⟨b, 0, none⟩)) rfl (by first | (go_simp; done) | (go_simp; rfl)) ?_
  intro b2 w3 hu lb hb2
  simp only [Act.put, nm1, nm2, nm3, i64_w]
  have lbb2 := Aside0.mk lb
  have ltb2 := Aside0.mk hb2.lt
  clear lb
  have hu4 := Aside0.mk hu
  clear hu
  refine step_new (cs := [.int .i64 a3_0, .int .i64 a3_1]) (T := 22) (f := fun b => .pointer (some ⟨b, 0, none⟩)) rfl (by first | (go_simp; done) | (go_simp; rfl)) ?_
  intro b5 w6 hu lb hb5
  simp only [Act.put, nm1, nm2, nm3, i64_w]
  have lbb5 := Aside0.mk lb
  have ltb5 := Aside0.mk hb5.lt
  clear lb
  have hu7 := Aside0.mk hu
  clear hu
  refine wpList_plain rfl (fun Ko hKo => ?_)
  go_simp
  refine hKo _ _ ?_
  clear hKo Ko
  try simp only [Act.put, nm1, nm2, nm3, i64_w]
  refine wpList_nil ?_
  (try simp only [Exit.then, Exit.inBlock, ↓reduceIte, Nat.reduceEqDiff])
  refine hK1 _ _ ?_
  refine wp_seq_k (fun K8 hK8 => ?_)
  refine' wp_region_late 11 [9] [Slot.det _, Slot.det _, Slot.det _, Slot.det (.agg #[.int .i64 t9, .int .i64 t10, .int .i64 t11]), Slot.det _, Slot.det (.agg #[.int .i64 t13, .int .i64 t14]), Slot.det (.tuple #[.agg #[.int .i64 t16, .int .i64 t17], .int .i64 t18]), Slot.det _, Slot.det _, Slot.det _, Slot.any (PtrTo [.int .i64 0, .int .i64 0] 27) true] (by kernel_rfl) [true, true, true, true, true, true, true, true, true, true, false] (by kernel_rfl) rfl (by kernel_rfl) (by decide) ?main
  case main =>
   simp only [List.take_succ_cons, List.take_zero]
   refine wpK_ops rfl (fun w1 hu => ?_) ?_
   · clear hu
     go_simp
     first | done | rfl
   simp only [Act.put, nm1, nm2, nm3, i64_w]
   refine wpK_ops rfl (fun w1 hu => ?_) ?_
   · clear hu
     go_simp
     first | done | rfl
   simp only [Act.put, nm1, nm2, nm3, i64_w]
   refine wpK_ops rfl (fun w1 hu => ?_) ?_
   · have cl0 := ((hb2.up hu7.out).up ((Up.refl _).drew.trans hu)).cell (o := 0) rfl
     have cl1 := ((hb2.up hu7.out).up ((Up.refl _).drew.trans hu)).cell (o := 1) rfl
     have cl2 := ((hb2.up hu7.out).up ((Up.refl _).drew.trans hu)).cell (o := 2) rfl
     go_simp
     first | done | rfl
   simp only [Act.put, nm1, nm2, nm3, i64_w]
   refine wpK_ops rfl (fun w1 hu => ?_) ?_
   · have hcl := (laws_toCircle.calls K a2_0 a2_1 a2_2 t9 t10 t11 w1  A12.out)
     clear hu
     replace hcl := Aside0.mk hcl
     go_simp
     exact hcl.out
   simp only [Act.put, nm1, nm2, nm3, i64_w]
   refine wpK_ops rfl (fun w1 hu => ?_) ?_
   · have cl0 := (hb5.up ((Up.refl _).drew.trans hu)).cell (o := 0) rfl
     have cl1 := (hb5.up ((Up.refl _).drew.trans hu)).cell (o := 1) rfl
     go_simp
     first | done | rfl
   simp only [Act.put, nm1, nm2, nm3, i64_w]
   refine wpK_ops rfl (fun w1 hu => ?_) ?_
   · have hcl := (laws_toPoint.calls K a3_0 a3_1 t13 t14 w1  A15.out)
     clear hu
     replace hcl := Aside0.mk hcl
     go_simp
     exact hcl.out
   simp only [Act.put, nm1, nm2, nm3, i64_w]
   refine wpK_ops rfl (fun w1 hu => ?_) ?_
   · have hcl := (spec_InversePoint.calls K a0 a1 t9 t10 t11 t13 t14 t16 t17 t18 w1  A19.out)
     clear hu
     replace hcl := Aside0.mk hcl
     go_simp
     exact hcl.out
   simp only [Act.put, nm1, nm2, nm3, i64_w]
   refine wpK_ops rfl (fun w1 hu => ?_) ?_
   · clear hu
     go_simp
     first | done | rfl
   simp only [Act.put, nm1, nm2, nm3, i64_w]
   refine wpK_ops rfl (fun w1 hu => ?_) ?_
   · clear hu
     go_simp
     first | done | rfl
   simp only [Act.put, nm1, nm2, nm3, i64_w]
   refine wpK_ops rfl (fun w1 hu => ?_) ?_
   · clear hu
     go_simp
     first | done | rfl
   simp only [Act.put, nm1, nm2, nm3, i64_w]
   refine wpK_any rfl (stab_ptr _ _) (fun w1 _ _ => fresh_ptr (by first | (go_simp; done) | (go_simp; rfl))) (fun v20 => ?_)
   simp only [Act.put, nm1, nm2, nm3, i64_w]
   refine wpK_nil ?_
   intro w22 hu hap
   simp only [List.drop_succ_cons, List.drop_zero]
   replace hu := (Up.refl _).drew.trans hu
   obtain ⟨hf0, hn0, ⟨b21, e0, hb21⟩, -⟩ := hap
   have lbb21 := Aside0.mk (hf0 rfl b21 (by rw [e0]; rfl)).1
   have ltb21 := Aside0.mk hb21.lt
   dsimp only at e0
   subst e0
   clear hf0 hn0
   have hu23 := Aside0.mk hu
   clear hu
   refine late_cons (Up.of_drew hu23.out) ?_
   have hB0 := hb21
   have cl0 := hB0.cell (o := 0) rfl
   have fr0 := hB0.free 0
   have cl1 := hB0.cell (o := 1) rfl
   have fr1 := hB0.free 1
   refine step_store (b := b21) (cs' := [.int .i64 t16, .int .i64 t17]) (T := 27) (W' := ((w22.setCell ⟨b21, 0, none⟩ (.int .i64 t16)).setCell ⟨b21, 1, none⟩ (.int .i64 t17))) rfl rfl (by first | (go_simp; done) | (go_simp; rfl)) (((Sto.refl _ _).setCell 0 _).setCell 1 _) (((hB0).setCell 0 _).setCell 1 _) ?_
   clear hB0 cl0 fr0 cl1 fr1
   intro w24 hs hb26
   have hs25 := Aside0.mk hs
   clear hs
   refine wpList_nil ?_
   refine wrapQ_k ?_
   refine late_cons (Up.of_drew (hu23.out.sto (Nat.le_trans (Nat.le_refl _) lbb21.out) hs25.out)) ?_
   refine wpList_plain rfl (fun Ko hKo => ?_)
   go_simp
   refine hKo _ _ ?_
   clear hKo Ko
   try simp only [Act.put, nm1, nm2, nm3, i64_w]
   refine wpList_nil ?_
   refine wrapQ_k ?_
   refine late_nil (Up.of_drew (hu23.out.sto (Nat.le_trans (Nat.le_refl _) lbb21.out) hs25.out)) ?_
   (try simp only [Exit.then, Exit.inBlock, ↓reduceIte, Nat.reduceEqDiff])
   refine hK8 _ _ ?_
   refine wp_seq_k (fun K27 hK27 => ?_)
   refine' wp_region_late 11 [9] [Slot.det _, Slot.det _, Slot.det _, Slot.det (.agg #[.int .i64 t28, .int .i64 t29, .int .i64 t30]), Slot.det _, Slot.det (.agg #[.int .i64 t32, .int .i64 t33]), Slot.det (.tuple #[.agg #[.int .i64 t35, .int .i64 t36], .int .i64 t37]), Slot.det _, Slot.det _, Slot.det _, Slot.any (PtrTo [.int .i64 0, .int .i64 0] 27) true] (by kernel_rfl) [true, true, true, true, true, true, true, true, true, true, false] (by kernel_rfl) rfl (by kernel_rfl) (by decide) ?main
   case main =>
    simp only [List.take_succ_cons, List.take_zero]
    refine wpK_ops rfl (fun w1 hu => ?_) ?_
    · clear hu
      go_simp
      first | done | rfl
    simp only [Act.put, nm1, nm2, nm3, i64_w]
    refine wpK_ops rfl (fun w1 hu => ?_) ?_
    · clear hu
      go_simp
      first | done | rfl
    simp only [Act.put, nm1, nm2, nm3, i64_w]
    refine wpK_ops rfl (fun w1 hu => ?_) ?_
    · have cl0 := ((hb2.up ((hu7.out.trans hu23.out).sto (Nat.le_trans (hu7.out.size) lbb21.out) hs25.out)).up ((Up.refl _).drew.trans hu)).cell (o := 0) rfl
      have cl1 := ((hb2.up ((hu7.out.trans hu23.out).sto (Nat.le_trans (hu7.out.size) lbb21.out) hs25.out)).up ((Up.refl _).drew.trans hu)).cell (o := 1) rfl
      have cl2 := ((hb2.up ((hu7.out.trans hu23.out).sto (Nat.le_trans (hu7.out.size) lbb21.out) hs25.out)).up ((Up.refl _).drew.trans hu)).cell (o := 2) rfl
      go_simp
      first | done | rfl
    simp only [Act.put, nm1, nm2, nm3, i64_w]
    refine wpK_ops rfl (fun w1 hu => ?_) ?_
    · have hcl := (laws_toCircle.calls K a2_0 a2_1 a2_2 t28 t29 t30 w1  A31.out)
      clear hu
      replace hcl := Aside0.mk hcl
      go_simp
      exact hcl.out
    simp only [Act.put, nm1, nm2, nm3, i64_w]
    refine wpK_ops rfl (fun w1 hu => ?_) ?_
    · have cl0 := ((hb5.up (hu23.out.sto (Nat.le_trans (Nat.le_refl _) lbb21.out) hs25.out)).up ((Up.refl _).drew.trans hu)).cell (o := 0) rfl
      have cl1 := ((hb5.up (hu23.out.sto (Nat.le_trans (Nat.le_refl _) lbb21.out) hs25.out)).up ((Up.refl _).drew.trans hu)).cell (o := 1) rfl
      go_simp
      first | done | rfl
    simp only [Act.put, nm1, nm2, nm3, i64_w]
    refine wpK_ops rfl (fun w1 hu => ?_) ?_
    · have hcl := (laws_toPoint.calls K a3_0 a3_1 t32 t33 w1  A34.out)
      clear hu
      replace hcl := Aside0.mk hcl
      go_simp
      exact hcl.out
    simp only [Act.put, nm1, nm2, nm3, i64_w]
    refine wpK_ops rfl (fun w1 hu => ?_) ?_
    · have hcl := (impl_InversePoint.calls K a0 a1 t28 t29 t30 t32 t33 t35 t36 t37 w1  A38.out)
      clear hu
      replace hcl := Aside0.mk hcl
      go_simp
      exact hcl.out
    simp only [Act.put, nm1, nm2, nm3, i64_w]
    refine wpK_ops rfl (fun w1 hu => ?_) ?_
    · clear hu
      go_simp
      first | done | rfl
    simp only [Act.put, nm1, nm2, nm3, i64_w]
    refine wpK_ops rfl (fun w1 hu => ?_) ?_
    · clear hu
      go_simp
      first | done | rfl
    simp only [Act.put, nm1, nm2, nm3, i64_w]
    refine wpK_ops rfl (fun w1 hu => ?_) ?_
    · clear hu
      go_simp
      first | done | rfl
    simp only [Act.put, nm1, nm2, nm3, i64_w]
    refine wpK_any rfl (stab_ptr _ _) (fun w1 _ _ => fresh_ptr (by first | (go_simp; done) | (go_simp; rfl))) (fun v39 => ?_)
    simp only [Act.put, nm1, nm2, nm3, i64_w]
    refine wpK_nil ?_
    intro w41 hu hap
    simp only [List.drop_succ_cons, List.drop_zero]
    replace hu := (Up.refl _).drew.trans hu
    obtain ⟨hf0, hn0, ⟨b40, e0, hb40⟩, -⟩ := hap
    have lbb40 := Aside0.mk (hf0 rfl b40 (by rw [e0]; rfl)).1
    have ltb40 := Aside0.mk hb40.lt
    dsimp only at e0
    subst e0
    clear hf0 hn0
    have hu42 := Aside0.mk hu
    clear hu
    refine late_cons (Up.of_drew hu42.out) ?_
    have hB0 := hb40
    have cl0 := hB0.cell (o := 0) rfl
    have fr0 := hB0.free 0
    have cl1 := hB0.cell (o := 1) rfl
    have fr1 := hB0.free 1
    refine step_store (b := b40) (cs' := [.int .i64 t35, .int .i64 t36]) (T := 27) (W' := ((w41.setCell ⟨b40, 0, none⟩ (.int .i64 t35)).setCell ⟨b40, 1, none⟩ (.int .i64 t36))) rfl rfl (by first | (go_simp; done) | (go_simp; rfl)) (((Sto.refl _ _).setCell 0 _).setCell 1 _) (((hB0).setCell 0 _).setCell 1 _) ?_
    clear hB0 cl0 fr0 cl1 fr1
    intro w43 hs hb45
    have hs44 := Aside0.mk hs
    clear hs
    refine wpList_nil ?_
    refine wrapQ_k ?_
    refine late_cons (Up.of_drew (hu42.out.sto (Nat.le_trans (Nat.le_refl _) lbb40.out) hs44.out)) ?_
    refine wpList_plain rfl (fun Ko hKo => ?_)
    go_simp
    refine hKo _ _ ?_
    clear hKo Ko
    try simp only [Act.put, nm1, nm2, nm3, i64_w]
    refine wpList_nil ?_
    refine wrapQ_k ?_
    refine late_nil (Up.of_drew (hu42.out.sto (Nat.le_trans (Nat.le_refl _) lbb40.out) hs44.out)) ?_
    (try simp only [Exit.then, Exit.inBlock, ↓reduceIte, Nat.reduceEqDiff])
    refine hK27 _ _ ?_
    refine wp_seq_k (fun K46 hK46 => ?_)
    refine wp_seq_k (fun K47 hK47 => ?_)
    refine wp_region_lit ?_
    have cl0 := hb45.cell (o := 0) rfl
    have cl1 := hb45.cell (o := 1) rfl
    refine wpList_plain rfl (fun Ko hKo => ?_)
    go_simp
    refine hKo _ _ ?_
    clear hKo Ko
    clear cl0 cl1
    try simp only [Act.put, nm1, nm2, nm3, i64_w]
    have cl0 := (hb26.up (hu42.out.sto (Nat.le_trans (Nat.le_refl _) lbb40.out) hs44.out)).cell (o := 0) rfl
    have cl1 := (hb26.up (hu42.out.sto (Nat.le_trans (Nat.le_refl _) lbb40.out) hs44.out)).cell (o := 1) rfl
    refine wpList_plain rfl (fun Ko hKo => ?_)
    go_simp
    refine hKo _ _ ?_
    clear hKo Ko
    clear cl0 cl1
    try simp only [Act.put, nm1, nm2, nm3, i64_w]
    refine step_call (wanted_none rfl) (by first | (go_simp; done) | (go_simp; rfl)) (laws_eqPoint.calls K t35 t36 t16 t17 false w43  A49.out) ?_
    rintro e w50 ⟨rfl, hu⟩
    have hu51 := Aside0.mk hu
    clear hu
    refine ⟨_, rfl, ?_⟩
    simp only [Act.put, nm1, nm2, nm3, i64_w]
    refine wpList_plain rfl (fun Ko hKo => ?_)
    go_simp
    refine hKo _ _ ?_
    clear hKo Ko
    try simp only [Act.put, nm1, nm2, nm3, i64_w]
    refine wpList_plain rfl (fun Ko hKo => ?_)
    go_simp
    refine hKo _ _ ?_
    clear hKo Ko
    try simp only [Act.put, nm1, nm2, nm3, i64_w]
    refine step_no rfl ?_
    simp only [Act.put, nm1, nm2, nm3, i64_w]
    refine step_no rfl ?_
    simp only [Act.put, nm1, nm2, nm3, i64_w]
    refine step_no rfl ?_
    simp only [Act.put, nm1, nm2, nm3, i64_w]
    refine wpList_plain rfl (fun Ko hKo => ?_)
    go_simp
    refine hKo _ _ ?_
    clear hKo Ko
    try simp only [Act.put, nm1, nm2, nm3, i64_w]
    refine wpList_nil ?_
    (try simp only [Exit.then, Exit.inBlock, ↓reduceIte, Nat.reduceEqDiff])
    refine hK47 _ _ ?_
    refine wp_cond_true rfl ?_
    refine wp_seq_k (fun K56 hK56 => ?_)
    refine wp_region_lit ?_
    refine wpList_plain rfl (fun Ko hKo => ?_)
    go_simp
    refine hKo _ _ ?_
    clear hKo Ko
    try simp only [Act.put, nm1, nm2, nm3, i64_w]
    refine wpList_nil ?_
    (try simp only [Exit.then, Exit.inBlock, ↓reduceIte, Nat.reduceEqDiff])
    refine hK56 _ _ ?_
    refine wp_ret ?_
    (try simp only [Exit.then, Exit.inBlock, ↓reduceIte, Nat.reduceEqDiff])
    refine hQf _ _ _ ?_
    exact bodyPost_ret (v := .bool false) (by first | rfl | (simp [results, Try.results5, go_sem]; done) | (simp [results, Try.results5, go_sem]; rfl)) rfl ⟨rfl, ((((((hu4.out.trans hu7.out).trans hu23.out).sto (Nat.le_trans ((Nat.le_trans (hu4.out.size) hu7.out.size)) lbb21.out) hs25.out).trans hu42.out).sto (Nat.le_trans ((Nat.le_trans ((Nat.le_trans ((Nat.le_trans (hu4.out.size) hu7.out.size)) hu23.out.size)) (Nat.le_of_eq hs25.out.size.symm))) lbb40.out) hs44.out).trans hu51.out)⟩

end Go.Proofs.Ythaopanhdmakbaa
