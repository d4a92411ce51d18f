/- The walks: each of these functions of the program computes what its plain function says: laws_eqPoint, laws_eqMove, laws_FnExactProductOfMoves. -/
import Derived.Test.YtbibgeoohpgaeaaProg
import Derived.Test.YtbibgeoohpgaeaaD1
import Derived.WalkKit
import Derived.KernelRfl
import Derived.BigQuiet
import Derived.Deep.LoopGhost
import Derived.Laws.StructEq
import Derived.Test.YtbibgeoohpgaeaaWProd2
namespace Go.Proofs.Ytbibgeoohpgaeaa
open Go Go.RowKit
attribute [local go_sem] Oper.quiet Oper.quietAt Oper.quietUpon
set_option linter.unusedVariables false
set_option linter.unusedSimpArgs false

set_option maxHeartbeats 4000000 in
set_option maxRecDepth 100000 in
theorem laws_eqPoint.calls (K : Nat) (a0_0 : Int) (a0_1 : Int) (a1_0 : Int) (a1_1 : Int) (r0 : Bool) (w : World)  (h : laws_eqPoint.f K a0_0 a0_1 a1_0 a1_1 = some (r0)) :
    Calls Try.prog 17 #[.agg #[.int .i64 a0_0, .int .i64 a0_1], .agg #[.int .i64 a1_0, .int .i64 a1_1]] w fun e w' => e = .returned (.bool r0) ∧ Up w w' := by
 have H : ((if (a0_0 == a1_0) = true then (if (a0_1 == a1_1) = true then some true else some false) else some false) : Option (Bool)) = some (r0) := h
 clear h
 by_cases c17 : (a0_0 == a1_0) = true
 ·
  rw [if_pos c17] at H
  have c17n : (a0_0 != a1_0) = false := by rw [bne, c17]; rfl
  by_cases c25 : (a0_1 == a1_1) = true
  ·
   rw [if_pos c25] at H
   have c25n : (a0_1 != a1_1) = false := by rw [bne, c25]; rfl
   obtain rfl := Option.some.inj H
   go_enter Try.func17, Try.ntmps17
   refine wp_hide (fun Qf hQf => ?_)
   refine wp_seq_k (fun K1 hK1 => ?_)
   refine wp_region_lit ?_
   refine step_new (cs := [.int .i64 a0_0, .int .i64 a0_1]) (T := 26) (f := fun b => .pointer (some ⟨b, 0, none⟩)) rfl (by first | (go_simp; done) | (go_simp; rfl)) ?_
   intro b2 w3 hu lb hb2
   simp only [Act.put, nm1, nm2, nm3, i64_w]
   have lbb2 := Aside0.mk lb
   have ltb2 := Aside0.mk hb2.lt
   clear lb
   have hu4 := Aside0.mk hu
   clear hu
   refine step_new (cs := [.int .i64 a1_0, .int .i64 a1_1]) (T := 26) (f := fun b => .pointer (some ⟨b, 0, none⟩)) rfl (by first | (go_simp; done) | (go_simp; rfl)) ?_
   intro b5 w6 hu lb hb5
   simp only [Act.put, nm1, nm2, nm3, i64_w]
   have lbb5 := Aside0.mk lb
   have ltb5 := Aside0.mk hb5.lt
   clear lb
   have hu7 := Aside0.mk hu
   clear hu
   refine wpList_plain rfl (fun Ko hKo => ?_)
   go_simp
   refine hKo _ _ ?_
   clear hKo Ko
   try simp only [Act.put, nm1, nm2, nm3, i64_w]
   refine wpList_nil ?_
   (try simp only [Exit.then, Exit.inBlock, ↓reduceIte, Nat.reduceEqDiff])
   refine hK1 _ _ ?_
   refine wp_seq_k (fun K8 hK8 => ?_)
   refine wp_seq_k (fun K9 hK9 => ?_)
   refine wp_region_lit ?_
   refine wpList_plain rfl (fun Ko hKo => ?_)
   go_simp
   refine hKo _ _ ?_
   clear hKo Ko
   try simp only [Act.put, nm1, nm2, nm3, i64_w]
   refine wpList_nil ?_
   (try simp only [Exit.then, Exit.inBlock, ↓reduceIte, Nat.reduceEqDiff])
   refine hK9 _ _ ?_
   refine wp_block ?_
   refine wp_loop_rounds 40 ?_
   refine rounds_k (fun K10 hK10 => ?_)
   refine wp_seq_k (fun K11 hK11 => ?_)
   refine wp_seq_k (fun K12 hK12 => ?_)
   refine wp_region_lit ?_
   refine wpList_plain rfl (fun Ko hKo => ?_)
   go_simp
   refine hKo _ _ ?_
   clear hKo Ko
   try simp only [Act.put, nm1, nm2, nm3, i64_w]
   refine wpList_plain rfl (fun Ko hKo => ?_)
   go_simp
   refine hKo _ _ ?_
   clear hKo Ko
   try simp only [Act.put, nm1, nm2, nm3, i64_w]
   refine wpList_nil ?_
   (try simp only [Exit.then, Exit.inBlock, ↓reduceIte, Nat.reduceEqDiff])
   refine hK12 _ _ ?_
   refine wp_cond_true rfl ?_
   refine wp_skip ?_
   (try simp only [Exit.then, Exit.inBlock, ↓reduceIte, Nat.reduceEqDiff])
   refine hK11 _ _ ?_
   refine wp_seq_k (fun K13 hK13 => ?_)
   refine wp_block ?_
   refine wp_seq_k (fun K14 hK14 => ?_)
   refine' wp_region_up 7 [Slot.det _, Slot.det _, Slot.det _, Slot.det _, Slot.det _, Slot.det _, Slot.det _] (by kernel_rfl) (by kernel_rfl) ?main
   case main =>
    simp only [List.take_succ_cons, List.take_zero]
    refine wpK_ops rfl (fun w1 hu => ?_) ?_
    · clear hu
      go_simp
      first | done | rfl
    simp only [Act.put, nm1, nm2, nm3, i64_w]
    refine wpK_ops rfl (fun w1 hu => ?_) ?_
    · clear hu
      go_simp
      first | done | rfl
    simp only [Act.put, nm1, nm2, nm3, i64_w]
    refine wpK_ops rfl (fun w1 hu => ?_) ?_
    · have cl0 := ((hb2.up hu7.out).up ((Up.refl _).drew.trans hu)).cell (o := 0) rfl
      go_simp
      first | done | rfl
    simp only [Act.put, nm1, nm2, nm3, i64_w]
    refine wpK_ops rfl (fun w1 hu => ?_) ?_
    · clear hu
      go_simp
      first | done | rfl
    simp only [Act.put, nm1, nm2, nm3, i64_w]
    refine wpK_ops rfl (fun w1 hu => ?_) ?_
    · clear hu
      go_simp
      first | done | rfl
    simp only [Act.put, nm1, nm2, nm3, i64_w]
    refine wpK_ops rfl (fun w1 hu => ?_) ?_
    · have cl0 := (hb5.up ((Up.refl _).drew.trans hu)).cell (o := 0) rfl
      go_simp
      first | done | rfl
    simp only [Act.put, nm1, nm2, nm3, i64_w]
    refine wpK_ops rfl (fun w1 hu => ?_) ?_
    · clear hu
      go_simp
      first | done | rfl
    simp only [Act.put, nm1, nm2, nm3, i64_w]
    refine wpK_nil ?_
    intro w15 hu hap
    simp only [List.drop_succ_cons, List.drop_zero]
    replace hu := (Up.refl _).drew.trans hu
    clear hap
    have hu16 := Aside0.mk hu
    clear hu
    refine wpList_nil ?_
    (try simp only [Exit.then, Exit.inBlock, ↓reduceIte, Nat.reduceEqDiff])
    refine hK14 _ _ ?_
    refine wp_cond_false rfl ?_
    refine wp_skip ?_
    (try simp only [Exit.then, Exit.inBlock, ↓reduceIte, Nat.reduceEqDiff])
    refine hK13 _ _ ?_
    refine wp_region_lit ?_
    refine wpList_plain rfl (fun Ko hKo => ?_)
    go_simp
    refine hKo _ _ ?_
    clear hKo Ko
    try simp only [Act.put, nm1, nm2, nm3, i64_w]
    refine wpList_plain rfl (fun Ko hKo => ?_)
    go_simp
    refine hKo _ _ ?_
    clear hKo Ko
    try simp only [Act.put, nm1, nm2, nm3, i64_w]
    try simp only [show wrap64 1 = 1 from wlit rfl]
    refine wpList_plain rfl (fun Ko hKo => ?_)
    go_simp
    refine hKo _ _ ?_
    clear hKo Ko
    try simp only [Act.put, nm1, nm2, nm3, i64_w]
    refine wpList_nil ?_
    (try simp only [Exit.then, Exit.inBlock, ↓reduceIte, Nat.reduceEqDiff])
    refine hK10 _ _ ?_
    refine rounds_k (fun K18 hK18 => ?_)
    refine wp_seq_k (fun K19 hK19 => ?_)
    refine wp_seq_k (fun K20 hK20 => ?_)
    refine wp_region_lit ?_
    refine wpList_plain rfl (fun Ko hKo => ?_)
    go_simp
    refine hKo _ _ ?_
    clear hKo Ko
    try simp only [Act.put, nm1, nm2, nm3, i64_w]
    refine wpList_plain rfl (fun Ko hKo => ?_)
    go_simp
    refine hKo _ _ ?_
    clear hKo Ko
    try simp only [Act.put, nm1, nm2, nm3, i64_w]
    refine wpList_nil ?_
    (try simp only [Exit.then, Exit.inBlock, ↓reduceIte, Nat.reduceEqDiff])
    refine hK20 _ _ ?_
    refine wp_cond_true rfl ?_
    refine wp_skip ?_
    (try simp only [Exit.then, Exit.inBlock, ↓reduceIte, Nat.reduceEqDiff])
    refine hK19 _ _ ?_
    refine wp_seq_k (fun K21 hK21 => ?_)
    refine wp_block ?_
    refine wp_seq_k (fun K22 hK22 => ?_)
    refine' wp_region_up 7 [Slot.det _, Slot.det _, Slot.det _, Slot.det _, Slot.det _, Slot.det _, Slot.det _] (by kernel_rfl) (by kernel_rfl) ?main
    case main =>
     simp only [List.take_succ_cons, List.take_zero]
     refine wpK_ops rfl (fun w1 hu => ?_) ?_
     · clear hu
       go_simp
       first | done | rfl
     simp only [Act.put, nm1, nm2, nm3, i64_w]
     refine wpK_ops rfl (fun w1 hu => ?_) ?_
     · clear hu
       go_simp
       first | done | rfl
     simp only [Act.put, nm1, nm2, nm3, i64_w]
     refine wpK_ops rfl (fun w1 hu => ?_) ?_
     · have cl0 := ((hb2.up (hu7.out.trans hu16.out)).up ((Up.refl _).drew.trans hu)).cell (o := 1) rfl
       go_simp
       first | done | rfl
     simp only [Act.put, nm1, nm2, nm3, i64_w]
     refine wpK_ops rfl (fun w1 hu => ?_) ?_
     · clear hu
       go_simp
       first | done | rfl
     simp only [Act.put, nm1, nm2, nm3, i64_w]
     refine wpK_ops rfl (fun w1 hu => ?_) ?_
     · clear hu
       go_simp
       first | done | rfl
     simp only [Act.put, nm1, nm2, nm3, i64_w]
     refine wpK_ops rfl (fun w1 hu => ?_) ?_
     · have cl0 := ((hb5.up hu16.out).up ((Up.refl _).drew.trans hu)).cell (o := 1) rfl
       go_simp
       first | done | rfl
     simp only [Act.put, nm1, nm2, nm3, i64_w]
     refine wpK_ops rfl (fun w1 hu => ?_) ?_
     · clear hu
       go_simp
       first | done | rfl
     simp only [Act.put, nm1, nm2, nm3, i64_w]
     refine wpK_nil ?_
     intro w23 hu hap
     simp only [List.drop_succ_cons, List.drop_zero]
     replace hu := (Up.refl _).drew.trans hu
     clear hap
     have hu24 := Aside0.mk hu
     clear hu
     refine wpList_nil ?_
     (try simp only [Exit.then, Exit.inBlock, ↓reduceIte, Nat.reduceEqDiff])
     refine hK22 _ _ ?_
     refine wp_cond_false rfl ?_
     refine wp_skip ?_
     (try simp only [Exit.then, Exit.inBlock, ↓reduceIte, Nat.reduceEqDiff])
     refine hK21 _ _ ?_
     refine wp_region_lit ?_
     refine wpList_plain rfl (fun Ko hKo => ?_)
     go_simp
     refine hKo _ _ ?_
     clear hKo Ko
     try simp only [Act.put, nm1, nm2, nm3, i64_w]
     refine wpList_plain rfl (fun Ko hKo => ?_)
     go_simp
     refine hKo _ _ ?_
     clear hKo Ko
     try simp only [Act.put, nm1, nm2, nm3, i64_w]
     try simp only [show wrap64 2 = 2 from wlit rfl]
     refine wpList_plain rfl (fun Ko hKo => ?_)
     go_simp
     refine hKo _ _ ?_
     clear hKo Ko
     try simp only [Act.put, nm1, nm2, nm3, i64_w]
     refine wpList_nil ?_
     (try simp only [Exit.then, Exit.inBlock, ↓reduceIte, Nat.reduceEqDiff])
     refine hK18 _ _ ?_
     refine rounds_k (fun K26 hK26 => ?_)
     refine wp_seq_k (fun K27 hK27 => ?_)
     refine wp_seq_k (fun K28 hK28 => ?_)
     refine wp_region_lit ?_
     refine wpList_plain rfl (fun Ko hKo => ?_)
     go_simp
     refine hKo _ _ ?_
     clear hKo Ko
     try simp only [Act.put, nm1, nm2, nm3, i64_w]
     refine wpList_plain rfl (fun Ko hKo => ?_)
     go_simp
     refine hKo _ _ ?_
     clear hKo Ko
     try simp only [Act.put, nm1, nm2, nm3, i64_w]
     refine wpList_nil ?_
     (try simp only [Exit.then, Exit.inBlock, ↓reduceIte, Nat.reduceEqDiff])
     refine hK28 _ _ ?_
     refine wp_cond_false rfl ?_
     refine wp_exit ?_
     (try simp only [Exit.then, Exit.inBlock, ↓reduceIte, Nat.reduceEqDiff])
     refine hK8 _ _ ?_
     refine wp_seq_k (fun K29 hK29 => ?_)
     refine wp_region_lit ?_
     refine wpList_plain rfl (fun Ko hKo => ?_)
     go_simp
     refine hKo _ _ ?_
     clear hKo Ko
     try simp only [Act.put, nm1, nm2, nm3, i64_w]
     refine wpList_nil ?_
     (try simp only [Exit.then, Exit.inBlock, ↓reduceIte, Nat.reduceEqDiff])
     refine hK29 _ _ ?_
     refine wp_ret ?_
     (try simp only [Exit.then, Exit.inBlock, ↓reduceIte, Nat.reduceEqDiff])
     refine hQf _ _ _ ?_
     exact bodyPost_ret (v := .bool true) (by first | rfl | (simp [results, Try.results17, go_sem]; done) | (simp [results, Try.results17, go_sem]; rfl)) rfl ⟨rfl, (((hu4.out.trans hu7.out).trans hu16.out).trans hu24.out)⟩
  ·
   rw [if_neg c25] at H
   replace c25 := Bool.eq_false_iff.mpr c25
   have c25n : (a0_1 != a1_1) = true := by rw [bne, c25]; rfl
   have c25p : ¬ a0_1 = a1_1 := fun e => by simp [e] at c25
   obtain rfl := Option.some.inj H
   go_enter Try.func17, Try.ntmps17
   refine wp_hide (fun Qf hQf => ?_)
   refine wp_seq_k (fun K1 hK1 => ?_)
   refine wp_region_lit ?_
   refine step_new (cs := [.int .i64 a0_0, .int .i64 a0_1]) (T := 26) (f := fun b => .pointer (some ⟨b, 0, none⟩)) rfl (by first | (go_simp; done) | (go_simp; rfl)) ?_
   intro b2 w3 hu lb hb2
   simp only [Act.put, nm1, nm2, nm3, i64_w]
   have lbb2 := Aside0.mk lb
   have ltb2 := Aside0.mk hb2.lt
   clear lb
   have hu4 := Aside0.mk hu
   clear hu
   refine step_new (cs := [.int .i64 a1_0, .int .i64 a1_1]) (T := 26) (f := fun b => .pointer (some ⟨b, 0, none⟩)) rfl (by first | (go_simp; done) | (go_simp; rfl)) ?_
   intro b5 w6 hu lb hb5
   simp only [Act.put, nm1, nm2, nm3, i64_w]
   have lbb5 := Aside0.mk lb
   have ltb5 := Aside0.mk hb5.lt
   clear lb
   have hu7 := Aside0.mk hu
   clear hu
   refine wpList_plain rfl (fun Ko hKo => ?_)
   go_simp
   refine hKo _ _ ?_
   clear hKo Ko
   try simp only [Act.put, nm1, nm2, nm3, i64_w]
   refine wpList_nil ?_
   (try simp only [Exit.then, Exit.inBlock, ↓reduceIte, Nat.reduceEqDiff])
   refine hK1 _ _ ?_
   refine wp_seq_k (fun K8 hK8 => ?_)
   refine wp_seq_k (fun K9 hK9 => ?_)
   refine wp_region_lit ?_
   refine wpList_plain rfl (fun Ko hKo => ?_)
   go_simp
   refine hKo _ _ ?_
   clear hKo Ko
   try simp only [Act.put, nm1, nm2, nm3, i64_w]
   refine wpList_nil ?_
   (try simp only [Exit.then, Exit.inBlock, ↓reduceIte, Nat.reduceEqDiff])
   refine hK9 _ _ ?_
   refine wp_block ?_
   refine wp_loop_rounds 40 ?_
   refine rounds_k (fun K10 hK10 => ?_)
   refine wp_seq_k (fun K11 hK11 => ?_)
   refine wp_seq_k (fun K12 hK12 => ?_)
   refine wp_region_lit ?_
   refine wpList_plain rfl (fun Ko hKo => ?_)
   go_simp
   refine hKo _ _ ?_
   clear hKo Ko
   try simp only [Act.put, nm1, nm2, nm3, i64_w]
   refine wpList_plain rfl (fun Ko hKo => ?_)
   go_simp
   refine hKo _ _ ?_
   clear hKo Ko
   try simp only [Act.put, nm1, nm2, nm3, i64_w]
   refine wpList_nil ?_
   (try simp only [Exit.then, Exit.inBlock, ↓reduceIte, Nat.reduceEqDiff])
   refine hK12 _ _ ?_
   refine wp_cond_true rfl ?_
   refine wp_skip ?_
   (try simp only [Exit.then, Exit.inBlock, ↓reduceIte, Nat.reduceEqDiff])
   refine hK11 _ _ ?_
   refine wp_seq_k (fun K13 hK13 => ?_)
   refine wp_block ?_
   refine wp_seq_k (fun K14 hK14 => ?_)
   refine' wp_region_up 7 [Slot.det _, Slot.det _, Slot.det _, Slot.det _, Slot.det _, Slot.det _, Slot.det _] (by kernel_rfl) (by kernel_rfl) ?main
   case main =>
    simp only [List.take_succ_cons, List.take_zero]
    refine wpK_ops rfl (fun w1 hu => ?_) ?_
    · clear hu
      go_simp
      first | done | rfl
    simp only [Act.put, nm1, nm2, nm3, i64_w]
    refine wpK_ops rfl (fun w1 hu => ?_) ?_
    · clear hu
      go_simp
      first | done | rfl
    simp only [Act.put, nm1, nm2, nm3, i64_w]
    refine wpK_ops rfl (fun w1 hu => ?_) ?_
    · have cl0 := ((hb2.up hu7.out).up ((Up.refl _).drew.trans hu)).cell (o := 0) rfl
      go_simp
      first | done | rfl
    simp only [Act.put, nm1, nm2, nm3, i64_w]
    refine wpK_ops rfl (fun w1 hu => ?_) ?_
    · clear hu
      go_simp
      first | done | rfl
    simp only [Act.put, nm1, nm2, nm3, i64_w]
    refine wpK_ops rfl (fun w1 hu => ?_) ?_
    · clear hu
      go_simp
      first | done | rfl
    simp only [Act.put, nm1, nm2, nm3, i64_w]
    refine wpK_ops rfl (fun w1 hu => ?_) ?_
    · have cl0 := (hb5.up ((Up.refl _).drew.trans hu)).cell (o := 0) rfl
      go_simp
      first | done | rfl
    simp only [Act.put, nm1, nm2, nm3, i64_w]
    refine wpK_ops rfl (fun w1 hu => ?_) ?_
    · clear hu
      go_simp
      first | done | rfl
    simp only [Act.put, nm1, nm2, nm3, i64_w]
    refine wpK_nil ?_
    intro w15 hu hap
    simp only [List.drop_succ_cons, List.drop_zero]
    replace hu := (Up.refl _).drew.trans hu
    clear hap
    have hu16 := Aside0.mk hu
    clear hu
    refine wpList_nil ?_
    (try simp only [Exit.then, Exit.inBlock, ↓reduceIte, Nat.reduceEqDiff])
    refine hK14 _ _ ?_
    refine wp_cond_false rfl ?_
    refine wp_skip ?_
    (try simp only [Exit.then, Exit.inBlock, ↓reduceIte, Nat.reduceEqDiff])
    refine hK13 _ _ ?_
    refine wp_region_lit ?_
    refine wpList_plain rfl (fun Ko hKo => ?_)
    go_simp
    refine hKo _ _ ?_
    clear hKo Ko
    try simp only [Act.put, nm1, nm2, nm3, i64_w]
    refine wpList_plain rfl (fun Ko hKo => ?_)
    go_simp
    refine hKo _ _ ?_
    clear hKo Ko
    try simp only [Act.put, nm1, nm2, nm3, i64_w]
    try simp only [show wrap64 1 = 1 from wlit rfl]
    refine wpList_plain rfl (fun Ko hKo => ?_)
    go_simp
    refine hKo _ _ ?_
    clear hKo Ko
    try simp only [Act.put, nm1, nm2, nm3, i64_w]
    refine wpList_nil ?_
    (try simp only [Exit.then, Exit.inBlock, ↓reduceIte, Nat.reduceEqDiff])
    refine hK10 _ _ ?_
    refine rounds_k (fun K18 hK18 => ?_)
    refine wp_seq_k (fun K19 hK19 => ?_)
    refine wp_seq_k (fun K20 hK20 => ?_)
    refine wp_region_lit ?_
    refine wpList_plain rfl (fun Ko hKo => ?_)
    go_simp
    refine hKo _ _ ?_
    clear hKo Ko
    try simp only [Act.put, nm1, nm2, nm3, i64_w]
    refine wpList_plain rfl (fun Ko hKo => ?_)
    go_simp
    refine hKo _ _ ?_
    clear hKo Ko
    try simp only [Act.put, nm1, nm2, nm3, i64_w]
    refine wpList_nil ?_
    (try simp only [Exit.then, Exit.inBlock, ↓reduceIte, Nat.reduceEqDiff])
    refine hK20 _ _ ?_
    refine wp_cond_true rfl ?_
    refine wp_skip ?_
    (try simp only [Exit.then, Exit.inBlock, ↓reduceIte, Nat.reduceEqDiff])
    refine hK19 _ _ ?_
    refine wp_seq_k (fun K21 hK21 => ?_)
    refine wp_block ?_
    refine wp_seq_k (fun K22 hK22 => ?_)
    refine' wp_region_up 7 [Slot.det _, Slot.det _, Slot.det _, Slot.det _, Slot.det _, Slot.det _, Slot.det _] (by kernel_rfl) (by kernel_rfl) ?main
    case main =>
     simp only [List.take_succ_cons, List.take_zero]
     refine wpK_ops rfl (fun w1 hu => ?_) ?_
     · clear hu
       go_simp
       first | done | rfl
     simp only [Act.put, nm1, nm2, nm3, i64_w]
     refine wpK_ops rfl (fun w1 hu => ?_) ?_
     · clear hu
       go_simp
       first | done | rfl
     simp only [Act.put, nm1, nm2, nm3, i64_w]
     refine wpK_ops rfl (fun w1 hu => ?_) ?_
     · have cl0 := ((hb2.up (hu7.out.trans hu16.out)).up ((Up.refl _).drew.trans hu)).cell (o := 1) rfl
       go_simp
       first | done | rfl
     simp only [Act.put, nm1, nm2, nm3, i64_w]
     refine wpK_ops rfl (fun w1 hu => ?_) ?_
     · clear hu
       go_simp
       first | done | rfl
     simp only [Act.put, nm1, nm2, nm3, i64_w]
     refine wpK_ops rfl (fun w1 hu => ?_) ?_
     · clear hu
       go_simp
       first | done | rfl
     simp only [Act.put, nm1, nm2, nm3, i64_w]
     refine wpK_ops rfl (fun w1 hu => ?_) ?_
     · have cl0 := ((hb5.up hu16.out).up ((Up.refl _).drew.trans hu)).cell (o := 1) rfl
       go_simp
       first | done | rfl
     simp only [Act.put, nm1, nm2, nm3, i64_w]
     refine wpK_ops rfl (fun w1 hu => ?_) ?_
     · clear hu
       go_simp
       first | done | rfl
     simp only [Act.put, nm1, nm2, nm3, i64_w]
     refine wpK_nil ?_
     intro w23 hu hap
     simp only [List.drop_succ_cons, List.drop_zero]
     replace hu := (Up.refl _).drew.trans hu
     clear hap
     have hu24 := Aside0.mk hu
     clear hu
     refine wpList_nil ?_
     (try simp only [Exit.then, Exit.inBlock, ↓reduceIte, Nat.reduceEqDiff])
     refine hK22 _ _ ?_
     refine wp_cond_true rfl ?_
     refine wp_seq_k (fun K30 hK30 => ?_)
     refine wp_region_lit ?_
     refine wpList_plain rfl (fun Ko hKo => ?_)
     go_simp
     refine hKo _ _ ?_
     clear hKo Ko
     try simp only [Act.put, nm1, nm2, nm3, i64_w]
     refine wpList_nil ?_
     (try simp only [Exit.then, Exit.inBlock, ↓reduceIte, Nat.reduceEqDiff])
     refine hK30 _ _ ?_
     refine wp_ret ?_
     (try simp only [Exit.then, Exit.inBlock, ↓reduceIte, Nat.reduceEqDiff])
     refine hQf _ _ _ ?_
     exact bodyPost_ret (v := .bool false) (by first | rfl | (simp [results, Try.results17, go_sem]; done) | (simp [results, Try.results17, go_sem]; rfl)) rfl ⟨rfl, (((hu4.out.trans hu7.out).trans hu16.out).trans hu24.out)⟩
 ·
  rw [if_neg c17] at H
  replace c17 := Bool.eq_false_iff.mpr c17
  have c17n : (a0_0 != a1_0) = true := by rw [bne, c17]; rfl
  have c17p : ¬ a0_0 = a1_0 := fun e => by simp [e] at c17
  obtain rfl := Option.some.inj H
  go_enter Try.func17, Try.ntmps17
  refine wp_hide (fun Qf hQf => ?_)
  refine wp_seq_k (fun K1 hK1 => ?_)
  refine wp_region_lit ?_
  refine step_new (cs := [.int .i64 a0_0, .int .i64 a0_1]) (T := 26) (f := fun b => .pointer (some ⟨b, 0, none⟩)) rfl (by first | (go_simp; done) | (go_simp; rfl)) ?_
  intro b2 w3 hu lb hb2
  simp only [Act.put, nm1, nm2, nm3, i64_w]
  have lbb2 := Aside0.mk lb
  have ltb2 := Aside0.mk hb2.lt
  clear lb
  have hu4 := Aside0.mk hu
  clear hu
  refine step_new (cs := [.int .i64 a1_0, .int .i64 a1_1]) (T := 26) (f := fun b => .pointer (some ⟨b, 0, none⟩)) rfl (by first | (go_simp; done) | (go_simp; rfl)) ?_
  intro b5 w6 hu lb hb5
  simp only [Act.put, nm1, nm2, nm3, i64_w]
  have lbb5 := Aside0.mk lb
  have ltb5 := Aside0.mk hb5.lt
  clear lb
  have hu7 := Aside0.mk hu
  clear hu
  refine wpList_plain rfl (fun Ko hKo => ?_)
  go_simp
  refine hKo _ _ ?_
  clear hKo Ko
  try simp only [Act.put, nm1, nm2, nm3, i64_w]
  refine wpList_nil ?_
  (try simp only [Exit.then, Exit.inBlock, ↓reduceIte, Nat.reduceEqDiff])
  refine hK1 _ _ ?_
  refine wp_seq_k (fun K8 hK8 => ?_)
  refine wp_seq_k (fun K9 hK9 => ?_)
  refine wp_region_lit ?_
  refine wpList_plain rfl (fun Ko hKo => ?_)
  go_simp
  refine hKo _ _ ?_
  clear hKo Ko
  try simp only [Act.put, nm1, nm2, nm3, i64_w]
  refine wpList_nil ?_
  (try simp only [Exit.then, Exit.inBlock, ↓reduceIte, Nat.reduceEqDiff])
  refine hK9 _ _ ?_
  refine wp_block ?_
  refine wp_loop_rounds 40 ?_
  refine rounds_k (fun K10 hK10 => ?_)
  refine wp_seq_k (fun K11 hK11 => ?_)
  refine wp_seq_k (fun K12 hK12 => ?_)
  refine wp_region_lit ?_
  refine wpList_plain rfl (fun Ko hKo => ?_)
  go_simp
  refine hKo _ _ ?_
  clear hKo Ko
  try simp only [Act.put, nm1, nm2, nm3, i64_w]
  refine wpList_plain rfl (fun Ko hKo => ?_)
  go_simp
  refine hKo _ _ ?_
  clear hKo Ko
  try simp only [Act.put, nm1, nm2, nm3, i64_w]
  refine wpList_nil ?_
  (try simp only [Exit.then, Exit.inBlock, ↓reduceIte, Nat.reduceEqDiff])
  refine hK12 _ _ ?_
  refine wp_cond_true rfl ?_
  refine wp_skip ?_
  (try simp only [Exit.then, Exit.inBlock, ↓reduceIte, Nat.reduceEqDiff])
  refine hK11 _ _ ?_
  refine wp_seq_k (fun K13 hK13 => ?_)
  refine wp_block ?_
  refine wp_seq_k (fun K14 hK14 => ?_)
  refine' wp_region_up 7 [Slot.det _, Slot.det _, Slot.det _, Slot.det _, Slot.det _, Slot.det _, Slot.det _] (by kernel_rfl) (by kernel_rfl) ?main
  case main =>
   simp only [List.take_succ_cons, List.take_zero]
   refine wpK_ops rfl (fun w1 hu => ?_) ?_
   · clear hu
     go_simp
     first | done | rfl
   simp only [Act.put, nm1, nm2, nm3, i64_w]
   refine wpK_ops rfl (fun w1 hu => ?_) ?_
   · clear hu
     go_simp
     first | done | rfl
   simp only [Act.put, nm1, nm2, nm3, i64_w]
   refine wpK_ops rfl (fun w1 hu => ?_) ?_
   · have cl0 := ((hb2.up hu7.out).up ((Up.refl _).drew.trans hu)).cell (o := 0) rfl
     go_simp
     first | done | rfl
   simp only [Act.put, nm1, nm2, nm3, i64_w]
   refine wpK_ops rfl (fun w1 hu => ?_) ?_
   · clear hu
     go_simp
     first | done | rfl
   simp only [Act.put, nm1, nm2, nm3, i64_w]
   refine wpK_ops rfl (fun w1 hu => ?_) ?_
   · clear hu
     go_simp
     first | done | rfl
   simp only [Act.put, nm1, nm2, nm3, i64_w]
   refine wpK_ops rfl (fun w1 hu => ?_) ?_
   · have cl0 := (hb5.up ((Up.refl _).drew.trans hu)).cell (o := 0) rfl
     go_simp
     first | done | rfl
   simp only [Act.put, nm1, nm2, nm3, i64_w]
   refine wpK_ops rfl (fun w1 hu => ?_) ?_
   · clear hu
     go_simp
     first | done | rfl
   simp only [Act.put, nm1, nm2, nm3, i64_w]
   refine wpK_nil ?_
   intro w15 hu hap
   simp only [List.drop_succ_cons, List.drop_zero]
   replace hu := (Up.refl _).drew.trans hu
   clear hap
   have hu16 := Aside0.mk hu
   clear hu
   refine wpList_nil ?_
   (try simp only [Exit.then, Exit.inBlock, ↓reduceIte, Nat.reduceEqDiff])
   refine hK14 _ _ ?_
   refine wp_cond_true rfl ?_
   refine wp_seq_k (fun K31 hK31 => ?_)
   refine wp_region_lit ?_
   refine wpList_plain rfl (fun Ko hKo => ?_)
   go_simp
   refine hKo _ _ ?_
   clear hKo Ko
   try simp only [Act.put, nm1, nm2, nm3, i64_w]
   refine wpList_nil ?_
   (try simp only [Exit.then, Exit.inBlock, ↓reduceIte, Nat.reduceEqDiff])
   refine hK31 _ _ ?_
   refine wp_ret ?_
   (try simp only [Exit.then, Exit.inBlock, ↓reduceIte, Nat.reduceEqDiff])
   refine hQf _ _ _ ?_
   exact bodyPost_ret (v := .bool false) (by first | rfl | (simp [results, Try.results17, go_sem]; done) | (simp [results, Try.results17, go_sem]; rfl)) rfl ⟨rfl, ((hu4.out.trans hu7.out).trans hu16.out)⟩

set_option maxHeartbeats 4000000 in
set_option maxRecDepth 100000 in
theorem laws_eqMove.calls (K : Nat) (a0_0 : Int) (a0_1 : Int) (a0_2 : Int) (a0_3 : Int) (a0_4 : Int) (a0_5 : Int) (a1_0 : Int) (a1_1 : Int) (a1_2 : Int) (a1_3 : Int) (a1_4 : Int) (a1_5 : Int) (r0 : Bool) (w : World)  (h : laws_eqMove.f K a0_0 a0_1 a0_2 a0_3 a0_4 a0_5 a1_0 a1_1 a1_2 a1_3 a1_4 a1_5 = some (r0)) :
    Calls Try.prog 22 #[.agg #[.int .i64 a0_0, .int .i64 a0_1, .int .i64 a0_2, .int .i64 a0_3, .int .i64 a0_4, .int .i64 a0_5], .agg #[.int .i64 a1_0, .int .i64 a1_1, .int .i64 a1_2, .int .i64 a1_3, .int .i64 a1_4, .int .i64 a1_5]] w fun e w' => e = .returned (.bool r0) ∧ Up w w' := by
 have H : (((laws_eqInt64A4.f K a0_0 a0_1 a0_2 a0_3 a1_0 a1_1 a1_2 a1_3).bind fun t10 => (if t10 = true then ((laws_eqPoint.f K a0_4 a0_5 a1_4 a1_5).bind fun t17 => (if t17 = true then some true else some false)) else some false)) : Option (Bool)) = some (r0) := h
 clear h
 replace H := Option.bind_eq_some_iff.mp H
 obtain ⟨t10, A11, H⟩ := H
 replace A11 := Aside0.mk A11
 try dsimp only at H
 by_cases c14 : (t10) = true
 ·
  rw [if_pos c14] at H
  subst c14
  replace H := Option.bind_eq_some_iff.mp H
  obtain ⟨t17, A18, H⟩ := H
  replace A18 := Aside0.mk A18
  try dsimp only at H
  by_cases c21 : (t17) = true
  ·
   rw [if_pos c21] at H
   subst c21
   obtain rfl := Option.some.inj H
   go_enter Try.func22, Try.ntmps22
   refine wp_hide (fun Qf hQf => ?_)
   refine wp_seq_k (fun K1 hK1 => ?_)
   refine wp_region_lit ?_
   refine step_new (cs := [.int .i64 a0_0, .int .i64 a0_1, .int .i64 a0_2, .int .i64 a0_3, .int .i64 a0_4, .int .i64 a0_5]) (T := 30) (f := fun b => .pointer (some ⟨b, 0, none⟩)) rfl (by first | (go_simp; done) | (go_simp; rfl)) ?_
   intro b2 w3 hu lb hb2
   simp only [Act.put, nm1, nm2, nm3, i64_w]
   have lbb2 := Aside0.mk lb
   have ltb2 := Aside0.mk hb2.lt
   clear lb
   have hu4 := Aside0.mk hu
   clear hu
   refine step_new (cs := [.int .i64 a1_0, .int .i64 a1_1, .int .i64 a1_2, .int .i64 a1_3, .int .i64 a1_4, .int .i64 a1_5]) (T := 30) (f := fun b => .pointer (some ⟨b, 0, none⟩)) rfl (by first | (go_simp; done) | (go_simp; rfl)) ?_
   intro b5 w6 hu lb hb5
   simp only [Act.put, nm1, nm2, nm3, i64_w]
   have lbb5 := Aside0.mk lb
   have ltb5 := Aside0.mk hb5.lt
   clear lb
   have hu7 := Aside0.mk hu
   clear hu
   refine wpList_plain rfl (fun Ko hKo => ?_)
   go_simp
   refine hKo _ _ ?_
   clear hKo Ko
   try simp only [Act.put, nm1, nm2, nm3, i64_w]
   refine wpList_nil ?_
   (try simp only [Exit.then, Exit.inBlock, ↓reduceIte, Nat.reduceEqDiff])
   refine hK1 _ _ ?_
   refine wp_seq_k (fun K8 hK8 => ?_)
   refine wp_seq_k (fun K9 hK9 => ?_)
   refine wp_region_lit ?_
   refine wpList_plain rfl (fun Ko hKo => ?_)
   go_simp
   refine hKo _ _ ?_
   clear hKo Ko
   try simp only [Act.put, nm1, nm2, nm3, i64_w]
   have cl0 := (hb2.up hu7.out).cell (o := 0) rfl
   have cl1 := (hb2.up hu7.out).cell (o := 1) rfl
   have cl2 := (hb2.up hu7.out).cell (o := 2) rfl
   have cl3 := (hb2.up hu7.out).cell (o := 3) rfl
   refine wpList_plain rfl (fun Ko hKo => ?_)
   go_simp
   refine hKo _ _ ?_
   clear hKo Ko
   clear cl0 cl1 cl2 cl3
   try simp only [Act.put, nm1, nm2, nm3, i64_w]
   refine wpList_plain rfl (fun Ko hKo => ?_)
   go_simp
   refine hKo _ _ ?_
   clear hKo Ko
   try simp only [Act.put, nm1, nm2, nm3, i64_w]
   have cl0 := hb5.cell (o := 0) rfl
   have cl1 := hb5.cell (o := 1) rfl
   have cl2 := hb5.cell (o := 2) rfl
   have cl3 := hb5.cell (o := 3) rfl
   refine wpList_plain rfl (fun Ko hKo => ?_)
   go_simp
   refine hKo _ _ ?_
   clear hKo Ko
   clear cl0 cl1 cl2 cl3
   try simp only [Act.put, nm1, nm2, nm3, i64_w]
   refine step_call (wanted_none rfl) (by first | (go_simp; done) | (go_simp; rfl)) (laws_eqInt64A4.calls K a0_0 a0_1 a0_2 a0_3 a1_0 a1_1 a1_2 a1_3 true w6  A11.out) ?_
   rintro e w12 ⟨rfl, hu⟩
   have hu13 := Aside0.mk hu
   clear hu
   refine ⟨_, rfl, ?_⟩
   simp only [Act.put, nm1, nm2, nm3, i64_w]
   refine wpList_plain rfl (fun Ko hKo => ?_)
   go_simp
   refine hKo _ _ ?_
   clear hKo Ko
   try simp only [Act.put, nm1, nm2, nm3, i64_w]
   refine wpList_nil ?_
   (try simp only [Exit.then, Exit.inBlock, ↓reduceIte, Nat.reduceEqDiff])
   refine hK9 _ _ ?_
   refine wp_cond_false rfl ?_
   refine wp_skip ?_
   (try simp only [Exit.then, Exit.inBlock, ↓reduceIte, Nat.reduceEqDiff])
   refine hK8 _ _ ?_
   refine wp_seq_k (fun K15 hK15 => ?_)
   refine wp_seq_k (fun K16 hK16 => ?_)
   refine wp_region_lit ?_
   refine wpList_plain rfl (fun Ko hKo => ?_)
   go_simp
   refine hKo _ _ ?_
   clear hKo Ko
   try simp only [Act.put, nm1, nm2, nm3, i64_w]
   have cl0 := (hb2.up (hu7.out.trans hu13.out)).cell (o := 4) rfl
   have cl1 := (hb2.up (hu7.out.trans hu13.out)).cell (o := 5) rfl
   refine wpList_plain rfl (fun Ko hKo => ?_)
   go_simp
   refine hKo _ _ ?_
   clear hKo Ko
   clear cl0 cl1
   try simp only [Act.put, nm1, nm2, nm3, i64_w]
   refine wpList_plain rfl (fun Ko hKo => ?_)
   go_simp
   refine hKo _ _ ?_
   clear hKo Ko
   try simp only [Act.put, nm1, nm2, nm3, i64_w]
   have cl0 := (hb5.up hu13.out).cell (o := 4) rfl
   have cl1 := (hb5.up hu13.out).cell (o := 5) rfl
   refine wpList_plain rfl (fun Ko hKo => ?_)
   go_simp
   refine hKo _ _ ?_
   clear hKo Ko
   clear cl0 cl1
   try simp only [Act.put, nm1, nm2, nm3, i64_w]
   refine step_call (wanted_none rfl) (by first | (go_simp; done) | (go_simp; rfl)) (laws_eqPoint.calls K a0_4 a0_5 a1_4 a1_5 true w12  A18.out) ?_
   rintro e w19 ⟨rfl, hu⟩
   have hu20 := Aside0.mk hu
   clear hu
   refine ⟨_, rfl, ?_⟩
   simp only [Act.put, nm1, nm2, nm3, i64_w]
   refine wpList_plain rfl (fun Ko hKo => ?_)
   go_simp
   refine hKo _ _ ?_
   clear hKo Ko
   try simp only [Act.put, nm1, nm2, nm3, i64_w]
   refine wpList_nil ?_
   (try simp only [Exit.then, Exit.inBlock, ↓reduceIte, Nat.reduceEqDiff])
   refine hK16 _ _ ?_
   refine wp_cond_false rfl ?_
   refine wp_skip ?_
   (try simp only [Exit.then, Exit.inBlock, ↓reduceIte, Nat.reduceEqDiff])
   refine hK15 _ _ ?_
   refine wp_seq_k (fun K22 hK22 => ?_)
   refine wp_region_lit ?_
   refine wpList_plain rfl (fun Ko hKo => ?_)
   go_simp
   refine hKo _ _ ?_
   clear hKo Ko
   try simp only [Act.put, nm1, nm2, nm3, i64_w]
   refine wpList_nil ?_
   (try simp only [Exit.then, Exit.inBlock, ↓reduceIte, Nat.reduceEqDiff])
   refine hK22 _ _ ?_
   refine wp_ret ?_
   (try simp only [Exit.then, Exit.inBlock, ↓reduceIte, Nat.reduceEqDiff])
   refine hQf _ _ _ ?_
   exact bodyPost_ret (v := .bool true) (by first | rfl | (simp [results, Try.results22, go_sem]; done) | (simp [results, Try.results22, go_sem]; rfl)) rfl ⟨rfl, (((hu4.out.trans hu7.out).trans hu13.out).trans hu20.out)⟩
  ·
   rw [if_neg c21] at H
   replace c21 := Bool.eq_false_iff.mpr c21
   subst c21
   obtain rfl := Option.some.inj H
   go_enter Try.func22, Try.ntmps22
   refine wp_hide (fun Qf hQf => ?_)
   refine wp_seq_k (fun K1 hK1 => ?_)
   refine wp_region_lit ?_
   refine step_new (cs := [.int .i64 a0_0, .int .i64 a0_1, .int .i64 a0_2, .int .i64 a0_3, .int .i64 a0_4, .int .i64 a0_5]) (T := 30) (f := fun b => .pointer (some ⟨b, 0, none⟩)) rfl (by first | (go_simp; done) | (go_simp; rfl)) ?_
   intro b2 w3 hu lb hb2
   simp only [Act.put, nm1, nm2, nm3, i64_w]
   have lbb2 := Aside0.mk lb
   have ltb2 := Aside0.mk hb2.lt
   clear lb
   have hu4 := Aside0.mk hu
   clear hu
   refine step_new (cs := [.int .i64 a1_0, .int .i64 a1_1, .int .i64 a1_2, .int .i64 a1_3, .int .i64 a1_4, .int .i64 a1_5]) (T := 30) (f := fun b => .pointer (some ⟨b, 0, none⟩)) rfl (by first | (go_simp; done) | (go_simp; rfl)) ?_
   intro b5 w6 hu lb hb5
   simp only [Act.put, nm1, nm2, nm3, i64_w]
   have lbb5 := Aside0.mk lb
   have ltb5 := Aside0.mk hb5.lt
   clear lb
   have hu7 := Aside0.mk hu
   clear hu
   refine wpList_plain rfl (fun Ko hKo => ?_)
   go_simp
   refine hKo _ _ ?_
   clear hKo Ko
   try simp only [Act.put, nm1, nm2, nm3, i64_w]
   refine wpList_nil ?_
   (try simp only [Exit.then, Exit.inBlock, ↓reduceIte, Nat.reduceEqDiff])
   refine hK1 _ _ ?_
   refine wp_seq_k (fun K8 hK8 => ?_)
   refine wp_seq_k (fun K9 hK9 => ?_)
   refine wp_region_lit ?_
   refine wpList_plain rfl (fun Ko hKo => ?_)
   go_simp
   refine hKo _ _ ?_
   clear hKo Ko
   try simp only [Act.put, nm1, nm2, nm3, i64_w]
   have cl0 := (hb2.up hu7.out).cell (o := 0) rfl
   have cl1 := (hb2.up hu7.out).cell (o := 1) rfl
   have cl2 := (hb2.up hu7.out).cell (o := 2) rfl
   have cl3 := (hb2.up hu7.out).cell (o := 3) rfl
   refine wpList_plain rfl (fun Ko hKo => ?_)
   go_simp
   refine hKo _ _ ?_
   clear hKo Ko
   clear cl0 cl1 cl2 cl3
   try simp only [Act.put, nm1, nm2, nm3, i64_w]
   refine wpList_plain rfl (fun Ko hKo => ?_)
   go_simp
   refine hKo _ _ ?_
   clear hKo Ko
   try simp only [Act.put, nm1, nm2, nm3, i64_w]
   have cl0 := hb5.cell (o := 0) rfl
   have cl1 := hb5.cell (o := 1) rfl
   have cl2 := hb5.cell (o := 2) rfl
   have cl3 := hb5.cell (o := 3) rfl
   refine wpList_plain rfl (fun Ko hKo => ?_)
   go_simp
   refine hKo _ _ ?_
   clear hKo Ko
   clear cl0 cl1 cl2 cl3
   try simp only [Act.put, nm1, nm2, nm3, i64_w]
   refine step_call (wanted_none rfl) (by first | (go_simp; done) | (go_simp; rfl)) (laws_eqInt64A4.calls K a0_0 a0_1 a0_2 a0_3 a1_0 a1_1 a1_2 a1_3 true w6  A11.out) ?_
   rintro e w12 ⟨rfl, hu⟩
   have hu13 := Aside0.mk hu
   clear hu
   refine ⟨_, rfl, ?_⟩
   simp only [Act.put, nm1, nm2, nm3, i64_w]
   refine wpList_plain rfl (fun Ko hKo => ?_)
   go_simp
   refine hKo _ _ ?_
   clear hKo Ko
   try simp only [Act.put, nm1, nm2, nm3, i64_w]
   refine wpList_nil ?_
   (try simp only [Exit.then, Exit.inBlock, ↓reduceIte, Nat.reduceEqDiff])
   refine hK9 _ _ ?_
   refine wp_cond_false rfl ?_
   refine wp_skip ?_
   (try simp only [Exit.then, Exit.inBlock, ↓reduceIte, Nat.reduceEqDiff])
   refine hK8 _ _ ?_
   refine wp_seq_k (fun K15 hK15 => ?_)
   refine wp_seq_k (fun K16 hK16 => ?_)
   refine wp_region_lit ?_
   refine wpList_plain rfl (fun Ko hKo => ?_)
   go_simp
   refine hKo _ _ ?_
   clear hKo Ko
   try simp only [Act.put, nm1, nm2, nm3, i64_w]
   have cl0 := (hb2.up (hu7.out.trans hu13.out)).cell (o := 4) rfl
   have cl1 := (hb2.up (hu7.out.trans hu13.out)).cell (o := 5) rfl
   refine wpList_plain rfl (fun Ko hKo => ?_)
   go_simp
   refine hKo _ _ ?_
   clear hKo Ko
   clear cl0 cl1
   try simp only [Act.put, nm1, nm2, nm3, i64_w]
   refine wpList_plain rfl (fun Ko hKo => ?_)
   go_simp
   refine hKo _ _ ?_
   clear hKo Ko
   try simp only [Act.put, nm1, nm2, nm3, i64_w]
   have cl0 := (hb5.up hu13.out).cell (o := 4) rfl
   have cl1 := (hb5.up hu13.out).cell (o := 5) rfl
   refine wpList_plain rfl (fun Ko hKo => ?_)
   go_simp
   refine hKo _ _ ?_
   clear hKo Ko
   clear cl0 cl1
   try simp only [Act.put, nm1, nm2, nm3, i64_w]
   refine step_call (wanted_none rfl) (by first | (go_simp; done) | (go_simp; rfl)) (laws_eqPoint.calls K a0_4 a0_5 a1_4 a1_5 false w12  A18.out) ?_
   rintro e w19 ⟨rfl, hu⟩
   have hu20 := Aside0.mk hu
   clear hu
   refine ⟨_, rfl, ?_⟩
   simp only [Act.put, nm1, nm2, nm3, i64_w]
   refine wpList_plain rfl (fun Ko hKo => ?_)
   go_simp
   refine hKo _ _ ?_
   clear hKo Ko
   try simp only [Act.put, nm1, nm2, nm3, i64_w]
   refine wpList_nil ?_
   (try simp only [Exit.then, Exit.inBlock, ↓reduceIte, Nat.reduceEqDiff])
   refine hK16 _ _ ?_
   refine wp_cond_true rfl ?_
   refine wp_seq_k (fun K23 hK23 => ?_)
   refine wp_region_lit ?_
   refine wpList_plain rfl (fun Ko hKo => ?_)
   go_simp
   refine hKo _ _ ?_
   clear hKo Ko
   try simp only [Act.put, nm1, nm2, nm3, i64_w]
   refine wpList_nil ?_
   (try simp only [Exit.then, Exit.inBlock, ↓reduceIte, Nat.reduceEqDiff])
   refine hK23 _ _ ?_
   refine wp_ret ?_
   (try simp only [Exit.then, Exit.inBlock, ↓reduceIte, Nat.reduceEqDiff])
   refine hQf _ _ _ ?_
   exact bodyPost_ret (v := .bool false) (by first | rfl | (simp [results, Try.results22, go_sem]; done) | (simp [results, Try.results22, go_sem]; rfl)) rfl ⟨rfl, (((hu4.out.trans hu7.out).trans hu13.out).trans hu20.out)⟩
 ·
  rw [if_neg c14] at H
  replace c14 := Bool.eq_false_iff.mpr c14
  subst c14
  obtain rfl := Option.some.inj H
  go_enter Try.func22, Try.ntmps22
  refine wp_hide (fun Qf hQf => ?_)
  refine wp_seq_k (fun K1 hK1 => ?_)
  refine wp_region_lit ?_
  refine step_new (cs := [.int .i64 a0_0, .int .i64 a0_1, .int .i64 a0_2, .int .i64 a0_3, .int .i64 a0_4, .int .i64 a0_5]) (T := 30) (f := fun b => .pointer (some ⟨b, 0, none⟩)) rfl (by first | (go_simp; done) | (go_simp; rfl)) ?_
  intro b2 w3 hu lb hb2
  simp only [Act.put, nm1, nm2, nm3, i64_w]
  have lbb2 := Aside0.mk lb
  have ltb2 := Aside0.mk hb2.lt
  clear lb
  have hu4 := Aside0.mk hu
  clear hu
  refine step_new (cs := [.int .i64 a1_0, .int .i64 a1_1, .int .i64 a1_2, .int .i64 a1_3, .int .i64 a1_4, .int .i64 a1_5]) (T := 30) (f := fun b => .pointer (some ⟨b, 0, none⟩)) rfl (by first | (go_simp; done) | (go_simp; rfl)) ?_
  intro b5 w6 hu lb hb5
  simp only [Act.put, nm1, nm2, nm3, i64_w]
  have lbb5 := Aside0.mk lb
  have ltb5 := Aside0.mk hb5.lt
  clear lb
  have hu7 := Aside0.mk hu
  clear hu
  refine wpList_plain rfl (fun Ko hKo => ?_)
  go_simp
  refine hKo _ _ ?_
  clear hKo Ko
  try simp only [Act.put, nm1, nm2, nm3, i64_w]
  refine wpList_nil ?_
  (try simp only [Exit.then, Exit.inBlock, ↓reduceIte, Nat.reduceEqDiff])
  refine hK1 _ _ ?_
  refine wp_seq_k (fun K8 hK8 => ?_)
  refine wp_seq_k (fun K9 hK9 => ?_)
  refine wp_region_lit ?_
  refine wpList_plain rfl (fun Ko hKo => ?_)
  go_simp
  refine hKo _ _ ?_
  clear hKo Ko
  try simp only [Act.put, nm1, nm2, nm3, i64_w]
  have cl0 := (hb2.up hu7.out).cell (o := 0) rfl
  have cl1 := (hb2.up hu7.out).cell (o := 1) rfl
  have cl2 := (hb2.up hu7.out).cell (o := 2) rfl
  have cl3 := (hb2.up hu7.out).cell (o := 3) rfl
  refine wpList_plain rfl (fun Ko hKo => ?_)
  go_simp
  refine hKo _ _ ?_
  clear hKo Ko
  clear cl0 cl1 cl2 cl3
  try simp only [Act.put, nm1, nm2, nm3, i64_w]
  refine wpList_plain rfl (fun Ko hKo => ?_)
  go_simp
  refine hKo _ _ ?_
  clear hKo Ko
  try simp only [Act.put, nm1, nm2, nm3, i64_w]
  have cl0 := hb5.cell (o := 0) rfl
  have cl1 := hb5.cell (o := 1) rfl
  have cl2 := hb5.cell (o := 2) rfl
  have cl3 := hb5.cell (o := 3) rfl
  refine wpList_plain rfl (fun Ko hKo => ?_)
  go_simp
  refine hKo _ _ ?_
  clear hKo Ko
  clear cl0 cl1 cl2 cl3
  try simp only [Act.put, nm1, nm2, nm3, i64_w]
  refine step_call (wanted_none rfl) (by first | (go_simp; done) | (go_simp; rfl)) (laws_eqInt64A4.calls K a0_0 a0_1 a0_2 a0_3 a1_0 a1_1 a1_2 a1_3 false w6  A11.out) ?_
  rintro e w12 ⟨rfl, hu⟩
  have hu13 := Aside0.mk hu
  clear hu
  refine ⟨_, rfl, ?_⟩
  simp only [Act.put, nm1, nm2, nm3, i64_w]
  refine wpList_plain rfl (fun Ko hKo => ?_)
  go_simp
  refine hKo _ _ ?_
  clear hKo Ko
  try simp only [Act.put, nm1, nm2, nm3, i64_w]
  refine wpList_nil ?_
  (try simp only [Exit.then, Exit.inBlock, ↓reduceIte, Nat.reduceEqDiff])
  refine hK9 _ _ ?_
  refine wp_cond_true rfl ?_
  refine wp_seq_k (fun K24 hK24 => ?_)
  refine wp_region_lit ?_
  refine wpList_plain rfl (fun Ko hKo => ?_)
  go_simp
  refine hKo _ _ ?_
  clear hKo Ko
  try simp only [Act.put, nm1, nm2, nm3, i64_w]
  refine wpList_nil ?_
  (try simp only [Exit.then, Exit.inBlock, ↓reduceIte, Nat.reduceEqDiff])
  refine hK24 _ _ ?_
  refine wp_ret ?_
  (try simp only [Exit.then, Exit.inBlock, ↓reduceIte, Nat.reduceEqDiff])
  refine hQf _ _ _ ?_
  exact bodyPost_ret (v := .bool false) (by first | rfl | (simp [results, Try.results22, go_sem]; done) | (simp [results, Try.results22, go_sem]; rfl)) rfl ⟨rfl, ((hu4.out.trans hu7.out).trans hu13.out)⟩

set_option maxHeartbeats 4000000 in
set_option maxRecDepth 100000 in
theorem laws_FnExactProductOfMoves.calls (K : Nat) (a0 : Int) (a1_0 : Int) (a1_1 : Int) (a1_2 : Int) (a1_3 : Int) (a1_4 : Int) (a1_5 : Int) (a2_0 : Int) (a2_1 : Int) (a2_2 : Int) (a2_3 : Int) (a2_4 : Int) (a2_5 : Int) (r0 : Bool) (w : World)  (h : laws_FnExactProductOfMoves.f K a0 a1_0 a1_1 a1_2 a1_3 a1_4 a1_5 a2_0 a2_1 a2_2 a2_3 a2_4 a2_5 = some (r0)) :
    Calls Try.prog 5 #[.int .i64 a0, .agg #[.int .i64 a1_0, .int .i64 a1_1, .int .i64 a1_2, .int .i64 a1_3, .int .i64 a1_4, .int .i64 a1_5], .agg #[.int .i64 a2_0, .int .i64 a2_1, .int .i64 a2_2, .int .i64 a2_3, .int .i64 a2_4, .int .i64 a2_5]] w fun e w' => e = .returned (.bool r0) ∧ Up w w' := by
 have H : (((laws_toMove.f K a1_0 a1_1 a1_2 a1_3 a1_4 a1_5).bind fun (t9, t10, t11, t12, t13, t14) => ((laws_toMove.f K a2_0 a2_1 a2_2 a2_3 a2_4 a2_5).bind fun (t16, t17, t18, t19, t20, t21) => ((spec_ProductOfMoves.f K a0 t9 t10 t11 t12 t13 t14 t16 t17 t18 t19 t20 t21).bind fun (t23, t24, t25, t26, t27, t28, t29) => ((laws_toMove.f K a1_0 a1_1 a1_2 a1_3 a1_4 a1_5).bind fun (t39, t40, t41, t42, t43, t44) => ((laws_toMove.f K a2_0 a2_1 a2_2 a2_3 a2_4 a2_5).bind fun (t46, t47, t48, t49, t50, t51) => ((impl_ProductOfMoves.f K a0 t39 t40 t41 t42 t43 t44 t46 t47 t48 t49 t50 t51).bind fun (t53, t54, t55, t56, t57, t58, t59) => ((laws_eqMove.f K t53 t54 t55 t56 t57 t58 t23 t24 t25 t26 t27 t28).bind fun t70 => (if t70 = true then (if (t59 == t29) = true then some true else some false) else some false)))))))) : Option (Bool)) = some (r0) := h
 clear h
 replace H := Option.bind_eq_some_iff.mp H
 obtain ⟨⟨t9, t10, t11, t12, t13, t14⟩, A15, H⟩ := H
 replace A15 := Aside0.mk A15
 try dsimp only at H
 replace H := Option.bind_eq_some_iff.mp H
 obtain ⟨⟨t16, t17, t18, t19, t20, t21⟩, A22, H⟩ := H
 replace A22 := Aside0.mk A22
 try dsimp only at H
 replace H := Option.bind_eq_some_iff.mp H
 obtain ⟨⟨t23, t24, t25, t26, t27, t28, t29⟩, A30, H⟩ := H
 replace A30 := Aside0.mk A30
 try dsimp only at H
 replace H := Option.bind_eq_some_iff.mp H
 obtain ⟨⟨t39, t40, t41, t42, t43, t44⟩, A45, H⟩ := H
 replace A45 := Aside0.mk A45
 try dsimp only at H
 replace H := Option.bind_eq_some_iff.mp H
 obtain ⟨⟨t46, t47, t48, t49, t50, t51⟩, A52, H⟩ := H
 replace A52 := Aside0.mk A52
 try dsimp only at H
 replace H := Option.bind_eq_some_iff.mp H
 obtain ⟨⟨t53, t54, t55, t56, t57, t58, t59⟩, A60, H⟩ := H
 replace A60 := Aside0.mk A60
 try dsimp only at H
 replace H := Option.bind_eq_some_iff.mp H
 obtain ⟨t70, A71, H⟩ := H
 replace A71 := Aside0.mk A71
 try dsimp only at H
 by_cases c74 : (t70) = true
 ·
  rw [if_pos c74] at H
  subst c74
  by_cases c75 : (t59 == t29) = true
  ·
   rw [if_pos c75] at H
   have c75n : (t59 != t29) = false := by rw [bne, c75]; rfl
   obtain rfl := Option.some.inj H
   go_enter Try.func5, Try.ntmps5
   refine wp_hide (fun Qf hQf => ?_)
   refine wp_seq_k (fun K1 hK1 => ?_)
   refine wp_region_lit ?_
   refine step_new (cs := [.int .i64 a1_0, .int .i64 a1_1, .int .i64 a1_2, .int .i64 a1_3, .int .i64 a1_4, .int .i64 a1_5]) (T := 25) (f := fun b => .pointer (some ⟨b, 0, none⟩)) rfl (by first | (go_simp; done) | (go_simp; rfl)) ?_
   intro b2 w3 hu lb hb2
   simp only [Act.put, nm1, nm2, nm3, i64_w]
   have lbb2 := Aside0.mk lb
   have ltb2 := Aside0.mk hb2.lt
   clear lb
   have hu4 := Aside0.mk hu
   clear hu
   refine step_new (cs := [.int .i64 a2_0, .int .i64 a2_1, .int .i64 a2_2, .int .i64 a2_3, .int .i64 a2_4, .int .i64 a2_5]) (T := 25) (f := fun b => .pointer (some ⟨b, 0, none⟩)) rfl (by first | (go_simp; done) | (go_simp; rfl)) ?_
   intro b5 w6 hu lb hb5
   simp only [Act.put, nm1, nm2, nm3, i64_w]
   have lbb5 := Aside0.mk lb
   have ltb5 := Aside0.mk hb5.lt
   clear lb
   have hu7 := Aside0.mk hu
   clear hu
   refine wpList_plain rfl (fun Ko hKo => ?_)
   go_simp
   refine hKo _ _ ?_
   clear hKo Ko
   try simp only [Act.put, nm1, nm2, nm3, i64_w]
   refine wpList_nil ?_
   (try simp only [Exit.then, Exit.inBlock, ↓reduceIte, Nat.reduceEqDiff])
   refine hK1 _ _ ?_
   refine wp_seq_k (fun K8 hK8 => ?_)
   refine' wp_region_late 10 [8] [Slot.det _, Slot.det _, Slot.det (.agg #[.int .i64 t9, .int .i64 t10, .int .i64 t11, .int .i64 t12, .int .i64 t13, .int .i64 t14]), Slot.det _, Slot.det (.agg #[.int .i64 t16, .int .i64 t17, .int .i64 t18, .int .i64 t19, .int .i64 t20, .int .i64 t21]), Slot.det (.tuple #[.agg #[.int .i64 t23, .int .i64 t24, .int .i64 t25, .int .i64 t26, .int .i64 t27, .int .i64 t28], .int .i64 t29]), Slot.det _, Slot.det _, Slot.det _, Slot.any (PtrTo [.int .i64 0, .int .i64 0, .int .i64 0, .int .i64 0, .int .i64 0, .int .i64 0] 30) true] (by kernel_rfl) [true, true, true, true, true, true, true, true, true, false] (by kernel_rfl) rfl (by kernel_rfl) (by decide) ?main
   case main =>
    simp only [List.take_succ_cons, List.take_zero]
    refine wpK_ops rfl (fun w1 hu => ?_) ?_
    · clear hu
      go_simp
      first | done | rfl
    simp only [Act.put, nm1, nm2, nm3, i64_w]
    refine wpK_ops rfl (fun w1 hu => ?_) ?_
    · have cl0 := ((hb2.up hu7.out).up ((Up.refl _).drew.trans hu)).cell (o := 0) rfl
      have cl1 := ((hb2.up hu7.out).up ((Up.refl _).drew.trans hu)).cell (o := 1) rfl
      have cl2 := ((hb2.up hu7.out).up ((Up.refl _).drew.trans hu)).cell (o := 2) rfl
      have cl3 := ((hb2.up hu7.out).up ((Up.refl _).drew.trans hu)).cell (o := 3) rfl
      have cl4 := ((hb2.up hu7.out).up ((Up.refl _).drew.trans hu)).cell (o := 4) rfl
      have cl5 := ((hb2.up hu7.out).up ((Up.refl _).drew.trans hu)).cell (o := 5) rfl
      go_simp
      first | done | rfl
    simp only [Act.put, nm1, nm2, nm3, i64_w]
    refine wpK_ops rfl (fun w1 hu => ?_) ?_
    · have hcl := (laws_toMove.calls K a1_0 a1_1 a1_2 a1_3 a1_4 a1_5 t9 t10 t11 t12 t13 t14 w1  A15.out)
      clear hu
      replace hcl := Aside0.mk hcl
      go_simp
      exact hcl.out
    simp only [Act.put, nm1, nm2, nm3, i64_w]
    refine wpK_ops rfl (fun w1 hu => ?_) ?_
    · have cl0 := (hb5.up ((Up.refl _).drew.trans hu)).cell (o := 0) rfl
      have cl1 := (hb5.up ((Up.refl _).drew.trans hu)).cell (o := 1) rfl
      have cl2 := (hb5.up ((Up.refl _).drew.trans hu)).cell (o := 2) rfl
      have cl3 := (hb5.up ((Up.refl _).drew.trans hu)).cell (o := 3) rfl
      have cl4 := (hb5.up ((Up.refl _).drew.trans hu)).cell (o := 4) rfl
      have cl5 := (hb5.up ((Up.refl _).drew.trans hu)).cell (o := 5) rfl
      go_simp
      first | done | rfl
    simp only [Act.put, nm1, nm2, nm3, i64_w]
    refine wpK_ops rfl (fun w1 hu => ?_) ?_
    · have hcl := (laws_toMove.calls K a2_0 a2_1 a2_2 a2_3 a2_4 a2_5 t16 t17 t18 t19 t20 t21 w1  A22.out)
      clear hu
      replace hcl := Aside0.mk hcl
      go_simp
      exact hcl.out
    simp only [Act.put, nm1, nm2, nm3, i64_w]
    refine wpK_ops rfl (fun w1 hu => ?_) ?_
    · have hcl := (spec_ProductOfMoves.calls K a0 t9 t10 t11 t12 t13 t14 t16 t17 t18 t19 t20 t21 t23 t24 t25 t26 t27 t28 t29 w1  A30.out)
      clear hu
      replace hcl := Aside0.mk hcl
      go_simp
      exact hcl.out
    simp only [Act.put, nm1, nm2, nm3, i64_w]
    refine wpK_ops rfl (fun w1 hu => ?_) ?_
    · clear hu
      go_simp
      first | done | rfl
    simp only [Act.put, nm1, nm2, nm3, i64_w]
    refine wpK_ops rfl (fun w1 hu => ?_) ?_
    · clear hu
      go_simp
      first | done | rfl
    simp only [Act.put, nm1, nm2, nm3, i64_w]
    refine wpK_ops rfl (fun w1 hu => ?_) ?_
    · clear hu
      go_simp
      first | done | rfl
    simp only [Act.put, nm1, nm2, nm3, i64_w]
    refine wpK_any rfl (stab_ptr _ _) (fun w1 _ _ => fresh_ptr (by first | (go_simp; done) | (go_simp; rfl))) (fun v31 => ?_)
    simp only [Act.put, nm1, nm2, nm3, i64_w]
    refine wpK_nil ?_
    intro w33 hu hap
    simp only [List.drop_succ_cons, List.drop_zero]
    replace hu := (Up.refl _).drew.trans hu
    obtain ⟨hf0, hn0, ⟨b32, e0, hb32⟩, -⟩ := hap
    have lbb32 := Aside0.mk (hf0 rfl b32 (by rw [e0]; rfl)).1
    have ltb32 := Aside0.mk hb32.lt
    dsimp only at e0
    subst e0
    clear hf0 hn0
    have hu34 := Aside0.mk hu
    clear hu
    refine late_cons (Up.of_drew hu34.out) ?_
    have hB0 := hb32
    have cl0 := hB0.cell (o := 0) rfl
    have fr0 := hB0.free 0
    have cl1 := hB0.cell (o := 1) rfl
    have fr1 := hB0.free 1
    have cl2 := hB0.cell (o := 2) rfl
    have fr2 := hB0.free 2
    have cl3 := hB0.cell (o := 3) rfl
    have fr3 := hB0.free 3
    have cl4 := hB0.cell (o := 4) rfl
    have fr4 := hB0.free 4
    have cl5 := hB0.cell (o := 5) rfl
    have fr5 := hB0.free 5
    refine step_store (b := b32) (cs' := [.int .i64 t23, .int .i64 t24, .int .i64 t25, .int .i64 t26, .int .i64 t27, .int .i64 t28]) (T := 30) (W' := ((((((w33.setCell ⟨b32, 0, none⟩ (.int .i64 t23)).setCell ⟨b32, 1, none⟩ (.int .i64 t24)).setCell ⟨b32, 2, none⟩ (.int .i64 t25)).setCell ⟨b32, 3, none⟩ (.int .i64 t26)).setCell ⟨b32, 4, none⟩ (.int .i64 t27)).setCell ⟨b32, 5, none⟩ (.int .i64 t28))) rfl rfl (by first | (go_simp; done) | (go_simp; rfl)) (((((((Sto.refl _ _).setCell 0 _).setCell 1 _).setCell 2 _).setCell 3 _).setCell 4 _).setCell 5 _) (((((((hB0).setCell 0 _).setCell 1 _).setCell 2 _).setCell 3 _).setCell 4 _).setCell 5 _) ?_
    clear hB0 cl0 fr0 cl1 fr1 cl2 fr2 cl3 fr3 cl4 fr4 cl5 fr5
    intro w35 hs hb37
    have hs36 := Aside0.mk hs
    clear hs
    refine wpList_nil ?_
    refine wrapQ_k ?_
    refine late_cons (Up.of_drew (hu34.out.sto (Nat.le_trans (Nat.le_refl _) lbb32.out) hs36.out)) ?_
    refine wpList_plain rfl (fun Ko hKo => ?_)
    go_simp
    refine hKo _ _ ?_
    clear hKo Ko
    try simp only [Act.put, nm1, nm2, nm3, i64_w]
    refine wpList_nil ?_
    refine wrapQ_k ?_
    refine late_nil (Up.of_drew (hu34.out.sto (Nat.le_trans (Nat.le_refl _) lbb32.out) hs36.out)) ?_
    (try simp only [Exit.then, Exit.inBlock, ↓reduceIte, Nat.reduceEqDiff])
    refine hK8 _ _ ?_
    refine wp_seq_k (fun K38 hK38 => ?_)
    refine' wp_region_late 10 [8] [Slot.det _, Slot.det _, Slot.det (.agg #[.int .i64 t39, .int .i64 t40, .int .i64 t41, .int .i64 t42, .int .i64 t43, .int .i64 t44]), Slot.det _, Slot.det (.agg #[.int .i64 t46, .int .i64 t47, .int .i64 t48, .int .i64 t49, .int .i64 t50, .int .i64 t51]), Slot.det (.tuple #[.agg #[.int .i64 t53, .int .i64 t54, .int .i64 t55, .int .i64 t56, .int .i64 t57, .int .i64 t58], .int .i64 t59]), Slot.det _, Slot.det _, Slot.det _, Slot.any (PtrTo [.int .i64 0, .int .i64 0, .int .i64 0, .int .i64 0, .int .i64 0, .int .i64 0] 30) true] (by kernel_rfl) [true, true, true, true, true, true, true, true, true, false] (by kernel_rfl) rfl (by kernel_rfl) (by decide) ?main
    case main =>
     simp only [List.take_succ_cons, List.take_zero]
     refine wpK_ops rfl (fun w1 hu => ?_) ?_
     · clear hu
       go_simp
       first | done | rfl
     simp only [Act.put, nm1, nm2, nm3, i64_w]
     refine wpK_ops rfl (fun w1 hu => ?_) ?_
     · have cl0 := ((hb2.up ((hu7.out.trans hu34.out).sto (Nat.le_trans (hu7.out.size) lbb32.out) hs36.out)).up ((Up.refl _).drew.trans hu)).cell (o := 0) rfl
       have cl1 := ((hb2.up ((hu7.out.trans hu34.out).sto (Nat.le_trans (hu7.out.size) lbb32.out) hs36.out)).up ((Up.refl _).drew.trans hu)).cell (o := 1) rfl
       have cl2 := ((hb2.up ((hu7.out.trans hu34.out).sto (Nat.le_trans (hu7.out.size) lbb32.out) hs36.out)).up ((Up.refl _).drew.trans hu)).cell (o := 2) rfl
       have cl3 := ((hb2.up ((hu7.out.trans hu34.out).sto (Nat.le_trans (hu7.out.size) lbb32.out) hs36.out)).up ((Up.refl _).drew.trans hu)).cell (o := 3) rfl
       have cl4 := ((hb2.up ((hu7.out.trans hu34.out).sto (Nat.le_trans (hu7.out.size) lbb32.out) hs36.out)).up ((Up.refl _).drew.trans hu)).cell (o := 4) rfl
       have cl5 := ((hb2.up ((hu7.out.trans hu34.out).sto (Nat.le_trans (hu7.out.size) lbb32.out) hs36.out)).up ((Up.refl _).drew.trans hu)).cell (o := 5) rfl
       go_simp
       first | done | rfl
     simp only [Act.put, nm1, nm2, nm3, i64_w]
     refine wpK_ops rfl (fun w1 hu => ?_) ?_
     · have hcl := (laws_toMove.calls K a1_0 a1_1 a1_2 a1_3 a1_4 a1_5 t39 t40 t41 t42 t43 t44 w1  A45.out)
       clear hu
       replace hcl := Aside0.mk hcl
       go_simp
       exact hcl.out
     simp only [Act.put, nm1, nm2, nm3, i64_w]
     refine wpK_ops rfl (fun w1 hu => ?_) ?_
     · have cl0 := ((hb5.up (hu34.out.sto (Nat.le_trans (Nat.le_refl _) lbb32.out) hs36.out)).up ((Up.refl _).drew.trans hu)).cell (o := 0) rfl
       have cl1 := ((hb5.up (hu34.out.sto (Nat.le_trans (Nat.le_refl _) lbb32.out) hs36.out)).up ((Up.refl _).drew.trans hu)).cell (o := 1) rfl
       have cl2 := ((hb5.up (hu34.out.sto (Nat.le_trans (Nat.le_refl _) lbb32.out) hs36.out)).up ((Up.refl _).drew.trans hu)).cell (o := 2) rfl
       have cl3 := ((hb5.up (hu34.out.sto (Nat.le_trans (Nat.le_refl _) lbb32.out) hs36.out)).up ((Up.refl _).drew.trans hu)).cell (o := 3) rfl
       have cl4 := ((hb5.up (hu34.out.sto (Nat.le_trans (Nat.le_refl _) lbb32.out) hs36.out)).up ((Up.refl _).drew.trans hu)).cell (o := 4) rfl
       have cl5 := ((hb5.up (hu34.out.sto (Nat.le_trans (Nat.le_refl _) lbb32.out) hs36.out)).up ((Up.refl _).drew.trans hu)).cell (o := 5) rfl
       go_simp
       first | done | rfl
     simp only [Act.put, nm1, nm2, nm3, i64_w]
     refine wpK_ops rfl (fun w1 hu => ?_) ?_
     · have hcl := (laws_toMove.calls K a2_0 a2_1 a2_2 a2_3 a2_4 a2_5 t46 t47 t48 t49 t50 t51 w1  A52.out)
       clear hu
       replace hcl := Aside0.mk hcl
       go_simp
       exact hcl.out
     simp only [Act.put, nm1, nm2, nm3, i64_w]
     refine wpK_ops rfl (fun w1 hu => ?_) ?_
     · have hcl := (impl_ProductOfMoves.calls K a0 t39 t40 t41 t42 t43 t44 t46 t47 t48 t49 t50 t51 t53 t54 t55 t56 t57 t58 t59 w1  A60.out)
       clear hu
       replace hcl := Aside0.mk hcl
       go_simp
       exact hcl.out
     simp only [Act.put, nm1, nm2, nm3, i64_w]
     refine wpK_ops rfl (fun w1 hu => ?_) ?_
     · clear hu
       go_simp
       first | done | rfl
     simp only [Act.put, nm1, nm2, nm3, i64_w]
     refine wpK_ops rfl (fun w1 hu => ?_) ?_
     · clear hu
       go_simp
       first | done | rfl
     simp only [Act.put, nm1, nm2, nm3, i64_w]
     refine wpK_ops rfl (fun w1 hu => ?_) ?_
     · clear hu
       go_simp
       first | done | rfl
     simp only [Act.put, nm1, nm2, nm3, i64_w]
     refine wpK_any rfl (stab_ptr _ _) (fun w1 _ _ => fresh_ptr (by first | (go_simp; done) | (go_simp; rfl))) (fun v61 => ?_)
     simp only [Act.put, nm1, nm2, nm3, i64_w]
     refine wpK_nil ?_
     intro w63 hu hap
     simp only [List.drop_succ_cons, List.drop_zero]
     replace hu := (Up.refl _).drew.trans hu
     obtain ⟨hf0, hn0, ⟨b62, e0, hb62⟩, -⟩ := hap
     have lbb62 := Aside0.mk (hf0 rfl b62 (by rw [e0]; rfl)).1
     have ltb62 := Aside0.mk hb62.lt
     dsimp only at e0
     subst e0
     clear hf0 hn0
     have hu64 := Aside0.mk hu
     clear hu
     refine late_cons (Up.of_drew hu64.out) ?_
     have hB0 := hb62
     have cl0 := hB0.cell (o := 0) rfl
     have fr0 := hB0.free 0
     have cl1 := hB0.cell (o := 1) rfl
     have fr1 := hB0.free 1
     have cl2 := hB0.cell (o := 2) rfl
     have fr2 := hB0.free 2
     have cl3 := hB0.cell (o := 3) rfl
     have fr3 := hB0.free 3
     have cl4 := hB0.cell (o := 4) rfl
     have fr4 := hB0.free 4
     have cl5 := hB0.cell (o := 5) rfl
     have fr5 := hB0.free 5
     refine step_store (b := b62) (cs' := [.int .i64 t53, .int .i64 t54, .int .i64 t55, .int .i64 t56, .int .i64 t57, .int .i64 t58]) (T := 30) (W' := ((((((w63.setCell ⟨b62, 0, none⟩ (.int .i64 t53)).setCell ⟨b62, 1, none⟩ (.int .i64 t54)).setCell ⟨b62, 2, none⟩ (.int .i64 t55)).setCell ⟨b62, 3, none⟩ (.int .i64 t56)).setCell ⟨b62, 4, none⟩ (.int .i64 t57)).setCell ⟨b62, 5, none⟩ (.int .i64 t58))) rfl rfl (by first | (go_simp; done) | (go_simp; rfl)) (((((((Sto.refl _ _).setCell 0 _).setCell 1 _).setCell 2 _).setCell 3 _).setCell 4 _).setCell 5 _) (((((((hB0).setCell 0 _).setCell 1 _).setCell 2 _).setCell 3 _).setCell 4 _).setCell 5 _) ?_
     clear hB0 cl0 fr0 cl1 fr1 cl2 fr2 cl3 fr3 cl4 fr4 cl5 fr5
     intro w65 hs hb67
     have hs66 := Aside0.mk hs
     clear hs
     refine wpList_nil ?_
     refine wrapQ_k ?_
     refine late_cons (Up.of_drew (hu64.out.sto (Nat.le_trans (Nat.le_refl _) lbb62.out) hs66.out)) ?_
     refine wpList_plain rfl (fun Ko hKo => ?_)
     go_simp
     refine hKo _ _ ?_
     clear hKo Ko
     try simp only [Act.put, nm1, nm2, nm3, i64_w]
     refine wpList_nil ?_
     refine wrapQ_k ?_
     refine late_nil (Up.of_drew (hu64.out.sto (Nat.le_trans (Nat.le_refl _) lbb62.out) hs66.out)) ?_
     (try simp only [Exit.then, Exit.inBlock, ↓reduceIte, Nat.reduceEqDiff])
     refine hK38 _ _ ?_
     refine wp_seq_k (fun K68 hK68 => ?_)
     refine wp_seq_k (fun K69 hK69 => ?_)
     refine wp_region_lit ?_
     have cl0 := hb67.cell (o := 0) rfl
     have cl1 := hb67.cell (o := 1) rfl
     have cl2 := hb67.cell (o := 2) rfl
     have cl3 := hb67.cell (o := 3) rfl
     have cl4 := hb67.cell (o := 4) rfl
     have cl5 := hb67.cell (o := 5) rfl
     refine wpList_plain rfl (fun Ko hKo => ?_)
     go_simp
     refine hKo _ _ ?_
     clear hKo Ko
     clear cl0 cl1 cl2 cl3 cl4 cl5
     try simp only [Act.put, nm1, nm2, nm3, i64_w]
     have cl0 := (hb37.up (hu64.out.sto (Nat.le_trans (Nat.le_refl _) lbb62.out) hs66.out)).cell (o := 0) rfl
     have cl1 := (hb37.up (hu64.out.sto (Nat.le_trans (Nat.le_refl _) lbb62.out) hs66.out)).cell (o := 1) rfl
     have cl2 := (hb37.up (hu64.out.sto (Nat.le_trans (Nat.le_refl _) lbb62.out) hs66.out)).cell (o := 2) rfl
     have cl3 := (hb37.up (hu64.out.sto (Nat.le_trans (Nat.le_refl _) lbb62.out) hs66.out)).cell (o := 3) rfl
     have cl4 := (hb37.up (hu64.out.sto (Nat.le_trans (Nat.le_refl _) lbb62.out) hs66.out)).cell (o := 4) rfl
     have cl5 := (hb37.up (hu64.out.sto (Nat.le_trans (Nat.le_refl _) lbb62.out) hs66.out)).cell (o := 5) rfl
     refine wpList_plain rfl (fun Ko hKo => ?_)
     go_simp
     refine hKo _ _ ?_
     clear hKo Ko
     clear cl0 cl1 cl2 cl3 cl4 cl5
     try simp only [Act.put, nm1, nm2, nm3, i64_w]
     refine step_call (wanted_none rfl) (by first | (go_simp; done) | (go_simp; rfl)) (laws_eqMove.calls K t53 t54 t55 t56 t57 t58 t23 t24 t25 t26 t27 t28 true w65  A71.out) ?_
     rintro e w72 ⟨rfl, hu⟩
     have hu73 := Aside0.mk hu
     clear hu
     refine ⟨_, rfl, ?_⟩
     simp only [Act.put, nm1, nm2, nm3, i64_w]
     refine wpList_plain rfl (fun Ko hKo => ?_)
     go_simp
     refine hKo _ _ ?_
     clear hKo Ko
     try simp only [Act.put, nm1, nm2, nm3, i64_w]
     refine wpList_plain rfl (fun Ko hKo => ?_)
     go_simp
     refine hKo _ _ ?_
     clear hKo Ko
     try simp only [Act.put, nm1, nm2, nm3, i64_w]
     refine wpList_step (fun Ko hKo => ?_)
     go_simp
     refine hKo _ _ ?_
     clear hKo Ko
     try simp only [Act.put, nm1, nm2, nm3, i64_w]
     refine wpList_step (fun Ko hKo => ?_)
     go_simp
     refine hKo _ _ ?_
     clear hKo Ko
     try simp only [Act.put, nm1, nm2, nm3, i64_w]
     refine wpList_step (fun Ko hKo => ?_)
     go_simp
     refine hKo _ _ ?_
     clear hKo Ko
     try simp only [Act.put, nm1, nm2, nm3, i64_w]
     refine wpList_plain rfl (fun Ko hKo => ?_)
     go_simp
     refine hKo _ _ ?_
     clear hKo Ko
     try simp only [Act.put, nm1, nm2, nm3, i64_w]
     refine wpList_nil ?_
     (try simp only [Exit.then, Exit.inBlock, ↓reduceIte, Nat.reduceEqDiff])
     refine hK69 _ _ ?_
     refine wp_cond_false rfl ?_
     refine wp_skip ?_
     (try simp only [Exit.then, Exit.inBlock, ↓reduceIte, Nat.reduceEqDiff])
     refine hK68 _ _ ?_
     refine wp_seq_k (fun K76 hK76 => ?_)
     refine wp_region_lit ?_
     refine wpList_plain rfl (fun Ko hKo => ?_)
     go_simp
     refine hKo _ _ ?_
     clear hKo Ko
     try simp only [Act.put, nm1, nm2, nm3, i64_w]
     refine wpList_nil ?_
     (try simp only [Exit.then, Exit.inBlock, ↓reduceIte, Nat.reduceEqDiff])
     refine hK76 _ _ ?_
     refine wp_ret ?_
     (try simp only [Exit.then, Exit.inBlock, ↓reduceIte, Nat.reduceEqDiff])
     refine hQf _ _ _ ?_
     exact bodyPost_ret (v := .bool true) (by first | rfl | (simp [results, Try.results5, go_sem]; done) | (simp [results, Try.results5, go_sem]; rfl)) rfl ⟨rfl, ((((((hu4.out.trans hu7.out).trans hu34.out).sto (Nat.le_trans ((Nat.le_trans (hu4.out.size) hu7.out.size)) lbb32.out) hs36.out).trans hu64.out).sto (Nat.le_trans ((Nat.le_trans ((Nat.le_trans ((Nat.le_trans (hu4.out.size) hu7.out.size)) hu34.out.size)) (Nat.le_of_eq hs36.out.size.symm))) lbb62.out) hs66.out).trans hu73.out)⟩
  ·
   rw [if_neg c75] at H
   replace c75 := Bool.eq_false_iff.mpr c75
   have c75n : (t59 != t29) = true := by rw [bne, c75]; rfl
   have c75p : ¬ t59 = t29 := fun e => by simp [e] at c75
   obtain rfl := Option.some.inj H
   go_enter Try.func5, Try.ntmps5
   refine wp_hide (fun Qf hQf => ?_)
   refine wp_seq_k (fun K1 hK1 => ?_)
   refine wp_region_lit ?_
   refine step_new (cs := [.int .i64 a1_0, .int .i64 a1_1, .int .i64 a1_2, .int .i64 a1_3, .int .i64 a1_4, .int .i64 a1_5]) (T := 25) (f := fun b => .pointer (some ⟨b, 0, none⟩)) rfl (by first | (go_simp; done) | (go_simp; rfl)) ?_
   intro b2 w3 hu lb hb2
   simp only [Act.put, nm1, nm2, nm3, i64_w]
   have lbb2 := Aside0.mk lb
   have ltb2 := Aside0.mk hb2.lt
   clear lb
   have hu4 := Aside0.mk hu
   clear hu
   refine step_new (cs := [.int .i64 a2_0, .int .i64 a2_1, .int .i64 a2_2, .int .i64 a2_3, .int .i64 a2_4, .int .i64 a2_5]) (T := 25) (f := fun b => .pointer (some ⟨b, 0, none⟩)) rfl (by first | (go_simp; done) | (go_simp; rfl)) ?_
   intro b5 w6 hu lb hb5
   simp only [Act.put, nm1, nm2, nm3, i64_w]
   have lbb5 := Aside0.mk lb
   have ltb5 := Aside0.mk hb5.lt
   clear lb
   have hu7 := Aside0.mk hu
   clear hu
   refine wpList_plain rfl (fun Ko hKo => ?_)
   go_simp
   refine hKo _ _ ?_
   clear hKo Ko
   try simp only [Act.put, nm1, nm2, nm3, i64_w]
   refine wpList_nil ?_
   (try simp only [Exit.then, Exit.inBlock, ↓reduceIte, Nat.reduceEqDiff])
   refine hK1 _ _ ?_
   refine wp_seq_k (fun K8 hK8 => ?_)
   refine' wp_region_late 10 [8] [Slot.det _, Slot.det _, Slot.det (.agg #[.int .i64 t9, .int .i64 t10, .int .i64 t11, .int .i64 t12, .int .i64 t13, .int .i64 t14]), Slot.det _, Slot.det (.agg #[.int .i64 t16, .int .i64 t17, .int .i64 t18, .int .i64 t19, .int .i64 t20, .int .i64 t21]), Slot.det (.tuple #[.agg #[.int .i64 t23, .int .i64 t24, .int .i64 t25, .int .i64 t26, .int .i64 t27, .int .i64 t28], .int .i64 t29]), Slot.det _, Slot.det _, Slot.det _, Slot.any (PtrTo [.int .i64 0, .int .i64 0, .int .i64 0, .int .i64 0, .int .i64 0, .int .i64 0] 30) true] (by kernel_rfl) [true, true, true, true, true, true, true, true, true, false] (by kernel_rfl) rfl (by kernel_rfl) (by decide) ?main
   case main =>
    simp only [List.take_succ_cons, List.take_zero]
    refine wpK_ops rfl (fun w1 hu => ?_) ?_
    · clear hu
      go_simp
      first | done | rfl
    simp only [Act.put, nm1, nm2, nm3, i64_w]
    refine wpK_ops rfl (fun w1 hu => ?_) ?_
    · have cl0 := ((hb2.up hu7.out).up ((Up.refl _).drew.trans hu)).cell (o := 0) rfl
      have cl1 := ((hb2.up hu7.out).up ((Up.refl _).drew.trans hu)).cell (o := 1) rfl
      have cl2 := ((hb2.up hu7.out).up ((Up.refl _).drew.trans hu)).cell (o := 2) rfl
      have cl3 := ((hb2.up hu7.out).up ((Up.refl _).drew.trans hu)).cell (o := 3) rfl
      have cl4 := ((hb2.up hu7.out).up ((Up.refl _).drew.trans hu)).cell (o := 4) rfl
      have cl5 := ((hb2.up hu7.out).up ((Up.refl _).drew.trans hu)).cell (o := 5) rfl
      go_simp
      first | done | rfl
    simp only [Act.put, nm1, nm2, nm3, i64_w]
    refine wpK_ops rfl (fun w1 hu => ?_) ?_
    · have hcl := (laws_toMove.calls K a1_0 a1_1 a1_2 a1_3 a1_4 a1_5 t9 t10 t11 t12 t13 t14 w1  A15.out)
      clear hu
      replace hcl := Aside0.mk hcl
      go_simp
      exact hcl.out
    simp only [Act.put, nm1, nm2, nm3, i64_w]
    refine wpK_ops rfl (fun w1 hu => ?_) ?_
    · have cl0 := (hb5.up ((Up.refl _).drew.trans hu)).cell (o := 0) rfl
      have cl1 := (hb5.up ((Up.refl _).drew.trans hu)).cell (o := 1) rfl
      have cl2 := (hb5.up ((Up.refl _).drew.trans hu)).cell (o := 2) rfl
      have cl3 := (hb5.up ((Up.refl _).drew.trans hu)).cell (o := 3) rfl
      have cl4 := (hb5.up ((Up.refl _).drew.trans hu)).cell (o := 4) rfl
      have cl5 := (hb5.up ((Up.refl _).drew.trans hu)).cell (o := 5) rfl
      go_simp
      first | done | rfl
    simp only [Act.put, nm1, nm2, nm3, i64_w]
    refine wpK_ops rfl (fun w1 hu => ?_) ?_
    · have hcl := (laws_toMove.calls K a2_0 a2_1 a2_2 a2_3 a2_4 a2_5 t16 t17 t18 t19 t20 t21 w1  A22.out)
      clear hu
      replace hcl := Aside0.mk hcl
      go_simp
      exact hcl.out
    simp only [Act.put, nm1, nm2, nm3, i64_w]
    refine wpK_ops rfl (fun w1 hu => ?_) ?_
    · have hcl := (spec_ProductOfMoves.calls K a0 t9 t10 t11 t12 t13 t14 t16 t17 t18 t19 t20 t21 t23 t24 t25 t26 t27 t28 t29 w1  A30.out)
      clear hu
      replace hcl := Aside0.mk hcl
      go_simp
      exact hcl.out
    simp only [Act.put, nm1, nm2, nm3, i64_w]
    refine wpK_ops rfl (fun w1 hu => ?_) ?_
    · clear hu
      go_simp
      first | done | rfl
    simp only [Act.put, nm1, nm2, nm3, i64_w]
    refine wpK_ops rfl (fun w1 hu => ?_) ?_
    · clear hu
      go_simp
      first | done | rfl
    simp only [Act.put, nm1, nm2, nm3, i64_w]
    refine wpK_ops rfl (fun w1 hu => ?_) ?_
    · clear hu
      go_simp
      first | done | rfl
    simp only [Act.put, nm1, nm2, nm3, i64_w]
    refine wpK_any rfl (stab_ptr _ _) (fun w1 _ _ => fresh_ptr (by first | (go_simp; done) | (go_simp; rfl))) (fun v31 => ?_)
    simp only [Act.put, nm1, nm2, nm3, i64_w]
    refine wpK_nil ?_
    intro w33 hu hap
    simp only [List.drop_succ_cons, List.drop_zero]
    replace hu := (Up.refl _).drew.trans hu
    obtain ⟨hf0, hn0, ⟨b32, e0, hb32⟩, -⟩ := hap
    have lbb32 := Aside0.mk (hf0 rfl b32 (by rw [e0]; rfl)).1
    have ltb32 := Aside0.mk hb32.lt
    dsimp only at e0
    subst e0
    clear hf0 hn0
    have hu34 := Aside0.mk hu
    clear hu
    refine late_cons (Up.of_drew hu34.out) ?_
    have hB0 := hb32
    have cl0 := hB0.cell (o := 0) rfl
    have fr0 := hB0.free 0
    have cl1 := hB0.cell (o := 1) rfl
    have fr1 := hB0.free 1
    have cl2 := hB0.cell (o := 2) rfl
    have fr2 := hB0.free 2
    have cl3 := hB0.cell (o := 3) rfl
    have fr3 := hB0.free 3
    have cl4 := hB0.cell (o := 4) rfl
    have fr4 := hB0.free 4
    have cl5 := hB0.cell (o := 5) rfl
    have fr5 := hB0.free 5
    refine step_store (b := b32) (cs' := [.int .i64 t23, .int .i64 t24, .int .i64 t25, .int .i64 t26, .int .i64 t27, .int .i64 t28]) (T := 30) (W' := ((((((w33.setCell ⟨b32, 0, none⟩ (.int .i64 t23)).setCell ⟨b32, 1, none⟩ (.int .i64 t24)).setCell ⟨b32, 2, none⟩ (.int .i64 t25)).setCell ⟨b32, 3, none⟩ (.int .i64 t26)).setCell ⟨b32, 4, none⟩ (.int .i64 t27)).setCell ⟨b32, 5, none⟩ (.int .i64 t28))) rfl rfl (by first | (go_simp; done) | (go_simp; rfl)) (((((((Sto.refl _ _).setCell 0 _).setCell 1 _).setCell 2 _).setCell 3 _).setCell 4 _).setCell 5 _) (((((((hB0).setCell 0 _).setCell 1 _).setCell 2 _).setCell 3 _).setCell 4 _).setCell 5 _) ?_
    clear hB0 cl0 fr0 cl1 fr1 cl2 fr2 cl3 fr3 cl4 fr4 cl5 fr5
    intro w35 hs hb37
    have hs36 := Aside0.mk hs
    clear hs
    refine wpList_nil ?_
    refine wrapQ_k ?_
    refine late_cons (Up.of_drew (hu34.out.sto (Nat.le_trans (Nat.le_refl _) lbb32.out) hs36.out)) ?_
    refine wpList_plain rfl (fun Ko hKo => ?_)
    go_simp
    refine hKo _ _ ?_
    clear hKo Ko
    try simp only [Act.put, nm1, nm2, nm3, i64_w]
    refine wpList_nil ?_
    refine wrapQ_k ?_
    refine late_nil (Up.of_drew (hu34.out.sto (Nat.le_trans (Nat.le_refl _) lbb32.out) hs36.out)) ?_
    (try simp only [Exit.then, Exit.inBlock, ↓reduceIte, Nat.reduceEqDiff])
    refine hK8 _ _ ?_
    refine wp_seq_k (fun K38 hK38 => ?_)
    refine' wp_region_late 10 [8] [Slot.det _, Slot.det _, Slot.det (.agg #[.int .i64 t39, .int .i64 t40, .int .i64 t41, .int .i64 t42, .int .i64 t43, .int .i64 t44]), Slot.det _, Slot.det (.agg #[.int .i64 t46, .int .i64 t47, .int .i64 t48, .int .i64 t49, .int .i64 t50, .int .i64 t51]), Slot.det (.tuple #[.agg #[.int .i64 t53, .int .i64 t54, .int .i64 t55, .int .i64 t56, .int .i64 t57, .int .i64 t58], .int .i64 t59]), Slot.det _, Slot.det _, Slot.det _, Slot.any (PtrTo [.int .i64 0, .int .i64 0, .int .i64 0, .int .i64 0, .int .i64 0, .int .i64 0] 30) true] (by kernel_rfl) [true, true, true, true, true, true, true, true, true, false] (by kernel_rfl) rfl (by kernel_rfl) (by decide) ?main
    case main =>
     simp only [List.take_succ_cons, List.take_zero]
     refine wpK_ops rfl (fun w1 hu => ?_) ?_
     · clear hu
       go_simp
       first | done | rfl
     simp only [Act.put, nm1, nm2, nm3, i64_w]
     refine wpK_ops rfl (fun w1 hu => ?_) ?_
     · have cl0 := ((hb2.up ((hu7.out.trans hu34.out).sto (Nat.le_trans (hu7.out.size) lbb32.out) hs36.out)).up ((Up.refl _).drew.trans hu)).cell (o := 0) rfl
       have cl1 := ((hb2.up ((hu7.out.trans hu34.out).sto (Nat.le_trans (hu7.out.size) lbb32.out) hs36.out)).up ((Up.refl _).drew.trans hu)).cell (o := 1) rfl
       have cl2 := ((hb2.up ((hu7.out.trans hu34.out).sto (Nat.le_trans (hu7.out.size) lbb32.out) hs36.out)).up ((Up.refl _).drew.trans hu)).cell (o := 2) rfl
       have cl3 := ((hb2.up ((hu7.out.trans hu34.out).sto (Nat.le_trans (hu7.out.size) lbb32.out) hs36.out)).up ((Up.refl _).drew.trans hu)).cell (o := 3) rfl
       have cl4 := ((hb2.up ((hu7.out.trans hu34.out).sto (Nat.le_trans (hu7.out.size) lbb32.out) hs36.out)).up ((Up.refl _).drew.trans hu)).cell (o := 4) rfl
       have cl5 := ((hb2.up ((hu7.out.trans hu34.out).sto (Nat.le_trans (hu7.out.size) lbb32.out) hs36.out)).up ((Up.refl _).drew.trans hu)).cell (o := 5) rfl
       go_simp
       first | done | rfl
     simp only [Act.put, nm1, nm2, nm3, i64_w]
     refine wpK_ops rfl (fun w1 hu => ?_) ?_
     · have hcl := (laws_toMove.calls K a1_0 a1_1 a1_2 a1_3 a1_4 a1_5 t39 t40 t41 t42 t43 t44 w1  A45.out)
       clear hu
       replace hcl := Aside0.mk hcl
       go_simp
       exact hcl.out
     simp only [Act.put, nm1, nm2, nm3, i64_w]
     refine wpK_ops rfl (fun w1 hu => ?_) ?_
     · have cl0 := ((hb5.up (hu34.out.sto (Nat.le_trans (Nat.le_refl _) lbb32.out) hs36.out)).up ((Up.refl _).drew.trans hu)).cell (o := 0) rfl
       have cl1 := ((hb5.up (hu34.out.sto (Nat.le_trans (Nat.le_refl _) lbb32.out) hs36.out)).up ((Up.refl _).drew.trans hu)).cell (o := 1) rfl
       have cl2 := ((hb5.up (hu34.out.sto (Nat.le_trans (Nat.le_refl _) lbb32.out) hs36.out)).up ((Up.refl _).drew.trans hu)).cell (o := 2) rfl
       have cl3 := ((hb5.up (hu34.out.sto (Nat.le_trans (Nat.le_refl _) lbb32.out) hs36.out)).up ((Up.refl _).drew.trans hu)).cell (o := 3) rfl
       have cl4 := ((hb5.up (hu34.out.sto (Nat.le_trans (Nat.le_refl _) lbb32.out) hs36.out)).up ((Up.refl _).drew.trans hu)).cell (o := 4) rfl
       have cl5 := ((hb5.up (hu34.out.sto (Nat.le_trans (Nat.le_refl _) lbb32.out) hs36.out)).up ((Up.refl _).drew.trans hu)).cell (o := 5) rfl
       go_simp
       first | done | rfl
     simp only [Act.put, nm1, nm2, nm3, i64_w]
     refine wpK_ops rfl (fun w1 hu => ?_) ?_
     · have hcl := (laws_toMove.calls K a2_0 a2_1 a2_2 a2_3 a2_4 a2_5 t46 t47 t48 t49 t50 t51 w1  A52.out)
       clear hu
       replace hcl := Aside0.mk hcl
       go_simp
       exact hcl.out
     simp only [Act.put, nm1, nm2, nm3, i64_w]
     refine wpK_ops rfl (fun w1 hu => ?_) ?_
     · have hcl := (impl_ProductOfMoves.calls K a0 t39 t40 t41 t42 t43 t44 t46 t47 t48 t49 t50 t51 t53 t54 t55 t56 t57 t58 t59 w1  A60.out)
       clear hu
       replace hcl := Aside0.mk hcl
       go_simp
       exact hcl.out
     simp only [Act.put, nm1, nm2, nm3, i64_w]
     refine wpK_ops rfl (fun w1 hu => ?_) ?_
     · clear hu
       go_simp
       first | done | rfl
     simp only [Act.put, nm1, nm2, nm3, i64_w]
     refine wpK_ops rfl (fun w1 hu => ?_) ?_
     · clear hu
       go_simp
       first | done | rfl
     simp only [Act.put, nm1, nm2, nm3, i64_w]
     refine wpK_ops rfl (fun w1 hu => ?_) ?_
     · clear hu
       go_simp
       first | done | rfl
     simp only [Act.put, nm1, nm2, nm3, i64_w]
     refine wpK_any rfl (stab_ptr _ _) (fun w1 _ _ => fresh_ptr (by first | (go_simp; done) | (go_simp; rfl))) (fun v61 => ?_)
     simp only [Act.put, nm1, nm2, nm3, i64_w]
     refine wpK_nil ?_
     intro w63 hu hap
     simp only [List.drop_succ_cons, List.drop_zero]
     replace hu := (Up.refl _).drew.trans hu
     obtain ⟨hf0, hn0, ⟨b62, e0, hb62⟩, -⟩ := hap
     have lbb62 := Aside0.mk (hf0 rfl b62 (by rw [e0]; rfl)).1
     have ltb62 := Aside0.mk hb62.lt
     dsimp only at e0
     subst e0
     clear hf0 hn0
     have hu64 := Aside0.mk hu
     clear hu
     refine late_cons (Up.of_drew hu64.out) ?_
     have hB0 := hb62
     have cl0 := hB0.cell (o := 0) rfl
     have fr0 := hB0.free 0
     have cl1 := hB0.cell (o := 1) rfl
     have fr1 := hB0.free 1
     have cl2 := hB0.cell (o := 2) rfl
     have fr2 := hB0.free 2
     have cl3 := hB0.cell (o := 3) rfl
     have fr3 := hB0.free 3
     have cl4 := hB0.cell (o := 4) rfl
     have fr4 := hB0.free 4
     have cl5 := hB0.cell (o := 5) rfl
     have fr5 := hB0.free 5
     refine step_store (b := b62) (cs' := [.int .i64 t53, .int .i64 t54, .int .i64 t55, .int .i64 t56, .int .i64 t57, .int .i64 t58]) (T := 30) (W' := ((((((w63.setCell ⟨b62, 0, none⟩ (.int .i64 t53)).setCell ⟨b62, 1, none⟩ (.int .i64 t54)).setCell ⟨b62, 2, none⟩ (.int .i64 t55)).setCell ⟨b62, 3, none⟩ (.int .i64 t56)).setCell ⟨b62, 4, none⟩ (.int .i64 t57)).setCell ⟨b62, 5, none⟩ (.int .i64 t58))) rfl rfl (by first | (go_simp; done) | (go_simp; rfl)) (((((((Sto.refl _ _).setCell 0 _).setCell 1 _).setCell 2 _).setCell 3 _).setCell 4 _).setCell 5 _) (((((((hB0).setCell 0 _).setCell 1 _).setCell 2 _).setCell 3 _).setCell 4 _).setCell 5 _) ?_
     clear hB0 cl0 fr0 cl1 fr1 cl2 fr2 cl3 fr3 cl4 fr4 cl5 fr5
     intro w65 hs hb67
     have hs66 := Aside0.mk hs
     clear hs
     refine wpList_nil ?_
     refine wrapQ_k ?_
     refine late_cons (Up.of_drew (hu64.out.sto (Nat.le_trans (Nat.le_refl _) lbb62.out) hs66.out)) ?_
     refine wpList_plain rfl (fun Ko hKo => ?_)
     go_simp
     refine hKo _ _ ?_
     clear hKo Ko
     try simp only [Act.put, nm1, nm2, nm3, i64_w]
     refine wpList_nil ?_
     refine wrapQ_k ?_
     refine late_nil (Up.of_drew (hu64.out.sto (Nat.le_trans (Nat.le_refl _) lbb62.out) hs66.out)) ?_
     (try simp only [Exit.then, Exit.inBlock, ↓reduceIte, Nat.reduceEqDiff])
     refine hK38 _ _ ?_
     refine wp_seq_k (fun K68 hK68 => ?_)
     refine wp_seq_k (fun K69 hK69 => ?_)
     refine wp_region_lit ?_
     have cl0 := hb67.cell (o := 0) rfl
     have cl1 := hb67.cell (o := 1) rfl
     have cl2 := hb67.cell (o := 2) rfl
     have cl3 := hb67.cell (o := 3) rfl
     have cl4 := hb67.cell (o := 4) rfl
     have cl5 := hb67.cell (o := 5) rfl
     refine wpList_plain rfl (fun Ko hKo => ?_)
     go_simp
     refine hKo _ _ ?_
     clear hKo Ko
     clear cl0 cl1 cl2 cl3 cl4 cl5
     try simp only [Act.put, nm1, nm2, nm3, i64_w]
     have cl0 := (hb37.up (hu64.out.sto (Nat.le_trans (Nat.le_refl _) lbb62.out) hs66.out)).cell (o := 0) rfl
     have cl1 := (hb37.up (hu64.out.sto (Nat.le_trans (Nat.le_refl _) lbb62.out) hs66.out)).cell (o := 1) rfl
     have cl2 := (hb37.up (hu64.out.sto (Nat.le_trans (Nat.le_refl _) lbb62.out) hs66.out)).cell (o := 2) rfl
     have cl3 := (hb37.up (hu64.out.sto (Nat.le_trans (Nat.le_refl _) lbb62.out) hs66.out)).cell (o := 3) rfl
     have cl4 := (hb37.up (hu64.out.sto (Nat.le_trans (Nat.le_refl _) lbb62.out) hs66.out)).cell (o := 4) rfl
     have cl5 := (hb37.up (hu64.out.sto (Nat.le_trans (Nat.le_refl _) lbb62.out) hs66.out)).cell (o := 5) rfl
     refine wpList_plain rfl (fun Ko hKo => ?_)
     go_simp
     refine hKo _ _ ?_
     clear hKo Ko
     clear cl0 cl1 cl2 cl3 cl4 cl5
     try simp only [Act.put, nm1, nm2, nm3, i64_w]
     refine step_call (wanted_none rfl) (by first | (go_simp; done) | (go_simp; rfl)) (laws_eqMove.calls K t53 t54 t55 t56 t57 t58 t23 t24 t25 t26 t27 t28 true w65  A71.out) ?_
     rintro e w72 ⟨rfl, hu⟩
     have hu73 := Aside0.mk hu
     clear hu
     refine ⟨_, rfl, ?_⟩
     simp only [Act.put, nm1, nm2, nm3, i64_w]
     refine wpList_plain rfl (fun Ko hKo => ?_)
     go_simp
     refine hKo _ _ ?_
     clear hKo Ko
     try simp only [Act.put, nm1, nm2, nm3, i64_w]
     refine wpList_plain rfl (fun Ko hKo => ?_)
     go_simp
     refine hKo _ _ ?_
     clear hKo Ko
     try simp only [Act.put, nm1, nm2, nm3, i64_w]
     refine wpList_step (fun Ko hKo => ?_)
     go_simp
     refine hKo _ _ ?_
     clear hKo Ko
     try simp only [Act.put, nm1, nm2, nm3, i64_w]
     refine wpList_step (fun Ko hKo => ?_)
     go_simp
     refine hKo _ _ ?_
     clear hKo Ko
     try simp only [Act.put, nm1, nm2, nm3, i64_w]
     refine wpList_step (fun Ko hKo => ?_)
     go_simp
     refine hKo _ _ ?_
     clear hKo Ko
     try simp only [Act.put, nm1, nm2, nm3, i64_w]
     refine wpList_plain rfl (fun Ko hKo => ?_)
     go_simp
     refine hKo _ _ ?_
     clear hKo Ko
     try simp only [Act.put, nm1, nm2, nm3, i64_w]
     refine wpList_nil ?_
     (try simp only [Exit.then, Exit.inBlock, ↓reduceIte, Nat.reduceEqDiff])
     refine hK69 _ _ ?_
     refine wp_cond_true rfl ?_
     refine wp_seq_k (fun K77 hK77 => ?_)
     refine wp_region_lit ?_
     refine wpList_plain rfl (fun Ko hKo => ?_)
     go_simp
     refine hKo _ _ ?_
     clear hKo Ko
     try simp only [Act.put, nm1, nm2, nm3, i64_w]
     refine wpList_nil ?_
     (try simp only [Exit.then, Exit.inBlock, ↓reduceIte, Nat.reduceEqDiff])
     refine hK77 _ _ ?_
     refine wp_ret ?_
     (try simp only [Exit.then, Exit.inBlock, ↓reduceIte, Nat.reduceEqDiff])
     refine hQf _ _ _ ?_
     exact bodyPost_ret (v := .bool false) (by first | rfl | (simp [results, Try.results5, go_sem]; done) | (simp [results, Try.results5, go_sem]; rfl)) rfl ⟨rfl, ((((((hu4.out.trans hu7.out).trans hu34.out).sto (Nat.le_trans ((Nat.le_trans (hu4.out.size) hu7.out.size)) lbb32.out) hs36.out).trans hu64.out).sto (Nat.le_trans ((Nat.le_trans ((Nat.le_trans ((Nat.le_trans (hu4.out.size) hu7.out.size)) hu34.out.size)) (Nat.le_of_eq hs36.out.size.symm))) lbb62.out) hs66.out).trans hu73.out)⟩
 ·
  rw [if_neg c74] at H
  replace c74 := Bool.eq_false_iff.mpr c74
  subst c74
  obtain rfl := Option.some.inj H
  go_enter Try.func5, Try.ntmps5
  refine wp_hide (fun Qf hQf => ?_)
  refine wp_seq_k (fun K1 hK1 => ?_)
  refine wp_region_lit ?_
  refine step_new (cs := [.int .i64 a1_0, .int .i64 a1_1, .int .i64 a1_2, .int .i64 a1_3, .int .i64 a1_4, .int .i64 a1_5]) (T := 25) (f := fun b => .pointer (some ⟨b, 0, none⟩)) rfl (by first | (go_simp; done) | (go_simp; rfl)) ?_
  intro b2 w3 hu lb hb2
  simp only [Act.put, nm1, nm2, nm3, i64_w]
  have lbb2 := Aside0.mk lb
  have ltb2 := Aside0.mk hb2.lt
  clear lb
  have hu4 := Aside0.mk hu
  clear hu
  refine step_new (cs := [.int .i64 a2_0, .int .i64 a2_1, .int .i64 a2_2, .int .i64 a2_3, .int .i64 a2_4, .int .i64 a2_5]) (T := 25) (f := fun b => .pointer (some ⟨b, 0, none⟩)) rfl (by first | (go_simp; done) | (go_simp; rfl)) ?_
  intro b5 w6 hu lb hb5
  simp only [Act.put, nm1, nm2, nm3, i64_w]
  have lbb5 := Aside0.mk lb
  have ltb5 := Aside0.mk hb5.lt
  clear lb
  have hu7 := Aside0.mk hu
  clear hu
  refine wpList_plain rfl (fun Ko hKo => ?_)
  go_simp
  refine hKo _ _ ?_
  clear hKo Ko
  try simp only [Act.put, nm1, nm2, nm3, i64_w]
  refine wpList_nil ?_
  (try simp only [Exit.then, Exit.inBlock, ↓reduceIte, Nat.reduceEqDiff])
  refine hK1 _ _ ?_
  refine wp_seq_k (fun K8 hK8 => ?_)
  refine' wp_region_late 10 [8] [Slot.det _, Slot.det _, Slot.det (.agg #[.int .i64 t9, .int .i64 t10, .int .i64 t11, .int .i64 t12, .int .i64 t13, .int .i64 t14]), Slot.det _, Slot.det (.agg #[.int .i64 t16, .int .i64 t17, .int .i64 t18, .int .i64 t19, .int .i64 t20, .int .i64 t21]), Slot.det (.tuple #[.agg #[.int .i64 t23, .int .i64 t24, .int .i64 t25, .int .i64 t26, .int .i64 t27, .int .i64 t28], .int .i64 t29]), Slot.det _, Slot.det _, Slot.det _, Slot.any (PtrTo [.int .i64 0, .int .i64 0, .int .i64 0, .int .i64 0, .int .i64 0, .int .i64 0] 30) true] (by kernel_rfl) [true, true, true, true, true, true, true, true, true, false] (by kernel_rfl) rfl (by kernel_rfl) (by decide) ?main
  case main =>
   simp only [List.take_succ_cons, List.take_zero]
   refine wpK_ops rfl (fun w1 hu => ?_) ?_
   · clear hu
     go_simp
     first | done | rfl
   simp only [Act.put, nm1, nm2, nm3, i64_w]
   refine wpK_ops rfl (fun w1 hu => ?_) ?_
   · have cl0 := ((hb2.up hu7.out).up ((Up.refl _).drew.trans hu)).cell (o := 0) rfl
     have cl1 := ((hb2.up hu7.out).up ((Up.refl _).drew.trans hu)).cell (o := 1) rfl
     have cl2 := ((hb2.up hu7.out).up ((Up.refl _).drew.trans hu)).cell (o := 2) rfl
     have cl3 := ((hb2.up hu7.out).up ((Up.refl _).drew.trans hu)).cell (o := 3) rfl
     have cl4 := ((hb2.up hu7.out).up ((Up.refl _).drew.trans hu)).cell (o := 4) rfl
     have cl5 := ((hb2.up hu7.out).up ((Up.refl _).drew.trans hu)).cell (o := 5) rfl
     go_simp
     first | done | rfl
   simp only [Act.put, nm1, nm2, nm3, i64_w]
   refine wpK_ops rfl (fun w1 hu => ?_) ?_
   · have hcl := (laws_toMove.calls K a1_0 a1_1 a1_2 a1_3 a1_4 a1_5 t9 t10 t11 t12 t13 t14 w1  A15.out)
     clear hu
     replace hcl := Aside0.mk hcl
     go_simp
     exact hcl.out
   simp only [Act.put, nm1, nm2, nm3, i64_w]
   refine wpK_ops rfl (fun w1 hu => ?_) ?_
   · have cl0 := (hb5.up ((Up.refl _).drew.trans hu)).cell (o := 0) rfl
     have cl1 := (hb5.up ((Up.refl _).drew.trans hu)).cell (o := 1) rfl
     have cl2 := (hb5.up ((Up.refl _).drew.trans hu)).cell (o := 2) rfl
     have cl3 := (hb5.up ((Up.refl _).drew.trans hu)).cell (o := 3) rfl
     have cl4 := (hb5.up ((Up.refl _).drew.trans hu)).cell (o := 4) rfl
     have cl5 := (hb5.up ((Up.refl _).drew.trans hu)).cell (o := 5) rfl
     go_simp
     first | done | rfl
   simp only [Act.put, nm1, nm2, nm3, i64_w]
   refine wpK_ops rfl (fun w1 hu => ?_) ?_
   · have hcl := (laws_toMove.calls K a2_0 a2_1 a2_2 a2_3 a2_4 a2_5 t16 t17 t18 t19 t20 t21 w1  A22.out)
     clear hu
     replace hcl := Aside0.mk hcl
     go_simp
     exact hcl.out
   simp only [Act.put, nm1, nm2, nm3, i64_w]
   refine wpK_ops rfl (fun w1 hu => ?_) ?_
   · have hcl := (spec_ProductOfMoves.calls K a0 t9 t10 t11 t12 t13 t14 t16 t17 t18 t19 t20 t21 t23 t24 t25 t26 t27 t28 t29 w1  A30.out)
     clear hu
     replace hcl := Aside0.mk hcl
     go_simp
     exact hcl.out
   simp only [Act.put, nm1, nm2, nm3, i64_w]
   refine wpK_ops rfl (fun w1 hu => ?_) ?_
   · clear hu
     go_simp
     first | done | rfl
   simp only [Act.put, nm1, nm2, nm3, i64_w]
   refine wpK_ops rfl (fun w1 hu => ?_) ?_
   · clear hu
     go_simp
     first | done | rfl
   simp only [Act.put, nm1, nm2, nm3, i64_w]
   refine wpK_ops rfl (fun w1 hu => ?_) ?_
   · clear hu
     go_simp
     first | done | rfl
   simp only [Act.put, nm1, nm2, nm3, i64_w]
   refine wpK_any rfl (stab_ptr _ _) (fun w1 _ _ => fresh_ptr (by first | (go_simp; done) | (go_simp; rfl))) (fun v31 => ?_)
   simp only [Act.put, nm1, nm2, nm3, i64_w]
   refine wpK_nil ?_
   intro w33 hu hap
   simp only [List.drop_succ_cons, List.drop_zero]
   replace hu := (Up.refl _).drew.trans hu
   obtain ⟨hf0, hn0, ⟨b32, e0, hb32⟩, -⟩ := hap
   have lbb32 := Aside0.mk (hf0 rfl b32 (by rw [e0]; rfl)).1
   have ltb32 := Aside0.mk hb32.lt
   dsimp only at e0
   subst e0
   clear hf0 hn0
   have hu34 := Aside0.mk hu
   clear hu
   refine late_cons (Up.of_drew hu34.out) ?_
   have hB0 := hb32
   have cl0 := hB0.cell (o := 0) rfl
   have fr0 := hB0.free 0
   have cl1 := hB0.cell (o := 1) rfl
   have fr1 := hB0.free 1
   have cl2 := hB0.cell (o := 2) rfl
   have fr2 := hB0.free 2
   have cl3 := hB0.cell (o := 3) rfl
   have fr3 := hB0.free 3
   have cl4 := hB0.cell (o := 4) rfl
   have fr4 := hB0.free 4
   have cl5 := hB0.cell (o := 5) rfl
   have fr5 := hB0.free 5
   refine step_store (b := b32) (cs' := [.int .i64 t23, .int .i64 t24, .int .i64 t25, .int .i64 t26, .int .i64 t27, .int .i64 t28]) (T := 30) (W' := ((((((w33.setCell ⟨b32, 0, none⟩ (.int .i64 t23)).setCell ⟨b32, 1, none⟩ (.int .i64 t24)).setCell ⟨b32, 2, none⟩ (.int .i64 t25)).setCell ⟨b32, 3, none⟩ (.int .i64 t26)).setCell ⟨b32, 4, none⟩ (.int .i64 t27)).setCell ⟨b32, 5, none⟩ (.int .i64 t28))) rfl rfl (by first | (go_simp; done) | (go_simp; rfl)) (((((((Sto.refl _ _).setCell 0 _).setCell 1 _).setCell 2 _).setCell 3 _).setCell 4 _).setCell 5 _) (((((((hB0).setCell 0 _).setCell 1 _).setCell 2 _).setCell 3 _).setCell 4 _).setCell 5 _) ?_
   clear hB0 cl0 fr0 cl1 fr1 cl2 fr2 cl3 fr3 cl4 fr4 cl5 fr5
   intro w35 hs hb37
   have hs36 := Aside0.mk hs
   clear hs
   refine wpList_nil ?_
   refine wrapQ_k ?_
   refine late_cons (Up.of_drew (hu34.out.sto (Nat.le_trans (Nat.le_refl _) lbb32.out) hs36.out)) ?_
   refine wpList_plain rfl (fun Ko hKo => ?_)
   go_simp
   refine hKo _ _ ?_
   clear hKo Ko
   try simp only [Act.put, nm1, nm2, nm3, i64_w]
   refine wpList_nil ?_
   refine wrapQ_k ?_
   refine late_nil (Up.of_drew (hu34.out.sto (Nat.le_trans (Nat.le_refl _) lbb32.out) hs36.out)) ?_
   (try simp only [Exit.then, Exit.inBlock, ↓reduceIte, Nat.reduceEqDiff])
   refine hK8 _ _ ?_
   refine wp_seq_k (fun K38 hK38 => ?_)
   refine' wp_region_late 10 [8] [Slot.det _, Slot.det _, Slot.det (.agg #[.int .i64 t39, .int .i64 t40, .int .i64 t41, .int .i64 t42, .int .i64 t43, .int .i64 t44]), Slot.det _, Slot.det (.agg #[.int .i64 t46, .int .i64 t47, .int .i64 t48, .int .i64 t49, .int .i64 t50, .int .i64 t51]), Slot.det (.tuple #[.agg #[.int .i64 t53, .int .i64 t54, .int .i64 t55, .int .i64 t56, .int .i64 t57, .int .i64 t58], .int .i64 t59]), Slot.det _, Slot.det _, Slot.det _, Slot.any (PtrTo [.int .i64 0, .int .i64 0, .int .i64 0, .int .i64 0, .int .i64 0, .int .i64 0] 30) true] (by kernel_rfl) [true, true, true, true, true, true, true, true, true, false] (by kernel_rfl) rfl (by kernel_rfl) (by decide) ?main
   case main =>
    simp only [List.take_succ_cons, List.take_zero]
    refine wpK_ops rfl (fun w1 hu => ?_) ?_
    · clear hu
      go_simp
      first | done | rfl
    simp only [Act.put, nm1, nm2, nm3, i64_w]
    refine wpK_ops rfl (fun w1 hu => ?_) ?_
    · have cl0 := ((hb2.up ((hu7.out.trans hu34.out).sto (Nat.le_trans (hu7.out.size) lbb32.out) hs36.out)).up ((Up.refl _).drew.trans hu)).cell (o := 0) rfl
      have cl1 := ((hb2.up ((hu7.out.trans hu34.out).sto (Nat.le_trans (hu7.out.size) lbb32.out) hs36.out)).up ((Up.refl _).drew.trans hu)).cell (o := 1) rfl
      have cl2 := ((hb2.up ((hu7.out.trans hu34.out).sto (Nat.le_trans (hu7.out.size) lbb32.out) hs36.out)).up ((Up.refl _).drew.trans hu)).cell (o := 2) rfl
      have cl3 := ((hb2.up ((hu7.out.trans hu34.out).sto (Nat.le_trans (hu7.out.size) lbb32.out) hs36.out)).up ((Up.refl _).drew.trans hu)).cell (o := 3) rfl
      have cl4 := ((hb2.up ((hu7.out.trans hu34.out).sto (Nat.le_trans (hu7.out.size) lbb32.out) hs36.out)).up ((Up.refl _).drew.trans hu)).cell (o := 4) rfl
      have cl5 := ((hb2.up ((hu7.out.trans hu34.out).sto (Nat.le_trans (hu7.out.size) lbb32.out) hs36.out)).up ((Up.refl _).drew.trans hu)).cell (o := 5) rfl
      go_simp
      first | done | rfl
    simp only [Act.put, nm1, nm2, nm3, i64_w]
    refine wpK_ops rfl (fun w1 hu => ?_) ?_
    · have hcl := (laws_toMove.calls K a1_0 a1_1 a1_2 a1_3 a1_4 a1_5 t39 t40 t41 t42 t43 t44 w1  A45.out)
      clear hu
      replace hcl := Aside0.mk hcl
      go_simp
      exact hcl.out
    simp only [Act.put, nm1, nm2, nm3, i64_w]
    refine wpK_ops rfl (fun w1 hu => ?_) ?_
    · have cl0 := ((hb5.up (hu34.out.sto (Nat.le_trans (Nat.le_refl _) lbb32.out) hs36.out)).up ((Up.refl _).drew.trans hu)).cell (o := 0) rfl
      have cl1 := ((hb5.up (hu34.out.sto (Nat.le_trans (Nat.le_refl _) lbb32.out) hs36.out)).up ((Up.refl _).drew.trans hu)).cell (o := 1) rfl
      have cl2 := ((hb5.up (hu34.out.sto (Nat.le_trans (Nat.le_refl _) lbb32.out) hs36.out)).up ((Up.refl _).drew.trans hu)).cell (o := 2) rfl
      have cl3 := ((hb5.up (hu34.out.sto (Nat.le_trans (Nat.le_refl _) lbb32.out) hs36.out)).up ((Up.refl _).drew.trans hu)).cell (o := 3) rfl
      have cl4 := ((hb5.up (hu34.out.sto (Nat.le_trans (Nat.le_refl _) lbb32.out) hs36.out)).up ((Up.refl _).drew.trans hu)).cell (o := 4) rfl
      have cl5 := ((hb5.up (hu34.out.sto (Nat.le_trans (Nat.le_refl _) lbb32.out) hs36.out)).up ((Up.refl _).drew.trans hu)).cell (o := 5) rfl
      go_simp
      first | done | rfl
    simp only [Act.put, nm1, nm2, nm3, i64_w]
    refine wpK_ops rfl (fun w1 hu => ?_) ?_
    · have hcl := (laws_toMove.calls K a2_0 a2_1 a2_2 a2_3 a2_4 a2_5 t46 t47 t48 t49 t50 t51 w1  A52.out)
      clear hu
      replace hcl := Aside0.mk hcl
      go_simp
      exact hcl.out
    simp only [Act.put, nm1, nm2, nm3, i64_w]
    refine wpK_ops rfl (fun w1 hu => ?_) ?_
    · have hcl := (impl_ProductOfMoves.calls K a0 t39 t40 t41 t42 t43 t44 t46 t47 t48 t49 t50 t51 t53 t54 t55 t56 t57 t58 t59 w1  A60.out)
      clear hu
      replace hcl := Aside0.mk hcl
      go_simp
      exact hcl.out
    simp only [Act.put, nm1, nm2, nm3, i64_w]
    refine wpK_ops rfl (fun w1 hu => ?_) ?_
    · clear hu
      go_simp
      first | done | rfl
    simp only [Act.put, nm1, nm2, nm3, i64_w]
    refine wpK_ops rfl (fun w1 hu => ?_) ?_
    · clear hu
      go_simp
      first | done | rfl
    simp only [Act.put, nm1, nm2, nm3, i64_w]
    refine wpK_ops rfl (fun w1 hu => ?_) ?_
    · clear hu
      go_simp
      first | done | rfl
    simp only [Act.put, nm1, nm2, nm3, i64_w]
    refine wpK_any rfl (stab_ptr _ _) (fun w1 _ _ => fresh_ptr (by first | (go_simp; done) | (go_simp; rfl))) (fun v61 => ?_)
    simp only [Act.put, nm1, nm2, nm3, i64_w]
    refine wpK_nil ?_
    intro w63 hu hap
    simp only [List.drop_succ_cons, List.drop_zero]
    replace hu := (Up.refl _).drew.trans hu
    obtain ⟨hf0, hn0, ⟨b62, e0, hb62⟩, -⟩ := hap
    have lbb62 := Aside0.mk (hf0 rfl b62 (by rw [e0]; rfl)).1
    have ltb62 := Aside0.mk hb62.lt
    dsimp only at e0
    subst e0
    clear hf0 hn0
    have hu64 := Aside0.mk hu
    clear hu
    refine late_cons (Up.of_drew hu64.out) ?_
    have hB0 := hb62
    have cl0 := hB0.cell (o := 0) rfl
    have fr0 := hB0.free 0
    have cl1 := hB0.cell (o := 1) rfl
    have fr1 := hB0.free 1
    have cl2 := hB0.cell (o := 2) rfl
    have fr2 := hB0.free 2
    have cl3 := hB0.cell (o := 3) rfl
    have fr3 := hB0.free 3
    have cl4 := hB0.cell (o := 4) rfl
    have fr4 := hB0.free 4
    have cl5 := hB0.cell (o := 5) rfl
    have fr5 := hB0.free 5
    refine step_store (b := b62) (cs' := [.int .i64 t53, .int .i64 t54, .int .i64 t55, .int .i64 t56, .int .i64 t57, .int .i64 t58]) (T := 30) (W' := ((((((w63.setCell ⟨b62, 0, none⟩ (.int .i64 t53)).setCell ⟨b62, 1, none⟩ (.int .i64 t54)).setCell ⟨b62, 2, none⟩ (.int .i64 t55)).setCell ⟨b62, 3, none⟩ (.int .i64 t56)).setCell ⟨b62, 4, none⟩ (.int .i64 t57)).setCell ⟨b62, 5, none⟩ (.int .i64 t58))) rfl rfl (by first | (go_simp; done) | (go_simp; rfl)) (((((((Sto.refl _ _).setCell 0 _).setCell 1 _).setCell 2 _).setCell 3 _).setCell 4 _).setCell 5 _) (((((((hB0).setCell 0 _).setCell 1 _).setCell 2 _).setCell 3 _).setCell 4 _).setCell 5 _) ?_
    clear hB0 cl0 fr0 cl1 fr1 cl2 fr2 cl3 fr3 cl4 fr4 cl5 fr5
    intro w65 hs hb67
    have hs66 := Aside0.mk hs
    clear hs
    refine wpList_nil ?_
    refine wrapQ_k ?_
    refine late_cons (Up.of_drew (hu64.out.sto (Nat.le_trans (Nat.le_refl _) lbb62.out) hs66.out)) ?_
    refine wpList_plain rfl (fun Ko hKo => ?_)
    go_simp
    refine hKo _ _ ?_
    clear hKo Ko
    try simp only [Act.put, nm1, nm2, nm3, i64_w]
    refine wpList_nil ?_
    refine wrapQ_k ?_
    refine late_nil (Up.of_drew (hu64.out.sto (Nat.le_trans (Nat.le_refl _) lbb62.out) hs66.out)) ?_
    (try simp only [Exit.then, Exit.inBlock, ↓reduceIte, Nat.reduceEqDiff])
    refine hK38 _ _ ?_
    refine wp_seq_k (fun K68 hK68 => ?_)
    refine wp_seq_k (fun K69 hK69 => ?_)
    refine wp_region_lit ?_
    have cl0 := hb67.cell (o := 0) rfl
    have cl1 := hb67.cell (o := 1) rfl
    have cl2 := hb67.cell (o := 2) rfl
    have cl3 := hb67.cell (o := 3) rfl
    have cl4 := hb67.cell (o := 4) rfl
    have cl5 := hb67.cell (o := 5) rfl
    refine wpList_plain rfl (fun Ko hKo => ?_)
    go_simp
    refine hKo _ _ ?_
    clear hKo Ko
    clear cl0 cl1 cl2 cl3 cl4 cl5
    try simp only [Act.put, nm1, nm2, nm3, i64_w]
    have cl0 := (hb37.up (hu64.out.sto (Nat.le_trans (Nat.le_refl _) lbb62.out) hs66.out)).cell (o := 0) rfl
    have cl1 := (hb37.up (hu64.out.sto (Nat.le_trans (Nat.le_refl _) lbb62.out) hs66.out)).cell (o := 1) rfl
    have cl2 := (hb37.up (hu64.out.sto (Nat.le_trans (Nat.le_refl _) lbb62.out) hs66.out)).cell (o := 2) rfl
    have cl3 := (hb37.up (hu64.out.sto (Nat.le_trans (Nat.le_refl _) lbb62.out) hs66.out)).cell (o := 3) rfl
    have cl4 := (hb37.up (hu64.out.sto (Nat.le_trans (Nat.le_refl _) lbb62.out) hs66.out)).cell (o := 4) rfl
    have cl5 := (hb37.up (hu64.out.sto (Nat.le_trans (Nat.le_refl _) lbb62.out) hs66.out)).cell (o := 5) rfl
    refine wpList_plain rfl (fun Ko hKo => ?_)
    go_simp
    refine hKo _ _ ?_
    clear hKo Ko
    clear cl0 cl1 cl2 cl3 cl4 cl5
    try simp only [Act.put, nm1, nm2, nm3, i64_w]
    refine step_call (wanted_none rfl) (by first | (go_simp; done) | (go_simp; rfl)) (laws_eqMove.calls K t53 t54 t55 t56 t57 t58 t23 t24 t25 t26 t27 t28 false w65  A71.out) ?_
    rintro e w72 ⟨rfl, hu⟩
    have hu73 := Aside0.mk hu
    clear hu
    refine ⟨_, rfl, ?_⟩
    simp only [Act.put, nm1, nm2, nm3, i64_w]
    refine wpList_plain rfl (fun Ko hKo => ?_)
    go_simp
    refine hKo _ _ ?_
    clear hKo Ko
    try simp only [Act.put, nm1, nm2, nm3, i64_w]
    refine wpList_plain rfl (fun Ko hKo => ?_)
    go_simp
    refine hKo _ _ ?_
    clear hKo Ko
    try simp only [Act.put, nm1, nm2, nm3, i64_w]
    refine step_no rfl ?_
    simp only [Act.put, nm1, nm2, nm3, i64_w]
    refine step_no rfl ?_
    simp only [Act.put, nm1, nm2, nm3, i64_w]
    refine step_no rfl ?_
    simp only [Act.put, nm1, nm2, nm3, i64_w]
    refine wpList_plain rfl (fun Ko hKo => ?_)
    go_simp
    refine hKo _ _ ?_
    clear hKo Ko
    try simp only [Act.put, nm1, nm2, nm3, i64_w]
    refine wpList_nil ?_
    (try simp only [Exit.then, Exit.inBlock, ↓reduceIte, Nat.reduceEqDiff])
    refine hK69 _ _ ?_
    refine wp_cond_true rfl ?_
    refine wp_seq_k (fun K78 hK78 => ?_)
    refine wp_region_lit ?_
    refine wpList_plain rfl (fun Ko hKo => ?_)
    go_simp
    refine hKo _ _ ?_
    clear hKo Ko
    try simp only [Act.put, nm1, nm2, nm3, i64_w]
    refine wpList_nil ?_
    (try simp only [Exit.then, Exit.inBlock, ↓reduceIte, Nat.reduceEqDiff])
    refine hK78 _ _ ?_
    refine wp_ret ?_
    (try simp only [Exit.then, Exit.inBlock, ↓reduceIte, Nat.reduceEqDiff])
    refine hQf _ _ _ ?_
    exact bodyPost_ret (v := .bool false) (by first | rfl | (simp [results, Try.results5, go_sem]; done) | (simp [results, Try.results5, go_sem]; rfl)) rfl ⟨rfl, ((((((hu4.out.trans hu7.out).trans hu34.out).sto (Nat.le_trans ((Nat.le_trans (hu4.out.size) hu7.out.size)) lbb32.out) hs36.out).trans hu64.out).sto (Nat.le_trans ((Nat.le_trans ((Nat.le_trans ((Nat.le_trans (hu4.out.size) hu7.out.size)) hu34.out.size)) (Nat.le_of_eq hs36.out.size.symm))) lbb62.out) hs66.out).trans hu73.out)⟩

end Go.Proofs.Ytbibgeoohpgaeaa
