/- The walks: each of these functions of the program computes what its plain function says: laws_FnExactOrdersOf. -/
import Derived.Test.YthmfgkdhaookoaaProg
import Derived.Test.YthmfgkdhaookoaaD1
import Derived.WalkKit
import Derived.KernelRfl
import Derived.BigQuiet
import Derived.Deep.LoopGhost
import Derived.Laws.StructEq
import Derived.Test.YthmfgkdhaookoaaWOrdOf2
namespace Go.Proofs.Ythmfgkdhaookoaa
open Go Go.RowKit
attribute [local go_sem] Oper.quiet Oper.quietAt Oper.quietUpon
set_option linter.unusedVariables false
set_option linter.unusedSimpArgs false

set_option maxHeartbeats 4000000 in
set_option maxRecDepth 100000 in
theorem laws_FnExactOrdersOf.calls (K : Nat) (a0 : Int) (r0 : Bool) (w : World)  (h : laws_FnExactOrdersOf.f K a0 = some (r0)) :
    Calls Try.prog 13 #[.int .i64 a0] w fun e w' => e = .returned (.bool r0) ∧ Up w w' := by
 have H : (((spec_OrdersOf.f K a0).bind fun (t3, t6, t9) => ((impl_OrdersOf.f K a0).bind fun (t14, t17, t20) => ((laws_eqInt64S.f K t14 t3).bind fun t26 => (if t26 = true then ((laws_eqInt64S.f K t17 t6).bind fun t31 => (if t31 = true then (if (t20 == t9) = true then ((laws_markInt64S.f K t14 1).bind fun (t39, t40) => ((laws_markInt64S.f K t17 t39).bind fun (t50, t51) => ((laws_heldInt64S.f K t40 1).bind fun t62 => (if decide (t62 < 0) = true then some false else ((laws_heldInt64S.f K t51 t62).bind fun t71 => (if decide (t71 < 0) = true then some false else (if (t71 == t50) = true then ((impl_OrdersOf.f K a0).bind fun (t83, t86, t89) => ((laws_eqInt64S.f K t83 t3).bind fun t95 => (if t95 = true then ((laws_eqInt64S.f K t86 t6).bind fun t100 => (if t100 = true then (if (t89 == t9) = true then ((laws_heldInt64S.f K t40 1).bind fun t108 => (if decide (t108 < 0) = true then some false else ((laws_heldInt64S.f K t51 t108).bind fun t117 => (if decide (t117 < 0) = true then some false else (if (t117 == t50) = true then some true else some false))))) else some false) else some false)) else some false))) else some false))))))) else some false) else some false)) else some false)))) : Option (Bool)) = some (r0) := h
 clear h
 replace H := Option.bind_eq_some_iff.mp H
 obtain ⟨⟨t3, t6, t9⟩, A10, H⟩ := H
 replace A10 := Aside0.mk A10
 try dsimp only at H
 replace H := Option.bind_eq_some_iff.mp H
 obtain ⟨⟨t14, t17, t20⟩, A21, H⟩ := H
 replace A21 := Aside0.mk A21
 try dsimp only at H
 replace H := Option.bind_eq_some_iff.mp H
 obtain ⟨t26, A27, H⟩ := H
 replace A27 := Aside0.mk A27
 try dsimp only at H
 by_cases c30 : (t26) = true
 ·
  rw [if_pos c30] at H
  subst c30
  replace H := Option.bind_eq_some_iff.mp H
  obtain ⟨t31, A32, H⟩ := H
  replace A32 := Aside0.mk A32
  try dsimp only at H
  by_cases c35 : (t31) = true
  ·
   rw [if_pos c35] at H
   subst c35
   by_cases c36 : (t20 == t9) = true
   ·
    rw [if_pos c36] at H
    have c36n : (t20 != t9) = false := by rw [bne, c36]; rfl
    replace H := Option.bind_eq_some_iff.mp H
    obtain ⟨⟨t39, t40⟩, A41, H⟩ := H
    replace A41 := Aside0.mk A41
    try dsimp only at H
    replace H := Option.bind_eq_some_iff.mp H
    obtain ⟨⟨t50, t51⟩, A52, H⟩ := H
    replace A52 := Aside0.mk A52
    try dsimp only at H
    replace H := Option.bind_eq_some_iff.mp H
    obtain ⟨t62, A63, H⟩ := H
    replace A63 := Aside0.mk A63
    try dsimp only at H
    by_cases c68 : (decide (t62 < 0)) = true
    ·
     rw [if_pos c68] at H
     obtain rfl := Option.some.inj H
     go_enter Try.func13, Try.ntmps13
     refine wp_hide (fun Qf hQf => ?_)
     refine wp_seq_k (fun K1 hK1 => ?_)
     refine wp_region_lit ?_
     refine wpList_plain rfl (fun Ko hKo => ?_)
     go_simp
     refine hKo _ _ ?_
     clear hKo Ko
     try simp only [Act.put, nm1, nm2, nm3, i64_w]
     refine wpList_nil ?_
     (try simp only [Exit.then, Exit.inBlock, ↓reduceIte, Nat.reduceEqDiff])
     refine hK1 _ _ ?_
     refine wp_seq_k (fun K2 hK2 => ?_)
     refine wp_region_lit ?_
     refine wpList_plain rfl (fun Ko hKo => ?_)
     go_simp
     refine hKo _ _ ?_
     clear hKo Ko
     try simp only [Act.put, nm1, nm2, nm3, i64_w]
     refine step_call (wanted_none rfl) (by first | (go_simp; done) | (go_simp; rfl)) (spec_OrdersOf.calls K a0 t3 t6 t9 w  A10.out) ?_
     rintro e w11 ⟨P4, q5, P7, q8, rfl, ht3, ht6, hnt3_t6, hu⟩
     have hu12 := Aside0.mk hu
     clear hu
     refine ⟨_, rfl, ?_⟩
     simp only [Act.put, nm1, nm2, nm3, i64_w]
     refine wpList_plain rfl (fun Ko hKo => ?_)
     go_simp
     refine hKo _ _ ?_
     clear hKo Ko
     try simp only [Act.put, nm1, nm2, nm3, i64_w]
     refine wpList_plain rfl (fun Ko hKo => ?_)
     go_simp
     refine hKo _ _ ?_
     clear hKo Ko
     try simp only [Act.put, nm1, nm2, nm3, i64_w]
     refine wpList_plain rfl (fun Ko hKo => ?_)
     go_simp
     refine hKo _ _ ?_
     clear hKo Ko
     try simp only [Act.put, nm1, nm2, nm3, i64_w]
     refine wpList_plain rfl (fun Ko hKo => ?_)
     go_simp
     refine hKo _ _ ?_
     clear hKo Ko
     try simp only [Act.put, nm1, nm2, nm3, i64_w]
     refine wpList_plain rfl (fun Ko hKo => ?_)
     go_simp
     refine hKo _ _ ?_
     clear hKo Ko
     try simp only [Act.put, nm1, nm2, nm3, i64_w]
     refine wpList_plain rfl (fun Ko hKo => ?_)
     go_simp
     refine hKo _ _ ?_
     clear hKo Ko
     try simp only [Act.put, nm1, nm2, nm3, i64_w]
     refine wpList_plain rfl (fun Ko hKo => ?_)
     go_simp
     refine hKo _ _ ?_
     clear hKo Ko
     try simp only [Act.put, nm1, nm2, nm3, i64_w]
     refine wpList_nil ?_
     (try simp only [Exit.then, Exit.inBlock, ↓reduceIte, Nat.reduceEqDiff])
     refine hK2 _ _ ?_
     refine wp_seq_k (fun K13 hK13 => ?_)
     refine wp_region_lit ?_
     refine wpList_plain rfl (fun Ko hKo => ?_)
     go_simp
     refine hKo _ _ ?_
     clear hKo Ko
     try simp only [Act.put, nm1, nm2, nm3, i64_w]
     refine step_call (wanted_none rfl) (by first | (go_simp; done) | (go_simp; rfl)) (impl_OrdersOf.calls K a0 t14 t17 t20 w11  A21.out) ?_
     rintro e w22 ⟨P15, q16, P18, q19, rfl, ht14, ht17, hnt14_t17, hu⟩
     have hu23 := Aside0.mk hu
     clear hu
     refine ⟨_, rfl, ?_⟩
     simp only [Act.put, nm1, nm2, nm3, i64_w]
     refine wpList_plain rfl (fun Ko hKo => ?_)
     go_simp
     refine hKo _ _ ?_
     clear hKo Ko
     try simp only [Act.put, nm1, nm2, nm3, i64_w]
     refine wpList_plain rfl (fun Ko hKo => ?_)
     go_simp
     refine hKo _ _ ?_
     clear hKo Ko
     try simp only [Act.put, nm1, nm2, nm3, i64_w]
     refine wpList_plain rfl (fun Ko hKo => ?_)
     go_simp
     refine hKo _ _ ?_
     clear hKo Ko
     try simp only [Act.put, nm1, nm2, nm3, i64_w]
     refine wpList_plain rfl (fun Ko hKo => ?_)
     go_simp
     refine hKo _ _ ?_
     clear hKo Ko
     try simp only [Act.put, nm1, nm2, nm3, i64_w]
     refine wpList_plain rfl (fun Ko hKo => ?_)
     go_simp
     refine hKo _ _ ?_
     clear hKo Ko
     try simp only [Act.put, nm1, nm2, nm3, i64_w]
     refine wpList_plain rfl (fun Ko hKo => ?_)
     go_simp
     refine hKo _ _ ?_
     clear hKo Ko
     try simp only [Act.put, nm1, nm2, nm3, i64_w]
     refine wpList_plain rfl (fun Ko hKo => ?_)
     go_simp
     refine hKo _ _ ?_
     clear hKo Ko
     try simp only [Act.put, nm1, nm2, nm3, i64_w]
     refine wpList_nil ?_
     (try simp only [Exit.then, Exit.inBlock, ↓reduceIte, Nat.reduceEqDiff])
     refine hK13 _ _ ?_
     refine wp_seq_k (fun K24 hK24 => ?_)
     refine wp_seq_k (fun K25 hK25 => ?_)
     refine wp_region_lit ?_
     refine wpList_plain rfl (fun Ko hKo => ?_)
     go_simp
     refine hKo _ _ ?_
     clear hKo Ko
     try simp only [Act.put, nm1, nm2, nm3, i64_w]
     refine wpList_plain rfl (fun Ko hKo => ?_)
     go_simp
     refine hKo _ _ ?_
     clear hKo Ko
     try simp only [Act.put, nm1, nm2, nm3, i64_w]
     refine step_call (wanted_none rfl) (by first | (go_simp; done) | (go_simp; rfl)) (laws_eqInt64S.calls K P15 q16 t14 P4 q5 t3 true w22 ht14.rd ((ht3.up hu23.out).rd) A27.out) ?_
     rintro e w28 ⟨rfl, hu⟩
     have hu29 := Aside0.mk hu
     clear hu
     refine ⟨_, rfl, ?_⟩
     simp only [Act.put, nm1, nm2, nm3, i64_w]
     refine wpList_plain rfl (fun Ko hKo => ?_)
     go_simp
     refine hKo _ _ ?_
     clear hKo Ko
     try simp only [Act.put, nm1, nm2, nm3, i64_w]
     refine wpList_plain rfl (fun Ko hKo => ?_)
     go_simp
     refine hKo _ _ ?_
     clear hKo Ko
     try simp only [Act.put, nm1, nm2, nm3, i64_w]
     refine wpList_step (fun Ko hKo => ?_)
     go_simp
     refine hKo _ _ ?_
     clear hKo Ko
     try simp only [Act.put, nm1, nm2, nm3, i64_w]
     refine wpList_step (fun Ko hKo => ?_)
     go_simp
     refine hKo _ _ ?_
     clear hKo Ko
     try simp only [Act.put, nm1, nm2, nm3, i64_w]
     refine step_call rfl (by first | (go_simp; done) | (go_simp; rfl)) (laws_eqInt64S.calls K P18 q19 t17 P7 q8 t6 true w28 ((ht17.up hu29.out).rd) ((ht6.up (hu23.out.trans hu29.out)).rd) A32.out) ?_
     rintro e w33 ⟨rfl, hu⟩
     have hu34 := Aside0.mk hu
     clear hu
     refine ⟨_, rfl, ?_⟩
     simp only [Act.put, nm1, nm2, nm3, i64_w]
     refine wpList_step (fun Ko hKo => ?_)
     go_simp
     refine hKo _ _ ?_
     clear hKo Ko
     try simp only [Act.put, nm1, nm2, nm3, i64_w]
     refine wpList_plain rfl (fun Ko hKo => ?_)
     go_simp
     refine hKo _ _ ?_
     clear hKo Ko
     try simp only [Act.put, nm1, nm2, nm3, i64_w]
     refine wpList_plain rfl (fun Ko hKo => ?_)
     go_simp
     refine hKo _ _ ?_
     clear hKo Ko
     try simp only [Act.put, nm1, nm2, nm3, i64_w]
     refine wpList_step (fun Ko hKo => ?_)
     go_simp
     refine hKo _ _ ?_
     clear hKo Ko
     try simp only [Act.put, nm1, nm2, nm3, i64_w]
     refine wpList_step (fun Ko hKo => ?_)
     go_simp
     refine hKo _ _ ?_
     clear hKo Ko
     try simp only [Act.put, nm1, nm2, nm3, i64_w]
     refine wpList_step (fun Ko hKo => ?_)
     go_simp
     refine hKo _ _ ?_
     clear hKo Ko
     try simp only [Act.put, nm1, nm2, nm3, i64_w]
     refine wpList_plain rfl (fun Ko hKo => ?_)
     go_simp
     refine hKo _ _ ?_
     clear hKo Ko
     try simp only [Act.put, nm1, nm2, nm3, i64_w]
     refine wpList_nil ?_
     (try simp only [Exit.then, Exit.inBlock, ↓reduceIte, Nat.reduceEqDiff])
     refine hK25 _ _ ?_
     refine wp_cond_false rfl ?_
     refine wp_skip ?_
     (try simp only [Exit.then, Exit.inBlock, ↓reduceIte, Nat.reduceEqDiff])
     refine hK24 _ _ ?_
     refine wp_seq_k (fun K37 hK37 => ?_)
     refine wp_region_lit ?_
     refine wpList_plain rfl (fun Ko hKo => ?_)
     go_simp
     refine hKo _ _ ?_
     clear hKo Ko
     try simp only [Act.put, nm1, nm2, nm3, i64_w]
     refine wpList_nil ?_
     (try simp only [Exit.then, Exit.inBlock, ↓reduceIte, Nat.reduceEqDiff])
     refine hK37 _ _ ?_
     refine wp_seq_k (fun K38 hK38 => ?_)
     refine wp_region_lit ?_
     refine wpList_plain rfl (fun Ko hKo => ?_)
     go_simp
     refine hKo _ _ ?_
     clear hKo Ko
     try simp only [Act.put, nm1, nm2, nm3, i64_w]
     refine wpList_plain rfl (fun Ko hKo => ?_)
     go_simp
     refine hKo _ _ ?_
     clear hKo Ko
     try simp only [Act.put, nm1, nm2, nm3, i64_w]
     refine step_call (wanted_none rfl) (by first | (go_simp; done) | (go_simp; rfl)) (laws_markInt64S.calls K P15 q16 w11.heap.size t14 1 t39 t40 w33 (ht14.up (hu29.out.trans hu34.out)) A41.out) ?_
     have lb43 := Aside0.mk (ht14.up (hu29.out.trans hu34.out)).lt
     rintro e w42 ⟨rfl, h44, hl, hg⟩
     have hg46 := Aside0.mk hg
     have hl45 := hl
     clear hg hl
     have h47 := (ht17.up (hu29.out.trans hu34.out)).grow hg46.out hnt14_t17
     have hl48 : Aside0 (t14.length = t40.length) := Aside0.mk hl45.out
     refine ⟨_, rfl, ?_⟩
     simp only [Act.put, nm1, nm2, nm3, i64_w]
     refine wpList_plain rfl (fun Ko hKo => ?_)
     go_simp
     refine hKo _ _ ?_
     clear hKo Ko
     try simp only [Act.put, nm1, nm2, nm3, i64_w]
     refine wpList_nil ?_
     (try simp only [Exit.then, Exit.inBlock, ↓reduceIte, Nat.reduceEqDiff])
     refine hK38 _ _ ?_
     refine wp_seq_k (fun K49 hK49 => ?_)
     refine wp_region_lit ?_
     refine wpList_plain rfl (fun Ko hKo => ?_)
     go_simp
     refine hKo _ _ ?_
     clear hKo Ko
     try simp only [Act.put, nm1, nm2, nm3, i64_w]
     refine wpList_plain rfl (fun Ko hKo => ?_)
     go_simp
     refine hKo _ _ ?_
     clear hKo Ko
     try simp only [Act.put, nm1, nm2, nm3, i64_w]
     refine step_call (wanted_none rfl) (by first | (go_simp; done) | (go_simp; rfl)) (laws_markInt64S.calls K P18 q19 w11.heap.size t17 t39 t50 t51 w42 h47 A52.out) ?_
     have lb54 := Aside0.mk h47.lt
     rintro e w53 ⟨rfl, h55, hl, hg⟩
     have hg57 := Aside0.mk hg
     have hl56 := hl
     clear hg hl
     have h58 := h44.grow hg57.out (fun k l hk hl => Ne.symm ((fun k l hk hl => hnt14_t17 k l (blk_len.symm.trans hk) hl) l k hl hk))
     have hl59 : Aside0 (t17.length = t51.length) := Aside0.mk hl56.out
     refine ⟨_, rfl, ?_⟩
     simp only [Act.put, nm1, nm2, nm3, i64_w]
     refine wpList_plain rfl (fun Ko hKo => ?_)
     go_simp
     refine hKo _ _ ?_
     clear hKo Ko
     try simp only [Act.put, nm1, nm2, nm3, i64_w]
     refine wpList_nil ?_
     (try simp only [Exit.then, Exit.inBlock, ↓reduceIte, Nat.reduceEqDiff])
     refine hK49 _ _ ?_
     refine wp_seq_k (fun K60 hK60 => ?_)
     refine wp_region_lit ?_
     refine wpList_plain rfl (fun Ko hKo => ?_)
     go_simp
     refine hKo _ _ ?_
     clear hKo Ko
     try simp only [Act.put, nm1, nm2, nm3, i64_w]
     refine wpList_nil ?_
     (try simp only [Exit.then, Exit.inBlock, ↓reduceIte, Nat.reduceEqDiff])
     refine hK60 _ _ ?_
     refine wp_seq_k (fun K61 hK61 => ?_)
     refine wp_region_lit ?_
     refine wpList_plain rfl (fun Ko hKo => ?_)
     go_simp
     refine hKo _ _ ?_
     clear hKo Ko
     try simp only [Act.put, nm1, nm2, nm3, i64_w]
     refine wpList_plain rfl (fun Ko hKo => ?_)
     go_simp
     refine hKo _ _ ?_
     clear hKo Ko
     try simp only [Act.put, nm1, nm2, nm3, i64_w]
     refine step_call (wanted_none rfl) (by first | (go_simp; done) | (go_simp; rfl)) (Eq.mp (congrArg (fun n_ => Calls Try.prog 29 #[.slice P15 n_ q16, .int .i64 1] w53 _) (Eq.symm hl48.out)) (laws_heldInt64S.calls K P15 q16 t40 1 t62 w53 h58.rd A63.out)) ?_
     rintro e w64 ⟨rfl, hu⟩
     have hu65 := Aside0.mk hu
     clear hu
     refine ⟨_, rfl, ?_⟩
     simp only [Act.put, nm1, nm2, nm3, i64_w]
     refine wpList_plain rfl (fun Ko hKo => ?_)
     go_simp
     refine hKo _ _ ?_
     clear hKo Ko
     try simp only [Act.put, nm1, nm2, nm3, i64_w]
     refine wpList_nil ?_
     (try simp only [Exit.then, Exit.inBlock, ↓reduceIte, Nat.reduceEqDiff])
     refine hK61 _ _ ?_
     refine wp_seq_k (fun K66 hK66 => ?_)
     refine wp_seq_k (fun K67 hK67 => ?_)
     refine wp_region_lit ?_
     refine wpList_plain rfl (fun Ko hKo => ?_)
     go_simp
     refine hKo _ _ ?_
     clear hKo Ko
     try simp only [Act.put, nm1, nm2, nm3, i64_w]
     refine wpList_plain rfl (fun Ko hKo => ?_)
     go_simp
     refine hKo _ _ ?_
     clear hKo Ko
     try simp only [Act.put, nm1, nm2, nm3, i64_w]
     refine wpList_nil ?_
     (try simp only [Exit.then, Exit.inBlock, ↓reduceIte, Nat.reduceEqDiff])
     refine hK67 _ _ ?_
     refine wp_cond_true rfl ?_
     refine wp_seq_k (fun K69 hK69 => ?_)
     refine wp_region_lit ?_
     refine wpList_plain rfl (fun Ko hKo => ?_)
     go_simp
     refine hKo _ _ ?_
     clear hKo Ko
     try simp only [Act.put, nm1, nm2, nm3, i64_w]
     refine wpList_nil ?_
     (try simp only [Exit.then, Exit.inBlock, ↓reduceIte, Nat.reduceEqDiff])
     refine hK69 _ _ ?_
     refine wp_ret ?_
     (try simp only [Exit.then, Exit.inBlock, ↓reduceIte, Nat.reduceEqDiff])
     refine hQf _ _ _ ?_
     exact bodyPost_ret (v := .bool false) (by first | rfl | (simp [results, Try.results13, go_sem]; done) | (simp [results, Try.results13, go_sem]; rfl)) rfl ⟨rfl, ((((((hu12.out.trans hu23.out).trans hu29.out).trans hu34.out).grow hg46.out (fun k hk => Nat.le_trans (hu12.out.size) ((fun k hk => (lb43.out k hk).1) k hk))).grow hg57.out (fun k hk => Nat.le_trans (hu12.out.size) ((fun k hk => (lb54.out k hk).1) k hk))).trans hu65.out)⟩
    ·
     rw [if_neg c68] at H
     replace c68 := Bool.eq_false_iff.mpr c68
     replace H := Option.bind_eq_some_iff.mp H
     obtain ⟨t71, A72, H⟩ := H
     replace A72 := Aside0.mk A72
     try dsimp only at H
     by_cases c77 : (decide (t71 < 0)) = true
     ·
      rw [if_pos c77] at H
      obtain rfl := Option.some.inj H
      go_enter Try.func13, Try.ntmps13
      refine wp_hide (fun Qf hQf => ?_)
      refine wp_seq_k (fun K1 hK1 => ?_)
      refine wp_region_lit ?_
      refine wpList_plain rfl (fun Ko hKo => ?_)
      go_simp
      refine hKo _ _ ?_
      clear hKo Ko
      try simp only [Act.put, nm1, nm2, nm3, i64_w]
      refine wpList_nil ?_
      (try simp only [Exit.then, Exit.inBlock, ↓reduceIte, Nat.reduceEqDiff])
      refine hK1 _ _ ?_
      refine wp_seq_k (fun K2 hK2 => ?_)
      refine wp_region_lit ?_
      refine wpList_plain rfl (fun Ko hKo => ?_)
      go_simp
      refine hKo _ _ ?_
      clear hKo Ko
      try simp only [Act.put, nm1, nm2, nm3, i64_w]
      refine step_call (wanted_none rfl) (by first | (go_simp; done) | (go_simp; rfl)) (spec_OrdersOf.calls K a0 t3 t6 t9 w  A10.out) ?_
      rintro e w11 ⟨P4, q5, P7, q8, rfl, ht3, ht6, hnt3_t6, hu⟩
      have hu12 := Aside0.mk hu
      clear hu
      refine ⟨_, rfl, ?_⟩
      simp only [Act.put, nm1, nm2, nm3, i64_w]
      refine wpList_plain rfl (fun Ko hKo => ?_)
      go_simp
      refine hKo _ _ ?_
      clear hKo Ko
      try simp only [Act.put, nm1, nm2, nm3, i64_w]
      refine wpList_plain rfl (fun Ko hKo => ?_)
      go_simp
      refine hKo _ _ ?_
      clear hKo Ko
      try simp only [Act.put, nm1, nm2, nm3, i64_w]
      refine wpList_plain rfl (fun Ko hKo => ?_)
      go_simp
      refine hKo _ _ ?_
      clear hKo Ko
      try simp only [Act.put, nm1, nm2, nm3, i64_w]
      refine wpList_plain rfl (fun Ko hKo => ?_)
      go_simp
      refine hKo _ _ ?_
      clear hKo Ko
      try simp only [Act.put, nm1, nm2, nm3, i64_w]
      refine wpList_plain rfl (fun Ko hKo => ?_)
      go_simp
      refine hKo _ _ ?_
      clear hKo Ko
      try simp only [Act.put, nm1, nm2, nm3, i64_w]
      refine wpList_plain rfl (fun Ko hKo => ?_)
      go_simp
      refine hKo _ _ ?_
      clear hKo Ko
      try simp only [Act.put, nm1, nm2, nm3, i64_w]
      refine wpList_plain rfl (fun Ko hKo => ?_)
      go_simp
      refine hKo _ _ ?_
      clear hKo Ko
      try simp only [Act.put, nm1, nm2, nm3, i64_w]
      refine wpList_nil ?_
      (try simp only [Exit.then, Exit.inBlock, ↓reduceIte, Nat.reduceEqDiff])
      refine hK2 _ _ ?_
      refine wp_seq_k (fun K13 hK13 => ?_)
      refine wp_region_lit ?_
      refine wpList_plain rfl (fun Ko hKo => ?_)
      go_simp
      refine hKo _ _ ?_
      clear hKo Ko
      try simp only [Act.put, nm1, nm2, nm3, i64_w]
      refine step_call (wanted_none rfl) (by first | (go_simp; done) | (go_simp; rfl)) (impl_OrdersOf.calls K a0 t14 t17 t20 w11  A21.out) ?_
      rintro e w22 ⟨P15, q16, P18, q19, rfl, ht14, ht17, hnt14_t17, hu⟩
      have hu23 := Aside0.mk hu
      clear hu
      refine ⟨_, rfl, ?_⟩
      simp only [Act.put, nm1, nm2, nm3, i64_w]
      refine wpList_plain rfl (fun Ko hKo => ?_)
      go_simp
      refine hKo _ _ ?_
      clear hKo Ko
      try simp only [Act.put, nm1, nm2, nm3, i64_w]
      refine wpList_plain rfl (fun Ko hKo => ?_)
      go_simp
      refine hKo _ _ ?_
      clear hKo Ko
      try simp only [Act.put, nm1, nm2, nm3, i64_w]
      refine wpList_plain rfl (fun Ko hKo => ?_)
      go_simp
      refine hKo _ _ ?_
      clear hKo Ko
      try simp only [Act.put, nm1, nm2, nm3, i64_w]
      refine wpList_plain rfl (fun Ko hKo => ?_)
      go_simp
      refine hKo _ _ ?_
      clear hKo Ko
      try simp only [Act.put, nm1, nm2, nm3, i64_w]
      refine wpList_plain rfl (fun Ko hKo => ?_)
      go_simp
      refine hKo _ _ ?_
      clear hKo Ko
      try simp only [Act.put, nm1, nm2, nm3, i64_w]
      refine wpList_plain rfl (fun Ko hKo => ?_)
      go_simp
      refine hKo _ _ ?_
      clear hKo Ko
      try simp only [Act.put, nm1, nm2, nm3, i64_w]
      refine wpList_plain rfl (fun Ko hKo => ?_)
      go_simp
      refine hKo _ _ ?_
      clear hKo Ko
      try simp only [Act.put, nm1, nm2, nm3, i64_w]
      refine wpList_nil ?_
      (try simp only [Exit.then, Exit.inBlock, ↓reduceIte, Nat.reduceEqDiff])
      refine hK13 _ _ ?_
      refine wp_seq_k (fun K24 hK24 => ?_)
      refine wp_seq_k (fun K25 hK25 => ?_)
      refine wp_region_lit ?_
      refine wpList_plain rfl (fun Ko hKo => ?_)
      go_simp
      refine hKo _ _ ?_
      clear hKo Ko
      try simp only [Act.put, nm1, nm2, nm3, i64_w]
      refine wpList_plain rfl (fun Ko hKo => ?_)
      go_simp
      refine hKo _ _ ?_
      clear hKo Ko
      try simp only [Act.put, nm1, nm2, nm3, i64_w]
      refine step_call (wanted_none rfl) (by first | (go_simp; done) | (go_simp; rfl)) (laws_eqInt64S.calls K P15 q16 t14 P4 q5 t3 true w22 ht14.rd ((ht3.up hu23.out).rd) A27.out) ?_
      rintro e w28 ⟨rfl, hu⟩
      have hu29 := Aside0.mk hu
      clear hu
      refine ⟨_, rfl, ?_⟩
      simp only [Act.put, nm1, nm2, nm3, i64_w]
      refine wpList_plain rfl (fun Ko hKo => ?_)
      go_simp
      refine hKo _ _ ?_
      clear hKo Ko
      try simp only [Act.put, nm1, nm2, nm3, i64_w]
      refine wpList_plain rfl (fun Ko hKo => ?_)
      go_simp
      refine hKo _ _ ?_
      clear hKo Ko
      try simp only [Act.put, nm1, nm2, nm3, i64_w]
      refine wpList_step (fun Ko hKo => ?_)
      go_simp
      refine hKo _ _ ?_
      clear hKo Ko
      try simp only [Act.put, nm1, nm2, nm3, i64_w]
      refine wpList_step (fun Ko hKo => ?_)
      go_simp
      refine hKo _ _ ?_
      clear hKo Ko
      try simp only [Act.put, nm1, nm2, nm3, i64_w]
      refine step_call rfl (by first | (go_simp; done) | (go_simp; rfl)) (laws_eqInt64S.calls K P18 q19 t17 P7 q8 t6 true w28 ((ht17.up hu29.out).rd) ((ht6.up (hu23.out.trans hu29.out)).rd) A32.out) ?_
      rintro e w33 ⟨rfl, hu⟩
      have hu34 := Aside0.mk hu
      clear hu
      refine ⟨_, rfl, ?_⟩
      simp only [Act.put, nm1, nm2, nm3, i64_w]
      refine wpList_step (fun Ko hKo => ?_)
      go_simp
      refine hKo _ _ ?_
      clear hKo Ko
      try simp only [Act.put, nm1, nm2, nm3, i64_w]
      refine wpList_plain rfl (fun Ko hKo => ?_)
      go_simp
      refine hKo _ _ ?_
      clear hKo Ko
      try simp only [Act.put, nm1, nm2, nm3, i64_w]
      refine wpList_plain rfl (fun Ko hKo => ?_)
      go_simp
      refine hKo _ _ ?_
      clear hKo Ko
      try simp only [Act.put, nm1, nm2, nm3, i64_w]
      refine wpList_step (fun Ko hKo => ?_)
      go_simp
      refine hKo _ _ ?_
      clear hKo Ko
      try simp only [Act.put, nm1, nm2, nm3, i64_w]
      refine wpList_step (fun Ko hKo => ?_)
      go_simp
      refine hKo _ _ ?_
      clear hKo Ko
      try simp only [Act.put, nm1, nm2, nm3, i64_w]
      refine wpList_step (fun Ko hKo => ?_)
      go_simp
      refine hKo _ _ ?_
      clear hKo Ko
      try simp only [Act.put, nm1, nm2, nm3, i64_w]
      refine wpList_plain rfl (fun Ko hKo => ?_)
      go_simp
      refine hKo _ _ ?_
      clear hKo Ko
      try simp only [Act.put, nm1, nm2, nm3, i64_w]
      refine wpList_nil ?_
      (try simp only [Exit.then, Exit.inBlock, ↓reduceIte, Nat.reduceEqDiff])
      refine hK25 _ _ ?_
      refine wp_cond_false rfl ?_
      refine wp_skip ?_
      (try simp only [Exit.then, Exit.inBlock, ↓reduceIte, Nat.reduceEqDiff])
      refine hK24 _ _ ?_
      refine wp_seq_k (fun K37 hK37 => ?_)
      refine wp_region_lit ?_
      refine wpList_plain rfl (fun Ko hKo => ?_)
      go_simp
      refine hKo _ _ ?_
      clear hKo Ko
      try simp only [Act.put, nm1, nm2, nm3, i64_w]
      refine wpList_nil ?_
      (try simp only [Exit.then, Exit.inBlock, ↓reduceIte, Nat.reduceEqDiff])
      refine hK37 _ _ ?_
      refine wp_seq_k (fun K38 hK38 => ?_)
      refine wp_region_lit ?_
      refine wpList_plain rfl (fun Ko hKo => ?_)
      go_simp
      refine hKo _ _ ?_
      clear hKo Ko
      try simp only [Act.put, nm1, nm2, nm3, i64_w]
      refine wpList_plain rfl (fun Ko hKo => ?_)
      go_simp
      refine hKo _ _ ?_
      clear hKo Ko
      try simp only [Act.put, nm1, nm2, nm3, i64_w]
      refine step_call (wanted_none rfl) (by first | (go_simp; done) | (go_simp; rfl)) (laws_markInt64S.calls K P15 q16 w11.heap.size t14 1 t39 t40 w33 (ht14.up (hu29.out.trans hu34.out)) A41.out) ?_
      have lb43 := Aside0.mk (ht14.up (hu29.out.trans hu34.out)).lt
      rintro e w42 ⟨rfl, h44, hl, hg⟩
      have hg46 := Aside0.mk hg
      have hl45 := hl
      clear hg hl
      have h47 := (ht17.up (hu29.out.trans hu34.out)).grow hg46.out hnt14_t17
      have hl48 : Aside0 (t14.length = t40.length) := Aside0.mk hl45.out
      refine ⟨_, rfl, ?_⟩
      simp only [Act.put, nm1, nm2, nm3, i64_w]
      refine wpList_plain rfl (fun Ko hKo => ?_)
      go_simp
      refine hKo _ _ ?_
      clear hKo Ko
      try simp only [Act.put, nm1, nm2, nm3, i64_w]
      refine wpList_nil ?_
      (try simp only [Exit.then, Exit.inBlock, ↓reduceIte, Nat.reduceEqDiff])
      refine hK38 _ _ ?_
      refine wp_seq_k (fun K49 hK49 => ?_)
      refine wp_region_lit ?_
      refine wpList_plain rfl (fun Ko hKo => ?_)
      go_simp
      refine hKo _ _ ?_
      clear hKo Ko
      try simp only [Act.put, nm1, nm2, nm3, i64_w]
      refine wpList_plain rfl (fun Ko hKo => ?_)
      go_simp
      refine hKo _ _ ?_
      clear hKo Ko
      try simp only [Act.put, nm1, nm2, nm3, i64_w]
      refine step_call (wanted_none rfl) (by first | (go_simp; done) | (go_simp; rfl)) (laws_markInt64S.calls K P18 q19 w11.heap.size t17 t39 t50 t51 w42 h47 A52.out) ?_
      have lb54 := Aside0.mk h47.lt
      rintro e w53 ⟨rfl, h55, hl, hg⟩
      have hg57 := Aside0.mk hg
      have hl56 := hl
      clear hg hl
      have h58 := h44.grow hg57.out (fun k l hk hl => Ne.symm ((fun k l hk hl => hnt14_t17 k l (blk_len.symm.trans hk) hl) l k hl hk))
      have hl59 : Aside0 (t17.length = t51.length) := Aside0.mk hl56.out
      refine ⟨_, rfl, ?_⟩
      simp only [Act.put, nm1, nm2, nm3, i64_w]
      refine wpList_plain rfl (fun Ko hKo => ?_)
      go_simp
      refine hKo _ _ ?_
      clear hKo Ko
      try simp only [Act.put, nm1, nm2, nm3, i64_w]
      refine wpList_nil ?_
      (try simp only [Exit.then, Exit.inBlock, ↓reduceIte, Nat.reduceEqDiff])
      refine hK49 _ _ ?_
      refine wp_seq_k (fun K60 hK60 => ?_)
      refine wp_region_lit ?_
      refine wpList_plain rfl (fun Ko hKo => ?_)
      go_simp
      refine hKo _ _ ?_
      clear hKo Ko
      try simp only [Act.put, nm1, nm2, nm3, i64_w]
      refine wpList_nil ?_
      (try simp only [Exit.then, Exit.inBlock, ↓reduceIte, Nat.reduceEqDiff])
      refine hK60 _ _ ?_
      refine wp_seq_k (fun K61 hK61 => ?_)
      refine wp_region_lit ?_
      refine wpList_plain rfl (fun Ko hKo => ?_)
      go_simp
      refine hKo _ _ ?_
      clear hKo Ko
      try simp only [Act.put, nm1, nm2, nm3, i64_w]
      refine wpList_plain rfl (fun Ko hKo => ?_)
      go_simp
      refine hKo _ _ ?_
      clear hKo Ko
      try simp only [Act.put, nm1, nm2, nm3, i64_w]
      refine step_call (wanted_none rfl) (by first | (go_simp; done) | (go_simp; rfl)) (Eq.mp (congrArg (fun n_ => Calls Try.prog 29 #[.slice P15 n_ q16, .int .i64 1] w53 _) (Eq.symm hl48.out)) (laws_heldInt64S.calls K P15 q16 t40 1 t62 w53 h58.rd A63.out)) ?_
      rintro e w64 ⟨rfl, hu⟩
      have hu65 := Aside0.mk hu
      clear hu
      refine ⟨_, rfl, ?_⟩
      simp only [Act.put, nm1, nm2, nm3, i64_w]
      refine wpList_plain rfl (fun Ko hKo => ?_)
      go_simp
      refine hKo _ _ ?_
      clear hKo Ko
      try simp only [Act.put, nm1, nm2, nm3, i64_w]
      refine wpList_nil ?_
      (try simp only [Exit.then, Exit.inBlock, ↓reduceIte, Nat.reduceEqDiff])
      refine hK61 _ _ ?_
      refine wp_seq_k (fun K66 hK66 => ?_)
      refine wp_seq_k (fun K67 hK67 => ?_)
      refine wp_region_lit ?_
      refine wpList_plain rfl (fun Ko hKo => ?_)
      go_simp
      refine hKo _ _ ?_
      clear hKo Ko
      try simp only [Act.put, nm1, nm2, nm3, i64_w]
      refine wpList_plain rfl (fun Ko hKo => ?_)
      go_simp
      refine hKo _ _ ?_
      clear hKo Ko
      try simp only [Act.put, nm1, nm2, nm3, i64_w]
      refine wpList_nil ?_
      (try simp only [Exit.then, Exit.inBlock, ↓reduceIte, Nat.reduceEqDiff])
      refine hK67 _ _ ?_
      refine wp_cond_false rfl ?_
      refine wp_skip ?_
      (try simp only [Exit.then, Exit.inBlock, ↓reduceIte, Nat.reduceEqDiff])
      refine hK66 _ _ ?_
      refine wp_seq_k (fun K70 hK70 => ?_)
      refine wp_region_lit ?_
      refine wpList_plain rfl (fun Ko hKo => ?_)
      go_simp
      refine hKo _ _ ?_
      clear hKo Ko
      try simp only [Act.put, nm1, nm2, nm3, i64_w]
      refine wpList_plain rfl (fun Ko hKo => ?_)
      go_simp
      refine hKo _ _ ?_
      clear hKo Ko
      try simp only [Act.put, nm1, nm2, nm3, i64_w]
      refine step_call (wanted_none rfl) (by first | (go_simp; done) | (go_simp; rfl)) (Eq.mp (congrArg (fun n_ => Calls Try.prog 29 #[.slice P18 n_ q19, .int .i64 t62] w64 _) (Eq.symm hl59.out)) (laws_heldInt64S.calls K P18 q19 t51 t62 t71 w64 ((h55.up hu65.out).rd) A72.out)) ?_
      rintro e w73 ⟨rfl, hu⟩
      have hu74 := Aside0.mk hu
      clear hu
      refine ⟨_, rfl, ?_⟩
      simp only [Act.put, nm1, nm2, nm3, i64_w]
      refine wpList_plain rfl (fun Ko hKo => ?_)
      go_simp
      refine hKo _ _ ?_
      clear hKo Ko
      try simp only [Act.put, nm1, nm2, nm3, i64_w]
      refine wpList_nil ?_
      (try simp only [Exit.then, Exit.inBlock, ↓reduceIte, Nat.reduceEqDiff])
      refine hK70 _ _ ?_
      refine wp_seq_k (fun K75 hK75 => ?_)
      refine wp_seq_k (fun K76 hK76 => ?_)
      refine wp_region_lit ?_
      refine wpList_plain rfl (fun Ko hKo => ?_)
      go_simp
      refine hKo _ _ ?_
      clear hKo Ko
      try simp only [Act.put, nm1, nm2, nm3, i64_w]
      refine wpList_plain rfl (fun Ko hKo => ?_)
      go_simp
      refine hKo _ _ ?_
      clear hKo Ko
      try simp only [Act.put, nm1, nm2, nm3, i64_w]
      refine wpList_nil ?_
      (try simp only [Exit.then, Exit.inBlock, ↓reduceIte, Nat.reduceEqDiff])
      refine hK76 _ _ ?_
      refine wp_cond_true rfl ?_
      refine wp_seq_k (fun K78 hK78 => ?_)
      refine wp_region_lit ?_
      refine wpList_plain rfl (fun Ko hKo => ?_)
      go_simp
      refine hKo _ _ ?_
      clear hKo Ko
      try simp only [Act.put, nm1, nm2, nm3, i64_w]
      refine wpList_nil ?_
      (try simp only [Exit.then, Exit.inBlock, ↓reduceIte, Nat.reduceEqDiff])
      refine hK78 _ _ ?_
      refine wp_ret ?_
      (try simp only [Exit.then, Exit.inBlock, ↓reduceIte, Nat.reduceEqDiff])
      refine hQf _ _ _ ?_
      exact bodyPost_ret (v := .bool false) (by first | rfl | (simp [results, Try.results13, go_sem]; done) | (simp [results, Try.results13, go_sem]; rfl)) rfl ⟨rfl, (((((((hu12.out.trans hu23.out).trans hu29.out).trans hu34.out).grow hg46.out (fun k hk => Nat.le_trans (hu12.out.size) ((fun k hk => (lb43.out k hk).1) k hk))).grow hg57.out (fun k hk => Nat.le_trans (hu12.out.size) ((fun k hk => (lb54.out k hk).1) k hk))).trans hu65.out).trans hu74.out)⟩
     ·
      rw [if_neg c77] at H
      replace c77 := Bool.eq_false_iff.mpr c77
      by_cases c81 : (t71 == t50) = true
      ·
       rw [if_pos c81] at H
       have c81n : (t71 != t50) = false := by rw [bne, c81]; rfl
       replace H := Option.bind_eq_some_iff.mp H
       obtain ⟨⟨t83, t86, t89⟩, A90, H⟩ := H
       replace A90 := Aside0.mk A90
       try dsimp only at H
       replace H := Option.bind_eq_some_iff.mp H
       obtain ⟨t95, A96, H⟩ := H
       replace A96 := Aside0.mk A96
       try dsimp only at H
       by_cases c99 : (t95) = true
       ·
        rw [if_pos c99] at H
        subst c99
        replace H := Option.bind_eq_some_iff.mp H
        obtain ⟨t100, A101, H⟩ := H
        replace A101 := Aside0.mk A101
        try dsimp only at H
        by_cases c104 : (t100) = true
        ·
         rw [if_pos c104] at H
         subst c104
         by_cases c105 : (t89 == t9) = true
         ·
          rw [if_pos c105] at H
          have c105n : (t89 != t9) = false := by rw [bne, c105]; rfl
          replace H := Option.bind_eq_some_iff.mp H
          obtain ⟨t108, A109, H⟩ := H
          replace A109 := Aside0.mk A109
          try dsimp only at H
          by_cases c114 : (decide (t108 < 0)) = true
          ·
           rw [if_pos c114] at H
           obtain rfl := Option.some.inj H
           go_enter Try.func13, Try.ntmps13
           refine wp_hide (fun Qf hQf => ?_)
           refine wp_seq_k (fun K1 hK1 => ?_)
           refine wp_region_lit ?_
           refine wpList_plain rfl (fun Ko hKo => ?_)
           go_simp
           refine hKo _ _ ?_
           clear hKo Ko
           try simp only [Act.put, nm1, nm2, nm3, i64_w]
           refine wpList_nil ?_
           (try simp only [Exit.then, Exit.inBlock, ↓reduceIte, Nat.reduceEqDiff])
           refine hK1 _ _ ?_
           refine wp_seq_k (fun K2 hK2 => ?_)
           refine wp_region_lit ?_
           refine wpList_plain rfl (fun Ko hKo => ?_)
           go_simp
           refine hKo _ _ ?_
           clear hKo Ko
           try simp only [Act.put, nm1, nm2, nm3, i64_w]
           refine step_call (wanted_none rfl) (by first | (go_simp; done) | (go_simp; rfl)) (spec_OrdersOf.calls K a0 t3 t6 t9 w  A10.out) ?_
           rintro e w11 ⟨P4, q5, P7, q8, rfl, ht3, ht6, hnt3_t6, hu⟩
           have hu12 := Aside0.mk hu
           clear hu
           refine ⟨_, rfl, ?_⟩
           simp only [Act.put, nm1, nm2, nm3, i64_w]
           refine wpList_plain rfl (fun Ko hKo => ?_)
           go_simp
           refine hKo _ _ ?_
           clear hKo Ko
           try simp only [Act.put, nm1, nm2, nm3, i64_w]
           refine wpList_plain rfl (fun Ko hKo => ?_)
           go_simp
           refine hKo _ _ ?_
           clear hKo Ko
           try simp only [Act.put, nm1, nm2, nm3, i64_w]
           refine wpList_plain rfl (fun Ko hKo => ?_)
           go_simp
           refine hKo _ _ ?_
           clear hKo Ko
           try simp only [Act.put, nm1, nm2, nm3, i64_w]
           refine wpList_plain rfl (fun Ko hKo => ?_)
           go_simp
           refine hKo _ _ ?_
           clear hKo Ko
           try simp only [Act.put, nm1, nm2, nm3, i64_w]
           refine wpList_plain rfl (fun Ko hKo => ?_)
           go_simp
           refine hKo _ _ ?_
           clear hKo Ko
           try simp only [Act.put, nm1, nm2, nm3, i64_w]
           refine wpList_plain rfl (fun Ko hKo => ?_)
           go_simp
           refine hKo _ _ ?_
           clear hKo Ko
           try simp only [Act.put, nm1, nm2, nm3, i64_w]
           refine wpList_plain rfl (fun Ko hKo => ?_)
           go_simp
           refine hKo _ _ ?_
           clear hKo Ko
           try simp only [Act.put, nm1, nm2, nm3, i64_w]
           refine wpList_nil ?_
           (try simp only [Exit.then, Exit.inBlock, ↓reduceIte, Nat.reduceEqDiff])
           refine hK2 _ _ ?_
           refine wp_seq_k (fun K13 hK13 => ?_)
           refine wp_region_lit ?_
           refine wpList_plain rfl (fun Ko hKo => ?_)
           go_simp
           refine hKo _ _ ?_
           clear hKo Ko
           try simp only [Act.put, nm1, nm2, nm3, i64_w]
           refine step_call (wanted_none rfl) (by first | (go_simp; done) | (go_simp; rfl)) (impl_OrdersOf.calls K a0 t14 t17 t20 w11  A21.out) ?_
           rintro e w22 ⟨P15, q16, P18, q19, rfl, ht14, ht17, hnt14_t17, hu⟩
           have hu23 := Aside0.mk hu
           clear hu
           refine ⟨_, rfl, ?_⟩
           simp only [Act.put, nm1, nm2, nm3, i64_w]
           refine wpList_plain rfl (fun Ko hKo => ?_)
           go_simp
           refine hKo _ _ ?_
           clear hKo Ko
           try simp only [Act.put, nm1, nm2, nm3, i64_w]
           refine wpList_plain rfl (fun Ko hKo => ?_)
           go_simp
           refine hKo _ _ ?_
           clear hKo Ko
           try simp only [Act.put, nm1, nm2, nm3, i64_w]
           refine wpList_plain rfl (fun Ko hKo => ?_)
           go_simp
           refine hKo _ _ ?_
           clear hKo Ko
           try simp only [Act.put, nm1, nm2, nm3, i64_w]
           refine wpList_plain rfl (fun Ko hKo => ?_)
           go_simp
           refine hKo _ _ ?_
           clear hKo Ko
           try simp only [Act.put, nm1, nm2, nm3, i64_w]
           refine wpList_plain rfl (fun Ko hKo => ?_)
           go_simp
           refine hKo _ _ ?_
           clear hKo Ko
           try simp only [Act.put, nm1, nm2, nm3, i64_w]
           refine wpList_plain rfl (fun Ko hKo => ?_)
           go_simp
           refine hKo _ _ ?_
           clear hKo Ko
           try simp only [Act.put, nm1, nm2, nm3, i64_w]
           refine wpList_plain rfl (fun Ko hKo => ?_)
           go_simp
           refine hKo _ _ ?_
           clear hKo Ko
           try simp only [Act.put, nm1, nm2, nm3, i64_w]
           refine wpList_nil ?_
           (try simp only [Exit.then, Exit.inBlock, ↓reduceIte, Nat.reduceEqDiff])
           refine hK13 _ _ ?_
           refine wp_seq_k (fun K24 hK24 => ?_)
           refine wp_seq_k (fun K25 hK25 => ?_)
           refine wp_region_lit ?_
           refine wpList_plain rfl (fun Ko hKo => ?_)
           go_simp
           refine hKo _ _ ?_
           clear hKo Ko
           try simp only [Act.put, nm1, nm2, nm3, i64_w]
           refine wpList_plain rfl (fun Ko hKo => ?_)
           go_simp
           refine hKo _ _ ?_
           clear hKo Ko
           try simp only [Act.put, nm1, nm2, nm3, i64_w]
           refine step_call (wanted_none rfl) (by first | (go_simp; done) | (go_simp; rfl)) (laws_eqInt64S.calls K P15 q16 t14 P4 q5 t3 true w22 ht14.rd ((ht3.up hu23.out).rd) A27.out) ?_
           rintro e w28 ⟨rfl, hu⟩
           have hu29 := Aside0.mk hu
           clear hu
           refine ⟨_, rfl, ?_⟩
           simp only [Act.put, nm1, nm2, nm3, i64_w]
           refine wpList_plain rfl (fun Ko hKo => ?_)
           go_simp
           refine hKo _ _ ?_
           clear hKo Ko
           try simp only [Act.put, nm1, nm2, nm3, i64_w]
           refine wpList_plain rfl (fun Ko hKo => ?_)
           go_simp
           refine hKo _ _ ?_
           clear hKo Ko
           try simp only [Act.put, nm1, nm2, nm3, i64_w]
           refine wpList_step (fun Ko hKo => ?_)
           go_simp
           refine hKo _ _ ?_
           clear hKo Ko
           try simp only [Act.put, nm1, nm2, nm3, i64_w]
           refine wpList_step (fun Ko hKo => ?_)
           go_simp
           refine hKo _ _ ?_
           clear hKo Ko
           try simp only [Act.put, nm1, nm2, nm3, i64_w]
           refine step_call rfl (by first | (go_simp; done) | (go_simp; rfl)) (laws_eqInt64S.calls K P18 q19 t17 P7 q8 t6 true w28 ((ht17.up hu29.out).rd) ((ht6.up (hu23.out.trans hu29.out)).rd) A32.out) ?_
           rintro e w33 ⟨rfl, hu⟩
           have hu34 := Aside0.mk hu
           clear hu
           refine ⟨_, rfl, ?_⟩
           simp only [Act.put, nm1, nm2, nm3, i64_w]
           refine wpList_step (fun Ko hKo => ?_)
           go_simp
           refine hKo _ _ ?_
           clear hKo Ko
           try simp only [Act.put, nm1, nm2, nm3, i64_w]
           refine wpList_plain rfl (fun Ko hKo => ?_)
           go_simp
           refine hKo _ _ ?_
           clear hKo Ko
           try simp only [Act.put, nm1, nm2, nm3, i64_w]
           refine wpList_plain rfl (fun Ko hKo => ?_)
           go_simp
           refine hKo _ _ ?_
           clear hKo Ko
           try simp only [Act.put, nm1, nm2, nm3, i64_w]
           refine wpList_step (fun Ko hKo => ?_)
           go_simp
           refine hKo _ _ ?_
           clear hKo Ko
           try simp only [Act.put, nm1, nm2, nm3, i64_w]
           refine wpList_step (fun Ko hKo => ?_)
           go_simp
           refine hKo _ _ ?_
           clear hKo Ko
           try simp only [Act.put, nm1, nm2, nm3, i64_w]
           refine wpList_step (fun Ko hKo => ?_)
           go_simp
           refine hKo _ _ ?_
           clear hKo Ko
           try simp only [Act.put, nm1, nm2, nm3, i64_w]
           refine wpList_plain rfl (fun Ko hKo => ?_)
           go_simp
           refine hKo _ _ ?_
           clear hKo Ko
           try simp only [Act.put, nm1, nm2, nm3, i64_w]
           refine wpList_nil ?_
           (try simp only [Exit.then, Exit.inBlock, ↓reduceIte, Nat.reduceEqDiff])
           refine hK25 _ _ ?_
           refine wp_cond_false rfl ?_
           refine wp_skip ?_
           (try simp only [Exit.then, Exit.inBlock, ↓reduceIte, Nat.reduceEqDiff])
           refine hK24 _ _ ?_
           refine wp_seq_k (fun K37 hK37 => ?_)
           refine wp_region_lit ?_
           refine wpList_plain rfl (fun Ko hKo => ?_)
           go_simp
           refine hKo _ _ ?_
           clear hKo Ko
           try simp only [Act.put, nm1, nm2, nm3, i64_w]
           refine wpList_nil ?_
           (try simp only [Exit.then, Exit.inBlock, ↓reduceIte, Nat.reduceEqDiff])
           refine hK37 _ _ ?_
           refine wp_seq_k (fun K38 hK38 => ?_)
           refine wp_region_lit ?_
           refine wpList_plain rfl (fun Ko hKo => ?_)
           go_simp
           refine hKo _ _ ?_
           clear hKo Ko
           try simp only [Act.put, nm1, nm2, nm3, i64_w]
           refine wpList_plain rfl (fun Ko hKo => ?_)
           go_simp
           refine hKo _ _ ?_
           clear hKo Ko
           try simp only [Act.put, nm1, nm2, nm3, i64_w]
           refine step_call (wanted_none rfl) (by first | (go_simp; done) | (go_simp; rfl)) (laws_markInt64S.calls K P15 q16 w11.heap.size t14 1 t39 t40 w33 (ht14.up (hu29.out.trans hu34.out)) A41.out) ?_
           have lb43 := Aside0.mk (ht14.up (hu29.out.trans hu34.out)).lt
           rintro e w42 ⟨rfl, h44, hl, hg⟩
           have hg46 := Aside0.mk hg
           have hl45 := hl
           clear hg hl
           have h47 := (ht17.up (hu29.out.trans hu34.out)).grow hg46.out hnt14_t17
           have hl48 : Aside0 (t14.length = t40.length) := Aside0.mk hl45.out
           refine ⟨_, rfl, ?_⟩
           simp only [Act.put, nm1, nm2, nm3, i64_w]
           refine wpList_plain rfl (fun Ko hKo => ?_)
           go_simp
           refine hKo _ _ ?_
           clear hKo Ko
           try simp only [Act.put, nm1, nm2, nm3, i64_w]
           refine wpList_nil ?_
           (try simp only [Exit.then, Exit.inBlock, ↓reduceIte, Nat.reduceEqDiff])
           refine hK38 _ _ ?_
           refine wp_seq_k (fun K49 hK49 => ?_)
           refine wp_region_lit ?_
           refine wpList_plain rfl (fun Ko hKo => ?_)
           go_simp
           refine hKo _ _ ?_
           clear hKo Ko
           try simp only [Act.put, nm1, nm2, nm3, i64_w]
           refine wpList_plain rfl (fun Ko hKo => ?_)
           go_simp
           refine hKo _ _ ?_
           clear hKo Ko
           try simp only [Act.put, nm1, nm2, nm3, i64_w]
           refine step_call (wanted_none rfl) (by first | (go_simp; done) | (go_simp; rfl)) (laws_markInt64S.calls K P18 q19 w11.heap.size t17 t39 t50 t51 w42 h47 A52.out) ?_
           have lb54 := Aside0.mk h47.lt
           rintro e w53 ⟨rfl, h55, hl, hg⟩
           have hg57 := Aside0.mk hg
           have hl56 := hl
           clear hg hl
           have h58 := h44.grow hg57.out (fun k l hk hl => Ne.symm ((fun k l hk hl => hnt14_t17 k l (blk_len.symm.trans hk) hl) l k hl hk))
           have hl59 : Aside0 (t17.length = t51.length) := Aside0.mk hl56.out
           refine ⟨_, rfl, ?_⟩
           simp only [Act.put, nm1, nm2, nm3, i64_w]
           refine wpList_plain rfl (fun Ko hKo => ?_)
           go_simp
           refine hKo _ _ ?_
           clear hKo Ko
           try simp only [Act.put, nm1, nm2, nm3, i64_w]
           refine wpList_nil ?_
           (try simp only [Exit.then, Exit.inBlock, ↓reduceIte, Nat.reduceEqDiff])
           refine hK49 _ _ ?_
           refine wp_seq_k (fun K60 hK60 => ?_)
           refine wp_region_lit ?_
           refine wpList_plain rfl (fun Ko hKo => ?_)
           go_simp
           refine hKo _ _ ?_
           clear hKo Ko
           try simp only [Act.put, nm1, nm2, nm3, i64_w]
           refine wpList_nil ?_
           (try simp only [Exit.then, Exit.inBlock, ↓reduceIte, Nat.reduceEqDiff])
           refine hK60 _ _ ?_
           refine wp_seq_k (fun K61 hK61 => ?_)
           refine wp_region_lit ?_
           refine wpList_plain rfl (fun Ko hKo => ?_)
           go_simp
           refine hKo _ _ ?_
           clear hKo Ko
           try simp only [Act.put, nm1, nm2, nm3, i64_w]
           refine wpList_plain rfl (fun Ko hKo => ?_)
           go_simp
           refine hKo _ _ ?_
           clear hKo Ko
           try simp only [Act.put, nm1, nm2, nm3, i64_w]
           refine step_call (wanted_none rfl) (by first | (go_simp; done) | (go_simp; rfl)) (Eq.mp (congrArg (fun n_ => Calls Try.prog 29 #[.slice P15 n_ q16, .int .i64 1] w53 _) (Eq.symm hl48.out)) (laws_heldInt64S.calls K P15 q16 t40 1 t62 w53 h58.rd A63.out)) ?_
           rintro e w64 ⟨rfl, hu⟩
           have hu65 := Aside0.mk hu
           clear hu
           refine ⟨_, rfl, ?_⟩
           simp only [Act.put, nm1, nm2, nm3, i64_w]
           refine wpList_plain rfl (fun Ko hKo => ?_)
           go_simp
           refine hKo _ _ ?_
           clear hKo Ko
           try simp only [Act.put, nm1, nm2, nm3, i64_w]
           refine wpList_nil ?_
           (try simp only [Exit.then, Exit.inBlock, ↓reduceIte, Nat.reduceEqDiff])
           refine hK61 _ _ ?_
           refine wp_seq_k (fun K66 hK66 => ?_)
           refine wp_seq_k (fun K67 hK67 => ?_)
           refine wp_region_lit ?_
           refine wpList_plain rfl (fun Ko hKo => ?_)
           go_simp
           refine hKo _ _ ?_
           clear hKo Ko
           try simp only [Act.put, nm1, nm2, nm3, i64_w]
           refine wpList_plain rfl (fun Ko hKo => ?_)
           go_simp
           refine hKo _ _ ?_
           clear hKo Ko
           try simp only [Act.put, nm1, nm2, nm3, i64_w]
           refine wpList_nil ?_
           (try simp only [Exit.then, Exit.inBlock, ↓reduceIte, Nat.reduceEqDiff])
           refine hK67 _ _ ?_
           refine wp_cond_false rfl ?_
           refine wp_skip ?_
           (try simp only [Exit.then, Exit.inBlock, ↓reduceIte, Nat.reduceEqDiff])
           refine hK66 _ _ ?_
           refine wp_seq_k (fun K70 hK70 => ?_)
           refine wp_region_lit ?_
           refine wpList_plain rfl (fun Ko hKo => ?_)
           go_simp
           refine hKo _ _ ?_
           clear hKo Ko
           try simp only [Act.put, nm1, nm2, nm3, i64_w]
           refine wpList_plain rfl (fun Ko hKo => ?_)
           go_simp
           refine hKo _ _ ?_
           clear hKo Ko
           try simp only [Act.put, nm1, nm2, nm3, i64_w]
           refine step_call (wanted_none rfl) (by first | (go_simp; done) | (go_simp; rfl)) (Eq.mp (congrArg (fun n_ => Calls Try.prog 29 #[.slice P18 n_ q19, .int .i64 t62] w64 _) (Eq.symm hl59.out)) (laws_heldInt64S.calls K P18 q19 t51 t62 t71 w64 ((h55.up hu65.out).rd) A72.out)) ?_
           rintro e w73 ⟨rfl, hu⟩
           have hu74 := Aside0.mk hu
           clear hu
           refine ⟨_, rfl, ?_⟩
           simp only [Act.put, nm1, nm2, nm3, i64_w]
           refine wpList_plain rfl (fun Ko hKo => ?_)
           go_simp
           refine hKo _ _ ?_
           clear hKo Ko
           try simp only [Act.put, nm1, nm2, nm3, i64_w]
           refine wpList_nil ?_
           (try simp only [Exit.then, Exit.inBlock, ↓reduceIte, Nat.reduceEqDiff])
           refine hK70 _ _ ?_
           refine wp_seq_k (fun K75 hK75 => ?_)
           refine wp_seq_k (fun K76 hK76 => ?_)
           refine wp_region_lit ?_
           refine wpList_plain rfl (fun Ko hKo => ?_)
           go_simp
           refine hKo _ _ ?_
           clear hKo Ko
           try simp only [Act.put, nm1, nm2, nm3, i64_w]
           refine wpList_plain rfl (fun Ko hKo => ?_)
           go_simp
           refine hKo _ _ ?_
           clear hKo Ko
           try simp only [Act.put, nm1, nm2, nm3, i64_w]
           refine wpList_nil ?_
           (try simp only [Exit.then, Exit.inBlock, ↓reduceIte, Nat.reduceEqDiff])
           refine hK76 _ _ ?_
           refine wp_cond_false rfl ?_
           refine wp_skip ?_
           (try simp only [Exit.then, Exit.inBlock, ↓reduceIte, Nat.reduceEqDiff])
           refine hK75 _ _ ?_
           refine wp_seq_k (fun K79 hK79 => ?_)
           refine wp_seq_k (fun K80 hK80 => ?_)
           refine wp_region_lit ?_
           refine wpList_plain rfl (fun Ko hKo => ?_)
           go_simp
           refine hKo _ _ ?_
           clear hKo Ko
           try simp only [Act.put, nm1, nm2, nm3, i64_w]
           refine wpList_plain rfl (fun Ko hKo => ?_)
           go_simp
           refine hKo _ _ ?_
           clear hKo Ko
           try simp only [Act.put, nm1, nm2, nm3, i64_w]
           refine wpList_plain rfl (fun Ko hKo => ?_)
           go_simp
           refine hKo _ _ ?_
           clear hKo Ko
           try simp only [Act.put, nm1, nm2, nm3, i64_w]
           refine wpList_nil ?_
           (try simp only [Exit.then, Exit.inBlock, ↓reduceIte, Nat.reduceEqDiff])
           refine hK80 _ _ ?_
           refine wp_cond_false rfl ?_
           refine wp_skip ?_
           (try simp only [Exit.then, Exit.inBlock, ↓reduceIte, Nat.reduceEqDiff])
           refine hK79 _ _ ?_
           refine wp_seq_k (fun K82 hK82 => ?_)
           refine wp_region_lit ?_
           refine wpList_plain rfl (fun Ko hKo => ?_)
           go_simp
           refine hKo _ _ ?_
           clear hKo Ko
           try simp only [Act.put, nm1, nm2, nm3, i64_w]
           refine step_call (wanted_none rfl) (by first | (go_simp; done) | (go_simp; rfl)) (impl_OrdersOf.calls K a0 t83 t86 t89 w73  A90.out) ?_
           rintro e w91 ⟨P84, q85, P87, q88, rfl, ht83, ht86, hnt83_t86, hu⟩
           have hu92 := Aside0.mk hu
           clear hu
           refine ⟨_, rfl, ?_⟩
           simp only [Act.put, nm1, nm2, nm3, i64_w]
           refine wpList_plain rfl (fun Ko hKo => ?_)
           go_simp
           refine hKo _ _ ?_
           clear hKo Ko
           try simp only [Act.put, nm1, nm2, nm3, i64_w]
           refine wpList_plain rfl (fun Ko hKo => ?_)
           go_simp
           refine hKo _ _ ?_
           clear hKo Ko
           try simp only [Act.put, nm1, nm2, nm3, i64_w]
           refine wpList_plain rfl (fun Ko hKo => ?_)
           go_simp
           refine hKo _ _ ?_
           clear hKo Ko
           try simp only [Act.put, nm1, nm2, nm3, i64_w]
           refine wpList_plain rfl (fun Ko hKo => ?_)
           go_simp
           refine hKo _ _ ?_
           clear hKo Ko
           try simp only [Act.put, nm1, nm2, nm3, i64_w]
           refine wpList_plain rfl (fun Ko hKo => ?_)
           go_simp
           refine hKo _ _ ?_
           clear hKo Ko
           try simp only [Act.put, nm1, nm2, nm3, i64_w]
           refine wpList_plain rfl (fun Ko hKo => ?_)
           go_simp
           refine hKo _ _ ?_
           clear hKo Ko
           try simp only [Act.put, nm1, nm2, nm3, i64_w]
           refine wpList_plain rfl (fun Ko hKo => ?_)
           go_simp
           refine hKo _ _ ?_
           clear hKo Ko
           try simp only [Act.put, nm1, nm2, nm3, i64_w]
           refine wpList_nil ?_
           (try simp only [Exit.then, Exit.inBlock, ↓reduceIte, Nat.reduceEqDiff])
           refine hK82 _ _ ?_
           refine wp_seq_k (fun K93 hK93 => ?_)
           refine wp_seq_k (fun K94 hK94 => ?_)
           refine wp_region_lit ?_
           refine wpList_plain rfl (fun Ko hKo => ?_)
           go_simp
           refine hKo _ _ ?_
           clear hKo Ko
           try simp only [Act.put, nm1, nm2, nm3, i64_w]
           refine wpList_plain rfl (fun Ko hKo => ?_)
           go_simp
           refine hKo _ _ ?_
           clear hKo Ko
           try simp only [Act.put, nm1, nm2, nm3, i64_w]
           refine step_call (wanted_none rfl) (by first | (go_simp; done) | (go_simp; rfl)) (laws_eqInt64S.calls K P84 q85 t83 P4 q5 t3 true w91 ht83.rd ((ht3.up (((((((hu23.out.trans hu29.out).trans hu34.out).grow hg46.out (fun k hk => Nat.le_trans (Nat.le_refl _) ((fun k hk => (lb43.out k hk).1) k hk))).grow hg57.out (fun k hk => Nat.le_trans (Nat.le_refl _) ((fun k hk => (lb54.out k hk).1) k hk))).trans hu65.out).trans hu74.out).trans hu92.out)).rd) A96.out) ?_
           rintro e w97 ⟨rfl, hu⟩
           have hu98 := Aside0.mk hu
           clear hu
           refine ⟨_, rfl, ?_⟩
           simp only [Act.put, nm1, nm2, nm3, i64_w]
           refine wpList_plain rfl (fun Ko hKo => ?_)
           go_simp
           refine hKo _ _ ?_
           clear hKo Ko
           try simp only [Act.put, nm1, nm2, nm3, i64_w]
           refine wpList_plain rfl (fun Ko hKo => ?_)
           go_simp
           refine hKo _ _ ?_
           clear hKo Ko
           try simp only [Act.put, nm1, nm2, nm3, i64_w]
           refine wpList_step (fun Ko hKo => ?_)
           go_simp
           refine hKo _ _ ?_
           clear hKo Ko
           try simp only [Act.put, nm1, nm2, nm3, i64_w]
           refine wpList_step (fun Ko hKo => ?_)
           go_simp
           refine hKo _ _ ?_
           clear hKo Ko
           try simp only [Act.put, nm1, nm2, nm3, i64_w]
           refine step_call rfl (by first | (go_simp; done) | (go_simp; rfl)) (laws_eqInt64S.calls K P87 q88 t86 P7 q8 t6 true w97 ((ht86.up hu98.out).rd) ((ht6.up ((((((((hu23.out.trans hu29.out).trans hu34.out).grow hg46.out (fun k hk => Nat.le_trans (Nat.le_refl _) ((fun k hk => (lb43.out k hk).1) k hk))).grow hg57.out (fun k hk => Nat.le_trans (Nat.le_refl _) ((fun k hk => (lb54.out k hk).1) k hk))).trans hu65.out).trans hu74.out).trans hu92.out).trans hu98.out)).rd) A101.out) ?_
           rintro e w102 ⟨rfl, hu⟩
           have hu103 := Aside0.mk hu
           clear hu
           refine ⟨_, rfl, ?_⟩
           simp only [Act.put, nm1, nm2, nm3, i64_w]
           refine wpList_step (fun Ko hKo => ?_)
           go_simp
           refine hKo _ _ ?_
           clear hKo Ko
           try simp only [Act.put, nm1, nm2, nm3, i64_w]
           refine wpList_plain rfl (fun Ko hKo => ?_)
           go_simp
           refine hKo _ _ ?_
           clear hKo Ko
           try simp only [Act.put, nm1, nm2, nm3, i64_w]
           refine wpList_plain rfl (fun Ko hKo => ?_)
           go_simp
           refine hKo _ _ ?_
           clear hKo Ko
           try simp only [Act.put, nm1, nm2, nm3, i64_w]
           refine wpList_step (fun Ko hKo => ?_)
           go_simp
           refine hKo _ _ ?_
           clear hKo Ko
           try simp only [Act.put, nm1, nm2, nm3, i64_w]
           refine wpList_step (fun Ko hKo => ?_)
           go_simp
           refine hKo _ _ ?_
           clear hKo Ko
           try simp only [Act.put, nm1, nm2, nm3, i64_w]
           refine wpList_step (fun Ko hKo => ?_)
           go_simp
           refine hKo _ _ ?_
           clear hKo Ko
           try simp only [Act.put, nm1, nm2, nm3, i64_w]
           refine wpList_plain rfl (fun Ko hKo => ?_)
           go_simp
           refine hKo _ _ ?_
           clear hKo Ko
           try simp only [Act.put, nm1, nm2, nm3, i64_w]
           refine wpList_nil ?_
           (try simp only [Exit.then, Exit.inBlock, ↓reduceIte, Nat.reduceEqDiff])
           refine hK94 _ _ ?_
           refine wp_cond_false rfl ?_
           refine wp_skip ?_
           (try simp only [Exit.then, Exit.inBlock, ↓reduceIte, Nat.reduceEqDiff])
           refine hK93 _ _ ?_
           refine wp_seq_k (fun K106 hK106 => ?_)
           refine wp_region_lit ?_
           refine wpList_plain rfl (fun Ko hKo => ?_)
           go_simp
           refine hKo _ _ ?_
           clear hKo Ko
           try simp only [Act.put, nm1, nm2, nm3, i64_w]
           refine wpList_nil ?_
           (try simp only [Exit.then, Exit.inBlock, ↓reduceIte, Nat.reduceEqDiff])
           refine hK106 _ _ ?_
           refine wp_seq_k (fun K107 hK107 => ?_)
           refine wp_region_lit ?_
           refine wpList_plain rfl (fun Ko hKo => ?_)
           go_simp
           refine hKo _ _ ?_
           clear hKo Ko
           try simp only [Act.put, nm1, nm2, nm3, i64_w]
           refine wpList_plain rfl (fun Ko hKo => ?_)
           go_simp
           refine hKo _ _ ?_
           clear hKo Ko
           try simp only [Act.put, nm1, nm2, nm3, i64_w]
           refine step_call (wanted_none rfl) (by first | (go_simp; done) | (go_simp; rfl)) (Eq.mp (congrArg (fun n_ => Calls Try.prog 29 #[.slice P15 n_ q16, .int .i64 1] w102 _) (Eq.symm hl48.out)) (laws_heldInt64S.calls K P15 q16 t40 1 t108 w102 ((h58.up ((((hu65.out.trans hu74.out).trans hu92.out).trans hu98.out).trans hu103.out)).rd) A109.out)) ?_
           rintro e w110 ⟨rfl, hu⟩
           have hu111 := Aside0.mk hu
           clear hu
           refine ⟨_, rfl, ?_⟩
           simp only [Act.put, nm1, nm2, nm3, i64_w]
           refine wpList_plain rfl (fun Ko hKo => ?_)
           go_simp
           refine hKo _ _ ?_
           clear hKo Ko
           try simp only [Act.put, nm1, nm2, nm3, i64_w]
           refine wpList_nil ?_
           (try simp only [Exit.then, Exit.inBlock, ↓reduceIte, Nat.reduceEqDiff])
           refine hK107 _ _ ?_
           refine wp_seq_k (fun K112 hK112 => ?_)
           refine wp_seq_k (fun K113 hK113 => ?_)
           refine wp_region_lit ?_
           refine wpList_plain rfl (fun Ko hKo => ?_)
           go_simp
           refine hKo _ _ ?_
           clear hKo Ko
           try simp only [Act.put, nm1, nm2, nm3, i64_w]
           refine wpList_plain rfl (fun Ko hKo => ?_)
           go_simp
           refine hKo _ _ ?_
           clear hKo Ko
           try simp only [Act.put, nm1, nm2, nm3, i64_w]
           refine wpList_nil ?_
           (try simp only [Exit.then, Exit.inBlock, ↓reduceIte, Nat.reduceEqDiff])
           refine hK113 _ _ ?_
           refine wp_cond_true rfl ?_
           refine wp_seq_k (fun K115 hK115 => ?_)
           refine wp_region_lit ?_
           refine wpList_plain rfl (fun Ko hKo => ?_)
           go_simp
           refine hKo _ _ ?_
           clear hKo Ko
           try simp only [Act.put, nm1, nm2, nm3, i64_w]
           refine wpList_nil ?_
           (try simp only [Exit.then, Exit.inBlock, ↓reduceIte, Nat.reduceEqDiff])
           refine hK115 _ _ ?_
           refine wp_ret ?_
           (try simp only [Exit.then, Exit.inBlock, ↓reduceIte, Nat.reduceEqDiff])
           refine hQf _ _ _ ?_
           exact bodyPost_ret (v := .bool false) (by first | rfl | (simp [results, Try.results13, go_sem]; done) | (simp [results, Try.results13, go_sem]; rfl)) rfl ⟨rfl, (((((((((((hu12.out.trans hu23.out).trans hu29.out).trans hu34.out).grow hg46.out (fun k hk => Nat.le_trans (hu12.out.size) ((fun k hk => (lb43.out k hk).1) k hk))).grow hg57.out (fun k hk => Nat.le_trans (hu12.out.size) ((fun k hk => (lb54.out k hk).1) k hk))).trans hu65.out).trans hu74.out).trans hu92.out).trans hu98.out).trans hu103.out).trans hu111.out)⟩
          ·
           rw [if_neg c114] at H
           replace c114 := Bool.eq_false_iff.mpr c114
           replace H := Option.bind_eq_some_iff.mp H
           obtain ⟨t117, A118, H⟩ := H
           replace A118 := Aside0.mk A118
           try dsimp only at H
           by_cases c123 : (decide (t117 < 0)) = true
           ·
            rw [if_pos c123] at H
            obtain rfl := Option.some.inj H
            go_enter Try.func13, Try.ntmps13
            refine wp_hide (fun Qf hQf => ?_)
            refine wp_seq_k (fun K1 hK1 => ?_)
            refine wp_region_lit ?_
            refine wpList_plain rfl (fun Ko hKo => ?_)
            go_simp
            refine hKo _ _ ?_
            clear hKo Ko
            try simp only [Act.put, nm1, nm2, nm3, i64_w]
            refine wpList_nil ?_
            (try simp only [Exit.then, Exit.inBlock, ↓reduceIte, Nat.reduceEqDiff])
            refine hK1 _ _ ?_
            refine wp_seq_k (fun K2 hK2 => ?_)
            refine wp_region_lit ?_
            refine wpList_plain rfl (fun Ko hKo => ?_)
            go_simp
            refine hKo _ _ ?_
            clear hKo Ko
            try simp only [Act.put, nm1, nm2, nm3, i64_w]
            refine step_call (wanted_none rfl) (by first | (go_simp; done) | (go_simp; rfl)) (spec_OrdersOf.calls K a0 t3 t6 t9 w  A10.out) ?_
            rintro e w11 ⟨P4, q5, P7, q8, rfl, ht3, ht6, hnt3_t6, hu⟩
            have hu12 := Aside0.mk hu
            clear hu
            refine ⟨_, rfl, ?_⟩
            simp only [Act.put, nm1, nm2, nm3, i64_w]
            refine wpList_plain rfl (fun Ko hKo => ?_)
            go_simp
            refine hKo _ _ ?_
            clear hKo Ko
            try simp only [Act.put, nm1, nm2, nm3, i64_w]
            refine wpList_plain rfl (fun Ko hKo => ?_)
            go_simp
            refine hKo _ _ ?_
            clear hKo Ko
            try simp only [Act.put, nm1, nm2, nm3, i64_w]
            refine wpList_plain rfl (fun Ko hKo => ?_)
            go_simp
            refine hKo _ _ ?_
            clear hKo Ko
            try simp only [Act.put, nm1, nm2, nm3, i64_w]
            refine wpList_plain rfl (fun Ko hKo => ?_)
            go_simp
            refine hKo _ _ ?_
            clear hKo Ko
            try simp only [Act.put, nm1, nm2, nm3, i64_w]
            refine wpList_plain rfl (fun Ko hKo => ?_)
            go_simp
            refine hKo _ _ ?_
            clear hKo Ko
            try simp only [Act.put, nm1, nm2, nm3, i64_w]
            refine wpList_plain rfl (fun Ko hKo => ?_)
            go_simp
            refine hKo _ _ ?_
            clear hKo Ko
            try simp only [Act.put, nm1, nm2, nm3, i64_w]
            refine wpList_plain rfl (fun Ko hKo => ?_)
            go_simp
            refine hKo _ _ ?_
            clear hKo Ko
            try simp only [Act.put, nm1, nm2, nm3, i64_w]
            refine wpList_nil ?_
            (try simp only [Exit.then, Exit.inBlock, ↓reduceIte, Nat.reduceEqDiff])
            refine hK2 _ _ ?_
            refine wp_seq_k (fun K13 hK13 => ?_)
            refine wp_region_lit ?_
            refine wpList_plain rfl (fun Ko hKo => ?_)
            go_simp
            refine hKo _ _ ?_
            clear hKo Ko
            try simp only [Act.put, nm1, nm2, nm3, i64_w]
            refine step_call (wanted_none rfl) (by first | (go_simp; done) | (go_simp; rfl)) (impl_OrdersOf.calls K a0 t14 t17 t20 w11  A21.out) ?_
            rintro e w22 ⟨P15, q16, P18, q19, rfl, ht14, ht17, hnt14_t17, hu⟩
            have hu23 := Aside0.mk hu
            clear hu
            refine ⟨_, rfl, ?_⟩
            simp only [Act.put, nm1, nm2, nm3, i64_w]
            refine wpList_plain rfl (fun Ko hKo => ?_)
            go_simp
            refine hKo _ _ ?_
            clear hKo Ko
            try simp only [Act.put, nm1, nm2, nm3, i64_w]
            refine wpList_plain rfl (fun Ko hKo => ?_)
            go_simp
            refine hKo _ _ ?_
            clear hKo Ko
            try simp only [Act.put, nm1, nm2, nm3, i64_w]
            refine wpList_plain rfl (fun Ko hKo => ?_)
            go_simp
            refine hKo _ _ ?_
            clear hKo Ko
            try simp only [Act.put, nm1, nm2, nm3, i64_w]
            refine wpList_plain rfl (fun Ko hKo => ?_)
            go_simp
            refine hKo _ _ ?_
            clear hKo Ko
            try simp only [Act.put, nm1, nm2, nm3, i64_w]
            refine wpList_plain rfl (fun Ko hKo => ?_)
            go_simp
            refine hKo _ _ ?_
            clear hKo Ko
            try simp only [Act.put, nm1, nm2, nm3, i64_w]
            refine wpList_plain rfl (fun Ko hKo => ?_)
            go_simp
            refine hKo _ _ ?_
            clear hKo Ko
            try simp only [Act.put, nm1, nm2, nm3, i64_w]
            refine wpList_plain rfl (fun Ko hKo => ?_)
            go_simp
            refine hKo _ _ ?_
            clear hKo Ko
            try simp only [Act.put, nm1, nm2, nm3, i64_w]
            refine wpList_nil ?_
            (try simp only [Exit.then, Exit.inBlock, ↓reduceIte, Nat.reduceEqDiff])
            refine hK13 _ _ ?_
            refine wp_seq_k (fun K24 hK24 => ?_)
            refine wp_seq_k (fun K25 hK25 => ?_)
            refine wp_region_lit ?_
            refine wpList_plain rfl (fun Ko hKo => ?_)
            go_simp
            refine hKo _ _ ?_
            clear hKo Ko
            try simp only [Act.put, nm1, nm2, nm3, i64_w]
            refine wpList_plain rfl (fun Ko hKo => ?_)
            go_simp
            refine hKo _ _ ?_
            clear hKo Ko
            try simp only [Act.put, nm1, nm2, nm3, i64_w]
            refine step_call (wanted_none rfl) (by first | (go_simp; done) | (go_simp; rfl)) (laws_eqInt64S.calls K P15 q16 t14 P4 q5 t3 true w22 ht14.rd ((ht3.up hu23.out).rd) A27.out) ?_
            rintro e w28 ⟨rfl, hu⟩
            have hu29 := Aside0.mk hu
            clear hu
            refine ⟨_, rfl, ?_⟩
            simp only [Act.put, nm1, nm2, nm3, i64_w]
            refine wpList_plain rfl (fun Ko hKo => ?_)
            go_simp
            refine hKo _ _ ?_
            clear hKo Ko
            try simp only [Act.put, nm1, nm2, nm3, i64_w]
            refine wpList_plain rfl (fun Ko hKo => ?_)
            go_simp
            refine hKo _ _ ?_
            clear hKo Ko
            try simp only [Act.put, nm1, nm2, nm3, i64_w]
            refine wpList_step (fun Ko hKo => ?_)
            go_simp
            refine hKo _ _ ?_
            clear hKo Ko
            try simp only [Act.put, nm1, nm2, nm3, i64_w]
            refine wpList_step (fun Ko hKo => ?_)
            go_simp
            refine hKo _ _ ?_
            clear hKo Ko
            try simp only [Act.put, nm1, nm2, nm3, i64_w]
            refine step_call rfl (by first | (go_simp; done) | (go_simp; rfl)) (laws_eqInt64S.calls K P18 q19 t17 P7 q8 t6 true w28 ((ht17.up hu29.out).rd) ((ht6.up (hu23.out.trans hu29.out)).rd) A32.out) ?_
            rintro e w33 ⟨rfl, hu⟩
            have hu34 := Aside0.mk hu
            clear hu
            refine ⟨_, rfl, ?_⟩
            simp only [Act.put, nm1, nm2, nm3, i64_w]
            refine wpList_step (fun Ko hKo => ?_)
            go_simp
            refine hKo _ _ ?_
            clear hKo Ko
            try simp only [Act.put, nm1, nm2, nm3, i64_w]
            refine wpList_plain rfl (fun Ko hKo => ?_)
            go_simp
            refine hKo _ _ ?_
            clear hKo Ko
            try simp only [Act.put, nm1, nm2, nm3, i64_w]
            refine wpList_plain rfl (fun Ko hKo => ?_)
            go_simp
            refine hKo _ _ ?_
            clear hKo Ko
            try simp only [Act.put, nm1, nm2, nm3, i64_w]
            refine wpList_step (fun Ko hKo => ?_)
            go_simp
            refine hKo _ _ ?_
            clear hKo Ko
            try simp only [Act.put, nm1, nm2, nm3, i64_w]
            refine wpList_step (fun Ko hKo => ?_)
            go_simp
            refine hKo _ _ ?_
            clear hKo Ko
            try simp only [Act.put, nm1, nm2, nm3, i64_w]
            refine wpList_step (fun Ko hKo => ?_)
            go_simp
            refine hKo _ _ ?_
            clear hKo Ko
            try simp only [Act.put, nm1, nm2, nm3, i64_w]
            refine wpList_plain rfl (fun Ko hKo => ?_)
            go_simp
            refine hKo _ _ ?_
            clear hKo Ko
            try simp only [Act.put, nm1, nm2, nm3, i64_w]
            refine wpList_nil ?_
            (try simp only [Exit.then, Exit.inBlock, ↓reduceIte, Nat.reduceEqDiff])
            refine hK25 _ _ ?_
            refine wp_cond_false rfl ?_
            refine wp_skip ?_
            (try simp only [Exit.then, Exit.inBlock, ↓reduceIte, Nat.reduceEqDiff])
            refine hK24 _ _ ?_
            refine wp_seq_k (fun K37 hK37 => ?_)
            refine wp_region_lit ?_
            refine wpList_plain rfl (fun Ko hKo => ?_)
            go_simp
            refine hKo _ _ ?_
            clear hKo Ko
            try simp only [Act.put, nm1, nm2, nm3, i64_w]
            refine wpList_nil ?_
            (try simp only [Exit.then, Exit.inBlock, ↓reduceIte, Nat.reduceEqDiff])
            refine hK37 _ _ ?_
            refine wp_seq_k (fun K38 hK38 => ?_)
            refine wp_region_lit ?_
            refine wpList_plain rfl (fun Ko hKo => ?_)
            go_simp
            refine hKo _ _ ?_
            clear hKo Ko
            try simp only [Act.put, nm1, nm2, nm3, i64_w]
            refine wpList_plain rfl (fun Ko hKo => ?_)
            go_simp
            refine hKo _ _ ?_
            clear hKo Ko
            try simp only [Act.put, nm1, nm2, nm3, i64_w]
            refine step_call (wanted_none rfl) (by first | (go_simp; done) | (go_simp; rfl)) (laws_markInt64S.calls K P15 q16 w11.heap.size t14 1 t39 t40 w33 (ht14.up (hu29.out.trans hu34.out)) A41.out) ?_
            have lb43 := Aside0.mk (ht14.up (hu29.out.trans hu34.out)).lt
            rintro e w42 ⟨rfl, h44, hl, hg⟩
            have hg46 := Aside0.mk hg
            have hl45 := hl
            clear hg hl
            have h47 := (ht17.up (hu29.out.trans hu34.out)).grow hg46.out hnt14_t17
            have hl48 : Aside0 (t14.length = t40.length) := Aside0.mk hl45.out
            refine ⟨_, rfl, ?_⟩
            simp only [Act.put, nm1, nm2, nm3, i64_w]
            refine wpList_plain rfl (fun Ko hKo => ?_)
            go_simp
            refine hKo _ _ ?_
            clear hKo Ko
            try simp only [Act.put, nm1, nm2, nm3, i64_w]
            refine wpList_nil ?_
            (try simp only [Exit.then, Exit.inBlock, ↓reduceIte, Nat.reduceEqDiff])
            refine hK38 _ _ ?_
            refine wp_seq_k (fun K49 hK49 => ?_)
            refine wp_region_lit ?_
            refine wpList_plain rfl (fun Ko hKo => ?_)
            go_simp
            refine hKo _ _ ?_
            clear hKo Ko
            try simp only [Act.put, nm1, nm2, nm3, i64_w]
            refine wpList_plain rfl (fun Ko hKo => ?_)
            go_simp
            refine hKo _ _ ?_
            clear hKo Ko
            try simp only [Act.put, nm1, nm2, nm3, i64_w]
            refine step_call (wanted_none rfl) (by first | (go_simp; done) | (go_simp; rfl)) (laws_markInt64S.calls K P18 q19 w11.heap.size t17 t39 t50 t51 w42 h47 A52.out) ?_
            have lb54 := Aside0.mk h47.lt
            rintro e w53 ⟨rfl, h55, hl, hg⟩
            have hg57 := Aside0.mk hg
            have hl56 := hl
            clear hg hl
            have h58 := h44.grow hg57.out (fun k l hk hl => Ne.symm ((fun k l hk hl => hnt14_t17 k l (blk_len.symm.trans hk) hl) l k hl hk))
            have hl59 : Aside0 (t17.length = t51.length) := Aside0.mk hl56.out
            refine ⟨_, rfl, ?_⟩
            simp only [Act.put, nm1, nm2, nm3, i64_w]
            refine wpList_plain rfl (fun Ko hKo => ?_)
            go_simp
            refine hKo _ _ ?_
            clear hKo Ko
            try simp only [Act.put, nm1, nm2, nm3, i64_w]
            refine wpList_nil ?_
            (try simp only [Exit.then, Exit.inBlock, ↓reduceIte, Nat.reduceEqDiff])
            refine hK49 _ _ ?_
            refine wp_seq_k (fun K60 hK60 => ?_)
            refine wp_region_lit ?_
            refine wpList_plain rfl (fun Ko hKo => ?_)
            go_simp
            refine hKo _ _ ?_
            clear hKo Ko
            try simp only [Act.put, nm1, nm2, nm3, i64_w]
            refine wpList_nil ?_
            (try simp only [Exit.then, Exit.inBlock, ↓reduceIte, Nat.reduceEqDiff])
            refine hK60 _ _ ?_
            refine wp_seq_k (fun K61 hK61 => ?_)
            refine wp_region_lit ?_
            refine wpList_plain rfl (fun Ko hKo => ?_)
            go_simp
            refine hKo _ _ ?_
            clear hKo Ko
            try simp only [Act.put, nm1, nm2, nm3, i64_w]
            refine wpList_plain rfl (fun Ko hKo => ?_)
            go_simp
            refine hKo _ _ ?_
            clear hKo Ko
            try simp only [Act.put, nm1, nm2, nm3, i64_w]
            refine step_call (wanted_none rfl) (by first | (go_simp; done) | (go_simp; rfl)) (Eq.mp (congrArg (fun n_ => Calls Try.prog 29 #[.slice P15 n_ q16, .int .i64 1] w53 _) (Eq.symm hl48.out)) (laws_heldInt64S.calls K P15 q16 t40 1 t62 w53 h58.rd A63.out)) ?_
            rintro e w64 ⟨rfl, hu⟩
            have hu65 := Aside0.mk hu
            clear hu
            refine ⟨_, rfl, ?_⟩
            simp only [Act.put, nm1, nm2, nm3, i64_w]
            refine wpList_plain rfl (fun Ko hKo => ?_)
            go_simp
            refine hKo _ _ ?_
            clear hKo Ko
            try simp only [Act.put, nm1, nm2, nm3, i64_w]
            refine wpList_nil ?_
            (try simp only [Exit.then, Exit.inBlock, ↓reduceIte, Nat.reduceEqDiff])
            refine hK61 _ _ ?_
            refine wp_seq_k (fun K66 hK66 => ?_)
            refine wp_seq_k (fun K67 hK67 => ?_)
            refine wp_region_lit ?_
            refine wpList_plain rfl (fun Ko hKo => ?_)
            go_simp
            refine hKo _ _ ?_
            clear hKo Ko
            try simp only [Act.put, nm1, nm2, nm3, i64_w]
            refine wpList_plain rfl (fun Ko hKo => ?_)
            go_simp
            refine hKo _ _ ?_
            clear hKo Ko
            try simp only [Act.put, nm1, nm2, nm3, i64_w]
            refine wpList_nil ?_
            (try simp only [Exit.then, Exit.inBlock, ↓reduceIte, Nat.reduceEqDiff])
            refine hK67 _ _ ?_
            refine wp_cond_false rfl ?_
            refine wp_skip ?_
            (try simp only [Exit.then, Exit.inBlock, ↓reduceIte, Nat.reduceEqDiff])
            refine hK66 _ _ ?_
            refine wp_seq_k (fun K70 hK70 => ?_)
            refine wp_region_lit ?_
            refine wpList_plain rfl (fun Ko hKo => ?_)
            go_simp
            refine hKo _ _ ?_
            clear hKo Ko
            try simp only [Act.put, nm1, nm2, nm3, i64_w]
            refine wpList_plain rfl (fun Ko hKo => ?_)
            go_simp
            refine hKo _ _ ?_
            clear hKo Ko
            try simp only [Act.put, nm1, nm2, nm3, i64_w]
            refine step_call (wanted_none rfl) (by first | (go_simp; done) | (go_simp; rfl)) (Eq.mp (congrArg (fun n_ => Calls Try.prog 29 #[.slice P18 n_ q19, .int .i64 t62] w64 _) (Eq.symm hl59.out)) (laws_heldInt64S.calls K P18 q19 t51 t62 t71 w64 ((h55.up hu65.out).rd) A72.out)) ?_
            rintro e w73 ⟨rfl, hu⟩
            have hu74 := Aside0.mk hu
            clear hu
            refine ⟨_, rfl, ?_⟩
            simp only [Act.put, nm1, nm2, nm3, i64_w]
            refine wpList_plain rfl (fun Ko hKo => ?_)
            go_simp
            refine hKo _ _ ?_
            clear hKo Ko
            try simp only [Act.put, nm1, nm2, nm3, i64_w]
            refine wpList_nil ?_
            (try simp only [Exit.then, Exit.inBlock, ↓reduceIte, Nat.reduceEqDiff])
            refine hK70 _ _ ?_
            refine wp_seq_k (fun K75 hK75 => ?_)
            refine wp_seq_k (fun K76 hK76 => ?_)
            refine wp_region_lit ?_
            refine wpList_plain rfl (fun Ko hKo => ?_)
            go_simp
            refine hKo _ _ ?_
            clear hKo Ko
            try simp only [Act.put, nm1, nm2, nm3, i64_w]
            refine wpList_plain rfl (fun Ko hKo => ?_)
            go_simp
            refine hKo _ _ ?_
            clear hKo Ko
            try simp only [Act.put, nm1, nm2, nm3, i64_w]
            refine wpList_nil ?_
            (try simp only [Exit.then, Exit.inBlock, ↓reduceIte, Nat.reduceEqDiff])
            refine hK76 _ _ ?_
            refine wp_cond_false rfl ?_
            refine wp_skip ?_
            (try simp only [Exit.then, Exit.inBlock, ↓reduceIte, Nat.reduceEqDiff])
            refine hK75 _ _ ?_
            refine wp_seq_k (fun K79 hK79 => ?_)
            refine wp_seq_k (fun K80 hK80 => ?_)
            refine wp_region_lit ?_
            refine wpList_plain rfl (fun Ko hKo => ?_)
            go_simp
            refine hKo _ _ ?_
            clear hKo Ko
            try simp only [Act.put, nm1, nm2, nm3, i64_w]
            refine wpList_plain rfl (fun Ko hKo => ?_)
            go_simp
            refine hKo _ _ ?_
            clear hKo Ko
            try simp only [Act.put, nm1, nm2, nm3, i64_w]
            refine wpList_plain rfl (fun Ko hKo => ?_)
            go_simp
            refine hKo _ _ ?_
            clear hKo Ko
            try simp only [Act.put, nm1, nm2, nm3, i64_w]
            refine wpList_nil ?_
            (try simp only [Exit.then, Exit.inBlock, ↓reduceIte, Nat.reduceEqDiff])
            refine hK80 _ _ ?_
            refine wp_cond_false rfl ?_
            refine wp_skip ?_
            (try simp only [Exit.then, Exit.inBlock, ↓reduceIte, Nat.reduceEqDiff])
            refine hK79 _ _ ?_
            refine wp_seq_k (fun K82 hK82 => ?_)
            refine wp_region_lit ?_
            refine wpList_plain rfl (fun Ko hKo => ?_)
            go_simp
            refine hKo _ _ ?_
            clear hKo Ko
            try simp only [Act.put, nm1, nm2, nm3, i64_w]
            refine step_call (wanted_none rfl) (by first | (go_simp; done) | (go_simp; rfl)) (impl_OrdersOf.calls K a0 t83 t86 t89 w73  A90.out) ?_
            rintro e w91 ⟨P84, q85, P87, q88, rfl, ht83, ht86, hnt83_t86, hu⟩
            have hu92 := Aside0.mk hu
            clear hu
            refine ⟨_, rfl, ?_⟩
            simp only [Act.put, nm1, nm2, nm3, i64_w]
            refine wpList_plain rfl (fun Ko hKo => ?_)
            go_simp
            refine hKo _ _ ?_
            clear hKo Ko
            try simp only [Act.put, nm1, nm2, nm3, i64_w]
            refine wpList_plain rfl (fun Ko hKo => ?_)
            go_simp
            refine hKo _ _ ?_
            clear hKo Ko
            try simp only [Act.put, nm1, nm2, nm3, i64_w]
            refine wpList_plain rfl (fun Ko hKo => ?_)
            go_simp
            refine hKo _ _ ?_
            clear hKo Ko
            try simp only [Act.put, nm1, nm2, nm3, i64_w]
            refine wpList_plain rfl (fun Ko hKo => ?_)
            go_simp
            refine hKo _ _ ?_
            clear hKo Ko
            try simp only [Act.put, nm1, nm2, nm3, i64_w]
            refine wpList_plain rfl (fun Ko hKo => ?_)
            go_simp
            refine hKo _ _ ?_
            clear hKo Ko
            try simp only [Act.put, nm1, nm2, nm3, i64_w]
            refine wpList_plain rfl (fun Ko hKo => ?_)
            go_simp
            refine hKo _ _ ?_
            clear hKo Ko
            try simp only [Act.put, nm1, nm2, nm3, i64_w]
            refine wpList_plain rfl (fun Ko hKo => ?_)
            go_simp
            refine hKo _ _ ?_
            clear hKo Ko
            try simp only [Act.put, nm1, nm2, nm3, i64_w]
            refine wpList_nil ?_
            (try simp only [Exit.then, Exit.inBlock, ↓reduceIte, Nat.reduceEqDiff])
            refine hK82 _ _ ?_
            refine wp_seq_k (fun K93 hK93 => ?_)
            refine wp_seq_k (fun K94 hK94 => ?_)
            refine wp_region_lit ?_
            refine wpList_plain rfl (fun Ko hKo => ?_)
            go_simp
            refine hKo _ _ ?_
            clear hKo Ko
            try simp only [Act.put, nm1, nm2, nm3, i64_w]
            refine wpList_plain rfl (fun Ko hKo => ?_)
            go_simp
            refine hKo _ _ ?_
            clear hKo Ko
            try simp only [Act.put, nm1, nm2, nm3, i64_w]
            refine step_call (wanted_none rfl) (by first | (go_simp; done) | (go_simp; rfl)) (laws_eqInt64S.calls K P84 q85 t83 P4 q5 t3 true w91 ht83.rd ((ht3.up (((((((hu23.out.trans hu29.out).trans hu34.out).grow hg46.out (fun k hk => Nat.le_trans (Nat.le_refl _) ((fun k hk => (lb43.out k hk).1) k hk))).grow hg57.out (fun k hk => Nat.le_trans (Nat.le_refl _) ((fun k hk => (lb54.out k hk).1) k hk))).trans hu65.out).trans hu74.out).trans hu92.out)).rd) A96.out) ?_
            rintro e w97 ⟨rfl, hu⟩
            have hu98 := Aside0.mk hu
            clear hu
            refine ⟨_, rfl, ?_⟩
            simp only [Act.put, nm1, nm2, nm3, i64_w]
            refine wpList_plain rfl (fun Ko hKo => ?_)
            go_simp
            refine hKo _ _ ?_
            clear hKo Ko
            try simp only [Act.put, nm1, nm2, nm3, i64_w]
            refine wpList_plain rfl (fun Ko hKo => ?_)
            go_simp
            refine hKo _ _ ?_
            clear hKo Ko
            try simp only [Act.put, nm1, nm2, nm3, i64_w]
            refine wpList_step (fun Ko hKo => ?_)
            go_simp
            refine hKo _ _ ?_
            clear hKo Ko
            try simp only [Act.put, nm1, nm2, nm3, i64_w]
            refine wpList_step (fun Ko hKo => ?_)
            go_simp
            refine hKo _ _ ?_
            clear hKo Ko
            try simp only [Act.put, nm1, nm2, nm3, i64_w]
            refine step_call rfl (by first | (go_simp; done) | (go_simp; rfl)) (laws_eqInt64S.calls K P87 q88 t86 P7 q8 t6 true w97 ((ht86.up hu98.out).rd) ((ht6.up ((((((((hu23.out.trans hu29.out).trans hu34.out).grow hg46.out (fun k hk => Nat.le_trans (Nat.le_refl _) ((fun k hk => (lb43.out k hk).1) k hk))).grow hg57.out (fun k hk => Nat.le_trans (Nat.le_refl _) ((fun k hk => (lb54.out k hk).1) k hk))).trans hu65.out).trans hu74.out).trans hu92.out).trans hu98.out)).rd) A101.out) ?_
            rintro e w102 ⟨rfl, hu⟩
            have hu103 := Aside0.mk hu
            clear hu
            refine ⟨_, rfl, ?_⟩
            simp only [Act.put, nm1, nm2, nm3, i64_w]
            refine wpList_step (fun Ko hKo => ?_)
            go_simp
            refine hKo _ _ ?_
            clear hKo Ko
            try simp only [Act.put, nm1, nm2, nm3, i64_w]
            refine wpList_plain rfl (fun Ko hKo => ?_)
            go_simp
            refine hKo _ _ ?_
            clear hKo Ko
            try simp only [Act.put, nm1, nm2, nm3, i64_w]
            refine wpList_plain rfl (fun Ko hKo => ?_)
            go_simp
            refine hKo _ _ ?_
            clear hKo Ko
            try simp only [Act.put, nm1, nm2, nm3, i64_w]
            refine wpList_step (fun Ko hKo => ?_)
            go_simp
            refine hKo _ _ ?_
            clear hKo Ko
            try simp only [Act.put, nm1, nm2, nm3, i64_w]
            refine wpList_step (fun Ko hKo => ?_)
            go_simp
            refine hKo _ _ ?_
            clear hKo Ko
            try simp only [Act.put, nm1, nm2, nm3, i64_w]
            refine wpList_step (fun Ko hKo => ?_)
            go_simp
            refine hKo _ _ ?_
            clear hKo Ko
            try simp only [Act.put, nm1, nm2, nm3, i64_w]
            refine wpList_plain rfl (fun Ko hKo => ?_)
            go_simp
            refine hKo _ _ ?_
            clear hKo Ko
            try simp only [Act.put, nm1, nm2, nm3, i64_w]
            refine wpList_nil ?_
            (try simp only [Exit.then, Exit.inBlock, ↓reduceIte, Nat.reduceEqDiff])
            refine hK94 _ _ ?_
            refine wp_cond_false rfl ?_
            refine wp_skip ?_
            (try simp only [Exit.then, Exit.inBlock, ↓reduceIte, Nat.reduceEqDiff])
            refine hK93 _ _ ?_
            refine wp_seq_k (fun K106 hK106 => ?_)
            refine wp_region_lit ?_
            refine wpList_plain rfl (fun Ko hKo => ?_)
            go_simp
            refine hKo _ _ ?_
            clear hKo Ko
            try simp only [Act.put, nm1, nm2, nm3, i64_w]
            refine wpList_nil ?_
            (try simp only [Exit.then, Exit.inBlock, ↓reduceIte, Nat.reduceEqDiff])
            refine hK106 _ _ ?_
            refine wp_seq_k (fun K107 hK107 => ?_)
            refine wp_region_lit ?_
            refine wpList_plain rfl (fun Ko hKo => ?_)
            go_simp
            refine hKo _ _ ?_
            clear hKo Ko
            try simp only [Act.put, nm1, nm2, nm3, i64_w]
            refine wpList_plain rfl (fun Ko hKo => ?_)
            go_simp
            refine hKo _ _ ?_
            clear hKo Ko
            try simp only [Act.put, nm1, nm2, nm3, i64_w]
            refine step_call (wanted_none rfl) (by first | (go_simp; done) | (go_simp; rfl)) (Eq.mp (congrArg (fun n_ => Calls Try.prog 29 #[.slice P15 n_ q16, .int .i64 1] w102 _) (Eq.symm hl48.out)) (laws_heldInt64S.calls K P15 q16 t40 1 t108 w102 ((h58.up ((((hu65.out.trans hu74.out).trans hu92.out).trans hu98.out).trans hu103.out)).rd) A109.out)) ?_
            rintro e w110 ⟨rfl, hu⟩
            have hu111 := Aside0.mk hu
            clear hu
            refine ⟨_, rfl, ?_⟩
            simp only [Act.put, nm1, nm2, nm3, i64_w]
            refine wpList_plain rfl (fun Ko hKo => ?_)
            go_simp
            refine hKo _ _ ?_
            clear hKo Ko
            try simp only [Act.put, nm1, nm2, nm3, i64_w]
            refine wpList_nil ?_
            (try simp only [Exit.then, Exit.inBlock, ↓reduceIte, Nat.reduceEqDiff])
            refine hK107 _ _ ?_
            refine wp_seq_k (fun K112 hK112 => ?_)
            refine wp_seq_k (fun K113 hK113 => ?_)
            refine wp_region_lit ?_
            refine wpList_plain rfl (fun Ko hKo => ?_)
            go_simp
            refine hKo _ _ ?_
            clear hKo Ko
            try simp only [Act.put, nm1, nm2, nm3, i64_w]
            refine wpList_plain rfl (fun Ko hKo => ?_)
            go_simp
            refine hKo _ _ ?_
            clear hKo Ko
            try simp only [Act.put, nm1, nm2, nm3, i64_w]
            refine wpList_nil ?_
            (try simp only [Exit.then, Exit.inBlock, ↓reduceIte, Nat.reduceEqDiff])
            refine hK113 _ _ ?_
            refine wp_cond_false rfl ?_
            refine wp_skip ?_
            (try simp only [Exit.then, Exit.inBlock, ↓reduceIte, Nat.reduceEqDiff])
            refine hK112 _ _ ?_
            refine wp_seq_k (fun K116 hK116 => ?_)
            refine wp_region_lit ?_
            refine wpList_plain rfl (fun Ko hKo => ?_)
            go_simp
            refine hKo _ _ ?_
            clear hKo Ko
            try simp only [Act.put, nm1, nm2, nm3, i64_w]
            refine wpList_plain rfl (fun Ko hKo => ?_)
            go_simp
            refine hKo _ _ ?_
            clear hKo Ko
            try simp only [Act.put, nm1, nm2, nm3, i64_w]
            refine step_call (wanted_none rfl) (by first | (go_simp; done) | (go_simp; rfl)) (Eq.mp (congrArg (fun n_ => Calls Try.prog 29 #[.slice P18 n_ q19, .int .i64 t108] w110 _) (Eq.symm hl59.out)) (laws_heldInt64S.calls K P18 q19 t51 t108 t117 w110 ((h55.up (((((hu65.out.trans hu74.out).trans hu92.out).trans hu98.out).trans hu103.out).trans hu111.out)).rd) A118.out)) ?_
            rintro e w119 ⟨rfl, hu⟩
            have hu120 := Aside0.mk hu
            clear hu
            refine ⟨_, rfl, ?_⟩
            simp only [Act.put, nm1, nm2, nm3, i64_w]
            refine wpList_plain rfl (fun Ko hKo => ?_)
            go_simp
            refine hKo _ _ ?_
            clear hKo Ko
            try simp only [Act.put, nm1, nm2, nm3, i64_w]
            refine wpList_nil ?_
            (try simp only [Exit.then, Exit.inBlock, ↓reduceIte, Nat.reduceEqDiff])
            refine hK116 _ _ ?_
            refine wp_seq_k (fun K121 hK121 => ?_)
            refine wp_seq_k (fun K122 hK122 => ?_)
            refine wp_region_lit ?_
            refine wpList_plain rfl (fun Ko hKo => ?_)
            go_simp
            refine hKo _ _ ?_
            clear hKo Ko
            try simp only [Act.put, nm1, nm2, nm3, i64_w]
            refine wpList_plain rfl (fun Ko hKo => ?_)
            go_simp
            refine hKo _ _ ?_
            clear hKo Ko
            try simp only [Act.put, nm1, nm2, nm3, i64_w]
            refine wpList_nil ?_
            (try simp only [Exit.then, Exit.inBlock, ↓reduceIte, Nat.reduceEqDiff])
            refine hK122 _ _ ?_
            refine wp_cond_true rfl ?_
            refine wp_seq_k (fun K124 hK124 => ?_)
            refine wp_region_lit ?_
            refine wpList_plain rfl (fun Ko hKo => ?_)
            go_simp
            refine hKo _ _ ?_
            clear hKo Ko
            try simp only [Act.put, nm1, nm2, nm3, i64_w]
            refine wpList_nil ?_
            (try simp only [Exit.then, Exit.inBlock, ↓reduceIte, Nat.reduceEqDiff])
            refine hK124 _ _ ?_
            refine wp_ret ?_
            (try simp only [Exit.then, Exit.inBlock, ↓reduceIte, Nat.reduceEqDiff])
            refine hQf _ _ _ ?_
            exact bodyPost_ret (v := .bool false) (by first | rfl | (simp [results, Try.results13, go_sem]; done) | (simp [results, Try.results13, go_sem]; rfl)) rfl ⟨rfl, ((((((((((((hu12.out.trans hu23.out).trans hu29.out).trans hu34.out).grow hg46.out (fun k hk => Nat.le_trans (hu12.out.size) ((fun k hk => (lb43.out k hk).1) k hk))).grow hg57.out (fun k hk => Nat.le_trans (hu12.out.size) ((fun k hk => (lb54.out k hk).1) k hk))).trans hu65.out).trans hu74.out).trans hu92.out).trans hu98.out).trans hu103.out).trans hu111.out).trans hu120.out)⟩
           ·
            rw [if_neg c123] at H
            replace c123 := Bool.eq_false_iff.mpr c123
            by_cases c127 : (t117 == t50) = true
            ·
             rw [if_pos c127] at H
             have c127n : (t117 != t50) = false := by rw [bne, c127]; rfl
             obtain rfl := Option.some.inj H
             go_enter Try.func13, Try.ntmps13
             refine wp_hide (fun Qf hQf => ?_)
             refine wp_seq_k (fun K1 hK1 => ?_)
             refine wp_region_lit ?_
             refine wpList_plain rfl (fun Ko hKo => ?_)
             go_simp
             refine hKo _ _ ?_
             clear hKo Ko
             try simp only [Act.put, nm1, nm2, nm3, i64_w]
             refine wpList_nil ?_
             (try simp only [Exit.then, Exit.inBlock, ↓reduceIte, Nat.reduceEqDiff])
             refine hK1 _ _ ?_
             refine wp_seq_k (fun K2 hK2 => ?_)
             refine wp_region_lit ?_
             refine wpList_plain rfl (fun Ko hKo => ?_)
             go_simp
             refine hKo _ _ ?_
             clear hKo Ko
             try simp only [Act.put, nm1, nm2, nm3, i64_w]
             refine step_call (wanted_none rfl) (by first | (go_simp; done) | (go_simp; rfl)) (spec_OrdersOf.calls K a0 t3 t6 t9 w  A10.out) ?_
             rintro e w11 ⟨P4, q5, P7, q8, rfl, ht3, ht6, hnt3_t6, hu⟩
             have hu12 := Aside0.mk hu
             clear hu
             refine ⟨_, rfl, ?_⟩
             simp only [Act.put, nm1, nm2, nm3, i64_w]
             refine wpList_plain rfl (fun Ko hKo => ?_)
             go_simp
             refine hKo _ _ ?_
             clear hKo Ko
             try simp only [Act.put, nm1, nm2, nm3, i64_w]
             refine wpList_plain rfl (fun Ko hKo => ?_)
             go_simp
             refine hKo _ _ ?_
             clear hKo Ko
             try simp only [Act.put, nm1, nm2, nm3, i64_w]
             refine wpList_plain rfl (fun Ko hKo => ?_)
             go_simp
             refine hKo _ _ ?_
             clear hKo Ko
             try simp only [Act.put, nm1, nm2, nm3, i64_w]
             refine wpList_plain rfl (fun Ko hKo => ?_)
             go_simp
             refine hKo _ _ ?_
             clear hKo Ko
             try simp only [Act.put, nm1, nm2, nm3, i64_w]
             refine wpList_plain rfl (fun Ko hKo => ?_)
             go_simp
             refine hKo _ _ ?_
             clear hKo Ko
             try simp only [Act.put, nm1, nm2, nm3, i64_w]
             refine wpList_plain rfl (fun Ko hKo => ?_)
             go_simp
             refine hKo _ _ ?_
             clear hKo Ko
             try simp only [Act.put, nm1, nm2, nm3, i64_w]
             refine wpList_plain rfl (fun Ko hKo => ?_)
             go_simp
             refine hKo _ _ ?_
             clear hKo Ko
             try simp only [Act.put, nm1, nm2, nm3, i64_w]
             refine wpList_nil ?_
             (try simp only [Exit.then, Exit.inBlock, ↓reduceIte, Nat.reduceEqDiff])
             refine hK2 _ _ ?_
             refine wp_seq_k (fun K13 hK13 => ?_)
             refine wp_region_lit ?_
             refine wpList_plain rfl (fun Ko hKo => ?_)
             go_simp
             refine hKo _ _ ?_
             clear hKo Ko
             try simp only [Act.put, nm1, nm2, nm3, i64_w]
             refine step_call (wanted_none rfl) (by first | (go_simp; done) | (go_simp; rfl)) (impl_OrdersOf.calls K a0 t14 t17 t20 w11  A21.out) ?_
             rintro e w22 ⟨P15, q16, P18, q19, rfl, ht14, ht17, hnt14_t17, hu⟩
             have hu23 := Aside0.mk hu
             clear hu
             refine ⟨_, rfl, ?_⟩
             simp only [Act.put, nm1, nm2, nm3, i64_w]
             refine wpList_plain rfl (fun Ko hKo => ?_)
             go_simp
             refine hKo _ _ ?_
             clear hKo Ko
             try simp only [Act.put, nm1, nm2, nm3, i64_w]
             refine wpList_plain rfl (fun Ko hKo => ?_)
             go_simp
             refine hKo _ _ ?_
             clear hKo Ko
             try simp only [Act.put, nm1, nm2, nm3, i64_w]
             refine wpList_plain rfl (fun Ko hKo => ?_)
             go_simp
             refine hKo _ _ ?_
             clear hKo Ko
             try simp only [Act.put, nm1, nm2, nm3, i64_w]
             refine wpList_plain rfl (fun Ko hKo => ?_)
             go_simp
             refine hKo _ _ ?_
             clear hKo Ko
             try simp only [Act.put, nm1, nm2, nm3, i64_w]
             refine wpList_plain rfl (fun Ko hKo => ?_)
             go_simp
             refine hKo _ _ ?_
             clear hKo Ko
             try simp only [Act.put, nm1, nm2, nm3, i64_w]
             refine wpList_plain rfl (fun Ko hKo => ?_)
             go_simp
             refine hKo _ _ ?_
             clear hKo Ko
             try simp only [Act.put, nm1, nm2, nm3, i64_w]
             refine wpList_plain rfl (fun Ko hKo => ?_)
             go_simp
             refine hKo _ _ ?_
             clear hKo Ko
             try simp only [Act.put, nm1, nm2, nm3, i64_w]
             refine wpList_nil ?_
             (try simp only [Exit.then, Exit.inBlock, ↓reduceIte, Nat.reduceEqDiff])
             refine hK13 _ _ ?_
             refine wp_seq_k (fun K24 hK24 => ?_)
             refine wp_seq_k (fun K25 hK25 => ?_)
             refine wp_region_lit ?_
             refine wpList_plain rfl (fun Ko hKo => ?_)
             go_simp
             refine hKo _ _ ?_
             clear hKo Ko
             try simp only [Act.put, nm1, nm2, nm3, i64_w]
             refine wpList_plain rfl (fun Ko hKo => ?_)
             go_simp
             refine hKo _ _ ?_
             clear hKo Ko
             try simp only [Act.put, nm1, nm2, nm3, i64_w]
             refine step_call (wanted_none rfl) (by first | (go_simp; done) | (go_simp; rfl)) (laws_eqInt64S.calls K P15 q16 t14 P4 q5 t3 true w22 ht14.rd ((ht3.up hu23.out).rd) A27.out) ?_
             rintro e w28 ⟨rfl, hu⟩
             have hu29 := Aside0.mk hu
             clear hu
             refine ⟨_, rfl, ?_⟩
             simp only [Act.put, nm1, nm2, nm3, i64_w]
             refine wpList_plain rfl (fun Ko hKo => ?_)
             go_simp
             refine hKo _ _ ?_
             clear hKo Ko
             try simp only [Act.put, nm1, nm2, nm3, i64_w]
             refine wpList_plain rfl (fun Ko hKo => ?_)
             go_simp
             refine hKo _ _ ?_
             clear hKo Ko
             try simp only [Act.put, nm1, nm2, nm3, i64_w]
             refine wpList_step (fun Ko hKo => ?_)
             go_simp
             refine hKo _ _ ?_
             clear hKo Ko
             try simp only [Act.put, nm1, nm2, nm3, i64_w]
             refine wpList_step (fun Ko hKo => ?_)
             go_simp
             refine hKo _ _ ?_
             clear hKo Ko
             try simp only [Act.put, nm1, nm2, nm3, i64_w]
             refine step_call rfl (by first | (go_simp; done) | (go_simp; rfl)) (laws_eqInt64S.calls K P18 q19 t17 P7 q8 t6 true w28 ((ht17.up hu29.out).rd) ((ht6.up (hu23.out.trans hu29.out)).rd) A32.out) ?_
             rintro e w33 ⟨rfl, hu⟩
             have hu34 := Aside0.mk hu
             clear hu
             refine ⟨_, rfl, ?_⟩
             simp only [Act.put, nm1, nm2, nm3, i64_w]
             refine wpList_step (fun Ko hKo => ?_)
             go_simp
             refine hKo _ _ ?_
             clear hKo Ko
             try simp only [Act.put, nm1, nm2, nm3, i64_w]
             refine wpList_plain rfl (fun Ko hKo => ?_)
             go_simp
             refine hKo _ _ ?_
             clear hKo Ko
             try simp only [Act.put, nm1, nm2, nm3, i64_w]
             refine wpList_plain rfl (fun Ko hKo => ?_)
             go_simp
             refine hKo _ _ ?_
             clear hKo Ko
             try simp only [Act.put, nm1, nm2, nm3, i64_w]
             refine wpList_step (fun Ko hKo => ?_)
             go_simp
             refine hKo _ _ ?_
             clear hKo Ko
             try simp only [Act.put, nm1, nm2, nm3, i64_w]
             refine wpList_step (fun Ko hKo => ?_)
             go_simp
             refine hKo _ _ ?_
             clear hKo Ko
             try simp only [Act.put, nm1, nm2, nm3, i64_w]
             refine wpList_step (fun Ko hKo => ?_)
             go_simp
             refine hKo _ _ ?_
             clear hKo Ko
             try simp only [Act.put, nm1, nm2, nm3, i64_w]
             refine wpList_plain rfl (fun Ko hKo => ?_)
             go_simp
             refine hKo _ _ ?_
             clear hKo Ko
             try simp only [Act.put, nm1, nm2, nm3, i64_w]
             refine wpList_nil ?_
             (try simp only [Exit.then, Exit.inBlock, ↓reduceIte, Nat.reduceEqDiff])
             refine hK25 _ _ ?_
             refine wp_cond_false rfl ?_
             refine wp_skip ?_
             (try simp only [Exit.then, Exit.inBlock, ↓reduceIte, Nat.reduceEqDiff])
             refine hK24 _ _ ?_
             refine wp_seq_k (fun K37 hK37 => ?_)
             refine wp_region_lit ?_
             refine wpList_plain rfl (fun Ko hKo => ?_)
             go_simp
             refine hKo _ _ ?_
             clear hKo Ko
             try simp only [Act.put, nm1, nm2, nm3, i64_w]
             refine wpList_nil ?_
             (try simp only [Exit.then, Exit.inBlock, ↓reduceIte, Nat.reduceEqDiff])
             refine hK37 _ _ ?_
             refine wp_seq_k (fun K38 hK38 => ?_)
             refine wp_region_lit ?_
             refine wpList_plain rfl (fun Ko hKo => ?_)
             go_simp
             refine hKo _ _ ?_
             clear hKo Ko
             try simp only [Act.put, nm1, nm2, nm3, i64_w]
             refine wpList_plain rfl (fun Ko hKo => ?_)
             go_simp
             refine hKo _ _ ?_
             clear hKo Ko
             try simp only [Act.put, nm1, nm2, nm3, i64_w]
             refine step_call (wanted_none rfl) (by first | (go_simp; done) | (go_simp; rfl)) (laws_markInt64S.calls K P15 q16 w11.heap.size t14 1 t39 t40 w33 (ht14.up (hu29.out.trans hu34.out)) A41.out) ?_
             have lb43 := Aside0.mk (ht14.up (hu29.out.trans hu34.out)).lt
             rintro e w42 ⟨rfl, h44, hl, hg⟩
             have hg46 := Aside0.mk hg
             have hl45 := hl
             clear hg hl
             have h47 := (ht17.up (hu29.out.trans hu34.out)).grow hg46.out hnt14_t17
             have hl48 : Aside0 (t14.length = t40.length) := Aside0.mk hl45.out
             refine ⟨_, rfl, ?_⟩
             simp only [Act.put, nm1, nm2, nm3, i64_w]
             refine wpList_plain rfl (fun Ko hKo => ?_)
             go_simp
             refine hKo _ _ ?_
             clear hKo Ko
             try simp only [Act.put, nm1, nm2, nm3, i64_w]
             refine wpList_nil ?_
             (try simp only [Exit.then, Exit.inBlock, ↓reduceIte, Nat.reduceEqDiff])
             refine hK38 _ _ ?_
             refine wp_seq_k (fun K49 hK49 => ?_)
             refine wp_region_lit ?_
             refine wpList_plain rfl (fun Ko hKo => ?_)
             go_simp
             refine hKo _ _ ?_
             clear hKo Ko
             try simp only [Act.put, nm1, nm2, nm3, i64_w]
             refine wpList_plain rfl (fun Ko hKo => ?_)
             go_simp
             refine hKo _ _ ?_
             clear hKo Ko
             try simp only [Act.put, nm1, nm2, nm3, i64_w]
             refine step_call (wanted_none rfl) (by first | (go_simp; done) | (go_simp; rfl)) (laws_markInt64S.calls K P18 q19 w11.heap.size t17 t39 t50 t51 w42 h47 A52.out) ?_
             have lb54 := Aside0.mk h47.lt
             rintro e w53 ⟨rfl, h55, hl, hg⟩
             have hg57 := Aside0.mk hg
             have hl56 := hl
             clear hg hl
             have h58 := h44.grow hg57.out (fun k l hk hl => Ne.symm ((fun k l hk hl => hnt14_t17 k l (blk_len.symm.trans hk) hl) l k hl hk))
             have hl59 : Aside0 (t17.length = t51.length) := Aside0.mk hl56.out
             refine ⟨_, rfl, ?_⟩
             simp only [Act.put, nm1, nm2, nm3, i64_w]
             refine wpList_plain rfl (fun Ko hKo => ?_)
             go_simp
             refine hKo _ _ ?_
             clear hKo Ko
             try simp only [Act.put, nm1, nm2, nm3, i64_w]
             refine wpList_nil ?_
             (try simp only [Exit.then, Exit.inBlock, ↓reduceIte, Nat.reduceEqDiff])
             refine hK49 _ _ ?_
             refine wp_seq_k (fun K60 hK60 => ?_)
             refine wp_region_lit ?_
             refine wpList_plain rfl (fun Ko hKo => ?_)
             go_simp
             refine hKo _ _ ?_
             clear hKo Ko
             try simp only [Act.put, nm1, nm2, nm3, i64_w]
             refine wpList_nil ?_
             (try simp only [Exit.then, Exit.inBlock, ↓reduceIte, Nat.reduceEqDiff])
             refine hK60 _ _ ?_
             refine wp_seq_k (fun K61 hK61 => ?_)
             refine wp_region_lit ?_
             refine wpList_plain rfl (fun Ko hKo => ?_)
             go_simp
             refine hKo _ _ ?_
             clear hKo Ko
             try simp only [Act.put, nm1, nm2, nm3, i64_w]
             refine wpList_plain rfl (fun Ko hKo => ?_)
             go_simp
             refine hKo _ _ ?_
             clear hKo Ko
             try simp only [Act.put, nm1, nm2, nm3, i64_w]
             refine step_call (wanted_none rfl) (by first | (go_simp; done) | (go_simp; rfl)) (Eq.mp (congrArg (fun n_ => Calls Try.prog 29 #[.slice P15 n_ q16, .int .i64 1] w53 _) (Eq.symm hl48.out)) (laws_heldInt64S.calls K P15 q16 t40 1 t62 w53 h58.rd A63.out)) ?_
             rintro e w64 ⟨rfl, hu⟩
             have hu65 := Aside0.mk hu
             clear hu
             refine ⟨_, rfl, ?_⟩
             simp only [Act.put, nm1, nm2, nm3, i64_w]
             refine wpList_plain rfl (fun Ko hKo => ?_)
             go_simp
             refine hKo _ _ ?_
             clear hKo Ko
             try simp only [Act.put, nm1, nm2, nm3, i64_w]
             refine wpList_nil ?_
             (try simp only [Exit.then, Exit.inBlock, ↓reduceIte, Nat.reduceEqDiff])
             refine hK61 _ _ ?_
             refine wp_seq_k (fun K66 hK66 => ?_)
             refine wp_seq_k (fun K67 hK67 => ?_)
             refine wp_region_lit ?_
             refine wpList_plain rfl (fun Ko hKo => ?_)
             go_simp
             refine hKo _ _ ?_
             clear hKo Ko
             try simp only [Act.put, nm1, nm2, nm3, i64_w]
             refine wpList_plain rfl (fun Ko hKo => ?_)
             go_simp
             refine hKo _ _ ?_
             clear hKo Ko
             try simp only [Act.put, nm1, nm2, nm3, i64_w]
             refine wpList_nil ?_
             (try simp only [Exit.then, Exit.inBlock, ↓reduceIte, Nat.reduceEqDiff])
             refine hK67 _ _ ?_
             refine wp_cond_false rfl ?_
             refine wp_skip ?_
             (try simp only [Exit.then, Exit.inBlock, ↓reduceIte, Nat.reduceEqDiff])
             refine hK66 _ _ ?_
             refine wp_seq_k (fun K70 hK70 => ?_)
             refine wp_region_lit ?_
             refine wpList_plain rfl (fun Ko hKo => ?_)
             go_simp
             refine hKo _ _ ?_
             clear hKo Ko
             try simp only [Act.put, nm1, nm2, nm3, i64_w]
             refine wpList_plain rfl (fun Ko hKo => ?_)
             go_simp
             refine hKo _ _ ?_
             clear hKo Ko
             try simp only [Act.put, nm1, nm2, nm3, i64_w]
             refine step_call (wanted_none rfl) (by first | (go_simp; done) | (go_simp; rfl)) (Eq.mp (congrArg (fun n_ => Calls Try.prog 29 #[.slice P18 n_ q19, .int .i64 t62] w64 _) (Eq.symm hl59.out)) (laws_heldInt64S.calls K P18 q19 t51 t62 t71 w64 ((h55.up hu65.out).rd) A72.out)) ?_
             rintro e w73 ⟨rfl, hu⟩
             have hu74 := Aside0.mk hu
             clear hu
             refine ⟨_, rfl, ?_⟩
             simp only [Act.put, nm1, nm2, nm3, i64_w]
             refine wpList_plain rfl (fun Ko hKo => ?_)
             go_simp
             refine hKo _ _ ?_
             clear hKo Ko
             try simp only [Act.put, nm1, nm2, nm3, i64_w]
             refine wpList_nil ?_
             (try simp only [Exit.then, Exit.inBlock, ↓reduceIte, Nat.reduceEqDiff])
             refine hK70 _ _ ?_
             refine wp_seq_k (fun K75 hK75 => ?_)
             refine wp_seq_k (fun K76 hK76 => ?_)
             refine wp_region_lit ?_
             refine wpList_plain rfl (fun Ko hKo => ?_)
             go_simp
             refine hKo _ _ ?_
             clear hKo Ko
             try simp only [Act.put, nm1, nm2, nm3, i64_w]
             refine wpList_plain rfl (fun Ko hKo => ?_)
             go_simp
             refine hKo _ _ ?_
             clear hKo Ko
             try simp only [Act.put, nm1, nm2, nm3, i64_w]
             refine wpList_nil ?_
             (try simp only [Exit.then, Exit.inBlock, ↓reduceIte, Nat.reduceEqDiff])
             refine hK76 _ _ ?_
             refine wp_cond_false rfl ?_
             refine wp_skip ?_
             (try simp only [Exit.then, Exit.inBlock, ↓reduceIte, Nat.reduceEqDiff])
             refine hK75 _ _ ?_
             refine wp_seq_k (fun K79 hK79 => ?_)
             refine wp_seq_k (fun K80 hK80 => ?_)
             refine wp_region_lit ?_
             refine wpList_plain rfl (fun Ko hKo => ?_)
             go_simp
             refine hKo _ _ ?_
             clear hKo Ko
             try simp only [Act.put, nm1, nm2, nm3, i64_w]
             refine wpList_plain rfl (fun Ko hKo => ?_)
             go_simp
             refine hKo _ _ ?_
             clear hKo Ko
             try simp only [Act.put, nm1, nm2, nm3, i64_w]
             refine wpList_plain rfl (fun Ko hKo => ?_)
             go_simp
             refine hKo _ _ ?_
             clear hKo Ko
             try simp only [Act.put, nm1, nm2, nm3, i64_w]
             refine wpList_nil ?_
             (try simp only [Exit.then, Exit.inBlock, ↓reduceIte, Nat.reduceEqDiff])
             refine hK80 _ _ ?_
             refine wp_cond_false rfl ?_
             refine wp_skip ?_
             (try simp only [Exit.then, Exit.inBlock, ↓reduceIte, Nat.reduceEqDiff])
             refine hK79 _ _ ?_
             refine wp_seq_k (fun K82 hK82 => ?_)
             refine wp_region_lit ?_
             refine wpList_plain rfl (fun Ko hKo => ?_)
             go_simp
             refine hKo _ _ ?_
             clear hKo Ko
             try simp only [Act.put, nm1, nm2, nm3, i64_w]
             refine step_call (wanted_none rfl) (by first | (go_simp; done) | (go_simp; rfl)) (impl_OrdersOf.calls K a0 t83 t86 t89 w73  A90.out) ?_
             rintro e w91 ⟨P84, q85, P87, q88, rfl, ht83, ht86, hnt83_t86, hu⟩
             have hu92 := Aside0.mk hu
             clear hu
             refine ⟨_, rfl, ?_⟩
             simp only [Act.put, nm1, nm2, nm3, i64_w]
             refine wpList_plain rfl (fun Ko hKo => ?_)
             go_simp
             refine hKo _ _ ?_
             clear hKo Ko
             try simp only [Act.put, nm1, nm2, nm3, i64_w]
             refine wpList_plain rfl (fun Ko hKo => ?_)
             go_simp
             refine hKo _ _ ?_
             clear hKo Ko
             try simp only [Act.put, nm1, nm2, nm3, i64_w]
             refine wpList_plain rfl (fun Ko hKo => ?_)
             go_simp
             refine hKo _ _ ?_
             clear hKo Ko
             try simp only [Act.put, nm1, nm2, nm3, i64_w]
             refine wpList_plain rfl (fun Ko hKo => ?_)
             go_simp
             refine hKo _ _ ?_
             clear hKo Ko
             try simp only [Act.put, nm1, nm2, nm3, i64_w]
             refine wpList_plain rfl (fun Ko hKo => ?_)
             go_simp
             refine hKo _ _ ?_
             clear hKo Ko
             try simp only [Act.put, nm1, nm2, nm3, i64_w]
             refine wpList_plain rfl (fun Ko hKo => ?_)
             go_simp
             refine hKo _ _ ?_
             clear hKo Ko
             try simp only [Act.put, nm1, nm2, nm3, i64_w]
             refine wpList_plain rfl (fun Ko hKo => ?_)
             go_simp
             refine hKo _ _ ?_
             clear hKo Ko
             try simp only [Act.put, nm1, nm2, nm3, i64_w]
             refine wpList_nil ?_
             (try simp only [Exit.then, Exit.inBlock, ↓reduceIte, Nat.reduceEqDiff])
             refine hK82 _ _ ?_
             refine wp_seq_k (fun K93 hK93 => ?_)
             refine wp_seq_k (fun K94 hK94 => ?_)
             refine wp_region_lit ?_
             refine wpList_plain rfl (fun Ko hKo => ?_)
             go_simp
             refine hKo _ _ ?_
             clear hKo Ko
             try simp only [Act.put, nm1, nm2, nm3, i64_w]
             refine wpList_plain rfl (fun Ko hKo => ?_)
             go_simp
             refine hKo _ _ ?_
             clear hKo Ko
             try simp only [Act.put, nm1, nm2, nm3, i64_w]
             refine step_call (wanted_none rfl) (by first | (go_simp; done) | (go_simp; rfl)) (laws_eqInt64S.calls K P84 q85 t83 P4 q5 t3 true w91 ht83.rd ((ht3.up (((((((hu23.out.trans hu29.out).trans hu34.out).grow hg46.out (fun k hk => Nat.le_trans (Nat.le_refl _) ((fun k hk => (lb43.out k hk).1) k hk))).grow hg57.out (fun k hk => Nat.le_trans (Nat.le_refl _) ((fun k hk => (lb54.out k hk).1) k hk))).trans hu65.out).trans hu74.out).trans hu92.out)).rd) A96.out) ?_
             rintro e w97 ⟨rfl, hu⟩
             have hu98 := Aside0.mk hu
             clear hu
             refine ⟨_, rfl, ?_⟩
             simp only [Act.put, nm1, nm2, nm3, i64_w]
             refine wpList_plain rfl (fun Ko hKo => ?_)
             go_simp
             refine hKo _ _ ?_
             clear hKo Ko
             try simp only [Act.put, nm1, nm2, nm3, i64_w]
             refine wpList_plain rfl (fun Ko hKo => ?_)
             go_simp
             refine hKo _ _ ?_
             clear hKo Ko
             try simp only [Act.put, nm1, nm2, nm3, i64_w]
             refine wpList_step (fun Ko hKo => ?_)
             go_simp
             refine hKo _ _ ?_
             clear hKo Ko
             try simp only [Act.put, nm1, nm2, nm3, i64_w]
             refine wpList_step (fun Ko hKo => ?_)
             go_simp
             refine hKo _ _ ?_
             clear hKo Ko
             try simp only [Act.put, nm1, nm2, nm3, i64_w]
             refine step_call rfl (by first | (go_simp; done) | (go_simp; rfl)) (laws_eqInt64S.calls K P87 q88 t86 P7 q8 t6 true w97 ((ht86.up hu98.out).rd) ((ht6.up ((((((((hu23.out.trans hu29.out).trans hu34.out).grow hg46.out (fun k hk => Nat.le_trans (Nat.le_refl _) ((fun k hk => (lb43.out k hk).1) k hk))).grow hg57.out (fun k hk => Nat.le_trans (Nat.le_refl _) ((fun k hk => (lb54.out k hk).1) k hk))).trans hu65.out).trans hu74.out).trans hu92.out).trans hu98.out)).rd) A101.out) ?_
             rintro e w102 ⟨rfl, hu⟩
             have hu103 := Aside0.mk hu
             clear hu
             refine ⟨_, rfl, ?_⟩
             simp only [Act.put, nm1, nm2, nm3, i64_w]
             refine wpList_step (fun Ko hKo => ?_)
             go_simp
             refine hKo _ _ ?_
             clear hKo Ko
             try simp only [Act.put, nm1, nm2, nm3, i64_w]
             refine wpList_plain rfl (fun Ko hKo => ?_)
             go_simp
             refine hKo _ _ ?_
             clear hKo Ko
             try simp only [Act.put, nm1, nm2, nm3, i64_w]
             refine wpList_plain rfl (fun Ko hKo => ?_)
             go_simp
             refine hKo _ _ ?_
             clear hKo Ko
             try simp only [Act.put, nm1, nm2, nm3, i64_w]
             refine wpList_step (fun Ko hKo => ?_)
             go_simp
             refine hKo _ _ ?_
             clear hKo Ko
             try simp only [Act.put, nm1, nm2, nm3, i64_w]
             refine wpList_step (fun Ko hKo => ?_)
             go_simp
             refine hKo _ _ ?_
             clear hKo Ko
             try simp only [Act.put, nm1, nm2, nm3, i64_w]
             refine wpList_step (fun Ko hKo => ?_)
             go_simp
             refine hKo _ _ ?_
             clear hKo Ko
             try simp only [Act.put, nm1, nm2, nm3, i64_w]
             refine wpList_plain rfl (fun Ko hKo => ?_)
             go_simp
             refine hKo _ _ ?_
             clear hKo Ko
             try simp only [Act.put, nm1, nm2, nm3, i64_w]
             refine wpList_nil ?_
             (try simp only [Exit.then, Exit.inBlock, ↓reduceIte, Nat.reduceEqDiff])
             refine hK94 _ _ ?_
             refine wp_cond_false rfl ?_
             refine wp_skip ?_
             (try simp only [Exit.then, Exit.inBlock, ↓reduceIte, Nat.reduceEqDiff])
             refine hK93 _ _ ?_
             refine wp_seq_k (fun K106 hK106 => ?_)
             refine wp_region_lit ?_
             refine wpList_plain rfl (fun Ko hKo => ?_)
             go_simp
             refine hKo _ _ ?_
             clear hKo Ko
             try simp only [Act.put, nm1, nm2, nm3, i64_w]
             refine wpList_nil ?_
             (try simp only [Exit.then, Exit.inBlock, ↓reduceIte, Nat.reduceEqDiff])
             refine hK106 _ _ ?_
             refine wp_seq_k (fun K107 hK107 => ?_)
             refine wp_region_lit ?_
             refine wpList_plain rfl (fun Ko hKo => ?_)
             go_simp
             refine hKo _ _ ?_
             clear hKo Ko
             try simp only [Act.put, nm1, nm2, nm3, i64_w]
             refine wpList_plain rfl (fun Ko hKo => ?_)
             go_simp
             refine hKo _ _ ?_
             clear hKo Ko
             try simp only [Act.put, nm1, nm2, nm3, i64_w]
             refine step_call (wanted_none rfl) (by first | (go_simp; done) | (go_simp; rfl)) (Eq.mp (congrArg (fun n_ => Calls Try.prog 29 #[.slice P15 n_ q16, .int .i64 1] w102 _) (Eq.symm hl48.out)) (laws_heldInt64S.calls K P15 q16 t40 1 t108 w102 ((h58.up ((((hu65.out.trans hu74.out).trans hu92.out).trans hu98.out).trans hu103.out)).rd) A109.out)) ?_
             rintro e w110 ⟨rfl, hu⟩
             have hu111 := Aside0.mk hu
             clear hu
             refine ⟨_, rfl, ?_⟩
             simp only [Act.put, nm1, nm2, nm3, i64_w]
             refine wpList_plain rfl (fun Ko hKo => ?_)
             go_simp
             refine hKo _ _ ?_
             clear hKo Ko
             try simp only [Act.put, nm1, nm2, nm3, i64_w]
             refine wpList_nil ?_
             (try simp only [Exit.then, Exit.inBlock, ↓reduceIte, Nat.reduceEqDiff])
             refine hK107 _ _ ?_
             refine wp_seq_k (fun K112 hK112 => ?_)
             refine wp_seq_k (fun K113 hK113 => ?_)
             refine wp_region_lit ?_
             refine wpList_plain rfl (fun Ko hKo => ?_)
             go_simp
             refine hKo _ _ ?_
             clear hKo Ko
             try simp only [Act.put, nm1, nm2, nm3, i64_w]
             refine wpList_plain rfl (fun Ko hKo => ?_)
             go_simp
             refine hKo _ _ ?_
             clear hKo Ko
             try simp only [Act.put, nm1, nm2, nm3, i64_w]
             refine wpList_nil ?_
             (try simp only [Exit.then, Exit.inBlock, ↓reduceIte, Nat.reduceEqDiff])
             refine hK113 _ _ ?_
             refine wp_cond_false rfl ?_
             refine wp_skip ?_
             (try simp only [Exit.then, Exit.inBlock, ↓reduceIte, Nat.reduceEqDiff])
             refine hK112 _ _ ?_
             refine wp_seq_k (fun K116 hK116 => ?_)
             refine wp_region_lit ?_
             refine wpList_plain rfl (fun Ko hKo => ?_)
             go_simp
             refine hKo _ _ ?_
             clear hKo Ko
             try simp only [Act.put, nm1, nm2, nm3, i64_w]
             refine wpList_plain rfl (fun Ko hKo => ?_)
             go_simp
             refine hKo _ _ ?_
             clear hKo Ko
             try simp only [Act.put, nm1, nm2, nm3, i64_w]
             refine step_call (wanted_none rfl) (by first | (go_simp; done) | (go_simp; rfl)) (Eq.mp (congrArg (fun n_ => Calls Try.prog 29 #[.slice P18 n_ q19, .int .i64 t108] w110 _) (Eq.symm hl59.out)) (laws_heldInt64S.calls K P18 q19 t51 t108 t117 w110 ((h55.up (((((hu65.out.trans hu74.out).trans hu92.out).trans hu98.out).trans hu103.out).trans hu111.out)).rd) A118.out)) ?_
             rintro e w119 ⟨rfl, hu⟩
             have hu120 := Aside0.mk hu
             clear hu
             refine ⟨_, rfl, ?_⟩
             simp only [Act.put, nm1, nm2, nm3, i64_w]
             refine wpList_plain rfl (fun Ko hKo => ?_)
             go_simp
             refine hKo _ _ ?_
             clear hKo Ko
             try simp only [Act.put, nm1, nm2, nm3, i64_w]
             refine wpList_nil ?_
             (try simp only [Exit.then, Exit.inBlock, ↓reduceIte, Nat.reduceEqDiff])
             refine hK116 _ _ ?_
             refine wp_seq_k (fun K121 hK121 => ?_)
             refine wp_seq_k (fun K122 hK122 => ?_)
             refine wp_region_lit ?_
             refine wpList_plain rfl (fun Ko hKo => ?_)
             go_simp
             refine hKo _ _ ?_
             clear hKo Ko
             try simp only [Act.put, nm1, nm2, nm3, i64_w]
             refine wpList_plain rfl (fun Ko hKo => ?_)
             go_simp
             refine hKo _ _ ?_
             clear hKo Ko
             try simp only [Act.put, nm1, nm2, nm3, i64_w]
             refine wpList_nil ?_
             (try simp only [Exit.then, Exit.inBlock, ↓reduceIte, Nat.reduceEqDiff])
             refine hK122 _ _ ?_
             refine wp_cond_false rfl ?_
             refine wp_skip ?_
             (try simp only [Exit.then, Exit.inBlock, ↓reduceIte, Nat.reduceEqDiff])
             refine hK121 _ _ ?_
             refine wp_seq_k (fun K125 hK125 => ?_)
             refine wp_seq_k (fun K126 hK126 => ?_)
             refine wp_region_lit ?_
             refine wpList_plain rfl (fun Ko hKo => ?_)
             go_simp
             refine hKo _ _ ?_
             clear hKo Ko
             try simp only [Act.put, nm1, nm2, nm3, i64_w]
             refine wpList_plain rfl (fun Ko hKo => ?_)
             go_simp
             refine hKo _ _ ?_
             clear hKo Ko
             try simp only [Act.put, nm1, nm2, nm3, i64_w]
             refine wpList_plain rfl (fun Ko hKo => ?_)
             go_simp
             refine hKo _ _ ?_
             clear hKo Ko
             try simp only [Act.put, nm1, nm2, nm3, i64_w]
             refine wpList_nil ?_
             (try simp only [Exit.then, Exit.inBlock, ↓reduceIte, Nat.reduceEqDiff])
             refine hK126 _ _ ?_
             refine wp_cond_false rfl ?_
             refine wp_skip ?_
             (try simp only [Exit.then, Exit.inBlock, ↓reduceIte, Nat.reduceEqDiff])
             refine hK125 _ _ ?_
             refine wp_seq_k (fun K128 hK128 => ?_)
             refine wp_region_lit ?_
             refine wpList_plain rfl (fun Ko hKo => ?_)
             go_simp
             refine hKo _ _ ?_
             clear hKo Ko
             try simp only [Act.put, nm1, nm2, nm3, i64_w]
             refine wpList_nil ?_
             (try simp only [Exit.then, Exit.inBlock, ↓reduceIte, Nat.reduceEqDiff])
             refine hK128 _ _ ?_
             refine wp_ret ?_
             (try simp only [Exit.then, Exit.inBlock, ↓reduceIte, Nat.reduceEqDiff])
             refine hQf _ _ _ ?_
             exact bodyPost_ret (v := .bool true) (by first | rfl | (simp [results, Try.results13, go_sem]; done) | (simp [results, Try.results13, go_sem]; rfl)) rfl ⟨rfl, ((((((((((((hu12.out.trans hu23.out).trans hu29.out).trans hu34.out).grow hg46.out (fun k hk => Nat.le_trans (hu12.out.size) ((fun k hk => (lb43.out k hk).1) k hk))).grow hg57.out (fun k hk => Nat.le_trans (hu12.out.size) ((fun k hk => (lb54.out k hk).1) k hk))).trans hu65.out).trans hu74.out).trans hu92.out).trans hu98.out).trans hu103.out).trans hu111.out).trans hu120.out)⟩
            ·
             rw [if_neg c127] at H
             replace c127 := Bool.eq_false_iff.mpr c127
             have c127n : (t117 != t50) = true := by rw [bne, c127]; rfl
             have c127p : ¬ t117 = t50 := fun e => by simp [e] at c127
             obtain rfl := Option.some.inj H
             go_enter Try.func13, Try.ntmps13
             refine wp_hide (fun Qf hQf => ?_)
             refine wp_seq_k (fun K1 hK1 => ?_)
             refine wp_region_lit ?_
             refine wpList_plain rfl (fun Ko hKo => ?_)
             go_simp
             refine hKo _ _ ?_
             clear hKo Ko
             try simp only [Act.put, nm1, nm2, nm3, i64_w]
             refine wpList_nil ?_
             (try simp only [Exit.then, Exit.inBlock, ↓reduceIte, Nat.reduceEqDiff])
             refine hK1 _ _ ?_
             refine wp_seq_k (fun K2 hK2 => ?_)
             refine wp_region_lit ?_
             refine wpList_plain rfl (fun Ko hKo => ?_)
             go_simp
             refine hKo _ _ ?_
             clear hKo Ko
             try simp only [Act.put, nm1, nm2, nm3, i64_w]
             refine step_call (wanted_none rfl) (by first | (go_simp; done) | (go_simp; rfl)) (spec_OrdersOf.calls K a0 t3 t6 t9 w  A10.out) ?_
             rintro e w11 ⟨P4, q5, P7, q8, rfl, ht3, ht6, hnt3_t6, hu⟩
             have hu12 := Aside0.mk hu
             clear hu
             refine ⟨_, rfl, ?_⟩
             simp only [Act.put, nm1, nm2, nm3, i64_w]
             refine wpList_plain rfl (fun Ko hKo => ?_)
             go_simp
             refine hKo _ _ ?_
             clear hKo Ko
             try simp only [Act.put, nm1, nm2, nm3, i64_w]
             refine wpList_plain rfl (fun Ko hKo => ?_)
             go_simp
             refine hKo _ _ ?_
             clear hKo Ko
             try simp only [Act.put, nm1, nm2, nm3, i64_w]
             refine wpList_plain rfl (fun Ko hKo => ?_)
             go_simp
             refine hKo _ _ ?_
             clear hKo Ko
             try simp only [Act.put, nm1, nm2, nm3, i64_w]
             refine wpList_plain rfl (fun Ko hKo => ?_)
             go_simp
             refine hKo _ _ ?_
             clear hKo Ko
             try simp only [Act.put, nm1, nm2, nm3, i64_w]
             refine wpList_plain rfl (fun Ko hKo => ?_)
             go_simp
             refine hKo _ _ ?_
             clear hKo Ko
             try simp only [Act.put, nm1, nm2, nm3, i64_w]
             refine wpList_plain rfl (fun Ko hKo => ?_)
             go_simp
             refine hKo _ _ ?_
             clear hKo Ko
             try simp only [Act.put, nm1, nm2, nm3, i64_w]
             refine wpList_plain rfl (fun Ko hKo => ?_)
             go_simp
             refine hKo _ _ ?_
             clear hKo Ko
             try simp only [Act.put, nm1, nm2, nm3, i64_w]
             refine wpList_nil ?_
             (try simp only [Exit.then, Exit.inBlock, ↓reduceIte, Nat.reduceEqDiff])
             refine hK2 _ _ ?_
             refine wp_seq_k (fun K13 hK13 => ?_)
             refine wp_region_lit ?_
             refine wpList_plain rfl (fun Ko hKo => ?_)
             go_simp
             refine hKo _ _ ?_
             clear hKo Ko
             try simp only [Act.put, nm1, nm2, nm3, i64_w]
             refine step_call (wanted_none rfl) (by first | (go_simp; done) | (go_simp; rfl)) (impl_OrdersOf.calls K a0 t14 t17 t20 w11  A21.out) ?_
             rintro e w22 ⟨P15, q16, P18, q19, rfl, ht14, ht17, hnt14_t17, hu⟩
             have hu23 := Aside0.mk hu
             clear hu
             refine ⟨_, rfl, ?_⟩
             simp only [Act.put, nm1, nm2, nm3, i64_w]
             refine wpList_plain rfl (fun Ko hKo => ?_)
             go_simp
             refine hKo _ _ ?_
             clear hKo Ko
             try simp only [Act.put, nm1, nm2, nm3, i64_w]
             refine wpList_plain rfl (fun Ko hKo => ?_)
             go_simp
             refine hKo _ _ ?_
             clear hKo Ko
             try simp only [Act.put, nm1, nm2, nm3, i64_w]
             refine wpList_plain rfl (fun Ko hKo => ?_)
             go_simp
             refine hKo _ _ ?_
             clear hKo Ko
             try simp only [Act.put, nm1, nm2, nm3, i64_w]
             refine wpList_plain rfl (fun Ko hKo => ?_)
             go_simp
             refine hKo _ _ ?_
             clear hKo Ko
             try simp only [Act.put, nm1, nm2, nm3, i64_w]
             refine wpList_plain rfl (fun Ko hKo => ?_)
             go_simp
             refine hKo _ _ ?_
             clear hKo Ko
             try simp only [Act.put, nm1, nm2, nm3, i64_w]
             refine wpList_plain rfl (fun Ko hKo => ?_)
             go_simp
             refine hKo _ _ ?_
             clear hKo Ko
             try simp only [Act.put, nm1, nm2, nm3, i64_w]
             refine wpList_plain rfl (fun Ko hKo => ?_)
             go_simp
             refine hKo _ _ ?_
             clear hKo Ko
             try simp only [Act.put, nm1, nm2, nm3, i64_w]
             refine wpList_nil ?_
             (try simp only [Exit.then, Exit.inBlock, ↓reduceIte, Nat.reduceEqDiff])
             refine hK13 _ _ ?_
             refine wp_seq_k (fun K24 hK24 => ?_)
             refine wp_seq_k (fun K25 hK25 => ?_)
             refine wp_region_lit ?_
             refine wpList_plain rfl (fun Ko hKo => ?_)
             go_simp
             refine hKo _ _ ?_
             clear hKo Ko
             try simp only [Act.put, nm1, nm2, nm3, i64_w]
             refine wpList_plain rfl (fun Ko hKo => ?_)
             go_simp
             refine hKo _ _ ?_
             clear hKo Ko
             try simp only [Act.put, nm1, nm2, nm3, i64_w]
             refine step_call (wanted_none rfl) (by first | (go_simp; done) | (go_simp; rfl)) (laws_eqInt64S.calls K P15 q16 t14 P4 q5 t3 true w22 ht14.rd ((ht3.up hu23.out).rd) A27.out) ?_
             rintro e w28 ⟨rfl, hu⟩
             have hu29 := Aside0.mk hu
             clear hu
             refine ⟨_, rfl, ?_⟩
             simp only [Act.put, nm1, nm2, nm3, i64_w]
             refine wpList_plain rfl (fun Ko hKo => ?_)
             go_simp
             refine hKo _ _ ?_
             clear hKo Ko
             try simp only [Act.put, nm1, nm2, nm3, i64_w]
             refine wpList_plain rfl (fun Ko hKo => ?_)
             go_simp
             refine hKo _ _ ?_
             clear hKo Ko
             try simp only [Act.put, nm1, nm2, nm3, i64_w]
             refine wpList_step (fun Ko hKo => ?_)
             go_simp
             refine hKo _ _ ?_
             clear hKo Ko
             try simp only [Act.put, nm1, nm2, nm3, i64_w]
             refine wpList_step (fun Ko hKo => ?_)
             go_simp
             refine hKo _ _ ?_
             clear hKo Ko
             try simp only [Act.put, nm1, nm2, nm3, i64_w]
             refine step_call rfl (by first | (go_simp; done) | (go_simp; rfl)) (laws_eqInt64S.calls K P18 q19 t17 P7 q8 t6 true w28 ((ht17.up hu29.out).rd) ((ht6.up (hu23.out.trans hu29.out)).rd) A32.out) ?_
             rintro e w33 ⟨rfl, hu⟩
             have hu34 := Aside0.mk hu
             clear hu
             refine ⟨_, rfl, ?_⟩
             simp only [Act.put, nm1, nm2, nm3, i64_w]
             refine wpList_step (fun Ko hKo => ?_)
             go_simp
             refine hKo _ _ ?_
             clear hKo Ko
             try simp only [Act.put, nm1, nm2, nm3, i64_w]
             refine wpList_plain rfl (fun Ko hKo => ?_)
             go_simp
             refine hKo _ _ ?_
             clear hKo Ko
             try simp only [Act.put, nm1, nm2, nm3, i64_w]
             refine wpList_plain rfl (fun Ko hKo => ?_)
             go_simp
             refine hKo _ _ ?_
             clear hKo Ko
             try simp only [Act.put, nm1, nm2, nm3, i64_w]
             refine wpList_step (fun Ko hKo => ?_)
             go_simp
             refine hKo _ _ ?_
             clear hKo Ko
             try simp only [Act.put, nm1, nm2, nm3, i64_w]
             refine wpList_step (fun Ko hKo => ?_)
             go_simp
             refine hKo _ _ ?_
             clear hKo Ko
             try simp only [Act.put, nm1, nm2, nm3, i64_w]
             refine wpList_step (fun Ko hKo => ?_)
             go_simp
             refine hKo _ _ ?_
             clear hKo Ko
             try simp only [Act.put, nm1, nm2, nm3, i64_w]
             refine wpList_plain rfl (fun Ko hKo => ?_)
             go_simp
             refine hKo _ _ ?_
             clear hKo Ko
             try simp only [Act.put, nm1, nm2, nm3, i64_w]
             refine wpList_nil ?_
             (try simp only [Exit.then, Exit.inBlock, ↓reduceIte, Nat.reduceEqDiff])
             refine hK25 _ _ ?_
             refine wp_cond_false rfl ?_
             refine wp_skip ?_
             (try simp only [Exit.then, Exit.inBlock, ↓reduceIte, Nat.reduceEqDiff])
             refine hK24 _ _ ?_
             refine wp_seq_k (fun K37 hK37 => ?_)
             refine wp_region_lit ?_
             refine wpList_plain rfl (fun Ko hKo => ?_)
             go_simp
             refine hKo _ _ ?_
             clear hKo Ko
             try simp only [Act.put, nm1, nm2, nm3, i64_w]
             refine wpList_nil ?_
             (try simp only [Exit.then, Exit.inBlock, ↓reduceIte, Nat.reduceEqDiff])
             refine hK37 _ _ ?_
             refine wp_seq_k (fun K38 hK38 => ?_)
             refine wp_region_lit ?_
             refine wpList_plain rfl (fun Ko hKo => ?_)
             go_simp
             refine hKo _ _ ?_
             clear hKo Ko
             try simp only [Act.put, nm1, nm2, nm3, i64_w]
             refine wpList_plain rfl (fun Ko hKo => ?_)
             go_simp
             refine hKo _ _ ?_
             clear hKo Ko
             try simp only [Act.put, nm1, nm2, nm3, i64_w]
             refine step_call (wanted_none rfl) (by first | (go_simp; done) | (go_simp; rfl)) (laws_markInt64S.calls K P15 q16 w11.heap.size t14 1 t39 t40 w33 (ht14.up (hu29.out.trans hu34.out)) A41.out) ?_
             have lb43 := Aside0.mk (ht14.up (hu29.out.trans hu34.out)).lt
             rintro e w42 ⟨rfl, h44, hl, hg⟩
             have hg46 := Aside0.mk hg
             have hl45 := hl
             clear hg hl
             have h47 := (ht17.up (hu29.out.trans hu34.out)).grow hg46.out hnt14_t17
             have hl48 : Aside0 (t14.length = t40.length) := Aside0.mk hl45.out
             refine ⟨_, rfl, ?_⟩
             simp only [Act.put, nm1, nm2, nm3, i64_w]
             refine wpList_plain rfl (fun Ko hKo => ?_)
             go_simp
             refine hKo _ _ ?_
             clear hKo Ko
             try simp only [Act.put, nm1, nm2, nm3, i64_w]
             refine wpList_nil ?_
             (try simp only [Exit.then, Exit.inBlock, ↓reduceIte, Nat.reduceEqDiff])
             refine hK38 _ _ ?_
             refine wp_seq_k (fun K49 hK49 => ?_)
             refine wp_region_lit ?_
             refine wpList_plain rfl (fun Ko hKo => ?_)
             go_simp
             refine hKo _ _ ?_
             clear hKo Ko
             try simp only [Act.put, nm1, nm2, nm3, i64_w]
             refine wpList_plain rfl (fun Ko hKo => ?_)
             go_simp
             refine hKo _ _ ?_
             clear hKo Ko
             try simp only [Act.put, nm1, nm2, nm3, i64_w]
             refine step_call (wanted_none rfl) (by first | (go_simp; done) | (go_simp; rfl)) (laws_markInt64S.calls K P18 q19 w11.heap.size t17 t39 t50 t51 w42 h47 A52.out) ?_
             have lb54 := Aside0.mk h47.lt
             rintro e w53 ⟨rfl, h55, hl, hg⟩
             have hg57 := Aside0.mk hg
             have hl56 := hl
             clear hg hl
             have h58 := h44.grow hg57.out (fun k l hk hl => Ne.symm ((fun k l hk hl => hnt14_t17 k l (blk_len.symm.trans hk) hl) l k hl hk))
             have hl59 : Aside0 (t17.length = t51.length) := Aside0.mk hl56.out
             refine ⟨_, rfl, ?_⟩
             simp only [Act.put, nm1, nm2, nm3, i64_w]
             refine wpList_plain rfl (fun Ko hKo => ?_)
             go_simp
             refine hKo _ _ ?_
             clear hKo Ko
             try simp only [Act.put, nm1, nm2, nm3, i64_w]
             refine wpList_nil ?_
             (try simp only [Exit.then, Exit.inBlock, ↓reduceIte, Nat.reduceEqDiff])
             refine hK49 _ _ ?_
             refine wp_seq_k (fun K60 hK60 => ?_)
             refine wp_region_lit ?_
             refine wpList_plain rfl (fun Ko hKo => ?_)
             go_simp
             refine hKo _ _ ?_
             clear hKo Ko
             try simp only [Act.put, nm1, nm2, nm3, i64_w]
             refine wpList_nil ?_
             (try simp only [Exit.then, Exit.inBlock, ↓reduceIte, Nat.reduceEqDiff])
             refine hK60 _ _ ?_
             refine wp_seq_k (fun K61 hK61 => ?_)
             refine wp_region_lit ?_
             refine wpList_plain rfl (fun Ko hKo => ?_)
             go_simp
             refine hKo _ _ ?_
             clear hKo Ko
             try simp only [Act.put, nm1, nm2, nm3, i64_w]
             refine wpList_plain rfl (fun Ko hKo => ?_)
             go_simp
             refine hKo _ _ ?_
             clear hKo Ko
             try simp only [Act.put, nm1, nm2, nm3, i64_w]
             refine step_call (wanted_none rfl) (by first | (go_simp; done) | (go_simp; rfl)) (Eq.mp (congrArg (fun n_ => Calls Try.prog 29 #[.slice P15 n_ q16, .int .i64 1] w53 _) (Eq.symm hl48.out)) (laws_heldInt64S.calls K P15 q16 t40 1 t62 w53 h58.rd A63.out)) ?_
             rintro e w64 ⟨rfl, hu⟩
             have hu65 := Aside0.mk hu
             clear hu
             refine ⟨_, rfl, ?_⟩
             simp only [Act.put, nm1, nm2, nm3, i64_w]
             refine wpList_plain rfl (fun Ko hKo => ?_)
             go_simp
             refine hKo _ _ ?_
             clear hKo Ko
             try simp only [Act.put, nm1, nm2, nm3, i64_w]
             refine wpList_nil ?_
             (try simp only [Exit.then, Exit.inBlock, ↓reduceIte, Nat.reduceEqDiff])
             refine hK61 _ _ ?_
             refine wp_seq_k (fun K66 hK66 => ?_)
             refine wp_seq_k (fun K67 hK67 => ?_)
             refine wp_region_lit ?_
             refine wpList_plain rfl (fun Ko hKo => ?_)
             go_simp
             refine hKo _ _ ?_
             clear hKo Ko
             try simp only [Act.put, nm1, nm2, nm3, i64_w]
             refine wpList_plain rfl (fun Ko hKo => ?_)
             go_simp
             refine hKo _ _ ?_
             clear hKo Ko
             try simp only [Act.put, nm1, nm2, nm3, i64_w]
             refine wpList_nil ?_
             (try simp only [Exit.then, Exit.inBlock, ↓reduceIte, Nat.reduceEqDiff])
             refine hK67 _ _ ?_
             refine wp_cond_false rfl ?_
             refine wp_skip ?_
             (try simp only [Exit.then, Exit.inBlock, ↓reduceIte, Nat.reduceEqDiff])
             refine hK66 _ _ ?_
             refine wp_seq_k (fun K70 hK70 => ?_)
             refine wp_region_lit ?_
             refine wpList_plain rfl (fun Ko hKo => ?_)
             go_simp
             refine hKo _ _ ?_
             clear hKo Ko
             try simp only [Act.put, nm1, nm2, nm3, i64_w]
             refine wpList_plain rfl (fun Ko hKo => ?_)
             go_simp
             refine hKo _ _ ?_
             clear hKo Ko
             try simp only [Act.put, nm1, nm2, nm3, i64_w]
             refine step_call (wanted_none rfl) (by first | (go_simp; done) | (go_simp; rfl)) (Eq.mp (congrArg (fun n_ => Calls Try.prog 29 #[.slice P18 n_ q19, .int .i64 t62] w64 _) (Eq.symm hl59.out)) (laws_heldInt64S.calls K P18 q19 t51 t62 t71 w64 ((h55.up hu65.out).rd) A72.out)) ?_
             rintro e w73 ⟨rfl, hu⟩
             have hu74 := Aside0.mk hu
             clear hu
             refine ⟨_, rfl, ?_⟩
             simp only [Act.put, nm1, nm2, nm3, i64_w]
             refine wpList_plain rfl (fun Ko hKo => ?_)
             go_simp
             refine hKo _ _ ?_
             clear hKo Ko
             try simp only [Act.put, nm1, nm2, nm3, i64_w]
             refine wpList_nil ?_
             (try simp only [Exit.then, Exit.inBlock, ↓reduceIte, Nat.reduceEqDiff])
             refine hK70 _ _ ?_
             refine wp_seq_k (fun K75 hK75 => ?_)
             refine wp_seq_k (fun K76 hK76 => ?_)
             refine wp_region_lit ?_
             refine wpList_plain rfl (fun Ko hKo => ?_)
             go_simp
             refine hKo _ _ ?_
             clear hKo Ko
             try simp only [Act.put, nm1, nm2, nm3, i64_w]
             refine wpList_plain rfl (fun Ko hKo => ?_)
             go_simp
             refine hKo _ _ ?_
             clear hKo Ko
             try simp only [Act.put, nm1, nm2, nm3, i64_w]
             refine wpList_nil ?_
             (try simp only [Exit.then, Exit.inBlock, ↓reduceIte, Nat.reduceEqDiff])
             refine hK76 _ _ ?_
             refine wp_cond_false rfl ?_
             refine wp_skip ?_
             (try simp only [Exit.then, Exit.inBlock, ↓reduceIte, Nat.reduceEqDiff])
             refine hK75 _ _ ?_
             refine wp_seq_k (fun K79 hK79 => ?_)
             refine wp_seq_k (fun K80 hK80 => ?_)
             refine wp_region_lit ?_
             refine wpList_plain rfl (fun Ko hKo => ?_)
             go_simp
             refine hKo _ _ ?_
             clear hKo Ko
             try simp only [Act.put, nm1, nm2, nm3, i64_w]
             refine wpList_plain rfl (fun Ko hKo => ?_)
             go_simp
             refine hKo _ _ ?_
             clear hKo Ko
             try simp only [Act.put, nm1, nm2, nm3, i64_w]
             refine wpList_plain rfl (fun Ko hKo => ?_)
             go_simp
             refine hKo _ _ ?_
             clear hKo Ko
             try simp only [Act.put, nm1, nm2, nm3, i64_w]
             refine wpList_nil ?_
             (try simp only [Exit.then, Exit.inBlock, ↓reduceIte, Nat.reduceEqDiff])
             refine hK80 _ _ ?_
             refine wp_cond_false rfl ?_
             refine wp_skip ?_
             (try simp only [Exit.then, Exit.inBlock, ↓reduceIte, Nat.reduceEqDiff])
             refine hK79 _ _ ?_
             refine wp_seq_k (fun K82 hK82 => ?_)
             refine wp_region_lit ?_
             refine wpList_plain rfl (fun Ko hKo => ?_)
             go_simp
             refine hKo _ _ ?_
             clear hKo Ko
             try simp only [Act.put, nm1, nm2, nm3, i64_w]
             refine step_call (wanted_none rfl) (by first | (go_simp; done) | (go_simp; rfl)) (impl_OrdersOf.calls K a0 t83 t86 t89 w73  A90.out) ?_
             rintro e w91 ⟨P84, q85, P87, q88, rfl, ht83, ht86, hnt83_t86, hu⟩
             have hu92 := Aside0.mk hu
             clear hu
             refine ⟨_, rfl, ?_⟩
             simp only [Act.put, nm1, nm2, nm3, i64_w]
             refine wpList_plain rfl (fun Ko hKo => ?_)
             go_simp
             refine hKo _ _ ?_
             clear hKo Ko
             try simp only [Act.put, nm1, nm2, nm3, i64_w]
             refine wpList_plain rfl (fun Ko hKo => ?_)
             go_simp
             refine hKo _ _ ?_
             clear hKo Ko
             try simp only [Act.put, nm1, nm2, nm3, i64_w]
             refine wpList_plain rfl (fun Ko hKo => ?_)
             go_simp
             refine hKo _ _ ?_
             clear hKo Ko
             try simp only [Act.put, nm1, nm2, nm3, i64_w]
             refine wpList_plain rfl (fun Ko hKo => ?_)
             go_simp
             refine hKo _ _ ?_
             clear hKo Ko
             try simp only [Act.put, nm1, nm2, nm3, i64_w]
             refine wpList_plain rfl (fun Ko hKo => ?_)
             go_simp
             refine hKo _ _ ?_
             clear hKo Ko
             try simp only [Act.put, nm1, nm2, nm3, i64_w]
             refine wpList_plain rfl (fun Ko hKo => ?_)
             go_simp
             refine hKo _ _ ?_
             clear hKo Ko
             try simp only [Act.put, nm1, nm2, nm3, i64_w]
             refine wpList_plain rfl (fun Ko hKo => ?_)
             go_simp
             refine hKo _ _ ?_
             clear hKo Ko
             try simp only [Act.put, nm1, nm2, nm3, i64_w]
             refine wpList_nil ?_
             (try simp only [Exit.then, Exit.inBlock, ↓reduceIte, Nat.reduceEqDiff])
             refine hK82 _ _ ?_
             refine wp_seq_k (fun K93 hK93 => ?_)
             refine wp_seq_k (fun K94 hK94 => ?_)
             refine wp_region_lit ?_
             refine wpList_plain rfl (fun Ko hKo => ?_)
             go_simp
             refine hKo _ _ ?_
             clear hKo Ko
             try simp only [Act.put, nm1, nm2, nm3, i64_w]
             refine wpList_plain rfl (fun Ko hKo => ?_)
             go_simp
             refine hKo _ _ ?_
             clear hKo Ko
             try simp only [Act.put, nm1, nm2, nm3, i64_w]
             refine step_call (wanted_none rfl) (by first | (go_simp; done) | (go_simp; rfl)) (laws_eqInt64S.calls K P84 q85 t83 P4 q5 t3 true w91 ht83.rd ((ht3.up (((((((hu23.out.trans hu29.out).trans hu34.out).grow hg46.out (fun k hk => Nat.le_trans (Nat.le_refl _) ((fun k hk => (lb43.out k hk).1) k hk))).grow hg57.out (fun k hk => Nat.le_trans (Nat.le_refl _) ((fun k hk => (lb54.out k hk).1) k hk))).trans hu65.out).trans hu74.out).trans hu92.out)).rd) A96.out) ?_
             rintro e w97 ⟨rfl, hu⟩
             have hu98 := Aside0.mk hu
             clear hu
             refine ⟨_, rfl, ?_⟩
             simp only [Act.put, nm1, nm2, nm3, i64_w]
             refine wpList_plain rfl (fun Ko hKo => ?_)
             go_simp
             refine hKo _ _ ?_
             clear hKo Ko
             try simp only [Act.put, nm1, nm2, nm3, i64_w]
             refine wpList_plain rfl (fun Ko hKo => ?_)
             go_simp
             refine hKo _ _ ?_
             clear hKo Ko
             try simp only [Act.put, nm1, nm2, nm3, i64_w]
             refine wpList_step (fun Ko hKo => ?_)
             go_simp
             refine hKo _ _ ?_
             clear hKo Ko
             try simp only [Act.put, nm1, nm2, nm3, i64_w]
             refine wpList_step (fun Ko hKo => ?_)
             go_simp
             refine hKo _ _ ?_
             clear hKo Ko
             try simp only [Act.put, nm1, nm2, nm3, i64_w]
             refine step_call rfl (by first | (go_simp; done) | (go_simp; rfl)) (laws_eqInt64S.calls K P87 q88 t86 P7 q8 t6 true w97 ((ht86.up hu98.out).rd) ((ht6.up ((((((((hu23.out.trans hu29.out).trans hu34.out).grow hg46.out (fun k hk => Nat.le_trans (Nat.le_refl _) ((fun k hk => (lb43.out k hk).1) k hk))).grow hg57.out (fun k hk => Nat.le_trans (Nat.le_refl _) ((fun k hk => (lb54.out k hk).1) k hk))).trans hu65.out).trans hu74.out).trans hu92.out).trans hu98.out)).rd) A101.out) ?_
             rintro e w102 ⟨rfl, hu⟩
             have hu103 := Aside0.mk hu
             clear hu
             refine ⟨_, rfl, ?_⟩
             simp only [Act.put, nm1, nm2, nm3, i64_w]
             refine wpList_step (fun Ko hKo => ?_)
             go_simp
             refine hKo _ _ ?_
             clear hKo Ko
             try simp only [Act.put, nm1, nm2, nm3, i64_w]
             refine wpList_plain rfl (fun Ko hKo => ?_)
             go_simp
             refine hKo _ _ ?_
             clear hKo Ko
             try simp only [Act.put, nm1, nm2, nm3, i64_w]
             refine wpList_plain rfl (fun Ko hKo => ?_)
             go_simp
             refine hKo _ _ ?_
             clear hKo Ko
             try simp only [Act.put, nm1, nm2, nm3, i64_w]
             refine wpList_step (fun Ko hKo => ?_)
             go_simp
             refine hKo _ _ ?_
             clear hKo Ko
             try simp only [Act.put, nm1, nm2, nm3, i64_w]
             refine wpList_step (fun Ko hKo => ?_)
             go_simp
             refine hKo _ _ ?_
             clear hKo Ko
             try simp only [Act.put, nm1, nm2, nm3, i64_w]
             refine wpList_step (fun Ko hKo => ?_)
             go_simp
             refine hKo _ _ ?_
             clear hKo Ko
             try simp only [Act.put, nm1, nm2, nm3, i64_w]
             refine wpList_plain rfl (fun Ko hKo => ?_)
             go_simp
             refine hKo _ _ ?_
             clear hKo Ko
             try simp only [Act.put, nm1, nm2, nm3, i64_w]
             refine wpList_nil ?_
             (try simp only [Exit.then, Exit.inBlock, ↓reduceIte, Nat.reduceEqDiff])
             refine hK94 _ _ ?_
             refine wp_cond_false rfl ?_
             refine wp_skip ?_
             (try simp only [Exit.then, Exit.inBlock, ↓reduceIte, Nat.reduceEqDiff])
             refine hK93 _ _ ?_
             refine wp_seq_k (fun K106 hK106 => ?_)
             refine wp_region_lit ?_
             refine wpList_plain rfl (fun Ko hKo => ?_)
             go_simp
             refine hKo _ _ ?_
             clear hKo Ko
             try simp only [Act.put, nm1, nm2, nm3, i64_w]
             refine wpList_nil ?_
             (try simp only [Exit.then, Exit.inBlock, ↓reduceIte, Nat.reduceEqDiff])
             refine hK106 _ _ ?_
             refine wp_seq_k (fun K107 hK107 => ?_)
             refine wp_region_lit ?_
             refine wpList_plain rfl (fun Ko hKo => ?_)
             go_simp
             refine hKo _ _ ?_
             clear hKo Ko
             try simp only [Act.put, nm1, nm2, nm3, i64_w]
             refine wpList_plain rfl (fun Ko hKo => ?_)
             go_simp
             refine hKo _ _ ?_
             clear hKo Ko
             try simp only [Act.put, nm1, nm2, nm3, i64_w]
             refine step_call (wanted_none rfl) (by first | (go_simp; done) | (go_simp; rfl)) (Eq.mp (congrArg (fun n_ => Calls Try.prog 29 #[.slice P15 n_ q16, .int .i64 1] w102 _) (Eq.symm hl48.out)) (laws_heldInt64S.calls K P15 q16 t40 1 t108 w102 ((h58.up ((((hu65.out.trans hu74.out).trans hu92.out).trans hu98.out).trans hu103.out)).rd) A109.out)) ?_
             rintro e w110 ⟨rfl, hu⟩
             have hu111 := Aside0.mk hu
             clear hu
             refine ⟨_, rfl, ?_⟩
             simp only [Act.put, nm1, nm2, nm3, i64_w]
             refine wpList_plain rfl (fun Ko hKo => ?_)
             go_simp
             refine hKo _ _ ?_
             clear hKo Ko
             try simp only [Act.put, nm1, nm2, nm3, i64_w]
             refine wpList_nil ?_
             (try simp only [Exit.then, Exit.inBlock, ↓reduceIte, Nat.reduceEqDiff])
             refine hK107 _ _ ?_
             refine wp_seq_k (fun K112 hK112 => ?_)
             refine wp_seq_k (fun K113 hK113 => ?_)
             refine wp_region_lit ?_
             refine wpList_plain rfl (fun Ko hKo => ?_)
             go_simp
             refine hKo _ _ ?_
             clear hKo Ko
             try simp only [Act.put, nm1, nm2, nm3, i64_w]
             refine wpList_plain rfl (fun Ko hKo => ?_)
             go_simp
             refine hKo _ _ ?_
             clear hKo Ko
             try simp only [Act.put, nm1, nm2, nm3, i64_w]
             refine wpList_nil ?_
             (try simp only [Exit.then, Exit.inBlock, ↓reduceIte, Nat.reduceEqDiff])
             refine hK113 _ _ ?_
             refine wp_cond_false rfl ?_
             refine wp_skip ?_
             (try simp only [Exit.then, Exit.inBlock, ↓reduceIte, Nat.reduceEqDiff])
             refine hK112 _ _ ?_
             refine wp_seq_k (fun K116 hK116 => ?_)
             refine wp_region_lit ?_
             refine wpList_plain rfl (fun Ko hKo => ?_)
             go_simp
             refine hKo _ _ ?_
             clear hKo Ko
             try simp only [Act.put, nm1, nm2, nm3, i64_w]
             refine wpList_plain rfl (fun Ko hKo => ?_)
             go_simp
             refine hKo _ _ ?_
             clear hKo Ko
             try simp only [Act.put, nm1, nm2, nm3, i64_w]
             refine step_call (wanted_none rfl) (by first | (go_simp; done) | (go_simp; rfl)) (Eq.mp (congrArg (fun n_ => Calls Try.prog 29 #[.slice P18 n_ q19, .int .i64 t108] w110 _) (Eq.symm hl59.out)) (laws_heldInt64S.calls K P18 q19 t51 t108 t117 w110 ((h55.up (((((hu65.out.trans hu74.out).trans hu92.out).trans hu98.out).trans hu103.out).trans hu111.out)).rd) A118.out)) ?_
             rintro e w119 ⟨rfl, hu⟩
             have hu120 := Aside0.mk hu
             clear hu
             refine ⟨_, rfl, ?_⟩
             simp only [Act.put, nm1, nm2, nm3, i64_w]
             refine wpList_plain rfl (fun Ko hKo => ?_)
             go_simp
             refine hKo _ _ ?_
             clear hKo Ko
             try simp only [Act.put, nm1, nm2, nm3, i64_w]
             refine wpList_nil ?_
             (try simp only [Exit.then, Exit.inBlock, ↓reduceIte, Nat.reduceEqDiff])
             refine hK116 _ _ ?_
             refine wp_seq_k (fun K121 hK121 => ?_)
             refine wp_seq_k (fun K122 hK122 => ?_)
             refine wp_region_lit ?_
             refine wpList_plain rfl (fun Ko hKo => ?_)
             go_simp
             refine hKo _ _ ?_
             clear hKo Ko
             try simp only [Act.put, nm1, nm2, nm3, i64_w]
             refine wpList_plain rfl (fun Ko hKo => ?_)
             go_simp
             refine hKo _ _ ?_
             clear hKo Ko
             try simp only [Act.put, nm1, nm2, nm3, i64_w]
             refine wpList_nil ?_
             (try simp only [Exit.then, Exit.inBlock, ↓reduceIte, Nat.reduceEqDiff])
             refine hK122 _ _ ?_
             refine wp_cond_false rfl ?_
             refine wp_skip ?_
             (try simp only [Exit.then, Exit.inBlock, ↓reduceIte, Nat.reduceEqDiff])
             refine hK121 _ _ ?_
             refine wp_seq_k (fun K125 hK125 => ?_)
             refine wp_seq_k (fun K126 hK126 => ?_)
             refine wp_region_lit ?_
             refine wpList_plain rfl (fun Ko hKo => ?_)
             go_simp
             refine hKo _ _ ?_
             clear hKo Ko
             try simp only [Act.put, nm1, nm2, nm3, i64_w]
             refine wpList_plain rfl (fun Ko hKo => ?_)
             go_simp
             refine hKo _ _ ?_
             clear hKo Ko
             try simp only [Act.put, nm1, nm2, nm3, i64_w]
             refine wpList_plain rfl (fun Ko hKo => ?_)
             go_simp
             refine hKo _ _ ?_
             clear hKo Ko
             try simp only [Act.put, nm1, nm2, nm3, i64_w]
             refine wpList_nil ?_
             (try simp only [Exit.then, Exit.inBlock, ↓reduceIte, Nat.reduceEqDiff])
             refine hK126 _ _ ?_
             refine wp_cond_true rfl ?_
             refine wp_seq_k (fun K129 hK129 => ?_)
             refine wp_region_lit ?_
             refine wpList_plain rfl (fun Ko hKo => ?_)
             go_simp
             refine hKo _ _ ?_
             clear hKo Ko
             try simp only [Act.put, nm1, nm2, nm3, i64_w]
             refine wpList_nil ?_
             (try simp only [Exit.then, Exit.inBlock, ↓reduceIte, Nat.reduceEqDiff])
             refine hK129 _ _ ?_
             refine wp_ret ?_
             (try simp only [Exit.then, Exit.inBlock, ↓reduceIte, Nat.reduceEqDiff])
             refine hQf _ _ _ ?_
             exact bodyPost_ret (v := .bool false) (by first | rfl | (simp [results, Try.results13, go_sem]; done) | (simp [results, Try.results13, go_sem]; rfl)) rfl ⟨rfl, ((((((((((((hu12.out.trans hu23.out).trans hu29.out).trans hu34.out).grow hg46.out (fun k hk => Nat.le_trans (hu12.out.size) ((fun k hk => (lb43.out k hk).1) k hk))).grow hg57.out (fun k hk => Nat.le_trans (hu12.out.size) ((fun k hk => (lb54.out k hk).1) k hk))).trans hu65.out).trans hu74.out).trans hu92.out).trans hu98.out).trans hu103.out).trans hu111.out).trans hu120.out)⟩
         ·
          rw [if_neg c105] at H
          replace c105 := Bool.eq_false_iff.mpr c105
          have c105n : (t89 != t9) = true := by rw [bne, c105]; rfl
          have c105p : ¬ t89 = t9 := fun e => by simp [e] at c105
          obtain rfl := Option.some.inj H
          go_enter Try.func13, Try.ntmps13
          refine wp_hide (fun Qf hQf => ?_)
          refine wp_seq_k (fun K1 hK1 => ?_)
          refine wp_region_lit ?_
          refine wpList_plain rfl (fun Ko hKo => ?_)
          go_simp
          refine hKo _ _ ?_
          clear hKo Ko
          try simp only [Act.put, nm1, nm2, nm3, i64_w]
          refine wpList_nil ?_
          (try simp only [Exit.then, Exit.inBlock, ↓reduceIte, Nat.reduceEqDiff])
          refine hK1 _ _ ?_
          refine wp_seq_k (fun K2 hK2 => ?_)
          refine wp_region_lit ?_
          refine wpList_plain rfl (fun Ko hKo => ?_)
          go_simp
          refine hKo _ _ ?_
          clear hKo Ko
          try simp only [Act.put, nm1, nm2, nm3, i64_w]
          refine step_call (wanted_none rfl) (by first | (go_simp; done) | (go_simp; rfl)) (spec_OrdersOf.calls K a0 t3 t6 t9 w  A10.out) ?_
          rintro e w11 ⟨P4, q5, P7, q8, rfl, ht3, ht6, hnt3_t6, hu⟩
          have hu12 := Aside0.mk hu
          clear hu
          refine ⟨_, rfl, ?_⟩
          simp only [Act.put, nm1, nm2, nm3, i64_w]
          refine wpList_plain rfl (fun Ko hKo => ?_)
          go_simp
          refine hKo _ _ ?_
          clear hKo Ko
          try simp only [Act.put, nm1, nm2, nm3, i64_w]
          refine wpList_plain rfl (fun Ko hKo => ?_)
          go_simp
          refine hKo _ _ ?_
          clear hKo Ko
          try simp only [Act.put, nm1, nm2, nm3, i64_w]
          refine wpList_plain rfl (fun Ko hKo => ?_)
          go_simp
          refine hKo _ _ ?_
          clear hKo Ko
          try simp only [Act.put, nm1, nm2, nm3, i64_w]
          refine wpList_plain rfl (fun Ko hKo => ?_)
          go_simp
          refine hKo _ _ ?_
          clear hKo Ko
          try simp only [Act.put, nm1, nm2, nm3, i64_w]
          refine wpList_plain rfl (fun Ko hKo => ?_)
          go_simp
          refine hKo _ _ ?_
          clear hKo Ko
          try simp only [Act.put, nm1, nm2, nm3, i64_w]
          refine wpList_plain rfl (fun Ko hKo => ?_)
          go_simp
          refine hKo _ _ ?_
          clear hKo Ko
          try simp only [Act.put, nm1, nm2, nm3, i64_w]
          refine wpList_plain rfl (fun Ko hKo => ?_)
          go_simp
          refine hKo _ _ ?_
          clear hKo Ko
          try simp only [Act.put, nm1, nm2, nm3, i64_w]
          refine wpList_nil ?_
          (try simp only [Exit.then, Exit.inBlock, ↓reduceIte, Nat.reduceEqDiff])
          refine hK2 _ _ ?_
          refine wp_seq_k (fun K13 hK13 => ?_)
          refine wp_region_lit ?_
          refine wpList_plain rfl (fun Ko hKo => ?_)
          go_simp
          refine hKo _ _ ?_
          clear hKo Ko
          try simp only [Act.put, nm1, nm2, nm3, i64_w]
          refine step_call (wanted_none rfl) (by first | (go_simp; done) | (go_simp; rfl)) (impl_OrdersOf.calls K a0 t14 t17 t20 w11  A21.out) ?_
          rintro e w22 ⟨P15, q16, P18, q19, rfl, ht14, ht17, hnt14_t17, hu⟩
          have hu23 := Aside0.mk hu
          clear hu
          refine ⟨_, rfl, ?_⟩
          simp only [Act.put, nm1, nm2, nm3, i64_w]
          refine wpList_plain rfl (fun Ko hKo => ?_)
          go_simp
          refine hKo _ _ ?_
          clear hKo Ko
          try simp only [Act.put, nm1, nm2, nm3, i64_w]
          refine wpList_plain rfl (fun Ko hKo => ?_)
          go_simp
          refine hKo _ _ ?_
          clear hKo Ko
          try simp only [Act.put, nm1, nm2, nm3, i64_w]
          refine wpList_plain rfl (fun Ko hKo => ?_)
          go_simp
          refine hKo _ _ ?_
          clear hKo Ko
          try simp only [Act.put, nm1, nm2, nm3, i64_w]
          refine wpList_plain rfl (fun Ko hKo => ?_)
          go_simp
          refine hKo _ _ ?_
          clear hKo Ko
          try simp only [Act.put, nm1, nm2, nm3, i64_w]
          refine wpList_plain rfl (fun Ko hKo => ?_)
          go_simp
          refine hKo _ _ ?_
          clear hKo Ko
          try simp only [Act.put, nm1, nm2, nm3, i64_w]
          refine wpList_plain rfl (fun Ko hKo => ?_)
          go_simp
          refine hKo _ _ ?_
          clear hKo Ko
          try simp only [Act.put, nm1, nm2, nm3, i64_w]
          refine wpList_plain rfl (fun Ko hKo => ?_)
          go_simp
          refine hKo _ _ ?_
          clear hKo Ko
          try simp only [Act.put, nm1, nm2, nm3, i64_w]
          refine wpList_nil ?_
          (try simp only [Exit.then, Exit.inBlock, ↓reduceIte, Nat.reduceEqDiff])
          refine hK13 _ _ ?_
          refine wp_seq_k (fun K24 hK24 => ?_)
          refine wp_seq_k (fun K25 hK25 => ?_)
          refine wp_region_lit ?_
          refine wpList_plain rfl (fun Ko hKo => ?_)
          go_simp
          refine hKo _ _ ?_
          clear hKo Ko
          try simp only [Act.put, nm1, nm2, nm3, i64_w]
          refine wpList_plain rfl (fun Ko hKo => ?_)
          go_simp
          refine hKo _ _ ?_
          clear hKo Ko
          try simp only [Act.put, nm1, nm2, nm3, i64_w]
          refine step_call (wanted_none rfl) (by first | (go_simp; done) | (go_simp; rfl)) (laws_eqInt64S.calls K P15 q16 t14 P4 q5 t3 true w22 ht14.rd ((ht3.up hu23.out).rd) A27.out) ?_
          rintro e w28 ⟨rfl, hu⟩
          have hu29 := Aside0.mk hu
          clear hu
          refine ⟨_, rfl, ?_⟩
          simp only [Act.put, nm1, nm2, nm3, i64_w]
          refine wpList_plain rfl (fun Ko hKo => ?_)
          go_simp
          refine hKo _ _ ?_
          clear hKo Ko
          try simp only [Act.put, nm1, nm2, nm3, i64_w]
          refine wpList_plain rfl (fun Ko hKo => ?_)
          go_simp
          refine hKo _ _ ?_
          clear hKo Ko
          try simp only [Act.put, nm1, nm2, nm3, i64_w]
          refine wpList_step (fun Ko hKo => ?_)
          go_simp
          refine hKo _ _ ?_
          clear hKo Ko
          try simp only [Act.put, nm1, nm2, nm3, i64_w]
          refine wpList_step (fun Ko hKo => ?_)
          go_simp
          refine hKo _ _ ?_
          clear hKo Ko
          try simp only [Act.put, nm1, nm2, nm3, i64_w]
          refine step_call rfl (by first | (go_simp; done) | (go_simp; rfl)) (laws_eqInt64S.calls K P18 q19 t17 P7 q8 t6 true w28 ((ht17.up hu29.out).rd) ((ht6.up (hu23.out.trans hu29.out)).rd) A32.out) ?_
          rintro e w33 ⟨rfl, hu⟩
          have hu34 := Aside0.mk hu
          clear hu
          refine ⟨_, rfl, ?_⟩
          simp only [Act.put, nm1, nm2, nm3, i64_w]
          refine wpList_step (fun Ko hKo => ?_)
          go_simp
          refine hKo _ _ ?_
          clear hKo Ko
          try simp only [Act.put, nm1, nm2, nm3, i64_w]
          refine wpList_plain rfl (fun Ko hKo => ?_)
          go_simp
          refine hKo _ _ ?_
          clear hKo Ko
          try simp only [Act.put, nm1, nm2, nm3, i64_w]
          refine wpList_plain rfl (fun Ko hKo => ?_)
          go_simp
          refine hKo _ _ ?_
          clear hKo Ko
          try simp only [Act.put, nm1, nm2, nm3, i64_w]
          refine wpList_step (fun Ko hKo => ?_)
          go_simp
          refine hKo _ _ ?_
          clear hKo Ko
          try simp only [Act.put, nm1, nm2, nm3, i64_w]
          refine wpList_step (fun Ko hKo => ?_)
          go_simp
          refine hKo _ _ ?_
          clear hKo Ko
          try simp only [Act.put, nm1, nm2, nm3, i64_w]
          refine wpList_step (fun Ko hKo => ?_)
          go_simp
          refine hKo _ _ ?_
          clear hKo Ko
          try simp only [Act.put, nm1, nm2, nm3, i64_w]
          refine wpList_plain rfl (fun Ko hKo => ?_)
          go_simp
          refine hKo _ _ ?_
          clear hKo Ko
          try simp only [Act.put, nm1, nm2, nm3, i64_w]
          refine wpList_nil ?_
          (try simp only [Exit.then, Exit.inBlock, ↓reduceIte, Nat.reduceEqDiff])
          refine hK25 _ _ ?_
          refine wp_cond_false rfl ?_
          refine wp_skip ?_
          (try simp only [Exit.then, Exit.inBlock, ↓reduceIte, Nat.reduceEqDiff])
          refine hK24 _ _ ?_
          refine wp_seq_k (fun K37 hK37 => ?_)
          refine wp_region_lit ?_
          refine wpList_plain rfl (fun Ko hKo => ?_)
          go_simp
          refine hKo _ _ ?_
          clear hKo Ko
          try simp only [Act.put, nm1, nm2, nm3, i64_w]
          refine wpList_nil ?_
          (try simp only [Exit.then, Exit.inBlock, ↓reduceIte, Nat.reduceEqDiff])
          refine hK37 _ _ ?_
          refine wp_seq_k (fun K38 hK38 => ?_)
          refine wp_region_lit ?_
          refine wpList_plain rfl (fun Ko hKo => ?_)
          go_simp
          refine hKo _ _ ?_
          clear hKo Ko
          try simp only [Act.put, nm1, nm2, nm3, i64_w]
          refine wpList_plain rfl (fun Ko hKo => ?_)
          go_simp
          refine hKo _ _ ?_
          clear hKo Ko
          try simp only [Act.put, nm1, nm2, nm3, i64_w]
          refine step_call (wanted_none rfl) (by first | (go_simp; done) | (go_simp; rfl)) (laws_markInt64S.calls K P15 q16 w11.heap.size t14 1 t39 t40 w33 (ht14.up (hu29.out.trans hu34.out)) A41.out) ?_
          have lb43 := Aside0.mk (ht14.up (hu29.out.trans hu34.out)).lt
          rintro e w42 ⟨rfl, h44, hl, hg⟩
          have hg46 := Aside0.mk hg
          have hl45 := hl
          clear hg hl
          have h47 := (ht17.up (hu29.out.trans hu34.out)).grow hg46.out hnt14_t17
          have hl48 : Aside0 (t14.length = t40.length) := Aside0.mk hl45.out
          refine ⟨_, rfl, ?_⟩
          simp only [Act.put, nm1, nm2, nm3, i64_w]
          refine wpList_plain rfl (fun Ko hKo => ?_)
          go_simp
          refine hKo _ _ ?_
          clear hKo Ko
          try simp only [Act.put, nm1, nm2, nm3, i64_w]
          refine wpList_nil ?_
          (try simp only [Exit.then, Exit.inBlock, ↓reduceIte, Nat.reduceEqDiff])
          refine hK38 _ _ ?_
          refine wp_seq_k (fun K49 hK49 => ?_)
          refine wp_region_lit ?_
          refine wpList_plain rfl (fun Ko hKo => ?_)
          go_simp
          refine hKo _ _ ?_
          clear hKo Ko
          try simp only [Act.put, nm1, nm2, nm3, i64_w]
          refine wpList_plain rfl (fun Ko hKo => ?_)
          go_simp
          refine hKo _ _ ?_
          clear hKo Ko
          try simp only [Act.put, nm1, nm2, nm3, i64_w]
          refine step_call (wanted_none rfl) (by first | (go_simp; done) | (go_simp; rfl)) (laws_markInt64S.calls K P18 q19 w11.heap.size t17 t39 t50 t51 w42 h47 A52.out) ?_
          have lb54 := Aside0.mk h47.lt
          rintro e w53 ⟨rfl, h55, hl, hg⟩
          have hg57 := Aside0.mk hg
          have hl56 := hl
          clear hg hl
          have h58 := h44.grow hg57.out (fun k l hk hl => Ne.symm ((fun k l hk hl => hnt14_t17 k l (blk_len.symm.trans hk) hl) l k hl hk))
          have hl59 : Aside0 (t17.length = t51.length) := Aside0.mk hl56.out
          refine ⟨_, rfl, ?_⟩
          simp only [Act.put, nm1, nm2, nm3, i64_w]
          refine wpList_plain rfl (fun Ko hKo => ?_)
          go_simp
          refine hKo _ _ ?_
          clear hKo Ko
          try simp only [Act.put, nm1, nm2, nm3, i64_w]
          refine wpList_nil ?_
          (try simp only [Exit.then, Exit.inBlock, ↓reduceIte, Nat.reduceEqDiff])
          refine hK49 _ _ ?_
          refine wp_seq_k (fun K60 hK60 => ?_)
          refine wp_region_lit ?_
          refine wpList_plain rfl (fun Ko hKo => ?_)
          go_simp
          refine hKo _ _ ?_
          clear hKo Ko
          try simp only [Act.put, nm1, nm2, nm3, i64_w]
          refine wpList_nil ?_
          (try simp only [Exit.then, Exit.inBlock, ↓reduceIte, Nat.reduceEqDiff])
          refine hK60 _ _ ?_
          refine wp_seq_k (fun K61 hK61 => ?_)
          refine wp_region_lit ?_
          refine wpList_plain rfl (fun Ko hKo => ?_)
          go_simp
          refine hKo _ _ ?_
          clear hKo Ko
          try simp only [Act.put, nm1, nm2, nm3, i64_w]
          refine wpList_plain rfl (fun Ko hKo => ?_)
          go_simp
          refine hKo _ _ ?_
          clear hKo Ko
          try simp only [Act.put, nm1, nm2, nm3, i64_w]
          refine step_call (wanted_none rfl) (by first | (go_simp; done) | (go_simp; rfl)) (Eq.mp (congrArg (fun n_ => Calls Try.prog 29 #[.slice P15 n_ q16, .int .i64 1] w53 _) (Eq.symm hl48.out)) (laws_heldInt64S.calls K P15 q16 t40 1 t62 w53 h58.rd A63.out)) ?_
          rintro e w64 ⟨rfl, hu⟩
          have hu65 := Aside0.mk hu
          clear hu
          refine ⟨_, rfl, ?_⟩
          simp only [Act.put, nm1, nm2, nm3, i64_w]
          refine wpList_plain rfl (fun Ko hKo => ?_)
          go_simp
          refine hKo _ _ ?_
          clear hKo Ko
          try simp only [Act.put, nm1, nm2, nm3, i64_w]
          refine wpList_nil ?_
          (try simp only [Exit.then, Exit.inBlock, ↓reduceIte, Nat.reduceEqDiff])
          refine hK61 _ _ ?_
          refine wp_seq_k (fun K66 hK66 => ?_)
          refine wp_seq_k (fun K67 hK67 => ?_)
          refine wp_region_lit ?_
          refine wpList_plain rfl (fun Ko hKo => ?_)
          go_simp
          refine hKo _ _ ?_
          clear hKo Ko
          try simp only [Act.put, nm1, nm2, nm3, i64_w]
          refine wpList_plain rfl (fun Ko hKo => ?_)
          go_simp
          refine hKo _ _ ?_
          clear hKo Ko
          try simp only [Act.put, nm1, nm2, nm3, i64_w]
          refine wpList_nil ?_
          (try simp only [Exit.then, Exit.inBlock, ↓reduceIte, Nat.reduceEqDiff])
          refine hK67 _ _ ?_
          refine wp_cond_false rfl ?_
          refine wp_skip ?_
          (try simp only [Exit.then, Exit.inBlock, ↓reduceIte, Nat.reduceEqDiff])
          refine hK66 _ _ ?_
          refine wp_seq_k (fun K70 hK70 => ?_)
          refine wp_region_lit ?_
          refine wpList_plain rfl (fun Ko hKo => ?_)
          go_simp
          refine hKo _ _ ?_
          clear hKo Ko
          try simp only [Act.put, nm1, nm2, nm3, i64_w]
          refine wpList_plain rfl (fun Ko hKo => ?_)
          go_simp
          refine hKo _ _ ?_
          clear hKo Ko
          try simp only [Act.put, nm1, nm2, nm3, i64_w]
          refine step_call (wanted_none rfl) (by first | (go_simp; done) | (go_simp; rfl)) (Eq.mp (congrArg (fun n_ => Calls Try.prog 29 #[.slice P18 n_ q19, .int .i64 t62] w64 _) (Eq.symm hl59.out)) (laws_heldInt64S.calls K P18 q19 t51 t62 t71 w64 ((h55.up hu65.out).rd) A72.out)) ?_
          rintro e w73 ⟨rfl, hu⟩
          have hu74 := Aside0.mk hu
          clear hu
          refine ⟨_, rfl, ?_⟩
          simp only [Act.put, nm1, nm2, nm3, i64_w]
          refine wpList_plain rfl (fun Ko hKo => ?_)
          go_simp
          refine hKo _ _ ?_
          clear hKo Ko
          try simp only [Act.put, nm1, nm2, nm3, i64_w]
          refine wpList_nil ?_
          (try simp only [Exit.then, Exit.inBlock, ↓reduceIte, Nat.reduceEqDiff])
          refine hK70 _ _ ?_
          refine wp_seq_k (fun K75 hK75 => ?_)
          refine wp_seq_k (fun K76 hK76 => ?_)
          refine wp_region_lit ?_
          refine wpList_plain rfl (fun Ko hKo => ?_)
          go_simp
          refine hKo _ _ ?_
          clear hKo Ko
          try simp only [Act.put, nm1, nm2, nm3, i64_w]
          refine wpList_plain rfl (fun Ko hKo => ?_)
          go_simp
          refine hKo _ _ ?_
          clear hKo Ko
          try simp only [Act.put, nm1, nm2, nm3, i64_w]
          refine wpList_nil ?_
          (try simp only [Exit.then, Exit.inBlock, ↓reduceIte, Nat.reduceEqDiff])
          refine hK76 _ _ ?_
          refine wp_cond_false rfl ?_
          refine wp_skip ?_
          (try simp only [Exit.then, Exit.inBlock, ↓reduceIte, Nat.reduceEqDiff])
          refine hK75 _ _ ?_
          refine wp_seq_k (fun K79 hK79 => ?_)
          refine wp_seq_k (fun K80 hK80 => ?_)
          refine wp_region_lit ?_
          refine wpList_plain rfl (fun Ko hKo => ?_)
          go_simp
          refine hKo _ _ ?_
          clear hKo Ko
          try simp only [Act.put, nm1, nm2, nm3, i64_w]
          refine wpList_plain rfl (fun Ko hKo => ?_)
          go_simp
          refine hKo _ _ ?_
          clear hKo Ko
          try simp only [Act.put, nm1, nm2, nm3, i64_w]
          refine wpList_plain rfl (fun Ko hKo => ?_)
          go_simp
          refine hKo _ _ ?_
          clear hKo Ko
          try simp only [Act.put, nm1, nm2, nm3, i64_w]
          refine wpList_nil ?_
          (try simp only [Exit.then, Exit.inBlock, ↓reduceIte, Nat.reduceEqDiff])
          refine hK80 _ _ ?_
          refine wp_cond_false rfl ?_
          refine wp_skip ?_
          (try simp only [Exit.then, Exit.inBlock, ↓reduceIte, Nat.reduceEqDiff])
          refine hK79 _ _ ?_
          refine wp_seq_k (fun K82 hK82 => ?_)
          refine wp_region_lit ?_
          refine wpList_plain rfl (fun Ko hKo => ?_)
          go_simp
          refine hKo _ _ ?_
          clear hKo Ko
          try simp only [Act.put, nm1, nm2, nm3, i64_w]
          refine step_call (wanted_none rfl) (by first | (go_simp; done) | (go_simp; rfl)) (impl_OrdersOf.calls K a0 t83 t86 t89 w73  A90.out) ?_
          rintro e w91 ⟨P84, q85, P87, q88, rfl, ht83, ht86, hnt83_t86, hu⟩
          have hu92 := Aside0.mk hu
          clear hu
          refine ⟨_, rfl, ?_⟩
          simp only [Act.put, nm1, nm2, nm3, i64_w]
          refine wpList_plain rfl (fun Ko hKo => ?_)
          go_simp
          refine hKo _ _ ?_
          clear hKo Ko
          try simp only [Act.put, nm1, nm2, nm3, i64_w]
          refine wpList_plain rfl (fun Ko hKo => ?_)
          go_simp
          refine hKo _ _ ?_
          clear hKo Ko
          try simp only [Act.put, nm1, nm2, nm3, i64_w]
          refine wpList_plain rfl (fun Ko hKo => ?_)
          go_simp
          refine hKo _ _ ?_
          clear hKo Ko
          try simp only [Act.put, nm1, nm2, nm3, i64_w]
          refine wpList_plain rfl (fun Ko hKo => ?_)
          go_simp
          refine hKo _ _ ?_
          clear hKo Ko
          try simp only [Act.put, nm1, nm2, nm3, i64_w]
          refine wpList_plain rfl (fun Ko hKo => ?_)
          go_simp
          refine hKo _ _ ?_
          clear hKo Ko
          try simp only [Act.put, nm1, nm2, nm3, i64_w]
          refine wpList_plain rfl (fun Ko hKo => ?_)
          go_simp
          refine hKo _ _ ?_
          clear hKo Ko
          try simp only [Act.put, nm1, nm2, nm3, i64_w]
          refine wpList_plain rfl (fun Ko hKo => ?_)
          go_simp
          refine hKo _ _ ?_
          clear hKo Ko
          try simp only [Act.put, nm1, nm2, nm3, i64_w]
          refine wpList_nil ?_
          (try simp only [Exit.then, Exit.inBlock, ↓reduceIte, Nat.reduceEqDiff])
          refine hK82 _ _ ?_
          refine wp_seq_k (fun K93 hK93 => ?_)
          refine wp_seq_k (fun K94 hK94 => ?_)
          refine wp_region_lit ?_
          refine wpList_plain rfl (fun Ko hKo => ?_)
          go_simp
          refine hKo _ _ ?_
          clear hKo Ko
          try simp only [Act.put, nm1, nm2, nm3, i64_w]
          refine wpList_plain rfl (fun Ko hKo => ?_)
          go_simp
          refine hKo _ _ ?_
          clear hKo Ko
          try simp only [Act.put, nm1, nm2, nm3, i64_w]
          refine step_call (wanted_none rfl) (by first | (go_simp; done) | (go_simp; rfl)) (laws_eqInt64S.calls K P84 q85 t83 P4 q5 t3 true w91 ht83.rd ((ht3.up (((((((hu23.out.trans hu29.out).trans hu34.out).grow hg46.out (fun k hk => Nat.le_trans (Nat.le_refl _) ((fun k hk => (lb43.out k hk).1) k hk))).grow hg57.out (fun k hk => Nat.le_trans (Nat.le_refl _) ((fun k hk => (lb54.out k hk).1) k hk))).trans hu65.out).trans hu74.out).trans hu92.out)).rd) A96.out) ?_
          rintro e w97 ⟨rfl, hu⟩
          have hu98 := Aside0.mk hu
          clear hu
          refine ⟨_, rfl, ?_⟩
          simp only [Act.put, nm1, nm2, nm3, i64_w]
          refine wpList_plain rfl (fun Ko hKo => ?_)
          go_simp
          refine hKo _ _ ?_
          clear hKo Ko
          try simp only [Act.put, nm1, nm2, nm3, i64_w]
          refine wpList_plain rfl (fun Ko hKo => ?_)
          go_simp
          refine hKo _ _ ?_
          clear hKo Ko
          try simp only [Act.put, nm1, nm2, nm3, i64_w]
          refine wpList_step (fun Ko hKo => ?_)
          go_simp
          refine hKo _ _ ?_
          clear hKo Ko
          try simp only [Act.put, nm1, nm2, nm3, i64_w]
          refine wpList_step (fun Ko hKo => ?_)
          go_simp
          refine hKo _ _ ?_
          clear hKo Ko
          try simp only [Act.put, nm1, nm2, nm3, i64_w]
          refine step_call rfl (by first | (go_simp; done) | (go_simp; rfl)) (laws_eqInt64S.calls K P87 q88 t86 P7 q8 t6 true w97 ((ht86.up hu98.out).rd) ((ht6.up ((((((((hu23.out.trans hu29.out).trans hu34.out).grow hg46.out (fun k hk => Nat.le_trans (Nat.le_refl _) ((fun k hk => (lb43.out k hk).1) k hk))).grow hg57.out (fun k hk => Nat.le_trans (Nat.le_refl _) ((fun k hk => (lb54.out k hk).1) k hk))).trans hu65.out).trans hu74.out).trans hu92.out).trans hu98.out)).rd) A101.out) ?_
          rintro e w102 ⟨rfl, hu⟩
          have hu103 := Aside0.mk hu
          clear hu
          refine ⟨_, rfl, ?_⟩
          simp only [Act.put, nm1, nm2, nm3, i64_w]
          refine wpList_step (fun Ko hKo => ?_)
          go_simp
          refine hKo _ _ ?_
          clear hKo Ko
          try simp only [Act.put, nm1, nm2, nm3, i64_w]
          refine wpList_plain rfl (fun Ko hKo => ?_)
          go_simp
          refine hKo _ _ ?_
          clear hKo Ko
          try simp only [Act.put, nm1, nm2, nm3, i64_w]
          refine wpList_plain rfl (fun Ko hKo => ?_)
          go_simp
          refine hKo _ _ ?_
          clear hKo Ko
          try simp only [Act.put, nm1, nm2, nm3, i64_w]
          refine wpList_step (fun Ko hKo => ?_)
          go_simp
          refine hKo _ _ ?_
          clear hKo Ko
          try simp only [Act.put, nm1, nm2, nm3, i64_w]
          refine wpList_step (fun Ko hKo => ?_)
          go_simp
          refine hKo _ _ ?_
          clear hKo Ko
          try simp only [Act.put, nm1, nm2, nm3, i64_w]
          refine wpList_step (fun Ko hKo => ?_)
          go_simp
          refine hKo _ _ ?_
          clear hKo Ko
          try simp only [Act.put, nm1, nm2, nm3, i64_w]
          refine wpList_plain rfl (fun Ko hKo => ?_)
          go_simp
          refine hKo _ _ ?_
          clear hKo Ko
          try simp only [Act.put, nm1, nm2, nm3, i64_w]
          refine wpList_nil ?_
          (try simp only [Exit.then, Exit.inBlock, ↓reduceIte, Nat.reduceEqDiff])
          refine hK94 _ _ ?_
          refine wp_cond_true rfl ?_
          refine wp_seq_k (fun K130 hK130 => ?_)
          refine wp_region_lit ?_
          refine wpList_plain rfl (fun Ko hKo => ?_)
          go_simp
          refine hKo _ _ ?_
          clear hKo Ko
          try simp only [Act.put, nm1, nm2, nm3, i64_w]
          refine wpList_nil ?_
          (try simp only [Exit.then, Exit.inBlock, ↓reduceIte, Nat.reduceEqDiff])
          refine hK130 _ _ ?_
          refine wp_ret ?_
          (try simp only [Exit.then, Exit.inBlock, ↓reduceIte, Nat.reduceEqDiff])
          refine hQf _ _ _ ?_
          exact bodyPost_ret (v := .bool false) (by first | rfl | (simp [results, Try.results13, go_sem]; done) | (simp [results, Try.results13, go_sem]; rfl)) rfl ⟨rfl, ((((((((((hu12.out.trans hu23.out).trans hu29.out).trans hu34.out).grow hg46.out (fun k hk => Nat.le_trans (hu12.out.size) ((fun k hk => (lb43.out k hk).1) k hk))).grow hg57.out (fun k hk => Nat.le_trans (hu12.out.size) ((fun k hk => (lb54.out k hk).1) k hk))).trans hu65.out).trans hu74.out).trans hu92.out).trans hu98.out).trans hu103.out)⟩
        ·
         rw [if_neg c104] at H
         replace c104 := Bool.eq_false_iff.mpr c104
         subst c104
         obtain rfl := Option.some.inj H
         go_enter Try.func13, Try.ntmps13
         refine wp_hide (fun Qf hQf => ?_)
         refine wp_seq_k (fun K1 hK1 => ?_)
         refine wp_region_lit ?_
         refine wpList_plain rfl (fun Ko hKo => ?_)
         go_simp
         refine hKo _ _ ?_
         clear hKo Ko
         try simp only [Act.put, nm1, nm2, nm3, i64_w]
         refine wpList_nil ?_
         (try simp only [Exit.then, Exit.inBlock, ↓reduceIte, Nat.reduceEqDiff])
         refine hK1 _ _ ?_
         refine wp_seq_k (fun K2 hK2 => ?_)
         refine wp_region_lit ?_
         refine wpList_plain rfl (fun Ko hKo => ?_)
         go_simp
         refine hKo _ _ ?_
         clear hKo Ko
         try simp only [Act.put, nm1, nm2, nm3, i64_w]
         refine step_call (wanted_none rfl) (by first | (go_simp; done) | (go_simp; rfl)) (spec_OrdersOf.calls K a0 t3 t6 t9 w  A10.out) ?_
         rintro e w11 ⟨P4, q5, P7, q8, rfl, ht3, ht6, hnt3_t6, hu⟩
         have hu12 := Aside0.mk hu
         clear hu
         refine ⟨_, rfl, ?_⟩
         simp only [Act.put, nm1, nm2, nm3, i64_w]
         refine wpList_plain rfl (fun Ko hKo => ?_)
         go_simp
         refine hKo _ _ ?_
         clear hKo Ko
         try simp only [Act.put, nm1, nm2, nm3, i64_w]
         refine wpList_plain rfl (fun Ko hKo => ?_)
         go_simp
         refine hKo _ _ ?_
         clear hKo Ko
         try simp only [Act.put, nm1, nm2, nm3, i64_w]
         refine wpList_plain rfl (fun Ko hKo => ?_)
         go_simp
         refine hKo _ _ ?_
         clear hKo Ko
         try simp only [Act.put, nm1, nm2, nm3, i64_w]
         refine wpList_plain rfl (fun Ko hKo => ?_)
         go_simp
         refine hKo _ _ ?_
         clear hKo Ko
         try simp only [Act.put, nm1, nm2, nm3, i64_w]
         refine wpList_plain rfl (fun Ko hKo => ?_)
         go_simp
         refine hKo _ _ ?_
         clear hKo Ko
         try simp only [Act.put, nm1, nm2, nm3, i64_w]
         refine wpList_plain rfl (fun Ko hKo => ?_)
         go_simp
         refine hKo _ _ ?_
         clear hKo Ko
         try simp only [Act.put, nm1, nm2, nm3, i64_w]
         refine wpList_plain rfl (fun Ko hKo => ?_)
         go_simp
         refine hKo _ _ ?_
         clear hKo Ko
         try simp only [Act.put, nm1, nm2, nm3, i64_w]
         refine wpList_nil ?_
         (try simp only [Exit.then, Exit.inBlock, ↓reduceIte, Nat.reduceEqDiff])
         refine hK2 _ _ ?_
         refine wp_seq_k (fun K13 hK13 => ?_)
         refine wp_region_lit ?_
         refine wpList_plain rfl (fun Ko hKo => ?_)
         go_simp
         refine hKo _ _ ?_
         clear hKo Ko
         try simp only [Act.put, nm1, nm2, nm3, i64_w]
         refine step_call (wanted_none rfl) (by first | (go_simp; done) | (go_simp; rfl)) (impl_OrdersOf.calls K a0 t14 t17 t20 w11  A21.out) ?_
         rintro e w22 ⟨P15, q16, P18, q19, rfl, ht14, ht17, hnt14_t17, hu⟩
         have hu23 := Aside0.mk hu
         clear hu
         refine ⟨_, rfl, ?_⟩
         simp only [Act.put, nm1, nm2, nm3, i64_w]
         refine wpList_plain rfl (fun Ko hKo => ?_)
         go_simp
         refine hKo _ _ ?_
         clear hKo Ko
         try simp only [Act.put, nm1, nm2, nm3, i64_w]
         refine wpList_plain rfl (fun Ko hKo => ?_)
         go_simp
         refine hKo _ _ ?_
         clear hKo Ko
         try simp only [Act.put, nm1, nm2, nm3, i64_w]
         refine wpList_plain rfl (fun Ko hKo => ?_)
         go_simp
         refine hKo _ _ ?_
         clear hKo Ko
         try simp only [Act.put, nm1, nm2, nm3, i64_w]
         refine wpList_plain rfl (fun Ko hKo => ?_)
         go_simp
         refine hKo _ _ ?_
         clear hKo Ko
         try simp only [Act.put, nm1, nm2, nm3, i64_w]
         refine wpList_plain rfl (fun Ko hKo => ?_)
         go_simp
         refine hKo _ _ ?_
         clear hKo Ko
         try simp only [Act.put, nm1, nm2, nm3, i64_w]
         refine wpList_plain rfl (fun Ko hKo => ?_)
         go_simp
         refine hKo _ _ ?_
         clear hKo Ko
         try simp only [Act.put, nm1, nm2, nm3, i64_w]
         refine wpList_plain rfl (fun Ko hKo => ?_)
         go_simp
         refine hKo _ _ ?_
         clear hKo Ko
         try simp only [Act.put, nm1, nm2, nm3, i64_w]
         refine wpList_nil ?_
         (try simp only [Exit.then, Exit.inBlock, ↓reduceIte, Nat.reduceEqDiff])
         refine hK13 _ _ ?_
         refine wp_seq_k (fun K24 hK24 => ?_)
         refine wp_seq_k (fun K25 hK25 => ?_)
         refine wp_region_lit ?_
         refine wpList_plain rfl (fun Ko hKo => ?_)
         go_simp
         refine hKo _ _ ?_
         clear hKo Ko
         try simp only [Act.put, nm1, nm2, nm3, i64_w]
         refine wpList_plain rfl (fun Ko hKo => ?_)
         go_simp
         refine hKo _ _ ?_
         clear hKo Ko
         try simp only [Act.put, nm1, nm2, nm3, i64_w]
         refine step_call (wanted_none rfl) (by first | (go_simp; done) | (go_simp; rfl)) (laws_eqInt64S.calls K P15 q16 t14 P4 q5 t3 true w22 ht14.rd ((ht3.up hu23.out).rd) A27.out) ?_
         rintro e w28 ⟨rfl, hu⟩
         have hu29 := Aside0.mk hu
         clear hu
         refine ⟨_, rfl, ?_⟩
         simp only [Act.put, nm1, nm2, nm3, i64_w]
         refine wpList_plain rfl (fun Ko hKo => ?_)
         go_simp
         refine hKo _ _ ?_
         clear hKo Ko
         try simp only [Act.put, nm1, nm2, nm3, i64_w]
         refine wpList_plain rfl (fun Ko hKo => ?_)
         go_simp
         refine hKo _ _ ?_
         clear hKo Ko
         try simp only [Act.put, nm1, nm2, nm3, i64_w]
         refine wpList_step (fun Ko hKo => ?_)
         go_simp
         refine hKo _ _ ?_
         clear hKo Ko
         try simp only [Act.put, nm1, nm2, nm3, i64_w]
         refine wpList_step (fun Ko hKo => ?_)
         go_simp
         refine hKo _ _ ?_
         clear hKo Ko
         try simp only [Act.put, nm1, nm2, nm3, i64_w]
         refine step_call rfl (by first | (go_simp; done) | (go_simp; rfl)) (laws_eqInt64S.calls K P18 q19 t17 P7 q8 t6 true w28 ((ht17.up hu29.out).rd) ((ht6.up (hu23.out.trans hu29.out)).rd) A32.out) ?_
         rintro e w33 ⟨rfl, hu⟩
         have hu34 := Aside0.mk hu
         clear hu
         refine ⟨_, rfl, ?_⟩
         simp only [Act.put, nm1, nm2, nm3, i64_w]
         refine wpList_step (fun Ko hKo => ?_)
         go_simp
         refine hKo _ _ ?_
         clear hKo Ko
         try simp only [Act.put, nm1, nm2, nm3, i64_w]
         refine wpList_plain rfl (fun Ko hKo => ?_)
         go_simp
         refine hKo _ _ ?_
         clear hKo Ko
         try simp only [Act.put, nm1, nm2, nm3, i64_w]
         refine wpList_plain rfl (fun Ko hKo => ?_)
         go_simp
         refine hKo _ _ ?_
         clear hKo Ko
         try simp only [Act.put, nm1, nm2, nm3, i64_w]
         refine wpList_step (fun Ko hKo => ?_)
         go_simp
         refine hKo _ _ ?_
         clear hKo Ko
         try simp only [Act.put, nm1, nm2, nm3, i64_w]
         refine wpList_step (fun Ko hKo => ?_)
         go_simp
         refine hKo _ _ ?_
         clear hKo Ko
         try simp only [Act.put, nm1, nm2, nm3, i64_w]
         refine wpList_step (fun Ko hKo => ?_)
         go_simp
         refine hKo _ _ ?_
         clear hKo Ko
         try simp only [Act.put, nm1, nm2, nm3, i64_w]
         refine wpList_plain rfl (fun Ko hKo => ?_)
         go_simp
         refine hKo _ _ ?_
         clear hKo Ko
         try simp only [Act.put, nm1, nm2, nm3, i64_w]
         refine wpList_nil ?_
         (try simp only [Exit.then, Exit.inBlock, ↓reduceIte, Nat.reduceEqDiff])
         refine hK25 _ _ ?_
         refine wp_cond_false rfl ?_
         refine wp_skip ?_
         (try simp only [Exit.then, Exit.inBlock, ↓reduceIte, Nat.reduceEqDiff])
         refine hK24 _ _ ?_
         refine wp_seq_k (fun K37 hK37 => ?_)
         refine wp_region_lit ?_
         refine wpList_plain rfl (fun Ko hKo => ?_)
         go_simp
         refine hKo _ _ ?_
         clear hKo Ko
         try simp only [Act.put, nm1, nm2, nm3, i64_w]
         refine wpList_nil ?_
         (try simp only [Exit.then, Exit.inBlock, ↓reduceIte, Nat.reduceEqDiff])
         refine hK37 _ _ ?_
         refine wp_seq_k (fun K38 hK38 => ?_)
         refine wp_region_lit ?_
         refine wpList_plain rfl (fun Ko hKo => ?_)
         go_simp
         refine hKo _ _ ?_
         clear hKo Ko
         try simp only [Act.put, nm1, nm2, nm3, i64_w]
         refine wpList_plain rfl (fun Ko hKo => ?_)
         go_simp
         refine hKo _ _ ?_
         clear hKo Ko
         try simp only [Act.put, nm1, nm2, nm3, i64_w]
         refine step_call (wanted_none rfl) (by first | (go_simp; done) | (go_simp; rfl)) (laws_markInt64S.calls K P15 q16 w11.heap.size t14 1 t39 t40 w33 (ht14.up (hu29.out.trans hu34.out)) A41.out) ?_
         have lb43 := Aside0.mk (ht14.up (hu29.out.trans hu34.out)).lt
         rintro e w42 ⟨rfl, h44, hl, hg⟩
         have hg46 := Aside0.mk hg
         have hl45 := hl
         clear hg hl
         have h47 := (ht17.up (hu29.out.trans hu34.out)).grow hg46.out hnt14_t17
         have hl48 : Aside0 (t14.length = t40.length) := Aside0.mk hl45.out
         refine ⟨_, rfl, ?_⟩
         simp only [Act.put, nm1, nm2, nm3, i64_w]
         refine wpList_plain rfl (fun Ko hKo => ?_)
         go_simp
         refine hKo _ _ ?_
         clear hKo Ko
         try simp only [Act.put, nm1, nm2, nm3, i64_w]
         refine wpList_nil ?_
         (try simp only [Exit.then, Exit.inBlock, ↓reduceIte, Nat.reduceEqDiff])
         refine hK38 _ _ ?_
         refine wp_seq_k (fun K49 hK49 => ?_)
         refine wp_region_lit ?_
         refine wpList_plain rfl (fun Ko hKo => ?_)
         go_simp
         refine hKo _ _ ?_
         clear hKo Ko
         try simp only [Act.put, nm1, nm2, nm3, i64_w]
         refine wpList_plain rfl (fun Ko hKo => ?_)
         go_simp
         refine hKo _ _ ?_
         clear hKo Ko
         try simp only [Act.put, nm1, nm2, nm3, i64_w]
         refine step_call (wanted_none rfl) (by first | (go_simp; done) | (go_simp; rfl)) (laws_markInt64S.calls K P18 q19 w11.heap.size t17 t39 t50 t51 w42 h47 A52.out) ?_
         have lb54 := Aside0.mk h47.lt
         rintro e w53 ⟨rfl, h55, hl, hg⟩
         have hg57 := Aside0.mk hg
         have hl56 := hl
         clear hg hl
         have h58 := h44.grow hg57.out (fun k l hk hl => Ne.symm ((fun k l hk hl => hnt14_t17 k l (blk_len.symm.trans hk) hl) l k hl hk))
         have hl59 : Aside0 (t17.length = t51.length) := Aside0.mk hl56.out
         refine ⟨_, rfl, ?_⟩
         simp only [Act.put, nm1, nm2, nm3, i64_w]
         refine wpList_plain rfl (fun Ko hKo => ?_)
         go_simp
         refine hKo _ _ ?_
         clear hKo Ko
         try simp only [Act.put, nm1, nm2, nm3, i64_w]
         refine wpList_nil ?_
         (try simp only [Exit.then, Exit.inBlock, ↓reduceIte, Nat.reduceEqDiff])
         refine hK49 _ _ ?_
         refine wp_seq_k (fun K60 hK60 => ?_)
         refine wp_region_lit ?_
         refine wpList_plain rfl (fun Ko hKo => ?_)
         go_simp
         refine hKo _ _ ?_
         clear hKo Ko
         try simp only [Act.put, nm1, nm2, nm3, i64_w]
         refine wpList_nil ?_
         (try simp only [Exit.then, Exit.inBlock, ↓reduceIte, Nat.reduceEqDiff])
         refine hK60 _ _ ?_
         refine wp_seq_k (fun K61 hK61 => ?_)
         refine wp_region_lit ?_
         refine wpList_plain rfl (fun Ko hKo => ?_)
         go_simp
         refine hKo _ _ ?_
         clear hKo Ko
         try simp only [Act.put, nm1, nm2, nm3, i64_w]
         refine wpList_plain rfl (fun Ko hKo => ?_)
         go_simp
         refine hKo _ _ ?_
         clear hKo Ko
         try simp only [Act.put, nm1, nm2, nm3, i64_w]
         refine step_call (wanted_none rfl) (by first | (go_simp; done) | (go_simp; rfl)) (Eq.mp (congrArg (fun n_ => Calls Try.prog 29 #[.slice P15 n_ q16, .int .i64 1] w53 _) (Eq.symm hl48.out)) (laws_heldInt64S.calls K P15 q16 t40 1 t62 w53 h58.rd A63.out)) ?_
         rintro e w64 ⟨rfl, hu⟩
         have hu65 := Aside0.mk hu
         clear hu
         refine ⟨_, rfl, ?_⟩
         simp only [Act.put, nm1, nm2, nm3, i64_w]
         refine wpList_plain rfl (fun Ko hKo => ?_)
         go_simp
         refine hKo _ _ ?_
         clear hKo Ko
         try simp only [Act.put, nm1, nm2, nm3, i64_w]
         refine wpList_nil ?_
         (try simp only [Exit.then, Exit.inBlock, ↓reduceIte, Nat.reduceEqDiff])
         refine hK61 _ _ ?_
         refine wp_seq_k (fun K66 hK66 => ?_)
         refine wp_seq_k (fun K67 hK67 => ?_)
         refine wp_region_lit ?_
         refine wpList_plain rfl (fun Ko hKo => ?_)
         go_simp
         refine hKo _ _ ?_
         clear hKo Ko
         try simp only [Act.put, nm1, nm2, nm3, i64_w]
         refine wpList_plain rfl (fun Ko hKo => ?_)
         go_simp
         refine hKo _ _ ?_
         clear hKo Ko
         try simp only [Act.put, nm1, nm2, nm3, i64_w]
         refine wpList_nil ?_
         (try simp only [Exit.then, Exit.inBlock, ↓reduceIte, Nat.reduceEqDiff])
         refine hK67 _ _ ?_
         refine wp_cond_false rfl ?_
         refine wp_skip ?_
         (try simp only [Exit.then, Exit.inBlock, ↓reduceIte, Nat.reduceEqDiff])
         refine hK66 _ _ ?_
         refine wp_seq_k (fun K70 hK70 => ?_)
         refine wp_region_lit ?_
         refine wpList_plain rfl (fun Ko hKo => ?_)
         go_simp
         refine hKo _ _ ?_
         clear hKo Ko
         try simp only [Act.put, nm1, nm2, nm3, i64_w]
         refine wpList_plain rfl (fun Ko hKo => ?_)
         go_simp
         refine hKo _ _ ?_
         clear hKo Ko
         try simp only [Act.put, nm1, nm2, nm3, i64_w]
         refine step_call (wanted_none rfl) (by first | (go_simp; done) | (go_simp; rfl)) (Eq.mp (congrArg (fun n_ => Calls Try.prog 29 #[.slice P18 n_ q19, .int .i64 t62] w64 _) (Eq.symm hl59.out)) (laws_heldInt64S.calls K P18 q19 t51 t62 t71 w64 ((h55.up hu65.out).rd) A72.out)) ?_
         rintro e w73 ⟨rfl, hu⟩
         have hu74 := Aside0.mk hu
         clear hu
         refine ⟨_, rfl, ?_⟩
         simp only [Act.put, nm1, nm2, nm3, i64_w]
         refine wpList_plain rfl (fun Ko hKo => ?_)
         go_simp
         refine hKo _ _ ?_
         clear hKo Ko
         try simp only [Act.put, nm1, nm2, nm3, i64_w]
         refine wpList_nil ?_
         (try simp only [Exit.then, Exit.inBlock, ↓reduceIte, Nat.reduceEqDiff])
         refine hK70 _ _ ?_
         refine wp_seq_k (fun K75 hK75 => ?_)
         refine wp_seq_k (fun K76 hK76 => ?_)
         refine wp_region_lit ?_
         refine wpList_plain rfl (fun Ko hKo => ?_)
         go_simp
         refine hKo _ _ ?_
         clear hKo Ko
         try simp only [Act.put, nm1, nm2, nm3, i64_w]
         refine wpList_plain rfl (fun Ko hKo => ?_)
         go_simp
         refine hKo _ _ ?_
         clear hKo Ko
         try simp only [Act.put, nm1, nm2, nm3, i64_w]
         refine wpList_nil ?_
         (try simp only [Exit.then, Exit.inBlock, ↓reduceIte, Nat.reduceEqDiff])
         refine hK76 _ _ ?_
         refine wp_cond_false rfl ?_
         refine wp_skip ?_
         (try simp only [Exit.then, Exit.inBlock, ↓reduceIte, Nat.reduceEqDiff])
         refine hK75 _ _ ?_
         refine wp_seq_k (fun K79 hK79 => ?_)
         refine wp_seq_k (fun K80 hK80 => ?_)
         refine wp_region_lit ?_
         refine wpList_plain rfl (fun Ko hKo => ?_)
         go_simp
         refine hKo _ _ ?_
         clear hKo Ko
         try simp only [Act.put, nm1, nm2, nm3, i64_w]
         refine wpList_plain rfl (fun Ko hKo => ?_)
         go_simp
         refine hKo _ _ ?_
         clear hKo Ko
         try simp only [Act.put, nm1, nm2, nm3, i64_w]
         refine wpList_plain rfl (fun Ko hKo => ?_)
         go_simp
         refine hKo _ _ ?_
         clear hKo Ko
         try simp only [Act.put, nm1, nm2, nm3, i64_w]
         refine wpList_nil ?_
         (try simp only [Exit.then, Exit.inBlock, ↓reduceIte, Nat.reduceEqDiff])
         refine hK80 _ _ ?_
         refine wp_cond_false rfl ?_
         refine wp_skip ?_
         (try simp only [Exit.then, Exit.inBlock, ↓reduceIte, Nat.reduceEqDiff])
         refine hK79 _ _ ?_
         refine wp_seq_k (fun K82 hK82 => ?_)
         refine wp_region_lit ?_
         refine wpList_plain rfl (fun Ko hKo => ?_)
         go_simp
         refine hKo _ _ ?_
         clear hKo Ko
         try simp only [Act.put, nm1, nm2, nm3, i64_w]
         refine step_call (wanted_none rfl) (by first | (go_simp; done) | (go_simp; rfl)) (impl_OrdersOf.calls K a0 t83 t86 t89 w73  A90.out) ?_
         rintro e w91 ⟨P84, q85, P87, q88, rfl, ht83, ht86, hnt83_t86, hu⟩
         have hu92 := Aside0.mk hu
         clear hu
         refine ⟨_, rfl, ?_⟩
         simp only [Act.put, nm1, nm2, nm3, i64_w]
         refine wpList_plain rfl (fun Ko hKo => ?_)
         go_simp
         refine hKo _ _ ?_
         clear hKo Ko
         try simp only [Act.put, nm1, nm2, nm3, i64_w]
         refine wpList_plain rfl (fun Ko hKo => ?_)
         go_simp
         refine hKo _ _ ?_
         clear hKo Ko
         try simp only [Act.put, nm1, nm2, nm3, i64_w]
         refine wpList_plain rfl (fun Ko hKo => ?_)
         go_simp
         refine hKo _ _ ?_
         clear hKo Ko
         try simp only [Act.put, nm1, nm2, nm3, i64_w]
         refine wpList_plain rfl (fun Ko hKo => ?_)
         go_simp
         refine hKo _ _ ?_
         clear hKo Ko
         try simp only [Act.put, nm1, nm2, nm3, i64_w]
         refine wpList_plain rfl (fun Ko hKo => ?_)
         go_simp
         refine hKo _ _ ?_
         clear hKo Ko
         try simp only [Act.put, nm1, nm2, nm3, i64_w]
         refine wpList_plain rfl (fun Ko hKo => ?_)
         go_simp
         refine hKo _ _ ?_
         clear hKo Ko
         try simp only [Act.put, nm1, nm2, nm3, i64_w]
         refine wpList_plain rfl (fun Ko hKo => ?_)
         go_simp
         refine hKo _ _ ?_
         clear hKo Ko
         try simp only [Act.put, nm1, nm2, nm3, i64_w]
         refine wpList_nil ?_
         (try simp only [Exit.then, Exit.inBlock, ↓reduceIte, Nat.reduceEqDiff])
         refine hK82 _ _ ?_
         refine wp_seq_k (fun K93 hK93 => ?_)
         refine wp_seq_k (fun K94 hK94 => ?_)
         refine wp_region_lit ?_
         refine wpList_plain rfl (fun Ko hKo => ?_)
         go_simp
         refine hKo _ _ ?_
         clear hKo Ko
         try simp only [Act.put, nm1, nm2, nm3, i64_w]
         refine wpList_plain rfl (fun Ko hKo => ?_)
         go_simp
         refine hKo _ _ ?_
         clear hKo Ko
         try simp only [Act.put, nm1, nm2, nm3, i64_w]
         refine step_call (wanted_none rfl) (by first | (go_simp; done) | (go_simp; rfl)) (laws_eqInt64S.calls K P84 q85 t83 P4 q5 t3 true w91 ht83.rd ((ht3.up (((((((hu23.out.trans hu29.out).trans hu34.out).grow hg46.out (fun k hk => Nat.le_trans (Nat.le_refl _) ((fun k hk => (lb43.out k hk).1) k hk))).grow hg57.out (fun k hk => Nat.le_trans (Nat.le_refl _) ((fun k hk => (lb54.out k hk).1) k hk))).trans hu65.out).trans hu74.out).trans hu92.out)).rd) A96.out) ?_
         rintro e w97 ⟨rfl, hu⟩
         have hu98 := Aside0.mk hu
         clear hu
         refine ⟨_, rfl, ?_⟩
         simp only [Act.put, nm1, nm2, nm3, i64_w]
         refine wpList_plain rfl (fun Ko hKo => ?_)
         go_simp
         refine hKo _ _ ?_
         clear hKo Ko
         try simp only [Act.put, nm1, nm2, nm3, i64_w]
         refine wpList_plain rfl (fun Ko hKo => ?_)
         go_simp
         refine hKo _ _ ?_
         clear hKo Ko
         try simp only [Act.put, nm1, nm2, nm3, i64_w]
         refine wpList_step (fun Ko hKo => ?_)
         go_simp
         refine hKo _ _ ?_
         clear hKo Ko
         try simp only [Act.put, nm1, nm2, nm3, i64_w]
         refine wpList_step (fun Ko hKo => ?_)
         go_simp
         refine hKo _ _ ?_
         clear hKo Ko
         try simp only [Act.put, nm1, nm2, nm3, i64_w]
         refine step_call rfl (by first | (go_simp; done) | (go_simp; rfl)) (laws_eqInt64S.calls K P87 q88 t86 P7 q8 t6 false w97 ((ht86.up hu98.out).rd) ((ht6.up ((((((((hu23.out.trans hu29.out).trans hu34.out).grow hg46.out (fun k hk => Nat.le_trans (Nat.le_refl _) ((fun k hk => (lb43.out k hk).1) k hk))).grow hg57.out (fun k hk => Nat.le_trans (Nat.le_refl _) ((fun k hk => (lb54.out k hk).1) k hk))).trans hu65.out).trans hu74.out).trans hu92.out).trans hu98.out)).rd) A101.out) ?_
         rintro e w102 ⟨rfl, hu⟩
         have hu103 := Aside0.mk hu
         clear hu
         refine ⟨_, rfl, ?_⟩
         simp only [Act.put, nm1, nm2, nm3, i64_w]
         refine wpList_step (fun Ko hKo => ?_)
         go_simp
         refine hKo _ _ ?_
         clear hKo Ko
         try simp only [Act.put, nm1, nm2, nm3, i64_w]
         refine wpList_plain rfl (fun Ko hKo => ?_)
         go_simp
         refine hKo _ _ ?_
         clear hKo Ko
         try simp only [Act.put, nm1, nm2, nm3, i64_w]
         refine wpList_plain rfl (fun Ko hKo => ?_)
         go_simp
         refine hKo _ _ ?_
         clear hKo Ko
         try simp only [Act.put, nm1, nm2, nm3, i64_w]
         refine step_no rfl ?_
         simp only [Act.put, nm1, nm2, nm3, i64_w]
         refine step_no rfl ?_
         simp only [Act.put, nm1, nm2, nm3, i64_w]
         refine step_no rfl ?_
         simp only [Act.put, nm1, nm2, nm3, i64_w]
         refine wpList_plain rfl (fun Ko hKo => ?_)
         go_simp
         refine hKo _ _ ?_
         clear hKo Ko
         try simp only [Act.put, nm1, nm2, nm3, i64_w]
         refine wpList_nil ?_
         (try simp only [Exit.then, Exit.inBlock, ↓reduceIte, Nat.reduceEqDiff])
         refine hK94 _ _ ?_
         refine wp_cond_true rfl ?_
         refine wp_seq_k (fun K131 hK131 => ?_)
         refine wp_region_lit ?_
         refine wpList_plain rfl (fun Ko hKo => ?_)
         go_simp
         refine hKo _ _ ?_
         clear hKo Ko
         try simp only [Act.put, nm1, nm2, nm3, i64_w]
         refine wpList_nil ?_
         (try simp only [Exit.then, Exit.inBlock, ↓reduceIte, Nat.reduceEqDiff])
         refine hK131 _ _ ?_
         refine wp_ret ?_
         (try simp only [Exit.then, Exit.inBlock, ↓reduceIte, Nat.reduceEqDiff])
         refine hQf _ _ _ ?_
         exact bodyPost_ret (v := .bool false) (by first | rfl | (simp [results, Try.results13, go_sem]; done) | (simp [results, Try.results13, go_sem]; rfl)) rfl ⟨rfl, ((((((((((hu12.out.trans hu23.out).trans hu29.out).trans hu34.out).grow hg46.out (fun k hk => Nat.le_trans (hu12.out.size) ((fun k hk => (lb43.out k hk).1) k hk))).grow hg57.out (fun k hk => Nat.le_trans (hu12.out.size) ((fun k hk => (lb54.out k hk).1) k hk))).trans hu65.out).trans hu74.out).trans hu92.out).trans hu98.out).trans hu103.out)⟩
       ·
        rw [if_neg c99] at H
        replace c99 := Bool.eq_false_iff.mpr c99
        subst c99
        obtain rfl := Option.some.inj H
        go_enter Try.func13, Try.ntmps13
        refine wp_hide (fun Qf hQf => ?_)
        refine wp_seq_k (fun K1 hK1 => ?_)
        refine wp_region_lit ?_
        refine wpList_plain rfl (fun Ko hKo => ?_)
        go_simp
        refine hKo _ _ ?_
        clear hKo Ko
        try simp only [Act.put, nm1, nm2, nm3, i64_w]
        refine wpList_nil ?_
        (try simp only [Exit.then, Exit.inBlock, ↓reduceIte, Nat.reduceEqDiff])
        refine hK1 _ _ ?_
        refine wp_seq_k (fun K2 hK2 => ?_)
        refine wp_region_lit ?_
        refine wpList_plain rfl (fun Ko hKo => ?_)
        go_simp
        refine hKo _ _ ?_
        clear hKo Ko
        try simp only [Act.put, nm1, nm2, nm3, i64_w]
        refine step_call (wanted_none rfl) (by first | (go_simp; done) | (go_simp; rfl)) (spec_OrdersOf.calls K a0 t3 t6 t9 w  A10.out) ?_
        rintro e w11 ⟨P4, q5, P7, q8, rfl, ht3, ht6, hnt3_t6, hu⟩
        have hu12 := Aside0.mk hu
        clear hu
        refine ⟨_, rfl, ?_⟩
        simp only [Act.put, nm1, nm2, nm3, i64_w]
        refine wpList_plain rfl (fun Ko hKo => ?_)
        go_simp
        refine hKo _ _ ?_
        clear hKo Ko
        try simp only [Act.put, nm1, nm2, nm3, i64_w]
        refine wpList_plain rfl (fun Ko hKo => ?_)
        go_simp
        refine hKo _ _ ?_
        clear hKo Ko
        try simp only [Act.put, nm1, nm2, nm3, i64_w]
        refine wpList_plain rfl (fun Ko hKo => ?_)
        go_simp
        refine hKo _ _ ?_
        clear hKo Ko
        try simp only [Act.put, nm1, nm2, nm3, i64_w]
        refine wpList_plain rfl (fun Ko hKo => ?_)
        go_simp
        refine hKo _ _ ?_
        clear hKo Ko
        try simp only [Act.put, nm1, nm2, nm3, i64_w]
        refine wpList_plain rfl (fun Ko hKo => ?_)
        go_simp
        refine hKo _ _ ?_
        clear hKo Ko
        try simp only [Act.put, nm1, nm2, nm3, i64_w]
        refine wpList_plain rfl (fun Ko hKo => ?_)
        go_simp
        refine hKo _ _ ?_
        clear hKo Ko
        try simp only [Act.put, nm1, nm2, nm3, i64_w]
        refine wpList_plain rfl (fun Ko hKo => ?_)
        go_simp
        refine hKo _ _ ?_
        clear hKo Ko
        try simp only [Act.put, nm1, nm2, nm3, i64_w]
        refine wpList_nil ?_
        (try simp only [Exit.then, Exit.inBlock, ↓reduceIte, Nat.reduceEqDiff])
        refine hK2 _ _ ?_
        refine wp_seq_k (fun K13 hK13 => ?_)
        refine wp_region_lit ?_
        refine wpList_plain rfl (fun Ko hKo => ?_)
        go_simp
        refine hKo _ _ ?_
        clear hKo Ko
        try simp only [Act.put, nm1, nm2, nm3, i64_w]
        refine step_call (wanted_none rfl) (by first | (go_simp; done) | (go_simp; rfl)) (impl_OrdersOf.calls K a0 t14 t17 t20 w11  A21.out) ?_
        rintro e w22 ⟨P15, q16, P18, q19, rfl, ht14, ht17, hnt14_t17, hu⟩
        have hu23 := Aside0.mk hu
        clear hu
        refine ⟨_, rfl, ?_⟩
        simp only [Act.put, nm1, nm2, nm3, i64_w]
        refine wpList_plain rfl (fun Ko hKo => ?_)
        go_simp
        refine hKo _ _ ?_
        clear hKo Ko
        try simp only [Act.put, nm1, nm2, nm3, i64_w]
        refine wpList_plain rfl (fun Ko hKo => ?_)
        go_simp
        refine hKo _ _ ?_
        clear hKo Ko
        try simp only [Act.put, nm1, nm2, nm3, i64_w]
        refine wpList_plain rfl (fun Ko hKo => ?_)
        go_simp
        refine hKo _ _ ?_
        clear hKo Ko
        try simp only [Act.put, nm1, nm2, nm3, i64_w]
        refine wpList_plain rfl (fun Ko hKo => ?_)
        go_simp
        refine hKo _ _ ?_
        clear hKo Ko
        try simp only [Act.put, nm1, nm2, nm3, i64_w]
        refine wpList_plain rfl (fun Ko hKo => ?_)
        go_simp
        refine hKo _ _ ?_
        clear hKo Ko
        try simp only [Act.put, nm1, nm2, nm3, i64_w]
        refine wpList_plain rfl (fun Ko hKo => ?_)
        go_simp
        refine hKo _ _ ?_
        clear hKo Ko
        try simp only [Act.put, nm1, nm2, nm3, i64_w]
        refine wpList_plain rfl (fun Ko hKo => ?_)
        go_simp
        refine hKo _ _ ?_
        clear hKo Ko
        try simp only [Act.put, nm1, nm2, nm3, i64_w]
        refine wpList_nil ?_
        (try simp only [Exit.then, Exit.inBlock, ↓reduceIte, Nat.reduceEqDiff])
        refine hK13 _ _ ?_
        refine wp_seq_k (fun K24 hK24 => ?_)
        refine wp_seq_k (fun K25 hK25 => ?_)
        refine wp_region_lit ?_
        refine wpList_plain rfl (fun Ko hKo => ?_)
        go_simp
        refine hKo _ _ ?_
        clear hKo Ko
        try simp only [Act.put, nm1, nm2, nm3, i64_w]
        refine wpList_plain rfl (fun Ko hKo => ?_)
        go_simp
        refine hKo _ _ ?_
        clear hKo Ko
        try simp only [Act.put, nm1, nm2, nm3, i64_w]
        refine step_call (wanted_none rfl) (by first | (go_simp; done) | (go_simp; rfl)) (laws_eqInt64S.calls K P15 q16 t14 P4 q5 t3 true w22 ht14.rd ((ht3.up hu23.out).rd) A27.out) ?_
        rintro e w28 ⟨rfl, hu⟩
        have hu29 := Aside0.mk hu
        clear hu
        refine ⟨_, rfl, ?_⟩
        simp only [Act.put, nm1, nm2, nm3, i64_w]
        refine wpList_plain rfl (fun Ko hKo => ?_)
        go_simp
        refine hKo _ _ ?_
        clear hKo Ko
        try simp only [Act.put, nm1, nm2, nm3, i64_w]
        refine wpList_plain rfl (fun Ko hKo => ?_)
        go_simp
        refine hKo _ _ ?_
        clear hKo Ko
        try simp only [Act.put, nm1, nm2, nm3, i64_w]
        refine wpList_step (fun Ko hKo => ?_)
        go_simp
        refine hKo _ _ ?_
        clear hKo Ko
        try simp only [Act.put, nm1, nm2, nm3, i64_w]
        refine wpList_step (fun Ko hKo => ?_)
        go_simp
        refine hKo _ _ ?_
        clear hKo Ko
        try simp only [Act.put, nm1, nm2, nm3, i64_w]
        refine step_call rfl (by first | (go_simp; done) | (go_simp; rfl)) (laws_eqInt64S.calls K P18 q19 t17 P7 q8 t6 true w28 ((ht17.up hu29.out).rd) ((ht6.up (hu23.out.trans hu29.out)).rd) A32.out) ?_
        rintro e w33 ⟨rfl, hu⟩
        have hu34 := Aside0.mk hu
        clear hu
        refine ⟨_, rfl, ?_⟩
        simp only [Act.put, nm1, nm2, nm3, i64_w]
        refine wpList_step (fun Ko hKo => ?_)
        go_simp
        refine hKo _ _ ?_
        clear hKo Ko
        try simp only [Act.put, nm1, nm2, nm3, i64_w]
        refine wpList_plain rfl (fun Ko hKo => ?_)
        go_simp
        refine hKo _ _ ?_
        clear hKo Ko
        try simp only [Act.put, nm1, nm2, nm3, i64_w]
        refine wpList_plain rfl (fun Ko hKo => ?_)
        go_simp
        refine hKo _ _ ?_
        clear hKo Ko
        try simp only [Act.put, nm1, nm2, nm3, i64_w]
        refine wpList_step (fun Ko hKo => ?_)
        go_simp
        refine hKo _ _ ?_
        clear hKo Ko
        try simp only [Act.put, nm1, nm2, nm3, i64_w]
        refine wpList_step (fun Ko hKo => ?_)
        go_simp
        refine hKo _ _ ?_
        clear hKo Ko
        try simp only [Act.put, nm1, nm2, nm3, i64_w]
        refine wpList_step (fun Ko hKo => ?_)
        go_simp
        refine hKo _ _ ?_
        clear hKo Ko
        try simp only [Act.put, nm1, nm2, nm3, i64_w]
        refine wpList_plain rfl (fun Ko hKo => ?_)
        go_simp
        refine hKo _ _ ?_
        clear hKo Ko
        try simp only [Act.put, nm1, nm2, nm3, i64_w]
        refine wpList_nil ?_
        (try simp only [Exit.then, Exit.inBlock, ↓reduceIte, Nat.reduceEqDiff])
        refine hK25 _ _ ?_
        refine wp_cond_false rfl ?_
        refine wp_skip ?_
        (try simp only [Exit.then, Exit.inBlock, ↓reduceIte, Nat.reduceEqDiff])
        refine hK24 _ _ ?_
        refine wp_seq_k (fun K37 hK37 => ?_)
        refine wp_region_lit ?_
        refine wpList_plain rfl (fun Ko hKo => ?_)
        go_simp
        refine hKo _ _ ?_
        clear hKo Ko
        try simp only [Act.put, nm1, nm2, nm3, i64_w]
        refine wpList_nil ?_
        (try simp only [Exit.then, Exit.inBlock, ↓reduceIte, Nat.reduceEqDiff])
        refine hK37 _ _ ?_
        refine wp_seq_k (fun K38 hK38 => ?_)
        refine wp_region_lit ?_
        refine wpList_plain rfl (fun Ko hKo => ?_)
        go_simp
        refine hKo _ _ ?_
        clear hKo Ko
        try simp only [Act.put, nm1, nm2, nm3, i64_w]
        refine wpList_plain rfl (fun Ko hKo => ?_)
        go_simp
        refine hKo _ _ ?_
        clear hKo Ko
        try simp only [Act.put, nm1, nm2, nm3, i64_w]
        refine step_call (wanted_none rfl) (by first | (go_simp; done) | (go_simp; rfl)) (laws_markInt64S.calls K P15 q16 w11.heap.size t14 1 t39 t40 w33 (ht14.up (hu29.out.trans hu34.out)) A41.out) ?_
        have lb43 := Aside0.mk (ht14.up (hu29.out.trans hu34.out)).lt
        rintro e w42 ⟨rfl, h44, hl, hg⟩
        have hg46 := Aside0.mk hg
        have hl45 := hl
        clear hg hl
        have h47 := (ht17.up (hu29.out.trans hu34.out)).grow hg46.out hnt14_t17
        have hl48 : Aside0 (t14.length = t40.length) := Aside0.mk hl45.out
        refine ⟨_, rfl, ?_⟩
        simp only [Act.put, nm1, nm2, nm3, i64_w]
        refine wpList_plain rfl (fun Ko hKo => ?_)
        go_simp
        refine hKo _ _ ?_
        clear hKo Ko
        try simp only [Act.put, nm1, nm2, nm3, i64_w]
        refine wpList_nil ?_
        (try simp only [Exit.then, Exit.inBlock, ↓reduceIte, Nat.reduceEqDiff])
        refine hK38 _ _ ?_
        refine wp_seq_k (fun K49 hK49 => ?_)
        refine wp_region_lit ?_
        refine wpList_plain rfl (fun Ko hKo => ?_)
        go_simp
        refine hKo _ _ ?_
        clear hKo Ko
        try simp only [Act.put, nm1, nm2, nm3, i64_w]
        refine wpList_plain rfl (fun Ko hKo => ?_)
        go_simp
        refine hKo _ _ ?_
        clear hKo Ko
        try simp only [Act.put, nm1, nm2, nm3, i64_w]
        refine step_call (wanted_none rfl) (by first | (go_simp; done) | (go_simp; rfl)) (laws_markInt64S.calls K P18 q19 w11.heap.size t17 t39 t50 t51 w42 h47 A52.out) ?_
        have lb54 := Aside0.mk h47.lt
        rintro e w53 ⟨rfl, h55, hl, hg⟩
        have hg57 := Aside0.mk hg
        have hl56 := hl
        clear hg hl
        have h58 := h44.grow hg57.out (fun k l hk hl => Ne.symm ((fun k l hk hl => hnt14_t17 k l (blk_len.symm.trans hk) hl) l k hl hk))
        have hl59 : Aside0 (t17.length = t51.length) := Aside0.mk hl56.out
        refine ⟨_, rfl, ?_⟩
        simp only [Act.put, nm1, nm2, nm3, i64_w]
        refine wpList_plain rfl (fun Ko hKo => ?_)
        go_simp
        refine hKo _ _ ?_
        clear hKo Ko
        try simp only [Act.put, nm1, nm2, nm3, i64_w]
        refine wpList_nil ?_
        (try simp only [Exit.then, Exit.inBlock, ↓reduceIte, Nat.reduceEqDiff])
        refine hK49 _ _ ?_
        refine wp_seq_k (fun K60 hK60 => ?_)
        refine wp_region_lit ?_
        refine wpList_plain rfl (fun Ko hKo => ?_)
        go_simp
        refine hKo _ _ ?_
        clear hKo Ko
        try simp only [Act.put, nm1, nm2, nm3, i64_w]
        refine wpList_nil ?_
        (try simp only [Exit.then, Exit.inBlock, ↓reduceIte, Nat.reduceEqDiff])
        refine hK60 _ _ ?_
        refine wp_seq_k (fun K61 hK61 => ?_)
        refine wp_region_lit ?_
        refine wpList_plain rfl (fun Ko hKo => ?_)
        go_simp
        refine hKo _ _ ?_
        clear hKo Ko
        try simp only [Act.put, nm1, nm2, nm3, i64_w]
        refine wpList_plain rfl (fun Ko hKo => ?_)
        go_simp
        refine hKo _ _ ?_
        clear hKo Ko
        try simp only [Act.put, nm1, nm2, nm3, i64_w]
        refine step_call (wanted_none rfl) (by first | (go_simp; done) | (go_simp; rfl)) (Eq.mp (congrArg (fun n_ => Calls Try.prog 29 #[.slice P15 n_ q16, .int .i64 1] w53 _) (Eq.symm hl48.out)) (laws_heldInt64S.calls K P15 q16 t40 1 t62 w53 h58.rd A63.out)) ?_
        rintro e w64 ⟨rfl, hu⟩
        have hu65 := Aside0.mk hu
        clear hu
        refine ⟨_, rfl, ?_⟩
        simp only [Act.put, nm1, nm2, nm3, i64_w]
        refine wpList_plain rfl (fun Ko hKo => ?_)
        go_simp
        refine hKo _ _ ?_
        clear hKo Ko
        try simp only [Act.put, nm1, nm2, nm3, i64_w]
        refine wpList_nil ?_
        (try simp only [Exit.then, Exit.inBlock, ↓reduceIte, Nat.reduceEqDiff])
        refine hK61 _ _ ?_
        refine wp_seq_k (fun K66 hK66 => ?_)
        refine wp_seq_k (fun K67 hK67 => ?_)
        refine wp_region_lit ?_
        refine wpList_plain rfl (fun Ko hKo => ?_)
        go_simp
        refine hKo _ _ ?_
        clear hKo Ko
        try simp only [Act.put, nm1, nm2, nm3, i64_w]
        refine wpList_plain rfl (fun Ko hKo => ?_)
        go_simp
        refine hKo _ _ ?_
        clear hKo Ko
        try simp only [Act.put, nm1, nm2, nm3, i64_w]
        refine wpList_nil ?_
        (try simp only [Exit.then, Exit.inBlock, ↓reduceIte, Nat.reduceEqDiff])
        refine hK67 _ _ ?_
        refine wp_cond_false rfl ?_
        refine wp_skip ?_
        (try simp only [Exit.then, Exit.inBlock, ↓reduceIte, Nat.reduceEqDiff])
        refine hK66 _ _ ?_
        refine wp_seq_k (fun K70 hK70 => ?_)
        refine wp_region_lit ?_
        refine wpList_plain rfl (fun Ko hKo => ?_)
        go_simp
        refine hKo _ _ ?_
        clear hKo Ko
        try simp only [Act.put, nm1, nm2, nm3, i64_w]
        refine wpList_plain rfl (fun Ko hKo => ?_)
        go_simp
        refine hKo _ _ ?_
        clear hKo Ko
        try simp only [Act.put, nm1, nm2, nm3, i64_w]
        refine step_call (wanted_none rfl) (by first | (go_simp; done) | (go_simp; rfl)) (Eq.mp (congrArg (fun n_ => Calls Try.prog 29 #[.slice P18 n_ q19, .int .i64 t62] w64 _) (Eq.symm hl59.out)) (laws_heldInt64S.calls K P18 q19 t51 t62 t71 w64 ((h55.up hu65.out).rd) A72.out)) ?_
        rintro e w73 ⟨rfl, hu⟩
        have hu74 := Aside0.mk hu
        clear hu
        refine ⟨_, rfl, ?_⟩
        simp only [Act.put, nm1, nm2, nm3, i64_w]
        refine wpList_plain rfl (fun Ko hKo => ?_)
        go_simp
        refine hKo _ _ ?_
        clear hKo Ko
        try simp only [Act.put, nm1, nm2, nm3, i64_w]
        refine wpList_nil ?_
        (try simp only [Exit.then, Exit.inBlock, ↓reduceIte, Nat.reduceEqDiff])
        refine hK70 _ _ ?_
        refine wp_seq_k (fun K75 hK75 => ?_)
        refine wp_seq_k (fun K76 hK76 => ?_)
        refine wp_region_lit ?_
        refine wpList_plain rfl (fun Ko hKo => ?_)
        go_simp
        refine hKo _ _ ?_
        clear hKo Ko
        try simp only [Act.put, nm1, nm2, nm3, i64_w]
        refine wpList_plain rfl (fun Ko hKo => ?_)
        go_simp
        refine hKo _ _ ?_
        clear hKo Ko
        try simp only [Act.put, nm1, nm2, nm3, i64_w]
        refine wpList_nil ?_
        (try simp only [Exit.then, Exit.inBlock, ↓reduceIte, Nat.reduceEqDiff])
        refine hK76 _ _ ?_
        refine wp_cond_false rfl ?_
        refine wp_skip ?_
        (try simp only [Exit.then, Exit.inBlock, ↓reduceIte, Nat.reduceEqDiff])
        refine hK75 _ _ ?_
        refine wp_seq_k (fun K79 hK79 => ?_)
        refine wp_seq_k (fun K80 hK80 => ?_)
        refine wp_region_lit ?_
        refine wpList_plain rfl (fun Ko hKo => ?_)
        go_simp
        refine hKo _ _ ?_
        clear hKo Ko
        try simp only [Act.put, nm1, nm2, nm3, i64_w]
        refine wpList_plain rfl (fun Ko hKo => ?_)
        go_simp
        refine hKo _ _ ?_
        clear hKo Ko
        try simp only [Act.put, nm1, nm2, nm3, i64_w]
        refine wpList_plain rfl (fun Ko hKo => ?_)
        go_simp
        refine hKo _ _ ?_
        clear hKo Ko
        try simp only [Act.put, nm1, nm2, nm3, i64_w]
        refine wpList_nil ?_
        (try simp only [Exit.then, Exit.inBlock, ↓reduceIte, Nat.reduceEqDiff])
        refine hK80 _ _ ?_
        refine wp_cond_false rfl ?_
        refine wp_skip ?_
        (try simp only [Exit.then, Exit.inBlock, ↓reduceIte, Nat.reduceEqDiff])
        refine hK79 _ _ ?_
        refine wp_seq_k (fun K82 hK82 => ?_)
        refine wp_region_lit ?_
        refine wpList_plain rfl (fun Ko hKo => ?_)
        go_simp
        refine hKo _ _ ?_
        clear hKo Ko
        try simp only [Act.put, nm1, nm2, nm3, i64_w]
        refine step_call (wanted_none rfl) (by first | (go_simp; done) | (go_simp; rfl)) (impl_OrdersOf.calls K a0 t83 t86 t89 w73  A90.out) ?_
        rintro e w91 ⟨P84, q85, P87, q88, rfl, ht83, ht86, hnt83_t86, hu⟩
        have hu92 := Aside0.mk hu
        clear hu
        refine ⟨_, rfl, ?_⟩
        simp only [Act.put, nm1, nm2, nm3, i64_w]
        refine wpList_plain rfl (fun Ko hKo => ?_)
        go_simp
        refine hKo _ _ ?_
        clear hKo Ko
        try simp only [Act.put, nm1, nm2, nm3, i64_w]
        refine wpList_plain rfl (fun Ko hKo => ?_)
        go_simp
        refine hKo _ _ ?_
        clear hKo Ko
        try simp only [Act.put, nm1, nm2, nm3, i64_w]
        refine wpList_plain rfl (fun Ko hKo => ?_)
        go_simp
        refine hKo _ _ ?_
        clear hKo Ko
        try simp only [Act.put, nm1, nm2, nm3, i64_w]
        refine wpList_plain rfl (fun Ko hKo => ?_)
        go_simp
        refine hKo _ _ ?_
        clear hKo Ko
        try simp only [Act.put, nm1, nm2, nm3, i64_w]
        refine wpList_plain rfl (fun Ko hKo => ?_)
        go_simp
        refine hKo _ _ ?_
        clear hKo Ko
        try simp only [Act.put, nm1, nm2, nm3, i64_w]
        refine wpList_plain rfl (fun Ko hKo => ?_)
        go_simp
        refine hKo _ _ ?_
        clear hKo Ko
        try simp only [Act.put, nm1, nm2, nm3, i64_w]
        refine wpList_plain rfl (fun Ko hKo => ?_)
        go_simp
        refine hKo _ _ ?_
        clear hKo Ko
        try simp only [Act.put, nm1, nm2, nm3, i64_w]
        refine wpList_nil ?_
        (try simp only [Exit.then, Exit.inBlock, ↓reduceIte, Nat.reduceEqDiff])
        refine hK82 _ _ ?_
        refine wp_seq_k (fun K93 hK93 => ?_)
        refine wp_seq_k (fun K94 hK94 => ?_)
        refine wp_region_lit ?_
        refine wpList_plain rfl (fun Ko hKo => ?_)
        go_simp
        refine hKo _ _ ?_
        clear hKo Ko
        try simp only [Act.put, nm1, nm2, nm3, i64_w]
        refine wpList_plain rfl (fun Ko hKo => ?_)
        go_simp
        refine hKo _ _ ?_
        clear hKo Ko
        try simp only [Act.put, nm1, nm2, nm3, i64_w]
        refine step_call (wanted_none rfl) (by first | (go_simp; done) | (go_simp; rfl)) (laws_eqInt64S.calls K P84 q85 t83 P4 q5 t3 false w91 ht83.rd ((ht3.up (((((((hu23.out.trans hu29.out).trans hu34.out).grow hg46.out (fun k hk => Nat.le_trans (Nat.le_refl _) ((fun k hk => (lb43.out k hk).1) k hk))).grow hg57.out (fun k hk => Nat.le_trans (Nat.le_refl _) ((fun k hk => (lb54.out k hk).1) k hk))).trans hu65.out).trans hu74.out).trans hu92.out)).rd) A96.out) ?_
        rintro e w97 ⟨rfl, hu⟩
        have hu98 := Aside0.mk hu
        clear hu
        refine ⟨_, rfl, ?_⟩
        simp only [Act.put, nm1, nm2, nm3, i64_w]
        refine wpList_plain rfl (fun Ko hKo => ?_)
        go_simp
        refine hKo _ _ ?_
        clear hKo Ko
        try simp only [Act.put, nm1, nm2, nm3, i64_w]
        refine wpList_plain rfl (fun Ko hKo => ?_)
        go_simp
        refine hKo _ _ ?_
        clear hKo Ko
        try simp only [Act.put, nm1, nm2, nm3, i64_w]
        refine step_no rfl ?_
        simp only [Act.put, nm1, nm2, nm3, i64_w]
        refine step_no rfl ?_
        simp only [Act.put, nm1, nm2, nm3, i64_w]
        refine step_no rfl ?_
        simp only [Act.put, nm1, nm2, nm3, i64_w]
        refine step_no rfl ?_
        simp only [Act.put, nm1, nm2, nm3, i64_w]
        refine wpList_plain rfl (fun Ko hKo => ?_)
        go_simp
        refine hKo _ _ ?_
        clear hKo Ko
        try simp only [Act.put, nm1, nm2, nm3, i64_w]
        refine wpList_plain rfl (fun Ko hKo => ?_)
        go_simp
        refine hKo _ _ ?_
        clear hKo Ko
        try simp only [Act.put, nm1, nm2, nm3, i64_w]
        refine step_no rfl ?_
        simp only [Act.put, nm1, nm2, nm3, i64_w]
        refine step_no rfl ?_
        simp only [Act.put, nm1, nm2, nm3, i64_w]
        refine step_no rfl ?_
        simp only [Act.put, nm1, nm2, nm3, i64_w]
        refine wpList_plain rfl (fun Ko hKo => ?_)
        go_simp
        refine hKo _ _ ?_
        clear hKo Ko
        try simp only [Act.put, nm1, nm2, nm3, i64_w]
        refine wpList_nil ?_
        (try simp only [Exit.then, Exit.inBlock, ↓reduceIte, Nat.reduceEqDiff])
        refine hK94 _ _ ?_
        refine wp_cond_true rfl ?_
        refine wp_seq_k (fun K132 hK132 => ?_)
        refine wp_region_lit ?_
        refine wpList_plain rfl (fun Ko hKo => ?_)
        go_simp
        refine hKo _ _ ?_
        clear hKo Ko
        try simp only [Act.put, nm1, nm2, nm3, i64_w]
        refine wpList_nil ?_
        (try simp only [Exit.then, Exit.inBlock, ↓reduceIte, Nat.reduceEqDiff])
        refine hK132 _ _ ?_
        refine wp_ret ?_
        (try simp only [Exit.then, Exit.inBlock, ↓reduceIte, Nat.reduceEqDiff])
        refine hQf _ _ _ ?_
        exact bodyPost_ret (v := .bool false) (by first | rfl | (simp [results, Try.results13, go_sem]; done) | (simp [results, Try.results13, go_sem]; rfl)) rfl ⟨rfl, (((((((((hu12.out.trans hu23.out).trans hu29.out).trans hu34.out).grow hg46.out (fun k hk => Nat.le_trans (hu12.out.size) ((fun k hk => (lb43.out k hk).1) k hk))).grow hg57.out (fun k hk => Nat.le_trans (hu12.out.size) ((fun k hk => (lb54.out k hk).1) k hk))).trans hu65.out).trans hu74.out).trans hu92.out).trans hu98.out)⟩
      ·
       rw [if_neg c81] at H
       replace c81 := Bool.eq_false_iff.mpr c81
       have c81n : (t71 != t50) = true := by rw [bne, c81]; rfl
       have c81p : ¬ t71 = t50 := fun e => by simp [e] at c81
       obtain rfl := Option.some.inj H
       go_enter Try.func13, Try.ntmps13
       refine wp_hide (fun Qf hQf => ?_)
       refine wp_seq_k (fun K1 hK1 => ?_)
       refine wp_region_lit ?_
       refine wpList_plain rfl (fun Ko hKo => ?_)
       go_simp
       refine hKo _ _ ?_
       clear hKo Ko
       try simp only [Act.put, nm1, nm2, nm3, i64_w]
       refine wpList_nil ?_
       (try simp only [Exit.then, Exit.inBlock, ↓reduceIte, Nat.reduceEqDiff])
       refine hK1 _ _ ?_
       refine wp_seq_k (fun K2 hK2 => ?_)
       refine wp_region_lit ?_
       refine wpList_plain rfl (fun Ko hKo => ?_)
       go_simp
       refine hKo _ _ ?_
       clear hKo Ko
       try simp only [Act.put, nm1, nm2, nm3, i64_w]
       refine step_call (wanted_none rfl) (by first | (go_simp; done) | (go_simp; rfl)) (spec_OrdersOf.calls K a0 t3 t6 t9 w  A10.out) ?_
       rintro e w11 ⟨P4, q5, P7, q8, rfl, ht3, ht6, hnt3_t6, hu⟩
       have hu12 := Aside0.mk hu
       clear hu
       refine ⟨_, rfl, ?_⟩
       simp only [Act.put, nm1, nm2, nm3, i64_w]
       refine wpList_plain rfl (fun Ko hKo => ?_)
       go_simp
       refine hKo _ _ ?_
       clear hKo Ko
       try simp only [Act.put, nm1, nm2, nm3, i64_w]
       refine wpList_plain rfl (fun Ko hKo => ?_)
       go_simp
       refine hKo _ _ ?_
       clear hKo Ko
       try simp only [Act.put, nm1, nm2, nm3, i64_w]
       refine wpList_plain rfl (fun Ko hKo => ?_)
       go_simp
       refine hKo _ _ ?_
       clear hKo Ko
       try simp only [Act.put, nm1, nm2, nm3, i64_w]
       refine wpList_plain rfl (fun Ko hKo => ?_)
       go_simp
       refine hKo _ _ ?_
       clear hKo Ko
       try simp only [Act.put, nm1, nm2, nm3, i64_w]
       refine wpList_plain rfl (fun Ko hKo => ?_)
       go_simp
       refine hKo _ _ ?_
       clear hKo Ko
       try simp only [Act.put, nm1, nm2, nm3, i64_w]
       refine wpList_plain rfl (fun Ko hKo => ?_)
       go_simp
       refine hKo _ _ ?_
       clear hKo Ko
       try simp only [Act.put, nm1, nm2, nm3, i64_w]
       refine wpList_plain rfl (fun Ko hKo => ?_)
       go_simp
       refine hKo _ _ ?_
       clear hKo Ko
       try simp only [Act.put, nm1, nm2, nm3, i64_w]
       refine wpList_nil ?_
       (try simp only [Exit.then, Exit.inBlock, ↓reduceIte, Nat.reduceEqDiff])
       refine hK2 _ _ ?_
       refine wp_seq_k (fun K13 hK13 => ?_)
       refine wp_region_lit ?_
       refine wpList_plain rfl (fun Ko hKo => ?_)
       go_simp
       refine hKo _ _ ?_
       clear hKo Ko
       try simp only [Act.put, nm1, nm2, nm3, i64_w]
       refine step_call (wanted_none rfl) (by first | (go_simp; done) | (go_simp; rfl)) (impl_OrdersOf.calls K a0 t14 t17 t20 w11  A21.out) ?_
       rintro e w22 ⟨P15, q16, P18, q19, rfl, ht14, ht17, hnt14_t17, hu⟩
       have hu23 := Aside0.mk hu
       clear hu
       refine ⟨_, rfl, ?_⟩
       simp only [Act.put, nm1, nm2, nm3, i64_w]
       refine wpList_plain rfl (fun Ko hKo => ?_)
       go_simp
       refine hKo _ _ ?_
       clear hKo Ko
       try simp only [Act.put, nm1, nm2, nm3, i64_w]
       refine wpList_plain rfl (fun Ko hKo => ?_)
       go_simp
       refine hKo _ _ ?_
       clear hKo Ko
       try simp only [Act.put, nm1, nm2, nm3, i64_w]
       refine wpList_plain rfl (fun Ko hKo => ?_)
       go_simp
       refine hKo _ _ ?_
       clear hKo Ko
       try simp only [Act.put, nm1, nm2, nm3, i64_w]
       refine wpList_plain rfl (fun Ko hKo => ?_)
       go_simp
       refine hKo _ _ ?_
       clear hKo Ko
       try simp only [Act.put, nm1, nm2, nm3, i64_w]
       refine wpList_plain rfl (fun Ko hKo => ?_)
       go_simp
       refine hKo _ _ ?_
       clear hKo Ko
       try simp only [Act.put, nm1, nm2, nm3, i64_w]
       refine wpList_plain rfl (fun Ko hKo => ?_)
       go_simp
       refine hKo _ _ ?_
       clear hKo Ko
       try simp only [Act.put, nm1, nm2, nm3, i64_w]
       refine wpList_plain rfl (fun Ko hKo => ?_)
       go_simp
       refine hKo _ _ ?_
       clear hKo Ko
       try simp only [Act.put, nm1, nm2, nm3, i64_w]
       refine wpList_nil ?_
       (try simp only [Exit.then, Exit.inBlock, ↓reduceIte, Nat.reduceEqDiff])
       refine hK13 _ _ ?_
       refine wp_seq_k (fun K24 hK24 => ?_)
       refine wp_seq_k (fun K25 hK25 => ?_)
       refine wp_region_lit ?_
       refine wpList_plain rfl (fun Ko hKo => ?_)
       go_simp
       refine hKo _ _ ?_
       clear hKo Ko
       try simp only [Act.put, nm1, nm2, nm3, i64_w]
       refine wpList_plain rfl (fun Ko hKo => ?_)
       go_simp
       refine hKo _ _ ?_
       clear hKo Ko
       try simp only [Act.put, nm1, nm2, nm3, i64_w]
       refine step_call (wanted_none rfl) (by first | (go_simp; done) | (go_simp; rfl)) (laws_eqInt64S.calls K P15 q16 t14 P4 q5 t3 true w22 ht14.rd ((ht3.up hu23.out).rd) A27.out) ?_
       rintro e w28 ⟨rfl, hu⟩
       have hu29 := Aside0.mk hu
       clear hu
       refine ⟨_, rfl, ?_⟩
       simp only [Act.put, nm1, nm2, nm3, i64_w]
       refine wpList_plain rfl (fun Ko hKo => ?_)
       go_simp
       refine hKo _ _ ?_
       clear hKo Ko
       try simp only [Act.put, nm1, nm2, nm3, i64_w]
       refine wpList_plain rfl (fun Ko hKo => ?_)
       go_simp
       refine hKo _ _ ?_
       clear hKo Ko
       try simp only [Act.put, nm1, nm2, nm3, i64_w]
       refine wpList_step (fun Ko hKo => ?_)
       go_simp
       refine hKo _ _ ?_
       clear hKo Ko
       try simp only [Act.put, nm1, nm2, nm3, i64_w]
       refine wpList_step (fun Ko hKo => ?_)
       go_simp
       refine hKo _ _ ?_
       clear hKo Ko
       try simp only [Act.put, nm1, nm2, nm3, i64_w]
       refine step_call rfl (by first | (go_simp; done) | (go_simp; rfl)) (laws_eqInt64S.calls K P18 q19 t17 P7 q8 t6 true w28 ((ht17.up hu29.out).rd) ((ht6.up (hu23.out.trans hu29.out)).rd) A32.out) ?_
       rintro e w33 ⟨rfl, hu⟩
       have hu34 := Aside0.mk hu
       clear hu
       refine ⟨_, rfl, ?_⟩
       simp only [Act.put, nm1, nm2, nm3, i64_w]
       refine wpList_step (fun Ko hKo => ?_)
       go_simp
       refine hKo _ _ ?_
       clear hKo Ko
       try simp only [Act.put, nm1, nm2, nm3, i64_w]
       refine wpList_plain rfl (fun Ko hKo => ?_)
       go_simp
       refine hKo _ _ ?_
       clear hKo Ko
       try simp only [Act.put, nm1, nm2, nm3, i64_w]
       refine wpList_plain rfl (fun Ko hKo => ?_)
       go_simp
       refine hKo _ _ ?_
       clear hKo Ko
       try simp only [Act.put, nm1, nm2, nm3, i64_w]
       refine wpList_step (fun Ko hKo => ?_)
       go_simp
       refine hKo _ _ ?_
       clear hKo Ko
       try simp only [Act.put, nm1, nm2, nm3, i64_w]
       refine wpList_step (fun Ko hKo => ?_)
       go_simp
       refine hKo _ _ ?_
       clear hKo Ko
       try simp only [Act.put, nm1, nm2, nm3, i64_w]
       refine wpList_step (fun Ko hKo => ?_)
       go_simp
       refine hKo _ _ ?_
       clear hKo Ko
       try simp only [Act.put, nm1, nm2, nm3, i64_w]
       refine wpList_plain rfl (fun Ko hKo => ?_)
       go_simp
       refine hKo _ _ ?_
       clear hKo Ko
       try simp only [Act.put, nm1, nm2, nm3, i64_w]
       refine wpList_nil ?_
       (try simp only [Exit.then, Exit.inBlock, ↓reduceIte, Nat.reduceEqDiff])
       refine hK25 _ _ ?_
       refine wp_cond_false rfl ?_
       refine wp_skip ?_
       (try simp only [Exit.then, Exit.inBlock, ↓reduceIte, Nat.reduceEqDiff])
       refine hK24 _ _ ?_
       refine wp_seq_k (fun K37 hK37 => ?_)
       refine wp_region_lit ?_
       refine wpList_plain rfl (fun Ko hKo => ?_)
       go_simp
       refine hKo _ _ ?_
       clear hKo Ko
       try simp only [Act.put, nm1, nm2, nm3, i64_w]
       refine wpList_nil ?_
       (try simp only [Exit.then, Exit.inBlock, ↓reduceIte, Nat.reduceEqDiff])
       refine hK37 _ _ ?_
       refine wp_seq_k (fun K38 hK38 => ?_)
       refine wp_region_lit ?_
       refine wpList_plain rfl (fun Ko hKo => ?_)
       go_simp
       refine hKo _ _ ?_
       clear hKo Ko
       try simp only [Act.put, nm1, nm2, nm3, i64_w]
       refine wpList_plain rfl (fun Ko hKo => ?_)
       go_simp
       refine hKo _ _ ?_
       clear hKo Ko
       try simp only [Act.put, nm1, nm2, nm3, i64_w]
       refine step_call (wanted_none rfl) (by first | (go_simp; done) | (go_simp; rfl)) (laws_markInt64S.calls K P15 q16 w11.heap.size t14 1 t39 t40 w33 (ht14.up (hu29.out.trans hu34.out)) A41.out) ?_
       have lb43 := Aside0.mk (ht14.up (hu29.out.trans hu34.out)).lt
       rintro e w42 ⟨rfl, h44, hl, hg⟩
       have hg46 := Aside0.mk hg
       have hl45 := hl
       clear hg hl
       have h47 := (ht17.up (hu29.out.trans hu34.out)).grow hg46.out hnt14_t17
       have hl48 : Aside0 (t14.length = t40.length) := Aside0.mk hl45.out
       refine ⟨_, rfl, ?_⟩
       simp only [Act.put, nm1, nm2, nm3, i64_w]
       refine wpList_plain rfl (fun Ko hKo => ?_)
       go_simp
       refine hKo _ _ ?_
       clear hKo Ko
       try simp only [Act.put, nm1, nm2, nm3, i64_w]
       refine wpList_nil ?_
       (try simp only [Exit.then, Exit.inBlock, ↓reduceIte, Nat.reduceEqDiff])
       refine hK38 _ _ ?_
       refine wp_seq_k (fun K49 hK49 => ?_)
       refine wp_region_lit ?_
       refine wpList_plain rfl (fun Ko hKo => ?_)
       go_simp
       refine hKo _ _ ?_
       clear hKo Ko
       try simp only [Act.put, nm1, nm2, nm3, i64_w]
       refine wpList_plain rfl (fun Ko hKo => ?_)
       go_simp
       refine hKo _ _ ?_
       clear hKo Ko
       try simp only [Act.put, nm1, nm2, nm3, i64_w]
       refine step_call (wanted_none rfl) (by first | (go_simp; done) | (go_simp; rfl)) (laws_markInt64S.calls K P18 q19 w11.heap.size t17 t39 t50 t51 w42 h47 A52.out) ?_
       have lb54 := Aside0.mk h47.lt
       rintro e w53 ⟨rfl, h55, hl, hg⟩
       have hg57 := Aside0.mk hg
       have hl56 := hl
       clear hg hl
       have h58 := h44.grow hg57.out (fun k l hk hl => Ne.symm ((fun k l hk hl => hnt14_t17 k l (blk_len.symm.trans hk) hl) l k hl hk))
       have hl59 : Aside0 (t17.length = t51.length) := Aside0.mk hl56.out
       refine ⟨_, rfl, ?_⟩
       simp only [Act.put, nm1, nm2, nm3, i64_w]
       refine wpList_plain rfl (fun Ko hKo => ?_)
       go_simp
       refine hKo _ _ ?_
       clear hKo Ko
       try simp only [Act.put, nm1, nm2, nm3, i64_w]
       refine wpList_nil ?_
       (try simp only [Exit.then, Exit.inBlock, ↓reduceIte, Nat.reduceEqDiff])
       refine hK49 _ _ ?_
       refine wp_seq_k (fun K60 hK60 => ?_)
       refine wp_region_lit ?_
       refine wpList_plain rfl (fun Ko hKo => ?_)
       go_simp
       refine hKo _ _ ?_
       clear hKo Ko
       try simp only [Act.put, nm1, nm2, nm3, i64_w]
       refine wpList_nil ?_
       (try simp only [Exit.then, Exit.inBlock, ↓reduceIte, Nat.reduceEqDiff])
       refine hK60 _ _ ?_
       refine wp_seq_k (fun K61 hK61 => ?_)
       refine wp_region_lit ?_
       refine wpList_plain rfl (fun Ko hKo => ?_)
       go_simp
       refine hKo _ _ ?_
       clear hKo Ko
       try simp only [Act.put, nm1, nm2, nm3, i64_w]
       refine wpList_plain rfl (fun Ko hKo => ?_)
       go_simp
       refine hKo _ _ ?_
       clear hKo Ko
       try simp only [Act.put, nm1, nm2, nm3, i64_w]
       refine step_call (wanted_none rfl) (by first | (go_simp; done) | (go_simp; rfl)) (Eq.mp (congrArg (fun n_ => Calls Try.prog 29 #[.slice P15 n_ q16, .int .i64 1] w53 _) (Eq.symm hl48.out)) (laws_heldInt64S.calls K P15 q16 t40 1 t62 w53 h58.rd A63.out)) ?_
       rintro e w64 ⟨rfl, hu⟩
       have hu65 := Aside0.mk hu
       clear hu
       refine ⟨_, rfl, ?_⟩
       simp only [Act.put, nm1, nm2, nm3, i64_w]
       refine wpList_plain rfl (fun Ko hKo => ?_)
       go_simp
       refine hKo _ _ ?_
       clear hKo Ko
       try simp only [Act.put, nm1, nm2, nm3, i64_w]
       refine wpList_nil ?_
       (try simp only [Exit.then, Exit.inBlock, ↓reduceIte, Nat.reduceEqDiff])
       refine hK61 _ _ ?_
       refine wp_seq_k (fun K66 hK66 => ?_)
       refine wp_seq_k (fun K67 hK67 => ?_)
       refine wp_region_lit ?_
       refine wpList_plain rfl (fun Ko hKo => ?_)
       go_simp
       refine hKo _ _ ?_
       clear hKo Ko
       try simp only [Act.put, nm1, nm2, nm3, i64_w]
       refine wpList_plain rfl (fun Ko hKo => ?_)
       go_simp
       refine hKo _ _ ?_
       clear hKo Ko
       try simp only [Act.put, nm1, nm2, nm3, i64_w]
       refine wpList_nil ?_
       (try simp only [Exit.then, Exit.inBlock, ↓reduceIte, Nat.reduceEqDiff])
       refine hK67 _ _ ?_
       refine wp_cond_false rfl ?_
       refine wp_skip ?_
       (try simp only [Exit.then, Exit.inBlock, ↓reduceIte, Nat.reduceEqDiff])
       refine hK66 _ _ ?_
       refine wp_seq_k (fun K70 hK70 => ?_)
       refine wp_region_lit ?_
       refine wpList_plain rfl (fun Ko hKo => ?_)
       go_simp
       refine hKo _ _ ?_
       clear hKo Ko
       try simp only [Act.put, nm1, nm2, nm3, i64_w]
       refine wpList_plain rfl (fun Ko hKo => ?_)
       go_simp
       refine hKo _ _ ?_
       clear hKo Ko
       try simp only [Act.put, nm1, nm2, nm3, i64_w]
       refine step_call (wanted_none rfl) (by first | (go_simp; done) | (go_simp; rfl)) (Eq.mp (congrArg (fun n_ => Calls Try.prog 29 #[.slice P18 n_ q19, .int .i64 t62] w64 _) (Eq.symm hl59.out)) (laws_heldInt64S.calls K P18 q19 t51 t62 t71 w64 ((h55.up hu65.out).rd) A72.out)) ?_
       rintro e w73 ⟨rfl, hu⟩
       have hu74 := Aside0.mk hu
       clear hu
       refine ⟨_, rfl, ?_⟩
       simp only [Act.put, nm1, nm2, nm3, i64_w]
       refine wpList_plain rfl (fun Ko hKo => ?_)
       go_simp
       refine hKo _ _ ?_
       clear hKo Ko
       try simp only [Act.put, nm1, nm2, nm3, i64_w]
       refine wpList_nil ?_
       (try simp only [Exit.then, Exit.inBlock, ↓reduceIte, Nat.reduceEqDiff])
       refine hK70 _ _ ?_
       refine wp_seq_k (fun K75 hK75 => ?_)
       refine wp_seq_k (fun K76 hK76 => ?_)
       refine wp_region_lit ?_
       refine wpList_plain rfl (fun Ko hKo => ?_)
       go_simp
       refine hKo _ _ ?_
       clear hKo Ko
       try simp only [Act.put, nm1, nm2, nm3, i64_w]
       refine wpList_plain rfl (fun Ko hKo => ?_)
       go_simp
       refine hKo _ _ ?_
       clear hKo Ko
       try simp only [Act.put, nm1, nm2, nm3, i64_w]
       refine wpList_nil ?_
       (try simp only [Exit.then, Exit.inBlock, ↓reduceIte, Nat.reduceEqDiff])
       refine hK76 _ _ ?_
       refine wp_cond_false rfl ?_
       refine wp_skip ?_
       (try simp only [Exit.then, Exit.inBlock, ↓reduceIte, Nat.reduceEqDiff])
       refine hK75 _ _ ?_
       refine wp_seq_k (fun K79 hK79 => ?_)
       refine wp_seq_k (fun K80 hK80 => ?_)
       refine wp_region_lit ?_
       refine wpList_plain rfl (fun Ko hKo => ?_)
       go_simp
       refine hKo _ _ ?_
       clear hKo Ko
       try simp only [Act.put, nm1, nm2, nm3, i64_w]
       refine wpList_plain rfl (fun Ko hKo => ?_)
       go_simp
       refine hKo _ _ ?_
       clear hKo Ko
       try simp only [Act.put, nm1, nm2, nm3, i64_w]
       refine wpList_plain rfl (fun Ko hKo => ?_)
       go_simp
       refine hKo _ _ ?_
       clear hKo Ko
       try simp only [Act.put, nm1, nm2, nm3, i64_w]
       refine wpList_nil ?_
       (try simp only [Exit.then, Exit.inBlock, ↓reduceIte, Nat.reduceEqDiff])
       refine hK80 _ _ ?_
       refine wp_cond_true rfl ?_
       refine wp_seq_k (fun K133 hK133 => ?_)
       refine wp_region_lit ?_
       refine wpList_plain rfl (fun Ko hKo => ?_)
       go_simp
       refine hKo _ _ ?_
       clear hKo Ko
       try simp only [Act.put, nm1, nm2, nm3, i64_w]
       refine wpList_nil ?_
       (try simp only [Exit.then, Exit.inBlock, ↓reduceIte, Nat.reduceEqDiff])
       refine hK133 _ _ ?_
       refine wp_ret ?_
       (try simp only [Exit.then, Exit.inBlock, ↓reduceIte, Nat.reduceEqDiff])
       refine hQf _ _ _ ?_
       exact bodyPost_ret (v := .bool false) (by first | rfl | (simp [results, Try.results13, go_sem]; done) | (simp [results, Try.results13, go_sem]; rfl)) rfl ⟨rfl, (((((((hu12.out.trans hu23.out).trans hu29.out).trans hu34.out).grow hg46.out (fun k hk => Nat.le_trans (hu12.out.size) ((fun k hk => (lb43.out k hk).1) k hk))).grow hg57.out (fun k hk => Nat.le_trans (hu12.out.size) ((fun k hk => (lb54.out k hk).1) k hk))).trans hu65.out).trans hu74.out)⟩
   ·
    rw [if_neg c36] at H
    replace c36 := Bool.eq_false_iff.mpr c36
    have c36n : (t20 != t9) = true := by rw [bne, c36]; rfl
    have c36p : ¬ t20 = t9 := fun e => by simp [e] at c36
    obtain rfl := Option.some.inj H
    go_enter Try.func13, Try.ntmps13
    refine wp_hide (fun Qf hQf => ?_)
    refine wp_seq_k (fun K1 hK1 => ?_)
    refine wp_region_lit ?_
    refine wpList_plain rfl (fun Ko hKo => ?_)
    go_simp
    refine hKo _ _ ?_
    clear hKo Ko
    try simp only [Act.put, nm1, nm2, nm3, i64_w]
    refine wpList_nil ?_
    (try simp only [Exit.then, Exit.inBlock, ↓reduceIte, Nat.reduceEqDiff])
    refine hK1 _ _ ?_
    refine wp_seq_k (fun K2 hK2 => ?_)
    refine wp_region_lit ?_
    refine wpList_plain rfl (fun Ko hKo => ?_)
    go_simp
    refine hKo _ _ ?_
    clear hKo Ko
    try simp only [Act.put, nm1, nm2, nm3, i64_w]
    refine step_call (wanted_none rfl) (by first | (go_simp; done) | (go_simp; rfl)) (spec_OrdersOf.calls K a0 t3 t6 t9 w  A10.out) ?_
    rintro e w11 ⟨P4, q5, P7, q8, rfl, ht3, ht6, hnt3_t6, hu⟩
    have hu12 := Aside0.mk hu
    clear hu
    refine ⟨_, rfl, ?_⟩
    simp only [Act.put, nm1, nm2, nm3, i64_w]
    refine wpList_plain rfl (fun Ko hKo => ?_)
    go_simp
    refine hKo _ _ ?_
    clear hKo Ko
    try simp only [Act.put, nm1, nm2, nm3, i64_w]
    refine wpList_plain rfl (fun Ko hKo => ?_)
    go_simp
    refine hKo _ _ ?_
    clear hKo Ko
    try simp only [Act.put, nm1, nm2, nm3, i64_w]
    refine wpList_plain rfl (fun Ko hKo => ?_)
    go_simp
    refine hKo _ _ ?_
    clear hKo Ko
    try simp only [Act.put, nm1, nm2, nm3, i64_w]
    refine wpList_plain rfl (fun Ko hKo => ?_)
    go_simp
    refine hKo _ _ ?_
    clear hKo Ko
    try simp only [Act.put, nm1, nm2, nm3, i64_w]
    refine wpList_plain rfl (fun Ko hKo => ?_)
    go_simp
    refine hKo _ _ ?_
    clear hKo Ko
    try simp only [Act.put, nm1, nm2, nm3, i64_w]
    refine wpList_plain rfl (fun Ko hKo => ?_)
    go_simp
    refine hKo _ _ ?_
    clear hKo Ko
    try simp only [Act.put, nm1, nm2, nm3, i64_w]
    refine wpList_plain rfl (fun Ko hKo => ?_)
    go_simp
    refine hKo _ _ ?_
    clear hKo Ko
    try simp only [Act.put, nm1, nm2, nm3, i64_w]
    refine wpList_nil ?_
    (try simp only [Exit.then, Exit.inBlock, ↓reduceIte, Nat.reduceEqDiff])
    refine hK2 _ _ ?_
    refine wp_seq_k (fun K13 hK13 => ?_)
    refine wp_region_lit ?_
    refine wpList_plain rfl (fun Ko hKo => ?_)
    go_simp
    refine hKo _ _ ?_
    clear hKo Ko
    try simp only [Act.put, nm1, nm2, nm3, i64_w]
    refine step_call (wanted_none rfl) (by first | (go_simp; done) | (go_simp; rfl)) (impl_OrdersOf.calls K a0 t14 t17 t20 w11  A21.out) ?_
    rintro e w22 ⟨P15, q16, P18, q19, rfl, ht14, ht17, hnt14_t17, hu⟩
    have hu23 := Aside0.mk hu
    clear hu
    refine ⟨_, rfl, ?_⟩
    simp only [Act.put, nm1, nm2, nm3, i64_w]
    refine wpList_plain rfl (fun Ko hKo => ?_)
    go_simp
    refine hKo _ _ ?_
    clear hKo Ko
    try simp only [Act.put, nm1, nm2, nm3, i64_w]
    refine wpList_plain rfl (fun Ko hKo => ?_)
    go_simp
    refine hKo _ _ ?_
    clear hKo Ko
    try simp only [Act.put, nm1, nm2, nm3, i64_w]
    refine wpList_plain rfl (fun Ko hKo => ?_)
    go_simp
    refine hKo _ _ ?_
    clear hKo Ko
    try simp only [Act.put, nm1, nm2, nm3, i64_w]
    refine wpList_plain rfl (fun Ko hKo => ?_)
    go_simp
    refine hKo _ _ ?_
    clear hKo Ko
    try simp only [Act.put, nm1, nm2, nm3, i64_w]
    refine wpList_plain rfl (fun Ko hKo => ?_)
    go_simp
    refine hKo _ _ ?_
    clear hKo Ko
    try simp only [Act.put, nm1, nm2, nm3, i64_w]
    refine wpList_plain rfl (fun Ko hKo => ?_)
    go_simp
    refine hKo _ _ ?_
    clear hKo Ko
    try simp only [Act.put, nm1, nm2, nm3, i64_w]
    refine wpList_plain rfl (fun Ko hKo => ?_)
    go_simp
    refine hKo _ _ ?_
    clear hKo Ko
    try simp only [Act.put, nm1, nm2, nm3, i64_w]
    refine wpList_nil ?_
    (try simp only [Exit.then, Exit.inBlock, ↓reduceIte, Nat.reduceEqDiff])
    refine hK13 _ _ ?_
    refine wp_seq_k (fun K24 hK24 => ?_)
    refine wp_seq_k (fun K25 hK25 => ?_)
    refine wp_region_lit ?_
    refine wpList_plain rfl (fun Ko hKo => ?_)
    go_simp
    refine hKo _ _ ?_
    clear hKo Ko
    try simp only [Act.put, nm1, nm2, nm3, i64_w]
    refine wpList_plain rfl (fun Ko hKo => ?_)
    go_simp
    refine hKo _ _ ?_
    clear hKo Ko
    try simp only [Act.put, nm1, nm2, nm3, i64_w]
    refine step_call (wanted_none rfl) (by first | (go_simp; done) | (go_simp; rfl)) (laws_eqInt64S.calls K P15 q16 t14 P4 q5 t3 true w22 ht14.rd ((ht3.up hu23.out).rd) A27.out) ?_
    rintro e w28 ⟨rfl, hu⟩
    have hu29 := Aside0.mk hu
    clear hu
    refine ⟨_, rfl, ?_⟩
    simp only [Act.put, nm1, nm2, nm3, i64_w]
    refine wpList_plain rfl (fun Ko hKo => ?_)
    go_simp
    refine hKo _ _ ?_
    clear hKo Ko
    try simp only [Act.put, nm1, nm2, nm3, i64_w]
    refine wpList_plain rfl (fun Ko hKo => ?_)
    go_simp
    refine hKo _ _ ?_
    clear hKo Ko
    try simp only [Act.put, nm1, nm2, nm3, i64_w]
    refine wpList_step (fun Ko hKo => ?_)
    go_simp
    refine hKo _ _ ?_
    clear hKo Ko
    try simp only [Act.put, nm1, nm2, nm3, i64_w]
    refine wpList_step (fun Ko hKo => ?_)
    go_simp
    refine hKo _ _ ?_
    clear hKo Ko
    try simp only [Act.put, nm1, nm2, nm3, i64_w]
    refine step_call rfl (by first | (go_simp; done) | (go_simp; rfl)) (laws_eqInt64S.calls K P18 q19 t17 P7 q8 t6 true w28 ((ht17.up hu29.out).rd) ((ht6.up (hu23.out.trans hu29.out)).rd) A32.out) ?_
    rintro e w33 ⟨rfl, hu⟩
    have hu34 := Aside0.mk hu
    clear hu
    refine ⟨_, rfl, ?_⟩
    simp only [Act.put, nm1, nm2, nm3, i64_w]
    refine wpList_step (fun Ko hKo => ?_)
    go_simp
    refine hKo _ _ ?_
    clear hKo Ko
    try simp only [Act.put, nm1, nm2, nm3, i64_w]
    refine wpList_plain rfl (fun Ko hKo => ?_)
    go_simp
    refine hKo _ _ ?_
    clear hKo Ko
    try simp only [Act.put, nm1, nm2, nm3, i64_w]
    refine wpList_plain rfl (fun Ko hKo => ?_)
    go_simp
    refine hKo _ _ ?_
    clear hKo Ko
    try simp only [Act.put, nm1, nm2, nm3, i64_w]
    refine wpList_step (fun Ko hKo => ?_)
    go_simp
    refine hKo _ _ ?_
    clear hKo Ko
    try simp only [Act.put, nm1, nm2, nm3, i64_w]
    refine wpList_step (fun Ko hKo => ?_)
    go_simp
    refine hKo _ _ ?_
    clear hKo Ko
    try simp only [Act.put, nm1, nm2, nm3, i64_w]
    refine wpList_step (fun Ko hKo => ?_)
    go_simp
    refine hKo _ _ ?_
    clear hKo Ko
    try simp only [Act.put, nm1, nm2, nm3, i64_w]
    refine wpList_plain rfl (fun Ko hKo => ?_)
    go_simp
    refine hKo _ _ ?_
    clear hKo Ko
    try simp only [Act.put, nm1, nm2, nm3, i64_w]
    refine wpList_nil ?_
    (try simp only [Exit.then, Exit.inBlock, ↓reduceIte, Nat.reduceEqDiff])
    refine hK25 _ _ ?_
    refine wp_cond_true rfl ?_
    refine wp_seq_k (fun K134 hK134 => ?_)
    refine wp_region_lit ?_
    refine wpList_plain rfl (fun Ko hKo => ?_)
    go_simp
    refine hKo _ _ ?_
    clear hKo Ko
    try simp only [Act.put, nm1, nm2, nm3, i64_w]
    refine wpList_nil ?_
    (try simp only [Exit.then, Exit.inBlock, ↓reduceIte, Nat.reduceEqDiff])
    refine hK134 _ _ ?_
    refine wp_ret ?_
    (try simp only [Exit.then, Exit.inBlock, ↓reduceIte, Nat.reduceEqDiff])
    refine hQf _ _ _ ?_
    exact bodyPost_ret (v := .bool false) (by first | rfl | (simp [results, Try.results13, go_sem]; done) | (simp [results, Try.results13, go_sem]; rfl)) rfl ⟨rfl, (((hu12.out.trans hu23.out).trans hu29.out).trans hu34.out)⟩
  ·
   rw [if_neg c35] at H
   replace c35 := Bool.eq_false_iff.mpr c35
   subst c35
   obtain rfl := Option.some.inj H
   go_enter Try.func13, Try.ntmps13
   refine wp_hide (fun Qf hQf => ?_)
   refine wp_seq_k (fun K1 hK1 => ?_)
   refine wp_region_lit ?_
   refine wpList_plain rfl (fun Ko hKo => ?_)
   go_simp
   refine hKo _ _ ?_
   clear hKo Ko
   try simp only [Act.put, nm1, nm2, nm3, i64_w]
   refine wpList_nil ?_
   (try simp only [Exit.then, Exit.inBlock, ↓reduceIte, Nat.reduceEqDiff])
   refine hK1 _ _ ?_
   refine wp_seq_k (fun K2 hK2 => ?_)
   refine wp_region_lit ?_
   refine wpList_plain rfl (fun Ko hKo => ?_)
   go_simp
   refine hKo _ _ ?_
   clear hKo Ko
   try simp only [Act.put, nm1, nm2, nm3, i64_w]
   refine step_call (wanted_none rfl) (by first | (go_simp; done) | (go_simp; rfl)) (spec_OrdersOf.calls K a0 t3 t6 t9 w  A10.out) ?_
   rintro e w11 ⟨P4, q5, P7, q8, rfl, ht3, ht6, hnt3_t6, hu⟩
   have hu12 := Aside0.mk hu
   clear hu
   refine ⟨_, rfl, ?_⟩
   simp only [Act.put, nm1, nm2, nm3, i64_w]
   refine wpList_plain rfl (fun Ko hKo => ?_)
   go_simp
   refine hKo _ _ ?_
   clear hKo Ko
   try simp only [Act.put, nm1, nm2, nm3, i64_w]
   refine wpList_plain rfl (fun Ko hKo => ?_)
   go_simp
   refine hKo _ _ ?_
   clear hKo Ko
   try simp only [Act.put, nm1, nm2, nm3, i64_w]
   refine wpList_plain rfl (fun Ko hKo => ?_)
   go_simp
   refine hKo _ _ ?_
   clear hKo Ko
   try simp only [Act.put, nm1, nm2, nm3, i64_w]
   refine wpList_plain rfl (fun Ko hKo => ?_)
   go_simp
   refine hKo _ _ ?_
   clear hKo Ko
   try simp only [Act.put, nm1, nm2, nm3, i64_w]
   refine wpList_plain rfl (fun Ko hKo => ?_)
   go_simp
   refine hKo _ _ ?_
   clear hKo Ko
   try simp only [Act.put, nm1, nm2, nm3, i64_w]
   refine wpList_plain rfl (fun Ko hKo => ?_)
   go_simp
   refine hKo _ _ ?_
   clear hKo Ko
   try simp only [Act.put, nm1, nm2, nm3, i64_w]
   refine wpList_plain rfl (fun Ko hKo => ?_)
   go_simp
   refine hKo _ _ ?_
   clear hKo Ko
   try simp only [Act.put, nm1, nm2, nm3, i64_w]
   refine wpList_nil ?_
   (try simp only [Exit.then, Exit.inBlock, ↓reduceIte, Nat.reduceEqDiff])
   refine hK2 _ _ ?_
   refine wp_seq_k (fun K13 hK13 => ?_)
   refine wp_region_lit ?_
   refine wpList_plain rfl (fun Ko hKo => ?_)
   go_simp
   refine hKo _ _ ?_
   clear hKo Ko
   try simp only [Act.put, nm1, nm2, nm3, i64_w]
   refine step_call (wanted_none rfl) (by first | (go_simp; done) | (go_simp; rfl)) (impl_OrdersOf.calls K a0 t14 t17 t20 w11  A21.out) ?_
   rintro e w22 ⟨P15, q16, P18, q19, rfl, ht14, ht17, hnt14_t17, hu⟩
   have hu23 := Aside0.mk hu
   clear hu
   refine ⟨_, rfl, ?_⟩
   simp only [Act.put, nm1, nm2, nm3, i64_w]
   refine wpList_plain rfl (fun Ko hKo => ?_)
   go_simp
   refine hKo _ _ ?_
   clear hKo Ko
   try simp only [Act.put, nm1, nm2, nm3, i64_w]
   refine wpList_plain rfl (fun Ko hKo => ?_)
   go_simp
   refine hKo _ _ ?_
   clear hKo Ko
   try simp only [Act.put, nm1, nm2, nm3, i64_w]
   refine wpList_plain rfl (fun Ko hKo => ?_)
   go_simp
   refine hKo _ _ ?_
   clear hKo Ko
   try simp only [Act.put, nm1, nm2, nm3, i64_w]
   refine wpList_plain rfl (fun Ko hKo => ?_)
   go_simp
   refine hKo _ _ ?_
   clear hKo Ko
   try simp only [Act.put, nm1, nm2, nm3, i64_w]
   refine wpList_plain rfl (fun Ko hKo => ?_)
   go_simp
   refine hKo _ _ ?_
   clear hKo Ko
   try simp only [Act.put, nm1, nm2, nm3, i64_w]
   refine wpList_plain rfl (fun Ko hKo => ?_)
   go_simp
   refine hKo _ _ ?_
   clear hKo Ko
   try simp only [Act.put, nm1, nm2, nm3, i64_w]
   refine wpList_plain rfl (fun Ko hKo => ?_)
   go_simp
   refine hKo _ _ ?_
   clear hKo Ko
   try simp only [Act.put, nm1, nm2, nm3, i64_w]
   refine wpList_nil ?_
   (try simp only [Exit.then, Exit.inBlock, ↓reduceIte, Nat.reduceEqDiff])
   refine hK13 _ _ ?_
   refine wp_seq_k (fun K24 hK24 => ?_)
   refine wp_seq_k (fun K25 hK25 => ?_)
   refine wp_region_lit ?_
   refine wpList_plain rfl (fun Ko hKo => ?_)
   go_simp
   refine hKo _ _ ?_
   clear hKo Ko
   try simp only [Act.put, nm1, nm2, nm3, i64_w]
   refine wpList_plain rfl (fun Ko hKo => ?_)
   go_simp
   refine hKo _ _ ?_
   clear hKo Ko
   try simp only [Act.put, nm1, nm2, nm3, i64_w]
   refine step_call (wanted_none rfl) (by first | (go_simp; done) | (go_simp; rfl)) (laws_eqInt64S.calls K P15 q16 t14 P4 q5 t3 true w22 ht14.rd ((ht3.up hu23.out).rd) A27.out) ?_
   rintro e w28 ⟨rfl, hu⟩
   have hu29 := Aside0.mk hu
   clear hu
   refine ⟨_, rfl, ?_⟩
   simp only [Act.put, nm1, nm2, nm3, i64_w]
   refine wpList_plain rfl (fun Ko hKo => ?_)
   go_simp
   refine hKo _ _ ?_
   clear hKo Ko
   try simp only [Act.put, nm1, nm2, nm3, i64_w]
   refine wpList_plain rfl (fun Ko hKo => ?_)
   go_simp
   refine hKo _ _ ?_
   clear hKo Ko
   try simp only [Act.put, nm1, nm2, nm3, i64_w]
   refine wpList_step (fun Ko hKo => ?_)
   go_simp
   refine hKo _ _ ?_
   clear hKo Ko
   try simp only [Act.put, nm1, nm2, nm3, i64_w]
   refine wpList_step (fun Ko hKo => ?_)
   go_simp
   refine hKo _ _ ?_
   clear hKo Ko
   try simp only [Act.put, nm1, nm2, nm3, i64_w]
   refine step_call rfl (by first | (go_simp; done) | (go_simp; rfl)) (laws_eqInt64S.calls K P18 q19 t17 P7 q8 t6 false w28 ((ht17.up hu29.out).rd) ((ht6.up (hu23.out.trans hu29.out)).rd) A32.out) ?_
   rintro e w33 ⟨rfl, hu⟩
   have hu34 := Aside0.mk hu
   clear hu
   refine ⟨_, rfl, ?_⟩
   simp only [Act.put, nm1, nm2, nm3, i64_w]
   refine wpList_step (fun Ko hKo => ?_)
   go_simp
   refine hKo _ _ ?_
   clear hKo Ko
   try simp only [Act.put, nm1, nm2, nm3, i64_w]
   refine wpList_plain rfl (fun Ko hKo => ?_)
   go_simp
   refine hKo _ _ ?_
   clear hKo Ko
   try simp only [Act.put, nm1, nm2, nm3, i64_w]
   refine wpList_plain rfl (fun Ko hKo => ?_)
   go_simp
   refine hKo _ _ ?_
   clear hKo Ko
   try simp only [Act.put, nm1, nm2, nm3, i64_w]
   refine step_no rfl ?_
   simp only [Act.put, nm1, nm2, nm3, i64_w]
   refine step_no rfl ?_
   simp only [Act.put, nm1, nm2, nm3, i64_w]
   refine step_no rfl ?_
   simp only [Act.put, nm1, nm2, nm3, i64_w]
   refine wpList_plain rfl (fun Ko hKo => ?_)
   go_simp
   refine hKo _ _ ?_
   clear hKo Ko
   try simp only [Act.put, nm1, nm2, nm3, i64_w]
   refine wpList_nil ?_
   (try simp only [Exit.then, Exit.inBlock, ↓reduceIte, Nat.reduceEqDiff])
   refine hK25 _ _ ?_
   refine wp_cond_true rfl ?_
   refine wp_seq_k (fun K135 hK135 => ?_)
   refine wp_region_lit ?_
   refine wpList_plain rfl (fun Ko hKo => ?_)
   go_simp
   refine hKo _ _ ?_
   clear hKo Ko
   try simp only [Act.put, nm1, nm2, nm3, i64_w]
   refine wpList_nil ?_
   (try simp only [Exit.then, Exit.inBlock, ↓reduceIte, Nat.reduceEqDiff])
   refine hK135 _ _ ?_
   refine wp_ret ?_
   (try simp only [Exit.then, Exit.inBlock, ↓reduceIte, Nat.reduceEqDiff])
   refine hQf _ _ _ ?_
   exact bodyPost_ret (v := .bool false) (by first | rfl | (simp [results, Try.results13, go_sem]; done) | (simp [results, Try.results13, go_sem]; rfl)) rfl ⟨rfl, (((hu12.out.trans hu23.out).trans hu29.out).trans hu34.out)⟩
 ·
  rw [if_neg c30] at H
  replace c30 := Bool.eq_false_iff.mpr c30
  subst c30
  obtain rfl := Option.some.inj H
  go_enter Try.func13, Try.ntmps13
  refine wp_hide (fun Qf hQf => ?_)
  refine wp_seq_k (fun K1 hK1 => ?_)
  refine wp_region_lit ?_
  refine wpList_plain rfl (fun Ko hKo => ?_)
  go_simp
  refine hKo _ _ ?_
  clear hKo Ko
  try simp only [Act.put, nm1, nm2, nm3, i64_w]
  refine wpList_nil ?_
  (try simp only [Exit.then, Exit.inBlock, ↓reduceIte, Nat.reduceEqDiff])
  refine hK1 _ _ ?_
  refine wp_seq_k (fun K2 hK2 => ?_)
  refine wp_region_lit ?_
  refine wpList_plain rfl (fun Ko hKo => ?_)
  go_simp
  refine hKo _ _ ?_
  clear hKo Ko
  try simp only [Act.put, nm1, nm2, nm3, i64_w]
  refine step_call (wanted_none rfl) (by first | (go_simp; done) | (go_simp; rfl)) (spec_OrdersOf.calls K a0 t3 t6 t9 w  A10.out) ?_
  rintro e w11 ⟨P4, q5, P7, q8, rfl, ht3, ht6, hnt3_t6, hu⟩
  have hu12 := Aside0.mk hu
  clear hu
  refine ⟨_, rfl, ?_⟩
  simp only [Act.put, nm1, nm2, nm3, i64_w]
  refine wpList_plain rfl (fun Ko hKo => ?_)
  go_simp
  refine hKo _ _ ?_
  clear hKo Ko
  try simp only [Act.put, nm1, nm2, nm3, i64_w]
  refine wpList_plain rfl (fun Ko hKo => ?_)
  go_simp
  refine hKo _ _ ?_
  clear hKo Ko
  try simp only [Act.put, nm1, nm2, nm3, i64_w]
  refine wpList_plain rfl (fun Ko hKo => ?_)
  go_simp
  refine hKo _ _ ?_
  clear hKo Ko
  try simp only [Act.put, nm1, nm2, nm3, i64_w]
  refine wpList_plain rfl (fun Ko hKo => ?_)
  go_simp
  refine hKo _ _ ?_
  clear hKo Ko
  try simp only [Act.put, nm1, nm2, nm3, i64_w]
  refine wpList_plain rfl (fun Ko hKo => ?_)
  go_simp
  refine hKo _ _ ?_
  clear hKo Ko
  try simp only [Act.put, nm1, nm2, nm3, i64_w]
  refine wpList_plain rfl (fun Ko hKo => ?_)
  go_simp
  refine hKo _ _ ?_
  clear hKo Ko
  try simp only [Act.put, nm1, nm2, nm3, i64_w]
  refine wpList_plain rfl (fun Ko hKo => ?_)
  go_simp
  refine hKo _ _ ?_
  clear hKo Ko
  try simp only [Act.put, nm1, nm2, nm3, i64_w]
  refine wpList_nil ?_
  (try simp only [Exit.then, Exit.inBlock, ↓reduceIte, Nat.reduceEqDiff])
  refine hK2 _ _ ?_
  refine wp_seq_k (fun K13 hK13 => ?_)
  refine wp_region_lit ?_
  refine wpList_plain rfl (fun Ko hKo => ?_)
  go_simp
  refine hKo _ _ ?_
  clear hKo Ko
  try simp only [Act.put, nm1, nm2, nm3, i64_w]
  refine step_call (wanted_none rfl) (by first | (go_simp; done) | (go_simp; rfl)) (impl_OrdersOf.calls K a0 t14 t17 t20 w11  A21.out) ?_
  rintro e w22 ⟨P15, q16, P18, q19, rfl, ht14, ht17, hnt14_t17, hu⟩
  have hu23 := Aside0.mk hu
  clear hu
  refine ⟨_, rfl, ?_⟩
  simp only [Act.put, nm1, nm2, nm3, i64_w]
  refine wpList_plain rfl (fun Ko hKo => ?_)
  go_simp
  refine hKo _ _ ?_
  clear hKo Ko
  try simp only [Act.put, nm1, nm2, nm3, i64_w]
  refine wpList_plain rfl (fun Ko hKo => ?_)
  go_simp
  refine hKo _ _ ?_
  clear hKo Ko
  try simp only [Act.put, nm1, nm2, nm3, i64_w]
  refine wpList_plain rfl (fun Ko hKo => ?_)
  go_simp
  refine hKo _ _ ?_
  clear hKo Ko
  try simp only [Act.put, nm1, nm2, nm3, i64_w]
  refine wpList_plain rfl (fun Ko hKo => ?_)
  go_simp
  refine hKo _ _ ?_
  clear hKo Ko
  try simp only [Act.put, nm1, nm2, nm3, i64_w]
  refine wpList_plain rfl (fun Ko hKo => ?_)
  go_simp
  refine hKo _ _ ?_
  clear hKo Ko
  try simp only [Act.put, nm1, nm2, nm3, i64_w]
  refine wpList_plain rfl (fun Ko hKo => ?_)
  go_simp
  refine hKo _ _ ?_
  clear hKo Ko
  try simp only [Act.put, nm1, nm2, nm3, i64_w]
  refine wpList_plain rfl (fun Ko hKo => ?_)
  go_simp
  refine hKo _ _ ?_
  clear hKo Ko
  try simp only [Act.put, nm1, nm2, nm3, i64_w]
  refine wpList_nil ?_
  (try simp only [Exit.then, Exit.inBlock, ↓reduceIte, Nat.reduceEqDiff])
  refine hK13 _ _ ?_
  refine wp_seq_k (fun K24 hK24 => ?_)
  refine wp_seq_k (fun K25 hK25 => ?_)
  refine wp_region_lit ?_
  refine wpList_plain rfl (fun Ko hKo => ?_)
  go_simp
  refine hKo _ _ ?_
  clear hKo Ko
  try simp only [Act.put, nm1, nm2, nm3, i64_w]
  refine wpList_plain rfl (fun Ko hKo => ?_)
  go_simp
  refine hKo _ _ ?_
  clear hKo Ko
  try simp only [Act.put, nm1, nm2, nm3, i64_w]
  refine step_call (wanted_none rfl) (by first | (go_simp; done) | (go_simp; rfl)) (laws_eqInt64S.calls K P15 q16 t14 P4 q5 t3 false w22 ht14.rd ((ht3.up hu23.out).rd) A27.out) ?_
  rintro e w28 ⟨rfl, hu⟩
  have hu29 := Aside0.mk hu
  clear hu
  refine ⟨_, rfl, ?_⟩
  simp only [Act.put, nm1, nm2, nm3, i64_w]
  refine wpList_plain rfl (fun Ko hKo => ?_)
  go_simp
  refine hKo _ _ ?_
  clear hKo Ko
  try simp only [Act.put, nm1, nm2, nm3, i64_w]
  refine wpList_plain rfl (fun Ko hKo => ?_)
  go_simp
  refine hKo _ _ ?_
  clear hKo Ko
  try simp only [Act.put, nm1, nm2, nm3, i64_w]
  refine step_no rfl ?_
  simp only [Act.put, nm1, nm2, nm3, i64_w]
  refine step_no rfl ?_
  simp only [Act.put, nm1, nm2, nm3, i64_w]
  refine step_no rfl ?_
  simp only [Act.put, nm1, nm2, nm3, i64_w]
  refine step_no rfl ?_
  simp only [Act.put, nm1, nm2, nm3, i64_w]
  refine wpList_plain rfl (fun Ko hKo => ?_)
  go_simp
  refine hKo _ _ ?_
  clear hKo Ko
  try simp only [Act.put, nm1, nm2, nm3, i64_w]
  refine wpList_plain rfl (fun Ko hKo => ?_)
  go_simp
  refine hKo _ _ ?_
  clear hKo Ko
  try simp only [Act.put, nm1, nm2, nm3, i64_w]
  refine step_no rfl ?_
  simp only [Act.put, nm1, nm2, nm3, i64_w]
  refine step_no rfl ?_
  simp only [Act.put, nm1, nm2, nm3, i64_w]
  refine step_no rfl ?_
  simp only [Act.put, nm1, nm2, nm3, i64_w]
  refine wpList_plain rfl (fun Ko hKo => ?_)
  go_simp
  refine hKo _ _ ?_
  clear hKo Ko
  try simp only [Act.put, nm1, nm2, nm3, i64_w]
  refine wpList_nil ?_
  (try simp only [Exit.then, Exit.inBlock, ↓reduceIte, Nat.reduceEqDiff])
  refine hK25 _ _ ?_
  refine wp_cond_true rfl ?_
  refine wp_seq_k (fun K136 hK136 => ?_)
  refine wp_region_lit ?_
  refine wpList_plain rfl (fun Ko hKo => ?_)
  go_simp
  refine hKo _ _ ?_
  clear hKo Ko
  try simp only [Act.put, nm1, nm2, nm3, i64_w]
  refine wpList_nil ?_
  (try simp only [Exit.then, Exit.inBlock, ↓reduceIte, Nat.reduceEqDiff])
  refine hK136 _ _ ?_
  refine wp_ret ?_
  (try simp only [Exit.then, Exit.inBlock, ↓reduceIte, Nat.reduceEqDiff])
  refine hQf _ _ _ ?_
  exact bodyPost_ret (v := .bool false) (by first | rfl | (simp [results, Try.results13, go_sem]; done) | (simp [results, Try.results13, go_sem]; rfl)) rfl ⟨rfl, ((hu12.out.trans hu23.out).trans hu29.out)⟩

end Go.Proofs.Ythmfgkdhaookoaa
