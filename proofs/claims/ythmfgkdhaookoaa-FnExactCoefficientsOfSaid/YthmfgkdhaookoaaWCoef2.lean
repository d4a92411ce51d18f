/- The walks: each of these functions of the program computes what its plain function says: impl_CoefficientsOf, laws_eqInt64S, laws_markInt64S, laws_heldInt64S. -/
import Derived.Test.YthmfgkdhaookoaaProg
import Derived.Test.YthmfgkdhaookoaaD1
import Derived.WalkKit
import Derived.KernelRfl
import Derived.BigQuiet
import Derived.Deep.LoopGhost
import Derived.Laws.StructEq
import Derived.Test.YthmfgkdhaookoaaWCoef1
namespace Go.Proofs.Ythmfgkdhaookoaa
open Go Go.RowKit
attribute [local go_sem] Oper.quiet Oper.quietAt Oper.quietUpon
attribute [local irreducible] wpList
set_option linter.unusedVariables false
set_option linter.unusedSimpArgs false

set_option maxHeartbeats 4000000 in
set_option maxRecDepth 100000 in
theorem impl_CoefficientsOf.calls (K : Nat) (a0 : Int) (a1 : Int) (r0 : List (Int)) (r1 : Int) (w : World)  (h : impl_CoefficientsOf.f K a0 a1 = some (r0, r1)) :
    Calls Try.prog 31 #[.int .i64 a0, .int .i64 a1] w fun e w' => ∃ (Ar0 : Option Addr) (cr0 : Nat), e = .returned (.tuple #[.slice Ar0 r0.length cr0, .int .i64 r1]) ∧ Own eI 2 w' w.heap.size (.slice Ar0 r0.length cr0) r0 ∧ Up w w' := by
 have H : (((impl_asked__impl_CoefficientsOf_1.f K a0 a1).bind fun t7 => (if (t7 == 0) = true then (if decide (0 ≤ (wrap64 (a1 + 2))) = true then (if decide ((wrap64 (a1 + 2)) ≤ 1000000) = true then ((idx (repl ((wrap64 (a1 + 2)).toNat) (0 : Int)) 1).bind fun t28 => (if (a1 == 0) = true then ((cutHi (repl ((wrap64 (a1 + 2)).toNat) (0 : Int)) 1).bind fun t44 => some (t44, 0)) else (impl_CoefficientsOf.l0 K a0 a1 K 1 (repl ((wrap64 (a1 + 2)).toNat) (0 : Int)) ((repl ((wrap64 (a1 + 2)).toNat) (0 : Int)).set (1 : Int).toNat 1)))) else none) else none) else some ([], t7))) : Option (List (Int) × Int)) = some (r0, r1) := h
 clear h
 replace H := Option.bind_eq_some_iff.mp H
 obtain ⟨t7, A8, H⟩ := H
 replace A8 := Aside0.mk A8
 try dsimp only at H
 by_cases c12 : (t7 == 0) = true
 ·
  rw [if_pos c12] at H
  have c12n : (t7 != 0) = false := by rw [bne, c12]; rfl
  by_cases c14 : (decide (0 ≤ (wrap64 (a1 + 2)))) = true
  ·
   rw [if_pos c14] at H
   by_cases c15 : (decide ((wrap64 (a1 + 2)) ≤ 1000000)) = true
   ·
    rw [if_pos c15] at H
    replace H := Option.bind_eq_some_iff.mp H
    obtain ⟨t28, A29, H⟩ := H
    replace A29 := Aside0.mk A29
    try dsimp only at H
    by_cases c42 : (a1 == 0) = true
    ·
     rw [if_pos c42] at H
     have c42n : (a1 != 0) = false := by rw [bne, c42]; rfl
     replace H := Option.bind_eq_some_iff.mp H
     obtain ⟨t44, A45, H⟩ := H
     replace A45 := Aside0.mk A45
     try dsimp only at H
     simp only [Option.some.injEq, Prod.mk.injEq] at H
     obtain ⟨rfl, rfl⟩ := H
     go_enter Try.func31, Try.ntmps31
     refine wp_hide (fun Qf hQf => ?_)
     refine wp_seq_k (fun K1 hK1 => ?_)
     refine wp_region_lit ?_
     refine step_new (cs := [.int .i64 a1]) (T := 2) (f := fun b => .pointer (some ⟨b, 0, none⟩)) rfl (by first | (go_simp; done) | (go_simp; rfl)) ?_
     intro b2 w3 hu lb hb2
     simp only [Act.put, nm1, nm2, nm3, i64_w]
     have lbb2 := Aside0.mk lb
     have ltb2 := Aside0.mk hb2.lt
     clear lb
     have hu4 := Aside0.mk hu
     clear hu
     refine wpList_plain rfl (fun Ko hKo => ?_)
     go_simp
     refine hKo _ _ ?_
     clear hKo Ko
     try simp only [Act.put, nm1, nm2, nm3, i64_w]
     refine wpList_plain rfl (fun Ko hKo => ?_)
     go_simp
     refine hKo _ _ ?_
     clear hKo Ko
     try simp only [Act.put, nm1, nm2, nm3, i64_w]
     refine wpList_nil ?_
     (try simp only [Exit.then, Exit.inBlock, ↓reduceIte, Nat.reduceEqDiff])
     refine hK1 _ _ ?_
     refine wp_seq_k (fun K5 hK5 => ?_)
     refine wp_seq_k (fun K6 hK6 => ?_)
     refine wp_region_lit ?_
     refine wpList_plain rfl (fun Ko hKo => ?_)
     go_simp
     refine hKo _ _ ?_
     clear hKo Ko
     try simp only [Act.put, nm1, nm2, nm3, i64_w]
     refine wpList_plain rfl (fun Ko hKo => ?_)
     go_simp
     refine hKo _ _ ?_
     clear hKo Ko
     try simp only [Act.put, nm1, nm2, nm3, i64_w]
     refine step_call (wanted_none rfl) (by first | (go_simp; done) | (go_simp; rfl)) (impl_asked__impl_CoefficientsOf_1.calls K a0 b2 a1 t7 w3 hb2 A8.out) ?_
     rintro e w9 ⟨rfl, hu⟩
     have hu10 := Aside0.mk hu
     clear hu
     refine ⟨_, rfl, ?_⟩
     simp only [Act.put, nm1, nm2, nm3, i64_w]
     refine wpList_plain rfl (fun Ko hKo => ?_)
     go_simp
     refine hKo _ _ ?_
     clear hKo Ko
     try simp only [Act.put, nm1, nm2, nm3, i64_w]
     refine wpList_nil ?_
     (try simp only [Exit.then, Exit.inBlock, ↓reduceIte, Nat.reduceEqDiff])
     refine hK6 _ _ ?_
     refine wp_seq_k (fun K11 hK11 => ?_)
     refine wp_region_lit ?_
     refine wpList_plain rfl (fun Ko hKo => ?_)
     go_simp
     refine hKo _ _ ?_
     clear hKo Ko
     try simp only [Act.put, nm1, nm2, nm3, i64_w]
     refine wpList_plain rfl (fun Ko hKo => ?_)
     go_simp
     refine hKo _ _ ?_
     clear hKo Ko
     try simp only [Act.put, nm1, nm2, nm3, i64_w]
     refine wpList_nil ?_
     (try simp only [Exit.then, Exit.inBlock, ↓reduceIte, Nat.reduceEqDiff])
     refine hK11 _ _ ?_
     refine wp_cond_false rfl ?_
     refine wp_skip ?_
     (try simp only [Exit.then, Exit.inBlock, ↓reduceIte, Nat.reduceEqDiff])
     refine hK5 _ _ ?_
     refine wp_seq_k (fun K13 hK13 => ?_)
     refine' wp_region_up 8 [Slot.det _, Slot.det _, Slot.any (RowTo eI 2 w9.heap.size (repl ((wrap64 (a1 + 2)).toNat) (0 : Int)) (fun v => v)) true, Slot.det _, Slot.det _, Slot.any (RowTo eI 2 w9.heap.size (repl ((wrap64 (a1 + 2)).toNat) (0 : Int)) (fun v => v)) true, Slot.same 2, Slot.same 5] (by kernel_rfl) (by kernel_rfl) ?main
     case main =>
      simp only [List.take_succ_cons, List.take_zero]
      refine wpK_ops rfl (fun w1 hu => ?_) ?_
      · have cl0 := ((hb2.up hu10.out).up ((Up.refl _).drew.trans hu)).cell (o := 0) rfl
        go_simp
        first | done | rfl
      simp only [Act.put, nm1, nm2, nm3, i64_w]
      refine wpK_ops rfl (fun w1 hu => ?_) ?_
      · clear hu
        go_simp
        first | done | rfl
      simp only [Act.put, nm1, nm2, nm3, i64_w]
      refine wpK_any rfl (stab_row _ _ _ _ _) (fun w1 hu _ => fresh_make eI (z := .int .i64 0) (bytes := 8) (n := wrap64 (a1 + 2)) (z0 := 0) _ _ rfl rfl rfl (by kernel_rfl) (by kernel_rfl) rfl (by decide) (of_decide_eq_true (by assumption)) (by have h1_ : wrap64 (a1 + 2) ≤ 1000000 := of_decide_eq_true (by assumption); omega) (by have h1_ : wrap64 (a1 + 2) ≤ 1000000 := of_decide_eq_true (by assumption); omega) ((Up.refl _).drew.trans hu).size) (fun v19 => ?_)
      simp only [Act.put, nm1, nm2, nm3, i64_w]
      refine wpK_ops rfl (fun w1 hu => ?_) ?_
      · have cl0 := ((hb2.up hu10.out).up ((Up.refl _).drew.trans hu)).cell (o := 0) rfl
        go_simp
        first | done | rfl
      simp only [Act.put, nm1, nm2, nm3, i64_w]
      refine wpK_ops rfl (fun w1 hu => ?_) ?_
      · clear hu
        go_simp
        first | done | rfl
      simp only [Act.put, nm1, nm2, nm3, i64_w]
      refine wpK_any rfl (stab_row _ _ _ _ _) (fun w1 hu _ => fresh_make eI (z := .int .i64 0) (bytes := 8) (n := wrap64 (a1 + 2)) (z0 := 0) _ _ rfl rfl rfl (by kernel_rfl) (by kernel_rfl) rfl (by decide) (of_decide_eq_true (by assumption)) (by have h1_ : wrap64 (a1 + 2) ≤ 1000000 := of_decide_eq_true (by assumption); omega) (by have h1_ : wrap64 (a1 + 2) ≤ 1000000 := of_decide_eq_true (by assumption); omega) ((Up.refl _).drew.trans hu).size) (fun v23 => ?_)
      simp only [Act.put, nm1, nm2, nm3, i64_w]
      refine wpK_same rfl (by kernel_rfl) rfl v19 rfl (fun w1 hu => ?_) ?_
      · clear hu
        go_simp
        first | done | rfl
      simp only [Act.put, nm1, nm2, nm3, i64_w]
      refine wpK_same rfl (by kernel_rfl) rfl v23 rfl (fun w1 hu => ?_) ?_
      · clear hu
        go_simp
        first | done | rfl
      simp only [Act.put, nm1, nm2, nm3, i64_w]
      refine wpK_nil ?_
      intro w24 hu hap
      simp only [List.drop_succ_cons, List.drop_zero]
      replace hu := (Up.refl _).drew.trans hu
      obtain ⟨hf0, hn0, ⟨P20, q21, e0, hr22⟩, hf1, hn1, ⟨P16, q17, e1, hr18⟩, -⟩ := hap
      have hn25 := Aside0.mk (fun k_ l_ hk hl => hn0 _ (.head _) rfl rfl k_ l_ (by rw [e0]; exact hk) (by rw [e1]; exact hl) : ∀ k_ l_, blk (.slice P20 ((repl ((wrap64 (a1 + 2)).toNat) (0 : Int)).length) q21) = some k_ → blk (.slice P16 ((repl ((wrap64 (a1 + 2)).toNat) (0 : Int)).length) q17) = some l_ → k_ ≠ l_)
      dsimp only at e0 e1
      subst e0 e1
      clear hf0 hn0 hf1 hn1
      have hu26 := Aside0.mk hu
      clear hu
      refine wpList_nil ?_
      (try simp only [Exit.then, Exit.inBlock, ↓reduceIte, Nat.reduceEqDiff])
      refine hK13 _ _ ?_
      refine wp_seq_k (fun K27 hK27 => ?_)
      refine wp_region_lit ?_
      refine wpList_plain rfl (fun Ko hKo => ?_)
      go_simp
      refine hKo _ _ ?_
      clear hKo Ko
      try simp only [Act.put, nm1, nm2, nm3, i64_w]
      refine step_index eI (T := 2) (wanted_none rfl) rfl (by kernel_rfl) (by kernel_rfl) rfl rfl rfl hr22.rd A29.out ?_
      intro ad30 hat he
      have he31 := Aside0.mk he
      have hat32 := Aside0.mk hat
      clear he hat
      simp only [Act.put, nm1, nm2, nm3, i64_w]
      have hO0 := Aside0.mk hr22
      have lb37 := Aside0.mk hO0.out.lt
      refine step_put eI (T := 2) (u := .int .i64 1) (old := t28) (new := 1) 0 rfl rfl rfl hat32.out (addr_add0 _).symm rfl rfl (by kernel_rfl) (by simp [Value.cells, Value.oneCell']) (Nat.le_of_ble_eq_true rfl) rfl hO0.out A29.out ?_
      intro w33 h35 hg
      have hg36 := Aside0.mk hg
      clear hO0 hg
      try simp only [Act.put, nm1, nm2, nm3, i64_w]
      have h38 := hr18.grow hg36.out hn25.out
      have hl39 : Aside0 ((repl ((wrap64 (a1 + 2)).toNat) (0 : Int)).length = ((repl ((wrap64 (a1 + 2)).toNat) (0 : Int)).set (1 : Int).toNat 1).length) := Aside0.mk (List.length_set ..).symm
      refine wpList_nil ?_
      (try simp only [Exit.then, Exit.inBlock, ↓reduceIte, Nat.reduceEqDiff])
      refine hK27 _ _ ?_
      refine wp_seq_k (fun K40 hK40 => ?_)
      refine wp_seq_k (fun K41 hK41 => ?_)
      refine wp_region_lit ?_
      have cl0 := (hb2.up ((hu10.out.trans hu26.out).grow hg36.out (fun k hk => Nat.le_trans (hu10.out.size) ((fun k hk => (lb37.out k hk).1) k hk)))).cell (o := 0) rfl
      refine wpList_plain rfl (fun Ko hKo => ?_)
      go_simp
      refine hKo _ _ ?_
      clear hKo Ko
      clear cl0
      try simp only [Act.put, nm1, nm2, nm3, i64_w]
      refine wpList_plain rfl (fun Ko hKo => ?_)
      go_simp
      refine hKo _ _ ?_
      clear hKo Ko
      try simp only [Act.put, nm1, nm2, nm3, i64_w]
      refine wpList_nil ?_
      (try simp only [Exit.then, Exit.inBlock, ↓reduceIte, Nat.reduceEqDiff])
      refine hK41 _ _ ?_
      refine wp_cond_true rfl ?_
      refine wp_seq_k (fun K43 hK43 => ?_)
      refine wp_region_lit ?_
      refine wpList_plain rfl (fun Ko hKo => ?_)
      go_simp
      refine hKo _ _ ?_
      clear hKo Ko
      try simp only [Act.put, nm1, nm2, nm3, i64_w]
      have hO0 := Aside0.mk h38
      refine step_cut_hm 1 (T := 2) (i := 1) (xs := (repl ((wrap64 (a1 + 2)).toNat) (0 : Int))) (ys := t44) (wanted_none rfl) rfl (by kernel_rfl) (by kernel_rfl) rfl rfl rfl hO0.out.cap A45.out ?_
      have h46 := hO0.out.cutHm A45.out
      clear hO0
      simp only [Act.put, nm1, nm2, nm3, i64_w]
      refine wpList_plain rfl (fun Ko hKo => ?_)
      go_simp
      refine hKo _ _ ?_
      clear hKo Ko
      try simp only [Act.put, nm1, nm2, nm3, i64_w]
      refine wpList_plain rfl (fun Ko hKo => ?_)
      go_simp
      refine hKo _ _ ?_
      clear hKo Ko
      try simp only [Act.put, nm1, nm2, nm3, i64_w]
      refine wpList_nil ?_
      (try simp only [Exit.then, Exit.inBlock, ↓reduceIte, Nat.reduceEqDiff])
      refine hK43 _ _ ?_
      refine wp_ret ?_
      (try simp only [Exit.then, Exit.inBlock, ↓reduceIte, Nat.reduceEqDiff])
      refine hQf _ _ _ ?_
      exact bodyPost_ret (v := .tuple #[.slice P16 t44.length t44.length, .int .i64 0]) (by first | rfl | (simp [results, Try.results31, go_sem]; done) | (simp [results, Try.results31, go_sem]; rfl)) rfl ⟨P16, t44.length, rfl, (h46.lower ((Nat.le_trans (hu4.out.size) hu10.out.size))), (((hu4.out.trans hu10.out).trans hu26.out).grow hg36.out (fun k hk => Nat.le_trans ((Nat.le_trans (hu4.out.size) hu10.out.size)) ((fun k hk => (lb37.out k hk).1) k hk)))⟩
    ·
     rw [if_neg c42] at H
     replace c42 := Bool.eq_false_iff.mpr c42
     have c42n : (a1 != 0) = true := by rw [bne, c42]; rfl
     have c42p : ¬ a1 = 0 := fun e => by simp [e] at c42
     go_enter Try.func31, Try.ntmps31
     refine wp_hide (fun Qf hQf => ?_)
     refine wp_seq_k (fun K1 hK1 => ?_)
     refine wp_region_lit ?_
     refine step_new (cs := [.int .i64 a1]) (T := 2) (f := fun b => .pointer (some ⟨b, 0, none⟩)) rfl (by first | (go_simp; done) | (go_simp; rfl)) ?_
     intro b2 w3 hu lb hb2
     simp only [Act.put, nm1, nm2, nm3, i64_w]
     have lbb2 := Aside0.mk lb
     have ltb2 := Aside0.mk hb2.lt
     clear lb
     have hu4 := Aside0.mk hu
     clear hu
     refine wpList_plain rfl (fun Ko hKo => ?_)
     go_simp
     refine hKo _ _ ?_
     clear hKo Ko
     try simp only [Act.put, nm1, nm2, nm3, i64_w]
     refine wpList_plain rfl (fun Ko hKo => ?_)
     go_simp
     refine hKo _ _ ?_
     clear hKo Ko
     try simp only [Act.put, nm1, nm2, nm3, i64_w]
     refine wpList_nil ?_
     (try simp only [Exit.then, Exit.inBlock, ↓reduceIte, Nat.reduceEqDiff])
     refine hK1 _ _ ?_
     refine wp_seq_k (fun K5 hK5 => ?_)
     refine wp_seq_k (fun K6 hK6 => ?_)
     refine wp_region_lit ?_
     refine wpList_plain rfl (fun Ko hKo => ?_)
     go_simp
     refine hKo _ _ ?_
     clear hKo Ko
     try simp only [Act.put, nm1, nm2, nm3, i64_w]
     refine wpList_plain rfl (fun Ko hKo => ?_)
     go_simp
     refine hKo _ _ ?_
     clear hKo Ko
     try simp only [Act.put, nm1, nm2, nm3, i64_w]
     refine step_call (wanted_none rfl) (by first | (go_simp; done) | (go_simp; rfl)) (impl_asked__impl_CoefficientsOf_1.calls K a0 b2 a1 t7 w3 hb2 A8.out) ?_
     rintro e w9 ⟨rfl, hu⟩
     have hu10 := Aside0.mk hu
     clear hu
     refine ⟨_, rfl, ?_⟩
     simp only [Act.put, nm1, nm2, nm3, i64_w]
     refine wpList_plain rfl (fun Ko hKo => ?_)
     go_simp
     refine hKo _ _ ?_
     clear hKo Ko
     try simp only [Act.put, nm1, nm2, nm3, i64_w]
     refine wpList_nil ?_
     (try simp only [Exit.then, Exit.inBlock, ↓reduceIte, Nat.reduceEqDiff])
     refine hK6 _ _ ?_
     refine wp_seq_k (fun K11 hK11 => ?_)
     refine wp_region_lit ?_
     refine wpList_plain rfl (fun Ko hKo => ?_)
     go_simp
     refine hKo _ _ ?_
     clear hKo Ko
     try simp only [Act.put, nm1, nm2, nm3, i64_w]
     refine wpList_plain rfl (fun Ko hKo => ?_)
     go_simp
     refine hKo _ _ ?_
     clear hKo Ko
     try simp only [Act.put, nm1, nm2, nm3, i64_w]
     refine wpList_nil ?_
     (try simp only [Exit.then, Exit.inBlock, ↓reduceIte, Nat.reduceEqDiff])
     refine hK11 _ _ ?_
     refine wp_cond_false rfl ?_
     refine wp_skip ?_
     (try simp only [Exit.then, Exit.inBlock, ↓reduceIte, Nat.reduceEqDiff])
     refine hK5 _ _ ?_
     refine wp_seq_k (fun K13 hK13 => ?_)
     refine' wp_region_up 8 [Slot.det _, Slot.det _, Slot.any (RowTo eI 2 w9.heap.size (repl ((wrap64 (a1 + 2)).toNat) (0 : Int)) (fun v => v)) true, Slot.det _, Slot.det _, Slot.any (RowTo eI 2 w9.heap.size (repl ((wrap64 (a1 + 2)).toNat) (0 : Int)) (fun v => v)) true, Slot.same 2, Slot.same 5] (by kernel_rfl) (by kernel_rfl) ?main
     case main =>
      simp only [List.take_succ_cons, List.take_zero]
      refine wpK_ops rfl (fun w1 hu => ?_) ?_
      · have cl0 := ((hb2.up hu10.out).up ((Up.refl _).drew.trans hu)).cell (o := 0) rfl
        go_simp
        first | done | rfl
      simp only [Act.put, nm1, nm2, nm3, i64_w]
      refine wpK_ops rfl (fun w1 hu => ?_) ?_
      · clear hu
        go_simp
        first | done | rfl
      simp only [Act.put, nm1, nm2, nm3, i64_w]
      refine wpK_any rfl (stab_row _ _ _ _ _) (fun w1 hu _ => fresh_make eI (z := .int .i64 0) (bytes := 8) (n := wrap64 (a1 + 2)) (z0 := 0) _ _ rfl rfl rfl (by kernel_rfl) (by kernel_rfl) rfl (by decide) (of_decide_eq_true (by assumption)) (by have h1_ : wrap64 (a1 + 2) ≤ 1000000 := of_decide_eq_true (by assumption); omega) (by have h1_ : wrap64 (a1 + 2) ≤ 1000000 := of_decide_eq_true (by assumption); omega) ((Up.refl _).drew.trans hu).size) (fun v19 => ?_)
      simp only [Act.put, nm1, nm2, nm3, i64_w]
      refine wpK_ops rfl (fun w1 hu => ?_) ?_
      · have cl0 := ((hb2.up hu10.out).up ((Up.refl _).drew.trans hu)).cell (o := 0) rfl
        go_simp
        first | done | rfl
      simp only [Act.put, nm1, nm2, nm3, i64_w]
      refine wpK_ops rfl (fun w1 hu => ?_) ?_
      · clear hu
        go_simp
        first | done | rfl
      simp only [Act.put, nm1, nm2, nm3, i64_w]
      refine wpK_any rfl (stab_row _ _ _ _ _) (fun w1 hu _ => fresh_make eI (z := .int .i64 0) (bytes := 8) (n := wrap64 (a1 + 2)) (z0 := 0) _ _ rfl rfl rfl (by kernel_rfl) (by kernel_rfl) rfl (by decide) (of_decide_eq_true (by assumption)) (by have h1_ : wrap64 (a1 + 2) ≤ 1000000 := of_decide_eq_true (by assumption); omega) (by have h1_ : wrap64 (a1 + 2) ≤ 1000000 := of_decide_eq_true (by assumption); omega) ((Up.refl _).drew.trans hu).size) (fun v23 => ?_)
      simp only [Act.put, nm1, nm2, nm3, i64_w]
      refine wpK_same rfl (by kernel_rfl) rfl v19 rfl (fun w1 hu => ?_) ?_
      · clear hu
        go_simp
        first | done | rfl
      simp only [Act.put, nm1, nm2, nm3, i64_w]
      refine wpK_same rfl (by kernel_rfl) rfl v23 rfl (fun w1 hu => ?_) ?_
      · clear hu
        go_simp
        first | done | rfl
      simp only [Act.put, nm1, nm2, nm3, i64_w]
      refine wpK_nil ?_
      intro w24 hu hap
      simp only [List.drop_succ_cons, List.drop_zero]
      replace hu := (Up.refl _).drew.trans hu
      obtain ⟨hf0, hn0, ⟨P20, q21, e0, hr22⟩, hf1, hn1, ⟨P16, q17, e1, hr18⟩, -⟩ := hap
      have hn25 := Aside0.mk (fun k_ l_ hk hl => hn0 _ (.head _) rfl rfl k_ l_ (by rw [e0]; exact hk) (by rw [e1]; exact hl) : ∀ k_ l_, blk (.slice P20 ((repl ((wrap64 (a1 + 2)).toNat) (0 : Int)).length) q21) = some k_ → blk (.slice P16 ((repl ((wrap64 (a1 + 2)).toNat) (0 : Int)).length) q17) = some l_ → k_ ≠ l_)
      dsimp only at e0 e1
      subst e0 e1
      clear hf0 hn0 hf1 hn1
      have hu26 := Aside0.mk hu
      clear hu
      refine wpList_nil ?_
      (try simp only [Exit.then, Exit.inBlock, ↓reduceIte, Nat.reduceEqDiff])
      refine hK13 _ _ ?_
      refine wp_seq_k (fun K27 hK27 => ?_)
      refine wp_region_lit ?_
      refine wpList_plain rfl (fun Ko hKo => ?_)
      go_simp
      refine hKo _ _ ?_
      clear hKo Ko
      try simp only [Act.put, nm1, nm2, nm3, i64_w]
      refine step_index eI (T := 2) (wanted_none rfl) rfl (by kernel_rfl) (by kernel_rfl) rfl rfl rfl hr22.rd A29.out ?_
      intro ad30 hat he
      have he31 := Aside0.mk he
      have hat32 := Aside0.mk hat
      clear he hat
      simp only [Act.put, nm1, nm2, nm3, i64_w]
      have hO0 := Aside0.mk hr22
      have lb37 := Aside0.mk hO0.out.lt
      refine step_put eI (T := 2) (u := .int .i64 1) (old := t28) (new := 1) 0 rfl rfl rfl hat32.out (addr_add0 _).symm rfl rfl (by kernel_rfl) (by simp [Value.cells, Value.oneCell']) (Nat.le_of_ble_eq_true rfl) rfl hO0.out A29.out ?_
      intro w33 h35 hg
      have hg36 := Aside0.mk hg
      clear hO0 hg
      try simp only [Act.put, nm1, nm2, nm3, i64_w]
      have h38 := hr18.grow hg36.out hn25.out
      have hl39 : Aside0 ((repl ((wrap64 (a1 + 2)).toNat) (0 : Int)).length = ((repl ((wrap64 (a1 + 2)).toNat) (0 : Int)).set (1 : Int).toNat 1).length) := Aside0.mk (List.length_set ..).symm
      refine wpList_nil ?_
      (try simp only [Exit.then, Exit.inBlock, ↓reduceIte, Nat.reduceEqDiff])
      refine hK27 _ _ ?_
      refine wp_seq_k (fun K40 hK40 => ?_)
      refine wp_seq_k (fun K41 hK41 => ?_)
      refine wp_region_lit ?_
      have cl0 := (hb2.up ((hu10.out.trans hu26.out).grow hg36.out (fun k hk => Nat.le_trans (hu10.out.size) ((fun k hk => (lb37.out k hk).1) k hk)))).cell (o := 0) rfl
      refine wpList_plain rfl (fun Ko hKo => ?_)
      go_simp
      refine hKo _ _ ?_
      clear hKo Ko
      clear cl0
      try simp only [Act.put, nm1, nm2, nm3, i64_w]
      refine wpList_plain rfl (fun Ko hKo => ?_)
      go_simp
      refine hKo _ _ ?_
      clear hKo Ko
      try simp only [Act.put, nm1, nm2, nm3, i64_w]
      refine wpList_nil ?_
      (try simp only [Exit.then, Exit.inBlock, ↓reduceIte, Nat.reduceEqDiff])
      refine hK41 _ _ ?_
      refine wp_cond_false rfl ?_
      refine wp_skip ?_
      (try simp only [Exit.then, Exit.inBlock, ↓reduceIte, Nat.reduceEqDiff])
      refine hK40 _ _ ?_
      refine wp_seq_k (fun K47 hK47 => ?_)
      refine wp_seq_k (fun K48 hK48 => ?_)
      refine wp_region_lit ?_
      refine wpList_plain rfl (fun Ko hKo => ?_)
      go_simp
      refine hKo _ _ ?_
      clear hKo Ko
      try simp only [Act.put, nm1, nm2, nm3, i64_w]
      refine wpList_nil ?_
      (try simp only [Exit.then, Exit.inBlock, ↓reduceIte, Nat.reduceEqDiff])
      refine hK48 _ _ ?_
      refine wp_block ?_
      have HL59 := Aside0.mk H
      clear H
      go_loopg [9, 7, 8] K (fun kq v9 v7 v8 w' => ∃ (x49 : Int) (x50 : List (Int)) (P51 : Option Addr) (q52 : Nat) (x53 : List (Int)) (P54 : Option Addr) (q55 : Nat), v9 = .int .i64 x49 ∧ v7 = .slice P51 x50.length q52 ∧ v8 = .slice P54 x53.length q55 ∧ Aside0 (impl_CoefficientsOf.l0 K a0 a1 kq x49 x50 x53 = some (r0, r1)) ∧ Aside0 (kq ≤ K) ∧ Aside0 (Up w9 w') ∧ Aside0 (w33.heap.size ≤ w'.heap.size) ∧ Own eI 2 w' w9.heap.size (.slice P51 x50.length q52) x50 ∧ Own eI 2 w' w9.heap.size (.slice P54 x53.length q55) x53 ∧ Aside0 (∀ k, blk (.slice P51 x50.length q52) = some k → k ≠ b2) ∧ Aside0 (∀ k l, blk (.slice P51 x50.length q52) = some k → blk (.slice P54 x53.length q55) = some l → k ≠ l) ∧ Aside0 (∀ k, blk (.slice P54 x53.length q55) = some k → k ≠ b2))
      case atStart => exact ⟨1, (repl ((wrap64 (a1 + 2)).toNat) (0 : Int)), P16, q17, ((repl ((wrap64 (a1 + 2)).toNat) (0 : Int)).set (1 : Int).toNat 1), P20, q21, (by first | rfl | simp), (by first | rfl | simp), (congrArg (fun n_ => Value.slice _ n_ _) hl39.out), HL59, ⟨Nat.le_refl _⟩, ⟨(hu26.out.grow hg36.out (fun k hk => Nat.le_trans (Nat.le_refl _) ((fun k hk => (lb37.out k hk).1) k hk)))⟩, ⟨Nat.le_refl _⟩, h38, h35, ⟨(fun k hk => Ne.symm ((fun k hk => Nat.ne_of_lt (Nat.lt_of_lt_of_le (Nat.lt_of_lt_of_le ltb2.out (hu10.out.size)) ((fun k hk => Nat.le_trans (Nat.le_refl _) (hr18.lt k hk).1) k hk))) k hk))⟩, ⟨(fun k l hk hl => Ne.symm ((fun k l hk hl => hn25.out k l (blk_eq.symm.trans hk) hl) l k hl hk))⟩, ⟨(fun k hk => (fun k hk => Ne.symm ((fun k hk => Nat.ne_of_lt (Nat.lt_of_lt_of_le (Nat.lt_of_lt_of_le ltb2.out (hu10.out.size)) ((fun k hk => Nat.le_trans (Nat.le_refl _) (hr22.lt k hk).1) k hk))) k hk)) k (blk_eq.symm.trans hk))⟩⟩
      case round =>
       rename_i J68 K69 hJ68 hK69
       obtain ⟨x49, x50, P51, q52, x53, P54, q55, rfl, rfl, rfl, HL67, hk66, hu57, hz58, h60, h61, hn62, hn63, hn64⟩ := hrel
       obtain ⟨w56, rfl⟩ : ∃ wo : World, wo = wr := ⟨_, rfl⟩
       obtain ⟨k65, rfl⟩ | rfl : (∃ k, gk = k + 1) ∨ gk = 0 := by rcases gk with _ | k; exact .inr rfl; exact .inl ⟨k, rfl⟩
       case inr => exact absurd HL67.out (by simp [impl_CoefficientsOf.l0])
       have H := HL67.out
       clear HL67
       rw [impl_CoefficientsOf.l0] at H
       by_cases c72 : (decide (x49 < a1)) = true
       ·
        rw [if_pos c72] at H
        refine wp_seq_k (fun K70 hK70 => ?_)
        refine wp_seq_k (fun K71 hK71 => ?_)
        refine wp_region_lit ?_
        refine wpList_plain rfl (fun Ko hKo => ?_)
        go_simp
        refine hKo _ _ ?_
        clear hKo Ko
        try simp only [Act.put, nm1, nm2, nm3, i64_w]
        have cl0 := (hb2.up (hu10.out.trans hu57.out)).cell (o := 0) rfl
        refine wpList_plain rfl (fun Ko hKo => ?_)
        go_simp
        refine hKo _ _ ?_
        clear hKo Ko
        clear cl0
        try simp only [Act.put, nm1, nm2, nm3, i64_w]
        refine wpList_plain rfl (fun Ko hKo => ?_)
        go_simp
        refine hKo _ _ ?_
        clear hKo Ko
        try simp only [Act.put, nm1, nm2, nm3, i64_w]
        refine wpList_nil ?_
        (try simp only [Exit.then, Exit.inBlock, ↓reduceIte, Nat.reduceEqDiff])
        refine hK71 _ _ ?_
        refine wp_cond_true rfl ?_
        refine wp_skip ?_
        (try simp only [Exit.then, Exit.inBlock, ↓reduceIte, Nat.reduceEqDiff])
        refine hK70 _ _ ?_
        refine wp_seq_k (fun K73 hK73 => ?_)
        refine wp_block ?_
        refine wp_seq_k (fun K74 hK74 => ?_)
        refine wp_region_lit ?_
        have cl0 := (hb2.up (hu10.out.trans hu57.out)).cell (o := 0) rfl
        refine wpList_plain rfl (fun Ko hKo => ?_)
        go_simp
        refine hKo _ _ ?_
        clear hKo Ko
        clear cl0
        try simp only [Act.put, nm1, nm2, nm3, i64_w]
        refine wpList_plain rfl (fun Ko hKo => ?_)
        go_simp
        refine hKo _ _ ?_
        clear hKo Ko
        try simp only [Act.put, nm1, nm2, nm3, i64_w]
        refine step_make eI (z := .int .i64 0) (bytes := 8) (n := wrap64 (a1 + 2)) (z0 := 0) (wanted_none rfl) _ _ rfl rfl rfl rfl (by kernel_rfl) rfl (by decide) (of_decide_eq_true (by assumption)) (by have h1_ : wrap64 (a1 + 2) ≤ 1000000 := of_decide_eq_true (by assumption); omega) ?_
        intro P75 q76 w77 h79 hu
        simp only [Act.put, nm1, nm2, nm3, i64_w]
        have hu80 := Aside0.mk hu
        clear hu
        refine wpList_plain rfl (fun Ko hKo => ?_)
        go_simp
        refine hKo _ _ ?_
        clear hKo Ko
        try simp only [Act.put, nm1, nm2, nm3, i64_w]
        refine wpList_nil ?_
        (try simp only [Exit.then, Exit.inBlock, ↓reduceIte, Nat.reduceEqDiff])
        refine hK74 _ _ ?_
        refine wp_seq_k (fun K81 hK81 => ?_)
        refine wp_seq_k (fun K82 hK82 => ?_)
        refine wp_region_lit ?_
        refine wpList_plain rfl (fun Ko hKo => ?_)
        go_simp
        refine hKo _ _ ?_
        clear hKo Ko
        try simp only [Act.put, nm1, nm2, nm3, i64_w]
        refine wpList_plain rfl (fun Ko hKo => ?_)
        go_simp
        refine hKo _ _ ?_
        clear hKo Ko
        try simp only [Act.put, nm1, nm2, nm3, i64_w]
        refine wpList_plain rfl (fun Ko hKo => ?_)
        go_simp
        refine hKo _ _ ?_
        clear hKo Ko
        try simp only [Act.put, nm1, nm2, nm3, i64_w]
        refine wpList_nil ?_
        (try simp only [Exit.then, Exit.inBlock, ↓reduceIte, Nat.reduceEqDiff])
        refine hK82 _ _ ?_
        refine wp_block ?_
        have HL88 := Aside0.mk H
        clear H
        go_loopg [40] k65 (fun kq v40 w' => ∃ (x83 : Int) (x84 : List (Int)), v40 = .int .i64 x83 ∧ Aside0 (impl_CoefficientsOf.l1 K a0 a1 x49 x50 x53 kq x83 x84 = some (r0, r1)) ∧ Aside0 (kq ≤ k65) ∧ Aside0 (Up w56 w') ∧ Aside0 (w77.heap.size ≤ w'.heap.size) ∧ Own eI 2 w' w56.heap.size (.slice P75 x84.length q76) x84 ∧ Aside0 ((repl ((wrap64 (a1 + 2)).toNat) (0 : Int)).length = x84.length) ∧ Aside0 (∀ k, blk (.slice P75 x84.length q76) = some k → k ≠ b2) ∧ Aside0 (∀ k l, blk (.slice P75 x84.length q76) = some k → blk (.slice P51 x50.length q52) = some l → k ≠ l) ∧ Aside0 (∀ k l, blk (.slice P75 x84.length q76) = some k → blk (.slice P54 x53.length q55) = some l → k ≠ l))
        case atStart => exact ⟨0, (repl ((wrap64 (a1 + 2)).toNat) (0 : Int)), (by first | rfl | simp), HL88, ⟨Nat.le_refl _⟩, ⟨hu80.out⟩, ⟨Nat.le_refl _⟩, h79, ⟨rfl⟩, ⟨(fun k hk => Ne.symm ((fun k hk => Nat.ne_of_lt (Nat.lt_of_lt_of_le (Nat.lt_of_lt_of_le ltb2.out ((Nat.le_trans ((Nat.le_trans ((Nat.le_trans (hu10.out.size) hu26.out.size)) hg36.out.size)) hz58.out))) ((fun k hk => Nat.le_trans (Nat.le_refl _) (h79.lt k hk).1) k hk))) k hk))⟩, ⟨(fun k l hk hl => Ne.symm ((fun k l hk hl => Nat.ne_of_lt (Nat.lt_of_lt_of_le ((fun k hk => Nat.lt_of_lt_of_le (h60.lt k hk).2 (Nat.le_refl _)) k hk) ((fun k hk => Nat.le_trans (Nat.le_refl _) (h79.lt k hk).1) l hl))) l k hl hk))⟩, ⟨(fun k l hk hl => Ne.symm ((fun k l hk hl => Nat.ne_of_lt (Nat.lt_of_lt_of_le ((fun k hk => Nat.lt_of_lt_of_le (h61.lt k hk).2 (Nat.le_refl _)) k hk) ((fun k hk => Nat.le_trans (Nat.le_refl _) (h79.lt k hk).1) l hl))) l k hl hk))⟩⟩
        case round =>
         rename_i J97 K98 hJ97 hK98
         obtain ⟨x83, x84, rfl, HL96, hk95, hu86, hz87, h89, hl90, hn91, hn92, hn93⟩ := hrel
         obtain ⟨w85, rfl⟩ : ∃ wo : World, wo = wr := ⟨_, rfl⟩
         obtain ⟨k94, rfl⟩ | rfl : (∃ k, gk = k + 1) ∨ gk = 0 := by rcases gk with _ | k; exact .inr rfl; exact .inl ⟨k, rfl⟩
         case inr => exact absurd HL96.out (by simp [impl_CoefficientsOf.l1])
         have H := HL96.out
         clear HL96
         rw [impl_CoefficientsOf.l1] at H
         by_cases c101 : (decide (x83 < ((repl ((wrap64 (a1 + 2)).toNat) (0 : Int)).length : Int))) = true
         ·
          rw [if_pos c101] at H
          replace H := Option.bind_eq_some_iff.mp H
          obtain ⟨t105, A106, H⟩ := H
          replace A106 := Aside0.mk A106
          try dsimp only at H
          replace H := Option.bind_eq_some_iff.mp H
          obtain ⟨t111, A112, H⟩ := H
          replace A112 := Aside0.mk A112
          try dsimp only at H
          replace H := Option.bind_eq_some_iff.mp H
          obtain ⟨t117, A118, H⟩ := H
          replace A118 := Aside0.mk A118
          try dsimp only at H
          by_cases c133 : (decide (0 < x83)) = true
          ·
           rw [if_pos c133] at H
           replace H := Option.bind_eq_some_iff.mp H
           obtain ⟨t134, A135, H⟩ := H
           replace A135 := Aside0.mk A135
           try dsimp only at H
           replace H := Option.bind_eq_some_iff.mp H
           obtain ⟨t140, A141, H⟩ := H
           replace A141 := Aside0.mk A141
           try dsimp only at H
           replace H := Option.bind_eq_some_iff.mp H
           obtain ⟨t146, A147, H⟩ := H
           replace A147 := Aside0.mk A147
           try dsimp only at H
           by_cases c162 : (x83 == 1) = true
           ·
            rw [if_pos c162] at H
            have c162n : (x83 != 1) = false := by rw [bne, c162]; rfl
            replace H := Option.bind_eq_some_iff.mp H
            obtain ⟨t163, A164, H⟩ := H
            replace A164 := Aside0.mk A164
            try dsimp only at H
            replace H := Option.bind_eq_some_iff.mp H
            obtain ⟨t168, A169, H⟩ := H
            replace A169 := Aside0.mk A169
            try dsimp only at H
            replace H := Option.bind_eq_some_iff.mp H
            obtain ⟨t179, A180, H⟩ := H
            replace A180 := Aside0.mk A180
            try dsimp only at H
            replace H := Option.bind_eq_some_iff.mp H
            obtain ⟨t184, A185, H⟩ := H
            replace A185 := Aside0.mk A185
            try dsimp only at H
            replace H := Option.bind_eq_some_iff.mp H
            obtain ⟨t188, A189, H⟩ := H
            replace A189 := Aside0.mk A189
            try dsimp only at H
            have HL199 := Aside0.mk H
            clear H
            refine wp_seq_k (fun K99 hK99 => ?_)
            refine wp_region_lit ?_
            refine wpList_plain rfl (fun Ko hKo => ?_)
            go_simp
            refine hKo _ _ ?_
            clear hKo Ko
            try simp only [Act.put, nm1, nm2, nm3, i64_w]
            refine wpList_nil ?_
            (try simp only [Exit.then, Exit.inBlock, ↓reduceIte, Nat.reduceEqDiff])
            refine hK99 _ _ ?_
            refine wp_seq_k (fun K100 hK100 => ?_)
            refine wp_cond_true rfl ?_
            refine wp_skip ?_
            (try simp only [Exit.then, Exit.inBlock, ↓reduceIte, Nat.reduceEqDiff])
            refine hK100 _ _ ?_
            refine wp_seq_k (fun K102 hK102 => ?_)
            refine wp_block ?_
            refine wp_seq_k (fun K103 hK103 => ?_)
            refine wp_region_lit ?_
            refine wpList_plain rfl (fun Ko hKo => ?_)
            go_simp
            refine hKo _ _ ?_
            clear hKo Ko
            try simp only [Act.put, nm1, nm2, nm3, i64_w]
            refine wpList_plain rfl (fun Ko hKo => ?_)
            go_simp
            refine hKo _ _ ?_
            clear hKo Ko
            try simp only [Act.put, nm1, nm2, nm3, i64_w]
            refine wpList_nil ?_
            (try simp only [Exit.then, Exit.inBlock, ↓reduceIte, Nat.reduceEqDiff])
            refine hK103 _ _ ?_
            refine wp_seq_k (fun K104 hK104 => ?_)
            obtain ⟨ad107, hat, he⟩ := rd_at ((h61.up hu86.out).rd) A106.out
            have he108 := Aside0.mk he
            have hat110 := Aside0.mk hat
            clear he hat
            obtain ⟨ad113, hat, he⟩ := rd_at ((h60.up hu86.out).rd) A112.out
            have he114 := Aside0.mk he
            have hat116 := Aside0.mk hat
            clear he hat
            obtain ⟨ad119, hat, he⟩ := rd_at h89.rd A118.out
            have he120 := Aside0.mk he
            have hat122 := Aside0.mk hat
            clear he hat
            refine' wp_region_up 13 [Slot.det _, Slot.det _, Slot.det _, Slot.det _, Slot.det (.pointer (some ad107)), Slot.det _, Slot.det _, Slot.det _, Slot.det _, Slot.det (.pointer (some ad113)), Slot.det _, Slot.det _, Slot.det (.pointer (some ad119))] (by kernel_rfl) (by kernel_rfl) ?main
            case main =>
             simp only [List.take_succ_cons, List.take_zero]
             refine wpK_ops rfl (fun w1 hu => ?_) ?_
             · clear hu
               go_simp
               first | done | rfl
             simp only [Act.put, nm1, nm2, nm3, i64_w]
             refine wpK_ops rfl (fun w1 hu => ?_) ?_
             · clear hu
               go_simp
               first | done | rfl
             simp only [Act.put, nm1, nm2, nm3, i64_w]
             refine wpK_ops rfl (fun w1 hu => ?_) ?_
             · clear hu
               go_simp
               first | done | rfl
             simp only [Act.put, nm1, nm2, nm3, i64_w]
             refine wpK_ops rfl (fun w1 hu => ?_) ?_
             · clear hu
               go_simp
               first | done | rfl
             simp only [Act.put, nm1, nm2, nm3, i64_w]
             refine wpK_ops rfl (fun w1 hu => ?_) ?_
             · exact quiet_index eI (T := 2) rfl (by kernel_rfl) (by kernel_rfl) rfl rfl rfl hat110.out A106.out
             simp only [Act.put, nm1, nm2, nm3, i64_w]
             refine wpK_ops rfl (fun w1 hu => ?_) ?_
             · have cl0 := he108.out 0 _ rfl
               rw [addr_add0] at cl0
               replace cl0 := (((Up.refl _).drew.trans hu)).kept cl0
               go_simp
               first | done | rfl
             simp only [Act.put, nm1, nm2, nm3, i64_w]
             refine wpK_ops rfl (fun w1 hu => ?_) ?_
             · clear hu
               go_simp
               first | done | rfl
             simp only [Act.put, nm1, nm2, nm3, i64_w]
             refine wpK_ops rfl (fun w1 hu => ?_) ?_
             · clear hu
               go_simp
               first | done | rfl
             simp only [Act.put, nm1, nm2, nm3, i64_w]
             refine wpK_ops rfl (fun w1 hu => ?_) ?_
             · clear hu
               go_simp
               first | done | rfl
             simp only [Act.put, nm1, nm2, nm3, i64_w]
             refine wpK_ops rfl (fun w1 hu => ?_) ?_
             · exact quiet_index eI (T := 2) rfl (by kernel_rfl) (by kernel_rfl) rfl rfl rfl hat116.out A112.out
             simp only [Act.put, nm1, nm2, nm3, i64_w]
             refine wpK_ops rfl (fun w1 hu => ?_) ?_
             · have cl0 := he114.out 0 _ rfl
               rw [addr_add0] at cl0
               replace cl0 := (((Up.refl _).drew.trans hu)).kept cl0
               go_simp
               first | done | rfl
             simp only [Act.put, nm1, nm2, nm3, i64_w]
             refine wpK_ops rfl (fun w1 hu => ?_) ?_
             · clear hu
               go_simp
               first | done | rfl
             simp only [Act.put, nm1, nm2, nm3, i64_w]
             refine wpK_ops rfl (fun w1 hu => ?_) ?_
             · exact quiet_index eI (T := 2) rfl (by kernel_rfl) (by kernel_rfl) rfl hl90.out rfl hat122.out A118.out
             simp only [Act.put, nm1, nm2, nm3, i64_w]
             refine wpK_nil ?_
             intro w123 hu hap
             simp only [List.drop_succ_cons, List.drop_zero]
             replace hu := (Up.refl _).drew.trans hu
             clear hap
             have hu124 := Aside0.mk hu
             clear hu
             have hO0 := Aside0.mk (h89.up hu124.out)
             have lb129 := Aside0.mk hO0.out.lt
             refine step_put eI (T := 2) (u := .int .i64 (wrap64 ((wrap64 (2 * t105)) - t111))) (old := t117) (new := wrap64 ((wrap64 (2 * t105)) - t111)) 0 rfl rfl rfl hat122.out (addr_add0 _).symm rfl rfl (by kernel_rfl) (by simp [Value.cells, Value.oneCell']) (Nat.le_of_ble_eq_true rfl) rfl hO0.out A118.out ?_
             intro w125 h127 hg
             have hg128 := Aside0.mk hg
             clear hO0 hg
             try simp only [Act.put, nm1, nm2, nm3, i64_w]
             have hl130 : Aside0 ((repl ((wrap64 (a1 + 2)).toNat) (0 : Int)).length = (x84.set (x83).toNat (wrap64 ((wrap64 (2 * t105)) - t111))).length) := Aside0.mk (hl90.out.trans (List.length_set ..).symm)
             refine wpList_nil ?_
             (try simp only [Exit.then, Exit.inBlock, ↓reduceIte, Nat.reduceEqDiff])
             refine hK104 _ _ ?_
             refine wp_seq_k (fun K131 hK131 => ?_)
             refine wp_seq_k (fun K132 hK132 => ?_)
             refine wp_region_lit ?_
             refine wpList_plain rfl (fun Ko hKo => ?_)
             go_simp
             refine hKo _ _ ?_
             clear hKo Ko
             try simp only [Act.put, nm1, nm2, nm3, i64_w]
             refine wpList_plain rfl (fun Ko hKo => ?_)
             go_simp
             refine hKo _ _ ?_
             clear hKo Ko
             try simp only [Act.put, nm1, nm2, nm3, i64_w]
             refine wpList_nil ?_
             (try simp only [Exit.then, Exit.inBlock, ↓reduceIte, Nat.reduceEqDiff])
             refine hK132 _ _ ?_
             refine wp_cond_true rfl ?_
             obtain ⟨ad136, hat, he⟩ := rd_at h127.rd A135.out
             have he137 := Aside0.mk he
             have hat139 := Aside0.mk hat
             clear he hat
             obtain ⟨ad142, hat, he⟩ := rd_at ((h61.up ((hu86.out.trans hu124.out).grow hg128.out (fun k hk => Nat.le_trans (Nat.le_refl _) ((fun k hk => (lb129.out k hk).1) k hk)))).rd) A141.out
             have he143 := Aside0.mk he
             have hat145 := Aside0.mk hat
             clear he hat
             obtain ⟨ad148, hat, he⟩ := rd_at h127.rd A147.out
             have he149 := Aside0.mk he
             have hat151 := Aside0.mk hat
             clear he hat
             refine' wp_region_up 12 [Slot.det _, Slot.det _, Slot.det (.pointer (some ad136)), Slot.det _, Slot.det _, Slot.det _, Slot.det _, Slot.det (.pointer (some ad142)), Slot.det _, Slot.det _, Slot.det _, Slot.det (.pointer (some ad148))] (by kernel_rfl) (by kernel_rfl) ?main
             case main =>
              simp only [List.take_succ_cons, List.take_zero]
              refine wpK_ops rfl (fun w1 hu => ?_) ?_
              · clear hu
                go_simp
                first | done | rfl
              simp only [Act.put, nm1, nm2, nm3, i64_w]
              refine wpK_ops rfl (fun w1 hu => ?_) ?_
              · clear hu
                go_simp
                first | done | rfl
              simp only [Act.put, nm1, nm2, nm3, i64_w]
              refine wpK_ops rfl (fun w1 hu => ?_) ?_
              · exact quiet_index eI (T := 2) rfl (by kernel_rfl) (by kernel_rfl) rfl hl130.out rfl hat139.out A135.out
              simp only [Act.put, nm1, nm2, nm3, i64_w]
              refine wpK_ops rfl (fun w1 hu => ?_) ?_
              · have cl0 := he137.out 0 _ rfl
                rw [addr_add0] at cl0
                replace cl0 := (((Up.refl _).drew.trans hu)).kept cl0
                go_simp
                first | done | rfl
              simp only [Act.put, nm1, nm2, nm3, i64_w]
              refine wpK_ops rfl (fun w1 hu => ?_) ?_
              · clear hu
                go_simp
                first | done | rfl
              simp only [Act.put, nm1, nm2, nm3, i64_w]
              refine wpK_ops rfl (fun w1 hu => ?_) ?_
              · clear hu
                go_simp
                first | done | rfl
              simp only [Act.put, nm1, nm2, nm3, i64_w]
              refine wpK_ops rfl (fun w1 hu => ?_) ?_
              · clear hu
                go_simp
                first | done | rfl
              simp only [Act.put, nm1, nm2, nm3, i64_w]
              refine wpK_ops rfl (fun w1 hu => ?_) ?_
              · exact quiet_index eI (T := 2) rfl (by kernel_rfl) (by kernel_rfl) rfl rfl rfl hat145.out A141.out
              simp only [Act.put, nm1, nm2, nm3, i64_w]
              refine wpK_ops rfl (fun w1 hu => ?_) ?_
              · have cl0 := he143.out 0 _ rfl
                rw [addr_add0] at cl0
                replace cl0 := (((Up.refl _).drew.trans hu)).kept cl0
                go_simp
                first | done | rfl
              simp only [Act.put, nm1, nm2, nm3, i64_w]
              refine wpK_ops rfl (fun w1 hu => ?_) ?_
              · clear hu
                go_simp
                first | done | rfl
              simp only [Act.put, nm1, nm2, nm3, i64_w]
              refine wpK_ops rfl (fun w1 hu => ?_) ?_
              · clear hu
                go_simp
                first | done | rfl
              simp only [Act.put, nm1, nm2, nm3, i64_w]
              refine wpK_ops rfl (fun w1 hu => ?_) ?_
              · exact quiet_index eI (T := 2) rfl (by kernel_rfl) (by kernel_rfl) rfl hl130.out rfl hat151.out A147.out
              simp only [Act.put, nm1, nm2, nm3, i64_w]
              refine wpK_nil ?_
              intro w152 hu hap
              simp only [List.drop_succ_cons, List.drop_zero]
              replace hu := (Up.refl _).drew.trans hu
              clear hap
              have hu153 := Aside0.mk hu
              clear hu
              have hO0 := Aside0.mk (h127.up hu153.out)
              have lb158 := Aside0.mk hO0.out.lt
              refine step_put eI (T := 2) (u := .int .i64 (wrap64 (t134 - (wrap64 (4 * t140))))) (old := t146) (new := wrap64 (t134 - (wrap64 (4 * t140)))) 0 rfl rfl rfl hat151.out (addr_add0 _).symm rfl rfl (by kernel_rfl) (by simp [Value.cells, Value.oneCell']) (Nat.le_of_ble_eq_true rfl) rfl hO0.out A147.out ?_
              intro w154 h156 hg
              have hg157 := Aside0.mk hg
              clear hO0 hg
              try simp only [Act.put, nm1, nm2, nm3, i64_w]
              have hl159 : Aside0 ((repl ((wrap64 (a1 + 2)).toNat) (0 : Int)).length = ((x84.set (x83).toNat (wrap64 ((wrap64 (2 * t105)) - t111))).set (x83).toNat (wrap64 (t134 - (wrap64 (4 * t140))))).length) := Aside0.mk (hl130.out.trans (List.length_set ..).symm)
              refine wpList_nil ?_
              (try simp only [Exit.then, Exit.inBlock, ↓reduceIte, Nat.reduceEqDiff])
              refine hK131 _ _ ?_
              refine wp_seq_k (fun K160 hK160 => ?_)
              refine wp_seq_k (fun K161 hK161 => ?_)
              refine wp_region_lit ?_
              refine wpList_plain rfl (fun Ko hKo => ?_)
              go_simp
              refine hKo _ _ ?_
              clear hKo Ko
              try simp only [Act.put, nm1, nm2, nm3, i64_w]
              refine wpList_plain rfl (fun Ko hKo => ?_)
              go_simp
              refine hKo _ _ ?_
              clear hKo Ko
              try simp only [Act.put, nm1, nm2, nm3, i64_w]
              refine wpList_nil ?_
              (try simp only [Exit.then, Exit.inBlock, ↓reduceIte, Nat.reduceEqDiff])
              refine hK161 _ _ ?_
              refine wp_cond_true rfl ?_
              refine wp_region_lit ?_
              refine wpList_plain rfl (fun Ko hKo => ?_)
              go_simp
              refine hKo _ _ ?_
              clear hKo Ko
              try simp only [Act.put, nm1, nm2, nm3, i64_w]
              refine wpList_plain rfl (fun Ko hKo => ?_)
              go_simp
              refine hKo _ _ ?_
              clear hKo Ko
              try simp only [Act.put, nm1, nm2, nm3, i64_w]
              refine step_index eI (T := 2) (wanted_none rfl) rfl (by kernel_rfl) (by kernel_rfl) rfl hl159.out rfl h156.rd A164.out ?_
              intro ad165 hat he
              have he166 := Aside0.mk he
              have hat167 := Aside0.mk hat
              clear he hat
              simp only [Act.put, nm1, nm2, nm3, i64_w]
              have cl0 := he166.out 0 _ rfl
              rw [addr_add0] at cl0
              refine wpList_plain rfl (fun Ko hKo => ?_)
              go_simp
              refine hKo _ _ ?_
              clear hKo Ko
              clear cl0
              try simp only [Act.put, nm1, nm2, nm3, i64_w]
              refine wpList_plain rfl (fun Ko hKo => ?_)
              go_simp
              refine hKo _ _ ?_
              clear hKo Ko
              try simp only [Act.put, nm1, nm2, nm3, i64_w]
              refine step_index eI (T := 2) (wanted_none rfl) rfl (by kernel_rfl) (by kernel_rfl) rfl hl159.out rfl h156.rd A169.out ?_
              intro ad170 hat he
              have he171 := Aside0.mk he
              have hat172 := Aside0.mk hat
              clear he hat
              simp only [Act.put, nm1, nm2, nm3, i64_w]
              have hO0 := Aside0.mk h156
              have lb177 := Aside0.mk hO0.out.lt
              refine step_put eI (T := 2) (u := .int .i64 (wrap64 (t163 + 2))) (old := t168) (new := wrap64 (t163 + 2)) 0 rfl rfl rfl hat172.out (addr_add0 _).symm rfl rfl (by kernel_rfl) (by simp [Value.cells, Value.oneCell']) (Nat.le_of_ble_eq_true rfl) rfl hO0.out A169.out ?_
              intro w173 h175 hg
              have hg176 := Aside0.mk hg
              clear hO0 hg
              try simp only [Act.put, nm1, nm2, nm3, i64_w]
              have hl178 : Aside0 ((repl ((wrap64 (a1 + 2)).toNat) (0 : Int)).length = (((x84.set (x83).toNat (wrap64 ((wrap64 (2 * t105)) - t111))).set (x83).toNat (wrap64 (t134 - (wrap64 (4 * t140))))).set (x83).toNat (wrap64 (t163 + 2))).length) := Aside0.mk (hl159.out.trans (List.length_set ..).symm)
              refine wpList_nil ?_
              (try simp only [Exit.then, Exit.inBlock, ↓reduceIte, Nat.reduceEqDiff])
              refine hK160 _ _ ?_
              refine wp_region_lit ?_
              refine wpList_plain rfl (fun Ko hKo => ?_)
              go_simp
              refine hKo _ _ ?_
              clear hKo Ko
              try simp only [Act.put, nm1, nm2, nm3, i64_w]
              refine wpList_plain rfl (fun Ko hKo => ?_)
              go_simp
              refine hKo _ _ ?_
              clear hKo Ko
              try simp only [Act.put, nm1, nm2, nm3, i64_w]
              refine wpList_plain rfl (fun Ko hKo => ?_)
              go_simp
              refine hKo _ _ ?_
              clear hKo Ko
              try simp only [Act.put, nm1, nm2, nm3, i64_w]
              refine wpList_plain rfl (fun Ko hKo => ?_)
              go_simp
              refine hKo _ _ ?_
              clear hKo Ko
              try simp only [Act.put, nm1, nm2, nm3, i64_w]
              refine wpList_plain rfl (fun Ko hKo => ?_)
              go_simp
              refine hKo _ _ ?_
              clear hKo Ko
              try simp only [Act.put, nm1, nm2, nm3, i64_w]
              refine step_index eI (T := 2) (wanted_none rfl) rfl (by kernel_rfl) (by kernel_rfl) rfl hl178.out rfl h175.rd A180.out ?_
              intro ad181 hat he
              have he182 := Aside0.mk he
              have hat183 := Aside0.mk hat
              clear he hat
              simp only [Act.put, nm1, nm2, nm3, i64_w]
              have cl0 := he182.out 0 _ rfl
              rw [addr_add0] at cl0
              refine wpList_plain rfl (fun Ko hKo => ?_)
              go_simp
              refine hKo _ _ ?_
              clear hKo Ko
              clear cl0
              try simp only [Act.put, nm1, nm2, nm3, i64_w]
              refine step_call (wanted_none rfl) (by first | (go_simp; done) | (go_simp; rfl)) (impl_rest.calls K a0 t179 t184 w173  A185.out) ?_
              rintro e w186 ⟨rfl, hu⟩
              have hu187 := Aside0.mk hu
              clear hu
              refine ⟨_, rfl, ?_⟩
              simp only [Act.put, nm1, nm2, nm3, i64_w]
              refine step_index eI (T := 2) (wanted_none rfl) rfl (by kernel_rfl) (by kernel_rfl) rfl hl178.out rfl (h175.up hu187.out).rd A189.out ?_
              intro ad190 hat he
              have he191 := Aside0.mk he
              have hat192 := Aside0.mk hat
              clear he hat
              simp only [Act.put, nm1, nm2, nm3, i64_w]
              have hO0 := Aside0.mk (h175.up hu187.out)
              have lb197 := Aside0.mk hO0.out.lt
              refine step_put eI (T := 2) (u := .int .i64 t184) (old := t188) (new := t184) 0 rfl rfl rfl hat192.out (addr_add0 _).symm rfl rfl (by kernel_rfl) (by simp [Value.cells, Value.oneCell']) (Nat.le_of_ble_eq_true rfl) rfl hO0.out A189.out ?_
              intro w193 h195 hg
              have hg196 := Aside0.mk hg
              clear hO0 hg
              try simp only [Act.put, nm1, nm2, nm3, i64_w]
              have hl198 : Aside0 ((repl ((wrap64 (a1 + 2)).toNat) (0 : Int)).length = ((((x84.set (x83).toNat (wrap64 ((wrap64 (2 * t105)) - t111))).set (x83).toNat (wrap64 (t134 - (wrap64 (4 * t140))))).set (x83).toNat (wrap64 (t163 + 2))).set (x83).toNat t184).length) := Aside0.mk (hl178.out.trans (List.length_set ..).symm)
              refine wpList_nil ?_
              (try simp only [Exit.then, Exit.inBlock, ↓reduceIte, Nat.reduceEqDiff])
              refine hK102 _ _ ?_
              refine wp_region_lit ?_
              refine wpList_plain rfl (fun Ko hKo => ?_)
              go_simp
              refine hKo _ _ ?_
              clear hKo Ko
              try simp only [Act.put, nm1, nm2, nm3, i64_w]
              refine wpList_plain rfl (fun Ko hKo => ?_)
              go_simp
              refine hKo _ _ ?_
              clear hKo Ko
              try simp only [Act.put, nm1, nm2, nm3, i64_w]
              refine wpList_nil ?_
              (try simp only [Exit.then, Exit.inBlock, ↓reduceIte, Nat.reduceEqDiff])
              refine hK98 _ _ ?_
              go_roundg k94
              case measure => exact Nat.lt_succ_self _
              case rel => exact ⟨wrap64 (x83 + 1), ((((x84.set (x83).toNat (wrap64 ((wrap64 (2 * t105)) - t111))).set (x83).toNat (wrap64 (t134 - (wrap64 (4 * t140))))).set (x83).toNat (wrap64 (t163 + 2))).set (x83).toNat t184), (by first | rfl | simp), HL199, ⟨by have := hk66.out; have := hk95.out; omega⟩, ⟨(((((((hu86.out.trans hu124.out).grow hg128.out (fun k hk => Nat.le_trans (Nat.le_refl _) ((fun k hk => (lb129.out k hk).1) k hk))).trans hu153.out).grow hg157.out (fun k hk => Nat.le_trans (Nat.le_refl _) ((fun k hk => (lb158.out k hk).1) k hk))).grow hg176.out (fun k hk => Nat.le_trans (Nat.le_refl _) ((fun k hk => (lb177.out k hk).1) k hk))).trans hu187.out).grow hg196.out (fun k hk => Nat.le_trans (Nat.le_refl _) ((fun k hk => (lb197.out k hk).1) k hk)))⟩, ⟨(Nat.le_trans ((Nat.le_trans ((Nat.le_trans ((Nat.le_trans ((Nat.le_trans ((Nat.le_trans ((Nat.le_trans ((Nat.le_trans (Nat.le_refl _) hz87.out)) hu124.out.size)) hg128.out.size)) hu153.out.size)) hg157.out.size)) hg176.out.size)) hu187.out.size)) hg196.out.size)⟩, h195, ⟨hl198.out⟩, ⟨(fun k hk => hn91.out k (blk_eq.symm.trans hk))⟩, ⟨(fun k l hk hl => hn92.out k l (blk_eq.symm.trans hk) hl)⟩, ⟨(fun k l hk hl => hn93.out k l (blk_eq.symm.trans hk) hl)⟩⟩
           ·
            rw [if_neg c162] at H
            replace c162 := Bool.eq_false_iff.mpr c162
            have c162n : (x83 != 1) = true := by rw [bne, c162]; rfl
            have c162p : ¬ x83 = 1 := fun e => by simp [e] at c162
            replace H := Option.bind_eq_some_iff.mp H
            obtain ⟨t200, A201, H⟩ := H
            replace A201 := Aside0.mk A201
            try dsimp only at H
            replace H := Option.bind_eq_some_iff.mp H
            obtain ⟨t205, A206, H⟩ := H
            replace A206 := Aside0.mk A206
            try dsimp only at H
            replace H := Option.bind_eq_some_iff.mp H
            obtain ⟨t209, A210, H⟩ := H
            replace A210 := Aside0.mk A210
            try dsimp only at H
            have HL220 := Aside0.mk H
            clear H
            refine wp_seq_k (fun K99 hK99 => ?_)
            refine wp_region_lit ?_
            refine wpList_plain rfl (fun Ko hKo => ?_)
            go_simp
            refine hKo _ _ ?_
            clear hKo Ko
            try simp only [Act.put, nm1, nm2, nm3, i64_w]
            refine wpList_nil ?_
            (try simp only [Exit.then, Exit.inBlock, ↓reduceIte, Nat.reduceEqDiff])
            refine hK99 _ _ ?_
            refine wp_seq_k (fun K100 hK100 => ?_)
            refine wp_cond_true rfl ?_
            refine wp_skip ?_
            (try simp only [Exit.then, Exit.inBlock, ↓reduceIte, Nat.reduceEqDiff])
            refine hK100 _ _ ?_
            refine wp_seq_k (fun K102 hK102 => ?_)
            refine wp_block ?_
            refine wp_seq_k (fun K103 hK103 => ?_)
            refine wp_region_lit ?_
            refine wpList_plain rfl (fun Ko hKo => ?_)
            go_simp
            refine hKo _ _ ?_
            clear hKo Ko
            try simp only [Act.put, nm1, nm2, nm3, i64_w]
            refine wpList_plain rfl (fun Ko hKo => ?_)
            go_simp
            refine hKo _ _ ?_
            clear hKo Ko
            try simp only [Act.put, nm1, nm2, nm3, i64_w]
            refine wpList_nil ?_
            (try simp only [Exit.then, Exit.inBlock, ↓reduceIte, Nat.reduceEqDiff])
            refine hK103 _ _ ?_
            refine wp_seq_k (fun K104 hK104 => ?_)
            obtain ⟨ad107, hat, he⟩ := rd_at ((h61.up hu86.out).rd) A106.out
            have he108 := Aside0.mk he
            have hat110 := Aside0.mk hat
            clear he hat
            obtain ⟨ad113, hat, he⟩ := rd_at ((h60.up hu86.out).rd) A112.out
            have he114 := Aside0.mk he
            have hat116 := Aside0.mk hat
            clear he hat
            obtain ⟨ad119, hat, he⟩ := rd_at h89.rd A118.out
            have he120 := Aside0.mk he
            have hat122 := Aside0.mk hat
            clear he hat
            refine' wp_region_up 13 [Slot.det _, Slot.det _, Slot.det _, Slot.det _, Slot.det (.pointer (some ad107)), Slot.det _, Slot.det _, Slot.det _, Slot.det _, Slot.det (.pointer (some ad113)), Slot.det _, Slot.det _, Slot.det (.pointer (some ad119))] (by kernel_rfl) (by kernel_rfl) ?main
            case main =>
             simp only [List.take_succ_cons, List.take_zero]
             refine wpK_ops rfl (fun w1 hu => ?_) ?_
             · clear hu
               go_simp
               first | done | rfl
             simp only [Act.put, nm1, nm2, nm3, i64_w]
             refine wpK_ops rfl (fun w1 hu => ?_) ?_
             · clear hu
               go_simp
               first | done | rfl
             simp only [Act.put, nm1, nm2, nm3, i64_w]
             refine wpK_ops rfl (fun w1 hu => ?_) ?_
             · clear hu
               go_simp
               first | done | rfl
             simp only [Act.put, nm1, nm2, nm3, i64_w]
             refine wpK_ops rfl (fun w1 hu => ?_) ?_
             · clear hu
               go_simp
               first | done | rfl
             simp only [Act.put, nm1, nm2, nm3, i64_w]
             refine wpK_ops rfl (fun w1 hu => ?_) ?_
             · exact quiet_index eI (T := 2) rfl (by kernel_rfl) (by kernel_rfl) rfl rfl rfl hat110.out A106.out
             simp only [Act.put, nm1, nm2, nm3, i64_w]
             refine wpK_ops rfl (fun w1 hu => ?_) ?_
             · have cl0 := he108.out 0 _ rfl
               rw [addr_add0] at cl0
               replace cl0 := (((Up.refl _).drew.trans hu)).kept cl0
               go_simp
               first | done | rfl
             simp only [Act.put, nm1, nm2, nm3, i64_w]
             refine wpK_ops rfl (fun w1 hu => ?_) ?_
             · clear hu
               go_simp
               first | done | rfl
             simp only [Act.put, nm1, nm2, nm3, i64_w]
             refine wpK_ops rfl (fun w1 hu => ?_) ?_
             · clear hu
               go_simp
               first | done | rfl
             simp only [Act.put, nm1, nm2, nm3, i64_w]
             refine wpK_ops rfl (fun w1 hu => ?_) ?_
             · clear hu
               go_simp
               first | done | rfl
             simp only [Act.put, nm1, nm2, nm3, i64_w]
             refine wpK_ops rfl (fun w1 hu => ?_) ?_
             · exact quiet_index eI (T := 2) rfl (by kernel_rfl) (by kernel_rfl) rfl rfl rfl hat116.out A112.out
             simp only [Act.put, nm1, nm2, nm3, i64_w]
             refine wpK_ops rfl (fun w1 hu => ?_) ?_
             · have cl0 := he114.out 0 _ rfl
               rw [addr_add0] at cl0
               replace cl0 := (((Up.refl _).drew.trans hu)).kept cl0
               go_simp
               first | done | rfl
             simp only [Act.put, nm1, nm2, nm3, i64_w]
             refine wpK_ops rfl (fun w1 hu => ?_) ?_
             · clear hu
               go_simp
               first | done | rfl
             simp only [Act.put, nm1, nm2, nm3, i64_w]
             refine wpK_ops rfl (fun w1 hu => ?_) ?_
             · exact quiet_index eI (T := 2) rfl (by kernel_rfl) (by kernel_rfl) rfl hl90.out rfl hat122.out A118.out
             simp only [Act.put, nm1, nm2, nm3, i64_w]
             refine wpK_nil ?_
             intro w123 hu hap
             simp only [List.drop_succ_cons, List.drop_zero]
             replace hu := (Up.refl _).drew.trans hu
             clear hap
             have hu124 := Aside0.mk hu
             clear hu
             have hO0 := Aside0.mk (h89.up hu124.out)
             have lb129 := Aside0.mk hO0.out.lt
             refine step_put eI (T := 2) (u := .int .i64 (wrap64 ((wrap64 (2 * t105)) - t111))) (old := t117) (new := wrap64 ((wrap64 (2 * t105)) - t111)) 0 rfl rfl rfl hat122.out (addr_add0 _).symm rfl rfl (by kernel_rfl) (by simp [Value.cells, Value.oneCell']) (Nat.le_of_ble_eq_true rfl) rfl hO0.out A118.out ?_
             intro w125 h127 hg
             have hg128 := Aside0.mk hg
             clear hO0 hg
             try simp only [Act.put, nm1, nm2, nm3, i64_w]
             have hl130 : Aside0 ((repl ((wrap64 (a1 + 2)).toNat) (0 : Int)).length = (x84.set (x83).toNat (wrap64 ((wrap64 (2 * t105)) - t111))).length) := Aside0.mk (hl90.out.trans (List.length_set ..).symm)
             refine wpList_nil ?_
             (try simp only [Exit.then, Exit.inBlock, ↓reduceIte, Nat.reduceEqDiff])
             refine hK104 _ _ ?_
             refine wp_seq_k (fun K131 hK131 => ?_)
             refine wp_seq_k (fun K132 hK132 => ?_)
             refine wp_region_lit ?_
             refine wpList_plain rfl (fun Ko hKo => ?_)
             go_simp
             refine hKo _ _ ?_
             clear hKo Ko
             try simp only [Act.put, nm1, nm2, nm3, i64_w]
             refine wpList_plain rfl (fun Ko hKo => ?_)
             go_simp
             refine hKo _ _ ?_
             clear hKo Ko
             try simp only [Act.put, nm1, nm2, nm3, i64_w]
             refine wpList_nil ?_
             (try simp only [Exit.then, Exit.inBlock, ↓reduceIte, Nat.reduceEqDiff])
             refine hK132 _ _ ?_
             refine wp_cond_true rfl ?_
             obtain ⟨ad136, hat, he⟩ := rd_at h127.rd A135.out
             have he137 := Aside0.mk he
             have hat139 := Aside0.mk hat
             clear he hat
             obtain ⟨ad142, hat, he⟩ := rd_at ((h61.up ((hu86.out.trans hu124.out).grow hg128.out (fun k hk => Nat.le_trans (Nat.le_refl _) ((fun k hk => (lb129.out k hk).1) k hk)))).rd) A141.out
             have he143 := Aside0.mk he
             have hat145 := Aside0.mk hat
             clear he hat
             obtain ⟨ad148, hat, he⟩ := rd_at h127.rd A147.out
             have he149 := Aside0.mk he
             have hat151 := Aside0.mk hat
             clear he hat
             refine' wp_region_up 12 [Slot.det _, Slot.det _, Slot.det (.pointer (some ad136)), Slot.det _, Slot.det _, Slot.det _, Slot.det _, Slot.det (.pointer (some ad142)), Slot.det _, Slot.det _, Slot.det _, Slot.det (.pointer (some ad148))] (by kernel_rfl) (by kernel_rfl) ?main
             case main =>
              simp only [List.take_succ_cons, List.take_zero]
              refine wpK_ops rfl (fun w1 hu => ?_) ?_
              · clear hu
                go_simp
                first | done | rfl
              simp only [Act.put, nm1, nm2, nm3, i64_w]
              refine wpK_ops rfl (fun w1 hu => ?_) ?_
              · clear hu
                go_simp
                first | done | rfl
              simp only [Act.put, nm1, nm2, nm3, i64_w]
              refine wpK_ops rfl (fun w1 hu => ?_) ?_
              · exact quiet_index eI (T := 2) rfl (by kernel_rfl) (by kernel_rfl) rfl hl130.out rfl hat139.out A135.out
              simp only [Act.put, nm1, nm2, nm3, i64_w]
              refine wpK_ops rfl (fun w1 hu => ?_) ?_
              · have cl0 := he137.out 0 _ rfl
                rw [addr_add0] at cl0
                replace cl0 := (((Up.refl _).drew.trans hu)).kept cl0
                go_simp
                first | done | rfl
              simp only [Act.put, nm1, nm2, nm3, i64_w]
              refine wpK_ops rfl (fun w1 hu => ?_) ?_
              · clear hu
                go_simp
                first | done | rfl
              simp only [Act.put, nm1, nm2, nm3, i64_w]
              refine wpK_ops rfl (fun w1 hu => ?_) ?_
              · clear hu
                go_simp
                first | done | rfl
              simp only [Act.put, nm1, nm2, nm3, i64_w]
              refine wpK_ops rfl (fun w1 hu => ?_) ?_
              · clear hu
                go_simp
                first | done | rfl
              simp only [Act.put, nm1, nm2, nm3, i64_w]
              refine wpK_ops rfl (fun w1 hu => ?_) ?_
              · exact quiet_index eI (T := 2) rfl (by kernel_rfl) (by kernel_rfl) rfl rfl rfl hat145.out A141.out
              simp only [Act.put, nm1, nm2, nm3, i64_w]
              refine wpK_ops rfl (fun w1 hu => ?_) ?_
              · have cl0 := he143.out 0 _ rfl
                rw [addr_add0] at cl0
                replace cl0 := (((Up.refl _).drew.trans hu)).kept cl0
                go_simp
                first | done | rfl
              simp only [Act.put, nm1, nm2, nm3, i64_w]
              refine wpK_ops rfl (fun w1 hu => ?_) ?_
              · clear hu
                go_simp
                first | done | rfl
              simp only [Act.put, nm1, nm2, nm3, i64_w]
              refine wpK_ops rfl (fun w1 hu => ?_) ?_
              · clear hu
                go_simp
                first | done | rfl
              simp only [Act.put, nm1, nm2, nm3, i64_w]
              refine wpK_ops rfl (fun w1 hu => ?_) ?_
              · exact quiet_index eI (T := 2) rfl (by kernel_rfl) (by kernel_rfl) rfl hl130.out rfl hat151.out A147.out
              simp only [Act.put, nm1, nm2, nm3, i64_w]
              refine wpK_nil ?_
              intro w152 hu hap
              simp only [List.drop_succ_cons, List.drop_zero]
              replace hu := (Up.refl _).drew.trans hu
              clear hap
              have hu153 := Aside0.mk hu
              clear hu
              have hO0 := Aside0.mk (h127.up hu153.out)
              have lb158 := Aside0.mk hO0.out.lt
              refine step_put eI (T := 2) (u := .int .i64 (wrap64 (t134 - (wrap64 (4 * t140))))) (old := t146) (new := wrap64 (t134 - (wrap64 (4 * t140)))) 0 rfl rfl rfl hat151.out (addr_add0 _).symm rfl rfl (by kernel_rfl) (by simp [Value.cells, Value.oneCell']) (Nat.le_of_ble_eq_true rfl) rfl hO0.out A147.out ?_
              intro w154 h156 hg
              have hg157 := Aside0.mk hg
              clear hO0 hg
              try simp only [Act.put, nm1, nm2, nm3, i64_w]
              have hl159 : Aside0 ((repl ((wrap64 (a1 + 2)).toNat) (0 : Int)).length = ((x84.set (x83).toNat (wrap64 ((wrap64 (2 * t105)) - t111))).set (x83).toNat (wrap64 (t134 - (wrap64 (4 * t140))))).length) := Aside0.mk (hl130.out.trans (List.length_set ..).symm)
              refine wpList_nil ?_
              (try simp only [Exit.then, Exit.inBlock, ↓reduceIte, Nat.reduceEqDiff])
              refine hK131 _ _ ?_
              refine wp_seq_k (fun K160 hK160 => ?_)
              refine wp_seq_k (fun K161 hK161 => ?_)
              refine wp_region_lit ?_
              refine wpList_plain rfl (fun Ko hKo => ?_)
              go_simp
              refine hKo _ _ ?_
              clear hKo Ko
              try simp only [Act.put, nm1, nm2, nm3, i64_w]
              refine wpList_plain rfl (fun Ko hKo => ?_)
              go_simp
              refine hKo _ _ ?_
              clear hKo Ko
              try simp only [Act.put, nm1, nm2, nm3, i64_w]
              refine wpList_nil ?_
              (try simp only [Exit.then, Exit.inBlock, ↓reduceIte, Nat.reduceEqDiff])
              refine hK161 _ _ ?_
              refine wp_cond_false rfl ?_
              refine wp_skip ?_
              (try simp only [Exit.then, Exit.inBlock, ↓reduceIte, Nat.reduceEqDiff])
              refine hK160 _ _ ?_
              refine wp_region_lit ?_
              refine wpList_plain rfl (fun Ko hKo => ?_)
              go_simp
              refine hKo _ _ ?_
              clear hKo Ko
              try simp only [Act.put, nm1, nm2, nm3, i64_w]
              refine wpList_plain rfl (fun Ko hKo => ?_)
              go_simp
              refine hKo _ _ ?_
              clear hKo Ko
              try simp only [Act.put, nm1, nm2, nm3, i64_w]
              refine wpList_plain rfl (fun Ko hKo => ?_)
              go_simp
              refine hKo _ _ ?_
              clear hKo Ko
              try simp only [Act.put, nm1, nm2, nm3, i64_w]
              refine wpList_plain rfl (fun Ko hKo => ?_)
              go_simp
              refine hKo _ _ ?_
              clear hKo Ko
              try simp only [Act.put, nm1, nm2, nm3, i64_w]
              refine wpList_plain rfl (fun Ko hKo => ?_)
              go_simp
              refine hKo _ _ ?_
              clear hKo Ko
              try simp only [Act.put, nm1, nm2, nm3, i64_w]
              refine step_index eI (T := 2) (wanted_none rfl) rfl (by kernel_rfl) (by kernel_rfl) rfl hl159.out rfl h156.rd A201.out ?_
              intro ad202 hat he
              have he203 := Aside0.mk he
              have hat204 := Aside0.mk hat
              clear he hat
              simp only [Act.put, nm1, nm2, nm3, i64_w]
              have cl0 := he203.out 0 _ rfl
              rw [addr_add0] at cl0
              refine wpList_plain rfl (fun Ko hKo => ?_)
              go_simp
              refine hKo _ _ ?_
              clear hKo Ko
              clear cl0
              try simp only [Act.put, nm1, nm2, nm3, i64_w]
              refine step_call (wanted_none rfl) (by first | (go_simp; done) | (go_simp; rfl)) (impl_rest.calls K a0 t200 t205 w154  A206.out) ?_
              rintro e w207 ⟨rfl, hu⟩
              have hu208 := Aside0.mk hu
              clear hu
              refine ⟨_, rfl, ?_⟩
              simp only [Act.put, nm1, nm2, nm3, i64_w]
              refine step_index eI (T := 2) (wanted_none rfl) rfl (by kernel_rfl) (by kernel_rfl) rfl hl159.out rfl (h156.up hu208.out).rd A210.out ?_
              intro ad211 hat he
              have he212 := Aside0.mk he
              have hat213 := Aside0.mk hat
              clear he hat
              simp only [Act.put, nm1, nm2, nm3, i64_w]
              have hO0 := Aside0.mk (h156.up hu208.out)
              have lb218 := Aside0.mk hO0.out.lt
              refine step_put eI (T := 2) (u := .int .i64 t205) (old := t209) (new := t205) 0 rfl rfl rfl hat213.out (addr_add0 _).symm rfl rfl (by kernel_rfl) (by simp [Value.cells, Value.oneCell']) (Nat.le_of_ble_eq_true rfl) rfl hO0.out A210.out ?_
              intro w214 h216 hg
              have hg217 := Aside0.mk hg
              clear hO0 hg
              try simp only [Act.put, nm1, nm2, nm3, i64_w]
              have hl219 : Aside0 ((repl ((wrap64 (a1 + 2)).toNat) (0 : Int)).length = (((x84.set (x83).toNat (wrap64 ((wrap64 (2 * t105)) - t111))).set (x83).toNat (wrap64 (t134 - (wrap64 (4 * t140))))).set (x83).toNat t205).length) := Aside0.mk (hl159.out.trans (List.length_set ..).symm)
              refine wpList_nil ?_
              (try simp only [Exit.then, Exit.inBlock, ↓reduceIte, Nat.reduceEqDiff])
              refine hK102 _ _ ?_
              refine wp_region_lit ?_
              refine wpList_plain rfl (fun Ko hKo => ?_)
              go_simp
              refine hKo _ _ ?_
              clear hKo Ko
              try simp only [Act.put, nm1, nm2, nm3, i64_w]
              refine wpList_plain rfl (fun Ko hKo => ?_)
              go_simp
              refine hKo _ _ ?_
              clear hKo Ko
              try simp only [Act.put, nm1, nm2, nm3, i64_w]
              refine wpList_nil ?_
              (try simp only [Exit.then, Exit.inBlock, ↓reduceIte, Nat.reduceEqDiff])
              refine hK98 _ _ ?_
              go_roundg k94
              case measure => exact Nat.lt_succ_self _
              case rel => exact ⟨wrap64 (x83 + 1), (((x84.set (x83).toNat (wrap64 ((wrap64 (2 * t105)) - t111))).set (x83).toNat (wrap64 (t134 - (wrap64 (4 * t140))))).set (x83).toNat t205), (by first | rfl | simp), HL220, ⟨by have := hk66.out; have := hk95.out; omega⟩, ⟨((((((hu86.out.trans hu124.out).grow hg128.out (fun k hk => Nat.le_trans (Nat.le_refl _) ((fun k hk => (lb129.out k hk).1) k hk))).trans hu153.out).grow hg157.out (fun k hk => Nat.le_trans (Nat.le_refl _) ((fun k hk => (lb158.out k hk).1) k hk))).trans hu208.out).grow hg217.out (fun k hk => Nat.le_trans (Nat.le_refl _) ((fun k hk => (lb218.out k hk).1) k hk)))⟩, ⟨(Nat.le_trans ((Nat.le_trans ((Nat.le_trans ((Nat.le_trans ((Nat.le_trans ((Nat.le_trans ((Nat.le_trans (Nat.le_refl _) hz87.out)) hu124.out.size)) hg128.out.size)) hu153.out.size)) hg157.out.size)) hu208.out.size)) hg217.out.size)⟩, h216, ⟨hl219.out⟩, ⟨(fun k hk => hn91.out k (blk_eq.symm.trans hk))⟩, ⟨(fun k l hk hl => hn92.out k l (blk_eq.symm.trans hk) hl)⟩, ⟨(fun k l hk hl => hn93.out k l (blk_eq.symm.trans hk) hl)⟩⟩
          ·
           rw [if_neg c133] at H
           replace c133 := Bool.eq_false_iff.mpr c133
           by_cases c223 : (x83 == 1) = true
           ·
            rw [if_pos c223] at H
            have c223n : (x83 != 1) = false := by rw [bne, c223]; rfl
            replace H := Option.bind_eq_some_iff.mp H
            obtain ⟨t224, A225, H⟩ := H
            replace A225 := Aside0.mk A225
            try dsimp only at H
            replace H := Option.bind_eq_some_iff.mp H
            obtain ⟨t229, A230, H⟩ := H
            replace A230 := Aside0.mk A230
            try dsimp only at H
            replace H := Option.bind_eq_some_iff.mp H
            obtain ⟨t240, A241, H⟩ := H
            replace A241 := Aside0.mk A241
            try dsimp only at H
            replace H := Option.bind_eq_some_iff.mp H
            obtain ⟨t245, A246, H⟩ := H
            replace A246 := Aside0.mk A246
            try dsimp only at H
            replace H := Option.bind_eq_some_iff.mp H
            obtain ⟨t249, A250, H⟩ := H
            replace A250 := Aside0.mk A250
            try dsimp only at H
            have HL260 := Aside0.mk H
            clear H
            refine wp_seq_k (fun K99 hK99 => ?_)
            refine wp_region_lit ?_
            refine wpList_plain rfl (fun Ko hKo => ?_)
            go_simp
            refine hKo _ _ ?_
            clear hKo Ko
            try simp only [Act.put, nm1, nm2, nm3, i64_w]
            refine wpList_nil ?_
            (try simp only [Exit.then, Exit.inBlock, ↓reduceIte, Nat.reduceEqDiff])
            refine hK99 _ _ ?_
            refine wp_seq_k (fun K100 hK100 => ?_)
            refine wp_cond_true rfl ?_
            refine wp_skip ?_
            (try simp only [Exit.then, Exit.inBlock, ↓reduceIte, Nat.reduceEqDiff])
            refine hK100 _ _ ?_
            refine wp_seq_k (fun K102 hK102 => ?_)
            refine wp_block ?_
            refine wp_seq_k (fun K103 hK103 => ?_)
            refine wp_region_lit ?_
            refine wpList_plain rfl (fun Ko hKo => ?_)
            go_simp
            refine hKo _ _ ?_
            clear hKo Ko
            try simp only [Act.put, nm1, nm2, nm3, i64_w]
            refine wpList_plain rfl (fun Ko hKo => ?_)
            go_simp
            refine hKo _ _ ?_
            clear hKo Ko
            try simp only [Act.put, nm1, nm2, nm3, i64_w]
            refine wpList_nil ?_
            (try simp only [Exit.then, Exit.inBlock, ↓reduceIte, Nat.reduceEqDiff])
            refine hK103 _ _ ?_
            refine wp_seq_k (fun K104 hK104 => ?_)
            obtain ⟨ad107, hat, he⟩ := rd_at ((h61.up hu86.out).rd) A106.out
            have he108 := Aside0.mk he
            have hat110 := Aside0.mk hat
            clear he hat
            obtain ⟨ad113, hat, he⟩ := rd_at ((h60.up hu86.out).rd) A112.out
            have he114 := Aside0.mk he
            have hat116 := Aside0.mk hat
            clear he hat
            obtain ⟨ad119, hat, he⟩ := rd_at h89.rd A118.out
            have he120 := Aside0.mk he
            have hat122 := Aside0.mk hat
            clear he hat
            refine' wp_region_up 13 [Slot.det _, Slot.det _, Slot.det _, Slot.det _, Slot.det (.pointer (some ad107)), Slot.det _, Slot.det _, Slot.det _, Slot.det _, Slot.det (.pointer (some ad113)), Slot.det _, Slot.det _, Slot.det (.pointer (some ad119))] (by kernel_rfl) (by kernel_rfl) ?main
            case main =>
             simp only [List.take_succ_cons, List.take_zero]
             refine wpK_ops rfl (fun w1 hu => ?_) ?_
             · clear hu
               go_simp
               first | done | rfl
             simp only [Act.put, nm1, nm2, nm3, i64_w]
             refine wpK_ops rfl (fun w1 hu => ?_) ?_
             · clear hu
               go_simp
               first | done | rfl
             simp only [Act.put, nm1, nm2, nm3, i64_w]
             refine wpK_ops rfl (fun w1 hu => ?_) ?_
             · clear hu
               go_simp
               first | done | rfl
             simp only [Act.put, nm1, nm2, nm3, i64_w]
             refine wpK_ops rfl (fun w1 hu => ?_) ?_
             · clear hu
               go_simp
               first | done | rfl
             simp only [Act.put, nm1, nm2, nm3, i64_w]
             refine wpK_ops rfl (fun w1 hu => ?_) ?_
             · exact quiet_index eI (T := 2) rfl (by kernel_rfl) (by kernel_rfl) rfl rfl rfl hat110.out A106.out
             simp only [Act.put, nm1, nm2, nm3, i64_w]
             refine wpK_ops rfl (fun w1 hu => ?_) ?_
             · have cl0 := he108.out 0 _ rfl
               rw [addr_add0] at cl0
               replace cl0 := (((Up.refl _).drew.trans hu)).kept cl0
               go_simp
               first | done | rfl
             simp only [Act.put, nm1, nm2, nm3, i64_w]
             refine wpK_ops rfl (fun w1 hu => ?_) ?_
             · clear hu
               go_simp
               first | done | rfl
             simp only [Act.put, nm1, nm2, nm3, i64_w]
             refine wpK_ops rfl (fun w1 hu => ?_) ?_
             · clear hu
               go_simp
               first | done | rfl
             simp only [Act.put, nm1, nm2, nm3, i64_w]
             refine wpK_ops rfl (fun w1 hu => ?_) ?_
             · clear hu
               go_simp
               first | done | rfl
             simp only [Act.put, nm1, nm2, nm3, i64_w]
             refine wpK_ops rfl (fun w1 hu => ?_) ?_
             · exact quiet_index eI (T := 2) rfl (by kernel_rfl) (by kernel_rfl) rfl rfl rfl hat116.out A112.out
             simp only [Act.put, nm1, nm2, nm3, i64_w]
             refine wpK_ops rfl (fun w1 hu => ?_) ?_
             · have cl0 := he114.out 0 _ rfl
               rw [addr_add0] at cl0
               replace cl0 := (((Up.refl _).drew.trans hu)).kept cl0
               go_simp
               first | done | rfl
             simp only [Act.put, nm1, nm2, nm3, i64_w]
             refine wpK_ops rfl (fun w1 hu => ?_) ?_
             · clear hu
               go_simp
               first | done | rfl
             simp only [Act.put, nm1, nm2, nm3, i64_w]
             refine wpK_ops rfl (fun w1 hu => ?_) ?_
             · exact quiet_index eI (T := 2) rfl (by kernel_rfl) (by kernel_rfl) rfl hl90.out rfl hat122.out A118.out
             simp only [Act.put, nm1, nm2, nm3, i64_w]
             refine wpK_nil ?_
             intro w123 hu hap
             simp only [List.drop_succ_cons, List.drop_zero]
             replace hu := (Up.refl _).drew.trans hu
             clear hap
             have hu124 := Aside0.mk hu
             clear hu
             have hO0 := Aside0.mk (h89.up hu124.out)
             have lb129 := Aside0.mk hO0.out.lt
             refine step_put eI (T := 2) (u := .int .i64 (wrap64 ((wrap64 (2 * t105)) - t111))) (old := t117) (new := wrap64 ((wrap64 (2 * t105)) - t111)) 0 rfl rfl rfl hat122.out (addr_add0 _).symm rfl rfl (by kernel_rfl) (by simp [Value.cells, Value.oneCell']) (Nat.le_of_ble_eq_true rfl) rfl hO0.out A118.out ?_
             intro w125 h127 hg
             have hg128 := Aside0.mk hg
             clear hO0 hg
             try simp only [Act.put, nm1, nm2, nm3, i64_w]
             have hl130 : Aside0 ((repl ((wrap64 (a1 + 2)).toNat) (0 : Int)).length = (x84.set (x83).toNat (wrap64 ((wrap64 (2 * t105)) - t111))).length) := Aside0.mk (hl90.out.trans (List.length_set ..).symm)
             refine wpList_nil ?_
             (try simp only [Exit.then, Exit.inBlock, ↓reduceIte, Nat.reduceEqDiff])
             refine hK104 _ _ ?_
             refine wp_seq_k (fun K131 hK131 => ?_)
             refine wp_seq_k (fun K132 hK132 => ?_)
             refine wp_region_lit ?_
             refine wpList_plain rfl (fun Ko hKo => ?_)
             go_simp
             refine hKo _ _ ?_
             clear hKo Ko
             try simp only [Act.put, nm1, nm2, nm3, i64_w]
             refine wpList_plain rfl (fun Ko hKo => ?_)
             go_simp
             refine hKo _ _ ?_
             clear hKo Ko
             try simp only [Act.put, nm1, nm2, nm3, i64_w]
             refine wpList_nil ?_
             (try simp only [Exit.then, Exit.inBlock, ↓reduceIte, Nat.reduceEqDiff])
             refine hK132 _ _ ?_
             refine wp_cond_false rfl ?_
             refine wp_skip ?_
             (try simp only [Exit.then, Exit.inBlock, ↓reduceIte, Nat.reduceEqDiff])
             refine hK131 _ _ ?_
             refine wp_seq_k (fun K221 hK221 => ?_)
             refine wp_seq_k (fun K222 hK222 => ?_)
             refine wp_region_lit ?_
             refine wpList_plain rfl (fun Ko hKo => ?_)
             go_simp
             refine hKo _ _ ?_
             clear hKo Ko
             try simp only [Act.put, nm1, nm2, nm3, i64_w]
             refine wpList_plain rfl (fun Ko hKo => ?_)
             go_simp
             refine hKo _ _ ?_
             clear hKo Ko
             try simp only [Act.put, nm1, nm2, nm3, i64_w]
             refine wpList_nil ?_
             (try simp only [Exit.then, Exit.inBlock, ↓reduceIte, Nat.reduceEqDiff])
             refine hK222 _ _ ?_
             refine wp_cond_true rfl ?_
             refine wp_region_lit ?_
             refine wpList_plain rfl (fun Ko hKo => ?_)
             go_simp
             refine hKo _ _ ?_
             clear hKo Ko
             try simp only [Act.put, nm1, nm2, nm3, i64_w]
             refine wpList_plain rfl (fun Ko hKo => ?_)
             go_simp
             refine hKo _ _ ?_
             clear hKo Ko
             try simp only [Act.put, nm1, nm2, nm3, i64_w]
             refine step_index eI (T := 2) (wanted_none rfl) rfl (by kernel_rfl) (by kernel_rfl) rfl hl130.out rfl h127.rd A225.out ?_
             intro ad226 hat he
             have he227 := Aside0.mk he
             have hat228 := Aside0.mk hat
             clear he hat
             simp only [Act.put, nm1, nm2, nm3, i64_w]
             have cl0 := he227.out 0 _ rfl
             rw [addr_add0] at cl0
             refine wpList_plain rfl (fun Ko hKo => ?_)
             go_simp
             refine hKo _ _ ?_
             clear hKo Ko
             clear cl0
             try simp only [Act.put, nm1, nm2, nm3, i64_w]
             refine wpList_plain rfl (fun Ko hKo => ?_)
             go_simp
             refine hKo _ _ ?_
             clear hKo Ko
             try simp only [Act.put, nm1, nm2, nm3, i64_w]
             refine step_index eI (T := 2) (wanted_none rfl) rfl (by kernel_rfl) (by kernel_rfl) rfl hl130.out rfl h127.rd A230.out ?_
             intro ad231 hat he
             have he232 := Aside0.mk he
             have hat233 := Aside0.mk hat
             clear he hat
             simp only [Act.put, nm1, nm2, nm3, i64_w]
             have hO0 := Aside0.mk h127
             have lb238 := Aside0.mk hO0.out.lt
             refine step_put eI (T := 2) (u := .int .i64 (wrap64 (t224 + 2))) (old := t229) (new := wrap64 (t224 + 2)) 0 rfl rfl rfl hat233.out (addr_add0 _).symm rfl rfl (by kernel_rfl) (by simp [Value.cells, Value.oneCell']) (Nat.le_of_ble_eq_true rfl) rfl hO0.out A230.out ?_
             intro w234 h236 hg
             have hg237 := Aside0.mk hg
             clear hO0 hg
             try simp only [Act.put, nm1, nm2, nm3, i64_w]
             have hl239 : Aside0 ((repl ((wrap64 (a1 + 2)).toNat) (0 : Int)).length = ((x84.set (x83).toNat (wrap64 ((wrap64 (2 * t105)) - t111))).set (x83).toNat (wrap64 (t224 + 2))).length) := Aside0.mk (hl130.out.trans (List.length_set ..).symm)
             refine wpList_nil ?_
             (try simp only [Exit.then, Exit.inBlock, ↓reduceIte, Nat.reduceEqDiff])
             refine hK221 _ _ ?_
             refine wp_region_lit ?_
             refine wpList_plain rfl (fun Ko hKo => ?_)
             go_simp
             refine hKo _ _ ?_
             clear hKo Ko
             try simp only [Act.put, nm1, nm2, nm3, i64_w]
             refine wpList_plain rfl (fun Ko hKo => ?_)
             go_simp
             refine hKo _ _ ?_
             clear hKo Ko
             try simp only [Act.put, nm1, nm2, nm3, i64_w]
             refine wpList_plain rfl (fun Ko hKo => ?_)
             go_simp
             refine hKo _ _ ?_
             clear hKo Ko
             try simp only [Act.put, nm1, nm2, nm3, i64_w]
             refine wpList_plain rfl (fun Ko hKo => ?_)
             go_simp
             refine hKo _ _ ?_
             clear hKo Ko
             try simp only [Act.put, nm1, nm2, nm3, i64_w]
             refine wpList_plain rfl (fun Ko hKo => ?_)
             go_simp
             refine hKo _ _ ?_
             clear hKo Ko
             try simp only [Act.put, nm1, nm2, nm3, i64_w]
             refine step_index eI (T := 2) (wanted_none rfl) rfl (by kernel_rfl) (by kernel_rfl) rfl hl239.out rfl h236.rd A241.out ?_
             intro ad242 hat he
             have he243 := Aside0.mk he
             have hat244 := Aside0.mk hat
             clear he hat
             simp only [Act.put, nm1, nm2, nm3, i64_w]
             have cl0 := he243.out 0 _ rfl
             rw [addr_add0] at cl0
             refine wpList_plain rfl (fun Ko hKo => ?_)
             go_simp
             refine hKo _ _ ?_
             clear hKo Ko
             clear cl0
             try simp only [Act.put, nm1, nm2, nm3, i64_w]
             refine step_call (wanted_none rfl) (by first | (go_simp; done) | (go_simp; rfl)) (impl_rest.calls K a0 t240 t245 w234  A246.out) ?_
             rintro e w247 ⟨rfl, hu⟩
             have hu248 := Aside0.mk hu
             clear hu
             refine ⟨_, rfl, ?_⟩
             simp only [Act.put, nm1, nm2, nm3, i64_w]
             refine step_index eI (T := 2) (wanted_none rfl) rfl (by kernel_rfl) (by kernel_rfl) rfl hl239.out rfl (h236.up hu248.out).rd A250.out ?_
             intro ad251 hat he
             have he252 := Aside0.mk he
             have hat253 := Aside0.mk hat
             clear he hat
             simp only [Act.put, nm1, nm2, nm3, i64_w]
             have hO0 := Aside0.mk (h236.up hu248.out)
             have lb258 := Aside0.mk hO0.out.lt
             refine step_put eI (T := 2) (u := .int .i64 t245) (old := t249) (new := t245) 0 rfl rfl rfl hat253.out (addr_add0 _).symm rfl rfl (by kernel_rfl) (by simp [Value.cells, Value.oneCell']) (Nat.le_of_ble_eq_true rfl) rfl hO0.out A250.out ?_
             intro w254 h256 hg
             have hg257 := Aside0.mk hg
             clear hO0 hg
             try simp only [Act.put, nm1, nm2, nm3, i64_w]
             have hl259 : Aside0 ((repl ((wrap64 (a1 + 2)).toNat) (0 : Int)).length = (((x84.set (x83).toNat (wrap64 ((wrap64 (2 * t105)) - t111))).set (x83).toNat (wrap64 (t224 + 2))).set (x83).toNat t245).length) := Aside0.mk (hl239.out.trans (List.length_set ..).symm)
             refine wpList_nil ?_
             (try simp only [Exit.then, Exit.inBlock, ↓reduceIte, Nat.reduceEqDiff])
             refine hK102 _ _ ?_
             refine wp_region_lit ?_
             refine wpList_plain rfl (fun Ko hKo => ?_)
             go_simp
             refine hKo _ _ ?_
             clear hKo Ko
             try simp only [Act.put, nm1, nm2, nm3, i64_w]
             refine wpList_plain rfl (fun Ko hKo => ?_)
             go_simp
             refine hKo _ _ ?_
             clear hKo Ko
             try simp only [Act.put, nm1, nm2, nm3, i64_w]
             refine wpList_nil ?_
             (try simp only [Exit.then, Exit.inBlock, ↓reduceIte, Nat.reduceEqDiff])
             refine hK98 _ _ ?_
             go_roundg k94
             case measure => exact Nat.lt_succ_self _
             case rel => exact ⟨wrap64 (x83 + 1), (((x84.set (x83).toNat (wrap64 ((wrap64 (2 * t105)) - t111))).set (x83).toNat (wrap64 (t224 + 2))).set (x83).toNat t245), (by first | rfl | simp), HL260, ⟨by have := hk66.out; have := hk95.out; omega⟩, ⟨(((((hu86.out.trans hu124.out).grow hg128.out (fun k hk => Nat.le_trans (Nat.le_refl _) ((fun k hk => (lb129.out k hk).1) k hk))).grow hg237.out (fun k hk => Nat.le_trans (Nat.le_refl _) ((fun k hk => (lb238.out k hk).1) k hk))).trans hu248.out).grow hg257.out (fun k hk => Nat.le_trans (Nat.le_refl _) ((fun k hk => (lb258.out k hk).1) k hk)))⟩, ⟨(Nat.le_trans ((Nat.le_trans ((Nat.le_trans ((Nat.le_trans ((Nat.le_trans ((Nat.le_trans (Nat.le_refl _) hz87.out)) hu124.out.size)) hg128.out.size)) hg237.out.size)) hu248.out.size)) hg257.out.size)⟩, h256, ⟨hl259.out⟩, ⟨(fun k hk => hn91.out k (blk_eq.symm.trans hk))⟩, ⟨(fun k l hk hl => hn92.out k l (blk_eq.symm.trans hk) hl)⟩, ⟨(fun k l hk hl => hn93.out k l (blk_eq.symm.trans hk) hl)⟩⟩
           ·
            rw [if_neg c223] at H
            replace c223 := Bool.eq_false_iff.mpr c223
            have c223n : (x83 != 1) = true := by rw [bne, c223]; rfl
            have c223p : ¬ x83 = 1 := fun e => by simp [e] at c223
            replace H := Option.bind_eq_some_iff.mp H
            obtain ⟨t261, A262, H⟩ := H
            replace A262 := Aside0.mk A262
            try dsimp only at H
            replace H := Option.bind_eq_some_iff.mp H
            obtain ⟨t266, A267, H⟩ := H
            replace A267 := Aside0.mk A267
            try dsimp only at H
            replace H := Option.bind_eq_some_iff.mp H
            obtain ⟨t270, A271, H⟩ := H
            replace A271 := Aside0.mk A271
            try dsimp only at H
            have HL281 := Aside0.mk H
            clear H
            refine wp_seq_k (fun K99 hK99 => ?_)
            refine wp_region_lit ?_
            refine wpList_plain rfl (fun Ko hKo => ?_)
            go_simp
            refine hKo _ _ ?_
            clear hKo Ko
            try simp only [Act.put, nm1, nm2, nm3, i64_w]
            refine wpList_nil ?_
            (try simp only [Exit.then, Exit.inBlock, ↓reduceIte, Nat.reduceEqDiff])
            refine hK99 _ _ ?_
            refine wp_seq_k (fun K100 hK100 => ?_)
            refine wp_cond_true rfl ?_
            refine wp_skip ?_
            (try simp only [Exit.then, Exit.inBlock, ↓reduceIte, Nat.reduceEqDiff])
            refine hK100 _ _ ?_
            refine wp_seq_k (fun K102 hK102 => ?_)
            refine wp_block ?_
            refine wp_seq_k (fun K103 hK103 => ?_)
            refine wp_region_lit ?_
            refine wpList_plain rfl (fun Ko hKo => ?_)
            go_simp
            refine hKo _ _ ?_
            clear hKo Ko
            try simp only [Act.put, nm1, nm2, nm3, i64_w]
            refine wpList_plain rfl (fun Ko hKo => ?_)
            go_simp
            refine hKo _ _ ?_
            clear hKo Ko
            try simp only [Act.put, nm1, nm2, nm3, i64_w]
            refine wpList_nil ?_
            (try simp only [Exit.then, Exit.inBlock, ↓reduceIte, Nat.reduceEqDiff])
            refine hK103 _ _ ?_
            refine wp_seq_k (fun K104 hK104 => ?_)
            obtain ⟨ad107, hat, he⟩ := rd_at ((h61.up hu86.out).rd) A106.out
            have he108 := Aside0.mk he
            have hat110 := Aside0.mk hat
            clear he hat
            obtain ⟨ad113, hat, he⟩ := rd_at ((h60.up hu86.out).rd) A112.out
            have he114 := Aside0.mk he
            have hat116 := Aside0.mk hat
            clear he hat
            obtain ⟨ad119, hat, he⟩ := rd_at h89.rd A118.out
            have he120 := Aside0.mk he
            have hat122 := Aside0.mk hat
            clear he hat
            refine' wp_region_up 13 [Slot.det _, Slot.det _, Slot.det _, Slot.det _, Slot.det (.pointer (some ad107)), Slot.det _, Slot.det _, Slot.det _, Slot.det _, Slot.det (.pointer (some ad113)), Slot.det _, Slot.det _, Slot.det (.pointer (some ad119))] (by kernel_rfl) (by kernel_rfl) ?main
            case main =>
             simp only [List.take_succ_cons, List.take_zero]
             refine wpK_ops rfl (fun w1 hu => ?_) ?_
             · clear hu
               go_simp
               first | done | rfl
             simp only [Act.put, nm1, nm2, nm3, i64_w]
             refine wpK_ops rfl (fun w1 hu => ?_) ?_
             · clear hu
               go_simp
               first | done | rfl
             simp only [Act.put, nm1, nm2, nm3, i64_w]
             refine wpK_ops rfl (fun w1 hu => ?_) ?_
             · clear hu
               go_simp
               first | done | rfl
             simp only [Act.put, nm1, nm2, nm3, i64_w]
             refine wpK_ops rfl (fun w1 hu => ?_) ?_
             · clear hu
               go_simp
               first | done | rfl
             simp only [Act.put, nm1, nm2, nm3, i64_w]
             refine wpK_ops rfl (fun w1 hu => ?_) ?_
             · exact quiet_index eI (T := 2) rfl (by kernel_rfl) (by kernel_rfl) rfl rfl rfl hat110.out A106.out
             simp only [Act.put, nm1, nm2, nm3, i64_w]
             refine wpK_ops rfl (fun w1 hu => ?_) ?_
             · have cl0 := he108.out 0 _ rfl
               rw [addr_add0] at cl0
               replace cl0 := (((Up.refl _).drew.trans hu)).kept cl0
               go_simp
               first | done | rfl
             simp only [Act.put, nm1, nm2, nm3, i64_w]
             refine wpK_ops rfl (fun w1 hu => ?_) ?_
             · clear hu
               go_simp
               first | done | rfl
             simp only [Act.put, nm1, nm2, nm3, i64_w]
             refine wpK_ops rfl (fun w1 hu => ?_) ?_
             · clear hu
               go_simp
               first | done | rfl
             simp only [Act.put, nm1, nm2, nm3, i64_w]
             refine wpK_ops rfl (fun w1 hu => ?_) ?_
             · clear hu
               go_simp
               first | done | rfl
             simp only [Act.put, nm1, nm2, nm3, i64_w]
             refine wpK_ops rfl (fun w1 hu => ?_) ?_
             · exact quiet_index eI (T := 2) rfl (by kernel_rfl) (by kernel_rfl) rfl rfl rfl hat116.out A112.out
             simp only [Act.put, nm1, nm2, nm3, i64_w]
             refine wpK_ops rfl (fun w1 hu => ?_) ?_
             · have cl0 := he114.out 0 _ rfl
               rw [addr_add0] at cl0
               replace cl0 := (((Up.refl _).drew.trans hu)).kept cl0
               go_simp
               first | done | rfl
             simp only [Act.put, nm1, nm2, nm3, i64_w]
             refine wpK_ops rfl (fun w1 hu => ?_) ?_
             · clear hu
               go_simp
               first | done | rfl
             simp only [Act.put, nm1, nm2, nm3, i64_w]
             refine wpK_ops rfl (fun w1 hu => ?_) ?_
             · exact quiet_index eI (T := 2) rfl (by kernel_rfl) (by kernel_rfl) rfl hl90.out rfl hat122.out A118.out
             simp only [Act.put, nm1, nm2, nm3, i64_w]
             refine wpK_nil ?_
             intro w123 hu hap
             simp only [List.drop_succ_cons, List.drop_zero]
             replace hu := (Up.refl _).drew.trans hu
             clear hap
             have hu124 := Aside0.mk hu
             clear hu
             have hO0 := Aside0.mk (h89.up hu124.out)
             have lb129 := Aside0.mk hO0.out.lt
             refine step_put eI (T := 2) (u := .int .i64 (wrap64 ((wrap64 (2 * t105)) - t111))) (old := t117) (new := wrap64 ((wrap64 (2 * t105)) - t111)) 0 rfl rfl rfl hat122.out (addr_add0 _).symm rfl rfl (by kernel_rfl) (by simp [Value.cells, Value.oneCell']) (Nat.le_of_ble_eq_true rfl) rfl hO0.out A118.out ?_
             intro w125 h127 hg
             have hg128 := Aside0.mk hg
             clear hO0 hg
             try simp only [Act.put, nm1, nm2, nm3, i64_w]
             have hl130 : Aside0 ((repl ((wrap64 (a1 + 2)).toNat) (0 : Int)).length = (x84.set (x83).toNat (wrap64 ((wrap64 (2 * t105)) - t111))).length) := Aside0.mk (hl90.out.trans (List.length_set ..).symm)
             refine wpList_nil ?_
             (try simp only [Exit.then, Exit.inBlock, ↓reduceIte, Nat.reduceEqDiff])
             refine hK104 _ _ ?_
             refine wp_seq_k (fun K131 hK131 => ?_)
             refine wp_seq_k (fun K132 hK132 => ?_)
             refine wp_region_lit ?_
             refine wpList_plain rfl (fun Ko hKo => ?_)
             go_simp
             refine hKo _ _ ?_
             clear hKo Ko
             try simp only [Act.put, nm1, nm2, nm3, i64_w]
             refine wpList_plain rfl (fun Ko hKo => ?_)
             go_simp
             refine hKo _ _ ?_
             clear hKo Ko
             try simp only [Act.put, nm1, nm2, nm3, i64_w]
             refine wpList_nil ?_
             (try simp only [Exit.then, Exit.inBlock, ↓reduceIte, Nat.reduceEqDiff])
             refine hK132 _ _ ?_
             refine wp_cond_false rfl ?_
             refine wp_skip ?_
             (try simp only [Exit.then, Exit.inBlock, ↓reduceIte, Nat.reduceEqDiff])
             refine hK131 _ _ ?_
             refine wp_seq_k (fun K221 hK221 => ?_)
             refine wp_seq_k (fun K222 hK222 => ?_)
             refine wp_region_lit ?_
             refine wpList_plain rfl (fun Ko hKo => ?_)
             go_simp
             refine hKo _ _ ?_
             clear hKo Ko
             try simp only [Act.put, nm1, nm2, nm3, i64_w]
             refine wpList_plain rfl (fun Ko hKo => ?_)
             go_simp
             refine hKo _ _ ?_
             clear hKo Ko
             try simp only [Act.put, nm1, nm2, nm3, i64_w]
             refine wpList_nil ?_
             (try simp only [Exit.then, Exit.inBlock, ↓reduceIte, Nat.reduceEqDiff])
             refine hK222 _ _ ?_
             refine wp_cond_false rfl ?_
             refine wp_skip ?_
             (try simp only [Exit.then, Exit.inBlock, ↓reduceIte, Nat.reduceEqDiff])
             refine hK221 _ _ ?_
             refine wp_region_lit ?_
             refine wpList_plain rfl (fun Ko hKo => ?_)
             go_simp
             refine hKo _ _ ?_
             clear hKo Ko
             try simp only [Act.put, nm1, nm2, nm3, i64_w]
             refine wpList_plain rfl (fun Ko hKo => ?_)
             go_simp
             refine hKo _ _ ?_
             clear hKo Ko
             try simp only [Act.put, nm1, nm2, nm3, i64_w]
             refine wpList_plain rfl (fun Ko hKo => ?_)
             go_simp
             refine hKo _ _ ?_
             clear hKo Ko
             try simp only [Act.put, nm1, nm2, nm3, i64_w]
             refine wpList_plain rfl (fun Ko hKo => ?_)
             go_simp
             refine hKo _ _ ?_
             clear hKo Ko
             try simp only [Act.put, nm1, nm2, nm3, i64_w]
             refine wpList_plain rfl (fun Ko hKo => ?_)
             go_simp
             refine hKo _ _ ?_
             clear hKo Ko
             try simp only [Act.put, nm1, nm2, nm3, i64_w]
             refine step_index eI (T := 2) (wanted_none rfl) rfl (by kernel_rfl) (by kernel_rfl) rfl hl130.out rfl h127.rd A262.out ?_
             intro ad263 hat he
             have he264 := Aside0.mk he
             have hat265 := Aside0.mk hat
             clear he hat
             simp only [Act.put, nm1, nm2, nm3, i64_w]
             have cl0 := he264.out 0 _ rfl
             rw [addr_add0] at cl0
             refine wpList_plain rfl (fun Ko hKo => ?_)
             go_simp
             refine hKo _ _ ?_
             clear hKo Ko
             clear cl0
             try simp only [Act.put, nm1, nm2, nm3, i64_w]
             refine step_call (wanted_none rfl) (by first | (go_simp; done) | (go_simp; rfl)) (impl_rest.calls K a0 t261 t266 w125  A267.out) ?_
             rintro e w268 ⟨rfl, hu⟩
             have hu269 := Aside0.mk hu
             clear hu
             refine ⟨_, rfl, ?_⟩
             simp only [Act.put, nm1, nm2, nm3, i64_w]
             refine step_index eI (T := 2) (wanted_none rfl) rfl (by kernel_rfl) (by kernel_rfl) rfl hl130.out rfl (h127.up hu269.out).rd A271.out ?_
             intro ad272 hat he
             have he273 := Aside0.mk he
             have hat274 := Aside0.mk hat
             clear he hat
             simp only [Act.put, nm1, nm2, nm3, i64_w]
             have hO0 := Aside0.mk (h127.up hu269.out)
             have lb279 := Aside0.mk hO0.out.lt
             refine step_put eI (T := 2) (u := .int .i64 t266) (old := t270) (new := t266) 0 rfl rfl rfl hat274.out (addr_add0 _).symm rfl rfl (by kernel_rfl) (by simp [Value.cells, Value.oneCell']) (Nat.le_of_ble_eq_true rfl) rfl hO0.out A271.out ?_
             intro w275 h277 hg
             have hg278 := Aside0.mk hg
             clear hO0 hg
             try simp only [Act.put, nm1, nm2, nm3, i64_w]
             have hl280 : Aside0 ((repl ((wrap64 (a1 + 2)).toNat) (0 : Int)).length = ((x84.set (x83).toNat (wrap64 ((wrap64 (2 * t105)) - t111))).set (x83).toNat t266).length) := Aside0.mk (hl130.out.trans (List.length_set ..).symm)
             refine wpList_nil ?_
             (try simp only [Exit.then, Exit.inBlock, ↓reduceIte, Nat.reduceEqDiff])
             refine hK102 _ _ ?_
             refine wp_region_lit ?_
             refine wpList_plain rfl (fun Ko hKo => ?_)
             go_simp
             refine hKo _ _ ?_
             clear hKo Ko
             try simp only [Act.put, nm1, nm2, nm3, i64_w]
             refine wpList_plain rfl (fun Ko hKo => ?_)
             go_simp
             refine hKo _ _ ?_
             clear hKo Ko
             try simp only [Act.put, nm1, nm2, nm3, i64_w]
             refine wpList_nil ?_
             (try simp only [Exit.then, Exit.inBlock, ↓reduceIte, Nat.reduceEqDiff])
             refine hK98 _ _ ?_
             go_roundg k94
             case measure => exact Nat.lt_succ_self _
             case rel => exact ⟨wrap64 (x83 + 1), ((x84.set (x83).toNat (wrap64 ((wrap64 (2 * t105)) - t111))).set (x83).toNat t266), (by first | rfl | simp), HL281, ⟨by have := hk66.out; have := hk95.out; omega⟩, ⟨((((hu86.out.trans hu124.out).grow hg128.out (fun k hk => Nat.le_trans (Nat.le_refl _) ((fun k hk => (lb129.out k hk).1) k hk))).trans hu269.out).grow hg278.out (fun k hk => Nat.le_trans (Nat.le_refl _) ((fun k hk => (lb279.out k hk).1) k hk)))⟩, ⟨(Nat.le_trans ((Nat.le_trans ((Nat.le_trans ((Nat.le_trans ((Nat.le_trans (Nat.le_refl _) hz87.out)) hu124.out.size)) hg128.out.size)) hu269.out.size)) hg278.out.size)⟩, h277, ⟨hl280.out⟩, ⟨(fun k hk => hn91.out k (blk_eq.symm.trans hk))⟩, ⟨(fun k l hk hl => hn92.out k l (blk_eq.symm.trans hk) hl)⟩, ⟨(fun k l hk hl => hn93.out k l (blk_eq.symm.trans hk) hl)⟩⟩
         ·
          rw [if_neg c101] at H
          replace c101 := Bool.eq_false_iff.mpr c101
          have HL282 := Aside0.mk H
          clear H
          refine wp_seq_k (fun K99 hK99 => ?_)
          refine wp_region_lit ?_
          refine wpList_plain rfl (fun Ko hKo => ?_)
          go_simp
          refine hKo _ _ ?_
          clear hKo Ko
          try simp only [Act.put, nm1, nm2, nm3, i64_w]
          refine wpList_nil ?_
          (try simp only [Exit.then, Exit.inBlock, ↓reduceIte, Nat.reduceEqDiff])
          refine hK99 _ _ ?_
          refine wp_seq_k (fun K100 hK100 => ?_)
          refine wp_cond_false rfl ?_
          refine wp_exit ?_
          (try simp only [Exit.then, Exit.inBlock, ↓reduceIte, Nat.reduceEqDiff])
          refine hK81 _ _ ?_
          refine wp_region_lit ?_
          refine wpList_plain rfl (fun Ko hKo => ?_)
          go_simp
          refine hKo _ _ ?_
          clear hKo Ko
          try simp only [Act.put, nm1, nm2, nm3, i64_w]
          refine wpList_plain rfl (fun Ko hKo => ?_)
          go_simp
          refine hKo _ _ ?_
          clear hKo Ko
          try simp only [Act.put, nm1, nm2, nm3, i64_w]
          refine wpList_plain rfl (fun Ko hKo => ?_)
          go_simp
          refine hKo _ _ ?_
          clear hKo Ko
          try simp only [Act.put, nm1, nm2, nm3, i64_w]
          refine wpList_plain rfl (fun Ko hKo => ?_)
          go_simp
          refine hKo _ _ ?_
          clear hKo Ko
          try simp only [Act.put, nm1, nm2, nm3, i64_w]
          refine wpList_nil ?_
          (try simp only [Exit.then, Exit.inBlock, ↓reduceIte, Nat.reduceEqDiff])
          refine hK73 _ _ ?_
          refine wp_region_lit ?_
          refine wpList_plain rfl (fun Ko hKo => ?_)
          go_simp
          refine hKo _ _ ?_
          clear hKo Ko
          try simp only [Act.put, nm1, nm2, nm3, i64_w]
          refine wpList_plain rfl (fun Ko hKo => ?_)
          go_simp
          refine hKo _ _ ?_
          clear hKo Ko
          try simp only [Act.put, nm1, nm2, nm3, i64_w]
          refine wpList_plain rfl (fun Ko hKo => ?_)
          go_simp
          refine hKo _ _ ?_
          clear hKo Ko
          try simp only [Act.put, nm1, nm2, nm3, i64_w]
          refine wpList_nil ?_
          (try simp only [Exit.then, Exit.inBlock, ↓reduceIte, Nat.reduceEqDiff])
          refine hK69 _ _ ?_
          go_roundg k94
          case measure => have := hk66.out; have := hk95.out; omega
          case rel => exact ⟨wrap64 (x49 + 1), x53, P54, q55, x84, P75, q76, (by first | rfl | simp), (by first | rfl | simp), (congrArg (fun n_ => Value.slice _ n_ _) hl90.out), HL282, ⟨by have := hk66.out; have := hk95.out; omega⟩, ⟨(hu57.out.trans hu86.out)⟩, ⟨(Nat.le_trans ((Nat.le_trans ((Nat.le_trans (Nat.le_refl _) hz58.out)) hu80.out.size)) hz87.out)⟩, (h61.up hu86.out), (h89.lower ((Nat.le_trans ((Nat.le_trans (hu26.out.size) hg36.out.size)) hz58.out))), ⟨hn64.out⟩, ⟨(fun k l hk hl => Ne.symm (hn93.out l k hl hk))⟩, ⟨hn91.out⟩⟩
       ·
        rw [if_neg c72] at H
        replace c72 := Bool.eq_false_iff.mpr c72
        replace H := Option.bind_eq_some_iff.mp H
        obtain ⟨t287, A288, H⟩ := H
        replace A288 := Aside0.mk A288
        try dsimp only at H
        by_cases c290 : (decide (t287.length ≤ 1000000)) = true
        ·
         rw [if_pos c290] at H
         simp only [Option.some.injEq, Prod.mk.injEq] at H
         obtain ⟨rfl, rfl⟩ := H
         refine wp_seq_k (fun K70 hK70 => ?_)
         refine wp_seq_k (fun K71 hK71 => ?_)
         refine wp_region_lit ?_
         refine wpList_plain rfl (fun Ko hKo => ?_)
         go_simp
         refine hKo _ _ ?_
         clear hKo Ko
         try simp only [Act.put, nm1, nm2, nm3, i64_w]
         have cl0 := (hb2.up (hu10.out.trans hu57.out)).cell (o := 0) rfl
         refine wpList_plain rfl (fun Ko hKo => ?_)
         go_simp
         refine hKo _ _ ?_
         clear hKo Ko
         clear cl0
         try simp only [Act.put, nm1, nm2, nm3, i64_w]
         refine wpList_plain rfl (fun Ko hKo => ?_)
         go_simp
         refine hKo _ _ ?_
         clear hKo Ko
         try simp only [Act.put, nm1, nm2, nm3, i64_w]
         refine wpList_nil ?_
         (try simp only [Exit.then, Exit.inBlock, ↓reduceIte, Nat.reduceEqDiff])
         refine hK71 _ _ ?_
         refine wp_cond_false rfl ?_
         refine wp_exit ?_
         (try simp only [Exit.then, Exit.inBlock, ↓reduceIte, Nat.reduceEqDiff])
         refine hK47 _ _ ?_
         refine wp_seq_k (fun K283 hK283 => ?_)
         refine wp_region_lit ?_
         refine step_new (cs := []) (T := 2) (f := fun b => .slice (some ⟨b, 0, none⟩) 0 0) rfl (by first | (go_simp; done) | (go_simp; rfl)) ?_
         intro b284 w285 hu lb hb284
         simp only [Act.put, nm1, nm2, nm3, i64_w]
         have lbb284 := Aside0.mk lb
         have ltb284 := Aside0.mk hb284.lt
         clear lb
         have hu286 := Aside0.mk hu
         clear hu
         refine wpList_plain rfl (fun Ko hKo => ?_)
         go_simp
         refine hKo _ _ ?_
         clear hKo Ko
         try simp only [Act.put, nm1, nm2, nm3, i64_w]
         have cl0 := (hb2.up ((hu10.out.trans hu57.out).trans hu286.out)).cell (o := 0) rfl
         refine wpList_plain rfl (fun Ko hKo => ?_)
         go_simp
         refine hKo _ _ ?_
         clear hKo Ko
         clear cl0
         try simp only [Act.put, nm1, nm2, nm3, i64_w]
         refine wpList_plain rfl (fun Ko hKo => ?_)
         go_simp
         refine hKo _ _ ?_
         clear hKo Ko
         try simp only [Act.put, nm1, nm2, nm3, i64_w]
         have hO0 := Aside0.mk (h61.up hu286.out)
         refine step_cut_hi 1 (T := 2) (i := wrap64 (a1 + 1)) (xs := x53) (ys := t287) (wanted_none rfl) rfl (by kernel_rfl) (by kernel_rfl) rfl rfl hO0.out.cap A288.out ?_
         have h289 := hO0.out.cutHi A288.out
         clear hO0
         simp only [Act.put, nm1, nm2, nm3, i64_w]
         have h292 : Own eI 2 w285 w56.heap.size (.slice (some ⟨b284, 0, none⟩) ([].length) 0) [] := Own.of_blk hb284 lbb284.out rfl (by simp) (by simp [Enc.flat, eI])
         have hO0 := Aside0.mk h292
         refine step_append eI (z := .int .i64 0) (bytes := 8) (base := w56.heap.size) (xs := ([] : List (Int))) (ys := t287) (wanted_none rfl) _ _ rfl rfl (by kernel_rfl) rfl (by decide) rfl rfl rfl hO0.out h289.rd (hu286.out.size) (by have h0_ := (of_decide_eq_true (by assumption) : t287.length ≤ 1000000); simp only [List.length_cons, List.length_nil]; omega) ?_
         intro P293 q294 w295 h297 hg hat
         have hg298 := Aside0.mk hg
         have hat299 := Aside0.mk hat
         simp only [Act.put, nm1, nm2, nm3, i64_w]
         have lb300 := Aside0.mk hO0.out.lt
         clear hO0 hg hat
         have h301 := h289.grow hg298.out (fun k l hk hl => Ne.symm ((fun k l hk hl => (fun k l hk hl => Nat.ne_of_lt (Nat.lt_of_lt_of_le ((fun k hk => Nat.lt_of_lt_of_le (h61.lt k hk).2 (Nat.le_refl _)) k hk) ((fun k hk => Nat.le_trans (Nat.le_refl _) (h292.lt k hk).1) l hl))) k l (blk_eq.symm.trans hk) hl) l k hl hk))
         refine wpList_plain rfl (fun Ko hKo => ?_)
         go_simp
         refine hKo _ _ ?_
         clear hKo Ko
         try simp only [Act.put, nm1, nm2, nm3, i64_w]
         refine wpList_plain rfl (fun Ko hKo => ?_)
         go_simp
         refine hKo _ _ ?_
         clear hKo Ko
         try simp only [Act.put, nm1, nm2, nm3, i64_w]
         refine wpList_nil ?_
         (try simp only [Exit.then, Exit.inBlock, ↓reduceIte, Nat.reduceEqDiff])
         refine hK283 _ _ ?_
         refine wp_ret ?_
         (try simp only [Exit.then, Exit.inBlock, ↓reduceIte, Nat.reduceEqDiff])
         refine hQf _ _ _ ?_
         exact bodyPost_ret (v := .tuple #[.slice P293 ((([] : List (Int)) ++ t287).length) q294, .int .i64 0]) (by first | rfl | (simp [results, Try.results31, go_sem]; done) | (simp [results, Try.results31, go_sem]; rfl)) rfl ⟨P293, q294, rfl, (h297.lower ((Nat.le_trans ((Nat.le_trans ((Nat.le_trans ((Nat.le_trans (hu4.out.size) hu10.out.size)) hu26.out.size)) hg36.out.size)) hz58.out))), ((((hu4.out.trans hu10.out).trans hu57.out).trans hu286.out).grow hg298.out (fun k hk => Nat.le_trans ((Nat.le_trans ((Nat.le_trans ((Nat.le_trans ((Nat.le_trans (hu4.out.size) hu10.out.size)) hu26.out.size)) hg36.out.size)) hz58.out)) ((fun k hk => (lb300.out k hk).1) k hk)))⟩
        ·
         rw [if_neg c290] at H
         replace c290 := Bool.eq_false_iff.mpr c290
         exact absurd H (by simp)
   ·
    rw [if_neg c15] at H
    replace c15 := Bool.eq_false_iff.mpr c15
    exact absurd H (by simp)
  ·
   rw [if_neg c14] at H
   replace c14 := Bool.eq_false_iff.mpr c14
   exact absurd H (by simp)
 ·
  rw [if_neg c12] at H
  replace c12 := Bool.eq_false_iff.mpr c12
  have c12n : (t7 != 0) = true := by rw [bne, c12]; rfl
  have c12p : ¬ t7 = 0 := fun e => by simp [e] at c12
  simp only [Option.some.injEq, Prod.mk.injEq] at H
  obtain ⟨rfl, rfl⟩ := H
  go_enter Try.func31, Try.ntmps31
  refine wp_hide (fun Qf hQf => ?_)
  refine wp_seq_k (fun K1 hK1 => ?_)
  refine wp_region_lit ?_
  refine step_new (cs := [.int .i64 a1]) (T := 2) (f := fun b => .pointer (some ⟨b, 0, none⟩)) rfl (by first | (go_simp; done) | (go_simp; rfl)) ?_
  intro b2 w3 hu lb hb2
  simp only [Act.put, nm1, nm2, nm3, i64_w]
  have lbb2 := Aside0.mk lb
  have ltb2 := Aside0.mk hb2.lt
  clear lb
  have hu4 := Aside0.mk hu
  clear hu
  refine wpList_plain rfl (fun Ko hKo => ?_)
  go_simp
  refine hKo _ _ ?_
  clear hKo Ko
  try simp only [Act.put, nm1, nm2, nm3, i64_w]
  refine wpList_plain rfl (fun Ko hKo => ?_)
  go_simp
  refine hKo _ _ ?_
  clear hKo Ko
  try simp only [Act.put, nm1, nm2, nm3, i64_w]
  refine wpList_nil ?_
  (try simp only [Exit.then, Exit.inBlock, ↓reduceIte, Nat.reduceEqDiff])
  refine hK1 _ _ ?_
  refine wp_seq_k (fun K5 hK5 => ?_)
  refine wp_seq_k (fun K6 hK6 => ?_)
  refine wp_region_lit ?_
  refine wpList_plain rfl (fun Ko hKo => ?_)
  go_simp
  refine hKo _ _ ?_
  clear hKo Ko
  try simp only [Act.put, nm1, nm2, nm3, i64_w]
  refine wpList_plain rfl (fun Ko hKo => ?_)
  go_simp
  refine hKo _ _ ?_
  clear hKo Ko
  try simp only [Act.put, nm1, nm2, nm3, i64_w]
  refine step_call (wanted_none rfl) (by first | (go_simp; done) | (go_simp; rfl)) (impl_asked__impl_CoefficientsOf_1.calls K a0 b2 a1 t7 w3 hb2 A8.out) ?_
  rintro e w9 ⟨rfl, hu⟩
  have hu10 := Aside0.mk hu
  clear hu
  refine ⟨_, rfl, ?_⟩
  simp only [Act.put, nm1, nm2, nm3, i64_w]
  refine wpList_plain rfl (fun Ko hKo => ?_)
  go_simp
  refine hKo _ _ ?_
  clear hKo Ko
  try simp only [Act.put, nm1, nm2, nm3, i64_w]
  refine wpList_nil ?_
  (try simp only [Exit.then, Exit.inBlock, ↓reduceIte, Nat.reduceEqDiff])
  refine hK6 _ _ ?_
  refine wp_seq_k (fun K11 hK11 => ?_)
  refine wp_region_lit ?_
  refine wpList_plain rfl (fun Ko hKo => ?_)
  go_simp
  refine hKo _ _ ?_
  clear hKo Ko
  try simp only [Act.put, nm1, nm2, nm3, i64_w]
  refine wpList_plain rfl (fun Ko hKo => ?_)
  go_simp
  refine hKo _ _ ?_
  clear hKo Ko
  try simp only [Act.put, nm1, nm2, nm3, i64_w]
  refine wpList_nil ?_
  (try simp only [Exit.then, Exit.inBlock, ↓reduceIte, Nat.reduceEqDiff])
  refine hK11 _ _ ?_
  refine wp_cond_true rfl ?_
  refine wp_seq_k (fun K302 hK302 => ?_)
  refine wp_region_lit ?_
  refine wpList_plain rfl (fun Ko hKo => ?_)
  go_simp
  refine hKo _ _ ?_
  clear hKo Ko
  try simp only [Act.put, nm1, nm2, nm3, i64_w]
  refine wpList_plain rfl (fun Ko hKo => ?_)
  go_simp
  refine hKo _ _ ?_
  clear hKo Ko
  try simp only [Act.put, nm1, nm2, nm3, i64_w]
  refine wpList_plain rfl (fun Ko hKo => ?_)
  go_simp
  refine hKo _ _ ?_
  clear hKo Ko
  try simp only [Act.put, nm1, nm2, nm3, i64_w]
  refine wpList_nil ?_
  (try simp only [Exit.then, Exit.inBlock, ↓reduceIte, Nat.reduceEqDiff])
  refine hK302 _ _ ?_
  refine wp_ret ?_
  have h304 : Own eI 2 w9 w9.heap.size (.slice none ([] : List (Int)).length 0) [] := Own.nil
  (try simp only [Exit.then, Exit.inBlock, ↓reduceIte, Nat.reduceEqDiff])
  refine hQf _ _ _ ?_
  exact bodyPost_ret (v := .tuple #[.slice none 0 0, .int .i64 t7]) (by first | rfl | (simp [results, Try.results31, go_sem]; done) | (simp [results, Try.results31, go_sem]; rfl)) rfl ⟨none, 0, rfl, (h304.lower ((Nat.le_trans (hu4.out.size) hu10.out.size))), (hu4.out.trans hu10.out)⟩

set_option maxHeartbeats 4000000 in
set_option maxRecDepth 100000 in
theorem laws_eqInt64S.calls (K : Nat) (a0_A : Option Addr) (a0_c : Nat) (a0 : List (Int)) (a1_A : Option Addr) (a1_c : Nat) (a1 : List (Int)) (r0 : Bool) (w : World) (ha0 : Rd eI w a0_A a0) (ha1 : Rd eI w a1_A a1) (h : laws_eqInt64S.f K a0 a1 = some (r0)) :
    Calls Try.prog 27 #[.slice a0_A a0.length a0_c, .slice a1_A a1.length a1_c] w fun e w' => e = .returned (.bool r0) ∧ Up w w' := by
 have H : ((if ((a0.length : Int) == (a1.length : Int)) = true then (laws_eqInt64S.l0 K a0 a1 K 0) else some false) : Option (Bool)) = some (r0) := h
 clear h
 by_cases c4 : ((a0.length : Int) == (a1.length : Int)) = true
 ·
  rw [if_pos c4] at H
  have c4n : ((a0.length : Int) != (a1.length : Int)) = false := by rw [bne, c4]; rfl
  go_enter Try.func27, Try.ntmps27
  refine wp_hide (fun Qf hQf => ?_)
  refine wp_seq_k (fun K1 hK1 => ?_)
  refine wp_region_lit ?_
  refine wpList_plain rfl (fun Ko hKo => ?_)
  go_simp
  refine hKo _ _ ?_
  clear hKo Ko
  try simp only [Act.put, nm1, nm2, nm3, i64_w]
  refine wpList_nil ?_
  (try simp only [Exit.then, Exit.inBlock, ↓reduceIte, Nat.reduceEqDiff])
  refine hK1 _ _ ?_
  refine wp_seq_k (fun K2 hK2 => ?_)
  refine wp_seq_k (fun K3 hK3 => ?_)
  refine wp_region_lit ?_
  refine wpList_plain rfl (fun Ko hKo => ?_)
  go_simp
  refine hKo _ _ ?_
  clear hKo Ko
  try simp only [Act.put, nm1, nm2, nm3, i64_w]
  refine wpList_plain rfl (fun Ko hKo => ?_)
  go_simp
  refine hKo _ _ ?_
  clear hKo Ko
  try simp only [Act.put, nm1, nm2, nm3, i64_w]
  refine wpList_plain rfl (fun Ko hKo => ?_)
  go_simp
  refine hKo _ _ ?_
  clear hKo Ko
  try simp only [Act.put, nm1, nm2, nm3, i64_w]
  refine wpList_plain rfl (fun Ko hKo => ?_)
  go_simp
  refine hKo _ _ ?_
  clear hKo Ko
  try simp only [Act.put, nm1, nm2, nm3, i64_w]
  refine wpList_plain rfl (fun Ko hKo => ?_)
  go_simp
  refine hKo _ _ ?_
  clear hKo Ko
  try simp only [Act.put, nm1, nm2, nm3, i64_w]
  refine wpList_nil ?_
  (try simp only [Exit.then, Exit.inBlock, ↓reduceIte, Nat.reduceEqDiff])
  refine hK3 _ _ ?_
  refine wp_cond_false rfl ?_
  refine wp_skip ?_
  (try simp only [Exit.then, Exit.inBlock, ↓reduceIte, Nat.reduceEqDiff])
  refine hK2 _ _ ?_
  refine wp_seq_k (fun K5 hK5 => ?_)
  refine wp_seq_k (fun K6 hK6 => ?_)
  refine wp_region_lit ?_
  refine wpList_plain rfl (fun Ko hKo => ?_)
  go_simp
  refine hKo _ _ ?_
  clear hKo Ko
  try simp only [Act.put, nm1, nm2, nm3, i64_w]
  refine wpList_nil ?_
  (try simp only [Exit.then, Exit.inBlock, ↓reduceIte, Nat.reduceEqDiff])
  refine hK6 _ _ ?_
  refine wp_block ?_
  have HL11 := Aside0.mk H
  clear H
  go_loopg [5] K (fun kq v5 w' => ∃ (x7 : Int), v5 = .int .i64 x7 ∧ Aside0 (laws_eqInt64S.l0 K a0 a1 kq x7 = some (r0)) ∧ Aside0 (kq ≤ K) ∧ Aside0 (Up w w') ∧ Aside0 (w.heap.size ≤ w'.heap.size))
  case atStart => exact ⟨0, (by first | rfl | simp), HL11, ⟨Nat.le_refl _⟩, ⟨(Up.refl _)⟩, ⟨Nat.le_refl _⟩⟩
  case round =>
   rename_i J15 K16 hJ15 hK16
   obtain ⟨x7, rfl, HL14, hk13, hu9, hz10⟩ := hrel
   obtain ⟨w8, rfl⟩ : ∃ wo : World, wo = wr := ⟨_, rfl⟩
   obtain ⟨k12, rfl⟩ | rfl : (∃ k, gk = k + 1) ∨ gk = 0 := by rcases gk with _ | k; exact .inr rfl; exact .inl ⟨k, rfl⟩
   case inr => exact absurd HL14.out (by simp [laws_eqInt64S.l0])
   have H := HL14.out
   clear HL14
   rw [laws_eqInt64S.l0] at H
   by_cases c19 : (decide (x7 < (a0.length : Int))) = true
   ·
    rw [if_pos c19] at H
    replace H := Option.bind_eq_some_iff.mp H
    obtain ⟨t22, A23, H⟩ := H
    replace A23 := Aside0.mk A23
    try dsimp only at H
    replace H := Option.bind_eq_some_iff.mp H
    obtain ⟨t28, A29, H⟩ := H
    replace A29 := Aside0.mk A29
    try dsimp only at H
    by_cases c36 : (t22 == t28) = true
    ·
     rw [if_pos c36] at H
     have c36n : (t22 != t28) = false := by rw [bne, c36]; rfl
     have HL37 := Aside0.mk H
     clear H
     refine wp_seq_k (fun K17 hK17 => ?_)
     refine wp_seq_k (fun K18 hK18 => ?_)
     refine wp_region_lit ?_
     refine wpList_plain rfl (fun Ko hKo => ?_)
     go_simp
     refine hKo _ _ ?_
     clear hKo Ko
     try simp only [Act.put, nm1, nm2, nm3, i64_w]
     refine wpList_plain rfl (fun Ko hKo => ?_)
     go_simp
     refine hKo _ _ ?_
     clear hKo Ko
     try simp only [Act.put, nm1, nm2, nm3, i64_w]
     refine wpList_plain rfl (fun Ko hKo => ?_)
     go_simp
     refine hKo _ _ ?_
     clear hKo Ko
     try simp only [Act.put, nm1, nm2, nm3, i64_w]
     refine wpList_plain rfl (fun Ko hKo => ?_)
     go_simp
     refine hKo _ _ ?_
     clear hKo Ko
     try simp only [Act.put, nm1, nm2, nm3, i64_w]
     refine wpList_nil ?_
     (try simp only [Exit.then, Exit.inBlock, ↓reduceIte, Nat.reduceEqDiff])
     refine hK18 _ _ ?_
     refine wp_cond_true rfl ?_
     refine wp_skip ?_
     (try simp only [Exit.then, Exit.inBlock, ↓reduceIte, Nat.reduceEqDiff])
     refine hK17 _ _ ?_
     refine wp_seq_k (fun K20 hK20 => ?_)
     refine wp_block ?_
     refine wp_seq_k (fun K21 hK21 => ?_)
     obtain ⟨ad24, hat, he⟩ := rd_at (ha0.up hu9.out) A23.out
     have he25 := Aside0.mk he
     have hat27 := Aside0.mk hat
     clear he hat
     obtain ⟨ad30, hat, he⟩ := rd_at (ha1.up hu9.out) A29.out
     have he31 := Aside0.mk he
     have hat33 := Aside0.mk hat
     clear he hat
     refine' wp_region_up 9 [Slot.det _, Slot.det _, Slot.det (.pointer (some ad24)), Slot.det _, Slot.det _, Slot.det _, Slot.det (.pointer (some ad30)), Slot.det _, Slot.det _] (by kernel_rfl) (by kernel_rfl) ?main
     case main =>
      simp only [List.take_succ_cons, List.take_zero]
      refine wpK_ops rfl (fun w1 hu => ?_) ?_
      · clear hu
        go_simp
        first | done | rfl
      simp only [Act.put, nm1, nm2, nm3, i64_w]
      refine wpK_ops rfl (fun w1 hu => ?_) ?_
      · clear hu
        go_simp
        first | done | rfl
      simp only [Act.put, nm1, nm2, nm3, i64_w]
      refine wpK_ops rfl (fun w1 hu => ?_) ?_
      · exact quiet_index eI (T := 2) rfl (by kernel_rfl) (by kernel_rfl) rfl rfl rfl hat27.out A23.out
      simp only [Act.put, nm1, nm2, nm3, i64_w]
      refine wpK_ops rfl (fun w1 hu => ?_) ?_
      · have cl0 := he25.out 0 _ rfl
        rw [addr_add0] at cl0
        replace cl0 := (((Up.refl _).drew.trans hu)).kept cl0
        go_simp
        first | done | rfl
      simp only [Act.put, nm1, nm2, nm3, i64_w]
      refine wpK_ops rfl (fun w1 hu => ?_) ?_
      · clear hu
        go_simp
        first | done | rfl
      simp only [Act.put, nm1, nm2, nm3, i64_w]
      refine wpK_ops rfl (fun w1 hu => ?_) ?_
      · clear hu
        go_simp
        first | done | rfl
      simp only [Act.put, nm1, nm2, nm3, i64_w]
      refine wpK_ops rfl (fun w1 hu => ?_) ?_
      · exact quiet_index eI (T := 2) rfl (by kernel_rfl) (by kernel_rfl) rfl rfl rfl hat33.out A29.out
      simp only [Act.put, nm1, nm2, nm3, i64_w]
      refine wpK_ops rfl (fun w1 hu => ?_) ?_
      · have cl0 := he31.out 0 _ rfl
        rw [addr_add0] at cl0
        replace cl0 := (((Up.refl _).drew.trans hu)).kept cl0
        go_simp
        first | done | rfl
      simp only [Act.put, nm1, nm2, nm3, i64_w]
      refine wpK_ops rfl (fun w1 hu => ?_) ?_
      · clear hu
        go_simp
        first | done | rfl
      simp only [Act.put, nm1, nm2, nm3, i64_w]
      refine wpK_nil ?_
      intro w34 hu hap
      simp only [List.drop_succ_cons, List.drop_zero]
      replace hu := (Up.refl _).drew.trans hu
      clear hap
      have hu35 := Aside0.mk hu
      clear hu
      refine wpList_nil ?_
      (try simp only [Exit.then, Exit.inBlock, ↓reduceIte, Nat.reduceEqDiff])
      refine hK21 _ _ ?_
      refine wp_cond_false rfl ?_
      refine wp_skip ?_
      (try simp only [Exit.then, Exit.inBlock, ↓reduceIte, Nat.reduceEqDiff])
      refine hK20 _ _ ?_
      refine wp_region_lit ?_
      refine wpList_plain rfl (fun Ko hKo => ?_)
      go_simp
      refine hKo _ _ ?_
      clear hKo Ko
      try simp only [Act.put, nm1, nm2, nm3, i64_w]
      refine wpList_plain rfl (fun Ko hKo => ?_)
      go_simp
      refine hKo _ _ ?_
      clear hKo Ko
      try simp only [Act.put, nm1, nm2, nm3, i64_w]
      refine wpList_plain rfl (fun Ko hKo => ?_)
      go_simp
      refine hKo _ _ ?_
      clear hKo Ko
      try simp only [Act.put, nm1, nm2, nm3, i64_w]
      refine wpList_nil ?_
      (try simp only [Exit.then, Exit.inBlock, ↓reduceIte, Nat.reduceEqDiff])
      refine hK16 _ _ ?_
      go_roundg k12
      case measure => exact Nat.lt_succ_self _
      case rel => exact ⟨wrap64 (x7 + 1), (by first | rfl | simp), HL37, ⟨by have := hk13.out; omega⟩, ⟨(hu9.out.trans hu35.out)⟩, ⟨(Nat.le_trans ((Nat.le_trans (Nat.le_refl _) hz10.out)) hu35.out.size)⟩⟩
    ·
     rw [if_neg c36] at H
     replace c36 := Bool.eq_false_iff.mpr c36
     have c36n : (t22 != t28) = true := by rw [bne, c36]; rfl
     have c36p : ¬ t22 = t28 := fun e => by simp [e] at c36
     obtain rfl := Option.some.inj H
     refine wp_seq_k (fun K17 hK17 => ?_)
     refine wp_seq_k (fun K18 hK18 => ?_)
     refine wp_region_lit ?_
     refine wpList_plain rfl (fun Ko hKo => ?_)
     go_simp
     refine hKo _ _ ?_
     clear hKo Ko
     try simp only [Act.put, nm1, nm2, nm3, i64_w]
     refine wpList_plain rfl (fun Ko hKo => ?_)
     go_simp
     refine hKo _ _ ?_
     clear hKo Ko
     try simp only [Act.put, nm1, nm2, nm3, i64_w]
     refine wpList_plain rfl (fun Ko hKo => ?_)
     go_simp
     refine hKo _ _ ?_
     clear hKo Ko
     try simp only [Act.put, nm1, nm2, nm3, i64_w]
     refine wpList_plain rfl (fun Ko hKo => ?_)
     go_simp
     refine hKo _ _ ?_
     clear hKo Ko
     try simp only [Act.put, nm1, nm2, nm3, i64_w]
     refine wpList_nil ?_
     (try simp only [Exit.then, Exit.inBlock, ↓reduceIte, Nat.reduceEqDiff])
     refine hK18 _ _ ?_
     refine wp_cond_true rfl ?_
     refine wp_skip ?_
     (try simp only [Exit.then, Exit.inBlock, ↓reduceIte, Nat.reduceEqDiff])
     refine hK17 _ _ ?_
     refine wp_seq_k (fun K20 hK20 => ?_)
     refine wp_block ?_
     refine wp_seq_k (fun K21 hK21 => ?_)
     obtain ⟨ad24, hat, he⟩ := rd_at (ha0.up hu9.out) A23.out
     have he25 := Aside0.mk he
     have hat27 := Aside0.mk hat
     clear he hat
     obtain ⟨ad30, hat, he⟩ := rd_at (ha1.up hu9.out) A29.out
     have he31 := Aside0.mk he
     have hat33 := Aside0.mk hat
     clear he hat
     refine' wp_region_up 9 [Slot.det _, Slot.det _, Slot.det (.pointer (some ad24)), Slot.det _, Slot.det _, Slot.det _, Slot.det (.pointer (some ad30)), Slot.det _, Slot.det _] (by kernel_rfl) (by kernel_rfl) ?main
     case main =>
      simp only [List.take_succ_cons, List.take_zero]
      refine wpK_ops rfl (fun w1 hu => ?_) ?_
      · clear hu
        go_simp
        first | done | rfl
      simp only [Act.put, nm1, nm2, nm3, i64_w]
      refine wpK_ops rfl (fun w1 hu => ?_) ?_
      · clear hu
        go_simp
        first | done | rfl
      simp only [Act.put, nm1, nm2, nm3, i64_w]
      refine wpK_ops rfl (fun w1 hu => ?_) ?_
      · exact quiet_index eI (T := 2) rfl (by kernel_rfl) (by kernel_rfl) rfl rfl rfl hat27.out A23.out
      simp only [Act.put, nm1, nm2, nm3, i64_w]
      refine wpK_ops rfl (fun w1 hu => ?_) ?_
      · have cl0 := he25.out 0 _ rfl
        rw [addr_add0] at cl0
        replace cl0 := (((Up.refl _).drew.trans hu)).kept cl0
        go_simp
        first | done | rfl
      simp only [Act.put, nm1, nm2, nm3, i64_w]
      refine wpK_ops rfl (fun w1 hu => ?_) ?_
      · clear hu
        go_simp
        first | done | rfl
      simp only [Act.put, nm1, nm2, nm3, i64_w]
      refine wpK_ops rfl (fun w1 hu => ?_) ?_
      · clear hu
        go_simp
        first | done | rfl
      simp only [Act.put, nm1, nm2, nm3, i64_w]
      refine wpK_ops rfl (fun w1 hu => ?_) ?_
      · exact quiet_index eI (T := 2) rfl (by kernel_rfl) (by kernel_rfl) rfl rfl rfl hat33.out A29.out
      simp only [Act.put, nm1, nm2, nm3, i64_w]
      refine wpK_ops rfl (fun w1 hu => ?_) ?_
      · have cl0 := he31.out 0 _ rfl
        rw [addr_add0] at cl0
        replace cl0 := (((Up.refl _).drew.trans hu)).kept cl0
        go_simp
        first | done | rfl
      simp only [Act.put, nm1, nm2, nm3, i64_w]
      refine wpK_ops rfl (fun w1 hu => ?_) ?_
      · clear hu
        go_simp
        first | done | rfl
      simp only [Act.put, nm1, nm2, nm3, i64_w]
      refine wpK_nil ?_
      intro w34 hu hap
      simp only [List.drop_succ_cons, List.drop_zero]
      replace hu := (Up.refl _).drew.trans hu
      clear hap
      have hu35 := Aside0.mk hu
      clear hu
      refine wpList_nil ?_
      (try simp only [Exit.then, Exit.inBlock, ↓reduceIte, Nat.reduceEqDiff])
      refine hK21 _ _ ?_
      refine wp_cond_true rfl ?_
      refine wp_seq_k (fun K38 hK38 => ?_)
      refine wp_region_lit ?_
      refine wpList_plain rfl (fun Ko hKo => ?_)
      go_simp
      refine hKo _ _ ?_
      clear hKo Ko
      try simp only [Act.put, nm1, nm2, nm3, i64_w]
      refine wpList_nil ?_
      (try simp only [Exit.then, Exit.inBlock, ↓reduceIte, Nat.reduceEqDiff])
      refine hK38 _ _ ?_
      refine wp_ret ?_
      (try simp only [Exit.then, Exit.inBlock, ↓reduceIte, Nat.reduceEqDiff])
      refine hQf _ _ _ ?_
      exact bodyPost_ret (v := .bool false) (by first | rfl | (simp [results, Try.results27, go_sem]; done) | (simp [results, Try.results27, go_sem]; rfl)) rfl ⟨rfl, (hu9.out.trans hu35.out)⟩
   ·
    rw [if_neg c19] at H
    replace c19 := Bool.eq_false_iff.mpr c19
    obtain rfl := Option.some.inj H
    refine wp_seq_k (fun K17 hK17 => ?_)
    refine wp_seq_k (fun K18 hK18 => ?_)
    refine wp_region_lit ?_
    refine wpList_plain rfl (fun Ko hKo => ?_)
    go_simp
    refine hKo _ _ ?_
    clear hKo Ko
    try simp only [Act.put, nm1, nm2, nm3, i64_w]
    refine wpList_plain rfl (fun Ko hKo => ?_)
    go_simp
    refine hKo _ _ ?_
    clear hKo Ko
    try simp only [Act.put, nm1, nm2, nm3, i64_w]
    refine wpList_plain rfl (fun Ko hKo => ?_)
    go_simp
    refine hKo _ _ ?_
    clear hKo Ko
    try simp only [Act.put, nm1, nm2, nm3, i64_w]
    refine wpList_plain rfl (fun Ko hKo => ?_)
    go_simp
    refine hKo _ _ ?_
    clear hKo Ko
    try simp only [Act.put, nm1, nm2, nm3, i64_w]
    refine wpList_nil ?_
    (try simp only [Exit.then, Exit.inBlock, ↓reduceIte, Nat.reduceEqDiff])
    refine hK18 _ _ ?_
    refine wp_cond_false rfl ?_
    refine wp_exit ?_
    (try simp only [Exit.then, Exit.inBlock, ↓reduceIte, Nat.reduceEqDiff])
    refine hK5 _ _ ?_
    refine wp_seq_k (fun K39 hK39 => ?_)
    refine wp_region_lit ?_
    refine wpList_plain rfl (fun Ko hKo => ?_)
    go_simp
    refine hKo _ _ ?_
    clear hKo Ko
    try simp only [Act.put, nm1, nm2, nm3, i64_w]
    refine wpList_nil ?_
    (try simp only [Exit.then, Exit.inBlock, ↓reduceIte, Nat.reduceEqDiff])
    refine hK39 _ _ ?_
    refine wp_ret ?_
    (try simp only [Exit.then, Exit.inBlock, ↓reduceIte, Nat.reduceEqDiff])
    refine hQf _ _ _ ?_
    exact bodyPost_ret (v := .bool true) (by first | rfl | (simp [results, Try.results27, go_sem]; done) | (simp [results, Try.results27, go_sem]; rfl)) rfl ⟨rfl, hu9.out⟩
 ·
  rw [if_neg c4] at H
  replace c4 := Bool.eq_false_iff.mpr c4
  have c4n : ((a0.length : Int) != (a1.length : Int)) = true := by rw [bne, c4]; rfl
  have c4p : ¬ (a0.length : Int) = (a1.length : Int) := fun e => by simp [e] at c4
  obtain rfl := Option.some.inj H
  go_enter Try.func27, Try.ntmps27
  refine wp_hide (fun Qf hQf => ?_)
  refine wp_seq_k (fun K1 hK1 => ?_)
  refine wp_region_lit ?_
  refine wpList_plain rfl (fun Ko hKo => ?_)
  go_simp
  refine hKo _ _ ?_
  clear hKo Ko
  try simp only [Act.put, nm1, nm2, nm3, i64_w]
  refine wpList_nil ?_
  (try simp only [Exit.then, Exit.inBlock, ↓reduceIte, Nat.reduceEqDiff])
  refine hK1 _ _ ?_
  refine wp_seq_k (fun K2 hK2 => ?_)
  refine wp_seq_k (fun K3 hK3 => ?_)
  refine wp_region_lit ?_
  refine wpList_plain rfl (fun Ko hKo => ?_)
  go_simp
  refine hKo _ _ ?_
  clear hKo Ko
  try simp only [Act.put, nm1, nm2, nm3, i64_w]
  refine wpList_plain rfl (fun Ko hKo => ?_)
  go_simp
  refine hKo _ _ ?_
  clear hKo Ko
  try simp only [Act.put, nm1, nm2, nm3, i64_w]
  refine wpList_plain rfl (fun Ko hKo => ?_)
  go_simp
  refine hKo _ _ ?_
  clear hKo Ko
  try simp only [Act.put, nm1, nm2, nm3, i64_w]
  refine wpList_plain rfl (fun Ko hKo => ?_)
  go_simp
  refine hKo _ _ ?_
  clear hKo Ko
  try simp only [Act.put, nm1, nm2, nm3, i64_w]
  refine wpList_plain rfl (fun Ko hKo => ?_)
  go_simp
  refine hKo _ _ ?_
  clear hKo Ko
  try simp only [Act.put, nm1, nm2, nm3, i64_w]
  refine wpList_nil ?_
  (try simp only [Exit.then, Exit.inBlock, ↓reduceIte, Nat.reduceEqDiff])
  refine hK3 _ _ ?_
  refine wp_cond_true rfl ?_
  refine wp_seq_k (fun K40 hK40 => ?_)
  refine wp_region_lit ?_
  refine wpList_plain rfl (fun Ko hKo => ?_)
  go_simp
  refine hKo _ _ ?_
  clear hKo Ko
  try simp only [Act.put, nm1, nm2, nm3, i64_w]
  refine wpList_nil ?_
  (try simp only [Exit.then, Exit.inBlock, ↓reduceIte, Nat.reduceEqDiff])
  refine hK40 _ _ ?_
  refine wp_ret ?_
  (try simp only [Exit.then, Exit.inBlock, ↓reduceIte, Nat.reduceEqDiff])
  refine hQf _ _ _ ?_
  exact bodyPost_ret (v := .bool false) (by first | rfl | (simp [results, Try.results27, go_sem]; done) | (simp [results, Try.results27, go_sem]; rfl)) rfl ⟨rfl, (Up.refl _)⟩

set_option maxHeartbeats 4000000 in
set_option maxRecDepth 100000 in
theorem laws_markInt64S.calls (K : Nat) (a0_A : Option Addr) (a0_c : Nat) (a0_B : Nat) (a0 : List (Int)) (a1 : Int) (r0 : Int) (r1 : List (Int)) (w : World) (ha0 : Own eI 2 w a0_B (.slice a0_A a0.length a0_c) a0) (h : laws_markInt64S.f K a0 a1 = some (r0, r1)) :
    Calls Try.prog 28 #[.slice a0_A a0.length a0_c, .int .i64 a1] w fun e w' => e = .returned (.int .i64 r0) ∧ Own eI 2 w' a0_B (.slice a0_A r1.length a0_c) r1 ∧ Aside0 (a0.length = r1.length) ∧ Grow (.slice a0_A a0.length a0_c) w w' := by
 have H : ((laws_markInt64S.l0 K a0 K a1 0 a0) : Option (Int × List (Int))) = some (r0, r1) := h
 clear h
 go_enter Try.func28, Try.ntmps28
 refine wp_hide (fun Qf hQf => ?_)
 refine wp_seq_k (fun K1 hK1 => ?_)
 refine wp_region_lit ?_
 refine wpList_plain rfl (fun Ko hKo => ?_)
 go_simp
 refine hKo _ _ ?_
 clear hKo Ko
 try simp only [Act.put, nm1, nm2, nm3, i64_w]
 refine wpList_nil ?_
 (try simp only [Exit.then, Exit.inBlock, ↓reduceIte, Nat.reduceEqDiff])
 refine hK1 _ _ ?_
 refine wp_seq_k (fun K2 hK2 => ?_)
 refine wp_seq_k (fun K3 hK3 => ?_)
 refine wp_region_lit ?_
 refine wpList_plain rfl (fun Ko hKo => ?_)
 go_simp
 refine hKo _ _ ?_
 clear hKo Ko
 try simp only [Act.put, nm1, nm2, nm3, i64_w]
 refine wpList_nil ?_
 (try simp only [Exit.then, Exit.inBlock, ↓reduceIte, Nat.reduceEqDiff])
 refine hK3 _ _ ?_
 refine wp_block ?_
 have HL10 := Aside0.mk H
 clear H
 go_loopg [1, 5] K (fun kq v1 v5 w' => ∃ (x4 : Int) (x5 : Int) (x6 : List (Int)), v1 = .int .i64 x4 ∧ v5 = .int .i64 x5 ∧ Aside0 (laws_markInt64S.l0 K a0 kq x4 x5 x6 = some (r0, r1)) ∧ Aside0 (kq ≤ K) ∧ Aside0 (Grow (.slice a0_A a0.length a0_c) w w') ∧ Aside0 (w.heap.size ≤ w'.heap.size) ∧ Own eI 2 w' a0_B (.slice a0_A x6.length a0_c) x6 ∧ Aside0 (a0.length = x6.length))
 case atStart => exact ⟨a1, 0, a0, (by first | rfl | simp), (by first | rfl | simp), HL10, ⟨Nat.le_refl _⟩, ⟨(Grow.refl (.slice a0_A a0.length a0_c) _)⟩, ⟨Nat.le_refl _⟩, ha0, ⟨rfl⟩⟩
 case round =>
  rename_i J16 K17 hJ16 hK17
  obtain ⟨x4, x5, x6, rfl, rfl, HL15, hk14, hu8, hz9, h11, hl12⟩ := hrel
  obtain ⟨w7, rfl⟩ : ∃ wo : World, wo = wr := ⟨_, rfl⟩
  obtain ⟨k13, rfl⟩ | rfl : (∃ k, gk = k + 1) ∨ gk = 0 := by rcases gk with _ | k; exact .inr rfl; exact .inl ⟨k, rfl⟩
  case inr => exact absurd HL15.out (by simp [laws_markInt64S.l0])
  have H := HL15.out
  clear HL15
  rw [laws_markInt64S.l0] at H
  by_cases c20 : (decide (x5 < (a0.length : Int))) = true
  ·
   rw [if_pos c20] at H
   replace H := Option.bind_eq_some_iff.mp H
   obtain ⟨t23, A24, H⟩ := H
   replace A24 := Aside0.mk A24
   try dsimp only at H
   have HL34 := Aside0.mk H
   clear H
   refine wp_seq_k (fun K18 hK18 => ?_)
   refine wp_seq_k (fun K19 hK19 => ?_)
   refine wp_region_lit ?_
   refine wpList_plain rfl (fun Ko hKo => ?_)
   go_simp
   refine hKo _ _ ?_
   clear hKo Ko
   try simp only [Act.put, nm1, nm2, nm3, i64_w]
   refine wpList_plain rfl (fun Ko hKo => ?_)
   go_simp
   refine hKo _ _ ?_
   clear hKo Ko
   try simp only [Act.put, nm1, nm2, nm3, i64_w]
   refine wpList_plain rfl (fun Ko hKo => ?_)
   go_simp
   refine hKo _ _ ?_
   clear hKo Ko
   try simp only [Act.put, nm1, nm2, nm3, i64_w]
   refine wpList_plain rfl (fun Ko hKo => ?_)
   go_simp
   refine hKo _ _ ?_
   clear hKo Ko
   try simp only [Act.put, nm1, nm2, nm3, i64_w]
   refine wpList_nil ?_
   (try simp only [Exit.then, Exit.inBlock, ↓reduceIte, Nat.reduceEqDiff])
   refine hK19 _ _ ?_
   refine wp_cond_true rfl ?_
   refine wp_skip ?_
   (try simp only [Exit.then, Exit.inBlock, ↓reduceIte, Nat.reduceEqDiff])
   refine hK18 _ _ ?_
   refine wp_seq_k (fun K21 hK21 => ?_)
   refine wp_block ?_
   refine wp_seq_k (fun K22 hK22 => ?_)
   refine wp_region_lit ?_
   refine wpList_plain rfl (fun Ko hKo => ?_)
   go_simp
   refine hKo _ _ ?_
   clear hKo Ko
   try simp only [Act.put, nm1, nm2, nm3, i64_w]
   refine wpList_plain rfl (fun Ko hKo => ?_)
   go_simp
   refine hKo _ _ ?_
   clear hKo Ko
   try simp only [Act.put, nm1, nm2, nm3, i64_w]
   refine wpList_plain rfl (fun Ko hKo => ?_)
   go_simp
   refine hKo _ _ ?_
   clear hKo Ko
   try simp only [Act.put, nm1, nm2, nm3, i64_w]
   refine step_index eI (T := 2) (wanted_none rfl) rfl (by kernel_rfl) (by kernel_rfl) rfl hl12.out rfl h11.rd A24.out ?_
   intro ad25 hat he
   have he26 := Aside0.mk he
   have hat27 := Aside0.mk hat
   clear he hat
   simp only [Act.put, nm1, nm2, nm3, i64_w]
   have hO0 := Aside0.mk h11
   have lb32 := Aside0.mk hO0.out.lt
   refine step_put eI (T := 2) (u := .int .i64 x4) (old := t23) (new := x4) 0 rfl rfl rfl hat27.out (addr_add0 _).symm rfl rfl (by kernel_rfl) (by simp [Value.cells, Value.oneCell']) (Nat.le_of_ble_eq_true rfl) rfl hO0.out A24.out ?_
   intro w28 h30 hg
   have hg31 := Aside0.mk hg
   clear hO0 hg
   try simp only [Act.put, nm1, nm2, nm3, i64_w]
   have hl33 : Aside0 (a0.length = (x6.set (x5).toNat x4).length) := Aside0.mk (hl12.out.trans (List.length_set ..).symm)
   refine wpList_nil ?_
   (try simp only [Exit.then, Exit.inBlock, ↓reduceIte, Nat.reduceEqDiff])
   refine hK22 _ _ ?_
   refine wp_region_lit ?_
   refine wpList_plain rfl (fun Ko hKo => ?_)
   go_simp
   refine hKo _ _ ?_
   clear hKo Ko
   try simp only [Act.put, nm1, nm2, nm3, i64_w]
   refine wpList_plain rfl (fun Ko hKo => ?_)
   go_simp
   refine hKo _ _ ?_
   clear hKo Ko
   try simp only [Act.put, nm1, nm2, nm3, i64_w]
   refine wpList_plain rfl (fun Ko hKo => ?_)
   go_simp
   refine hKo _ _ ?_
   clear hKo Ko
   try simp only [Act.put, nm1, nm2, nm3, i64_w]
   refine wpList_nil ?_
   (try simp only [Exit.then, Exit.inBlock, ↓reduceIte, Nat.reduceEqDiff])
   refine hK21 _ _ ?_
   refine wp_region_lit ?_
   refine wpList_plain rfl (fun Ko hKo => ?_)
   go_simp
   refine hKo _ _ ?_
   clear hKo Ko
   try simp only [Act.put, nm1, nm2, nm3, i64_w]
   refine wpList_plain rfl (fun Ko hKo => ?_)
   go_simp
   refine hKo _ _ ?_
   clear hKo Ko
   try simp only [Act.put, nm1, nm2, nm3, i64_w]
   refine wpList_plain rfl (fun Ko hKo => ?_)
   go_simp
   refine hKo _ _ ?_
   clear hKo Ko
   try simp only [Act.put, nm1, nm2, nm3, i64_w]
   refine wpList_nil ?_
   (try simp only [Exit.then, Exit.inBlock, ↓reduceIte, Nat.reduceEqDiff])
   refine hK17 _ _ ?_
   go_roundg k13
   case measure => exact Nat.lt_succ_self _
   case rel => exact ⟨wrap64 (x4 + 1), wrap64 (x5 + 1), (x6.set (x5).toNat x4), (by first | rfl | simp), (by first | rfl | simp), HL34, ⟨by have := hk14.out; omega⟩, ⟨(hu8.out.trans (Grow.same hg31.out))⟩, ⟨(Nat.le_trans ((Nat.le_trans (Nat.le_refl _) hz9.out)) hg31.out.size)⟩, h30, ⟨hl33.out⟩⟩
  ·
   rw [if_neg c20] at H
   replace c20 := Bool.eq_false_iff.mpr c20
   simp only [Option.some.injEq, Prod.mk.injEq] at H
   obtain ⟨rfl, rfl⟩ := H
   refine wp_seq_k (fun K18 hK18 => ?_)
   refine wp_seq_k (fun K19 hK19 => ?_)
   refine wp_region_lit ?_
   refine wpList_plain rfl (fun Ko hKo => ?_)
   go_simp
   refine hKo _ _ ?_
   clear hKo Ko
   try simp only [Act.put, nm1, nm2, nm3, i64_w]
   refine wpList_plain rfl (fun Ko hKo => ?_)
   go_simp
   refine hKo _ _ ?_
   clear hKo Ko
   try simp only [Act.put, nm1, nm2, nm3, i64_w]
   refine wpList_plain rfl (fun Ko hKo => ?_)
   go_simp
   refine hKo _ _ ?_
   clear hKo Ko
   try simp only [Act.put, nm1, nm2, nm3, i64_w]
   refine wpList_plain rfl (fun Ko hKo => ?_)
   go_simp
   refine hKo _ _ ?_
   clear hKo Ko
   try simp only [Act.put, nm1, nm2, nm3, i64_w]
   refine wpList_nil ?_
   (try simp only [Exit.then, Exit.inBlock, ↓reduceIte, Nat.reduceEqDiff])
   refine hK19 _ _ ?_
   refine wp_cond_false rfl ?_
   refine wp_exit ?_
   (try simp only [Exit.then, Exit.inBlock, ↓reduceIte, Nat.reduceEqDiff])
   refine hK2 _ _ ?_
   refine wp_seq_k (fun K35 hK35 => ?_)
   refine wp_region_lit ?_
   refine wpList_plain rfl (fun Ko hKo => ?_)
   go_simp
   refine hKo _ _ ?_
   clear hKo Ko
   try simp only [Act.put, nm1, nm2, nm3, i64_w]
   refine wpList_plain rfl (fun Ko hKo => ?_)
   go_simp
   refine hKo _ _ ?_
   clear hKo Ko
   try simp only [Act.put, nm1, nm2, nm3, i64_w]
   refine wpList_nil ?_
   (try simp only [Exit.then, Exit.inBlock, ↓reduceIte, Nat.reduceEqDiff])
   refine hK35 _ _ ?_
   refine wp_ret ?_
   (try simp only [Exit.then, Exit.inBlock, ↓reduceIte, Nat.reduceEqDiff])
   refine hQf _ _ _ ?_
   exact bodyPost_ret (v := .int .i64 x4) (by first | rfl | (simp [results, Try.results28, go_sem]; done) | (simp [results, Try.results28, go_sem]; rfl)) rfl ⟨rfl, h11, ⟨hl12.out⟩, hu8.out⟩

set_option maxHeartbeats 4000000 in
set_option maxRecDepth 100000 in
theorem laws_heldInt64S.calls (K : Nat) (a0_A : Option Addr) (a0_c : Nat) (a0 : List (Int)) (a1 : Int) (r0 : Int) (w : World) (ha0 : Rd eI w a0_A a0) (h : laws_heldInt64S.f K a0 a1 = some (r0)) :
    Calls Try.prog 29 #[.slice a0_A a0.length a0_c, .int .i64 a1] w fun e w' => e = .returned (.int .i64 r0) ∧ Up w w' := by
 have H : ((laws_heldInt64S.l0 K a0 K a1 0) : Option (Int)) = some (r0) := h
 clear h
 go_enter Try.func29, Try.ntmps29
 refine wp_hide (fun Qf hQf => ?_)
 refine wp_seq_k (fun K1 hK1 => ?_)
 refine wp_region_lit ?_
 refine wpList_plain rfl (fun Ko hKo => ?_)
 go_simp
 refine hKo _ _ ?_
 clear hKo Ko
 try simp only [Act.put, nm1, nm2, nm3, i64_w]
 refine wpList_nil ?_
 (try simp only [Exit.then, Exit.inBlock, ↓reduceIte, Nat.reduceEqDiff])
 refine hK1 _ _ ?_
 refine wp_seq_k (fun K2 hK2 => ?_)
 refine wp_seq_k (fun K3 hK3 => ?_)
 refine wp_region_lit ?_
 refine wpList_plain rfl (fun Ko hKo => ?_)
 go_simp
 refine hKo _ _ ?_
 clear hKo Ko
 try simp only [Act.put, nm1, nm2, nm3, i64_w]
 refine wpList_nil ?_
 (try simp only [Exit.then, Exit.inBlock, ↓reduceIte, Nat.reduceEqDiff])
 refine hK3 _ _ ?_
 refine wp_block ?_
 have HL9 := Aside0.mk H
 clear H
 go_loopg [1, 5] K (fun kq v1 v5 w' => ∃ (x4 : Int) (x5 : Int), v1 = .int .i64 x4 ∧ v5 = .int .i64 x5 ∧ Aside0 (laws_heldInt64S.l0 K a0 kq x4 x5 = some (r0)) ∧ Aside0 (kq ≤ K) ∧ Aside0 (Up w w') ∧ Aside0 (w.heap.size ≤ w'.heap.size))
 case atStart => exact ⟨a1, 0, (by first | rfl | simp), (by first | rfl | simp), HL9, ⟨Nat.le_refl _⟩, ⟨(Up.refl _)⟩, ⟨Nat.le_refl _⟩⟩
 case round =>
  rename_i J13 K14 hJ13 hK14
  obtain ⟨x4, x5, rfl, rfl, HL12, hk11, hu7, hz8⟩ := hrel
  obtain ⟨w6, rfl⟩ : ∃ wo : World, wo = wr := ⟨_, rfl⟩
  obtain ⟨k10, rfl⟩ | rfl : (∃ k, gk = k + 1) ∨ gk = 0 := by rcases gk with _ | k; exact .inr rfl; exact .inl ⟨k, rfl⟩
  case inr => exact absurd HL12.out (by simp [laws_heldInt64S.l0])
  have H := HL12.out
  clear HL12
  rw [laws_heldInt64S.l0] at H
  by_cases c17 : (decide (x5 < (a0.length : Int))) = true
  ·
   rw [if_pos c17] at H
   replace H := Option.bind_eq_some_iff.mp H
   obtain ⟨t21, A22, H⟩ := H
   replace A22 := Aside0.mk A22
   try dsimp only at H
   by_cases c26 : (t21 == x4) = true
   ·
    rw [if_pos c26] at H
    have c26n : (t21 != x4) = false := by rw [bne, c26]; rfl
    have HL27 := Aside0.mk H
    clear H
    refine wp_seq_k (fun K15 hK15 => ?_)
    refine wp_seq_k (fun K16 hK16 => ?_)
    refine wp_region_lit ?_
    refine wpList_plain rfl (fun Ko hKo => ?_)
    go_simp
    refine hKo _ _ ?_
    clear hKo Ko
    try simp only [Act.put, nm1, nm2, nm3, i64_w]
    refine wpList_plain rfl (fun Ko hKo => ?_)
    go_simp
    refine hKo _ _ ?_
    clear hKo Ko
    try simp only [Act.put, nm1, nm2, nm3, i64_w]
    refine wpList_plain rfl (fun Ko hKo => ?_)
    go_simp
    refine hKo _ _ ?_
    clear hKo Ko
    try simp only [Act.put, nm1, nm2, nm3, i64_w]
    refine wpList_plain rfl (fun Ko hKo => ?_)
    go_simp
    refine hKo _ _ ?_
    clear hKo Ko
    try simp only [Act.put, nm1, nm2, nm3, i64_w]
    refine wpList_nil ?_
    (try simp only [Exit.then, Exit.inBlock, ↓reduceIte, Nat.reduceEqDiff])
    refine hK16 _ _ ?_
    refine wp_cond_true rfl ?_
    refine wp_skip ?_
    (try simp only [Exit.then, Exit.inBlock, ↓reduceIte, Nat.reduceEqDiff])
    refine hK15 _ _ ?_
    refine wp_seq_k (fun K18 hK18 => ?_)
    refine wp_block ?_
    refine wp_seq_k (fun K19 hK19 => ?_)
    refine wp_seq_k (fun K20 hK20 => ?_)
    refine wp_region_lit ?_
    refine wpList_plain rfl (fun Ko hKo => ?_)
    go_simp
    refine hKo _ _ ?_
    clear hKo Ko
    try simp only [Act.put, nm1, nm2, nm3, i64_w]
    refine wpList_plain rfl (fun Ko hKo => ?_)
    go_simp
    refine hKo _ _ ?_
    clear hKo Ko
    try simp only [Act.put, nm1, nm2, nm3, i64_w]
    refine step_index eI (T := 2) (wanted_none rfl) rfl (by kernel_rfl) (by kernel_rfl) rfl rfl rfl (ha0.up hu7.out) A22.out ?_
    intro ad23 hat he
    have he24 := Aside0.mk he
    have hat25 := Aside0.mk hat
    clear he hat
    simp only [Act.put, nm1, nm2, nm3, i64_w]
    have cl0 := he24.out 0 _ rfl
    rw [addr_add0] at cl0
    refine wpList_plain rfl (fun Ko hKo => ?_)
    go_simp
    refine hKo _ _ ?_
    clear hKo Ko
    clear cl0
    try simp only [Act.put, nm1, nm2, nm3, i64_w]
    refine wpList_plain rfl (fun Ko hKo => ?_)
    go_simp
    refine hKo _ _ ?_
    clear hKo Ko
    try simp only [Act.put, nm1, nm2, nm3, i64_w]
    refine wpList_plain rfl (fun Ko hKo => ?_)
    go_simp
    refine hKo _ _ ?_
    clear hKo Ko
    try simp only [Act.put, nm1, nm2, nm3, i64_w]
    refine wpList_nil ?_
    (try simp only [Exit.then, Exit.inBlock, ↓reduceIte, Nat.reduceEqDiff])
    refine hK20 _ _ ?_
    refine wp_cond_false rfl ?_
    refine wp_skip ?_
    (try simp only [Exit.then, Exit.inBlock, ↓reduceIte, Nat.reduceEqDiff])
    refine hK19 _ _ ?_
    refine wp_region_lit ?_
    refine wpList_plain rfl (fun Ko hKo => ?_)
    go_simp
    refine hKo _ _ ?_
    clear hKo Ko
    try simp only [Act.put, nm1, nm2, nm3, i64_w]
    refine wpList_plain rfl (fun Ko hKo => ?_)
    go_simp
    refine hKo _ _ ?_
    clear hKo Ko
    try simp only [Act.put, nm1, nm2, nm3, i64_w]
    refine wpList_plain rfl (fun Ko hKo => ?_)
    go_simp
    refine hKo _ _ ?_
    clear hKo Ko
    try simp only [Act.put, nm1, nm2, nm3, i64_w]
    refine wpList_nil ?_
    (try simp only [Exit.then, Exit.inBlock, ↓reduceIte, Nat.reduceEqDiff])
    refine hK18 _ _ ?_
    refine wp_region_lit ?_
    refine wpList_plain rfl (fun Ko hKo => ?_)
    go_simp
    refine hKo _ _ ?_
    clear hKo Ko
    try simp only [Act.put, nm1, nm2, nm3, i64_w]
    refine wpList_plain rfl (fun Ko hKo => ?_)
    go_simp
    refine hKo _ _ ?_
    clear hKo Ko
    try simp only [Act.put, nm1, nm2, nm3, i64_w]
    refine wpList_plain rfl (fun Ko hKo => ?_)
    go_simp
    refine hKo _ _ ?_
    clear hKo Ko
    try simp only [Act.put, nm1, nm2, nm3, i64_w]
    refine wpList_nil ?_
    (try simp only [Exit.then, Exit.inBlock, ↓reduceIte, Nat.reduceEqDiff])
    refine hK14 _ _ ?_
    go_roundg k10
    case measure => exact Nat.lt_succ_self _
    case rel => exact ⟨wrap64 (x4 + 1), wrap64 (x5 + 1), (by first | rfl | simp), (by first | rfl | simp), HL27, ⟨by have := hk11.out; omega⟩, ⟨hu7.out⟩, ⟨(Nat.le_trans (Nat.le_refl _) hz8.out)⟩⟩
   ·
    rw [if_neg c26] at H
    replace c26 := Bool.eq_false_iff.mpr c26
    have c26n : (t21 != x4) = true := by rw [bne, c26]; rfl
    have c26p : ¬ t21 = x4 := fun e => by simp [e] at c26
    obtain rfl := Option.some.inj H
    refine wp_seq_k (fun K15 hK15 => ?_)
    refine wp_seq_k (fun K16 hK16 => ?_)
    refine wp_region_lit ?_
    refine wpList_plain rfl (fun Ko hKo => ?_)
    go_simp
    refine hKo _ _ ?_
    clear hKo Ko
    try simp only [Act.put, nm1, nm2, nm3, i64_w]
    refine wpList_plain rfl (fun Ko hKo => ?_)
    go_simp
    refine hKo _ _ ?_
    clear hKo Ko
    try simp only [Act.put, nm1, nm2, nm3, i64_w]
    refine wpList_plain rfl (fun Ko hKo => ?_)
    go_simp
    refine hKo _ _ ?_
    clear hKo Ko
    try simp only [Act.put, nm1, nm2, nm3, i64_w]
    refine wpList_plain rfl (fun Ko hKo => ?_)
    go_simp
    refine hKo _ _ ?_
    clear hKo Ko
    try simp only [Act.put, nm1, nm2, nm3, i64_w]
    refine wpList_nil ?_
    (try simp only [Exit.then, Exit.inBlock, ↓reduceIte, Nat.reduceEqDiff])
    refine hK16 _ _ ?_
    refine wp_cond_true rfl ?_
    refine wp_skip ?_
    (try simp only [Exit.then, Exit.inBlock, ↓reduceIte, Nat.reduceEqDiff])
    refine hK15 _ _ ?_
    refine wp_seq_k (fun K18 hK18 => ?_)
    refine wp_block ?_
    refine wp_seq_k (fun K19 hK19 => ?_)
    refine wp_seq_k (fun K20 hK20 => ?_)
    refine wp_region_lit ?_
    refine wpList_plain rfl (fun Ko hKo => ?_)
    go_simp
    refine hKo _ _ ?_
    clear hKo Ko
    try simp only [Act.put, nm1, nm2, nm3, i64_w]
    refine wpList_plain rfl (fun Ko hKo => ?_)
    go_simp
    refine hKo _ _ ?_
    clear hKo Ko
    try simp only [Act.put, nm1, nm2, nm3, i64_w]
    refine step_index eI (T := 2) (wanted_none rfl) rfl (by kernel_rfl) (by kernel_rfl) rfl rfl rfl (ha0.up hu7.out) A22.out ?_
    intro ad23 hat he
    have he24 := Aside0.mk he
    have hat25 := Aside0.mk hat
    clear he hat
    simp only [Act.put, nm1, nm2, nm3, i64_w]
    have cl0 := he24.out 0 _ rfl
    rw [addr_add0] at cl0
    refine wpList_plain rfl (fun Ko hKo => ?_)
    go_simp
    refine hKo _ _ ?_
    clear hKo Ko
    clear cl0
    try simp only [Act.put, nm1, nm2, nm3, i64_w]
    refine wpList_plain rfl (fun Ko hKo => ?_)
    go_simp
    refine hKo _ _ ?_
    clear hKo Ko
    try simp only [Act.put, nm1, nm2, nm3, i64_w]
    refine wpList_plain rfl (fun Ko hKo => ?_)
    go_simp
    refine hKo _ _ ?_
    clear hKo Ko
    try simp only [Act.put, nm1, nm2, nm3, i64_w]
    refine wpList_nil ?_
    (try simp only [Exit.then, Exit.inBlock, ↓reduceIte, Nat.reduceEqDiff])
    refine hK20 _ _ ?_
    refine wp_cond_true rfl ?_
    refine wp_seq_k (fun K28 hK28 => ?_)
    refine wp_region_lit ?_
    refine wpList_plain rfl (fun Ko hKo => ?_)
    go_simp
    refine hKo _ _ ?_
    clear hKo Ko
    try simp only [Act.put, nm1, nm2, nm3, i64_w]
    refine wpList_nil ?_
    (try simp only [Exit.then, Exit.inBlock, ↓reduceIte, Nat.reduceEqDiff])
    refine hK28 _ _ ?_
    refine wp_ret ?_
    (try simp only [Exit.then, Exit.inBlock, ↓reduceIte, Nat.reduceEqDiff])
    refine hQf _ _ _ ?_
    exact bodyPost_ret (v := .int .i64 (-1)) (by first | rfl | (simp [results, Try.results29, go_sem]; done) | (simp [results, Try.results29, go_sem]; rfl)) rfl ⟨rfl, hu7.out⟩
  ·
   rw [if_neg c17] at H
   replace c17 := Bool.eq_false_iff.mpr c17
   obtain rfl := Option.some.inj H
   refine wp_seq_k (fun K15 hK15 => ?_)
   refine wp_seq_k (fun K16 hK16 => ?_)
   refine wp_region_lit ?_
   refine wpList_plain rfl (fun Ko hKo => ?_)
   go_simp
   refine hKo _ _ ?_
   clear hKo Ko
   try simp only [Act.put, nm1, nm2, nm3, i64_w]
   refine wpList_plain rfl (fun Ko hKo => ?_)
   go_simp
   refine hKo _ _ ?_
   clear hKo Ko
   try simp only [Act.put, nm1, nm2, nm3, i64_w]
   refine wpList_plain rfl (fun Ko hKo => ?_)
   go_simp
   refine hKo _ _ ?_
   clear hKo Ko
   try simp only [Act.put, nm1, nm2, nm3, i64_w]
   refine wpList_plain rfl (fun Ko hKo => ?_)
   go_simp
   refine hKo _ _ ?_
   clear hKo Ko
   try simp only [Act.put, nm1, nm2, nm3, i64_w]
   refine wpList_nil ?_
   (try simp only [Exit.then, Exit.inBlock, ↓reduceIte, Nat.reduceEqDiff])
   refine hK16 _ _ ?_
   refine wp_cond_false rfl ?_
   refine wp_exit ?_
   (try simp only [Exit.then, Exit.inBlock, ↓reduceIte, Nat.reduceEqDiff])
   refine hK2 _ _ ?_
   refine wp_seq_k (fun K29 hK29 => ?_)
   refine wp_region_lit ?_
   refine wpList_plain rfl (fun Ko hKo => ?_)
   go_simp
   refine hKo _ _ ?_
   clear hKo Ko
   try simp only [Act.put, nm1, nm2, nm3, i64_w]
   refine wpList_plain rfl (fun Ko hKo => ?_)
   go_simp
   refine hKo _ _ ?_
   clear hKo Ko
   try simp only [Act.put, nm1, nm2, nm3, i64_w]
   refine wpList_nil ?_
   (try simp only [Exit.then, Exit.inBlock, ↓reduceIte, Nat.reduceEqDiff])
   refine hK29 _ _ ?_
   refine wp_ret ?_
   (try simp only [Exit.then, Exit.inBlock, ↓reduceIte, Nat.reduceEqDiff])
   refine hQf _ _ _ ?_
   exact bodyPost_ret (v := .int .i64 x4) (by first | rfl | (simp [results, Try.results29, go_sem]; done) | (simp [results, Try.results29, go_sem]; rfl)) rfl ⟨rfl, hu7.out⟩

end Go.Proofs.Ythmfgkdhaookoaa
