/- The walks: each of these functions of the program computes what its plain function says: impl_makeLine, impl_through, impl_lineThrough, impl_MedianOf, laws_eqLine, laws_FnExactMedianOf. -/
import Derived.Test.YtohpnbfgemngmaaProg
import Derived.Test.YtohpnbfgemngmaaD1
import Derived.WalkKit
import Derived.KernelRfl
import Derived.BigQuiet
import Derived.Deep.LoopGhost
import Derived.Test.YtohpnbfgemngmaaWMedian2
namespace Go.Proofs.Ytohpnbfgemngmaa
open Go Go.RowKit
attribute [local go_sem] Oper.quiet Oper.quietAt Oper.quietUpon
set_option linter.unusedVariables false
set_option linter.unusedSimpArgs false

set_option maxHeartbeats 4000000 in
set_option maxRecDepth 100000 in
theorem impl_makeLine.calls (K : Nat) (a0 : Int) (a1 : Int) (a2 : Int) (a3 : Int) (r0 : Int) (r1 : Int) (r2 : Int) (w : World)  (h : impl_makeLine.f K a0 a1 a2 a3 = some (r0, r1, r2)) :
    Calls Try.prog 99 #[.int .i64 a0, .int .i64 a1, .int .i64 a2, .int .i64 a3] w fun e w' => e = .returned (.agg #[.int .i64 r0, .int .i64 r1, .int .i64 r2]) ∧ Up w w' := by
  have H : (((impl_rest.f K a0 a1).bind fun t6 => ((impl_rest.f K a0 a2).bind fun t10 => ((impl_rest.f K a0 a3).bind fun t14 => (if (t6 == 0) = true then ((impl_divide.f K a0 t6 t10).bind fun t23 => ((impl_divide.f K a0 t10 t10).bind fun t27 => ((impl_divide.f K a0 t14 t10).bind fun t31 => some (t23, t27, t31)))) else ((impl_divide.f K a0 t6 t6).bind fun t39 => ((impl_divide.f K a0 t10 t6).bind fun t43 => ((impl_divide.f K a0 t14 t6).bind fun t47 => some (t39, t43, t47)))))))) : Option (Int × Int × Int)) = some (r0, r1, r2) := h
  clear h
  replace H := Option.bind_eq_some_iff.mp H
  obtain ⟨t6, A7, H⟩ := H
  replace A7 := Aside0.mk A7
  try dsimp only at H
  replace H := Option.bind_eq_some_iff.mp H
  obtain ⟨t10, A11, H⟩ := H
  replace A11 := Aside0.mk A11
  try dsimp only at H
  replace H := Option.bind_eq_some_iff.mp H
  obtain ⟨t14, A15, H⟩ := H
  replace A15 := Aside0.mk A15
  try dsimp only at H
  by_cases c21 : (t6 == 0) = true
  · rw [if_pos c21] at H
    have c21n : (t6 != 0) = false := by rw [bne, c21]; rfl
    replace H := Option.bind_eq_some_iff.mp H
    obtain ⟨t23, A24, H⟩ := H
    replace A24 := Aside0.mk A24
    try dsimp only at H
    replace H := Option.bind_eq_some_iff.mp H
    obtain ⟨t27, A28, H⟩ := H
    replace A28 := Aside0.mk A28
    try dsimp only at H
    replace H := Option.bind_eq_some_iff.mp H
    obtain ⟨t31, A32, H⟩ := H
    replace A32 := Aside0.mk A32
    try dsimp only at H
    simp only [Option.some.injEq, Prod.mk.injEq] at H
    obtain ⟨rfl, rfl, rfl⟩ := H
    go_enter Try.func99, Try.ntmps99
    refine wp_hide (fun Qf hQf => ?_)
    refine wp_seq_k (fun K1 hK1 => ?_)
    refine wp_region_lit ?_
    refine step_new (cs := [.int .i64 0, .int .i64 0, .int .i64 0]) (T := 39) (f := fun b => .pointer (some ⟨b, 0, none⟩)) rfl (by first | (go_simp; done) | (go_simp; rfl)) ?_
    intro b2 w3 hu lb hb2
    simp only [Act.put, List.setIfInBounds_toArray, List.set_cons_zero, List.set_cons_succ, i64_w]
    have lbb2 := Aside0.mk lb
    have ltb2 := Aside0.mk hb2.lt
    clear lb
    have hu4 := Aside0.mk hu
    clear hu
    refine wpList_nil ?_
    (try simp only [Exit.then, Exit.inBlock, ↓reduceIte, Nat.reduceEqDiff])
    refine hK1 _ _ ?_
    refine wp_seq_k (fun K5 hK5 => ?_)
    refine wp_region_lit ?_
    refine wpList_plain rfl (fun Ko hKo => ?_)
    go_simp
    refine hKo _ _ ?_
    clear hKo Ko
    try simp only [Act.put, List.setIfInBounds_toArray, List.set_cons_zero, List.set_cons_succ, i64_w]
    refine wpList_plain rfl (fun Ko hKo => ?_)
    go_simp
    refine hKo _ _ ?_
    clear hKo Ko
    try simp only [Act.put, List.setIfInBounds_toArray, List.set_cons_zero, List.set_cons_succ, i64_w]
    refine step_call (wanted_none rfl) (by first | (go_simp; done) | (go_simp; rfl)) (impl_rest.calls K a0 a1 t6 w3  A7.out) ?_
    rintro e w8 ⟨rfl, hu⟩
    have hu9 := Aside0.mk hu
    clear hu
    refine ⟨_, rfl, ?_⟩
    simp only [Act.put, List.setIfInBounds_toArray, List.set_cons_zero, List.set_cons_succ, i64_w]
    refine wpList_plain rfl (fun Ko hKo => ?_)
    go_simp
    refine hKo _ _ ?_
    clear hKo Ko
    try simp only [Act.put, List.setIfInBounds_toArray, List.set_cons_zero, List.set_cons_succ, i64_w]
    refine wpList_plain rfl (fun Ko hKo => ?_)
    go_simp
    refine hKo _ _ ?_
    clear hKo Ko
    try simp only [Act.put, List.setIfInBounds_toArray, List.set_cons_zero, List.set_cons_succ, i64_w]
    refine step_call (wanted_none rfl) (by first | (go_simp; done) | (go_simp; rfl)) (impl_rest.calls K a0 a2 t10 w8  A11.out) ?_
    rintro e w12 ⟨rfl, hu⟩
    have hu13 := Aside0.mk hu
    clear hu
    refine ⟨_, rfl, ?_⟩
    simp only [Act.put, List.setIfInBounds_toArray, List.set_cons_zero, List.set_cons_succ, i64_w]
    refine wpList_plain rfl (fun Ko hKo => ?_)
    go_simp
    refine hKo _ _ ?_
    clear hKo Ko
    try simp only [Act.put, List.setIfInBounds_toArray, List.set_cons_zero, List.set_cons_succ, i64_w]
    refine wpList_plain rfl (fun Ko hKo => ?_)
    go_simp
    refine hKo _ _ ?_
    clear hKo Ko
    try simp only [Act.put, List.setIfInBounds_toArray, List.set_cons_zero, List.set_cons_succ, i64_w]
    refine step_call (wanted_none rfl) (by first | (go_simp; done) | (go_simp; rfl)) (impl_rest.calls K a0 a3 t14 w12  A15.out) ?_
    rintro e w16 ⟨rfl, hu⟩
    have hu17 := Aside0.mk hu
    clear hu
    refine ⟨_, rfl, ?_⟩
    simp only [Act.put, List.setIfInBounds_toArray, List.set_cons_zero, List.set_cons_succ, i64_w]
    refine wpList_plain rfl (fun Ko hKo => ?_)
    go_simp
    refine hKo _ _ ?_
    clear hKo Ko
    try simp only [Act.put, List.setIfInBounds_toArray, List.set_cons_zero, List.set_cons_succ, i64_w]
    refine wpList_plain rfl (fun Ko hKo => ?_)
    go_simp
    refine hKo _ _ ?_
    clear hKo Ko
    try simp only [Act.put, List.setIfInBounds_toArray, List.set_cons_zero, List.set_cons_succ, i64_w]
    refine wpList_plain rfl (fun Ko hKo => ?_)
    go_simp
    refine hKo _ _ ?_
    clear hKo Ko
    try simp only [Act.put, List.setIfInBounds_toArray, List.set_cons_zero, List.set_cons_succ, i64_w]
    refine wpList_nil ?_
    (try simp only [Exit.then, Exit.inBlock, ↓reduceIte, Nat.reduceEqDiff])
    refine hK5 _ _ ?_
    refine wp_seq_k (fun K18 hK18 => ?_)
    refine wp_region_lit ?_
    refine wpList_plain rfl (fun Ko hKo => ?_)
    go_simp
    refine hKo _ _ ?_
    clear hKo Ko
    try simp only [Act.put, List.setIfInBounds_toArray, List.set_cons_zero, List.set_cons_succ, i64_w]
    refine wpList_plain rfl (fun Ko hKo => ?_)
    go_simp
    refine hKo _ _ ?_
    clear hKo Ko
    try simp only [Act.put, List.setIfInBounds_toArray, List.set_cons_zero, List.set_cons_succ, i64_w]
    refine wpList_nil ?_
    (try simp only [Exit.then, Exit.inBlock, ↓reduceIte, Nat.reduceEqDiff])
    refine hK18 _ _ ?_
    refine wp_seq_k (fun K19 hK19 => ?_)
    refine wp_seq_k (fun K20 hK20 => ?_)
    refine wp_region_lit ?_
    refine wpList_plain rfl (fun Ko hKo => ?_)
    go_simp
    refine hKo _ _ ?_
    clear hKo Ko
    try simp only [Act.put, List.setIfInBounds_toArray, List.set_cons_zero, List.set_cons_succ, i64_w]
    refine wpList_plain rfl (fun Ko hKo => ?_)
    go_simp
    refine hKo _ _ ?_
    clear hKo Ko
    try simp only [Act.put, List.setIfInBounds_toArray, List.set_cons_zero, List.set_cons_succ, i64_w]
    refine wpList_nil ?_
    (try simp only [Exit.then, Exit.inBlock, ↓reduceIte, Nat.reduceEqDiff])
    refine hK20 _ _ ?_
    refine wp_cond_true rfl ?_
    refine wp_region_lit ?_
    refine wpList_plain rfl (fun Ko hKo => ?_)
    go_simp
    refine hKo _ _ ?_
    clear hKo Ko
    try simp only [Act.put, List.setIfInBounds_toArray, List.set_cons_zero, List.set_cons_succ, i64_w]
    refine wpList_plain rfl (fun Ko hKo => ?_)
    go_simp
    refine hKo _ _ ?_
    clear hKo Ko
    try simp only [Act.put, List.setIfInBounds_toArray, List.set_cons_zero, List.set_cons_succ, i64_w]
    refine wpList_nil ?_
    (try simp only [Exit.then, Exit.inBlock, ↓reduceIte, Nat.reduceEqDiff])
    refine hK19 _ _ ?_
    refine wp_seq_k (fun K22 hK22 => ?_)
    refine wp_region_lit ?_
    refine wpList_plain rfl (fun Ko hKo => ?_)
    go_simp
    refine hKo _ _ ?_
    clear hKo Ko
    try simp only [Act.put, List.setIfInBounds_toArray, List.set_cons_zero, List.set_cons_succ, i64_w]
    refine wpList_plain rfl (fun Ko hKo => ?_)
    go_simp
    refine hKo _ _ ?_
    clear hKo Ko
    try simp only [Act.put, List.setIfInBounds_toArray, List.set_cons_zero, List.set_cons_succ, i64_w]
    refine wpList_plain rfl (fun Ko hKo => ?_)
    go_simp
    refine hKo _ _ ?_
    clear hKo Ko
    try simp only [Act.put, List.setIfInBounds_toArray, List.set_cons_zero, List.set_cons_succ, i64_w]
    refine step_call (wanted_none rfl) (by first | (go_simp; done) | (go_simp; rfl)) (impl_divide.calls K a0 t6 t10 t23 w16  A24.out) ?_
    rintro e w25 ⟨rfl, hu⟩
    have hu26 := Aside0.mk hu
    clear hu
    refine ⟨_, rfl, ?_⟩
    simp only [Act.put, List.setIfInBounds_toArray, List.set_cons_zero, List.set_cons_succ, i64_w]
    refine wpList_plain rfl (fun Ko hKo => ?_)
    go_simp
    refine hKo _ _ ?_
    clear hKo Ko
    try simp only [Act.put, List.setIfInBounds_toArray, List.set_cons_zero, List.set_cons_succ, i64_w]
    refine wpList_plain rfl (fun Ko hKo => ?_)
    go_simp
    refine hKo _ _ ?_
    clear hKo Ko
    try simp only [Act.put, List.setIfInBounds_toArray, List.set_cons_zero, List.set_cons_succ, i64_w]
    refine wpList_plain rfl (fun Ko hKo => ?_)
    go_simp
    refine hKo _ _ ?_
    clear hKo Ko
    try simp only [Act.put, List.setIfInBounds_toArray, List.set_cons_zero, List.set_cons_succ, i64_w]
    refine step_call (wanted_none rfl) (by first | (go_simp; done) | (go_simp; rfl)) (impl_divide.calls K a0 t10 t10 t27 w25  A28.out) ?_
    rintro e w29 ⟨rfl, hu⟩
    have hu30 := Aside0.mk hu
    clear hu
    refine ⟨_, rfl, ?_⟩
    simp only [Act.put, List.setIfInBounds_toArray, List.set_cons_zero, List.set_cons_succ, i64_w]
    refine wpList_plain rfl (fun Ko hKo => ?_)
    go_simp
    refine hKo _ _ ?_
    clear hKo Ko
    try simp only [Act.put, List.setIfInBounds_toArray, List.set_cons_zero, List.set_cons_succ, i64_w]
    refine wpList_plain rfl (fun Ko hKo => ?_)
    go_simp
    refine hKo _ _ ?_
    clear hKo Ko
    try simp only [Act.put, List.setIfInBounds_toArray, List.set_cons_zero, List.set_cons_succ, i64_w]
    refine wpList_plain rfl (fun Ko hKo => ?_)
    go_simp
    refine hKo _ _ ?_
    clear hKo Ko
    try simp only [Act.put, List.setIfInBounds_toArray, List.set_cons_zero, List.set_cons_succ, i64_w]
    refine step_call (wanted_none rfl) (by first | (go_simp; done) | (go_simp; rfl)) (impl_divide.calls K a0 t14 t10 t31 w29  A32.out) ?_
    rintro e w33 ⟨rfl, hu⟩
    have hu34 := Aside0.mk hu
    clear hu
    refine ⟨_, rfl, ?_⟩
    simp only [Act.put, List.setIfInBounds_toArray, List.set_cons_zero, List.set_cons_succ, i64_w]
    refine wpList_plain rfl (fun Ko hKo => ?_)
    go_simp
    refine hKo _ _ ?_
    clear hKo Ko
    try simp only [Act.put, List.setIfInBounds_toArray, List.set_cons_zero, List.set_cons_succ, i64_w]
    have hB0 := (hb2.up (((((hu9.out.trans hu13.out).trans hu17.out).trans hu26.out).trans hu30.out).trans hu34.out))
    have cl0 := hB0.cell (o := 0) rfl
    have fr0 := hB0.free 0
    have cl1 := hB0.cell (o := 1) rfl
    have fr1 := hB0.free 1
    have cl2 := hB0.cell (o := 2) rfl
    have fr2 := hB0.free 2
    refine step_store (b := b2) (cs' := [.int .i64 t23, .int .i64 t27, .int .i64 t31]) (T := 39) (W' := (((w33.setCell ⟨b2, 0, none⟩ (.int .i64 t23)).setCell ⟨b2, 1, none⟩ (.int .i64 t27)).setCell ⟨b2, 2, none⟩ (.int .i64 t31))) rfl rfl (by first | (go_simp; done) | (go_simp; rfl)) ((((Sto.refl _ _).setCell 0 _).setCell 1 _).setCell 2 _) ((((hB0).setCell 0 _).setCell 1 _).setCell 2 _) ?_
    clear hB0 cl0 fr0 cl1 fr1 cl2 fr2
    intro w35 hs hb37
    have hs36 := Aside0.mk hs
    clear hs
    refine wpList_nil ?_
    (try simp only [Exit.then, Exit.inBlock, ↓reduceIte, Nat.reduceEqDiff])
    refine hK22 _ _ ?_
    refine wp_ret ?_
    (try simp only [Exit.then, Exit.inBlock, ↓reduceIte, Nat.reduceEqDiff])
    refine hQf _ _ _ ?_
    have cr0 := hb37.cell (o := 0) rfl
    have cr1 := hb37.cell (o := 1) rfl
    have cr2 := hb37.cell (o := 2) rfl
    exact bodyPost_ret (v := .agg #[.int .i64 t23, .int .i64 t27, .int .i64 t31]) (by first | rfl | (simp [results, Try.results99, go_sem, cr0, cr1, cr2]; done) | (simp [results, Try.results99, go_sem, cr0, cr1, cr2]; rfl)) rfl ⟨rfl, (((((((hu4.out.trans hu9.out).trans hu13.out).trans hu17.out).trans hu26.out).trans hu30.out).trans hu34.out).sto (Nat.le_trans (Nat.le_refl _) lbb2.out) hs36.out)⟩
  · rw [if_neg c21] at H
    replace c21 := Bool.eq_false_iff.mpr c21
    have c21n : (t6 != 0) = true := by rw [bne, c21]; rfl
    have c21p : ¬ t6 = 0 := fun e => by simp [e] at c21
    replace H := Option.bind_eq_some_iff.mp H
    obtain ⟨t39, A40, H⟩ := H
    replace A40 := Aside0.mk A40
    try dsimp only at H
    replace H := Option.bind_eq_some_iff.mp H
    obtain ⟨t43, A44, H⟩ := H
    replace A44 := Aside0.mk A44
    try dsimp only at H
    replace H := Option.bind_eq_some_iff.mp H
    obtain ⟨t47, A48, H⟩ := H
    replace A48 := Aside0.mk A48
    try dsimp only at H
    simp only [Option.some.injEq, Prod.mk.injEq] at H
    obtain ⟨rfl, rfl, rfl⟩ := H
    go_enter Try.func99, Try.ntmps99
    refine wp_hide (fun Qf hQf => ?_)
    refine wp_seq_k (fun K1 hK1 => ?_)
    refine wp_region_lit ?_
    refine step_new (cs := [.int .i64 0, .int .i64 0, .int .i64 0]) (T := 39) (f := fun b => .pointer (some ⟨b, 0, none⟩)) rfl (by first | (go_simp; done) | (go_simp; rfl)) ?_
    intro b2 w3 hu lb hb2
    simp only [Act.put, List.setIfInBounds_toArray, List.set_cons_zero, List.set_cons_succ, i64_w]
    have lbb2 := Aside0.mk lb
    have ltb2 := Aside0.mk hb2.lt
    clear lb
    have hu4 := Aside0.mk hu
    clear hu
    refine wpList_nil ?_
    (try simp only [Exit.then, Exit.inBlock, ↓reduceIte, Nat.reduceEqDiff])
    refine hK1 _ _ ?_
    refine wp_seq_k (fun K5 hK5 => ?_)
    refine wp_region_lit ?_
    refine wpList_plain rfl (fun Ko hKo => ?_)
    go_simp
    refine hKo _ _ ?_
    clear hKo Ko
    try simp only [Act.put, List.setIfInBounds_toArray, List.set_cons_zero, List.set_cons_succ, i64_w]
    refine wpList_plain rfl (fun Ko hKo => ?_)
    go_simp
    refine hKo _ _ ?_
    clear hKo Ko
    try simp only [Act.put, List.setIfInBounds_toArray, List.set_cons_zero, List.set_cons_succ, i64_w]
    refine step_call (wanted_none rfl) (by first | (go_simp; done) | (go_simp; rfl)) (impl_rest.calls K a0 a1 t6 w3  A7.out) ?_
    rintro e w8 ⟨rfl, hu⟩
    have hu9 := Aside0.mk hu
    clear hu
    refine ⟨_, rfl, ?_⟩
    simp only [Act.put, List.setIfInBounds_toArray, List.set_cons_zero, List.set_cons_succ, i64_w]
    refine wpList_plain rfl (fun Ko hKo => ?_)
    go_simp
    refine hKo _ _ ?_
    clear hKo Ko
    try simp only [Act.put, List.setIfInBounds_toArray, List.set_cons_zero, List.set_cons_succ, i64_w]
    refine wpList_plain rfl (fun Ko hKo => ?_)
    go_simp
    refine hKo _ _ ?_
    clear hKo Ko
    try simp only [Act.put, List.setIfInBounds_toArray, List.set_cons_zero, List.set_cons_succ, i64_w]
    refine step_call (wanted_none rfl) (by first | (go_simp; done) | (go_simp; rfl)) (impl_rest.calls K a0 a2 t10 w8  A11.out) ?_
    rintro e w12 ⟨rfl, hu⟩
    have hu13 := Aside0.mk hu
    clear hu
    refine ⟨_, rfl, ?_⟩
    simp only [Act.put, List.setIfInBounds_toArray, List.set_cons_zero, List.set_cons_succ, i64_w]
    refine wpList_plain rfl (fun Ko hKo => ?_)
    go_simp
    refine hKo _ _ ?_
    clear hKo Ko
    try simp only [Act.put, List.setIfInBounds_toArray, List.set_cons_zero, List.set_cons_succ, i64_w]
    refine wpList_plain rfl (fun Ko hKo => ?_)
    go_simp
    refine hKo _ _ ?_
    clear hKo Ko
    try simp only [Act.put, List.setIfInBounds_toArray, List.set_cons_zero, List.set_cons_succ, i64_w]
    refine step_call (wanted_none rfl) (by first | (go_simp; done) | (go_simp; rfl)) (impl_rest.calls K a0 a3 t14 w12  A15.out) ?_
    rintro e w16 ⟨rfl, hu⟩
    have hu17 := Aside0.mk hu
    clear hu
    refine ⟨_, rfl, ?_⟩
    simp only [Act.put, List.setIfInBounds_toArray, List.set_cons_zero, List.set_cons_succ, i64_w]
    refine wpList_plain rfl (fun Ko hKo => ?_)
    go_simp
    refine hKo _ _ ?_
    clear hKo Ko
    try simp only [Act.put, List.setIfInBounds_toArray, List.set_cons_zero, List.set_cons_succ, i64_w]
    refine wpList_plain rfl (fun Ko hKo => ?_)
    go_simp
    refine hKo _ _ ?_
    clear hKo Ko
    try simp only [Act.put, List.setIfInBounds_toArray, List.set_cons_zero, List.set_cons_succ, i64_w]
    refine wpList_plain rfl (fun Ko hKo => ?_)
    go_simp
    refine hKo _ _ ?_
    clear hKo Ko
    try simp only [Act.put, List.setIfInBounds_toArray, List.set_cons_zero, List.set_cons_succ, i64_w]
    refine wpList_nil ?_
    (try simp only [Exit.then, Exit.inBlock, ↓reduceIte, Nat.reduceEqDiff])
    refine hK5 _ _ ?_
    refine wp_seq_k (fun K18 hK18 => ?_)
    refine wp_region_lit ?_
    refine wpList_plain rfl (fun Ko hKo => ?_)
    go_simp
    refine hKo _ _ ?_
    clear hKo Ko
    try simp only [Act.put, List.setIfInBounds_toArray, List.set_cons_zero, List.set_cons_succ, i64_w]
    refine wpList_plain rfl (fun Ko hKo => ?_)
    go_simp
    refine hKo _ _ ?_
    clear hKo Ko
    try simp only [Act.put, List.setIfInBounds_toArray, List.set_cons_zero, List.set_cons_succ, i64_w]
    refine wpList_nil ?_
    (try simp only [Exit.then, Exit.inBlock, ↓reduceIte, Nat.reduceEqDiff])
    refine hK18 _ _ ?_
    refine wp_seq_k (fun K19 hK19 => ?_)
    refine wp_seq_k (fun K20 hK20 => ?_)
    refine wp_region_lit ?_
    refine wpList_plain rfl (fun Ko hKo => ?_)
    go_simp
    refine hKo _ _ ?_
    clear hKo Ko
    try simp only [Act.put, List.setIfInBounds_toArray, List.set_cons_zero, List.set_cons_succ, i64_w]
    refine wpList_plain rfl (fun Ko hKo => ?_)
    go_simp
    refine hKo _ _ ?_
    clear hKo Ko
    try simp only [Act.put, List.setIfInBounds_toArray, List.set_cons_zero, List.set_cons_succ, i64_w]
    refine wpList_nil ?_
    (try simp only [Exit.then, Exit.inBlock, ↓reduceIte, Nat.reduceEqDiff])
    refine hK20 _ _ ?_
    refine wp_cond_false rfl ?_
    refine wp_skip ?_
    (try simp only [Exit.then, Exit.inBlock, ↓reduceIte, Nat.reduceEqDiff])
    refine hK19 _ _ ?_
    refine wp_seq_k (fun K38 hK38 => ?_)
    refine wp_region_lit ?_
    refine wpList_plain rfl (fun Ko hKo => ?_)
    go_simp
    refine hKo _ _ ?_
    clear hKo Ko
    try simp only [Act.put, List.setIfInBounds_toArray, List.set_cons_zero, List.set_cons_succ, i64_w]
    refine wpList_plain rfl (fun Ko hKo => ?_)
    go_simp
    refine hKo _ _ ?_
    clear hKo Ko
    try simp only [Act.put, List.setIfInBounds_toArray, List.set_cons_zero, List.set_cons_succ, i64_w]
    refine wpList_plain rfl (fun Ko hKo => ?_)
    go_simp
    refine hKo _ _ ?_
    clear hKo Ko
    try simp only [Act.put, List.setIfInBounds_toArray, List.set_cons_zero, List.set_cons_succ, i64_w]
    refine step_call (wanted_none rfl) (by first | (go_simp; done) | (go_simp; rfl)) (impl_divide.calls K a0 t6 t6 t39 w16  A40.out) ?_
    rintro e w41 ⟨rfl, hu⟩
    have hu42 := Aside0.mk hu
    clear hu
    refine ⟨_, rfl, ?_⟩
    simp only [Act.put, List.setIfInBounds_toArray, List.set_cons_zero, List.set_cons_succ, i64_w]
    refine wpList_plain rfl (fun Ko hKo => ?_)
    go_simp
    refine hKo _ _ ?_
    clear hKo Ko
    try simp only [Act.put, List.setIfInBounds_toArray, List.set_cons_zero, List.set_cons_succ, i64_w]
    refine wpList_plain rfl (fun Ko hKo => ?_)
    go_simp
    refine hKo _ _ ?_
    clear hKo Ko
    try simp only [Act.put, List.setIfInBounds_toArray, List.set_cons_zero, List.set_cons_succ, i64_w]
    refine wpList_plain rfl (fun Ko hKo => ?_)
    go_simp
    refine hKo _ _ ?_
    clear hKo Ko
    try simp only [Act.put, List.setIfInBounds_toArray, List.set_cons_zero, List.set_cons_succ, i64_w]
    refine step_call (wanted_none rfl) (by first | (go_simp; done) | (go_simp; rfl)) (impl_divide.calls K a0 t10 t6 t43 w41  A44.out) ?_
    rintro e w45 ⟨rfl, hu⟩
    have hu46 := Aside0.mk hu
    clear hu
    refine ⟨_, rfl, ?_⟩
    simp only [Act.put, List.setIfInBounds_toArray, List.set_cons_zero, List.set_cons_succ, i64_w]
    refine wpList_plain rfl (fun Ko hKo => ?_)
    go_simp
    refine hKo _ _ ?_
    clear hKo Ko
    try simp only [Act.put, List.setIfInBounds_toArray, List.set_cons_zero, List.set_cons_succ, i64_w]
    refine wpList_plain rfl (fun Ko hKo => ?_)
    go_simp
    refine hKo _ _ ?_
    clear hKo Ko
    try simp only [Act.put, List.setIfInBounds_toArray, List.set_cons_zero, List.set_cons_succ, i64_w]
    refine wpList_plain rfl (fun Ko hKo => ?_)
    go_simp
    refine hKo _ _ ?_
    clear hKo Ko
    try simp only [Act.put, List.setIfInBounds_toArray, List.set_cons_zero, List.set_cons_succ, i64_w]
    refine step_call (wanted_none rfl) (by first | (go_simp; done) | (go_simp; rfl)) (impl_divide.calls K a0 t14 t6 t47 w45  A48.out) ?_
    rintro e w49 ⟨rfl, hu⟩
    have hu50 := Aside0.mk hu
    clear hu
    refine ⟨_, rfl, ?_⟩
    simp only [Act.put, List.setIfInBounds_toArray, List.set_cons_zero, List.set_cons_succ, i64_w]
    refine wpList_plain rfl (fun Ko hKo => ?_)
    go_simp
    refine hKo _ _ ?_
    clear hKo Ko
    try simp only [Act.put, List.setIfInBounds_toArray, List.set_cons_zero, List.set_cons_succ, i64_w]
    have hB0 := (hb2.up (((((hu9.out.trans hu13.out).trans hu17.out).trans hu42.out).trans hu46.out).trans hu50.out))
    have cl0 := hB0.cell (o := 0) rfl
    have fr0 := hB0.free 0
    have cl1 := hB0.cell (o := 1) rfl
    have fr1 := hB0.free 1
    have cl2 := hB0.cell (o := 2) rfl
    have fr2 := hB0.free 2
    refine step_store (b := b2) (cs' := [.int .i64 t39, .int .i64 t43, .int .i64 t47]) (T := 39) (W' := (((w49.setCell ⟨b2, 0, none⟩ (.int .i64 t39)).setCell ⟨b2, 1, none⟩ (.int .i64 t43)).setCell ⟨b2, 2, none⟩ (.int .i64 t47))) rfl rfl (by first | (go_simp; done) | (go_simp; rfl)) ((((Sto.refl _ _).setCell 0 _).setCell 1 _).setCell 2 _) ((((hB0).setCell 0 _).setCell 1 _).setCell 2 _) ?_
    clear hB0 cl0 fr0 cl1 fr1 cl2 fr2
    intro w51 hs hb53
    have hs52 := Aside0.mk hs
    clear hs
    refine wpList_nil ?_
    (try simp only [Exit.then, Exit.inBlock, ↓reduceIte, Nat.reduceEqDiff])
    refine hK38 _ _ ?_
    refine wp_ret ?_
    (try simp only [Exit.then, Exit.inBlock, ↓reduceIte, Nat.reduceEqDiff])
    refine hQf _ _ _ ?_
    have cr0 := hb53.cell (o := 0) rfl
    have cr1 := hb53.cell (o := 1) rfl
    have cr2 := hb53.cell (o := 2) rfl
    exact bodyPost_ret (v := .agg #[.int .i64 t39, .int .i64 t43, .int .i64 t47]) (by first | rfl | (simp [results, Try.results99, go_sem, cr0, cr1, cr2]; done) | (simp [results, Try.results99, go_sem, cr0, cr1, cr2]; rfl)) rfl ⟨rfl, (((((((hu4.out.trans hu9.out).trans hu13.out).trans hu17.out).trans hu42.out).trans hu46.out).trans hu50.out).sto (Nat.le_trans (Nat.le_refl _) lbb2.out) hs52.out)⟩

set_option maxHeartbeats 4000000 in
set_option maxRecDepth 100000 in
theorem impl_through.calls (K : Nat) (a0 : Int) (a1_0 : Int) (a1_1 : Int) (a2_0 : Int) (a2_1 : Int) (r0 : Int) (r1 : Int) (r2 : Int) (w : World)  (h : impl_through.f K a0 a1_0 a1_1 a2_0 a2_1 = some (r0, r1, r2)) :
    Calls Try.prog 84 #[.int .i64 a0, .agg #[.int .i64 a1_0, .int .i64 a1_1], .agg #[.int .i64 a2_0, .int .i64 a2_1]] w fun e w' => e = .returned (.agg #[.int .i64 r0, .int .i64 r1, .int .i64 r2]) ∧ Up w w' := by
  have H : (((impl_makeLine.f K a0 a2_1 (wrap64 (-a2_0)) (wrap64 (-(wrap64 ((wrap64 (a2_1 * a1_0)) + (wrap64 ((wrap64 (-a2_0)) * a1_1))))))).bind fun (t15, t16, t17) => some (t15, t16, t17)) : Option (Int × Int × Int)) = some (r0, r1, r2) := h
  clear h
  replace H := Option.bind_eq_some_iff.mp H
  obtain ⟨⟨t15, t16, t17⟩, A18, H⟩ := H
  replace A18 := Aside0.mk A18
  try dsimp only at H
  simp only [Option.some.injEq, Prod.mk.injEq] at H
  obtain ⟨rfl, rfl, rfl⟩ := H
  go_enter Try.func84, Try.ntmps84
  refine wp_hide (fun Qf hQf => ?_)
  refine wp_seq_k (fun K1 hK1 => ?_)
  refine wp_region_lit ?_
  refine step_new (cs := [.int .i64 a1_0, .int .i64 a1_1]) (T := 25) (f := fun b => .pointer (some ⟨b, 0, none⟩)) rfl (by first | (go_simp; done) | (go_simp; rfl)) ?_
  intro b2 w3 hu lb hb2
  simp only [Act.put, List.setIfInBounds_toArray, List.set_cons_zero, List.set_cons_succ, i64_w]
  have lbb2 := Aside0.mk lb
  have ltb2 := Aside0.mk hb2.lt
  clear lb
  have hu4 := Aside0.mk hu
  clear hu
  refine step_new (cs := [.int .i64 a2_0, .int .i64 a2_1]) (T := 25) (f := fun b => .pointer (some ⟨b, 0, none⟩)) rfl (by first | (go_simp; done) | (go_simp; rfl)) ?_
  intro b5 w6 hu lb hb5
  simp only [Act.put, List.setIfInBounds_toArray, List.set_cons_zero, List.set_cons_succ, i64_w]
  have lbb5 := Aside0.mk lb
  have ltb5 := Aside0.mk hb5.lt
  clear lb
  have hu7 := Aside0.mk hu
  clear hu
  refine step_new (cs := [.int .i64 0, .int .i64 0, .int .i64 0]) (T := 39) (f := fun b => .pointer (some ⟨b, 0, none⟩)) rfl (by first | (go_simp; done) | (go_simp; rfl)) ?_
  intro b8 w9 hu lb hb8
  simp only [Act.put, List.setIfInBounds_toArray, List.set_cons_zero, List.set_cons_succ, i64_w]
  have lbb8 := Aside0.mk lb
  have ltb8 := Aside0.mk hb8.lt
  clear lb
  have hu10 := Aside0.mk hu
  clear hu
  refine wpList_nil ?_
  (try simp only [Exit.then, Exit.inBlock, ↓reduceIte, Nat.reduceEqDiff])
  refine hK1 _ _ ?_
  refine wp_seq_k (fun K11 hK11 => ?_)
  refine' wp_region_up 7 [Slot.det _, Slot.det _, Slot.det _, Slot.det _, Slot.det _, Slot.det _, Slot.det _] (by kernel_rfl) (by kernel_rfl) ?main
  case main =>
    simp only [List.take_succ_cons, List.take_zero]
    refine wpK_ops rfl (fun w1 hu => ?_) ?_
    · clear hu
      go_simp
      first | done | rfl
    simp only [Act.put, List.setIfInBounds_toArray, List.set_cons_zero, List.set_cons_succ, i64_w]
    refine wpK_ops rfl (fun w1 hu => ?_) ?_
    · have cl0 := ((hb5.up hu10.out).up ((Up.refl _).drew.trans hu)).cell (o := 1) rfl
      go_simp
      first | done | rfl
    simp only [Act.put, List.setIfInBounds_toArray, List.set_cons_zero, List.set_cons_succ, i64_w]
    refine wpK_ops rfl (fun w1 hu => ?_) ?_
    · clear hu
      go_simp
      first | done | rfl
    simp only [Act.put, List.setIfInBounds_toArray, List.set_cons_zero, List.set_cons_succ, i64_w]
    refine wpK_ops rfl (fun w1 hu => ?_) ?_
    · have cl0 := ((hb5.up hu10.out).up ((Up.refl _).drew.trans hu)).cell (o := 0) rfl
      go_simp
      first | done | rfl
    simp only [Act.put, List.setIfInBounds_toArray, List.set_cons_zero, List.set_cons_succ, i64_w]
    refine wpK_ops rfl (fun w1 hu => ?_) ?_
    · clear hu
      go_simp
      first | done | rfl
    simp only [Act.put, List.setIfInBounds_toArray, List.set_cons_zero, List.set_cons_succ, i64_w]
    refine wpK_ops rfl (fun w1 hu => ?_) ?_
    · clear hu
      go_simp
      first | done | rfl
    simp only [Act.put, List.setIfInBounds_toArray, List.set_cons_zero, List.set_cons_succ, i64_w]
    refine wpK_ops rfl (fun w1 hu => ?_) ?_
    · clear hu
      go_simp
      first | done | rfl
    simp only [Act.put, List.setIfInBounds_toArray, List.set_cons_zero, List.set_cons_succ, i64_w]
    refine wpK_nil ?_
    intro w12 hu hap
    simp only [List.drop_succ_cons, List.drop_zero]
    replace hu := (Up.refl _).drew.trans hu
    clear hap
    have hu13 := Aside0.mk hu
    clear hu
    refine wpList_nil ?_
    (try simp only [Exit.then, Exit.inBlock, ↓reduceIte, Nat.reduceEqDiff])
    refine hK11 _ _ ?_
    refine wp_seq_k (fun K14 hK14 => ?_)
    refine wp_region_lit ?_
    refine wpList_plain rfl (fun Ko hKo => ?_)
    go_simp
    refine hKo _ _ ?_
    clear hKo Ko
    try simp only [Act.put, List.setIfInBounds_toArray, List.set_cons_zero, List.set_cons_succ, i64_w]
    refine wpList_plain rfl (fun Ko hKo => ?_)
    go_simp
    refine hKo _ _ ?_
    clear hKo Ko
    try simp only [Act.put, List.setIfInBounds_toArray, List.set_cons_zero, List.set_cons_succ, i64_w]
    refine wpList_plain rfl (fun Ko hKo => ?_)
    go_simp
    refine hKo _ _ ?_
    clear hKo Ko
    try simp only [Act.put, List.setIfInBounds_toArray, List.set_cons_zero, List.set_cons_succ, i64_w]
    refine wpList_plain rfl (fun Ko hKo => ?_)
    go_simp
    refine hKo _ _ ?_
    clear hKo Ko
    try simp only [Act.put, List.setIfInBounds_toArray, List.set_cons_zero, List.set_cons_succ, i64_w]
    refine wpList_plain rfl (fun Ko hKo => ?_)
    go_simp
    refine hKo _ _ ?_
    clear hKo Ko
    try simp only [Act.put, List.setIfInBounds_toArray, List.set_cons_zero, List.set_cons_succ, i64_w]
    have cl0 := (hb2.up ((hu7.out.trans hu10.out).trans hu13.out)).cell (o := 0) rfl
    refine wpList_plain rfl (fun Ko hKo => ?_)
    go_simp
    refine hKo _ _ ?_
    clear hKo Ko
    clear cl0
    try simp only [Act.put, List.setIfInBounds_toArray, List.set_cons_zero, List.set_cons_succ, i64_w]
    refine wpList_plain rfl (fun Ko hKo => ?_)
    go_simp
    refine hKo _ _ ?_
    clear hKo Ko
    try simp only [Act.put, List.setIfInBounds_toArray, List.set_cons_zero, List.set_cons_succ, i64_w]
    refine wpList_plain rfl (fun Ko hKo => ?_)
    go_simp
    refine hKo _ _ ?_
    clear hKo Ko
    try simp only [Act.put, List.setIfInBounds_toArray, List.set_cons_zero, List.set_cons_succ, i64_w]
    refine wpList_plain rfl (fun Ko hKo => ?_)
    go_simp
    refine hKo _ _ ?_
    clear hKo Ko
    try simp only [Act.put, List.setIfInBounds_toArray, List.set_cons_zero, List.set_cons_succ, i64_w]
    have cl0 := (hb2.up ((hu7.out.trans hu10.out).trans hu13.out)).cell (o := 1) rfl
    refine wpList_plain rfl (fun Ko hKo => ?_)
    go_simp
    refine hKo _ _ ?_
    clear hKo Ko
    clear cl0
    try simp only [Act.put, List.setIfInBounds_toArray, List.set_cons_zero, List.set_cons_succ, i64_w]
    refine wpList_plain rfl (fun Ko hKo => ?_)
    go_simp
    refine hKo _ _ ?_
    clear hKo Ko
    try simp only [Act.put, List.setIfInBounds_toArray, List.set_cons_zero, List.set_cons_succ, i64_w]
    refine wpList_plain rfl (fun Ko hKo => ?_)
    go_simp
    refine hKo _ _ ?_
    clear hKo Ko
    try simp only [Act.put, List.setIfInBounds_toArray, List.set_cons_zero, List.set_cons_succ, i64_w]
    refine wpList_plain rfl (fun Ko hKo => ?_)
    go_simp
    refine hKo _ _ ?_
    clear hKo Ko
    try simp only [Act.put, List.setIfInBounds_toArray, List.set_cons_zero, List.set_cons_succ, i64_w]
    refine step_call (wanted_none rfl) (by first | (go_simp; done) | (go_simp; rfl)) (impl_makeLine.calls K a0 a2_1 (wrap64 (-a2_0)) (wrap64 (-(wrap64 ((wrap64 (a2_1 * a1_0)) + (wrap64 ((wrap64 (-a2_0)) * a1_1)))))) t15 t16 t17 w12  A18.out) ?_
    rintro e w19 ⟨rfl, hu⟩
    have hu20 := Aside0.mk hu
    clear hu
    refine ⟨_, rfl, ?_⟩
    simp only [Act.put, List.setIfInBounds_toArray, List.set_cons_zero, List.set_cons_succ, i64_w]
    have hB0 := (hb8.up (hu13.out.trans hu20.out))
    have cl0 := hB0.cell (o := 0) rfl
    have fr0 := hB0.free 0
    have cl1 := hB0.cell (o := 1) rfl
    have fr1 := hB0.free 1
    have cl2 := hB0.cell (o := 2) rfl
    have fr2 := hB0.free 2
    refine step_store (b := b8) (cs' := [.int .i64 t15, .int .i64 t16, .int .i64 t17]) (T := 39) (W' := (((w19.setCell ⟨b8, 0, none⟩ (.int .i64 t15)).setCell ⟨b8, 1, none⟩ (.int .i64 t16)).setCell ⟨b8, 2, none⟩ (.int .i64 t17))) rfl rfl (by first | (go_simp; done) | (go_simp; rfl)) ((((Sto.refl _ _).setCell 0 _).setCell 1 _).setCell 2 _) ((((hB0).setCell 0 _).setCell 1 _).setCell 2 _) ?_
    clear hB0 cl0 fr0 cl1 fr1 cl2 fr2
    intro w21 hs hb23
    have hs22 := Aside0.mk hs
    clear hs
    refine wpList_nil ?_
    (try simp only [Exit.then, Exit.inBlock, ↓reduceIte, Nat.reduceEqDiff])
    refine hK14 _ _ ?_
    refine wp_ret ?_
    (try simp only [Exit.then, Exit.inBlock, ↓reduceIte, Nat.reduceEqDiff])
    refine hQf _ _ _ ?_
    have cr0 := hb23.cell (o := 0) rfl
    have cr1 := hb23.cell (o := 1) rfl
    have cr2 := hb23.cell (o := 2) rfl
    exact bodyPost_ret (v := .agg #[.int .i64 t15, .int .i64 t16, .int .i64 t17]) (by first | rfl | (simp [results, Try.results84, go_sem, cr0, cr1, cr2]; done) | (simp [results, Try.results84, go_sem, cr0, cr1, cr2]; rfl)) rfl ⟨rfl, (((((hu4.out.trans hu7.out).trans hu10.out).trans hu13.out).trans hu20.out).sto (Nat.le_trans ((Nat.le_trans (hu4.out.size) hu7.out.size)) lbb8.out) hs22.out)⟩

set_option maxHeartbeats 4000000 in
set_option maxRecDepth 100000 in
theorem impl_lineThrough.calls (K : Nat) (a0 : Int) (a1_0 : Int) (a1_1 : Int) (a2_0 : Int) (a2_1 : Int) (r0 : Int) (r1 : Int) (r2 : Int) (w : World)  (h : impl_lineThrough.f K a0 a1_0 a1_1 a2_0 a2_1 = some (r0, r1, r2)) :
    Calls Try.prog 60 #[.int .i64 a0, .agg #[.int .i64 a1_0, .int .i64 a1_1], .agg #[.int .i64 a2_0, .int .i64 a2_1]] w fun e w' => e = .returned (.agg #[.int .i64 r0, .int .i64 r1, .int .i64 r2]) ∧ Up w w' := by
  have H : (((impl_less.f K a0 a2_0 a2_1 a1_0 a1_1).bind fun (t12, t13) => ((impl_through.f K a0 a1_0 a1_1 t12 t13).bind fun (t15, t16, t17) => some (t15, t16, t17))) : Option (Int × Int × Int)) = some (r0, r1, r2) := h
  clear h
  replace H := Option.bind_eq_some_iff.mp H
  obtain ⟨⟨t12, t13⟩, A14, H⟩ := H
  replace A14 := Aside0.mk A14
  try dsimp only at H
  replace H := Option.bind_eq_some_iff.mp H
  obtain ⟨⟨t15, t16, t17⟩, A18, H⟩ := H
  replace A18 := Aside0.mk A18
  try dsimp only at H
  simp only [Option.some.injEq, Prod.mk.injEq] at H
  obtain ⟨rfl, rfl, rfl⟩ := H
  go_enter Try.func60, Try.ntmps60
  refine wp_hide (fun Qf hQf => ?_)
  refine wp_seq_k (fun K1 hK1 => ?_)
  refine wp_region_lit ?_
  refine step_new (cs := [.int .i64 a1_0, .int .i64 a1_1]) (T := 25) (f := fun b => .pointer (some ⟨b, 0, none⟩)) rfl (by first | (go_simp; done) | (go_simp; rfl)) ?_
  intro b2 w3 hu lb hb2
  simp only [Act.put, List.setIfInBounds_toArray, List.set_cons_zero, List.set_cons_succ, i64_w]
  have lbb2 := Aside0.mk lb
  have ltb2 := Aside0.mk hb2.lt
  clear lb
  have hu4 := Aside0.mk hu
  clear hu
  refine step_new (cs := [.int .i64 a2_0, .int .i64 a2_1]) (T := 25) (f := fun b => .pointer (some ⟨b, 0, none⟩)) rfl (by first | (go_simp; done) | (go_simp; rfl)) ?_
  intro b5 w6 hu lb hb5
  simp only [Act.put, List.setIfInBounds_toArray, List.set_cons_zero, List.set_cons_succ, i64_w]
  have lbb5 := Aside0.mk lb
  have ltb5 := Aside0.mk hb5.lt
  clear lb
  have hu7 := Aside0.mk hu
  clear hu
  refine step_new (cs := [.int .i64 0, .int .i64 0, .int .i64 0]) (T := 39) (f := fun b => .pointer (some ⟨b, 0, none⟩)) rfl (by first | (go_simp; done) | (go_simp; rfl)) ?_
  intro b8 w9 hu lb hb8
  simp only [Act.put, List.setIfInBounds_toArray, List.set_cons_zero, List.set_cons_succ, i64_w]
  have lbb8 := Aside0.mk lb
  have ltb8 := Aside0.mk hb8.lt
  clear lb
  have hu10 := Aside0.mk hu
  clear hu
  refine wpList_nil ?_
  (try simp only [Exit.then, Exit.inBlock, ↓reduceIte, Nat.reduceEqDiff])
  refine hK1 _ _ ?_
  refine wp_seq_k (fun K11 hK11 => ?_)
  refine' wp_region_up 7 [Slot.det _, Slot.det _, Slot.det _, Slot.det _, Slot.det _, Slot.det (.agg #[.int .i64 t12, .int .i64 t13]), Slot.det (.agg #[.int .i64 t15, .int .i64 t16, .int .i64 t17])] (by kernel_rfl) (by kernel_rfl) ?main
  case main =>
    simp only [List.take_succ_cons, List.take_zero]
    refine wpK_ops rfl (fun w1 hu => ?_) ?_
    · clear hu
      go_simp
      first | done | rfl
    simp only [Act.put, List.setIfInBounds_toArray, List.set_cons_zero, List.set_cons_succ, i64_w]
    refine wpK_ops rfl (fun w1 hu => ?_) ?_
    · have cl0 := ((hb2.up (hu7.out.trans hu10.out)).up ((Up.refl _).drew.trans hu)).cell (o := 0) rfl
      have cl1 := ((hb2.up (hu7.out.trans hu10.out)).up ((Up.refl _).drew.trans hu)).cell (o := 1) rfl
      go_simp
      first | done | rfl
    simp only [Act.put, List.setIfInBounds_toArray, List.set_cons_zero, List.set_cons_succ, i64_w]
    refine wpK_ops rfl (fun w1 hu => ?_) ?_
    · clear hu
      go_simp
      first | done | rfl
    simp only [Act.put, List.setIfInBounds_toArray, List.set_cons_zero, List.set_cons_succ, i64_w]
    refine wpK_ops rfl (fun w1 hu => ?_) ?_
    · have cl0 := ((hb5.up hu10.out).up ((Up.refl _).drew.trans hu)).cell (o := 0) rfl
      have cl1 := ((hb5.up hu10.out).up ((Up.refl _).drew.trans hu)).cell (o := 1) rfl
      go_simp
      first | done | rfl
    simp only [Act.put, List.setIfInBounds_toArray, List.set_cons_zero, List.set_cons_succ, i64_w]
    refine wpK_ops rfl (fun w1 hu => ?_) ?_
    · have cl0 := ((hb2.up (hu7.out.trans hu10.out)).up ((Up.refl _).drew.trans hu)).cell (o := 0) rfl
      have cl1 := ((hb2.up (hu7.out.trans hu10.out)).up ((Up.refl _).drew.trans hu)).cell (o := 1) rfl
      go_simp
      first | done | rfl
    simp only [Act.put, List.setIfInBounds_toArray, List.set_cons_zero, List.set_cons_succ, i64_w]
    refine wpK_ops rfl (fun w1 hu => ?_) ?_
    · have hcl := impl_less.calls K a0 a2_0 a2_1 a1_0 a1_1 t12 t13 w1  A14.out
      clear hu
      replace hcl := Aside0.mk hcl
      go_simp
      exact hcl.out
    simp only [Act.put, List.setIfInBounds_toArray, List.set_cons_zero, List.set_cons_succ, i64_w]
    refine wpK_ops rfl (fun w1 hu => ?_) ?_
    · have hcl := impl_through.calls K a0 a1_0 a1_1 t12 t13 t15 t16 t17 w1  A18.out
      clear hu
      replace hcl := Aside0.mk hcl
      go_simp
      exact hcl.out
    simp only [Act.put, List.setIfInBounds_toArray, List.set_cons_zero, List.set_cons_succ, i64_w]
    refine wpK_nil ?_
    intro w19 hu hap
    simp only [List.drop_succ_cons, List.drop_zero]
    replace hu := (Up.refl _).drew.trans hu
    clear hap
    have hu20 := Aside0.mk hu
    clear hu
    have hB0 := (hb8.up hu20.out)
    have cl0 := hB0.cell (o := 0) rfl
    have fr0 := hB0.free 0
    have cl1 := hB0.cell (o := 1) rfl
    have fr1 := hB0.free 1
    have cl2 := hB0.cell (o := 2) rfl
    have fr2 := hB0.free 2
    refine step_store (b := b8) (cs' := [.int .i64 t15, .int .i64 t16, .int .i64 t17]) (T := 39) (W' := (((w19.setCell ⟨b8, 0, none⟩ (.int .i64 t15)).setCell ⟨b8, 1, none⟩ (.int .i64 t16)).setCell ⟨b8, 2, none⟩ (.int .i64 t17))) rfl rfl (by first | (go_simp; done) | (go_simp; rfl)) ((((Sto.refl _ _).setCell 0 _).setCell 1 _).setCell 2 _) ((((hB0).setCell 0 _).setCell 1 _).setCell 2 _) ?_
    clear hB0 cl0 fr0 cl1 fr1 cl2 fr2
    intro w21 hs hb23
    have hs22 := Aside0.mk hs
    clear hs
    refine wpList_nil ?_
    (try simp only [Exit.then, Exit.inBlock, ↓reduceIte, Nat.reduceEqDiff])
    refine hK11 _ _ ?_
    refine wp_ret ?_
    (try simp only [Exit.then, Exit.inBlock, ↓reduceIte, Nat.reduceEqDiff])
    refine hQf _ _ _ ?_
    have cr0 := hb23.cell (o := 0) rfl
    have cr1 := hb23.cell (o := 1) rfl
    have cr2 := hb23.cell (o := 2) rfl
    exact bodyPost_ret (v := .agg #[.int .i64 t15, .int .i64 t16, .int .i64 t17]) (by first | rfl | (simp [results, Try.results60, go_sem, cr0, cr1, cr2]; done) | (simp [results, Try.results60, go_sem, cr0, cr1, cr2]; rfl)) rfl ⟨rfl, ((((hu4.out.trans hu7.out).trans hu10.out).trans hu20.out).sto (Nat.le_trans ((Nat.le_trans (hu4.out.size) hu7.out.size)) lbb8.out) hs22.out)⟩

set_option maxHeartbeats 4000000 in
set_option maxRecDepth 100000 in
theorem impl_MedianOf.calls (K : Nat) (a0 : Int) (a1_0 : Int) (a1_1 : Int) (a2_0 : Int) (a2_1 : Int) (a3_0 : Int) (a3_1 : Int) (r0 : Int) (r1 : Int) (r2 : Int) (r3 : Int) (w : World)  (h : impl_MedianOf.f K a0 a1_0 a1_1 a2_0 a2_1 a3_0 a3_1 = some (r0, r1, r2, r3)) :
    Calls Try.prog 25 #[.int .i64 a0, .agg #[.int .i64 a1_0, .int .i64 a1_1], .agg #[.int .i64 a2_0, .int .i64 a2_1], .agg #[.int .i64 a3_0, .int .i64 a3_1]] w fun e w' => e = .returned (.tuple #[.agg #[.int .i64 r0, .int .i64 r1, .int .i64 r2], .int .i64 r3]) ∧ Up w w' := by
  have H : (((impl_triangle.f K a0 0 a1_0 a1_1 a2_0 a2_1 a3_0 a3_1).bind fun t16 => (if (t16 == 0) = true then ((impl_midpoint.f K a0 a2_0 a2_1 a3_0 a3_1).bind fun (t23, t24) => ((impl_lineThrough.f K a0 a1_0 a1_1 t23 t24).bind fun (t26, t27, t28) => some (t26, t27, t28, 0))) else some (0, 0, 0, t16))) : Option (Int × Int × Int × Int)) = some (r0, r1, r2, r3) := h
  clear h
  replace H := Option.bind_eq_some_iff.mp H
  obtain ⟨t16, A17, H⟩ := H
  replace A17 := Aside0.mk A17
  try dsimp only at H
  by_cases c21 : (t16 == 0) = true
  · rw [if_pos c21] at H
    have c21n : (t16 != 0) = false := by rw [bne, c21]; rfl
    replace H := Option.bind_eq_some_iff.mp H
    obtain ⟨⟨t23, t24⟩, A25, H⟩ := H
    replace A25 := Aside0.mk A25
    try dsimp only at H
    replace H := Option.bind_eq_some_iff.mp H
    obtain ⟨⟨t26, t27, t28⟩, A29, H⟩ := H
    replace A29 := Aside0.mk A29
    try dsimp only at H
    simp only [Option.some.injEq, Prod.mk.injEq] at H
    obtain ⟨rfl, rfl, rfl, rfl⟩ := H
    go_enter Try.func25, Try.ntmps25
    refine wp_hide (fun Qf hQf => ?_)
    refine wp_seq_k (fun K1 hK1 => ?_)
    refine wp_region_lit ?_
    refine step_new (cs := [.int .i64 a1_0, .int .i64 a1_1]) (T := 25) (f := fun b => .pointer (some ⟨b, 0, none⟩)) rfl (by first | (go_simp; done) | (go_simp; rfl)) ?_
    intro b2 w3 hu lb hb2
    simp only [Act.put, List.setIfInBounds_toArray, List.set_cons_zero, List.set_cons_succ, i64_w]
    have lbb2 := Aside0.mk lb
    have ltb2 := Aside0.mk hb2.lt
    clear lb
    have hu4 := Aside0.mk hu
    clear hu
    refine step_new (cs := [.int .i64 a2_0, .int .i64 a2_1]) (T := 25) (f := fun b => .pointer (some ⟨b, 0, none⟩)) rfl (by first | (go_simp; done) | (go_simp; rfl)) ?_
    intro b5 w6 hu lb hb5
    simp only [Act.put, List.setIfInBounds_toArray, List.set_cons_zero, List.set_cons_succ, i64_w]
    have lbb5 := Aside0.mk lb
    have ltb5 := Aside0.mk hb5.lt
    clear lb
    have hu7 := Aside0.mk hu
    clear hu
    refine step_new (cs := [.int .i64 a3_0, .int .i64 a3_1]) (T := 25) (f := fun b => .pointer (some ⟨b, 0, none⟩)) rfl (by first | (go_simp; done) | (go_simp; rfl)) ?_
    intro b8 w9 hu lb hb8
    simp only [Act.put, List.setIfInBounds_toArray, List.set_cons_zero, List.set_cons_succ, i64_w]
    have lbb8 := Aside0.mk lb
    have ltb8 := Aside0.mk hb8.lt
    clear lb
    have hu10 := Aside0.mk hu
    clear hu
    refine step_new (cs := [.int .i64 0, .int .i64 0, .int .i64 0]) (T := 39) (f := fun b => .pointer (some ⟨b, 0, none⟩)) rfl (by first | (go_simp; done) | (go_simp; rfl)) ?_
    intro b11 w12 hu lb hb11
    simp only [Act.put, List.setIfInBounds_toArray, List.set_cons_zero, List.set_cons_succ, i64_w]
    have lbb11 := Aside0.mk lb
    have ltb11 := Aside0.mk hb11.lt
    clear lb
    have hu13 := Aside0.mk hu
    clear hu
    refine wpList_plain rfl (fun Ko hKo => ?_)
    go_simp
    refine hKo _ _ ?_
    clear hKo Ko
    try simp only [Act.put, List.setIfInBounds_toArray, List.set_cons_zero, List.set_cons_succ, i64_w]
    refine wpList_nil ?_
    (try simp only [Exit.then, Exit.inBlock, ↓reduceIte, Nat.reduceEqDiff])
    refine hK1 _ _ ?_
    refine wp_seq_k (fun K14 hK14 => ?_)
    refine wp_seq_k (fun K15 hK15 => ?_)
    refine wp_region_lit ?_
    refine wpList_plain rfl (fun Ko hKo => ?_)
    go_simp
    refine hKo _ _ ?_
    clear hKo Ko
    try simp only [Act.put, List.setIfInBounds_toArray, List.set_cons_zero, List.set_cons_succ, i64_w]
    have cl0 := (hb2.up ((hu7.out.trans hu10.out).trans hu13.out)).cell (o := 0) rfl
    have cl1 := (hb2.up ((hu7.out.trans hu10.out).trans hu13.out)).cell (o := 1) rfl
    refine wpList_plain rfl (fun Ko hKo => ?_)
    go_simp
    refine hKo _ _ ?_
    clear hKo Ko
    clear cl0 cl1
    try simp only [Act.put, List.setIfInBounds_toArray, List.set_cons_zero, List.set_cons_succ, i64_w]
    have cl0 := (hb5.up (hu10.out.trans hu13.out)).cell (o := 0) rfl
    have cl1 := (hb5.up (hu10.out.trans hu13.out)).cell (o := 1) rfl
    refine wpList_plain rfl (fun Ko hKo => ?_)
    go_simp
    refine hKo _ _ ?_
    clear hKo Ko
    clear cl0 cl1
    try simp only [Act.put, List.setIfInBounds_toArray, List.set_cons_zero, List.set_cons_succ, i64_w]
    have cl0 := (hb8.up hu13.out).cell (o := 0) rfl
    have cl1 := (hb8.up hu13.out).cell (o := 1) rfl
    refine wpList_plain rfl (fun Ko hKo => ?_)
    go_simp
    refine hKo _ _ ?_
    clear hKo Ko
    clear cl0 cl1
    try simp only [Act.put, List.setIfInBounds_toArray, List.set_cons_zero, List.set_cons_succ, i64_w]
    refine step_call (wanted_none rfl) (by first | (go_simp; done) | (go_simp; rfl)) (impl_triangle.calls K a0 0 a1_0 a1_1 a2_0 a2_1 a3_0 a3_1 t16 w12  A17.out) ?_
    rintro e w18 ⟨rfl, hu⟩
    have hu19 := Aside0.mk hu
    clear hu
    refine ⟨_, rfl, ?_⟩
    simp only [Act.put, List.setIfInBounds_toArray, List.set_cons_zero, List.set_cons_succ, i64_w]
    refine wpList_plain rfl (fun Ko hKo => ?_)
    go_simp
    refine hKo _ _ ?_
    clear hKo Ko
    try simp only [Act.put, List.setIfInBounds_toArray, List.set_cons_zero, List.set_cons_succ, i64_w]
    refine wpList_nil ?_
    (try simp only [Exit.then, Exit.inBlock, ↓reduceIte, Nat.reduceEqDiff])
    refine hK15 _ _ ?_
    refine wp_seq_k (fun K20 hK20 => ?_)
    refine wp_region_lit ?_
    refine wpList_plain rfl (fun Ko hKo => ?_)
    go_simp
    refine hKo _ _ ?_
    clear hKo Ko
    try simp only [Act.put, List.setIfInBounds_toArray, List.set_cons_zero, List.set_cons_succ, i64_w]
    refine wpList_plain rfl (fun Ko hKo => ?_)
    go_simp
    refine hKo _ _ ?_
    clear hKo Ko
    try simp only [Act.put, List.setIfInBounds_toArray, List.set_cons_zero, List.set_cons_succ, i64_w]
    refine wpList_nil ?_
    (try simp only [Exit.then, Exit.inBlock, ↓reduceIte, Nat.reduceEqDiff])
    refine hK20 _ _ ?_
    refine wp_cond_false rfl ?_
    refine wp_skip ?_
    (try simp only [Exit.then, Exit.inBlock, ↓reduceIte, Nat.reduceEqDiff])
    refine hK14 _ _ ?_
    refine wp_seq_k (fun K22 hK22 => ?_)
    refine' wp_region_up 7 [Slot.det _, Slot.det _, Slot.det _, Slot.det _, Slot.det _, Slot.det (.agg #[.int .i64 t23, .int .i64 t24]), Slot.det (.agg #[.int .i64 t26, .int .i64 t27, .int .i64 t28])] (by kernel_rfl) (by kernel_rfl) ?main
    case main =>
      simp only [List.take_succ_cons, List.take_zero]
      refine wpK_ops rfl (fun w1 hu => ?_) ?_
      · clear hu
        go_simp
        first | done | rfl
      simp only [Act.put, List.setIfInBounds_toArray, List.set_cons_zero, List.set_cons_succ, i64_w]
      refine wpK_ops rfl (fun w1 hu => ?_) ?_
      · have cl0 := ((hb2.up (((hu7.out.trans hu10.out).trans hu13.out).trans hu19.out)).up ((Up.refl _).drew.trans hu)).cell (o := 0) rfl
        have cl1 := ((hb2.up (((hu7.out.trans hu10.out).trans hu13.out).trans hu19.out)).up ((Up.refl _).drew.trans hu)).cell (o := 1) rfl
        go_simp
        first | done | rfl
      simp only [Act.put, List.setIfInBounds_toArray, List.set_cons_zero, List.set_cons_succ, i64_w]
      refine wpK_ops rfl (fun w1 hu => ?_) ?_
      · clear hu
        go_simp
        first | done | rfl
      simp only [Act.put, List.setIfInBounds_toArray, List.set_cons_zero, List.set_cons_succ, i64_w]
      refine wpK_ops rfl (fun w1 hu => ?_) ?_
      · have cl0 := ((hb5.up ((hu10.out.trans hu13.out).trans hu19.out)).up ((Up.refl _).drew.trans hu)).cell (o := 0) rfl
        have cl1 := ((hb5.up ((hu10.out.trans hu13.out).trans hu19.out)).up ((Up.refl _).drew.trans hu)).cell (o := 1) rfl
        go_simp
        first | done | rfl
      simp only [Act.put, List.setIfInBounds_toArray, List.set_cons_zero, List.set_cons_succ, i64_w]
      refine wpK_ops rfl (fun w1 hu => ?_) ?_
      · have cl0 := ((hb8.up (hu13.out.trans hu19.out)).up ((Up.refl _).drew.trans hu)).cell (o := 0) rfl
        have cl1 := ((hb8.up (hu13.out.trans hu19.out)).up ((Up.refl _).drew.trans hu)).cell (o := 1) rfl
        go_simp
        first | done | rfl
      simp only [Act.put, List.setIfInBounds_toArray, List.set_cons_zero, List.set_cons_succ, i64_w]
      refine wpK_ops rfl (fun w1 hu => ?_) ?_
      · have hcl := impl_midpoint.calls K a0 a2_0 a2_1 a3_0 a3_1 t23 t24 w1  A25.out
        clear hu
        replace hcl := Aside0.mk hcl
        go_simp
        exact hcl.out
      simp only [Act.put, List.setIfInBounds_toArray, List.set_cons_zero, List.set_cons_succ, i64_w]
      refine wpK_ops rfl (fun w1 hu => ?_) ?_
      · have hcl := impl_lineThrough.calls K a0 a1_0 a1_1 t23 t24 t26 t27 t28 w1  A29.out
        clear hu
        replace hcl := Aside0.mk hcl
        go_simp
        exact hcl.out
      simp only [Act.put, List.setIfInBounds_toArray, List.set_cons_zero, List.set_cons_succ, i64_w]
      refine wpK_nil ?_
      intro w30 hu hap
      simp only [List.drop_succ_cons, List.drop_zero]
      replace hu := (Up.refl _).drew.trans hu
      clear hap
      have hu31 := Aside0.mk hu
      clear hu
      have hB0 := (hb11.up (hu19.out.trans hu31.out))
      have cl0 := hB0.cell (o := 0) rfl
      have fr0 := hB0.free 0
      have cl1 := hB0.cell (o := 1) rfl
      have fr1 := hB0.free 1
      have cl2 := hB0.cell (o := 2) rfl
      have fr2 := hB0.free 2
      refine step_store (b := b11) (cs' := [.int .i64 t26, .int .i64 t27, .int .i64 t28]) (T := 39) (W' := (((w30.setCell ⟨b11, 0, none⟩ (.int .i64 t26)).setCell ⟨b11, 1, none⟩ (.int .i64 t27)).setCell ⟨b11, 2, none⟩ (.int .i64 t28))) rfl rfl (by first | (go_simp; done) | (go_simp; rfl)) ((((Sto.refl _ _).setCell 0 _).setCell 1 _).setCell 2 _) ((((hB0).setCell 0 _).setCell 1 _).setCell 2 _) ?_
      clear hB0 cl0 fr0 cl1 fr1 cl2 fr2
      intro w32 hs hb34
      have hs33 := Aside0.mk hs
      clear hs
      refine wpList_plain rfl (fun Ko hKo => ?_)
      go_simp
      refine hKo _ _ ?_
      clear hKo Ko
      try simp only [Act.put, List.setIfInBounds_toArray, List.set_cons_zero, List.set_cons_succ, i64_w]
      refine wpList_nil ?_
      (try simp only [Exit.then, Exit.inBlock, ↓reduceIte, Nat.reduceEqDiff])
      refine hK22 _ _ ?_
      refine wp_ret ?_
      (try simp only [Exit.then, Exit.inBlock, ↓reduceIte, Nat.reduceEqDiff])
      refine hQf _ _ _ ?_
      have cr0 := hb34.cell (o := 0) rfl
      have cr1 := hb34.cell (o := 1) rfl
      have cr2 := hb34.cell (o := 2) rfl
      exact bodyPost_ret (v := .tuple #[.agg #[.int .i64 t26, .int .i64 t27, .int .i64 t28], .int .i64 0]) (by first | rfl | (simp [results, Try.results25, go_sem, cr0, cr1, cr2]; done) | (simp [results, Try.results25, go_sem, cr0, cr1, cr2]; rfl)) rfl ⟨rfl, ((((((hu4.out.trans hu7.out).trans hu10.out).trans hu13.out).trans hu19.out).trans hu31.out).sto (Nat.le_trans ((Nat.le_trans ((Nat.le_trans (hu4.out.size) hu7.out.size)) hu10.out.size)) lbb11.out) hs33.out)⟩
  · rw [if_neg c21] at H
    replace c21 := Bool.eq_false_iff.mpr c21
    have c21n : (t16 != 0) = true := by rw [bne, c21]; rfl
    have c21p : ¬ t16 = 0 := fun e => by simp [e] at c21
    simp only [Option.some.injEq, Prod.mk.injEq] at H
    obtain ⟨rfl, rfl, rfl, rfl⟩ := H
    go_enter Try.func25, Try.ntmps25
    refine wp_hide (fun Qf hQf => ?_)
    refine wp_seq_k (fun K1 hK1 => ?_)
    refine wp_region_lit ?_
    refine step_new (cs := [.int .i64 a1_0, .int .i64 a1_1]) (T := 25) (f := fun b => .pointer (some ⟨b, 0, none⟩)) rfl (by first | (go_simp; done) | (go_simp; rfl)) ?_
    intro b2 w3 hu lb hb2
    simp only [Act.put, List.setIfInBounds_toArray, List.set_cons_zero, List.set_cons_succ, i64_w]
    have lbb2 := Aside0.mk lb
    have ltb2 := Aside0.mk hb2.lt
    clear lb
    have hu4 := Aside0.mk hu
    clear hu
    refine step_new (cs := [.int .i64 a2_0, .int .i64 a2_1]) (T := 25) (f := fun b => .pointer (some ⟨b, 0, none⟩)) rfl (by first | (go_simp; done) | (go_simp; rfl)) ?_
    intro b5 w6 hu lb hb5
    simp only [Act.put, List.setIfInBounds_toArray, List.set_cons_zero, List.set_cons_succ, i64_w]
    have lbb5 := Aside0.mk lb
    have ltb5 := Aside0.mk hb5.lt
    clear lb
    have hu7 := Aside0.mk hu
    clear hu
    refine step_new (cs := [.int .i64 a3_0, .int .i64 a3_1]) (T := 25) (f := fun b => .pointer (some ⟨b, 0, none⟩)) rfl (by first | (go_simp; done) | (go_simp; rfl)) ?_
    intro b8 w9 hu lb hb8
    simp only [Act.put, List.setIfInBounds_toArray, List.set_cons_zero, List.set_cons_succ, i64_w]
    have lbb8 := Aside0.mk lb
    have ltb8 := Aside0.mk hb8.lt
    clear lb
    have hu10 := Aside0.mk hu
    clear hu
    refine step_new (cs := [.int .i64 0, .int .i64 0, .int .i64 0]) (T := 39) (f := fun b => .pointer (some ⟨b, 0, none⟩)) rfl (by first | (go_simp; done) | (go_simp; rfl)) ?_
    intro b11 w12 hu lb hb11
    simp only [Act.put, List.setIfInBounds_toArray, List.set_cons_zero, List.set_cons_succ, i64_w]
    have lbb11 := Aside0.mk lb
    have ltb11 := Aside0.mk hb11.lt
    clear lb
    have hu13 := Aside0.mk hu
    clear hu
    refine wpList_plain rfl (fun Ko hKo => ?_)
    go_simp
    refine hKo _ _ ?_
    clear hKo Ko
    try simp only [Act.put, List.setIfInBounds_toArray, List.set_cons_zero, List.set_cons_succ, i64_w]
    refine wpList_nil ?_
    (try simp only [Exit.then, Exit.inBlock, ↓reduceIte, Nat.reduceEqDiff])
    refine hK1 _ _ ?_
    refine wp_seq_k (fun K14 hK14 => ?_)
    refine wp_seq_k (fun K15 hK15 => ?_)
    refine wp_region_lit ?_
    refine wpList_plain rfl (fun Ko hKo => ?_)
    go_simp
    refine hKo _ _ ?_
    clear hKo Ko
    try simp only [Act.put, List.setIfInBounds_toArray, List.set_cons_zero, List.set_cons_succ, i64_w]
    have cl0 := (hb2.up ((hu7.out.trans hu10.out).trans hu13.out)).cell (o := 0) rfl
    have cl1 := (hb2.up ((hu7.out.trans hu10.out).trans hu13.out)).cell (o := 1) rfl
    refine wpList_plain rfl (fun Ko hKo => ?_)
    go_simp
    refine hKo _ _ ?_
    clear hKo Ko
    clear cl0 cl1
    try simp only [Act.put, List.setIfInBounds_toArray, List.set_cons_zero, List.set_cons_succ, i64_w]
    have cl0 := (hb5.up (hu10.out.trans hu13.out)).cell (o := 0) rfl
    have cl1 := (hb5.up (hu10.out.trans hu13.out)).cell (o := 1) rfl
    refine wpList_plain rfl (fun Ko hKo => ?_)
    go_simp
    refine hKo _ _ ?_
    clear hKo Ko
    clear cl0 cl1
    try simp only [Act.put, List.setIfInBounds_toArray, List.set_cons_zero, List.set_cons_succ, i64_w]
    have cl0 := (hb8.up hu13.out).cell (o := 0) rfl
    have cl1 := (hb8.up hu13.out).cell (o := 1) rfl
    refine wpList_plain rfl (fun Ko hKo => ?_)
    go_simp
    refine hKo _ _ ?_
    clear hKo Ko
    clear cl0 cl1
    try simp only [Act.put, List.setIfInBounds_toArray, List.set_cons_zero, List.set_cons_succ, i64_w]
    refine step_call (wanted_none rfl) (by first | (go_simp; done) | (go_simp; rfl)) (impl_triangle.calls K a0 0 a1_0 a1_1 a2_0 a2_1 a3_0 a3_1 t16 w12  A17.out) ?_
    rintro e w18 ⟨rfl, hu⟩
    have hu19 := Aside0.mk hu
    clear hu
    refine ⟨_, rfl, ?_⟩
    simp only [Act.put, List.setIfInBounds_toArray, List.set_cons_zero, List.set_cons_succ, i64_w]
    refine wpList_plain rfl (fun Ko hKo => ?_)
    go_simp
    refine hKo _ _ ?_
    clear hKo Ko
    try simp only [Act.put, List.setIfInBounds_toArray, List.set_cons_zero, List.set_cons_succ, i64_w]
    refine wpList_nil ?_
    (try simp only [Exit.then, Exit.inBlock, ↓reduceIte, Nat.reduceEqDiff])
    refine hK15 _ _ ?_
    refine wp_seq_k (fun K20 hK20 => ?_)
    refine wp_region_lit ?_
    refine wpList_plain rfl (fun Ko hKo => ?_)
    go_simp
    refine hKo _ _ ?_
    clear hKo Ko
    try simp only [Act.put, List.setIfInBounds_toArray, List.set_cons_zero, List.set_cons_succ, i64_w]
    refine wpList_plain rfl (fun Ko hKo => ?_)
    go_simp
    refine hKo _ _ ?_
    clear hKo Ko
    try simp only [Act.put, List.setIfInBounds_toArray, List.set_cons_zero, List.set_cons_succ, i64_w]
    refine wpList_nil ?_
    (try simp only [Exit.then, Exit.inBlock, ↓reduceIte, Nat.reduceEqDiff])
    refine hK20 _ _ ?_
    refine wp_cond_true rfl ?_
    refine wp_seq_k (fun K35 hK35 => ?_)
    refine wp_region_lit ?_
    refine wpList_plain rfl (fun Ko hKo => ?_)
    go_simp
    refine hKo _ _ ?_
    clear hKo Ko
    try simp only [Act.put, List.setIfInBounds_toArray, List.set_cons_zero, List.set_cons_succ, i64_w]
    refine wpList_plain rfl (fun Ko hKo => ?_)
    go_simp
    refine hKo _ _ ?_
    clear hKo Ko
    try simp only [Act.put, List.setIfInBounds_toArray, List.set_cons_zero, List.set_cons_succ, i64_w]
    have hB0 := (hb11.up hu19.out)
    have cl0 := hB0.cell (o := 0) rfl
    have fr0 := hB0.free 0
    have cl1 := hB0.cell (o := 1) rfl
    have fr1 := hB0.free 1
    have cl2 := hB0.cell (o := 2) rfl
    have fr2 := hB0.free 2
    refine step_store (b := b11) (cs' := [.int .i64 0, .int .i64 0, .int .i64 0]) (T := 39) (W' := (((w18.setCell ⟨b11, 0, none⟩ (.int .i64 0)).setCell ⟨b11, 1, none⟩ (.int .i64 0)).setCell ⟨b11, 2, none⟩ (.int .i64 0))) rfl rfl (by first | (go_simp; done) | (go_simp; rfl)) ((((Sto.refl _ _).setCell 0 _).setCell 1 _).setCell 2 _) ((((hB0).setCell 0 _).setCell 1 _).setCell 2 _) ?_
    clear hB0 cl0 fr0 cl1 fr1 cl2 fr2
    intro w36 hs hb38
    have hs37 := Aside0.mk hs
    clear hs
    refine wpList_plain rfl (fun Ko hKo => ?_)
    go_simp
    refine hKo _ _ ?_
    clear hKo Ko
    try simp only [Act.put, List.setIfInBounds_toArray, List.set_cons_zero, List.set_cons_succ, i64_w]
    refine wpList_nil ?_
    (try simp only [Exit.then, Exit.inBlock, ↓reduceIte, Nat.reduceEqDiff])
    refine hK35 _ _ ?_
    refine wp_ret ?_
    (try simp only [Exit.then, Exit.inBlock, ↓reduceIte, Nat.reduceEqDiff])
    refine hQf _ _ _ ?_
    have cr0 := hb38.cell (o := 0) rfl
    have cr1 := hb38.cell (o := 1) rfl
    have cr2 := hb38.cell (o := 2) rfl
    exact bodyPost_ret (v := .tuple #[.agg #[.int .i64 0, .int .i64 0, .int .i64 0], .int .i64 t16]) (by first | rfl | (simp [results, Try.results25, go_sem, cr0, cr1, cr2]; done) | (simp [results, Try.results25, go_sem, cr0, cr1, cr2]; rfl)) rfl ⟨rfl, (((((hu4.out.trans hu7.out).trans hu10.out).trans hu13.out).trans hu19.out).sto (Nat.le_trans ((Nat.le_trans ((Nat.le_trans (hu4.out.size) hu7.out.size)) hu10.out.size)) lbb11.out) hs37.out)⟩

set_option maxHeartbeats 4000000 in
set_option maxRecDepth 100000 in
theorem laws_eqLine.calls (K : Nat) (a0_0 : Int) (a0_1 : Int) (a0_2 : Int) (a1_0 : Int) (a1_1 : Int) (a1_2 : Int) (r0 : Bool) (w : World)  (h : laws_eqLine.f K a0_0 a0_1 a0_2 a1_0 a1_1 a1_2 = some (r0)) :
    Calls Try.prog 26 #[.agg #[.int .i64 a0_0, .int .i64 a0_1, .int .i64 a0_2], .agg #[.int .i64 a1_0, .int .i64 a1_1, .int .i64 a1_2]] w fun e w' => e = .returned (.bool r0) ∧ Up w w' := by
  have H : ((if (a0_0 == a1_0) = true then (if (a0_1 == a1_1) = true then (if (a0_2 == a1_2) = true then some true else some false) else some false) else some false) : Option (Bool)) = some (r0) := h
  clear h
  by_cases c17 : (a0_0 == a1_0) = true
  · rw [if_pos c17] at H
    have c17n : (a0_0 != a1_0) = false := by rw [bne, c17]; rfl
    by_cases c25 : (a0_1 == a1_1) = true
    · rw [if_pos c25] at H
      have c25n : (a0_1 != a1_1) = false := by rw [bne, c25]; rfl
      by_cases c33 : (a0_2 == a1_2) = true
      · rw [if_pos c33] at H
        have c33n : (a0_2 != a1_2) = false := by rw [bne, c33]; rfl
        obtain rfl := Option.some.inj H
        go_enter Try.func26, Try.ntmps26
        refine wp_hide (fun Qf hQf => ?_)
        refine wp_seq_k (fun K1 hK1 => ?_)
        refine wp_region_lit ?_
        refine step_new (cs := [.int .i64 a0_0, .int .i64 a0_1, .int .i64 a0_2]) (T := 39) (f := fun b => .pointer (some ⟨b, 0, none⟩)) rfl (by first | (go_simp; done) | (go_simp; rfl)) ?_
        intro b2 w3 hu lb hb2
        simp only [Act.put, List.setIfInBounds_toArray, List.set_cons_zero, List.set_cons_succ, i64_w]
        have lbb2 := Aside0.mk lb
        have ltb2 := Aside0.mk hb2.lt
        clear lb
        have hu4 := Aside0.mk hu
        clear hu
        refine step_new (cs := [.int .i64 a1_0, .int .i64 a1_1, .int .i64 a1_2]) (T := 39) (f := fun b => .pointer (some ⟨b, 0, none⟩)) rfl (by first | (go_simp; done) | (go_simp; rfl)) ?_
        intro b5 w6 hu lb hb5
        simp only [Act.put, List.setIfInBounds_toArray, List.set_cons_zero, List.set_cons_succ, i64_w]
        have lbb5 := Aside0.mk lb
        have ltb5 := Aside0.mk hb5.lt
        clear lb
        have hu7 := Aside0.mk hu
        clear hu
        refine wpList_plain rfl (fun Ko hKo => ?_)
        go_simp
        refine hKo _ _ ?_
        clear hKo Ko
        try simp only [Act.put, List.setIfInBounds_toArray, List.set_cons_zero, List.set_cons_succ, i64_w]
        refine wpList_nil ?_
        (try simp only [Exit.then, Exit.inBlock, ↓reduceIte, Nat.reduceEqDiff])
        refine hK1 _ _ ?_
        refine wp_seq_k (fun K8 hK8 => ?_)
        refine wp_seq_k (fun K9 hK9 => ?_)
        refine wp_region_lit ?_
        refine wpList_plain rfl (fun Ko hKo => ?_)
        go_simp
        refine hKo _ _ ?_
        clear hKo Ko
        try simp only [Act.put, List.setIfInBounds_toArray, List.set_cons_zero, List.set_cons_succ, i64_w]
        refine wpList_nil ?_
        (try simp only [Exit.then, Exit.inBlock, ↓reduceIte, Nat.reduceEqDiff])
        refine hK9 _ _ ?_
        refine wp_block ?_
        refine wp_loop_rounds 40 ?_
        refine rounds_k (fun K10 hK10 => ?_)
        refine wp_seq_k (fun K11 hK11 => ?_)
        refine wp_seq_k (fun K12 hK12 => ?_)
        refine wp_region_lit ?_
        refine wpList_plain rfl (fun Ko hKo => ?_)
        go_simp
        refine hKo _ _ ?_
        clear hKo Ko
        try simp only [Act.put, List.setIfInBounds_toArray, List.set_cons_zero, List.set_cons_succ, i64_w]
        refine wpList_plain rfl (fun Ko hKo => ?_)
        go_simp
        refine hKo _ _ ?_
        clear hKo Ko
        try simp only [Act.put, List.setIfInBounds_toArray, List.set_cons_zero, List.set_cons_succ, i64_w]
        refine wpList_nil ?_
        (try simp only [Exit.then, Exit.inBlock, ↓reduceIte, Nat.reduceEqDiff])
        refine hK12 _ _ ?_
        refine wp_cond_true rfl ?_
        refine wp_skip ?_
        (try simp only [Exit.then, Exit.inBlock, ↓reduceIte, Nat.reduceEqDiff])
        refine hK11 _ _ ?_
        refine wp_seq_k (fun K13 hK13 => ?_)
        refine wp_block ?_
        refine wp_seq_k (fun K14 hK14 => ?_)
        refine' wp_region_up 7 [Slot.det _, Slot.det _, Slot.det _, Slot.det _, Slot.det _, Slot.det _, Slot.det _] (by kernel_rfl) (by kernel_rfl) ?main
        case main =>
          simp only [List.take_succ_cons, List.take_zero]
          refine wpK_ops rfl (fun w1 hu => ?_) ?_
          · clear hu
            go_simp
            first | done | rfl
          simp only [Act.put, List.setIfInBounds_toArray, List.set_cons_zero, List.set_cons_succ, i64_w]
          refine wpK_ops rfl (fun w1 hu => ?_) ?_
          · clear hu
            go_simp
            first | done | rfl
          simp only [Act.put, List.setIfInBounds_toArray, List.set_cons_zero, List.set_cons_succ, i64_w]
          refine wpK_ops rfl (fun w1 hu => ?_) ?_
          · have cl0 := ((hb2.up hu7.out).up ((Up.refl _).drew.trans hu)).cell (o := 0) rfl
            go_simp
            first | done | rfl
          simp only [Act.put, List.setIfInBounds_toArray, List.set_cons_zero, List.set_cons_succ, i64_w]
          refine wpK_ops rfl (fun w1 hu => ?_) ?_
          · clear hu
            go_simp
            first | done | rfl
          simp only [Act.put, List.setIfInBounds_toArray, List.set_cons_zero, List.set_cons_succ, i64_w]
          refine wpK_ops rfl (fun w1 hu => ?_) ?_
          · clear hu
            go_simp
            first | done | rfl
          simp only [Act.put, List.setIfInBounds_toArray, List.set_cons_zero, List.set_cons_succ, i64_w]
          refine wpK_ops rfl (fun w1 hu => ?_) ?_
          · have cl0 := (hb5.up ((Up.refl _).drew.trans hu)).cell (o := 0) rfl
            go_simp
            first | done | rfl
          simp only [Act.put, List.setIfInBounds_toArray, List.set_cons_zero, List.set_cons_succ, i64_w]
          refine wpK_ops rfl (fun w1 hu => ?_) ?_
          · clear hu
            go_simp
            first | done | rfl
          simp only [Act.put, List.setIfInBounds_toArray, List.set_cons_zero, List.set_cons_succ, i64_w]
          refine wpK_nil ?_
          intro w15 hu hap
          simp only [List.drop_succ_cons, List.drop_zero]
          replace hu := (Up.refl _).drew.trans hu
          clear hap
          have hu16 := Aside0.mk hu
          clear hu
          refine wpList_nil ?_
          (try simp only [Exit.then, Exit.inBlock, ↓reduceIte, Nat.reduceEqDiff])
          refine hK14 _ _ ?_
          refine wp_cond_false rfl ?_
          refine wp_skip ?_
          (try simp only [Exit.then, Exit.inBlock, ↓reduceIte, Nat.reduceEqDiff])
          refine hK13 _ _ ?_
          refine wp_region_lit ?_
          refine wpList_plain rfl (fun Ko hKo => ?_)
          go_simp
          refine hKo _ _ ?_
          clear hKo Ko
          try simp only [Act.put, List.setIfInBounds_toArray, List.set_cons_zero, List.set_cons_succ, i64_w]
          refine wpList_plain rfl (fun Ko hKo => ?_)
          go_simp
          refine hKo _ _ ?_
          clear hKo Ko
          try simp only [Act.put, List.setIfInBounds_toArray, List.set_cons_zero, List.set_cons_succ, i64_w]
          try simp only [show wrap64 1 = 1 from wlit rfl]
          refine wpList_plain rfl (fun Ko hKo => ?_)
          go_simp
          refine hKo _ _ ?_
          clear hKo Ko
          try simp only [Act.put, List.setIfInBounds_toArray, List.set_cons_zero, List.set_cons_succ, i64_w]
          refine wpList_nil ?_
          (try simp only [Exit.then, Exit.inBlock, ↓reduceIte, Nat.reduceEqDiff])
          refine hK10 _ _ ?_
          refine rounds_k (fun K18 hK18 => ?_)
          refine wp_seq_k (fun K19 hK19 => ?_)
          refine wp_seq_k (fun K20 hK20 => ?_)
          refine wp_region_lit ?_
          refine wpList_plain rfl (fun Ko hKo => ?_)
          go_simp
          refine hKo _ _ ?_
          clear hKo Ko
          try simp only [Act.put, List.setIfInBounds_toArray, List.set_cons_zero, List.set_cons_succ, i64_w]
          refine wpList_plain rfl (fun Ko hKo => ?_)
          go_simp
          refine hKo _ _ ?_
          clear hKo Ko
          try simp only [Act.put, List.setIfInBounds_toArray, List.set_cons_zero, List.set_cons_succ, i64_w]
          refine wpList_nil ?_
          (try simp only [Exit.then, Exit.inBlock, ↓reduceIte, Nat.reduceEqDiff])
          refine hK20 _ _ ?_
          refine wp_cond_true rfl ?_
          refine wp_skip ?_
          (try simp only [Exit.then, Exit.inBlock, ↓reduceIte, Nat.reduceEqDiff])
          refine hK19 _ _ ?_
          refine wp_seq_k (fun K21 hK21 => ?_)
          refine wp_block ?_
          refine wp_seq_k (fun K22 hK22 => ?_)
          refine' wp_region_up 7 [Slot.det _, Slot.det _, Slot.det _, Slot.det _, Slot.det _, Slot.det _, Slot.det _] (by kernel_rfl) (by kernel_rfl) ?main
          case main =>
            simp only [List.take_succ_cons, List.take_zero]
            refine wpK_ops rfl (fun w1 hu => ?_) ?_
            · clear hu
              go_simp
              first | done | rfl
            simp only [Act.put, List.setIfInBounds_toArray, List.set_cons_zero, List.set_cons_succ, i64_w]
            refine wpK_ops rfl (fun w1 hu => ?_) ?_
            · clear hu
              go_simp
              first | done | rfl
            simp only [Act.put, List.setIfInBounds_toArray, List.set_cons_zero, List.set_cons_succ, i64_w]
            refine wpK_ops rfl (fun w1 hu => ?_) ?_
            · have cl0 := ((hb2.up (hu7.out.trans hu16.out)).up ((Up.refl _).drew.trans hu)).cell (o := 1) rfl
              go_simp
              first | done | rfl
            simp only [Act.put, List.setIfInBounds_toArray, List.set_cons_zero, List.set_cons_succ, i64_w]
            refine wpK_ops rfl (fun w1 hu => ?_) ?_
            · clear hu
              go_simp
              first | done | rfl
            simp only [Act.put, List.setIfInBounds_toArray, List.set_cons_zero, List.set_cons_succ, i64_w]
            refine wpK_ops rfl (fun w1 hu => ?_) ?_
            · clear hu
              go_simp
              first | done | rfl
            simp only [Act.put, List.setIfInBounds_toArray, List.set_cons_zero, List.set_cons_succ, i64_w]
            refine wpK_ops rfl (fun w1 hu => ?_) ?_
            · have cl0 := ((hb5.up hu16.out).up ((Up.refl _).drew.trans hu)).cell (o := 1) rfl
              go_simp
              first | done | rfl
            simp only [Act.put, List.setIfInBounds_toArray, List.set_cons_zero, List.set_cons_succ, i64_w]
            refine wpK_ops rfl (fun w1 hu => ?_) ?_
            · clear hu
              go_simp
              first | done | rfl
            simp only [Act.put, List.setIfInBounds_toArray, List.set_cons_zero, List.set_cons_succ, i64_w]
            refine wpK_nil ?_
            intro w23 hu hap
            simp only [List.drop_succ_cons, List.drop_zero]
            replace hu := (Up.refl _).drew.trans hu
            clear hap
            have hu24 := Aside0.mk hu
            clear hu
            refine wpList_nil ?_
            (try simp only [Exit.then, Exit.inBlock, ↓reduceIte, Nat.reduceEqDiff])
            refine hK22 _ _ ?_
            refine wp_cond_false rfl ?_
            refine wp_skip ?_
            (try simp only [Exit.then, Exit.inBlock, ↓reduceIte, Nat.reduceEqDiff])
            refine hK21 _ _ ?_
            refine wp_region_lit ?_
            refine wpList_plain rfl (fun Ko hKo => ?_)
            go_simp
            refine hKo _ _ ?_
            clear hKo Ko
            try simp only [Act.put, List.setIfInBounds_toArray, List.set_cons_zero, List.set_cons_succ, i64_w]
            refine wpList_plain rfl (fun Ko hKo => ?_)
            go_simp
            refine hKo _ _ ?_
            clear hKo Ko
            try simp only [Act.put, List.setIfInBounds_toArray, List.set_cons_zero, List.set_cons_succ, i64_w]
            try simp only [show wrap64 2 = 2 from wlit rfl]
            refine wpList_plain rfl (fun Ko hKo => ?_)
            go_simp
            refine hKo _ _ ?_
            clear hKo Ko
            try simp only [Act.put, List.setIfInBounds_toArray, List.set_cons_zero, List.set_cons_succ, i64_w]
            refine wpList_nil ?_
            (try simp only [Exit.then, Exit.inBlock, ↓reduceIte, Nat.reduceEqDiff])
            refine hK18 _ _ ?_
            refine rounds_k (fun K26 hK26 => ?_)
            refine wp_seq_k (fun K27 hK27 => ?_)
            refine wp_seq_k (fun K28 hK28 => ?_)
            refine wp_region_lit ?_
            refine wpList_plain rfl (fun Ko hKo => ?_)
            go_simp
            refine hKo _ _ ?_
            clear hKo Ko
            try simp only [Act.put, List.setIfInBounds_toArray, List.set_cons_zero, List.set_cons_succ, i64_w]
            refine wpList_plain rfl (fun Ko hKo => ?_)
            go_simp
            refine hKo _ _ ?_
            clear hKo Ko
            try simp only [Act.put, List.setIfInBounds_toArray, List.set_cons_zero, List.set_cons_succ, i64_w]
            refine wpList_nil ?_
            (try simp only [Exit.then, Exit.inBlock, ↓reduceIte, Nat.reduceEqDiff])
            refine hK28 _ _ ?_
            refine wp_cond_true rfl ?_
            refine wp_skip ?_
            (try simp only [Exit.then, Exit.inBlock, ↓reduceIte, Nat.reduceEqDiff])
            refine hK27 _ _ ?_
            refine wp_seq_k (fun K29 hK29 => ?_)
            refine wp_block ?_
            refine wp_seq_k (fun K30 hK30 => ?_)
            refine' wp_region_up 7 [Slot.det _, Slot.det _, Slot.det _, Slot.det _, Slot.det _, Slot.det _, Slot.det _] (by kernel_rfl) (by kernel_rfl) ?main
            case main =>
              simp only [List.take_succ_cons, List.take_zero]
              refine wpK_ops rfl (fun w1 hu => ?_) ?_
              · clear hu
                go_simp
                first | done | rfl
              simp only [Act.put, List.setIfInBounds_toArray, List.set_cons_zero, List.set_cons_succ, i64_w]
              refine wpK_ops rfl (fun w1 hu => ?_) ?_
              · clear hu
                go_simp
                first | done | rfl
              simp only [Act.put, List.setIfInBounds_toArray, List.set_cons_zero, List.set_cons_succ, i64_w]
              refine wpK_ops rfl (fun w1 hu => ?_) ?_
              · have cl0 := ((hb2.up ((hu7.out.trans hu16.out).trans hu24.out)).up ((Up.refl _).drew.trans hu)).cell (o := 2) rfl
                go_simp
                first | done | rfl
              simp only [Act.put, List.setIfInBounds_toArray, List.set_cons_zero, List.set_cons_succ, i64_w]
              refine wpK_ops rfl (fun w1 hu => ?_) ?_
              · clear hu
                go_simp
                first | done | rfl
              simp only [Act.put, List.setIfInBounds_toArray, List.set_cons_zero, List.set_cons_succ, i64_w]
              refine wpK_ops rfl (fun w1 hu => ?_) ?_
              · clear hu
                go_simp
                first | done | rfl
              simp only [Act.put, List.setIfInBounds_toArray, List.set_cons_zero, List.set_cons_succ, i64_w]
              refine wpK_ops rfl (fun w1 hu => ?_) ?_
              · have cl0 := ((hb5.up (hu16.out.trans hu24.out)).up ((Up.refl _).drew.trans hu)).cell (o := 2) rfl
                go_simp
                first | done | rfl
              simp only [Act.put, List.setIfInBounds_toArray, List.set_cons_zero, List.set_cons_succ, i64_w]
              refine wpK_ops rfl (fun w1 hu => ?_) ?_
              · clear hu
                go_simp
                first | done | rfl
              simp only [Act.put, List.setIfInBounds_toArray, List.set_cons_zero, List.set_cons_succ, i64_w]
              refine wpK_nil ?_
              intro w31 hu hap
              simp only [List.drop_succ_cons, List.drop_zero]
              replace hu := (Up.refl _).drew.trans hu
              clear hap
              have hu32 := Aside0.mk hu
              clear hu
              refine wpList_nil ?_
              (try simp only [Exit.then, Exit.inBlock, ↓reduceIte, Nat.reduceEqDiff])
              refine hK30 _ _ ?_
              refine wp_cond_false rfl ?_
              refine wp_skip ?_
              (try simp only [Exit.then, Exit.inBlock, ↓reduceIte, Nat.reduceEqDiff])
              refine hK29 _ _ ?_
              refine wp_region_lit ?_
              refine wpList_plain rfl (fun Ko hKo => ?_)
              go_simp
              refine hKo _ _ ?_
              clear hKo Ko
              try simp only [Act.put, List.setIfInBounds_toArray, List.set_cons_zero, List.set_cons_succ, i64_w]
              refine wpList_plain rfl (fun Ko hKo => ?_)
              go_simp
              refine hKo _ _ ?_
              clear hKo Ko
              try simp only [Act.put, List.setIfInBounds_toArray, List.set_cons_zero, List.set_cons_succ, i64_w]
              try simp only [show wrap64 3 = 3 from wlit rfl]
              refine wpList_plain rfl (fun Ko hKo => ?_)
              go_simp
              refine hKo _ _ ?_
              clear hKo Ko
              try simp only [Act.put, List.setIfInBounds_toArray, List.set_cons_zero, List.set_cons_succ, i64_w]
              refine wpList_nil ?_
              (try simp only [Exit.then, Exit.inBlock, ↓reduceIte, Nat.reduceEqDiff])
              refine hK26 _ _ ?_
              refine rounds_k (fun K34 hK34 => ?_)
              refine wp_seq_k (fun K35 hK35 => ?_)
              refine wp_seq_k (fun K36 hK36 => ?_)
              refine wp_region_lit ?_
              refine wpList_plain rfl (fun Ko hKo => ?_)
              go_simp
              refine hKo _ _ ?_
              clear hKo Ko
              try simp only [Act.put, List.setIfInBounds_toArray, List.set_cons_zero, List.set_cons_succ, i64_w]
              refine wpList_plain rfl (fun Ko hKo => ?_)
              go_simp
              refine hKo _ _ ?_
              clear hKo Ko
              try simp only [Act.put, List.setIfInBounds_toArray, List.set_cons_zero, List.set_cons_succ, i64_w]
              refine wpList_nil ?_
              (try simp only [Exit.then, Exit.inBlock, ↓reduceIte, Nat.reduceEqDiff])
              refine hK36 _ _ ?_
              refine wp_cond_false rfl ?_
              refine wp_exit ?_
              (try simp only [Exit.then, Exit.inBlock, ↓reduceIte, Nat.reduceEqDiff])
              refine hK8 _ _ ?_
              refine wp_seq_k (fun K37 hK37 => ?_)
              refine wp_region_lit ?_
              refine wpList_plain rfl (fun Ko hKo => ?_)
              go_simp
              refine hKo _ _ ?_
              clear hKo Ko
              try simp only [Act.put, List.setIfInBounds_toArray, List.set_cons_zero, List.set_cons_succ, i64_w]
              refine wpList_nil ?_
              (try simp only [Exit.then, Exit.inBlock, ↓reduceIte, Nat.reduceEqDiff])
              refine hK37 _ _ ?_
              refine wp_ret ?_
              (try simp only [Exit.then, Exit.inBlock, ↓reduceIte, Nat.reduceEqDiff])
              refine hQf _ _ _ ?_
              exact bodyPost_ret (v := .bool true) (by first | rfl | (simp [results, Try.results26, go_sem]; done) | (simp [results, Try.results26, go_sem]; rfl)) rfl ⟨rfl, ((((hu4.out.trans hu7.out).trans hu16.out).trans hu24.out).trans hu32.out)⟩
      · rw [if_neg c33] at H
        replace c33 := Bool.eq_false_iff.mpr c33
        have c33n : (a0_2 != a1_2) = true := by rw [bne, c33]; rfl
        have c33p : ¬ a0_2 = a1_2 := fun e => by simp [e] at c33
        obtain rfl := Option.some.inj H
        go_enter Try.func26, Try.ntmps26
        refine wp_hide (fun Qf hQf => ?_)
        refine wp_seq_k (fun K1 hK1 => ?_)
        refine wp_region_lit ?_
        refine step_new (cs := [.int .i64 a0_0, .int .i64 a0_1, .int .i64 a0_2]) (T := 39) (f := fun b => .pointer (some ⟨b, 0, none⟩)) rfl (by first | (go_simp; done) | (go_simp; rfl)) ?_
        intro b2 w3 hu lb hb2
        simp only [Act.put, List.setIfInBounds_toArray, List.set_cons_zero, List.set_cons_succ, i64_w]
        have lbb2 := Aside0.mk lb
        have ltb2 := Aside0.mk hb2.lt
        clear lb
        have hu4 := Aside0.mk hu
        clear hu
        refine step_new (cs := [.int .i64 a1_0, .int .i64 a1_1, .int .i64 a1_2]) (T := 39) (f := fun b => .pointer (some ⟨b, 0, none⟩)) rfl (by first | (go_simp; done) | (go_simp; rfl)) ?_
        intro b5 w6 hu lb hb5
        simp only [Act.put, List.setIfInBounds_toArray, List.set_cons_zero, List.set_cons_succ, i64_w]
        have lbb5 := Aside0.mk lb
        have ltb5 := Aside0.mk hb5.lt
        clear lb
        have hu7 := Aside0.mk hu
        clear hu
        refine wpList_plain rfl (fun Ko hKo => ?_)
        go_simp
        refine hKo _ _ ?_
        clear hKo Ko
        try simp only [Act.put, List.setIfInBounds_toArray, List.set_cons_zero, List.set_cons_succ, i64_w]
        refine wpList_nil ?_
        (try simp only [Exit.then, Exit.inBlock, ↓reduceIte, Nat.reduceEqDiff])
        refine hK1 _ _ ?_
        refine wp_seq_k (fun K8 hK8 => ?_)
        refine wp_seq_k (fun K9 hK9 => ?_)
        refine wp_region_lit ?_
        refine wpList_plain rfl (fun Ko hKo => ?_)
        go_simp
        refine hKo _ _ ?_
        clear hKo Ko
        try simp only [Act.put, List.setIfInBounds_toArray, List.set_cons_zero, List.set_cons_succ, i64_w]
        refine wpList_nil ?_
        (try simp only [Exit.then, Exit.inBlock, ↓reduceIte, Nat.reduceEqDiff])
        refine hK9 _ _ ?_
        refine wp_block ?_
        refine wp_loop_rounds 40 ?_
        refine rounds_k (fun K10 hK10 => ?_)
        refine wp_seq_k (fun K11 hK11 => ?_)
        refine wp_seq_k (fun K12 hK12 => ?_)
        refine wp_region_lit ?_
        refine wpList_plain rfl (fun Ko hKo => ?_)
        go_simp
        refine hKo _ _ ?_
        clear hKo Ko
        try simp only [Act.put, List.setIfInBounds_toArray, List.set_cons_zero, List.set_cons_succ, i64_w]
        refine wpList_plain rfl (fun Ko hKo => ?_)
        go_simp
        refine hKo _ _ ?_
        clear hKo Ko
        try simp only [Act.put, List.setIfInBounds_toArray, List.set_cons_zero, List.set_cons_succ, i64_w]
        refine wpList_nil ?_
        (try simp only [Exit.then, Exit.inBlock, ↓reduceIte, Nat.reduceEqDiff])
        refine hK12 _ _ ?_
        refine wp_cond_true rfl ?_
        refine wp_skip ?_
        (try simp only [Exit.then, Exit.inBlock, ↓reduceIte, Nat.reduceEqDiff])
        refine hK11 _ _ ?_
        refine wp_seq_k (fun K13 hK13 => ?_)
        refine wp_block ?_
        refine wp_seq_k (fun K14 hK14 => ?_)
        refine' wp_region_up 7 [Slot.det _, Slot.det _, Slot.det _, Slot.det _, Slot.det _, Slot.det _, Slot.det _] (by kernel_rfl) (by kernel_rfl) ?main
        case main =>
          simp only [List.take_succ_cons, List.take_zero]
          refine wpK_ops rfl (fun w1 hu => ?_) ?_
          · clear hu
            go_simp
            first | done | rfl
          simp only [Act.put, List.setIfInBounds_toArray, List.set_cons_zero, List.set_cons_succ, i64_w]
          refine wpK_ops rfl (fun w1 hu => ?_) ?_
          · clear hu
            go_simp
            first | done | rfl
          simp only [Act.put, List.setIfInBounds_toArray, List.set_cons_zero, List.set_cons_succ, i64_w]
          refine wpK_ops rfl (fun w1 hu => ?_) ?_
          · have cl0 := ((hb2.up hu7.out).up ((Up.refl _).drew.trans hu)).cell (o := 0) rfl
            go_simp
            first | done | rfl
          simp only [Act.put, List.setIfInBounds_toArray, List.set_cons_zero, List.set_cons_succ, i64_w]
          refine wpK_ops rfl (fun w1 hu => ?_) ?_
          · clear hu
            go_simp
            first | done | rfl
          simp only [Act.put, List.setIfInBounds_toArray, List.set_cons_zero, List.set_cons_succ, i64_w]
          refine wpK_ops rfl (fun w1 hu => ?_) ?_
          · clear hu
            go_simp
            first | done | rfl
          simp only [Act.put, List.setIfInBounds_toArray, List.set_cons_zero, List.set_cons_succ, i64_w]
          refine wpK_ops rfl (fun w1 hu => ?_) ?_
          · have cl0 := (hb5.up ((Up.refl _).drew.trans hu)).cell (o := 0) rfl
            go_simp
            first | done | rfl
          simp only [Act.put, List.setIfInBounds_toArray, List.set_cons_zero, List.set_cons_succ, i64_w]
          refine wpK_ops rfl (fun w1 hu => ?_) ?_
          · clear hu
            go_simp
            first | done | rfl
          simp only [Act.put, List.setIfInBounds_toArray, List.set_cons_zero, List.set_cons_succ, i64_w]
          refine wpK_nil ?_
          intro w15 hu hap
          simp only [List.drop_succ_cons, List.drop_zero]
          replace hu := (Up.refl _).drew.trans hu
          clear hap
          have hu16 := Aside0.mk hu
          clear hu
          refine wpList_nil ?_
          (try simp only [Exit.then, Exit.inBlock, ↓reduceIte, Nat.reduceEqDiff])
          refine hK14 _ _ ?_
          refine wp_cond_false rfl ?_
          refine wp_skip ?_
          (try simp only [Exit.then, Exit.inBlock, ↓reduceIte, Nat.reduceEqDiff])
          refine hK13 _ _ ?_
          refine wp_region_lit ?_
          refine wpList_plain rfl (fun Ko hKo => ?_)
          go_simp
          refine hKo _ _ ?_
          clear hKo Ko
          try simp only [Act.put, List.setIfInBounds_toArray, List.set_cons_zero, List.set_cons_succ, i64_w]
          refine wpList_plain rfl (fun Ko hKo => ?_)
          go_simp
          refine hKo _ _ ?_
          clear hKo Ko
          try simp only [Act.put, List.setIfInBounds_toArray, List.set_cons_zero, List.set_cons_succ, i64_w]
          try simp only [show wrap64 1 = 1 from wlit rfl]
          refine wpList_plain rfl (fun Ko hKo => ?_)
          go_simp
          refine hKo _ _ ?_
          clear hKo Ko
          try simp only [Act.put, List.setIfInBounds_toArray, List.set_cons_zero, List.set_cons_succ, i64_w]
          refine wpList_nil ?_
          (try simp only [Exit.then, Exit.inBlock, ↓reduceIte, Nat.reduceEqDiff])
          refine hK10 _ _ ?_
          refine rounds_k (fun K18 hK18 => ?_)
          refine wp_seq_k (fun K19 hK19 => ?_)
          refine wp_seq_k (fun K20 hK20 => ?_)
          refine wp_region_lit ?_
          refine wpList_plain rfl (fun Ko hKo => ?_)
          go_simp
          refine hKo _ _ ?_
          clear hKo Ko
          try simp only [Act.put, List.setIfInBounds_toArray, List.set_cons_zero, List.set_cons_succ, i64_w]
          refine wpList_plain rfl (fun Ko hKo => ?_)
          go_simp
          refine hKo _ _ ?_
          clear hKo Ko
          try simp only [Act.put, List.setIfInBounds_toArray, List.set_cons_zero, List.set_cons_succ, i64_w]
          refine wpList_nil ?_
          (try simp only [Exit.then, Exit.inBlock, ↓reduceIte, Nat.reduceEqDiff])
          refine hK20 _ _ ?_
          refine wp_cond_true rfl ?_
          refine wp_skip ?_
          (try simp only [Exit.then, Exit.inBlock, ↓reduceIte, Nat.reduceEqDiff])
          refine hK19 _ _ ?_
          refine wp_seq_k (fun K21 hK21 => ?_)
          refine wp_block ?_
          refine wp_seq_k (fun K22 hK22 => ?_)
          refine' wp_region_up 7 [Slot.det _, Slot.det _, Slot.det _, Slot.det _, Slot.det _, Slot.det _, Slot.det _] (by kernel_rfl) (by kernel_rfl) ?main
          case main =>
            simp only [List.take_succ_cons, List.take_zero]
            refine wpK_ops rfl (fun w1 hu => ?_) ?_
            · clear hu
              go_simp
              first | done | rfl
            simp only [Act.put, List.setIfInBounds_toArray, List.set_cons_zero, List.set_cons_succ, i64_w]
            refine wpK_ops rfl (fun w1 hu => ?_) ?_
            · clear hu
              go_simp
              first | done | rfl
            simp only [Act.put, List.setIfInBounds_toArray, List.set_cons_zero, List.set_cons_succ, i64_w]
            refine wpK_ops rfl (fun w1 hu => ?_) ?_
            · have cl0 := ((hb2.up (hu7.out.trans hu16.out)).up ((Up.refl _).drew.trans hu)).cell (o := 1) rfl
              go_simp
              first | done | rfl
            simp only [Act.put, List.setIfInBounds_toArray, List.set_cons_zero, List.set_cons_succ, i64_w]
            refine wpK_ops rfl (fun w1 hu => ?_) ?_
            · clear hu
              go_simp
              first | done | rfl
            simp only [Act.put, List.setIfInBounds_toArray, List.set_cons_zero, List.set_cons_succ, i64_w]
            refine wpK_ops rfl (fun w1 hu => ?_) ?_
            · clear hu
              go_simp
              first | done | rfl
            simp only [Act.put, List.setIfInBounds_toArray, List.set_cons_zero, List.set_cons_succ, i64_w]
            refine wpK_ops rfl (fun w1 hu => ?_) ?_
            · have cl0 := ((hb5.up hu16.out).up ((Up.refl _).drew.trans hu)).cell (o := 1) rfl
              go_simp
              first | done | rfl
            simp only [Act.put, List.setIfInBounds_toArray, List.set_cons_zero, List.set_cons_succ, i64_w]
            refine wpK_ops rfl (fun w1 hu => ?_) ?_
            · clear hu
              go_simp
              first | done | rfl
            simp only [Act.put, List.setIfInBounds_toArray, List.set_cons_zero, List.set_cons_succ, i64_w]
            refine wpK_nil ?_
            intro w23 hu hap
            simp only [List.drop_succ_cons, List.drop_zero]
            replace hu := (Up.refl _).drew.trans hu
            clear hap
            have hu24 := Aside0.mk hu
            clear hu
            refine wpList_nil ?_
            (try simp only [Exit.then, Exit.inBlock, ↓reduceIte, Nat.reduceEqDiff])
            refine hK22 _ _ ?_
            refine wp_cond_false rfl ?_
            refine wp_skip ?_
            (try simp only [Exit.then, Exit.inBlock, ↓reduceIte, Nat.reduceEqDiff])
            refine hK21 _ _ ?_
            refine wp_region_lit ?_
            refine wpList_plain rfl (fun Ko hKo => ?_)
            go_simp
            refine hKo _ _ ?_
            clear hKo Ko
            try simp only [Act.put, List.setIfInBounds_toArray, List.set_cons_zero, List.set_cons_succ, i64_w]
            refine wpList_plain rfl (fun Ko hKo => ?_)
            go_simp
            refine hKo _ _ ?_
            clear hKo Ko
            try simp only [Act.put, List.setIfInBounds_toArray, List.set_cons_zero, List.set_cons_succ, i64_w]
            try simp only [show wrap64 2 = 2 from wlit rfl]
            refine wpList_plain rfl (fun Ko hKo => ?_)
            go_simp
            refine hKo _ _ ?_
            clear hKo Ko
            try simp only [Act.put, List.setIfInBounds_toArray, List.set_cons_zero, List.set_cons_succ, i64_w]
            refine wpList_nil ?_
            (try simp only [Exit.then, Exit.inBlock, ↓reduceIte, Nat.reduceEqDiff])
            refine hK18 _ _ ?_
            refine rounds_k (fun K26 hK26 => ?_)
            refine wp_seq_k (fun K27 hK27 => ?_)
            refine wp_seq_k (fun K28 hK28 => ?_)
            refine wp_region_lit ?_
            refine wpList_plain rfl (fun Ko hKo => ?_)
            go_simp
            refine hKo _ _ ?_
            clear hKo Ko
            try simp only [Act.put, List.setIfInBounds_toArray, List.set_cons_zero, List.set_cons_succ, i64_w]
            refine wpList_plain rfl (fun Ko hKo => ?_)
            go_simp
            refine hKo _ _ ?_
            clear hKo Ko
            try simp only [Act.put, List.setIfInBounds_toArray, List.set_cons_zero, List.set_cons_succ, i64_w]
            refine wpList_nil ?_
            (try simp only [Exit.then, Exit.inBlock, ↓reduceIte, Nat.reduceEqDiff])
            refine hK28 _ _ ?_
            refine wp_cond_true rfl ?_
            refine wp_skip ?_
            (try simp only [Exit.then, Exit.inBlock, ↓reduceIte, Nat.reduceEqDiff])
            refine hK27 _ _ ?_
            refine wp_seq_k (fun K29 hK29 => ?_)
            refine wp_block ?_
            refine wp_seq_k (fun K30 hK30 => ?_)
            refine' wp_region_up 7 [Slot.det _, Slot.det _, Slot.det _, Slot.det _, Slot.det _, Slot.det _, Slot.det _] (by kernel_rfl) (by kernel_rfl) ?main
            case main =>
              simp only [List.take_succ_cons, List.take_zero]
              refine wpK_ops rfl (fun w1 hu => ?_) ?_
              · clear hu
                go_simp
                first | done | rfl
              simp only [Act.put, List.setIfInBounds_toArray, List.set_cons_zero, List.set_cons_succ, i64_w]
              refine wpK_ops rfl (fun w1 hu => ?_) ?_
              · clear hu
                go_simp
                first | done | rfl
              simp only [Act.put, List.setIfInBounds_toArray, List.set_cons_zero, List.set_cons_succ, i64_w]
              refine wpK_ops rfl (fun w1 hu => ?_) ?_
              · have cl0 := ((hb2.up ((hu7.out.trans hu16.out).trans hu24.out)).up ((Up.refl _).drew.trans hu)).cell (o := 2) rfl
                go_simp
                first | done | rfl
              simp only [Act.put, List.setIfInBounds_toArray, List.set_cons_zero, List.set_cons_succ, i64_w]
              refine wpK_ops rfl (fun w1 hu => ?_) ?_
              · clear hu
                go_simp
                first | done | rfl
              simp only [Act.put, List.setIfInBounds_toArray, List.set_cons_zero, List.set_cons_succ, i64_w]
              refine wpK_ops rfl (fun w1 hu => ?_) ?_
              · clear hu
                go_simp
                first | done | rfl
              simp only [Act.put, List.setIfInBounds_toArray, List.set_cons_zero, List.set_cons_succ, i64_w]
              refine wpK_ops rfl (fun w1 hu => ?_) ?_
              · have cl0 := ((hb5.up (hu16.out.trans hu24.out)).up ((Up.refl _).drew.trans hu)).cell (o := 2) rfl
                go_simp
                first | done | rfl
              simp only [Act.put, List.setIfInBounds_toArray, List.set_cons_zero, List.set_cons_succ, i64_w]
              refine wpK_ops rfl (fun w1 hu => ?_) ?_
              · clear hu
                go_simp
                first | done | rfl
              simp only [Act.put, List.setIfInBounds_toArray, List.set_cons_zero, List.set_cons_succ, i64_w]
              refine wpK_nil ?_
              intro w31 hu hap
              simp only [List.drop_succ_cons, List.drop_zero]
              replace hu := (Up.refl _).drew.trans hu
              clear hap
              have hu32 := Aside0.mk hu
              clear hu
              refine wpList_nil ?_
              (try simp only [Exit.then, Exit.inBlock, ↓reduceIte, Nat.reduceEqDiff])
              refine hK30 _ _ ?_
              refine wp_cond_true rfl ?_
              refine wp_seq_k (fun K38 hK38 => ?_)
              refine wp_region_lit ?_
              refine wpList_plain rfl (fun Ko hKo => ?_)
              go_simp
              refine hKo _ _ ?_
              clear hKo Ko
              try simp only [Act.put, List.setIfInBounds_toArray, List.set_cons_zero, List.set_cons_succ, i64_w]
              refine wpList_nil ?_
              (try simp only [Exit.then, Exit.inBlock, ↓reduceIte, Nat.reduceEqDiff])
              refine hK38 _ _ ?_
              refine wp_ret ?_
              (try simp only [Exit.then, Exit.inBlock, ↓reduceIte, Nat.reduceEqDiff])
              refine hQf _ _ _ ?_
              exact bodyPost_ret (v := .bool false) (by first | rfl | (simp [results, Try.results26, go_sem]; done) | (simp [results, Try.results26, go_sem]; rfl)) rfl ⟨rfl, ((((hu4.out.trans hu7.out).trans hu16.out).trans hu24.out).trans hu32.out)⟩
    · rw [if_neg c25] at H
      replace c25 := Bool.eq_false_iff.mpr c25
      have c25n : (a0_1 != a1_1) = true := by rw [bne, c25]; rfl
      have c25p : ¬ a0_1 = a1_1 := fun e => by simp [e] at c25
      obtain rfl := Option.some.inj H
      go_enter Try.func26, Try.ntmps26
      refine wp_hide (fun Qf hQf => ?_)
      refine wp_seq_k (fun K1 hK1 => ?_)
      refine wp_region_lit ?_
      refine step_new (cs := [.int .i64 a0_0, .int .i64 a0_1, .int .i64 a0_2]) (T := 39) (f := fun b => .pointer (some ⟨b, 0, none⟩)) rfl (by first | (go_simp; done) | (go_simp; rfl)) ?_
      intro b2 w3 hu lb hb2
      simp only [Act.put, List.setIfInBounds_toArray, List.set_cons_zero, List.set_cons_succ, i64_w]
      have lbb2 := Aside0.mk lb
      have ltb2 := Aside0.mk hb2.lt
      clear lb
      have hu4 := Aside0.mk hu
      clear hu
      refine step_new (cs := [.int .i64 a1_0, .int .i64 a1_1, .int .i64 a1_2]) (T := 39) (f := fun b => .pointer (some ⟨b, 0, none⟩)) rfl (by first | (go_simp; done) | (go_simp; rfl)) ?_
      intro b5 w6 hu lb hb5
      simp only [Act.put, List.setIfInBounds_toArray, List.set_cons_zero, List.set_cons_succ, i64_w]
      have lbb5 := Aside0.mk lb
      have ltb5 := Aside0.mk hb5.lt
      clear lb
      have hu7 := Aside0.mk hu
      clear hu
      refine wpList_plain rfl (fun Ko hKo => ?_)
      go_simp
      refine hKo _ _ ?_
      clear hKo Ko
      try simp only [Act.put, List.setIfInBounds_toArray, List.set_cons_zero, List.set_cons_succ, i64_w]
      refine wpList_nil ?_
      (try simp only [Exit.then, Exit.inBlock, ↓reduceIte, Nat.reduceEqDiff])
      refine hK1 _ _ ?_
      refine wp_seq_k (fun K8 hK8 => ?_)
      refine wp_seq_k (fun K9 hK9 => ?_)
      refine wp_region_lit ?_
      refine wpList_plain rfl (fun Ko hKo => ?_)
      go_simp
      refine hKo _ _ ?_
      clear hKo Ko
      try simp only [Act.put, List.setIfInBounds_toArray, List.set_cons_zero, List.set_cons_succ, i64_w]
      refine wpList_nil ?_
      (try simp only [Exit.then, Exit.inBlock, ↓reduceIte, Nat.reduceEqDiff])
      refine hK9 _ _ ?_
      refine wp_block ?_
      refine wp_loop_rounds 40 ?_
      refine rounds_k (fun K10 hK10 => ?_)
      refine wp_seq_k (fun K11 hK11 => ?_)
      refine wp_seq_k (fun K12 hK12 => ?_)
      refine wp_region_lit ?_
      refine wpList_plain rfl (fun Ko hKo => ?_)
      go_simp
      refine hKo _ _ ?_
      clear hKo Ko
      try simp only [Act.put, List.setIfInBounds_toArray, List.set_cons_zero, List.set_cons_succ, i64_w]
      refine wpList_plain rfl (fun Ko hKo => ?_)
      go_simp
      refine hKo _ _ ?_
      clear hKo Ko
      try simp only [Act.put, List.setIfInBounds_toArray, List.set_cons_zero, List.set_cons_succ, i64_w]
      refine wpList_nil ?_
      (try simp only [Exit.then, Exit.inBlock, ↓reduceIte, Nat.reduceEqDiff])
      refine hK12 _ _ ?_
      refine wp_cond_true rfl ?_
      refine wp_skip ?_
      (try simp only [Exit.then, Exit.inBlock, ↓reduceIte, Nat.reduceEqDiff])
      refine hK11 _ _ ?_
      refine wp_seq_k (fun K13 hK13 => ?_)
      refine wp_block ?_
      refine wp_seq_k (fun K14 hK14 => ?_)
      refine' wp_region_up 7 [Slot.det _, Slot.det _, Slot.det _, Slot.det _, Slot.det _, Slot.det _, Slot.det _] (by kernel_rfl) (by kernel_rfl) ?main
      case main =>
        simp only [List.take_succ_cons, List.take_zero]
        refine wpK_ops rfl (fun w1 hu => ?_) ?_
        · clear hu
          go_simp
          first | done | rfl
        simp only [Act.put, List.setIfInBounds_toArray, List.set_cons_zero, List.set_cons_succ, i64_w]
        refine wpK_ops rfl (fun w1 hu => ?_) ?_
        · clear hu
          go_simp
          first | done | rfl
        simp only [Act.put, List.setIfInBounds_toArray, List.set_cons_zero, List.set_cons_succ, i64_w]
        refine wpK_ops rfl (fun w1 hu => ?_) ?_
        · have cl0 := ((hb2.up hu7.out).up ((Up.refl _).drew.trans hu)).cell (o := 0) rfl
          go_simp
          first | done | rfl
        simp only [Act.put, List.setIfInBounds_toArray, List.set_cons_zero, List.set_cons_succ, i64_w]
        refine wpK_ops rfl (fun w1 hu => ?_) ?_
        · clear hu
          go_simp
          first | done | rfl
        simp only [Act.put, List.setIfInBounds_toArray, List.set_cons_zero, List.set_cons_succ, i64_w]
        refine wpK_ops rfl (fun w1 hu => ?_) ?_
        · clear hu
          go_simp
          first | done | rfl
        simp only [Act.put, List.setIfInBounds_toArray, List.set_cons_zero, List.set_cons_succ, i64_w]
        refine wpK_ops rfl (fun w1 hu => ?_) ?_
        · have cl0 := (hb5.up ((Up.refl _).drew.trans hu)).cell (o := 0) rfl
          go_simp
          first | done | rfl
        simp only [Act.put, List.setIfInBounds_toArray, List.set_cons_zero, List.set_cons_succ, i64_w]
        refine wpK_ops rfl (fun w1 hu => ?_) ?_
        · clear hu
          go_simp
          first | done | rfl
        simp only [Act.put, List.setIfInBounds_toArray, List.set_cons_zero, List.set_cons_succ, i64_w]
        refine wpK_nil ?_
        intro w15 hu hap
        simp only [List.drop_succ_cons, List.drop_zero]
        replace hu := (Up.refl _).drew.trans hu
        clear hap
        have hu16 := Aside0.mk hu
        clear hu
        refine wpList_nil ?_
        (try simp only [Exit.then, Exit.inBlock, ↓reduceIte, Nat.reduceEqDiff])
        refine hK14 _ _ ?_
        refine wp_cond_false rfl ?_
        refine wp_skip ?_
        (try simp only [Exit.then, Exit.inBlock, ↓reduceIte, Nat.reduceEqDiff])
        refine hK13 _ _ ?_
        refine wp_region_lit ?_
        refine wpList_plain rfl (fun Ko hKo => ?_)
        go_simp
        refine hKo _ _ ?_
        clear hKo Ko
        try simp only [Act.put, List.setIfInBounds_toArray, List.set_cons_zero, List.set_cons_succ, i64_w]
        refine wpList_plain rfl (fun Ko hKo => ?_)
        go_simp
        refine hKo _ _ ?_
        clear hKo Ko
        try simp only [Act.put, List.setIfInBounds_toArray, List.set_cons_zero, List.set_cons_succ, i64_w]
        try simp only [show wrap64 1 = 1 from wlit rfl]
        refine wpList_plain rfl (fun Ko hKo => ?_)
        go_simp
        refine hKo _ _ ?_
        clear hKo Ko
        try simp only [Act.put, List.setIfInBounds_toArray, List.set_cons_zero, List.set_cons_succ, i64_w]
        refine wpList_nil ?_
        (try simp only [Exit.then, Exit.inBlock, ↓reduceIte, Nat.reduceEqDiff])
        refine hK10 _ _ ?_
        refine rounds_k (fun K18 hK18 => ?_)
        refine wp_seq_k (fun K19 hK19 => ?_)
        refine wp_seq_k (fun K20 hK20 => ?_)
        refine wp_region_lit ?_
        refine wpList_plain rfl (fun Ko hKo => ?_)
        go_simp
        refine hKo _ _ ?_
        clear hKo Ko
        try simp only [Act.put, List.setIfInBounds_toArray, List.set_cons_zero, List.set_cons_succ, i64_w]
        refine wpList_plain rfl (fun Ko hKo => ?_)
        go_simp
        refine hKo _ _ ?_
        clear hKo Ko
        try simp only [Act.put, List.setIfInBounds_toArray, List.set_cons_zero, List.set_cons_succ, i64_w]
        refine wpList_nil ?_
        (try simp only [Exit.then, Exit.inBlock, ↓reduceIte, Nat.reduceEqDiff])
        refine hK20 _ _ ?_
        refine wp_cond_true rfl ?_
        refine wp_skip ?_
        (try simp only [Exit.then, Exit.inBlock, ↓reduceIte, Nat.reduceEqDiff])
        refine hK19 _ _ ?_
        refine wp_seq_k (fun K21 hK21 => ?_)
        refine wp_block ?_
        refine wp_seq_k (fun K22 hK22 => ?_)
        refine' wp_region_up 7 [Slot.det _, Slot.det _, Slot.det _, Slot.det _, Slot.det _, Slot.det _, Slot.det _] (by kernel_rfl) (by kernel_rfl) ?main
        case main =>
          simp only [List.take_succ_cons, List.take_zero]
          refine wpK_ops rfl (fun w1 hu => ?_) ?_
          · clear hu
            go_simp
            first | done | rfl
          simp only [Act.put, List.setIfInBounds_toArray, List.set_cons_zero, List.set_cons_succ, i64_w]
          refine wpK_ops rfl (fun w1 hu => ?_) ?_
          · clear hu
            go_simp
            first | done | rfl
          simp only [Act.put, List.setIfInBounds_toArray, List.set_cons_zero, List.set_cons_succ, i64_w]
          refine wpK_ops rfl (fun w1 hu => ?_) ?_
          · have cl0 := ((hb2.up (hu7.out.trans hu16.out)).up ((Up.refl _).drew.trans hu)).cell (o := 1) rfl
            go_simp
            first | done | rfl
          simp only [Act.put, List.setIfInBounds_toArray, List.set_cons_zero, List.set_cons_succ, i64_w]
          refine wpK_ops rfl (fun w1 hu => ?_) ?_
          · clear hu
            go_simp
            first | done | rfl
          simp only [Act.put, List.setIfInBounds_toArray, List.set_cons_zero, List.set_cons_succ, i64_w]
          refine wpK_ops rfl (fun w1 hu => ?_) ?_
          · clear hu
            go_simp
            first | done | rfl
          simp only [Act.put, List.setIfInBounds_toArray, List.set_cons_zero, List.set_cons_succ, i64_w]
          refine wpK_ops rfl (fun w1 hu => ?_) ?_
          · have cl0 := ((hb5.up hu16.out).up ((Up.refl _).drew.trans hu)).cell (o := 1) rfl
            go_simp
            first | done | rfl
          simp only [Act.put, List.setIfInBounds_toArray, List.set_cons_zero, List.set_cons_succ, i64_w]
          refine wpK_ops rfl (fun w1 hu => ?_) ?_
          · clear hu
            go_simp
            first | done | rfl
          simp only [Act.put, List.setIfInBounds_toArray, List.set_cons_zero, List.set_cons_succ, i64_w]
          refine wpK_nil ?_
          intro w23 hu hap
          simp only [List.drop_succ_cons, List.drop_zero]
          replace hu := (Up.refl _).drew.trans hu
          clear hap
          have hu24 := Aside0.mk hu
          clear hu
          refine wpList_nil ?_
          (try simp only [Exit.then, Exit.inBlock, ↓reduceIte, Nat.reduceEqDiff])
          refine hK22 _ _ ?_
          refine wp_cond_true rfl ?_
          refine wp_seq_k (fun K39 hK39 => ?_)
          refine wp_region_lit ?_
          refine wpList_plain rfl (fun Ko hKo => ?_)
          go_simp
          refine hKo _ _ ?_
          clear hKo Ko
          try simp only [Act.put, List.setIfInBounds_toArray, List.set_cons_zero, List.set_cons_succ, i64_w]
          refine wpList_nil ?_
          (try simp only [Exit.then, Exit.inBlock, ↓reduceIte, Nat.reduceEqDiff])
          refine hK39 _ _ ?_
          refine wp_ret ?_
          (try simp only [Exit.then, Exit.inBlock, ↓reduceIte, Nat.reduceEqDiff])
          refine hQf _ _ _ ?_
          exact bodyPost_ret (v := .bool false) (by first | rfl | (simp [results, Try.results26, go_sem]; done) | (simp [results, Try.results26, go_sem]; rfl)) rfl ⟨rfl, (((hu4.out.trans hu7.out).trans hu16.out).trans hu24.out)⟩
  · rw [if_neg c17] at H
    replace c17 := Bool.eq_false_iff.mpr c17
    have c17n : (a0_0 != a1_0) = true := by rw [bne, c17]; rfl
    have c17p : ¬ a0_0 = a1_0 := fun e => by simp [e] at c17
    obtain rfl := Option.some.inj H
    go_enter Try.func26, Try.ntmps26
    refine wp_hide (fun Qf hQf => ?_)
    refine wp_seq_k (fun K1 hK1 => ?_)
    refine wp_region_lit ?_
    refine step_new (cs := [.int .i64 a0_0, .int .i64 a0_1, .int .i64 a0_2]) (T := 39) (f := fun b => .pointer (some ⟨b, 0, none⟩)) rfl (by first | (go_simp; done) | (go_simp; rfl)) ?_
    intro b2 w3 hu lb hb2
    simp only [Act.put, List.setIfInBounds_toArray, List.set_cons_zero, List.set_cons_succ, i64_w]
    have lbb2 := Aside0.mk lb
    have ltb2 := Aside0.mk hb2.lt
    clear lb
    have hu4 := Aside0.mk hu
    clear hu
    refine step_new (cs := [.int .i64 a1_0, .int .i64 a1_1, .int .i64 a1_2]) (T := 39) (f := fun b => .pointer (some ⟨b, 0, none⟩)) rfl (by first | (go_simp; done) | (go_simp; rfl)) ?_
    intro b5 w6 hu lb hb5
    simp only [Act.put, List.setIfInBounds_toArray, List.set_cons_zero, List.set_cons_succ, i64_w]
    have lbb5 := Aside0.mk lb
    have ltb5 := Aside0.mk hb5.lt
    clear lb
    have hu7 := Aside0.mk hu
    clear hu
    refine wpList_plain rfl (fun Ko hKo => ?_)
    go_simp
    refine hKo _ _ ?_
    clear hKo Ko
    try simp only [Act.put, List.setIfInBounds_toArray, List.set_cons_zero, List.set_cons_succ, i64_w]
    refine wpList_nil ?_
    (try simp only [Exit.then, Exit.inBlock, ↓reduceIte, Nat.reduceEqDiff])
    refine hK1 _ _ ?_
    refine wp_seq_k (fun K8 hK8 => ?_)
    refine wp_seq_k (fun K9 hK9 => ?_)
    refine wp_region_lit ?_
    refine wpList_plain rfl (fun Ko hKo => ?_)
    go_simp
    refine hKo _ _ ?_
    clear hKo Ko
    try simp only [Act.put, List.setIfInBounds_toArray, List.set_cons_zero, List.set_cons_succ, i64_w]
    refine wpList_nil ?_
    (try simp only [Exit.then, Exit.inBlock, ↓reduceIte, Nat.reduceEqDiff])
    refine hK9 _ _ ?_
    refine wp_block ?_
    refine wp_loop_rounds 40 ?_
    refine rounds_k (fun K10 hK10 => ?_)
    refine wp_seq_k (fun K11 hK11 => ?_)
    refine wp_seq_k (fun K12 hK12 => ?_)
    refine wp_region_lit ?_
    refine wpList_plain rfl (fun Ko hKo => ?_)
    go_simp
    refine hKo _ _ ?_
    clear hKo Ko
    try simp only [Act.put, List.setIfInBounds_toArray, List.set_cons_zero, List.set_cons_succ, i64_w]
    refine wpList_plain rfl (fun Ko hKo => ?_)
    go_simp
    refine hKo _ _ ?_
    clear hKo Ko
    try simp only [Act.put, List.setIfInBounds_toArray, List.set_cons_zero, List.set_cons_succ, i64_w]
    refine wpList_nil ?_
    (try simp only [Exit.then, Exit.inBlock, ↓reduceIte, Nat.reduceEqDiff])
    refine hK12 _ _ ?_
    refine wp_cond_true rfl ?_
    refine wp_skip ?_
    (try simp only [Exit.then, Exit.inBlock, ↓reduceIte, Nat.reduceEqDiff])
    refine hK11 _ _ ?_
    refine wp_seq_k (fun K13 hK13 => ?_)
    refine wp_block ?_
    refine wp_seq_k (fun K14 hK14 => ?_)
    refine' wp_region_up 7 [Slot.det _, Slot.det _, Slot.det _, Slot.det _, Slot.det _, Slot.det _, Slot.det _] (by kernel_rfl) (by kernel_rfl) ?main
    case main =>
      simp only [List.take_succ_cons, List.take_zero]
      refine wpK_ops rfl (fun w1 hu => ?_) ?_
      · clear hu
        go_simp
        first | done | rfl
      simp only [Act.put, List.setIfInBounds_toArray, List.set_cons_zero, List.set_cons_succ, i64_w]
      refine wpK_ops rfl (fun w1 hu => ?_) ?_
      · clear hu
        go_simp
        first | done | rfl
      simp only [Act.put, List.setIfInBounds_toArray, List.set_cons_zero, List.set_cons_succ, i64_w]
      refine wpK_ops rfl (fun w1 hu => ?_) ?_
      · have cl0 := ((hb2.up hu7.out).up ((Up.refl _).drew.trans hu)).cell (o := 0) rfl
        go_simp
        first | done | rfl
      simp only [Act.put, List.setIfInBounds_toArray, List.set_cons_zero, List.set_cons_succ, i64_w]
      refine wpK_ops rfl (fun w1 hu => ?_) ?_
      · clear hu
        go_simp
        first | done | rfl
      simp only [Act.put, List.setIfInBounds_toArray, List.set_cons_zero, List.set_cons_succ, i64_w]
      refine wpK_ops rfl (fun w1 hu => ?_) ?_
      · clear hu
        go_simp
        first | done | rfl
      simp only [Act.put, List.setIfInBounds_toArray, List.set_cons_zero, List.set_cons_succ, i64_w]
      refine wpK_ops rfl (fun w1 hu => ?_) ?_
      · have cl0 := (hb5.up ((Up.refl _).drew.trans hu)).cell (o := 0) rfl
        go_simp
        first | done | rfl
      simp only [Act.put, List.setIfInBounds_toArray, List.set_cons_zero, List.set_cons_succ, i64_w]
      refine wpK_ops rfl (fun w1 hu => ?_) ?_
      · clear hu
        go_simp
        first | done | rfl
      simp only [Act.put, List.setIfInBounds_toArray, List.set_cons_zero, List.set_cons_succ, i64_w]
      refine wpK_nil ?_
      intro w15 hu hap
      simp only [List.drop_succ_cons, List.drop_zero]
      replace hu := (Up.refl _).drew.trans hu
      clear hap
      have hu16 := Aside0.mk hu
      clear hu
      refine wpList_nil ?_
      (try simp only [Exit.then, Exit.inBlock, ↓reduceIte, Nat.reduceEqDiff])
      refine hK14 _ _ ?_
      refine wp_cond_true rfl ?_
      refine wp_seq_k (fun K40 hK40 => ?_)
      refine wp_region_lit ?_
      refine wpList_plain rfl (fun Ko hKo => ?_)
      go_simp
      refine hKo _ _ ?_
      clear hKo Ko
      try simp only [Act.put, List.setIfInBounds_toArray, List.set_cons_zero, List.set_cons_succ, i64_w]
      refine wpList_nil ?_
      (try simp only [Exit.then, Exit.inBlock, ↓reduceIte, Nat.reduceEqDiff])
      refine hK40 _ _ ?_
      refine wp_ret ?_
      (try simp only [Exit.then, Exit.inBlock, ↓reduceIte, Nat.reduceEqDiff])
      refine hQf _ _ _ ?_
      exact bodyPost_ret (v := .bool false) (by first | rfl | (simp [results, Try.results26, go_sem]; done) | (simp [results, Try.results26, go_sem]; rfl)) rfl ⟨rfl, ((hu4.out.trans hu7.out).trans hu16.out)⟩

set_option maxHeartbeats 4000000 in
set_option maxRecDepth 100000 in
theorem laws_FnExactMedianOf.calls (K : Nat) (a0 : Int) (a1_0 : Int) (a1_1 : Int) (a2_0 : Int) (a2_1 : Int) (a3_0 : Int) (a3_1 : Int) (r0 : Bool) (w : World)  (h : laws_FnExactMedianOf.f K a0 a1_0 a1_1 a2_0 a2_1 a3_0 a3_1 = some (r0)) :
    Calls Try.prog 6 #[.int .i64 a0, .agg #[.int .i64 a1_0, .int .i64 a1_1], .agg #[.int .i64 a2_0, .int .i64 a2_1], .agg #[.int .i64 a3_0, .int .i64 a3_1]] w fun e w' => e = .returned (.bool r0) ∧ Up w w' := by
  have H : (((laws_toPoint.f K a1_0 a1_1).bind fun (t12, t13) => ((laws_toPoint.f K a2_0 a2_1).bind fun (t15, t16) => ((laws_toPoint.f K a3_0 a3_1).bind fun (t18, t19) => ((spec_MedianOf.f K a0 t12 t13 t15 t16 t18 t19).bind fun (t21, t22, t23, t24) => ((laws_toPoint.f K a1_0 a1_1).bind fun (t34, t35) => ((laws_toPoint.f K a2_0 a2_1).bind fun (t37, t38) => ((laws_toPoint.f K a3_0 a3_1).bind fun (t40, t41) => ((impl_MedianOf.f K a0 t34 t35 t37 t38 t40 t41).bind fun (t43, t44, t45, t46) => ((laws_eqLine.f K t43 t44 t45 t21 t22 t23).bind fun t57 => (if t57 = true then (if (t46 == t24) = true then some true else some false) else some false)))))))))) : Option (Bool)) = some (r0) := h
  clear h
  replace H := Option.bind_eq_some_iff.mp H
  obtain ⟨⟨t12, t13⟩, A14, H⟩ := H
  replace A14 := Aside0.mk A14
  try dsimp only at H
  replace H := Option.bind_eq_some_iff.mp H
  obtain ⟨⟨t15, t16⟩, A17, H⟩ := H
  replace A17 := Aside0.mk A17
  try dsimp only at H
  replace H := Option.bind_eq_some_iff.mp H
  obtain ⟨⟨t18, t19⟩, A20, H⟩ := H
  replace A20 := Aside0.mk A20
  try dsimp only at H
  replace H := Option.bind_eq_some_iff.mp H
  obtain ⟨⟨t21, t22, t23, t24⟩, A25, H⟩ := H
  replace A25 := Aside0.mk A25
  try dsimp only at H
  replace H := Option.bind_eq_some_iff.mp H
  obtain ⟨⟨t34, t35⟩, A36, H⟩ := H
  replace A36 := Aside0.mk A36
  try dsimp only at H
  replace H := Option.bind_eq_some_iff.mp H
  obtain ⟨⟨t37, t38⟩, A39, H⟩ := H
  replace A39 := Aside0.mk A39
  try dsimp only at H
  replace H := Option.bind_eq_some_iff.mp H
  obtain ⟨⟨t40, t41⟩, A42, H⟩ := H
  replace A42 := Aside0.mk A42
  try dsimp only at H
  replace H := Option.bind_eq_some_iff.mp H
  obtain ⟨⟨t43, t44, t45, t46⟩, A47, H⟩ := H
  replace A47 := Aside0.mk A47
  try dsimp only at H
  replace H := Option.bind_eq_some_iff.mp H
  obtain ⟨t57, A58, H⟩ := H
  replace A58 := Aside0.mk A58
  try dsimp only at H
  by_cases c61 : (t57) = true
  · rw [if_pos c61] at H
    subst c61
    by_cases c62 : (t46 == t24) = true
    · rw [if_pos c62] at H
      have c62n : (t46 != t24) = false := by rw [bne, c62]; rfl
      obtain rfl := Option.some.inj H
      go_enter Try.func6, Try.ntmps6
      refine wp_hide (fun Qf hQf => ?_)
      refine wp_seq_k (fun K1 hK1 => ?_)
      refine wp_region_lit ?_
      refine step_new (cs := [.int .i64 a1_0, .int .i64 a1_1]) (T := 22) (f := fun b => .pointer (some ⟨b, 0, none⟩)) rfl (by first | (go_simp; done) | (go_simp; rfl)) ?_
      intro b2 w3 hu lb hb2
      simp only [Act.put, List.setIfInBounds_toArray, List.set_cons_zero, List.set_cons_succ, i64_w]
      have lbb2 := Aside0.mk lb
      have ltb2 := Aside0.mk hb2.lt
      clear lb
      have hu4 := Aside0.mk hu
      clear hu
      refine step_new (cs := [.int .i64 a2_0, .int .i64 a2_1]) (T := 22) (f := fun b => .pointer (some ⟨b, 0, none⟩)) rfl (by first | (go_simp; done) | (go_simp; rfl)) ?_
      intro b5 w6 hu lb hb5
      simp only [Act.put, List.setIfInBounds_toArray, List.set_cons_zero, List.set_cons_succ, i64_w]
      have lbb5 := Aside0.mk lb
      have ltb5 := Aside0.mk hb5.lt
      clear lb
      have hu7 := Aside0.mk hu
      clear hu
      refine step_new (cs := [.int .i64 a3_0, .int .i64 a3_1]) (T := 22) (f := fun b => .pointer (some ⟨b, 0, none⟩)) rfl (by first | (go_simp; done) | (go_simp; rfl)) ?_
      intro b8 w9 hu lb hb8
      simp only [Act.put, List.setIfInBounds_toArray, List.set_cons_zero, List.set_cons_succ, i64_w]
      have lbb8 := Aside0.mk lb
      have ltb8 := Aside0.mk hb8.lt
      clear lb
      have hu10 := Aside0.mk hu
      clear hu
      refine wpList_plain rfl (fun Ko hKo => ?_)
      go_simp
      refine hKo _ _ ?_
      clear hKo Ko
      try simp only [Act.put, List.setIfInBounds_toArray, List.set_cons_zero, List.set_cons_succ, i64_w]
      refine wpList_nil ?_
      (try simp only [Exit.then, Exit.inBlock, ↓reduceIte, Nat.reduceEqDiff])
      refine hK1 _ _ ?_
      refine wp_seq_k (fun K11 hK11 => ?_)
      refine' wp_region_late 12 [10] [Slot.det _, Slot.det _, Slot.det (.agg #[.int .i64 t12, .int .i64 t13]), Slot.det _, Slot.det (.agg #[.int .i64 t15, .int .i64 t16]), Slot.det _, Slot.det (.agg #[.int .i64 t18, .int .i64 t19]), Slot.det (.tuple #[.agg #[.int .i64 t21, .int .i64 t22, .int .i64 t23], .int .i64 t24]), Slot.det _, Slot.det _, Slot.det _, Slot.any (PtrTo [.int .i64 0, .int .i64 0, .int .i64 0] 39) true] (by kernel_rfl) [true, true, true, true, true, true, true, true, true, true, true, false] (by kernel_rfl) rfl (by kernel_rfl) (by decide) ?main
      case main =>
        simp only [List.take_succ_cons, List.take_zero]
        refine wpK_ops rfl (fun w1 hu => ?_) ?_
        · clear hu
          go_simp
          first | done | rfl
        simp only [Act.put, List.setIfInBounds_toArray, List.set_cons_zero, List.set_cons_succ, i64_w]
        refine wpK_ops rfl (fun w1 hu => ?_) ?_
        · have cl0 := ((hb2.up (hu7.out.trans hu10.out)).up ((Up.refl _).drew.trans hu)).cell (o := 0) rfl
          have cl1 := ((hb2.up (hu7.out.trans hu10.out)).up ((Up.refl _).drew.trans hu)).cell (o := 1) rfl
          go_simp
          first | done | rfl
        simp only [Act.put, List.setIfInBounds_toArray, List.set_cons_zero, List.set_cons_succ, i64_w]
        refine wpK_ops rfl (fun w1 hu => ?_) ?_
        · have hcl := laws_toPoint.calls K a1_0 a1_1 t12 t13 w1  A14.out
          clear hu
          replace hcl := Aside0.mk hcl
          go_simp
          exact hcl.out
        simp only [Act.put, List.setIfInBounds_toArray, List.set_cons_zero, List.set_cons_succ, i64_w]
        refine wpK_ops rfl (fun w1 hu => ?_) ?_
        · have cl0 := ((hb5.up hu10.out).up ((Up.refl _).drew.trans hu)).cell (o := 0) rfl
          have cl1 := ((hb5.up hu10.out).up ((Up.refl _).drew.trans hu)).cell (o := 1) rfl
          go_simp
          first | done | rfl
        simp only [Act.put, List.setIfInBounds_toArray, List.set_cons_zero, List.set_cons_succ, i64_w]
        refine wpK_ops rfl (fun w1 hu => ?_) ?_
        · have hcl := laws_toPoint.calls K a2_0 a2_1 t15 t16 w1  A17.out
          clear hu
          replace hcl := Aside0.mk hcl
          go_simp
          exact hcl.out
        simp only [Act.put, List.setIfInBounds_toArray, List.set_cons_zero, List.set_cons_succ, i64_w]
        refine wpK_ops rfl (fun w1 hu => ?_) ?_
        · have cl0 := (hb8.up ((Up.refl _).drew.trans hu)).cell (o := 0) rfl
          have cl1 := (hb8.up ((Up.refl _).drew.trans hu)).cell (o := 1) rfl
          go_simp
          first | done | rfl
        simp only [Act.put, List.setIfInBounds_toArray, List.set_cons_zero, List.set_cons_succ, i64_w]
        refine wpK_ops rfl (fun w1 hu => ?_) ?_
        · have hcl := laws_toPoint.calls K a3_0 a3_1 t18 t19 w1  A20.out
          clear hu
          replace hcl := Aside0.mk hcl
          go_simp
          exact hcl.out
        simp only [Act.put, List.setIfInBounds_toArray, List.set_cons_zero, List.set_cons_succ, i64_w]
        refine wpK_ops rfl (fun w1 hu => ?_) ?_
        · have hcl := spec_MedianOf.calls K a0 t12 t13 t15 t16 t18 t19 t21 t22 t23 t24 w1  A25.out
          clear hu
          replace hcl := Aside0.mk hcl
          go_simp
          exact hcl.out
        simp only [Act.put, List.setIfInBounds_toArray, List.set_cons_zero, List.set_cons_succ, i64_w]
        refine wpK_ops rfl (fun w1 hu => ?_) ?_
        · clear hu
          go_simp
          first | done | rfl
        simp only [Act.put, List.setIfInBounds_toArray, List.set_cons_zero, List.set_cons_succ, i64_w]
        refine wpK_ops rfl (fun w1 hu => ?_) ?_
        · clear hu
          go_simp
          first | done | rfl
        simp only [Act.put, List.setIfInBounds_toArray, List.set_cons_zero, List.set_cons_succ, i64_w]
        refine wpK_ops rfl (fun w1 hu => ?_) ?_
        · clear hu
          go_simp
          first | done | rfl
        simp only [Act.put, List.setIfInBounds_toArray, List.set_cons_zero, List.set_cons_succ, i64_w]
        refine wpK_any rfl (stab_ptr _ _) (fun w1 _ _ => fresh_ptr (by first | (go_simp; done) | (go_simp; rfl))) (fun v26 => ?_)
        simp only [Act.put, List.setIfInBounds_toArray, List.set_cons_zero, List.set_cons_succ, i64_w]
        refine wpK_nil ?_
        intro w28 hu hap
        simp only [List.drop_succ_cons, List.drop_zero]
        replace hu := (Up.refl _).drew.trans hu
        obtain ⟨hf0, hn0, ⟨b27, e0, hb27⟩, -⟩ := hap
        have lbb27 := Aside0.mk (hf0 rfl b27 (by rw [e0]; rfl)).1
        have ltb27 := Aside0.mk hb27.lt
        dsimp only at e0
        subst e0
        clear hf0 hn0
        have hu29 := Aside0.mk hu
        clear hu
        refine late_cons (Up.of_drew hu29.out) ?_
        have hB0 := hb27
        have cl0 := hB0.cell (o := 0) rfl
        have fr0 := hB0.free 0
        have cl1 := hB0.cell (o := 1) rfl
        have fr1 := hB0.free 1
        have cl2 := hB0.cell (o := 2) rfl
        have fr2 := hB0.free 2
        refine step_store (b := b27) (cs' := [.int .i64 t21, .int .i64 t22, .int .i64 t23]) (T := 39) (W' := (((w28.setCell ⟨b27, 0, none⟩ (.int .i64 t21)).setCell ⟨b27, 1, none⟩ (.int .i64 t22)).setCell ⟨b27, 2, none⟩ (.int .i64 t23))) rfl rfl (by first | (go_simp; done) | (go_simp; rfl)) ((((Sto.refl _ _).setCell 0 _).setCell 1 _).setCell 2 _) ((((hB0).setCell 0 _).setCell 1 _).setCell 2 _) ?_
        clear hB0 cl0 fr0 cl1 fr1 cl2 fr2
        intro w30 hs hb32
        have hs31 := Aside0.mk hs
        clear hs
        refine wpList_nil ?_
        refine wrapQ_k ?_
        refine late_cons (Up.of_drew (hu29.out.sto (Nat.le_trans (Nat.le_refl _) lbb27.out) hs31.out)) ?_
        refine wpList_plain rfl (fun Ko hKo => ?_)
        go_simp
        refine hKo _ _ ?_
        clear hKo Ko
        try simp only [Act.put, List.setIfInBounds_toArray, List.set_cons_zero, List.set_cons_succ, i64_w]
        refine wpList_nil ?_
        refine wrapQ_k ?_
        refine late_nil (Up.of_drew (hu29.out.sto (Nat.le_trans (Nat.le_refl _) lbb27.out) hs31.out)) ?_
        (try simp only [Exit.then, Exit.inBlock, ↓reduceIte, Nat.reduceEqDiff])
        refine hK11 _ _ ?_
        refine wp_seq_k (fun K33 hK33 => ?_)
        refine' wp_region_late 12 [10] [Slot.det _, Slot.det _, Slot.det (.agg #[.int .i64 t34, .int .i64 t35]), Slot.det _, Slot.det (.agg #[.int .i64 t37, .int .i64 t38]), Slot.det _, Slot.det (.agg #[.int .i64 t40, .int .i64 t41]), Slot.det (.tuple #[.agg #[.int .i64 t43, .int .i64 t44, .int .i64 t45], .int .i64 t46]), Slot.det _, Slot.det _, Slot.det _, Slot.any (PtrTo [.int .i64 0, .int .i64 0, .int .i64 0] 39) true] (by kernel_rfl) [true, true, true, true, true, true, true, true, true, true, true, false] (by kernel_rfl) rfl (by kernel_rfl) (by decide) ?main
        case main =>
          simp only [List.take_succ_cons, List.take_zero]
          refine wpK_ops rfl (fun w1 hu => ?_) ?_
          · clear hu
            go_simp
            first | done | rfl
          simp only [Act.put, List.setIfInBounds_toArray, List.set_cons_zero, List.set_cons_succ, i64_w]
          refine wpK_ops rfl (fun w1 hu => ?_) ?_
          · have cl0 := ((hb2.up (((hu7.out.trans hu10.out).trans hu29.out).sto (Nat.le_trans ((Nat.le_trans (hu7.out.size) hu10.out.size)) lbb27.out) hs31.out)).up ((Up.refl _).drew.trans hu)).cell (o := 0) rfl
            have cl1 := ((hb2.up (((hu7.out.trans hu10.out).trans hu29.out).sto (Nat.le_trans ((Nat.le_trans (hu7.out.size) hu10.out.size)) lbb27.out) hs31.out)).up ((Up.refl _).drew.trans hu)).cell (o := 1) rfl
            go_simp
            first | done | rfl
          simp only [Act.put, List.setIfInBounds_toArray, List.set_cons_zero, List.set_cons_succ, i64_w]
          refine wpK_ops rfl (fun w1 hu => ?_) ?_
          · have hcl := laws_toPoint.calls K a1_0 a1_1 t34 t35 w1  A36.out
            clear hu
            replace hcl := Aside0.mk hcl
            go_simp
            exact hcl.out
          simp only [Act.put, List.setIfInBounds_toArray, List.set_cons_zero, List.set_cons_succ, i64_w]
          refine wpK_ops rfl (fun w1 hu => ?_) ?_
          · have cl0 := ((hb5.up ((hu10.out.trans hu29.out).sto (Nat.le_trans (hu10.out.size) lbb27.out) hs31.out)).up ((Up.refl _).drew.trans hu)).cell (o := 0) rfl
            have cl1 := ((hb5.up ((hu10.out.trans hu29.out).sto (Nat.le_trans (hu10.out.size) lbb27.out) hs31.out)).up ((Up.refl _).drew.trans hu)).cell (o := 1) rfl
            go_simp
            first | done | rfl
          simp only [Act.put, List.setIfInBounds_toArray, List.set_cons_zero, List.set_cons_succ, i64_w]
          refine wpK_ops rfl (fun w1 hu => ?_) ?_
          · have hcl := laws_toPoint.calls K a2_0 a2_1 t37 t38 w1  A39.out
            clear hu
            replace hcl := Aside0.mk hcl
            go_simp
            exact hcl.out
          simp only [Act.put, List.setIfInBounds_toArray, List.set_cons_zero, List.set_cons_succ, i64_w]
          refine wpK_ops rfl (fun w1 hu => ?_) ?_
          · have cl0 := ((hb8.up (hu29.out.sto (Nat.le_trans (Nat.le_refl _) lbb27.out) hs31.out)).up ((Up.refl _).drew.trans hu)).cell (o := 0) rfl
            have cl1 := ((hb8.up (hu29.out.sto (Nat.le_trans (Nat.le_refl _) lbb27.out) hs31.out)).up ((Up.refl _).drew.trans hu)).cell (o := 1) rfl
            go_simp
            first | done | rfl
          simp only [Act.put, List.setIfInBounds_toArray, List.set_cons_zero, List.set_cons_succ, i64_w]
          refine wpK_ops rfl (fun w1 hu => ?_) ?_
          · have hcl := laws_toPoint.calls K a3_0 a3_1 t40 t41 w1  A42.out
            clear hu
            replace hcl := Aside0.mk hcl
            go_simp
            exact hcl.out
          simp only [Act.put, List.setIfInBounds_toArray, List.set_cons_zero, List.set_cons_succ, i64_w]
          refine wpK_ops rfl (fun w1 hu => ?_) ?_
          · have hcl := impl_MedianOf.calls K a0 t34 t35 t37 t38 t40 t41 t43 t44 t45 t46 w1  A47.out
            clear hu
            replace hcl := Aside0.mk hcl
            go_simp
            exact hcl.out
          simp only [Act.put, List.setIfInBounds_toArray, List.set_cons_zero, List.set_cons_succ, i64_w]
          refine wpK_ops rfl (fun w1 hu => ?_) ?_
          · clear hu
            go_simp
            first | done | rfl
          simp only [Act.put, List.setIfInBounds_toArray, List.set_cons_zero, List.set_cons_succ, i64_w]
          refine wpK_ops rfl (fun w1 hu => ?_) ?_
          · clear hu
            go_simp
            first | done | rfl
          simp only [Act.put, List.setIfInBounds_toArray, List.set_cons_zero, List.set_cons_succ, i64_w]
          refine wpK_ops rfl (fun w1 hu => ?_) ?_
          · clear hu
            go_simp
            first | done | rfl
          simp only [Act.put, List.setIfInBounds_toArray, List.set_cons_zero, List.set_cons_succ, i64_w]
          refine wpK_any rfl (stab_ptr _ _) (fun w1 _ _ => fresh_ptr (by first | (go_simp; done) | (go_simp; rfl))) (fun v48 => ?_)
          simp only [Act.put, List.setIfInBounds_toArray, List.set_cons_zero, List.set_cons_succ, i64_w]
          refine wpK_nil ?_
          intro w50 hu hap
          simp only [List.drop_succ_cons, List.drop_zero]
          replace hu := (Up.refl _).drew.trans hu
          obtain ⟨hf0, hn0, ⟨b49, e0, hb49⟩, -⟩ := hap
          have lbb49 := Aside0.mk (hf0 rfl b49 (by rw [e0]; rfl)).1
          have ltb49 := Aside0.mk hb49.lt
          dsimp only at e0
          subst e0
          clear hf0 hn0
          have hu51 := Aside0.mk hu
          clear hu
          refine late_cons (Up.of_drew hu51.out) ?_
          have hB0 := hb49
          have cl0 := hB0.cell (o := 0) rfl
          have fr0 := hB0.free 0
          have cl1 := hB0.cell (o := 1) rfl
          have fr1 := hB0.free 1
          have cl2 := hB0.cell (o := 2) rfl
          have fr2 := hB0.free 2
          refine step_store (b := b49) (cs' := [.int .i64 t43, .int .i64 t44, .int .i64 t45]) (T := 39) (W' := (((w50.setCell ⟨b49, 0, none⟩ (.int .i64 t43)).setCell ⟨b49, 1, none⟩ (.int .i64 t44)).setCell ⟨b49, 2, none⟩ (.int .i64 t45))) rfl rfl (by first | (go_simp; done) | (go_simp; rfl)) ((((Sto.refl _ _).setCell 0 _).setCell 1 _).setCell 2 _) ((((hB0).setCell 0 _).setCell 1 _).setCell 2 _) ?_
          clear hB0 cl0 fr0 cl1 fr1 cl2 fr2
          intro w52 hs hb54
          have hs53 := Aside0.mk hs
          clear hs
          refine wpList_nil ?_
          refine wrapQ_k ?_
          refine late_cons (Up.of_drew (hu51.out.sto (Nat.le_trans (Nat.le_refl _) lbb49.out) hs53.out)) ?_
          refine wpList_plain rfl (fun Ko hKo => ?_)
          go_simp
          refine hKo _ _ ?_
          clear hKo Ko
          try simp only [Act.put, List.setIfInBounds_toArray, List.set_cons_zero, List.set_cons_succ, i64_w]
          refine wpList_nil ?_
          refine wrapQ_k ?_
          refine late_nil (Up.of_drew (hu51.out.sto (Nat.le_trans (Nat.le_refl _) lbb49.out) hs53.out)) ?_
          (try simp only [Exit.then, Exit.inBlock, ↓reduceIte, Nat.reduceEqDiff])
          refine hK33 _ _ ?_
          refine wp_seq_k (fun K55 hK55 => ?_)
          refine wp_seq_k (fun K56 hK56 => ?_)
          refine wp_region_lit ?_
          have cl0 := hb54.cell (o := 0) rfl
          have cl1 := hb54.cell (o := 1) rfl
          have cl2 := hb54.cell (o := 2) rfl
          refine wpList_plain rfl (fun Ko hKo => ?_)
          go_simp
          refine hKo _ _ ?_
          clear hKo Ko
          clear cl0 cl1 cl2
          try simp only [Act.put, List.setIfInBounds_toArray, List.set_cons_zero, List.set_cons_succ, i64_w]
          have cl0 := (hb32.up (hu51.out.sto (Nat.le_trans (Nat.le_refl _) lbb49.out) hs53.out)).cell (o := 0) rfl
          have cl1 := (hb32.up (hu51.out.sto (Nat.le_trans (Nat.le_refl _) lbb49.out) hs53.out)).cell (o := 1) rfl
          have cl2 := (hb32.up (hu51.out.sto (Nat.le_trans (Nat.le_refl _) lbb49.out) hs53.out)).cell (o := 2) rfl
          refine wpList_plain rfl (fun Ko hKo => ?_)
          go_simp
          refine hKo _ _ ?_
          clear hKo Ko
          clear cl0 cl1 cl2
          try simp only [Act.put, List.setIfInBounds_toArray, List.set_cons_zero, List.set_cons_succ, i64_w]
          refine step_call (wanted_none rfl) (by first | (go_simp; done) | (go_simp; rfl)) (laws_eqLine.calls K t43 t44 t45 t21 t22 t23 true w52  A58.out) ?_
          rintro e w59 ⟨rfl, hu⟩
          have hu60 := Aside0.mk hu
          clear hu
          refine ⟨_, rfl, ?_⟩
          simp only [Act.put, List.setIfInBounds_toArray, List.set_cons_zero, List.set_cons_succ, i64_w]
          refine wpList_plain rfl (fun Ko hKo => ?_)
          go_simp
          refine hKo _ _ ?_
          clear hKo Ko
          try simp only [Act.put, List.setIfInBounds_toArray, List.set_cons_zero, List.set_cons_succ, i64_w]
          refine wpList_plain rfl (fun Ko hKo => ?_)
          go_simp
          refine hKo _ _ ?_
          clear hKo Ko
          try simp only [Act.put, List.setIfInBounds_toArray, List.set_cons_zero, List.set_cons_succ, i64_w]
          refine wpList_step (fun Ko hKo => ?_)
          go_simp
          refine hKo _ _ ?_
          clear hKo Ko
          try simp only [Act.put, List.setIfInBounds_toArray, List.set_cons_zero, List.set_cons_succ, i64_w]
          refine wpList_step (fun Ko hKo => ?_)
          go_simp
          refine hKo _ _ ?_
          clear hKo Ko
          try simp only [Act.put, List.setIfInBounds_toArray, List.set_cons_zero, List.set_cons_succ, i64_w]
          refine wpList_step (fun Ko hKo => ?_)
          go_simp
          refine hKo _ _ ?_
          clear hKo Ko
          try simp only [Act.put, List.setIfInBounds_toArray, List.set_cons_zero, List.set_cons_succ, i64_w]
          refine wpList_plain rfl (fun Ko hKo => ?_)
          go_simp
          refine hKo _ _ ?_
          clear hKo Ko
          try simp only [Act.put, List.setIfInBounds_toArray, List.set_cons_zero, List.set_cons_succ, i64_w]
          refine wpList_nil ?_
          (try simp only [Exit.then, Exit.inBlock, ↓reduceIte, Nat.reduceEqDiff])
          refine hK56 _ _ ?_
          refine wp_cond_false rfl ?_
          refine wp_skip ?_
          (try simp only [Exit.then, Exit.inBlock, ↓reduceIte, Nat.reduceEqDiff])
          refine hK55 _ _ ?_
          refine wp_seq_k (fun K63 hK63 => ?_)
          refine wp_region_lit ?_
          refine wpList_plain rfl (fun Ko hKo => ?_)
          go_simp
          refine hKo _ _ ?_
          clear hKo Ko
          try simp only [Act.put, List.setIfInBounds_toArray, List.set_cons_zero, List.set_cons_succ, i64_w]
          refine wpList_nil ?_
          (try simp only [Exit.then, Exit.inBlock, ↓reduceIte, Nat.reduceEqDiff])
          refine hK63 _ _ ?_
          refine wp_ret ?_
          (try simp only [Exit.then, Exit.inBlock, ↓reduceIte, Nat.reduceEqDiff])
          refine hQf _ _ _ ?_
          exact bodyPost_ret (v := .bool true) (by first | rfl | (simp [results, Try.results6, go_sem]; done) | (simp [results, Try.results6, go_sem]; rfl)) rfl ⟨rfl, (((((((hu4.out.trans hu7.out).trans hu10.out).trans hu29.out).sto (Nat.le_trans ((Nat.le_trans ((Nat.le_trans (hu4.out.size) hu7.out.size)) hu10.out.size)) lbb27.out) hs31.out).trans hu51.out).sto (Nat.le_trans ((Nat.le_trans ((Nat.le_trans ((Nat.le_trans ((Nat.le_trans (hu4.out.size) hu7.out.size)) hu10.out.size)) hu29.out.size)) (Nat.le_of_eq hs31.out.size.symm))) lbb49.out) hs53.out).trans hu60.out)⟩
    · rw [if_neg c62] at H
      replace c62 := Bool.eq_false_iff.mpr c62
      have c62n : (t46 != t24) = true := by rw [bne, c62]; rfl
      have c62p : ¬ t46 = t24 := fun e => by simp [e] at c62
      obtain rfl := Option.some.inj H
      go_enter Try.func6, Try.ntmps6
      refine wp_hide (fun Qf hQf => ?_)
      refine wp_seq_k (fun K1 hK1 => ?_)
      refine wp_region_lit ?_
      refine step_new (cs := [.int .i64 a1_0, .int .i64 a1_1]) (T := 22) (f := fun b => .pointer (some ⟨b, 0, none⟩)) rfl (by first | (go_simp; done) | (go_simp; rfl)) ?_
      intro b2 w3 hu lb hb2
      simp only [Act.put, List.setIfInBounds_toArray, List.set_cons_zero, List.set_cons_succ, i64_w]
      have lbb2 := Aside0.mk lb
      have ltb2 := Aside0.mk hb2.lt
      clear lb
      have hu4 := Aside0.mk hu
      clear hu
      refine step_new (cs := [.int .i64 a2_0, .int .i64 a2_1]) (T := 22) (f := fun b => .pointer (some ⟨b, 0, none⟩)) rfl (by first | (go_simp; done) | (go_simp; rfl)) ?_
      intro b5 w6 hu lb hb5
      simp only [Act.put, List.setIfInBounds_toArray, List.set_cons_zero, List.set_cons_succ, i64_w]
      have lbb5 := Aside0.mk lb
      have ltb5 := Aside0.mk hb5.lt
      clear lb
      have hu7 := Aside0.mk hu
      clear hu
      refine step_new (cs := [.int .i64 a3_0, .int .i64 a3_1]) (T := 22) (f := fun b => .pointer (some ⟨b, 0, none⟩)) rfl (by first | (go_simp; done) | (go_simp; rfl)) ?_
      intro b8 w9 hu lb hb8
      simp only [Act.put, List.setIfInBounds_toArray, List.set_cons_zero, List.set_cons_succ, i64_w]
      have lbb8 := Aside0.mk lb
      have ltb8 := Aside0.mk hb8.lt
      clear lb
      have hu10 := Aside0.mk hu
      clear hu
      refine wpList_plain rfl (fun Ko hKo => ?_)
      go_simp
      refine hKo _ _ ?_
      clear hKo Ko
      try simp only [Act.put, List.setIfInBounds_toArray, List.set_cons_zero, List.set_cons_succ, i64_w]
      refine wpList_nil ?_
      (try simp only [Exit.then, Exit.inBlock, ↓reduceIte, Nat.reduceEqDiff])
      refine hK1 _ _ ?_
      refine wp_seq_k (fun K11 hK11 => ?_)
      refine' wp_region_late 12 [10] [Slot.det _, Slot.det _, Slot.det (.agg #[.int .i64 t12, .int .i64 t13]), Slot.det _, Slot.det (.agg #[.int .i64 t15, .int .i64 t16]), Slot.det _, Slot.det (.agg #[.int .i64 t18, .int .i64 t19]), Slot.det (.tuple #[.agg #[.int .i64 t21, .int .i64 t22, .int .i64 t23], .int .i64 t24]), Slot.det _, Slot.det _, Slot.det _, Slot.any (PtrTo [.int .i64 0, .int .i64 0, .int .i64 0] 39) true] (by kernel_rfl) [true, true, true, true, true, true, true, true, true, true, true, false] (by kernel_rfl) rfl (by kernel_rfl) (by decide) ?main
      case main =>
        simp only [List.take_succ_cons, List.take_zero]
        refine wpK_ops rfl (fun w1 hu => ?_) ?_
        · clear hu
          go_simp
          first | done | rfl
        simp only [Act.put, List.setIfInBounds_toArray, List.set_cons_zero, List.set_cons_succ, i64_w]
        refine wpK_ops rfl (fun w1 hu => ?_) ?_
        · have cl0 := ((hb2.up (hu7.out.trans hu10.out)).up ((Up.refl _).drew.trans hu)).cell (o := 0) rfl
          have cl1 := ((hb2.up (hu7.out.trans hu10.out)).up ((Up.refl _).drew.trans hu)).cell (o := 1) rfl
          go_simp
          first | done | rfl
        simp only [Act.put, List.setIfInBounds_toArray, List.set_cons_zero, List.set_cons_succ, i64_w]
        refine wpK_ops rfl (fun w1 hu => ?_) ?_
        · have hcl := laws_toPoint.calls K a1_0 a1_1 t12 t13 w1  A14.out
          clear hu
          replace hcl := Aside0.mk hcl
          go_simp
          exact hcl.out
        simp only [Act.put, List.setIfInBounds_toArray, List.set_cons_zero, List.set_cons_succ, i64_w]
        refine wpK_ops rfl (fun w1 hu => ?_) ?_
        · have cl0 := ((hb5.up hu10.out).up ((Up.refl _).drew.trans hu)).cell (o := 0) rfl
          have cl1 := ((hb5.up hu10.out).up ((Up.refl _).drew.trans hu)).cell (o := 1) rfl
          go_simp
          first | done | rfl
        simp only [Act.put, List.setIfInBounds_toArray, List.set_cons_zero, List.set_cons_succ, i64_w]
        refine wpK_ops rfl (fun w1 hu => ?_) ?_
        · have hcl := laws_toPoint.calls K a2_0 a2_1 t15 t16 w1  A17.out
          clear hu
          replace hcl := Aside0.mk hcl
          go_simp
          exact hcl.out
        simp only [Act.put, List.setIfInBounds_toArray, List.set_cons_zero, List.set_cons_succ, i64_w]
        refine wpK_ops rfl (fun w1 hu => ?_) ?_
        · have cl0 := (hb8.up ((Up.refl _).drew.trans hu)).cell (o := 0) rfl
          have cl1 := (hb8.up ((Up.refl _).drew.trans hu)).cell (o := 1) rfl
          go_simp
          first | done | rfl
        simp only [Act.put, List.setIfInBounds_toArray, List.set_cons_zero, List.set_cons_succ, i64_w]
        refine wpK_ops rfl (fun w1 hu => ?_) ?_
        · have hcl := laws_toPoint.calls K a3_0 a3_1 t18 t19 w1  A20.out
          clear hu
          replace hcl := Aside0.mk hcl
          go_simp
          exact hcl.out
        simp only [Act.put, List.setIfInBounds_toArray, List.set_cons_zero, List.set_cons_succ, i64_w]
        refine wpK_ops rfl (fun w1 hu => ?_) ?_
        · have hcl := spec_MedianOf.calls K a0 t12 t13 t15 t16 t18 t19 t21 t22 t23 t24 w1  A25.out
          clear hu
          replace hcl := Aside0.mk hcl
          go_simp
          exact hcl.out
        simp only [Act.put, List.setIfInBounds_toArray, List.set_cons_zero, List.set_cons_succ, i64_w]
        refine wpK_ops rfl (fun w1 hu => ?_) ?_
        · clear hu
          go_simp
          first | done | rfl
        simp only [Act.put, List.setIfInBounds_toArray, List.set_cons_zero, List.set_cons_succ, i64_w]
        refine wpK_ops rfl (fun w1 hu => ?_) ?_
        · clear hu
          go_simp
          first | done | rfl
        simp only [Act.put, List.setIfInBounds_toArray, List.set_cons_zero, List.set_cons_succ, i64_w]
        refine wpK_ops rfl (fun w1 hu => ?_) ?_
        · clear hu
          go_simp
          first | done | rfl
        simp only [Act.put, List.setIfInBounds_toArray, List.set_cons_zero, List.set_cons_succ, i64_w]
        refine wpK_any rfl (stab_ptr _ _) (fun w1 _ _ => fresh_ptr (by first | (go_simp; done) | (go_simp; rfl))) (fun v26 => ?_)
        simp only [Act.put, List.setIfInBounds_toArray, List.set_cons_zero, List.set_cons_succ, i64_w]
        refine wpK_nil ?_
        intro w28 hu hap
        simp only [List.drop_succ_cons, List.drop_zero]
        replace hu := (Up.refl _).drew.trans hu
        obtain ⟨hf0, hn0, ⟨b27, e0, hb27⟩, -⟩ := hap
        have lbb27 := Aside0.mk (hf0 rfl b27 (by rw [e0]; rfl)).1
        have ltb27 := Aside0.mk hb27.lt
        dsimp only at e0
        subst e0
        clear hf0 hn0
        have hu29 := Aside0.mk hu
        clear hu
        refine late_cons (Up.of_drew hu29.out) ?_
        have hB0 := hb27
        have cl0 := hB0.cell (o := 0) rfl
        have fr0 := hB0.free 0
        have cl1 := hB0.cell (o := 1) rfl
        have fr1 := hB0.free 1
        have cl2 := hB0.cell (o := 2) rfl
        have fr2 := hB0.free 2
        refine step_store (b := b27) (cs' := [.int .i64 t21, .int .i64 t22, .int .i64 t23]) (T := 39) (W' := (((w28.setCell ⟨b27, 0, none⟩ (.int .i64 t21)).setCell ⟨b27, 1, none⟩ (.int .i64 t22)).setCell ⟨b27, 2, none⟩ (.int .i64 t23))) rfl rfl (by first | (go_simp; done) | (go_simp; rfl)) ((((Sto.refl _ _).setCell 0 _).setCell 1 _).setCell 2 _) ((((hB0).setCell 0 _).setCell 1 _).setCell 2 _) ?_
        clear hB0 cl0 fr0 cl1 fr1 cl2 fr2
        intro w30 hs hb32
        have hs31 := Aside0.mk hs
        clear hs
        refine wpList_nil ?_
        refine wrapQ_k ?_
        refine late_cons (Up.of_drew (hu29.out.sto (Nat.le_trans (Nat.le_refl _) lbb27.out) hs31.out)) ?_
        refine wpList_plain rfl (fun Ko hKo => ?_)
        go_simp
        refine hKo _ _ ?_
        clear hKo Ko
        try simp only [Act.put, List.setIfInBounds_toArray, List.set_cons_zero, List.set_cons_succ, i64_w]
        refine wpList_nil ?_
        refine wrapQ_k ?_
        refine late_nil (Up.of_drew (hu29.out.sto (Nat.le_trans (Nat.le_refl _) lbb27.out) hs31.out)) ?_
        (try simp only [Exit.then, Exit.inBlock, ↓reduceIte, Nat.reduceEqDiff])
        refine hK11 _ _ ?_
        refine wp_seq_k (fun K33 hK33 => ?_)
        refine' wp_region_late 12 [10] [Slot.det _, Slot.det _, Slot.det (.agg #[.int .i64 t34, .int .i64 t35]), Slot.det _, Slot.det (.agg #[.int .i64 t37, .int .i64 t38]), Slot.det _, Slot.det (.agg #[.int .i64 t40, .int .i64 t41]), Slot.det (.tuple #[.agg #[.int .i64 t43, .int .i64 t44, .int .i64 t45], .int .i64 t46]), Slot.det _, Slot.det _, Slot.det _, Slot.any (PtrTo [.int .i64 0, .int .i64 0, .int .i64 0] 39) true] (by kernel_rfl) [true, true, true, true, true, true, true, true, true, true, true, false] (by kernel_rfl) rfl (by kernel_rfl) (by decide) ?main
        case main =>
          simp only [List.take_succ_cons, List.take_zero]
          refine wpK_ops rfl (fun w1 hu => ?_) ?_
          · clear hu
            go_simp
            first | done | rfl
          simp only [Act.put, List.setIfInBounds_toArray, List.set_cons_zero, List.set_cons_succ, i64_w]
          refine wpK_ops rfl (fun w1 hu => ?_) ?_
          · have cl0 := ((hb2.up (((hu7.out.trans hu10.out).trans hu29.out).sto (Nat.le_trans ((Nat.le_trans (hu7.out.size) hu10.out.size)) lbb27.out) hs31.out)).up ((Up.refl _).drew.trans hu)).cell (o := 0) rfl
            have cl1 := ((hb2.up (((hu7.out.trans hu10.out).trans hu29.out).sto (Nat.le_trans ((Nat.le_trans (hu7.out.size) hu10.out.size)) lbb27.out) hs31.out)).up ((Up.refl _).drew.trans hu)).cell (o := 1) rfl
            go_simp
            first | done | rfl
          simp only [Act.put, List.setIfInBounds_toArray, List.set_cons_zero, List.set_cons_succ, i64_w]
          refine wpK_ops rfl (fun w1 hu => ?_) ?_
          · have hcl := laws_toPoint.calls K a1_0 a1_1 t34 t35 w1  A36.out
            clear hu
            replace hcl := Aside0.mk hcl
            go_simp
            exact hcl.out
          simp only [Act.put, List.setIfInBounds_toArray, List.set_cons_zero, List.set_cons_succ, i64_w]
          refine wpK_ops rfl (fun w1 hu => ?_) ?_
          · have cl0 := ((hb5.up ((hu10.out.trans hu29.out).sto (Nat.le_trans (hu10.out.size) lbb27.out) hs31.out)).up ((Up.refl _).drew.trans hu)).cell (o := 0) rfl
            have cl1 := ((hb5.up ((hu10.out.trans hu29.out).sto (Nat.le_trans (hu10.out.size) lbb27.out) hs31.out)).up ((Up.refl _).drew.trans hu)).cell (o := 1) rfl
            go_simp
            first | done | rfl
          simp only [Act.put, List.setIfInBounds_toArray, List.set_cons_zero, List.set_cons_succ, i64_w]
          refine wpK_ops rfl (fun w1 hu => ?_) ?_
          · have hcl := laws_toPoint.calls K a2_0 a2_1 t37 t38 w1  A39.out
            clear hu
            replace hcl := Aside0.mk hcl
            go_simp
            exact hcl.out
          simp only [Act.put, List.setIfInBounds_toArray, List.set_cons_zero, List.set_cons_succ, i64_w]
          refine wpK_ops rfl (fun w1 hu => ?_) ?_
          · have cl0 := ((hb8.up (hu29.out.sto (Nat.le_trans (Nat.le_refl _) lbb27.out) hs31.out)).up ((Up.refl _).drew.trans hu)).cell (o := 0) rfl
            have cl1 := ((hb8.up (hu29.out.sto (Nat.le_trans (Nat.le_refl _) lbb27.out) hs31.out)).up ((Up.refl _).drew.trans hu)).cell (o := 1) rfl
            go_simp
            first | done | rfl
          simp only [Act.put, List.setIfInBounds_toArray, List.set_cons_zero, List.set_cons_succ, i64_w]
          refine wpK_ops rfl (fun w1 hu => ?_) ?_
          · have hcl := laws_toPoint.calls K a3_0 a3_1 t40 t41 w1  A42.out
            clear hu
            replace hcl := Aside0.mk hcl
            go_simp
            exact hcl.out
          simp only [Act.put, List.setIfInBounds_toArray, List.set_cons_zero, List.set_cons_succ, i64_w]
          refine wpK_ops rfl (fun w1 hu => ?_) ?_
          · have hcl := impl_MedianOf.calls K a0 t34 t35 t37 t38 t40 t41 t43 t44 t45 t46 w1  A47.out
            clear hu
            replace hcl := Aside0.mk hcl
            go_simp
            exact hcl.out
          simp only [Act.put, List.setIfInBounds_toArray, List.set_cons_zero, List.set_cons_succ, i64_w]
          refine wpK_ops rfl (fun w1 hu => ?_) ?_
          · clear hu
            go_simp
            first | done | rfl
          simp only [Act.put, List.setIfInBounds_toArray, List.set_cons_zero, List.set_cons_succ, i64_w]
          refine wpK_ops rfl (fun w1 hu => ?_) ?_
          · clear hu
            go_simp
            first | done | rfl
          simp only [Act.put, List.setIfInBounds_toArray, List.set_cons_zero, List.set_cons_succ, i64_w]
          refine wpK_ops rfl (fun w1 hu => ?_) ?_
          · clear hu
            go_simp
            first | done | rfl
          simp only [Act.put, List.setIfInBounds_toArray, List.set_cons_zero, List.set_cons_succ, i64_w]
          refine wpK_any rfl (stab_ptr _ _) (fun w1 _ _ => fresh_ptr (by first | (go_simp; done) | (go_simp; rfl))) (fun v48 => ?_)
          simp only [Act.put, List.setIfInBounds_toArray, List.set_cons_zero, List.set_cons_succ, i64_w]
          refine wpK_nil ?_
          intro w50 hu hap
          simp only [List.drop_succ_cons, List.drop_zero]
          replace hu := (Up.refl _).drew.trans hu
          obtain ⟨hf0, hn0, ⟨b49, e0, hb49⟩, -⟩ := hap
          have lbb49 := Aside0.mk (hf0 rfl b49 (by rw [e0]; rfl)).1
          have ltb49 := Aside0.mk hb49.lt
          dsimp only at e0
          subst e0
          clear hf0 hn0
          have hu51 := Aside0.mk hu
          clear hu
          refine late_cons (Up.of_drew hu51.out) ?_
          have hB0 := hb49
          have cl0 := hB0.cell (o := 0) rfl
          have fr0 := hB0.free 0
          have cl1 := hB0.cell (o := 1) rfl
          have fr1 := hB0.free 1
          have cl2 := hB0.cell (o := 2) rfl
          have fr2 := hB0.free 2
          refine step_store (b := b49) (cs' := [.int .i64 t43, .int .i64 t44, .int .i64 t45]) (T := 39) (W' := (((w50.setCell ⟨b49, 0, none⟩ (.int .i64 t43)).setCell ⟨b49, 1, none⟩ (.int .i64 t44)).setCell ⟨b49, 2, none⟩ (.int .i64 t45))) rfl rfl (by first | (go_simp; done) | (go_simp; rfl)) ((((Sto.refl _ _).setCell 0 _).setCell 1 _).setCell 2 _) ((((hB0).setCell 0 _).setCell 1 _).setCell 2 _) ?_
          clear hB0 cl0 fr0 cl1 fr1 cl2 fr2
          intro w52 hs hb54
          have hs53 := Aside0.mk hs
          clear hs
          refine wpList_nil ?_
          refine wrapQ_k ?_
          refine late_cons (Up.of_drew (hu51.out.sto (Nat.le_trans (Nat.le_refl _) lbb49.out) hs53.out)) ?_
          refine wpList_plain rfl (fun Ko hKo => ?_)
          go_simp
          refine hKo _ _ ?_
          clear hKo Ko
          try simp only [Act.put, List.setIfInBounds_toArray, List.set_cons_zero, List.set_cons_succ, i64_w]
          refine wpList_nil ?_
          refine wrapQ_k ?_
          refine late_nil (Up.of_drew (hu51.out.sto (Nat.le_trans (Nat.le_refl _) lbb49.out) hs53.out)) ?_
          (try simp only [Exit.then, Exit.inBlock, ↓reduceIte, Nat.reduceEqDiff])
          refine hK33 _ _ ?_
          refine wp_seq_k (fun K55 hK55 => ?_)
          refine wp_seq_k (fun K56 hK56 => ?_)
          refine wp_region_lit ?_
          have cl0 := hb54.cell (o := 0) rfl
          have cl1 := hb54.cell (o := 1) rfl
          have cl2 := hb54.cell (o := 2) rfl
          refine wpList_plain rfl (fun Ko hKo => ?_)
          go_simp
          refine hKo _ _ ?_
          clear hKo Ko
          clear cl0 cl1 cl2
          try simp only [Act.put, List.setIfInBounds_toArray, List.set_cons_zero, List.set_cons_succ, i64_w]
          have cl0 := (hb32.up (hu51.out.sto (Nat.le_trans (Nat.le_refl _) lbb49.out) hs53.out)).cell (o := 0) rfl
          have cl1 := (hb32.up (hu51.out.sto (Nat.le_trans (Nat.le_refl _) lbb49.out) hs53.out)).cell (o := 1) rfl
          have cl2 := (hb32.up (hu51.out.sto (Nat.le_trans (Nat.le_refl _) lbb49.out) hs53.out)).cell (o := 2) rfl
          refine wpList_plain rfl (fun Ko hKo => ?_)
          go_simp
          refine hKo _ _ ?_
          clear hKo Ko
          clear cl0 cl1 cl2
          try simp only [Act.put, List.setIfInBounds_toArray, List.set_cons_zero, List.set_cons_succ, i64_w]
          refine step_call (wanted_none rfl) (by first | (go_simp; done) | (go_simp; rfl)) (laws_eqLine.calls K t43 t44 t45 t21 t22 t23 true w52  A58.out) ?_
          rintro e w59 ⟨rfl, hu⟩
          have hu60 := Aside0.mk hu
          clear hu
          refine ⟨_, rfl, ?_⟩
          simp only [Act.put, List.setIfInBounds_toArray, List.set_cons_zero, List.set_cons_succ, i64_w]
          refine wpList_plain rfl (fun Ko hKo => ?_)
          go_simp
          refine hKo _ _ ?_
          clear hKo Ko
          try simp only [Act.put, List.setIfInBounds_toArray, List.set_cons_zero, List.set_cons_succ, i64_w]
          refine wpList_plain rfl (fun Ko hKo => ?_)
          go_simp
          refine hKo _ _ ?_
          clear hKo Ko
          try simp only [Act.put, List.setIfInBounds_toArray, List.set_cons_zero, List.set_cons_succ, i64_w]
          refine wpList_step (fun Ko hKo => ?_)
          go_simp
          refine hKo _ _ ?_
          clear hKo Ko
          try simp only [Act.put, List.setIfInBounds_toArray, List.set_cons_zero, List.set_cons_succ, i64_w]
          refine wpList_step (fun Ko hKo => ?_)
          go_simp
          refine hKo _ _ ?_
          clear hKo Ko
          try simp only [Act.put, List.setIfInBounds_toArray, List.set_cons_zero, List.set_cons_succ, i64_w]
          refine wpList_step (fun Ko hKo => ?_)
          go_simp
          refine hKo _ _ ?_
          clear hKo Ko
          try simp only [Act.put, List.setIfInBounds_toArray, List.set_cons_zero, List.set_cons_succ, i64_w]
          refine wpList_plain rfl (fun Ko hKo => ?_)
          go_simp
          refine hKo _ _ ?_
          clear hKo Ko
          try simp only [Act.put, List.setIfInBounds_toArray, List.set_cons_zero, List.set_cons_succ, i64_w]
          refine wpList_nil ?_
          (try simp only [Exit.then, Exit.inBlock, ↓reduceIte, Nat.reduceEqDiff])
          refine hK56 _ _ ?_
          refine wp_cond_true rfl ?_
          refine wp_seq_k (fun K64 hK64 => ?_)
          refine wp_region_lit ?_
          refine wpList_plain rfl (fun Ko hKo => ?_)
          go_simp
          refine hKo _ _ ?_
          clear hKo Ko
          try simp only [Act.put, List.setIfInBounds_toArray, List.set_cons_zero, List.set_cons_succ, i64_w]
          refine wpList_nil ?_
          (try simp only [Exit.then, Exit.inBlock, ↓reduceIte, Nat.reduceEqDiff])
          refine hK64 _ _ ?_
          refine wp_ret ?_
          (try simp only [Exit.then, Exit.inBlock, ↓reduceIte, Nat.reduceEqDiff])
          refine hQf _ _ _ ?_
          exact bodyPost_ret (v := .bool false) (by first | rfl | (simp [results, Try.results6, go_sem]; done) | (simp [results, Try.results6, go_sem]; rfl)) rfl ⟨rfl, (((((((hu4.out.trans hu7.out).trans hu10.out).trans hu29.out).sto (Nat.le_trans ((Nat.le_trans ((Nat.le_trans (hu4.out.size) hu7.out.size)) hu10.out.size)) lbb27.out) hs31.out).trans hu51.out).sto (Nat.le_trans ((Nat.le_trans ((Nat.le_trans ((Nat.le_trans ((Nat.le_trans (hu4.out.size) hu7.out.size)) hu10.out.size)) hu29.out.size)) (Nat.le_of_eq hs31.out.size.symm))) lbb49.out) hs53.out).trans hu60.out)⟩
  · rw [if_neg c61] at H
    replace c61 := Bool.eq_false_iff.mpr c61
    subst c61
    obtain rfl := Option.some.inj H
    go_enter Try.func6, Try.ntmps6
    refine wp_hide (fun Qf hQf => ?_)
    refine wp_seq_k (fun K1 hK1 => ?_)
    refine wp_region_lit ?_
    refine step_new (cs := [.int .i64 a1_0, .int .i64 a1_1]) (T := 22) (f := fun b => .pointer (some ⟨b, 0, none⟩)) rfl (by first | (go_simp; done) | (go_simp; rfl)) ?_
    intro b2 w3 hu lb hb2
    simp only [Act.put, List.setIfInBounds_toArray, List.set_cons_zero, List.set_cons_succ, i64_w]
    have lbb2 := Aside0.mk lb
    have ltb2 := Aside0.mk hb2.lt
    clear lb
    have hu4 := Aside0.mk hu
    clear hu
    refine step_new (cs := [.int .i64 a2_0, .int .i64 a2_1]) (T := 22) (f := fun b => .pointer (some ⟨b, 0, none⟩)) rfl (by first | (go_simp; done) | (go_simp; rfl)) ?_
    intro b5 w6 hu lb hb5
    simp only [Act.put, List.setIfInBounds_toArray, List.set_cons_zero, List.set_cons_succ, i64_w]
    have lbb5 := Aside0.mk lb
    have ltb5 := Aside0.mk hb5.lt
    clear lb
    have hu7 := Aside0.mk hu
    clear hu
    refine step_new (cs := [.int .i64 a3_0, .int .i64 a3_1]) (T := 22) (f := fun b => .pointer (some ⟨b, 0, none⟩)) rfl (by first | (go_simp; done) | (go_simp; rfl)) ?_
    intro b8 w9 hu lb hb8
    simp only [Act.put, List.setIfInBounds_toArray, List.set_cons_zero, List.set_cons_succ, i64_w]
    have lbb8 := Aside0.mk lb
    have ltb8 := Aside0.mk hb8.lt
    clear lb
    have hu10 := Aside0.mk hu
    clear hu
    refine wpList_plain rfl (fun Ko hKo => ?_)
    go_simp
    refine hKo _ _ ?_
    clear hKo Ko
    try simp only [Act.put, List.setIfInBounds_toArray, List.set_cons_zero, List.set_cons_succ, i64_w]
    refine wpList_nil ?_
    (try simp only [Exit.then, Exit.inBlock, ↓reduceIte, Nat.reduceEqDiff])
    refine hK1 _ _ ?_
    refine wp_seq_k (fun K11 hK11 => ?_)
    refine' wp_region_late 12 [10] [Slot.det _, Slot.det _, Slot.det (.agg #[.int .i64 t12, .int .i64 t13]), Slot.det _, Slot.det (.agg #[.int .i64 t15, .int .i64 t16]), Slot.det _, Slot.det (.agg #[.int .i64 t18, .int .i64 t19]), Slot.det (.tuple #[.agg #[.int .i64 t21, .int .i64 t22, .int .i64 t23], .int .i64 t24]), Slot.det _, Slot.det _, Slot.det _, Slot.any (PtrTo [.int .i64 0, .int .i64 0, .int .i64 0] 39) true] (by kernel_rfl) [true, true, true, true, true, true, true, true, true, true, true, false] (by kernel_rfl) rfl (by kernel_rfl) (by decide) ?main
    case main =>
      simp only [List.take_succ_cons, List.take_zero]
      refine wpK_ops rfl (fun w1 hu => ?_) ?_
      · clear hu
        go_simp
        first | done | rfl
      simp only [Act.put, List.setIfInBounds_toArray, List.set_cons_zero, List.set_cons_succ, i64_w]
      refine wpK_ops rfl (fun w1 hu => ?_) ?_
      · have cl0 := ((hb2.up (hu7.out.trans hu10.out)).up ((Up.refl _).drew.trans hu)).cell (o := 0) rfl
        have cl1 := ((hb2.up (hu7.out.trans hu10.out)).up ((Up.refl _).drew.trans hu)).cell (o := 1) rfl
        go_simp
        first | done | rfl
      simp only [Act.put, List.setIfInBounds_toArray, List.set_cons_zero, List.set_cons_succ, i64_w]
      refine wpK_ops rfl (fun w1 hu => ?_) ?_
      · have hcl := laws_toPoint.calls K a1_0 a1_1 t12 t13 w1  A14.out
        clear hu
        replace hcl := Aside0.mk hcl
        go_simp
        exact hcl.out
      simp only [Act.put, List.setIfInBounds_toArray, List.set_cons_zero, List.set_cons_succ, i64_w]
      refine wpK_ops rfl (fun w1 hu => ?_) ?_
      · have cl0 := ((hb5.up hu10.out).up ((Up.refl _).drew.trans hu)).cell (o := 0) rfl
        have cl1 := ((hb5.up hu10.out).up ((Up.refl _).drew.trans hu)).cell (o := 1) rfl
        go_simp
        first | done | rfl
      simp only [Act.put, List.setIfInBounds_toArray, List.set_cons_zero, List.set_cons_succ, i64_w]
      refine wpK_ops rfl (fun w1 hu => ?_) ?_
      · have hcl := laws_toPoint.calls K a2_0 a2_1 t15 t16 w1  A17.out
        clear hu
        replace hcl := Aside0.mk hcl
        go_simp
        exact hcl.out
      simp only [Act.put, List.setIfInBounds_toArray, List.set_cons_zero, List.set_cons_succ, i64_w]
      refine wpK_ops rfl (fun w1 hu => ?_) ?_
      · have cl0 := (hb8.up ((Up.refl _).drew.trans hu)).cell (o := 0) rfl
        have cl1 := (hb8.up ((Up.refl _).drew.trans hu)).cell (o := 1) rfl
        go_simp
        first | done | rfl
      simp only [Act.put, List.setIfInBounds_toArray, List.set_cons_zero, List.set_cons_succ, i64_w]
      refine wpK_ops rfl (fun w1 hu => ?_) ?_
      · have hcl := laws_toPoint.calls K a3_0 a3_1 t18 t19 w1  A20.out
        clear hu
        replace hcl := Aside0.mk hcl
        go_simp
        exact hcl.out
      simp only [Act.put, List.setIfInBounds_toArray, List.set_cons_zero, List.set_cons_succ, i64_w]
      refine wpK_ops rfl (fun w1 hu => ?_) ?_
      · have hcl := spec_MedianOf.calls K a0 t12 t13 t15 t16 t18 t19 t21 t22 t23 t24 w1  A25.out
        clear hu
        replace hcl := Aside0.mk hcl
        go_simp
        exact hcl.out
      simp only [Act.put, List.setIfInBounds_toArray, List.set_cons_zero, List.set_cons_succ, i64_w]
      refine wpK_ops rfl (fun w1 hu => ?_) ?_
      · clear hu
        go_simp
        first | done | rfl
      simp only [Act.put, List.setIfInBounds_toArray, List.set_cons_zero, List.set_cons_succ, i64_w]
      refine wpK_ops rfl (fun w1 hu => ?_) ?_
      · clear hu
        go_simp
        first | done | rfl
      simp only [Act.put, List.setIfInBounds_toArray, List.set_cons_zero, List.set_cons_succ, i64_w]
      refine wpK_ops rfl (fun w1 hu => ?_) ?_
      · clear hu
        go_simp
        first | done | rfl
      simp only [Act.put, List.setIfInBounds_toArray, List.set_cons_zero, List.set_cons_succ, i64_w]
      refine wpK_any rfl (stab_ptr _ _) (fun w1 _ _ => fresh_ptr (by first | (go_simp; done) | (go_simp; rfl))) (fun v26 => ?_)
      simp only [Act.put, List.setIfInBounds_toArray, List.set_cons_zero, List.set_cons_succ, i64_w]
      refine wpK_nil ?_
      intro w28 hu hap
      simp only [List.drop_succ_cons, List.drop_zero]
      replace hu := (Up.refl _).drew.trans hu
      obtain ⟨hf0, hn0, ⟨b27, e0, hb27⟩, -⟩ := hap
      have lbb27 := Aside0.mk (hf0 rfl b27 (by rw [e0]; rfl)).1
      have ltb27 := Aside0.mk hb27.lt
      dsimp only at e0
      subst e0
      clear hf0 hn0
      have hu29 := Aside0.mk hu
      clear hu
      refine late_cons (Up.of_drew hu29.out) ?_
      have hB0 := hb27
      have cl0 := hB0.cell (o := 0) rfl
      have fr0 := hB0.free 0
      have cl1 := hB0.cell (o := 1) rfl
      have fr1 := hB0.free 1
      have cl2 := hB0.cell (o := 2) rfl
      have fr2 := hB0.free 2
      refine step_store (b := b27) (cs' := [.int .i64 t21, .int .i64 t22, .int .i64 t23]) (T := 39) (W' := (((w28.setCell ⟨b27, 0, none⟩ (.int .i64 t21)).setCell ⟨b27, 1, none⟩ (.int .i64 t22)).setCell ⟨b27, 2, none⟩ (.int .i64 t23))) rfl rfl (by first | (go_simp; done) | (go_simp; rfl)) ((((Sto.refl _ _).setCell 0 _).setCell 1 _).setCell 2 _) ((((hB0).setCell 0 _).setCell 1 _).setCell 2 _) ?_
      clear hB0 cl0 fr0 cl1 fr1 cl2 fr2
      intro w30 hs hb32
      have hs31 := Aside0.mk hs
      clear hs
      refine wpList_nil ?_
      refine wrapQ_k ?_
      refine late_cons (Up.of_drew (hu29.out.sto (Nat.le_trans (Nat.le_refl _) lbb27.out) hs31.out)) ?_
      refine wpList_plain rfl (fun Ko hKo => ?_)
      go_simp
      refine hKo _ _ ?_
      clear hKo Ko
      try simp only [Act.put, List.setIfInBounds_toArray, List.set_cons_zero, List.set_cons_succ, i64_w]
      refine wpList_nil ?_
      refine wrapQ_k ?_
      refine late_nil (Up.of_drew (hu29.out.sto (Nat.le_trans (Nat.le_refl _) lbb27.out) hs31.out)) ?_
      (try simp only [Exit.then, Exit.inBlock, ↓reduceIte, Nat.reduceEqDiff])
      refine hK11 _ _ ?_
      refine wp_seq_k (fun K33 hK33 => ?_)
      refine' wp_region_late 12 [10] [Slot.det _, Slot.det _, Slot.det (.agg #[.int .i64 t34, .int .i64 t35]), Slot.det _, Slot.det (.agg #[.int .i64 t37, .int .i64 t38]), Slot.det _, Slot.det (.agg #[.int .i64 t40, .int .i64 t41]), Slot.det (.tuple #[.agg #[.int .i64 t43, .int .i64 t44, .int .i64 t45], .int .i64 t46]), Slot.det _, Slot.det _, Slot.det _, Slot.any (PtrTo [.int .i64 0, .int .i64 0, .int .i64 0] 39) true] (by kernel_rfl) [true, true, true, true, true, true, true, true, true, true, true, false] (by kernel_rfl) rfl (by kernel_rfl) (by decide) ?main
      case main =>
        simp only [List.take_succ_cons, List.take_zero]
        refine wpK_ops rfl (fun w1 hu => ?_) ?_
        · clear hu
          go_simp
          first | done | rfl
        simp only [Act.put, List.setIfInBounds_toArray, List.set_cons_zero, List.set_cons_succ, i64_w]
        refine wpK_ops rfl (fun w1 hu => ?_) ?_
        · have cl0 := ((hb2.up (((hu7.out.trans hu10.out).trans hu29.out).sto (Nat.le_trans ((Nat.le_trans (hu7.out.size) hu10.out.size)) lbb27.out) hs31.out)).up ((Up.refl _).drew.trans hu)).cell (o := 0) rfl
          have cl1 := ((hb2.up (((hu7.out.trans hu10.out).trans hu29.out).sto (Nat.le_trans ((Nat.le_trans (hu7.out.size) hu10.out.size)) lbb27.out) hs31.out)).up ((Up.refl _).drew.trans hu)).cell (o := 1) rfl
          go_simp
          first | done | rfl
        simp only [Act.put, List.setIfInBounds_toArray, List.set_cons_zero, List.set_cons_succ, i64_w]
        refine wpK_ops rfl (fun w1 hu => ?_) ?_
        · have hcl := laws_toPoint.calls K a1_0 a1_1 t34 t35 w1  A36.out
          clear hu
          replace hcl := Aside0.mk hcl
          go_simp
          exact hcl.out
        simp only [Act.put, List.setIfInBounds_toArray, List.set_cons_zero, List.set_cons_succ, i64_w]
        refine wpK_ops rfl (fun w1 hu => ?_) ?_
        · have cl0 := ((hb5.up ((hu10.out.trans hu29.out).sto (Nat.le_trans (hu10.out.size) lbb27.out) hs31.out)).up ((Up.refl _).drew.trans hu)).cell (o := 0) rfl
          have cl1 := ((hb5.up ((hu10.out.trans hu29.out).sto (Nat.le_trans (hu10.out.size) lbb27.out) hs31.out)).up ((Up.refl _).drew.trans hu)).cell (o := 1) rfl
          go_simp
          first | done | rfl
        simp only [Act.put, List.setIfInBounds_toArray, List.set_cons_zero, List.set_cons_succ, i64_w]
        refine wpK_ops rfl (fun w1 hu => ?_) ?_
        · have hcl := laws_toPoint.calls K a2_0 a2_1 t37 t38 w1  A39.out
          clear hu
          replace hcl := Aside0.mk hcl
          go_simp
          exact hcl.out
        simp only [Act.put, List.setIfInBounds_toArray, List.set_cons_zero, List.set_cons_succ, i64_w]
        refine wpK_ops rfl (fun w1 hu => ?_) ?_
        · have cl0 := ((hb8.up (hu29.out.sto (Nat.le_trans (Nat.le_refl _) lbb27.out) hs31.out)).up ((Up.refl _).drew.trans hu)).cell (o := 0) rfl
          have cl1 := ((hb8.up (hu29.out.sto (Nat.le_trans (Nat.le_refl _) lbb27.out) hs31.out)).up ((Up.refl _).drew.trans hu)).cell (o := 1) rfl
          go_simp
          first | done | rfl
        simp only [Act.put, List.setIfInBounds_toArray, List.set_cons_zero, List.set_cons_succ, i64_w]
        refine wpK_ops rfl (fun w1 hu => ?_) ?_
        · have hcl := laws_toPoint.calls K a3_0 a3_1 t40 t41 w1  A42.out
          clear hu
          replace hcl := Aside0.mk hcl
          go_simp
          exact hcl.out
        simp only [Act.put, List.setIfInBounds_toArray, List.set_cons_zero, List.set_cons_succ, i64_w]
        refine wpK_ops rfl (fun w1 hu => ?_) ?_
        · have hcl := impl_MedianOf.calls K a0 t34 t35 t37 t38 t40 t41 t43 t44 t45 t46 w1  A47.out
          clear hu
          replace hcl := Aside0.mk hcl
          go_simp
          exact hcl.out
        simp only [Act.put, List.setIfInBounds_toArray, List.set_cons_zero, List.set_cons_succ, i64_w]
        refine wpK_ops rfl (fun w1 hu => ?_) ?_
        · clear hu
          go_simp
          first | done | rfl
        simp only [Act.put, List.setIfInBounds_toArray, List.set_cons_zero, List.set_cons_succ, i64_w]
        refine wpK_ops rfl (fun w1 hu => ?_) ?_
        · clear hu
          go_simp
          first | done | rfl
        simp only [Act.put, List.setIfInBounds_toArray, List.set_cons_zero, List.set_cons_succ, i64_w]
        refine wpK_ops rfl (fun w1 hu => ?_) ?_
        · clear hu
          go_simp
          first | done | rfl
        simp only [Act.put, List.setIfInBounds_toArray, List.set_cons_zero, List.set_cons_succ, i64_w]
        refine wpK_any rfl (stab_ptr _ _) (fun w1 _ _ => fresh_ptr (by first | (go_simp; done) | (go_simp; rfl))) (fun v48 => ?_)
        simp only [Act.put, List.setIfInBounds_toArray, List.set_cons_zero, List.set_cons_succ, i64_w]
        refine wpK_nil ?_
        intro w50 hu hap
        simp only [List.drop_succ_cons, List.drop_zero]
        replace hu := (Up.refl _).drew.trans hu
        obtain ⟨hf0, hn0, ⟨b49, e0, hb49⟩, -⟩ := hap
        have lbb49 := Aside0.mk (hf0 rfl b49 (by rw [e0]; rfl)).1
        have ltb49 := Aside0.mk hb49.lt
        dsimp only at e0
        subst e0
        clear hf0 hn0
        have hu51 := Aside0.mk hu
        clear hu
        refine late_cons (Up.of_drew hu51.out) ?_
        have hB0 := hb49
        have cl0 := hB0.cell (o := 0) rfl
        have fr0 := hB0.free 0
        have cl1 := hB0.cell (o := 1) rfl
        have fr1 := hB0.free 1
        have cl2 := hB0.cell (o := 2) rfl
        have fr2 := hB0.free 2
        refine step_store (b := b49) (cs' := [.int .i64 t43, .int .i64 t44, .int .i64 t45]) (T := 39) (W' := (((w50.setCell ⟨b49, 0, none⟩ (.int .i64 t43)).setCell ⟨b49, 1, none⟩ (.int .i64 t44)).setCell ⟨b49, 2, none⟩ (.int .i64 t45))) rfl rfl (by first | (go_simp; done) | (go_simp; rfl)) ((((Sto.refl _ _).setCell 0 _).setCell 1 _).setCell 2 _) ((((hB0).setCell 0 _).setCell 1 _).setCell 2 _) ?_
        clear hB0 cl0 fr0 cl1 fr1 cl2 fr2
        intro w52 hs hb54
        have hs53 := Aside0.mk hs
        clear hs
        refine wpList_nil ?_
        refine wrapQ_k ?_
        refine late_cons (Up.of_drew (hu51.out.sto (Nat.le_trans (Nat.le_refl _) lbb49.out) hs53.out)) ?_
        refine wpList_plain rfl (fun Ko hKo => ?_)
        go_simp
        refine hKo _ _ ?_
        clear hKo Ko
        try simp only [Act.put, List.setIfInBounds_toArray, List.set_cons_zero, List.set_cons_succ, i64_w]
        refine wpList_nil ?_
        refine wrapQ_k ?_
        refine late_nil (Up.of_drew (hu51.out.sto (Nat.le_trans (Nat.le_refl _) lbb49.out) hs53.out)) ?_
        (try simp only [Exit.then, Exit.inBlock, ↓reduceIte, Nat.reduceEqDiff])
        refine hK33 _ _ ?_
        refine wp_seq_k (fun K55 hK55 => ?_)
        refine wp_seq_k (fun K56 hK56 => ?_)
        refine wp_region_lit ?_
        have cl0 := hb54.cell (o := 0) rfl
        have cl1 := hb54.cell (o := 1) rfl
        have cl2 := hb54.cell (o := 2) rfl
        refine wpList_plain rfl (fun Ko hKo => ?_)
        go_simp
        refine hKo _ _ ?_
        clear hKo Ko
        clear cl0 cl1 cl2
        try simp only [Act.put, List.setIfInBounds_toArray, List.set_cons_zero, List.set_cons_succ, i64_w]
        have cl0 := (hb32.up (hu51.out.sto (Nat.le_trans (Nat.le_refl _) lbb49.out) hs53.out)).cell (o := 0) rfl
        have cl1 := (hb32.up (hu51.out.sto (Nat.le_trans (Nat.le_refl _) lbb49.out) hs53.out)).cell (o := 1) rfl
        have cl2 := (hb32.up (hu51.out.sto (Nat.le_trans (Nat.le_refl _) lbb49.out) hs53.out)).cell (o := 2) rfl
        refine wpList_plain rfl (fun Ko hKo => ?_)
        go_simp
        refine hKo _ _ ?_
        clear hKo Ko
        clear cl0 cl1 cl2
        try simp only [Act.put, List.setIfInBounds_toArray, List.set_cons_zero, List.set_cons_succ, i64_w]
        refine step_call (wanted_none rfl) (by first | (go_simp; done) | (go_simp; rfl)) (laws_eqLine.calls K t43 t44 t45 t21 t22 t23 false w52  A58.out) ?_
        rintro e w59 ⟨rfl, hu⟩
        have hu60 := Aside0.mk hu
        clear hu
        refine ⟨_, rfl, ?_⟩
        simp only [Act.put, List.setIfInBounds_toArray, List.set_cons_zero, List.set_cons_succ, i64_w]
        refine wpList_plain rfl (fun Ko hKo => ?_)
        go_simp
        refine hKo _ _ ?_
        clear hKo Ko
        try simp only [Act.put, List.setIfInBounds_toArray, List.set_cons_zero, List.set_cons_succ, i64_w]
        refine wpList_plain rfl (fun Ko hKo => ?_)
        go_simp
        refine hKo _ _ ?_
        clear hKo Ko
        try simp only [Act.put, List.setIfInBounds_toArray, List.set_cons_zero, List.set_cons_succ, i64_w]
        refine step_no rfl ?_
        simp only [Act.put, List.setIfInBounds_toArray, List.set_cons_zero, List.set_cons_succ, i64_w]
        refine step_no rfl ?_
        simp only [Act.put, List.setIfInBounds_toArray, List.set_cons_zero, List.set_cons_succ, i64_w]
        refine step_no rfl ?_
        simp only [Act.put, List.setIfInBounds_toArray, List.set_cons_zero, List.set_cons_succ, i64_w]
        refine wpList_plain rfl (fun Ko hKo => ?_)
        go_simp
        refine hKo _ _ ?_
        clear hKo Ko
        try simp only [Act.put, List.setIfInBounds_toArray, List.set_cons_zero, List.set_cons_succ, i64_w]
        refine wpList_nil ?_
        (try simp only [Exit.then, Exit.inBlock, ↓reduceIte, Nat.reduceEqDiff])
        refine hK56 _ _ ?_
        refine wp_cond_true rfl ?_
        refine wp_seq_k (fun K65 hK65 => ?_)
        refine wp_region_lit ?_
        refine wpList_plain rfl (fun Ko hKo => ?_)
        go_simp
        refine hKo _ _ ?_
        clear hKo Ko
        try simp only [Act.put, List.setIfInBounds_toArray, List.set_cons_zero, List.set_cons_succ, i64_w]
        refine wpList_nil ?_
        (try simp only [Exit.then, Exit.inBlock, ↓reduceIte, Nat.reduceEqDiff])
        refine hK65 _ _ ?_
        refine wp_ret ?_
        (try simp only [Exit.then, Exit.inBlock, ↓reduceIte, Nat.reduceEqDiff])
        refine hQf _ _ _ ?_
        exact bodyPost_ret (v := .bool false) (by first | rfl | (simp [results, Try.results6, go_sem]; done) | (simp [results, Try.results6, go_sem]; rfl)) rfl ⟨rfl, (((((((hu4.out.trans hu7.out).trans hu10.out).trans hu29.out).sto (Nat.le_trans ((Nat.le_trans ((Nat.le_trans (hu4.out.size) hu7.out.size)) hu10.out.size)) lbb27.out) hs31.out).trans hu51.out).sto (Nat.le_trans ((Nat.le_trans ((Nat.le_trans ((Nat.le_trans ((Nat.le_trans (hu4.out.size) hu7.out.size)) hu10.out.size)) hu29.out.size)) (Nat.le_of_eq hs31.out.size.symm))) lbb49.out) hs53.out).trans hu60.out)⟩

end Go.Proofs.Ytohpnbfgemngmaa
