/- The walks: each of these functions of the program computes what its plain function says: impl_asked__impl_WeightsOf_1, impl_rest, impl_less, impl_area, impl_inverse, impl_divide, impl_WeightsOf, laws_eqInt64S, laws_markInt64S, laws_heldInt64S. -/
import Derived.Test.YtohpnbfgemngmaaProg
import Derived.Test.YtohpnbfgemngmaaD1
import Derived.WalkKit
import Derived.KernelRfl
import Derived.BigQuiet
import Derived.Deep.LoopGhost
import Derived.Laws.StructEq
import Derived.Test.YtohpnbfgemngmaaWWeights1
namespace Go.Proofs.Ytohpnbfgemngmaa
open Go Go.RowKit
attribute [local go_sem] Oper.quiet Oper.quietAt Oper.quietUpon
set_option linter.unusedVariables false
set_option linter.unusedSimpArgs false

set_option maxHeartbeats 4000000 in
set_option maxRecDepth 100000 in
theorem impl_asked__impl_WeightsOf_1.calls (K : Nat) (a0 : Int) (bc1_0 : Nat) (c1_0_0 : Int) (bc1_1 : Nat) (c1_1_0 : Int) (c1_1_1 : Int) (bc1_2 : Nat) (c1_2_0 : Int) (c1_2_1 : Int) (bc1_3 : Nat) (c1_3_0 : Int) (c1_3_1 : Int) (bc1_4 : Nat) (c1_4_0 : Int) (c1_4_1 : Int) (r0 : Int) (w : World) (hc1_0 : Blk w bc1_0 [.int .i64 c1_0_0] 2) (hc1_1 : Blk w bc1_1 [.int .i64 c1_1_0, .int .i64 c1_1_1] 25) (hc1_2 : Blk w bc1_2 [.int .i64 c1_2_0, .int .i64 c1_2_1] 25) (hc1_3 : Blk w bc1_3 [.int .i64 c1_3_0, .int .i64 c1_3_1] 25) (hc1_4 : Blk w bc1_4 [.int .i64 c1_4_0, .int .i64 c1_4_1] 25) (h : impl_asked__impl_WeightsOf_1.f K a0 c1_0_0 c1_1_0 c1_1_1 c1_2_0 c1_2_1 c1_3_0 c1_3_1 c1_4_0 c1_4_1 = some (r0)) :
    Calls Try.prog 54 #[.int .i64 a0, .func (.func 55) #[] #[.pointer (some ⟨bc1_0, 0, none⟩), .pointer (some ⟨bc1_1, 0, none⟩), .pointer (some ⟨bc1_2, 0, none⟩), .pointer (some ⟨bc1_3, 0, none⟩), .pointer (some ⟨bc1_4, 0, none⟩)]] w fun e w' => e = .returned (.int .i64 r0) ∧ Up w w' := by
 have H : (((impl_IsField.f K a0).bind fun t4 => (if t4 = true then ((impl_WeightsOf_1.f K c1_0_0 c1_1_0 c1_1_1 c1_2_0 c1_2_1 c1_3_0 c1_3_1 c1_4_0 c1_4_1).bind fun t11 => (if t11 = true then some 0 else some 2)) else some 1)) : Option (Int)) = some (r0) := h
 clear h
 replace H := Option.bind_eq_some_iff.mp H
 obtain ⟨t4, A5, H⟩ := H
 replace A5 := Aside0.mk A5
 try dsimp only at H
 by_cases c8 : (t4) = true
 ·
  rw [if_pos c8] at H
  subst c8
  replace H := Option.bind_eq_some_iff.mp H
  obtain ⟨t11, A12, H⟩ := H
  replace A12 := Aside0.mk A12
  try dsimp only at H
  by_cases c15 : (t11) = true
  ·
   rw [if_pos c15] at H
   subst c15
   obtain rfl := Option.some.inj H
   have ltbc1_0 := Aside0.mk hc1_0.lt
   have ltbc1_1 := Aside0.mk hc1_1.lt
   have ltbc1_2 := Aside0.mk hc1_2.lt
   have ltbc1_3 := Aside0.mk hc1_3.lt
   have ltbc1_4 := Aside0.mk hc1_4.lt
   go_enter Try.func54, Try.ntmps54
   refine wp_hide (fun Qf hQf => ?_)
   refine wp_seq_k (fun K1 hK1 => ?_)
   refine wp_region_lit ?_
   refine wpList_plain rfl (fun Ko hKo => ?_)
   go_simp
   refine hKo _ _ ?_
   clear hKo Ko
   try simp only [Act.put, nm1, nm2, nm3, i64_w]
   refine wpList_nil ?_
   (try simp only [Exit.then, Exit.inBlock, ↓reduceIte, Nat.reduceEqDiff])
   refine hK1 _ _ ?_
   refine wp_seq_k (fun K2 hK2 => ?_)
   refine wp_seq_k (fun K3 hK3 => ?_)
   refine wp_region_lit ?_
   refine wpList_plain rfl (fun Ko hKo => ?_)
   go_simp
   refine hKo _ _ ?_
   clear hKo Ko
   try simp only [Act.put, nm1, nm2, nm3, i64_w]
   refine step_call (wanted_none rfl) (by first | (go_simp; done) | (go_simp; rfl)) (impl_IsField.calls K a0 true w  A5.out) ?_
   rintro e w6 ⟨rfl, hu⟩
   have hu7 := Aside0.mk hu
   clear hu
   refine ⟨_, rfl, ?_⟩
   simp only [Act.put, nm1, nm2, nm3, i64_w]
   refine wpList_plain rfl (fun Ko hKo => ?_)
   go_simp
   refine hKo _ _ ?_
   clear hKo Ko
   try simp only [Act.put, nm1, nm2, nm3, i64_w]
   refine wpList_nil ?_
   (try simp only [Exit.then, Exit.inBlock, ↓reduceIte, Nat.reduceEqDiff])
   refine hK3 _ _ ?_
   refine wp_cond_false rfl ?_
   refine wp_skip ?_
   (try simp only [Exit.then, Exit.inBlock, ↓reduceIte, Nat.reduceEqDiff])
   refine hK2 _ _ ?_
   refine wp_seq_k (fun K9 hK9 => ?_)
   refine wp_seq_k (fun K10 hK10 => ?_)
   refine wp_region_lit ?_
   refine wpList_plain rfl (fun Ko hKo => ?_)
   go_simp
   refine hKo _ _ ?_
   clear hKo Ko
   try simp only [Act.put, nm1, nm2, nm3, i64_w]
   refine step_call (wanted_none rfl) (by first | (go_simp; done) | (go_simp; rfl)) (impl_WeightsOf_1.calls K bc1_0 c1_0_0 bc1_1 c1_1_0 c1_1_1 bc1_2 c1_2_0 c1_2_1 bc1_3 c1_3_0 c1_3_1 bc1_4 c1_4_0 c1_4_1 true w6 (hc1_0.up hu7.out) (hc1_1.up hu7.out) (hc1_2.up hu7.out) (hc1_3.up hu7.out) (hc1_4.up hu7.out) A12.out) ?_
   rintro e w13 ⟨rfl, hu⟩
   have hu14 := Aside0.mk hu
   clear hu
   refine ⟨_, rfl, ?_⟩
   simp only [Act.put, nm1, nm2, nm3, i64_w]
   refine wpList_plain rfl (fun Ko hKo => ?_)
   go_simp
   refine hKo _ _ ?_
   clear hKo Ko
   try simp only [Act.put, nm1, nm2, nm3, i64_w]
   refine wpList_nil ?_
   (try simp only [Exit.then, Exit.inBlock, ↓reduceIte, Nat.reduceEqDiff])
   refine hK10 _ _ ?_
   refine wp_cond_false rfl ?_
   refine wp_skip ?_
   (try simp only [Exit.then, Exit.inBlock, ↓reduceIte, Nat.reduceEqDiff])
   refine hK9 _ _ ?_
   refine wp_seq_k (fun K16 hK16 => ?_)
   refine wp_region_lit ?_
   refine wpList_plain rfl (fun Ko hKo => ?_)
   go_simp
   refine hKo _ _ ?_
   clear hKo Ko
   try simp only [Act.put, nm1, nm2, nm3, i64_w]
   refine wpList_nil ?_
   (try simp only [Exit.then, Exit.inBlock, ↓reduceIte, Nat.reduceEqDiff])
   refine hK16 _ _ ?_
   refine wp_ret ?_
   (try simp only [Exit.then, Exit.inBlock, ↓reduceIte, Nat.reduceEqDiff])
   refine hQf _ _ _ ?_
   exact bodyPost_ret (v := .int .i64 0) (by first | rfl | (simp [results, Try.results54, go_sem]; done) | (simp [results, Try.results54, go_sem]; rfl)) rfl ⟨rfl, (hu7.out.trans hu14.out)⟩
  ·
   rw [if_neg c15] at H
   replace c15 := Bool.eq_false_iff.mpr c15
   subst c15
   obtain rfl := Option.some.inj H
   have ltbc1_0 := Aside0.mk hc1_0.lt
   have ltbc1_1 := Aside0.mk hc1_1.lt
   have ltbc1_2 := Aside0.mk hc1_2.lt
   have ltbc1_3 := Aside0.mk hc1_3.lt
   have ltbc1_4 := Aside0.mk hc1_4.lt
   go_enter Try.func54, Try.ntmps54
   refine wp_hide (fun Qf hQf => ?_)
   refine wp_seq_k (fun K1 hK1 => ?_)
   refine wp_region_lit ?_
   refine wpList_plain rfl (fun Ko hKo => ?_)
   go_simp
   refine hKo _ _ ?_
   clear hKo Ko
   try simp only [Act.put, nm1, nm2, nm3, i64_w]
   refine wpList_nil ?_
   (try simp only [Exit.then, Exit.inBlock, ↓reduceIte, Nat.reduceEqDiff])
   refine hK1 _ _ ?_
   refine wp_seq_k (fun K2 hK2 => ?_)
   refine wp_seq_k (fun K3 hK3 => ?_)
   refine wp_region_lit ?_
   refine wpList_plain rfl (fun Ko hKo => ?_)
   go_simp
   refine hKo _ _ ?_
   clear hKo Ko
   try simp only [Act.put, nm1, nm2, nm3, i64_w]
   refine step_call (wanted_none rfl) (by first | (go_simp; done) | (go_simp; rfl)) (impl_IsField.calls K a0 true w  A5.out) ?_
   rintro e w6 ⟨rfl, hu⟩
   have hu7 := Aside0.mk hu
   clear hu
   refine ⟨_, rfl, ?_⟩
   simp only [Act.put, nm1, nm2, nm3, i64_w]
   refine wpList_plain rfl (fun Ko hKo => ?_)
   go_simp
   refine hKo _ _ ?_
   clear hKo Ko
   try simp only [Act.put, nm1, nm2, nm3, i64_w]
   refine wpList_nil ?_
   (try simp only [Exit.then, Exit.inBlock, ↓reduceIte, Nat.reduceEqDiff])
   refine hK3 _ _ ?_
   refine wp_cond_false rfl ?_
   refine wp_skip ?_
   (try simp only [Exit.then, Exit.inBlock, ↓reduceIte, Nat.reduceEqDiff])
   refine hK2 _ _ ?_
   refine wp_seq_k (fun K9 hK9 => ?_)
   refine wp_seq_k (fun K10 hK10 => ?_)
   refine wp_region_lit ?_
   refine wpList_plain rfl (fun Ko hKo => ?_)
   go_simp
   refine hKo _ _ ?_
   clear hKo Ko
   try simp only [Act.put, nm1, nm2, nm3, i64_w]
   refine step_call (wanted_none rfl) (by first | (go_simp; done) | (go_simp; rfl)) (impl_WeightsOf_1.calls K bc1_0 c1_0_0 bc1_1 c1_1_0 c1_1_1 bc1_2 c1_2_0 c1_2_1 bc1_3 c1_3_0 c1_3_1 bc1_4 c1_4_0 c1_4_1 false w6 (hc1_0.up hu7.out) (hc1_1.up hu7.out) (hc1_2.up hu7.out) (hc1_3.up hu7.out) (hc1_4.up hu7.out) A12.out) ?_
   rintro e w13 ⟨rfl, hu⟩
   have hu14 := Aside0.mk hu
   clear hu
   refine ⟨_, rfl, ?_⟩
   simp only [Act.put, nm1, nm2, nm3, i64_w]
   refine wpList_plain rfl (fun Ko hKo => ?_)
   go_simp
   refine hKo _ _ ?_
   clear hKo Ko
   try simp only [Act.put, nm1, nm2, nm3, i64_w]
   refine wpList_nil ?_
   (try simp only [Exit.then, Exit.inBlock, ↓reduceIte, Nat.reduceEqDiff])
   refine hK10 _ _ ?_
   refine wp_cond_true rfl ?_
   refine wp_seq_k (fun K17 hK17 => ?_)
   refine wp_region_lit ?_
   refine wpList_plain rfl (fun Ko hKo => ?_)
   go_simp
   refine hKo _ _ ?_
   clear hKo Ko
   try simp only [Act.put, nm1, nm2, nm3, i64_w]
   refine wpList_nil ?_
   (try simp only [Exit.then, Exit.inBlock, ↓reduceIte, Nat.reduceEqDiff])
   refine hK17 _ _ ?_
   refine wp_ret ?_
   (try simp only [Exit.then, Exit.inBlock, ↓reduceIte, Nat.reduceEqDiff])
   refine hQf _ _ _ ?_
   exact bodyPost_ret (v := .int .i64 2) (by first | rfl | (simp [results, Try.results54, go_sem]; done) | (simp [results, Try.results54, go_sem]; rfl)) rfl ⟨rfl, (hu7.out.trans hu14.out)⟩
 ·
  rw [if_neg c8] at H
  replace c8 := Bool.eq_false_iff.mpr c8
  subst c8
  obtain rfl := Option.some.inj H
  have ltbc1_0 := Aside0.mk hc1_0.lt
  have ltbc1_1 := Aside0.mk hc1_1.lt
  have ltbc1_2 := Aside0.mk hc1_2.lt
  have ltbc1_3 := Aside0.mk hc1_3.lt
  have ltbc1_4 := Aside0.mk hc1_4.lt
  go_enter Try.func54, Try.ntmps54
  refine wp_hide (fun Qf hQf => ?_)
  refine wp_seq_k (fun K1 hK1 => ?_)
  refine wp_region_lit ?_
  refine wpList_plain rfl (fun Ko hKo => ?_)
  go_simp
  refine hKo _ _ ?_
  clear hKo Ko
  try simp only [Act.put, nm1, nm2, nm3, i64_w]
  refine wpList_nil ?_
  (try simp only [Exit.then, Exit.inBlock, ↓reduceIte, Nat.reduceEqDiff])
  refine hK1 _ _ ?_
  refine wp_seq_k (fun K2 hK2 => ?_)
  refine wp_seq_k (fun K3 hK3 => ?_)
  refine wp_region_lit ?_
  refine wpList_plain rfl (fun Ko hKo => ?_)
  go_simp
  refine hKo _ _ ?_
  clear hKo Ko
  try simp only [Act.put, nm1, nm2, nm3, i64_w]
  refine step_call (wanted_none rfl) (by first | (go_simp; done) | (go_simp; rfl)) (impl_IsField.calls K a0 false w  A5.out) ?_
  rintro e w6 ⟨rfl, hu⟩
  have hu7 := Aside0.mk hu
  clear hu
  refine ⟨_, rfl, ?_⟩
  simp only [Act.put, nm1, nm2, nm3, i64_w]
  refine wpList_plain rfl (fun Ko hKo => ?_)
  go_simp
  refine hKo _ _ ?_
  clear hKo Ko
  try simp only [Act.put, nm1, nm2, nm3, i64_w]
  refine wpList_nil ?_
  (try simp only [Exit.then, Exit.inBlock, ↓reduceIte, Nat.reduceEqDiff])
  refine hK3 _ _ ?_
  refine wp_cond_true rfl ?_
  refine wp_seq_k (fun K18 hK18 => ?_)
  refine wp_region_lit ?_
  refine wpList_plain rfl (fun Ko hKo => ?_)
  go_simp
  refine hKo _ _ ?_
  clear hKo Ko
  try simp only [Act.put, nm1, nm2, nm3, i64_w]
  refine wpList_nil ?_
  (try simp only [Exit.then, Exit.inBlock, ↓reduceIte, Nat.reduceEqDiff])
  refine hK18 _ _ ?_
  refine wp_ret ?_
  (try simp only [Exit.then, Exit.inBlock, ↓reduceIte, Nat.reduceEqDiff])
  refine hQf _ _ _ ?_
  exact bodyPost_ret (v := .int .i64 1) (by first | rfl | (simp [results, Try.results54, go_sem]; done) | (simp [results, Try.results54, go_sem]; rfl)) rfl ⟨rfl, hu7.out⟩

set_option maxHeartbeats 4000000 in
set_option maxRecDepth 100000 in
theorem impl_rest.calls (K : Nat) (a0 : Int) (a1 : Int) (r0 : Int) (w : World)  (h : impl_rest.f K a0 a1 = some (r0)) :
    Calls Try.prog 75 #[.int .i64 a0, .int .i64 a1] w fun e w' => e = .returned (.int .i64 r0) ∧ Up w w' := by
 have H : ((if (a0 == 0) = true then none else some (Int.tmod (wrap64 ((Int.tmod a1 a0) + a0)) a0)) : Option (Int)) = some (r0) := h
 clear h
 by_cases c3 : (a0 == 0) = true
 ·
  rw [if_pos c3] at H
  have c3n : (a0 != 0) = false := by rw [bne, c3]; rfl
  exact absurd H (by simp)
 ·
  rw [if_neg c3] at H
  replace c3 := Bool.eq_false_iff.mpr c3
  have c3n : (a0 != 0) = true := by rw [bne, c3]; rfl
  have c3p : ¬ a0 = 0 := fun e => by simp [e] at c3
  obtain rfl := Option.some.inj H
  go_enter Try.func75, Try.ntmps75
  refine wp_hide (fun Qf hQf => ?_)
  refine wp_seq_k (fun K1 hK1 => ?_)
  refine wp_region_lit ?_
  refine wpList_plain rfl (fun Ko hKo => ?_)
  go_simp
  refine hKo _ _ ?_
  clear hKo Ko
  try simp only [Act.put, nm1, nm2, nm3, i64_w]
  refine wpList_nil ?_
  (try simp only [Exit.then, Exit.inBlock, ↓reduceIte, Nat.reduceEqDiff])
  refine hK1 _ _ ?_
  refine wp_seq_k (fun K2 hK2 => ?_)
  refine wp_region_lit ?_
  refine wpList_plain rfl (fun Ko hKo => ?_)
  go_simp
  refine hKo _ _ ?_
  clear hKo Ko
  try simp only [Act.put, nm1, nm2, nm3, i64_w]
  refine wpList_plain rfl (fun Ko hKo => ?_)
  go_simp
  refine hKo _ _ ?_
  clear hKo Ko
  try simp only [Act.put, nm1, nm2, nm3, i64_w]
  refine wpList_plain rfl (fun Ko hKo => ?_)
  go_simp
  refine hKo _ _ ?_
  clear hKo Ko
  try simp only [Act.put, nm1, nm2, nm3, i64_w]
  refine wpList_plain rfl (fun Ko hKo => ?_)
  go_simp
  refine hKo _ _ ?_
  clear hKo Ko
  try simp only [Act.put, nm1, nm2, nm3, i64_w]
  refine wpList_plain rfl (fun Ko hKo => ?_)
  go_simp
  refine hKo _ _ ?_
  clear hKo Ko
  try simp only [Act.put, nm1, nm2, nm3, i64_w]
  refine wpList_plain rfl (fun Ko hKo => ?_)
  go_simp
  refine hKo _ _ ?_
  clear hKo Ko
  try simp only [Act.put, nm1, nm2, nm3, i64_w]
  refine wpList_plain rfl (fun Ko hKo => ?_)
  go_simp
  refine hKo _ _ ?_
  clear hKo Ko
  try simp only [Act.put, nm1, nm2, nm3, i64_w]
  refine wpList_plain rfl (fun Ko hKo => ?_)
  go_simp
  refine hKo _ _ ?_
  clear hKo Ko
  try simp only [Act.put, nm1, nm2, nm3, i64_w]
  refine wpList_nil ?_
  (try simp only [Exit.then, Exit.inBlock, ↓reduceIte, Nat.reduceEqDiff])
  refine hK2 _ _ ?_
  refine wp_ret ?_
  (try simp only [Exit.then, Exit.inBlock, ↓reduceIte, Nat.reduceEqDiff])
  refine hQf _ _ _ ?_
  exact bodyPost_ret (v := .int .i64 (Int.tmod (wrap64 ((Int.tmod a1 a0) + a0)) a0)) (by first | rfl | (simp [results, Try.results75, go_sem]; done) | (simp [results, Try.results75, go_sem]; rfl)) rfl ⟨rfl, (Up.refl _)⟩

set_option maxHeartbeats 4000000 in
set_option maxRecDepth 100000 in
theorem impl_less.calls (K : Nat) (a0 : Int) (a1_0 : Int) (a1_1 : Int) (a2_0 : Int) (a2_1 : Int) (r0 : Int) (r1 : Int) (w : World)  (h : impl_less.f K a0 a1_0 a1_1 a2_0 a2_1 = some (r0, r1)) :
    Calls Try.prog 76 #[.int .i64 a0, .agg #[.int .i64 a1_0, .int .i64 a1_1], .agg #[.int .i64 a2_0, .int .i64 a2_1]] w fun e w' => e = .returned (.agg #[.int .i64 r0, .int .i64 r1]) ∧ Up w w' := by
 have H : (((impl_rest.f K a0 (wrap64 (a1_0 - a2_0))).bind fun t12 => ((impl_rest.f K a0 (wrap64 (a1_1 - a2_1))).bind fun t14 => some (t12, t14))) : Option (Int × Int)) = some (r0, r1) := h
 clear h
 replace H := Option.bind_eq_some_iff.mp H
 obtain ⟨t12, A13, H⟩ := H
 replace A13 := Aside0.mk A13
 try dsimp only at H
 replace H := Option.bind_eq_some_iff.mp H
 obtain ⟨t14, A15, H⟩ := H
 replace A15 := Aside0.mk A15
 try dsimp only at H
 simp only [Option.some.injEq, Prod.mk.injEq] at H
 obtain ⟨rfl, rfl⟩ := H
 go_enter Try.func76, Try.ntmps76
 refine wp_hide (fun Qf hQf => ?_)
 refine wp_seq_k (fun K1 hK1 => ?_)
 refine wp_region_lit ?_
 refine step_new (cs := [.int .i64 a1_0, .int .i64 a1_1]) (T := 25) (f := fun b => .pointer (some ⟨b, 0, none⟩)) rfl (by first | (go_simp; done) | (go_simp; rfl)) ?_
 intro b2 w3 hu lb hb2
 simp only [Act.put, nm1, nm2, nm3, i64_w]
 have lbb2 := Aside0.mk lb
 have ltb2 := Aside0.mk hb2.lt
 clear lb
 have hu4 := Aside0.mk hu
 clear hu
 refine step_new (cs := [.int .i64 a2_0, .int .i64 a2_1]) (T := 25) (f := fun b => .pointer (some ⟨b, 0, none⟩)) rfl (by first | (go_simp; done) | (go_simp; rfl)) ?_
 intro b5 w6 hu lb hb5
 simp only [Act.put, nm1, nm2, nm3, i64_w]
 have lbb5 := Aside0.mk lb
 have ltb5 := Aside0.mk hb5.lt
 clear lb
 have hu7 := Aside0.mk hu
 clear hu
 refine step_new (cs := [.int .i64 0, .int .i64 0]) (T := 25) (f := fun b => .pointer (some ⟨b, 0, none⟩)) rfl (by first | (go_simp; done) | (go_simp; rfl)) ?_
 intro b8 w9 hu lb hb8
 simp only [Act.put, nm1, nm2, nm3, i64_w]
 have lbb8 := Aside0.mk lb
 have ltb8 := Aside0.mk hb8.lt
 clear lb
 have hu10 := Aside0.mk hu
 clear hu
 refine wpList_nil ?_
 (try simp only [Exit.then, Exit.inBlock, ↓reduceIte, Nat.reduceEqDiff])
 refine hK1 _ _ ?_
 refine wp_seq_k (fun K11 hK11 => ?_)
 refine' wp_region_up 15 [Slot.det _, Slot.det _, Slot.det _, Slot.det _, Slot.det _, Slot.det _, Slot.det (.int .i64 t12), Slot.det _, Slot.det _, Slot.det _, Slot.det _, Slot.det _, Slot.det _, Slot.det (.int .i64 t14), Slot.det _] (by kernel_rfl) (by kernel_rfl) ?main
 case main =>
  simp only [List.take_succ_cons, List.take_zero]
  refine wpK_ops rfl (fun w1 hu => ?_) ?_
  · clear hu
    go_simp
    first | done | rfl
  simp only [Act.put, nm1, nm2, nm3, i64_w]
  refine wpK_ops rfl (fun w1 hu => ?_) ?_
  · clear hu
    go_simp
    first | done | rfl
  simp only [Act.put, nm1, nm2, nm3, i64_w]
  refine wpK_ops rfl (fun w1 hu => ?_) ?_
  · have cl0 := ((hb2.up (hu7.out.trans hu10.out)).up ((Up.refl _).drew.trans hu)).cell (o := 0) rfl
    go_simp
    first | done | rfl
  simp only [Act.put, nm1, nm2, nm3, i64_w]
  refine wpK_ops rfl (fun w1 hu => ?_) ?_
  · clear hu
    go_simp
    first | done | rfl
  simp only [Act.put, nm1, nm2, nm3, i64_w]
  refine wpK_ops rfl (fun w1 hu => ?_) ?_
  · have cl0 := ((hb5.up hu10.out).up ((Up.refl _).drew.trans hu)).cell (o := 0) rfl
    go_simp
    first | done | rfl
  simp only [Act.put, nm1, nm2, nm3, i64_w]
  refine wpK_ops rfl (fun w1 hu => ?_) ?_
  · clear hu
    go_simp
    first | done | rfl
  simp only [Act.put, nm1, nm2, nm3, i64_w]
  refine wpK_ops rfl (fun w1 hu => ?_) ?_
  · have hcl := (impl_rest.calls K a0 (wrap64 (a1_0 - a2_0)) t12 w1  A13.out)
    clear hu
    replace hcl := Aside0.mk hcl
    go_simp
    exact hcl.out
  simp only [Act.put, nm1, nm2, nm3, i64_w]
  refine wpK_ops rfl (fun w1 hu => ?_) ?_
  · clear hu
    go_simp
    first | done | rfl
  simp only [Act.put, nm1, nm2, nm3, i64_w]
  refine wpK_ops rfl (fun w1 hu => ?_) ?_
  · clear hu
    go_simp
    first | done | rfl
  simp only [Act.put, nm1, nm2, nm3, i64_w]
  refine wpK_ops rfl (fun w1 hu => ?_) ?_
  · have cl0 := ((hb2.up (hu7.out.trans hu10.out)).up ((Up.refl _).drew.trans hu)).cell (o := 1) rfl
    go_simp
    first | done | rfl
  simp only [Act.put, nm1, nm2, nm3, i64_w]
  refine wpK_ops rfl (fun w1 hu => ?_) ?_
  · clear hu
    go_simp
    first | done | rfl
  simp only [Act.put, nm1, nm2, nm3, i64_w]
  refine wpK_ops rfl (fun w1 hu => ?_) ?_
  · have cl0 := ((hb5.up hu10.out).up ((Up.refl _).drew.trans hu)).cell (o := 1) rfl
    go_simp
    first | done | rfl
  simp only [Act.put, nm1, nm2, nm3, i64_w]
  refine wpK_ops rfl (fun w1 hu => ?_) ?_
  · clear hu
    go_simp
    first | done | rfl
  simp only [Act.put, nm1, nm2, nm3, i64_w]
  refine wpK_ops rfl (fun w1 hu => ?_) ?_
  · have hcl := (impl_rest.calls K a0 (wrap64 (a1_1 - a2_1)) t14 w1  A15.out)
    clear hu
    replace hcl := Aside0.mk hcl
    go_simp
    exact hcl.out
  simp only [Act.put, nm1, nm2, nm3, i64_w]
  refine wpK_ops rfl (fun w1 hu => ?_) ?_
  · clear hu
    go_simp
    first | done | rfl
  simp only [Act.put, nm1, nm2, nm3, i64_w]
  refine wpK_nil ?_
  intro w16 hu hap
  simp only [List.drop_succ_cons, List.drop_zero]
  replace hu := (Up.refl _).drew.trans hu
  clear hap
  have hu17 := Aside0.mk hu
  clear hu
  have hB0 := (hb8.up hu17.out)
  have cl0 := hB0.cell (o := 0) rfl
  have fr0 := hB0.free 0
  have cl1 := hB0.cell (o := 1) rfl
  have fr1 := hB0.free 1
  refine step_store (b := b8) (cs' := [.int .i64 t12, .int .i64 t14]) (T := 25) (W' := ((w16.setCell ⟨b8, 0, none⟩ (.int .i64 t12)).setCell ⟨b8, 1, none⟩ (.int .i64 t14))) rfl rfl (by first | (go_simp; done) | (go_simp; rfl)) (((Sto.refl _ _).setCell 0 _).setCell 1 _) (((hB0).setCell 0 _).setCell 1 _) ?_
  clear hB0 cl0 fr0 cl1 fr1
  intro w18 hs hb20
  have hs19 := Aside0.mk hs
  clear hs
  refine wpList_nil ?_
  (try simp only [Exit.then, Exit.inBlock, ↓reduceIte, Nat.reduceEqDiff])
  refine hK11 _ _ ?_
  refine wp_ret ?_
  (try simp only [Exit.then, Exit.inBlock, ↓reduceIte, Nat.reduceEqDiff])
  refine hQf _ _ _ ?_
  have cr0 := hb20.cell (o := 0) rfl
  have cr1 := hb20.cell (o := 1) rfl
  exact bodyPost_ret (v := .agg #[.int .i64 t12, .int .i64 t14]) (by first | rfl | (simp [results, Try.results76, go_sem, cr0, cr1]; done) | (simp [results, Try.results76, go_sem, cr0, cr1]; rfl)) rfl ⟨rfl, ((((hu4.out.trans hu7.out).trans hu10.out).trans hu17.out).sto (Nat.le_trans ((Nat.le_trans (hu4.out.size) hu7.out.size)) lbb8.out) hs19.out)⟩

set_option maxHeartbeats 4000000 in
set_option maxRecDepth 100000 in
theorem impl_area.calls (K : Nat) (a0 : Int) (a1_0 : Int) (a1_1 : Int) (a2_0 : Int) (a2_1 : Int) (a3_0 : Int) (a3_1 : Int) (r0 : Int) (w : World)  (h : impl_area.f K a0 a1_0 a1_1 a2_0 a2_1 a3_0 a3_1 = some (r0)) :
    Calls Try.prog 57 #[.int .i64 a0, .agg #[.int .i64 a1_0, .int .i64 a1_1], .agg #[.int .i64 a2_0, .int .i64 a2_1], .agg #[.int .i64 a3_0, .int .i64 a3_1]] w fun e w' => e = .returned (.int .i64 r0) ∧ Up w w' := by
 have H : (((impl_less.f K a0 a2_0 a2_1 a1_0 a1_1).bind fun (t12, t13) => ((impl_less.f K a0 a3_0 a3_1 a1_0 a1_1).bind fun (t15, t16) => ((impl_rest.f K a0 (wrap64 ((wrap64 (t12 * t16)) - (wrap64 (t13 * t15))))).bind fun t34 => some t34))) : Option (Int)) = some (r0) := h
 clear h
 replace H := Option.bind_eq_some_iff.mp H
 obtain ⟨⟨t12, t13⟩, A14, H⟩ := H
 replace A14 := Aside0.mk A14
 try dsimp only at H
 replace H := Option.bind_eq_some_iff.mp H
 obtain ⟨⟨t15, t16⟩, A17, H⟩ := H
 replace A17 := Aside0.mk A17
 try dsimp only at H
 replace H := Option.bind_eq_some_iff.mp H
 obtain ⟨t34, A35, H⟩ := H
 replace A35 := Aside0.mk A35
 try dsimp only at H
 obtain rfl := Option.some.inj H
 go_enter Try.func57, Try.ntmps57
 refine wp_hide (fun Qf hQf => ?_)
 refine wp_seq_k (fun K1 hK1 => ?_)
 refine wp_region_lit ?_
 refine step_new (cs := [.int .i64 a1_0, .int .i64 a1_1]) (T := 25) (f := fun b => .pointer (some ⟨b, 0, none⟩)) rfl (by first | (go_simp; done) | (go_simp; rfl)) ?_
 intro b2 w3 hu lb hb2
 simp only [Act.put, nm1, nm2, nm3, i64_w]
 have lbb2 := Aside0.mk lb
 have ltb2 := Aside0.mk hb2.lt
 clear lb
 have hu4 := Aside0.mk hu
 clear hu
 refine step_new (cs := [.int .i64 a2_0, .int .i64 a2_1]) (T := 25) (f := fun b => .pointer (some ⟨b, 0, none⟩)) rfl (by first | (go_simp; done) | (go_simp; rfl)) ?_
 intro b5 w6 hu lb hb5
 simp only [Act.put, nm1, nm2, nm3, i64_w]
 have lbb5 := Aside0.mk lb
 have ltb5 := Aside0.mk hb5.lt
 clear lb
 have hu7 := Aside0.mk hu
 clear hu
 refine step_new (cs := [.int .i64 a3_0, .int .i64 a3_1]) (T := 25) (f := fun b => .pointer (some ⟨b, 0, none⟩)) rfl (by first | (go_simp; done) | (go_simp; rfl)) ?_
 intro b8 w9 hu lb hb8
 simp only [Act.put, nm1, nm2, nm3, i64_w]
 have lbb8 := Aside0.mk lb
 have ltb8 := Aside0.mk hb8.lt
 clear lb
 have hu10 := Aside0.mk hu
 clear hu
 refine wpList_plain rfl (fun Ko hKo => ?_)
 go_simp
 refine hKo _ _ ?_
 clear hKo Ko
 try simp only [Act.put, nm1, nm2, nm3, i64_w]
 refine wpList_nil ?_
 (try simp only [Exit.then, Exit.inBlock, ↓reduceIte, Nat.reduceEqDiff])
 refine hK1 _ _ ?_
 refine wp_seq_k (fun K11 hK11 => ?_)
 refine' wp_region_up 10 [Slot.det _, Slot.det _, Slot.det _, Slot.det (.agg #[.int .i64 t12, .int .i64 t13]), Slot.det _, Slot.det _, Slot.det _, Slot.det (.agg #[.int .i64 t15, .int .i64 t16]), Slot.any (PtrTo [.int .i64 0, .int .i64 0] 25) true, Slot.any (PtrTo [.int .i64 0, .int .i64 0] 25) true] (by kernel_rfl) (by kernel_rfl) ?main
 case main =>
  simp only [List.take_succ_cons, List.take_zero]
  refine wpK_ops rfl (fun w1 hu => ?_) ?_
  · clear hu
    go_simp
    first | done | rfl
  simp only [Act.put, nm1, nm2, nm3, i64_w]
  refine wpK_ops rfl (fun w1 hu => ?_) ?_
  · have cl0 := ((hb5.up hu10.out).up ((Up.refl _).drew.trans hu)).cell (o := 0) rfl
    have cl1 := ((hb5.up hu10.out).up ((Up.refl _).drew.trans hu)).cell (o := 1) rfl
    go_simp
    first | done | rfl
  simp only [Act.put, nm1, nm2, nm3, i64_w]
  refine wpK_ops rfl (fun w1 hu => ?_) ?_
  · have cl0 := ((hb2.up (hu7.out.trans hu10.out)).up ((Up.refl _).drew.trans hu)).cell (o := 0) rfl
    have cl1 := ((hb2.up (hu7.out.trans hu10.out)).up ((Up.refl _).drew.trans hu)).cell (o := 1) rfl
    go_simp
    first | done | rfl
  simp only [Act.put, nm1, nm2, nm3, i64_w]
  refine wpK_ops rfl (fun w1 hu => ?_) ?_
  · have hcl := (impl_less.calls K a0 a2_0 a2_1 a1_0 a1_1 t12 t13 w1  A14.out)
    clear hu
    replace hcl := Aside0.mk hcl
    go_simp
    exact hcl.out
  simp only [Act.put, nm1, nm2, nm3, i64_w]
  refine wpK_ops rfl (fun w1 hu => ?_) ?_
  · clear hu
    go_simp
    first | done | rfl
  simp only [Act.put, nm1, nm2, nm3, i64_w]
  refine wpK_ops rfl (fun w1 hu => ?_) ?_
  · have cl0 := (hb8.up ((Up.refl _).drew.trans hu)).cell (o := 0) rfl
    have cl1 := (hb8.up ((Up.refl _).drew.trans hu)).cell (o := 1) rfl
    go_simp
    first | done | rfl
  simp only [Act.put, nm1, nm2, nm3, i64_w]
  refine wpK_ops rfl (fun w1 hu => ?_) ?_
  · have cl0 := ((hb2.up (hu7.out.trans hu10.out)).up ((Up.refl _).drew.trans hu)).cell (o := 0) rfl
    have cl1 := ((hb2.up (hu7.out.trans hu10.out)).up ((Up.refl _).drew.trans hu)).cell (o := 1) rfl
    go_simp
    first | done | rfl
  simp only [Act.put, nm1, nm2, nm3, i64_w]
  refine wpK_ops rfl (fun w1 hu => ?_) ?_
  · have hcl := (impl_less.calls K a0 a3_0 a3_1 a1_0 a1_1 t15 t16 w1  A17.out)
    clear hu
    replace hcl := Aside0.mk hcl
    go_simp
    exact hcl.out
  simp only [Act.put, nm1, nm2, nm3, i64_w]
  refine wpK_any rfl (stab_ptr _ _) (fun w1 _ _ => fresh_ptr (by first | (go_simp; done) | (go_simp; rfl))) (fun v18 => ?_)
  simp only [Act.put, nm1, nm2, nm3, i64_w]
  refine wpK_any rfl (stab_ptr _ _) (fun w1 _ _ => fresh_ptr (by first | (go_simp; done) | (go_simp; rfl))) (fun v20 => ?_)
  simp only [Act.put, nm1, nm2, nm3, i64_w]
  refine wpK_nil ?_
  intro w22 hu hap
  simp only [List.drop_succ_cons, List.drop_zero]
  replace hu := (Up.refl _).drew.trans hu
  obtain ⟨hf0, hn0, ⟨b21, e0, hb21⟩, hf1, hn1, ⟨b19, e1, hb19⟩, -⟩ := hap
  have lbb21 := Aside0.mk (hf0 rfl b21 (by rw [e0]; rfl)).1
  have ltb21 := Aside0.mk hb21.lt
  have lbb19 := Aside0.mk (hf1 rfl b19 (by rw [e1]; rfl)).1
  have ltb19 := Aside0.mk hb19.lt
  have ne23 := Aside0.mk (hn0 _ (.head _) rfl rfl b21 b19 (by rw [e0]; rfl) (by rw [e1]; rfl)).symm
  dsimp only at e0 e1
  subst e0 e1
  clear hf0 hn0 hf1 hn1
  have hu24 := Aside0.mk hu
  clear hu
  have hB0 := hb19
  have cl0 := hB0.cell (o := 0) rfl
  have fr0 := hB0.free 0
  have cl1 := hB0.cell (o := 1) rfl
  have fr1 := hB0.free 1
  refine step_store (b := b19) (cs' := [.int .i64 t12, .int .i64 t13]) (T := 25) (W' := ((w22.setCell ⟨b19, 0, none⟩ (.int .i64 t12)).setCell ⟨b19, 1, none⟩ (.int .i64 t13))) rfl rfl (by first | (go_simp; done) | (go_simp; rfl)) (((Sto.refl _ _).setCell 0 _).setCell 1 _) (((hB0).setCell 0 _).setCell 1 _) ?_
  clear hB0 cl0 fr0 cl1 fr1
  intro w25 hs hb27
  have hs26 := Aside0.mk hs
  clear hs
  have h28 := hb21.sto hs26.out (Ne.symm (ne23.out))
  have hB0 := h28
  have cl0 := hB0.cell (o := 0) rfl
  have fr0 := hB0.free 0
  have cl1 := hB0.cell (o := 1) rfl
  have fr1 := hB0.free 1
  refine step_store (b := b21) (cs' := [.int .i64 t15, .int .i64 t16]) (T := 25) (W' := ((w25.setCell ⟨b21, 0, none⟩ (.int .i64 t15)).setCell ⟨b21, 1, none⟩ (.int .i64 t16))) rfl rfl (by first | (go_simp; done) | (go_simp; rfl)) (((Sto.refl _ _).setCell 0 _).setCell 1 _) (((hB0).setCell 0 _).setCell 1 _) ?_
  clear hB0 cl0 fr0 cl1 fr1
  intro w29 hs hb31
  have hs30 := Aside0.mk hs
  clear hs
  have h32 := hb27.sto hs30.out ne23.out
  refine wpList_nil ?_
  (try simp only [Exit.then, Exit.inBlock, ↓reduceIte, Nat.reduceEqDiff])
  refine hK11 _ _ ?_
  refine wp_seq_k (fun K33 hK33 => ?_)
  refine wp_region_lit ?_
  refine wpList_plain rfl (fun Ko hKo => ?_)
  go_simp
  refine hKo _ _ ?_
  clear hKo Ko
  try simp only [Act.put, nm1, nm2, nm3, i64_w]
  refine wpList_plain rfl (fun Ko hKo => ?_)
  go_simp
  refine hKo _ _ ?_
  clear hKo Ko
  try simp only [Act.put, nm1, nm2, nm3, i64_w]
  have cl0 := h32.cell (o := 0) rfl
  refine wpList_plain rfl (fun Ko hKo => ?_)
  go_simp
  refine hKo _ _ ?_
  clear hKo Ko
  clear cl0
  try simp only [Act.put, nm1, nm2, nm3, i64_w]
  refine wpList_plain rfl (fun Ko hKo => ?_)
  go_simp
  refine hKo _ _ ?_
  clear hKo Ko
  try simp only [Act.put, nm1, nm2, nm3, i64_w]
  have cl0 := hb31.cell (o := 1) rfl
  refine wpList_plain rfl (fun Ko hKo => ?_)
  go_simp
  refine hKo _ _ ?_
  clear hKo Ko
  clear cl0
  try simp only [Act.put, nm1, nm2, nm3, i64_w]
  refine wpList_plain rfl (fun Ko hKo => ?_)
  go_simp
  refine hKo _ _ ?_
  clear hKo Ko
  try simp only [Act.put, nm1, nm2, nm3, i64_w]
  refine wpList_plain rfl (fun Ko hKo => ?_)
  go_simp
  refine hKo _ _ ?_
  clear hKo Ko
  try simp only [Act.put, nm1, nm2, nm3, i64_w]
  have cl0 := h32.cell (o := 1) rfl
  refine wpList_plain rfl (fun Ko hKo => ?_)
  go_simp
  refine hKo _ _ ?_
  clear hKo Ko
  clear cl0
  try simp only [Act.put, nm1, nm2, nm3, i64_w]
  refine wpList_plain rfl (fun Ko hKo => ?_)
  go_simp
  refine hKo _ _ ?_
  clear hKo Ko
  try simp only [Act.put, nm1, nm2, nm3, i64_w]
  have cl0 := hb31.cell (o := 0) rfl
  refine wpList_plain rfl (fun Ko hKo => ?_)
  go_simp
  refine hKo _ _ ?_
  clear hKo Ko
  clear cl0
  try simp only [Act.put, nm1, nm2, nm3, i64_w]
  refine wpList_plain rfl (fun Ko hKo => ?_)
  go_simp
  refine hKo _ _ ?_
  clear hKo Ko
  try simp only [Act.put, nm1, nm2, nm3, i64_w]
  refine wpList_plain rfl (fun Ko hKo => ?_)
  go_simp
  refine hKo _ _ ?_
  clear hKo Ko
  try simp only [Act.put, nm1, nm2, nm3, i64_w]
  refine step_call (wanted_none rfl) (by first | (go_simp; done) | (go_simp; rfl)) (impl_rest.calls K a0 (wrap64 ((wrap64 (t12 * t16)) - (wrap64 (t13 * t15)))) t34 w29  A35.out) ?_
  rintro e w36 ⟨rfl, hu⟩
  have hu37 := Aside0.mk hu
  clear hu
  refine ⟨_, rfl, ?_⟩
  simp only [Act.put, nm1, nm2, nm3, i64_w]
  refine wpList_plain rfl (fun Ko hKo => ?_)
  go_simp
  refine hKo _ _ ?_
  clear hKo Ko
  try simp only [Act.put, nm1, nm2, nm3, i64_w]
  refine wpList_nil ?_
  (try simp only [Exit.then, Exit.inBlock, ↓reduceIte, Nat.reduceEqDiff])
  refine hK33 _ _ ?_
  refine wp_ret ?_
  (try simp only [Exit.then, Exit.inBlock, ↓reduceIte, Nat.reduceEqDiff])
  refine hQf _ _ _ ?_
  exact bodyPost_ret (v := .int .i64 t34) (by first | rfl | (simp [results, Try.results57, go_sem]; done) | (simp [results, Try.results57, go_sem]; rfl)) rfl ⟨rfl, ((((((hu4.out.trans hu7.out).trans hu10.out).trans hu24.out).sto (Nat.le_trans ((Nat.le_trans ((Nat.le_trans (hu4.out.size) hu7.out.size)) hu10.out.size)) lbb19.out) hs26.out).sto (Nat.le_trans ((Nat.le_trans ((Nat.le_trans (hu4.out.size) hu7.out.size)) hu10.out.size)) lbb21.out) hs30.out).trans hu37.out)⟩

set_option maxHeartbeats 4000000 in
set_option maxRecDepth 100000 in
theorem impl_inverse.calls (K : Nat) (a0 : Int) (a1 : Int) (r0 : Int) (w : World)  (h : impl_inverse.f K a0 a1 = some (r0)) :
    Calls Try.prog 78 #[.int .i64 a0, .int .i64 a1] w fun e w' => e = .returned (.int .i64 r0) ∧ Up w w' := by
 have H : ((impl_inverse.l0 K a0 a1 K 1) : Option (Int)) = some (r0) := h
 clear h
 go_enter Try.func78, Try.ntmps78
 refine wp_hide (fun Qf hQf => ?_)
 refine wp_seq_k (fun K1 hK1 => ?_)
 refine wp_region_lit ?_
 refine wpList_plain rfl (fun Ko hKo => ?_)
 go_simp
 refine hKo _ _ ?_
 clear hKo Ko
 try simp only [Act.put, nm1, nm2, nm3, i64_w]
 refine wpList_nil ?_
 (try simp only [Exit.then, Exit.inBlock, ↓reduceIte, Nat.reduceEqDiff])
 refine hK1 _ _ ?_
 refine wp_seq_k (fun K2 hK2 => ?_)
 refine wp_seq_k (fun K3 hK3 => ?_)
 refine wp_region_lit ?_
 refine wpList_plain rfl (fun Ko hKo => ?_)
 go_simp
 refine hKo _ _ ?_
 clear hKo Ko
 try simp only [Act.put, nm1, nm2, nm3, i64_w]
 refine wpList_nil ?_
 (try simp only [Exit.then, Exit.inBlock, ↓reduceIte, Nat.reduceEqDiff])
 refine hK3 _ _ ?_
 refine wp_block ?_
 have HL8 := Aside0.mk H
 clear H
 go_loopg [5] K (fun kq v5 w' => ∃ (x4 : Int), v5 = .int .i64 x4 ∧ Aside0 (impl_inverse.l0 K a0 a1 kq x4 = some (r0)) ∧ Aside0 (kq ≤ K) ∧ Aside0 (Up w w') ∧ Aside0 (w.heap.size ≤ w'.heap.size))
 case atStart => exact ⟨1, (by first | rfl | simp), HL8, ⟨Nat.le_refl _⟩, ⟨(Up.refl _)⟩, ⟨Nat.le_refl _⟩⟩
 case round =>
  rename_i J12 K13 hJ12 hK13
  obtain ⟨x4, rfl, HL11, hk10, hu6, hz7⟩ := hrel
  obtain ⟨w5, rfl⟩ : ∃ wo : World, wo = wr := ⟨_, rfl⟩
  obtain ⟨k9, rfl⟩ | rfl : (∃ k, gk = k + 1) ∨ gk = 0 := by rcases gk with _ | k; exact .inr rfl; exact .inl ⟨k, rfl⟩
  case inr => exact absurd HL11.out (by simp [impl_inverse.l0])
  have H := HL11.out
  clear HL11
  rw [impl_inverse.l0] at H
  by_cases c16 : (decide (x4 < a0)) = true
  ·
   rw [if_pos c16] at H
   by_cases c19 : (a0 == 0) = true
   ·
    rw [if_pos c19] at H
    have c19n : (a0 != 0) = false := by rw [bne, c19]; rfl
    exact absurd H (by simp)
   ·
    rw [if_neg c19] at H
    replace c19 := Bool.eq_false_iff.mpr c19
    have c19n : (a0 != 0) = true := by rw [bne, c19]; rfl
    have c19p : ¬ a0 = 0 := fun e => by simp [e] at c19
    by_cases c20 : ((Int.tmod (wrap64 (a1 * x4)) a0) == 1) = true
    ·
     rw [if_pos c20] at H
     have c20n : ((Int.tmod (wrap64 (a1 * x4)) a0) != 1) = false := by rw [bne, c20]; rfl
     obtain rfl := Option.some.inj H
     refine wp_seq_k (fun K14 hK14 => ?_)
     refine wp_seq_k (fun K15 hK15 => ?_)
     refine wp_region_lit ?_
     refine wpList_plain rfl (fun Ko hKo => ?_)
     go_simp
     refine hKo _ _ ?_
     clear hKo Ko
     try simp only [Act.put, nm1, nm2, nm3, i64_w]
     refine wpList_plain rfl (fun Ko hKo => ?_)
     go_simp
     refine hKo _ _ ?_
     clear hKo Ko
     try simp only [Act.put, nm1, nm2, nm3, i64_w]
     refine wpList_plain rfl (fun Ko hKo => ?_)
     go_simp
     refine hKo _ _ ?_
     clear hKo Ko
     try simp only [Act.put, nm1, nm2, nm3, i64_w]
     refine wpList_nil ?_
     (try simp only [Exit.then, Exit.inBlock, ↓reduceIte, Nat.reduceEqDiff])
     refine hK15 _ _ ?_
     refine wp_cond_true rfl ?_
     refine wp_skip ?_
     (try simp only [Exit.then, Exit.inBlock, ↓reduceIte, Nat.reduceEqDiff])
     refine hK14 _ _ ?_
     refine wp_seq_k (fun K17 hK17 => ?_)
     refine wp_block ?_
     refine wp_seq_k (fun K18 hK18 => ?_)
     refine wp_region_lit ?_
     refine wpList_plain rfl (fun Ko hKo => ?_)
     go_simp
     refine hKo _ _ ?_
     clear hKo Ko
     try simp only [Act.put, nm1, nm2, nm3, i64_w]
     refine wpList_plain rfl (fun Ko hKo => ?_)
     go_simp
     refine hKo _ _ ?_
     clear hKo Ko
     try simp only [Act.put, nm1, nm2, nm3, i64_w]
     refine wpList_plain rfl (fun Ko hKo => ?_)
     go_simp
     refine hKo _ _ ?_
     clear hKo Ko
     try simp only [Act.put, nm1, nm2, nm3, i64_w]
     refine wpList_plain rfl (fun Ko hKo => ?_)
     go_simp
     refine hKo _ _ ?_
     clear hKo Ko
     try simp only [Act.put, nm1, nm2, nm3, i64_w]
     refine wpList_plain rfl (fun Ko hKo => ?_)
     go_simp
     refine hKo _ _ ?_
     clear hKo Ko
     try simp only [Act.put, nm1, nm2, nm3, i64_w]
     refine wpList_plain rfl (fun Ko hKo => ?_)
     go_simp
     refine hKo _ _ ?_
     clear hKo Ko
     try simp only [Act.put, nm1, nm2, nm3, i64_w]
     refine wpList_nil ?_
     (try simp only [Exit.then, Exit.inBlock, ↓reduceIte, Nat.reduceEqDiff])
     refine hK18 _ _ ?_
     refine wp_cond_true rfl ?_
     refine wp_seq_k (fun K21 hK21 => ?_)
     refine wp_region_lit ?_
     refine wpList_plain rfl (fun Ko hKo => ?_)
     go_simp
     refine hKo _ _ ?_
     clear hKo Ko
     try simp only [Act.put, nm1, nm2, nm3, i64_w]
     refine wpList_plain rfl (fun Ko hKo => ?_)
     go_simp
     refine hKo _ _ ?_
     clear hKo Ko
     try simp only [Act.put, nm1, nm2, nm3, i64_w]
     refine wpList_nil ?_
     (try simp only [Exit.then, Exit.inBlock, ↓reduceIte, Nat.reduceEqDiff])
     refine hK21 _ _ ?_
     refine wp_ret ?_
     (try simp only [Exit.then, Exit.inBlock, ↓reduceIte, Nat.reduceEqDiff])
     refine hQf _ _ _ ?_
     exact bodyPost_ret (v := .int .i64 x4) (by first | rfl | (simp [results, Try.results78, go_sem]; done) | (simp [results, Try.results78, go_sem]; rfl)) rfl ⟨rfl, hu6.out⟩
    ·
     rw [if_neg c20] at H
     replace c20 := Bool.eq_false_iff.mpr c20
     have c20n : ((Int.tmod (wrap64 (a1 * x4)) a0) != 1) = true := by rw [bne, c20]; rfl
     have c20p : ¬ (Int.tmod (wrap64 (a1 * x4)) a0) = 1 := fun e => by simp [e] at c20
     have HL22 := Aside0.mk H
     clear H
     refine wp_seq_k (fun K14 hK14 => ?_)
     refine wp_seq_k (fun K15 hK15 => ?_)
     refine wp_region_lit ?_
     refine wpList_plain rfl (fun Ko hKo => ?_)
     go_simp
     refine hKo _ _ ?_
     clear hKo Ko
     try simp only [Act.put, nm1, nm2, nm3, i64_w]
     refine wpList_plain rfl (fun Ko hKo => ?_)
     go_simp
     refine hKo _ _ ?_
     clear hKo Ko
     try simp only [Act.put, nm1, nm2, nm3, i64_w]
     refine wpList_plain rfl (fun Ko hKo => ?_)
     go_simp
     refine hKo _ _ ?_
     clear hKo Ko
     try simp only [Act.put, nm1, nm2, nm3, i64_w]
     refine wpList_nil ?_
     (try simp only [Exit.then, Exit.inBlock, ↓reduceIte, Nat.reduceEqDiff])
     refine hK15 _ _ ?_
     refine wp_cond_true rfl ?_
     refine wp_skip ?_
     (try simp only [Exit.then, Exit.inBlock, ↓reduceIte, Nat.reduceEqDiff])
     refine hK14 _ _ ?_
     refine wp_seq_k (fun K17 hK17 => ?_)
     refine wp_block ?_
     refine wp_seq_k (fun K18 hK18 => ?_)
     refine wp_region_lit ?_
     refine wpList_plain rfl (fun Ko hKo => ?_)
     go_simp
     refine hKo _ _ ?_
     clear hKo Ko
     try simp only [Act.put, nm1, nm2, nm3, i64_w]
     refine wpList_plain rfl (fun Ko hKo => ?_)
     go_simp
     refine hKo _ _ ?_
     clear hKo Ko
     try simp only [Act.put, nm1, nm2, nm3, i64_w]
     refine wpList_plain rfl (fun Ko hKo => ?_)
     go_simp
     refine hKo _ _ ?_
     clear hKo Ko
     try simp only [Act.put, nm1, nm2, nm3, i64_w]
     refine wpList_plain rfl (fun Ko hKo => ?_)
     go_simp
     refine hKo _ _ ?_
     clear hKo Ko
     try simp only [Act.put, nm1, nm2, nm3, i64_w]
     refine wpList_plain rfl (fun Ko hKo => ?_)
     go_simp
     refine hKo _ _ ?_
     clear hKo Ko
     try simp only [Act.put, nm1, nm2, nm3, i64_w]
     refine wpList_plain rfl (fun Ko hKo => ?_)
     go_simp
     refine hKo _ _ ?_
     clear hKo Ko
     try simp only [Act.put, nm1, nm2, nm3, i64_w]
     refine wpList_nil ?_
     (try simp only [Exit.then, Exit.inBlock, ↓reduceIte, Nat.reduceEqDiff])
     refine hK18 _ _ ?_
     refine wp_cond_false rfl ?_
     refine wp_skip ?_
     (try simp only [Exit.then, Exit.inBlock, ↓reduceIte, Nat.reduceEqDiff])
     refine hK17 _ _ ?_
     refine wp_region_lit ?_
     refine wpList_plain rfl (fun Ko hKo => ?_)
     go_simp
     refine hKo _ _ ?_
     clear hKo Ko
     try simp only [Act.put, nm1, nm2, nm3, i64_w]
     refine wpList_plain rfl (fun Ko hKo => ?_)
     go_simp
     refine hKo _ _ ?_
     clear hKo Ko
     try simp only [Act.put, nm1, nm2, nm3, i64_w]
     refine wpList_plain rfl (fun Ko hKo => ?_)
     go_simp
     refine hKo _ _ ?_
     clear hKo Ko
     try simp only [Act.put, nm1, nm2, nm3, i64_w]
     refine wpList_nil ?_
     (try simp only [Exit.then, Exit.inBlock, ↓reduceIte, Nat.reduceEqDiff])
     refine hK13 _ _ ?_
     go_roundg k9
     case measure => exact Nat.lt_succ_self _
     case rel => exact ⟨wrap64 (x4 + 1), (by first | rfl | simp), HL22, ⟨by have := hk10.out; omega⟩, ⟨hu6.out⟩, ⟨(Nat.le_trans (Nat.le_refl _) hz7.out)⟩⟩
  ·
   rw [if_neg c16] at H
   replace c16 := Bool.eq_false_iff.mpr c16
   obtain rfl := Option.some.inj H
   refine wp_seq_k (fun K14 hK14 => ?_)
   refine wp_seq_k (fun K15 hK15 => ?_)
   refine wp_region_lit ?_
   refine wpList_plain rfl (fun Ko hKo => ?_)
   go_simp
   refine hKo _ _ ?_
   clear hKo Ko
   try simp only [Act.put, nm1, nm2, nm3, i64_w]
   refine wpList_plain rfl (fun Ko hKo => ?_)
   go_simp
   refine hKo _ _ ?_
   clear hKo Ko
   try simp only [Act.put, nm1, nm2, nm3, i64_w]
   refine wpList_plain rfl (fun Ko hKo => ?_)
   go_simp
   refine hKo _ _ ?_
   clear hKo Ko
   try simp only [Act.put, nm1, nm2, nm3, i64_w]
   refine wpList_nil ?_
   (try simp only [Exit.then, Exit.inBlock, ↓reduceIte, Nat.reduceEqDiff])
   refine hK15 _ _ ?_
   refine wp_cond_false rfl ?_
   refine wp_exit ?_
   (try simp only [Exit.then, Exit.inBlock, ↓reduceIte, Nat.reduceEqDiff])
   refine hK2 _ _ ?_
   refine wp_seq_k (fun K23 hK23 => ?_)
   refine wp_region_lit ?_
   refine wpList_plain rfl (fun Ko hKo => ?_)
   go_simp
   refine hKo _ _ ?_
   clear hKo Ko
   try simp only [Act.put, nm1, nm2, nm3, i64_w]
   refine wpList_nil ?_
   (try simp only [Exit.then, Exit.inBlock, ↓reduceIte, Nat.reduceEqDiff])
   refine hK23 _ _ ?_
   refine wp_ret ?_
   (try simp only [Exit.then, Exit.inBlock, ↓reduceIte, Nat.reduceEqDiff])
   refine hQf _ _ _ ?_
   exact bodyPost_ret (v := .int .i64 0) (by first | rfl | (simp [results, Try.results78, go_sem]; done) | (simp [results, Try.results78, go_sem]; rfl)) rfl ⟨rfl, hu6.out⟩

set_option maxHeartbeats 4000000 in
set_option maxRecDepth 100000 in
theorem impl_divide.calls (K : Nat) (a0 : Int) (a1 : Int) (a2 : Int) (r0 : Int) (w : World)  (h : impl_divide.f K a0 a1 a2 = some (r0)) :
    Calls Try.prog 50 #[.int .i64 a0, .int .i64 a1, .int .i64 a2] w fun e w' => e = .returned (.int .i64 r0) ∧ Up w w' := by
 have H : (((impl_inverse.f K a0 a2).bind fun t3 => ((impl_rest.f K a0 (wrap64 (a1 * t3))).bind fun t7 => some t7)) : Option (Int)) = some (r0) := h
 clear h
 replace H := Option.bind_eq_some_iff.mp H
 obtain ⟨t3, A4, H⟩ := H
 replace A4 := Aside0.mk A4
 try dsimp only at H
 replace H := Option.bind_eq_some_iff.mp H
 obtain ⟨t7, A8, H⟩ := H
 replace A8 := Aside0.mk A8
 try dsimp only at H
 obtain rfl := Option.some.inj H
 go_enter Try.func50, Try.ntmps50
 refine wp_hide (fun Qf hQf => ?_)
 refine wp_seq_k (fun K1 hK1 => ?_)
 refine wp_region_lit ?_
 refine wpList_plain rfl (fun Ko hKo => ?_)
 go_simp
 refine hKo _ _ ?_
 clear hKo Ko
 try simp only [Act.put, nm1, nm2, nm3, i64_w]
 refine wpList_nil ?_
 (try simp only [Exit.then, Exit.inBlock, ↓reduceIte, Nat.reduceEqDiff])
 refine hK1 _ _ ?_
 refine wp_seq_k (fun K2 hK2 => ?_)
 refine wp_region_lit ?_
 refine wpList_plain rfl (fun Ko hKo => ?_)
 go_simp
 refine hKo _ _ ?_
 clear hKo Ko
 try simp only [Act.put, nm1, nm2, nm3, i64_w]
 refine wpList_plain rfl (fun Ko hKo => ?_)
 go_simp
 refine hKo _ _ ?_
 clear hKo Ko
 try simp only [Act.put, nm1, nm2, nm3, i64_w]
 refine wpList_plain rfl (fun Ko hKo => ?_)
 go_simp
 refine hKo _ _ ?_
 clear hKo Ko
 try simp only [Act.put, nm1, nm2, nm3, i64_w]
 refine wpList_plain rfl (fun Ko hKo => ?_)
 go_simp
 refine hKo _ _ ?_
 clear hKo Ko
 try simp only [Act.put, nm1, nm2, nm3, i64_w]
 refine step_call (wanted_none rfl) (by first | (go_simp; done) | (go_simp; rfl)) (impl_inverse.calls K a0 a2 t3 w  A4.out) ?_
 rintro e w5 ⟨rfl, hu⟩
 have hu6 := Aside0.mk hu
 clear hu
 refine ⟨_, rfl, ?_⟩
 simp only [Act.put, nm1, nm2, nm3, i64_w]
 refine wpList_plain rfl (fun Ko hKo => ?_)
 go_simp
 refine hKo _ _ ?_
 clear hKo Ko
 try simp only [Act.put, nm1, nm2, nm3, i64_w]
 refine step_call (wanted_none rfl) (by first | (go_simp; done) | (go_simp; rfl)) (impl_rest.calls K a0 (wrap64 (a1 * t3)) t7 w5  A8.out) ?_
 rintro e w9 ⟨rfl, hu⟩
 have hu10 := Aside0.mk hu
 clear hu
 refine ⟨_, rfl, ?_⟩
 simp only [Act.put, nm1, nm2, nm3, i64_w]
 refine wpList_plain rfl (fun Ko hKo => ?_)
 go_simp
 refine hKo _ _ ?_
 clear hKo Ko
 try simp only [Act.put, nm1, nm2, nm3, i64_w]
 refine wpList_nil ?_
 (try simp only [Exit.then, Exit.inBlock, ↓reduceIte, Nat.reduceEqDiff])
 refine hK2 _ _ ?_
 refine wp_ret ?_
 (try simp only [Exit.then, Exit.inBlock, ↓reduceIte, Nat.reduceEqDiff])
 refine hQf _ _ _ ?_
 exact bodyPost_ret (v := .int .i64 t7) (by first | rfl | (simp [results, Try.results50, go_sem]; done) | (simp [results, Try.results50, go_sem]; rfl)) rfl ⟨rfl, (hu6.out.trans hu10.out)⟩

set_option maxHeartbeats 4000000 in
set_option maxRecDepth 100000 in
theorem impl_WeightsOf.calls (K : Nat) (a0 : Int) (a1_0 : Int) (a1_1 : Int) (a2_0 : Int) (a2_1 : Int) (a3_0 : Int) (a3_1 : Int) (a4_0 : Int) (a4_1 : Int) (r0 : List (Int)) (r1 : Int) (w : World)  (h : impl_WeightsOf.f K a0 a1_0 a1_1 a2_0 a2_1 a3_0 a3_1 a4_0 a4_1 = some (r0, r1)) :
    Calls Try.prog 20 #[.int .i64 a0, .agg #[.int .i64 a1_0, .int .i64 a1_1], .agg #[.int .i64 a2_0, .int .i64 a2_1], .agg #[.int .i64 a3_0, .int .i64 a3_1], .agg #[.int .i64 a4_0, .int .i64 a4_1]] w fun e w' => ∃ (Ar0 : Option Addr) (cr0 : Nat), e = .returned (.tuple #[.slice Ar0 r0.length cr0, .int .i64 r1]) ∧ Own eI 2 w' w.heap.size (.slice Ar0 r0.length cr0) r0 ∧ Up w w' := by
 have H : (((impl_asked__impl_WeightsOf_1.f K a0 a0 a1_0 a1_1 a2_0 a2_1 a3_0 a3_1 a4_0 a4_1).bind fun t19 => (if (t19 == 0) = true then ((impl_area.f K a0 a1_0 a1_1 a2_0 a2_1 a3_0 a3_1).bind fun t26 => (if (t26 == 0) = true then some ([], 5) else ((impl_area.f K a0 a4_0 a4_1 a2_0 a2_1 a3_0 a3_1).bind fun t37 => ((impl_divide.f K a0 t37 t26).bind fun t39 => ((impl_area.f K a0 a1_0 a1_1 a4_0 a4_1 a3_0 a3_1).bind fun t41 => ((impl_divide.f K a0 t41 t26).bind fun t43 => ((impl_area.f K a0 a1_0 a1_1 a2_0 a2_1 a4_0 a4_1).bind fun t45 => ((impl_divide.f K a0 t45 t26).bind fun t47 => some ([t39, t43, t47], 0))))))))) else some ([], t19))) : Option (List (Int) × Int)) = some (r0, r1) := h
 clear h
 replace H := Option.bind_eq_some_iff.mp H
 obtain ⟨t19, A20, H⟩ := H
 replace A20 := Aside0.mk A20
 try dsimp only at H
 by_cases c24 : (t19 == 0) = true
 ·
  rw [if_pos c24] at H
  have c24n : (t19 != 0) = false := by rw [bne, c24]; rfl
  replace H := Option.bind_eq_some_iff.mp H
  obtain ⟨t26, A27, H⟩ := H
  replace A27 := Aside0.mk A27
  try dsimp only at H
  by_cases c32 : (t26 == 0) = true
  ·
   rw [if_pos c32] at H
   have c32n : (t26 != 0) = false := by rw [bne, c32]; rfl
   simp only [Option.some.injEq, Prod.mk.injEq] at H
   obtain ⟨rfl, rfl⟩ := H
   go_enter Try.func20, Try.ntmps20
   refine wp_hide (fun Qf hQf => ?_)
   refine wp_seq_k (fun K1 hK1 => ?_)
   refine wp_region_lit ?_
   refine step_new (cs := [.int .i64 a0]) (T := 2) (f := fun b => .pointer (some ⟨b, 0, none⟩)) rfl (by first | (go_simp; done) | (go_simp; rfl)) ?_
   intro b2 w3 hu lb hb2
   simp only [Act.put, nm1, nm2, nm3, i64_w]
   have lbb2 := Aside0.mk lb
   have ltb2 := Aside0.mk hb2.lt
   clear lb
   have hu4 := Aside0.mk hu
   clear hu
   refine step_new (cs := [.int .i64 a1_0, .int .i64 a1_1]) (T := 25) (f := fun b => .pointer (some ⟨b, 0, none⟩)) rfl (by first | (go_simp; done) | (go_simp; rfl)) ?_
   intro b5 w6 hu lb hb5
   simp only [Act.put, nm1, nm2, nm3, i64_w]
   have lbb5 := Aside0.mk lb
   have ltb5 := Aside0.mk hb5.lt
   clear lb
   have hu7 := Aside0.mk hu
   clear hu
   refine step_new (cs := [.int .i64 a2_0, .int .i64 a2_1]) (T := 25) (f := fun b => .pointer (some ⟨b, 0, none⟩)) rfl (by first | (go_simp; done) | (go_simp; rfl)) ?_
   intro b8 w9 hu lb hb8
   simp only [Act.put, nm1, nm2, nm3, i64_w]
   have lbb8 := Aside0.mk lb
   have ltb8 := Aside0.mk hb8.lt
   clear lb
   have hu10 := Aside0.mk hu
   clear hu
   refine step_new (cs := [.int .i64 a3_0, .int .i64 a3_1]) (T := 25) (f := fun b => .pointer (some ⟨b, 0, none⟩)) rfl (by first | (go_simp; done) | (go_simp; rfl)) ?_
   intro b11 w12 hu lb hb11
   simp only [Act.put, nm1, nm2, nm3, i64_w]
   have lbb11 := Aside0.mk lb
   have ltb11 := Aside0.mk hb11.lt
   clear lb
   have hu13 := Aside0.mk hu
   clear hu
   refine step_new (cs := [.int .i64 a4_0, .int .i64 a4_1]) (T := 25) (f := fun b => .pointer (some ⟨b, 0, none⟩)) rfl (by first | (go_simp; done) | (go_simp; rfl)) ?_
   intro b14 w15 hu lb hb14
   simp only [Act.put, nm1, nm2, nm3, i64_w]
   have lbb14 := Aside0.mk lb
   have ltb14 := Aside0.mk hb14.lt
   clear lb
   have hu16 := Aside0.mk hu
   clear hu
   refine wpList_plain rfl (fun Ko hKo => ?_)
   go_simp
   refine hKo _ _ ?_
   clear hKo Ko
   try simp only [Act.put, nm1, nm2, nm3, i64_w]
   refine wpList_plain rfl (fun Ko hKo => ?_)
   go_simp
   refine hKo _ _ ?_
   clear hKo Ko
   try simp only [Act.put, nm1, nm2, nm3, i64_w]
   refine wpList_nil ?_
   (try simp only [Exit.then, Exit.inBlock, ↓reduceIte, Nat.reduceEqDiff])
   refine hK1 _ _ ?_
   refine wp_seq_k (fun K17 hK17 => ?_)
   refine wp_seq_k (fun K18 hK18 => ?_)
   refine wp_region_lit ?_
   have cl0 := (hb2.up (((hu7.out.trans hu10.out).trans hu13.out).trans hu16.out)).cell (o := 0) rfl
   refine wpList_plain rfl (fun Ko hKo => ?_)
   go_simp
   refine hKo _ _ ?_
   clear hKo Ko
   clear cl0
   try simp only [Act.put, nm1, nm2, nm3, i64_w]
   refine wpList_plain rfl (fun Ko hKo => ?_)
   go_simp
   refine hKo _ _ ?_
   clear hKo Ko
   try simp only [Act.put, nm1, nm2, nm3, i64_w]
   refine step_call (wanted_none rfl) (by first | (go_simp; done) | (go_simp; rfl)) (impl_asked__impl_WeightsOf_1.calls K a0 b2 a0 b5 a1_0 a1_1 b8 a2_0 a2_1 b11 a3_0 a3_1 b14 a4_0 a4_1 t19 w15 (hb2.up (((hu7.out.trans hu10.out).trans hu13.out).trans hu16.out)) (hb5.up ((hu10.out.trans hu13.out).trans hu16.out)) (hb8.up (hu13.out.trans hu16.out)) (hb11.up hu16.out) hb14 A20.out) ?_
   rintro e w21 ⟨rfl, hu⟩
   have hu22 := Aside0.mk hu
   clear hu
   refine ⟨_, rfl, ?_⟩
   simp only [Act.put, nm1, nm2, nm3, i64_w]
   refine wpList_plain rfl (fun Ko hKo => ?_)
   go_simp
   refine hKo _ _ ?_
   clear hKo Ko
   try simp only [Act.put, nm1, nm2, nm3, i64_w]
   refine wpList_nil ?_
   (try simp only [Exit.then, Exit.inBlock, ↓reduceIte, Nat.reduceEqDiff])
   refine hK18 _ _ ?_
   refine wp_seq_k (fun K23 hK23 => ?_)
   refine wp_region_lit ?_
   refine wpList_plain rfl (fun Ko hKo => ?_)
   go_simp
   refine hKo _ _ ?_
   clear hKo Ko
   try simp only [Act.put, nm1, nm2, nm3, i64_w]
   refine wpList_plain rfl (fun Ko hKo => ?_)
   go_simp
   refine hKo _ _ ?_
   clear hKo Ko
   try simp only [Act.put, nm1, nm2, nm3, i64_w]
   refine wpList_nil ?_
   (try simp only [Exit.then, Exit.inBlock, ↓reduceIte, Nat.reduceEqDiff])
   refine hK23 _ _ ?_
   refine wp_cond_false rfl ?_
   refine wp_skip ?_
   (try simp only [Exit.then, Exit.inBlock, ↓reduceIte, Nat.reduceEqDiff])
   refine hK17 _ _ ?_
   refine wp_seq_k (fun K25 hK25 => ?_)
   refine wp_region_lit ?_
   have cl0 := (hb2.up ((((hu7.out.trans hu10.out).trans hu13.out).trans hu16.out).trans hu22.out)).cell (o := 0) rfl
   refine wpList_plain rfl (fun Ko hKo => ?_)
   go_simp
   refine hKo _ _ ?_
   clear hKo Ko
   clear cl0
   try simp only [Act.put, nm1, nm2, nm3, i64_w]
   have cl0 := (hb5.up (((hu10.out.trans hu13.out).trans hu16.out).trans hu22.out)).cell (o := 0) rfl
   have cl1 := (hb5.up (((hu10.out.trans hu13.out).trans hu16.out).trans hu22.out)).cell (o := 1) rfl
   refine wpList_plain rfl (fun Ko hKo => ?_)
   go_simp
   refine hKo _ _ ?_
   clear hKo Ko
   clear cl0 cl1
   try simp only [Act.put, nm1, nm2, nm3, i64_w]
   have cl0 := (hb8.up ((hu13.out.trans hu16.out).trans hu22.out)).cell (o := 0) rfl
   have cl1 := (hb8.up ((hu13.out.trans hu16.out).trans hu22.out)).cell (o := 1) rfl
   refine wpList_plain rfl (fun Ko hKo => ?_)
   go_simp
   refine hKo _ _ ?_
   clear hKo Ko
   clear cl0 cl1
   try simp only [Act.put, nm1, nm2, nm3, i64_w]
   have cl0 := (hb11.up (hu16.out.trans hu22.out)).cell (o := 0) rfl
   have cl1 := (hb11.up (hu16.out.trans hu22.out)).cell (o := 1) rfl
   refine wpList_plain rfl (fun Ko hKo => ?_)
   go_simp
   refine hKo _ _ ?_
   clear hKo Ko
   clear cl0 cl1
   try simp only [Act.put, nm1, nm2, nm3, i64_w]
   refine step_call (wanted_none rfl) (by first | (go_simp; done) | (go_simp; rfl)) (impl_area.calls K a0 a1_0 a1_1 a2_0 a2_1 a3_0 a3_1 t26 w21  A27.out) ?_
   rintro e w28 ⟨rfl, hu⟩
   have hu29 := Aside0.mk hu
   clear hu
   refine ⟨_, rfl, ?_⟩
   simp only [Act.put, nm1, nm2, nm3, i64_w]
   refine wpList_plain rfl (fun Ko hKo => ?_)
   go_simp
   refine hKo _ _ ?_
   clear hKo Ko
   try simp only [Act.put, nm1, nm2, nm3, i64_w]
   refine wpList_nil ?_
   (try simp only [Exit.then, Exit.inBlock, ↓reduceIte, Nat.reduceEqDiff])
   refine hK25 _ _ ?_
   refine wp_seq_k (fun K30 hK30 => ?_)
   refine wp_seq_k (fun K31 hK31 => ?_)
   refine wp_region_lit ?_
   refine wpList_plain rfl (fun Ko hKo => ?_)
   go_simp
   refine hKo _ _ ?_
   clear hKo Ko
   try simp only [Act.put, nm1, nm2, nm3, i64_w]
   refine wpList_plain rfl (fun Ko hKo => ?_)
   go_simp
   refine hKo _ _ ?_
   clear hKo Ko
   try simp only [Act.put, nm1, nm2, nm3, i64_w]
   refine wpList_nil ?_
   (try simp only [Exit.then, Exit.inBlock, ↓reduceIte, Nat.reduceEqDiff])
   refine hK31 _ _ ?_
   refine wp_cond_true rfl ?_
   refine wp_seq_k (fun K33 hK33 => ?_)
   refine wp_region_lit ?_
   refine wpList_plain rfl (fun Ko hKo => ?_)
   go_simp
   refine hKo _ _ ?_
   clear hKo Ko
   try simp only [Act.put, nm1, nm2, nm3, i64_w]
   refine wpList_plain rfl (fun Ko hKo => ?_)
   go_simp
   refine hKo _ _ ?_
   clear hKo Ko
   try simp only [Act.put, nm1, nm2, nm3, i64_w]
   refine wpList_nil ?_
   (try simp only [Exit.then, Exit.inBlock, ↓reduceIte, Nat.reduceEqDiff])
   refine hK33 _ _ ?_
   refine wp_ret ?_
   have h35 : Own eI 2 w28 w28.heap.size (.slice none ([] : List (Int)).length 0) [] := Own.nil
   (try simp only [Exit.then, Exit.inBlock, ↓reduceIte, Nat.reduceEqDiff])
   refine hQf _ _ _ ?_
   exact bodyPost_ret (v := .tuple #[.slice none 0 0, .int .i64 5]) (by first | rfl | (simp [results, Try.results20, go_sem]; done) | (simp [results, Try.results20, go_sem]; rfl)) rfl ⟨none, 0, rfl, (h35.lower ((Nat.le_trans ((Nat.le_trans ((Nat.le_trans ((Nat.le_trans ((Nat.le_trans ((Nat.le_trans (hu4.out.size) hu7.out.size)) hu10.out.size)) hu13.out.size)) hu16.out.size)) hu22.out.size)) hu29.out.size))), ((((((hu4.out.trans hu7.out).trans hu10.out).trans hu13.out).trans hu16.out).trans hu22.out).trans hu29.out)⟩
  ·
   rw [if_neg c32] at H
   replace c32 := Bool.eq_false_iff.mpr c32
   have c32n : (t26 != 0) = true := by rw [bne, c32]; rfl
   have c32p : ¬ t26 = 0 := fun e => by simp [e] at c32
   replace H := Option.bind_eq_some_iff.mp H
   obtain ⟨t37, A38, H⟩ := H
   replace A38 := Aside0.mk A38
   try dsimp only at H
   replace H := Option.bind_eq_some_iff.mp H
   obtain ⟨t39, A40, H⟩ := H
   replace A40 := Aside0.mk A40
   try dsimp only at H
   replace H := Option.bind_eq_some_iff.mp H
   obtain ⟨t41, A42, H⟩ := H
   replace A42 := Aside0.mk A42
   try dsimp only at H
   replace H := Option.bind_eq_some_iff.mp H
   obtain ⟨t43, A44, H⟩ := H
   replace A44 := Aside0.mk A44
   try dsimp only at H
   replace H := Option.bind_eq_some_iff.mp H
   obtain ⟨t45, A46, H⟩ := H
   replace A46 := Aside0.mk A46
   try dsimp only at H
   replace H := Option.bind_eq_some_iff.mp H
   obtain ⟨t47, A48, H⟩ := H
   replace A48 := Aside0.mk A48
   try dsimp only at H
   simp only [Option.some.injEq, Prod.mk.injEq] at H
   obtain ⟨rfl, rfl⟩ := H
   go_enter Try.func20, Try.ntmps20
   refine wp_hide (fun Qf hQf => ?_)
   refine wp_seq_k (fun K1 hK1 => ?_)
   refine wp_region_lit ?_
   refine step_new (cs := [.int .i64 a0]) (T := 2) (f := fun b => .pointer (some ⟨b, 0, none⟩)) rfl (by first | (go_simp; done) | (go_simp; rfl)) ?_
   intro b2 w3 hu lb hb2
   simp only [Act.put, nm1, nm2, nm3, i64_w]
   have lbb2 := Aside0.mk lb
   have ltb2 := Aside0.mk hb2.lt
   clear lb
   have hu4 := Aside0.mk hu
   clear hu
   refine step_new (cs := [.int .i64 a1_0, .int .i64 a1_1]) (T := 25) (f := fun b => .pointer (some ⟨b, 0, none⟩)) rfl (by first | (go_simp; done) | (go_simp; rfl)) ?_
   intro b5 w6 hu lb hb5
   simp only [Act.put, nm1, nm2, nm3, i64_w]
   have lbb5 := Aside0.mk lb
   have ltb5 := Aside0.mk hb5.lt
   clear lb
   have hu7 := Aside0.mk hu
   clear hu
   refine step_new (cs := [.int .i64 a2_0, .int .i64 a2_1]) (T := 25) (f := fun b => .pointer (some ⟨b, 0, none⟩)) rfl (by first | (go_simp; done) | (go_simp; rfl)) ?_
   intro b8 w9 hu lb hb8
   simp only [Act.put, nm1, nm2, nm3, i64_w]
   have lbb8 := Aside0.mk lb
   have ltb8 := Aside0.mk hb8.lt
   clear lb
   have hu10 := Aside0.mk hu
   clear hu
   refine step_new (cs := [.int .i64 a3_0, .int .i64 a3_1]) (T := 25) (f := fun b => .pointer (some ⟨b, 0, none⟩)) rfl (by first | (go_simp; done) | (go_simp; rfl)) ?_
   intro b11 w12 hu lb hb11
   simp only [Act.put, nm1, nm2, nm3, i64_w]
   have lbb11 := Aside0.mk lb
   have ltb11 := Aside0.mk hb11.lt
   clear lb
   have hu13 := Aside0.mk hu
   clear hu
   refine step_new (cs := [.int .i64 a4_0, .int .i64 a4_1]) (T := 25) (f := fun b => .pointer (some ⟨b, 0, none⟩)) rfl (by first | (go_simp; done) | (go_simp; rfl)) ?_
   intro b14 w15 hu lb hb14
   simp only [Act.put, nm1, nm2, nm3, i64_w]
   have lbb14 := Aside0.mk lb
   have ltb14 := Aside0.mk hb14.lt
   clear lb
   have hu16 := Aside0.mk hu
   clear hu
   refine wpList_plain rfl (fun Ko hKo => ?_)
   go_simp
   refine hKo _ _ ?_
   clear hKo Ko
   try simp only [Act.put, nm1, nm2, nm3, i64_w]
   refine wpList_plain rfl (fun Ko hKo => ?_)
   go_simp
   refine hKo _ _ ?_
   clear hKo Ko
   try simp only [Act.put, nm1, nm2, nm3, i64_w]
   refine wpList_nil ?_
   (try simp only [Exit.then, Exit.inBlock, ↓reduceIte, Nat.reduceEqDiff])
   refine hK1 _ _ ?_
   refine wp_seq_k (fun K17 hK17 => ?_)
   refine wp_seq_k (fun K18 hK18 => ?_)
   refine wp_region_lit ?_
   have cl0 := (hb2.up (((hu7.out.trans hu10.out).trans hu13.out).trans hu16.out)).cell (o := 0) rfl
   refine wpList_plain rfl (fun Ko hKo => ?_)
   go_simp
   refine hKo _ _ ?_
   clear hKo Ko
   clear cl0
   try simp only [Act.put, nm1, nm2, nm3, i64_w]
   refine wpList_plain rfl (fun Ko hKo => ?_)
   go_simp
   refine hKo _ _ ?_
   clear hKo Ko
   try simp only [Act.put, nm1, nm2, nm3, i64_w]
   refine step_call (wanted_none rfl) (by first | (go_simp; done) | (go_simp; rfl)) (impl_asked__impl_WeightsOf_1.calls K a0 b2 a0 b5 a1_0 a1_1 b8 a2_0 a2_1 b11 a3_0 a3_1 b14 a4_0 a4_1 t19 w15 (hb2.up (((hu7.out.trans hu10.out).trans hu13.out).trans hu16.out)) (hb5.up ((hu10.out.trans hu13.out).trans hu16.out)) (hb8.up (hu13.out.trans hu16.out)) (hb11.up hu16.out) hb14 A20.out) ?_
   rintro e w21 ⟨rfl, hu⟩
   have hu22 := Aside0.mk hu
   clear hu
   refine ⟨_, rfl, ?_⟩
   simp only [Act.put, nm1, nm2, nm3, i64_w]
   refine wpList_plain rfl (fun Ko hKo => ?_)
   go_simp
   refine hKo _ _ ?_
   clear hKo Ko
   try simp only [Act.put, nm1, nm2, nm3, i64_w]
   refine wpList_nil ?_
   (try simp only [Exit.then, Exit.inBlock, ↓reduceIte, Nat.reduceEqDiff])
   refine hK18 _ _ ?_
   refine wp_seq_k (fun K23 hK23 => ?_)
   refine wp_region_lit ?_
   refine wpList_plain rfl (fun Ko hKo => ?_)
   go_simp
   refine hKo _ _ ?_
   clear hKo Ko
   try simp only [Act.put, nm1, nm2, nm3, i64_w]
   refine wpList_plain rfl (fun Ko hKo => ?_)
   go_simp
   refine hKo _ _ ?_
   clear hKo Ko
   try simp only [Act.put, nm1, nm2, nm3, i64_w]
   refine wpList_nil ?_
   (try simp only [Exit.then, Exit.inBlock, ↓reduceIte, Nat.reduceEqDiff])
   refine hK23 _ _ ?_
   refine wp_cond_false rfl ?_
   refine wp_skip ?_
   (try simp only [Exit.then, Exit.inBlock, ↓reduceIte, Nat.reduceEqDiff])
   refine hK17 _ _ ?_
   refine wp_seq_k (fun K25 hK25 => ?_)
   refine wp_region_lit ?_
   have cl0 := (hb2.up ((((hu7.out.trans hu10.out).trans hu13.out).trans hu16.out).trans hu22.out)).cell (o := 0) rfl
   refine wpList_plain rfl (fun Ko hKo => ?_)
   go_simp
   refine hKo _ _ ?_
   clear hKo Ko
   clear cl0
   try simp only [Act.put, nm1, nm2, nm3, i64_w]
   have cl0 := (hb5.up (((hu10.out.trans hu13.out).trans hu16.out).trans hu22.out)).cell (o := 0) rfl
   have cl1 := (hb5.up (((hu10.out.trans hu13.out).trans hu16.out).trans hu22.out)).cell (o := 1) rfl
   refine wpList_plain rfl (fun Ko hKo => ?_)
   go_simp
   refine hKo _ _ ?_
   clear hKo Ko
   clear cl0 cl1
   try simp only [Act.put, nm1, nm2, nm3, i64_w]
   have cl0 := (hb8.up ((hu13.out.trans hu16.out).trans hu22.out)).cell (o := 0) rfl
   have cl1 := (hb8.up ((hu13.out.trans hu16.out).trans hu22.out)).cell (o := 1) rfl
   refine wpList_plain rfl (fun Ko hKo => ?_)
   go_simp
   refine hKo _ _ ?_
   clear hKo Ko
   clear cl0 cl1
   try simp only [Act.put, nm1, nm2, nm3, i64_w]
   have cl0 := (hb11.up (hu16.out.trans hu22.out)).cell (o := 0) rfl
   have cl1 := (hb11.up (hu16.out.trans hu22.out)).cell (o := 1) rfl
   refine wpList_plain rfl (fun Ko hKo => ?_)
   go_simp
   refine hKo _ _ ?_
   clear hKo Ko
   clear cl0 cl1
   try simp only [Act.put, nm1, nm2, nm3, i64_w]
   refine step_call (wanted_none rfl) (by first | (go_simp; done) | (go_simp; rfl)) (impl_area.calls K a0 a1_0 a1_1 a2_0 a2_1 a3_0 a3_1 t26 w21  A27.out) ?_
   rintro e w28 ⟨rfl, hu⟩
   have hu29 := Aside0.mk hu
   clear hu
   refine ⟨_, rfl, ?_⟩
   simp only [Act.put, nm1, nm2, nm3, i64_w]
   refine wpList_plain rfl (fun Ko hKo => ?_)
   go_simp
   refine hKo _ _ ?_
   clear hKo Ko
   try simp only [Act.put, nm1, nm2, nm3, i64_w]
   refine wpList_nil ?_
   (try simp only [Exit.then, Exit.inBlock, ↓reduceIte, Nat.reduceEqDiff])
   refine hK25 _ _ ?_
   refine wp_seq_k (fun K30 hK30 => ?_)
   refine wp_seq_k (fun K31 hK31 => ?_)
   refine wp_region_lit ?_
   refine wpList_plain rfl (fun Ko hKo => ?_)
   go_simp
   refine hKo _ _ ?_
   clear hKo Ko
   try simp only [Act.put, nm1, nm2, nm3, i64_w]
   refine wpList_plain rfl (fun Ko hKo => ?_)
   go_simp
   refine hKo _ _ ?_
   clear hKo Ko
   try simp only [Act.put, nm1, nm2, nm3, i64_w]
   refine wpList_nil ?_
   (try simp only [Exit.then, Exit.inBlock, ↓reduceIte, Nat.reduceEqDiff])
   refine hK31 _ _ ?_
   refine wp_cond_false rfl ?_
   refine wp_skip ?_
   (try simp only [Exit.then, Exit.inBlock, ↓reduceIte, Nat.reduceEqDiff])
   refine hK30 _ _ ?_
   refine wp_seq_k (fun K36 hK36 => ?_)
   refine' wp_region_up 25 [Slot.det _, Slot.det _, Slot.det _, Slot.det _, Slot.det _, Slot.det (.int .i64 t37), Slot.det _, Slot.det (.int .i64 t39), Slot.det _, Slot.det _, Slot.det _, Slot.det _, Slot.det _, Slot.det (.int .i64 t41), Slot.det _, Slot.det (.int .i64 t43), Slot.det _, Slot.det _, Slot.det _, Slot.det _, Slot.det _, Slot.det (.int .i64 t45), Slot.det _, Slot.det (.int .i64 t47), Slot.any (SlTo 3 [.int .i64 t39, .int .i64 t43, .int .i64 t47] 2 w28.heap.size) false] (by kernel_rfl) (by kernel_rfl) ?main
   case main =>
    simp only [List.take_succ_cons, List.take_zero]
    refine wpK_ops rfl (fun w1 hu => ?_) ?_
    · have cl0 := ((hb2.up (((((hu7.out.trans hu10.out).trans hu13.out).trans hu16.out).trans hu22.out).trans hu29.out)).up ((Up.refl _).drew.trans hu)).cell (o := 0) rfl
      go_simp
      first | done | rfl
    simp only [Act.put, nm1, nm2, nm3, i64_w]
    refine wpK_ops rfl (fun w1 hu => ?_) ?_
    · have cl0 := ((hb2.up (((((hu7.out.trans hu10.out).trans hu13.out).trans hu16.out).trans hu22.out).trans hu29.out)).up ((Up.refl _).drew.trans hu)).cell (o := 0) rfl
      go_simp
      first | done | rfl
    simp only [Act.put, nm1, nm2, nm3, i64_w]
    refine wpK_ops rfl (fun w1 hu => ?_) ?_
    · have cl0 := ((hb14.up (hu22.out.trans hu29.out)).up ((Up.refl _).drew.trans hu)).cell (o := 0) rfl
      have cl1 := ((hb14.up (hu22.out.trans hu29.out)).up ((Up.refl _).drew.trans hu)).cell (o := 1) rfl
      go_simp
      first | done | rfl
    simp only [Act.put, nm1, nm2, nm3, i64_w]
    refine wpK_ops rfl (fun w1 hu => ?_) ?_
    · have cl0 := ((hb8.up (((hu13.out.trans hu16.out).trans hu22.out).trans hu29.out)).up ((Up.refl _).drew.trans hu)).cell (o := 0) rfl
      have cl1 := ((hb8.up (((hu13.out.trans hu16.out).trans hu22.out).trans hu29.out)).up ((Up.refl _).drew.trans hu)).cell (o := 1) rfl
      go_simp
      first | done | rfl
    simp only [Act.put, nm1, nm2, nm3, i64_w]
    refine wpK_ops rfl (fun w1 hu => ?_) ?_
    · have cl0 := ((hb11.up ((hu16.out.trans hu22.out).trans hu29.out)).up ((Up.refl _).drew.trans hu)).cell (o := 0) rfl
      have cl1 := ((hb11.up ((hu16.out.trans hu22.out).trans hu29.out)).up ((Up.refl _).drew.trans hu)).cell (o := 1) rfl
      go_simp
      first | done | rfl
    simp only [Act.put, nm1, nm2, nm3, i64_w]
    refine wpK_ops rfl (fun w1 hu => ?_) ?_
    · have hcl := (impl_area.calls K a0 a4_0 a4_1 a2_0 a2_1 a3_0 a3_1 t37 w1  A38.out)
      clear hu
      replace hcl := Aside0.mk hcl
      go_simp
      exact hcl.out
    simp only [Act.put, nm1, nm2, nm3, i64_w]
    refine wpK_ops rfl (fun w1 hu => ?_) ?_
    · clear hu
      go_simp
      first | done | rfl
    simp only [Act.put, nm1, nm2, nm3, i64_w]
    refine wpK_ops rfl (fun w1 hu => ?_) ?_
    · have hcl := (impl_divide.calls K a0 t37 t26 t39 w1  A40.out)
      clear hu
      replace hcl := Aside0.mk hcl
      go_simp
      exact hcl.out
    simp only [Act.put, nm1, nm2, nm3, i64_w]
    refine wpK_ops rfl (fun w1 hu => ?_) ?_
    · have cl0 := ((hb2.up (((((hu7.out.trans hu10.out).trans hu13.out).trans hu16.out).trans hu22.out).trans hu29.out)).up ((Up.refl _).drew.trans hu)).cell (o := 0) rfl
      go_simp
      first | done | rfl
    simp only [Act.put, nm1, nm2, nm3, i64_w]
    refine wpK_ops rfl (fun w1 hu => ?_) ?_
    · have cl0 := ((hb2.up (((((hu7.out.trans hu10.out).trans hu13.out).trans hu16.out).trans hu22.out).trans hu29.out)).up ((Up.refl _).drew.trans hu)).cell (o := 0) rfl
      go_simp
      first | done | rfl
    simp only [Act.put, nm1, nm2, nm3, i64_w]
    refine wpK_ops rfl (fun w1 hu => ?_) ?_
    · have cl0 := ((hb5.up ((((hu10.out.trans hu13.out).trans hu16.out).trans hu22.out).trans hu29.out)).up ((Up.refl _).drew.trans hu)).cell (o := 0) rfl
      have cl1 := ((hb5.up ((((hu10.out.trans hu13.out).trans hu16.out).trans hu22.out).trans hu29.out)).up ((Up.refl _).drew.trans hu)).cell (o := 1) rfl
      go_simp
      first | done | rfl
    simp only [Act.put, nm1, nm2, nm3, i64_w]
    refine wpK_ops rfl (fun w1 hu => ?_) ?_
    · have cl0 := ((hb14.up (hu22.out.trans hu29.out)).up ((Up.refl _).drew.trans hu)).cell (o := 0) rfl
      have cl1 := ((hb14.up (hu22.out.trans hu29.out)).up ((Up.refl _).drew.trans hu)).cell (o := 1) rfl
      go_simp
      first | done | rfl
    simp only [Act.put, nm1, nm2, nm3, i64_w]
    refine wpK_ops rfl (fun w1 hu => ?_) ?_
    · have cl0 := ((hb11.up ((hu16.out.trans hu22.out).trans hu29.out)).up ((Up.refl _).drew.trans hu)).cell (o := 0) rfl
      have cl1 := ((hb11.up ((hu16.out.trans hu22.out).trans hu29.out)).up ((Up.refl _).drew.trans hu)).cell (o := 1) rfl
      go_simp
      first | done | rfl
    simp only [Act.put, nm1, nm2, nm3, i64_w]
    refine wpK_ops rfl (fun w1 hu => ?_) ?_
    · have hcl := (impl_area.calls K a0 a1_0 a1_1 a4_0 a4_1 a3_0 a3_1 t41 w1  A42.out)
      clear hu
      replace hcl := Aside0.mk hcl
      go_simp
      exact hcl.out
    simp only [Act.put, nm1, nm2, nm3, i64_w]
    refine wpK_ops rfl (fun w1 hu => ?_) ?_
    · clear hu
      go_simp
      first | done | rfl
    simp only [Act.put, nm1, nm2, nm3, i64_w]
    refine wpK_ops rfl (fun w1 hu => ?_) ?_
    · have hcl := (impl_divide.calls K a0 t41 t26 t43 w1  A44.out)
      clear hu
      replace hcl := Aside0.mk hcl
      go_simp
      exact hcl.out
    simp only [Act.put, nm1, nm2, nm3, i64_w]
    refine wpK_ops rfl (fun w1 hu => ?_) ?_
    · have cl0 := ((hb2.up (((((hu7.out.trans hu10.out).trans hu13.out).trans hu16.out).trans hu22.out).trans hu29.out)).up ((Up.refl _).drew.trans hu)).cell (o := 0) rfl
      go_simp
      first | done | rfl
    simp only [Act.put, nm1, nm2, nm3, i64_w]
    refine wpK_ops rfl (fun w1 hu => ?_) ?_
    · have cl0 := ((hb2.up (((((hu7.out.trans hu10.out).trans hu13.out).trans hu16.out).trans hu22.out).trans hu29.out)).up ((Up.refl _).drew.trans hu)).cell (o := 0) rfl
      go_simp
      first | done | rfl
    simp only [Act.put, nm1, nm2, nm3, i64_w]
    refine wpK_ops rfl (fun w1 hu => ?_) ?_
    · have cl0 := ((hb5.up ((((hu10.out.trans hu13.out).trans hu16.out).trans hu22.out).trans hu29.out)).up ((Up.refl _).drew.trans hu)).cell (o := 0) rfl
      have cl1 := ((hb5.up ((((hu10.out.trans hu13.out).trans hu16.out).trans hu22.out).trans hu29.out)).up ((Up.refl _).drew.trans hu)).cell (o := 1) rfl
      go_simp
      first | done | rfl
    simp only [Act.put, nm1, nm2, nm3, i64_w]
    refine wpK_ops rfl (fun w1 hu => ?_) ?_
    · have cl0 := ((hb8.up (((hu13.out.trans hu16.out).trans hu22.out).trans hu29.out)).up ((Up.refl _).drew.trans hu)).cell (o := 0) rfl
      have cl1 := ((hb8.up (((hu13.out.trans hu16.out).trans hu22.out).trans hu29.out)).up ((Up.refl _).drew.trans hu)).cell (o := 1) rfl
      go_simp
      first | done | rfl
    simp only [Act.put, nm1, nm2, nm3, i64_w]
    refine wpK_ops rfl (fun w1 hu => ?_) ?_
    · have cl0 := ((hb14.up (hu22.out.trans hu29.out)).up ((Up.refl _).drew.trans hu)).cell (o := 0) rfl
      have cl1 := ((hb14.up (hu22.out.trans hu29.out)).up ((Up.refl _).drew.trans hu)).cell (o := 1) rfl
      go_simp
      first | done | rfl
    simp only [Act.put, nm1, nm2, nm3, i64_w]
    refine wpK_ops rfl (fun w1 hu => ?_) ?_
    · have hcl := (impl_area.calls K a0 a1_0 a1_1 a2_0 a2_1 a4_0 a4_1 t45 w1  A46.out)
      clear hu
      replace hcl := Aside0.mk hcl
      go_simp
      exact hcl.out
    simp only [Act.put, nm1, nm2, nm3, i64_w]
    refine wpK_ops rfl (fun w1 hu => ?_) ?_
    · clear hu
      go_simp
      first | done | rfl
    simp only [Act.put, nm1, nm2, nm3, i64_w]
    refine wpK_ops rfl (fun w1 hu => ?_) ?_
    · have hcl := (impl_divide.calls K a0 t45 t26 t47 w1  A48.out)
      clear hu
      replace hcl := Aside0.mk hcl
      go_simp
      exact hcl.out
    simp only [Act.put, nm1, nm2, nm3, i64_w]
    refine wpK_any rfl (stab_sl _ _ _ _) (fun w1 hu _ => fresh_sl (by first | (go_simp; done) | (go_simp; rfl)) ((Up.refl _).drew.trans hu).size) (fun v49 => ?_)
    simp only [Act.put, nm1, nm2, nm3, i64_w]
    refine wpK_nil ?_
    intro w51 hu hap
    simp only [List.drop_succ_cons, List.drop_zero]
    replace hu := (Up.refl _).drew.trans hu
    obtain ⟨-, -, ⟨b50, e0, hb50, lbb50⟩, -⟩ := hap
    replace lbb50 := Aside0.mk lbb50
    have ltb50 := Aside0.mk hb50.lt
    dsimp only at e0
    subst e0
    have hu52 := Aside0.mk hu
    clear hu
    refine wpList_plain rfl (fun Ko hKo => ?_)
    go_simp
    refine hKo _ _ ?_
    clear hKo Ko
    try simp only [Act.put, nm1, nm2, nm3, i64_w]
    refine wpList_plain rfl (fun Ko hKo => ?_)
    go_simp
    refine hKo _ _ ?_
    clear hKo Ko
    try simp only [Act.put, nm1, nm2, nm3, i64_w]
    refine wpList_nil ?_
    (try simp only [Exit.then, Exit.inBlock, ↓reduceIte, Nat.reduceEqDiff])
    refine hK36 _ _ ?_
    refine wp_ret ?_
    have h54 : Own eI 2 w51 w28.heap.size (.slice (some ⟨b50, 0, none⟩) ([t39, t43, t47].length) 3) [t39, t43, t47] := Own.of_blk hb50 lbb50.out rfl (by simp) (by simp [Enc.flat, eI])
    (try simp only [Exit.then, Exit.inBlock, ↓reduceIte, Nat.reduceEqDiff])
    refine hQf _ _ _ ?_
    exact bodyPost_ret (v := .tuple #[.slice (some ⟨b50, 0, none⟩) 3 3, .int .i64 0]) (by first | rfl | (simp [results, Try.results20, go_sem]; done) | (simp [results, Try.results20, go_sem]; rfl)) rfl ⟨some ⟨b50, 0, none⟩, 3, rfl, (h54.lower ((Nat.le_trans ((Nat.le_trans ((Nat.le_trans ((Nat.le_trans ((Nat.le_trans ((Nat.le_trans (hu4.out.size) hu7.out.size)) hu10.out.size)) hu13.out.size)) hu16.out.size)) hu22.out.size)) hu29.out.size))), (((((((hu4.out.trans hu7.out).trans hu10.out).trans hu13.out).trans hu16.out).trans hu22.out).trans hu29.out).trans hu52.out)⟩
 ·
  rw [if_neg c24] at H
  replace c24 := Bool.eq_false_iff.mpr c24
  have c24n : (t19 != 0) = true := by rw [bne, c24]; rfl
  have c24p : ¬ t19 = 0 := fun e => by simp [e] at c24
  simp only [Option.some.injEq, Prod.mk.injEq] at H
  obtain ⟨rfl, rfl⟩ := H
  go_enter Try.func20, Try.ntmps20
  refine wp_hide (fun Qf hQf => ?_)
  refine wp_seq_k (fun K1 hK1 => ?_)
  refine wp_region_lit ?_
  refine step_new (cs := [.int .i64 a0]) (T := 2) (f := fun b => .pointer (some ⟨b, 0, none⟩)) rfl (by first | (go_simp; done) | (go_simp; rfl)) ?_
  intro b2 w3 hu lb hb2
  simp only [Act.put, nm1, nm2, nm3, i64_w]
  have lbb2 := Aside0.mk lb
  have ltb2 := Aside0.mk hb2.lt
  clear lb
  have hu4 := Aside0.mk hu
  clear hu
  refine step_new (cs := [.int .i64 a1_0, .int .i64 a1_1]) (T := 25) (f := fun b => .pointer (some ⟨b, 0, none⟩)) rfl (by first | (go_simp; done) | (go_simp; rfl)) ?_
  intro b5 w6 hu lb hb5
  simp only [Act.put, nm1, nm2, nm3, i64_w]
  have lbb5 := Aside0.mk lb
  have ltb5 := Aside0.mk hb5.lt
  clear lb
  have hu7 := Aside0.mk hu
  clear hu
  refine step_new (cs := [.int .i64 a2_0, .int .i64 a2_1]) (T := 25) (f := fun b => .pointer (some ⟨b, 0, none⟩)) rfl (by first | (go_simp; done) | (go_simp; rfl)) ?_
  intro b8 w9 hu lb hb8
  simp only [Act.put, nm1, nm2, nm3, i64_w]
  have lbb8 := Aside0.mk lb
  have ltb8 := Aside0.mk hb8.lt
  clear lb
  have hu10 := Aside0.mk hu
  clear hu
  refine step_new (cs := [.int .i64 a3_0, .int .i64 a3_1]) (T := 25) (f := fun b => .pointer (some ⟨b, 0, none⟩)) rfl (by first | (go_simp; done) | (go_simp; rfl)) ?_
  intro b11 w12 hu lb hb11
  simp only [Act.put, nm1, nm2, nm3, i64_w]
  have lbb11 := Aside0.mk lb
  have ltb11 := Aside0.mk hb11.lt
  clear lb
  have hu13 := Aside0.mk hu
  clear hu
  refine step_new (cs := [.int .i64 a4_0, .int .i64 a4_1]) (T := 25) (f := fun b => .pointer (some ⟨b, 0, none⟩)) rfl (by first | (go_simp; done) | (go_simp; rfl)) ?_
  intro b14 w15 hu lb hb14
  simp only [Act.put, nm1, nm2, nm3, i64_w]
  have lbb14 := Aside0.mk lb
  have ltb14 := Aside0.mk hb14.lt
  clear lb
  have hu16 := Aside0.mk hu
  clear hu
  refine wpList_plain rfl (fun Ko hKo => ?_)
  go_simp
  refine hKo _ _ ?_
  clear hKo Ko
  try simp only [Act.put, nm1, nm2, nm3, i64_w]
  refine wpList_plain rfl (fun Ko hKo => ?_)
  go_simp
  refine hKo _ _ ?_
  clear hKo Ko
  try simp only [Act.put, nm1, nm2, nm3, i64_w]
  refine wpList_nil ?_
  (try simp only [Exit.then, Exit.inBlock, ↓reduceIte, Nat.reduceEqDiff])
  refine hK1 _ _ ?_
  refine wp_seq_k (fun K17 hK17 => ?_)
  refine wp_seq_k (fun K18 hK18 => ?_)
  refine wp_region_lit ?_
  have cl0 := (hb2.up (((hu7.out.trans hu10.out).trans hu13.out).trans hu16.out)).cell (o := 0) rfl
  refine wpList_plain rfl (fun Ko hKo => ?_)
  go_simp
  refine hKo _ _ ?_
  clear hKo Ko
  clear cl0
  try simp only [Act.put, nm1, nm2, nm3, i64_w]
  refine wpList_plain rfl (fun Ko hKo => ?_)
  go_simp
  refine hKo _ _ ?_
  clear hKo Ko
  try simp only [Act.put, nm1, nm2, nm3, i64_w]
  refine step_call (wanted_none rfl) (by first | (go_simp; done) | (go_simp; rfl)) (impl_asked__impl_WeightsOf_1.calls K a0 b2 a0 b5 a1_0 a1_1 b8 a2_0 a2_1 b11 a3_0 a3_1 b14 a4_0 a4_1 t19 w15 (hb2.up (((hu7.out.trans hu10.out).trans hu13.out).trans hu16.out)) (hb5.up ((hu10.out.trans hu13.out).trans hu16.out)) (hb8.up (hu13.out.trans hu16.out)) (hb11.up hu16.out) hb14 A20.out) ?_
  rintro e w21 ⟨rfl, hu⟩
  have hu22 := Aside0.mk hu
  clear hu
  refine ⟨_, rfl, ?_⟩
  simp only [Act.put, nm1, nm2, nm3, i64_w]
  refine wpList_plain rfl (fun Ko hKo => ?_)
  go_simp
  refine hKo _ _ ?_
  clear hKo Ko
  try simp only [Act.put, nm1, nm2, nm3, i64_w]
  refine wpList_nil ?_
  (try simp only [Exit.then, Exit.inBlock, ↓reduceIte, Nat.reduceEqDiff])
  refine hK18 _ _ ?_
  refine wp_seq_k (fun K23 hK23 => ?_)
  refine wp_region_lit ?_
  refine wpList_plain rfl (fun Ko hKo => ?_)
  go_simp
  refine hKo _ _ ?_
  clear hKo Ko
  try simp only [Act.put, nm1, nm2, nm3, i64_w]
  refine wpList_plain rfl (fun Ko hKo => ?_)
  go_simp
  refine hKo _ _ ?_
  clear hKo Ko
  try simp only [Act.put, nm1, nm2, nm3, i64_w]
  refine wpList_nil ?_
  (try simp only [Exit.then, Exit.inBlock, ↓reduceIte, Nat.reduceEqDiff])
  refine hK23 _ _ ?_
  refine wp_cond_true rfl ?_
  refine wp_seq_k (fun K55 hK55 => ?_)
  refine wp_region_lit ?_
  refine wpList_plain rfl (fun Ko hKo => ?_)
  go_simp
  refine hKo _ _ ?_
  clear hKo Ko
  try simp only [Act.put, nm1, nm2, nm3, i64_w]
  refine wpList_plain rfl (fun Ko hKo => ?_)
  go_simp
  refine hKo _ _ ?_
  clear hKo Ko
  try simp only [Act.put, nm1, nm2, nm3, i64_w]
  refine wpList_plain rfl (fun Ko hKo => ?_)
  go_simp
  refine hKo _ _ ?_
  clear hKo Ko
  try simp only [Act.put, nm1, nm2, nm3, i64_w]
  refine wpList_nil ?_
  (try simp only [Exit.then, Exit.inBlock, ↓reduceIte, Nat.reduceEqDiff])
  refine hK55 _ _ ?_
  refine wp_ret ?_
  have h57 : Own eI 2 w21 w21.heap.size (.slice none ([] : List (Int)).length 0) [] := Own.nil
  (try simp only [Exit.then, Exit.inBlock, ↓reduceIte, Nat.reduceEqDiff])
  refine hQf _ _ _ ?_
  exact bodyPost_ret (v := .tuple #[.slice none 0 0, .int .i64 t19]) (by first | rfl | (simp [results, Try.results20, go_sem]; done) | (simp [results, Try.results20, go_sem]; rfl)) rfl ⟨none, 0, rfl, (h57.lower ((Nat.le_trans ((Nat.le_trans ((Nat.le_trans ((Nat.le_trans ((Nat.le_trans (hu4.out.size) hu7.out.size)) hu10.out.size)) hu13.out.size)) hu16.out.size)) hu22.out.size))), (((((hu4.out.trans hu7.out).trans hu10.out).trans hu13.out).trans hu16.out).trans hu22.out)⟩

set_option maxHeartbeats 4000000 in
set_option maxRecDepth 100000 in
theorem laws_eqInt64S.calls (K : Nat) (a0_A : Option Addr) (a0_c : Nat) (a0 : List (Int)) (a1_A : Option Addr) (a1_c : Nat) (a1 : List (Int)) (r0 : Bool) (w : World) (ha0 : Rd eI w a0_A a0) (ha1 : Rd eI w a1_A a1) (h : laws_eqInt64S.f K a0 a1 = some (r0)) :
    Calls Try.prog 21 #[.slice a0_A a0.length a0_c, .slice a1_A a1.length a1_c] w fun e w' => e = .returned (.bool r0) ∧ Up w w' := by
 have H : ((if ((a0.length : Int) == (a1.length : Int)) = true then (laws_eqInt64S.l0 K a0 a1 K 0) else some false) : Option (Bool)) = some (r0) := h
 clear h
 by_cases c4 : ((a0.length : Int) == (a1.length : Int)) = true
 ·
  rw [if_pos c4] at H
  have c4n : ((a0.length : Int) != (a1.length : Int)) = false := by rw [bne, c4]; rfl
  go_enter Try.func21, Try.ntmps21
  refine wp_hide (fun Qf hQf => ?_)
  refine wp_seq_k (fun K1 hK1 => ?_)
  refine wp_region_lit ?_
  refine wpList_plain rfl (fun Ko hKo => ?_)
  go_simp
  refine hKo _ _ ?_
  clear hKo Ko
  try simp only [Act.put, nm1, nm2, nm3, i64_w]
  refine wpList_nil ?_
  (try simp only [Exit.then, Exit.inBlock, ↓reduceIte, Nat.reduceEqDiff])
  refine hK1 _ _ ?_
  refine wp_seq_k (fun K2 hK2 => ?_)
  refine wp_seq_k (fun K3 hK3 => ?_)
  refine wp_region_lit ?_
  refine wpList_plain rfl (fun Ko hKo => ?_)
  go_simp
  refine hKo _ _ ?_
  clear hKo Ko
  try simp only [Act.put, nm1, nm2, nm3, i64_w]
  refine wpList_plain rfl (fun Ko hKo => ?_)
  go_simp
  refine hKo _ _ ?_
  clear hKo Ko
  try simp only [Act.put, nm1, nm2, nm3, i64_w]
  refine wpList_plain rfl (fun Ko hKo => ?_)
  go_simp
  refine hKo _ _ ?_
  clear hKo Ko
  try simp only [Act.put, nm1, nm2, nm3, i64_w]
  refine wpList_plain rfl (fun Ko hKo => ?_)
  go_simp
  refine hKo _ _ ?_
  clear hKo Ko
  try simp only [Act.put, nm1, nm2, nm3, i64_w]
  refine wpList_plain rfl (fun Ko hKo => ?_)
  go_simp
  refine hKo _ _ ?_
  clear hKo Ko
  try simp only [Act.put, nm1, nm2, nm3, i64_w]
  refine wpList_nil ?_
  (try simp only [Exit.then, Exit.inBlock, ↓reduceIte, Nat.reduceEqDiff])
  refine hK3 _ _ ?_
  refine wp_cond_false rfl ?_
  refine wp_skip ?_
  (try simp only [Exit.then, Exit.inBlock, ↓reduceIte, Nat.reduceEqDiff])
  refine hK2 _ _ ?_
  refine wp_seq_k (fun K5 hK5 => ?_)
  refine wp_seq_k (fun K6 hK6 => ?_)
  refine wp_region_lit ?_
  refine wpList_plain rfl (fun Ko hKo => ?_)
  go_simp
  refine hKo _ _ ?_
  clear hKo Ko
  try simp only [Act.put, nm1, nm2, nm3, i64_w]
  refine wpList_nil ?_
  (try simp only [Exit.then, Exit.inBlock, ↓reduceIte, Nat.reduceEqDiff])
  refine hK6 _ _ ?_
  refine wp_block ?_
  have HL11 := Aside0.mk H
  clear H
  go_loopg [5] K (fun kq v5 w' => ∃ (x7 : Int), v5 = .int .i64 x7 ∧ Aside0 (laws_eqInt64S.l0 K a0 a1 kq x7 = some (r0)) ∧ Aside0 (kq ≤ K) ∧ Aside0 (Up w w') ∧ Aside0 (w.heap.size ≤ w'.heap.size))
  case atStart => exact ⟨0, (by first | rfl | simp), HL11, ⟨Nat.le_refl _⟩, ⟨(Up.refl _)⟩, ⟨Nat.le_refl _⟩⟩
  case round =>
   rename_i J15 K16 hJ15 hK16
   obtain ⟨x7, rfl, HL14, hk13, hu9, hz10⟩ := hrel
   obtain ⟨w8, rfl⟩ : ∃ wo : World, wo = wr := ⟨_, rfl⟩
   obtain ⟨k12, rfl⟩ | rfl : (∃ k, gk = k + 1) ∨ gk = 0 := by rcases gk with _ | k; exact .inr rfl; exact .inl ⟨k, rfl⟩
   case inr => exact absurd HL14.out (by simp [laws_eqInt64S.l0])
   have H := HL14.out
   clear HL14
   rw [laws_eqInt64S.l0] at H
   by_cases c19 : (decide (x7 < (a0.length : Int))) = true
   ·
    rw [if_pos c19] at H
    replace H := Option.bind_eq_some_iff.mp H
    obtain ⟨t22, A23, H⟩ := H
    replace A23 := Aside0.mk A23
    try dsimp only at H
    replace H := Option.bind_eq_some_iff.mp H
    obtain ⟨t28, A29, H⟩ := H
    replace A29 := Aside0.mk A29
    try dsimp only at H
    by_cases c36 : (t22 == t28) = true
    ·
     rw [if_pos c36] at H
     have c36n : (t22 != t28) = false := by rw [bne, c36]; rfl
     have HL37 := Aside0.mk H
     clear H
     refine wp_seq_k (fun K17 hK17 => ?_)
     refine wp_seq_k (fun K18 hK18 => ?_)
     refine wp_region_lit ?_
     refine wpList_plain rfl (fun Ko hKo => ?_)
     go_simp
     refine hKo _ _ ?_
     clear hKo Ko
     try simp only [Act.put, nm1, nm2, nm3, i64_w]
     refine wpList_plain rfl (fun Ko hKo => ?_)
     go_simp
     refine hKo _ _ ?_
     clear hKo Ko
     try simp only [Act.put, nm1, nm2, nm3, i64_w]
     refine wpList_plain rfl (fun Ko hKo => ?_)
     go_simp
     refine hKo _ _ ?_
     clear hKo Ko
     try simp only [Act.put, nm1, nm2, nm3, i64_w]
     refine wpList_plain rfl (fun Ko hKo => ?_)
     go_simp
     refine hKo _ _ ?_
     clear hKo Ko
     try simp only [Act.put, nm1, nm2, nm3, i64_w]
     refine wpList_nil ?_
     (try simp only [Exit.then, Exit.inBlock, ↓reduceIte, Nat.reduceEqDiff])
     refine hK18 _ _ ?_
     refine wp_cond_true rfl ?_
     refine wp_skip ?_
     (try simp only [Exit.then, Exit.inBlock, ↓reduceIte, Nat.reduceEqDiff])
     refine hK17 _ _ ?_
     refine wp_seq_k (fun K20 hK20 => ?_)
     refine wp_block ?_
     refine wp_seq_k (fun K21 hK21 => ?_)
     obtain ⟨ad24, hat, he⟩ := rd_at (ha0.up hu9.out) A23.out
     have he25 := Aside0.mk he
     have hat27 := Aside0.mk hat
     clear he hat
     obtain ⟨ad30, hat, he⟩ := rd_at (ha1.up hu9.out) A29.out
     have he31 := Aside0.mk he
     have hat33 := Aside0.mk hat
     clear he hat
     refine' wp_region_up 9 [Slot.det _, Slot.det _, Slot.det (.pointer (some ad24)), Slot.det _, Slot.det _, Slot.det _, Slot.det (.pointer (some ad30)), Slot.det _, Slot.det _] (by kernel_rfl) (by kernel_rfl) ?main
     case main =>
      simp only [List.take_succ_cons, List.take_zero]
      refine wpK_ops rfl (fun w1 hu => ?_) ?_
      · clear hu
        go_simp
        first | done | rfl
      simp only [Act.put, nm1, nm2, nm3, i64_w]
      refine wpK_ops rfl (fun w1 hu => ?_) ?_
      · clear hu
        go_simp
        first | done | rfl
      simp only [Act.put, nm1, nm2, nm3, i64_w]
      refine wpK_ops rfl (fun w1 hu => ?_) ?_
      · exact quiet_index eI (T := 2) rfl (by kernel_rfl) (by kernel_rfl) rfl rfl rfl hat27.out A23.out
      simp only [Act.put, nm1, nm2, nm3, i64_w]
      refine wpK_ops rfl (fun w1 hu => ?_) ?_
      · have cl0 := he25.out 0 _ rfl
        rw [addr_add0] at cl0
        replace cl0 := (((Up.refl _).drew.trans hu)).kept cl0
        go_simp
        first | done | rfl
      simp only [Act.put, nm1, nm2, nm3, i64_w]
      refine wpK_ops rfl (fun w1 hu => ?_) ?_
      · clear hu
        go_simp
        first | done | rfl
      simp only [Act.put, nm1, nm2, nm3, i64_w]
      refine wpK_ops rfl (fun w1 hu => ?_) ?_
      · clear hu
        go_simp
        first | done | rfl
      simp only [Act.put, nm1, nm2, nm3, i64_w]
      refine wpK_ops rfl (fun w1 hu => ?_) ?_
      · exact quiet_index eI (T := 2) rfl (by kernel_rfl) (by kernel_rfl) rfl rfl rfl hat33.out A29.out
      simp only [Act.put, nm1, nm2, nm3, i64_w]
      refine wpK_ops rfl (fun w1 hu => ?_) ?_
      · have cl0 := he31.out 0 _ rfl
        rw [addr_add0] at cl0
        replace cl0 := (((Up.refl _).drew.trans hu)).kept cl0
        go_simp
        first | done | rfl
      simp only [Act.put, nm1, nm2, nm3, i64_w]
      refine wpK_ops rfl (fun w1 hu => ?_) ?_
      · clear hu
        go_simp
        first | done | rfl
      simp only [Act.put, nm1, nm2, nm3, i64_w]
      refine wpK_nil ?_
      intro w34 hu hap
      simp only [List.drop_succ_cons, List.drop_zero]
      replace hu := (Up.refl _).drew.trans hu
      clear hap
      have hu35 := Aside0.mk hu
      clear hu
      refine wpList_nil ?_
      (try simp only [Exit.then, Exit.inBlock, ↓reduceIte, Nat.reduceEqDiff])
      refine hK21 _ _ ?_
      refine wp_cond_false rfl ?_
      refine wp_skip ?_
      (try simp only [Exit.then, Exit.inBlock, ↓reduceIte, Nat.reduceEqDiff])
      refine hK20 _ _ ?_
      refine wp_region_lit ?_
      refine wpList_plain rfl (fun Ko hKo => ?_)
      go_simp
      refine hKo _ _ ?_
      clear hKo Ko
      try simp only [Act.put, nm1, nm2, nm3, i64_w]
      refine wpList_plain rfl (fun Ko hKo => ?_)
      go_simp
      refine hKo _ _ ?_
      clear hKo Ko
      try simp only [Act.put, nm1, nm2, nm3, i64_w]
      refine wpList_plain rfl (fun Ko hKo => ?_)
      go_simp
      refine hKo _ _ ?_
      clear hKo Ko
      try simp only [Act.put, nm1, nm2, nm3, i64_w]
      refine wpList_nil ?_
      (try simp only [Exit.then, Exit.inBlock, ↓reduceIte, Nat.reduceEqDiff])
      refine hK16 _ _ ?_
      go_roundg k12
      case measure => exact Nat.lt_succ_self _
      case rel => exact ⟨wrap64 (x7 + 1), (by first | rfl | simp), HL37, ⟨by have := hk13.out; omega⟩, ⟨(hu9.out.trans hu35.out)⟩, ⟨(Nat.le_trans ((Nat.le_trans (Nat.le_refl _) hz10.out)) hu35.out.size)⟩⟩
    ·
     rw [if_neg c36] at H
     replace c36 := Bool.eq_false_iff.mpr c36
     have c36n : (t22 != t28) = true := by rw [bne, c36]; rfl
     have c36p : ¬ t22 = t28 := fun e => by simp [e] at c36
     obtain rfl := Option.some.inj H
     refine wp_seq_k (fun K17 hK17 => ?_)
     refine wp_seq_k (fun K18 hK18 => ?_)
     refine wp_region_lit ?_
     refine wpList_plain rfl (fun Ko hKo => ?_)
     go_simp
     refine hKo _ _ ?_
     clear hKo Ko
     try simp only [Act.put, nm1, nm2, nm3, i64_w]
     refine wpList_plain rfl (fun Ko hKo => ?_)
     go_simp
     refine hKo _ _ ?_
     clear hKo Ko
     try simp only [Act.put, nm1, nm2, nm3, i64_w]
     refine wpList_plain rfl (fun Ko hKo => ?_)
     go_simp
     refine hKo _ _ ?_
     clear hKo Ko
     try simp only [Act.put, nm1, nm2, nm3, i64_w]
     refine wpList_plain rfl (fun Ko hKo => ?_)
     go_simp
     refine hKo _ _ ?_
     clear hKo Ko
     try simp only [Act.put, nm1, nm2, nm3, i64_w]
     refine wpList_nil ?_
     (try simp only [Exit.then, Exit.inBlock, ↓reduceIte, Nat.reduceEqDiff])
     refine hK18 _ _ ?_
     refine wp_cond_true rfl ?_
     refine wp_skip ?_
     (try simp only [Exit.then, Exit.inBlock, ↓reduceIte, Nat.reduceEqDiff])
     refine hK17 _ _ ?_
     refine wp_seq_k (fun K20 hK20 => ?_)
     refine wp_block ?_
     refine wp_seq_k (fun K21 hK21 => ?_)
     obtain ⟨ad24, hat, he⟩ := rd_at (ha0.up hu9.out) A23.out
     have he25 := Aside0.mk he
     have hat27 := Aside0.mk hat
     clear he hat
     obtain ⟨ad30, hat, he⟩ := rd_at (ha1.up hu9.out) A29.out
     have he31 := Aside0.mk he
     have hat33 := Aside0.mk hat
     clear he hat
     refine' wp_region_up 9 [Slot.det _, Slot.det _, Slot.det (.pointer (some ad24)), Slot.det _, Slot.det _, Slot.det _, Slot.det (.pointer (some ad30)), Slot.det _, Slot.det _] (by kernel_rfl) (by kernel_rfl) ?main
     case main =>
      simp only [List.take_succ_cons, List.take_zero]
      refine wpK_ops rfl (fun w1 hu => ?_) ?_
      · clear hu
        go_simp
        first | done | rfl
      simp only [Act.put, nm1, nm2, nm3, i64_w]
      refine wpK_ops rfl (fun w1 hu => ?_) ?_
      · clear hu
        go_simp
        first | done | rfl
      simp only [Act.put, nm1, nm2, nm3, i64_w]
      refine wpK_ops rfl (fun w1 hu => ?_) ?_
      · exact quiet_index eI (T := 2) rfl (by kernel_rfl) (by kernel_rfl) rfl rfl rfl hat27.out A23.out
      simp only [Act.put, nm1, nm2, nm3, i64_w]
      refine wpK_ops rfl (fun w1 hu => ?_) ?_
      · have cl0 := he25.out 0 _ rfl
        rw [addr_add0] at cl0
        replace cl0 := (((Up.refl _).drew.trans hu)).kept cl0
        go_simp
        first | done | rfl
      simp only [Act.put, nm1, nm2, nm3, i64_w]
      refine wpK_ops rfl (fun w1 hu => ?_) ?_
      · clear hu
        go_simp
        first | done | rfl
      simp only [Act.put, nm1, nm2, nm3, i64_w]
      refine wpK_ops rfl (fun w1 hu => ?_) ?_
      · clear hu
        go_simp
        first | done | rfl
      simp only [Act.put, nm1, nm2, nm3, i64_w]
      refine wpK_ops rfl (fun w1 hu => ?_) ?_
      · exact quiet_index eI (T := 2) rfl (by kernel_rfl) (by kernel_rfl) rfl rfl rfl hat33.out A29.out
      simp only [Act.put, nm1, nm2, nm3, i64_w]
      refine wpK_ops rfl (fun w1 hu => ?_) ?_
      · have cl0 := he31.out 0 _ rfl
        rw [addr_add0] at cl0
        replace cl0 := (((Up.refl _).drew.trans hu)).kept cl0
        go_simp
        first | done | rfl
      simp only [Act.put, nm1, nm2, nm3, i64_w]
      refine wpK_ops rfl (fun w1 hu => ?_) ?_
      · clear hu
        go_simp
        first | done | rfl
      simp only [Act.put, nm1, nm2, nm3, i64_w]
      refine wpK_nil ?_
      intro w34 hu hap
      simp only [List.drop_succ_cons, List.drop_zero]
      replace hu := (Up.refl _).drew.trans hu
      clear hap
      have hu35 := Aside0.mk hu
      clear hu
      refine wpList_nil ?_
      (try simp only [Exit.then, Exit.inBlock, ↓reduceIte, Nat.reduceEqDiff])
      refine hK21 _ _ ?_
      refine wp_cond_true rfl ?_
      refine wp_seq_k (fun K38 hK38 => ?_)
      refine wp_region_lit ?_
      refine wpList_plain rfl (fun Ko hKo => ?_)
      go_simp
      refine hKo _ _ ?_
      clear hKo Ko
      try simp only [Act.put, nm1, nm2, nm3, i64_w]
      refine wpList_nil ?_
      (try simp only [Exit.then, Exit.inBlock, ↓reduceIte, Nat.reduceEqDiff])
      refine hK38 _ _ ?_
      refine wp_ret ?_
      (try simp only [Exit.then, Exit.inBlock, ↓reduceIte, Nat.reduceEqDiff])
      refine hQf _ _ _ ?_
      exact bodyPost_ret (v := .bool false) (by first | rfl | (simp [results, Try.results21, go_sem]; done) | (simp [results, Try.results21, go_sem]; rfl)) rfl ⟨rfl, (hu9.out.trans hu35.out)⟩
   ·
    rw [if_neg c19] at H
    replace c19 := Bool.eq_false_iff.mpr c19
    obtain rfl := Option.some.inj H
    refine wp_seq_k (fun K17 hK17 => ?_)
    refine wp_seq_k (fun K18 hK18 => ?_)
    refine wp_region_lit ?_
    refine wpList_plain rfl (fun Ko hKo => ?_)
    go_simp
    refine hKo _ _ ?_
    clear hKo Ko
    try simp only [Act.put, nm1, nm2, nm3, i64_w]
    refine wpList_plain rfl (fun Ko hKo => ?_)
    go_simp
    refine hKo _ _ ?_
    clear hKo Ko
    try simp only [Act.put, nm1, nm2, nm3, i64_w]
    refine wpList_plain rfl (fun Ko hKo => ?_)
    go_simp
    refine hKo _ _ ?_
    clear hKo Ko
    try simp only [Act.put, nm1, nm2, nm3, i64_w]
    refine wpList_plain rfl (fun Ko hKo => ?_)
    go_simp
    refine hKo _ _ ?_
    clear hKo Ko
    try simp only [Act.put, nm1, nm2, nm3, i64_w]
    refine wpList_nil ?_
    (try simp only [Exit.then, Exit.inBlock, ↓reduceIte, Nat.reduceEqDiff])
    refine hK18 _ _ ?_
    refine wp_cond_false rfl ?_
    refine wp_exit ?_
    (try simp only [Exit.then, Exit.inBlock, ↓reduceIte, Nat.reduceEqDiff])
    refine hK5 _ _ ?_
    refine wp_seq_k (fun K39 hK39 => ?_)
    refine wp_region_lit ?_
    refine wpList_plain rfl (fun Ko hKo => ?_)
    go_simp
    refine hKo _ _ ?_
    clear hKo Ko
    try simp only [Act.put, nm1, nm2, nm3, i64_w]
    refine wpList_nil ?_
    (try simp only [Exit.then, Exit.inBlock, ↓reduceIte, Nat.reduceEqDiff])
    refine hK39 _ _ ?_
    refine wp_ret ?_
    (try simp only [Exit.then, Exit.inBlock, ↓reduceIte, Nat.reduceEqDiff])
    refine hQf _ _ _ ?_
    exact bodyPost_ret (v := .bool true) (by first | rfl | (simp [results, Try.results21, go_sem]; done) | (simp [results, Try.results21, go_sem]; rfl)) rfl ⟨rfl, hu9.out⟩
 ·
  rw [if_neg c4] at H
  replace c4 := Bool.eq_false_iff.mpr c4
  have c4n : ((a0.length : Int) != (a1.length : Int)) = true := by rw [bne, c4]; rfl
  have c4p : ¬ (a0.length : Int) = (a1.length : Int) := fun e => by simp [e] at c4
  obtain rfl := Option.some.inj H
  go_enter Try.func21, Try.ntmps21
  refine wp_hide (fun Qf hQf => ?_)
  refine wp_seq_k (fun K1 hK1 => ?_)
  refine wp_region_lit ?_
  refine wpList_plain rfl (fun Ko hKo => ?_)
  go_simp
  refine hKo _ _ ?_
  clear hKo Ko
  try simp only [Act.put, nm1, nm2, nm3, i64_w]
  refine wpList_nil ?_
  (try simp only [Exit.then, Exit.inBlock, ↓reduceIte, Nat.reduceEqDiff])
  refine hK1 _ _ ?_
  refine wp_seq_k (fun K2 hK2 => ?_)
  refine wp_seq_k (fun K3 hK3 => ?_)
  refine wp_region_lit ?_
  refine wpList_plain rfl (fun Ko hKo => ?_)
  go_simp
  refine hKo _ _ ?_
  clear hKo Ko
  try simp only [Act.put, nm1, nm2, nm3, i64_w]
  refine wpList_plain rfl (fun Ko hKo => ?_)
  go_simp
  refine hKo _ _ ?_
  clear hKo Ko
  try simp only [Act.put, nm1, nm2, nm3, i64_w]
  refine wpList_plain rfl (fun Ko hKo => ?_)
  go_simp
  refine hKo _ _ ?_
  clear hKo Ko
  try simp only [Act.put, nm1, nm2, nm3, i64_w]
  refine wpList_plain rfl (fun Ko hKo => ?_)
  go_simp
  refine hKo _ _ ?_
  clear hKo Ko
  try simp only [Act.put, nm1, nm2, nm3, i64_w]
  refine wpList_plain rfl (fun Ko hKo => ?_)
  go_simp
  refine hKo _ _ ?_
  clear hKo Ko
  try simp only [Act.put, nm1, nm2, nm3, i64_w]
  refine wpList_nil ?_
  (try simp only [Exit.then, Exit.inBlock, ↓reduceIte, Nat.reduceEqDiff])
  refine hK3 _ _ ?_
  refine wp_cond_true rfl ?_
  refine wp_seq_k (fun K40 hK40 => ?_)
  refine wp_region_lit ?_
  refine wpList_plain rfl (fun Ko hKo => ?_)
  go_simp
  refine hKo _ _ ?_
  clear hKo Ko
  try simp only [Act.put, nm1, nm2, nm3, i64_w]
  refine wpList_nil ?_
  (try simp only [Exit.then, Exit.inBlock, ↓reduceIte, Nat.reduceEqDiff])
  refine hK40 _ _ ?_
  refine wp_ret ?_
  (try simp only [Exit.then, Exit.inBlock, ↓reduceIte, Nat.reduceEqDiff])
  refine hQf _ _ _ ?_
  exact bodyPost_ret (v := .bool false) (by first | rfl | (simp [results, Try.results21, go_sem]; done) | (simp [results, Try.results21, go_sem]; rfl)) rfl ⟨rfl, (Up.refl _)⟩

set_option maxHeartbeats 4000000 in
set_option maxRecDepth 100000 in
theorem laws_markInt64S.calls (K : Nat) (a0_A : Option Addr) (a0_c : Nat) (a0_B : Nat) (a0 : List (Int)) (a1 : Int) (r0 : Int) (r1 : List (Int)) (w : World) (ha0 : Own eI 2 w a0_B (.slice a0_A a0.length a0_c) a0) (h : laws_markInt64S.f K a0 a1 = some (r0, r1)) :
    Calls Try.prog 22 #[.slice a0_A a0.length a0_c, .int .i64 a1] w fun e w' => e = .returned (.int .i64 r0) ∧ Own eI 2 w' a0_B (.slice a0_A r1.length a0_c) r1 ∧ Aside0 (a0.length = r1.length) ∧ Grow (.slice a0_A a0.length a0_c) w w' := by
 have H : ((laws_markInt64S.l0 K a0 K a1 0 a0) : Option (Int × List (Int))) = some (r0, r1) := h
 clear h
 go_enter Try.func22, Try.ntmps22
 refine wp_hide (fun Qf hQf => ?_)
 refine wp_seq_k (fun K1 hK1 => ?_)
 refine wp_region_lit ?_
 refine wpList_plain rfl (fun Ko hKo => ?_)
 go_simp
 refine hKo _ _ ?_
 clear hKo Ko
 try simp only [Act.put, nm1, nm2, nm3, i64_w]
 refine wpList_nil ?_
 (try simp only [Exit.then, Exit.inBlock, ↓reduceIte, Nat.reduceEqDiff])
 refine hK1 _ _ ?_
 refine wp_seq_k (fun K2 hK2 => ?_)
 refine wp_seq_k (fun K3 hK3 => ?_)
 refine wp_region_lit ?_
 refine wpList_plain rfl (fun Ko hKo => ?_)
 go_simp
 refine hKo _ _ ?_
 clear hKo Ko
 try simp only [Act.put, nm1, nm2, nm3, i64_w]
 refine wpList_nil ?_
 (try simp only [Exit.then, Exit.inBlock, ↓reduceIte, Nat.reduceEqDiff])
 refine hK3 _ _ ?_
 refine wp_block ?_
 have HL10 := Aside0.mk H
 clear H
 go_loopg [1, 5] K (fun kq v1 v5 w' => ∃ (x4 : Int) (x5 : Int) (x6 : List (Int)), v1 = .int .i64 x4 ∧ v5 = .int .i64 x5 ∧ Aside0 (laws_markInt64S.l0 K a0 kq x4 x5 x6 = some (r0, r1)) ∧ Aside0 (kq ≤ K) ∧ Aside0 (Grow (.slice a0_A a0.length a0_c) w w') ∧ Aside0 (w.heap.size ≤ w'.heap.size) ∧ Own eI 2 w' a0_B (.slice a0_A x6.length a0_c) x6 ∧ Aside0 (a0.length = x6.length))
 case atStart => exact ⟨a1, 0, a0, (by first | rfl | simp), (by first | rfl | simp), HL10, ⟨Nat.le_refl _⟩, ⟨(Grow.refl (.slice a0_A a0.length a0_c) _)⟩, ⟨Nat.le_refl _⟩, ha0, ⟨rfl⟩⟩
 case round =>
  rename_i J16 K17 hJ16 hK17
  obtain ⟨x4, x5, x6, rfl, rfl, HL15, hk14, hu8, hz9, h11, hl12⟩ := hrel
  obtain ⟨w7, rfl⟩ : ∃ wo : World, wo = wr := ⟨_, rfl⟩
  obtain ⟨k13, rfl⟩ | rfl : (∃ k, gk = k + 1) ∨ gk = 0 := by rcases gk with _ | k; exact .inr rfl; exact .inl ⟨k, rfl⟩
  case inr => exact absurd HL15.out (by simp [laws_markInt64S.l0])
  have H := HL15.out
  clear HL15
  rw [laws_markInt64S.l0] at H
  by_cases c20 : (decide (x5 < (a0.length : Int))) = true
  ·
   rw [if_pos c20] at H
   replace H := Option.bind_eq_some_iff.mp H
   obtain ⟨t23, A24, H⟩ := H
   replace A24 := Aside0.mk A24
   try dsimp only at H
   have HL34 := Aside0.mk H
   clear H
   refine wp_seq_k (fun K18 hK18 => ?_)
   refine wp_seq_k (fun K19 hK19 => ?_)
   refine wp_region_lit ?_
   refine wpList_plain rfl (fun Ko hKo => ?_)
   go_simp
   refine hKo _ _ ?_
   clear hKo Ko
   try simp only [Act.put, nm1, nm2, nm3, i64_w]
   refine wpList_plain rfl (fun Ko hKo => ?_)
   go_simp
   refine hKo _ _ ?_
   clear hKo Ko
   try simp only [Act.put, nm1, nm2, nm3, i64_w]
   refine wpList_plain rfl (fun Ko hKo => ?_)
   go_simp
   refine hKo _ _ ?_
   clear hKo Ko
   try simp only [Act.put, nm1, nm2, nm3, i64_w]
   refine wpList_plain rfl (fun Ko hKo => ?_)
   go_simp
   refine hKo _ _ ?_
   clear hKo Ko
   try simp only [Act.put, nm1, nm2, nm3, i64_w]
   refine wpList_nil ?_
   (try simp only [Exit.then, Exit.inBlock, ↓reduceIte, Nat.reduceEqDiff])
   refine hK19 _ _ ?_
   refine wp_cond_true rfl ?_
   refine wp_skip ?_
   (try simp only [Exit.then, Exit.inBlock, ↓reduceIte, Nat.reduceEqDiff])
   refine hK18 _ _ ?_
   refine wp_seq_k (fun K21 hK21 => ?_)
   refine wp_block ?_
   refine wp_seq_k (fun K22 hK22 => ?_)
   refine wp_region_lit ?_
   refine wpList_plain rfl (fun Ko hKo => ?_)
   go_simp
   refine hKo _ _ ?_
   clear hKo Ko
   try simp only [Act.put, nm1, nm2, nm3, i64_w]
   refine wpList_plain rfl (fun Ko hKo => ?_)
   go_simp
   refine hKo _ _ ?_
   clear hKo Ko
   try simp only [Act.put, nm1, nm2, nm3, i64_w]
   refine wpList_plain rfl (fun Ko hKo => ?_)
   go_simp
   refine hKo _ _ ?_
   clear hKo Ko
   try simp only [Act.put, nm1, nm2, nm3, i64_w]
   refine step_index eI (T := 2) (wanted_none rfl) rfl (by kernel_rfl) (by kernel_rfl) rfl hl12.out rfl h11.rd A24.out ?_
   intro ad25 hat he
   have he26 := Aside0.mk he
   have hat27 := Aside0.mk hat
   clear he hat
   simp only [Act.put, nm1, nm2, nm3, i64_w]
   have hO0 := Aside0.mk h11
   have lb32 := Aside0.mk hO0.out.lt
   refine step_put eI (T := 2) (u := .int .i64 x4) (old := t23) (new := x4) 0 rfl rfl rfl hat27.out (addr_add0 _).symm rfl rfl (by kernel_rfl) (by simp [Value.cells, Value.oneCell']) (Nat.le_of_ble_eq_true rfl) rfl hO0.out A24.out ?_
   intro w28 h30 hg
   have hg31 := Aside0.mk hg
   clear hO0 hg
   try simp only [Act.put, nm1, nm2, nm3, i64_w]
   have hl33 : Aside0 (a0.length = (x6.set (x5).toNat x4).length) := Aside0.mk (hl12.out.trans (List.length_set ..).symm)
   refine wpList_nil ?_
   (try simp only [Exit.then, Exit.inBlock, ↓reduceIte, Nat.reduceEqDiff])
   refine hK22 _ _ ?_
   refine wp_region_lit ?_
   refine wpList_plain rfl (fun Ko hKo => ?_)
   go_simp
   refine hKo _ _ ?_
   clear hKo Ko
   try simp only [Act.put, nm1, nm2, nm3, i64_w]
   refine wpList_plain rfl (fun Ko hKo => ?_)
   go_simp
   refine hKo _ _ ?_
   clear hKo Ko
   try simp only [Act.put, nm1, nm2, nm3, i64_w]
   refine wpList_plain rfl (fun Ko hKo => ?_)
   go_simp
   refine hKo _ _ ?_
   clear hKo Ko
   try simp only [Act.put, nm1, nm2, nm3, i64_w]
   refine wpList_nil ?_
   (try simp only [Exit.then, Exit.inBlock, ↓reduceIte, Nat.reduceEqDiff])
   refine hK21 _ _ ?_
   refine wp_region_lit ?_
   refine wpList_plain rfl (fun Ko hKo => ?_)
   go_simp
   refine hKo _ _ ?_
   clear hKo Ko
   try simp only [Act.put, nm1, nm2, nm3, i64_w]
   refine wpList_plain rfl (fun Ko hKo => ?_)
   go_simp
   refine hKo _ _ ?_
   clear hKo Ko
   try simp only [Act.put, nm1, nm2, nm3, i64_w]
   refine wpList_plain rfl (fun Ko hKo => ?_)
   go_simp
   refine hKo _ _ ?_
   clear hKo Ko
   try simp only [Act.put, nm1, nm2, nm3, i64_w]
   refine wpList_nil ?_
   (try simp only [Exit.then, Exit.inBlock, ↓reduceIte, Nat.reduceEqDiff])
   refine hK17 _ _ ?_
   go_roundg k13
   case measure => exact Nat.lt_succ_self _
   case rel => exact ⟨wrap64 (x4 + 1), wrap64 (x5 + 1), (x6.set (x5).toNat x4), (by first | rfl | simp), (by first | rfl | simp), HL34, ⟨by have := hk14.out; omega⟩, ⟨(hu8.out.trans (Grow.same hg31.out))⟩, ⟨(Nat.le_trans ((Nat.le_trans (Nat.le_refl _) hz9.out)) hg31.out.size)⟩, h30, ⟨hl33.out⟩⟩
  ·
   rw [if_neg c20] at H
   replace c20 := Bool.eq_false_iff.mpr c20
   simp only [Option.some.injEq, Prod.mk.injEq] at H
   obtain ⟨rfl, rfl⟩ := H
   refine wp_seq_k (fun K18 hK18 => ?_)
   refine wp_seq_k (fun K19 hK19 => ?_)
   refine wp_region_lit ?_
   refine wpList_plain rfl (fun Ko hKo => ?_)
   go_simp
   refine hKo _ _ ?_
   clear hKo Ko
   try simp only [Act.put, nm1, nm2, nm3, i64_w]
   refine wpList_plain rfl (fun Ko hKo => ?_)
   go_simp
   refine hKo _ _ ?_
   clear hKo Ko
   try simp only [Act.put, nm1, nm2, nm3, i64_w]
   refine wpList_plain rfl (fun Ko hKo => ?_)
   go_simp
   refine hKo _ _ ?_
   clear hKo Ko
   try simp only [Act.put, nm1, nm2, nm3, i64_w]
   refine wpList_plain rfl (fun Ko hKo => ?_)
   go_simp
   refine hKo _ _ ?_
   clear hKo Ko
   try simp only [Act.put, nm1, nm2, nm3, i64_w]
   refine wpList_nil ?_
   (try simp only [Exit.then, Exit.inBlock, ↓reduceIte, Nat.reduceEqDiff])
   refine hK19 _ _ ?_
   refine wp_cond_false rfl ?_
   refine wp_exit ?_
   (try simp only [Exit.then, Exit.inBlock, ↓reduceIte, Nat.reduceEqDiff])
   refine hK2 _ _ ?_
   refine wp_seq_k (fun K35 hK35 => ?_)
   refine wp_region_lit ?_
   refine wpList_plain rfl (fun Ko hKo => ?_)
   go_simp
   refine hKo _ _ ?_
   clear hKo Ko
   try simp only [Act.put, nm1, nm2, nm3, i64_w]
   refine wpList_plain rfl (fun Ko hKo => ?_)
   go_simp
   refine hKo _ _ ?_
   clear hKo Ko
   try simp only [Act.put, nm1, nm2, nm3, i64_w]
   refine wpList_nil ?_
   (try simp only [Exit.then, Exit.inBlock, ↓reduceIte, Nat.reduceEqDiff])
   refine hK35 _ _ ?_
   refine wp_ret ?_
   (try simp only [Exit.then, Exit.inBlock, ↓reduceIte, Nat.reduceEqDiff])
   refine hQf _ _ _ ?_
   exact bodyPost_ret (v := .int .i64 x4) (by first | rfl | (simp [results, Try.results22, go_sem]; done) | (simp [results, Try.results22, go_sem]; rfl)) rfl ⟨rfl, h11, ⟨hl12.out⟩, hu8.out⟩

set_option maxHeartbeats 4000000 in
set_option maxRecDepth 100000 in
theorem laws_heldInt64S.calls (K : Nat) (a0_A : Option Addr) (a0_c : Nat) (a0 : List (Int)) (a1 : Int) (r0 : Int) (w : World) (ha0 : Rd eI w a0_A a0) (h : laws_heldInt64S.f K a0 a1 = some (r0)) :
    Calls Try.prog 23 #[.slice a0_A a0.length a0_c, .int .i64 a1] w fun e w' => e = .returned (.int .i64 r0) ∧ Up w w' := by
 have H : ((laws_heldInt64S.l0 K a0 K a1 0) : Option (Int)) = some (r0) := h
 clear h
 go_enter Try.func23, Try.ntmps23
 refine wp_hide (fun Qf hQf => ?_)
 refine wp_seq_k (fun K1 hK1 => ?_)
 refine wp_region_lit ?_
 refine wpList_plain rfl (fun Ko hKo => ?_)
 go_simp
 refine hKo _ _ ?_
 clear hKo Ko
 try simp only [Act.put, nm1, nm2, nm3, i64_w]
 refine wpList_nil ?_
 (try simp only [Exit.then, Exit.inBlock, ↓reduceIte, Nat.reduceEqDiff])
 refine hK1 _ _ ?_
 refine wp_seq_k (fun K2 hK2 => ?_)
 refine wp_seq_k (fun K3 hK3 => ?_)
 refine wp_region_lit ?_
 refine wpList_plain rfl (fun Ko hKo => ?_)
 go_simp
 refine hKo _ _ ?_
 clear hKo Ko
 try simp only [Act.put, nm1, nm2, nm3, i64_w]
 refine wpList_nil ?_
 (try simp only [Exit.then, Exit.inBlock, ↓reduceIte, Nat.reduceEqDiff])
 refine hK3 _ _ ?_
 refine wp_block ?_
 have HL9 := Aside0.mk H
 clear H
 go_loopg [1, 5] K (fun kq v1 v5 w' => ∃ (x4 : Int) (x5 : Int), v1 = .int .i64 x4 ∧ v5 = .int .i64 x5 ∧ Aside0 (laws_heldInt64S.l0 K a0 kq x4 x5 = some (r0)) ∧ Aside0 (kq ≤ K) ∧ Aside0 (Up w w') ∧ Aside0 (w.heap.size ≤ w'.heap.size))
 case atStart => exact ⟨a1, 0, (by first | rfl | simp), (by first | rfl | simp), HL9, ⟨Nat.le_refl _⟩, ⟨(Up.refl _)⟩, ⟨Nat.le_refl _⟩⟩
 case round =>
  rename_i J13 K14 hJ13 hK14
  obtain ⟨x4, x5, rfl, rfl, HL12, hk11, hu7, hz8⟩ := hrel
  obtain ⟨w6, rfl⟩ : ∃ wo : World, wo = wr := ⟨_, rfl⟩
  obtain ⟨k10, rfl⟩ | rfl : (∃ k, gk = k + 1) ∨ gk = 0 := by rcases gk with _ | k; exact .inr rfl; exact .inl ⟨k, rfl⟩
  case inr => exact absurd HL12.out (by simp [laws_heldInt64S.l0])
  have H := HL12.out
  clear HL12
  rw [laws_heldInt64S.l0] at H
  by_cases c17 : (decide (x5 < (a0.length : Int))) = true
  ·
   rw [if_pos c17] at H
   replace H := Option.bind_eq_some_iff.mp H
   obtain ⟨t21, A22, H⟩ := H
   replace A22 := Aside0.mk A22
   try dsimp only at H
   by_cases c26 : (t21 == x4) = true
   ·
    rw [if_pos c26] at H
    have c26n : (t21 != x4) = false := by rw [bne, c26]; rfl
    have HL27 := Aside0.mk H
    clear H
    refine wp_seq_k (fun K15 hK15 => ?_)
    refine wp_seq_k (fun K16 hK16 => ?_)
    refine wp_region_lit ?_
    refine wpList_plain rfl (fun Ko hKo => ?_)
    go_simp
    refine hKo _ _ ?_
    clear hKo Ko
    try simp only [Act.put, nm1, nm2, nm3, i64_w]
    refine wpList_plain rfl (fun Ko hKo => ?_)
    go_simp
    refine hKo _ _ ?_
    clear hKo Ko
    try simp only [Act.put, nm1, nm2, nm3, i64_w]
    refine wpList_plain rfl (fun Ko hKo => ?_)
    go_simp
    refine hKo _ _ ?_
    clear hKo Ko
    try simp only [Act.put, nm1, nm2, nm3, i64_w]
    refine wpList_plain rfl (fun Ko hKo => ?_)
    go_simp
    refine hKo _ _ ?_
    clear hKo Ko
    try simp only [Act.put, nm1, nm2, nm3, i64_w]
    refine wpList_nil ?_
    (try simp only [Exit.then, Exit.inBlock, ↓reduceIte, Nat.reduceEqDiff])
    refine hK16 _ _ ?_
    refine wp_cond_true rfl ?_
    refine wp_skip ?_
    (try simp only [Exit.then, Exit.inBlock, ↓reduceIte, Nat.reduceEqDiff])
    refine hK15 _ _ ?_
    refine wp_seq_k (fun K18 hK18 => ?_)
    refine wp_block ?_
    refine wp_seq_k (fun K19 hK19 => ?_)
    refine wp_seq_k (fun K20 hK20 => ?_)
    refine wp_region_lit ?_
    refine wpList_plain rfl (fun Ko hKo => ?_)
    go_simp
    refine hKo _ _ ?_
    clear hKo Ko
    try simp only [Act.put, nm1, nm2, nm3, i64_w]
    refine wpList_plain rfl (fun Ko hKo => ?_)
    go_simp
    refine hKo _ _ ?_
    clear hKo Ko
    try simp only [Act.put, nm1, nm2, nm3, i64_w]
    refine step_index eI (T := 2) (wanted_none rfl) rfl (by kernel_rfl) (by kernel_rfl) rfl rfl rfl (ha0.up hu7.out) A22.out ?_
    intro ad23 hat he
    have he24 := Aside0.mk he
    have hat25 := Aside0.mk hat
    clear he hat
    simp only [Act.put, nm1, nm2, nm3, i64_w]
    have cl0 := he24.out 0 _ rfl
    rw [addr_add0] at cl0
    refine wpList_plain rfl (fun Ko hKo => ?_)
    go_simp
    refine hKo _ _ ?_
    clear hKo Ko
    clear cl0
    try simp only [Act.put, nm1, nm2, nm3, i64_w]
    refine wpList_plain rfl (fun Ko hKo => ?_)
    go_simp
    refine hKo _ _ ?_
    clear hKo Ko
    try simp only [Act.put, nm1, nm2, nm3, i64_w]
    refine wpList_plain rfl (fun Ko hKo => ?_)
    go_simp
    refine hKo _ _ ?_
    clear hKo Ko
    try simp only [Act.put, nm1, nm2, nm3, i64_w]
    refine wpList_nil ?_
    (try simp only [Exit.then, Exit.inBlock, ↓reduceIte, Nat.reduceEqDiff])
    refine hK20 _ _ ?_
    refine wp_cond_false rfl ?_
    refine wp_skip ?_
    (try simp only [Exit.then, Exit.inBlock, ↓reduceIte, Nat.reduceEqDiff])
    refine hK19 _ _ ?_
    refine wp_region_lit ?_
    refine wpList_plain rfl (fun Ko hKo => ?_)
    go_simp
    refine hKo _ _ ?_
    clear hKo Ko
    try simp only [Act.put, nm1, nm2, nm3, i64_w]
    refine wpList_plain rfl (fun Ko hKo => ?_)
    go_simp
    refine hKo _ _ ?_
    clear hKo Ko
    try simp only [Act.put, nm1, nm2, nm3, i64_w]
    refine wpList_plain rfl (fun Ko hKo => ?_)
    go_simp
    refine hKo _ _ ?_
    clear hKo Ko
    try simp only [Act.put, nm1, nm2, nm3, i64_w]
    refine wpList_nil ?_
    (try simp only [Exit.then, Exit.inBlock, ↓reduceIte, Nat.reduceEqDiff])
    refine hK18 _ _ ?_
    refine wp_region_lit ?_
    refine wpList_plain rfl (fun Ko hKo => ?_)
    go_simp
    refine hKo _ _ ?_
    clear hKo Ko
    try simp only [Act.put, nm1, nm2, nm3, i64_w]
    refine wpList_plain rfl (fun Ko hKo => ?_)
    go_simp
    refine hKo _ _ ?_
    clear hKo Ko
    try simp only [Act.put, nm1, nm2, nm3, i64_w]
    refine wpList_plain rfl (fun Ko hKo => ?_)
    go_simp
    refine hKo _ _ ?_
    clear hKo Ko
    try simp only [Act.put, nm1, nm2, nm3, i64_w]
    refine wpList_nil ?_
    (try simp only [Exit.then, Exit.inBlock, ↓reduceIte, Nat.reduceEqDiff])
    refine hK14 _ _ ?_
    go_roundg k10
    case measure => exact Nat.lt_succ_self _
    case rel => exact ⟨wrap64 (x4 + 1), wrap64 (x5 + 1), (by first | rfl | simp), (by first | rfl | simp), HL27, ⟨by have := hk11.out; omega⟩, ⟨hu7.out⟩, ⟨(Nat.le_trans (Nat.le_refl _) hz8.out)⟩⟩
   ·
    rw [if_neg c26] at H
    replace c26 := Bool.eq_false_iff.mpr c26
    have c26n : (t21 != x4) = true := by rw [bne, c26]; rfl
    have c26p : ¬ t21 = x4 := fun e => by simp [e] at c26
    obtain rfl := Option.some.inj H
    refine wp_seq_k (fun K15 hK15 => ?_)
    refine wp_seq_k (fun K16 hK16 => ?_)
    refine wp_region_lit ?_
    refine wpList_plain rfl (fun Ko hKo => ?_)
    go_simp
    refine hKo _ _ ?_
    clear hKo Ko
    try simp only [Act.put, nm1, nm2, nm3, i64_w]
    refine wpList_plain rfl (fun Ko hKo => ?_)
    go_simp
    refine hKo _ _ ?_
    clear hKo Ko
    try simp only [Act.put, nm1, nm2, nm3, i64_w]
    refine wpList_plain rfl (fun Ko hKo => ?_)
    go_simp
    refine hKo _ _ ?_
    clear hKo Ko
    try simp only [Act.put, nm1, nm2, nm3, i64_w]
    refine wpList_plain rfl (fun Ko hKo => ?_)
    go_simp
    refine hKo _ _ ?_
    clear hKo Ko
    try simp only [Act.put, nm1, nm2, nm3, i64_w]
    refine wpList_nil ?_
    (try simp only [Exit.then, Exit.inBlock, ↓reduceIte, Nat.reduceEqDiff])
    refine hK16 _ _ ?_
    refine wp_cond_true rfl ?_
    refine wp_skip ?_
    (try simp only [Exit.then, Exit.inBlock, ↓reduceIte, Nat.reduceEqDiff])
    refine hK15 _ _ ?_
    refine wp_seq_k (fun K18 hK18 => ?_)
    refine wp_block ?_
    refine wp_seq_k (fun K19 hK19 => ?_)
    refine wp_seq_k (fun K20 hK20 => ?_)
    refine wp_region_lit ?_
    refine wpList_plain rfl (fun Ko hKo => ?_)
    go_simp
    refine hKo _ _ ?_
    clear hKo Ko
    try simp only [Act.put, nm1, nm2, nm3, i64_w]
    refine wpList_plain rfl (fun Ko hKo => ?_)
    go_simp
    refine hKo _ _ ?_
    clear hKo Ko
    try simp only [Act.put, nm1, nm2, nm3, i64_w]
    refine step_index eI (T := 2) (wanted_none rfl) rfl (by kernel_rfl) (by kernel_rfl) rfl rfl rfl (ha0.up hu7.out) A22.out ?_
    intro ad23 hat he
    have he24 := Aside0.mk he
    have hat25 := Aside0.mk hat
    clear he hat
    simp only [Act.put, nm1, nm2, nm3, i64_w]
    have cl0 := he24.out 0 _ rfl
    rw [addr_add0] at cl0
    refine wpList_plain rfl (fun Ko hKo => ?_)
    go_simp
    refine hKo _ _ ?_
    clear hKo Ko
    clear cl0
    try simp only [Act.put, nm1, nm2, nm3, i64_w]
    refine wpList_plain rfl (fun Ko hKo => ?_)
    go_simp
    refine hKo _ _ ?_
    clear hKo Ko
    try simp only [Act.put, nm1, nm2, nm3, i64_w]
    refine wpList_plain rfl (fun Ko hKo => ?_)
    go_simp
    refine hKo _ _ ?_
    clear hKo Ko
    try simp only [Act.put, nm1, nm2, nm3, i64_w]
    refine wpList_nil ?_
    (try simp only [Exit.then, Exit.inBlock, ↓reduceIte, Nat.reduceEqDiff])
    refine hK20 _ _ ?_
    refine wp_cond_true rfl ?_
    refine wp_seq_k (fun K28 hK28 => ?_)
    refine wp_region_lit ?_
    refine wpList_plain rfl (fun Ko hKo => ?_)
    go_simp
    refine hKo _ _ ?_
    clear hKo Ko
    try simp only [Act.put, nm1, nm2, nm3, i64_w]
    refine wpList_nil ?_
    (try simp only [Exit.then, Exit.inBlock, ↓reduceIte, Nat.reduceEqDiff])
    refine hK28 _ _ ?_
    refine wp_ret ?_
    (try simp only [Exit.then, Exit.inBlock, ↓reduceIte, Nat.reduceEqDiff])
    refine hQf _ _ _ ?_
    exact bodyPost_ret (v := .int .i64 (-1)) (by first | rfl | (simp [results, Try.results23, go_sem]; done) | (simp [results, Try.results23, go_sem]; rfl)) rfl ⟨rfl, hu7.out⟩
  ·
   rw [if_neg c17] at H
   replace c17 := Bool.eq_false_iff.mpr c17
   obtain rfl := Option.some.inj H
   refine wp_seq_k (fun K15 hK15 => ?_)
   refine wp_seq_k (fun K16 hK16 => ?_)
   refine wp_region_lit ?_
   refine wpList_plain rfl (fun Ko hKo => ?_)
   go_simp
   refine hKo _ _ ?_
   clear hKo Ko
   try simp only [Act.put, nm1, nm2, nm3, i64_w]
   refine wpList_plain rfl (fun Ko hKo => ?_)
   go_simp
   refine hKo _ _ ?_
   clear hKo Ko
   try simp only [Act.put, nm1, nm2, nm3, i64_w]
   refine wpList_plain rfl (fun Ko hKo => ?_)
   go_simp
   refine hKo _ _ ?_
   clear hKo Ko
   try simp only [Act.put, nm1, nm2, nm3, i64_w]
   refine wpList_plain rfl (fun Ko hKo => ?_)
   go_simp
   refine hKo _ _ ?_
   clear hKo Ko
   try simp only [Act.put, nm1, nm2, nm3, i64_w]
   refine wpList_nil ?_
   (try simp only [Exit.then, Exit.inBlock, ↓reduceIte, Nat.reduceEqDiff])
   refine hK16 _ _ ?_
   refine wp_cond_false rfl ?_
   refine wp_exit ?_
   (try simp only [Exit.then, Exit.inBlock, ↓reduceIte, Nat.reduceEqDiff])
   refine hK2 _ _ ?_
   refine wp_seq_k (fun K29 hK29 => ?_)
   refine wp_region_lit ?_
   refine wpList_plain rfl (fun Ko hKo => ?_)
   go_simp
   refine hKo _ _ ?_
   clear hKo Ko
   try simp only [Act.put, nm1, nm2, nm3, i64_w]
   refine wpList_plain rfl (fun Ko hKo => ?_)
   go_simp
   refine hKo _ _ ?_
   clear hKo Ko
   try simp only [Act.put, nm1, nm2, nm3, i64_w]
   refine wpList_nil ?_
   (try simp only [Exit.then, Exit.inBlock, ↓reduceIte, Nat.reduceEqDiff])
   refine hK29 _ _ ?_
   refine wp_ret ?_
   (try simp only [Exit.then, Exit.inBlock, ↓reduceIte, Nat.reduceEqDiff])
   refine hQf _ _ _ ?_
   exact bodyPost_ret (v := .int .i64 x4) (by first | rfl | (simp [results, Try.results23, go_sem]; done) | (simp [results, Try.results23, go_sem]; rfl)) rfl ⟨rfl, hu7.out⟩

end Go.Proofs.Ytohpnbfgemngmaa
